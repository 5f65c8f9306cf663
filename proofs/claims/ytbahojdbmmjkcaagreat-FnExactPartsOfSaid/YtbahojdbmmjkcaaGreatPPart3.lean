import Derived.Test.YtbahojdbmmjkcaaGreatPPart2
set_option linter.unusedVariables false
set_option linter.unusedSimpArgs false
namespace Go.Proofs.YtbahojdbmmjkcaaGreat
open Go Go.RowKit
variable {b j k:Nat} {l:List Pc} {m:Int} {w:World} {x:Option Addr×Nat}
set_option maxRecDepth 100000
set_option maxHeartbeats 4000000
theorem Ng {r:Res} (h:r.P w) :∃X:List Nat,∀b,b∈X↔r.F b:=by
 classical
 refine⟨(List.range w.heap.size).filter (fun b=>decide (r.F b)),fun b=> ?_⟩
 rw [jh2,jh9,decide_eq_true_iff]
 exact⟨fun k=>k.2,fun k=>⟨r.low w h b k,k⟩⟩
def yn (l:List Pc) (j:Nat) :Pc:=l.getD j ⟨[],none,0,0,0⟩
theorem Lc (h:j<l.length) :l[j]? =some (yn l j) :=by simp [yn,List.getD,h]
def Fj (m:Int) (rs:List jK) (e:Pc) (j:Nat) :Pc:=⟨Wl (m+2* (qD rs j:Nat)) e.xs.length,e.A,e.c,e.lo,e.hi⟩
def Wh (m:Int) (l:List Pc) (k:Nat) :List Pc:= (List.range l.length).map fun j=>if j<k then Fj m (l.map (·.xs)) (yn l j) j else yn l j
theorem vy (m:Int) (l:List Pc) (k:Nat) : (Wh m l k).length=l.length:=by simp [Wh]
theorem W0 (h:j<l.length) : (Wh m l k)[j]? =some (if j<k then Fj m (l.map (·.xs)) (yn l j) j else yn l j) :=by simp [Wh,h]
theorem Cv (m:Int) (l:List Pc) :Wh m l 0=l:=by
 refine List.ext_getElem? fun j=> ?_
 rcases jhj j l.length with h | h
 ·rw [W0 h,if_neg Om,Lc h]
 ·rw [List.getElem?_eq_none (by rw [vy];exact h),List.getElem?_eq_none h]
theorem Cu (h:k<l.length) :Wh m l (k+1) = (Wh m l k).set k (Fj m (l.map (·.xs)) (yn l k) k) :=by
 refine List.ext_getElem? fun j=> ?_
 rw [List.getElem?_set]
 rcases jhj j l.length with hj | hj
 ·rw [W0 hj,W0 hj]
  by_cases e:k=j
  ·subst e;rw [if_pos Om,if_pos rfl,if_pos (by rw [vy];exact h)]
  ·rw [if_neg e]
   by_cases c:j<k
   ·rw [if_pos c,if_pos Om]
   ·rw [if_neg c,if_neg Om]
 ·rw [List.getElem?_eq_none (by rw [vy];exact hj),if_neg Om,List.getElem?_eq_none (by rw [vy];exact hj)]
theorem ja3 (m:Int) (l:List Pc) (k:Nat) : (Wh m l k).map Pc.val=l.map Pc.val:=by
 refine List.ext_getElem? fun j=> ?_
 rw [List.getElem?_map,List.getElem?_map]
 rcases jhj j l.length with h | h
 ·rw [W0 h,Lc h]
  split
  ·show some (Pc.val _) =some (Pc.val _)
   unfold Fj Pc.val
   rw [ww]
  ·rfl
 ·rw [List.getElem?_eq_none (by rw [vy];exact h),List.getElem?_eq_none h]
theorem jbO (h:j<l.length) :rg (l.map (·.xs)) j= (yn l j).xs:=by simp [rg,yn,List.getD,h]
theorem jdi (m:Int) (l:List Pc) : (Wh m l l.length).map (·.xs) =KC m (l.map (·.xs)) :=by
 refine FG (by rw [we,jgF,jgF,vy]) fun j hj=> ?_
 rw [jgF,vy] at hj
 rw [WK _ _ _ (by rw [jgF];exact hj),jbO hj]
 have:=W0 (m:=m) (k:=l.length) hj
 rw [if_pos hj] at this
 have e:rg ((Wh m l l.length).map (·.xs)) j= (Fj m (l.map (·.xs)) (yn l j) j).xs:=by
  unfold rg
  rw [List.getD_eq_getElem?_getD,List.getElem?_map,this]
  rfl
 rw [e]
 rfl
def Rp.mk_ (p:Rp) (m:Int) (k:Nat) :Rp:=⟨p.A,p.c,Wh m p.l k⟩
theorem jfb (p:Rp) (m:Int) (k:Nat) : (p.mk_ m k).val=p.val:=by unfold Rp.val Rp.mk_;rw [vy]
theorem Mk (p:Rp) (m:Int) (k:Nat) : (p.mk_ m k).row=p.row:=by
 show JQ 0 74 1 (Wh m p.l k).length ((Wh m p.l k).map Pc.val) (p.A,p.c) =_
 rw [vy,ja3]
theorem jf1 (e:Pc) (m:Int) (rs:List jK) (j:Nat) : (Fj m rs e j).res.F=e.res.F:=rfl
theorem jeo : (ke (Wh m l k)).F b↔(ke l).F b:=by
 constructor
 ·rintro⟨r,hr,hb⟩
  obtain ⟨e,he,rfl⟩ :=jgO.1 hr
  obtain ⟨j,hj,e2⟩ :=jg1 he
  rw [vy] at hj
  have e3: (Wh m l k)[j]? =some e:=by rw [←e2];exact List.getElem?_eq_getElem _
  rw [W0 hj] at e3
  injection e3 with e3
  refine⟨(yn l j).res,jgO.2 ⟨_,List.mem_of_getElem? (Lc hj),J⟩,?_⟩
  rw [←e3] at hb
  split at hb
  ·exact hb
  ·exact hb
 ·rintro⟨r,hr,hb⟩
  obtain ⟨e,he,rfl⟩ :=jgO.1 hr
  obtain ⟨j,hj,e2⟩ :=jg1 he
  have e3:yn l j=e:=by rw [←e2];simp [yn,List.getD,hj]
  refine⟨_,jgO.2 ⟨_,List.mem_of_getElem? (W0 (m:=m) (k:=k) hj),J⟩,?_⟩
  rw [e3]
  split
  ·exact hb
  ·exact hb
theorem ja5 {p:Rp} : (p.mk_ m k).res.F b↔p.res.F b:=by
 constructor
 ·rintro⟨r,hr,hb⟩
  rcases jgK.1 hr with rfl | hr
  ·exact⟨p.row,by simp,by rw [←Mk p m k];exact hb⟩
  ·rw [jgC.1 hr] at hb
   exact⟨ke p.l,by simp,jeo.1 hb⟩
 ·rintro⟨r,hr,hb⟩
  rcases jgK.1 hr with rfl | hr
  ·exact⟨(p.mk_ m k).row,by simp,by rw [Mk p m k];exact hb⟩
  ·rw [jgC.1 hr] at hb
   exact⟨ke (p.mk_ m k).l,by simp,jeo.2 hb⟩
theorem jfQ {p:Rp} (h: (p.mk_ m k).res.F b) :p.res.F b:=ja5.1 h
theorem jfR {p:Rp} (h: (p.mk_ m (k+1)).res.F b) : (p.mk_ m k).res.F b:=ja5.2 (ja5.1 h)
theorem Tk (h:k<l.length) : (Wh m l k)[k]? =some (yn l k) :=by rw [W0 h,if_neg Om]
theorem Po {p:Rp} (h:p.res.P w) :p.row.P w:= (h.1 p.row (by simp)).1
theorem Pk {p:Rp} (h:p.res.P w) : (ke p.l).P w:= (h.1 (ke p.l) (by simp)).1
theorem jdQ {p:Rp} {w':World} (h: (p.mk_ m k).res.P w) (hk:k<p.l.length) (hw:Wrs (yn p.l k).res.F w w') (hp:OwnP (yn p.l k).lo (yn p.l k).hi w' (yn p.l k).A (yn p.l k).xs.length (Wl (m+2* (qD p.rs k:Nat)) (yn p.l k).xs.length)) :
  (p.mk_ m (k+1)).res.P w'∧Wrs (p.mk_ m k).res.F w w':=by
 have hkl: (Wh m p.l k)[k]? =some (yn p.l k) :=Tk hk
 have hkr: ((Wh m p.l k).map Pc.res)[k]? =some (yn p.l k).res:=by rw [List.getElem?_map,hkl];rfl
 have hpc: (ke (Wh m p.l k)).P w:=Pk h
 have hhi: (yn p.l k).hi≤w.heap.size:= ((hpc.1 _ (List.mem_of_getElem? hkr)).1).1
 have hP': (Fj m p.rs (yn p.l k) k).res.P w':=by
  have: (Fj m p.rs (yn p.l k) k).xs.length= (yn p.l k).xs.length:=ww _ _
  unfold Pc.res
  rw [this]
  exact jdD hp (jhi hhi hw.size)
 have hin:=xG hpc hkr hw hP' (fun b hb=>by rw [jf1] at hb;exact hb) rfl
 have hsub:∀b,(yn p.l k).res.F b→(ke (Wh m p.l k)).F b:=fun b hb=>⟨_,List.mem_of_getElem? hkr,hb⟩
 have e1: ((Wh m p.l k).map Pc.res).set k (Fj m p.rs (yn p.l k) k).res= (Wh m p.l (k+1)).map Pc.res:=by
  rw [Cu hk,List.map_set]
  rfl
 rw [e1] at hin
 have hF2:∀b,(ke (Wh m p.l (k+1))).F b→(ke (Wh m p.l k)).F b:=fun b ⟨r,hr,hb⟩ =>by
  rw [←e1] at hr
  rcases List.mem_or_eq_of_mem_set hr with c | c
  ·exact⟨r,c,hb⟩
  ·rw [c,jf1] at hb;exact hsub b hb
 have hout:=xG (k:=1) h rfl (hw.mono hsub) hin hF2 rfl
 refine⟨?_,hw.mono fun b hb=>⟨ke (Wh m p.l k),by simp [Rp.mk_],hsub b hb⟩⟩
 have e2: [(p.mk_ m k).row,ke (p.mk_ m k).l].set 1 (ke (Wh m p.l (k+1))) = [(p.mk_ m (k+1)).row,ke (p.mk_ m (k+1)).l] :=by rw [Mk,Mk];rfl
 unfold Rp.res
 rw [←e2]
 exact hout
theorem jdP {p:Rp} (h:p.res.P w) (hk:k<p.l.length) :w.cell? ⟨Vl p.A,0+k*1+0,none⟩ =some (.slice (yn p.l k).A (yn p.l k).xs.length (yn p.l k).c) :=by
 rw [show 0+k*1+0=k*1+0 by omega]
 refine ML (x:= (p.A,p.c)) (k:=k) (Po h) ?_ J
 rw [List.getElem?_map,Lc hk]
 rfl
theorem Fg (p:Rp) (m:Int) (w:World) (h:p.res.P w) (hm:0≤m) (hb:m+2* (qD p.rs p.l.length:Nat)≤4611686018427387904) (hn:p.l.length≤100000) :
  Calls Tryz.prog 77 #[.slice p.A p.l.length p.c, .int .i64 m] w fun e w'=>e= .returned (.int .i64 (m+2* (qD p.rs p.l.length:Nat)))∧Wrs p.res.F w w'∧(p.mk_ m p.l.length).res.P w':=by
 obtain ⟨X,hX⟩ :=Ng h
 refine WO (m:=20) (X) (p.res) (h) (fun b hb=> (hX b).2 hb) J (Tryz.func77) J J (lb J) ?_;refine S10 ?_;refine JN (X:=Nat) (fun k=>k≤p.l.length) (fun k=>p.l.length- k) (fun k=> [(1, .int .i64 (m+2* (qD p.rs k:Nat))),(5, .int .i64 (k:Int))]) (kK [0,4]) (fun k=> [(p.mk_ m k).res]) 0 (jgw _) ⟨vi (by simp [qD]),sz⟩ (fun _ h=> (show p.mk_ m 0=p by unfold Rp.mk_;rw [Cv]).symm▸h) ?_
 intro k hk L hL1
 refine v9 ?_;refine r9 ?_;refine S8 ?_;refine cZ (fun c1=> ?_) (fun c1=> ?_)
 ·have hlt:k<p.l.length:=Om
  have hmo:=Vg p.rs (show k+1≤p.l.length by omega)
  have hse:qD p.rs (k+1) =qD p.rs k+ (yn p.l k).xs.length:= (by show qD p.rs k+ (rg p.rs k).length=_;unfold Rp.rs;rw [jbO hlt])
  refine S7 ?_;refine a9 (qj (j:=k) (r:= (p.A,p.c)) (fun w hs=>by have:=Po (hs.all 0 _ J).1;rw [Mk] at this;exact this) J J J jw hlt) ?_;refine S1 ?_;refine a9 (jl J J JK (fun w' hs=> (by have:=jdP (hs.all 0 _ J).1 (show k< (p.mk_ m k).l.length by show k< (Wh m p.l k).length;rw [vy];exact hlt);have e:yn (p.mk_ m k).l k=yn p.l k:=by {show yn (Wh m p.l k) k=_;unfold yn;rw [List.getD_eq_getElem?_getD,Tk hlt];rfl};rw [e] at this;exact this))) ?_;refine S2 ?_;refine Va (k:=0) (r':= (p.mk_ m (k+1)).res) Yf rfl rfl rfl Dc rfl (fun w' hs=> (GU (yn p.l k).lo (yn p.l k).hi _ _ _ (yn p.l k).xs _ w' (CL ((Pk (hs.all 0 _ rfl).1).1 (yn p.l k).res (jgO.2 ⟨_,List.mem_of_getElem? (Tk hlt),rfl⟩)).1) Om Om).mono (by rintro e w2 ⟨rfl,hw,hp⟩;obtain ⟨q1,q2⟩ :=jdQ (hs.all 0 _ rfl).1 hlt (hw.mono fun _ h=>h.2.2) hp;exact⟨rfl,q2,q1⟩)) (fun b hb=>jfR hb) rfl ?_;refine N9 ?_
  exact j4 hL1 (k+1) Om Om ⟨vi Om,vi Om,sz⟩ (u9 J)
 ·have hkn:k=p.l.length:=Om
  refine S11 ?_;refine jL J (.tmp J) ?_
  intro w' hs
  exact⟨wm (by rw [hkn]),hs.over.wrs.mono fun b hb=> (hX b).1 hb,by have:= (hs.all 0 _ rfl).1;rw [hkn] at this;exact this⟩
def szP (p:Rp) :Nat:=qD p.rs p.l.length
def Lh (ps:List Rp) :Nat→Nat
 | 0=>0
 | k+1=>Lh ps k+szP (WR ps k)
def Vs (m:Int) (ps:List Rp) (k:Nat) :List Rp:= (List.range ps.length).map fun j=>if j<k then(WR ps j).mk_ (m+2* (Lh ps j:Nat)) (WR ps j).l.length else WR ps j
theorem VS (m:Int) (ps:List Rp) (k:Nat) : (Vs m ps k).length=ps.length:=by simp [Vs]
theorem W1 {ps:List Rp} (h:j<ps.length) : (Vs m ps k)[j]? =some (if j<k then(WR ps j).mk_ (m+2* (Lh ps j:Nat)) (WR ps j).l.length else WR ps j) :=by simp [Vs,h]
theorem BM (m:Int) (ps:List Rp) :Vs m ps 0=ps:=by
 refine List.ext_getElem? fun j=> ?_
 rcases jhj j ps.length with h | h
 ·rw [W1 h,if_neg Om,zK h]
 ·rw [List.getElem?_eq_none (by rw [VS];exact h),List.getElem?_eq_none h]
theorem BL {ps:List Rp} (h:k<ps.length) :Vs m ps (k+1) = (Vs m ps k).set k ((WR ps k).mk_ (m+2* (Lh ps k:Nat)) (WR ps k).l.length) :=by
 refine List.ext_getElem? fun j=> ?_
 rw [List.getElem?_set]
 rcases jhj j ps.length with hj | hj
 ·rw [W1 hj,W1 hj]
  by_cases e:k=j
  ·subst e;rw [if_pos Om,if_pos rfl,if_pos (by rw [VS];exact h)]
  ·rw [if_neg e]
   by_cases c:j<k
   ·rw [if_pos c,if_pos Om]
   ·rw [if_neg c,if_neg Om]
 ·rw [List.getElem?_eq_none (by rw [VS];exact hj),if_neg Om,List.getElem?_eq_none (by rw [VS];exact hj)]
theorem Mj (m:Int) (ps:List Rp) (k:Nat) : (Vs m ps k).map Rp.val=ps.map Rp.val:=by
 refine List.ext_getElem? fun j=> ?_
 rw [List.getElem?_map,List.getElem?_map]
 rcases jhj j ps.length with h | h
 ·rw [W1 h,zK h]
  split
  ·exact congrArg some (jfb _ _ _)
  ·rfl
 ·rw [List.getElem?_eq_none (by rw [VS];exact h),List.getElem?_eq_none h]
theorem ja4 {ps:List Rp} (h:k<ps.length) :WR (Vs m ps k) k=WR ps k∧WR (Vs m ps ps.length) k= (WR ps k).mk_ (m+2* (Lh ps k:Nat)) (WR ps k).l.length:=by
 have h1:=W1 (m:=m) (k:=k) h
 have h2:=W1 (m:=m) (k:=ps.length) h
 rw [if_neg Om] at h1
 rw [if_pos h] at h2
 unfold WR at h1 h2⊢
 rw [List.getD_eq_getElem?_getD (l:=Vs m ps k),List.getD_eq_getElem?_getD (l:=Vs m ps ps.length),h1,h2]
 exact⟨rfl,rfl⟩
theorem jaS {ps:List Rp} (hk:k<ps.length) (h: (Res.many ((Vs m ps (k+1)).map Rp.res)).F b) : (Res.many ((Vs m ps k).map Rp.res)).F b:=by
 obtain ⟨r,hr,hb⟩ :=h
 obtain ⟨p,hp,rfl⟩ :=jgO.1 hr
 rw [BL hk] at hp
 rcases List.mem_or_eq_of_mem_set hp with c | c
 ·exact⟨p.res,jgO.2 ⟨p,c,rfl⟩,hb⟩
 ·rw [c] at hb
  refine⟨(WR ps k).res,jgO.2 ⟨_,?_,J⟩,jfQ hb⟩
  refine List.mem_of_getElem? (i:=k) ?_
  rw [W1 hk,if_neg Om]
theorem jdA {ps:List Rp} {w':World} (h: (ZU x (Vs m ps k)).P w) (hk:k<ps.length) (hw:Wrs (WR ps k).res.F w w') (hp: ((WR ps k).mk_ (m+2* (Lh ps k:Nat)) (WR ps k).l.length).res.P w') :
  (ZU x (Vs m ps (k+1))).P w'∧Wrs (ZU x (Vs m ps k)).F w w':=by
 have hkr: ((Vs m ps k).map Rp.res)[k]? =some (WR ps k).res:=by rw [List.getElem?_map,W1 hk,if_neg Om];rfl
 have hin:=xG (Xd h) hkr hw hp (fun b hb=>jfQ hb) rfl
 have hsub:∀b,(WR ps k).res.F b→(Res.many ((Vs m ps k).map Rp.res)).F b:=fun b hb=>⟨_,List.mem_of_getElem? hkr,hb⟩
 have e1: ((Vs m ps k).map Rp.res).set k ((WR ps k).mk_ (m+2* (Lh ps k:Nat)) (WR ps k).l.length).res= (Vs m ps (k+1)).map Rp.res:=by rw [BL hk,List.map_set]
 rw [e1] at hin
 have hout:=xG (k:=1) h rfl (hw.mono hsub) hin (fun b hb=>jaS hk hb) rfl
 refine⟨?_,hw.mono fun b hb=>⟨_,by simp,hsub b hb⟩⟩
 show(Res.many [JQ 0 26 1 (Vs m ps (k+1)).length ((Vs m ps (k+1)).map Rp.val) x, .many ((Vs m ps (k+1)).map Rp.res)]).P w'
 rw [VS,Mj,←VS m ps k,←Mj m ps k]
 exact hout
theorem jf2 {ps:List Rp} (hk:k<ps.length) (h: (ZU x (Vs m ps (k+1))).F b) : (ZU x (Vs m ps k)).F b:=by
 obtain ⟨r,hr,hb⟩ :=h
 rcases jgK.1 hr with rfl | hr
 ·refine⟨_,jgZ,?_⟩
  rw [UL] at hb⊢
  exact hb
 ·rw [jgC.1 hr] at hb
  exact⟨_,jgP _ (jgC.2 rfl),jaS hk hb⟩
theorem Fy {ps:List Rp} (h: (ZU x (Vs m ps k)).P w) : (JQ 0 26 1 ps.length (ps.map Rp.val) x).P w:=by
 have:=Fx h
 rw [VS,Mj] at this
 exact this
theorem Pd {ps:List Rp} (h: (ZU x (Vs m ps k)).P w) (hj:j<ps.length) :w.cell? ⟨Vl x.1,0+j*1+0,none⟩ =some (WR ps j).val:=by
 rw [show 0+j*1+0=j*1+0 by omega]
 refine ML (k:=j) (Fy h) ?_ J
 rw [List.getElem?_map,zK hj]
 rfl
theorem TH {p:Rp} (h:smallR p.rs) :szP p≤1000000∧p.l.length≤2000:=by
 have h1:=h.1
 have h2:∀k,k≤p.rs.length→qD p.rs k≤500*k:=by
  intro k
  induction k with
  | zero=>intro _;exact jgx _
  | succ k ih=>
   intro hk
   have:=ih Om
   have:=h.2 k Om
   show qD p.rs k+_≤_
   omega
 rw [Rp.rs_len] at h1 h2
 have:=h2 _ (jgx _)
 unfold szP
 omega
theorem Tx {ps:List Rp} (h:∀s∈ps.map Rp.rs,smallR s) :∀k,k≤ps.length→Lh ps k≤1000000*k
 | 0,_=>jgx _
 | k+1,hk=>by
  have h1:=Tx h k Om
  have h2:= (TH (h _ (List.mem_of_getElem? (Gn (show k<ps.length by omega))))).1
  show Lh ps k+_≤_
  omega
theorem Hx (x:Option Addr×Nat) (ps:List Rp) (w:World) (h: (ZU x ps).P w) (hsm:∀s∈ps.map Rp.rs,smallR s) (hl:ps.length≤40) :
  Calls Tryz.prog 26 #[.slice x.1 ps.length x.2, .int .i64 1] w fun e w'=>e= .returned (.int .i64 (1+2* (Lh ps ps.length:Nat)))∧Wrs (ZU x ps).F w w'∧(ZU x (Vs 1 ps ps.length)).P w':=by
 obtain ⟨X,hX⟩ :=Ng h
 have hst:=Tx hsm
 refine WO (m:=20) (X) (ZU x ps) (h) (fun b hb=> (hX b).2 hb) J (Tryz.func26) J J (lb J) ?_;refine S10 ?_;refine JN (X:=Nat) (fun k=>k≤ps.length) (fun k=>ps.length- k) (fun k=> [(1, .int .i64 (1+2* (Lh ps k:Nat))),(5, .int .i64 (k:Int))]) (kK [0,4]) (fun k=> [ZU x (Vs 1 ps k)]) 0 (jgw _) ⟨vi (by simp [Lh]),sz⟩ (fun _ h=> (BM 1 ps).symm▸h) ?_
 intro k hk L hL1
 refine v9 ?_;refine r9 ?_;refine S8 ?_;refine cZ (fun c1=> ?_) (fun c1=> ?_)
 ·have hlt:k<ps.length:=Om
  have hs1:=hst k Om
  obtain ⟨hs2,hs3⟩ :=TH (hsm _ (List.mem_of_getElem? (Gn hlt)))
  have hse:Lh ps (k+1) =Lh ps k+szP (WR ps k) :=rfl
  have hsz:szP (WR ps k) =qD (WR ps k).rs (WR ps k).l.length:=rfl
  refine S7 ?_;refine a9 (qj (j:=k) (fun w hs=>Fy (hs.all 0 _ J).1) J J J qM hlt) ?_;refine S1 ?_;refine a9 (jl J J Jz (fun w' hs=>Pd (hs.all 0 _ J).1 hlt)) ?_;refine S2 ?_;refine Va (k:=0) (r':=ZU x (Vs 1 ps (k+1))) Um rfl rfl rfl Dc rfl (fun w' hs=> (Fg (WR ps k) (1+2* (Lh ps k:Nat)) w' (by have:=Pb (Xd (hs.all 0 _ rfl).1) (k:=k) (by rw [VS];exact hlt);rw [(ja4 hlt).1] at this;exact this) Om Om Om).mono (by rintro e w2 ⟨rfl,hw,hp⟩;obtain ⟨q1,q2⟩ :=jdA (hs.all 0 _ rfl).1 hlt hw hp;exact⟨rfl,q2,q1⟩)) (fun b hb=>jf2 hlt hb) rfl ?_;refine N9 ?_
  exact j4 hL1 (k+1) Om Om ⟨vi Om,vi Om,sz⟩ (u9 J)
 ·have hkn:k=ps.length:=Om
  refine S11 ?_;refine jL J (.tmp J) ?_
  intro w' hs
  exact⟨wm (by rw [hkn]),hs.over.wrs.mono fun b hb=> (hX b).1 hb,by have:= (hs.all 0 _ rfl).1;rw [hkn] at this;exact this⟩
theorem Fh {rs:List jK} (h:smallR rs) (m:Int) :smallR (KC m rs) :=by
 refine⟨by rw [we];exact h.1,fun j hj=> ?_⟩
 rw [we] at hj
 rw [WK _ _ _ hj,ww]
 exact h.2 j hj
theorem y7 (x:Option Addr×Nat) (ps:List Rp) (w:World) (h: (ZU x (Vs 1 ps ps.length)).P w) (hsm:∀s∈ps.map Rp.rs,smallR s) (hl:ps.length≤40) :
  Calls Tryz.prog 27 #[.slice x.1 ps.length x.2, .int .i64 1] w fun e w'=>e= .returned (.int .i64 (1+2* (Lh ps ps.length:Nat)))∧Over w w':=by
 have hst:=Tx hsm
 refine jT (m:=22) (Tryz.func27) J J (lb J) ?_;refine S10 ?_;refine J9 (X:=Nat) (fun k=>k≤ps.length) (fun k=>ps.length- k) (fun k=> [(1, .int .i64 (1+2* (Lh ps k:Nat))),(5, .int .i64 (k:Int))]) (kK [0,4]) 0 (jgw _) ⟨vi (by simp [Lh]),sz⟩ ?_
 intro k hk L hL1
 refine V8 ?_;refine cZ (fun c1=> ?_) (fun c1=> ?_)
 ·have hlt:k<ps.length:=Om
  have hs1:=hst k Om
  have hsk:=hsm _ (List.mem_of_getElem? (Gn hlt))
  obtain ⟨hs2,hs3⟩ :=TH hsk
  have hse:Lh ps (k+1) =Lh ps k+szP (WR ps k) :=rfl
  have hsz:szP (WR ps k) =qD (WR ps k).rs (WR ps k).l.length:=rfl
  have hR:∀w1,Over w w1→Rings w1 (WR ps k).A (WR ps k).l.length (KC (1+2* (Lh ps k:Nat)) (WR ps k).rs) := (fun w1 ho=>by
  have:=Pb (Xd (Y9 h ho)) (k:=k) (by rw [VS];exact hlt)
  rw [(ja4 hlt).2] at this
  have e: ((WR ps k).mk_ (1+2* (Lh ps k:Nat)) (WR ps k).l.length).rs=KC (1+2* (Lh ps k:Nat)) (WR ps k).rs:=jdi _ _
  have hr:=MM this (e▸Fh hsk _)
  rw [e] at hr
  have e2: ((WR ps k).mk_ (1+2* (Lh ps k:Nat)) (WR ps k).l.length).l.length= (WR ps k).l.length:=vy _ _ _
  rw [e2] at hr
  exact hr)
  refine S8 ?_;refine a9 (qj (j:=k) (fun w hs=>Fy (Y9 h hs.fin)) J J J qM hlt) ?_;refine S1 ?_;refine a9 (jl J J Jz (fun w' hs=>Pd (Y9 h hs.fin) hlt)) ?_;refine S1 ?_;refine a9 (jJ xU J J (fun w1 hs=>OC _ _ _ (WR ps k).rs _ w1 (hR w1 hs.fin) Om Om Om)) ?_;refine S7 ?_;refine vJ J (decide_eq_false Om) ?_;refine S8 ?_
  exact JY hL1 (k+1) Om Om ⟨vi Om,vi Om,sz⟩ (u9 J)
 ·refine S11 ?_;refine jL J (.tmp J) ?_
  intro w' hs
  exact⟨wm (by rw [show k=ps.length by omega]),hs.fin⟩
theorem jep {x:Option Addr×Nat} {ps:List Rp} {m:Int} {b:Nat} :∀ {k:Nat},k≤ps.length→(ZU x (Vs m ps k)).F b→(ZU x ps).F b
 | 0,_,h=>by rw [BM] at h;exact h
 | k+1,hk,h=>jep (Nat.le_of_succ_le hk) (jf2 hk h)
theorem Rq (A:Option Addr) (n c:Nat) (rs:List jK) (w:World) (h:Rings w A n rs) (hm: (n:Int)≤9223372036854775807) :
  Calls Tryz.prog 4 #[qK A n c] w fun e w'=>e= .returned (.bool true)∧Over w w':=by
 have hl:=h.1
 have hz: (total rs:Int)≤1048576→Zn 1048576 (total rs) =1048576- total rs:=Eg
 have hz2:¬(total rs:Int)≤1048576→Zn 1048576 (total rs) = -1:=jd4
 have hsmL:∀s∈En rs,smallR s:=CD
 have h40:=jdx rs
 refine jT (m:=96) (Tryz.func4) J J (lb J) ?_;refine S3 ?_;refine aX (fun b1=> ?_);refine N10 ?_;refine a9 (jJ X4 J J (fun w1 hs=>FX A n c rs 1048576 w1 (h.over hs.fin) Om Om hm)) ?_;refine S8 ?_;refine cZ (fun c1=> ?_) (fun c1=> ?_)
 ·refine S6 ?_;refine jL J (.tmp J) ?_
  intro w' hs
  exact⟨rfl,hs.fin⟩
 ·have ht: (total rs:Int)≤1048576:=Decidable.byContradiction fun ht=>by have:=hz2 ht;omega
  clear hz hz2 hm
  have hts:=Ei ht hl
  refine S6 ?_;refine JR Vt (X:=Nat×Nat×Nat) (v:=fun x=>qK (some ⟨x.1,0,none⟩) n n) (r:=fun x=>Q6 n rs x.2.1 x.2.2 (some ⟨x.1,0,none⟩)) (H:=fun _=>True) J J J (lb J) (fun w1 hs=>xq (uv A n c rs w1 (h.over hs.fin) ht)) ?_
  rintro⟨tg,tlo,thi⟩ -
  refine N1 ?_;refine JR HI (X:= (Option Addr×Nat)×List Rp) (v:=fun y=> .tuple #[.slice y.1.1 y.2.length y.1.2, .int .i64 (uC rs)]) (r:=fun y=>ZU y.1 y.2) (H:=fun y=>y.2.map Rp.rs=En rs) J J J (lb J) (fun w1 hs=>HU _ n n rs w1 (YU (k:=1) J w1 hs) (jhA ht Dc)) ?_
  rintro⟨wx,ws⟩ hW
  refine N10 ?_;refine JR Vt (X:=Nat×Nat×Nat) (v:=fun x=>qK (some ⟨x.1,0,none⟩) n n) (r:=fun x=>Q6 n rs x.2.1 x.2.2 (some ⟨x.1,0,none⟩)) (H:=fun _=>True) J J J (lb J) (fun w1 hs=>xq (uv A n c rs w1 (h.over hs.fin) ht)) ?_
  rintro⟨tg,tlo,thi⟩ -
  refine N1 ?_;refine aL (fun b2=> ?_);refine N7 ?_;refine JR Yc (X:= (Option Addr×Nat)×List Rp) (v:=fun y=> .tuple #[.slice y.1.1 y.2.length y.1.2, .int .i64 (uC rs)]) (r:=fun y=>ZU y.1 y.2) (H:=fun y=>y.2.map Rp.rs=En rs) J J J (lb J) (fun w1 hs=>GB _ n n rs w1 (YU (k:=3) J w1 hs) (jhA ht Dc)) ?_
  rintro⟨gx,gs⟩ hG
  refine N6 ?_
  have hgl:gs.length≤40:= (by have h9:=congrArg List.length hG;simp only [jgF] at h9;omega)
  have hgsm:∀s∈gs.map Rp.rs,smallR s:= (by rw [hG];exact hsmL)
  refine S5 ?_;refine a9 (jJ wU J J (fun w1 hs=>uI gx wx gs ws w1 (hs.all 5 _ J).1 (hs.all 2 _ J).1 (hG.trans hW.symm) hgsm Om)) ?_;refine S2 ?_;refine Uf 36 (.bool false) J (by rw [Fo]) ?_;refine S8 ?_;refine vJ J (XX _) ?_;refine S5 ?_;refine JS 5 ?_;refine dK 0 ?_;refine dK 1 ?_;refine J8 (i:=2) J Dc Kr J ?_;refine JR Vt (X:=Nat×Nat×Nat) (v:=fun x=>qK (some ⟨x.1,0,none⟩) n n) (r:=fun x=>Q6 n rs x.2.1 x.2.2 (some ⟨x.1,0,none⟩)) (H:=fun _=>True) J J J (lb J) (fun w1 hs=>xq (uv A n c rs w1 (h.over hs.fin) ht)) ?_
  rintro⟨tg,tlo,thi⟩ -
  refine n9 ?_;refine WP (u9 J) ?_;refine dZ 3 J (jJ U7 J J (fun w1 hs=>Zd _ _ _ _ _ rs w1 (YU (k:=3) J w1 hs) (YU (k:=6) J w1 hs) ht)) ?_;refine dK 4 ?_;refine JI Kr ?_;refine S1 ?_;refine vJ J (J) ?_;refine S11 ?_;refine Va (k:=3) (r':=Q6 n (KC 1 rs) _ _ _) ZL J J J Dc J (fun w1 hs=>jdf (jfL (k:=3) J w1 hs) (jgf (k:=3) J w1 hs) hts) (fun _ h=>h) J ?_;refine N8 ?_;refine Uf 51 (.bool false) J (by rw [(jfo _)]) ?_;refine S5 ?_;refine o9 (jJ wU J J (fun w1 hs=>uI gx wx gs ws w1 (hs.all 5 _ J).1 (hs.all 2 _ J).1 (hG.trans hW.symm) hgsm Om)) ?_;refine S4 ?_;refine Uf 57 (.bool false) J (by rw [Fo]) ?_;refine S8 ?_;refine vJ J (XX _) ?_;refine S11 ?_;refine Va (k:=5) (r':=ZU gx (Vs 1 gs gs.length)) zW J J J Dc J (fun w1 hs=>Hx gx gs w1 (hs.all 5 _ J).1 hgsm hgl) (fun b hb=>jep (jgx _) hb) J ?_;refine N10 ?_;refine a9 (jJ uh J J (fun w1 hs=>y7 gx gs w1 (hs.all 5 _ J).1 hgsm hgl)) ?_;refine S8 ?_;refine vJ J (jfo _) ?_;refine S9 ?_;refine vJ J (XX _) ?_;refine S6 ?_;refine JR Vt (X:=Nat×Nat×Nat) (v:=fun x=>qK (some ⟨x.1,0,none⟩) n n) (r:=fun x=>Q6 n rs x.2.1 x.2.2 (some ⟨x.1,0,none⟩)) (H:=fun _=>True) J J J (lb J) (fun w1 hs=>xq (uv A n c rs w1 (h.over hs.fin) ht)) ?_
  rintro⟨tg,tlo,thi⟩ -
  refine N1 ?_;refine JR Yc (X:= (Option Addr×Nat)×List Rp) (v:=fun y=> .tuple #[.slice y.1.1 y.2.length y.1.2, .int .i64 (uC rs)]) (r:=fun y=>ZU y.1 y.2) (H:=fun y=>y.2.map Rp.rs=En rs) J J J (lb J) (fun w1 hs=>GB _ n n rs w1 (YU (k:=7) J w1 hs) (jhA ht Dc)) ?_
  rintro⟨hx_,hs_⟩ hH
  refine N6 ?_
  have hhl:hs_.length≤40:= (by have h9:=congrArg List.length hH;simp only [jgF] at h9;omega)
  have hhsm:∀s∈hs_.map Rp.rs,smallR s:= (by rw [hH];exact hsmL)
  refine S5 ?_;refine a9 (jJ wU J J (fun w1 hs=>uI hx_ wx hs_ ws w1 (hs.all 8 _ J).1 (hs.all 2 _ J).1 (hH.trans hW.symm) hhsm Om)) ?_;refine S2 ?_;refine Uf 83 (.bool false) J (by rw [Fo]) ?_;refine S8 ?_;refine vJ J (XX _) ?_;refine S10 ?_;refine a9 (jJ uh J J (fun w1 hs=>y7 gx gs w1 (hs.all 5 _ J).1 hgsm hgl)) ?_;refine S8 ?_;refine vJ J (jfo _) ?_;refine S9 ?_;refine vJ J (XX _) ?_;refine S7 ?_;refine jL J (.tmp J) ?_
  intro w' hs
  exact⟨rfl,hs.fin⟩
end Go.Proofs.YtbahojdbmmjkcaaGreat
