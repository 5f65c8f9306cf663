import Derived.Test.YtpncbbcmoiiipaaGreatKTurn
import Derived.Test.YtpncbbcmoiiipaaGreatKStab
set_option linter.unusedVariables false
set_option linter.unusedSimpArgs false
namespace Go.Proofs.YtpncbbcmoiiipaaGreat
open Go Go.RowKit
set_option maxRecDepth 100000
set_option maxHeartbeats 4000000
def Wc (e f:Pc) :Bool:=uq e.xs f.xs
theorem DK:Weak Wc:=DJ.by (fun e:Pc=>e.xs)
theorem P4 (l:List Pc) : (kW Wc l).map (·.xs) =kW uq (l.map (·.xs)) := (II (fun x _ y _=>rfl)).symm
theorem DN {l l':List Res} (hp:l.Perm l') {w:World} (h: (Res.many l).P w) : (Res.many l').P w:=
 ⟨fun r hr=>h.1 r (hp.mem_iff.2 hr),h.2.perm hp (fun hxy b h1 h2=>hxy b h2 h1)⟩
theorem Pr {n:Nat} {env:List (Nat×Value)} {w0:Bs} {Rs:List Res} {K:Act→World→Prop} (k:Nat) {l l':List Pc} (hk:Rs[k]? =some (vE l)) (hp:l.Perm l') (h:At n env w0 (Rs.set k (vE l')) K) :At n env w0 Rs K:=
 fun a w hf hs=>h a w hf (hs.chg hk (fun hP=>DN (hp.map Pc.res) hP) (fun b ⟨r,hr,hb⟩ =>⟨r,(hp.map Pc.res).mem_iff.2 hr,hb⟩) rfl)
theorem Cg {P:Program} {f:FuncId} {args:Array Value} {w1:World} {T s n:Nat} {xs:List Value} (h:Calls P f args w1 fun e w'=>∃v,e= .returned (.agg #[v])∧w'.ownsRow w1.heap.size T s v n xs∧Over w1 w') :
  Calls P f args w1 fun e w'=>∃x:Option Addr×Nat,e= .returned (.agg #[.slice x.1 n x.2])∧Over w1 w'∧(JY 0 T s n xs x).P w'∧(∀b,(JY 0 T s n xs x).F b→w1.heap.size≤b)∧(JY 0 T s n xs x).B=0∧True:=by
 refine h.mono ?_
 rintro e w' ⟨v,rfl,hr,hO⟩
 obtain ⟨x,rfl⟩ :=ux hr
 exact⟨x,rfl,hO,yb hr (jii _),fun b hb=> (hr.lt b hb).1,sz⟩
theorem jfu {w:World} {B U m k:Nat} {A:Option Addr} {c:Nat} {xs:List Value} (h:w.ownsRow B U 1 (.slice A m c) m xs) (hk:k≤m) :Src 1 (sliced A 0 k c 1) k (xs.take k) w:=by
 have hlen:=h.1
 refine⟨by rw [jiy];omega,?_⟩
 rcases h.2 with⟨e,e2⟩ |⟨g,cap,cur,e,hb,hg,hcap,_⟩
 ·injection e with e1 e3 e4
  subst e1 e2 e4
  obtain rfl:k=0:=by omega
  exact .inl ⟨rfl,rfl⟩
 ·injection e with e1 e3 e4
  subst e1 e4
  rw [WT]
  refine .inr ⟨_,_,J,fun j u hu=>h.cells J j u ?_⟩
  rw [List.getElem?_take] at hu
  split at hu
  ·exact hu
  ·cases hu
theorem jfv {w:World} {B U m k:Nat} {A:Option Addr} {c:Nat} {xs:List Value} (h:w.ownsRow B U 1 (.slice A m c) m xs) (hk:k≤m) :Src 1 (sliced A k m c 1) (m- k) (xs.drop k) w:=by
 have hlen:=h.1
 refine⟨by rw [jiI];omega,?_⟩
 rcases h.2 with⟨e,e2⟩ |⟨g,cap,cur,e,hb,hg,hcap,_⟩
 ·injection e with e1 e3 e4
  subst e1 e2 e4
  obtain rfl:k=0:=by omega
  exact .inl ⟨rfl,rfl⟩
 ·injection e with e1 e3 e4
  subst e1 e4
  rw [Uq hcap hk]
  refine .inr ⟨_,_,J,fun j u hu=> ?_⟩
  rw [List.getElem?_drop] at hu
  have:=h.cells rfl _ u hu
  have hj:= (List.getElem?_eq_some_iff.1 hu).1
  rw [Q1] at this⊢
  rw [←this]
  congr 2
  unfold zf
  rw [if_neg Om]
  omega
theorem Ze {w:World} {l:List Pc} (h: (vE l).P w) {e:Pc} (he:e∈l) :Pts w e.A e.xs.length e.xs:=by
 have h1:= (h.1 e.res (jip.2 ⟨e,he,rfl⟩)).1
 exact(jcU h1).pts
def okRs (rs:List jV) :Prop:=rs.length≤1048576∧∀r∈rs,0<r.length∧r.length≤1048577∧∀p∈r,ZQ p
theorem okRs.at_ {rs:List jV} (h:okRs rs) {k:Nat} (hk:k<rs.length) :0< (rg rs k).length∧(rg rs k).length≤1048577∧∀p∈rg rs k,ZQ p:=by
 have:=h.2 rs[k] (jis hk)
 rwa [Wa hk] at this
def KX (rs:List jV) :List jV:=kW uq (rs.map WX)
theorem OI (rs:List jV) : (KX rs).length=rs.length:=by rw [KX,Qu,jit]
theorem jcF {rs:List jV} {r:jV} (h:r∈KX rs) :∃q∈rs,WX q=r:=by
 rw [KX,ZO] at h
 exact jip.1 h
theorem OJ {rs:List jV} (h:okRs rs) {j:Nat} (hj:j< (KX rs).length) : (rg (KX rs) j).length≤1048577:=by
 obtain ⟨q,hq,e⟩ :=jcF (jis hj)
 rw [Wa hj] at e
 rw [←e,wm]
 exact(h.2 q hq).2.1
theorem Cx {rs:List jV} {k:Nat} (h:k<rs.length) :rg (rs.map WX) k=WX (rg rs k) :=by simp [rg,List.getD,h]
def GU (e:Pc) (l:List Pc) (j:Nat) :Bool:=match (kW Wc l)[j- 1]? with
 | some q=>Wc e q
 | none=>false
theorem Sv {e:Pc} {l:List Pc} {j:Nat} (hj:j≤(kW Wc l).length) (hj0:0<j) (hle:GU e l j=true) (h:∀q∈(kW Wc l).drop j,Wc e q=true) :∀q∈(kW Wc l).drop (j- 1),Wc e q=true:=fun q hq=>by
 rw [jiY Om,show j- 1+1=j by omega] at hq
 rcases jir.1 hq with rfl | hq
 ·unfold GU at hle
  rw [List.getElem?_eq_getElem Om] at hle
  exact hle
 ·exact h q hq
theorem Sw {e:Pc} {l:List Pc} {j:Nat} (hj:j≤(kW Wc l).length) (h: (decide (0<j) &&GU e l j) =false) :j=0∨∃p,(kW Wc l)[j- 1]? =some p∧Wc e p=false:=by
 by_cases h0:0<j
 ·rw [decide_eq_true h0,jix] at h
  refine .inr ⟨(kW Wc l)[j- 1]'(by omega),List.getElem?_eq_getElem Om,?_⟩
  unfold GU at h
  rw [List.getElem?_eq_getElem Om] at h
  exact h
 ·exact .inl Om
theorem CA {w:World} {B U s m j g:Nat} {c:Nat} {xs:List Value} {v:Value} (h:w.ownsRow B U s (.slice (some ⟨g,0,none⟩) m c) m xs) (hv:xs[j]? =some v) :w.cell? ⟨g,0+j*1,none⟩ =some v:=by
 have:=h.cells rfl j v hv
 rw [Q1] at this
 rw [jjf]
 exact this
theorem jdc {w:World} {B U s m g:Nat} {c:Nat} {xs:List Value} (h:w.ownsRow B U s (.slice (some ⟨g,0,none⟩) m c) m xs) :g<w.heap.size:= (h.lt g rfl).2
theorem FV (A:Option Addr) (n c:Nat) (rs:List jV) (w:World) (h:Rings w A n rs) (hok:okRs rs) :
  Calls Tryz.prog 139 #[.slice A n c] w fun e w'=>∃A' c',e= .returned (qT A' n c')∧OwnG w.heap.size w'.heap.size w' A' n (KX rs)∧Over w w':=by
 have hl:=h.1
 have hn40:=hok.1
 refine Jh (m:=48) (Tryz.func139) J J (lb J) ?_;refine S3 ?_;refine aL (fun b1=> ?_);refine N4 ?_;refine Jx J J (Wb) J (lb J) (fun b2=> ?_);refine WF 1 1 J J ?_;refine N2 ?_;refine Vq ?_;refine t9 ?_;refine S6 ?_;refine JQ (X:=Nat×(Option Addr×Nat)×List Pc) (fun x=>x.1≤n∧x.2.2.map (·.xs) = (rs.map WX).take x.1) (fun x=>n- x.1) (fun x=> [(3, .slice x.2.1.1 x.1 x.2.1.2),(4, .int .i64 (x.1:Int))]) (kK [0,2]) (fun x=> [.cel b1 26 [.slice none 0 0],JY (Bs.N ⟨w,[]⟩) 77 1 x.1 ((kW Wc x.2.2).map Pc.val) x.2.1,vE x.2.2]) (0,(some ⟨b2,0,none⟩,0),[]) (⟨jii _,J⟩) ⟨J,sz⟩ (fun _ h=>h) ?_
 intro⟨k,⟨rA,rc⟩,l⟩ hx L hL1
 refine v9 ?_;refine r9 ?_
 have hk:k≤n:=hx.1
 have hmp:l.map (·.xs) = (rs.map WX).take k:=hx.2
 have hlk:l.length=k:= (by have:=congrArg List.length hmp;rw [jit,jiy,jit] at this;omega)
 have hsl: (kW Wc l).length=k:= (Qu l).trans hlk
 have hmem:∀q∈l,q.xs.length≤1048577:= (fun q hq=>by obtain ⟨r,hr,e⟩ :=jip.1 (jiZ (hmp▸jip.2 ⟨q,hq,rfl⟩));rw [←e,wm];exact(hok.2 r hr).2.1)
 refine ky (fun w hs=>uZ (hs.all 1 _ J).1) ?_
 intro hcap
 refine S8 ?_;refine cZ (fun c1=> ?_) (fun c1=> ?_)
 ·have hlt:k<n:=Om
  obtain ⟨bb,oo,Ak,ck,rfl,hbB,hcell,hpts,hmax⟩ :=h.at_ hlt
  obtain ⟨hr0,hr1,hr2⟩ :=hok.at_ (show k<rs.length by omega)
  refine S10 ?_;refine J4 XW (v:=fun x=> .agg #[.slice x.1 _ x.2]) (r:=fun x=>JY 0 56 2 _ _ x) (H:=fun _=>True) J J J (lb J) (fun w1 hs=>Cg (BR bb (oo+k*1) Ak _ ck (rg rs k) w1 (by rw [jjf];exact Qm hcell hbB w1 hs) (jiu hbB hs.fin.size) (hpts.over hs.fin) hr0 hr1)) ?_
  rintro⟨tA,tc⟩ -
  refine N1 ?_;refine aL (fun b3=> ?_);refine N3 ?_;refine ZY 3 J wm (fun clo chi=> ?_);refine t9 ?_
  obtain ⟨e,he⟩ :∃e:Pc,e=⟨WX (rg rs k),tA,tc,clo,chi⟩ :=⟨_,rfl⟩
  have hexs:e.xs.length= (rg rs k).length:= (by rw [he];exact wm)
  refine S8 ?_;refine qz (X:=Nat) (fun j=>j≤k∧∀q∈(kW Wc l).drop j,Wc e q=true) (fun j=>j) (fun j=> [(6, .int .i64 (j:Int))]) (kK [0,2,3,4,9,10,11,12,15,16,17,18,5,19,20]) k (⟨jih _,fun q hq=>by rw [jja Om] at hq;cases hq⟩) ⟨rfl,sz⟩ ?_
  intro j hj L hL2
  refine v9 ?_
  obtain ⟨hjk,hjq⟩ :=hj
  refine S1 ?_;refine qt [(29, .bool (decide (0<j) &&GU e l j))] (kK [0,2,3,4,9,10,11,12,15,16,17,18,5,19,20,6]) (fun L h_7=> ?_) ?_
  ·refine S4 ?_;refine cV 23 (fun g1=> ?_) (fun g1=> ?_)
   ·have hj0:0<j:=Om
    refine ky (fun w hs=>VJ (k:=1) J hs Om) ?_
    rintro⟨eg,rfl⟩
    obtain ⟨q,hq⟩ :∃q,(kW Wc l)[j- 1]? =some q:=⟨_,List.getElem?_eq_getElem Om⟩
    have hqm:q∈l:= (ZO l q).1 (List.mem_of_getElem? hq)
    refine S5 ?_;refine o9 ((JJ J J J Om Om).as (congrArg _ (show((j:Int) - 1) = ((j- 1:Nat) :Int) by omega))) ?_;refine h9 ?_;refine o9 (jN (j:=j- 1) J J J jK Om) ?_;refine h9 ?_;refine o9 (jT L3 J J (fun w1 hs=>Sr _ 0 eg (0+ (j- 1) *1) tA q.A _ tc q.xs.length q.c (WX (rg rs k)) q.xs w1 (cell_of_row w1 _ _ _ _ (0,0) (hs.cel (k:=4) J)) (J3 (hs.cel (k:=4) J)) (CA (hs.all 1 _ J).1 (by rw [List.getElem?_map,hq];rfl)) (jdc (hs.all 1 _ J).1) (by have:= (jcU (hs.all 3 _ J).1).pts;rw [wm] at this;exact this) (Ze (hs.all 2 _ J).1 hqm) Om (by have:=hmem q hqm;omega))) ?_;refine S2 ?_
    exact Jk h_7 ⟨vb (by rw [show decide (0<j) =true from decide_eq_true hj0,jix,GU,hq,he];rfl),sz⟩ (u9 J)
   ·refine S7 ?_
    exact Jk h_7 ⟨vb (by rw [show decide (0<j) =false from decide_eq_false Om,jiC]),sz⟩ (u9 J)
  ·refine v9 ?_;refine cZ (fun c2=> ?_) (fun c2=> ?_)
   ·simp only [jig,decide_eq_true_eq] at c2
    obtain ⟨hj0,hle⟩ :=c2
    refine S10 ?_
    exact qi hL2 (j- 1) (⟨by omega,fun q hq=>Sv Om hj0 hle hjq q hq⟩) Om ⟨vi Om,sz⟩ (u9 J)
   ·have hins:VS Wc e (kW Wc l) = (kW Wc l).take j++e:: (kW Wc l).drop j:=PP DK (wV DK l) Om hjq (Sw Om c2)
    refine S8 ?_;refine Jx J J (Wb) J (lb J) (fun b4=> ?_);refine WF 5 1 J J ?_;refine N2 ?_;refine a9 (Kl J J J jK Om) ?_;refine S1 ?_;refine JV (k:=5) rfl jK Jw Dc rfl Dc rfl rfl rfl (fun w' hs=>jfu (hs.all 1 _ rfl).1 hjk) ((fun u hu=>by obtain ⟨q,_,rfl⟩ :=jip.1 (jiZ hu);rfl)) (by unfold maxLen;omega) Om (jih _) (fun r1=> ?_);refine N7 ?_;refine Jx J J (qH J) J (lb J) (fun b5=> ?_);refine N1 ?_;refine JV (k:=5) J jK Jw Dc J Dc J J J (fun w' hs=>Qb hs (k:=6) J J) (by simp [Value.oneCell']) (by unfold maxLen;omega) Om (jih _) (fun r2=> ?_);refine N6 ?_;refine a9 (Vy J J J jK Om) ?_;refine S1 ?_;refine JV (k:=5) rfl jK Jw Dc rfl Dc rfl rfl rfl (fun w' hs=>jfv (hs.all 1 _ rfl).1 hjk) ((fun u hu=>by obtain ⟨q,_,rfl⟩ :=jip.1 (ji8 hu);rfl)) (by unfold maxLen;omega) Om (jih _) (fun r3=> ?_);refine N2 ?_;refine wN 2 3 J J Dc J ?_;refine t9 ?_;refine S7 ?_
    exact Ji hL1 ((k+1,r3,l++ [e])) (⟨show k+1≤n by omega,by rw [jiO,hmp,wl (by rw [jit];omega),Cx Om,he];rfl⟩) (by simp only;omega) ⟨(by rw [show 0+j+1+ (k- j) =k+1 by omega];rfl),vi Om,sz⟩ (fun _ h=> (h.picks [0,4,2] Dc).upto ⟨J,by rw [O9,hins,show 0+j+1+ (k- j) =k+1 by omega,jiO,jiA,List.map_take,List.map_drop,he];simp [Pc.val,wm],by rw [he];exact(vT _ _).symm,trivial⟩)
 ·have hkn:k=n:=Om
  subst hkn
  refine Pr 2 J (O8 (lt:=Wc) (l:=l)).symm ?_;refine t9 ?_;refine S8 ?_;refine a9 (JU J J (Xa J)) ?_;refine S4 ?_;refine jM J (qh (k:=0) J jG J J) ?_
  intro w' hs
  have hrs: (kW Wc l).map (·.xs) =KX rs:= (by rw [P4,hmp,jiK (by rw [jit];omega)];rfl)
  exact⟨rA,rc,rfl,Il hs (kr:=1) (kp:=2) rfl rfl Dc rfl hsl hrs (fun j hj=>by have:=OJ hok hj;omega),hs.fin⟩
def intOf:Option Value→Int
 | some (.int _ x) =>x
 | _=>0
def Xt (w:World) :Value→List Pn
 | .slice (some p) n _=> (List.range n).map fun k=> (intOf (w.cell? ⟨p.block,p.off+k*2,none⟩),intOf (w.cell? ⟨p.block,p.off+k*2+1,none⟩))
 | _=> []
theorem Xu {w:World} {A:Option Addr} {n c:Nat} {xs:List Pn} (h:Pts w A n xs) :Xt w (.slice A n c) =xs:=by
 have hl:=h.1
 by_cases h0:0<n
 ·obtain ⟨b,o,rfl,_,hc⟩ :=h.2 h0
  apply jjz
  ·simp [Xt,hl]
  ·intro k h1 h2
   simp only [Xt,jjs,jjU]
   rw [(hc k Om).1,(hc k Om).2,yg h2]
   rfl
 ·obtain rfl:n=0:=by omega
  obtain rfl:xs= [] :=jiQ hl
  cases A<;>rfl
theorem Ta {w w':World} {A:Option Addr} {n:Nat} {xs:List Pn} {X:List Nat} (h:Pts w A n xs) (ho:Ovx ⟨w,X⟩ w') (hA:0<n→W3 A∉X) :Pts w' A n xs:=⟨h.1,fun h0=>by
 obtain ⟨b,o,rfl,hb,hc⟩ :=h.2 h0
 have e:w'.heap[b]? =w.heap[b]? :=ho.block b hb (hA h0)
 refine⟨b,o,J,jiu hb ho.size,fun k hk=> ?_⟩
 rw [World.cell?_of_block (a:=⟨b,o+k*2,none⟩) e,World.cell?_of_block (a:=⟨b,o+k*2+1,none⟩) e]
 exact hc k hk⟩
theorem jb9 {w:World} {l:List Pc} (hP: (vE l).P w) :∀x∈l,∀y∈l,QI (fun u v=>uo (Xt w u) (Xt w v)) x.val y.val=Wc x y:=fun x hx y hy=>by
 have e:uo (Xt w x.val) (Xt w y.val) =uo x.xs y.xs:=by rw [Pc.val,Pc.val,Xu (Ze hP hx),Xu (Ze hP hy)]
 exact decide_eq_decide.2 (by show uo (Xt w x.val) (Xt w y.val) <0↔_;rw [e])
theorem B5 {w:World} {w0:Bs} {Rs:List Res} (hs:St w0 Rs w) {kr kp B n:Nat} {l:List Pc} {x:Option Addr×Nat} (hr:Rs[kr]? =some (JY B 77 1 n (l.map Pc.val) x)) (hp:Rs[kp]? =some (vE l)) (hne:kr≠kp) (hl:l.length=n)
  (hb:∀e∈l,e.xs.length≤1048577∧∀p∈e.xs,ZQ p) (hn:n≤1099511627776) :
  Calls Tryz.prog 170 #[.slice x.1 n x.2, .func (.func 171) #[] #[]] w fun e w'=>e= .returned (.tuple #[])∧Wrs (JY B 77 1 n (l.map Pc.val) x).F w w'∧(JY 0 77 1 n ((kW Wc l).map Pc.val) x).P w':=by
 have hrow:w.ownsRow B 77 1 (.slice x.1 n x.2) n (l.map Pc.val) := (hs.all kr _ hr).1
 have hP: (vE l).P w:= (hs.all kp _ hp).1
 rcases hrow.2 with⟨e,e2⟩ |⟨g,cap,cur,e,hbg,hg,hcap,hmax,hsz,htk⟩
 ·subst e2
  obtain rfl:l= [] :=jiQ hl
  refine(jav x.1 x.2 _ w).mono ?_
  rintro e' w' ⟨rfl,hO⟩
  refine⟨J,Wrs.of hO,?_⟩
  show w'.ownsRow 0 77 1 (.slice x.1 0 x.2) 0 _
  rw [e]
  exact World.ownsRow_nil _ _ _ _
 ·injection e with e1 e3 e4
  have hF:∀b,b=g→(JY B 77 1 n (l.map Pc.val) x).F b:=by
   rintro b rfl
   show Value.ownBlock (.slice x.1 n x.2) =some _
   rw [e1]
   rfl
  have hcl:cur.toList.length=cap:=by simp [hsz]
  rw [jjf] at htk
  have hcur:cur= (l.map Pc.val++cur.toList.drop n).toArray:=by
   rw [←htk,jiw,jjy]
  have hap:∀e∈l,0<e.xs.length→W3 e.A∉ [g] :=fun e he h0 hm=>by
   have hm':W3 e.A=g:=by simpa using hm
   have h1:= (hP.1 e.res (jip.2 ⟨e,he,rfl⟩)).1
   obtain ⟨b,o,T',cs,hA,hlo,hhi,_⟩ := (jcU h1).2 h0
   refine hs.apart kr kp _ _ hne hr hp g (hF g J) ⟨e.res,jip.2 ⟨e,he,J⟩,?_⟩
   rw [hA] at hm'
   exact⟨hm'▸hlo,hm'▸hhi⟩
  have hC:CmpOk w g (·∈l.map Pc.val) (fun u v=>uo (Xt w u) (Xt w v)) :=by
   refine⟨fun u hu v hv w' ho=> ?_,DJ.by (Xt w),fun u hu=> ?_⟩
   ·obtain ⟨e,he,rfl⟩ :=jip.1 hu
    obtain ⟨f,hf,rfl⟩ :=jip.1 hv
    have:=hb e he
    have:=hb f hf
    rw [Pc.val,Pc.val,Xu (Ze hP he),Xu (Ze hP hf)]
    exact L4 _ _ _ _ _ _ e.xs f.xs w' (Ta (Ze hP he) ho (hap e he)) (Ta (Ze hP hf) ho (hap f hf)) (hb e he).2 (hb f hf).2 Om Om
   ·obtain ⟨e,he,rfl⟩ :=jip.1 hu
    rfl
  have:=NR g 77 (l.map Pc.val) (cur.toList.drop n) n x.2 _ _ w hC (by rw [←hcur];exact hg) (by rw [jit,hl]) hn (fun u hu=>hu)
  rw [e1]
  refine this.mono ?_
  rintro e' w' ⟨rfl,hw,hh⟩
  refine⟨J,⟨hw.os,hw.tape,hw.output,hw.size,fun c hc hnc=>hw.block c hc (fun ec=>hnc (hF c ec))⟩,?_⟩
  have em:kW (QI fun u v=>uo (Xt w u) (Xt w v)) (l.map Pc.val) = (kW Wc l).map Pc.val:=II (jb9 hP)
  rw [em] at hh
  have hml: ((kW Wc l).map Pc.val).length=n:=by rw [jit,Qu,hl]
  refine⟨by rw [hml,jjf], .inr ⟨g,x.2,_,by rw [e1],jii _,hh,by rw [e4];exact hcap,by rw [e4];exact hmax,?_,?_⟩⟩
  ·rw [jje,jif,hml,jiI,hcl,e4]
   omega
  ·rw [jjf,jjj,List.take_append_of_le_length Om,jiK Om]
def RingsC (w:World) (A:Option Addr) (n:Nat) (rs:List jV) :Prop:=
 rs.length=n∧(0<n→∃b o,A=some ⟨b,o,none⟩∧b<w.heap.size∧∀k,k<n→∃Ak ck,w.cell? ⟨b,o+k,none⟩ =some (.slice Ak (rg rs k).length ck)∧Pts w Ak (rg rs k).length (rg rs k)∧(rg rs k).length≤ck)
theorem RingsC.over {w w':World} {A:Option Addr} {n:Nat} {rs:List jV} (h:RingsC w A n rs) (hb:Over w w') :RingsC w' A n rs:=by
 refine⟨h.1,fun hn=> ?_⟩
 obtain ⟨b,o,hA,hlt,hc⟩ :=h.2 hn
 refine⟨b,o,hA,jiu hlt hb.size,fun k hk=> ?_⟩
 obtain ⟨Ak,ck,h1,h2,h3⟩ :=hc k hk
 exact⟨Ak,ck,((Jy hb).1 b _ hlt).trans h1,h2.over hb,h3⟩
theorem RingsC.at_ {w:World} {A:Option Addr} {n k:Nat} {rs:List jV} (h:RingsC w A n rs) (hk:k<n) :
  ∃b o Ak ck,A=some ⟨b,o,none⟩∧b<w.heap.size∧w.cell? ⟨b,o+k,none⟩ =some (.slice Ak (rg rs k).length ck)∧Pts w Ak (rg rs k).length (rg rs k)∧(rg rs k).length≤ck:=by
 obtain ⟨b,o,hA,hb,hc⟩ :=h.2 Om
 obtain ⟨Ak,ck,h1,h2,h3⟩ :=hc k hk
 exact⟨b,o,Ak,ck,hA,hb,h1,h2,h3⟩
theorem vS (A:Option Addr) (n c:Nat) (rs:List jV) (w:World) (h:RingsC w A n rs) (hok:okRs rs) :
  Calls Tryz.prog 109 #[qT A n c] w fun e w'=>∃A' c',e= .returned (qT A' n c')∧OwnG w.heap.size w'.heap.size w' A' n (KX rs)∧Over w w':=by
 have hl:=h.1
 have hn40:=hok.1
 refine Jh (m:=25) (Tryz.func109) J J (lb J) ?_;refine S3 ?_;refine aX (fun b1=> ?_);refine N1 ?_;refine aL (fun b2=> ?_);refine N4 ?_;refine aL (fun b3=> ?_);refine N1 ?_;refine Q7 (T:=77) (s:=1) ?_;refine t9 ?_;refine Vq ?_;refine t9 ?_;refine S9 ?_;refine JQ (X:=Nat×(Option Addr×Nat)×List Pc) (fun x=>x.1≤n∧x.2.2.map (·.xs) = (rs.map WX).take x.1) (fun x=>n- x.1) (fun x=> [(9, .int .i64 (x.1:Int))]) (kK [2,3,7,8]) (fun x=> [.cel b1 26 [.slice A n c], .cel b2 26 [.slice none 0 0], .cel b3 26 [.slice x.2.1.1 x.1 x.2.1.2],JY (Bs.N ⟨w,[]⟩) 77 1 x.1 (x.2.2.map Pc.val) x.2.1,vE x.2.2]) (0,(none,0),[]) (⟨jii _,J⟩) ⟨J,sz⟩ (fun _ h=>h) ?_
 intro⟨k,⟨rA,rc⟩,l⟩ hx L hL1
 refine v9 ?_;refine r9 ?_
 have hk:k≤n:=hx.1
 have hmp:l.map (·.xs) = (rs.map WX).take k:=hx.2
 have hlk:l.length=k:= (by have:=congrArg List.length hmp;rw [jit,jiy,jit] at this;omega)
 refine S5 ?_;refine cZ (fun c1=> ?_) (fun c1=> ?_)
 ·have hlt:k<n:=Om
  obtain ⟨bb,oo,Ak,ck,rfl,hbB,hcell,hpts,hck⟩ :=h.at_ hlt
  obtain ⟨hr0,hr1,hr2⟩ :=hok.at_ (show k<rs.length by omega)
  refine S7 ?_;refine a9 (jk J J JM J (OO hcell hbB)) ?_;refine S1 ?_;refine aL (fun b4=> ?_);refine N4 ?_;refine JS 5 ?_;refine dV 0 [1] ?_;refine dK 1 ?_;refine dV 2 [3] ?_;refine qe (i:=3) J Dc Kr J ?_;refine J4 G3 (v:=fun x=> .agg #[.slice x.1 _ x.2]) (r:=fun x=>JY 0 56 2 _ _ x) (H:=fun _=>True) J J J (lb J) (fun w1 hs=>Cg (IR Ak _ ck (rg rs k) w1 (hpts.over hs.fin) hr0 hck hr2 hr1)) ?_
  rintro⟨cA,cc⟩ -
  refine n9 ?_;refine Yq (u9 J) ?_;refine qe (i:=4) J Dc Kr J ?_;refine Jx J J (qH J) J (lb J) (fun b5=> ?_);refine n9 ?_;refine JO (u9 J) ?_;refine vg J Kr J ?_;refine JV (k:=3) J jK Jw Dc J Dc J J J (fun w' hs=>Qb hs (k:=7) J J) (by simp [Value.oneCell']) (by unfold maxLen;omega) Om (jih _) (fun r1=> ?_);refine n9 ?_;refine Qx 8 [2] ?_;refine dK 6 ?_;refine qe (i:=7) J Dc Kr J ?_;refine S1 ?_;refine JO (uw [2] J) ?_;refine JK Kr ?_;refine ZY 6 J wm (fun clo chi=> ?_);refine t9 ?_;refine wN 4 6 J J Dc J ?_;refine t9 ?_;refine S6 ?_
  exact Ji hL1 ((k+1,r1,l++ [⟨WX (rg rs k),cA,cc,clo,chi⟩])) (⟨show k+1≤n by omega,by rw [jiO,hmp,wl (by rw [jit];omega),Cx Om];rfl⟩) (by simp only;omega) ⟨vi Om,sz⟩ (fun _ h=>h.upto ⟨J,J,J,by rw [jiO];simp [Pc.val,wm],(vT _ _).symm,trivial⟩)
 ·have hkn:k=n:=Om
  subst hkn
  have hall:l.map (·.xs) =rs.map WX:= (by rw [hmp,jiK (by rw [jit];omega)])
  have hbd:∀e∈l,e.xs.length≤1048577∧∀p∈e.xs,ZQ p:= (fun e he=>by obtain ⟨r,hr,e2⟩ :=jip.1 (hall▸jip.2 ⟨e,he,rfl⟩ :e.xs∈rs.map WX);rw [←e2];exact⟨by rw [wm];exact(hok.2 r hr).2.1,fun p hp=> (hok.2 r hr).2.2 p (jaG.1 hp)⟩)
  refine S10 ?_;refine z7 (k:=3) (r':=JY 0 77 1 k ((kW Wc l).map Pc.val) (rA,rc)) vu J J J Dc J (fun w1 hs=>B5 hs (kr:=3) (kp:=4) J J Dc hlk hbd Om) (fun _ h=>h) J ?_;refine N1 ?_;refine Pr 4 J (O8 (lt:=Wc) (l:=l)).symm ?_;refine t9 ?_;refine S7 ?_;refine jM J (qh (k:=1) J jG J J) ?_
  intro w' hs
  have hrs: (kW Wc l).map (·.xs) =KX rs:= (by rw [P4,hall];rfl)
  exact⟨rA,rc,rfl,Il hs (kr:=3) (kp:=4) rfl rfl Dc rfl ((Qu l).trans hlk) hrs (fun j hj=>by have:=OJ hok hj;omega),hs.fin⟩
end Go.Proofs.YtpncbbcmoiiipaaGreat
