import Derived.Test.YtkagkgjjfdkoaaaGreatMTurn
import Derived.Test.YtkagkgjjfdkoaaaGreatMStab
set_option linter.unusedVariables false
set_option linter.unusedSimpArgs false
namespace Go.Proofs.YtkagkgjjfdkoaaaGreat
open Go Go.RowKit
set_option maxRecDepth 100000
set_option maxHeartbeats 4000000
def wo (e f:Pc) :Bool:=WH e.xs f.xs
theorem Bc:Weak wo:=Bb.by (fun e:Pc=>e.xs)
theorem TG (l:List Pc) : (srt wo l).map (·.xs) =srt WH (l.map (·.xs)) := (D6 (fun x _ y _=>rfl)).symm
theorem Bg {l l':List Res} (hp:l.Perm l') {w:World} (h: (Res.many l).P w) : (Res.many l').P w:=
 ⟨fun r hr=>h.1 r (hp.mem_iff.2 hr),h.2.perm hp (fun hxy b h1 h2=>hxy b h2 h1)⟩
theorem Tf {n:Nat} {env:List (Nat×Value)} {w0:Bs} {Rs:List Res} {K:Act→World→Prop} (k:Nat) {l l':List Pc} (hk:Rs[k]? =some (ve l)) (hp:l.Perm l') (h:At n env w0 (Rs.set k (ve l')) K) :At n env w0 Rs K:=
 fun a w hf hs=>h a w hf (hs.chg hk (fun hP=>Bg (hp.map Pc.res) hP) (fun b ⟨r,hr,hb⟩ =>⟨r,(hp.map Pc.res).mem_iff.2 hr,hb⟩) rfl)
theorem TR {P:Program} {f:FuncId} {args:Array Value} {w1:World} {T s n:Nat} {xs:List Value} (h:Calls P f args w1 fun e w'=>∃v,e= .returned (.agg #[v])∧w'.ownsRow w1.heap.size T s v n xs∧Over w1 w') :
  Calls P f args w1 fun e w'=>∃x:Option Addr×Nat,e= .returned (.agg #[.slice x.1 n x.2])∧Over w1 w'∧(JP 0 T s n xs x).P w'∧(∀b,(JP 0 T s n xs x).F b→w1.heap.size≤b)∧(JP 0 T s n xs x).B=0∧True:=by
 refine h.mono ?_
 rintro e w' ⟨v,rfl,hr,hO⟩
 obtain ⟨x,rfl⟩ :=WL hr
 exact⟨x,rfl,hO,Ui hr (jeE _),fun b hb=> (hr.lt b hb).1,sz⟩
theorem jcd {w:World} {B U m k:Nat} {A:Option Addr} {c:Nat} {xs:List Value} (h:w.ownsRow B U 1 (.slice A m c) m xs) (hk:k≤m) :Src 1 (sliced A 0 k c 1) k (xs.take k) w:=by
 have hlen:=h.1
 refine⟨by rw [jeV];omega,?_⟩
 rcases h.2 with⟨e,e2⟩ |⟨g,cap,cur,e,hb,hg,hcap,_⟩
 ·injection e with e1 e3 e4
  subst e1 e2 e4
  obtain rfl:k=0:=by omega
  exact .inl ⟨rfl,rfl⟩
 ·injection e with e1 e3 e4
  subst e1 e4
  rw [VG]
  refine .inr ⟨_,_,J,fun j u hu=>h.cells J j u ?_⟩
  rw [List.getElem?_take] at hu
  split at hu
  ·exact hu
  ·cases hu
theorem jce {w:World} {B U m k:Nat} {A:Option Addr} {c:Nat} {xs:List Value} (h:w.ownsRow B U 1 (.slice A m c) m xs) (hk:k≤m) :Src 1 (sliced A k m c 1) (m- k) (xs.drop k) w:=by
 have hlen:=h.1
 refine⟨by rw [je2];omega,?_⟩
 rcases h.2 with⟨e,e2⟩ |⟨g,cap,cur,e,hb,hg,hcap,_⟩
 ·injection e with e1 e3 e4
  subst e1 e2 e4
  obtain rfl:k=0:=by omega
  exact .inl ⟨rfl,rfl⟩
 ·injection e with e1 e3 e4
  subst e1 e4
  rw [wg hcap hk]
  refine .inr ⟨_,_,J,fun j u hu=> ?_⟩
  rw [List.getElem?_drop] at hu
  have:=h.cells rfl _ u hu
  have hj:= (List.getElem?_eq_some_iff.1 hu).1
  rw [Qz] at this⊢
  rw [←this]
  congr 2
  unfold Ut
  rw [if_neg (by omega)]
  omega
theorem yC {w:World} {l:List Pc} (h: (ve l).P w) {e:Pc} (he:e∈l) :Pts w e.A e.xs.length e.xs:=by
 have h1:= (h.1 e.res (je7.2 ⟨e,he,rfl⟩)).1
 exact(E8 h1).pts
def okRs (rs:List jS) :Prop:=rs.length≤1048576∧∀r∈rs,0<r.length∧r.length≤1048577∧∀p∈r,zJ p
theorem okRs.at_ {rs:List jS} (h:okRs rs) {k:Nat} (hk:k<rs.length) :0< (rg rs k).length∧(rg rs k).length≤1048577∧∀p∈rg rs k,zJ p:=by
 have:=h.2 rs[k] (jeW hk)
 rwa [wl hk] at this
def VD (rs:List jS) :List jS:=srt WH (rs.map Wl)
theorem UT (rs:List jS) : (VD rs).length=rs.length:=by rw [VD,Qf,jeX]
theorem I2 {rs:List jS} {r:jS} (h:r∈VD rs) :∃q∈rs,Wl q=r:=by
 rw [VD,zH] at h
 exact je7.1 h
theorem Ml {rs:List jS} (h:okRs rs) {j:Nat} (hj:j< (VD rs).length) : (rg (VD rs) j).length≤1048577:=by
 obtain ⟨q,hq,e⟩ :=I2 (jeW hj)
 rw [wl hj] at e
 rw [←e,vQ]
 exact(h.2 q hq).2.1
theorem T5 {rs:List jS} {k:Nat} (h:k<rs.length) :rg (rs.map Wl) k=Wl (rg rs k) :=by simp [rg,List.getD,h]
def XR (e:Pc) (l:List Pc) (j:Nat) :Bool:=match (srt wo l)[j- 1]? with
 | some q=>wo e q
 | none=>false
theorem IG {e:Pc} {l:List Pc} {j:Nat} (hj:j≤(srt wo l).length) (hj0:0<j) (hle:XR e l j=true) (h:∀q∈(srt wo l).drop j,wo e q=true) :∀q∈(srt wo l).drop (j- 1),wo e q=true:=fun q hq=>by
 rw [jfi (by omega),show j- 1+1=j by omega] at hq
 rcases je0.1 hq with rfl | hq
 ·unfold XR at hle
  rw [List.getElem?_eq_getElem (by omega)] at hle
  exact hle
 ·exact h q hq
theorem IH {e:Pc} {l:List Pc} {j:Nat} (hj:j≤(srt wo l).length) (h: (decide (0<j) &&XR e l j) =false) :j=0∨∃p,(srt wo l)[j- 1]? =some p∧wo e p=false:=by
 by_cases h0:0<j
 ·rw [decide_eq_true h0,jfe] at h
  refine .inr ⟨(srt wo l)[j- 1]'(by omega),List.getElem?_eq_getElem (by omega),?_⟩
  unfold XR at h
  rw [List.getElem?_eq_getElem (by omega)] at h
  exact h
 ·exact .inl (by omega)
theorem DX {w:World} {B U s m j g:Nat} {c:Nat} {xs:List Value} {v:Value} (h:w.ownsRow B U s (.slice (some ⟨g,0,none⟩) m c) m xs) (hv:xs[j]? =some v) :w.cell? ⟨g,0+j*1,none⟩ =some v:=by
 have:=h.cells rfl j v hv
 rw [Qz] at this
 rw [jfz]
 exact this
theorem SB {w:World} {B U s m g:Nat} {c:Nat} {xs:List Value} (h:w.ownsRow B U s (.slice (some ⟨g,0,none⟩) m c) m xs) :g<w.heap.size:= (h.lt g rfl).2
theorem xt (A:Option Addr) (n c:Nat) (rs:List jS) (w:World) (h:Rings w A n rs) (hok:okRs rs) :
  Calls Tryz.prog 65 #[.slice A n c] w fun e w'=>∃A' c',e= .returned (Ju A' n c')∧OwnG w.heap.size w'.heap.size w' A' n (VD rs)∧Over w w':=by
 have hl:=h.1
 have hn40:=hok.1
 refine jU (m:=48) (Tryz.func65) J J (lb J) ?_;refine S3 ?_;refine aL (fun b1=> ?_);refine N4 ?_;refine Jp J J (vr) J (lb J) (fun b2=> ?_);refine vR 1 1 J J ?_;refine N2 ?_;refine vF ?_;refine ji (by simp only [jeL,jeG,jeM,jeO,jeJ,jeI,Value.cells,jeK];rfl) ?_;refine S6 ?_;refine JI (X:=Nat×(Option Addr×Nat)×List Pc) (fun x=>x.1≤n∧x.2.2.map (·.xs) = (rs.map Wl).take x.1) (fun x=>n- x.1) (fun x=> [(3, .slice x.2.1.1 x.1 x.2.1.2),(4, .int .i64 (x.1:Int))]) (kK [0,2]) (fun x=> [.cel b1 29 [.slice none 0 0],JP (Bs.N ⟨w,[]⟩) 71 1 x.1 ((srt wo x.2.2).map Pc.val) x.2.1,ve x.2.2]) (0,(some ⟨b2,0,none⟩,0),[]) (⟨jeE _,J⟩) ⟨J,sz⟩ (fun _ h=>h) ?_
 intro⟨k,⟨rA,rc⟩,l⟩ hx L hL1
 refine v9 ?_;refine ji (by first | (dsimp only;done) | (dsimp only;rfl) | rfl) ?_
 have hk:k≤n:=hx.1
 have hmp:l.map (·.xs) = (rs.map Wl).take k:=hx.2
 have hlk:l.length=k:= (by have:=congrArg List.length hmp;rw [jeX,jeV,jeX] at this;omega)
 have hsl: (srt wo l).length=k:= (Qf l).trans hlk
 have hmem:∀q∈l,q.xs.length≤1048577:= (fun q hq=>by obtain ⟨r,hr,e⟩ :=je7.1 (jfj (hmp▸je7.2 ⟨q,hq,rfl⟩));rw [←e,vQ];exact(hok.2 r hr).2.1)
 refine QF (fun w hs=>wC (hs.all 1 _ J).1) ?_
 intro hcap
 refine S8 ?_;refine cZ (fun c1=> ?_) (fun c1=> ?_)
 ·have hlt:k<n:= (by omega)
  obtain ⟨bb,oo,Ak,ck,rfl,hbB,hcell,hpts,hmax⟩ :=h.at_ hlt
  obtain ⟨hr0,hr1,hr2⟩ :=hok.at_ (show k<rs.length by omega)
  refine S10 ?_;refine jP xU (v:=fun x=> .agg #[.slice x.1 _ x.2]) (r:=fun x=>JP 0 54 2 _ _ x) (H:=fun _=>True) J J J (lb J) (fun w1 hs=>TR (Oq bb (oo+k*1) Ak _ ck (rg rs k) w1 (by rw [jfz];exact qU hcell hbB w1 hs) (jeR hbB hs.fin.size) (hpts.over hs.fin) hr0 hr1)) ?_
  rintro⟨tA,tc⟩ -
  refine N1 ?_;refine aL (fun b3=> ?_);refine N3 ?_;refine zT 3 J vQ (fun clo chi=> ?_);refine ji (by simp only [jeL,jeG,jeM,jeO,jeJ,jeI,Value.cells,jeK];rfl) ?_
  obtain ⟨e,he⟩ :∃e:Pc,e=⟨Wl (rg rs k),tA,tc,clo,chi⟩ :=⟨_,rfl⟩
  have hexs:e.xs.length= (rg rs k).length:= (by rw [he];exact vQ)
  refine S8 ?_;refine qi (X:=Nat) (fun j=>j≤k∧∀q∈(srt wo l).drop j,wo e q=true) (fun j=>j) (fun j=> [(6, .int .i64 (j:Int))]) (kK [0,2,3,4,9,10,11,12,15,16,17,18,5,19,20]) k (⟨jeD _,fun q hq=>by rw [jfB (by omega)] at hq;cases hq⟩) ⟨rfl,sz⟩ ?_
  intro j hj L hL2
  refine v9 ?_
  obtain ⟨hjk,hjq⟩ :=hj
  refine S1 ?_;refine qd [(29, .bool (decide (0<j) &&XR e l j))] (kK [0,2,3,4,9,10,11,12,15,16,17,18,5,19,20,6]) (fun L h_7=> ?_) ?_
  ·refine S4 ?_;refine cV 23 (fun g1=> ?_) (fun g1=> ?_)
   ·have hj0:0<j:= (by omega)
    refine QF (fun w hs=>K2 (k:=1) J hs (by omega)) ?_
    rintro⟨eg,rfl⟩
    obtain ⟨q,hq⟩ :∃q,(srt wo l)[j- 1]? =some q:=⟨_,List.getElem?_eq_getElem (by omega)⟩
    have hqm:q∈l:= (zH l q).1 (List.mem_of_getElem? hq)
    refine S5 ?_;refine o9 ((JC J J J (by omega) (by omega)).as (congrArg _ (show((j:Int) - 1) = ((j- 1:Nat) :Int) by omega))) ?_;refine h9 ?_;refine o9 (jT (j:=j- 1) J J J jI (by omega)) ?_;refine h9 ?_;refine o9 (jH Hz J J (fun w1 hs=>ID _ 0 eg (0+ (j- 1) *1) tA q.A _ tc q.xs.length q.c (Wl (rg rs k)) q.xs w1 (cell_of_row w1 _ _ _ _ (0,0) (hs.cel (k:=4) J)) (JQ (hs.cel (k:=4) J)) (DX (hs.all 1 _ J).1 (by rw [List.getElem?_map,hq];rfl)) (SB (hs.all 1 _ J).1) (by have:= (E8 (hs.all 3 _ J).1).pts;rw [vQ] at this;exact this) (yC (hs.all 2 _ J).1 hqm) (by omega) (by have:=hmem q hqm;omega))) ?_;refine S2 ?_
    exact Jb h_7 ⟨vb (by rw [show decide (0<j) =true from decide_eq_true hj0,jfe,XR,hq,he];rfl),sz⟩ (u9 J)
   ·refine S7 ?_
    exact Jb h_7 ⟨vb (by rw [show decide (0<j) =false from decide_eq_false (by omega),jfp]),sz⟩ (u9 J)
  ·refine v9 ?_;refine cZ (fun c2=> ?_) (fun c2=> ?_)
   ·simp only [jeF,decide_eq_true_eq] at c2
    obtain ⟨hj0,hle⟩ :=c2
    refine S10 ?_
    exact J8 hL2 (j- 1) (⟨by omega,fun q hq=>IG (by omega) hj0 hle hjq q hq⟩) (by omega) ⟨vi (by omega),sz⟩ (u9 J)
   ·have hins:VS wo e (srt wo l) = (srt wo l).take j++e:: (srt wo l).drop j:=Tx Bc (wj Bc l) (by omega) hjq (IH (by omega) c2)
    refine S8 ?_;refine Jp J J (vr) J (lb J) (fun b4=> ?_);refine vR 5 1 J J ?_;refine N2 ?_;refine a9 (kb J J J jI (by omega)) ?_;refine S1 ?_;refine JL (k:=5) rfl jI Jn (by decide) rfl (by decide) rfl rfl rfl (fun w' hs=>jcd (hs.all 1 _ rfl).1 hjk) ((fun u hu=>by obtain ⟨q,_,rfl⟩ :=je7.1 (jfj hu);rfl)) (by unfold maxLen;omega) (by omega) (jeD _) (fun r1=> ?_);refine N7 ?_;refine Jp J J (qz J) J (lb J) (fun b5=> ?_);refine N1 ?_;refine JL (k:=5) J jI Jn (by decide) J (by decide) J J J (fun w' hs=>q6 hs (k:=6) J J) (by simp [Value.oneCell']) (by unfold maxLen;omega) (by omega) (jeD _) (fun r2=> ?_);refine N6 ?_;refine a9 (KL J J J jI (by omega)) ?_;refine S1 ?_;refine JL (k:=5) rfl jI Jn (by decide) rfl (by decide) rfl rfl rfl (fun w' hs=>jce (hs.all 1 _ rfl).1 hjk) ((fun u hu=>by obtain ⟨q,_,rfl⟩ :=je7.1 (jfy hu);rfl)) (by unfold maxLen;omega) (by omega) (jeD _) (fun r3=> ?_);refine N2 ?_;refine VY 2 3 J J (by decide) J ?_;refine ji (by simp only [jeL,jeG,jeM,jeO,jeJ,jeI,Value.cells,jeK];rfl) ?_;refine S7 ?_
    exact j8 hL1 ((k+1,r3,l++ [e])) (⟨show k+1≤n by omega,by rw [jfa,hmp,vk (by rw [jeX];omega),T5 (by omega),he];rfl⟩) (by simp only;omega) ⟨(by rw [show 0+j+1+ (k- j) =k+1 by omega];rfl),vi (by omega),sz⟩ (fun _ h=> (h.picks [0,4,2] (by decide)).upto ⟨J,by rw [MH,hins,show 0+j+1+ (k- j) =k+1 by omega,jfa,jeZ,List.map_take,List.map_drop,he];simp [Pc.val,vQ],by rw [he];exact(vf _ _).symm,trivial⟩)
 ·have hkn:k=n:= (by omega)
  subst hkn
  refine Tf 2 J (MG (lt:=wo) (l:=l)).symm ?_;refine ji (by simp only [jeL,jeG,jeM,jeO,jeJ,jeI,Value.cells,jeK];rfl) ?_;refine S8 ?_;refine a9 (JV J J (Z1 J)) ?_;refine S4 ?_;refine jL J (J3 (k:=0) J jn J J) ?_
  intro w' hs
  have hrs: (srt wo l).map (·.xs) =VD rs:= (by rw [TG,hmp,jfb (by rw [jeX];omega)];rfl)
  exact⟨rA,rc,rfl,TU hs (kr:=1) (kp:=2) rfl rfl (by decide) rfl hsl hrs (fun j hj=>by have:=Ml hok hj;omega),hs.fin⟩
def intOf:Option Value→Int
 | some (.int _ x) =>x
 | _=>0
def xo (w:World) :Value→List Pn
 | .slice (some p) n _=> (List.range n).map fun k=> (intOf (w.cell? ⟨p.block,p.off+k*2,none⟩),intOf (w.cell? ⟨p.block,p.off+k*2+1,none⟩))
 | _=> []
theorem xp {w:World} {A:Option Addr} {n c:Nat} {xs:List Pn} (h:Pts w A n xs) :xo w (.slice A n c) =xs:=by
 have hl:=h.1
 by_cases h0:0<n
 ·obtain ⟨b,o,rfl,_,hc⟩ :=h.2 h0
  apply jfR
  ·simp [xo,hl]
  ·intro k h1 h2
   simp only [xo,jfK,jgb]
   rw [(hc k (by omega)).1,(hc k (by omega)).2,Ya h2]
   rfl
 ·obtain rfl:n=0:=by omega
  obtain rfl:xs= [] :=je9 hl
  cases A<;>rfl
theorem Ra {w w':World} {A:Option Addr} {n:Nat} {xs:List Pn} {X:List Nat} (h:Pts w A n xs) (ho:Ovx ⟨w,X⟩ w') (hA:0<n→wN A∉X) :Pts w' A n xs:=⟨h.1,fun h0=>by
 obtain ⟨b,o,rfl,hb,hc⟩ :=h.2 h0
 have e:w'.heap[b]? =w.heap[b]? :=ho.block b hb (hA h0)
 refine⟨b,o,J,jeR hb ho.size,fun k hk=> ?_⟩
 rw [World.cell?_of_block (a:=⟨b,o+k*2,none⟩) e,World.cell?_of_block (a:=⟨b,o+k*2+1,none⟩) e]
 exact hc k hk⟩
theorem Er {w:World} {l:List Pc} (hP: (ve l).P w) :∀x∈l,∀y∈l,Qr (fun u v=>WG (xo w u) (xo w v)) x.val y.val=wo x y:=fun x hx y hy=>by
 have e:WG (xo w x.val) (xo w y.val) =WG x.xs y.xs:=by rw [Pc.val,Pc.val,xp (yC hP hx),xp (yC hP hy)]
 exact decide_eq_decide.2 (by show WG (xo w x.val) (xo w y.val) <0↔_;rw [e])
theorem OD {w:World} {w0:Bs} {Rs:List Res} (hs:St w0 Rs w) {kr kp B n:Nat} {l:List Pc} {x:Option Addr×Nat} (hr:Rs[kr]? =some (JP B 71 1 n (l.map Pc.val) x)) (hp:Rs[kp]? =some (ve l)) (hne:kr≠kp) (hl:l.length=n)
  (hb:∀e∈l,e.xs.length≤1048577∧∀p∈e.xs,zJ p) (hn:n≤1099511627776) :
  Calls Tryz.prog 80 #[.slice x.1 n x.2, .func (.func 81) #[] #[]] w fun e w'=>e= .returned (.tuple #[])∧Wrs (JP B 71 1 n (l.map Pc.val) x).F w w'∧(JP 0 71 1 n ((srt wo l).map Pc.val) x).P w':=by
 have hrow:w.ownsRow B 71 1 (.slice x.1 n x.2) n (l.map Pc.val) := (hs.all kr _ hr).1
 have hP: (ve l).P w:= (hs.all kp _ hp).1
 rcases hrow.2 with⟨e,e2⟩ |⟨g,cap,cur,e,hbg,hg,hcap,hmax,hsz,htk⟩
 ·subst e2
  obtain rfl:l= [] :=je9 hl
  refine(PU x.1 x.2 _ w).mono ?_
  rintro e' w' ⟨rfl,hO⟩
  refine⟨J,Wrs.of hO,?_⟩
  show w'.ownsRow 0 71 1 (.slice x.1 0 x.2) 0 _
  rw [e]
  exact World.ownsRow_nil _ _ _ _
 ·injection e with e1 e3 e4
  have hF:∀b,b=g→(JP B 71 1 n (l.map Pc.val) x).F b:=by
   rintro b rfl
   show Value.ownBlock (.slice x.1 n x.2) =some _
   rw [e1]
   rfl
  have hcl:cur.toList.length=cap:=by simp [hsz]
  rw [jfz] at htk
  have hcur:cur= (l.map Pc.val++cur.toList.drop n).toArray:=by
   rw [←htk,jeU,jfJ]
  have hap:∀e∈l,0<e.xs.length→wN e.A∉ [g] :=fun e he h0 hm=>by
   have hm':wN e.A=g:=by simpa using hm
   have h1:= (hP.1 e.res (je7.2 ⟨e,he,rfl⟩)).1
   obtain ⟨b,o,T',cs,hA,hlo,hhi,_⟩ := (E8 h1).2 h0
   refine hs.apart kr kp _ _ hne hr hp g (hF g J) ⟨e.res,je7.2 ⟨e,he,J⟩,?_⟩
   rw [hA] at hm'
   exact⟨hm'▸hlo,hm'▸hhi⟩
  have hC:CmpOk w g (·∈l.map Pc.val) (fun u v=>WG (xo w u) (xo w v)) :=by
   refine⟨fun u hu v hv w' ho=> ?_,Bb.by (xo w),fun u hu=> ?_⟩
   ·obtain ⟨e,he,rfl⟩ :=je7.1 hu
    obtain ⟨f,hf,rfl⟩ :=je7.1 hv
    have:=hb e he
    have:=hb f hf
    rw [Pc.val,Pc.val,xp (yC hP he),xp (yC hP hf)]
    exact HC _ _ _ _ _ _ e.xs f.xs w' (Ra (yC hP he) ho (hap e he)) (Ra (yC hP hf) ho (hap f hf)) (hb e he).2 (hb f hf).2 (by omega) (by omega)
   ·obtain ⟨e,he,rfl⟩ :=je7.1 hu
    rfl
  have:=SH g 71 (l.map Pc.val) (cur.toList.drop n) n x.2 _ _ w hC (by rw [←hcur];exact hg) (by rw [jeX,hl]) hn (fun u hu=>hu)
  rw [e1]
  refine this.mono ?_
  rintro e' w' ⟨rfl,hw,hh⟩
  refine⟨J,⟨hw.os,hw.tape,hw.output,hw.size,fun c hc hnc=>hw.block c hc (fun ec=>hnc (hF c ec))⟩,?_⟩
  have em:srt (Qr fun u v=>WG (xo w u) (xo w v)) (l.map Pc.val) = (srt wo l).map Pc.val:=D6 (Er hP)
  rw [em] at hh
  have hml: ((srt wo l).map Pc.val).length=n:=by rw [jeX,Qf,hl]
  refine⟨by rw [hml,jfz], .inr ⟨g,x.2,_,by rw [e1],jeE _,hh,by rw [e4];exact hcap,by rw [e4];exact hmax,?_,?_⟩⟩
  ·rw [jfu,jeC,hml,je2,hcl,e4]
   omega
  ·rw [jfz,jeK,List.take_append_of_le_length (by omega),jfb (by omega)]
def RingsC (w:World) (A:Option Addr) (n:Nat) (rs:List jS) :Prop:=
 rs.length=n∧(0<n→∃b o,A=some ⟨b,o,none⟩∧b<w.heap.size∧∀k,k<n→∃Ak ck,w.cell? ⟨b,o+k,none⟩ =some (.slice Ak (rg rs k).length ck)∧Pts w Ak (rg rs k).length (rg rs k)∧(rg rs k).length≤ck)
theorem RingsC.over {w w':World} {A:Option Addr} {n:Nat} {rs:List jS} (h:RingsC w A n rs) (hb:Over w w') :RingsC w' A n rs:=by
 refine⟨h.1,fun hn=> ?_⟩
 obtain ⟨b,o,hA,hlt,hc⟩ :=h.2 hn
 refine⟨b,o,hA,jeR hlt hb.size,fun k hk=> ?_⟩
 obtain ⟨Ak,ck,h1,h2,h3⟩ :=hc k hk
 exact⟨Ak,ck,((Ji hb).1 b _ hlt).trans h1,h2.over hb,h3⟩
theorem RingsC.at_ {w:World} {A:Option Addr} {n k:Nat} {rs:List jS} (h:RingsC w A n rs) (hk:k<n) :
  ∃b o Ak ck,A=some ⟨b,o,none⟩∧b<w.heap.size∧w.cell? ⟨b,o+k,none⟩ =some (.slice Ak (rg rs k).length ck)∧Pts w Ak (rg rs k).length (rg rs k)∧(rg rs k).length≤ck:=by
 obtain ⟨b,o,hA,hb,hc⟩ :=h.2 (by omega)
 obtain ⟨Ak,ck,h1,h2,h3⟩ :=hc k hk
 exact⟨b,o,Ak,ck,hA,hb,h1,h2,h3⟩
theorem Mm {w:World} {w0:Bs} {Rs:List Res} (hs:St w0 Rs w) {kr kp B T n:Nat} {l:List Pc} {x:Option Addr×Nat} (hr:Rs[kr]? =some (JP B T 1 n (l.map Pc.val) x)) (hp:Rs[kp]? =some (ve l)) (hl:l.length=n) (hc:∀e∈l,e.xs.length≤e.c) :RingsC w x.1 n (l.map (·.xs)) :=by
 have hrow:w.ownsRow B T 1 (.slice x.1 n x.2) n (l.map Pc.val) := (hs.all kr _ hr).1
 have hP: (ve l).P w:= (hs.all kp _ hp).1
 refine⟨by rw [jeX,hl],fun h0=> ?_⟩
 obtain ⟨g,hg⟩ :=K2 hr hs h0
 rw [hg] at hrow⊢
 refine⟨g,0,J,SB hrow,fun k hk=> ?_⟩
 have hkl:k<l.length:=by omega
 have hm:=jeW hkl
 rw [Uv hkl]
 refine⟨l[k].A,l[k].c,?_,yC hP hm,hc _ hm⟩
 have:=DX hrow (j:=k) (v:=l[k].val) (by rw [List.getElem?_map,List.getElem?_eq_getElem hkl];rfl)
 rw [jfz] at this
 exact this
theorem Kv (A:Option Addr) (n c:Nat) (rs:List jS) (w:World) (h:RingsC w A n rs) (hok:okRs rs) :
  Calls Tryz.prog 45 #[Ju A n c] w fun e w'=>∃A' c',e= .returned (Ju A' n c')∧OwnG w.heap.size w'.heap.size w' A' n (VD rs)∧Over w w':=by
 have hl:=h.1
 have hn40:=hok.1
 refine jU (m:=25) (Tryz.func45) J J (lb J) ?_;refine S3 ?_;refine aX (fun b1=> ?_);refine N1 ?_;refine aL (fun b2=> ?_);refine N4 ?_;refine aL (fun b3=> ?_);refine N1 ?_;refine kz (T:=71) (s:=1) ?_;refine ji (by simp only [jeL,jeG,jeM,jeO,jeJ,jeI,Value.cells,jeK];rfl) ?_;refine vF ?_;refine ji (by simp only [jeL,jeG,jeM,jeO,jeJ,jeI,Value.cells,jeK];rfl) ?_;refine S9 ?_;refine JI (X:=Nat×(Option Addr×Nat)×List Pc) (fun x=>x.1≤n∧x.2.2.map (·.xs) = (rs.map Wl).take x.1) (fun x=>n- x.1) (fun x=> [(9, .int .i64 (x.1:Int))]) (kK [2,3,7,8]) (fun x=> [.cel b1 29 [.slice A n c], .cel b2 29 [.slice none 0 0], .cel b3 29 [.slice x.2.1.1 x.1 x.2.1.2],JP (Bs.N ⟨w,[]⟩) 71 1 x.1 (x.2.2.map Pc.val) x.2.1,ve x.2.2]) (0,(none,0),[]) (⟨jeE _,J⟩) ⟨J,sz⟩ (fun _ h=>h) ?_
 intro⟨k,⟨rA,rc⟩,l⟩ hx L hL1
 refine v9 ?_;refine ji (by first | (dsimp only;done) | (dsimp only;rfl) | rfl) ?_
 have hk:k≤n:=hx.1
 have hmp:l.map (·.xs) = (rs.map Wl).take k:=hx.2
 have hlk:l.length=k:= (by have:=congrArg List.length hmp;rw [jeX,jeV,jeX] at this;omega)
 refine S5 ?_;refine cZ (fun c1=> ?_) (fun c1=> ?_)
 ·have hlt:k<n:= (by omega)
  obtain ⟨bb,oo,Ak,ck,rfl,hbB,hcell,hpts,hck⟩ :=h.at_ hlt
  obtain ⟨hr0,hr1,hr2⟩ :=hok.at_ (show k<rs.length by omega)
  refine S7 ?_;refine a9 (jj J J JH J (ZM hcell hbB)) ?_;refine S1 ?_;refine aL (fun b4=> ?_);refine N4 ?_;refine Jw 5 ?_;refine dV 0 [1] ?_;refine dK 1 ?_;refine dV 2 [3] ?_;refine Jh (i:=3) J (by decide) (by kernel_rfl) J ?_;refine jP XY (v:=fun x=> .agg #[.slice x.1 _ x.2]) (r:=fun x=>JP 0 54 2 _ _ x) (H:=fun _=>True) J J J (lb J) (fun w1 hs=>TR (Fe Ak _ ck (rg rs k) w1 (hpts.over hs.fin) hr0 hck hr2 hr1)) ?_
  rintro⟨cA,cc⟩ -
  refine n9 ?_;refine Q5 (u9 J) ?_;refine Jh (i:=4) J (by decide) (by kernel_rfl) J ?_;refine Jp J J (qz J) J (lb J) (fun b5=> ?_);refine n9 ?_;refine jJ (u9 J) ?_;refine K4 J (by kernel_rfl) J ?_;refine JL (k:=3) J jI Jn (by decide) J (by decide) J J J (fun w' hs=>q6 hs (k:=7) J J) (by simp [Value.oneCell']) (by unfold maxLen;omega) (by omega) (jeD _) (fun r1=> ?_);refine n9 ?_;refine Q8 8 [2] ?_;refine dK 6 ?_;refine Jh (i:=7) J (by decide) (by kernel_rfl) J ?_;refine S1 ?_;refine jJ (uw [2] J) ?_;refine Jj (by kernel_rfl) ?_;refine zT 6 J vQ (fun clo chi=> ?_);refine ji (by simp only [jeL,jeG,jeM,jeO,jeJ,jeI,Value.cells,jeK];rfl) ?_;refine VY 4 6 J J (by decide) J ?_;refine ji (by simp only [jeL,jeG,jeM,jeO,jeJ,jeI,Value.cells,jeK];rfl) ?_;refine S6 ?_
  exact j8 hL1 ((k+1,r1,l++ [⟨Wl (rg rs k),cA,cc,clo,chi⟩])) (⟨show k+1≤n by omega,by rw [jfa,hmp,vk (by rw [jeX];omega),T5 (by omega)];rfl⟩) (by simp only;omega) ⟨vi (by omega),sz⟩ (fun _ h=>h.upto ⟨J,J,J,by rw [jfa];simp [Pc.val,vQ],(vf _ _).symm,trivial⟩)
 ·have hkn:k=n:= (by omega)
  subst hkn
  have hall:l.map (·.xs) =rs.map Wl:= (by rw [hmp,jfb (by rw [jeX];omega)])
  have hbd:∀e∈l,e.xs.length≤1048577∧∀p∈e.xs,zJ p:= (fun e he=>by obtain ⟨r,hr,e2⟩ :=je7.1 (hall▸je7.2 ⟨e,he,rfl⟩ :e.xs∈rs.map Wl);rw [←e2];exact⟨by rw [vQ];exact(hok.2 r hr).2.1,fun p hp=> (hok.2 r hr).2.2 p (Cb.1 hp)⟩)
  refine S10 ?_;refine QB (k:=3) (r':=JP 0 71 1 k ((srt wo l).map Pc.val) (rA,rc)) KQ J J J (by decide) J (fun w1 hs=>OD hs (kr:=3) (kp:=4) J J (by decide) hlk hbd (by omega)) (fun _ h=>h) J ?_;refine N1 ?_;refine Tf 4 J (MG (lt:=wo) (l:=l)).symm ?_;refine ji (by simp only [jeL,jeG,jeM,jeO,jeJ,jeI,Value.cells,jeK];rfl) ?_;refine S7 ?_;refine jL J (J3 (k:=1) J jn J J) ?_
  intro w' hs
  have hrs: (srt wo l).map (·.xs) =VD rs:= (by rw [TG,hall];rfl)
  exact⟨rA,rc,rfl,TU hs (kr:=3) (kp:=4) rfl rfl (by decide) rfl ((Qf l).trans hlk) hrs (fun j hj=>by have:=Ml hok hj;omega),hs.fin⟩
end Go.Proofs.YtkagkgjjfdkoaaaGreat
