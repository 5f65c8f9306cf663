import Derived.Test.YtbahojdbmmjkcaaGreatSNums
import Derived.Test.YtbahojdbmmjkcaaGreatSHot
set_option linter.unusedVariables false
set_option linter.unusedSimpArgs false
namespace Go.Proofs.YtbahojdbmmjkcaaGreat
open Go Go.RowKit
variable {A:Option Addr} {K:Act→World→Prop} {Rs:List Res} {env:List (Nat×Value)} {k m:Nat} {l xs ys:List Pn} {p q:Pn} {w0:Bs} {x:Option Addr×Nat}
set_option maxRecDepth 100000
set_option maxHeartbeats 4000000
def bdH (p:Pn) :Prop:= (-1048576≤p.1∧p.1≤1048576)∧-1048576≤p.2∧p.2≤1048576
theorem bd2.mid (h:bd2 p) :bdH p:=by
 obtain ⟨⟨h1,h2⟩,h3,h4⟩ :=h
 exact⟨⟨by omega,by omega⟩,by omega,by omega⟩
theorem bdH.wide (h:bdH p) :YZ p:=by
 obtain ⟨⟨h1,h2⟩,h3,h4⟩ :=h
 exact⟨⟨by omega,by omega⟩,by omega,by omega⟩
theorem jhb (a b c:Pn) (w:World) (ha:bdH a) (hb:bdH b) (hc:bdH c) :Calls Tryz.prog 161 #[pV a,pV b,pV c] w fun e w'=>e= .returned (.int .i64 (tn a b c))∧Over w w':=
 Zg _ _ _ _ _ _ w ha.1.1 ha.1.2 ha.2.1 ha.2.2 hb.1.1 hb.1.2 hb.2.1 hb.2.2 hc.1.1 hc.1.2 hc.2.1 hc.2.2
theorem jaf (a b c:Pn) (w:World) (ha:bdH a) (hb:bdH b) (hc:bdH c) :Calls Tryz.prog 128 #[pV a,pV b,pV c] w fun e w'=>e= .returned (.int .i64 (tn a b c))∧Over w w':=
 uj _ _ _ _ _ _ w ha.1.1 ha.1.2 ha.2.1 ha.2.2 hb.1.1 hb.1.2 hb.2.1 hb.2.2 hc.1.1 hc.1.2 hc.2.1 hc.2.2
theorem Ws (h:k<xs.length) :pt xs k∈xs:=by rw [←kB h];exact jir h
theorem je6 (h:k<m) :pt (xs.take m) k=pt xs k:=by
 simp only [pt,px,py,List.getD,List.getElem?_take,if_pos h]
def wL (xs:List Pn) (p:Pn) :Nat→Nat
 | 0=>0
 | 1=>1
 | k+2=>if tn (pt xs k) (pt xs (k+1)) p≤0 then wL xs p (k+1) else k+2
theorem SM (xs:List Pn) (p:Pn) :∀k,wL xs p k≤k
 | 0=>jif _
 | 1=>jif _
 | k+2=>by
  unfold wL
  split
  ·have:=SM xs p (k+1);omega
  ·exact jif _
theorem DX (xs:List Pn) (p:Pn) :∀k,0<k→0<wL xs p k
 | 0,h=>h
 | 1,_=>Nat.zero_lt_one
 | k+2,_=>by
  unfold wL
  split
  ·exact DX xs p (k+1) Om
  ·omega
theorem NO (h:¬(1<m∧tn (pt xs (m- 2)) (pt xs (m- 1)) p≤0)) :wL xs p m=m:=by
 match m,h with
 | 0,_=>rfl
 | 1,_=>rfl
 | k+2,h=>
  unfold wL
  exact if_neg fun h1=>h ⟨by omega,h1⟩
theorem M0 (h:1<m∧tn (pt xs (m- 2)) (pt xs (m- 1)) p≤0) :wL xs p (m- 1) =wL xs p m:=by
 match m,h with
 | k+2,h=>
  show wL xs p (k+1) =wL xs p (k+2)
  rw [wL.eq_3,if_pos (show tn (pt xs k) (pt xs (k+1)) p≤0 from h.2)]
def wT (xs:List Pn) (p:Pn) :List Pn:=xs.take (wL xs p xs.length) ++ [p]
def qO (l:List Pn) :List Pn:=l.foldl wT []
def ZY (l:List Pn) :List Pn:= (qO l).take ((qO l).length- 1)
def Xa (all:List Pn) :List Pn:=if all.length<3 then all else ZY all++ZY all.reverse
def kW (l:List Pn) :List Pn:=Xa (qF l)
theorem Ni (l:List Pn) (p:Pn) :qO (l++ [p]) =wT (qO l) p:=by simp [qO,jjQ]
theorem Zy (xs:List Pn) (p:Pn) :0< (wT xs p).length∧(wT xs p).length≤xs.length+1:=by
 have:=SM xs p xs.length
 rw [wT,jid,jim,jjm]
 omega
theorem jaG (h:q∈wT xs p) :q∈xs∨q=p:=by
 rcases jit.1 h with h | h
 ·exact .inl (jiL h)
 ·exact .inr (jin.1 h)
theorem MR (l:List Pn) :∀xs,(l.foldl wT xs).length≤xs.length+l.length∧∀q∈l.foldl wT xs,q∈xs∨q∈l:=by
 induction l with
 | nil=>intro xs;exact⟨jif _,fun q h=> .inl h⟩
 | cons p l ih=>
  intro xs
  obtain ⟨h1,h2⟩ :=ih (wT xs p)
  have:= (Zy xs p).2
  refine⟨by rw [ji7,jij];omega,fun q hq=> ?_⟩
  rcases h2 q hq with h | h
  ·rcases jaG h with h | h
   ·exact .inl h
   ·exact .inr (by rw [h];simp)
  ·exact .inr (jiz _ h)
theorem wJ (l:List Pn) : (qO l).length≤l.length:=by have:= (MR l []).1;simpa [qO] using this
theorem ET (h:q∈qO l) :q∈l:=by have:= (MR l []).2 q h;simpa using this
theorem xW (h:k<xs.length) :qO (xs.take (k+1)) =wT (qO (xs.take k)) (pt xs k) :=by
 rw [jik h,Ni,kB h]
theorem DG (h:0<l.length) :0< (qO l).length:=by
 have:=xW (xs:=l) (k:=l.length- 1) Om
 rw [show l.length- 1+1=l.length by omega,jiM] at this
 rw [this]
 exact(Zy _ _).1
theorem Y6 (h:k≤xs.length) : (qO (xs.take k)).length≤k:=by
 have:=wJ (xs.take k)
 rw [jim] at this
 omega
theorem Y7 (h:q∈qO (xs.take k)) :q∈xs:=jiL (ET h)
theorem wg (l:List Pn) : (ZY l).length= (qO l).length- 1:=by rw [ZY,jim];omega
theorem E9 (l:List Pn) : (Xa l).length≤2*l.length:=by
 unfold Xa
 split
 ·omega
 ·have h1:=wJ l
  have h2:=wJ l.reverse
  rw [jid,wg,wg]
  rw [jjF] at h2
  omega
theorem zp (l:List Pn) : (kW l).length≤2*l.length:=jiY (E9 _) (Nat.mul_le_mul_left _ (wE l))
theorem OT (h:0<l.length) :0< (qF l).length:=by
 obtain ⟨p,hp⟩ :=List.exists_mem_of_length_pos h
 exact List.length_pos_of_mem ((wF l p).2 hp)
theorem SL (h:0<xs.length) : (wT xs p).head?=xs.head?:=by
 have h1:=DX xs p xs.length h
 unfold wT
 match xs,h with
 | q::xs,_=>
  obtain ⟨j,hj⟩ :∃j,wL (q::xs) p (q::xs).length=j+1:=⟨_,(Nat.succ_pred_eq_of_pos h1).symm⟩
  rw [hj]
  rfl
theorem NF (l:List Pn) :∀xs:List Pn,0<xs.length→(l.foldl wT xs).head?=xs.head?:=by
 induction l with
 | nil=>intro xs _;rfl
 | cons p l ih=>
  intro xs h
  rw [ji7,ih _ (Zy xs p).1,SL h]
theorem Nj:∀l:List Pn,(qO l).head?=l.head?
 | [] =>rfl
 | p::l=>by
  show(l.foldl wT (wT [] p)).head?=some p
  rw [NF _ _ (Zy [] p).1]
  rfl
theorem Nk (h:0<l.length) : (qO l)[(qO l).length- 1]? =l[l.length- 1]? :=by
 have:=xW (xs:=l) (k:=l.length- 1) Om
 rw [show l.length- 1+1=l.length by omega,jiM] at this
 rw [this,wT,jid,jjm,Nat.add_sub_cancel,List.getElem?_append_right (jif _),Nat.sub_self]
 have h2:l.length- 1<l.length:=by omega
 rw [List.getElem?_eq_getElem h2,kB h2]
 rfl
theorem Zm (h:2≤l.length) (hne:l[0]?≠l[l.length- 1]?) :2≤(qO l).length:=by
 have h1:=DG (l:=l) Om
 have h2:=Nk (l:=l) Om
 have h3:=Nj l
 rw [List.head?_eq_getElem?,List.head?_eq_getElem?] at h3
 rcases ji9 1 (qO l).length with h4 | h4
 ·exact h4
 ·rw [show(qO l).length- 1=0 by omega,h3] at h2
  exact absurd h2 hne
theorem xN (h:Asc l) (h2:2≤l.length) :l[0]?≠l[l.length- 1]? :=by
 intro e
 have:=jjc.1 h 0 (l.length- 1) Om Om Om
 rw [List.getElem?_eq_getElem Om,List.getElem?_eq_getElem Om] at e
 injection e with e
 rw [e] at this
 exact Q8 _ this
theorem jaa (ha:Asc l) (h:0<l.length) :0< (Xa l).length:=by
 unfold Xa
 split
 ·exact h
 ·have:=Zm Om (xN ha Om)
  rw [jid,wg]
  omega
theorem jb8 (h:0<l.length) :0< (kW l).length:=jaa (wD l) (OT h)
theorem TL {w:World} {B T m' c:Nat} (h:w.ownsRow B T 2 (.slice A m c) m ((ys.take m).flatMap jV)) (hm:m'≤m) (hy:m≤ys.length) (h0:0<m) :w.ownsRow 0 T 2 (.slice A m' c) m' ((ys.take m').flatMap jV) :=by
 refine⟨by rw [qV,jim,jiZ Om],?_⟩
 rcases h.2 with⟨e,_⟩ |⟨g,cap,cur,e,hb,hg,hcap,hmax,hsz,htk⟩
 ·omega
 ·injection e with e1 e2 e3
  subst e1 e3
  refine .inr ⟨g,c,cur,J,jie _,hg,by omega,hmax,hsz,?_⟩
  have:cur.toList.take (m'*2) = (cur.toList.take (m*2)).take (m'*2) :=by rw [List.take_take,jiZ Om]
  rw [this,htk,Br,List.take_take,jiZ hm]
theorem Mu {n:Nat} (k m':Nat) {B T:Nat} (hk:Rs[k]? =some (JS B T 2 m ((ys.take m).flatMap jV) x)) (hm:m'≤m) (hy:m≤ys.length) (h0:0<m) (h:At n env w0 (Rs.set k (JS 0 T 2 m' ((ys.take m').flatMap jV) x)) K) :At n env w0 Rs K:=fun a w hf hs=>
 h a w hf (hs.chg hk (fun hP=>TL hP hm hy h0) (fun c hc=>by obtain ⟨A,cc⟩ :=x;cases A<;>exact hc) rfl)
theorem IX {B T j g c:Nat} (hk:Rs[k]? =some (JS B T 2 m ((ys.take m).flatMap jV) (some ⟨g,0,none⟩,c))) (hm:m≤ys.length) (hj:j<m) :
  ∀w',St w0 Rs w'→∀q v,[Value.int .i64 (px ys j),Value.int .i64 (py ys j)][q]? =some v→w'.cell? ⟨g,0+j*2+q,none⟩ =some v:=fun w' hs q v hv=>by
 have hp:=kE (hs.all k _ hk).1 (by rw [jim];omega)
 have e:pt (ys.take m) j=pt ys j:=je6 hj
 refine Q4 (Rs:= []) hp hj w' (St.start w') q v ?_
 rw [show px (ys.take m) j=px ys j from congrArg Prod.fst e,show py (ys.take m) j=py ys j from congrArg Prod.snd e]
 exact hv
theorem jgY {B T j g c:Nat} (hk:Rs[k]? =some (JS B T 2 m (ys.flatMap jV) (some ⟨g,0,none⟩,c))) (hj:j<m) :
  ∀w',St w0 Rs w'→∀q v,[Value.int .i64 (px ys j),Value.int .i64 (py ys j)][q]? =some v→w'.cell? ⟨g,0+j*2+q,none⟩ =some v:=fun w' hs q v hv=>by
 have hr:w'.ownsRow B T 2 (.slice (some ⟨g,0,none⟩) m c) m (ys.flatMap jV) := (hs.all k _ hk).1
 have hm:ys.length=m:=by have:=hr.1;rw [qV] at this;omega
 exact Q4 (Rs:= []) (kE hr hm) hj w' (St.start w') q v hv
theorem CV (h:wL ys p m=wL ys p ys.length) (hs:¬(1<m∧tn (pt ys (m- 2)) (pt ys (m- 1)) p≤0)) (hm:m≤ys.length) :wT ys p=ys.take m++ [p]∧(wT ys p).length=m+1:=by
 have e:wT ys p=ys.take m++ [p] :=by rw [wT,←h,NO hs]
 exact⟨e,by rw [e,jid,jim,jjm];omega⟩
theorem SB (A:Option Addr) (n c:Nat) (xs:List Pn) (w:World) (h:Pts w A n xs) (hx:∀p∈xs,bdH p) (h0:0<n) (hn:n≤1048576) :
  Calls Tryz.prog 203 #[.slice A n c] w fun e w'=>∃v,e= .returned v∧w'.ownsRow w.heap.size 28 2 v (ZY xs).length ((ZY xs).flatMap jV)∧Over w w':=by
 have hl:=h.1
 refine jK (m:=47) (Tryz.func203) J J (lb J) ?_;refine S7 ?_;refine Q7 (T:=28) (s:=2) ?_;refine N1 ?_;refine YW 0 J ?_;refine t9 ?_;refine S8 ?_;refine JE (X:=Nat×Option Addr×Nat) (fun x=>x.1≤n) (fun x=>n- x.1) (fun x=> [(3, .slice x.2.1 (qO (xs.take x.1)).length x.2.2),(8, .int .i64 (x.1:Int))]) (kK [2,6,7]) (fun x=> [JS 0 28 2 (qO (xs.take x.1)).length ((qO (xs.take x.1)).flatMap jV) x.2]) (0,none,0) (jie _) ⟨J,sz⟩ (fun _ h=>h) ?_
 intro⟨k,rA,rc⟩ hk L hL1
 refine v9 ?_;refine r9 ?_
 have hk:k≤n:=hk
 refine S5 ?_;refine cZ (fun c1=> ?_) (fun c1=> ?_)
 ·have hlt:k<n:=Om
  obtain ⟨eb,eo,rfl,_⟩ :=h.2 Om
  have hcl:=Y6 (xs:=xs) (k:=k) Om
  have hst:=xW (xs:=xs) (k:=k) Om
  have hbp:=hx _ (Ws (show k<xs.length by omega))
  have hbq:∀j,j< (qO (xs.take k)).length→bdH (pt (qO (xs.take k)) j) :=fun j hj=>hx _ (Y7 (Ws hj))
  generalize qO (xs.take k) =ys at hcl hst hbq⊢
  refine S7 ?_;refine a9 (jk J J jj J (Q4 h hlt)) ?_;refine S1 ?_;refine aL (fun b1=> ?_);refine N5 ?_;refine JE (X:=Nat) (fun m=>m≤ys.length∧wL ys (pt xs k) m=wL ys (pt xs k) ys.length) (fun m=>m) (fun m=> [(3, .slice rA m rc)]) (kK [2,6,7,8,9,10,11,5]) (fun m=> [JS 0 28 2 m ((ys.take m).flatMap jV) (rA,rc), .cel b1 28 [.int .i64 (px xs k), .int .i64 (py xs k)]]) ys.length (⟨jif _,J⟩) ⟨J,sz⟩ (fun _ h=>h.upto ⟨by rw [jiM],sz⟩) ?_
  intro m hm L hL2
  refine v9 ?_;refine r9 ?_;refine S1 ?_;refine qr [(31, .bool (decide (1<m∧tn (pt ys (m- 2)) (pt ys (m- 1)) (pt xs k)≤0)))] (kK [2,6,7,8,9,10,11,5,3]) (fun L h_5=> ?_) ?_
  ·refine S1 ?_;refine JH 20 ?_;refine dK 0 ?_;refine dK 1 ?_;refine dK 2 ?_;refine dK 3 ?_;refine cV 15 (fun g1=> ?_) (fun g1=> ?_)
   ·have hm1:1<m:=Om
    refine qR (fun w hs=>kI (k:=0) J hs Om) ?_
    rintro⟨eg,rfl⟩
    refine eK 4 ?_;refine eK 5 ?_;refine eK 6 ?_;refine eZ 7 J ((JC J J J Om Om).as (congrArg _ (show((m:Int) - 2) = ((m- 2:Nat) :Int) by omega))) ?_;refine eK 8 ?_;refine eZ 9 J (jk J J jj J (IX (k:=0) J hm.1 Om)) ?_;refine eK 10 ?_;refine eK 11 ?_;refine eK 12 ?_;refine eZ 13 J ((JC J J J Om Om).as (congrArg _ (show((m:Int) - 1) = ((m- 1:Nat) :Int) by omega))) ?_;refine eK 14 ?_;refine eZ 15 J (jk J J jj J (IX (k:=0) J hm.1 Om)) ?_;refine eK 16 ?_;refine eZ 17 J (jG kZ J J (fun w _=>jhb (pt ys (m- 2)) (pt ys (m- 1)) (pt xs k) w (hbq _ Om) (hbq _ Om) hbp)) ?_;refine eK 18 ?_;refine dK 19 ?_;refine JB Kr ?_;refine S1 ?_
    exact Js h_5 ⟨vb (by simp;omega),sz⟩ (u9 J)
   ·refine fK 4 ?_;refine fK 5 ?_;refine fK 6 ?_;refine fK 7 ?_;refine fK 8 ?_;refine fK 9 ?_;refine fK 10 ?_;refine fK 11 ?_;refine fK 12 ?_;refine fK 13 ?_;refine fK 14 ?_;refine fK 15 ?_;refine fK 16 ?_;refine fK 17 ?_;refine fK 18 ?_;refine dK 19 ?_;refine JB Kr ?_;refine S1 ?_
    exact Js h_5 ⟨vb (by simp;omega),sz⟩ (u9 J)
  ·refine v9 ?_;refine cZ (fun c2=> ?_) (fun c2=> ?_)
   ·have hm1:1<m:=Om
    refine qR (fun w hs=>kI (k:=0) J hs Om) ?_
    rintro⟨eg,rfl⟩
    refine qR (fun w hs=>v6 (hs.all 0 _ J).1) ?_
    intro hcap
    refine S7 ?_;refine a9 ((JC J J J Om Om).as (congrArg _ (show((m:Int) - 1) = ((m- 1:Nat) :Int) by omega))) ?_;refine a9 ((QS J J J jl Om).as (vf _ _ _ _ _)) ?_;refine S2 ?_;refine Mu 0 (m- 1) J Om hm.1 Om ?_;refine t9 ?_;refine S2 ?_
    exact Jd hL2 (m- 1) (⟨by omega,(M0 c2).trans hm.2⟩) Om ⟨J,sz⟩ (u9 J)
   ·obtain ⟨he,hel⟩ :=CV hm.2 c2 hm.1
    refine S9 ?_;refine jX J J (J9 J) J (lb J) (fun b2=> ?_);refine N1 ?_;refine JK (k:=0) J jl jD Dc J Dc J J J (fun w' hs=>qD hs (k:=2) J J) (by simp [Value.oneCell']) (by unfold maxLen;omega) Om (jie _) (fun r1=> ?_);refine N8 ?_
    exact Jd hL1 ((k+1,r1)) ((show k+1≤n by omega)) (by simp only;omega) ⟨(by rw [hst,hel];rfl),vi Om,sz⟩ (fun _ h=>h.upto ⟨by rw [hst,hel,he,jii];rfl,trivial⟩)
 ·have hkn:k=n:=Om
  subst hkn
  have htk:xs.take k=xs:=jiu Om
  rw [htk]
  have hcp:=DG (l:=xs) Om
  have hcl:=wJ xs
  refine qR (fun w hs=>kI (k:=0) J hs hcp) ?_
  rintro⟨eg,rfl⟩
  refine qR (fun w hs=>v6 (hs.all 0 _ J).1) ?_
  intro hcap
  have htl: (qO xs).take (qO xs).length=qO xs:=jiM
  refine S10 ?_;refine a9 ((JC J J J Om Om).as (congrArg _ (show(((qO xs).length:Int) - 1) = (((qO xs).length- 1:Nat) :Int) by omega))) ?_;refine a9 ((QS J J J jl Om).as (vf _ _ _ _ _)) ?_;refine S3 ?_;refine jJ J (.tmp J) ?_
  intro w' hs
  have hr:=hs.all 0 _ rfl
  have hr1:w'.ownsRow 0 28 2 (.slice (some ⟨eg,0,none⟩) (qO xs).length rc) (qO xs).length (((qO xs).take (qO xs).length).flatMap jV) :=by rw [htl];exact hr.1
  have hr2:=TL (m':= (qO xs).length- 1) hr1 Om (jif _) hcp
  exact⟨_,rfl,by rw [wg];exact Q5 hr2 (fun b hb=> (hr.2.1 b hb).elim id (fun h=>by cases h)),hs.fin⟩
theorem Xg (A:Option Addr) (n c:Nat) (xs:List Pn) (w:World) (h:Pts w A n xs) (hx:∀p∈xs,bdH p) (hn:n≤1048576) :
  Calls Tryz.prog 195 #[.slice A n c] w fun e w'=>∃v,e= .returned v∧w'.ownsRow w.heap.size 28 2 v (qO xs).length ((qO xs).flatMap jV)∧Over w w':=by
 have hl:=h.1
 refine jK (m:=48) (Tryz.func195) J J (lb J) ?_;refine S7 ?_;refine jX J J (Qk) J (lb J) (fun b1=> ?_);refine KQ 0 2 J J ?_;refine N2 ?_;refine YW 0 J ?_;refine t9 ?_;refine S6 ?_;refine JE (X:=Nat×Option Addr×Nat) (fun x=>x.1≤n) (fun x=>n- x.1) (fun x=> [(3, .slice x.2.1 (qO (xs.take x.1)).length x.2.2),(4, .int .i64 (x.1:Int))]) (kK [0,2]) (fun x=> [JS 0 28 2 (qO (xs.take x.1)).length ((qO (xs.take x.1)).flatMap jV) x.2]) (0,some ⟨b1,0,none⟩,0) (jie _) ⟨J,sz⟩ (fun _ h=>h) ?_
 intro⟨k,rA,rc⟩ hk L hL1
 refine v9 ?_;refine r9 ?_
 have hk:k≤n:=hk
 refine S8 ?_;refine cZ (fun c1=> ?_) (fun c1=> ?_)
 ·have hlt:k<n:=Om
  obtain ⟨eb,eo,rfl,_⟩ :=h.2 Om
  have hcl:=Y6 (xs:=xs) (k:=k) Om
  have hst:=xW (xs:=xs) (k:=k) Om
  have hbp:=hx _ (Ws (show k<xs.length by omega))
  have hbq:∀j,j< (qO (xs.take k)).length→bdH (pt (qO (xs.take k)) j) :=fun j hj=>hx _ (Y7 (Ws hj))
  generalize qO (xs.take k) =ys at hcl hst hbq⊢
  refine S6 ?_;refine JE (X:=Nat) (fun m=>m≤ys.length∧wL ys (pt xs k) m=wL ys (pt xs k) ys.length) (fun m=>m) (fun m=> [(3, .slice rA m rc)]) (kK [0,2,4,6,7,8,9]) (fun m=> [JS 0 28 2 m ((ys.take m).flatMap jV) (rA,rc)]) ys.length (⟨jif _,J⟩) ⟨J,sz⟩ (fun _ h=>h.upto ⟨by rw [jiM],trivial⟩) ?_
  intro m hm L hL2
  refine v9 ?_;refine r9 ?_;refine S1 ?_;refine qr [(34, .bool (decide (1<m∧tn (pt ys (m- 2)) (pt ys (m- 1)) (pt xs k)≤0)))] (kK [0,2,4,6,7,8,9,3]) (fun L h_5=> ?_) ?_
  ·refine S1 ?_;refine JH 23 ?_;refine dK 0 ?_;refine dK 1 ?_;refine dK 2 ?_;refine dK 3 ?_;refine cV 15 (fun g1=> ?_) (fun g1=> ?_)
   ·have hm1:1<m:=Om
    refine qR (fun w hs=>kI (k:=0) J hs Om) ?_
    rintro⟨eg,rfl⟩
    refine eK 4 ?_;refine eK 5 ?_;refine eK 6 ?_;refine eZ 7 J ((JC J J J Om Om).as (congrArg _ (show((m:Int) - 2) = ((m- 2:Nat) :Int) by omega))) ?_;refine eK 8 ?_;refine eZ 9 J (jk J J jj J (IX (k:=0) J hm.1 Om)) ?_;refine eK 10 ?_;refine eK 11 ?_;refine eK 12 ?_;refine eZ 13 J ((JC J J J Om Om).as (congrArg _ (show((m:Int) - 1) = ((m- 1:Nat) :Int) by omega))) ?_;refine eK 14 ?_;refine eZ 15 J (jk J J jj J (IX (k:=0) J hm.1 Om)) ?_;refine eK 16 ?_;refine eK 17 ?_;refine eK 18 ?_;refine eZ 19 J (jk J J jj J (Q4 h hlt)) ?_;refine eZ 20 J (jG Qu J J (fun w _=>jaf (pt ys (m- 2)) (pt ys (m- 1)) (pt xs k) w (hbq _ Om) (hbq _ Om) hbp)) ?_;refine eK 21 ?_;refine dK 22 ?_;refine JB Kr ?_;refine S1 ?_
    exact Js h_5 ⟨vb (by simp;omega),sz⟩ (u9 J)
   ·refine fK 4 ?_;refine fK 5 ?_;refine fK 6 ?_;refine fK 7 ?_;refine fK 8 ?_;refine fK 9 ?_;refine fK 10 ?_;refine fK 11 ?_;refine fK 12 ?_;refine fK 13 ?_;refine fK 14 ?_;refine fK 15 ?_;refine fK 16 ?_;refine fK 17 ?_;refine fK 18 ?_;refine fK 19 ?_;refine fK 20 ?_;refine fK 21 ?_;refine dK 22 ?_;refine JB Kr ?_;refine S1 ?_
    exact Js h_5 ⟨vb (by simp;omega),sz⟩ (u9 J)
  ·refine v9 ?_;refine cZ (fun c2=> ?_) (fun c2=> ?_)
   ·have hm1:1<m:=Om
    refine qR (fun w hs=>kI (k:=0) J hs Om) ?_
    rintro⟨eg,rfl⟩
    refine qR (fun w hs=>v6 (hs.all 0 _ J).1) ?_
    intro hcap
    refine S7 ?_;refine a9 ((JC J J J Om Om).as (congrArg _ (show((m:Int) - 1) = ((m- 1:Nat) :Int) by omega))) ?_;refine a9 ((QS J J J jl Om).as (vf _ _ _ _ _)) ?_;refine S2 ?_;refine Mu 0 (m- 1) J Om hm.1 Om ?_;refine t9 ?_;refine S2 ?_
    exact Jd hL2 (m- 1) (⟨by omega,(M0 c2).trans hm.2⟩) Om ⟨J,sz⟩ (u9 J)
   ·obtain ⟨he,hel⟩ :=CV hm.2 c2 hm.1
    refine S10 ?_;refine a9 (jk J J jj J (Q4 h hlt)) ?_;refine S1 ?_;refine jX J J (J9 J) J (lb J) (fun b2=> ?_);refine N1 ?_;refine JK (k:=0) J jl jD Dc J Dc J J J (fun w' hs=>qD hs (k:=1) J J) (by simp [Value.oneCell']) (by unfold maxLen;omega) Om (jie _) (fun r1=> ?_);refine N9 ?_
    exact Jd hL1 ((k+1,r1)) ((show k+1≤n by omega)) (by simp only;omega) ⟨(by rw [hst,hel];rfl),vi Om,sz⟩ (fun _ h=>h.upto ⟨by rw [hst,hel,he,jii];rfl,trivial⟩)
 ·refine S11 ?_;refine jJ J (.tmp J) ?_
  intro w' hs
  have hkn:k=n:=by omega
  subst hkn
  have hr:=hs.all 0 _ rfl
  have htk:xs.take k=xs:=jiu Om
  rw [htk] at hr
  exact⟨_,by rw [htk],Q5 hr.1 (fun b hb=> (hr.2.1 b hb).elim id (fun h=>by cases h)),hs.fin⟩
theorem H4 (h:k<xs.length) :qF (xs.take (k+1)) =vx (qF (xs.take k)) (pt xs k) :=by
 rw [jik h,OS,kB h]
theorem HJ (A:Option Addr) (n c:Nat) (xs:List Pn) (w:World) (h:Pts w A n xs) (hx:∀p∈xs,bdH p) (hn:n≤500000) :
  Calls Tryz.prog 137 #[.slice A n c] w fun e w'=>∃v,e= .returned v∧w'.ownsRow w.heap.size 28 2 v (kW xs).length ((kW xs).flatMap jV)∧Over w w':=by
 have hl:=h.1
 have hpl:=wE xs
 have hpx:∀p∈qF xs,bdH p:=fun p hp=>hx p ((wF xs p).1 hp)
 refine jK (m:=60) (Tryz.func137) J J (lb J) ?_;refine S7 ?_;refine jX J J (Qk) J (lb J) (fun b1=> ?_);refine KQ 0 2 J J ?_;refine N2 ?_;refine YW 0 J ?_;refine t9 ?_;refine S6 ?_;refine JE (X:=Nat×Nat×Nat) (fun x=>x.1≤n) (fun x=>n- x.1) (fun x=> [(3, .slice (some ⟨x.2.1,0,none⟩) (qF (xs.take x.1)).length x.2.2),(4, .int .i64 (x.1:Int))]) (kK [0,2]) (fun x=> [uS (qF (xs.take x.1)) x.2]) (0,b1,0) (jie _) ⟨J,sz⟩ (fun _ h=>h) ?_
 intro⟨k,g,gc⟩ hk L hL1
 refine v9 ?_;refine r9 ?_
 have hk:k≤n:=hk
 refine S8 ?_;refine cZ (fun c1=> ?_) (fun c1=> ?_)
 ·have hlt:k<n:=Om
  obtain ⟨eb,eo,rfl,_⟩ :=h.2 Om
  have hpk:=wE (xs.take k)
  rw [jim] at hpk
  refine S9 ?_;refine a9 (jk J J jj J (Q4 h hlt)) ?_;refine S1 ?_;refine we (k:=0) (v:=fun x:Nat×Nat=> .slice (some ⟨x.1,0,none⟩) _ x.2) (r':=fun x=>uS _ x) Wo J J J Dc J (fun w1 hs=>CW (p:=pt xs k) (hs.all 0 _ J).1 Om) ?_
  rintro⟨g3,gc3⟩
  refine N9 ?_
  exact Jd hL1 ((k+1,g3,gc3)) ((show k+1≤n by omega)) (by simp only;omega) ⟨(by rw [H4 Om];rfl),vi Om,sz⟩ (fun _ h=>h.upto ⟨by rw [H4 Om],trivial⟩)
 ·have hkn:k=n:=Om
  subst hkn
  have htk:xs.take k=xs:=jiu Om
  rw [htk]
  refine qR (fun w hs=>v6 (hs.all 0 _ J).1) ?_
  intro hcap
  refine S12 ?_;refine cZ (fun c2=> ?_) (fun c2=> ?_)
  ·have he2:kW xs=qF xs:=by rw [kW,Xa,if_pos Om]
   refine S7 ?_;refine jJ J (.tmp J) ?_
   intro w' hs
   have hr:=hs.all 0 _ rfl
   exact⟨_,rfl,by rw [he2];exact Q5 hr.1 (fun b hb=> (hr.2.1 b hb).elim id (fun h=>by cases h)),hs.fin⟩
  ·have he2:kW xs=ZY (qF xs) ++ZY (qF xs).reverse:=by rw [kW,Xa,if_neg Om]
   generalize hall:qF xs=all at*
   refine S5 ?_;refine jX J J (Qk) J (lb J) (fun b2=> ?_);refine KQ 1 2 J J ?_;refine N4 ?_;refine YW 1 J ?_;refine t9 ?_;refine S7 ?_;refine JE (X:=Nat×Option Addr×Nat) (fun y=>y.1≤all.length) (fun y=>all.length- y.1) (fun y=> [(5, .slice y.2.1 y.1 y.2.2),(6, .int .i64 ((all.length:Int) - 1- (y.1:Int)))]) (kK [2,3]) (fun y=> [uS all (g,gc),JS 0 28 2 y.1 ((OY all y.1).flatMap jV) y.2]) (0,some ⟨b2,0,none⟩,0) (jie _) ⟨J,vi Om,sz⟩ (fun _ h=>h) ?_
   intro⟨j,qA,qc⟩ hy L hL2
   refine v9 ?_;refine r9 ?_
   have hj:j≤all.length:=hy
   refine S6 ?_;refine cZ (fun c3=> ?_) (fun c3=> ?_)
   ·have hjl:j<all.length:=Om
    refine uE 6 (.int .i64 ((all.length- 1- j:Nat) :Int)) J (congrArg _ Om) ?_;refine S9 ?_;refine a9 (jk J J jj J (jgY (k:=0) J Om)) ?_;refine S1 ?_;refine jX J J (J9 J) J (lb J) (fun b3=> ?_);refine N1 ?_;refine JK (k:=1) J jl jD Dc J Dc J J J (fun w' hs=>qD hs (k:=2) J J) (by simp [Value.oneCell']) (by unfold maxLen;omega) Om (jie _) (fun r1=> ?_);refine N9 ?_
    exact Jd hL2 ((j+1,r1)) ((show j+1≤all.length by omega)) (by simp only;omega) ⟨J,vi Om,sz⟩ (fun _ h=>h.upto ⟨J,by rw [←TJ hjl],trivial⟩)
   ·have hje:j=all.length:=Om
    subst hje
    rw [Pr]
    have hs1:=Zm (l:=all) Om (xN (hall▸wD xs) Om)
    have hs2:=Zm (l:=all.reverse) (by rw [jjF];omega) (by have:=xN (hall▸wD xs) (by omega:2≤all.length);rw [List.getElem?_reverse Om,List.getElem?_reverse (by simp;omega),jjF];simp only [jjR];rw [show all.length- 1- (all.length- 1) =0 by omega];exact this.symm)
    have hsl:=wg all.reverse
    have hcl:=wJ all.reverse
    have hcl1:=wJ all
    have hsl1:=wg all
    rw [jjF] at hcl
    refine S9 ?_;refine JQ yr (v:=fun x=> .slice x.1 _ x.2) (r:=fun x=>JS 0 28 2 _ _ x) (H:=fun _=>True) J J J (lb J) (fun w1 hs=>qI (Xg _ _ _ all w1 (kE (hs.all 0 _ J).1 J) hpx Om)) ?_
    rintro⟨uA,uc⟩ -
    refine N6 ?_;refine JQ yr (v:=fun x=> .slice x.1 _ x.2) (r:=fun x=>JS 0 28 2 _ _ x) (H:=fun _=>True) J J J (lb J) (fun w1 hs=>qI (Xg _ _ _ all.reverse w1 (kE (hs.all 1 _ J).1 (by simp)) (fun p hp=>hpx p (List.mem_reverse.1 hp)) Om)) ?_
    rintro⟨dA,dc⟩ -
    refine N2 ?_;refine qR (fun w hs=>kI (k:=2) J hs Om) ?_
    rintro⟨ug,rfl⟩
    refine qR (fun w hs=>kI (k:=3) J hs Om) ?_
    rintro⟨dg,rfl⟩
    refine qR (fun w hs=>v6 (hs.all 2 _ J).1) ?_
    intro hcu
    refine qR (fun w hs=>v6 (hs.all 3 _ J).1) ?_
    intro hcd
    refine S3 ?_;refine jX J J (Qk) J (lb J) (fun b4=> ?_);refine KQ 4 2 J J ?_;refine N3 ?_;refine a9 ((JC J J J Om Om).as (congrArg _ (show(((qO all).length:Int) - 1) = (((qO all).length- 1:Nat) :Int) by omega))) ?_;refine a9 ((QS J J J jl Om).as (vf _ _ _ _ _)) ?_;refine S1 ?_;refine JK (k:=4) J jl jD Dc J Dc J J J (fun w' hs=>XZ (kE (hs.all 2 _ J).1 J) Om) (Kf _) (by unfold maxLen;omega) Om (jif _) (fun r2=> ?_);refine N8 ?_;refine a9 ((JC J J J Om Om).as (congrArg _ (show(((qO all.reverse).length:Int) - 1) = (((qO all.reverse).length- 1:Nat) :Int) by omega))) ?_;refine a9 ((QS J J J jl Om).as (vf _ _ _ _ _)) ?_;refine S1 ?_;refine JK (k:=4) J jl jD Dc J Dc J J J (fun w' hs=>XZ (kE (hs.all 3 _ J).1 J) Om) (Kf _) (by unfold maxLen;omega) Om (jif _) (fun r3=> ?_);refine N3 ?_;refine jJ J (.tmp J) ?_
    intro w' hs
    have hr:=hs.all 4 _ rfl
    refine⟨_,J,?_,hs.fin⟩
    rw [jiB] at hr⊢
    rw [he2,jid,jii,wg,wg]
    exact Q5 hr.1 (fun b hb=> (hr.2.1 b hb).elim id (fun h=>by cases h))
end Go.Proofs.YtbahojdbmmjkcaaGreat
