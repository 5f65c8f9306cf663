import Derived.Test.YtpncbbcmoiiipaaGreatKSv
import Derived.Test.YtpncbbcmoiiipaaGreatKHot
import Derived.Test.YtpncbbcmoiiipaaGreatKRev
import Derived.Shelf.SlSortCmp.WholeK
import Derived.Test.YtpncbbcmoiiipaaGreatKLawKit
set_option linter.unusedVariables false
set_option linter.unusedSimpArgs false
namespace Go.Proofs.YtpncbbcmoiiipaaGreat
open Go Go.RowKit
set_option maxRecDepth 100000
set_option maxHeartbeats 4000000
def bdH (p:Pn) :Prop:= (-1048576≤p.1∧p.1≤1048576)∧-1048576≤p.2∧p.2≤1048576
theorem bd2.mid {p:Pn} (h:bd2 p) :bdH p:=by
 obtain ⟨⟨h1,h2⟩,h3,h4⟩ :=h
 exact⟨⟨by omega,by omega⟩,by omega,by omega⟩
theorem bdH.wide {p:Pn} (h:bdH p) :ZQ p:=by
 obtain ⟨⟨h1,h2⟩,h3,h4⟩ :=h
 exact⟨⟨by omega,by omega⟩,by omega,by omega⟩
theorem jpW (a b c:Pn) (w:World) (ha:bdH a) (hb:bdH b) (hc:bdH c) :Calls Tryz.prog 203 #[pV a,pV b,pV c] w fun e w'=>e= .returned (.int .i64 (tn a b c))∧Over w w':=
 Gl _ _ _ _ _ _ w ha.1.1 ha.1.2 ha.2.1 ha.2.2 hb.1.1 hb.1.2 hb.2.1 hb.2.2 hc.1.1 hc.1.2 hc.2.1 hc.2.2
theorem joH (a b c:Pn) (w:World) (ha:bdH a) (hb:bdH b) (hc:bdH c) :Calls Tryz.prog 151 #[pV a,pV b,pV c] w fun e w'=>e= .returned (.int .i64 (tn a b c))∧Over w w':=
 Wq _ _ _ _ _ _ w ha.1.1 ha.1.2 ha.2.1 ha.2.2 hb.1.1 hb.1.2 hb.2.1 hb.2.2 hc.1.1 hc.1.2 hc.2.1 hc.2.2
theorem jkv {xs:List Pn} {k:Nat} (h:k<xs.length) :pt xs k∈xs:=by rw [←Kk h];exact jis h
theorem jpw {xs:List Pn} {k m:Nat} (h:k<m) :pt (xs.take m) k=pt xs k:=by
 simp only [pt,px,py,List.getD,List.getElem?_take,if_pos h]
def jkr (xs:List Pn) (p:Pn) :Nat→Nat
 | 0=>0
 | 1=>1
 | k+2=>if tn (pt xs k) (pt xs (k+1)) p≤0 then jkr xs p (k+1) else k+2
theorem jnM (xs:List Pn) (p:Pn) :∀k,jkr xs p k≤k
 | 0=>jih _
 | 1=>jih _
 | k+2=>by
  unfold jkr
  split
  ·have:=jnM xs p (k+1);omega
  ·exact jih _
theorem jnj (xs:List Pn) (p:Pn) :∀k,0<k→0<jkr xs p k
 | 0,h=>h
 | 1,_=>Nat.zero_lt_one
 | k+2,_=>by
  unfold jkr
  split
  ·exact jnj xs p (k+1) Om
  ·omega
theorem jn8 {xs:List Pn} {p:Pn} {m:Nat} (h:¬(1<m∧tn (pt xs (m- 2)) (pt xs (m- 1)) p≤0)) :jkr xs p m=m:=by
 match m,h with
 | 0,_=>rfl
 | 1,_=>rfl
 | k+2,h=>
  unfold jkr
  exact if_neg fun h1=>h ⟨by omega,h1⟩
theorem jmO {xs:List Pn} {p:Pn} {m:Nat} (h:1<m∧tn (pt xs (m- 2)) (pt xs (m- 1)) p≤0) :jkr xs p (m- 1) =jkr xs p m:=by
 match m,h with
 | k+2,h=>
  show jkr xs p (k+1) =jkr xs p (k+2)
  rw [jkr.eq_3,if_pos (show tn (pt xs k) (pt xs (k+1)) p≤0 from h.2)]
def jkt (xs:List Pn) (p:Pn) :List Pn:=xs.take (jkr xs p xs.length) ++ [p]
def qs (l:List Pn) :List Pn:=l.foldl jkt []
def jlF (l:List Pn) :List Pn:= (qs l).take ((qs l).length- 1)
def jlV (all:List Pn) :List Pn:=if all.length<3 then all else jlF all++jlF all.reverse
def DX (l:List Pn) :List Pn:=jlV (kH l)
theorem jn2 (l:List Pn) (p:Pn) :qs (l++ [p]) =jkt (qs l) p:=by simp [qs,jj7]
theorem jlr (xs:List Pn) (p:Pn) :0< (jkt xs p).length∧(jkt xs p).length≤xs.length+1:=by
 have:=jnM xs p xs.length
 rw [jkt,jif,jiy,jjW]
 omega
theorem joM {xs:List Pn} {p q:Pn} (h:q∈jkt xs p) :q∈xs∨q=p:=by
 rcases jiv.1 h with h | h
 ·exact .inl (jiZ h)
 ·exact .inr (jik.1 h)
theorem jmJ (l:List Pn) :∀xs,(l.foldl jkt xs).length≤xs.length+l.length∧∀q∈l.foldl jkt xs,q∈xs∨q∈l:=by
 induction l with
 | nil=>intro xs;exact⟨jih _,fun q h=> .inl h⟩
 | cons p l ih=>
  intro xs
  obtain ⟨h1,h2⟩ :=ih (jkt xs p)
  have:= (jlr xs p).2
  refine⟨by rw [jjd,jim];omega,fun q hq=> ?_⟩
  rcases h2 q hq with h | h
  ·rcases joM h with h | h
   ·exact .inl h
   ·exact .inr (by rw [h];simp)
  ·exact .inr (jiq _ h)
theorem jkp (l:List Pn) : (qs l).length≤l.length:=by have:= (jmJ l []).1;simpa [qs] using this
theorem joD {l:List Pn} {q:Pn} (h:q∈qs l) :q∈l:=by have:= (jmJ l []).2 q h;simpa using this
theorem jlS {xs:List Pn} {k:Nat} (h:k<xs.length) :qs (xs.take (k+1)) =jkt (qs (xs.take k)) (pt xs k) :=by
 rw [jin h,jn2,Kk h]
theorem jni {l:List Pn} (h:0<l.length) :0< (qs l).length:=by
 have:=jlS (xs:=l) (k:=l.length- 1) Om
 rw [show l.length- 1+1=l.length by omega,jiX] at this
 rw [this]
 exact(jlr _ _).1
theorem jk9 {xs:List Pn} {k:Nat} (h:k≤xs.length) : (qs (xs.take k)).length≤k:=by
 have:=jkp (xs.take k)
 rw [jiy] at this
 omega
theorem jla {xs:List Pn} {k:Nat} {q:Pn} (h:q∈qs (xs.take k)) :q∈xs:=jiZ (joD h)
theorem jkl (l:List Pn) : (jlF l).length= (qs l).length- 1:=by rw [jlF,jiy];omega
theorem joF (l:List Pn) : (jlV l).length≤2*l.length:=by
 unfold jlV
 split
 ·omega
 ·have h1:=jkp l
  have h2:=jkp l.reverse
  rw [jif,jkl,jkl]
  rw [jp1] at h2
  omega
theorem jlc (l:List Pn) : (DX l).length≤2*l.length:=jjb (joF _) (Nat.mul_le_mul_left _ (xI l))
theorem jm2 {l:List Pn} (h:0<l.length) :0< (kH l).length:=by
 obtain ⟨p,hp⟩ :=List.exists_mem_of_length_pos h
 exact List.length_pos_of_mem ((Wi l p).2 hp)
theorem jnL {xs:List Pn} {p:Pn} (h:0<xs.length) : (jkt xs p).head?=xs.head?:=by
 have h1:=jnj xs p xs.length h
 unfold jkt
 match xs,h with
 | q::xs,_=>
  obtain ⟨j,hj⟩ :∃j,jkr (q::xs) p (q::xs).length=j+1:=⟨_,(Nat.succ_pred_eq_of_pos h1).symm⟩
  rw [hj]
  rfl
theorem jn6 (l:List Pn) :∀xs:List Pn,0<xs.length→(l.foldl jkt xs).head?=xs.head?:=by
 induction l with
 | nil=>intro xs _;rfl
 | cons p l ih=>
  intro xs h
  rw [jjd,ih _ (jlr xs p).1,jnL h]
theorem jn3:∀l:List Pn,(qs l).head?=l.head?
 | [] =>rfl
 | p::l=>by
  show(l.foldl jkt (jkt [] p)).head?=some p
  rw [jn6 _ _ (jlr [] p).1]
  rfl
theorem jn4 {l:List Pn} (h:0<l.length) : (qs l)[(qs l).length- 1]? =l[l.length- 1]? :=by
 have:=jlS (xs:=l) (k:=l.length- 1) Om
 rw [show l.length- 1+1=l.length by omega,jiX] at this
 rw [this,jkt,jif,jjW,Nat.add_sub_cancel,List.getElem?_append_right (jih _),jp3]
 have h2:l.length- 1<l.length:=by omega
 rw [List.getElem?_eq_getElem h2,Kk h2]
 rfl
theorem jlm {l:List Pn} (h:2≤l.length) (hne:l[0]?≠l[l.length- 1]?) :2≤(qs l).length:=by
 have h1:=jni (l:=l) Om
 have h2:=jn4 (l:=l) Om
 have h3:=jn3 l
 rw [List.head?_eq_getElem?,List.head?_eq_getElem?] at h3
 rcases jjk 1 (qs l).length with h4 | h4
 ·exact h4
 ·rw [show(qs l).length- 1=0 by omega,h3] at h2
  exact absurd h2 hne
theorem jlP {l:List Pn} (h:Asc l) (h2:2≤l.length) :l[0]?≠l[l.length- 1]? :=by
 intro e
 have:=jjl.1 h 0 (l.length- 1) Om Om Om
 rw [List.getElem?_eq_getElem Om,List.getElem?_eq_getElem Om] at e
 injection e with e
 rw [e] at this
 exact kC _ this
theorem joG {l:List Pn} (ha:Asc l) (h:0<l.length) :0< (jlV l).length:=by
 unfold jlV
 split
 ·exact h
 ·have:=jlm Om (jlP ha Om)
  rw [jif,jkl]
  omega
theorem jo1 {l:List Pn} (h:0<l.length) :0< (DX l).length:=joG (UO l) (jm2 h)
theorem jnY {w:World} {B T m m' c:Nat} {A:Option Addr} {ys:List Pn} (h:w.ownsRow B T 2 (.slice A m c) m ((ys.take m).flatMap Js)) (hm:m'≤m) (hy:m≤ys.length) (h0:0<m) :w.ownsRow 0 T 2 (.slice A m' c) m' ((ys.take m').flatMap Js) :=by
 refine⟨by rw [Qg,jiy,jjm Om],?_⟩
 rcases h.2 with⟨e,_⟩ |⟨g,cap,cur,e,hb,hg,hcap,hmax,hsz,htk⟩
 ·omega
 ·injection e with e1 e2 e3
  subst e1 e3
  refine .inr ⟨g,c,cur,J,jii _,hg,by omega,hmax,hsz,?_⟩
  have:cur.toList.take (m'*2) = (cur.toList.take (m*2)).take (m'*2) :=by rw [List.take_take,jjm Om]
  rw [this,htk,NX,List.take_take,jjm hm]
theorem jmF {n:Nat} {env:List (Nat×Value)} {w0:Bs} {Rs:List Res} {K:Act→World→Prop} (k m':Nat) {B T m:Nat} {ys:List Pn} {x:Option Addr×Nat} (hk:Rs[k]? =some (JY B T 2 m ((ys.take m).flatMap Js) x)) (hm:m'≤m) (hy:m≤ys.length) (h0:0<m)
  (h:At n env w0 (Rs.set k (JY 0 T 2 m' ((ys.take m').flatMap Js) x)) K) :At n env w0 Rs K:=fun a w hf hs=>
 h a w hf (hs.chg hk (fun hP=>jnY hP hm hy h0) (fun c hc=>by obtain ⟨A,cc⟩ :=x;cases A<;>exact hc) rfl)
theorem jnB {w0:Bs} {Rs:List Res} {k B T m j g c:Nat} {ys:List Pn} (hk:Rs[k]? =some (JY B T 2 m ((ys.take m).flatMap Js) (some ⟨g,0,none⟩,c))) (hm:m≤ys.length) (hj:j<m) :
  ∀w',St w0 Rs w'→∀q v,[Value.int .i64 (px ys j),Value.int .i64 (py ys j)][q]? =some v→w'.cell? ⟨g,0+j*2+q,none⟩ =some v:=fun w' hs q v hv=>by
 have hp:=uu (hs.all k _ hk).1 (by rw [jiy];omega)
 have e:pt (ys.take m) j=pt ys j:=jpw hj
 refine wL (Rs:= []) hp hj w' (St.start w') q v ?_
 rw [show px (ys.take m) j=px ys j from congrArg Prod.fst e,show py (ys.take m) j=py ys j from congrArg Prod.snd e]
 exact hv
theorem jpT {w0:Bs} {Rs:List Res} {k B T m j g c:Nat} {ys:List Pn} (hk:Rs[k]? =some (JY B T 2 m (ys.flatMap Js) (some ⟨g,0,none⟩,c))) (hj:j<m) :
  ∀w',St w0 Rs w'→∀q v,[Value.int .i64 (px ys j),Value.int .i64 (py ys j)][q]? =some v→w'.cell? ⟨g,0+j*2+q,none⟩ =some v:=fun w' hs q v hv=>by
 have hr:w'.ownsRow B T 2 (.slice (some ⟨g,0,none⟩) m c) m (ys.flatMap Js) := (hs.all k _ hk).1
 have hm:ys.length=m:=by have:=hr.1;rw [Qg] at this;omega
 exact wL (Rs:= []) (uu hr hm) hj w' (St.start w') q v hv
theorem jox {ys:List Pn} {p:Pn} {m:Nat} (h:jkr ys p m=jkr ys p ys.length) (hs:¬(1<m∧tn (pt ys (m- 2)) (pt ys (m- 1)) p≤0)) (hm:m≤ys.length) :jkt ys p=ys.take m++ [p]∧(jkt ys p).length=m+1:=by
 have e:jkt ys p=ys.take m++ [p] :=by rw [jkt,←h,jn8 hs]
 exact⟨e,by rw [e,jif,jiy,jjW];omega⟩
theorem jnJ (A:Option Addr) (n c:Nat) (xs:List Pn) (w:World) (h:Pts w A n xs) (hx:∀p∈xs,bdH p) (h0:0<n) (hn:n≤1048576) :
  Calls Tryz.prog 232 #[.slice A n c] w fun e w'=>∃v,e= .returned v∧w'.ownsRow w.heap.size 56 2 v (jlF xs).length ((jlF xs).flatMap Js)∧Over w w':=by
 have hl:=h.1
 refine Jh (m:=47) (Tryz.func232) J J (lb J) ?_;refine S7 ?_;refine Q7 (T:=56) (s:=2) ?_;refine N1 ?_;refine ja2 0 J ?_;refine t9 ?_;refine S8 ?_;refine JQ (X:=Nat×Option Addr×Nat) (fun x=>x.1≤n) (fun x=>n- x.1) (fun x=> [(3, .slice x.2.1 (qs (xs.take x.1)).length x.2.2),(8, .int .i64 (x.1:Int))]) (kK [2,6,7]) (fun x=> [JY 0 56 2 (qs (xs.take x.1)).length ((qs (xs.take x.1)).flatMap Js) x.2]) (0,none,0) (jii _) ⟨J,sz⟩ (fun _ h=>h) ?_
 intro⟨k,rA,rc⟩ hk L hL1
 refine v9 ?_;refine r9 ?_
 have hk:k≤n:=hk
 refine S5 ?_;refine cZ (fun c1=> ?_) (fun c1=> ?_)
 ·have hlt:k<n:=Om
  obtain ⟨eb,eo,rfl,_⟩ :=h.2 Om
  have hcl:=jk9 (xs:=xs) (k:=k) Om
  have hst:=jlS (xs:=xs) (k:=k) Om
  have hbp:=hx _ (jkv (show k<xs.length by omega))
  have hbq:∀j,j< (qs (xs.take k)).length→bdH (pt (qs (xs.take k)) j) :=fun j hj=>hx _ (jla (jkv hj))
  generalize qs (xs.take k) =ys at hcl hst hbq⊢
  refine S7 ?_;refine a9 (jk J J jj J (wL h hlt)) ?_;refine S1 ?_;refine aL (fun b1=> ?_);refine N5 ?_;refine JQ (X:=Nat) (fun m=>m≤ys.length∧jkr ys (pt xs k) m=jkr ys (pt xs k) ys.length) (fun m=>m) (fun m=> [(3, .slice rA m rc)]) (kK [2,6,7,8,9,10,11,5]) (fun m=> [JY 0 56 2 m ((ys.take m).flatMap Js) (rA,rc), .cel b1 56 [.int .i64 (px xs k), .int .i64 (py xs k)]]) ys.length (⟨jih _,J⟩) ⟨J,sz⟩ (fun _ h=>h.upto ⟨by rw [jiX],sz⟩) ?_
  intro m hm L hL2
  refine v9 ?_;refine r9 ?_;refine S1 ?_;refine qt [(31, .bool (decide (1<m∧tn (pt ys (m- 2)) (pt ys (m- 1)) (pt xs k)≤0)))] (kK [2,6,7,8,9,10,11,5,3]) (fun L h_5=> ?_) ?_
  ·refine S1 ?_;refine JS 20 ?_;refine dK 0 ?_;refine dK 1 ?_;refine dK 2 ?_;refine dK 3 ?_;refine cV 15 (fun g1=> ?_) (fun g1=> ?_)
   ·have hm1:1<m:=Om
    refine ky (fun w hs=>VJ (k:=0) J hs Om) ?_
    rintro⟨eg,rfl⟩
    refine eK 4 ?_;refine eK 5 ?_;refine eK 6 ?_;refine eZ 7 J ((JJ J J J Om Om).as (congrArg _ (show((m:Int) - 2) = ((m- 2:Nat) :Int) by omega))) ?_;refine eK 8 ?_;refine eZ 9 J (jk J J jj J (jnB (k:=0) J hm.1 Om)) ?_;refine eK 10 ?_;refine eK 11 ?_;refine eK 12 ?_;refine eZ 13 J ((JJ J J J Om Om).as (congrArg _ (show((m:Int) - 1) = ((m- 1:Nat) :Int) by omega))) ?_;refine eK 14 ?_;refine eZ 15 J (jk J J jj J (jnB (k:=0) J hm.1 Om)) ?_;refine eK 16 ?_;refine eZ 17 J (jT KD J J (fun w _=>jpW (pt ys (m- 2)) (pt ys (m- 1)) (pt xs k) w (hbq _ Om) (hbq _ Om) hbp)) ?_;refine eK 18 ?_;refine dK 19 ?_;refine JK Kr ?_;refine S1 ?_
    exact Jk h_5 ⟨vb (by simp;omega),sz⟩ (u9 J)
   ·refine fK 4 ?_;refine fK 5 ?_;refine fK 6 ?_;refine fK 7 ?_;refine fK 8 ?_;refine fK 9 ?_;refine fK 10 ?_;refine fK 11 ?_;refine fK 12 ?_;refine fK 13 ?_;refine fK 14 ?_;refine fK 15 ?_;refine fK 16 ?_;refine fK 17 ?_;refine fK 18 ?_;refine dK 19 ?_;refine JK Kr ?_;refine S1 ?_
    exact Jk h_5 ⟨vb (by simp;omega),sz⟩ (u9 J)
  ·refine v9 ?_;refine cZ (fun c2=> ?_) (fun c2=> ?_)
   ·have hm1:1<m:=Om
    refine ky (fun w hs=>VJ (k:=0) J hs Om) ?_
    rintro⟨eg,rfl⟩
    refine ky (fun w hs=>uZ (hs.all 0 _ J).1) ?_
    intro hcap
    refine S7 ?_;refine a9 ((JJ J J J Om Om).as (congrArg _ (show((m:Int) - 1) = ((m- 1:Nat) :Int) by omega))) ?_;refine a9 ((Kl J J J jw Om).as (WT _ _ _ _ _)) ?_;refine S2 ?_;refine jmF 0 (m- 1) J Om hm.1 Om ?_;refine t9 ?_;refine S2 ?_
    exact Ji hL2 (m- 1) (⟨by omega,(jmO c2).trans hm.2⟩) Om ⟨J,sz⟩ (u9 J)
   ·obtain ⟨he,hel⟩ :=jox hm.2 c2 hm.1
    refine S9 ?_;refine Jx J J (qM J) J (lb J) (fun b2=> ?_);refine N1 ?_;refine JV (k:=0) J jw jH Dc J Dc J J J (fun w' hs=>Qb hs (k:=2) J J) (by simp [Value.oneCell']) (by unfold maxLen;omega) Om (jii _) (fun r1=> ?_);refine N8 ?_
    exact Ji hL1 ((k+1,r1)) ((show k+1≤n by omega)) (by simp only;omega) ⟨(by rw [hst,hel];rfl),vi Om,sz⟩ (fun _ h=>h.upto ⟨by rw [hst,hel,he,jio];rfl,trivial⟩)
 ·have hkn:k=n:=Om
  subst hkn
  have htk:xs.take k=xs:=jiK Om
  rw [htk]
  have hcp:=jni (l:=xs) Om
  have hcl:=jkp xs
  refine ky (fun w hs=>VJ (k:=0) J hs hcp) ?_
  rintro⟨eg,rfl⟩
  refine ky (fun w hs=>uZ (hs.all 0 _ J).1) ?_
  intro hcap
  have htl: (qs xs).take (qs xs).length=qs xs:=jiX
  refine S10 ?_;refine a9 ((JJ J J J Om Om).as (congrArg _ (show(((qs xs).length:Int) - 1) = (((qs xs).length- 1:Nat) :Int) by omega))) ?_;refine a9 ((Kl J J J jw Om).as (WT _ _ _ _ _)) ?_;refine S3 ?_;refine jM J (.tmp J) ?_
  intro w' hs
  have hr:=hs.all 0 _ rfl
  have hr1:w'.ownsRow 0 56 2 (.slice (some ⟨eg,0,none⟩) (qs xs).length rc) (qs xs).length (((qs xs).take (qs xs).length).flatMap Js) :=by rw [htl];exact hr.1
  have hr2:=jnY (m':= (qs xs).length- 1) hr1 Om (jih _) hcp
  exact⟨_,rfl,by rw [jkl];exact vv hr2 (fun b hb=> (hr.2.1 b hb).elim id (fun h=>by cases h)),hs.fin⟩
theorem jlX (A:Option Addr) (n c:Nat) (xs:List Pn) (w:World) (h:Pts w A n xs) (hx:∀p∈xs,bdH p) (hn:n≤1048576) :
  Calls Tryz.prog 186 #[.slice A n c] w fun e w'=>∃v,e= .returned v∧w'.ownsRow w.heap.size 56 2 v (qs xs).length ((qs xs).flatMap Js)∧Over w w':=by
 have hl:=h.1
 refine Jh (m:=48) (Tryz.func186) J J (lb J) ?_;refine S7 ?_;refine Jx J J (vK) J (lb J) (fun b1=> ?_);refine WF 0 2 J J ?_;refine N2 ?_;refine ja2 0 J ?_;refine t9 ?_;refine S6 ?_;refine JQ (X:=Nat×Option Addr×Nat) (fun x=>x.1≤n) (fun x=>n- x.1) (fun x=> [(3, .slice x.2.1 (qs (xs.take x.1)).length x.2.2),(4, .int .i64 (x.1:Int))]) (kK [0,2]) (fun x=> [JY 0 56 2 (qs (xs.take x.1)).length ((qs (xs.take x.1)).flatMap Js) x.2]) (0,some ⟨b1,0,none⟩,0) (jii _) ⟨J,sz⟩ (fun _ h=>h) ?_
 intro⟨k,rA,rc⟩ hk L hL1
 refine v9 ?_;refine r9 ?_
 have hk:k≤n:=hk
 refine S8 ?_;refine cZ (fun c1=> ?_) (fun c1=> ?_)
 ·have hlt:k<n:=Om
  obtain ⟨eb,eo,rfl,_⟩ :=h.2 Om
  have hcl:=jk9 (xs:=xs) (k:=k) Om
  have hst:=jlS (xs:=xs) (k:=k) Om
  have hbp:=hx _ (jkv (show k<xs.length by omega))
  have hbq:∀j,j< (qs (xs.take k)).length→bdH (pt (qs (xs.take k)) j) :=fun j hj=>hx _ (jla (jkv hj))
  generalize qs (xs.take k) =ys at hcl hst hbq⊢
  refine S6 ?_;refine JQ (X:=Nat) (fun m=>m≤ys.length∧jkr ys (pt xs k) m=jkr ys (pt xs k) ys.length) (fun m=>m) (fun m=> [(3, .slice rA m rc)]) (kK [0,2,4,6,7,8,9]) (fun m=> [JY 0 56 2 m ((ys.take m).flatMap Js) (rA,rc)]) ys.length (⟨jih _,J⟩) ⟨J,sz⟩ (fun _ h=>h.upto ⟨by rw [jiX],trivial⟩) ?_
  intro m hm L hL2
  refine v9 ?_;refine r9 ?_;refine S1 ?_;refine qt [(34, .bool (decide (1<m∧tn (pt ys (m- 2)) (pt ys (m- 1)) (pt xs k)≤0)))] (kK [0,2,4,6,7,8,9,3]) (fun L h_5=> ?_) ?_
  ·refine S1 ?_;refine JS 23 ?_;refine dK 0 ?_;refine dK 1 ?_;refine dK 2 ?_;refine dK 3 ?_;refine cV 15 (fun g1=> ?_) (fun g1=> ?_)
   ·have hm1:1<m:=Om
    refine ky (fun w hs=>VJ (k:=0) J hs Om) ?_
    rintro⟨eg,rfl⟩
    refine eK 4 ?_;refine eK 5 ?_;refine eK 6 ?_;refine eZ 7 J ((JJ J J J Om Om).as (congrArg _ (show((m:Int) - 2) = ((m- 2:Nat) :Int) by omega))) ?_;refine eK 8 ?_;refine eZ 9 J (jk J J jj J (jnB (k:=0) J hm.1 Om)) ?_;refine eK 10 ?_;refine eK 11 ?_;refine eK 12 ?_;refine eZ 13 J ((JJ J J J Om Om).as (congrArg _ (show((m:Int) - 1) = ((m- 1:Nat) :Int) by omega))) ?_;refine eK 14 ?_;refine eZ 15 J (jk J J jj J (jnB (k:=0) J hm.1 Om)) ?_;refine eK 16 ?_;refine eK 17 ?_;refine eK 18 ?_;refine eZ 19 J (jk J J jj J (wL h hlt)) ?_;refine eZ 20 J (jT Qj J J (fun w _=>joH (pt ys (m- 2)) (pt ys (m- 1)) (pt xs k) w (hbq _ Om) (hbq _ Om) hbp)) ?_;refine eK 21 ?_;refine dK 22 ?_;refine JK Kr ?_;refine S1 ?_
    exact Jk h_5 ⟨vb (by simp;omega),sz⟩ (u9 J)
   ·refine fK 4 ?_;refine fK 5 ?_;refine fK 6 ?_;refine fK 7 ?_;refine fK 8 ?_;refine fK 9 ?_;refine fK 10 ?_;refine fK 11 ?_;refine fK 12 ?_;refine fK 13 ?_;refine fK 14 ?_;refine fK 15 ?_;refine fK 16 ?_;refine fK 17 ?_;refine fK 18 ?_;refine fK 19 ?_;refine fK 20 ?_;refine fK 21 ?_;refine dK 22 ?_;refine JK Kr ?_;refine S1 ?_
    exact Jk h_5 ⟨vb (by simp;omega),sz⟩ (u9 J)
  ·refine v9 ?_;refine cZ (fun c2=> ?_) (fun c2=> ?_)
   ·have hm1:1<m:=Om
    refine ky (fun w hs=>VJ (k:=0) J hs Om) ?_
    rintro⟨eg,rfl⟩
    refine ky (fun w hs=>uZ (hs.all 0 _ J).1) ?_
    intro hcap
    refine S7 ?_;refine a9 ((JJ J J J Om Om).as (congrArg _ (show((m:Int) - 1) = ((m- 1:Nat) :Int) by omega))) ?_;refine a9 ((Kl J J J jw Om).as (WT _ _ _ _ _)) ?_;refine S2 ?_;refine jmF 0 (m- 1) J Om hm.1 Om ?_;refine t9 ?_;refine S2 ?_
    exact Ji hL2 (m- 1) (⟨by omega,(jmO c2).trans hm.2⟩) Om ⟨J,sz⟩ (u9 J)
   ·obtain ⟨he,hel⟩ :=jox hm.2 c2 hm.1
    refine S10 ?_;refine a9 (jk J J jj J (wL h hlt)) ?_;refine S1 ?_;refine Jx J J (qM J) J (lb J) (fun b2=> ?_);refine N1 ?_;refine JV (k:=0) J jw jH Dc J Dc J J J (fun w' hs=>Qb hs (k:=1) J J) (by simp [Value.oneCell']) (by unfold maxLen;omega) Om (jii _) (fun r1=> ?_);refine N9 ?_
    exact Ji hL1 ((k+1,r1)) ((show k+1≤n by omega)) (by simp only;omega) ⟨(by rw [hst,hel];rfl),vi Om,sz⟩ (fun _ h=>h.upto ⟨by rw [hst,hel,he,jio];rfl,trivial⟩)
 ·refine S11 ?_;refine jM J (.tmp J) ?_
  intro w' hs
  have hkn:k=n:=by omega
  subst hkn
  have hr:=hs.all 0 _ rfl
  have htk:xs.take k=xs:=jiK Om
  rw [htk] at hr
  exact⟨_,by rw [htk],vv hr.1 (fun b hb=> (hr.2.1 b hb).elim id (fun h=>by cases h)),hs.fin⟩
theorem jmm {xs:List Pn} {k:Nat} (h:k<xs.length) :kH (xs.take (k+1)) =Vg (kH (xs.take k)) (pt xs k) :=by
 rw [jin h,NI,Kk h]
theorem jmj (A:Option Addr) (n c:Nat) (xs:List Pn) (w:World) (h:Pts w A n xs) (hx:∀p∈xs,bdH p) (hn:n≤500000) :
  Calls Tryz.prog 136 #[.slice A n c] w fun e w'=>∃v,e= .returned v∧w'.ownsRow w.heap.size 56 2 v (DX xs).length ((DX xs).flatMap Js)∧Over w w':=by
 have hl:=h.1
 have hpl:=xI xs
 have hpx:∀p∈kH xs,bdH p:=fun p hp=>hx p ((Wi xs p).1 hp)
 refine Jh (m:=60) (Tryz.func136) J J (lb J) ?_;refine S7 ?_;refine Jx J J (vK) J (lb J) (fun b1=> ?_);refine WF 0 2 J J ?_;refine N2 ?_;refine ja2 0 J ?_;refine t9 ?_;refine S6 ?_;refine JQ (X:=Nat×Nat×Nat) (fun x=>x.1≤n) (fun x=>n- x.1) (fun x=> [(3, .slice (some ⟨x.2.1,0,none⟩) (kH (xs.take x.1)).length x.2.2),(4, .int .i64 (x.1:Int))]) (kK [0,2]) (fun x=> [yo (kH (xs.take x.1)) x.2]) (0,b1,0) (jii _) ⟨J,sz⟩ (fun _ h=>h) ?_
 intro⟨k,g,gc⟩ hk L hL1
 refine v9 ?_;refine r9 ?_
 have hk:k≤n:=hk
 refine S8 ?_;refine cZ (fun c1=> ?_) (fun c1=> ?_)
 ·have hlt:k<n:=Om
  obtain ⟨eb,eo,rfl,_⟩ :=h.2 Om
  have hpk:=xI (xs.take k)
  rw [jiy] at hpk
  refine S9 ?_;refine a9 (jk J J jj J (wL h hlt)) ?_;refine S1 ?_;refine qO (k:=0) (v:=fun x:Nat×Nat=> .slice (some ⟨x.1,0,none⟩) _ x.2) (r':=fun x=>yo _ x) UN J J J Dc J (fun w1 hs=>jff (p:=pt xs k) (hs.all 0 _ J).1 Om) ?_
  rintro⟨g3,gc3⟩
  refine N9 ?_
  exact Ji hL1 ((k+1,g3,gc3)) ((show k+1≤n by omega)) (by simp only;omega) ⟨(by rw [jmm Om];rfl),vi Om,sz⟩ (fun _ h=>h.upto ⟨by rw [jmm Om],trivial⟩)
 ·have hkn:k=n:=Om
  subst hkn
  have htk:xs.take k=xs:=jiK Om
  rw [htk]
  refine ky (fun w hs=>uZ (hs.all 0 _ J).1) ?_
  intro hcap
  refine S12 ?_;refine cZ (fun c2=> ?_) (fun c2=> ?_)
  ·have he2:DX xs=kH xs:=by rw [DX,jlV,if_pos Om]
   refine S7 ?_;refine jM J (.tmp J) ?_
   intro w' hs
   have hr:=hs.all 0 _ rfl
   exact⟨_,rfl,by rw [he2];exact vv hr.1 (fun b hb=> (hr.2.1 b hb).elim id (fun h=>by cases h)),hs.fin⟩
  ·have he2:DX xs=jlF (kH xs) ++jlF (kH xs).reverse:=by rw [DX,jlV,if_neg Om]
   generalize hall:kH xs=all at*
   refine S5 ?_;refine Jx J J (vK) J (lb J) (fun b2=> ?_);refine WF 1 2 J J ?_;refine N4 ?_;refine ja2 1 J ?_;refine t9 ?_;refine S7 ?_;refine JQ (X:=Nat×Option Addr×Nat) (fun y=>y.1≤all.length) (fun y=>all.length- y.1) (fun y=> [(5, .slice y.2.1 y.1 y.2.2),(6, .int .i64 ((all.length:Int) - 1- (y.1:Int)))]) (kK [2,3]) (fun y=> [yo all (g,gc),JY 0 56 2 y.1 ((OQ all y.1).flatMap Js) y.2]) (0,some ⟨b2,0,none⟩,0) (jii _) ⟨J,vi Om,sz⟩ (fun _ h=>h) ?_
   intro⟨j,qA,qc⟩ hy L hL2
   refine v9 ?_;refine r9 ?_
   have hj:j≤all.length:=hy
   refine S6 ?_;refine cZ (fun c3=> ?_) (fun c3=> ?_)
   ·have hjl:j<all.length:=Om
    refine W7 6 (.int .i64 ((all.length- 1- j:Nat) :Int)) J (congrArg _ Om) ?_;refine S9 ?_;refine a9 (jk J J jj J (jpT (k:=0) J Om)) ?_;refine S1 ?_;refine Jx J J (qM J) J (lb J) (fun b3=> ?_);refine N1 ?_;refine JV (k:=1) J jw jH Dc J Dc J J J (fun w' hs=>Qb hs (k:=2) J J) (by simp [Value.oneCell']) (by unfold maxLen;omega) Om (jii _) (fun r1=> ?_);refine N9 ?_
    exact Ji hL2 ((j+1,r1)) ((show j+1≤all.length by omega)) (by simp only;omega) ⟨J,vi Om,sz⟩ (fun _ h=>h.upto ⟨J,by rw [←Te hjl],trivial⟩)
   ·have hje:j=all.length:=Om
    subst hje
    rw [NK]
    have hs1:=jlm (l:=all) Om (jlP (hall▸UO xs) Om)
    have hs2:=jlm (l:=all.reverse) (by rw [jp1];omega) (by have:=jlP (hall▸UO xs) (by omega:2≤all.length);rw [List.getElem?_reverse Om,List.getElem?_reverse (by simp;omega),jp1];simp only [jp4];rw [show all.length- 1- (all.length- 1) =0 by omega];exact this.symm)
    have hsl:=jkl all.reverse
    have hcl:=jkp all.reverse
    have hcl1:=jkp all
    have hsl1:=jkl all
    rw [jp1] at hcl
    refine S9 ?_;refine J4 jk1 (v:=fun x=> .slice x.1 _ x.2) (r:=fun x=>JY 0 56 2 _ _ x) (H:=fun _=>True) J J J (lb J) (fun w1 hs=>Qh (jlX _ _ _ all w1 (uu (hs.all 0 _ J).1 J) hpx Om)) ?_
    rintro⟨uA,uc⟩ -
    refine N6 ?_;refine J4 jk1 (v:=fun x=> .slice x.1 _ x.2) (r:=fun x=>JY 0 56 2 _ _ x) (H:=fun _=>True) J J J (lb J) (fun w1 hs=>Qh (jlX _ _ _ all.reverse w1 (uu (hs.all 1 _ J).1 (by simp)) (fun p hp=>hpx p (List.mem_reverse.1 hp)) Om)) ?_
    rintro⟨dA,dc⟩ -
    refine N2 ?_;refine ky (fun w hs=>VJ (k:=2) J hs Om) ?_
    rintro⟨ug,rfl⟩
    refine ky (fun w hs=>VJ (k:=3) J hs Om) ?_
    rintro⟨dg,rfl⟩
    refine ky (fun w hs=>uZ (hs.all 2 _ J).1) ?_
    intro hcu
    refine ky (fun w hs=>uZ (hs.all 3 _ J).1) ?_
    intro hcd
    refine S3 ?_;refine Jx J J (vK) J (lb J) (fun b4=> ?_);refine WF 4 2 J J ?_;refine N3 ?_;refine a9 ((JJ J J J Om Om).as (congrArg _ (show(((qs all).length:Int) - 1) = (((qs all).length- 1:Nat) :Int) by omega))) ?_;refine a9 ((Kl J J J jw Om).as (WT _ _ _ _ _)) ?_;refine S1 ?_;refine JV (k:=4) J jw jH Dc J Dc J J J (fun w' hs=>IG (uu (hs.all 2 _ J).1 J) Om) (Ww _) (by unfold maxLen;omega) Om (jih _) (fun r2=> ?_);refine N8 ?_;refine a9 ((JJ J J J Om Om).as (congrArg _ (show(((qs all.reverse).length:Int) - 1) = (((qs all.reverse).length- 1:Nat) :Int) by omega))) ?_;refine a9 ((Kl J J J jw Om).as (WT _ _ _ _ _)) ?_;refine S1 ?_;refine JV (k:=4) J jw jH Dc J Dc J J J (fun w' hs=>IG (uu (hs.all 3 _ J).1 J) Om) (Ww _) (by unfold maxLen;omega) Om (jih _) (fun r3=> ?_);refine N3 ?_;refine jM J (.tmp J) ?_
    intro w' hs
    have hr:=hs.all 4 _ rfl
    refine⟨_,J,?_,hs.fin⟩
    rw [jiL] at hr⊢
    rw [he2,jif,jio,jkl,jkl]
    exact vv hr.1 (fun b hb=> (hr.2.1 b hb).elim id (fun h=>by cases h))
end Go.Proofs.YtpncbbcmoiiipaaGreat
namespace Go.Proofs.YtpncbbcmoiiipaaGreat
open Go Go.Shelf
def YL:Go.Shelf.Ren:=⟨fun | 6=>165 | 15=>210 | 14=>209 | 28=>259 | 29=>260 | 20=>251 | 21=>252 | 22=>253 | 23=>254 | 24=>255 | 25=>256 | 26=>257 | 27=>258 | 46=>275 | 47=>276 | 48=>277 | 49=>278 | 50=>279 | 57=>294 | n=>n,fun | 22=>29 | 24=>56 | 25=>191 | 3=>3 | 39=>206 | 0=>0 | 53=>270 | 55=>171 | 4=>4 | 46=>264 | 45=>263 | 50=>227 | 5=>5 | 9=>9 | 66=>290 | 70=>294 | 76=>306 | 77=>307 | n=>n,fun | n=>n⟩
theorem jdp:Go.Proofs.SlLaysF0.n6 Tryz.prog YL:= {
 mixed:=by kernel_rfl
 f6:=⟨Tryz.f165.name,by decide,Tryz.func165.trans (congrArg some Kr)⟩
 f14:=⟨Tryz.f209.name,by decide,Tryz.func209.trans (congrArg some Kr)⟩
 f15:=Tryz.func210.trans (congrArg some Kr)
 f20:=⟨Tryz.f251.name,by decide,Tryz.func251.trans (congrArg some Kr)⟩
 f21:=⟨Tryz.f252.name,by decide,Tryz.func252.trans (congrArg some Kr)⟩
 f22:=⟨Tryz.f253.name,by decide,Tryz.func253.trans (congrArg some Kr)⟩
 f23:=⟨Tryz.f254.name,by decide,Tryz.func254.trans (congrArg some Kr)⟩
 f24:=⟨Tryz.f255.name,by decide,Tryz.func255.trans (congrArg some Kr)⟩
 f25:=⟨Tryz.f256.name,by decide,Tryz.func256.trans (congrArg some Kr)⟩
 f26:=⟨Tryz.f257.name,by decide,Tryz.func257.trans (congrArg some Kr)⟩
 f27:=⟨Tryz.f258.name,by decide,Tryz.func258.trans (congrArg some Kr)⟩
 f28:=Tryz.func259.trans (congrArg some Kr)
 f29:=Tryz.func260.trans (congrArg some Kr)
 f46:=⟨Tryz.f275.name,by decide,Tryz.func275.trans (congrArg some Kr)⟩
 f47:=Tryz.func276.trans (congrArg some Kr)
 f48:=Tryz.func277.trans (congrArg some Kr)
 f49:=⟨Tryz.f278.name,by decide,Tryz.func278.trans (congrArg some Kr)⟩
 f50:=⟨Tryz.f279.name,by decide,Tryz.func279.trans (congrArg some Kr)⟩
 f57:=⟨Tryz.f294.name,by decide,Tryz.func294.trans (congrArg some Kr)⟩
 t0:=Tryz.underlying0
 a0:=Tryz.isAgg0
 z0:=Tryz.sizeOf0
 v0:=Tryz.zeroValue0
 t3:=Tryz.underlying3
 a3:=Tryz.isAgg3
 z3:=Tryz.sizeOf3
 v3:=Tryz.zeroValue3
 t4:=Tryz.underlying4
 a4:=Tryz.isAgg4
 z4:=Tryz.sizeOf4
 v4:=Tryz.zeroValue4
 t5:=Tryz.underlying5
 a5:=Tryz.isAgg5
 z5:=Tryz.sizeOf5
 v5:=Tryz.zeroValue5
 t9:=Tryz.underlying9
 a9:=Tryz.isAgg9
 z9:=Tryz.sizeOf9
 v9:=Tryz.zeroValue9
 t22:=Tryz.underlying29
 a22:=Tryz.isAgg29
 z22:=Tryz.sizeOf29
 v22:=Tryz.zeroValue29
 t25:=Tryz.underlying191
 a25:=Tryz.isAgg191
 z25:=Tryz.sizeOf191
 v25:=Tryz.zeroValue191
 t39:=Tryz.underlying206
 a39:=Tryz.isAgg206
 z39:=Tryz.sizeOf206
 v39:=Tryz.zeroValue206
 t45:=Tryz.underlying263
 a45:=Tryz.isAgg263
 z45:=Tryz.sizeOf263
 v45:=Tryz.zeroValue263
 t46:=Tryz.underlying264
 a46:=Tryz.isAgg264
 z46:=Tryz.sizeOf264
 v46:=Tryz.zeroValue264
 t50:=Tryz.underlying227
 a50:=Tryz.isAgg227
 z50:=Tryz.sizeOf227
 v50:=Tryz.zeroValue227
 t53:=Tryz.underlying270
 a53:=Tryz.isAgg270
 z53:=Tryz.sizeOf270
 v53:=Tryz.zeroValue270
 t55:=Tryz.underlying171
 a55:=Tryz.isAgg171
 z55:=Tryz.sizeOf171
 v55:=Tryz.zeroValue171
 t66:=Tryz.underlying290
 a66:=Tryz.isAgg290
 z66:=Tryz.sizeOf290
 v66:=Tryz.zeroValue290
 t70:=Tryz.underlying294
 a70:=Tryz.isAgg294
 z70:=Tryz.sizeOf294
 v70:=Tryz.zeroValue294
 t76:=Tryz.underlying306
 a76:=Tryz.isAgg306
 z76:=Tryz.sizeOf306
 v76:=Tryz.zeroValue306
 t77:=Tryz.underlying307
 a77:=Tryz.isAgg307
 z77:=Tryz.sizeOf307
 v77:=Tryz.zeroValue307}
end Go.Proofs.YtpncbbcmoiiipaaGreat
namespace Go.Proofs.YtpncbbcmoiiipaaGreat
open Go Go.RowKit
theorem jlt {l:Int} {n:Nat} (h:0≤szV l n) : (n:Int)≤l∧szV l n=l- n:=by
 unfold szV at*
 split
 ·exact⟨by assumption,rfl⟩
 ·rename_i h2;rw [if_neg h2] at h;omega
theorem jpf (a b:Nat) :decide ((1:Int) +2* (a:Int) +2* (b:Int) <0) =false:=decide_eq_false Om
theorem jkj (A:Option Addr) (n c:Nat) (xs:List (Int×Int)) (w1:World) (h:Pts w1 A n xs) (hn: (n:Int)≤1048576) :
  Calls Tryz.prog 14 #[.slice A n c] w1 fun e w'=>∃x:Nat×Nat×Nat,e= .returned (.slice (some ⟨x.1,0,none⟩) n n)∧Over w1 w'∧(jgY n xs x.2.1 x.2.2 (some ⟨x.1,0,none⟩)).P w'∧(∀b,(jgY n xs x.2.1 x.2.2 (some ⟨x.1,0,none⟩)).F b→w1.heap.size≤b)∧(jgY n xs x.2.1 x.2.2 (some ⟨x.1,0,none⟩)).B=0∧True:=by
 have hl:xs.length=n:=h.1
 subst hl
 refine(jno A _ c xs w1 h hn).mono ?_
 rintro e w' ⟨g,rfl,hg,ho,hO⟩
 refine⟨(g,w1.heap.size,w'.heap.size),J,hO,jgX ?_ (jih _),fun b hb=>hb.1,sz⟩
 obtain ⟨⟨cs,hs,hh⟩,hl,hx⟩ :=ho
 refine⟨J,fun h0=>⟨g,0,_,cs,J,hg,J3 hh,hh,fun k hk=> ?_⟩⟩
 obtain ⟨b,o,e,_,hc⟩ :=hx h0
 injection e with e
 injection e with e1 e2
 subst e1 e2
 have:=hc k hk
 rwa [cell_of_row w' _ _ _ _ (0,0) hh,cell_of_row w' _ _ _ _ (0,0) hh] at this
theorem jlY (m:Int) {lo hi n c:Nat} {A:Option Addr} {xs:List (Int×Int)} {w:World} (h:OwnP lo hi w A n xs) (hz:hi≤w.heap.size) (hm:0≤m) (hb:m+2* (n:Int)≤4611686018427387904) :
  Calls Tryz.prog 18 #[.slice A n c, .int .i64 m] w fun e w'=>e= .returned (.int .i64 (m+2* (n:Int)))∧Wrs (jgY n xs lo hi A).F w w'∧(jgY n (jkk m n) lo hi A).P w':=
 (jml lo hi A n c xs m w h hm hb).mono (by rintro e w' ⟨he,hw,hg⟩;exact⟨he,hw.mono fun _ h=>h.2.2,jgX hg (jjb hz hw.size)⟩)
end Go.Proofs.YtpncbbcmoiiipaaGreat
namespace Go.Proofs.YtpncbbcmoiiipaaGreat
open Go Go.Shelf Go.RowKit Go.Lib Go.Sort
def wE (p q:Pn) :Int:=if p.2=q.2 then wt (p.1- q.1) else wt (p.2- q.2)
theorem MP (p q:Pn) :wE p q<0↔vh p q:=by
 have h1:=u7 (p.1- q.1)
 have h2:=u7 (p.2- q.2)
 unfold wE vh
 split<;>omega
set_option maxHeartbeats 1000000 in
theorem UY (p q:Pn) (hp:ZQ p) (hq:ZQ q) (W:World) :Calls Tryz.prog 166 #[.agg #[.int .i64 p.1, .int .i64 p.2], .agg #[.int .i64 q.1, .int .i64 q.2]] W fun e w'=>e= .returned (.int .i64 (wE p q))∧∃q' os',w'=grow (W.drewN q') os':=by
 obtain ⟨⟨p1,p2⟩,p3,p4⟩ :=hp
 obtain ⟨⟨q1,q2⟩,q3,q4⟩ :=hq
 by_cases h:p.2=q.2
 ·have e:wE p q=wt (p.1- q.1) :=if_pos h
  have hc:=Kv (p.1- q.1)
  rw [e]
  generalize wt (p.1- q.1) =r at hc⊢
  go_enter Tryz.func166,Tryz.ntmps166
  go_wp2_with (go_at_call 202;refine(hc _).mono ?_;rintro e w' ⟨rfl,rfl⟩)
  go_ret
  exact⟨rfl,0,_,by rw [alloc_eq_grow,alloc_eq_grow,grow_grow];rfl⟩
 ·have e:wE p q=wt (p.2- q.2) :=if_neg h
  have hc:=Kv (p.2- q.2)
  rw [e]
  generalize wt (p.2- q.2) =r at hc⊢
  go_enter Tryz.func166,Tryz.ntmps166
  go_wp2_with (go_at_call 202;refine(hc _).mono ?_;rintro e w' ⟨rfl,rfl⟩)
  go_ret
  exact⟨rfl,0,_,by rw [alloc_eq_grow,alloc_eq_grow,grow_grow];rfl⟩
theorem Zk {l r vs:List Value} :∀ {off:Nat},off+vs.length≤l.length→qP (l++r) off vs=qP l off vs++r:=by
 induction vs generalizing l with
 | nil=>intro off _;rfl
 | cons v vs ih=>
  intro off h
  simp only [jim] at h
  rw [qP,qP,List.set_append_left _ _ Om]
  exact ih (by simp;omega)
end Go.Proofs.YtpncbbcmoiiipaaGreat
