import Derived.Test.YtpncbbcmoiiipaaGreatMRay
import Derived.Test.YtpncbbcmoiiipaaGreatMTrQ
import Derived.Test.YtpncbbcmoiiipaaGreatMOrder
set_option linter.unusedVariables false
set_option linter.unusedSimpArgs false
namespace Go.Proofs.YtpncbbcmoiiipaaGreat
open Go Go.RowKit
theorem Fa {S:Nat→Bool} {lt:Nat→Nat→Bool} :∀ {n:Nat},VY S lt n=none→∀j,j<n→S j=false
 | 0,_,j,hj=>absurd hj Om
 | n+1,h,j,hj=>by
  rw [Vz] at h
  cases hb:VY S lt n with
  | some m=>
   rw [hb] at h
   unfold Ls at h
   simp only at h
   split at h<;>cases h
  | none=>
   rw [hb] at h
   unfold Ls at h
   simp only at h
   rcases jjp (Nat.le_of_lt_succ hj) with k | k
   ·exact Fa hb j k
   ·rw [k]
    split at h
    ·cases h
    ·rename_i hs;simpa using hs
def cs (F:Pn→Pn→Int) :List Pn→Int
 | a::b::l=>F a b+cs F (b::l)
 | _=>0
def sR (n:Nat) (u:List Bool) (G:Nat→Int) :Int:=sm (fun k=>if yw u k=true then G k else 0) (List.range n)
def uR (n:Nat) (u:List Bool) (G:Nat→Int) :Int:=sm (fun k=>if yw u k=true then 0 else G k) (List.range n)
theorem jdf {n:Nat} {u:List Bool} {a:Nat} (G:Nat→Int) (ha:a<n) (hl:a<u.length) (hu:yw u a=false) :sR n (u.set a true) G=sR n u G+G a∧uR n (u.set a true) G=uR n u G- G a:=by
 have h1:=OY (List.nodup_range (n:=n)) (k:=a) (jjo.2 ha) G
 unfold sR uR
 rw [←h1,←xM,←yu]
 constructor
 ·refine JW fun k _=> ?_
  rw [Gn hl]
  by_cases hk:a=k
  ·rw [if_pos hk,←hk,hu];simp
  ·rw [if_neg hk,decide_eq_false (Ne.symm hk),Bool.false_or,jj0]
 ·refine JW fun k _=> ?_
  rw [Gn hl]
  by_cases hk:a=k
  ·rw [if_pos hk,←hk,hu];simp
  ·rw [if_neg hk,decide_eq_false (Ne.symm hk),Bool.false_or,Int.sub_zero]
def aB (B:List Leg) (v:Pn) (k:Nat) :Int:=Ut v (lA (lg B k)) - Ut v (lB (lg B k))
def gB (F:Pn→Pn→Int) (B:List Leg) (k:Nat) :Int:=F (lA (lg B k)) (lB (lg B k))
theorem jaZ (v:Pn) :Ut v v=1:=by unfold Ut;rw [decide_eq_true rfl];rfl
theorem jaY (v p:Pn) :0≤Ut v p∧Ut v p≤1:=by unfold Ut ix;split<;>omega
theorem jf9 {v p:Pn} (h:Ut v p=1) :p=v:=by
 unfold Ut ix at h
 split at h
 ·rename_i k;simpa using k
 ·cases h
theorem Fb {α:Type} {f:α→Int} :∀ {l:List α},(∀x∈l,f x≤0)→sm f l≤0
 | [],_=>jj8 _
 | x::l,h=>by
  have h1:=h x (by simp)
  have h2:=Fb (l:=l) fun y hy=>h y (jiq _ hy)
  simp only [sm]
  omega
theorem CC {B:List Leg} (F:Pn→Pn→Int) {first:Nat} :∀(f:Nat) (u:List Bool) (a:Nat) (ps:List Pn),u.length=B.length→a<B.length→yw u a=false→W4 u≤f→
  (∀v,uR B.length u (aB B v) =Ut v (lA (lg B a)) - Ut v (lA (lg B first)))→
  ∃tl,(uK B first f u a ps).2=ps++lA (lg B a) ::tl∧cs F (lA (lg B a) :: (tl++ [lA (lg B first)])) +sR B.length u (gB F B) =sR B.length (uK B first f u a ps).1 (gB F B)∧
   (∀v,uR B.length (uK B first f u a ps).1 (aB B v) =0)∧(∀k,yw u k=true→yw (uK B first f u a ps).1 k=true)∧yw (uK B first f u a ps).1 a=true
 | 0,u,a,ps,hl,ha,hu,hc,_=>by
  have:=Xh Om hu
  omega
 | f+1,u,a,ps,hl,ha,hu,hc,hb=>by
  have hcs:=Xh (show a<u.length by omega) hu
  obtain ⟨s1,s2⟩ :=jdf (gB F B) ha Om hu
  have hb2:∀v,uR B.length (u.set a true) (aB B v) =Ut v (lB (lg B a)) - Ut v (lA (lg B first)) :=fun v=>by
   rw [(jdf (aB B v) ha Om hu).2,hb v]
   unfold aB
   omega
  have hmono:∀k,yw u k=true→yw (u.set a true) k=true:=fun k hk=>by rw [Gn Om,hk,Bool.or_true]
  have hself:yw (u.set a true) a=true:=by rw [Gn Om];simp
  unfold uK
  cases hs:y5 B (u.set a true) first a with
  | none=>
   have hclose:lB (lg B a) =lA (lg B first) :=by
    unfold y5 at hs
    split at hs
    ·rename_i hd
     rw [jig,decide_eq_true_iff] at hd
     exact hd.1
    ·have hno:=Fa hs
     have hle:uR B.length (u.set a true) (aB B (lB (lg B a)))≤0:=by
      unfold uR
      refine Fb fun k hk=> ?_
      by_cases hk2:yw (u.set a true) k=true
      ·rw [if_pos hk2];exact jj8 _
      ·rw [if_neg hk2]
       have hn:=hno k (jjo.1 hk)
       unfold wD at hn
       have hk3:yw (u.set a true) k=false:=by simpa using hk2
       rw [hk3,jjq,jix,decide_eq_false_iff_not] at hn
       have z:Ut (lB (lg B a)) (lA (lg B k)) =0:=by unfold Ut;rw [decide_eq_false hn];rfl
       have:= (jaY (lB (lg B a)) (lB (lg B k))).1
       unfold aB
       omega
     rw [hb2,jaZ] at hle
     have:=jaY (lB (lg B a)) (lA (lg B first))
     exact(jf9 Om).symm
   refine⟨[],by simp,?_,fun v=> ?_,hmono,hself⟩
   ·show F _ _+0+_=_
    rw [s1,←hclose]
    unfold gB
    omega
   ·rw [hb2,hclose];omega
  | some m=>
   simp only
   obtain ⟨hm,hum⟩ :=IP hs
   have hlm:lA (lg B m) =lB (lg B a) :=by
    unfold y5 at hs
    split at hs
    ·cases hs
    ·have:= (UQ hs).2
     unfold wD at this
     rw [jig,decide_eq_true_iff] at this
     exact this.2
   obtain ⟨tl,t1,t2,t3,t4,t5⟩ :=CC F (first:=first) f (u.set a true) m (ps++ [lA (lg B a)]) (by rw [jjv,hl]) hm hum Om (fun v=>by rw [hb2 v,hlm])
   refine⟨lA (lg B m) ::tl,by rw [t1];simp,?_,t3,fun k hk=>t4 k (hmono k hk),t4 a hself⟩
   show F _ _+cs F (lA (lg B m) :: (tl++ [lA (lg B first)])) +_=_
   rw [←t2,s1,hlm]
   unfold gB
   omega
theorem TB (n k:Nat) :yw (List.replicate n false) k=false:=by
 unfold yw
 rw [List.getD_eq_getElem?_getD,List.getElem?_replicate]
 split<;>rfl
theorem jdE {B:List Leg} (F:Pn→Pn→Int) (hc:∀v,uR B.length (List.replicate B.length false) (aB B v) =0) :∀k,k≤B.length→
  sm (fun r=>cs F (r++ [pt r 0])) (kL B k).2=sR B.length (kL B k).1 (gB F B)∧(∀v,uR B.length (kL B k).1 (aB B v) =0)∧∀j,j<k→yw (kL B k).1 j=true
 | 0,_=>by
  refine⟨?_,hc,fun j hj=>absurd hj Om⟩
  show 0=_
  unfold sR
  refine(WU (List.range B.length)).symm.trans (JW fun k _=> ?_)
  rw [if_neg (by show¬yw (List.replicate B.length false) k=true;rw [TB];simp)]
 | k+1,hk=>by
  obtain ⟨i1,i2,i3⟩ :=jdE F hc k Om
  unfold kL
  split
  ·rename_i hu
   refine⟨i1,i2,fun j hj=> ?_⟩
   rcases jjp (Nat.le_of_lt_succ hj) with c | c
   ·exact i3 j c
   ·rw [c];exact hu
  ·rename_i hu
   obtain ⟨tl,t1,t2,t3,t4,t5⟩ :=CC F (first:=k) (W4 (kL B k).1) (kL B k).1 k [] (y6 k) Om (by simpa using hu) (jih _) (fun v=>by rw [i2 v];omega)
   refine⟨?_,t3,fun j hj=> ?_⟩
   ·rw [Kn,i1,←t2]
    simp only [sm]
    rw [t1]
    have:pt ([] ++lA (lg B k) ::tl) 0=lA (lg B k) :=rfl
    rw [this]
    simp only [jR,jS]
    omega
   ·rcases jjp (Nat.le_of_lt_succ hj) with c | c
    ·exact t4 j (i3 j c)
    ·rw [c];exact t5
theorem jf3 (g:Leg→Int) (B:List Leg) :sm (fun k=>g (lg B k)) (List.range B.length) =sm g B:=by
 have key:∀k,k≤B.length→sm (fun k=>g (lg B k)) (List.range k) =sm g (B.take k) :=fun k=>by
  induction k with
  | zero=>intro _;rfl
  | succ k ih=>
   intro hk
   rw [List.range_succ,Kn,ih Om,jin Om,Kn]
   have:lg B k=B[k] :=by simp [lg,List.getD,show k<B.length by omega]
   simp only [sm,this]
 rw [key _ (jih _),jiX]
theorem Fk {B:List Leg} (F:Pn→Pn→Int) (hc:∀v,sm (fun l=>Ut v (lA l) - Ut v (lB l)) B=0) :sm (fun r=>cs F (r++ [pt r 0])) (KG B) =sm (fun l=>F (lA l) (lB l)) B:=by
 have h0:∀v,uR B.length (List.replicate B.length false) (aB B v) =0:=fun v=>by
  rw [←hc v,←jf3]
  unfold uR
  refine JW fun k _=> ?_
  rw [if_neg (by rw [TB];simp)]
  rfl
 obtain ⟨t1,_,t3⟩ :=jdE F h0 B.length (jih _)
 unfold KG
 rw [t1,←jf3]
 unfold sR
 refine JW fun k hk=> ?_
 rw [if_pos (t3 k (jjo.1 hk))]
 rfl
theorem FG (F:Pn→Pn→Int) :∀(u:List Pn) (a:Pn) (v:List Pn),cs F (u++a::v) =cs F (u++ [a]) +cs F (a::v)
 | [],a,v=>by simp [cs]
 | [x],a,v=>by simp only [jiJ,jiW,cs];omega
 | x::y::u,a,v=>by
  have:=FG F (y::u) a v
  simp only [jiJ,cs] at this⊢
  omega
def Xf (F:Pn→Pn→Int) (r:List Pn) :Int:=cs F (r++ [pt r 0])
theorem PA (F:Pn→Pn→Int) (xs:List Pn) (k:Nat) :Xf F (UV xs k) =Xf F xs:=by
 unfold Xf UV
 have h:=jiw k xs
 cases hu:xs.take k with
 | nil=>rw [hu] at h;rw [jiG];rw [jiW] at h;rw [h]
 | cons a u=>
  cases hv:xs.drop k with
  | nil=>rw [hv,jiG,hu] at h;rw [jiW,h]
  | cons b v=>
   rw [hu,hv] at h
   rw [←h]
   show cs F ((b::v++a::u) ++ [b]) =cs F ((a::u++b::v) ++ [a])
   rw [jil,jil]
   show cs F ((b::v) ++a:: (u++ [b])) =cs F ((a::u) ++b:: (v++ [a]))
   rw [FG F (b::v),FG F (a::u)]
   show cs F ((b::v) ++ [a]) +cs F ((a::u) ++ [b]) =cs F ((a::u) ++ [b]) +cs F ((b::v) ++ [a])
   omega
theorem RL (F:Pn→Pn→Int) :∀L:List Pn,cs F L=sm (fun j=>F (pt L j) (pt L (j+1))) (List.range (L.length- 1))
 | [] =>rfl
 | [_] =>rfl
 | a::b::l=>by
  have ih:=RL F (b::l)
  show F a b+cs F (b::l) =_
  rw [ih]
  show _=sm _ (List.range (l.length+1))
  rw [List.range_succ_eq_map]
  simp only [sm]
  rw [VZ]
  rfl
theorem GE (F:Pn→Pn→Int) (xs:List Pn) :Xf F xs=sm (fun j=>F (pt xs j) (pt xs (nx xs j))) (List.range xs.length) :=by
 unfold Xf
 rw [RL]
 rw [show(xs++ [pt xs 0]).length- 1=xs.length by simp]
 refine JW fun j hj=> ?_
 have hj:=jjo.1 hj
 have e1:pt (xs++ [pt xs 0]) j=pt xs j:=by
  simp only [pt,px,py,List.getD_eq_getElem?_getD,List.getElem?_append_left hj]
 rw [e1]
 congr 1
 unfold nx
 by_cases k:j+1<xs.length
 ·rw [jjx k]
  simp only [pt,px,py,List.getD_eq_getElem?_getD,List.getElem?_append_left k]
 ·have:j+1=xs.length:=by omega
  rw [this,jj3]
  have e4: (xs++ [pt xs 0])[xs.length]? =some (pt xs 0) :=by rw [List.getElem?_append_right (jih _),Nat.sub_self];rfl
  generalize pt xs 0=z at e4⊢
  simp only [pt,px,py,List.getD_eq_getElem?_getD,e4]
  rfl
theorem HX (F:Pn→Pn→Int) (h0:∀a,F a a=0) (xs:List Pn) :∀k,sm (fun l=>F (lA l) (lB l)) (qC xs k) =sm (fun j=>F (pt xs j) (pt xs (nx xs j))) (List.range k)
 | 0=>rfl
 | k+1=>by
  rw [List.range_succ,Kn,←HX F h0 xs k]
  have e:F (lA (DG xs k)) (lB (DG xs k)) =F (pt xs k) (pt xs (nx xs k)) :=rfl
  have e0:qC xs (k+1) =if Hx xs k=true then qC xs k else qC xs k++ [DG xs k] :=rfl
  rw [e0]
  split
  ·rename_i hs
   simp only [Hx,jig,beq_iff_eq] at hs
   have:pt xs k=pt xs (nx xs k) :=Prod.ext hs.1 hs.2
   simp only [sm]
   rw [←this,h0]
   omega
  ·rw [Kn]
   simp only [sm]
   rw [e]
theorem GK (F:Pn→Pn→Int) (h0:∀a,F a a=0) (xs:List Pn) :sm (fun l=>F (lA l) (lB l)) (J0 xs) =Xf F xs:=by
 rw [GE]
 exact HX F h0 xs _
theorem jdS (F:Pn→Pn→Int) (h0:∀a,F a a=0) (rs:List (List (Int×Int))) :sm (fun l=>F (lA l) (lB l)) (jE rs) =sm (Xf F) rs:=by
 have key:∀k,k≤rs.length→sm (fun l=>F (lA l) (lB l)) (qJ rs k) =sm (Xf F) (rs.take k) :=fun k=>by
  induction k with
  | zero=>intro _;rfl
  | succ k ih=>
   intro hk
   unfold qJ
   rw [Kn,ih Om,jin (show k<rs.length by omega),Kn,GK F h0,Wa]
   simp only [sm]
   omega
 have:=key rs.length (jih _)
 rw [jiX] at this
 exact this
theorem jdk {α:Type} (lt:α→α→Bool) (f:α→Int) (x:α) :∀l:List α,sm f (VS lt x l) =f x+sm f l
 | [] =>rfl
 | y::l=>by
  unfold VS
  split
  ·rfl
  ·simp only [sm]
   rw [jdk lt f x l]
   omega
theorem jg7 {α:Type} (lt:α→α→Bool) (f:α→Int) (l:List α) :sm f (kW lt l) =sm f l:=by
 have key:∀(l acc:List α),sm f (l.foldl (fun acc x=>VS lt x acc) acc) =sm f acc+sm f l:=fun l=>by
  induction l with
  | nil=>intro acc;simp [sm]
  | cons x l ih=>
   intro acc
   rw [jjd,ih,jdk]
   simp only [sm]
   omega
 unfold kW
 rw [key]
 simp [sm]
theorem Ck (F:Pn→Pn→Int) (rs:List (List (Int×Int))) :sm (Xf F) (KX rs) =sm (Xf F) rs:=by
 unfold KX
 rw [jg7,VZ]
 exact JW fun r _=>PA F r _
theorem je8 {B:List Leg} (F:Pn→Pn→Int) (h0:∀a,F a a=0) (hc:∀v,sm (fun l=>Ut v (lA l) - Ut v (lB l)) B=0) :sm (fun l=>F (lA l) (lB l)) (jE (KX (KG B))) =sm (fun l=>F (lA l) (lB l)) B:=by
 rw [jdS F h0,Ck]
 exact Fk F hc
theorem Iy (e:Leg) (l:List Leg) :sm (fun x=>if x=e then 1 else 0) l= (l.count e:Int) :=by
 induction l with
 | nil=>rfl
 | cons x l ih=>
  simp only [sm]
  rw [ih,List.count_cons]
  by_cases k:x=e
  ·rw [if_pos k,if_pos (by simpa using k)];omega
  ·rw [if_neg k,if_neg (by simpa using k)];omega
theorem zN (xs:List Pn) :∀k,∀l∈qC xs k,lA l≠lB l
 | 0,l,h=>by cases h
 | k+1,l,h=>by
  unfold qC at h
  split at h
  ·exact zN xs k l h
  ·rename_i hs
   rcases jiv.1 h with h | h
   ·exact zN xs k l h
   ·rw [jik.1 h]
    intro e
    refine hs ?_
    have e1:px xs k=px xs (nx xs k) :=congrArg Prod.fst e
    have e2:py xs k=py xs (nx xs k) :=congrArg Prod.snd e
    simp [Hx,e1,e2]
theorem jaS (rs:List (List (Int×Int))) :∀k,∀l∈qJ rs k,lA l≠lB l
 | 0,l,h=>by cases h
 | k+1,l,h=> (jiv.1 h).elim (jaS rs k l) (zN _ _ l)
theorem jcJ {B:List Leg} (hne:∀l∈B,lA l≠lB l) (hc:∀v,sm (fun l=>Ut v (lA l) - Ut v (lB l)) B=0) : (jE (KX (KG B))).Perm B:=by
 refine List.perm_iff_count.2 fun e=> ?_
 by_cases he:lA e=lB e
 ·have z:∀L:List Leg,(∀l∈L,lA l≠lB l)→L.count e=0:=fun L hL=>List.count_eq_zero.2 fun h=>hL e h he
  rw [z (jE _) (jaS _ _),z _ hne]
 ·have h:=je8 (B:=B) (fun a b=>if a=lA e∧b=lB e then 1 else 0) (fun a=>by
   show(if a=lA e∧a=lB e then(1:Int) else 0) =0
   rw [if_neg fun k=>he (k.1.symm.trans k.2)]) hc
  have e1:∀L:List Leg,sm (fun l=>if lA l=lA e∧lB l=lB e then(1:Int) else 0) L=sm (fun x=>if x=e then 1 else 0) L:=fun L=>JW fun x _=>by
   by_cases k:x=e
   ·rw [if_pos k,if_pos (by rw [k];exact⟨rfl,rfl⟩)]
   ·rw [if_neg k,if_neg fun c=>k (Of c.1 c.2)]
  have h':sm (fun l=>if lA l=lA e∧lB l=lB e then(1:Int) else 0) (jE (KX (KG B))) =sm (fun l=>if lA l=lA e∧lB l=lB e then(1:Int) else 0) B:=h
  rw [e1,e1,Iy,Iy] at h'
  omega
theorem Ok {E F:List Leg} (h:E.Perm F) (p:Leg) :kX E p=kX F p:=by
 unfold kX Qe wy
 rw [wj _ h,wj _ h]
theorem CP {α:Type} (f:α→Int) (l:List α) :sm (fun x=> -f x) l= -sm f l:=by
 induction l with
 | nil=>rfl
 | cons x l ih=>simp only [sm,ih];omega
theorem jfq {e:Leg} (h:lA e≠lB e) :sg (Qn e) = -sg e:=by
 have hab: (lA e).1≠(lB e).1∨(lA e).2≠(lB e).2:=by
  by_cases k: (lA e).1= (lB e).1
  ·exact .inr fun z=>h (Prod.ext k z)
  ·exact .inl k
 have e1:lA (Qn e) =lB e:=rfl
 have e2:lB (Qn e) =lA e:=rfl
 unfold sg
 rw [e1,e2]
 by_cases k:vh (lB e) (lA e)
 ·have n:¬vh (lA e) (lB e) :=by unfold vh at k⊢;omega
  rw [if_pos k,if_neg n];rfl
 ·have n:vh (lA e) (lB e) :=by unfold vh at k⊢;omega
  rw [if_neg k,if_pos n]
theorem Ce {E:List Leg} (hne:∀e∈E,lA e≠lB e) (p:Leg) : (kX (E.map Qn) p).left= -(kX E p).left∧(kX (E.map Qn) p).right= -(kX E p).right:=by
 have h1:Qe (E.map Qn) p= -Qe E p:=by
  unfold Qe
  rw [VZ,←CP]
  refine JW fun e he=> ?_
  rw [U5 (hne e he),jfq (hne e he)]
  split<;>simp
 have h2:wy (E.map Qn) p= -wy E p:=by
  unfold wy
  rw [VZ,←CP]
  refine JW fun e he=> ?_
  rw [U5 (hne e he)]
  have:Qw (Q2 true (Qn e)) (vC p) (KU p) = -Qw (Q2 true e) (vC p) (KU p) :=Ye (Q2 true e) _ _
  rw [this]
  split<;>simp
 unfold kX
 rw [h1,h2]
 split
 ·exact⟨rfl,by simp only;omega⟩
 ·exact⟨by simp only;omega,rfl⟩
theorem Sa (a b how:Int) :Qy (-a) (-b) how=Qy a b how:=by
 have h:∀z:Int,(-z==0) = (z==0) :=fun z=>by
  by_cases k:z=0
  ·rw [k];rfl
  ·rw [beq_eq_false_iff_ne.2 k,beq_eq_false_iff_ne.2 Om]
 unfold Qy
 rw [h,h]
theorem jd7 {K E F:List Leg} {how:Int} (hE:∀e∈E,lA e≠lB e) (hF:∀e∈F,lA e≠lB e) {E' F':List Leg} (pE:E'.Perm (E.map Qn)) (pF:F'.Perm (F.map Qn)) :Kw K E' F' how=Kw K E F how:=by
 unfold Kw
 refine congrArg List.flatten (List.map_congr_left fun p _=> ?_)
 obtain ⟨a1,a2⟩ :=Ce hE p
 obtain ⟨b1,b2⟩ :=Ce hF p
 rw [Ok pE,Ok pF,a1,a2,b1,b2,Sa,Sa]
end Go.Proofs.YtpncbbcmoiiipaaGreat
