import Derived.Test.YtbahojdbmmjkcaaGreatMRay
import Derived.Test.YtbahojdbmmjkcaaGreatMTrQ
import Derived.Test.YtbahojdbmmjkcaaGreatMOrder
set_option linter.unusedVariables false
set_option linter.unusedSimpArgs false
namespace Go.Proofs.YtbahojdbmmjkcaaGreat
open Go Go.RowKit
variable {B:List Leg} {u:List Bool}
theorem FK {S:Nat→Bool} {lt:Nat→Nat→Bool} :∀ {n:Nat},wl S lt n=none→∀j,j<n→S j=false
 | 0,_,j,hj=>absurd hj Om
 | n+1,h,j,hj=>by
  rw [VN] at h
  cases hb:wl S lt n with
  | some m=>
   rw [hb] at h
   unfold LU at h
   simp only at h
   split at h<;>cases h
  | none=>
   rw [hb] at h
   unfold LU at h
   simp only at h
   rcases jkq (Nat.le_of_lt_succ hj) with k | k
   ·exact FK hb j k
   ·rw [k]
    split at h
    ·cases h
    ·rename_i hs;simpa using hs
def cs (F:Pn→Pn→Int) :List Pn→Int
 | a::b::l=>F a b+cs F (b::l)
 | _=>0
def sR (n:Nat) (u:List Bool) (G:Nat→Int) :Int:=sm (fun k=>if yP u k=true then G k else 0) (List.range n)
def uR (n:Nat) (u:List Bool) (G:Nat→Int) :Int:=sm (fun k=>if yP u k=true then 0 else G k) (List.range n)
theorem jdZ {n:Nat} {a:Nat} (G:Nat→Int) (ha:a<n) (hl:a<u.length) (hu:yP u a=false) :sR n (u.set a true) G=sR n u G+G a∧uR n (u.set a true) G=uR n u G- G a:=by
 have h1:=BB (List.nodup_range (n:=n)) (k:=a) (jko.2 ha) G
 unfold sR uR
 rw [←h1,←yL,←yM]
 constructor
 ·refine J0 fun k _=> ?_
  rw [GX hl]
  by_cases hk:a=k
  ·rw [if_pos hk,←hk,hu];simp
  ·rw [if_neg hk,decide_eq_false (Ne.symm hk),Bool.false_or,jk4]
 ·refine J0 fun k _=> ?_
  rw [GX hl]
  by_cases hk:a=k
  ·rw [if_pos hk,←hk,hu];simp
  ·rw [if_neg hk,decide_eq_false (Ne.symm hk),Bool.false_or,Int.sub_zero]
def aB (B:List Leg) (v:Pn) (k:Nat) :Int:=UN v (lA (lg B k)) - UN v (lB (lg B k))
def gB (F:Pn→Pn→Int) (B:List Leg) (k:Nat) :Int:=F (lA (lg B k)) (lB (lg B k))
theorem jbJ (v:Pn) :UN v v=1:=by unfold UN;rw [decide_eq_true rfl];rfl
theorem jbI (v p:Pn) :0≤UN v p∧UN v p≤1:=by unfold UN ix;split<;>omega
theorem jgW {v p:Pn} (h:UN v p=1) :p=v:=by
 unfold UN ix at h
 split at h
 ·rename_i k;simpa using k
 ·cases h
theorem FL {α:Type} {f:α→Int} :∀ {l:List α},(∀x∈l,f x≤0)→sm f l≤0
 | [],_=>jlg _
 | x::l,h=>by
  have h1:=h x (by simp)
  have h2:=FL (l:=l) fun y hy=>h y (jjs _ hy)
  simp only [sm]
  omega
theorem Eo {B:List Leg} (F:Pn→Pn→Int) {first:Nat} :∀(f:Nat) (u:List Bool) (a:Nat) (ps:List Pn),u.length=B.length→a<B.length→yP u a=false→uq u≤f→
  (∀v,uR B.length u (aB B v) =UN v (lA (lg B a)) - UN v (lA (lg B first)))→
  ∃tl,(Ud B first f u a ps).2=ps++lA (lg B a) ::tl∧cs F (lA (lg B a) :: (tl++ [lA (lg B first)])) +sR B.length u (gB F B) =sR B.length (Ud B first f u a ps).1 (gB F B)∧
   (∀v,uR B.length (Ud B first f u a ps).1 (aB B v) =0)∧(∀k,yP u k=true→yP (Ud B first f u a ps).1 k=true)∧yP (Ud B first f u a ps).1 a=true
 | 0,u,a,ps,hl,ha,hu,hc,_=>by
  have:=XO Om hu
  omega
 | f+1,u,a,ps,hl,ha,hu,hc,hb=>by
  have hcs:=XO (show a<u.length by omega) hu
  obtain ⟨s1,s2⟩ :=jdZ (gB F B) ha Om hu
  have hb2:∀v,uR B.length (u.set a true) (aB B v) =UN v (lB (lg B a)) - UN v (lA (lg B first)) :=fun v=>by
   rw [(jdZ (aB B v) ha Om hu).2,hb v]
   unfold aB
   omega
  have hmono:∀k,yP u k=true→yP (u.set a true) k=true:=fun k hk=>by rw [GX Om,hk,Bool.or_true]
  have hself:yP (u.set a true) a=true:=by rw [GX Om];simp
  unfold Ud
  cases hs:Yr B (u.set a true) first a with
  | none=>
   have hclose:lB (lg B a) =lA (lg B first) :=by
    unfold Yr at hs
    split at hs
    ·rename_i hd
     rw [jjl,decide_eq_true_iff] at hd
     exact hd.1
    ·have hno:=FK hs
     have hle:uR B.length (u.set a true) (aB B (lB (lg B a)))≤0:=by
      unfold uR
      refine FL fun k hk=> ?_
      by_cases hk2:yP (u.set a true) k=true
      ·rw [if_pos hk2];exact jlg _
      ·rw [if_neg hk2]
       have hn:=hno k (jko.1 hk)
       unfold wZ at hn
       have hk3:yP (u.set a true) k=false:=by simpa using hk2
       rw [hk3,Bool.not_false,jjG,decide_eq_false_iff_not] at hn
       have z:UN (lB (lg B a)) (lA (lg B k)) =0:=by unfold UN;rw [decide_eq_false hn];rfl
       have:= (jbI (lB (lg B a)) (lB (lg B k))).1
       unfold aB
       omega
     rw [hb2,jbJ] at hle
     have:=jbI (lB (lg B a)) (lA (lg B first))
     exact(jgW Om).symm
   refine⟨[],by simp,?_,fun v=> ?_,hmono,hself⟩
   ·show F _ _+0+_=_
    rw [s1,←hclose]
    unfold gB
    omega
   ·rw [hb2,hclose];omega
  | some m=>
   simp only
   obtain ⟨hm,hum⟩ :=Ro hs
   have hlm:lA (lg B m) =lB (lg B a) :=by
    unfold Yr at hs
    split at hs
    ·cases hs
    ·have:= (ya hs).2
     unfold wZ at this
     rw [jjl,decide_eq_true_iff] at this
     exact this.2
   obtain ⟨tl,t1,t2,t3,t4,t5⟩ :=Eo F (first:=first) f (u.set a true) m (ps++ [lA (lg B a)]) (by rw [jky,hl]) hm hum Om (fun v=>by rw [hb2 v,hlm])
   refine⟨lA (lg B m) ::tl,by rw [t1];simp,?_,t3,fun k hk=>t4 k (hmono k hk),t4 a hself⟩
   show F _ _+cs F (lA (lg B m) :: (tl++ [lA (lg B first)])) +_=_
   rw [←t2,s1,hlm]
   unfold gB
   omega
theorem Nf (n k:Nat) :yP (List.replicate n false) k=false:=by
 unfold yP
 rw [List.getD_eq_getElem?_getD,List.getElem?_replicate]
 split<;>rfl
theorem jep {B:List Leg} (F:Pn→Pn→Int) (hc:∀v,uR B.length (List.replicate B.length false) (aB B v) =0) :∀k,k≤B.length→
  sm (fun r=>cs F (r++ [pt r 0])) (kO B k).2=sR B.length (kO B k).1 (gB F B)∧(∀v,uR B.length (kO B k).1 (aB B v) =0)∧∀j,j<k→yP (kO B k).1 j=true
 | 0,_=>by
  refine⟨?_,hc,fun j hj=>absurd hj Om⟩
  show 0=_
  unfold sR
  refine(uf (List.range B.length)).symm.trans (J0 fun k _=> ?_)
  rw [if_neg (by show¬yP (List.replicate B.length false) k=true;rw [Nf];simp)]
 | k+1,hk=>by
  obtain ⟨i1,i2,i3⟩ :=jep F hc k Om
  unfold kO
  split
  ·rename_i hu
   refine⟨i1,i2,fun j hj=> ?_⟩
   rcases jkq (Nat.le_of_lt_succ hj) with c | c
   ·exact i3 j c
   ·rw [c];exact hu
  ·rename_i hu
   obtain ⟨tl,t1,t2,t3,t4,t5⟩ :=Eo F (first:=k) (uq (kO B k).1) (kO B k).1 k [] (Ys k) Om (by simpa using hu) (jjm _) (fun v=>by rw [i2 v];omega)
   refine⟨?_,t3,fun j hj=> ?_⟩
   ·rw [kV,i1,←t2]
    simp only [sm]
    rw [t1]
    have:pt ([] ++lA (lg B k) ::tl) 0=lA (lg B k) :=rfl
    rw [this]
    simp only [jS,jT]
    omega
   ·rcases jkq (Nat.le_of_lt_succ hj) with c | c
    ·exact t4 j (i3 j c)
    ·rw [c];exact t5
theorem jgP (g:Leg→Int) (B:List Leg) :sm (fun k=>g (lg B k)) (List.range B.length) =sm g B:=by
 have key:∀k,k≤B.length→sm (fun k=>g (lg B k)) (List.range k) =sm g (B.take k) :=fun k=>by
  induction k with
  | zero=>intro _;rfl
  | succ k ih=>
   intro hk
   rw [List.range_succ,kV,ih Om,jjt Om,kV]
   have:lg B k=B[k] :=by simp [lg,List.getD,show k<B.length by omega]
   simp only [sm,this]
 rw [key _ (jjm _),jj3]
theorem FW (F:Pn→Pn→Int) (hc:∀v,sm (fun l=>UN v (lA l) - UN v (lB l)) B=0) :sm (fun r=>cs F (r++ [pt r 0])) (KJ B) =sm (fun l=>F (lA l) (lB l)) B:=by
 have h0:∀v,uR B.length (List.replicate B.length false) (aB B v) =0:=fun v=>by
  rw [←hc v,←jgP]
  unfold uR
  refine J0 fun k _=> ?_
  rw [if_neg (by rw [Nf];simp)]
  rfl
 obtain ⟨t1,_,t3⟩ :=jep F h0 B.length (jjm _)
 unfold KJ
 rw [t1,←jgP]
 unfold sR
 refine J0 fun k hk=> ?_
 rw [if_pos (t3 k (jko.1 hk))]
 rfl
theorem NF (F:Pn→Pn→Int) :∀(u:List Pn) (a:Pn) (v:List Pn),cs F (u++a::v) =cs F (u++ [a]) +cs F (a::v)
 | [],a,v=>by simp [cs]
 | [x],a,v=>by simp only [jjN,jj2,cs];omega
 | x::y::u,a,v=>by
  have:=NF F (y::u) a v
  simp only [jjN,cs] at this⊢
  omega
def Ol (F:Pn→Pn→Int) (r:List Pn) :Int:=cs F (r++ [pt r 0])
theorem jeY (F:Pn→Pn→Int) (xs:List Pn) (k:Nat) :Ol F (yq xs k) =Ol F xs:=by
 unfold Ol yq
 have h:=jjA k xs
 cases hu:xs.take k with
 | nil=>rw [hu] at h;rw [jjL];rw [jj2] at h;rw [h]
 | cons a u=>
  cases hv:xs.drop k with
  | nil=>rw [hv,jjL,hu] at h;rw [jj2,h]
  | cons b v=>
   rw [hu,hv] at h
   rw [←h]
   show cs F ((b::v++a::u) ++ [b]) =cs F ((a::u++b::v) ++ [a])
   rw [jjq,jjq]
   show cs F ((b::v) ++a:: (u++ [b])) =cs F ((a::u) ++b:: (v++ [a]))
   rw [NF F (b::v),NF F (a::u)]
   show cs F ((b::v) ++ [a]) +cs F ((a::u) ++ [b]) =cs F ((a::u) ++ [b]) +cs F ((b::v) ++ [a])
   omega
theorem Sr (F:Pn→Pn→Int) :∀L:List Pn,cs F L=sm (fun j=>F (pt L j) (pt L (j+1))) (List.range (L.length- 1))
 | [] =>rfl
 | [_] =>rfl
 | a::b::l=>by
  have ih:=Sr F (b::l)
  show F a b+cs F (b::l) =_
  rw [ih]
  show _=sm _ (List.range (l.length+1))
  rw [List.range_succ_eq_map]
  simp only [sm]
  rw [wV]
  rfl
theorem Ha (F:Pn→Pn→Int) (xs:List Pn) :Ol F xs=sm (fun j=>F (pt xs j) (pt xs (nx xs j))) (List.range xs.length) :=by
 unfold Ol
 rw [Sr]
 rw [show(xs++ [pt xs 0]).length- 1=xs.length by simp]
 refine J0 fun j hj=> ?_
 have hj:=jko.1 hj
 have e1:pt (xs++ [pt xs 0]) j=pt xs j:=by
  simp only [pt,px,py,List.getD_eq_getElem?_getD,List.getElem?_append_left hj]
 rw [e1]
 congr 1
 unfold nx
 by_cases k:j+1<xs.length
 ·rw [jkA k]
  simp only [pt,px,py,List.getD_eq_getElem?_getD,List.getElem?_append_left k]
 ·have:j+1=xs.length:=by omega
  rw [this,jk8]
  have e4: (xs++ [pt xs 0])[xs.length]? =some (pt xs 0) :=by rw [List.getElem?_append_right (jjm _),Nat.sub_self];rfl
  generalize pt xs 0=z at e4⊢
  simp only [pt,px,py,List.getD_eq_getElem?_getD,e4]
  rfl
theorem Lu (F:Pn→Pn→Int) (h0:∀a,F a a=0) (xs:List Pn) :∀k,sm (fun l=>F (lA l) (lB l)) (qy xs k) =sm (fun j=>F (pt xs j) (pt xs (nx xs j))) (List.range k)
 | 0=>rfl
 | k+1=>by
  rw [List.range_succ,kV,←Lu F h0 xs k]
  have e:F (lA (Fm xs k)) (lB (Fm xs k)) =F (pt xs k) (pt xs (nx xs k)) :=rfl
  have e0:qy xs (k+1) =if H7 xs k=true then qy xs k else qy xs k++ [Fm xs k] :=rfl
  rw [e0]
  split
  ·rename_i hs
   simp only [H7,jjl,beq_iff_eq] at hs
   have:pt xs k=pt xs (nx xs k) :=Prod.ext hs.1 hs.2
   simp only [sm]
   rw [←this,h0]
   omega
  ·rw [kV]
   simp only [sm]
   rw [e]
theorem jaj (F:Pn→Pn→Int) (h0:∀a,F a a=0) (xs:List Pn) :sm (fun l=>F (lA l) (lB l)) (JZ xs) =Ol F xs:=by
 rw [Ha]
 exact Lu F h0 xs _
theorem jeF (F:Pn→Pn→Int) (h0:∀a,F a a=0) (rs:List (List (Int×Int))) :sm (fun l=>F (lA l) (lB l)) (jt rs) =sm (Ol F) rs:=by
 have key:∀k,k≤rs.length→sm (fun l=>F (lA l) (lB l)) (qE rs k) =sm (Ol F) (rs.take k) :=fun k=>by
  induction k with
  | zero=>intro _;rfl
  | succ k ih=>
   intro hk
   unfold qE
   rw [kV,ih Om,jjt (show k<rs.length by omega),kV,jaj F h0,wu]
   simp only [sm]
   omega
 have:=key rs.length (jjm _)
 rw [jj3] at this
 exact this
theorem jd5 {α:Type} (lt:α→α→Bool) (f:α→Int) (x:α) :∀l:List α,sm f (wd lt x l) =f x+sm f l
 | [] =>rfl
 | y::l=>by
  unfold wd
  split
  ·rfl
  ·simp only [sm]
   rw [jd5 lt f x l]
   omega
theorem jhY {α:Type} (lt:α→α→Bool) (f:α→Int) (l:List α) :sm f (Kd lt l) =sm f l:=by
 have key:∀(l acc:List α),sm f (l.foldl (fun acc x=>wd lt x acc) acc) =sm f acc+sm f l:=fun l=>by
  induction l with
  | nil=>intro acc;simp [sm]
  | cons x l ih=>
   intro acc
   rw [jkk,ih,jd5]
   simp only [sm]
   omega
 unfold Kd
 rw [key]
 simp [sm]
theorem C5 (F:Pn→Pn→Int) (rs:List (List (Int×Int))) :sm (Ol F) (vw rs) =sm (Ol F) rs:=by
 unfold vw
 rw [jhY,wV]
 exact J0 fun r _=>jeY F r _
theorem jfU (F:Pn→Pn→Int) (h0:∀a,F a a=0) (hc:∀v,sm (fun l=>UN v (lA l) - UN v (lB l)) B=0) :sm (fun l=>F (lA l) (lB l)) (jt (vw (KJ B))) =sm (fun l=>F (lA l) (lB l)) B:=by
 rw [jeF F h0,C5]
 exact FW F hc
theorem jd4 (e:Leg) (l:List Leg) :sm (fun x=>if x=e then 1 else 0) l= (l.count e:Int) :=by
 induction l with
 | nil=>rfl
 | cons x l ih=>
  simp only [sm]
  rw [ih,List.count_cons]
  by_cases k:x=e
  ·rw [if_pos k,if_pos (by simpa using k)];omega
  ·rw [if_neg k,if_neg (by simpa using k)];omega
theorem Zd (xs:List Pn) :∀k,∀l∈qy xs k,lA l≠lB l
 | 0,l,h=>by cases h
 | k+1,l,h=>by
  unfold qy at h
  split at h
  ·exact Zd xs k l h
  ·rename_i hs
   rcases jjz.1 h with h | h
   ·exact Zd xs k l h
   ·rw [jjp.1 h]
    intro e
    refine hs ?_
    have e1:px xs k=px xs (nx xs k) :=congrArg Prod.fst e
    have e2:py xs k=py xs (nx xs k) :=congrArg Prod.snd e
    simp [H7,e1,e2]
theorem jbB (rs:List (List (Int×Int))) :∀k,∀l∈qE rs k,lA l≠lB l
 | 0,l,h=>by cases h
 | k+1,l,h=> (jjz.1 h).elim (jbB rs k l) (Zd _ _ l)
theorem jdw (hne:∀l∈B,lA l≠lB l) (hc:∀v,sm (fun l=>UN v (lA l) - UN v (lB l)) B=0) : (jt (vw (KJ B))).Perm B:=by
 refine List.perm_iff_count.2 fun e=> ?_
 by_cases he:lA e=lB e
 ·have z:∀L:List Leg,(∀l∈L,lA l≠lB l)→L.count e=0:=fun L hL=>List.count_eq_zero.2 fun h=>hL e h he
  rw [z (jt _) (jbB _ _),z _ hne]
 ·have h:=jfU (B:=B) (fun a b=>if a=lA e∧b=lB e then 1 else 0) (fun a=>by
   show(if a=lA e∧a=lB e then(1:Int) else 0) =0
   rw [if_neg fun k=>he (k.1.symm.trans k.2)]) hc
  have e1:∀L:List Leg,sm (fun l=>if lA l=lA e∧lB l=lB e then(1:Int) else 0) L=sm (fun x=>if x=e then 1 else 0) L:=fun L=>J0 fun x _=>by
   by_cases k:x=e
   ·rw [if_pos k,if_pos (by rw [k];exact⟨rfl,rfl⟩)]
   ·rw [if_neg k,if_neg fun c=>k (OW c.1 c.2)]
  have h':sm (fun l=>if lA l=lA e∧lB l=lB e then(1:Int) else 0) (jt (vw (KJ B))) =sm (fun l=>if lA l=lA e∧lB l=lB e then(1:Int) else 0) B:=h
  rw [e1,e1,jd4,jd4] at h'
  omega
theorem jdf {E F:List Leg} (h:E.Perm F) (p:Leg) :kZ E p=kZ F p:=by
 unfold kZ Qo WX
 rw [VU _ h,VU _ h]
end Go.Proofs.YtbahojdbmmjkcaaGreat
