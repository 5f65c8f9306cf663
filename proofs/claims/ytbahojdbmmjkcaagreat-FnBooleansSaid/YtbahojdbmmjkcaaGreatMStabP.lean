import Derived.Test.YtbahojdbmmjkcaaGreatMMem
set_option linter.unusedVariables false
set_option linter.unusedSimpArgs false
namespace Go.Proofs.YtbahojdbmmjkcaaGreat
section
variable {α:Type}
structure Weak {α:Type} (lt:α→α→Bool) :Prop where
 asym:∀a b,lt a b=true→lt b a=false
 neg:∀a b c,lt a b=false→lt b c=false→lt a c=false
def UU {α:Type} (lt:α→α→Bool) (l:List α) :Prop:=l.Pairwise (fun a b=>lt b a=false)
def wd {α:Type} (lt:α→α→Bool) (x:α) :List α→List α
 | [] => [x]
 | y::l=>if lt x y then x::y::l else y::wd lt x l
def Kd {α:Type} (lt:α→α→Bool) (l:List α) :List α:=l.foldl (fun acc x=>wd lt x acc) []
def WA {α:Type} (lt:α→α→Bool) :List α→List α→List α
 | [],ys=>ys
 | x::xs,[] =>x::xs
 | x::xs,y::ys=>if lt y x then y::WA lt (x::xs) ys else x::WA lt xs (y::ys)
 termination_by xs ys=>xs.length+ys.length
section
variable {α:Type} {lt:α→α→Bool}
theorem Kn (x y:α) (l:List α) :wd lt x (y::l) =if lt x y then x::y::l else y::wd lt x l:=rfl
theorem vR (ys:List α) :WA lt [] ys=ys:=by rw [WA]
theorem vS (xs:List α) :WA lt xs [] =xs:=by cases xs<;>rw [WA]
theorem kk (x y:α) (xs ys:List α) :WA lt (x::xs) (y::ys) =if lt y x then y::WA lt (x::xs) ys else x::WA lt xs (y::ys) :=by rw [WA]
theorem OH {x z:α} {l:List α} :z∈wd lt x l↔z=x∨z∈l:=by
 induction l with
 | nil=>simp [wd]
 | cons y l ih=>
  rw [Kn]
  split
  ·simp
  ·rw [jjw,jjw,ih]
   constructor
   ·rintro(h | h | h)
    ·exact .inr (.inl h)
    ·exact .inl h
    ·exact .inr (.inr h)
   ·rintro(h | h | h)
    ·exact .inr (.inl h)
    ·exact .inl h
    ·exact .inr (.inr h)
theorem jcM (x:α) (l:List α) : (wd lt x l).length=l.length+1:=by
 induction l with
 | nil=>rfl
 | cons y l ih=>
  rw [Kn]
  split<;>simp [ih]
theorem jcN (W:Weak lt) {x:α} {l:List α} (h:UU lt l) :UU lt (wd lt x l) :=by
 induction l with
 | nil=>exact jkG _ _
 | cons y l ih=>
  obtain ⟨h1,h2⟩ :=jjX.1 h
  rw [Kn]
  split
  ·rename_i hxy
   refine jjX.2 ⟨fun z hz=> ?_,h⟩
   rcases jjw.1 hz with rfl | hz
   ·exact W.asym _ _ hxy
   ·exact W.neg _ _ _ (h1 z hz) (W.asym _ _ hxy)
  ·rename_i hxy
   refine jjX.2 ⟨fun z hz=> ?_,ih h2⟩
   rcases OH.1 hz with rfl | hz
   ·simpa using hxy
   ·exact h1 z hz
theorem jcJ (W:Weak lt) {l acc:List α} (h:UU lt acc) :UU lt (l.foldl (fun acc x=>wd lt x acc) acc) :=by
 induction l generalizing acc with
 | nil=>exact h
 | cons x l ih=>exact ih (jcN W h)
theorem Wo (W:Weak lt) (l:List α) :UU lt (Kd lt l) :=jcJ W List.Pairwise.nil
theorem jcG (l acc:List α) : (l.foldl (fun acc x=>wd lt x acc) acc).length=acc.length+l.length:=by
 induction l generalizing acc with
 | nil=>rfl
 | cons x l ih=>rw [jkk,ih,jcM,jjr];omega
theorem Qw (l:List α) : (Kd lt l).length=l.length:=by rw [Kd,jcG];simp
theorem BN (l:List α) (x:α) :Kd lt (l++ [x]) =wd lt x (Kd lt l) :=by rw [Kd,jle];rfl
theorem jcH (l acc:List α) (z:α) :z∈l.foldl (fun acc x=>wd lt x acc) acc↔z∈acc∨z∈l:=by
 induction l generalizing acc with
 | nil=>simp
 | cons x l ih=>
  rw [jkk,ih,OH,jjw]
  constructor
  ·rintro((h | h) | h)
   ·exact .inr (.inl h)
   ·exact .inl h
   ·exact .inr (.inr h)
  ·rintro(h | h | h)
   ·exact .inl (.inr h)
   ·exact .inl (.inl h)
   ·exact .inr h
theorem Z9 (l:List α) (z:α) :z∈Kd lt l↔z∈l:=by rw [Kd,jcH];simp
theorem YT (xs ys:List α) : (WA lt xs ys).length=xs.length+ys.length:=by
 induction xs,ys using WA.induct (lt:=lt) with
 | case1 ys=>rw [vR];simp
 | case2 x xs=>rw [vS];simp
 | case3 x xs y ys h ih=>rw [kk,if_pos h,jjr,ih];simp;omega
 | case4 x xs y ys h ih=>rw [kk,if_neg h,jjr,ih];simp;omega
theorem CY (xs ys:List α) (z:α) :z∈WA lt xs ys↔z∈xs∨z∈ys:=by
 induction xs,ys using WA.induct (lt:=lt) with
 | case1 ys=>rw [vR];simp
 | case2 x xs=>rw [vS];simp
 | case3 x xs y ys h ih=>
  rw [kk,if_pos h,jjw,ih,jjw (a:=z) (b:=y)]
  constructor
  ·rintro(h | h | h)
   ·exact .inr (.inl h)
   ·exact .inl h
   ·exact .inr (.inr h)
  ·rintro(h | h | h)
   ·exact .inr (.inl h)
   ·exact .inl h
   ·exact .inr (.inr h)
 | case4 x xs y ys h ih=>
  rw [kk,if_neg h,jjw,ih,jjw (a:=z) (b:=x),or_assoc]
theorem Weak.lt_le (W:Weak lt) {a b c:α} (h1:lt a b=true) (h2:lt c b=false) :lt a c=true:=by
 cases h:lt a c with
 | true=>rfl
 | false=>rw [W.neg _ _ _ h h2] at h1;cases h1
theorem Weak.le_lt (W:Weak lt) {a b c:α} (h1:lt b a=false) (h2:lt b c=true) :lt a c=true:=by
 cases h:lt a c with
 | true=>rfl
 | false=>rw [W.neg _ _ _ h1 h] at h2;cases h2
theorem jdb (W:Weak lt) (x:α) (X Y:List α) :WA lt X (wd lt x Y) =wd lt x (WA lt X Y) :=by
 induction X,Y using WA.induct (lt:=lt) with
 | case1 ys=>rw [vR,vR]
 | case2 a X=>
  rw [vS]
  show WA lt (a::X) [x] =_
  generalize a::X=Z
  induction Z with
  | nil=>rw [vR];rfl
  | cons a Z ih=>
   rw [kk,Kn,vS]
   by_cases h:lt x a=true
   ·rw [if_pos h,if_pos h]
   ·rw [if_neg h,if_neg h,ih]
 | case3 a X b Y h ih=>
  rw [Kn,kk a b,if_pos h,Kn]
  by_cases hx:lt x b=true
  ·have hxa:lt x a=true:=W.lt_le hx (W.asym _ _ h)
   rw [if_pos hx,if_pos hx,kk,if_pos hxa,kk,if_pos h]
  ·rw [if_neg hx,if_neg hx,kk,if_pos h,ih]
 | case4 a X b Y h ih=>
  rw [kk a b,if_neg h,Kn x a]
  by_cases hx:lt x a=true
  ·have hxb:lt x b=true:=W.lt_le hx (by simpa using h)
   rw [if_pos hx,Kn,if_pos hxb,kk,if_pos hx,kk,if_neg h]
  ·rw [if_neg hx,←ih,Kn]
   by_cases hxb:lt x b=true
   ·rw [if_pos hxb,kk,if_neg hx]
   ·rw [if_neg hxb,kk,if_neg h]
theorem jcI (W:Weak lt) (X B Y:List α) :B.foldl (fun acc x=>wd lt x acc) (WA lt X Y) =WA lt X (B.foldl (fun acc x=>wd lt x acc) Y) :=by
 induction B generalizing Y with
 | nil=>rfl
 | cons b B ih=>rw [jkk,jkk,←jdb W,ih]
theorem BL (W:Weak lt) (A B:List α) :Kd lt (A++B) =WA lt (Kd lt A) (Kd lt B) :=by
 rw [Kd,jle,Kd,Kd,←jcI W,vS]
theorem OG (x:α) (P Q:List α) (h1:∀p∈P,lt x p=false) (h2:∀q,Q.head?=some q→lt x q=true) :wd lt x (P++Q) =P++x::Q:=by
 induction P with
 | nil=>
  cases Q with
  | nil=>rfl
  | cons q Q=>rw [jj2,Kn,if_pos (h2 q rfl)];rfl
 | cons p P ih=>
  rw [jjN,Kn,if_neg (by rw [h1 p (jjJ ..)];simp),ih (fun q hq=>h1 q (jjs _ hq))]
  rfl
theorem Yf (L1 L2 R1 R2:List α) (h1:∀l∈L1,∀r∈R2,lt r l=false) (h2:∀r∈R1,∀l∈L2,lt r l=true) :
  WA lt (L1++L2) (R1++R2) =WA lt L1 R1++WA lt L2 R2:=by
 induction L1,R1 using WA.induct (lt:=lt) with
 | case1 R1=>
  rw [vR]
  induction R1 with
  | nil=>rfl
  | cons r R1 ih=>
   cases L2 with
   | nil=>rw [jj2,vR,vR]
   | cons l L2=>
    rw [jj2,jjN,kk,if_pos (h2 r (jjJ ..) l (jjJ ..)),jjN]
    rw [show WA lt (l::L2) (R1++R2) =R1++WA lt (l::L2) R2 from ih (fun q hq=>h2 q (jjs _ hq))]
 | case2 l L1=>
  rw [vS,jj2]
  clear h2
  generalize l::L1=Z at h1
  induction Z with
  | nil=>rfl
  | cons a Z ih=>
   cases R2 with
   | nil=>rw [vS,vS]
   | cons r R2=>
    rw [jjN,kk,if_neg (by rw [h1 a (jjJ ..) r (jjJ ..)];simp),ih (fun l hl=>h1 l (jjs _ hl))]
    rfl
 | case3 l L1 r R1 h ih=>
  rw [jjN,jjN,kk,if_pos h,kk,if_pos h,jjN]
  rw [←ih h1 (fun q hq=>h2 q (jjs _ hq))]
  rfl
 | case4 l L1 r R1 h ih=>
  rw [jjN,jjN,kk,if_neg h,kk,if_neg h,jjN]
  rw [←ih (fun q hq=>h1 q (jjs _ hq)) h2]
  rfl
theorem jfA (L R:List α) (h:∀l∈L,∀r∈R,lt r l=false) :WA lt L R=L++R:=by
 have:=Yf (lt:=lt) L [] [] R h (fun r hr=>by cases hr)
 rwa [jjL,jj2,vS,vR] at this
theorem jdc (L R:List α) (h:∀r∈R,∀l∈L,lt r l=true) :WA lt L R=R++L:=by
 have:=Yf (lt:=lt) [] L R [] (fun r hr=>by cases hr) h
 rwa [jjL,jj2,vS,vR] at this
theorem jfB (x:α) (R1 R2:List α) (h1:∀r∈R1,lt r x=true) (h2:∀r∈R2,lt r x=false) :WA lt [x] (R1++R2) =R1++x::R2:=by
 have:=Yf (lt:=lt) [] [x] R1 R2 (fun r hr=>by cases hr) (fun r hr l hl=>by cases jjp.1 hl;exact h1 r hr)
 rw [jj2,vR,jfA [x] R2 (fun l hl r hr=>by cases jjp.1 hl;exact h2 r hr)] at this
 exact this
theorem jfC (y:α) (L1 L2:List α) (h1:∀l∈L1,lt y l=false) (h2:∀l∈L2,lt y l=true) :WA lt (L1++L2) [y] =L1++y::L2:=by
 have:=Yf (lt:=lt) L1 L2 [] [y] (fun l hl r hr=>by cases jjp.1 hr;exact h1 l hl) (fun r hr=>by cases hr)
 rw [jj2,vS,jdc L2 [y] (fun r hr l hl=>by cases jjp.1 hr;exact h2 l hl)] at this
 exact this
def blk (lt:α→α→Bool) (k:Nat) (xs:List α) :List α:=
 if h:k=0∨xs.length≤k then Kd lt xs else Kd lt (xs.take k) ++blk lt k (xs.drop k)
 termination_by xs.length
 decreasing_by simp only [not_or] at h;rw [jjO];omega
theorem wv {k:Nat} {xs:List α} (h:xs.length≤k) :blk lt k xs=Kd lt xs:=by rw [blk,dif_pos (.inr h)]
theorem R8 {k:Nat} {xs:List α} (h:0<k) (h2:k<xs.length) :blk lt k xs=Kd lt (xs.take k) ++blk lt k (xs.drop k) :=by rw [blk,dif_neg Om]
theorem F9 {k:Nat} {xs:List α} (h:0<k) (h2:k≤xs.length) :blk lt k xs=Kd lt (xs.take k) ++blk lt k (xs.drop k) :=by
 rcases jkq h2 with h3 | h3
 ·exact R8 h h3
 ·rw [wv Om,jjR Om,jkg Om,wv (by simp)]
  simp [Kd]
theorem jeS (W:Weak lt) {k:Nat} {xs:List α} (h:0<k) (h2:2*k≤xs.length) :
  blk lt k xs=Kd lt (xs.take k) ++ (Kd lt ((xs.drop k).take k) ++blk lt k (xs.drop (2*k)))∧
  blk lt (2*k) xs=WA lt (Kd lt (xs.take k)) (Kd lt ((xs.drop k).take k)) ++blk lt (2*k) (xs.drop (2*k)) :=by
 constructor
 ·rw [F9 h Om,F9 (xs:=xs.drop k) h (by rw [jjO];omega),List.drop_drop,show k+k=2*k by omega]
 ·rw [F9 Om h2,←BL W,←List.take_add,show k+k=2*k by omega]
theorem jbO (W:Weak lt) {k:Nat} {xs:List α} (h:0<k) (h1:k<xs.length) (h2:xs.length≤2*k) :
  blk lt k xs=Kd lt (xs.take k) ++Kd lt (xs.drop k)∧blk lt (2*k) xs=WA lt (Kd lt (xs.take k)) (Kd lt (xs.drop k)) :=by
 constructor
 ·rw [R8 h h1,wv (xs:=xs.drop k) (by rw [jjO];omega)]
 ·rw [wv h2,←BL W,jjA]
theorem jeR {k:Nat} {xs:List α} (h2:xs.length≤k) :blk lt k xs=blk lt (2*k) xs:=by rw [wv h2,wv Om]
end
def wn (l:List α) (i j:Nat) :List α:=match l[i]?,l[j]? with
 | some x,some y=> (l.set i y).set j x
 | _,_=>l
theorem Fq9 (l:List α) (i j:Nat) : (wn l i j).length=l.length:=by
 unfold wn
 split<;>simp
theorem vA {l:List α} {i j:Nat} {x y:α} (hx:l[i]? =some x) (hy:l[j]? =some y) :wn l i j= (l.set i y).set j x:=by
 unfold wn
 rw [hx,hy]
def uh (l:List α) (a b:Nat) :Nat→List α
 | 0=>l
 | k+1=>wn (uh l a b k) (a+k) (b+k)
theorem FU (l:List α) (a b k:Nat) : (uh l a b k).length=l.length:=by
 induction k with
 | zero=>rfl
 | succ k ih=>rw [uh,Fq9,ih]
def Up (n:Nat) (S:α→Prop) (l:List α) :Prop:=∀i x,i<n→l[i]? =some x→S x
theorem Up.mono {n:Nat} {S S':α→Prop} {l:List α} (h:Up n S l) (hS:∀x,S x→S' x) :Up n S' l:=fun i x hi hx=>hS x (h i x hi hx)
theorem Up.swap2 {n:Nat} {S:α→Prop} {l:List α} {i j:Nat} (h:Up n S l) (hi:i<n) (hj:j<n) :Up n S (wn l i j) :=by
 unfold Go.Proofs.YtbahojdbmmjkcaaGreat.wn
 split
 ·rename_i x y hx hy
  intro q z hq hz
  rw [List.getElem?_set] at hz
  split at hz
  ·split at hz
   ·injection hz with hz
    exact hz▸h i x hi hx
   ·cases hz
  ·rw [List.getElem?_set] at hz
   split at hz
   ·split at hz
    ·injection hz with hz
     exact hz▸h j y hj hy
    ·cases hz
   ·exact h q z hq hz
 ·exact h
theorem jgQ {n:Nat} {S:α→Prop} {P B:List α} (h:∀x∈P,S x) (hl:n≤P.length) :Up n S (P++B) :=fun i x hi hx=>by
 rw [List.getElem?_append_left Om] at hx
 exact h x (List.mem_of_getElem? hx)
theorem ZO {n:Nat} {S:α→Prop} {A X Y Z:List α} (h:Up n S (A++X++Z)) (hY:∀y∈Y,y∈X) (hl:Y.length=X.length) (hn:A.length+X.length≤n) :Up n S (A++Y++Z) :=fun i x hi hx=>by
 by_cases h1:i<A.length
 ·refine h i x hi ?_
  rw [jjq,List.getElem?_append_left h1] at hx⊢
  exact hx
 ·by_cases h2:i<A.length+Y.length
  ·rw [List.getElem?_append_left (by simpa using h2),List.getElem?_append_right Om] at hx
   obtain ⟨j,hj,e⟩ :=jj0 (hY x (List.mem_of_getElem? hx))
   refine h (A.length+j) x Om ?_
   rw [List.getElem?_append_left (by simp;omega),List.getElem?_append_right Om,Nat.add_sub_cancel_left,List.getElem?_eq_getElem hj,e]
  ·refine h i x hi ?_
   rw [List.getElem?_append_right (by simp;omega)] at hx⊢
   rw [←hx]
   congr 1
   simp [hl]
theorem ZM {n:Nat} {S:α→Prop} {l:List α} {a b:Nat} (h:Up n S l) :∀k,a+k≤n→b+k≤n→Up n S (uh l a b k)
 | 0,_,_=>h
 | k+1,h1,h2=> (ZM h k Om Om).swap2 Om Om
theorem FT {A M B:List α} {x y:α} {i j:Nat} (hi:A.length=i) (hj: (A++x::M).length=j) :wn (A++x:: (M++y::B)) i j=A++y:: (M++x::B) :=by
 subst hi
 rw [vA (x:=x) (y:=y) (by simp) (by rw [show A++x:: (M++y::B) = (A++x::M) ++y::B by simp,←hj,List.getElem?_append_right (jjm _)];simp)]
 rw [jkK _ _ (jjm _),Nat.sub_self,List.set_cons_zero,show A++y:: (M++y::B) = (A++y::M) ++y::B by simp,jkK _ _ (by rw [←hj];simp)]
 have:j- (A++y::M).length=0:=by rw [←hj];simp
 rw [this,List.set_cons_zero]
 simp
theorem Lf {U V:List α} (hUV:U.length=V.length) (A M B:List α) {b:Nat} (hb: (A++U++M).length=b) :uh (A++U++M++V++B) A.length b U.length=A++V++M++U++B:=by
 have key:∀(k:Nat),k≤U.length→uh (A++U++M++V++B) A.length b k=A++ (V.take k++U.drop k) ++M++ (U.take k++V.drop k) ++B:=by
  intro k
  induction k with
  | zero=>intro _;simp [uh]
  | succ k ih=>
   intro hk
   rw [uh,ih Om]
   have hu:k<U.length:=by omega
   have hv:k<V.length:=by omega
   rw [jj5 hu,jj5 hv,jjt hu,jjt hv]
   have:=FT (A:=A++V.take k) (x:=U[k]) (M:=U.drop (k+1) ++M++U.take k) (y:=V[k]) (B:=V.drop (k+1) ++B) (i:=A.length+k) (j:=b+k)
    (by rw [jjk,jjC];omega) (by rw [←hb];simp;omega)
   simp only [jjq,jjN,jj2] at this⊢
   exact this
 rw [key _ (jjm _),jjR Om,jkg (jjm _),jjR (jjm _),jkg Om]
 simp
section
end
structure RotI (S:α→Prop) (t:List α) (m n i j:Nat) (ds:List α) :Prop where
 ex:∃X U V Y:List α,ds=X++U++V++Y∧X.length+i=m∧U.length=i∧V.length=j∧X++V++U++Y=t
 i0:0<i
 j0:0<j
 le:m+j≤n
 one:Up n S ds
theorem RotI.len {S:α→Prop} {t:List α} {m n i j:Nat} {ds:List α} (h:RotI S t m n i j ds) :ds.length=t.length∧i≤m:=by
 obtain ⟨X,U,V,Y,rfl,h1,h2,h3,rfl⟩ :=h.ex
 simp
 omega
theorem RotI.left {S:α→Prop} {t:List α} {m n i j:Nat} {ds:List α} (h:RotI S t m n i j ds) (hij:j<i) :RotI S t m n (i- j) j (uh ds (m- i) m j) :=by
 obtain ⟨X,U,V,Y,rfl,h1,h2,h3,e⟩ :=h.ex
 refine⟨⟨X++V,U.drop j,U.take j,Y,?_,?_,?_,?_,?_⟩,by omega,h.j0,h.le,ZM h.one j (by have:=h.le;omega) (by have:=h.le;omega)⟩
 ·have:=Lf (U:=U.take j) (V:=V) (by simp;omega) X (U.drop j) Y (b:=m) (by simp;omega)
  rw [jjq X,jjA,show X.length=m- i by omega,show(U.take j).length=j by simp;omega] at this
  rw [this]
 ·simp;omega
 ·simp;omega
 ·simp;omega
 ·rw [jjq (X++V),jjA]
  exact e
theorem RotI.right {S:α→Prop} {t:List α} {m n i j:Nat} {ds:List α} (h:RotI S t m n i j ds) (hij:i<j) :RotI S t m n i (j- i) (uh ds (m- i) (m+j- i) i) :=by
 obtain ⟨X,U,V,Y,rfl,h1,h2,h3,e⟩ :=h.ex
 refine⟨⟨X,V.drop (j- i),V.take (j- i),U++Y,?_,by omega,?_,?_,?_⟩,h.i0,by omega,by have:=h.le;omega,ZM h.one i (by have:=h.le;omega) (by have:=h.le;omega)⟩
 ·have:=Lf (U:=U) (V:=V.drop (j- i)) (by simp;omega) X (V.take (j- i)) Y (b:=m+j- i) (by simp;omega)
  rw [jjq (X++U),jjA,show X.length=m- i by omega,h2] at this
  rw [this]
  simp only [jjq]
 ·simp;omega
 ·simp;omega
 ·rw [←e]
  rw [jjq X,jjA,jjq,jjq,jjq]
theorem RotI.fin {S:α→Prop} {t:List α} {m n i:Nat} {ds:List α} (h:RotI S t m n i i ds) :uh ds (m- i) m i=t:=by
 obtain ⟨X,U,V,Y,rfl,h1,h2,h3,e⟩ :=h.ex
 have:=Lf (U:=U) (V:=V) Om X [] Y (b:=m) (by simp;omega)
 rw [jjL,jjL,show X.length=m- i by omega,h2] at this
 rw [this,e]
def QJ (cr:α→α→Int) (x y:α) :Bool:=decide (cr x y<0)
theorem jeg {lt:α→α→Bool} (W:Weak lt) {P Q:List α} {p x:α} (h:UU lt (P++p::Q)) (hx:lt x p=false) :∀q∈P++ [p],lt x q=false:=by
 intro q hq
 rcases jjz.1 hq with hq | hq
 ·exact W.neg _ _ _ hx ((jkQ.1 h).2.2 q hq p (jjJ ..))
 ·cases jjp.1 hq
  exact hx
structure InsI (lt:α→α→Bool) (A Y R:List α) (x:α) (j:Nat) (ds:List α) :Prop where
 ex:∃P Q:List α,ds=A++ (P++x::Q) ++R∧A.length+P.length=j∧P++Q=Y∧∀q∈Q,lt x q=true
theorem InsI.low {lt:α→α→Bool} {A Y R:List α} {x:α} {j:Nat} {ds:List α} (h:InsI lt A Y R x j ds) (hj:j≤A.length) :ds=A++wd lt x Y++R:=by
 obtain ⟨P,Q,rfl,h1,rfl,h3⟩ :=h.ex
 obtain rfl:P= [] :=jjW Om
 rw [OG x [] Q (fun p hp=>by cases hp) (fun q hq=>h3 q (List.mem_of_mem_head? hq))]
theorem InsI.last {lt:α→α→Bool} {A Y R:List α} {x:α} {j:Nat} {ds:List α} (h:InsI lt A Y R x j ds) (hj:A.length<j) :
  ∃p,ds[j]? =some x∧ds[j- 1]? =some p∧(Weak lt→UU lt Y→lt x p=false→ds=A++wd lt x Y++R)∧(lt x p=true→InsI lt A Y R x (j- 1) (wn ds j (j- 1))) :=by
 obtain ⟨P,Q,rfl,h1,rfl,h3⟩ :=h.ex
 rcases List.eq_nil_or_concat P with rfl |⟨P,p,rfl⟩
 ·simp at h1;omega
 rw [List.concat_eq_append,jjk,jk0] at h1
 simp only [List.concat_eq_append]
 have e1:A++ (P++ [p] ++x::Q) ++R= (A++P) ++p::x:: (Q++R) :=by simp
 have g1: (A++ (P++ [p] ++x::Q) ++R)[j]? =some x:=by
  rw [e1,List.getElem?_append_right (by simp;omega),show j- (A++P).length=1 by simp;omega]
  rfl
 have g2: (A++ (P++ [p] ++x::Q) ++R)[j- 1]? =some p:=by
  rw [e1,List.getElem?_append_right (by simp;omega),show j- 1- (A++P).length=0 by simp;omega]
  rfl
 refine⟨p,g1,g2,fun W hs hx=> ?_,fun hx=>⟨P,p::Q,?_,by omega,by simp,fun q hq=> ?_⟩⟩
 ·rw [OG x (P++ [p]) Q (jeg W (Q:=Q) (by simpa using hs) hx) (fun q hq=>h3 q (List.mem_of_mem_head? hq))]
 ·rw [vA g1 g2,e1,jkK _ _ (by simp;omega),show j- (A++P).length=1 by simp;omega,jkK _ _ (by simp;omega),show j- 1- (A++P).length=0 by simp;omega]
  simp
 ·rcases jjw.1 hq with rfl | hq
  ·exact hx
  ·exact h3 q hq
structure InsO (lt:α→α→Bool) (A X B:List α) (i:Nat) (ds:List α) :Prop where
 lo:A.length<i
 hi:i≤A.length+X.length∨i=A.length+1
 eq:ds=A++Kd lt (X.take (i- A.length)) ++ (X.drop (i- A.length) ++B)
theorem InsO.start {lt:α→α→Bool} {A X B:List α} :InsO lt A X B (A.length+1) (A++X++B) :=by
 refine⟨by omega, .inr J,?_⟩
 rw [Nat.add_sub_cancel_left]
 cases X with
 | nil=>simp [Kd]
 | cons x X=>simp [Kd,wd]
theorem InsO.len {lt:α→α→Bool} {A X B:List α} {i:Nat} {ds:List α} (h:InsO lt A X B i ds) :ds.length= (A++X++B).length:=by
 rw [h.eq]
 simp [Qw]
 omega
theorem InsO.fin {lt:α→α→Bool} {A X B:List α} {i:Nat} {ds:List α} (h:InsO lt A X B i ds) (hi:A.length+X.length≤i) :ds=A++Kd lt X++B:=by
 rw [h.eq,jjR Om,jkg Om]
 rfl
theorem InsO.in_ {lt:α→α→Bool} {A X B:List α} {i:Nat} {ds:List α} (h:InsO lt A X B i ds) (hi:i<A.length+X.length) :
  ∃x,InsI lt A (Kd lt (X.take (i- A.length))) (X.drop (i- A.length+1) ++B) x i ds∧∀fs,fs=A++wd lt x (Kd lt (X.take (i- A.length))) ++ (X.drop (i- A.length+1) ++B)→InsO lt A X B (i+1) fs:=by
 have:=h.lo
 have hk:i- A.length<X.length:=by omega
 refine⟨X[i- A.length],⟨Kd lt (X.take (i- A.length)),[],?_,?_,by simp,fun q hq=>by cases hq⟩,fun fs e=>⟨by omega, .inl Om,?_⟩⟩
 ·rw [h.eq,jj5 hk]
  simp only [jjq,jjN,jj2]
 ·rw [Qw,jjC]
  omega
 ·rw [e,show i+1- A.length=i- A.length+1 by omega,jjt hk,BN]
section
variable {lt:α→α→Bool}
theorem Ri {R:List α} (h:UU lt R) {i j:Nat} (hij:i<j) (hj:j<R.length) :lt R[j] R[i] =false:=
 jkt.1 h i j Om hj hij
theorem MB {R:List α} {n:Nat} {r:α} (h:r∈R.take n) :∃i,∃hi:i<R.length,i<n∧R[i] =r:=by
 obtain ⟨i,hi,e⟩ :=jj0 h
 rw [jjC] at hi
 exact⟨i,by omega,by omega,by rw [←e,List.getElem_take]⟩
theorem Mz {R:List α} {n:Nat} {r:α} (h:r∈R.drop n) :∃i,∃hi:i<R.length,n≤i∧R[i] =r:=by
 obtain ⟨i,hi,e⟩ :=jj0 h
 rw [jjO] at hi
 exact⟨n+i,by omega,by omega,by rw [←e,List.getElem_drop]⟩
theorem EF (W:Weak lt) {R:List α} (hS:UU lt R) {h:Nat} {x:α} (hh:h<R.length) (hx:lt R[h] x=true) :∀r∈R.take (h+1),lt r x=true:=by
 intro r hr
 obtain ⟨i,hi,hin,rfl⟩ :=MB hr
 rcases jkq (show i≤h by omega) with h1 | rfl
 ·exact W.le_lt (Ri hS h1 hh) hx
 ·exact hx
theorem EE (W:Weak lt) {R:List α} (hS:UU lt R) {h:Nat} {x:α} (hh:h<R.length) (hx:lt R[h] x=false) :∀r∈R.drop h,lt r x=false:=by
 intro r hr
 obtain ⟨i,hi,hin,rfl⟩ :=Mz hr
 rcases jkq hin with h1 | rfl
 ·exact W.neg _ _ _ (Ri hS h1 hi) hx
 ·exact hx
theorem TZ (W:Weak lt) {L:List α} (hS:UU lt L) {h:Nat} {y:α} (hh:h<L.length) (hy:lt y L[h] =false) :∀l∈L.take (h+1),lt y l=false:=by
 intro r hr
 obtain ⟨i,hi,hin,rfl⟩ :=MB hr
 rcases jkq (show i≤h by omega) with h1 | rfl
 ·exact W.neg _ _ _ hy (Ri hS h1 hh)
 ·exact hy
theorem TY (W:Weak lt) {L:List α} (hS:UU lt L) {h:Nat} {y:α} (hh:h<L.length) (hy:lt y L[h] =true) :∀l∈L.drop h,lt y l=true:=by
 intro r hr
 obtain ⟨i,hi,hin,rfl⟩ :=Mz hr
 rcases jkq hin with h1 | rfl
 ·exact W.lt_le hy (Ri hS h1 hi)
 ·exact hy
theorem IS (A R B:List α) (x:α) {k:Nat} (hk:k<R.length) :wn (A++ (R.take k++x::R.drop k) ++B) (A.length+k) (A.length+k+1) =A++ (R.take (k+1) ++x::R.drop (k+1)) ++B:=by
 have:=FT (A:=A++R.take k) (x:=x) (M:= []) (y:=R[k]) (B:=R.drop (k+1) ++B) (i:=A.length+k) (j:=A.length+k+1) (by simp;omega) (by simp;omega)
 rw [jj5 hk,jjt hk]
 simp only [jjq,jjN,jj2] at this⊢
 exact this
theorem PQ {l:List α} {i j:Nat} (h:i≠j) :wn l i j=wn l j i:=by
 unfold wn
 cases hi:l[i]? <;>cases hj:l[j]? <;>simp only
 exact List.set_comm _ _ h
theorem Fu (A L B:List α) (y:α) {k:Nat} (h0:0<k) (hk:k≤L.length) :wn (A++ (L.take k++y::L.drop k) ++B) (A.length+k) (A.length+k- 1) =A++ (L.take (k- 1) ++y::L.drop (k- 1)) ++B:=by
 obtain ⟨k,rfl⟩ :∃q,k=q+1:=⟨k- 1,by omega⟩
 rw [show A.length+ (k+1) - 1=A.length+k by omega,show k+1- 1=k by omega,←IS A L B y (by omega:k<L.length)]
 rw [PQ Om]
 have hb:A.length+k+1< (A++ (L.take k++y::L.drop k) ++B).length:=by simp;omega
 rw [show A.length+ (k+1) =A.length+k+1 by omega]
 obtain ⟨u,hu⟩ :∃u,(A++ (L.take k++y::L.drop k) ++B)[A.length+k]? =some u:=⟨_,List.getElem?_eq_getElem Om⟩
 obtain ⟨v,hv⟩ :∃v,(A++ (L.take k++y::L.drop k) ++B)[A.length+k+1]? =some v:=⟨_,List.getElem?_eq_getElem hb⟩
 generalize A++ (L.take k++y::L.drop k) ++B=l at*
 rw [vA hu hv,vA (i:=A.length+k) (j:=A.length+k+1) (x:=v) (y:=u)]
 ·apply List.ext_getElem?
  intro q
  by_cases h1:A.length+k+1=q
  ·subst h1;rw [List.getElem?_set_self (by simp;omega),hv]
  ·rw [List.getElem?_set_ne h1]
   by_cases h2:A.length+k=q
   ·subst h2;rw [List.getElem?_set_self (by simp;omega),hu]
   ·rw [List.getElem?_set_ne h2,List.getElem?_set_ne h1,List.getElem?_set_ne h2]
 ·rw [List.getElem?_set_ne Om,List.getElem?_set_self Om]
 ·rw [List.getElem?_set_self (by simp;omega)]
theorem jhy (W:Weak lt) {L R:List α} (hL:UU lt L) (hR:UU lt R) {s t:Nat} (h1:s=0∨t=R.length∨∃(hs:s- 1<L.length) (ht:t<R.length),lt R[t] L[s- 1] =false)
  (h2:t=0∨s=L.length∨∃(ht:t- 1<R.length) (hs:s<L.length),lt R[t- 1] L[s] =true) (hs:s≤L.length) (ht:t≤R.length) :
  WA lt L R=WA lt (L.take s) (R.take t) ++WA lt (L.drop s) (R.drop t) :=by
 rw [←Yf,jjA,jjA]
 ·intro l hl r hr
  obtain ⟨i,hi,hin,rfl⟩ :=MB hl
  obtain ⟨j,hj,hjn,rfl⟩ :=Mz hr
  rcases h1 with h1 | h1 |⟨g1,g2,h1⟩
  ·omega
  ·omega
  ·exact TZ W hL g1 (EE W hR g2 h1 _ (List.mem_iff_getElem.2 ⟨j- t,by rw [jjO];omega,by rw [List.getElem_drop];congr 1;omega⟩)) _ (List.mem_iff_getElem.2 ⟨i,by rw [jjC];omega,by rw [List.getElem_take]⟩)
 ·intro r hr l hl
  obtain ⟨j,hj,hjn,rfl⟩ :=MB hr
  obtain ⟨i,hi,hin,rfl⟩ :=Mz hl
  rcases h2 with h2 | h2 |⟨g1,g2,h2⟩
  ·omega
  ·omega
  ·exact TY W hL g2 (EF W hR g1 h2 _ (List.mem_iff_getElem.2 ⟨j,by rw [jjC];omega,by rw [List.getElem_take]⟩)) _ (List.mem_iff_getElem.2 ⟨i- s,by rw [jjO];omega,by rw [List.getElem_drop];congr 1;omega⟩)
end
theorem Ck {lt:α→α→Bool} (k:Nat) (xs:List α) (z:α) :z∈blk lt k xs↔z∈xs:=by
 induction xs using blk.induct k with
 | case1 xs h=>rw [blk,dif_pos h,Z9]
 | case2 xs h ih=>
  rw [blk,dif_neg h,jjz,Z9,ih,←jjz,jjA]
theorem Cj {lt:α→α→Bool} (k:Nat) (xs:List α) : (blk lt k xs).length=xs.length:=by
 induction xs using blk.induct k with
 | case1 xs h=>rw [blk,dif_pos h,Qw]
 | case2 xs h ih=>
  rw [blk,dif_neg h,jjk,Qw,ih,←jjk,jjA]
structure PreI (lt:α→α→Bool) (X:List α) (k a:Nat) (F:List α) :Prop where
 len:F.length=a
 eq:F++blk lt k (X.drop a) =blk lt k X
 le:a≤X.length
theorem PreI.zero {lt:α→α→Bool} {X:List α} {k:Nat} :PreI lt X k 0 [] :=⟨rfl,rfl,jjo _⟩
theorem PreI.mem {lt:α→α→Bool} {X F:List α} {k a:Nat} (h:PreI lt X k a F) {z:α} (hz:z∈F) :z∈X:= (Ck k X z).1 (h.eq▸jka _ hz)
theorem PreI.step {lt:α→α→Bool} {X F:List α} {k a:Nat} (h:PreI lt X k a F) (hk:0<k) (hl:a+k≤X.length) :PreI lt X k (a+k) (F++Kd lt ((X.drop a).take k)) :=by
 refine⟨by rw [jjk,Qw,h.len,jjC,jjO];omega,?_,hl⟩
 rw [←h.eq,F9 (xs:=X.drop a) hk (by rw [jjO];omega),List.drop_drop,jjq]
theorem PreI.fin {lt:α→α→Bool} {X F:List α} {k a:Nat} (h:PreI lt X k a F) (hl:X.length≤a+k) :F++Kd lt (X.drop a) =blk lt k X:=by
 rw [←h.eq,wv (xs:=X.drop a) (by rw [jjO];omega)]
theorem PreI.cut {X F B:List α} {k a:Nat} :F++ (X.drop a++B) =F++ (X.drop a).take k++ (X.drop (a+k) ++B) :=by
 rw [←List.drop_drop,jjq F,←jjq (List.take k _),jjA]
theorem PreI.two {lt:α→α→Bool} (W:Weak lt) {X F B:List α} {k a:Nat} (h:PreI lt X (2*k) a F) (hk:0<k) (hl:a+2*k≤X.length) :
  F++ (blk lt k (X.drop a) ++B) =F++Kd lt ((X.drop a).take k) ++Kd lt (((X.drop a).drop k).take k) ++ (blk lt k (X.drop (a+2*k)) ++B)∧
  PreI lt X (2*k) (a+2*k) (F++WA lt (Kd lt ((X.drop a).take k)) (Kd lt (((X.drop a).drop k).take k))) :=by
 obtain ⟨e1,e2⟩ :=jeS W (xs:=X.drop a) hk (by rw [jjO];omega)
 refine⟨by rw [e1,List.drop_drop,List.drop_drop];simp only [jjq],?_,?_,hl⟩
 ·rw [jjk,YT,Qw,Qw,h.len]
  simp
  omega
 ·rw [←h.eq,e2,List.drop_drop (i:=2*k),jjq]
theorem PreI.last {lt:α→α→Bool} (W:Weak lt) {X F B:List α} {k a:Nat} (h:PreI lt X (2*k) a F) (hk:0<k) (h1:a+k<X.length) (hl:X.length≤a+2*k) :
  F++ (blk lt k (X.drop a) ++B) =F++Kd lt ((X.drop a).take k) ++Kd lt ((X.drop a).drop k) ++B∧
  F++WA lt (Kd lt ((X.drop a).take k)) (Kd lt ((X.drop a).drop k)) =blk lt (2*k) X:=by
 obtain ⟨e1,e2⟩ :=jbO W (xs:=X.drop a) hk (by rw [jjO];omega) (by rw [jjO];omega)
 exact⟨by rw [e1];simp only [jjq],by rw [←h.eq,e2]⟩
theorem PreI.none {lt:α→α→Bool} {X F B:List α} {k a:Nat} (h:PreI lt X (2*k) a F) (h1:X.length≤a+k) :F++ (blk lt k (X.drop a) ++B) =blk lt (2*k) X++B:=by
 rw [←h.eq,jeR (xs:=X.drop a) (by rw [jjO];omega),jjq]
theorem PreI.all {lt:α→α→Bool} {X F B:List α} {k a q n:Nat} (h:PreI lt X k a F) {S:α→Prop} (hX:∀z∈X,S z) (hn:X.length=n) :Up n S (F++ (X.drop a++B))∧Up n S (F++ (blk lt q (X.drop a) ++B)) :=by
 have h1:=h.len
 have h2:=h.le
 constructor<;>rw [←jjq]
 ·exact jgQ (fun z hz=> (jjz.1 hz).elim (fun hz=>hX z (h.mem hz)) (fun hz=>hX z (jkf hz))) (by simp;omega)
 ·exact jgQ (fun z hz=> (jjz.1 hz).elim (fun hz=>hX z (h.mem hz)) (fun hz=>hX z (jkf ((Ck _ _ _).1 hz)))) (by simp [Cj];omega)
theorem PreI.lens {lt:α→α→Bool} {X F B:List α} {k a q:Nat} (h:PreI lt X k a F) :X.length≤(F++ (X.drop a++B)).length∧X.length≤(F++ (blk lt q (X.drop a) ++B)).length:=by
 have:=h.len
 have:=h.le
 constructor<;>simp [Cj] <;>omega
structure S1I (lt:α→α→Bool) (R:List α) (x:α) (i j:Nat) :Prop where
 le:i≤j∧j≤R.length
 lo:∀r∈R.take i,lt r x=true
 hi:∀r∈R.drop j,lt r x=false
theorem S1I.start {lt:α→α→Bool} {R:List α} {x:α} :S1I lt R x 0 R.length:=⟨⟨by omega,by omega⟩,fun r hr=>by simp at hr,fun r hr=>by simp at hr⟩
theorem S1I.fin {lt:α→α→Bool} {R:List α} {x:α} {i:Nat} (h:S1I lt R x i i) :WA lt [x] R=R.take i++x::R.drop i:=by
 rw [←jfB x _ _ h.lo h.hi,jjA]
theorem S1I.yes {lt:α→α→Bool} (W:Weak lt) {R:List α} (hS:UU lt R) {x:α} {i j h:Nat} (s:S1I lt R x i j) (h1:i≤h) (h2:h<j) {r:α} (hr:R[h]? =some r) (hx:lt r x=true) :S1I lt R x (h+1) j:=by
 obtain ⟨g,e⟩ :=List.getElem?_eq_some_iff.1 hr
 subst e
 exact⟨⟨by omega,s.le.2⟩,EF W hS g hx,s.hi⟩
theorem S1I.no {lt:α→α→Bool} (W:Weak lt) {R:List α} (hS:UU lt R) {x:α} {i j h:Nat} (s:S1I lt R x i j) (h1:i≤h) (h2:h<j) {r:α} (hr:R[h]? =some r) (hx:lt r x=false) :S1I lt R x i h:=by
 obtain ⟨g,e⟩ :=List.getElem?_eq_some_iff.1 hr
 subst e
 exact⟨⟨by omega,by omega⟩,s.lo,EE W hS g hx⟩
structure S2I (lt:α→α→Bool) (L:List α) (y:α) (i j:Nat) :Prop where
 le:i≤j∧j≤L.length
 lo:∀l∈L.take i,lt y l=false
 hi:∀l∈L.drop j,lt y l=true
theorem S2I.start {lt:α→α→Bool} {L:List α} {y:α} :S2I lt L y 0 L.length:=⟨⟨by omega,by omega⟩,fun r hr=>by simp at hr,fun r hr=>by simp at hr⟩
theorem S2I.fin {lt:α→α→Bool} {L:List α} {y:α} {i:Nat} (h:S2I lt L y i i) :WA lt L [y] =L.take i++y::L.drop i:=by
 rw [←jfC y _ _ h.lo h.hi,jjA]
theorem S2I.yes {lt:α→α→Bool} (W:Weak lt) {L:List α} (hS:UU lt L) {y:α} {i j h:Nat} (s:S2I lt L y i j) (h1:i≤h) (h2:h<j) {l:α} (hl:L[h]? =some l) (hy:lt y l=false) :S2I lt L y (h+1) j:=by
 obtain ⟨g,e⟩ :=List.getElem?_eq_some_iff.1 hl
 subst e
 exact⟨⟨by omega,s.le.2⟩,TZ W hS g hy,s.hi⟩
theorem S2I.no {lt:α→α→Bool} (W:Weak lt) {L:List α} (hS:UU lt L) {y:α} {i j h:Nat} (s:S2I lt L y i j) (h1:i≤h) (h2:h<j) {l:α} (hl:L[h]? =some l) (hy:lt y l=true) :S2I lt L y i h:=by
 obtain ⟨g,e⟩ :=List.getElem?_eq_some_iff.1 hl
 subst e
 exact⟨⟨by omega,by omega⟩,s.lo,TY W hS g hy⟩
structure GI (lt:α→α→Bool) (G R:List α) (h s u:Nat) :Prop where
 b:h≤s+R.length∧s≤u∧u≤G.length∧u≤h
 lo:s=0∨h=s+R.length∨∃x y,G[s- 1]? =some x∧R[h- s]? =some y∧lt y x=false
 hi:u=h∨u=G.length∨∃x y,G[u]? =some x∧R[h- u- 1]? =some y∧lt y x=true
theorem GI.fin {lt:α→α→Bool} (W:Weak lt) {G R:List α} (hG:UU lt G) (hR:UU lt R) {h s:Nat} (g:GI lt G R h s s) :WA lt G R=WA lt (G.take s) (R.take (h- s)) ++WA lt (G.drop s) (R.drop (h- s)) :=by
 obtain ⟨b1,b2,b3,b4⟩ :=g.b
 refine jhy W hG hR ?_ ?_ b3 Om
 ·rcases g.lo with e | e |⟨x,y,e1,e2,e3⟩
  ·exact .inl e
  ·exact .inr (.inl Om)
  ·obtain ⟨q1,rfl⟩ :=List.getElem?_eq_some_iff.1 e1
   obtain ⟨q2,rfl⟩ :=List.getElem?_eq_some_iff.1 e2
   exact .inr (.inr ⟨q1,q2,e3⟩)
 ·rcases g.hi with e | e |⟨x,y,e1,e2,e3⟩
  ·exact .inl Om
  ·exact .inr (.inl e)
  ·obtain ⟨q1,rfl⟩ :=List.getElem?_eq_some_iff.1 e1
   obtain ⟨q2,rfl⟩ :=List.getElem?_eq_some_iff.1 e2
   exact .inr (.inr ⟨q2,q1,e3⟩)
theorem GI.yes {lt:α→α→Bool} {G R:List α} {h s u c:Nat} (g:GI lt G R h s u) (h1:s≤c) (h2:c<u) {x y:α} (hx:G[c]? =some x) (hy:R[h- c- 1]? =some y) (hc:lt y x=false) :GI lt G R h (c+1) u:=
 ⟨by have:=g.b;omega, .inr (.inr ⟨x,y,hx,by rw [show h- (c+1) =h- c- 1 by omega];exact hy,hc⟩),g.hi⟩
theorem GI.no {lt:α→α→Bool} {G R:List α} {h s u c:Nat} (g:GI lt G R h s u) (h1:s≤c) (h2:c<u) {x y:α} (hx:G[c]? =some x) (hy:R[h- c- 1]? =some y) (hc:lt y x=true) :GI lt G R h s c:=
 ⟨by have:=g.b;omega,g.lo, .inr (.inr ⟨x,y,hx,hy,hc⟩)⟩
section
variable {A G R Z:List α} {s t:Nat}
theorem UI:A++G++R++Z= (A++G.take s) ++G.drop s++R.take t++ (R.drop t++Z) :=by
 rw [jjq A (G.take s),jjA,jjq (A++G) (R.take t),←jjq (R.take t),jjA,←jjq]
theorem GG: (A++G.take s) ++R.take t++G.drop s++ (R.drop t++Z) =A++ (G.take s++R.take t) ++ (G.drop s++R.drop t) ++Z:=by simp only [jjq]
theorem jdT (h:G.length≤s∨t=0) :A++G++R++Z=A++ (G.take s++R.take t) ++ (G.drop s++R.drop t) ++Z:=by
 rw [UI (s:=s) (t:=t),←GG]
 rcases h with h | h
 ·rw [jkg h,jjL,jjL]
 ·subst h
  rw [List.take_zero,jjL,jjL]
theorem Z1:A++ (G.take s++R.take t) ++ (G.drop s++R.drop t) ++Z=A++G.take s++R.take t++ (G.drop s++R.drop t++Z) :=by simp only [jjq]
theorem CV {M:List α} :A++M++ (G.drop s++R.drop t++Z) =A++M++ (G.drop s++R.drop t) ++Z:=by simp only [jjq]
theorem jc7 {lt:α→α→Bool} (h:s=0∨t=0) :G.take s++R.take t=WA lt (G.take s) (R.take t) :=by
 rcases h with rfl | rfl
 ·rw [List.take_zero,vR];rfl
 ·rw [List.take_zero,vS,jjL]
theorem Z2 {M:List α} :A++M++ (G.drop s++R.drop t) ++Z=A++M++G.drop s++R.drop t++Z:=by simp only [jjq]
theorem CW {M M2:List α} :A++M++M2++Z=A++ (M++M2) ++Z:=by simp only [jjq]
theorem jc8 {lt:α→α→Bool} (h:G.length≤s∨R.length≤t) :G.drop s++R.drop t=WA lt (G.drop s) (R.drop t) :=by
 rcases h with h | h
 ·rw [jkg h,vR];rfl
 ·rw [jkg h,vS,jjL]
theorem GI.start {lt:α→α→Bool} {G R:List α} {h:Nat} (e:h= (G.length+R.length) /2) :GI lt G R h (h- R.length) (min G.length h) :=
 ⟨by omega,by omega,by omega⟩
end
section
variable {α β:Type} {lt:α→α→Bool} {lt':β→β→Bool} {f:α→β}
theorem SP {x:α} :∀ {l:List α},(∀y∈l,lt' (f x) (f y) =lt x y)→wd lt' (f x) (l.map f) = (wd lt x l).map f
 | [],_=>rfl
 | y::l,h=>by
  rw [jjF,Kn,Kn,h y (jjJ ..)]
  split
  ·rfl
  ·rw [jjF,SP fun z hz=>h z (jjs _ hz)]
theorem LR:∀ {l acc:List α},(∀x,(x∈acc∨x∈l)→∀y,(y∈acc∨y∈l)→lt' (f x) (f y) =lt x y)→(l.map f).foldl (fun acc x=>wd lt' x acc) (acc.map f) = (l.foldl (fun acc x=>wd lt x acc) acc).map f
 | [],_,_=>rfl
 | x::l,acc,h=>by
  rw [jjF,jkk,jkk,SP fun y hy=>h x (.inr (jjJ ..)) y (.inl hy)]
  have key:∀u,(u∈wd lt x acc∨u∈l)→(u∈acc∨u∈x::l) :=fun u hu=>by
   rcases hu with h' | h'
   ·rcases OH.1 h' with rfl | h''
    ·exact .inr (jjJ ..)
    ·exact .inl h''
   ·exact .inr (jjs _ h')
  exact LR fun u hu v hv=>h u (key u hu) v (key v hv)
theorem Rj {l:List α} (h:∀x∈l,∀y∈l,lt' (f x) (f y) =lt x y) :Kd lt' (l.map f) = (Kd lt l).map f:=
 LR (acc:= []) fun x hx y hy=>h x (hx.resolve_left (by simp)) y (hy.resolve_left (by simp))
theorem Fe {x:α} :∀ {l:List α},(wd lt x l).Perm (x::l)
 | [] =>List.Perm.refl _
 | y::l=>by
  rw [Kn]
  split
  ·exact List.Perm.refl _
  ·exact((Fe (l:=l)).cons y).trans (List.Perm.swap x y l)
theorem Fd:∀ {l acc:List α},(l.foldl (fun acc x=>wd lt x acc) acc).Perm (acc++l)
 | [],acc=>by simp
 | x::l,acc=>by
  rw [jkk]
  refine(Fd (l:=l)).trans ?_;refine((Fe (x:=x) (l:=acc)).append_right l).trans ?_
  exact(List.perm_middle (a:=x) (l₁:=acc) (l₂:=l)).symm
theorem BM {l:List α} : (Kd lt l).Perm l:=by
 have:=Fd (lt:=lt) (l:=l) (acc:= [])
 rwa [jj2] at this
end
end
end Go.Proofs.YtbahojdbmmjkcaaGreat
