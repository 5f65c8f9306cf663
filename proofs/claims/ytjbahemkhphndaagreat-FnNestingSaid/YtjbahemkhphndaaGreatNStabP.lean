import Derived.Test.YtjbahemkhphndaaGreatNMem
set_option linter.unusedVariables false
set_option linter.unusedSimpArgs false
namespace Go.Proofs.YtjbahemkhphndaaGreat
section
variable{α:Type}
structure Weak {α:Type} (lt:α->α->Bool):Prop where
 asym:∀a b,lt a b=true->lt b a=false
 neg:∀a b c,lt a b=false->lt b c=false->lt a c=false
def ya{α:Type}(lt:α->α->Bool)(l:List α):Prop:=l.Pairwise (λa b=>lt b a=false)
def wm{α:Type}(lt:α->α->Bool)(x:α):List α->List α
 |[]=>[x]
 |y::l=>if lt x y then x::y::l else y::wm lt x l
def Kq{α:Type}(lt:α->α->Bool)(l:List α):List α:=l.foldl (λacc x=>wm lt x acc) []
def Ws{α:Type}(lt:α->α->Bool):List α->List α->List α
 |[],ys=>ys
 |x::xs,[]=>x::xs
 |x::xs,y::ys=>if lt y x then y::Ws lt (x::xs) ys else x::Ws lt xs (y::ys)
 termination_by xs ys=>xs.length+ys.length
section
variable{α:Type}{lt:α->α->Bool}
theorem KE(x y:α)(l:List α):wm lt x (y::l)=if lt x y then x::y::l else y::wm lt x l:=rfl
theorem Vf(ys:List α):Ws lt [] ys=ys:=by rw[Ws]
theorem Vg(xs:List α):Ws lt xs []=xs:=by cases xs<;>rw[Ws]
theorem kI(x y:α)(xs ys:List α):Ws lt (x::xs) (y::ys)=if lt y x then y::Ws lt (x::xs) ys else x::Ws lt xs (y::ys):=by rw[Ws]
theorem BF{x z:α}{l:List α}:z∈wm lt x l↔z=x\/z∈l:=by
 induction l with
 |nil=>simp[wm]
 |cons y l ih=>
  rw[KE];split
  .simp
  .rw[jlP,jlP,ih];constructor
   .rintro(h|h|h)
    .exact .inr (.inl h)
    .exact .inl h
    .exact .inr (.inr h)
   .rintro(h|h|h)
    .exact .inr (.inl h)
    .exact .inl h
    .exact .inr (.inr h)
theorem jeF(x:α)(l:List α):(wm lt x l).length=l.length+1:=by
 induction l with
 |nil=>rfl
 |cons y l ih=>
  rw[KE];split<;>simp[ih]
theorem jeG(W:Weak lt){x:α}{l:List α}(h:ya lt l):ya lt (wm lt x l):=by
 induction l with
 |nil=>exact jmK _ _
 |cons y l ih=>
  obtain⟨h1,h2⟩:=jmc.1 h;rw[KE];split
  .rename_i hxy;refine jmc.2 ⟨λz hz=>?_,h⟩;rcases jlP.1 hz with rfl|hz
   .exact W.asym _ _ hxy
   .exact W.neg _ _ _ (h1 z hz) (W.asym _ _ hxy)
  .rename_i hxy;refine jmc.2 ⟨λz hz=>?_,ih h2⟩;rcases BF.1 hz with rfl|hz
   .simpa using hxy
   .exact h1 z hz
theorem jeC(W:Weak lt){l acc:List α}(h:ya lt acc):ya lt (l.foldl (λacc x=>wm lt x acc) acc):=by
 induction l generalizing acc with
 |nil=>exact h
 |cons x l ih=>exact ih (jeG W h)
theorem Wj(W:Weak lt)(l:List α):ya lt (Kq lt l):=jeC W List.Pairwise.nil
theorem jez(l acc:List α):(l.foldl (λacc x=>wm lt x acc) acc).length=acc.length+l.length:=by
 induction l generalizing acc with
 |nil=>rfl
 |cons x l ih=>rw[jmI,ih,jeF,jlS];omega
theorem QC(l:List α):(Kq lt l).length=l.length:=by rw[Kq,jez];simp
theorem DK(l:List α)(x:α):Kq lt (l++[x])=wm lt x (Kq lt l):=by rw[Kq,jnI];rfl
theorem jeA(l acc:List α)(z:α):z∈l.foldl (λacc x=>wm lt x acc) acc↔z∈acc\/z∈l:=by
 induction l generalizing acc with
 |nil=>simp
 |cons x l ih=>
  rw[jmI,ih,BF,jlP];constructor
  .rintro((h|h)|h)
   .exact .inr (.inl h)
   .exact .inl h
   .exact .inr (.inr h)
  .rintro(h|h|h)
   .exact .inl (.inr h)
   .exact .inl (.inl h)
   .exact .inr h
theorem Xc(l:List α)(z:α):z∈Kq lt l↔z∈l:=by rw[Kq,jeA];simp
theorem zI(xs ys:List α):(Ws lt xs ys).length=xs.length+ys.length:=by
 induction xs,ys using Ws.induct (lt:=lt) with
 |case1 ys=>rw[Vf];simp
 |case2 x xs=>rw[Vg];simp
 |case3 x xs y ys h ih=>rw[kI,if_pos h,jlS,ih];simp;omega
 |case4 x xs y ys h ih=>rw[kI,if_neg h,jlS,ih];simp;omega
theorem jaE(xs ys:List α)(z:α):z∈Ws lt xs ys↔z∈xs\/z∈ys:=by
 induction xs,ys using Ws.induct (lt:=lt) with
 |case1 ys=>rw[Vf];simp
 |case2 x xs=>rw[Vg];simp
 |case3 x xs y ys h ih=>
  rw[kI,if_pos h,jlP,ih,jlP (a:=z) (b:=y)];constructor
  .rintro(h|h|h)
   .exact .inr (.inl h)
   .exact .inl h
   .exact .inr (.inr h)
  .rintro(h|h|h)
   .exact .inr (.inl h)
   .exact .inl h
   .exact .inr (.inr h)
 |case4 x xs y ys h ih=>
  rw[kI,if_neg h,jlP,ih,jlP (a:=z) (b:=x),or_assoc]
theorem Weak.lt_le(W:Weak lt){a b c:α}(h1:lt a b=true)(h2:lt c b=false):lt a c=true:=by
 cases h:lt a c with
 |true=>rfl
 |false=>rw[W.neg _ _ _ h h2] at h1;cases h1
theorem Weak.le_lt(W:Weak lt){a b c:α}(h1:lt b a=false)(h2:lt b c=true):lt a c=true:=by
 cases h:lt a c with
 |true=>rfl
 |false=>rw[W.neg _ _ _ h1 h] at h2;cases h2
theorem je6(W:Weak lt)(x:α)(X Y:List α):Ws lt X (wm lt x Y)=wm lt x (Ws lt X Y):=by
 induction X,Y using Ws.induct (lt:=lt) with
 |case1 ys=>rw[Vf,Vf]
 |case2 a X=>
  rw[Vg];show Ws lt (a::X) [x]=_
  generalize a::X=Z
  induction Z with
  |nil=>rw[Vf];rfl
  |cons a Z ih=>
   rw[kI,KE,Vg];by_cases h:lt x a=true
   .rw[if_pos h,if_pos h]
   .rw[if_neg h,if_neg h,ih]
 |case3 a X b Y h ih=>
  rw[KE,kI a b,if_pos h,KE];by_cases hx:lt x b=true
  .have hxa:lt x a=true:=W.lt_le hx (W.asym _ _ h);rw[if_pos hx,if_pos hx,kI,if_pos hxa,kI,if_pos h]
  .rw[if_neg hx,if_neg hx,kI,if_pos h,ih]
 |case4 a X b Y h ih=>
  rw[kI a b,if_neg h,KE x a];by_cases hx:lt x a=true
  .have hxb:lt x b=true:=W.lt_le hx (by simpa using h);rw[if_pos hx,KE,if_pos hxb,kI,if_pos hx,kI,if_neg h]
  .rw[if_neg hx,<-ih,KE];by_cases hxb:lt x b=true
   .rw[if_pos hxb,kI,if_neg hx]
   .rw[if_neg hxb,kI,if_neg h]
theorem jeB(W:Weak lt)(X B Y:List α):B.foldl (λacc x=>wm lt x acc) (Ws lt X Y)=Ws lt X (B.foldl (λacc x=>wm lt x acc) Y):=by
 induction B generalizing Y with
 |nil=>rfl
 |cons b B ih=>rw[jmI,jmI,<-je6 W,ih]
theorem DI(W:Weak lt)(A B:List α):Kq lt (A++B)=Ws lt (Kq lt A) (Kq lt B):=by
 rw[Kq,jnI,Kq,Kq,<-jeB W,Vg]
theorem BE(x:α)(P Q:List α)(h1:∀p∈P,lt x p=false)(h2:∀q,Q.head?=some q->lt x q=true):wm lt x (P++Q)=P++x::Q:=by
 induction P with
 |nil=>
  cases Q with
  |nil=>rfl
  |cons q Q=>rw[jmt,KE,if_pos (h2 q rfl)];rfl
 |cons p P ih=>
  rw[jmf,KE,if_neg (by rw[h1 p (jl7 ..)];simp),ih (λq hq=>h1 q (jlQ _ hq))];rfl
theorem YS(L1 L2 R1 R2:List α)(h1:∀l∈L1,∀r∈R2,lt r l=false)(h2:∀r∈R1,∀l∈L2,lt r l=true):
  Ws lt (L1++L2) (R1++R2)=Ws lt L1 R1++Ws lt L2 R2:=by
 induction L1,R1 using Ws.induct (lt:=lt) with
 |case1 R1=>
  rw[Vf]
  induction R1 with
  |nil=>rfl
  |cons r R1 ih=>
   cases L2 with
   |nil=>rw[jmt,Vf,Vf]
   |cons l L2=>
    rw[jmt,jmf,kI,if_pos (h2 r (jl7 ..) l (jl7 ..)),jmf];rw[show Ws lt (l::L2) (R1++R2)=R1++Ws lt (l::L2) R2 from ih (λq hq=>h2 q (jlQ _ hq))]
 |case2 l L1=>
  rw[Vg,jmt];clear h2;generalize l::L1=Z at h1
  induction Z with
  |nil=>rfl
  |cons a Z ih=>
   cases R2 with
   |nil=>rw[Vg,Vg]
   |cons r R2=>
    rw[jmf,kI,if_neg (by rw[h1 a (jl7 ..) r (jl7 ..)];simp),ih (λl hl=>h1 l (jlQ _ hl))];rfl
 |case3 l L1 r R1 h ih=>
  rw[jmf,jmf,kI,if_pos h,kI,if_pos h,jmf];rw[<-ih h1 (λq hq=>h2 q (jlQ _ hq))];rfl
 |case4 l L1 r R1 h ih=>
  rw[jmf,jmf,kI,if_neg h,kI,if_neg h,jmf];rw[<-ih (λq hq=>h1 q (jlQ _ hq)) h2];rfl
theorem jhE(L R:List α)(h:∀l∈L,∀r∈R,lt r l=false):Ws lt L R=L++R:=by
 have:=YS (lt:=lt) L [] [] R h (λr hr=>by cases hr)
 rwa [jl9,jmt,Vg,Vf] at this
theorem je7(L R:List α)(h:∀r∈R,∀l∈L,lt r l=true):Ws lt L R=R++L:=by
 have:=YS (lt:=lt) [] L R [] (λr hr=>by cases hr) h
 rwa [jl9,jmt,Vg,Vf] at this
theorem jhF(x:α)(R1 R2:List α)(h1:∀r∈R1,lt r x=true)(h2:∀r∈R2,lt r x=false):Ws lt [x] (R1++R2)=R1++x::R2:=by
 have:=YS (lt:=lt) [] [x] R1 R2 (λr hr=>by cases hr) (λr hr l hl=>by cases jlM.1 hl;exact h1 r hr);rw[jmt,Vf,jhE [x] R2 (λl hl r hr=>by cases jlM.1 hl;exact h2 r hr)] at this;exact this
theorem jhG(y:α)(L1 L2:List α)(h1:∀l∈L1,lt y l=false)(h2:∀l∈L2,lt y l=true):Ws lt (L1++L2) [y]=L1++y::L2:=by
 have:=YS (lt:=lt) L1 L2 [] [y] (λl hl r hr=>by cases jlM.1 hr;exact h1 l hl) (λr hr=>by cases hr);rw[jmt,Vg,je7 L2 [y] (λr hr l hl=>by cases jlM.1 hr;exact h2 l hl)] at this;exact this
def blk(lt:α->α->Bool)(k:Nat)(xs:List α):List α:=
 if h:k=0\/xs.length<=k then Kq lt xs else Kq lt (xs.take k)++blk lt k (xs.drop k)
 termination_by xs.length
 decreasing_by simp only[not_or] at h;rw[jmb];omega
theorem wA{k:Nat}{xs:List α}(h:xs.length<=k):blk lt k xs=Kq lt xs:=by rw[blk,dif_pos (.inr h)]
theorem TD{k:Nat}{xs:List α}(h:0<k)(h2:k<xs.length):blk lt k xs=Kq lt (xs.take k)++blk lt k (xs.drop k):=by rw[blk,dif_neg Om]
theorem Ri{k:Nat}{xs:List α}(h:0<k)(h2:k<=xs.length):blk lt k xs=Kq lt (xs.take k)++blk lt k (xs.drop k):=by
 rcases jmT h2 with h3|h3
 .exact TD h h3
 .rw[wA Om,jme Om,jmG Om,wA (by simp)];simp[Kq]
theorem jgV(W:Weak lt){k:Nat}{xs:List α}(h:0<k)(h2:2*k<=xs.length):
  blk lt k xs=Kq lt (xs.take k)++(Kq lt ((xs.drop k).take k)++blk lt k (xs.drop (2*k)))/\
  blk lt (2*k) xs=Ws lt (Kq lt (xs.take k)) (Kq lt ((xs.drop k).take k))++blk lt (2*k) (xs.drop (2*k)):=by
 constructor
 .rw[Ri h Om,Ri (xs:=xs.drop k) h (by rw[jmb];omega),List.drop_drop,show k+k=2*k by omega]
 .rw[Ri Om h2,<-DI W,<-List.take_add,show k+k=2*k by omega]
theorem jdG(W:Weak lt){k:Nat}{xs:List α}(h:0<k)(h1:k<xs.length)(h2:xs.length<=2*k):
  blk lt k xs=Kq lt (xs.take k)++Kq lt (xs.drop k)/\blk lt (2*k) xs=Ws lt (Kq lt (xs.take k)) (Kq lt (xs.drop k)):=by
 constructor
 .rw[TD h h1,wA (xs:=xs.drop k) (by rw[jmb];omega)]
 .rw[wA h2,<-DI W,jl1]
theorem jgU{k:Nat}{xs:List α}(h2:xs.length<=k):blk lt k xs=blk lt (2*k) xs:=by rw[wA h2,wA Om]
end
def wy(l:List α)(i j:Nat):List α:=match l[i]?,l[j]? with
 |some x,some y=>(l.set i y).set j x
 |_,_=>l
theorem IZ(l:List α)(i j:Nat):(wy l i j).length=l.length:=by
 unfold wy;split<;>simp
theorem vN{l:List α}{i j:Nat}{x y:α}(hx:l[i]? =some x)(hy:l[j]? =some y):wy l i j=(l.set i y).set j x:=by
 unfold wy;rw[hx,hy]
def ul(l:List α)(a b:Nat):Nat->List α
 |0=>l
 |k+1=>wy (ul l a b k) (a+k) (b+k)
theorem I1(l:List α)(a b k:Nat):(ul l a b k).length=l.length:=by
 induction k with
 |zero=>rfl
 |succ k ih=>rw[ul,IZ,ih]
def Up(n:Nat)(S:α->Prop)(l:List α):Prop:=∀i x,i<n->l[i]? =some x->S x
theorem Up.mono{n:Nat}{S S':α->Prop}{l:List α}(h:Up n S l)(hS:∀x,S x->S' x):Up n S' l:=λi x hi hx=>hS x (h i x hi hx)
theorem Up.swap2{n:Nat}{S:α->Prop}{l:List α}{i j:Nat}(h:Up n S l)(hi:i<n)(hj:j<n):Up n S (wy l i j):=by
 unfold Go.Proofs.YtjbahemkhphndaaGreat.wy;split
 .rename_i x y hx hy;intro q z hq hz;rw[List.getElem?_set] at hz;split at hz
  .split at hz
   .injection hz with hz
    exact hz▸h i x hi hx
   .cases hz
  .rw[List.getElem?_set] at hz;split at hz
   .split at hz
    .injection hz with hz
     exact hz▸h j y hj hy
    .cases hz
   .exact h q z hq hz
 .exact h
theorem jja{n:Nat}{S:α->Prop}{P B:List α}(h:∀x∈P,S x)(hl:n<=P.length):Up n S (P++B):=λi x hi hx=>by
 rw[List.getElem?_append_left Om] at hx;exact h x (List.mem_of_getElem? hx)
theorem xE{n:Nat}{S:α->Prop}{A X Y Z:List α}(h:Up n S (A++X++Z))(hY:∀y∈Y,y∈X)(hl:Y.length=X.length)(hn:A.length+X.length<=n):Up n S (A++Y++Z):=λi x hi hx=>by
 by_cases h1:i<A.length
 .refine h i x hi ?_;rw[jlT,List.getElem?_append_left h1] at hx⊢;exact hx
 .by_cases h2:i<A.length+Y.length
  .rw[List.getElem?_append_left (by simpa using h2),List.getElem?_append_right Om] at hx;obtain⟨j,hj,e⟩:=jmq (hY x (List.mem_of_getElem? hx));refine h (A.length+j) x Om ?_;rw[List.getElem?_append_left (by simp;omega),List.getElem?_append_right Om,Nat.add_sub_cancel_left,List.getElem?_eq_getElem hj,e]
  .refine h i x hi ?_;rw[List.getElem?_append_right (by simp;omega)] at hx⊢;rw[<-hx];congr 1;simp[hl]
theorem xC{n:Nat}{S:α->Prop}{l:List α}{a b:Nat}(h:Up n S l):∀k,a+k<=n->b+k<=n->Up n S (ul l a b k)
 |0,_,_=>h
 |k+1,h1,h2=>(xC h k Om Om).swap2 Om Om
theorem I0{A M B:List α}{x y:α}{i j:Nat}(hi:A.length=i)(hj:(A++x::M).length=j):wy (A++x::(M++y::B)) i j=A++y::(M++x::B):=by
 subst hi;rw[vN (x:=x) (y:=y) (by simp) (by rw[show A++x::(M++y::B)=(A++x::M)++y::B by simp,<-hj,List.getElem?_append_right (jlL _)];simp)];rw[jne _ _ (jlL _),Nat.sub_self,List.set_cons_zero,show A++y::(M++y::B)=(A++y::M)++y::B by simp,jne _ _ (by rw[<-hj];simp)];have:j-(A++y::M).length=0:=by rw[<-hj];simp
 rw[this,List.set_cons_zero];simp
theorem Md{U V:List α}(hUV:U.length=V.length)(A M B:List α){b:Nat}(hb:(A++U++M).length=b):ul (A++U++M++V++B) A.length b U.length=A++V++M++U++B:=by
 have key:∀(k:Nat),k<=U.length->ul (A++U++M++V++B) A.length b k=A++(V.take k++U.drop k)++M++(U.take k++V.drop k)++B:=by
  intro k
  induction k with
  |zero=>intro _;simp[ul]
  |succ k ih=>
   intro hk;rw[ul,ih Om];have hu:k<U.length:=by omega
   have hv:k<V.length:=by omega
   rw[jmu hu,jmu hv,jlX hu,jlX hv];have:=I0 (A:=A++V.take k) (x:=U[k]) (M:=U.drop (k+1)++M++U.take k) (y:=V[k]) (B:=V.drop (k+1)++B) (i:=A.length+k) (j:=b+k)
    (by rw[jlJ,jl3];omega) (by rw[<-hb];simp;omega)
   simp only[jlT,jmf,jmt] at this⊢;exact this
 rw[key _ (jlL _),jme Om,jmG (jlL _),jme (jlL _),jmG Om];simp
section
end
structure RotI (S:α->Prop) (t:List α) (m n i j:Nat) (ds:List α):Prop where
 ex:∃X U V Y:List α,ds=X++U++V++Y/\X.length+i=m/\U.length=i/\V.length=j/\X++V++U++Y=t
 i0:0<i
 j0:0<j
 le:m+j<=n
 one:Up n S ds
theorem RotI.len{S:α->Prop}{t:List α}{m n i j:Nat}{ds:List α}(h:RotI S t m n i j ds):ds.length=t.length/\i<=m:=by
 obtain⟨X,U,V,Y,rfl,h1,h2,h3,rfl⟩:=h.ex;simp;omega
theorem RotI.left{S:α->Prop}{t:List α}{m n i j:Nat}{ds:List α}(h:RotI S t m n i j ds)(hij:j<i):RotI S t m n (i-j) j (ul ds (m-i) m j):=by
 obtain⟨X,U,V,Y,rfl,h1,h2,h3,e⟩:=h.ex;refine⟨⟨X++V,U.drop j,U.take j,Y,?_,?_,?_,?_,?_⟩,by omega,h.j0,h.le,xC h.one j (by have:=h.le;omega) (by have:=h.le;omega)⟩
 .have:=Md (U:=U.take j) (V:=V) (by simp;omega) X (U.drop j) Y (b:=m) (by simp;omega);rw[jlT X,jl1,show X.length=m-i by omega,show(U.take j).length=j by simp;omega] at this;rw[this]
 .simp;omega
 .simp;omega
 .simp;omega
 .rw[jlT (X++V),jl1];exact e
theorem RotI.right{S:α->Prop}{t:List α}{m n i j:Nat}{ds:List α}(h:RotI S t m n i j ds)(hij:i<j):RotI S t m n i (j-i) (ul ds (m-i) (m+j-i) i):=by
 obtain⟨X,U,V,Y,rfl,h1,h2,h3,e⟩:=h.ex;refine⟨⟨X,V.drop (j-i),V.take (j-i),U++Y,?_,by omega,?_,?_,?_⟩,h.i0,by omega,by have:=h.le;omega,xC h.one i (by have:=h.le;omega) (by have:=h.le;omega)⟩
 .have:=Md (U:=U) (V:=V.drop (j-i)) (by simp;omega) X (V.take (j-i)) Y (b:=m+j-i) (by simp;omega);rw[jlT (X++U),jl1,show X.length=m-i by omega,h2] at this;rw[this];simp only[jlT]
 .simp;omega
 .simp;omega
 .rw[<-e];rw[jlT X,jl1,jlT,jlT,jlT]
theorem RotI.fin{S:α->Prop}{t:List α}{m n i:Nat}{ds:List α}(h:RotI S t m n i i ds):ul ds (m-i) m i=t:=by
 obtain⟨X,U,V,Y,rfl,h1,h2,h3,e⟩:=h.ex;have:=Md (U:=U) (V:=V) Om X [] Y (b:=m) (by simp;omega)
 rw[jl9,jl9,show X.length=m-i by omega,h2] at this;rw[this,e]
def QP(cr:α->α->Int)(x y:α):Bool:=decide (cr x y<0)
theorem jgb{lt:α->α->Bool}(W:Weak lt){P Q:List α}{p x:α}(h:ya lt (P++p::Q))(hx:lt x p=false):∀q∈P++[p],lt x q=false:=by
 intro q hq;rcases jl0.1 hq with hq|hq
 .exact W.neg _ _ _ hx ((jm9.1 h).2.2 q hq p (jl7 ..))
 .cases jlM.1 hq;exact hx
structure InsI (lt:α->α->Bool) (A Y R:List α) (x:α) (j:Nat) (ds:List α):Prop where
 ex:∃P Q:List α,ds=A++(P++x::Q)++R/\A.length+P.length=j/\P++Q=Y/\∀q∈Q,lt x q=true
theorem InsI.low{lt:α->α->Bool}{A Y R:List α}{x:α}{j:Nat}{ds:List α}(h:InsI lt A Y R x j ds)(hj:j<=A.length):ds=A++wm lt x Y++R:=by
 obtain⟨P,Q,rfl,h1,rfl,h3⟩:=h.ex;obtain rfl:P=[]:=jmh Om;rw[BE x [] Q (λp hp=>by cases hp) (λq hq=>h3 q (List.mem_of_mem_head? hq))]
theorem InsI.last{lt:α->α->Bool}{A Y R:List α}{x:α}{j:Nat}{ds:List α}(h:InsI lt A Y R x j ds)(hj:A.length<j):
  ∃p,ds[j]? =some x/\ds[j-1]? =some p/\(Weak lt->ya lt Y->lt x p=false->ds=A++wm lt x Y++R)/\(lt x p=true->InsI lt A Y R x (j-1) (wy ds j (j-1))):=by
 obtain⟨P,Q,rfl,h1,rfl,h3⟩:=h.ex;rcases List.eq_nil_or_concat P with rfl|⟨P,p,rfl⟩
 .simp at h1;omega
 rw[List.concat_eq_append,jlJ,jmE] at h1;simp only[List.concat_eq_append];have e1:A++(P++[p]++x::Q)++R=(A++P)++p::x::(Q++R):=by simp
 have g1:(A++(P++[p]++x::Q)++R)[j]? =some x:=by
  rw[e1,List.getElem?_append_right (by simp;omega),show j-(A++P).length=1 by simp;omega];rfl
 have g2:(A++(P++[p]++x::Q)++R)[j-1]? =some p:=by
  rw[e1,List.getElem?_append_right (by simp;omega),show j-1-(A++P).length=0 by simp;omega];rfl
 refine⟨p,g1,g2,λW hs hx=>?_,λhx=>⟨P,p::Q,?_,by omega,by simp,λq hq=>?_⟩⟩
 .rw[BE x (P++[p]) Q (jgb W (Q:=Q) (by simpa using hs) hx) (λq hq=>h3 q (List.mem_of_mem_head? hq))]
 .rw[vN g1 g2,e1,jne _ _ (by simp;omega),show j-(A++P).length=1 by simp;omega,jne _ _ (by simp;omega),show j-1-(A++P).length=0 by simp;omega];simp
 .rcases jlP.1 hq with rfl|hq
  .exact hx
  .exact h3 q hq
structure InsO (lt:α->α->Bool) (A X B:List α) (i:Nat) (ds:List α):Prop where
 lo:A.length<i
 hi:i<=A.length+X.length\/i=A.length+1
 eq:ds=A++Kq lt (X.take (i-A.length))++(X.drop (i-A.length)++B)
theorem InsO.start{lt:α->α->Bool}{A X B:List α}:InsO lt A X B (A.length+1) (A++X++B):=by
 refine⟨by omega,.inr J,?_⟩;rw[Nat.add_sub_cancel_left];cases X with
 |nil=>simp[Kq]
 |cons x X=>simp[Kq,wm]
theorem InsO.len{lt:α->α->Bool}{A X B:List α}{i:Nat}{ds:List α}(h:InsO lt A X B i ds):ds.length=(A++X++B).length:=by
 rw[h.eq];simp[QC];omega
theorem InsO.fin{lt:α->α->Bool}{A X B:List α}{i:Nat}{ds:List α}(h:InsO lt A X B i ds)(hi:A.length+X.length<=i):ds=A++Kq lt X++B:=by
 rw[h.eq,jme Om,jmG Om];rfl
theorem InsO.in_{lt:α->α->Bool}{A X B:List α}{i:Nat}{ds:List α}(h:InsO lt A X B i ds)(hi:i<A.length+X.length):
  ∃x,InsI lt A (Kq lt (X.take (i-A.length))) (X.drop (i-A.length+1)++B) x i ds/\∀fs,fs=A++wm lt x (Kq lt (X.take (i-A.length)))++(X.drop (i-A.length+1)++B)->InsO lt A X B (i+1) fs:=by
 have:=h.lo;have hk:i-A.length<X.length:=by omega
 refine⟨X[i-A.length],⟨Kq lt (X.take (i-A.length)),[],?_,?_,by simp,λq hq=>by cases hq⟩,λfs e=>⟨by omega,.inl Om,?_⟩⟩
 .rw[h.eq,jmu hk];simp only[jlT,jmf,jmt]
 .rw[QC,jl3];omega
 .rw[e,show i+1-A.length=i-A.length+1 by omega,jlX hk,DK]
section
variable{lt:α->α->Bool}
theorem SL{R:List α}(h:ya lt R){i j:Nat}(hij:i<j)(hj:j<R.length):lt R[j] R[i]=false:=
 jmQ.1 h i j Om hj hij
theorem Oy{R:List α}{n:Nat}{r:α}(h:r∈R.take n):∃i,∃hi:i<R.length,i<n/\R[i]=r:=by
 obtain⟨i,hi,e⟩:=jmq h;rw[jl3] at hi;exact⟨i,by omega,by omega,by rw[<-e,List.getElem_take]⟩
theorem Ow{R:List α}{n:Nat}{r:α}(h:r∈R.drop n):∃i,∃hi:i<R.length,n<=i/\R[i]=r:=by
 obtain⟨i,hi,e⟩:=jmq h;rw[jmb] at hi;exact⟨n+i,by omega,by omega,by rw[<-e,List.getElem_drop]⟩
theorem jbq(W:Weak lt){R:List α}(hS:ya lt R){h:Nat}{x:α}(hh:h<R.length)(hx:lt R[h] x=true):∀r∈R.take (h+1),lt r x=true:=by
 intro r hr;obtain⟨i,hi,hin,rfl⟩:=Oy hr;rcases jmT (show i<=h by omega) with h1|rfl
 .exact W.le_lt (SL hS h1 hh) hx
 .exact hx
theorem jbp(W:Weak lt){R:List α}(hS:ya lt R){h:Nat}{x:α}(hh:h<R.length)(hx:lt R[h] x=false):∀r∈R.drop h,lt r x=false:=by
 intro r hr;obtain⟨i,hi,hin,rfl⟩:=Ow hr;rcases jmT hin with h1|rfl
 .exact W.neg _ _ _ (SL hS h1 hi) hx
 .exact hx
theorem PP(W:Weak lt){L:List α}(hS:ya lt L){h:Nat}{y:α}(hh:h<L.length)(hy:lt y L[h]=false):∀l∈L.take (h+1),lt y l=false:=by
 intro r hr;obtain⟨i,hi,hin,rfl⟩:=Oy hr;rcases jmT (show i<=h by omega) with h1|rfl
 .exact W.neg _ _ _ hy (SL hS h1 hh)
 .exact hy
theorem PO(W:Weak lt){L:List α}(hS:ya lt L){h:Nat}{y:α}(hh:h<L.length)(hy:lt y L[h]=true):∀l∈L.drop h,lt y l=true:=by
 intro r hr;obtain⟨i,hi,hin,rfl⟩:=Ow hr;rcases jmT hin with h1|rfl
 .exact W.lt_le hy (SL hS h1 hi)
 .exact hy
theorem R8(A R B:List α)(x:α){k:Nat}(hk:k<R.length):wy (A++(R.take k++x::R.drop k)++B) (A.length+k) (A.length+k+1)=A++(R.take (k+1)++x::R.drop (k+1))++B:=by
 have:=I0 (A:=A++R.take k) (x:=x) (M:=[]) (y:=R[k]) (B:=R.drop (k+1)++B) (i:=A.length+k) (j:=A.length+k+1) (by simp;omega) (by simp;omega);rw[jmu hk,jlX hk];simp only[jlT,jmf,jmt] at this⊢;exact this
theorem Ew{l:List α}{i j:Nat}(h:i≠j):wy l i j=wy l j i:=by
 unfold wy;cases hi:l[i]? <;>cases hj:l[j]? <;>simp only;exact List.set_comm _ _ h
theorem Iw(A L B:List α)(y:α){k:Nat}(h0:0<k)(hk:k<=L.length):wy (A++(L.take k++y::L.drop k)++B) (A.length+k) (A.length+k-1)=A++(L.take (k-1)++y::L.drop (k-1))++B:=by
 obtain⟨k,rfl⟩:∃q,k=q+1:=⟨k-1,by omega⟩;rw[show A.length+(k+1)-1=A.length+k by omega,show k+1-1=k by omega,<-R8 A L B y (by omega:k<L.length)];rw[Ew Om];have hb:A.length+k+1<(A++(L.take k++y::L.drop k)++B).length:=by simp;omega
 rw[show A.length+(k+1)=A.length+k+1 by omega];obtain⟨u,hu⟩:∃u,(A++(L.take k++y::L.drop k)++B)[A.length+k]? =some u:=⟨_,List.getElem?_eq_getElem Om⟩;obtain⟨v,hv⟩:∃v,(A++(L.take k++y::L.drop k)++B)[A.length+k+1]? =some v:=⟨_,List.getElem?_eq_getElem hb⟩;generalize A++(L.take k++y::L.drop k)++B=l at*;rw[vN hu hv,vN (i:=A.length+k) (j:=A.length+k+1) (x:=v) (y:=u)]
 .apply List.ext_getElem?;intro q;by_cases h1:A.length+k+1=q
  .subst h1;rw[List.getElem?_set_self (by simp;omega),hv]
  .rw[List.getElem?_set_ne h1];by_cases h2:A.length+k=q
   .subst h2;rw[List.getElem?_set_self (by simp;omega),hu]
   .rw[List.getElem?_set_ne h2,List.getElem?_set_ne h1,List.getElem?_set_ne h2]
 .rw[List.getElem?_set_ne Om,List.getElem?_set_self Om]
 .rw[List.getElem?_set_self (by simp;omega)]
theorem jjY(W:Weak lt){L R:List α}(hL:ya lt L)(hR:ya lt R){s t:Nat}(h1:s=0\/t=R.length\/∃(hs:s-1<L.length) (ht:t<R.length),lt R[t] L[s-1]=false)
  (h2:t=0\/s=L.length\/∃(ht:t-1<R.length) (hs:s<L.length),lt R[t-1] L[s]=true) (hs:s<=L.length) (ht:t<=R.length):
  Ws lt L R=Ws lt (L.take s) (R.take t)++Ws lt (L.drop s) (R.drop t):=by
 rw[<-YS,jl1,jl1]
 .intro l hl r hr;obtain⟨i,hi,hin,rfl⟩:=Oy hl;obtain⟨j,hj,hjn,rfl⟩:=Ow hr;rcases h1 with h1|h1|⟨g1,g2,h1⟩
  .omega
  .omega
  .exact PP W hL g1 (jbp W hR g2 h1 _ (List.mem_iff_getElem.2 ⟨j-t,by rw[jmb];omega,by rw[List.getElem_drop];congr 1;omega⟩)) _ (List.mem_iff_getElem.2 ⟨i,by rw[jl3];omega,by rw[List.getElem_take]⟩)
 .intro r hr l hl;obtain⟨j,hj,hjn,rfl⟩:=Oy hr;obtain⟨i,hi,hin,rfl⟩:=Ow hl;rcases h2 with h2|h2|⟨g1,g2,h2⟩
  .omega
  .omega
  .exact PO W hL g2 (jbq W hR g1 h2 _ (List.mem_iff_getElem.2 ⟨j,by rw[jl3];omega,by rw[List.getElem_take]⟩)) _ (List.mem_iff_getElem.2 ⟨i-s,by rw[jmb];omega,by rw[List.getElem_drop];congr 1;omega⟩)
end
theorem ET{lt:α->α->Bool}(k:Nat)(xs:List α)(z:α):z∈blk lt k xs↔z∈xs:=by
 induction xs using blk.induct k with
 |case1 xs h=>rw[blk,dif_pos h,Xc]
 |case2 xs h ih=>
  rw[blk,dif_neg h,jl0,Xc,ih,<-jl0,jl1]
theorem ES{lt:α->α->Bool}(k:Nat)(xs:List α):(blk lt k xs).length=xs.length:=by
 induction xs using blk.induct k with
 |case1 xs h=>rw[blk,dif_pos h,QC]
 |case2 xs h ih=>
  rw[blk,dif_neg h,jlJ,QC,ih,<-jlJ,jl1]
structure PreI (lt:α->α->Bool) (X:List α) (k a:Nat) (F:List α):Prop where
 len:F.length=a
 eq:F++blk lt k (X.drop a)=blk lt k X
 le:a<=X.length
theorem PreI.zero{lt:α->α->Bool}{X:List α}{k:Nat}:PreI lt X k 0 []:=⟨rfl,rfl,jlN _⟩
theorem PreI.mem{lt:α->α->Bool}{X F:List α}{k a:Nat}(h:PreI lt X k a F){z:α}(hz:z∈F):z∈X:=(ET k X z).1 (h.eq▸jmH _ hz)
theorem PreI.step{lt:α->α->Bool}{X F:List α}{k a:Nat}(h:PreI lt X k a F)(hk:0<k)(hl:a+k<=X.length):PreI lt X k (a+k) (F++Kq lt ((X.drop a).take k)):=by
 refine⟨by rw[jlJ,QC,h.len,jl3,jmb];omega,?_,hl⟩;rw[<-h.eq,Ri (xs:=X.drop a) hk (by rw[jmb];omega),List.drop_drop,jlT]
theorem PreI.fin{lt:α->α->Bool}{X F:List α}{k a:Nat}(h:PreI lt X k a F)(hl:X.length<=a+k):F++Kq lt (X.drop a)=blk lt k X:=by
 rw[<-h.eq,wA (xs:=X.drop a) (by rw[jmb];omega)]
theorem PreI.cut{X F B:List α}{k a:Nat}:F++(X.drop a++B)=F++(X.drop a).take k++(X.drop (a+k)++B):=by
 rw[<-List.drop_drop,jlT F,<-jlT (List.take k _),jl1]
theorem PreI.two{lt:α->α->Bool}(W:Weak lt){X F B:List α}{k a:Nat}(h:PreI lt X (2*k) a F)(hk:0<k)(hl:a+2*k<=X.length):
  F++(blk lt k (X.drop a)++B)=F++Kq lt ((X.drop a).take k)++Kq lt (((X.drop a).drop k).take k)++(blk lt k (X.drop (a+2*k))++B)/\
  PreI lt X (2*k) (a+2*k) (F++Ws lt (Kq lt ((X.drop a).take k)) (Kq lt (((X.drop a).drop k).take k))):=by
 obtain⟨e1,e2⟩:=jgV W (xs:=X.drop a) hk (by rw[jmb];omega);refine⟨by rw[e1,List.drop_drop,List.drop_drop];simp only[jlT],?_,?_,hl⟩
 .rw[jlJ,zI,QC,QC,h.len];simp;omega
 .rw[<-h.eq,e2,List.drop_drop (i:=2*k),jlT]
theorem PreI.last{lt:α->α->Bool}(W:Weak lt){X F B:List α}{k a:Nat}(h:PreI lt X (2*k) a F)(hk:0<k)(h1:a+k<X.length)(hl:X.length<=a+2*k):
  F++(blk lt k (X.drop a)++B)=F++Kq lt ((X.drop a).take k)++Kq lt ((X.drop a).drop k)++B/\
  F++Ws lt (Kq lt ((X.drop a).take k)) (Kq lt ((X.drop a).drop k))=blk lt (2*k) X:=by
 obtain⟨e1,e2⟩:=jdG W (xs:=X.drop a) hk (by rw[jmb];omega) (by rw[jmb];omega);exact⟨by rw[e1];simp only[jlT],by rw[<-h.eq,e2]⟩
theorem PreI.none{lt:α->α->Bool}{X F B:List α}{k a:Nat}(h:PreI lt X (2*k) a F)(h1:X.length<=a+k):F++(blk lt k (X.drop a)++B)=blk lt (2*k) X++B:=by
 rw[<-h.eq,jgU (xs:=X.drop a) (by rw[jmb];omega),jlT]
theorem PreI.all{lt:α->α->Bool}{X F B:List α}{k a q n:Nat}(h:PreI lt X k a F){S:α->Prop}(hX:∀z∈X,S z)(hn:X.length=n):Up n S (F++(X.drop a++B))/\Up n S (F++(blk lt q (X.drop a)++B)):=by
 have h1:=h.len;have h2:=h.le
 constructor<;>rw[<-jlT]
 .exact jja (λz hz=>(jl0.1 hz).elim (λhz=>hX z (h.mem hz)) (λhz=>hX z (jmy hz))) (by simp;omega)
 .exact jja (λz hz=>(jl0.1 hz).elim (λhz=>hX z (h.mem hz)) (λhz=>hX z (jmy ((ET _ _ _).1 hz)))) (by simp[ES];omega)
theorem PreI.lens{lt:α->α->Bool}{X F B:List α}{k a q:Nat}(h:PreI lt X k a F):X.length<=(F++(X.drop a++B)).length/\X.length<=(F++(blk lt q (X.drop a)++B)).length:=by
 have:=h.len;have:=h.le
 constructor<;>simp[ES]<;>omega
structure S1I (lt:α->α->Bool) (R:List α) (x:α) (i j:Nat):Prop where
 le:i<=j/\j<=R.length
 lo:∀r∈R.take i,lt r x=true
 hi:∀r∈R.drop j,lt r x=false
theorem S1I.start{lt:α->α->Bool}{R:List α}{x:α}:S1I lt R x 0 R.length:=⟨⟨by omega,by omega⟩,λr hr=>by simp at hr,λr hr=>by simp at hr⟩
theorem S1I.fin{lt:α->α->Bool}{R:List α}{x:α}{i:Nat}(h:S1I lt R x i i):Ws lt [x] R=R.take i++x::R.drop i:=by
 rw[<-jhF x _ _ h.lo h.hi,jl1]
theorem S1I.yes{lt:α->α->Bool}(W:Weak lt){R:List α}(hS:ya lt R){x:α}{i j h:Nat}(s:S1I lt R x i j)(h1:i<=h)(h2:h<j){r:α}(hr:R[h]? =some r)(hx:lt r x=true):S1I lt R x (h+1) j:=by
 obtain⟨g,e⟩:=List.getElem?_eq_some_iff.1 hr;subst e;exact⟨⟨by omega,s.le.2⟩,jbq W hS g hx,s.hi⟩
theorem S1I.no{lt:α->α->Bool}(W:Weak lt){R:List α}(hS:ya lt R){x:α}{i j h:Nat}(s:S1I lt R x i j)(h1:i<=h)(h2:h<j){r:α}(hr:R[h]? =some r)(hx:lt r x=false):S1I lt R x i h:=by
 obtain⟨g,e⟩:=List.getElem?_eq_some_iff.1 hr;subst e;exact⟨⟨by omega,by omega⟩,s.lo,jbp W hS g hx⟩
structure S2I (lt:α->α->Bool) (L:List α) (y:α) (i j:Nat):Prop where
 le:i<=j/\j<=L.length
 lo:∀l∈L.take i,lt y l=false
 hi:∀l∈L.drop j,lt y l=true
theorem S2I.start{lt:α->α->Bool}{L:List α}{y:α}:S2I lt L y 0 L.length:=⟨⟨by omega,by omega⟩,λr hr=>by simp at hr,λr hr=>by simp at hr⟩
theorem S2I.fin{lt:α->α->Bool}{L:List α}{y:α}{i:Nat}(h:S2I lt L y i i):Ws lt L [y]=L.take i++y::L.drop i:=by
 rw[<-jhG y _ _ h.lo h.hi,jl1]
theorem S2I.yes{lt:α->α->Bool}(W:Weak lt){L:List α}(hS:ya lt L){y:α}{i j h:Nat}(s:S2I lt L y i j)(h1:i<=h)(h2:h<j){l:α}(hl:L[h]? =some l)(hy:lt y l=false):S2I lt L y (h+1) j:=by
 obtain⟨g,e⟩:=List.getElem?_eq_some_iff.1 hl;subst e;exact⟨⟨by omega,s.le.2⟩,PP W hS g hy,s.hi⟩
theorem S2I.no{lt:α->α->Bool}(W:Weak lt){L:List α}(hS:ya lt L){y:α}{i j h:Nat}(s:S2I lt L y i j)(h1:i<=h)(h2:h<j){l:α}(hl:L[h]? =some l)(hy:lt y l=true):S2I lt L y i h:=by
 obtain⟨g,e⟩:=List.getElem?_eq_some_iff.1 hl;subst e;exact⟨⟨by omega,by omega⟩,s.lo,PO W hS g hy⟩
structure GI (lt:α->α->Bool) (G R:List α) (h s u:Nat):Prop where
 b:h<=s+R.length/\s<=u/\u<=G.length/\u<=h
 lo:s=0\/h=s+R.length\/∃x y,G[s-1]? =some x/\R[h-s]? =some y/\lt y x=false
 hi:u=h\/u=G.length\/∃x y,G[u]? =some x/\R[h-u-1]? =some y/\lt y x=true
theorem GI.fin{lt:α->α->Bool}(W:Weak lt){G R:List α}(hG:ya lt G)(hR:ya lt R){h s:Nat}(g:GI lt G R h s s):Ws lt G R=Ws lt (G.take s) (R.take (h-s))++Ws lt (G.drop s) (R.drop (h-s)):=by
 obtain⟨b1,b2,b3,b4⟩:=g.b;refine jjY W hG hR ?_ ?_ b3 Om
 .rcases g.lo with e|e|⟨x,y,e1,e2,e3⟩
  .exact .inl e
  .exact .inr (.inl Om)
  .obtain⟨q1,rfl⟩:=List.getElem?_eq_some_iff.1 e1;obtain⟨q2,rfl⟩:=List.getElem?_eq_some_iff.1 e2;exact .inr (.inr ⟨q1,q2,e3⟩)
 .rcases g.hi with e|e|⟨x,y,e1,e2,e3⟩
  .exact .inl Om
  .exact .inr (.inl e)
  .obtain⟨q1,rfl⟩:=List.getElem?_eq_some_iff.1 e1;obtain⟨q2,rfl⟩:=List.getElem?_eq_some_iff.1 e2;exact .inr (.inr ⟨q2,q1,e3⟩)
theorem GI.yes{lt:α->α->Bool}{G R:List α}{h s u c:Nat}(g:GI lt G R h s u)(h1:s<=c)(h2:c<u){x y:α}(hx:G[c]? =some x)(hy:R[h-c-1]? =some y)(hc:lt y x=false):GI lt G R h (c+1) u:=
 ⟨by have:=g.b;omega,.inr (.inr ⟨x,y,hx,by rw[show h-(c+1)=h-c-1 by omega];exact hy,hc⟩),g.hi⟩
theorem GI.no{lt:α->α->Bool}{G R:List α}{h s u c:Nat}(g:GI lt G R h s u)(h1:s<=c)(h2:c<u){x y:α}(hx:G[c]? =some x)(hy:R[h-c-1]? =some y)(hc:lt y x=true):GI lt G R h s c:=
 ⟨by have:=g.b;omega,g.lo,.inr (.inr ⟨x,y,hx,hy,hc⟩)⟩
section
variable{A G R Z:List α}{s t:Nat}
theorem UZ:A++G++R++Z=(A++G.take s)++G.drop s++R.take t++(R.drop t++Z):=by
 rw[jlT A (G.take s),jl1,jlT (A++G) (R.take t),<-jlT (R.take t),jl1,<-jlT]
theorem HK:(A++G.take s)++R.take t++G.drop s++(R.drop t++Z)=A++(G.take s++R.take t)++(G.drop s++R.drop t)++Z:=by simp only[jlT]
theorem jfL(h:G.length<=s\/t=0):A++G++R++Z=A++(G.take s++R.take t)++(G.drop s++R.drop t)++Z:=by
 rw[UZ (s:=s) (t:=t),<-HK];rcases h with h|h
 .rw[jmG h,jl9,jl9]
 .subst h;rw[List.take_zero,jl9,jl9]
theorem xS:A++(G.take s++R.take t)++(G.drop s++R.drop t)++Z=A++G.take s++R.take t++(G.drop s++R.drop t++Z):=by simp only[jlT]
theorem jaB{M:List α}:A++M++(G.drop s++R.drop t++Z)=A++M++(G.drop s++R.drop t)++Z:=by simp only[jlT]
theorem je1{lt:α->α->Bool}(h:s=0\/t=0):G.take s++R.take t=Ws lt (G.take s) (R.take t):=by
 rcases h with rfl|rfl
 .rw[List.take_zero,Vf];rfl
 .rw[List.take_zero,Vg,jl9]
theorem xT{M:List α}:A++M++(G.drop s++R.drop t)++Z=A++M++G.drop s++R.drop t++Z:=by simp only[jlT]
theorem jaC{M M2:List α}:A++M++M2++Z=A++(M++M2)++Z:=by simp only[jlT]
theorem je2{lt:α->α->Bool}(h:G.length<=s\/R.length<=t):G.drop s++R.drop t=Ws lt (G.drop s) (R.drop t):=by
 rcases h with h|h
 .rw[jmG h,Vf];rfl
 .rw[jmG h,Vg,jl9]
theorem GI.start{lt:α->α->Bool}{G R:List α}{h:Nat}(e:h=(G.length+R.length)/2):GI lt G R h (h-R.length) (min G.length h):=
 ⟨by omega,by omega,by omega⟩
end
section
variable{α β:Type}{lt:α->α->Bool}{lt':β->β->Bool}{f:α->β}
theorem Nl{x:α}:∀{l:List α},(∀y∈l,lt' (f x) (f y)=lt x y)->wm lt' (f x) (l.map f)=(wm lt x l).map f
 |[],_=>rfl
 |y::l,h=>by
  rw[jmA,KE,KE,h y (jl7 ..)];split
  .rfl
  .rw[jmA,Nl λz hz=>h z (jlQ _ hz)]
theorem ML:∀{l acc:List α},(∀x,(x∈acc\/x∈l)->∀y,(y∈acc\/y∈l)->lt' (f x) (f y)=lt x y)->(l.map f).foldl (λacc x=>wm lt' x acc) (acc.map f)=(l.foldl (λacc x=>wm lt x acc) acc).map f
 |[],_,_=>rfl
 |x::l,acc,h=>by
  rw[jmA,jmI,jmI,Nl λy hy=>h x (.inr (jl7 ..)) y (.inl hy)];have key:∀u,(u∈wm lt x acc\/u∈l)->(u∈acc\/u∈x::l):=λu hu=>by
   rcases hu with h'|h'
   .rcases BF.1 h' with rfl|h''
    .exact .inr (jl7 ..)
    .exact .inl h''
   .exact .inr (jlQ _ h')
  exact ML λu hu v hv=>h u (key u hu) v (key v hv)
theorem SM{l:List α}(h:∀x∈l,∀y∈l,lt' (f x) (f y)=lt x y):Kq lt' (l.map f)=(Kq lt l).map f:=
 ML (acc:=[]) λx hx y hy=>h x (hx.resolve_left (by simp)) y (hy.resolve_left (by simp))
theorem Ig{x:α}:∀{l:List α},(wm lt x l).Perm (x::l)
 |[]=>List.Perm.refl _
 |y::l=>by
  rw[KE];split
  .exact List.Perm.refl _
  .exact((Ig (l:=l)).cons y).trans (List.Perm.swap x y l)
theorem Ie:∀{l acc:List α},(l.foldl (λacc x=>wm lt x acc) acc).Perm (acc++l)
 |[],acc=>by simp
 |x::l,acc=>by
  rw[jmI];refine(Ie (l:=l)).trans ?_;refine((Ig (x:=x) (l:=acc)).append_right l).trans ?_;exact(List.perm_middle (a:=x) (l₁:=acc) (l₂:=l)).symm
theorem DJ{l:List α}:(Kq lt l).Perm l:=by
 have:=Ie (lt:=lt) (l:=l) (acc:=[])
 rwa [jmt] at this
end
end
end Go.Proofs.YtjbahemkhphndaaGreat
