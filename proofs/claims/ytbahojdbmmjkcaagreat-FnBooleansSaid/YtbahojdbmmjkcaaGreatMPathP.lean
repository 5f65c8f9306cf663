import Derived.Test.YtbahojdbmmjkcaaGreatMWay
import Derived.Test.YtbahojdbmmjkcaaGreatMPix
import Derived.Test.YtbahojdbmmjkcaaGreatMHot
import Derived.Test.YtbahojdbmmjkcaaGreatMStabP
import Derived.Test.YtbahojdbmmjkcaaGreatMBounds
import Derived.Test.YtbahojdbmmjkcaaGreatMSnapped
set_option linter.unusedVariables false
set_option linter.unusedSimpArgs false
namespace Go.Proofs.YtbahojdbmmjkcaaGreat
open Go Go.RowKit
variable {a b:Pn} {l:List Pn}
def jc0 (x y:Wy) :Prop:=x.num*y.den<y.num*x.den∨(x.num*y.den=y.num*x.den∧x.cl=true∧y.cl=false)
def VR (x y:Wy) :Int:=if wR (x.num*y.den- y.num*x.den)≠0 then wR (x.num*y.den- y.num*x.den) else if(x.cl&& !y.cl) =true then-1 else if(!x.cl&&y.cl) =true then 1 else 0
theorem D2 {x y:Wy} :VR x y<0↔jc0 x y:=by
 unfold VR jc0
 have k:=vZ (x.num*y.den- y.num*x.den)
 split
 ·omega
 ·cases x.cl<;>cases y.cl<;>simp<;>omega
theorem ES:Weak (QJ VR) :=by
 have e:∀x y,QJ VR x y=true↔jc0 x y:=fun x y=>by rw [QJ,decide_eq_true_eq,D2]
 have e':∀x y,QJ VR x y=false↔¬jc0 x y:=fun x y=>by rw [←e x y,Bool.not_eq_true]
 refine⟨fun a b h=> ?_,fun a b c h1 h2=> ?_⟩
 ·rw [e'] ;rw [e] at h
  rintro(h2 |⟨h2,h3,h4⟩)
  ·rcases h with h |⟨h,_,_⟩ <;>omega
  ·rcases h with h |⟨h,h5,h6⟩
   ·omega
   ·rw [h5] at h4;cases h4
 ·rw [e'] at h1 h2⊢
  have b1:b.num*a.den≤a.num*b.den:=jkn.1 fun h=>h1 (.inl h)
  have b2:c.num*b.den≤b.num*c.den:=jkn.1 fun h=>h2 (.inl h)
  rintro(h |⟨h,h3,h4⟩)
  ·have:=vq b.pos c.pos a.pos b2 b1
   omega
  ·have g1:¬b.num*a.den<a.num*b.den:=fun h'=>by
    have:=KX b.pos c.pos a.pos b2 h'
    omega
   have g2:¬c.num*b.den<b.num*c.den:=fun h'=>by
    have:=wy b.pos c.pos a.pos h' b1
    omega
   cases hb:b.cl with
   | true=>exact h2 (.inr ⟨by omega,hb,h4⟩)
   | false=>exact h1 (.inr ⟨by omega,h3,hb⟩)
def J4 (a b p:Pn) :Sp:=J6 (J6 uu (QV (2*a.1) (2* (b.1- a.1)) (2*p.1- 1))) (QV (2*a.2) (2* (b.2- a.2)) (2*p.2- 1))
def Vm (a b p:Pn) :Bool:=XZ (2*a.1) (2* (b.1- a.1)) (2*p.1- 1) (2*a.2) (2* (b.2- a.2)) (2*p.2- 1)
theorem K4 (a b p:Pn) :0< (J4 a b p).ld∧0< (J4 a b p).hd:=K6 (K6 UL (Kf _ _ _)) (Kf _ _ _)
def DP (a b p:Pn) :Wy:=⟨p.1,p.2,(J4 a b p).ln,(J4 a b p).ld,(J4 a b p).lc,(K4 a b p).1⟩
def yv (a b p:Pn) :Bool:= !(decide (p.1<min a.1 b.1- 1) || decide (p.1>max a.1 b.1+1))
def zF (a b p:Pn) :Bool:= !(decide (p.2<min a.2 b.2- 1) || decide (p.2>max a.2 b.2+1))
def KN (a b p:Pn) :Bool:=yv a b p&&zF a b p&&Vm a b p
def vj (a b:Pn) (hot:List Pn) :List Wy:= (hot.filter (KN a b)).map (DP a b)
def qC (a b:Pn) (hot:List Pn) :List Pn:= (Kd (QJ VR) (vj a b hot)).map fun e=> (e.x,e.y)
theorem jaf (a b p:Pn) (hi:Vm a b p=true) :Uu uu (2*a.1) (2* (b.1- a.1)) (2*p.1- 1) =true∧wO (wO uu (2*a.1) (2* (b.1- a.1)) (2*p.1- 1)) (2*a.2) (2* (b.2- a.2)) (2*p.2- 1) =J4 a b p:=by
 have:=Si (2*a.1) (2* (b.1- a.1)) (2*p.1- 1) (2*a.2) (2* (b.2- a.2)) (2*p.2- 1)
 unfold Vm at hi
 rw [hi] at this
 have h2:= (jjl _ _▸this.symm:_∧_)
 refine⟨h2.1,?_⟩
 rw [Ok BH,Ok F1]
 rfl
theorem FB {p:Pn} (ha:bd2 a) (hb:bd2 b) (hp:bd2 p) :bdP (J4 a b p) :=by
 obtain ⟨⟨a1,a2⟩,a3,a4⟩ :=ha
 obtain ⟨⟨b1,b2⟩,b3,b4⟩ :=hb
 obtain ⟨⟨p1,p2⟩,p3,p4⟩ :=hp
 have hx:=Z4 (2*a.1) (2* (b.1- a.1)) (2*p.1- 1) Om Om Om Om Om Om
 have hy:=Z4 (2*a.2) (2* (b.2- a.2)) (2*p.2- 1) Om Om Om Om Om Om
 exact WN (Wz (WN (Wz BG hx) hx) hy) hy
theorem GZ (a b:Pn) (l m:List Pn) :vj a b (l++m) =vj a b l++vj a b m:=by simp [vj,jkN]
theorem Lm (h:∀p∈l,KN a b p=false) :vj a b l= [] :=by
 unfold vj
 rw [List.filter_eq_nil_iff.2 fun p hp=>by rw [h p hp];decide]
 rfl
theorem jex {p:Pn} (h:KN a b p=true) :vj a b [p] = [DP a b p] :=by simp [vj,h]
theorem GR {xs:List Pn} {k:Nat} (h:k<xs.length) :xs.take (k+1) =xs.take k++ [pt xs k] :=by
 rw [jjt h,Kg h]
theorem Ni (a b:Pn) (l:List Pn) : (vj a b l).length≤l.length:=by
 unfold vj
 rw [jjB]
 exact jkZ _ _
theorem jew {e:Wy} (h:e∈vj a b l) :∃p∈l,e=DP a b p:=by
 obtain ⟨p,hp,rfl⟩ :=jjx.1 h
 exact⟨p,(jkc.1 hp).1,rfl⟩
end Go.Proofs.YtbahojdbmmjkcaaGreat
namespace Go.Proofs.YtbahojdbmmjkcaaGreat
open Go Go.RowKit
variable {A:Option Addr} {a b p q:Pn} {e:Wy} {k n:Nat} {l:List Wy} {w:World} {x:Option Addr×Nat} {xs ys:List Pn} {α:Type}
set_option maxRecDepth 100000
set_option maxHeartbeats 4000000
def yxC (p q:Pn) :Int:=if p.2=q.2 then wR (p.1- q.1) else wR (p.2- q.2)
theorem Ey {n:Int} :wR n<0↔n<0:=by unfold wR;split<;> (try split) <;>omega
theorem Ex {n:Int} :wR n=0↔n=0:=by unfold wR;split<;> (try split) <;>omega
theorem ET :yxC p q<0↔vG p q:=by
 unfold yxC vG
 split
 ·rw [Ey];omega
 ·rw [Ey];omega
theorem yd :yxC p q=0↔p=q:=by
 obtain ⟨a,b⟩ :=p
 obtain ⟨c,d⟩ :=q
 simp only [yxC,Prod.mk.injEq]
 split
 ·rw [Ex];omega
 ·rw [Ex];omega
def uI:List Pn→List Pn→Int
 | [],[] =>0
 | [],_::_=> -1
 | _::_,[] =>1
 | p::a,q::b=>if yxC p q=0 then uI a b else yxC p q
def uJ (a b:List Pn) :Bool:=decide (uI a b<0)
theorem OY {a:List Pn} :uJ a [] =false:=by cases a<;>rfl
theorem IL {b:List Pn} :uJ [] (q::b) =true:=rfl
theorem US {a b:List Pn} :uJ (p::a) (q::b) =true↔vG p q∨(p=q∧uJ a b=true) :=by
 unfold uJ
 rw [decide_eq_true_eq,decide_eq_true_eq,uI]
 split
 ·rename_i h
  have:=yd.1 h
  subst this
  exact⟨fun h=> .inr ⟨rfl,h⟩,fun h=>h.elim (fun h=>absurd h (kD p)) (·.2)⟩
 ·rename_i h
  rw [ET]
  exact⟨.inl,fun h'=>h'.elim id fun h'=>absurd (yd.2 h'.1) h⟩
theorem Hv:∀a b:List Pn,uJ a b=true→uJ b a=false
 | _,[],h=>by rw [OY] at h;cases h
 | [],q::b,_=>OY
 | p::a,q::b,h=>by
  rw [Bool.eq_false_iff,_root_.Ne,US]
  intro h2
  rcases US.1 h with h1 |⟨rfl,h1⟩
  ·rcases h2 with h2 |⟨rfl,_⟩
   ·exact kD p (VL h1 h2)
   ·exact kD _ h1
  ·rcases h2 with h2 |⟨_,h2⟩
   ·exact kD _ h2
   ·rw [Hv a b h1] at h2;cases h2
theorem CP:∀a b c:List Pn,uJ a c=true→uJ a b=true∨uJ b c=true
 | _,_,[],h=>by rw [OY] at h;cases h
 | [],[],_::_,_=> .inr IL
 | _::_,[],_::_,_=> .inr IL
 | [],_::_,_::_,_=> .inl IL
 | p::a,q::b,r::c,h=>by
  rw [US,US]
  rcases ym p q with h1 | rfl | h1
  ·exact .inl (.inl h1)
  ·rcases US.1 h with h2 |⟨rfl,h2⟩
   ·exact .inr (.inl h2)
   ·rcases CP a b c h2 with h3 | h3
    ·exact .inl (.inr ⟨rfl,h3⟩)
    ·exact .inr (.inr ⟨rfl,h3⟩)
  ·rcases US.1 h with h2 |⟨rfl,h2⟩
   ·exact .inr (.inl (VL h1 h2))
   ·exact .inr (.inl h1)
theorem Fo:Weak uJ:=⟨Hv,fun a b c h1 h2=>by
 rw [Bool.eq_false_iff]
 intro h
 rcases CP a b c h with h3 | h3
 ·rw [h1] at h3;cases h3
 ·rw [h2] at h3;cases h3⟩
theorem Weak.by {β:Type} {lt:β→β→Bool} (W:Weak lt) (f:α→β) :Weak fun x y=>lt (f x) (f y) :=⟨fun a b h=>W.asym _ _ h,fun a b c h1 h2=>W.neg _ _ _ h1 h2⟩
theorem ZW (h:k<xs.length) :xs.drop k=pt xs k::xs.drop (k+1) :=by
 rw [jj5 h,yU h]
 rfl
theorem II (h1:k<xs.length) (h2:k<ys.length) (h:pt xs k=pt ys k) :uI (xs.drop k) (ys.drop k) =uI (xs.drop (k+1)) (ys.drop (k+1)) :=by
 rw [ZW h1,ZW h2,uI,if_pos (yd.2 h)]
theorem IJ (h1:k<xs.length) (h2:k<ys.length) (h:pt xs k≠pt ys k) :uI (xs.drop k) (ys.drop k) =yxC (pt xs k) (pt ys k) :=by
 rw [ZW h1,ZW h2,uI,if_neg (fun h'=>h (yd.1 h'))]
theorem X9 (h1:k=xs.length) (h2:k≤ys.length) :uI (xs.drop k) (ys.drop k) =if k<ys.length then-1 else 0:=by
 rw [jkg Om]
 split
 ·rename_i h;rw [ZW h];rfl
 ·rw [jkg Om];rfl
theorem Ti (h1:k<xs.length) (h2:ys.length≤k) :uI (xs.drop k) (ys.drop k) =1:=by
 rw [ZW h1,jkg h2];rfl
def yq (xs:List Pn) (k:Nat) :List Pn:=xs.drop k++xs.take k
def Vf (xs:List Pn) :Nat→Nat
 | 0=>0
 | k+1=>if uJ (yq xs k) (yq xs (Vf xs k)) =true then k else Vf xs k
def ui (xs:List Pn) :List Pn:=yq xs (Vf xs xs.length)
theorem Wn : (yq xs k).length=xs.length:=by simp [yq];omega
theorem El :p∈yq xs k↔p∈xs:=by
 unfold yq
 rw [jjz,or_comm,←jjz,jjA]
theorem jdV (xs:List Pn) :yq xs 0=xs:=by simp [yq]
theorem wK : (ui xs).length=xs.length:=Wn
theorem jbn :p∈ui xs↔p∈xs:=El
theorem jaw (a:List Pn) :uJ a a=false:=by
 cases h:uJ a a
 ·rfl
 ·rw [Hv a a h] at h;cases h
theorem Lg (xs:List Pn) :Vf xs 1=0:=by simp [Vf,jaw]
theorem GU (xs:List Pn) :∀k,0<k→Vf xs k<k
 | 0,h=>absurd h Om
 | 1,_=>by rw [Lg];omega
 | k+2,_=>by
  rw [Vf]
  split
  ·omega
  ·have:=GU xs (k+1) Om;omega
theorem I2 {j:Nat} (hk:k<xs.length) (hj:j<xs.length) :pt (yq xs k) j=pt xs ((k+j) % xs.length) :=by
 have e: (yq xs k)[j]? =xs[(k+j) % xs.length]? :=by
  unfold yq
  by_cases h:j<xs.length- k
  ·rw [List.getElem?_append_left (by simpa using h),List.getElem?_drop,jkA Om]
  ·rw [List.getElem?_append_right (by simpa using h),jjO,List.getElem?_take,if_pos Om]
   congr 1
   rw [Nat.mod_eq_sub_mod Om,jkA Om]
   omega
 simp only [pt,px,py,List.getD_eq_getElem?_getD,e]
theorem jav (h1:0<xs.length) (h2:0<ys.length) (h:0<yxC (pt xs 0) (pt ys 0)) :uJ xs ys=false:=by
 have:=IJ (k:=0) h1 h2 (fun e=>by rw [yd.2 e] at h;omega)
 rw [List.drop_zero,List.drop_zero] at this
 unfold uJ
 rw [this,decide_eq_false_iff_not]
 omega
theorem jfX (hk:k<xs.length) :pt (yq xs k) 0=pt xs k:=by rw [I2 hk Om,jk7,jkA hk]
theorem FX (h:uJ (yq xs k) (yq xs (Vf xs k)) =true) :Vf xs (k+1) =k:=by rw [Vf,if_pos h]
theorem BS (h:uJ (yq xs k) (yq xs (Vf xs k)) =false) :Vf xs (k+1) =Vf xs k:=by rw [Vf,if_neg (by rw [h];decide)]
theorem DF {j:Nat} (hk:k<xs.length) (hj:j<xs.length) : ((yq xs k).take j).flatMap Jr++Jr (pt xs ((k+j) % xs.length)) = ((yq xs k).take (j+1)).flatMap Jr:=by
 rw [jjt (by rw [Wn];exact hj),jjv,yU (by rw [Wn];exact hj)]
 have:=I2 hk hj
 unfold pt at this
 rw [this]
 simp [pt]
theorem CF {lt:α→α→Bool} (W:Weak lt) {l:List α} (hs:UU lt l) {x:α} (hk:k≤l.length) (hi:∀q∈l.drop k,lt x q=true) (hlo:k=0∨∃p,l[k- 1]? =some p∧lt x p=false) :wd lt x l=l.take k++x::l.drop k:=by
 have:=OG (lt:=lt) x (l.take k) (l.drop k) (fun p hp=> ?_) (fun q hq=>hi q (List.mem_of_mem_head? hq))
 ·rwa [jjA] at this
 ·rcases hlo with rfl |⟨r,hr,hx⟩
  ·simp at hp
  ·obtain ⟨i,hi',e⟩ :=jj0 hp
   rw [jjC] at hi'
   rw [List.getElem_take] at e
   obtain ⟨hr1,rfl⟩ :=List.getElem?_eq_some_iff.1 hr
   subst e
   rcases jkq (show i≤k- 1 by omega) with h1 | rfl
   ·exact W.neg _ _ _ hx (jkt.1 hs i (k- 1) Om hr1 h1)
   ·exact hx
theorem Ls (p q:Pn) (w:World) (hp:xe p) (hq:xe q) :Calls Tryz.prog 112 #[pV p,pV q] w fun e w'=>e= .returned (.int .i64 (yxC p q))∧Over w w':=by
 obtain ⟨⟨p1,p2⟩,p3,p4⟩ :=hp
 obtain ⟨⟨q1,q2⟩,q3,q4⟩ :=hq
 refine j6 (m:=22) (Tryz.func112) J J (lb J) ?_;refine S3 ?_;refine aX (fun b1=> ?_);refine N1 ?_;refine aX (fun b2=> ?_);refine N11 ?_;refine cZ (fun c1=> ?_) (fun c1=> ?_)
 ·refine S7 ?_;refine a9 (jM Q4 J J (fun w h=>Calls.still (KC _ w))) ?_;refine S4 ?_;refine jK J (.tmp J) ?_
  intro w' hs
  exact⟨by rw [yxC,if_neg c1],hs.fin⟩
 ·refine S9 ?_;refine a9 (jM Q4 J J (fun w h=>Calls.still (KC _ w))) ?_;refine S3 ?_;refine jK J (.tmp J) ?_
  intro w' hs
  exact⟨by rw [yxC,if_pos Om],hs.fin⟩
theorem Pts.dropT {b o c:Nat} (h:Pts w (some ⟨b,o,none⟩) n xs) (hk:k≤n) (hc:n≤c) :Pts w (some ⟨b,zJ o k c 2,none⟩) (n- k) (xs.drop k) :=by
 have hl:=h.1
 refine⟨by rw [jjO,hl],fun h0=> ?_⟩
 obtain ⟨b',o',e,hlt,hx⟩ :=h.2 Om
 injection e with e
 injection e with e1 e2
 subst e1 e2
 refine⟨_,_,J,hlt,fun j hj=> ?_⟩
 have hd:∀j,px (xs.drop k) j=px xs (k+j)∧py (xs.drop k) j=py xs (k+j) :=fun j=>by
  simp only [px,py,List.getD_eq_getElem?_getD,List.getElem?_drop]
  exact⟨trivial,trivial⟩
 rw [zJ,if_neg Om,(hd j).1,(hd j).2,show o+k*2+j*2=o+ (k+j) *2 by omega]
 exact hx (k+j) Om
theorem Pts.takeT (h:Pts w A n xs) (hk:k≤n) :Pts w A k (xs.take k) :=by
 have hl:=h.1
 refine⟨by rw [jjC];omega,fun h0=> ?_⟩
 obtain ⟨b,o,e,hlt,hx⟩ :=h.2 Om
 refine⟨b,o,e,hlt,fun j hj=> ?_⟩
 have hd:px (xs.take k) j=px xs j∧py (xs.take k) j=py xs j:=by
  simp only [px,py,List.getD_eq_getElem?_getD,List.getElem?_take,if_pos hj]
  exact⟨trivial,trivial⟩
 rw [hd.1,hd.2]
 exact hx j Om
theorem DH (x y:Wy) (w:World) (hx:bd1 x.num x.den) (hy:bd1 y.num y.den) :Calls Tryz.prog 174 #[x.val,y.val] w fun e w'=>e= .returned (.int .i64 (VR x y))∧Over w w':=by
 refine j6 (m:=34) (Tryz.func174) J J (lb J) ?_;refine S3 ?_;refine aX (fun b1=> ?_);refine N1 ?_;refine aX (fun b2=> ?_);refine N9 ?_;refine a9 (jM vr J J (fun w1 hs=>ww _ _ _ _ _ _ w1 hx hy)) ?_;refine S7 ?_;refine cZ (fun c1=> ?_) (fun c1=> ?_)
 ·refine S7 ?_;refine jK J (.tmp J) ?_
  intro w' hs
  exact⟨by rw [VR,if_pos c1],hs.fin⟩
 ·refine S10 ?_;refine cV 18 (fun g1=> ?_) (fun g1=> ?_)
  ·refine S11 ?_;refine cZ (fun c2=> ?_) (fun c2=> ?_)
   ·refine S7 ?_;refine jK J (.tmp J) ?_
    intro w' hs
    exact⟨by unfold VR;rw [if_neg (fun h=>h c1)];simp_all,hs.fin⟩
   ·refine S7 ?_;refine cV 29 (fun g2=> ?_) (fun g2=> ?_)
    ·refine S9 ?_;refine cZ (fun c3=> ?_) (fun c3=> ?_)
     ·refine S7 ?_;refine jK J (.tmp J) ?_
      intro w' hs
      exact⟨by unfold VR;rw [if_neg (fun h=>h c1)];simp_all,hs.fin⟩
     ·refine S8 ?_;refine jK J (.tmp J) ?_
      intro w' hs
      exact⟨by unfold VR;rw [if_neg (fun h=>h c1)];simp_all,hs.fin⟩
    ·refine S15 ?_;refine jK J (.tmp J) ?_
     intro w' hs
     exact⟨by unfold VR;rw [if_neg (fun h=>h c1)];simp_all,hs.fin⟩
  ·refine S15 ?_;refine cV 29 (fun g3=> ?_) (fun g3=> ?_)
   ·refine S9 ?_;refine cZ (fun c4=> ?_) (fun c4=> ?_)
    ·refine S7 ?_;refine jK J (.tmp J) ?_
     intro w' hs
     exact⟨by unfold VR;rw [if_neg (fun h=>h c1)];simp_all,hs.fin⟩
    ·refine S8 ?_;refine jK J (.tmp J) ?_
     intro w' hs
     exact⟨by unfold VR;rw [if_neg (fun h=>h c1)];simp_all,hs.fin⟩
   ·refine S15 ?_;refine jK J (.tmp J) ?_
    intro w' hs
    exact⟨by unfold VR;rw [if_neg (fun h=>h c1)];simp_all,hs.fin⟩
theorem PK {B:Nat} (hrow: (J3 B 210 5 n (l.flatMap Wy.cells) x).P w) (hl:l.length=n) (hb:∀e∈l,bd1 e.num e.den) (hn:n≤1099511627776) :
  Calls Tryz.prog 173 #[.slice x.1 n x.2, .func (.func 174) #[] #[]] w fun e w'=>e= .returned (.tuple #[])∧Wrs (J3 B 210 5 n (l.flatMap Wy.cells) x).F w w'∧(J3 0 210 5 n ((Kd (QJ VR) l).flatMap Wy.cells) x).P w':=by
 have hrow':w.ownsRow B 210 5 (.slice x.1 n x.2) n (l.flatMap Wy.cells) :=hrow
 rcases hrow'.2 with⟨e,e2⟩ |⟨g,cap,cur,e,hbg,hg,hcap,hmax,hsz,htk⟩
 ·subst e2
  obtain rfl:l= [] :=jjW hl
  refine(PM x.1 x.2 _ w).mono ?_
  rintro e' w' ⟨rfl,hO⟩
  refine⟨J,Wrs.of hO,?_⟩
  show w'.ownsRow 0 210 5 (.slice x.1 0 x.2) 0 _
  rw [e]
  exact World.ownsRow_nil _ _ _ _
 ·injection e with e1 e3 e4
  have hF:∀b,b=g→(J3 B 210 5 n (l.flatMap Wy.cells) x).F b:=by
   rintro b rfl
   show Value.ownBlock (.slice x.1 n x.2) =some _
   rw [e1]
   rfl
  have hcl:cur.toList.length=cap*5:=by simp [hsz]
  have hcur:cur= (un (l++ []) (cur.toList.drop (n*5))).toArray:=by
   rw [jjL,un,←htk,jjA,jkB]
  have hC:CmpW w g (·∈l) VR:=⟨fun u hu v hv w' ho=>DH u v w' (hb u hu) (hb v hv),ES⟩
  have:=jgh g 210 (cur.toList.drop (n*5)) l [] n x.2 _ _ w hC (by rw [←hcur];exact hg) hl hn (fun u hu=>hu)
  rw [e1]
  refine this.mono ?_
  rintro e' w' ⟨rfl,hw,hh⟩
  refine⟨J,⟨hw.os,hw.tape,hw.output,hw.size,fun c hc hnc=>hw.block c hc (fun ec=>hnc (hF c ec))⟩,?_⟩
  rw [jjL] at hh
  have hml: ((Kd (QJ VR) l).flatMap Wy.cells).length=n*5:=by rw [G4,Qw,hl]
  refine⟨hml, .inr ⟨g,x.2,_,by rw [e1],jjo _,hh,by rw [e4];exact hcap,by rw [e4];exact hmax,?_,?_⟩⟩
  ·rw [jkl,un,jjk,hml,jjO,hcl,e4]
   omega
  ·rw [jkr,un,List.take_append_of_le_length Om,jjR Om]
theorem xB (p:Pn) (t:Int) (w:World) (hp:xe p) (ht: -1152921504606846976≤t∧t≤1152921504606846976) :Calls Tryz.prog 171 #[pV p, .int .i64 t] w fun e w'=>e= .returned (.int .i64 (wR (p.2- t)))∧Over w w':=by
 obtain ⟨⟨p1,p2⟩,p3,p4⟩ :=hp
 refine j6 (m:=10) (Tryz.func171) J J (lb J) ?_;refine S3 ?_;refine aX (fun b1=> ?_);refine N8 ?_;refine a9 (jM Q4 J J (fun w h=>Calls.still (KC _ w))) ?_;refine S3 ?_;refine jK J (.tmp J) ?_
 intro w' hs
 exact⟨rfl,hs.fin⟩
def Xw (xs:List Pn) (t:Int) :Nat:= (xs.takeWhile fun p=>decide (p.2<t)).length
theorem jbX:∀ {xs:List Pn} {t:Int} {i:Nat},i≤xs.length→(∀k,k<i→py xs k<t)→(i<xs.length→t≤py xs i)→Xw xs t=i
 | [],_,i,h,_,_=>by simp at h;subst h;rfl
 | p::xs,t,0,_,_,h3=>by
  have:=h3 (by simp)
  have e:py (p::xs) 0=p.2:=rfl
  unfold Xw
  rw [List.takeWhile_cons_of_neg (by simp;omega)]
  rfl
 | p::xs,t,i+1,h1,h2,h3=>by
  have e:py (p::xs) 0=p.2:=rfl
  have h0:=h2 0 Om
  have ek:∀k,py (p::xs) (k+1) =py xs k:=fun k=>by simp [py]
  unfold Xw
  rw [List.takeWhile_cons_of_pos (by simp;omega),jjr]
  have:=jbX (xs:=xs) (t:=t) (i:=i) (by simpa using h1) (fun k hk=>by have:=h2 (k+1) Om;rwa [ek] at this) (fun hi=>by have:=h3 (by simpa using hi);rwa [ek] at this)
  unfold Xw at this
  omega
def pt2 (xs:List Pn) (k:Nat) :Int:=py xs k
def M3 (xs:List Pn) :Prop:=∀k j,k≤j→j<xs.length→py xs k≤py xs j
theorem jbH (h:Asc xs) :M3 xs:=fun k j hkj hj=>by
 rcases jkq hkj with h1 | rfl
 ·have:=jkt.1 h k j Om hj h1
  rw [Kg,Kg] at this
  unfold vG pt at this
  simp only at this
  omega
 ·exact jlg _
theorem G5 (A:Option Addr) (n c:Nat) (xs:List Pn) (t:Int) (w:World) (h:Pts w A n xs) (hx:∀p∈xs,xe p) (ht: -1152921504606846976≤t∧t≤1152921504606846976) (hm:M3 xs) (hn:n≤1099511627776) :
  Calls Tryz.prog 170 #[.slice A n c, .int .i64 t, .func (.func 171) #[] #[]] w fun e w'=>e= .returned (.tuple #[.int .i64 ((Xw xs t:Nat) :Int), .bool (decide (Xw xs t<n) &&decide (wR (py xs (Xw xs t) - t) =0))])∧Over w w':=by
 have hl:=h.1
 have hbd:∀k,k<n→xe (pt xs k) :=fun k hk=>hx _ (by rw [←Kg Om];exact jju _)
 refine j6 (m:=49) (Tryz.func170) J J (lb J) ?_;refine S19 ?_;refine qv (X:=Nat×Nat) (fun q=>q.1≤q.2∧q.2≤n∧(∀k,k<q.1→py xs k<t)∧(∀k,q.2≤k→k<n→t≤py xs k)) (fun q=>q.2- q.1) (fun q=> [(9, .int .i64 (q.1:Int)),(10, .int .i64 (q.2:Int))]) (kK [0,1,2,6,7,8]) (0,n) (⟨jjo _,jjm _,fun k hk=>absurd hk (by simp),fun k h1 h2=>absurd (jjy h2 h1) (Nat.lt_irrefl _)⟩) ⟨J,sz⟩ ?_
 intro⟨i,j⟩ hq L hL1
 refine v9 ?_
 obtain ⟨q1,q2,q3,q4⟩ :i≤j∧j≤n∧(∀k,k<i→py xs k<t)∧(∀k,j≤k→k<n→t≤py xs k) :=hq
 refine S7 ?_;refine cZ (fun c1=> ?_) (fun c1=> ?_)
 ·have hij:i<j:=Om
  obtain ⟨eb,eo,rfl,_⟩ :=h.2 Om
  refine S8 ?_;refine a9 (QK J Tryz.underlying3 Tryz.underlying184 J (Ut _ Om Om)) ?_;refine a9 (uc (q:=1) J J J Dc Dc) ?_;refine a9 ((QK J Tryz.underlying184 Tryz.underlying3 J (Wp _ (by simp;omega) (by simp;omega))).as (congrArg _ (show(((i:Int) + (j:Int)) /2^ (Int.toNat 1)) = (((i+j) /2:Nat) :Int) by simp))) ?_;refine S7 ?_;refine a9 (jV (j:= (i+j) /2) J J J jD Om) ?_;refine a9 (jl J J jk J (wQ (b:=eb) (o:=eo) h Om)) ?_;refine S1 ?_;refine a9 (VH U5 J J J (fun w1 hs=>xB (pt xs ((i+j) /2)) t w1 (hbd _ Om) ht)) ?_;refine S2 ?_;refine cZ (fun c2=> ?_) (fun c2=> ?_)
  ·have hlow:py xs ((i+j) /2) <t:= (by have:=Ez.1 c2;simp only [pt] at this;omega)
   refine S7 ?_
   exact qf hL1 (((i+j) /2+1,j)) (⟨show(i+j) /2+1≤j by omega,q2,fun k hk=>by have:=hm k ((i+j) /2) (by simp only at hk;omega) Om;omega,q4⟩) (by simp only;omega) ⟨vi Om,sz⟩ (u9 J)
  ·have hlow:t≤py xs ((i+j) /2) :=jkn.1 fun hh=>by have:=Ez.2 (show pt2 xs ((i+j) /2) - t<0 by unfold pt2;omega);unfold pt2 at this;simp only [pt] at c2;omega
   refine S6 ?_
   exact qf hL1 ((i,(i+j) /2)) (⟨show i≤(i+j) /2 by omega,show(i+j) /2≤n by omega,q3,fun k h1 h2=>by have:=hm ((i+j) /2) k h1 Om;omega⟩) (by simp only;omega) ⟨J,sz⟩ (u9 J)
 ·have hij:i=j:=Om
  subst hij
  have hbs:Xw xs t=i:=jbX Om q3 (fun hi=>q4 i (jjm _) Om)
  refine S12 ?_;refine cV 39 (fun g1=> ?_) (fun g1=> ?_)
  ·have hin:i<n:=Om
   obtain ⟨eb,eo,rfl,_⟩ :=h.2 Om
   refine S7 ?_;refine o9 (jV (j:=i) J J J jD Om) ?_;refine h9 ?_;refine o9 (jl J J jk J (wQ (b:=eb) (o:=eo) h hin)) ?_;refine S3 ?_;refine o9 (VH U5 J J J (fun w1 hs=>xB (pt xs i) t w1 (hbd _ hin) ht)) ?_;refine S7 ?_;refine qh J (.tmp J) (.tmp J) ?_
   intro w' hs
   exact⟨by rw [hbs,show decide (i<n) =true from decide_eq_true hin,jjG];rfl,hs.fin⟩
  ·refine S13 ?_;refine qh J (.tmp J) (.tmp J) ?_
   intro w' hs
   exact⟨by rw [hbs,show decide (i<n) =false from decide_eq_false Om,jjU],hs.fin⟩
theorem jeT (b3:Nat) (a b:Pn) (w:World) (h:Pts w (some ⟨b3,0,none⟩) 2 [a,b]) :Calls Tryz.prog 169 #[.slice (some ⟨b3,0,none⟩) 2 2] w fun e w'=>e= .returned (.tuple #[Uh (min a.1 b.1) (min a.2 b.2),Uh (max a.1 b.1) (max a.2 b.2)])∧Over w w':=by
 have:=Ia _ 2 2 [a,b] w h Dc Dc Dc
 exact this
def wkS (a b p:Pn) :Sp:=if Uu uu (2*a.1) (2* (b.1- a.1)) (2*p.1- 1) =true then wO (wO uu (2*a.1) (2* (b.1- a.1)) (2*p.1- 1)) (2*a.2) (2* (b.2- a.2)) (2*p.2- 1) else wO uu (2*a.1) (2* (b.1- a.1)) (2*p.1- 1)
theorem jh7 (h:Vm a b p=true) :wkS a b p=J4 a b p:=by
 obtain ⟨h1,h2⟩ :=jaf a b p h
 rw [wkS,if_pos h1,h2]
theorem Nh (a b p:Pn) (w:World) (ha:wW a.1 a.2=true) (hb:wW b.1 b.2=true) (hp:wW p.1 p.2=true) :
  Calls Tryz.prog 172 #[pV a,pV b,pV p] w fun e w'=>e= .returned (.tuple #[jgS (wkS a b p), .bool (Vm a b p)])∧Over w w':=by
 have:=DK a.1 a.2 b.1 b.2 p.1 p.2 w ha hb hp
 rw [←Si] at this
 exact this
theorem Sa (h:p.1<min a.1 b.1- 1) :yv a b p=false:=by unfold yv;rw [decide_eq_true h];rfl
theorem jaa (h:min a.1 b.1- 1≤p.1) :decide (p.1>max a.1 b.1+1) = !yv a b p:=by unfold yv;rw [decide_eq_false (jkn.2 h),Bool.false_or,Bool.not_not]
theorem zU (h1:min a.2 b.2- 1≤p.2) (h2:p.2≤max a.2 b.2+1) :zF a b p=true:=by unfold zF;rw [decide_eq_false (jkn.2 h1),decide_eq_false (jkn.2 h2)];rfl
theorem Ty (h:yv a b p=false) :KN a b p=false:=by simp [KN,h]
theorem Tz (h:zF a b p=false) :KN a b p=false:=by simp [KN,h]
theorem Gx (h:Vm a b p=false) :KN a b p=false:=by simp [KN,h]
theorem Yl (h1:yv a b p=true) (h2:zF a b p=true) (h3:Vm a b p=true) :KN a b p=true:=by simp [KN,h1,h2,h3]
theorem Rw (hk:k<ys.length) (h:KN a b (pt ys k) =false) :vj a b (ys.take (k+1)) =vj a b (ys.take k) :=by
 rw [GR hk,GZ,Lm (l:= [pt ys k]) (fun p hp=>by rw [jjp.1 hp];exact h),jjL]
theorem EQ (hk:k<ys.length) (h:KN a b (pt ys k) =true) :vj a b (ys.take (k+1)) =vj a b (ys.take k) ++ [DP a b (pt ys k)] :=by
 rw [GR hk,GZ,jex h]
theorem jhv (h:p∈xs) :∃k,k<xs.length∧pt xs k=p:=by
 obtain ⟨k,hk,e⟩ :=jj0 h
 exact⟨k,hk,by rw [←e,Kg hk]⟩
theorem MQ (xs:List Pn) (i k:Nat) :pt (xs.drop i) k=pt xs (i+k) :=by
 simp only [pt,px,py,List.getD_eq_getElem?_getD,List.getElem?_drop]
theorem Ib:∀(xs:List Pn) (t:Int),Xw xs t≤xs.length∧(∀p∈xs.take (Xw xs t),p.2<t)∧(Xw xs t<xs.length→t≤py xs (Xw xs t))
 | [],t=>⟨jjm _,fun p hp=>by simp at hp,fun h=>absurd h (by simp [Xw])⟩
 | p::xs,t=>by
  obtain ⟨h1,h2,h3⟩ :=Ib xs t
  by_cases hp:p.2<t
  ·have e:Xw (p::xs) t=Xw xs t+1:=by
    unfold Xw
    rw [List.takeWhile_cons_of_pos (by simpa using hp),jjr]
   rw [e]
   refine⟨by simpa using h1,fun q hq=> ?_,fun h=> ?_⟩
   ·rw [List.take_succ_cons] at hq
    rcases jjw.1 hq with rfl | hq
    ·exact hp
    ·exact h2 q hq
   ·have:=h3 (by simpa using h)
    have ek:py (p::xs) (Xw xs t+1) =py xs (Xw xs t) :=by simp [py]
    rw [ek]
    exact this
  ·have e:Xw (p::xs) t=0:=by
    unfold Xw
    rw [List.takeWhile_cons_of_neg (by simpa using hp)]
    rfl
   rw [e]
   exact⟨jjo _,fun q hq=>by simp at hq,fun _=>by have:py (p::xs) 0=p.2:=rfl;omega⟩
theorem jgw :vj a b (xs.drop (Xw xs (min a.2 b.2- 1))) =vj a b xs:=by
 obtain ⟨h1,h2,h3⟩ :=Ib xs (min a.2 b.2- 1)
 conv=>rhs;rw [←jjA (Xw xs (min a.2 b.2- 1)) xs]
 rw [GZ,Lm (l:=xs.take _) (fun p hp=>Tz (by have:=h2 p hp;simp [zF,this])),jj2]
theorem jey (hm:M3 ys) (hk:k<ys.length) (h:py ys k>max a.2 b.2+1) :vj a b (ys.take k) =vj a b ys:=by
 conv=>rhs;rw [←jjA k ys]
 rw [GZ,Lm (l:=ys.drop k) (fun p hp=>Tz ?_),jjL]
 obtain ⟨j,hj,rfl⟩ :=jhv hp
 rw [jjO] at hj
 rw [MQ]
 have:=hm k (k+j) Om Om
 have e: (pt ys (k+j)).2=py ys (k+j) :=rfl
 simp [zF,e]
 omega
theorem jaC (h:M3 xs) (i:Nat) :M3 (xs.drop i) :=fun k j hkj hj=>by
 rw [jjO] at hj
 have e:∀k,py (xs.drop i) k=py xs (i+k) :=fun k=>by have:=MQ xs i k;simp only [pt] at this;injection this
 rw [e,e]
 exact h _ _ Om Om
theorem jhp (hm:M3 xs) (hk:k< (xs.drop (Xw xs (min a.2 b.2- 1))).length) :min a.2 b.2- 1≤py (xs.drop (Xw xs (min a.2 b.2- 1))) k:=by
 obtain ⟨h1,h2,h3⟩ :=Ib xs (min a.2 b.2- 1)
 rw [jjO] at hk
 have e:py (xs.drop (Xw xs (min a.2 b.2- 1))) k=py xs (Xw xs (min a.2 b.2- 1) +k) :=by have:=MQ xs (Xw xs (min a.2 b.2- 1)) k;simp only [pt] at this;injection this
 rw [e]
 have:=hm (Xw xs (min a.2 b.2- 1)) (Xw xs (min a.2 b.2- 1) +k) Om Om
 have:=h3 Om
 omega
theorem PH {c i:Nat} (hi:i≤n) (hc:n≤c) :∃A',sliced A i n c 2= .slice A' (n- i) (c- i)∧∀ {w:World} {xs:List Pn},Pts w A n xs→Pts w A' (n- i) (xs.drop i) :=by
 by_cases h0:i<n
 ·cases A with
  | none=>exact⟨none,by simp [sliced],fun h=>absurd (h.2 Om) (by rintro⟨b,o,e,_⟩;cases e)⟩
  | some p=>
   by_cases hp:p.spot=none
   ·obtain ⟨b,o,v⟩ :=p
    cases hp
    exact⟨_,UK hc hi,fun h=>h.dropT hi hc⟩
   ·refine⟨_,J,fun {w xs} h=> ?_⟩
    obtain ⟨b,o,e,_⟩ :=h.2 Om
    injection e with e
    subst e
    exact absurd rfl hp
 ·obtain rfl:i=n:=by omega
  refine⟨_,J,fun {w xs} h=>⟨by rw [jjO,h.1],fun h=>absurd h Om⟩⟩
theorem jf3 {w0:Bs} {Rs:List Res} {B T m g c j:Nat} (hk:Rs[k]? =some (J3 B T 5 m (l.flatMap Wy.cells) (some ⟨g,0,none⟩,c))) (he:l[j]? =some e) :∀w',St w0 Rs w'→∀q v,e.cells[q]? =some v→w'.cell? ⟨g,0+j*5+q,none⟩ =some v:=fun w' hs q v hv=>by
 have h:w'.ownsRow B T 5 (.slice (some ⟨g,0,none⟩) m c) m (l.flatMap Wy.cells) := (hs.all k _ hk).1
 have:=jeD (tl:= []) he hv
 rw [un,jjL] at this
 have:=h.cells rfl _ v this
 rw [Q1] at this
 rw [jjP] at this⊢
 exact this
theorem jaN {L:List Wy} (h:L[k]? =some e) : ((L.map fun e=> (e.x,e.y)).take k).flatMap Jr++ [.int .i64 e.x, .int .i64 e.y] = ((L.map fun e=> (e.x,e.y)).take (k+1)).flatMap Jr:=by
 obtain ⟨hk,rfl⟩ :=List.getElem?_eq_some_iff.1 h
 rw [jjt (by simpa using hk),jjv]
 simp [Jr]
theorem Rg (a b:Pn) (A:Option Addr) (n c:Nat) (hot:List Pn) (w:World) (h:Pts w A n hot) (ha:wW a.1 a.2=true) (hb:wW b.1 b.2=true) (hh:∀p∈hot,wW p.1 p.2=true) (hasc:Asc hot) (hc:n≤c) (hn:n≤1048576) :
  Calls Tryz.prog 114 #[pV a,pV b, .slice A n c] w fun e w'=>∃v,e= .returned v∧w'.ownsRow w.heap.size 28 2 v (qC a b hot).length ((qC a b hot).flatMap Jr)∧Over w w':=by
 have hl:=h.1
 have hmono:=jbH hasc
 obtain ⟨hi1,hi2,hi3⟩ :=Ib hot (min a.2 b.2- 1)
 have ha2:bd2 a:=UH ha
 have hb2:bd2 b:=UH hb
 have hp2:∀p∈hot,bd2 p:=fun p hp=>UH (hh p hp)
 obtain ⟨⟨a1,a2⟩,a3,a4⟩ :=id ha2
 obtain ⟨⟨b1',b2'⟩,b3',b4'⟩ :=id hb2
 obtain ⟨i,hi⟩ :∃i,i=Xw hot (min a.2 b.2- 1) :=⟨_,rfl⟩
 obtain ⟨A',eA,hA'⟩ :=PH (A:=A) (n:=n) (c:=c) (i:=i) Om hc
 obtain ⟨ys,hys⟩ :∃ys,ys=hot.drop i:=⟨_,rfl⟩
 have hyl:ys.length=n- i:=by rw [hys,jjO,hl]
 have hyp:Pts w A' (n- i) ys:=hys▸hA' h
 have hym:M3 ys:=hys▸jaC hmono i
 have hylow:∀k,k<ys.length→min a.2 b.2- 1≤py ys k:=fun k hk=>by subst hys hi;exact jhp hmono hk
 have hway:vj a b ys=vj a b hot:=by subst hys hi;exact jgw
 have hymem:∀k,k<ys.length→pt ys k∈hot:=fun k hk=>by rw [hys] at hk⊢;rw [MQ,←Kg (by rw [jjO] at hk;omega)];exact jju _
 have hwl:=Ni a b hot
 have hwl2:∀k,(vj a b (ys.take k)).length≤1048576:=fun k=>by have:=Ni a b (ys.take k);rw [jjC] at this;omega
 have hwb:∀e∈vj a b hot,bd1 e.num e.den:=fun e he=>by
  obtain ⟨p,hp,rfl⟩ :=jew he
  exact(FB ha2 hb2 (hp2 p hp)).low
 have hpl: (qC a b hot).length= (vj a b hot).length:=by rw [qC,jjB,Qw]
 have hsl: (Kd (QJ VR) (vj a b hot)).length= (vj a b hot).length:=Qw _
 refine j6 (m:=93) (Tryz.func114) J J (lb J) ?_;refine S3 ?_;refine aX (fun b1=> ?_);refine N1 ?_;refine aX (fun b2=> ?_);refine N7 ?_;refine Jy J J (V0 J J) J (lb J) (fun b3=> ?_);refine n9 ?_;refine a9 (jM HA J J (fun w1 hs=>jeT _ a b w1 (jdE (k:=2) _ J J w1 hs))) ?_;refine S4 ?_;refine aL (fun b4=> ?_);refine N1 ?_;refine aL (fun b5=> ?_);refine N11 ?_;refine a9 (jM KS J J (fun w1 hs=>G5 A n c hot (min a.2 b.2- 1) w1 (h.over hs.fin) (fun p hp=> (hp2 p hp).wide) Om hmono Om)) ?_;refine S9 ?_;refine kt (T:=210) (s:=5) ?_;refine N1 ?_;refine UC (X:=Option Addr×Nat) (fun x=>True) (fun x=> [(11, .slice x.1 (vj a b hot).length x.2)]) (kK [6]) (fun x=> [.cel b1 28 [.int .i64 a.1, .int .i64 a.2], .cel b2 28 [.int .i64 b.1, .int .i64 b.2], .cel b3 28 [.int .i64 a.1, .int .i64 a.2, .int .i64 b.1, .int .i64 b.2], .cel b4 28 [.int .i64 (min a.1 b.1), .int .i64 (min a.2 b.2)], .cel b5 28 [.int .i64 (max a.1 b.1), .int .i64 (max a.2 b.2)],J3 (Bs.N ⟨w,[]⟩) 210 5 (vj a b hot).length ((vj a b hot).flatMap Wy.cells) x]) (fun L h_0=> ?_) ?_
 ·refine S1 ?_
  rw [←hi]
  refine S3 ?_;refine a9 ((VM J J J jD Om).as (eA)) ?_;refine S4 ?_;refine JX (X:=Nat×Option Addr×Nat) (fun x=>x.1≤n- i) (fun x=>n- i- x.1) (fun x=> [(11, .slice x.2.1 (vj a b (ys.take x.1)).length x.2.2),(38, .int .i64 (x.1:Int))]) (kK [3,4,6,7,8,36,37]) (fun x=> [.cel b1 28 [.int .i64 a.1, .int .i64 a.2], .cel b2 28 [.int .i64 b.1, .int .i64 b.2], .cel b3 28 [.int .i64 a.1, .int .i64 a.2, .int .i64 b.1, .int .i64 b.2], .cel b4 28 [.int .i64 (min a.1 b.1), .int .i64 (min a.2 b.2)], .cel b5 28 [.int .i64 (max a.1 b.1), .int .i64 (max a.2 b.2)],J3 (Bs.N ⟨w,[]⟩) 210 5 (vj a b (ys.take x.1)).length ((vj a b (ys.take x.1)).flatMap Wy.cells) x.2]) (0,none,0) (jjo _) ⟨J,sz⟩ (fun _ h=>h) ?_
  intro⟨k,rA,rc⟩ hx L hL1
  refine v9 ?_;refine r9 ?_
  have hk:k≤n- i:=hx
  refine S5 ?_;refine cZ (fun c1=> ?_) (fun c1=> ?_)
  ·have hlt:k<n- i:=Om
   obtain ⟨eb,eo,rfl,_⟩ :=hyp.2 Om
   have hpm:=hymem k Om
   have hlo:=hylow k Om
   obtain ⟨⟨p1,p2⟩,p3,p4⟩ :=hp2 _ hpm
   have hwk:=hwl2 k
   refine S7 ?_;refine a9 (jl J J jk J (wQ (b:=eb) (o:=eo) hyp hlt)) ?_;refine S1 ?_;refine aL (fun b6=> ?_);refine N13 ?_;refine cZ (fun c2=> ?_) (fun c2=> ?_)
   ·rw [jey (a:=a) (b:=b) hym Om Om,hway]
    refine S7 ?_
    exact ka h_0 ((rA,rc)) (trivial) ⟨J,sz⟩ (fun _ h=>h.picks [0,1,2,3,4,5] Dc)
   ·refine S3 ?_;refine qt [(61, .bool (!yv a b (pt ys k)))] (kK [3,4,6,7,8,36,37,11,38,39,40,41,13,42,43,44,45,46,47]) (fun L h_8=> ?_) ?_
    ·refine S8 ?_;refine cV 54 (fun g1=> ?_) (fun g1=> ?_)
     ·refine S8 ?_
      exact Jo h_8 ⟨vb (by rw [Sa (p:=pt ys k) (by show px ys k<_;omega)];rfl),sz⟩ (u9 J)
     ·refine S14 ?_
      exact Jo h_8 ⟨vb (jaa (p:=pt ys k) (by show _≤px ys k;omega)),sz⟩ (u9 J)
    ·refine v9 ?_;refine cZ (fun c3=> ?_) (fun c3=> ?_)
     ·refine S8 ?_
      exact Jq hL1 ((k+1,rA,rc)) ((show k+1≤n- i by omega)) (by simp only;omega) ⟨(by rw [Rw Om (Ty (by simpa using c3))];rfl),vi Om,sz⟩ (fun _ h=>h.upto ⟨J,J,J,J,J,by rw [Rw Om (Ty (by simpa using c3))],trivial⟩)
     ·refine S7 ?_;refine a9 (jM Gk J J (fun w1 hs=>Nh a b (pt ys k) w1 ha hb (hh _ hpm))) ?_;refine S4 ?_;refine aL (fun b7=> ?_);refine N8 ?_;refine cZ (fun c4=> ?_) (fun c4=> ?_)
      ·rw [jh7 c4]
       refine S5 ?_;refine a9 (JR J J (zE J J)) ?_;refine S1 ?_;refine Jy J J (yw J) J (lb J) (fun b8=> ?_);refine N1 ?_;refine JY (k:=5) J JC Qc Dc J Dc J J J (fun w' hs=>Qb hs (k:=8) J J) (by simp [Value.oneCell']) (by unfold maxLen;omega) Om (jjm _) (fun r1=> ?_);refine N8 ?_
       exact Jq hL1 ((k+1,r1)) ((show k+1≤n- i by omega)) (by simp only;omega) ⟨(by rw [EQ Om (Yl (by simpa using c3) (zU hlo (by show py ys k≤_;omega)) c4),jjk];rfl),vi Om,sz⟩ (fun _ h=>h.upto ⟨J,J,J,J,J,by rw [EQ Om (Yl (by simpa using c3) (zU hlo (by show py ys k≤_;omega)) c4),jjk,jjv];rfl,trivial⟩)
      ·refine S7 ?_
       exact Jq hL1 ((k+1,rA,rc)) ((show k+1≤n- i by omega)) (by simp only;omega) ⟨(by rw [Rw Om (Gx c4)];rfl),vi Om,sz⟩ (fun _ h=>h.upto ⟨J,J,J,J,J,by rw [Rw Om (Gx c4)],trivial⟩)
  ·rw [jjR Om,hway]
   refine S5 ?_
   exact ka h_0 ((rA,rc)) (trivial) ⟨J,sz⟩ (fun _ h=>h.picks [0,1,2,3,4,5] Dc)
 ·rintro⟨sA,sc⟩ -
  refine v9 ?_;refine r9 ?_;refine S4 ?_;refine Zx (k:=5) (r':=J3 0 210 5 (vj a b hot).length ((Kd (QJ VR) (vj a b hot)).flatMap Wy.cells) (sA,sc)) Km J J J Dc J (fun w1 hs=>PK (hs.all 5 _ J).1 J hwb Om) (fun _ h=>h) J ?_;refine N4 ?_;refine kt (T:=28) (s:=2) ?_;refine N9 ?_;refine JX (X:=Nat×Option Addr×Nat) (fun y=>y.1≤(vj a b hot).length) (fun y=> (vj a b hot).length- y.1) (fun y=> [(16, .slice y.2.1 y.1 y.2.2),(82, .int .i64 (y.1:Int))]) (kK [6,80,81]) (fun y=> [.cel b1 28 [.int .i64 a.1, .int .i64 a.2], .cel b2 28 [.int .i64 b.1, .int .i64 b.2], .cel b3 28 [.int .i64 a.1, .int .i64 a.2, .int .i64 b.1, .int .i64 b.2], .cel b4 28 [.int .i64 (min a.1 b.1), .int .i64 (min a.2 b.2)], .cel b5 28 [.int .i64 (max a.1 b.1), .int .i64 (max a.2 b.2)],J3 0 210 5 (vj a b hot).length ((Kd (QJ VR) (vj a b hot)).flatMap Wy.cells) (sA,sc),J3 (Bs.N ⟨w,[]⟩) 28 2 y.1 (((qC a b hot).take y.1).flatMap Jr) y.2]) (0,none,0) (jjo _) ⟨J,sz⟩ (fun _ h=>h) ?_
  intro⟨j,qA,qc⟩ hy L hL2
  refine v9 ?_;refine r9 ?_
  have hj:j≤(vj a b hot).length:=hy
  refine S5 ?_;refine cZ (fun c5=> ?_) (fun c5=> ?_)
  ·have hlt:j< (vj a b hot).length:=Om
   refine kL (fun w hs=>wH (k:=5) J hs Om) ?_
   rintro⟨eg,rfl⟩
   obtain ⟨e,he⟩ :∃e,(Kd (QJ VR) (vj a b hot))[j]? =some e:=⟨_,List.getElem?_eq_getElem Om⟩
   refine S6 ?_;refine a9 (jV (j:=j) J J J JC Om) ?_;refine a9 (jl J J qj J (jf3 (k:=5) J he)) ?_;refine S1 ?_;refine aL (fun b9=> ?_);refine N8 ?_;refine Jy J J (qT J) J (lb J) (fun b10=> ?_);refine N1 ?_;refine JY (k:=6) J jD jI Dc J Dc J J J (fun w' hs=>Qb hs (k:=8) J J) (by simp [Value.oneCell']) (by unfold maxLen;omega) Om (jjm _) (fun r2=> ?_);refine N8 ?_
   exact Jq hL2 ((j+1,r2)) ((show j+1≤(vj a b hot).length by omega)) (by simp only;omega) ⟨J,vi Om,sz⟩ (fun _ h=>h.upto ⟨J,J,J,J,J,J,by rw [qC,←jaN he],trivial⟩)
  ·have hje:j= (vj a b hot).length:=Om
   subst hje
   rw [jjR Om]
   refine S11 ?_;refine jK J (.tmp J) ?_
   intro w' hs
   have hr:=hs.all 6 _ rfl
   exact⟨_,rfl,vy (by rw [hpl];exact hr.1) (fun b hb=> (hr.2.1 b hb).elim id (fun h=>by cases h)),hs.fin⟩
end Go.Proofs.YtbahojdbmmjkcaaGreat
