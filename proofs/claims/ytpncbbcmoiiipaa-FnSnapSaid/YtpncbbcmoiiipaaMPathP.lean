import Derived.Test.YtpncbbcmoiiipaaMWay
import Derived.Test.YtpncbbcmoiiipaaMPix
import Derived.Test.YtpncbbcmoiiipaaMHot
import Derived.Test.YtpncbbcmoiiipaaMStabP
set_option linter.unusedVariables false
set_option linter.unusedSimpArgs false
namespace Go.Proofs.Ytpncbbcmoiiipaa
open Go Go.RowKit
def H1 (x y:Wy) :Prop:=x.num*y.den<y.num*x.den∨(x.num*y.den=y.num*x.den∧x.cl=true∧y.cl=false)
def Q1 (x y:Wy) :Int:=if KN (x.num*y.den- y.num*x.den)≠0 then KN (x.num*y.den- y.num*x.den) else if(x.cl&& !y.cl) =true then-1 else if(!x.cl&&y.cl) =true then 1 else 0
theorem yT {x y:Wy} :Q1 x y<0↔H1 x y:=by
 unfold Q1 H1
 have k:=QG (x.num*y.den- y.num*x.den)
 split
 ·omega
 ·cases x.cl<;>cases y.cl<;>simp<;>omega
theorem Gb:Weak (QV Q1) :=by
 have e:∀x y,QV Q1 x y=true↔H1 x y:=fun x y=>by rw [QV,decide_eq_true_eq,yT]
 have e':∀x y,QV Q1 x y=false↔¬H1 x y:=fun x y=>by rw [←e x y,Bool.not_eq_true]
 refine⟨fun a b h=> ?_,fun a b c h1 h2=> ?_⟩
 ·rw [e'] ;rw [e] at h
  rintro(h2 |⟨h2,h3,h4⟩)
  ·rcases h with h |⟨h,_,_⟩ <;>omega
  ·rcases h with h |⟨h,h5,h6⟩
   ·omega
   ·rw [h5] at h4;cases h4
 ·rw [e'] at h1 h2⊢
  have b1:b.num*a.den≤a.num*b.den:=FO.1 fun h=>h1 (.inl h)
  have b2:c.num*b.den≤b.num*c.den:=FO.1 fun h=>h2 (.inl h)
  rintro(h |⟨h,h3,h4⟩)
  ·have:=Q2 b.pos c.pos a.pos b2 b1
   omega
  ·have g1:¬b.num*a.den<a.num*b.den:=fun h'=>by
    have:=QB b.pos c.pos a.pos b2 h'
    omega
   have g2:¬c.num*b.den<b.num*c.den:=fun h'=>by
    have:=ke b.pos c.pos a.pos h' b1
    omega
   cases hb:b.cl with
   | true=>exact h2 (.inr ⟨by omega,hb,h4⟩)
   | false=>exact h1 (.inr ⟨by omega,h3,hb⟩)
def Ji (a b p:Pn) :Sp:=Jj (Jj K8 (qB (2*a.1) (2* (b.1- a.1)) (2*p.1- 1))) (qB (2*a.2) (2* (b.2- a.2)) (2*p.2- 1))
def K9 (a b p:Pn) :Bool:=UN (2*a.1) (2* (b.1- a.1)) (2*p.1- 1) (2*a.2) (2* (b.2- a.2)) (2*p.2- 1)
theorem Q8 (a b p:Pn) :0< (Ji a b p).ld∧0< (Ji a b p).hd:=Qh (Qh KI (qM _ _ _)) (qM _ _ _)
def yP (a b p:Pn) :Wy:=⟨p.1,p.2,(Ji a b p).ln,(Ji a b p).ld,(Ji a b p).lc,(Q8 a b p).1⟩
def yC (a b p:Pn) :Bool:= !(decide (p.1<min a.1 b.1- 1) || decide (p.1>max a.1 b.1+1))
def Z2 (a b p:Pn) :Bool:= !(decide (p.2<min a.2 b.2- 1) || decide (p.2>max a.2 b.2+1))
def kl (a b p:Pn) :Bool:=yC a b p&&Z2 a b p&&K9 a b p
def Ql (a b:Pn) (hot:List Pn) :List Wy:= (hot.filter (kl a b)).map (yP a b)
def qp (a b:Pn) (hot:List Pn) :List Pn:= (ki (QV Q1) (Ql a b hot)).map fun e=> (e.x,e.y)
theorem Gl (a b p:Pn) (hi:K9 a b p=true) :KB K8 (2*a.1) (2* (b.1- a.1)) (2*p.1- 1) =true∧kk (kk K8 (2*a.1) (2* (b.1- a.1)) (2*p.1- 1)) (2*a.2) (2* (b.2- a.2)) (2*p.2- 1) =Ji a b p:=by
 have:=zH (2*a.1) (2* (b.1- a.1)) (2*p.1- 1) (2*a.2) (2* (b.2- a.2)) (2*p.2- 1)
 unfold K9 at hi
 rw [hi] at this
 have h2:= (DL _ _▸this.symm:_∧_)
 refine⟨h2.1,?_⟩
 rw [UG ye,UG YB]
 rfl
theorem GL {a b p:Pn} (ha:bd2 a) (hb:bd2 b) (hp:bd2 p) :bdP (Ji a b p) :=by
 obtain ⟨⟨a1,a2⟩,a3,a4⟩ :=ha
 obtain ⟨⟨b1,b2⟩,b3,b4⟩ :=hb
 obtain ⟨⟨p1,p2⟩,p3,p4⟩ :=hp
 have hx:=Uk (2*a.1) (2* (b.1- a.1)) (2*p.1- 1) Om Om Om Om Om Om
 have hy:=Uk (2*a.2) (2* (b.2- a.2)) (2*p.2- 1) Om Om Om Om Om Om
 exact vd (v6 (vd (v6 xS hx) hx) hy) hy
theorem WP (a b:Pn) (l m:List Pn) :Ql a b (l++m) =Ql a b l++Ql a b m:=by simp [Ql,List.filter_append]
theorem uq {a b:Pn} {l:List Pn} (h:∀p∈l,kl a b p=false) :Ql a b l= [] :=by
 unfold Ql
 rw [List.filter_eq_nil_iff.2 fun p hp=>by rw [h p hp];decide]
 rfl
theorem LL {a b p:Pn} (h:kl a b p=true) :Ql a b [p] = [yP a b p] :=by simp [Ql,h]
theorem X5 {xs:List Pn} {k:Nat} (h:k<xs.length) :xs.take (k+1) =xs.take k++ [pt xs k] :=by
 rw [DY h,QK h]
theorem ZO (a b:Pn) (l:List Pn) : (Ql a b l).length≤l.length:=by
 unfold Ql
 rw [Fc]
 exact List.length_filter_le _ _
theorem LK {a b:Pn} {l:List Pn} {e:Wy} (h:e∈Ql a b l) :∃p∈l,e=yP a b p:=by
 obtain ⟨p,hp,rfl⟩ :=Fi.1 h
 exact⟨p,(List.mem_filter.1 hp).1,rfl⟩
end Go.Proofs.Ytpncbbcmoiiipaa
namespace Go.Proofs.Ytpncbbcmoiiipaa
open Go Go.RowKit
set_option maxRecDepth 100000
set_option maxHeartbeats 4000000
theorem Weak.by {α β:Type} {lt:β→β→Bool} (W:Weak lt) (f:α→β) :Weak fun x y=>lt (f x) (f y) :=⟨fun a b h=>W.asym _ _ h,fun a b c h1 h2=>W.neg _ _ _ h1 h2⟩
theorem Pts.dropT {w:World} {b o n c k:Nat} {xs:List Pn} (h:Pts w (some ⟨b,o,none⟩) n xs) (hk:k≤n) (hc:n≤c) :Pts w (some ⟨b,Y2 o k c 2,none⟩) (n- k) (xs.drop k) :=by
 have hl:=h.1
 refine⟨by rw [D5,hl],fun h0=> ?_⟩
 obtain ⟨b',o',e,hlt,hx⟩ :=h.2 Om
 injection e with e
 injection e with e1 e2
 subst e1 e2
 refine⟨_,_,J,hlt,fun j hj=> ?_⟩
 have hd:∀j,px (xs.drop k) j=px xs (k+j)∧py (xs.drop k) j=py xs (k+j) :=fun j=>by
  simp only [px,py,List.getD_eq_getElem?_getD,List.getElem?_drop]
  exact⟨trivial,trivial⟩
 rw [Y2,if_neg Om,(hd j).1,(hd j).2,show o+k*2+j*2=o+ (k+j) *2 by omega]
 exact hx (k+j) Om
end Go.Proofs.Ytpncbbcmoiiipaa
