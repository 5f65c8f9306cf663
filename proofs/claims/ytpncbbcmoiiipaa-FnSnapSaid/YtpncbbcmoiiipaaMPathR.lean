import Derived.Test.YtpncbbcmoiiipaaMPathW
set_option linter.unusedVariables false
set_option linter.unusedSimpArgs false
namespace Go.Proofs.Ytpncbbcmoiiipaa
open Go Go.RowKit
section
variable {α:Type} {f:α→List Value} {s:Nat}
end
def Yr (s x:Sp) :Bool:=decide (s.ln*x.ld- x.ln*s.ld<0) || (decide (s.ln*x.ld- x.ln*s.ld=0) &&s.lc&& !x.lc)
theorem XY (a b p q:Pn) :QV Q1 (yP a b p) (yP a b q) =Yr (Ji a b p) (Ji a b q) :=by
 rw [FJ,QV,decide_eq_true_eq,yT]
 unfold H1 Yr yP
 simp only [Fu,DL,decide_eq_true_eq,Fm]
 constructor
 ·rintro(h |⟨h1,h2,h3⟩)
  ·exact .inl Om
  ·exact .inr ⟨⟨by omega,h2⟩,h3⟩
 ·rintro(h |⟨⟨h1,h2⟩,h3⟩)
  ·exact .inl Om
  ·exact .inr ⟨by omega,h2,h3⟩
def vN (a b p q:Pn) :Bool:=Yr (Ji a b p) (Ji a b q)
theorem xO (a b:Pn) :Weak (vN a b) :=by
 have:=Gb.by (yP a b)
 have e: (fun x y=>QV Q1 (yP a b x) (yP a b y)) =vN a b:=by funext p q;exact XY a b p q
 rwa [e] at this
def yi (a b:Pn) (l:List Pn) :List Pn:=ki (vN a b) (l.filter (kl a b))
theorem vK (a b:Pn) (hot:List Pn) :qp a b hot=yi a b hot:=by
 unfold qp yi Ql
 rw [MI (lt:=vN a b) (fun p _ q _=>XY a b p q),List.map_map]
 exact List.map_id' _
theorem ZG (a b:Pn) (l:List Pn) : (yi a b l).length≤l.length:=by
 unfold yi
 rw [q8]
 exact List.length_filter_le _ _
theorem UF {a b p:Pn} (h1:min a.1 b.1- 1≤p.1) (h2:p.1≤max a.1 b.1+1) :yC a b p=true:=by unfold yC;rw [decide_eq_false (FO.2 h1),decide_eq_false (FO.2 h2)];rfl
theorem ZH (a b:Pn) (l:List Pn) :wn (vN a b) (yi a b l) :=wi (xO a b) _
end Go.Proofs.Ytpncbbcmoiiipaa
