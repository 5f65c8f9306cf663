/- The comparison of points, with the world that it leaves; a splice at the left. -/
import Derived.Test.YtjhaakollekjeaaHot
import Derived.Shelf.SlSortCmp.WholeK
namespace Go.Proofs.Ytjhaakollekjeaa
open Go Go.Shelf Go.RowKit Go.Lib Go.Sort
set_option linter.unusedVariables false
set_option linter.unusedSimpArgs false
def cmpYX (p q : Pn) : Int := if p.2 = q.2 then sgn (p.1 - q.1) else sgn (p.2 - q.2)
theorem cmpYX_lt (p q : Pn) : cmpYX p q < 0 ↔ ltY p q := by
 have h1 := sgn3 (p.1 - q.1)
 have h2 := sgn3 (p.2 - q.2)
 unfold cmpYX ltY
 split <;> omega
set_option maxHeartbeats 1000000 in
theorem compareYX_w (p q : Pn) (hp : bdW p) (hq : bdW q) (W : World) : Calls Try.prog 102 #[.agg #[.int .i64 p.1, .int .i64 p.2], .agg #[.int .i64 q.1, .int .i64 q.2]] W fun e w' => e = .returned (.int .i64 (cmpYX p q)) ∧ ∃ q' os', w' = grow (W.drewN q') os' := by
 obtain ⟨⟨p1, p2⟩, p3, p4⟩ := hp
 obtain ⟨⟨q1, q2⟩, q3, q4⟩ := hq
 by_cases h : p.2 = q.2
 ·have e : cmpYX p q = sgn (p.1 - q.1) := if_pos h
  have hc := sign64_any (p.1 - q.1)
  rw [e]
  generalize sgn (p.1 - q.1) = r at hc ⊢
  go_enter Try.func102, Try.ntmps102
  go_wp2_with (go_at_call 142; refine (hc _).mono ?_; rintro e w' ⟨rfl, rfl⟩)
  go_ret
  exact ⟨rfl, 0, _, by rw [alloc_eq_grow, alloc_eq_grow, grow_grow]; rfl⟩
 ·have e : cmpYX p q = sgn (p.2 - q.2) := if_neg h
  have hc := sign64_any (p.2 - q.2)
  rw [e]
  generalize sgn (p.2 - q.2) = r at hc ⊢
  go_enter Try.func102, Try.ntmps102
  go_wp2_with (go_at_call 142; refine (hc _).mono ?_; rintro e w' ⟨rfl, rfl⟩)
  go_ret
  exact ⟨rfl, 0, _, by rw [alloc_eq_grow, alloc_eq_grow, grow_grow]; rfl⟩
theorem splice_left {l r vs : List Value} : ∀ {off : Nat}, off + vs.length ≤ l.length → splice (l ++ r) off vs = splice l off vs ++ r := by
 induction vs generalizing l with
 | nil => intro off _; rfl
 | cons v vs ih =>
  intro off h
  simp only [List.length_cons] at h
  rw [splice, splice, List.set_append_left _ _ (by omega)]
  exact ih (by simp; omega)
end Go.Proofs.Ytjhaakollekjeaa
