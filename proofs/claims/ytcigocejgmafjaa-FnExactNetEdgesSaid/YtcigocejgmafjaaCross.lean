/- Meetings do not depend on the order; the rounded crossing lies in a pixel of both: plain words. -/
import Derived.Test.YtcigocejgmafjaaHot
import Derived.Test.YtcigocejgmafjaaPix
namespace Go.Proofs.Ytcigocejgmafjaa
open Go Go.RowKit
set_option linter.unusedVariables false
set_option linter.unusedSimpArgs false

/-! ### Meetings in another order -/
theorem kind_of {a b c d a' b' c' d' : Pn} (hm : ∀ q, q ∈ endsM a b c d ↔ q ∈ endsM a' b' c' d') (hs : strictM a b c d = strictM a' b' c' d') : meetS a b c d = meetS a' b' c' d' := by
 have n1 := endsM_nodup a b c d
 have n2 := endsM_nodup a' b' c' d'
 unfold meetS
 rw [hs]
 generalize endsM a b c d = l at *
 generalize endsM a' b' c' d' = m at *
 have h0 : l.length = 0 ↔ m.length = 0 := by
  constructor
  ·intro h
   have := List.eq_nil_of_length_eq_zero h
   subst this
   exact len0 fun q hq => absurd ((hm q).2 hq) (by simp)
  ·intro h
   have := List.eq_nil_of_length_eq_zero h
   subst this
   exact len0 fun q hq => absurd ((hm q).1 hq) (by simp)
 have h1 : l.length = 1 ↔ m.length = 1 := by
  constructor
  ·intro h
   match l, h with
   | [x], _ => rw [len1 (p := x) n2 ((hm x).1 (by simp)) (fun q hq => by simpa using (hm q).2 hq)]; rfl
  ·intro h
   match m, h with
   | [x], _ => rw [len1 (p := x) n1 ((hm x).2 (by simp)) (fun q hq => by simpa using (hm q).1 hq)]; rfl
 by_cases e0 : l.length = 0
 ·rw [if_pos e0, if_pos (h0.1 e0)]
 ·rw [if_neg e0, if_neg (fun h => e0 (h0.2 h))]
  by_cases e1 : l.length = 1
  ·rw [if_pos e1, if_pos (h1.1 e1)]
  ·rw [if_neg e1, if_neg (fun h => e1 (h1.2 h))]
theorem ends_pair {a b c d q : Pn} : q ∈ endsM a b c d ↔ q ∈ endsM c d a b := by
 rw [endsM_mem, endsM_mem, bothM, bothM, Bool.and_comm]
 constructor
 ·rintro ⟨h, h2⟩; exact ⟨by rcases h with h | h | h | h <;> simp [h], h2⟩
 ·rintro ⟨h, h2⟩; exact ⟨by rcases h with h | h | h | h <;> simp [h], h2⟩
theorem strict_iff {a b c d : Pn} : strictM a b c d = true ↔ ((tn a b c < 0 ∧ 0 < tn a b d) ∨ (0 < tn a b c ∧ tn a b d < 0)) ∧ ((tn c d a < 0 ∧ 0 < tn c d b) ∨ (0 < tn c d a ∧ tn c d b < 0)) := by
 simp only [strictM, Bool.and_eq_true, decide_eq_true_eq, sgn_mul_neg]
theorem kind_pair (a b c d : Pn) : meetS c d a b = meetS a b c d := kind_of (fun q => ends_pair.symm) (by rw [Bool.eq_iff_iff, strict_iff, strict_iff]; exact And.comm)
/-! ### Rounding -/
/-! ### Pixels -/
end Go.Proofs.Ytcigocejgmafjaa
