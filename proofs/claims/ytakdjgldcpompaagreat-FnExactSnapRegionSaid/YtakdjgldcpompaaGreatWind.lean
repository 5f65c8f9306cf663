/- How often edges go around a point; whether a point is on one: the program's and the reference's. -/
import Derived.Test.YtakdjgldcpompaaGreatOn
import Derived.Test.YtakdjgldcpompaaGreatValidRegion
namespace Go.Proofs.YtakdjgldcpompaaGreat
open Go Go.RowKit
set_option linter.unusedVariables false
set_option linter.unusedSimpArgs false

section
variable {w : World} {w0 : Bs} {Rs : List Res}
/-- An edge of a slice, its first end, its second end. -/
theorem rdLeg {b o m j : Nat} {ls : List Leg} (h : ∀ w, St w0 Rs w → Legs w (some ⟨b, o, none⟩) m ls) (hj : j < m) : ∀ w', St w0 Rs w' → ∀ q v, [Value.int .i64 (lg ls j).ax, Value.int .i64 (lg ls j).ay, Value.int .i64 (lg ls j).bx, Value.int .i64 (lg ls j).b_y][q]? = some v → w'.cell? ⟨b, o + j * 4 + q, none⟩ = some v := fun w' hs q v hv => by
 obtain ⟨b', o', e, _, h1, h2, h3, h4⟩ := (h w' hs).at_ hj
 injection e with e
 injection e with e1 e2 _
 subst e1 e2
 match q, hv with
 | 0, hv => simp at hv; subst hv; exact h1
 | 1, hv => simp at hv; subst hv; exact h2
 | 2, hv => simp at hv; subst hv; exact h3
 | 3, hv => simp at hv; subst hv; exact h4
theorem rdLegA {b o m j : Nat} {ls : List Leg} (h : ∀ w, St w0 Rs w → Legs w (some ⟨b, o, none⟩) m ls) (hj : j < m) : ∀ w', St w0 Rs w' → ∀ q v, [Value.int .i64 (lg ls j).ax, Value.int .i64 (lg ls j).ay][q]? = some v → w'.cell? ⟨b, o + j * 4 + 0 + q, none⟩ = some v := fun w' hs q v hv =>
 rdLeg h hj w' hs q v (by match q, hv with | 0, hv => exact hv | 1, hv => exact hv)
theorem rdLegB {b o m j : Nat} {ls : List Leg} (h : ∀ w, St w0 Rs w → Legs w (some ⟨b, o, none⟩) m ls) (hj : j < m) : ∀ w', St w0 Rs w' → ∀ q v, [Value.int .i64 (lg ls j).bx, Value.int .i64 (lg ls j).b_y][q]? = some v → w'.cell? ⟨b, o + j * 4 + 2 + q, none⟩ = some v := fun w' hs q v hv => by
 have := rdLeg h hj w' hs (2 + q) v (by match q, hv with | 0, hv => exact hv | 1, hv => exact hv)
 rwa [← Nat.add_assoc] at this
end

theorem lg_ok {ls : List Leg} (h : ∀ l ∈ ls, legOk l) {k : Nat} (hk : k < ls.length) : legOk (lg ls k) := by
 rw [← at_l hk]
 exact h _ (List.getElem_mem hk)
end Go.Proofs.YtakdjgldcpompaaGreat
