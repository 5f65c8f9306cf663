/- The calculus of walks: data in memory, read. -/
import Derived.Test.YtjhaakollekjeaaTy
import Derived.Test.YtjhaakollekjeaaRing
namespace Go.Proofs.Ytjhaakollekjeaa
open Go Go.RowKit
set_option linter.unusedVariables false
set_option maxRecDepth 100000

theorem vb {a b : Bool} (h : a = b) : some (Value.bool a) = some (Value.bool b) := by rw [h]
theorem vi {a b : Int} (h : a = b) : some (Value.int .i64 a) = some (Value.int .i64 b) := by rw [h]
theorem retB {a b : Bool} (h : a = b) : Ending.returned (.bool a) = Ending.returned (.bool b) := by rw [h]
theorem retI {a b : Int} (h : a = b) : Ending.returned (.int .i64 a) = Ending.returned (.int .i64 b) := by rw [h]
/-- A contract that leaves the world alone. -/
theorem Calls.still {P : Program} {f : FuncId} {args : Array Value} {w : World} {v : Value} (h : Calls P f args w fun e w' => e = .returned v ∧ w = w') : Calls P f args w fun e w' => e = .returned v ∧ Over w w' := h.mono fun e w' ⟨he, hw⟩ => ⟨he, hw ▸ Over.refl _⟩

section
variable {w : World} {w0 : Bs} {Rs : List Res}
def ptCells (p : Int × Int) : List Value := [.int .i64 p.1, .int .i64 p.2]
/-- A slice made of a literal, as points. -/
theorem ptsCel {k b T m : Nat} (xs : List (Int × Int)) (hk : Rs[k]? = some (.cel b T (xs.flatMap ptCells))) (hm : xs.length = m) : ∀ w, St w0 Rs w → Pts w (some ⟨b, 0, none⟩) m xs := fun w hs => by
 have hh := hs.cel hk
 refine ⟨hm, fun _ => ⟨b, 0, rfl, lt_of_some hh, fun j hj => ?_⟩⟩
 have hj' : j < xs.length := by omega
 have hat := fun q hq => flat2 xs j q hj' hq
 rw [Nat.zero_add, cell_of_row w b _ _ T (0, 0) hh, cell_of_row w b _ _ T (0, 0) hh]
 have h0 := hat 0 (by omega)
 have h1 := hat 1 (by omega)
 rw [at_p hj'] at h0 h1
 simp only [List.getElem?_toArray]
 exact ⟨by simpa [ptCells] using h0, by simpa [ptCells] using h1⟩
where
 flat2 : ∀ (xs : List (Int × Int)) (k j : Nat) (hk : k < xs.length), j < 2 → (xs.flatMap ptCells)[k * 2 + j]? = (ptCells xs[k])[j]?
 | [], _, _, h, _ => absurd h (by simp)
 | a :: r, 0, j, _, hj => by
  rw [List.flatMap_cons, Nat.zero_mul, Nat.zero_add, List.getElem?_append_left (by simpa [ptCells] using hj)]
  rfl
 | a :: r, k + 1, j, h, hj => by
  have hl : (ptCells a).length = 2 := rfl
  rw [List.flatMap_cons, List.getElem?_append_right (by rw [hl]; omega), hl]
  have := flat2 r k j (by simpa using h) hj
  rw [show (k + 1) * 2 + j - 2 = k * 2 + j by omega, this]
  rfl
/-- A point of a slice that came in. -/
theorem rdPts {b o m j : Nat} {xs : List (Int × Int)} (h : Pts w (some ⟨b, o, none⟩) m xs) (hj : j < m) : ∀ w', St ⟨w, []⟩ Rs w' → ∀ q v, [Value.int .i64 (px xs j), Value.int .i64 (py xs j)][q]? = some v → w'.cell? ⟨b, o + j * 2 + q, none⟩ = some v := fun w' hs q v hv => by
 obtain ⟨b', o', e, _, h1, h2⟩ := (h.over hs.fin).at_ hj
 injection e with e
 injection e with e1 e2 _
 subst e1 e2
 match q, hv with
 | 0, hv => simp at hv; subst hv; exact h1
 | 1, hv => simp at hv; subst hv; exact h2
end

/-! ### A drawn region: what an operation has made may be leaned on from here -/
end Go.Proofs.Ytjhaakollekjeaa
