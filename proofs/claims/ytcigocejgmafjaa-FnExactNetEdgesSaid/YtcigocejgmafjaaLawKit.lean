/- What the walks of laws about regions lean on. -/
import Derived.Test.YtcigocejgmafjaaTo
namespace Go.Proofs.Ytcigocejgmafjaa
open Go Go.RowKit
set_option linter.unusedVariables false

theorem neSelf (a : Int) : (!(a == a)) = false := by simp
theorem notTrue : (!true) = false := rfl
/-- A region that is not too large. -/
def smallR (rs : List Ring_) : Prop := rs.length ≤ 2000 ∧ ∀ j, j < rs.length → (rg rs j).length ≤ 500
theorem smallR_sum {rs : List Ring_} (h : smallR rs) : ∀ k, k ≤ rs.length → sumTo rs k ≤ 500 * k
 | 0, _ => by simp [sumTo]
 | k + 1, hk => by
  have := smallR_sum h k (by omega)
  have := h.2 k (by omega)
  simp only [sumTo]
  omega
theorem smallR.total {rs : List Ring_} (h : smallR rs) : (Go.Proofs.Ytcigocejgmafjaa.total rs : Int) ≤ 1048576 := by
 have := smallR_sum h rs.length (Nat.le_refl _)
 have := h.1
 unfold Go.Proofs.Ytcigocejgmafjaa.total
 omega
theorem smallR.nil : smallR [] := ⟨by simp, fun j hj => absurd hj (by simp)⟩
theorem smallR.of {rs : List Ring_} (h : regionB rs = true) : smallR rs := ⟨by have := reg_len h; omega, fun j hj => by have := pos_of_ring (regRing h hj); omega⟩
theorem total_sum {rs : List Ring_} (ht : (total rs : Int) ≤ 1048576) {n : Nat} (hn : rs.length = n) : 1 + 2 * (sumTo rs n : Nat) ≤ (4611686018427387904 : Int) ∧ n ≤ 4611686018427387904 := by
 unfold total at ht
 rw [hn] at ht
 omega
section
variable {w0 : Bs} {Rs : List Res}
/-- A region that a call has made, as rings to read; as one to write. -/
theorem gegS {k n lo hi : Nat} {A : Option Addr} {rs : List Ring_} (hk : Rs[k]? = some (gegR n rs lo hi A)) (w : World) (hs : St w0 Rs w) : OwnG lo hi w A n rs := gegG (hs.all k _ hk).1
theorem gegH {k n lo hi : Nat} {A : Option Addr} {rs : List Ring_} (hk : Rs[k]? = some (gegR n rs lo hi A)) (w : World) (hs : St w0 Rs w) : hi ≤ w.heap.size := (hs.all k _ hk).1.1
theorem gegRings {k n lo hi : Nat} {A : Option Addr} {rs : List Ring_} (hk : Rs[k]? = some (gegR n rs lo hi A)) (w : World) (hs : St w0 Rs w) : Rings w A n rs := (gegS hk w hs).rings
end
/-- Marks of a region, as the law's call turns them. -/
theorem markGeg {lo hi n c : Nat} {A : Option Addr} {rs : List Ring_} {w : World} (h : OwnG lo hi w A n rs) (hz : hi ≤ w.heap.size) (hb : 1 + 2 * (sumTo rs n : Nat) ≤ (4611686018427387904 : Int) ∧ n ≤ 4611686018427387904) :
  Calls Try.prog 10 #[regV A n c, .int .i64 1] w fun e w' => e = .returned (.int .i64 (1 + 2 * (sumTo rs n : Nat))) ∧ Wrs (gegR n rs lo hi A).F w w' ∧ (gegR n (marksR 1 rs) lo hi A).P w' :=
 (markRegion_any lo hi A n c rs 1 w h hz (by omega) hb.1 hb.2).mono (by rintro e w' ⟨he, hw, hg⟩; exact ⟨he, hw, gegP hg (Nat.le_trans hz hw.size)⟩)
theorem posF (k : Nat) : decide ((1 : Int) + 2 * (k : Int) < 0) = false := decide_eq_false (by omega)
/-! ### Rings as what a call has made -/
end Go.Proofs.Ytcigocejgmafjaa
