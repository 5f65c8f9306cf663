/- What the walks of laws about regions lean on. -/
import Derived.Test.YtakdjgldcpompaaTo
namespace Go.Proofs.Ytakdjgldcpompaa
open Go Go.RowKit
set_option linter.unusedVariables false

theorem neSelf (a : Int) : (!(a == a)) = false := by simp
theorem neSelfB (a : Bool) : (!(a == a)) = false := by simp
theorem notTrue : (!true) = false := rfl
theorem eqSelf2 (a b : Int) : (!((a == a) && (b == b))) = false := by simp
/-- A region that is not too large. -/
def smallR (rs : List Ring_) : Prop := rs.length ≤ 2000 ∧ ∀ j, j < rs.length → (rg rs j).length ≤ 500
theorem smallR_sum {rs : List Ring_} (h : smallR rs) : ∀ k, k ≤ rs.length → sumTo rs k ≤ 500 * k
  | 0, _ => by simp [sumTo]
  | k + 1, hk => by
    have := smallR_sum h k (by omega)
    have := h.2 k (by omega)
    simp only [sumTo]
    omega
theorem smallR.total {rs : List Ring_} (h : smallR rs) : (Go.Proofs.Ytakdjgldcpompaa.total rs : Int) ≤ 1048576 := by
  have := smallR_sum h rs.length (Nat.le_refl _)
  have := h.1
  unfold Go.Proofs.Ytakdjgldcpompaa.total
  omega
theorem smallR.sum {rs : List Ring_} (h : smallR rs) {n : Nat} (hn : rs.length = n) : 1 + 2 * (sumTo rs n : Nat) ≤ (4611686018427387904 : Int) ∧ n ≤ 4611686018427387904 := by
  have := smallR_sum h n (by omega)
  have := h.1
  omega
theorem smallR.nil : smallR [] := ⟨by simp, fun j hj => absurd hj (by simp)⟩
theorem smallR.of {rs : List Ring_} (h : regionB rs = true) : smallR rs := ⟨by have := reg_len h; omega, fun j hj => by have := pos_of_ring (regRing h hj); omega⟩
theorem total_sum {rs : List Ring_} (ht : (total rs : Int) ≤ 1048576) {n : Nat} (hn : rs.length = n) : 1 + 2 * (sumTo rs n : Nat) ≤ (4611686018427387904 : Int) ∧ n ≤ 4611686018427387904 := by
  unfold total at ht
  rw [hn] at ht
  omega
section
variable {w0 : Bs} {Rs : List Res}
/-- A region that a call has made, as rings to read; as one to write. -/
theorem gegS {k n lo hi : Nat} {A : Option Addr} {rs : List Ring_} (hk : Rs[k]? = some (gegR n rs lo hi A)) (w : World) (hs : St w0 Rs w) : OwnG lo hi w A n rs := gegG (hs.all k _ hk).1
theorem gegH {k n lo hi : Nat} {A : Option Addr} {rs : List Ring_} (hk : Rs[k]? = some (gegR n rs lo hi A)) (w : World) (hs : St w0 Rs w) : hi ≤ w.heap.size := (hs.all k _ hk).1.1
theorem gegRings {k n lo hi : Nat} {A : Option Addr} {rs : List Ring_} (hk : Rs[k]? = some (gegR n rs lo hi A)) (w : World) (hs : St w0 Rs w) : Rings w A n rs := (gegS hk w hs).rings
theorem ptsS {k n lo hi : Nat} {A : Option Addr} {xs : List (Int × Int)} (hk : Rs[k]? = some (ptsR n xs lo hi A)) (w : World) (hs : St w0 Rs w) : OwnP lo hi w A n xs := ptsG (hs.all k _ hk).1
theorem ptsH {k n lo hi : Nat} {A : Option Addr} {xs : List (Int × Int)} (hk : Rs[k]? = some (ptsR n xs lo hi A)) (w : World) (hs : St w0 Rs w) : hi ≤ w.heap.size := (hs.all k _ hk).1.1
theorem ptsPts {k n lo hi : Nat} {A : Option Addr} {xs : List (Int × Int)} (hk : Rs[k]? = some (ptsR n xs lo hi A)) (w : World) (hs : St w0 Rs w) : Pts w A n xs := (ptsS hk w hs).pts
end
/-- Marks of a region, as the law's call turns them. -/
theorem markGeg {lo hi n c : Nat} {A : Option Addr} {rs : List Ring_} {w : World} (h : OwnG lo hi w A n rs) (hz : hi ≤ w.heap.size) (hb : 1 + 2 * (sumTo rs n : Nat) ≤ (4611686018427387904 : Int) ∧ n ≤ 4611686018427387904) :
    Calls Try.prog 19 #[regV A n c, .int .i64 1] w fun e w' => e = .returned (.int .i64 (1 + 2 * (sumTo rs n : Nat))) ∧ Wrs (gegR n rs lo hi A).F w w' ∧ (gegR n (marksR 1 rs) lo hi A).P w' :=
  (markRegion_any lo hi A n c rs 1 w h hz (by omega) hb.1 hb.2).mono (by rintro e w' ⟨he, hw, hg⟩; exact ⟨he, hw, gegP hg (Nat.le_trans hz hw.size)⟩)
theorem posF (k : Nat) : decide ((1 : Int) + 2 * (k : Int) < 0) = false := decide_eq_false (by omega)
/-- A region and a code, as what a call has made. -/
theorem gegCode {P : Program} {f : FuncId} {args : Array Value} {w1 : World} {rs : List Ring_} {code : Int} (h : Calls P f args w1 fun e w' => ∃ A' c', e = .returned (.tuple #[regV A' rs.length c', .int .i64 code]) ∧ OwnG w1.heap.size w'.heap.size w' A' rs.length rs ∧ Over w1 w') :
    Calls P f args w1 fun e w' => ∃ x : (Option Addr × Nat) × Nat × Nat, e = .returned (.tuple #[regV x.1.1 rs.length x.1.2, .int .i64 code]) ∧ Over w1 w' ∧ (gegR rs.length rs x.2.1 x.2.2 x.1.1).P w' ∧ (∀ b, (gegR rs.length rs x.2.1 x.2.2 x.1.1).F b → w1.heap.size ≤ b) ∧ (gegR rs.length rs x.2.1 x.2.2 x.1.1).B = 0 ∧ True :=
  gegNew (V := fun A c => .tuple #[regV A rs.length c, .int .i64 code]) h
/-! ### Rings as what a call has made -/
/-- Points of the call's own. -/
theorem ptsNew {P : Program} {f : FuncId} {args : Array Value} {w1 : World} {n : Nat} {xs : List (Int × Int)} {V : Option Addr → Nat → Value} (h : Calls P f args w1 fun e w' => ∃ A c, e = .returned (V A c) ∧ OwnP w1.heap.size w'.heap.size w' A n xs ∧ Over w1 w') :
    Calls P f args w1 fun e w' => ∃ x : (Option Addr × Nat) × Nat × Nat, e = .returned (V x.1.1 x.1.2) ∧ Over w1 w' ∧ (ptsR n xs x.2.1 x.2.2 x.1.1).P w' ∧ (∀ b, (ptsR n xs x.2.1 x.2.2 x.1.1).F b → w1.heap.size ≤ b) ∧ (ptsR n xs x.2.1 x.2.2 x.1.1).B = 0 ∧ True := by
  refine h.mono ?_
  rintro e w' ⟨A, c, rfl, ho, hO⟩
  exact ⟨((A, c), w1.heap.size, w'.heap.size), rfl, hO, ptsP ho (Nat.le_refl _), fun b hb => hb.1, rfl, trivial⟩
theorem ptsCode {P : Program} {f : FuncId} {args : Array Value} {w1 : World} {xs : List (Int × Int)} {code : Int} (h : Calls P f args w1 fun e w' => ∃ A' c', e = .returned (.tuple #[ringV A' xs.length c', .int .i64 code]) ∧ OwnP w1.heap.size w'.heap.size w' A' xs.length xs ∧ Over w1 w') :
    Calls P f args w1 fun e w' => ∃ x : (Option Addr × Nat) × Nat × Nat, e = .returned (.tuple #[ringV x.1.1 xs.length x.1.2, .int .i64 code]) ∧ Over w1 w' ∧ (ptsR xs.length xs x.2.1 x.2.2 x.1.1).P w' ∧ (∀ b, (ptsR xs.length xs x.2.1 x.2.2 x.1.1).F b → w1.heap.size ≤ b) ∧ (ptsR xs.length xs x.2.1 x.2.2 x.1.1).B = 0 ∧ True :=
  ptsNew (V := fun A c => .tuple #[ringV A xs.length c, .int .i64 code]) h
/-- A ring that the laws have copied. -/
theorem ptsRing (A : Option Addr) (n c : Nat) (xs : List (Int × Int)) (w1 : World) (h : Pts w1 A n xs) (hn : (n : Int) ≤ 1048576) :
    Calls Try.prog 65 #[ringV A n c] w1 fun e w' => ∃ x : Nat × Nat × Nat, e = .returned (ringV (some ⟨x.1, 0, none⟩) n n) ∧ Over w1 w' ∧ (ptsR n xs x.2.1 x.2.2 (some ⟨x.1, 0, none⟩)).P w' ∧ (∀ b, (ptsR n xs x.2.1 x.2.2 (some ⟨x.1, 0, none⟩)).F b → w1.heap.size ≤ b) ∧ (ptsR n xs x.2.1 x.2.2 (some ⟨x.1, 0, none⟩)).B = 0 ∧ True := by
  have hl : xs.length = n := h.1
  subst hl
  exact newPc rfl (toRing_any A _ c xs w1 h hn)
theorem eqPts {n c n' c' : Nat} {A A' : Option Addr} {xs : List (Int × Int)} {w : World} (h : Pts w A n xs) (h' : Pts w A' n' xs) (hn : (n : Int) ≤ 1048576) :
    Calls Try.prog 73 #[ringV A n c, ringV A' n' c'] w fun e w' => e = .returned (.bool true) ∧ Over w w' := by
  have h1 := h.1
  have h2 := h'.1
  obtain rfl : n' = n := by omega
  exact eqRing_same A A' _ c c' xs w h h' hn
end Go.Proofs.Ytakdjgldcpompaa
