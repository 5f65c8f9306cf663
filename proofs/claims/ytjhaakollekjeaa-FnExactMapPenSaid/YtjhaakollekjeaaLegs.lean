/- Edges of rings; twice the area. -/
import Derived.Test.YtjhaakollekjeaaRing
import Derived.Test.YtjhaakollekjeaaCorner
namespace Go.Proofs.Ytjhaakollekjeaa
open Go Go.RowKit
set_option linter.unusedVariables false
set_option linter.unusedSimpArgs false

/-- The index of the next point. -/
def nx (xs : List (Int × Int)) (k : Nat) : Nat := (k + 1) % xs.length
structure Leg where
 ax : Int
 ay : Int
 bx : Int
 b_y : Int
 deriving DecidableEq
def lg (ls : List Leg) (k : Nat) : Leg := ls.getD k ⟨0, 0, 0, 0⟩
/-- A slice of edges that reads as the list ls. -/
def Legs (w : World) (A : Option Addr) (n : Nat) (ls : List Leg) : Prop :=
 ls.length = n ∧ (0 < n → ∃ b o, A = some ⟨b, o, none⟩ ∧ b < w.heap.size ∧ ∀ k, k < n → w.cell? ⟨b, o + k * 4, none⟩ = some (.int .i64 (lg ls k).ax) ∧ w.cell? ⟨b, o + k * 4 + 1, none⟩ = some (.int .i64 (lg ls k).ay) ∧
  w.cell? ⟨b, o + k * 4 + 2, none⟩ = some (.int .i64 (lg ls k).bx) ∧ w.cell? ⟨b, o + k * 4 + 3, none⟩ = some (.int .i64 (lg ls k).b_y))
theorem Legs.over {w w' : World} {A : Option Addr} {n : Nat} {ls : List Leg} (h : Legs w A n ls) (hb : Over w w') : Legs w' A n ls := by
 refine ⟨h.1, fun hn => ?_⟩
 obtain ⟨b, o, hA, hlt, hc⟩ := h.2 hn
 exact ⟨b, o, hA, Nat.lt_of_lt_of_le hlt hb.size, fun k hk => ⟨((ocell hb).1 b _ hlt).trans (hc k hk).1, ((ocell hb).1 b _ hlt).trans (hc k hk).2.1, ((ocell hb).1 b _ hlt).trans (hc k hk).2.2.1, ((ocell hb).1 b _ hlt).trans (hc k hk).2.2.2⟩⟩
theorem Legs.at_ {w : World} {A : Option Addr} {n k : Nat} {ls : List Leg} (h : Legs w A n ls) (hk : k < n) :
  ∃ b o, A = some ⟨b, o, none⟩ ∧ b < w.heap.size ∧ w.cell? ⟨b, o + k * 4, none⟩ = some (.int .i64 (lg ls k).ax) ∧ w.cell? ⟨b, o + k * 4 + 1, none⟩ = some (.int .i64 (lg ls k).ay) ∧
  w.cell? ⟨b, o + k * 4 + 2, none⟩ = some (.int .i64 (lg ls k).bx) ∧ w.cell? ⟨b, o + k * 4 + 3, none⟩ = some (.int .i64 (lg ls k).b_y) := by
 obtain ⟨b, o, hA, hb, hc⟩ := h.2 (by omega)
 exact ⟨b, o, hA, hb, hc k hk⟩

def legAt (xs : List (Int × Int)) (k : Nat) : Leg := ⟨px xs k, py xs k, px xs (nx xs k), py xs (nx xs k)⟩
def samePt (xs : List (Int × Int)) (k : Nat) : Bool := px xs k == px xs (nx xs k) && py xs k == py xs (nx xs k)
def edgesTo (xs : List (Int × Int)) : Nat → List Leg
 | 0 => []
 | k + 1 => if samePt xs k = true then edgesTo xs k else edgesTo xs k ++ [legAt xs k]
def edgesR (xs : List (Int × Int)) : List Leg := edgesTo xs xs.length
theorem row_low {w : World} {B B' T s n : Nat} {v : Value} {xs : List Value} (h : w.ownsRow B T s v n xs) (hB : B' ≤ B) : w.ownsRow B' T s v n xs := by
 refine ⟨h.1, ?_⟩
 rcases h.2 with hn | ⟨g, cap, cur, rfl, hb, rest⟩
 ·exact .inl hn
 ·exact .inr ⟨g, cap, cur, rfl, by omega, rest⟩
end Go.Proofs.Ytjhaakollekjeaa
