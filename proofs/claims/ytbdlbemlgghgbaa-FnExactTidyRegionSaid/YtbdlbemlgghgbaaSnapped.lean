/- Edges that only meet at their ends: both sides of IsSnapped. -/
import Derived.Test.YtbdlbemlgghgbaaMeet
import Derived.Test.YtbdlbemlgghgbaaLawKit
import Derived.Test.YtbdlbemlgghgbaaWind
namespace Go.Proofs.Ytbdlbemlgghgbaa
open Go Go.RowKit
set_option linter.unusedVariables false

def lA (l : Leg) : Pn := (l.ax, l.ay)
def lB (l : Leg) : Pn := (l.bx, l.b_y)
theorem lA_ok {l : Leg} (h : legOk l) : bd2 (lA l) := ⟨h.1, h.2.1⟩
theorem lB_ok {l : Leg} (h : legOk l) : bd2 (lB l) := ⟨h.2.2.1, h.2.2.2⟩
abbrev legV (l : Leg) : Value := .agg #[.int .i64 l.ax, .int .i64 l.ay, .int .i64 l.bx, .int .i64 l.b_y]
def sameL (e f : Leg) : Bool := decide ((lA e = lA f ∧ lB e = lB f) ∨ (lA e = lB f ∧ lB e = lA f))
def pairL (e f : Leg) : Bool := pairI (lA e) (lB e) (lA f) (lB f)
theorem same1 {e f : Leg} (h : (e.ax == f.ax && e.ay == f.ay && e.bx == f.bx && e.b_y == f.b_y) = true) : true = sameL e f := by
  simp only [Bool.and_eq_true, beq_iff_eq] at h
  rw [Bool.eq_iff_iff]; simp only [sameL, lA, lB, Prod.mk.injEq, decide_eq_true_eq, true_iff]; omega
theorem same2 {e f : Leg} (h : (e.ax == f.ax && e.ay == f.ay && e.bx == f.bx && e.b_y == f.b_y) = false) (h2 : (e.ax == f.bx && e.ay == f.b_y) = true) : (e.bx == f.ax && e.b_y == f.ay) = sameL e f := by
  simp only [Bool.and_eq_true, beq_iff_eq] at h2
  simp only [Bool.and_eq_false_iff, beq_eq_false_iff_ne, ne_eq] at h
  rw [Bool.eq_iff_iff]; simp only [sameL, lA, lB, Prod.mk.injEq, decide_eq_true_eq, Bool.and_eq_true, beq_iff_eq]; omega
theorem same3 {e f : Leg} (h : (e.ax == f.ax && e.ay == f.ay && e.bx == f.bx && e.b_y == f.b_y) = false) (h2 : (e.ax == f.bx && e.ay == f.b_y) = false) : false = sameL e f := by
  simp only [Bool.and_eq_false_iff, beq_eq_false_iff_ne, ne_eq] at h h2
  rw [Bool.eq_iff_iff]; simp only [sameL, lA, lB, Prod.mk.injEq, decide_eq_true_eq, Bool.false_eq_true, false_iff]; omega
theorem pq {p : Pn} {x y : Int} : (p.1 == x && p.2 == y) = decide (p = (x, y)) := by
  rw [Bool.eq_iff_iff]; simp [Prod.ext_iff]
theorem pairL_same {e f : Leg} (h : sameL e f = true) : pairL e f = true := by
  simp only [sameL, decide_eq_true_eq] at h
  rw [pairL, pairI, if_pos h]
theorem pairL_touch {e f : Leg} (h : sameL e f = false) (k : (meetI (lA e) (lB e) (lA f) (lB f)).1 = 1) : pairL e f = ((decide ((meetI (lA e) (lB e) (lA f) (lB f)).2 = lA e) || decide ((meetI (lA e) (lB e) (lA f) (lB f)).2 = lB e)) && (decide ((meetI (lA e) (lB e) (lA f) (lB f)).2 = lA f) || decide ((meetI (lA e) (lB e) (lA f) (lB f)).2 = lB f))) := by
  simp only [sameL, decide_eq_false_iff_not] at h
  rw [pairL, pairI, if_neg h, if_pos k]
theorem pairL_touch' {e f : Leg} (h : sameL e f = false) (k : (meetI (lA e) (lB e) (lA f) (lB f)).1 = 1) : pairL e f = ((((meetI (lA e) (lB e) (lA f) (lB f)).2.1 == e.ax && (meetI (lA e) (lB e) (lA f) (lB f)).2.2 == e.ay) || ((meetI (lA e) (lB e) (lA f) (lB f)).2.1 == e.bx && (meetI (lA e) (lB e) (lA f) (lB f)).2.2 == e.b_y)) && (((meetI (lA e) (lB e) (lA f) (lB f)).2.1 == f.ax && (meetI (lA e) (lB e) (lA f) (lB f)).2.2 == f.ay) || ((meetI (lA e) (lB e) (lA f) (lB f)).2.1 == f.bx && (meetI (lA e) (lB e) (lA f) (lB f)).2.2 == f.b_y))) := by
  rw [pairL_touch h k]
  simp only [pq]
  rfl
theorem pairL_else {e f : Leg} (h : sameL e f = false) (k : ¬ (meetI (lA e) (lB e) (lA f) (lB f)).1 = 1) : pairL e f = ((meetI (lA e) (lB e) (lA f) (lB f)).1 == 0) := by
  simp only [sameL, decide_eq_false_iff_not] at h
  rw [pairL, pairI, if_neg h, if_neg k]
  rfl
theorem lt_succ_all {P : Nat → Prop} {k : Nat} (h : ∀ q, q < k → P q) (hk : P k) : ∀ q, q < k + 1 → P q := fun q hq => by
  rcases Nat.lt_or_ge q k with h1 | h1
  · exact h q h1
  · obtain rfl : q = k := by omega
    exact hk
theorem slicedH (b o h cap s : Nat) : sliced (some ⟨b, o, none⟩) 0 h cap s = .slice (some ⟨b, o, none⟩) h cap := by
  unfold sliced
  simp [add_none]
theorem rowSome {w : World} {w0 : Bs} {Rs : List Res} {k B T s n : Nat} {x : Option Addr × Nat} {xs : List Value} (hk : Rs[k]? = some (rowR B T s n xs x)) (hs : St w0 Rs w) (hn : 0 < n) : ∃ g, x.1 = some ⟨g, 0, none⟩ := by
  have h : w.ownsRow B T s (.slice x.1 n x.2) n xs := (hs.all k _ hk).1
  rcases h.2 with ⟨_, e⟩ | ⟨g, cap, cur, e, _⟩
  · omega
  · injection e with e1
    exact ⟨g, e1⟩
def snapAll (ls : List Leg) : Bool := (List.range ls.length).all fun i => (List.range i).all fun k => pairL (lg ls i) (lg ls k)
theorem snapAll_no {ls : List Leg} {i k : Nat} (hi : i < ls.length) (hk : k < i) (h : pairL (lg ls i) (lg ls k) = false) : false = snapAll ls := by
  symm
  rw [snapAll, List.all_eq_false]
  refine ⟨i, List.mem_range.2 hi, ?_⟩
  rw [Bool.not_eq_true, List.all_eq_false]
  exact ⟨k, List.mem_range.2 hk, by simp [h]⟩
theorem snapAll_yes {ls : List Leg} (h : ∀ i, i < ls.length → ∀ k, k < i → pairL (lg ls i) (lg ls k) = true) : true = snapAll ls := by
  symm
  rw [snapAll, List.all_eq_true]
  intro i hi
  rw [List.all_eq_true]
  intro k hk
  exact h i (List.mem_range.1 hi) k (List.mem_range.1 hk)
theorem edgesTo_ne (xs : List (Int × Int)) : ∀ k, ∀ l ∈ edgesTo xs k, lA l ≠ lB l
  | 0, l, hl => by simp [edgesTo] at hl
  | k + 1, l, hl => by
    rw [edgesTo_succ] at hl
    split at hl
    · exact edgesTo_ne xs k l hl
    · rename_i h
      rcases List.mem_append.1 hl with h1 | h1
      · exact edgesTo_ne xs k l h1
      · rw [List.mem_singleton.1 h1]
        intro e
        simp only [lA, lB, Prod.mk.injEq] at e
        exact h e
theorem allTo_ne (rs : List Ring_) : ∀ k, ∀ l ∈ allTo rs k, lA l ≠ lB l
  | 0, l, hl => by simp [allTo] at hl
  | k + 1, l, hl => by
    simp only [allTo, List.mem_append] at hl
    rcases hl with h | h
    · exact allTo_ne rs k l h
    · exact edgesTo_ne _ _ l h
def isnB (rs : List Ring_) : Bool := regionB rs && snapAll (edgesAll rs)
end Go.Proofs.Ytbdlbemlgghgbaa
