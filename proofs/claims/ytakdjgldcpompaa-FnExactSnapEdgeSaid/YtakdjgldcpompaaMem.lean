/- Words for memory: worlds that lie over a world; a slice of points that reads as a list. -/
import Derived.Test.YtakdjgldcpompaaProg
import Derived.WalkKit
import Derived.KernelRfl
import Derived.Lib.Hide
namespace Go.Proofs.Ytakdjgldcpompaa
open Go Go.RowKit
set_option linter.unusedVariables false
set_option linter.unusedSimpArgs false

/-- w' lies over w: nothing that was there has turned. -/
def Over (w w' : World) : Prop := Below w.heap.size w w'
theorem Over.out {w w' : World} (h : Over w w') : Below w.heap.size w w' := h
theorem Over.refl (w : World) : Over w w := Below.refl _ _
theorem Over.trans {w a b : World} (h : Over w a) (k : Over a b) : Over w b := Below.trans h (Below.mono k (Below.size h))
theorem Over.alloc (w : World) (o : Obj) : Over w (w.alloc o) := (Below.refl _ _).alloc (Nat.le_refl _) o
theorem Over.alloc_ {w a : World} (h : Over w a) (o : Obj) : Over w (a.alloc o) := h.trans (Over.alloc a o)
theorem Over.drew_ {w a : World} (h : Over w a) : Over w a.drew := Below.drew h
theorem Over.set_ {w a : World} (h : Over w a) {p : Addr} (hp : w.heap.size ≤ p.block) (u : Value) : Over w (a.setCell p u) := Below.setCell h hp u
theorem Over.size {w w' : World} (h : Over w w') : w.heap.size ≤ w'.heap.size := Below.size h
theorem ocell {W w1 : World} (hb : Over W w1) : (∀ b o, b < W.heap.size → w1.cell? ⟨b, o, none⟩ = W.cell? ⟨b, o, none⟩) ∧ (∀ b o, b < W.heap.size → w1.frozen? ⟨b, o, none⟩ = W.frozen? ⟨b, o, none⟩) :=
  ⟨fun b o h => Below.cell (p := ⟨b, o, none⟩) hb h, fun b o h => Below.frozen (p := ⟨b, o, none⟩) hb h⟩

/-- The value of a point. -/
abbrev ptV (x y : Int) : Value := .agg #[.int .i64 x, .int .i64 y]

/-- The coordinates of the k-th point. -/
def px (xs : List (Int × Int)) (k : Nat) : Int := (xs.getD k (0, 0)).1
def py (xs : List (Int × Int)) (k : Nat) : Int := (xs.getD k (0, 0)).2
theorem at_p {xs : List (Int × Int)} {k : Nat} (h : k < xs.length) : xs[k] = (px xs k, py xs k) := by
  simp [px, py, List.getD, List.getElem?_eq_getElem h]

/-- The slice with address A and length n reads as the points xs. -/
def Pts (w : World) (A : Option Addr) (n : Nat) (xs : List (Int × Int)) : Prop :=
  xs.length = n ∧ (0 < n → ∃ b o, A = some ⟨b, o, none⟩ ∧ b < w.heap.size ∧ ∀ k, k < n → w.cell? ⟨b, o + k * 2, none⟩ = some (.int .i64 (px xs k)) ∧ w.cell? ⟨b, o + k * 2 + 1, none⟩ = some (.int .i64 (py xs k)))

theorem Pts.over {w w' : World} {A : Option Addr} {n : Nat} {xs : List (Int × Int)} (h : Pts w A n xs) (hb : Over w w') : Pts w' A n xs := by
  refine ⟨h.1, fun hn => ?_⟩
  obtain ⟨b, o, hA, hlt, hc⟩ := h.2 hn
  exact ⟨b, o, hA, Nat.lt_of_lt_of_le hlt hb.size, fun k hk => ⟨((ocell hb).1 b _ hlt).trans (hc k hk).1, ((ocell hb).1 b _ hlt).trans (hc k hk).2⟩⟩

theorem cell_new (w : World) (cs : Array Value) (T : TypeId) (i : Nat) : (w.alloc (.cells cs T)).cell? ⟨w.heap.size, i, none⟩ = cs[i]? :=
  cell_of_row _ _ i cs T (0, 0) (heap_alloc_new w _)

theorem pts_new (w : World) (T : TypeId) (cs : Array Value) (n : Nat) (xs : List (Int × Int)) (hn : xs.length = n)
    (h : ∀ k, k < n → cs[k * 2]? = some (.int .i64 (px xs k)) ∧ cs[k * 2 + 1]? = some (.int .i64 (py xs k))) : Pts (w.alloc (.cells cs T)) (some ⟨w.heap.size, 0, none⟩) n xs := by
  refine ⟨hn, fun _ => ⟨_, _, rfl, by simp, fun k hk => ?_⟩⟩
  rw [Nat.zero_add, cell_new, cell_new]
  exact h k hk

theorem pts_new2 (w : World) (T : TypeId) (g : Nat) (hg : g = w.heap.size) (a b c d : Int) : Pts (w.alloc (.cells #[.int .i64 a, .int .i64 b, .int .i64 c, .int .i64 d] T)) (some ⟨g, 0, none⟩) 2 [(a, b), (c, d)] :=
  hg ▸ pts_new w T _ 2 _ rfl fun k hk => by
    match k, hk with
    | 0, _ => exact ⟨rfl, rfl⟩
    | 1, _ => exact ⟨rfl, rfl⟩
theorem pts_new3 (w : World) (T : TypeId) (g : Nat) (hg : g = w.heap.size) (a b c d e f : Int) : Pts (w.alloc (.cells #[.int .i64 a, .int .i64 b, .int .i64 c, .int .i64 d, .int .i64 e, .int .i64 f] T)) (some ⟨g, 0, none⟩) 3 [(a, b), (c, d), (e, f)] :=
  hg ▸ pts_new w T _ 3 _ rfl fun k hk => by
    match k, hk with
    | 0, _ => exact ⟨rfl, rfl⟩
    | 1, _ => exact ⟨rfl, rfl⟩
    | 2, _ => exact ⟨rfl, rfl⟩
theorem pts_new4 (w : World) (T : TypeId) (g : Nat) (hg : g = w.heap.size) (a b c d e f g' h : Int) : Pts (w.alloc (.cells #[.int .i64 a, .int .i64 b, .int .i64 c, .int .i64 d, .int .i64 e, .int .i64 f, .int .i64 g', .int .i64 h] T)) (some ⟨g, 0, none⟩) 4 [(a, b), (c, d), (e, f), (g', h)] :=
  hg ▸ pts_new w T _ 4 _ rfl fun k hk => by
    match k, hk with
    | 0, _ => exact ⟨rfl, rfl⟩
    | 1, _ => exact ⟨rfl, rfl⟩
    | 2, _ => exact ⟨rfl, rfl⟩
    | 3, _ => exact ⟨rfl, rfl⟩
end Go.Proofs.Ytakdjgldcpompaa
