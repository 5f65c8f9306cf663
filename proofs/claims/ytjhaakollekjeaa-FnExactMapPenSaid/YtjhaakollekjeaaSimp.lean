/- Append within capacity, clear; slices.Delete at points; rings without idle points. -/
import Derived.Test.YtjhaakollekjeaaSnapped
import Derived.ArgAppend
namespace Go.Proofs.Ytjhaakollekjeaa
open Go Go.RowKit
set_option linter.unusedVariables false

section
variable {P : Program} {n : Nat} {env : List (Nat × Value)} {w0 : Bs} {Rs : List Res} {ops : Array Oper} {Q : Exit → Act → World → Prop} {K : Act → World → Prop} {o : Oper}
theorem op_clear {x : Operand} {T U s bytes k b off m c U' : Nat} {z : Value} {cs zs : List Value} (ho : o.op = .call { callee := .builtin .clear, args := #[x], argTypes := #[T] }) (hT : TyL P T U s) (hZ : TyZ P U s bytes z) (hd : o.dst = none)
  (hx : ev env x = some (.slice (some ⟨b, off, none⟩) m c)) (hm : 0 < m) (hk : Rs[k]? = some (.cel b U' cs)) (hzs : (Builtin.zeroCells z.cells m).toList = zs) (h1 : zs.all (·.oneCell') = true) (hfit : off + zs.length ≤ cs.length)
  (h : At n env w0 (Rs.set k (.cel b U' (splice cs off zs))) K) : At n env w0 Rs (fun a w => o.wp P a w K Q) := fun a w hf hs => by
 have hh := hs.cel hk
 have hst := run_storeCells (P := P) zs off 0 cs w hh (by omega) h1
 obtain ⟨m', rfl⟩ : ∃ m', m = m' + 1 := ⟨m - 1, by omega⟩
 have hcl : (Builtin.clear_ #[T] o.type #[.slice (some ⟨b, off, none⟩) (m' + 1) c]).run P w = .ok (.tuple #[]) (w.setRow b (splice cs off zs).toArray) := by
  simp [Builtin.clear_, run_underlying hT.desc, hZ.run, hzs, hst]
 have hrun : (execOp a.eval o).run P w = .ok (.value (.tuple #[])) (w.setRow b (splice cs off zs).toArray) := by
  unfold execOp
  simp only [ho, resolve, invoke, builtin, Sem.run_bind, Sem.run_pure, Result.andThen_ok, List.map_toArray, List.map_cons, List.map_nil, hf.ev hx, hcl]
 show o.upon P a K Q ((execOp a.eval o).run P w)
 rw [hrun, Oper.upon_value, hd]
 exact h _ _ hf (hs.store hk)
end
/-! ### A point taken out -/
theorem splice_get {vs : List Value} : ∀ {cs : List Value} {off : Nat} (j : Nat), off + vs.length ≤ cs.length → (splice cs off vs)[j]? = if off ≤ j ∧ j < off + vs.length then vs[j - off]? else cs[j]? := by
 induction vs with
 | nil => intro cs off j _; rw [splice, if_neg (by simp only [List.length_nil]; omega)]
 | cons v r ih =>
  intro cs off j hl
  simp only [List.length_cons] at hl
  rw [splice, ih (cs := cs.set off v) (off := off + 1) j (by simp; omega)]
  simp only [List.length_cons]
  by_cases h1 : off + 1 ≤ j ∧ j < off + 1 + r.length
  ·rw [if_pos h1, if_pos (by omega), show j - off = (j - (off + 1)) + 1 by omega]
   simp
  ·rw [if_neg h1]
   by_cases h2 : j = off
   ·subst h2
    rw [if_pos (by omega), List.getElem?_set_self (by omega)]
    simp
   ·rw [if_neg (by omega), List.getElem?_set_ne (by omega)]
theorem ptCells_get (xs : List (Int × Int)) (j : Nat) (h : j < xs.length * 2) : (xs.flatMap ptCells)[j]? = (ptCells (xs[j / 2]'(by omega)))[j % 2]? := by
 have := ptFlat xs (j / 2) (j % 2) (by omega) (by omega)
 rwa [show j / 2 * 2 + j % 2 = j by omega] at this
theorem take_cells (xs : List (Int × Int)) (k : Nat) : (xs.flatMap ptCells).take (k * 2) = (xs.take k).flatMap ptCells := by
 induction xs generalizing k with
 | nil => simp
 | cons a r ih =>
  match k with
  | 0 => simp
  | k + 1 =>
   rw [List.flatMap_cons, List.take_succ_cons, List.flatMap_cons, show (k + 1) * 2 = (ptCells a).length + k * 2 by simp [ptCells]; omega, List.take_length_add_append, ih]
theorem drop_cells (xs : List (Int × Int)) (k : Nat) : (xs.flatMap ptCells).drop (k * 2) = (xs.drop k).flatMap ptCells := by
 induction xs generalizing k with
 | nil => simp
 | cons a r ih =>
  match k with
  | 0 => simp
  | k + 1 =>
   rw [List.flatMap_cons, List.drop_succ_cons, show (k + 1) * 2 = (ptCells a).length + k * 2 by simp [ptCells]; omega, List.drop_length_add_append, ih]
/-- The address of the piece of a slice from l on. -/
def offL (o l m s : Nat) : Nat := if m = l then o else o + l * s
theorem slicedL {b o l h m s : Nat} (_hm : h ≤ m) (_hl : l ≤ h) : sliced (some ⟨b, o, none⟩) l h m s = .slice (some ⟨b, offL o l m s, none⟩) (h - l) (m - l) := by
 unfold sliced offL
 split
 ·rfl
 ·simp [add_none]
def pt (xs : List (Int × Int)) (k : Nat) : Pn := (px xs k, py xs k)
/-- Points that are valid, at most 401 of them. -/
def okPts (xs : List (Int × Int)) : Prop := xs.length ≤ 401 ∧ ∀ p ∈ xs, bd2 p
theorem okPts.at_ {xs : List (Int × Int)} (h : okPts xs) {k : Nat} (hk : k < xs.length) : bd2 (pt xs k) := by
 have := h.2 xs[k] (List.getElem_mem hk)
 rwa [at_p hk] at this
theorem okPts.of {xs : List (Int × Int)} (h : ringB xs = true) : okPts xs := by
 have h1 := pos_of_ring h
 refine ⟨by omega, fun p hp => ?_⟩
 simp only [ringB, Bool.and_eq_true, allOk, List.all_eq_true] at h
 have := h.2 p hp
 simp [okB, inB] at this
 exact ⟨⟨by omega, by omega⟩, by omega, by omega⟩
/-- The first points of a slice, as what is appended; the points behind them. -/
theorem srcTake {w : World} {b o n c k : Nat} {xs : List (Int × Int)} (h : Pts w (some ⟨b, o, none⟩) n xs) (hk : k ≤ n) : Src 2 (.slice (some ⟨b, o, none⟩) k c) k ((xs.take k).flatMap ptCells) w := by
 have hl := h.1
 refine ⟨by rw [ptCells_len, List.length_take]; omega, .inr ⟨_, c, rfl, fun j u hu => ?_⟩⟩
 by_cases h0 : 0 < n
 ·have hs := srcPts (c := c) h h0
  rcases hs.src with ⟨e, _⟩ | ⟨ad, c', e, hn⟩
  ·cases e
  ·injection e with e1 e2 e3
   injection e1 with e1
   subst e1
   refine hn j u ?_
   rw [← take_cells, List.getElem?_take] at hu
   split at hu
   ·exact hu
   ·cases hu
 ·obtain rfl : xs = [] := List.eq_nil_of_length_eq_zero (by omega)
  simp at hu
theorem srcDrop {w : World} {b o n c k : Nat} {xs : List (Int × Int)} (h : Pts w (some ⟨b, o, none⟩) n xs) (hk : k ≤ n) (hc : n ≤ c) : Src 2 (.slice (some ⟨b, offL o k c 2, none⟩) (n - k) (c - k)) (n - k) ((xs.drop k).flatMap ptCells) w := by
 have hl := h.1
 refine ⟨by rw [ptCells_len, List.length_drop, hl], .inr ⟨_, _, rfl, fun j u hu => ?_⟩⟩
 have hj := (List.getElem?_eq_some_iff.1 hu).1
 rw [ptCells_len, List.length_drop] at hj
 have hs := srcPts (c := c) h (by omega)
 rcases hs.src with ⟨e, _⟩ | ⟨ad, c', e, hn⟩
 ·cases e
 ·injection e with e1 e2 e3
  injection e1 with e1
  subst e1
  rw [← drop_cells, List.getElem?_drop] at hu
  have := hn _ u hu
  rw [add_none] at this ⊢
  rw [offL, if_neg (by omega)]
  rw [← this]
  congr 2
  omega
end Go.Proofs.Ytjhaakollekjeaa
