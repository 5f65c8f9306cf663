/- The calculus of walks: memory that came in and may be turned; several pieces as one; points and rings that may be written. -/
import Derived.Test.YtjhaakollekjeaaLaw
namespace Go.Proofs.Ytjhaakollekjeaa
open Go Go.RowKit
set_option linter.unusedVariables false
set_option linter.unusedSimpArgs false

/-- Nothing has turned but the blocks of F, and new blocks. -/
structure Wrs (F : Nat → Prop) (w w' : World) : Prop where
 os : w'.os = w.os
 tape : w'.tape = w.tape
 output : w'.output = w.output
 size : w.heap.size ≤ w'.heap.size
 block : ∀ c, c < w.heap.size → ¬ F c → w'.heap[c]? = w.heap[c]?
theorem Wrs.refl (F : Nat → Prop) (w : World) : Wrs F w w := ⟨rfl, rfl, rfl, Nat.le_refl _, fun _ _ _ => rfl⟩
theorem Wrs.mono {F G : Nat → Prop} {w w' : World} (h : Wrs F w w') (hF : ∀ b, F b → G b) : Wrs G w w' := ⟨h.os, h.tape, h.output, h.size, fun c hc hn => h.block c hc (fun hf => hn (hF c hf))⟩
theorem Wrs.of {F : Nat → Prop} {w w' : World} (h : Over w w') : Wrs F w w' := ⟨h.out.os, h.out.tape, h.out.output, h.size, fun c hc _ => h.out.block c hc⟩
theorem Wrs.over {F : Nat → Prop} {w w' : World} (h : Wrs F w w') (hF : ∀ b, ¬ F b) : Over w w' := ⟨h.os, h.tape, h.output, h.size, fun c hc => h.block c hc (hF c)⟩

section
variable {P : Program} {n : Nat} {env : List (Nat × Value)} {w0 : Bs} {Rs : List Res} {ops : Array Oper} {Q : Exit → Act → World → Prop} {K : Act → World → Prop} {o : Oper}

/-- A call that turns a piece of the call's own. -/
theorem op_callw {f k d : Nat} (hfn : FnOk P f) {xs : List Operand} {vs : List Value} {ts : Array TypeId} {v : Value} {r : Res} (r' : Res) (ho : o.op = .call { callee := .value (.func f), args := xs.toArray, argTypes := ts }) (hx : evs env xs = some vs) (hd : o.dst = some d) (hn : d < n)
  (hk : Rs[k]? = some r) (hc : ∀ w, St w0 Rs w → Calls P f vs.toArray w fun e w' => e = .returned v ∧ Wrs r.F w w' ∧ r'.P w') (hF : ∀ b, r'.F b → r.F b) (hB : r'.B = 0)
  (h : At n ((d, v) :: env) w0 (Rs.set k r') K) : At n env w0 Rs (fun a w => o.wp P a w K Q) := fun a w hF' hs => by
 show o.upon P a K Q ((execOp a.eval o).run P w)
 rw [run_call hfn ho hx hF']
 refine Calls.mono (hc w hs) ?_
 rintro e w' ⟨rfl, hw, hp⟩
 have hlow := (hs.all k _ hk).2.1
 show K (a.put o.dst v) w'
 rw [hd]
 refine h _ _ (hF'.put hn _) (hs.upd hk ⟨hw.os.trans hs.over.os, hw.tape.trans hs.over.tape, hw.output.trans hs.over.output, Nat.le_trans hs.over.size hw.size, fun c hc' hx' => ?_⟩ hw.size (fun c hc' hne => hw.block c hc' hne) hp (fun c hc' => .inl (hF c hc')) hB)
 rw [hw.block c (Nat.lt_of_lt_of_le hc' hs.over.size) (fun e => (hlow c e).elim (fun h1 => by omega) (fun h1 => hx' h1))]
 exact hs.over.block c hc' hx'

theorem St.drop {w : World} {j : Nat} (h : St w0 Rs w) : St w0 (Rs.eraseIdx j) w :=
 h.sel (fun i => if i < j then i else i + 1) (fun a b _ _ e => by split at e <;> split at e <;> omega) (fun i hi => by
  rw [List.getElem?_eraseIdx]
  split
  ·rfl
  ·rfl)
end

/-! ### Points that may be written -/
/-- A slice of points in an unfrozen block from lo on, below hi. -/
def OwnP (lo hi : Nat) (w : World) (A : Option Addr) (n : Nat) (xs : List (Int × Int)) : Prop :=
 xs.length = n ∧ (0 < n → ∃ b o T cs, A = some ⟨b, o, none⟩ ∧ lo ≤ b ∧ b < hi ∧ w.heap[b]? = some (.cells cs T (0, 0)) ∧ ∀ k, k < n → cs[o + k * 2]? = some (.int .i64 (px xs k)) ∧ cs[o + k * 2 + 1]? = some (.int .i64 (py xs k)))
section
variable {lo hi lo' hi' n : Nat} {w w' : World} {A : Option Addr} {xs : List (Int × Int)}
theorem OwnP.pts (h : OwnP lo hi w A n xs) : Pts w A n xs := ⟨h.1, fun hn => by
 obtain ⟨b, o, T, cs, rfl, h1, h2, hh, hc⟩ := h.2 hn
 refine ⟨b, o, rfl, lt_of_some hh, fun k hk => ?_⟩
 rw [cell_of_row w b _ _ T (0, 0) hh, cell_of_row w b _ _ T (0, 0) hh]
 exact hc k hk⟩
theorem OwnP.agree (h : OwnP lo hi w A n xs) (ha : ∀ p, A = some p → lo ≤ p.block → p.block < hi → w'.heap[p.block]? = w.heap[p.block]?) : OwnP lo hi w' A n xs := ⟨h.1, fun hn => by
 obtain ⟨b, o, T, cs, rfl, h1, h2, hh, hc⟩ := h.2 hn
 exact ⟨b, o, T, cs, rfl, h1, h2, (ha _ rfl h1 h2).trans hh, hc⟩⟩
theorem OwnP.wide (h : OwnP lo hi w A n xs) (h1 : lo' ≤ lo) (h2 : hi ≤ hi') : OwnP lo' hi' w A n xs := ⟨h.1, fun hn => by
 obtain ⟨b, o, T, cs, hA, h3, h4, hh⟩ := h.2 hn
 exact ⟨b, o, T, cs, hA, by omega, by omega, hh⟩⟩
theorem OwnP.nil (A : Option Addr) : OwnP lo hi w A 0 [] := ⟨rfl, fun h => absurd h (by omega)⟩
end
/-- The points k, k + 1; k + 2, k + 3; .. -/
def marks (k : Int) (n : Nat) : List (Int × Int) := (List.range n).map fun (j : Nat) => (k + 2 * (j : Int), k + 2 * (j : Int) + 1)
theorem marks_len (k : Int) (n : Nat) : (marks k n).length = n := by simp [marks]
theorem px_marks {k : Int} {n j : Nat} (h : j < n) : px (marks k n) j = k + 2 * j := by simp [px, marks, List.getD, h]
theorem py_marks {k : Int} {n j : Nat} (h : j < n) : py (marks k n) j = k + 2 * j + 1 := by simp [py, marks, List.getD, h]

/-! ### Rings that may be written -/
/-- The block of a slice's address. -/
def ablk : Option Addr → Nat
 | some p => p.block
 | none => 0
/-- A slice of rings: an unfrozen block with the slices of the rings, each with points that may be written; no two of them in one block. -/
structure OwnGd (lo hi : Nat) (w : World) (b o T : Nat) (cs : Array Value) (pl : Nat → Option Addr × Nat) (n : Nat) (rs : List Ring_) : Prop where
 low : lo ≤ b
 high : b < hi
 blk : w.heap[b]? = some (.cells cs T (0, 0))
 cell : ∀ k, k < n → cs[o + k]? = some (.slice (pl k).1 (rg rs k).length (pl k).2)
 pts : ∀ k, k < n → OwnP lo hi w (pl k).1 (rg rs k).length (rg rs k)
 off : ∀ k, k < n → 0 < (rg rs k).length → ablk (pl k).1 ≠ b
 apart : ∀ j k, j < n → k < n → j ≠ k → 0 < (rg rs j).length → 0 < (rg rs k).length → ablk (pl j).1 ≠ ablk (pl k).1
def OwnG (lo hi : Nat) (w : World) (A : Option Addr) (n : Nat) (rs : List Ring_) : Prop :=
 rs.length = n ∧ (∀ k, k < n → ((rg rs k).length : Int) ≤ 1099511627776) ∧ (0 < n → ∃ b o T cs pl, A = some ⟨b, o, none⟩ ∧ OwnGd lo hi w b o T cs pl n rs)
section
variable {lo hi lo' hi' n : Nat} {w w' : World} {A : Option Addr} {rs : List Ring_}
theorem OwnGd.agree {b o T : Nat} {cs : Array Value} {pl : Nat → Option Addr × Nat} (h : OwnGd lo hi w b o T cs pl n rs) (ha : ∀ b, lo ≤ b → b < hi → w'.heap[b]? = w.heap[b]?) : OwnGd lo hi w' b o T cs pl n rs :=
 ⟨h.low, h.high, (ha b h.low h.high).trans h.blk, h.cell, fun k hk => (h.pts k hk).agree fun p _ h1 h2 => ha _ h1 h2, h.off, h.apart⟩
theorem OwnGd.wide {b o T : Nat} {cs : Array Value} {pl : Nat → Option Addr × Nat} (h : OwnGd lo hi w b o T cs pl n rs) (h1 : lo' ≤ lo) (h2 : hi ≤ hi') : OwnGd lo' hi' w b o T cs pl n rs :=
 ⟨Nat.le_trans h1 h.low, Nat.lt_of_lt_of_le h.high h2, h.blk, h.cell, fun k hk => (h.pts k hk).wide h1 h2, h.off, h.apart⟩
theorem OwnG.agree (h : OwnG lo hi w A n rs) (ha : ∀ b, lo ≤ b → b < hi → w'.heap[b]? = w.heap[b]?) : OwnG lo hi w' A n rs := ⟨h.1, h.2.1, fun hn => by
 obtain ⟨b, o, T, cs, pl, hA, hd⟩ := h.2.2 hn
 exact ⟨b, o, T, cs, pl, hA, hd.agree ha⟩⟩
theorem OwnG.wide (h : OwnG lo hi w A n rs) (h1 : lo' ≤ lo) (h2 : hi ≤ hi') : OwnG lo' hi' w A n rs := ⟨h.1, h.2.1, fun hn => by
 obtain ⟨b, o, T, cs, pl, hA, hd⟩ := h.2.2 hn
 exact ⟨b, o, T, cs, pl, hA, hd.wide h1 h2⟩⟩
theorem OwnG.nil (A : Option Addr) : OwnG lo hi w A 0 [] := ⟨rfl, fun k hk => absurd hk (by omega), fun h => absurd h (by omega)⟩
end
/-! ### Results in memory -/
abbrev ptsR (n : Nat) (xs : List (Int × Int)) (lo hi : Nat) (A : Option Addr) : Res := .clo lo hi (fun w => OwnP lo hi w A n xs)
theorem ptsP {lo hi n : Nat} {w : World} {A : Option Addr} {xs : List (Int × Int)} (h : OwnP lo hi w A n xs) (hz : hi ≤ w.heap.size) : (ptsR n xs lo hi A).P w := ⟨hz, fun w' _ ha => h.agree fun p _ h1 h2 => ha _ h1 h2⟩
theorem ptsG {lo hi n : Nat} {w : World} {A : Option Addr} {xs : List (Int × Int)} (h : (ptsR n xs lo hi A).P w) : OwnP lo hi w A n xs := h.2 w h.1 fun _ _ _ => rfl
section
variable {n : Nat} {env : List (Nat × Value)} {w0 : Bs} {Rs : List Res} {K : Act → World → Prop}
end
end Go.Proofs.Ytjhaakollekjeaa
