import Derived.Test.YtjhaakollekjeaaR18
import Derived.Shelf.Bits.Mul64
import Derived.Laws.BitsAllLaws
import Derived.Shelf.SlSortCmp.WholeK
import Derived.Test.YtjhaakollekjeaaR17
namespace Go.Proofs.Ytjhaakollekjeaa
open Go Go.RowKit
set_option linter.unusedVariables false
set_option linter.unusedSimpArgs false
set_option maxRecDepth 100000
set_option maxHeartbeats 4000000
set_option linter.unusedVariables false
set_option linter.unusedSimpArgs false

/-- The square of a distance; how far along. -/
def dsq (a b : Pn) : Int := (b.1 - a.1) * (b.1 - a.1) + (b.2 - a.2) * (b.2 - a.2)
def alg (a b p : Pn) : Int := (p.1 - a.1) * (b.1 - a.1) + (p.2 - a.2) * (b.2 - a.2)
def nearS (a b p : Pn) (r : Int) : Bool :=
 if dsq a p ≤ r * r ∨ dsq b p ≤ r * r then true else if alg a b p ≤ 0 ∨ dsq a b ≤ alg a b p then false else decide (tn a b p * tn a b p ≤ r * r * dsq a b)
/-! ### Sizes -/
/-! ### Products of two words -/
/-! ### The reference's words of 31 bits -/
/-! ### Near, walked -/
/-! ### Which points stay -/
/-- How far a point of a path is off. -/
def offP (a b p : Pn) : Int := if a = b then dsq a p else max (tn a b p) (-tn a b p)
/-- The farthest of the first k points behind the first one that are not near: its index, how far. -/
def scanT (a b : Pn) (r : Int) (xs : List (Int × Int)) : Nat → Int × Int
 | 0 => (-1, -1)
 | k + 1 => if nearS a b (pt xs (k + 1)) r = true then scanT a b r xs k else if (scanT a b r xs k).2 < offP a b (pt xs (k + 1)) then (((k + 1 : Nat) : Int), offP a b (pt xs (k + 1))) else scanT a b r xs k
def far (r : Int) (xs : List (Int × Int)) : Int := (scanT (pt xs 0) (pt xs (xs.length - 1)) r xs (xs.length - 2)).1
/-! ### Pieces of a path -/
/-- Points that are valid, at most 402 of them. -/
def okPath (xs : List (Int × Int)) : Prop := xs.length ≤ 402 ∧ ∀ p ∈ xs, bd2 p
theorem okPath.at_ {xs : List (Int × Int)} (h : okPath xs) {k : Nat} (hk : k < xs.length) : bd2 (pt xs k) := by
 have := h.2 xs[k] (List.getElem_mem hk)
 rwa [at_p hk] at this
theorem okPath.take {xs : List (Int × Int)} (h : okPath xs) (k : Nat) : okPath (xs.take k) := ⟨by rw [List.length_take]; have := h.1; omega, fun p hp => h.2 p (List.mem_of_mem_take hp)⟩
theorem okPath.drop {xs : List (Int × Int)} (h : okPath xs) (k : Nat) : okPath (xs.drop k) := ⟨by rw [List.length_drop]; have := h.1; omega, fun p hp => h.2 p (List.mem_of_mem_drop hp)⟩
section
variable {n : Nat} {env : List (Nat × Value)} {w0 : Bs} {Rs : List Res} {K : Act → World → Prop}
/-- A slice with its elements given, as a row. -/
theorem at_rowM (k s m : Nat) (hX : w0.X = []) {b U : Nat} {cs : List Value} (hk : Rs[k]? = some (.cel b U cs)) (hl : cs.length = m * s) (hm : m ≤ maxLen) (h : At n env w0 (Rs.set k (.row w0.N U s (.slice (some ⟨b, 0, none⟩) m m) m cs)) K) : At n env w0 Rs K := fun a w hf hs => by
 have hlow : w0.N ≤ b := ((hs.all k _ hk).2.1 b rfl).elim id (fun h => by rw [hX] at h; cases h)
 refine h a w hf (hs.chg hk (fun hP => ?_) (fun c hc => ?_) rfl)
 ·exact ⟨hl, .inr ⟨b, m, cs.toArray, rfl, hlow, hP, Nat.le_refl _, hm, by simp [hl], by simp [← hl]⟩⟩
 ·have : some b = some c := hc
  injection this with this
  exact this.symm
end
end Go.Proofs.Ytjhaakollekjeaa

namespace Go.Proofs.Ytjhaakollekjeaa
open Go Go.RowKit
set_option linter.unusedVariables false
set_option linter.unusedSimpArgs false
set_option maxRecDepth 100000
set_option maxHeartbeats 4000000
set_option linter.unusedVariables false
set_option linter.unusedSimpArgs false

/-! ### Ascending lists -/
/-- By Y, then X. -/
def ltY (p q : Pn) : Prop := p.2 < q.2 ∨ (p.2 = q.2 ∧ p.1 < q.1)
instance (p q : Pn) : Decidable (ltY p q) := by unfold ltY; exact inferInstance
theorem pt_at {xs : List Pn} {k : Nat} (h : k < xs.length) : xs[k] = pt xs k := at_p h
/-! ### Crossings -/
section
variable {P : Program} {n : Nat} {env : List (Nat × Value)} {w0 : Bs} {Rs : List Res} {ops : Array Oper} {Q : Exit → Act → World → Prop} {K : Act → World → Prop} {o : Oper}
end
/-! ### The points of edges, in the order in which they are found -/
end Go.Proofs.Ytjhaakollekjeaa

namespace Go.Proofs.Ytjhaakollekjeaa
open Go Go.Shelf Go.RowKit Go.Lib Go.Sort
set_option linter.unusedVariables false
set_option linter.unusedSimpArgs false
end Go.Proofs.Ytjhaakollekjeaa

namespace Go.Proofs.Ytjhaakollekjeaa
open Go Go.RowKit
set_option linter.unusedVariables false
set_option linter.unusedSimpArgs false
section
variable {P : Program} {n : Nat} {env : List (Nat × Value)} {w0 : Bs} {Rs : List Res} {o : Oper} {Q : Exit → Act → World → Prop} {K : Act → World → Prop}
theorem row_cell {w : World} {B T s m i : Nat} {xs : List Value} {x : Option Addr × Nat} {v : Value} (h : (rowR B T s m xs x).P w) (hv : xs[i]? = some v) : w.cell? ⟨ablk x.1, i, none⟩ = some v := by
 have h : w.ownsRow B T s (.slice x.1 m x.2) m xs := h
 have hi := (List.getElem?_eq_some_iff.1 hv).1
 rcases h.2 with ⟨_, e⟩ | ⟨g, cap, cur, e, hb, hg, hcap, hmax, hsz, htk⟩
 ·have := h.1
  rw [e, Nat.zero_mul] at this
  omega
 ·injection e with e1
  rw [e1, ablk, cell_of_row w g i cur T (0, 0) hg]
  have h1 := h.1
  rw [← htk, List.getElem?_take, if_pos (by omega)] at hv
  simpa using hv
end
end Go.Proofs.Ytjhaakollekjeaa

namespace Go.Proofs.Ytjhaakollekjeaa
open Go Go.RowKit
set_option linter.unusedVariables false
set_option linter.unusedSimpArgs false

/-! ### Rows of numbers -/
def nth (xs : List Int) (k : Nat) : Int := xs.getD k 0
/-- The slice with address A and length n reads as the numbers xs. -/
def Nums (w : World) (A : Option Addr) (n : Nat) (xs : List Int) : Prop := xs.length = n ∧ (0 < n → ∃ b o, A = some ⟨b, o, none⟩ ∧ b < w.heap.size ∧ ∀ k, k < n → w.cell? ⟨b, o + k, none⟩ = some (.int .i64 (nth xs k)))
theorem Nums.over {w w' : World} {A : Option Addr} {n : Nat} {xs : List Int} (h : Nums w A n xs) (hb : Over w w') : Nums w' A n xs := by
 refine ⟨h.1, fun hn => ?_⟩
 obtain ⟨b, o, hA, hlt, hc⟩ := h.2 hn
 exact ⟨b, o, hA, Nat.lt_of_lt_of_le hlt hb.size, fun k hk => ((ocell hb).1 b _ hlt).trans (hc k hk)⟩
end Go.Proofs.Ytjhaakollekjeaa

namespace Go.Proofs.Ytjhaakollekjeaa
open Go Go.RowKit
set_option linter.unusedVariables false
set_option linter.unusedSimpArgs false
section
variable {P : Program} {n : Nat} {env : List (Nat × Value)} {w0 : Bs} {Rs : List Res} {o : Oper}
variable {x y : Operand} {T T' : TypeId} {p q : Int}
theorem qt_addU (ho : o.op = .binOp .add T x y T') (hx : ev env x = some (.int .u64 p)) (hy : ev env y = some (.int .u64 q)) : Qt P o n env w0 Rs (.int .u64 (IntKind.u64.wrap (p + q))) :=
 qt_of fun a w hf _ => by unfold execOp; simp only [ho, hf.ev hx, hf.ev hy]; simp [go_sem]
theorem qt_convI {k k' : IntKind} {d : TypeDesc} (ho : o.op = .convert T T' x) (hs : P.underlying T = some d) (hd : P.underlying T' = some (.int k')) (hx : ev env x = some (.int k p)) (hw : k'.wrap p = p) : Qt P o n env w0 Rs (.int k' p) :=
 qt_of fun a w hf _ => by
  have h1 : (convert T T' (.int k p)).run P w = .ok (.int k' p) w := by
   unfold convert
   simp only [Sem.run_bind, run_underlying hs, run_underlying hd, Result.andThen_ok]
   simp [Conv.intToInt, hw]
  unfold execOp; simp only [ho, hf.ev hx]; simp [go_sem, h1]
end
theorem u64_in (a : Int) (h : 0 ≤ a) (h2 : a < 18446744073709551616) : IntKind.u64.wrap a = a := by simp [IntKind.wrap, IntKind.bits, IntKind.signed]; omega
/-- Bytes to read. -/
def Byts (w : World) (A : Option Addr) (n : Nat) (zs : List Int) : Prop := zs.length = n ∧ (∀ z ∈ zs, 0 ≤ z ∧ z ≤ 255) ∧ (0 < n → ∃ b o, A = some ⟨b, o, none⟩ ∧ b < w.heap.size ∧ ∀ k, k < n → w.cell? ⟨b, o + k, none⟩ = some (.int .u8 (nth zs k)))
theorem Byts.agree {w w' : World} {A : Option Addr} {n : Nat} {zs : List Int} (h : Byts w A n zs) (hz : w.heap.size ≤ w'.heap.size) (ha : ∀ p, A = some p → w'.heap[p.block]? = w.heap[p.block]?) : Byts w' A n zs := by
 refine ⟨h.1, h.2.1, fun hn => ?_⟩
 obtain ⟨b, o, rfl, hlt, hc⟩ := h.2.2 hn
 refine ⟨b, o, rfl, by omega, fun k hk => ?_⟩
 rw [← hc k hk]
 have := ha _ rfl
 simp only [World.cell?, this]
theorem Byts.over {w w' : World} {A : Option Addr} {n : Nat} {zs : List Int} (h : Byts w A n zs) (hb : Over w w') : Byts w' A n zs := by
 refine ⟨h.1, h.2.1, fun hn => ?_⟩
 obtain ⟨b, o, hA, hlt, hc⟩ := h.2.2 hn
 exact ⟨b, o, hA, Nat.lt_of_lt_of_le hlt hb.size, fun k hk => ((ocell hb).1 b _ hlt).trans (hc k hk)⟩
end Go.Proofs.Ytjhaakollekjeaa
