import Derived.Test.YtjhaakollekjeaaF9
import Derived.Test.YtjhaakollekjeaaF7
import Derived.Test.YtjhaakollekjeaaF8
import Derived.Still
import Derived.ArgAppend
import Derived.Shelf.SlSortCmp.WholeK
import Derived.Test.YtjhaakollekjeaaF5
namespace Go.Proofs.Ytjhaakollekjeaa
open Go Go.RowKit
set_option linter.unusedVariables false

theorem neSelf (a : Int) : (!(a == a)) = false := by simp
theorem notTrue : (!true) = false := rfl
/-- A region that is not too large. -/
def smallR (rs : List Ring_) : Prop := rs.length ≤ 2000 ∧ ∀ j, j < rs.length → (rg rs j).length ≤ 500
theorem smallR_sum {rs : List Ring_} (h : smallR rs) : ∀ k, k ≤ rs.length → sumTo rs k ≤ 500 * k
 | 0, _ => by simp [sumTo]
 | k + 1, hk => by
  have := smallR_sum h k (by omega)
  have := h.2 k (by omega)
  simp only [sumTo]
  omega
theorem smallR.total {rs : List Ring_} (h : smallR rs) : (Go.Proofs.Ytjhaakollekjeaa.total rs : Int) ≤ 1048576 := by
 have := smallR_sum h rs.length (Nat.le_refl _)
 have := h.1
 unfold Go.Proofs.Ytjhaakollekjeaa.total
 omega
theorem smallR.sum {rs : List Ring_} (h : smallR rs) {n : Nat} (hn : rs.length = n) : 1 + 2 * (sumTo rs n : Nat) ≤ (4611686018427387904 : Int) ∧ n ≤ 4611686018427387904 := by
 have := smallR_sum h n (by omega)
 have := h.1
 omega
theorem smallR.nil : smallR [] := ⟨by simp, fun j hj => absurd hj (by simp)⟩
theorem smallR.of {rs : List Ring_} (h : regionB rs = true) : smallR rs := ⟨by have := reg_len h; omega, fun j hj => by have := pos_of_ring (regRing h hj); omega⟩
section
variable {w0 : Bs} {Rs : List Res}
/-- A region that a call has made, as rings to read; as one to write. -/
theorem gegS {k n lo hi : Nat} {A : Option Addr} {rs : List Ring_} (hk : Rs[k]? = some (gegR n rs lo hi A)) (w : World) (hs : St w0 Rs w) : OwnG lo hi w A n rs := gegG (hs.all k _ hk).1
theorem gegH {k n lo hi : Nat} {A : Option Addr} {rs : List Ring_} (hk : Rs[k]? = some (gegR n rs lo hi A)) (w : World) (hs : St w0 Rs w) : hi ≤ w.heap.size := (hs.all k _ hk).1.1
theorem gegRings {k n lo hi : Nat} {A : Option Addr} {rs : List Ring_} (hk : Rs[k]? = some (gegR n rs lo hi A)) (w : World) (hs : St w0 Rs w) : Rings w A n rs := (gegS hk w hs).rings
end
/-- Marks of a region, as the law's call turns them. -/
theorem markGeg {lo hi n c : Nat} {A : Option Addr} {rs : List Ring_} {w : World} (h : OwnG lo hi w A n rs) (hz : hi ≤ w.heap.size) (hb : 1 + 2 * (sumTo rs n : Nat) ≤ (4611686018427387904 : Int) ∧ n ≤ 4611686018427387904) :
  Calls Try.prog 17 #[regV A n c, .int .i64 1] w fun e w' => e = .returned (.int .i64 (1 + 2 * (sumTo rs n : Nat))) ∧ Wrs (gegR n rs lo hi A).F w w' ∧ (gegR n (marksR 1 rs) lo hi A).P w' :=
 (markRegion_any lo hi A n c rs 1 w h hz (by omega) hb.1 hb.2).mono (by rintro e w' ⟨he, hw, hg⟩; exact ⟨he, hw, gegP hg (Nat.le_trans hz hw.size)⟩)
theorem heldGeg {n c : Nat} {A : Option Addr} {rs : List Ring_} {w : World} (h : Rings w A n (marksR 1 rs)) (hb : 1 + 2 * (sumTo rs n : Nat) ≤ (4611686018427387904 : Int) ∧ n ≤ 4611686018427387904) :
  Calls Try.prog 18 #[regV A n c, .int .i64 1] w fun e w' => e = .returned (.int .i64 (1 + 2 * (sumTo rs n : Nat))) ∧ Over w w' := heldRegion_any A n c rs 1 w h (by omega) hb.1 hb.2
theorem posF (k : Nat) : decide ((1 : Int) + 2 * (k : Int) < 0) = false := decide_eq_false (by omega)
/-- A region and a code, as what a call has made. -/
theorem gegCode {P : Program} {f : FuncId} {args : Array Value} {w1 : World} {rs : List Ring_} {code : Int} (h : Calls P f args w1 fun e w' => ∃ A' c', e = .returned (.tuple #[regV A' rs.length c', .int .i64 code]) ∧ OwnG w1.heap.size w'.heap.size w' A' rs.length rs ∧ Over w1 w') :
  Calls P f args w1 fun e w' => ∃ x : (Option Addr × Nat) × Nat × Nat, e = .returned (.tuple #[regV x.1.1 rs.length x.1.2, .int .i64 code]) ∧ Over w1 w' ∧ (gegR rs.length rs x.2.1 x.2.2 x.1.1).P w' ∧ (∀ b, (gegR rs.length rs x.2.1 x.2.2 x.1.1).F b → w1.heap.size ≤ b) ∧ (gegR rs.length rs x.2.1 x.2.2 x.1.1).B = 0 ∧ True :=
 gegNew (V := fun A c => .tuple #[regV A rs.length c, .int .i64 code]) h
/-! ### Rings as what a call has made -/
end Go.Proofs.Ytjhaakollekjeaa

namespace Go.Proofs.Ytjhaakollekjeaa
open Go Go.RowKit
set_option linter.unusedVariables false
set_option linter.unusedSimpArgs false

section
variable {w : World} {w0 : Bs} {Rs : List Res}
end

end Go.Proofs.Ytjhaakollekjeaa

namespace Go.Proofs.Ytjhaakollekjeaa
open Go Go.RowKit
set_option linter.unusedVariables false

def lA (l : Leg) : Pn := (l.ax, l.ay)
section
variable {P : Program} {n : Nat} {w0 : Bs} {Rs : List Res} {ops : Array Oper} {Q : Exit → Act → World → Prop} {K : Act → World → Prop}
/-- The operation is carried out; it is not. -/
def Wants (ops : Array Oper) (env : List (Nat × Value)) (o : Oper) : Prop := o.guard = none ∨ ∃ j c oj dj, o.guard = some (j, c) ∧ ops[j]? = some oj ∧ oj.dst = some dj ∧ look env dj = some (.bool c)
def Leaves (ops : Array Oper) (env : List (Nat × Value)) (o : Oper) : Prop := ∃ j c oj dj, o.guard = some (j, c) ∧ ops[j]? = some oj ∧ oj.dst = some dj ∧ (look env dj = some undef ∨ ∃ b, look env dj = some (.bool b) ∧ b ≠ c)
theorem Wants.wanted {env : List (Nat × Value)} {o : Oper} {a : Act} (h : Wants ops env o) (hf : Frm n env a) : Region.wanted o (yielded ops a.tmps) = true := by
 rcases h with h | ⟨j, c, oj, dj, hg, hj, hdj, hb⟩
 ·simp [Region.wanted, h]
 ·simp [Region.wanted, hg, yields hf hj hdj hb]
theorem Leaves.wanted {env : List (Nat × Value)} {o : Oper} {a : Act} (h : Leaves ops env o) (hf : Frm n env a) : Region.wanted o (yielded ops a.tmps) = false := by
 obtain ⟨j, c, oj, dj, hg, hj, hdj, hb | ⟨b, hb, hne⟩⟩ := h
 ·simp [Region.wanted, hg, yields_not hf hj hdj hb]
 ·simp [Region.wanted, hg, yields hf hj hdj hb, hne]
/-! ### The check, made cheap -/
theorem Frm.congr {env env' : List (Nat × Value)} {a : Act} (h : Frm n env a) (he : ∀ t, look env' t = look env t) : Frm n env' a := ⟨h.size, fun t v hv => h.get t v (by rw [← he]; exact hv), h.defers⟩
end
section
variable {w0 : Bs} {Rs : List Res}
end
section
variable {w : World} {Rs : List Res}
end
end Go.Proofs.Ytjhaakollekjeaa

namespace Go.Proofs.Ytjhaakollekjeaa
open Go Go.RowKit
set_option linter.unusedVariables false

section
variable {P : Program} {n : Nat} {env : List (Nat × Value)} {w0 : Bs} {Rs : List Res} {ops : Array Oper} {Q : Exit → Act → World → Prop} {K : Act → World → Prop} {o : Oper}
end
/-! ### A point taken out -/
def pt (xs : List (Int × Int)) (k : Nat) : Pn := (px xs k, py xs k)
/-- Points that are valid, at most 401 of them. -/
def okPts (xs : List (Int × Int)) : Prop := xs.length ≤ 401 ∧ ∀ p ∈ xs, bd2 p
theorem okPts.at_ {xs : List (Int × Int)} (h : okPts xs) {k : Nat} (hk : k < xs.length) : bd2 (pt xs k) := by
 have := h.2 xs[k] (List.getElem_mem hk)
 rwa [at_p hk] at this
theorem okPts.of {xs : List (Int × Int)} (h : ringB xs = true) : okPts xs := by
 have h1 := pos_of_ring h
 refine ⟨by omega, fun p hp => ?_⟩
 simp only [ringB, Bool.and_eq_true, allOk, List.all_eq_true] at h
 have := h.2 p hp
 simp [okB, inB] at this
 exact ⟨⟨by omega, by omega⟩, by omega, by omega⟩
end Go.Proofs.Ytjhaakollekjeaa

namespace Go.Proofs.Ytjhaakollekjeaa
open Go Go.RowKit
set_option linter.unusedVariables false
set_option linter.unusedSimpArgs false
set_option maxRecDepth 100000
set_option maxHeartbeats 4000000
set_option linter.unusedVariables false
set_option linter.unusedSimpArgs false

/-! ### Ascending lists -/
/-- By Y, then X. -/
def ltY (p q : Pn) : Prop := p.2 < q.2 ∨ (p.2 = q.2 ∧ p.1 < q.1)
instance (p q : Pn) : Decidable (ltY p q) := by unfold ltY; exact inferInstance
theorem pt_at {xs : List Pn} {k : Nat} (h : k < xs.length) : xs[k] = pt xs k := at_p h
/-- The list without neighbours that are the same. -/
def compP : List Pn → List Pn
 | [] => []
 | [p] => [p]
 | p :: q :: l => if p = q then compP (q :: l) else p :: compP (q :: l)
/-! ### Crossings -/
/-- A point whose coordinates are far from the words' bounds. -/
def bdW (p : Pn) : Prop := (-1152921504606846976 ≤ p.1 ∧ p.1 ≤ 1152921504606846976) ∧ -1152921504606846976 ≤ p.2 ∧ p.2 ≤ 1152921504606846976
section
variable {P : Program} {n : Nat} {env : List (Nat × Value)} {w0 : Bs} {Rs : List Res} {ops : Array Oper} {Q : Exit → Act → World → Prop} {K : Act → World → Prop} {o : Oper}
end
/-! ### The points of edges, in the order in which they are found -/
end Go.Proofs.Ytjhaakollekjeaa

namespace Go.Proofs.Ytjhaakollekjeaa
open Go Go.Shelf Go.RowKit Go.Lib Go.Sort
set_option linter.unusedVariables false
set_option linter.unusedSimpArgs false
end Go.Proofs.Ytjhaakollekjeaa

namespace Go.Proofs.Ytjhaakollekjeaa
open Go Go.RowKit
set_option linter.unusedVariables false
set_option linter.unusedSimpArgs false
section
variable {P : Program} {n : Nat} {env : List (Nat × Value)} {w0 : Bs} {Rs : List Res} {o : Oper} {Q : Exit → Act → World → Prop} {K : Act → World → Prop}
theorem row_adr {w : World} {B T s m : Nat} {xs : List Value} {x : Option Addr × Nat} (h : (rowR B T s m xs x).P w) (h0 : 0 < m) : x.1 = some ⟨ablk x.1, 0, none⟩ := by
 have h : w.ownsRow B T s (.slice x.1 m x.2) m xs := h
 rcases h.2 with ⟨_, e⟩ | ⟨g, cap, cur, e, _⟩
 ·omega
 ·injection e with e1
  rw [e1]
  rfl
theorem row_cell {w : World} {B T s m i : Nat} {xs : List Value} {x : Option Addr × Nat} {v : Value} (h : (rowR B T s m xs x).P w) (hv : xs[i]? = some v) : w.cell? ⟨ablk x.1, i, none⟩ = some v := by
 have h : w.ownsRow B T s (.slice x.1 m x.2) m xs := h
 have hi := (List.getElem?_eq_some_iff.1 hv).1
 rcases h.2 with ⟨_, e⟩ | ⟨g, cap, cur, e, hb, hg, hcap, hmax, hsz, htk⟩
 ·have := h.1
  rw [e, Nat.zero_mul] at this
  omega
 ·injection e with e1
  rw [e1, ablk, cell_of_row w g i cur T (0, 0) hg]
  have h1 := h.1
  rw [← htk, List.getElem?_take, if_pos (by omega)] at hv
  simpa using hv
theorem qt_indexR {T U : TypeId} {x y : Operand} {k B m j s : Nat} {xs : List Value} {r : Option Addr × Nat} (hk : Rs[k]? = some (rowR B U s m xs r)) (ho : o.op = .indexAddr T x y) (hx : ev env x = some (.slice r.1 m r.2)) (hy : ev env y = some (.int .i64 (j : Int))) (hT : TyL P T U s) (hj : j < m) :
  Qt P o n env w0 Rs (.pointer (some ⟨ablk r.1, 0 + j * s, none⟩)) := fun a w hf hs => by
 have e := row_adr (hs.all k _ hk).1 (by omega)
 rw [e] at hx
 exact qt_index (j := j) ho hx hy hT hj a w hf hs
/-- A field of an element of a row. -/
theorem rdRow {α : Type} {f : α → List Value} {m k B T q : Nat} {r : Option Addr × Nat} {l : List α} {j i off : Nat} {a : α} {v : Value} (hf : ∀ a, (f a).length = m) (hk : Rs[k]? = some (rowR B T m q (l.flatMap f) r)) (ha : l[j]? = some a) (hv : (f a)[i]? = some v) (he : off = 0 + j * m + i) : ∀ w, St w0 Rs w → w.cell? ⟨ablk r.1, off, none⟩ = some v := fun w hs => by
 refine row_cell (hs.all k _ hk).1 ?_
 have hi := (List.getElem?_eq_some_iff.1 hv).1
 obtain ⟨hj, e⟩ := List.getElem?_eq_some_iff.1 ha
 rw [he, Nat.zero_add, flat_at f m hf l j i hj (by rw [hf] at hi; exact hi), e]
 exact hv
theorem sub_at {pre vs post : List Value} {q : Nat} {v : Value} (h : vs[q]? = some v) : (pre ++ vs ++ post)[pre.length + q]? = some v := by
 have hq := (List.getElem?_eq_some_iff.1 h).1
 rw [List.append_assoc, List.getElem?_append_right (by omega), List.getElem?_append_left (by omega)]
 rw [show pre.length + q - pre.length = q by omega]
 exact h
theorem rdRowS {α : Type} {f : α → List Value} {m k B T q : Nat} {r : Option Addr × Nat} {l : List α} {j off : Nat} {a : α} {vs : List Value} (pre post : List Value) (hf : ∀ a, (f a).length = m) (hk : Rs[k]? = some (rowR B T m q (l.flatMap f) r)) (ha : l[j]? = some a) (h : f a = pre ++ vs ++ post) (he : off = 0 + j * m + pre.length) : ∀ w, St w0 Rs w → ∀ q v, vs[q]? = some v → w.cell? ⟨ablk r.1, off + q, none⟩ = some v := fun w hs q v hv =>
 rdRow (i := pre.length + q) hf hk ha (by rw [h]; exact sub_at hv) (by omega) w hs
theorem src_takeR {w : World} {B T s m j : Nat} {xs : List Value} {x : Option Addr × Nat} (h : (rowR B T s m xs x).P w) (hj : j ≤ m) : Src s (sliced x.1 0 j x.2 s) j (xs.take (j * s)) w := by
 have h : w.ownsRow B T s (.slice x.1 m x.2) m xs := h
 have hm : j * s ≤ m * s := Nat.mul_le_mul_right s hj
 refine ⟨by rw [List.length_take, h.1]; omega, ?_⟩
 rcases h.2 with ⟨e, e0⟩ | ⟨g, cap, cur, e, hb, hg, hcap, hmax, hsz, htk⟩
 ·left
  have hj0 : j = 0 := by omega
  injection e with e1 _ e3
  rw [e1, e3, hj0]
  exact ⟨rfl, rfl⟩
 ·right
  injection e with e1 _ e3
  refine ⟨⟨g, 0, none⟩, x.2, ?_, fun q u hu => ?_⟩
  ·rw [e1]
   unfold sliced
   split
   ·rfl
   ·simp [add_none]
  ·have hq := (List.getElem?_eq_some_iff.1 hu).1
   rw [List.length_take] at hq
   rw [List.getElem?_take, if_pos (by omega), ← htk, List.getElem?_take, if_pos (by have := h.1; omega)] at hu
   rw [add_none, Nat.zero_add, cell_of_row w g q cur T (0, 0) hg]
   simpa using hu
end
end Go.Proofs.Ytjhaakollekjeaa

namespace Go.Proofs.Ytjhaakollekjeaa
open Go Go.RowKit
set_option linter.unusedVariables false
set_option linter.unusedSimpArgs false
/-- A slice that reads as the list l; each element takes m cells. -/
def Els {α : Type} (f : α → List Value) (m : Nat) (w : World) (A : Option Addr) (n : Nat) (l : List α) : Prop :=
 l.length = n ∧ (0 < n → ∃ b o, A = some ⟨b, o, none⟩ ∧ b < w.heap.size ∧ ∀ k x, l[k]? = some x → ∀ q v, (f x)[q]? = some v → w.cell? ⟨b, o + k * m + q, none⟩ = some v)
section
variable {α : Type} {f : α → List Value} {m n : Nat} {A : Option Addr} {l : List α}
theorem Els.over {w w' : World} (h : Els f m w A n l) (ho : Over w w') : Els f m w' A n l := by
 refine ⟨h.1, fun hn => ?_⟩
 obtain ⟨b, o, hA, hlt, hc⟩ := h.2 hn
 exact ⟨b, o, hA, Nat.lt_of_lt_of_le hlt ho.size, fun k x hk q v hv => ((ocell ho).1 b _ hlt).trans (hc k x hk q v hv)⟩
theorem Els.at_ {w : World} (h : Els f m w A n l) (hn : 0 < n) : ∃ b o, A = some ⟨b, o, none⟩ ∧ b < w.heap.size := by
 obtain ⟨b, o, hA, hlt, _⟩ := h.2 hn
 exact ⟨b, o, hA, hlt⟩
theorem Els.cell {w : World} {b o k q : Nat} {x : α} {v : Value} (h : Els f m w (some ⟨b, o, none⟩) n l) (hk : l[k]? = some x) (hv : (f x)[q]? = some v) : b < w.heap.size ∧ w.cell? ⟨b, o + k * m + q, none⟩ = some v := by
 have hlt := (List.getElem?_eq_some_iff.1 hk).1
 obtain ⟨b', o', e, hb, hc⟩ := h.2 (by have := h.1; omega)
 injection e with e
 injection e with e1 e2 _
 subst e1 e2
 exact ⟨hb, hc k x hk q v hv⟩
/-- Some cells of an element. -/
theorem rdES {w : World} {Rs : List Res} {b o k off : Nat} {x : α} (vs : List Value) (i : Nat) (h : Els f m w (some ⟨b, o, none⟩) n l) (hk : l[k]? = some x) (hv : ∀ q v, vs[q]? = some v → (f x)[i + q]? = some v) (he : off = o + k * m + i) : ∀ w', St ⟨w, []⟩ Rs w' → ∀ q v, vs[q]? = some v → w'.cell? ⟨b, off + q, none⟩ = some v := fun w' hs q v hq => by
 subst he
 have := ((h.over hs.fin).cell hk (hv q v hq)).2
 rwa [← Nat.add_assoc] at this
theorem Els.nil (A : Option Addr) (w : World) : Els f m w A 0 [] := ⟨rfl, fun h => absurd h (by omega)⟩
/-- A row reads so. -/
theorem Els.row {w : World} {B T : Nat} {x : Option Addr × Nat} (h : (rowR B T m n (l.flatMap f) x).P w) (hf : ∀ a, (f a).length = m) (hl : l.length = n) : Els f m w x.1 n l := by
 refine ⟨hl, fun hn => ⟨ablk x.1, 0, row_adr h hn, ?_, fun k a hk q v hv => ?_⟩⟩
 ·have h' : w.ownsRow B T m (.slice x.1 n x.2) n (l.flatMap f) := h
  rcases h'.2 with ⟨_, e⟩ | ⟨g, cap, cur, e, hb, hg, _⟩
  ·omega
  ·injection e with e1
   rw [e1]
   exact lt_of_some hg
 ·obtain ⟨hj, e⟩ := List.getElem?_eq_some_iff.1 hk
  refine row_cell h ?_
  have hi := (List.getElem?_eq_some_iff.1 hv).1
  rw [Nat.zero_add, flat_at f m hf l k q hj (by rw [hf] at hi; exact hi), e]
  exact hv
/-- A block just made reads so. -/
theorem Els.cel {w : World} {b T : Nat} (h : (Res.cel b T (l.flatMap f)).P w) (hf : ∀ a, (f a).length = m) (hl : l.length = n) : Els f m w (some ⟨b, 0, none⟩) n l := by
 have hh : w.heap[b]? = some (.cells (l.flatMap f).toArray T (0, 0)) := h
 refine ⟨hl, fun hn => ⟨b, 0, rfl, lt_of_some hh, fun k a hk q v hv => ?_⟩⟩
 obtain ⟨hj, e⟩ := List.getElem?_eq_some_iff.1 hk
 have hi := (List.getElem?_eq_some_iff.1 hv).1
 rw [cell_of_row w b _ _ T (0, 0) hh, List.getElem?_toArray, Nat.zero_add, flat_at f m hf l k q hj (by rw [hf] at hi; exact hi), e]
 exact hv
/-- Elements one by one: the first k are in place. -/
def fillE (f : α → List Value) (z : List Value) (l : List α) (k : Nat) : List Value := (l.take k).flatMap f ++ (List.replicate (l.length - k) z).flatten
theorem fillE_zero (z : List Value) : fillE f z l 0 = (List.replicate l.length z).flatten := by simp [fillE]
theorem fillE_end (z : List Value) : fillE f z l l.length = l.flatMap f := by simp [fillE]
theorem fillE_len {z : List Value} (hf : ∀ a, (f a).length = m) (hz : z.length = m) {k : Nat} (hk : k ≤ l.length) : (fillE f z l k).length = l.length * m := by
 unfold fillE
 rw [List.length_append, flat_len f m hf, List.length_take, Nat.min_eq_left hk]
 have : (List.replicate (l.length - k) z).flatten.length = (l.length - k) * m := by
  rw [List.length_flatten, List.map_replicate, hz, List.sum_replicate_nat]
 rw [this, ← Nat.add_mul]
 congr 1
 omega
theorem fillE_step {z : List Value} (hf : ∀ a, (f a).length = m) (hz : z.length = m) {k off : Nat} {x : α} (hk : l[k]? = some x) (he : off = 0 + k * m) : splice (fillE f z l k) off (f x) = fillE f z l (k + 1) := by
 obtain ⟨hj, e⟩ := List.getElem?_eq_some_iff.1 hk
 unfold fillE
 have e1 : l.length - k = (l.length - (k + 1)) + 1 := by omega
 have e3 : ((l.take k).flatMap f).length = k * m := by rw [flat_len f m hf, List.length_take, Nat.min_eq_left (by omega)]
 rw [e1, List.replicate_succ, List.flatten_cons]
 have s := splice_app (f x) ((l.take k).flatMap f) z (List.replicate (l.length - (k + 1)) z).flatten (by rw [hf, hz])
 rw [e3, ← Nat.zero_add (k * m), ← he] at s
 rw [← List.append_assoc, s, List.take_succ_eq_append_getElem hj, List.flatMap_append, e]
 simp
end
end Go.Proofs.Ytjhaakollekjeaa

namespace Go.Proofs.Ytjhaakollekjeaa
open Go Go.RowKit
set_option linter.unusedVariables false
set_option linter.unusedSimpArgs false

/-! ### Rows of numbers -/
def nth (xs : List Int) (k : Nat) : Int := xs.getD k 0
theorem nth_at {xs : List Int} {k : Nat} (h : k < xs.length) : xs[k] = nth xs k := by simp [nth, List.getD, h]
/-- The slice with address A and length n reads as the numbers xs. -/
def Nums (w : World) (A : Option Addr) (n : Nat) (xs : List Int) : Prop := xs.length = n ∧ (0 < n → ∃ b o, A = some ⟨b, o, none⟩ ∧ b < w.heap.size ∧ ∀ k, k < n → w.cell? ⟨b, o + k, none⟩ = some (.int .i64 (nth xs k)))
theorem Nums.over {w w' : World} {A : Option Addr} {n : Nat} {xs : List Int} (h : Nums w A n xs) (hb : Over w w') : Nums w' A n xs := by
 refine ⟨h.1, fun hn => ?_⟩
 obtain ⟨b, o, hA, hlt, hc⟩ := h.2 hn
 exact ⟨b, o, hA, Nat.lt_of_lt_of_le hlt hb.size, fun k hk => ((ocell hb).1 b _ hlt).trans (hc k hk)⟩
theorem rdNums {b o m j : Nat} {xs : List Int} {w : World} {Rs : List Res} (h : Nums w (some ⟨b, o, none⟩) m xs) (hj : j < m) : ∀ w', St ⟨w, []⟩ Rs w' → w'.cell? ⟨b, o + j * 1, none⟩ = some (.int .i64 (nth xs j)) := fun w' hs => by
 obtain ⟨b', o', e, _, hc⟩ := (h.over hs.fin).2 (by omega)
 injection e with e
 injection e with e1 e2 _
 subst e1 e2
 rw [Nat.mul_one]
 exact hc j hj
end Go.Proofs.Ytjhaakollekjeaa

namespace Go.Proofs.Ytjhaakollekjeaa
open Go Go.RowKit
set_option linter.unusedVariables false
set_option linter.unusedSimpArgs false
section
variable {P : Program} {n : Nat} {env : List (Nat × Value)} {w0 : Bs} {Rs : List Res} {o : Oper}
variable {x y : Operand} {T T' : TypeId} {p q : Int}
theorem qt_convI {k k' : IntKind} {d : TypeDesc} (ho : o.op = .convert T T' x) (hs : P.underlying T = some d) (hd : P.underlying T' = some (.int k')) (hx : ev env x = some (.int k p)) (hw : k'.wrap p = p) : Qt P o n env w0 Rs (.int k' p) :=
 qt_of fun a w hf _ => by
  have h1 : (convert T T' (.int k p)).run P w = .ok (.int k' p) w := by
   unfold convert
   simp only [Sem.run_bind, run_underlying hs, run_underlying hd, Result.andThen_ok]
   simp [Conv.intToInt, hw]
  unfold execOp; simp only [ho, hf.ev hx]; simp [go_sem, h1]
end
/-- Bytes to read. -/
def Byts (w : World) (A : Option Addr) (n : Nat) (zs : List Int) : Prop := zs.length = n ∧ (∀ z ∈ zs, 0 ≤ z ∧ z ≤ 255) ∧ (0 < n → ∃ b o, A = some ⟨b, o, none⟩ ∧ b < w.heap.size ∧ ∀ k, k < n → w.cell? ⟨b, o + k, none⟩ = some (.int .u8 (nth zs k)))
theorem Byts.agree {w w' : World} {A : Option Addr} {n : Nat} {zs : List Int} (h : Byts w A n zs) (hz : w.heap.size ≤ w'.heap.size) (ha : ∀ p, A = some p → w'.heap[p.block]? = w.heap[p.block]?) : Byts w' A n zs := by
 refine ⟨h.1, h.2.1, fun hn => ?_⟩
 obtain ⟨b, o, rfl, hlt, hc⟩ := h.2.2 hn
 refine ⟨b, o, rfl, by omega, fun k hk => ?_⟩
 rw [← hc k hk]
 have := ha _ rfl
 simp only [World.cell?, this]
theorem Byts.over {w w' : World} {A : Option Addr} {n : Nat} {zs : List Int} (h : Byts w A n zs) (hb : Over w w') : Byts w' A n zs := by
 refine ⟨h.1, h.2.1, fun hn => ?_⟩
 obtain ⟨b, o, hA, hlt, hc⟩ := h.2.2 hn
 exact ⟨b, o, hA, Nat.lt_of_lt_of_le hlt hb.size, fun k hk => ((ocell hb).1 b _ hlt).trans (hc k hk)⟩
end Go.Proofs.Ytjhaakollekjeaa

namespace Go.Proofs.Ytjhaakollekjeaa
open Go Go.RowKit
set_option linter.unusedVariables false

section
variable {P : Program} {ops : Array Oper} {Q : Exit → Act → World → Prop} {md : Region.Mode} {B B' S : Base}

end
section
variable {P : Program} {n : Nat} {env : List (Nat × Value)} {w0 : Bs} {Rs : List Res} {ops : Array Oper} {Q : Exit → Act → World → Prop} {K : Act → World → Prop} {o : Oper}
variable {Rs0 Rs1 : List Res} {fuel g f : Nat} {listed : Array Bool}
end
section
variable {P : Program} {n : Nat} {env : List (Nat × Value)} {w0 : Bs} {Rs : List Res} {ops : Array Oper} {Q : Exit → Act → World → Prop} {K : Act → World → Prop} {o : Oper}
/-- A call by a value that is known. -/
theorem run_callk {f : FuncId} (hfn : FnOk P f) {y : Operand} {xs : List Operand} {vs : List Value} {ts : Array TypeId} (ho : o.op = .call { callee := .value y, args := xs.toArray, argTypes := ts }) (hy : ev env y = some (.func (.func f) #[] #[])) (hx : evs env xs = some vs) {a : Act} {w : World} (hF : Frm n env a) : (execOp a.eval o).run P w = .ok (.enter f vs.toArray) w := by
 have he : xs.map a.eval = vs := hF.evs hx
 unfold execOp
 simp only [ho]
 simp only [resolve, hF.ev hy, Deferred.ofValue]
 simp [invoke, hfn.run, he]
theorem qt_callk {f : FuncId} (hfn : FnOk P f) {y : Operand} {xs : List Operand} {vs : List Value} {ts : Array TypeId} {v : Value} (ho : o.op = .call { callee := .value y, args := xs.toArray, argTypes := ts }) (hy : ev env y = some (.func (.func f) #[] #[])) (hx : evs env xs = some vs)
  (hc : ∀ w, St w0 Rs w → Calls P f vs.toArray w fun e w' => e = .returned v ∧ Over w w') : Qt P o n env w0 Rs v := fun a w hF hs => by
 rw [run_callk hfn ho hy hx hF]
 exact hc w hs
end
end Go.Proofs.Ytjhaakollekjeaa

namespace Go.Proofs.Ytjhaakollekjeaa
open Go Go.RowKit
set_option linter.unusedVariables false
set_option linter.unusedSimpArgs false
set_option maxRecDepth 100000
set_option maxHeartbeats 4000000
set_option linter.unusedVariables false

/-- A row of slices, the rings made: a region of the call's own. -/
theorem pcs_row {w w' : World} {Rs : List Res} (hs : St ⟨w, []⟩ Rs w') {kr kp B T n : Nat} {l : List Pc} {x : Option Addr × Nat} {rs : List Ring_} (hr : Rs[kr]? = some (rowR B T 1 n (l.map Pc.val) x)) (hp : Rs[kp]? = some (pcsR l)) (hne : kr ≠ kp) (_e : w = w) (hl : l.length = n) (hrs : l.map (·.xs) = rs)
  (hm : ∀ j, j < rs.length → (rg rs j).length ≤ 1099511627776) : OwnG w.heap.size w'.heap.size w' x.1 n rs := by
 have hrow : w'.ownsRow B T 1 (.slice x.1 n x.2) n (l.map Pc.val) := (hs.all kr _ hr).1
 have hX := hs.all kp _ hp
 rcases hrow.2 with ⟨_, e⟩ | ⟨g, cap, cur, e, hb, hg, hcap, hmax, hsz, htk⟩
 ·subst e
  obtain rfl : l = [] := List.eq_nil_of_length_eq_zero hl
  subst hrs
  exact OwnG.nil _
 ·injection e with e1 e2 e3
  rw [e1]
  have hF : (rowR B T 1 n (l.map Pc.val) x).F g := by show Value.ownBlock (.slice x.1 n x.2) = some g; rw [e1]; rfl
  have hown := pcs_own (lo := w.heap.size) (o := 0) hg (((hs.all kr _ hr).2.1 g hF).elim id (fun h => by cases h)) (fun j hj => ?_) hX.1 (fun h => hs.apart kr kp _ _ hne hr hp g hF h) (fun q hq => (hX.2.1 q hq).elim id (fun h => by cases h)) (fun e he => ?_)
  ·rw [hrs, hl] at hown
   exact hown
  ·have hc : cur[j]? = (l.map Pc.val)[j]? := by rw [← htk, List.getElem?_take, if_pos (by omega)]; simp
   rw [Nat.zero_add, hc]
   simp [hj]
  ·have : e.xs ∈ rs := hrs ▸ List.mem_map.2 ⟨e, he, rfl⟩
   obtain ⟨j, hj, e2⟩ := List.getElem_of_mem this
   have := hm j hj
   rw [← at_r hj, e2] at this
   omega
/-- The cells of points of which the first i and the last i are exchanged. -/
def RevTo (cs : List Value) (o n i : Nat) (xs : List (Int × Int)) : Prop := ∀ q, q < n → cs[o + q * 2]? = some (.int .i64 (px xs (if q < i ∨ n - 1 - i < q then n - 1 - q else q))) ∧ cs[o + q * 2 + 1]? = some (.int .i64 (py xs (if q < i ∨ n - 1 - i < q then n - 1 - q else q)))
theorem RevTo.step {cs : List Value} {o n i : Nat} {xs : List (Int × Int)} (h : RevTo cs o n i xs) (hi : 2 * i + 1 < n) (hl : ∀ q, q < n → o + q * 2 + 1 < cs.length) :
  RevTo (splice (splice cs (o + i * 2) [.int .i64 (px xs (n - 1 - i)), .int .i64 (py xs (n - 1 - i))]) (o + (n - 1 - i) * 2) [.int .i64 (px xs i), .int .i64 (py xs i)]) o n (i + 1) xs := by
 intro q hq
 have h1 := hl i (by omega)
 have h2 := hl (n - 1 - i) (by omega)
 simp only [splice]
 by_cases e1 : q = i
 ·subst e1
  rw [if_pos (by omega), List.getElem?_set_ne (by omega), List.getElem?_set_ne (by omega), List.getElem?_set_ne (by omega), List.getElem?_set_self (by omega), List.getElem?_set_ne (by omega), List.getElem?_set_ne (by omega), List.getElem?_set_self (by simp; omega)]
  exact ⟨rfl, rfl⟩
 ·by_cases e2 : q = n - 1 - i
  ·subst e2
   rw [if_pos (by omega), List.getElem?_set_ne (by omega), List.getElem?_set_self (by simp; omega), List.getElem?_set_self (by simp; omega), show n - 1 - (n - 1 - i) = i by omega]
   exact ⟨rfl, rfl⟩
  ·have := h q hq
   have hif : (q < i + 1 ∨ n - 1 - (i + 1) < q) ↔ (q < i ∨ n - 1 - i < q) := by omega
   simp only [hif]
   rw [List.getElem?_set_ne (by omega), List.getElem?_set_ne (by omega), List.getElem?_set_ne (by omega), List.getElem?_set_ne (by omega), List.getElem?_set_ne (by omega), List.getElem?_set_ne (by omega), List.getElem?_set_ne (by omega), List.getElem?_set_ne (by omega)]
   exact this
theorem RevTo.at_ {cs : List Value} {o n i q : Nat} {xs : List (Int × Int)} (h : RevTo cs o n i xs) (h1 : i ≤ q) (h2 : q ≤ n - 1 - i) (hq : q < n) : cs[o + q * 2]? = some (.int .i64 (px xs q)) ∧ cs[o + q * 2 + 1]? = some (.int .i64 (py xs q)) := by
 have := h q hq
 rwa [if_neg (by omega)] at this
/-- One ring is written. -/
theorem OwnGd.put {lo hi : Nat} {w w' : World} {b o T : Nat} {cs : Array Value} {pl : Nat → Option Addr × Nat} {n k : Nat} {rs : List Ring_} (ys : Ring_) (h : OwnGd lo hi w b o T cs pl n rs) (hl : rs.length = n) (hk : k < n) (hy : ys.length = (rg rs k).length)
  (hw : Wrs (fun q => 0 < (rg rs k).length ∧ q = ablk (pl k).1 ∧ span lo hi q) w w') (hp : OwnP lo hi w' (pl k).1 (rg rs k).length ys) : OwnGd lo hi w' b o T cs pl n (rs.set k ys) := by
 have hse : ∀ j, j < n → rg (rs.set k ys) j = if j = k then ys else rg rs j := fun j hj => by
  simp only [rg, List.getD_eq_getElem?_getD]
  by_cases e : j = k
  ·subst e; rw [if_pos rfl, List.getElem?_set_self (by omega)]; rfl
  ·rw [if_neg e, List.getElem?_set_ne (fun e' => e e'.symm)]
 have hlen : ∀ j, j < n → (rg (rs.set k ys) j).length = (rg rs j).length := fun j hj => by
  rw [hse j hj]
  by_cases e : j = k
  ·subst e; rw [if_pos rfl, hy]
  ·rw [if_neg e]
 refine ⟨h.low, h.high, (hw.block b (lt_of_some h.blk) fun hq => ?_).trans h.blk, fun j hj => ?_, fun j hj => ?_, fun j hj => ?_, fun i j hi hj hij => ?_⟩
 ·exact h.off k hk hq.1 hq.2.1.symm
 ·rw [hlen _ hj]; exact h.cell j hj
 ·rw [hse j hj]
  by_cases hjk : j = k
  ·subst hjk
   rw [if_pos rfl, hy]
   exact hp
  ·rw [if_neg hjk]
   by_cases h0 : 0 < (rg rs j).length
   ·refine (h.pts j hj).agree fun p hp' h1 h2 => ?_
    obtain ⟨b', o', T', cs', e', _, _, hh', _⟩ := (h.pts j hj).2 h0
    rw [e'] at hp'
    injection hp' with hp'
    subst hp'
    refine hw.block b' (lt_of_some hh') fun hq => ?_
    refine h.apart j k hj hk hjk h0 hq.1 ?_
    rw [e']
    exact hq.2.1
   ·exact ⟨(h.pts j hj).1, fun h1 => absurd h1 h0⟩
 ·rw [hlen _ hj]; exact h.off j hj
 ·rw [hlen _ hi, hlen _ hj]; exact h.apart i j hi hj hij
end Go.Proofs.Ytjhaakollekjeaa

namespace Go.Proofs.Ytjhaakollekjeaa
open Go Go.RowKit
set_option linter.unusedVariables false
set_option linter.unusedSimpArgs false
set_option maxRecDepth 100000
set_option maxHeartbeats 4000000
set_option linter.unusedVariables false
set_option linter.unusedSimpArgs false

/-! ### Chains -/
end Go.Proofs.Ytjhaakollekjeaa
