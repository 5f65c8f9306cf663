import Derived.Test.YtjhaakollekjeaaDoorO14
import Derived.Test.YtjhaakollekjeaaDoorO15
import Derived.Test.YtjhaakollekjeaaDoorO17
import Derived.Test.YtjhaakollekjeaaDoorO9
import Derived.Test.YtjhaakollekjeaaDoorO16
import Derived.Laws.IdiomStrings
import Derived.Test.YtjhaakollekjeaaDoorO7
import Derived.Test.YtjhaakollekjeaaDoorO5
import Derived.Test.YtjhaakollekjeaaDoorO10
namespace Go.Proofs.YtjhaakollekjeaaDoor
open Go Go.RowKit
set_option linter.unusedVariables false
set_option linter.unusedSimpArgs false
section
variable {P : Program} {n : Nat} {env : List (Nat × Value)} {w0 : Bs} {Rs : List Res} {o : Oper} {Q : Exit → Act → World → Prop} {K : Act → World → Prop}
theorem row_adr {w : World} {B T s m : Nat} {xs : List Value} {x : Option Addr × Nat} (h : (rowR B T s m xs x).P w) (h0 : 0 < m) : x.1 = some ⟨ablk x.1, 0, none⟩ := by
 have h : w.ownsRow B T s (.slice x.1 m x.2) m xs := h
 rcases h.2 with ⟨_, e⟩ | ⟨g, cap, cur, e, _⟩
 ·omega
 ·injection e with e1
  rw [e1]
  rfl
theorem row_cell {w : World} {B T s m i : Nat} {xs : List Value} {x : Option Addr × Nat} {v : Value} (h : (rowR B T s m xs x).P w) (hv : xs[i]? = some v) : w.cell? ⟨ablk x.1, i, none⟩ = some v := by
 have h : w.ownsRow B T s (.slice x.1 m x.2) m xs := h
 have hi := (List.getElem?_eq_some_iff.1 hv).1
 rcases h.2 with ⟨_, e⟩ | ⟨g, cap, cur, e, hb, hg, hcap, hmax, hsz, htk⟩
 ·have := h.1
  rw [e, Nat.zero_mul] at this
  omega
 ·injection e with e1
  rw [e1, ablk, cell_of_row w g i cur T (0, 0) hg]
  have h1 := h.1
  rw [← htk, List.getElem?_take, if_pos (by omega)] at hv
  simpa using hv
theorem qt_indexR {T U : TypeId} {x y : Operand} {k B m j s : Nat} {xs : List Value} {r : Option Addr × Nat} (hk : Rs[k]? = some (rowR B U s m xs r)) (ho : o.op = .indexAddr T x y) (hx : ev env x = some (.slice r.1 m r.2)) (hy : ev env y = some (.int .i64 (j : Int))) (hT : TyL P T U s) (hj : j < m) :
  Qt P o n env w0 Rs (.pointer (some ⟨ablk r.1, 0 + j * s, none⟩)) := fun a w hf hs => by
 have e := row_adr (hs.all k _ hk).1 (by omega)
 rw [e] at hx
 exact qt_index (j := j) ho hx hy hT hj a w hf hs
/-- A field of an element of a row. -/
theorem rdRow {α : Type} {f : α → List Value} {m k B T q : Nat} {r : Option Addr × Nat} {l : List α} {j i off : Nat} {a : α} {v : Value} (hf : ∀ a, (f a).length = m) (hk : Rs[k]? = some (rowR B T m q (l.flatMap f) r)) (ha : l[j]? = some a) (hv : (f a)[i]? = some v) (he : off = 0 + j * m + i) : ∀ w, St w0 Rs w → w.cell? ⟨ablk r.1, off, none⟩ = some v := fun w hs => by
 refine row_cell (hs.all k _ hk).1 ?_
 have hi := (List.getElem?_eq_some_iff.1 hv).1
 obtain ⟨hj, e⟩ := List.getElem?_eq_some_iff.1 ha
 rw [he, Nat.zero_add, flat_at f m hf l j i hj (by rw [hf] at hi; exact hi), e]
 exact hv
theorem sub_at {pre vs post : List Value} {q : Nat} {v : Value} (h : vs[q]? = some v) : (pre ++ vs ++ post)[pre.length + q]? = some v := by
 have hq := (List.getElem?_eq_some_iff.1 h).1
 rw [List.append_assoc, List.getElem?_append_right (by omega), List.getElem?_append_left (by omega)]
 rw [show pre.length + q - pre.length = q by omega]
 exact h
theorem rdRowS {α : Type} {f : α → List Value} {m k B T q : Nat} {r : Option Addr × Nat} {l : List α} {j off : Nat} {a : α} {vs : List Value} (pre post : List Value) (hf : ∀ a, (f a).length = m) (hk : Rs[k]? = some (rowR B T m q (l.flatMap f) r)) (ha : l[j]? = some a) (h : f a = pre ++ vs ++ post) (he : off = 0 + j * m + pre.length) : ∀ w, St w0 Rs w → ∀ q v, vs[q]? = some v → w.cell? ⟨ablk r.1, off + q, none⟩ = some v := fun w hs q v hv =>
 rdRow (i := pre.length + q) hf hk ha (by rw [h]; exact sub_at hv) (by omega) w hs
theorem src_takeR {w : World} {B T s m j : Nat} {xs : List Value} {x : Option Addr × Nat} (h : (rowR B T s m xs x).P w) (hj : j ≤ m) : Src s (sliced x.1 0 j x.2 s) j (xs.take (j * s)) w := by
 have h : w.ownsRow B T s (.slice x.1 m x.2) m xs := h
 have hm : j * s ≤ m * s := Nat.mul_le_mul_right s hj
 refine ⟨by rw [List.length_take, h.1]; omega, ?_⟩
 rcases h.2 with ⟨e, e0⟩ | ⟨g, cap, cur, e, hb, hg, hcap, hmax, hsz, htk⟩
 ·left
  have hj0 : j = 0 := by omega
  injection e with e1 _ e3
  rw [e1, e3, hj0]
  exact ⟨rfl, rfl⟩
 ·right
  injection e with e1 _ e3
  refine ⟨⟨g, 0, none⟩, x.2, ?_, fun q u hu => ?_⟩
  ·rw [e1]
   unfold sliced
   split
   ·rfl
   ·simp [add_none]
  ·have hq := (List.getElem?_eq_some_iff.1 hu).1
   rw [List.length_take] at hq
   rw [List.getElem?_take, if_pos (by omega), ← htk, List.getElem?_take, if_pos (by have := h.1; omega)] at hu
   rw [add_none, Nat.zero_add, cell_of_row w g q cur T (0, 0) hg]
   simpa using hu
theorem op_storeR {T U m : Nat} {x y : Operand} {k B s q off : Nat} {r : Option Addr × Nat} {cs vs : List Value} {v : Value} (ho : o.op = .store T x y) (hd : o.dst = none) (hx : ev env x = some (.pointer (some ⟨ablk r.1, off, none⟩))) (hy : ev env y = some v) (hv : v.cells = vs.toArray) (h1 : vs.all (·.oneCell') = true)
  (hz : (P.info? T).map (·.size) = some m) (hm : vs.length = m) (hk : Rs[k]? = some (rowR B U s q cs r)) (h0 : 0 < vs.length) (hlt : off + vs.length ≤ cs.length) (h : At n env w0 (Rs.set k (rowR B U s q (splice cs off vs) r)) K) : At n env w0 Rs (fun a w => o.wp P a w K Q) := fun a w hf hs => by
 have hr : w.ownsRow B U s (.slice r.1 q r.2) q cs := (hs.all k _ hk).1
 have hlow := fun b hb => (hs.all k _ hk).2.1 b hb
 rcases hr.2 with ⟨_, e0⟩ | ⟨g, cap, cur, e, hb, hg, hcap, hmax, hsz, htk⟩
 ·have := hr.1
  rw [e0, Nat.zero_mul] at this
  omega
 ·injection e with e1 _ e3
  have hgb : ablk r.1 = g := by rw [e1]; rfl
  rw [hgb] at hx
  have hcl : cs.length = q * s := hr.1
  have hcur : cur.toList = cs ++ cur.toList.drop (q * s) := by rw [← htk, List.take_append_drop]
  have hlen : cs.length ≤ cur.toList.length := by rw [hcur, List.length_append]; omega
  have hh : w.heap[g]? = some (.cells cur.toList.toArray U (0, 0)) := by rw [Array.toArray_toList]; exact hg
  have hso : (sizeOf T).run P w = .ok m w := by
   obtain ⟨i, hi, hs'⟩ := Option.map_eq_some_iff.1 hz
   simp [sizeOf, typeInfo, hi, hs']
  have hst := run_storeCells (P := P) vs off 0 cur.toList w hh (by omega) h1
  have hrun : (execOp a.eval o).run P w = .ok .skip (w.setRow g (splice cur.toList off vs).toArray) := by
   unfold execOp
   simp only [ho, hf.ev hx, hf.ev hy, Instr.storeAt, Instr.sureAddr, storeVar, hv]
   simp only [Sem.run_bind, Sem.run_pure, Result.andThen_ok, hso]
   have : ¬ (vs.toArray.size ≠ m) := by simp [hm]
   simp only [this, if_false, hst, Result.andThen_ok]
   rfl
  show o.upon P a K Q ((execOp a.eval o).run P w)
  rw [hrun, Oper.upon_skip, hd]
  refine h _ _ hf (hs.upd hk ⟨by simpa using hs.over.os, by simpa using hs.over.tape, by simpa using hs.over.output, by simpa using hs.over.size, fun c hc hx' => ?_⟩ (by simp) (fun c _ hne => setRow_other w g c _ (fun e => hne (by rw [e]; show Value.ownBlock (.slice r.1 q r.2) = some g; rw [e1]; rfl))) ?_ (fun c hc => .inl hc) rfl)
  ·have := hlow g (by show Value.ownBlock (.slice r.1 q r.2) = some g; rw [e1]; rfl)
   rw [setRow_other w g c _ (fun e => this.elim (fun h1 => by omega) (fun h1 => hx' (e ▸ h1)))]
   exact hs.over.block c hc hx'
  ·refine ⟨by rw [splice_len]; exact hr.1, .inr ⟨g, cap, (splice cur.toList off vs).toArray, by rw [e1, e3], hb, setRow_heap w g _ _ U (0, 0) hg, hcap, hmax, by simp [splice_len, hsz], ?_⟩⟩
   rw [List.toList_toArray, hcur, splice_left (by omega), List.take_left' (by rw [splice_len]; exact hr.1)]
end
end Go.Proofs.YtjhaakollekjeaaDoor

namespace Go.Proofs.YtjhaakollekjeaaDoor
open Go Go.RowKit
set_option linter.unusedVariables false
set_option linter.unusedSimpArgs false
set_option maxRecDepth 100000
set_option maxHeartbeats 4000000
set_option linter.unusedVariables false
set_option linter.unusedSimpArgs false
section
variable {P : Program} {n : Nat} {env : List (Nat × Value)} {w0 : Bs} {Rs : List Res} {o : Oper} {x y : Operand} {T T' : TypeId} {a b : ByteArray}
theorem qt_addS (ho : o.op = .binOp .add T x y T') (hx : ev env x = some (.string a)) (hy : ev env y = some (.string b)) (h : a.size + b.size ≤ 9223372036854775807) : Qt P o n env w0 Rs (.string (a ++ b)) :=
 qt_of fun ac w hf _ => by
  have h' : ¬ (9223372036854775807 : Int) < ((a.size : Int) + (b.size : Int)) := by omega
  unfold execOp
  simp only [ho, hf.ev hx, hf.ev hy]
  simp [go_sem, Op.stringOp, IntKind.max, IntKind.signed, IntKind.bits, h']
theorem qt_neqStr (ho : o.op = .binOp .neq T x y T') (hx : ev env x = some (.string a)) (hy : ev env y = some (.string b)) : Qt P o n env w0 Rs (.bool (!(a.toList == b.toList))) :=
 qt_of fun ac w hf _ => by
  unfold execOp
  simp only [ho, hf.ev hx, hf.ev hy]
  simp [go_sem, Op.stringOp]
/-- Bytes that lie in memory, as a string. -/
theorem qt_bytesS {S D e : TypeId} {A : Addr} {cap m : Nat} {l : List UInt8} (ho : o.op = .convert S D x) (hx : ev env x = some (.slice (some A) m cap)) (hS : P.underlying S = some (.slice e)) (hE : P.underlying e = some (.int .u8)) (hD : P.underlying D = some .string) (hl : l.length = m)
  (hc : ∀ w, St w0 Rs w → ∀ j (hj : j < l.length), w.cell? (A.add j) = some (.int .u8 (l[j].toNat : Int))) : Qt P o n env w0 Rs (.string ⟨l.toArray⟩) :=
 qt_of fun ac w hf hs => by
  subst hl
  have h := run_convert_bytes_back (P := P) w S D e A cap l hS hE hD (hc w hs)
  unfold execOp
  simp only [ho, hf.ev hx]
  simp [h]
end
/-! ### Decimal digits -/
/-- The digits of a number that is not nought, the last one last. -/
def dgL : Nat → Nat → List UInt8
 | 0, _ => []
 | f + 1, m => if m = 0 then [] else dgL f (m / 10) ++ [UInt8.ofNat (48 + m % 10)]
theorem dgL_more : ∀ (f m : Nat), m < 10 ^ f → ∀ g, f ≤ g → dgL g m = dgL f m
 | 0, m, h, g, _ => by
  have : m = 0 := by simpa using h
  subst this
  cases g with
  | zero => rfl
  | succ g => simp [dgL]
 | f + 1, m, h, g, hg => by
  obtain ⟨g, rfl⟩ : ∃ k, g = k + 1 := ⟨g - 1, by omega⟩
  rw [dgL, dgL]
  split
  ·rfl
  ·rw [dgL_more f (m / 10) (by rw [Nat.pow_succ] at h; omega) g (by omega)]
/-- A number as text. -/
def decL (n : Int) : List UInt8 := if n = 0 then [48] else (if n < 0 then [45] else []) ++ dgL 20 n.natAbs
theorem dgL_len : ∀ f m, (dgL f m).length ≤ f
 | 0, _ => Nat.le_refl _
 | f + 1, m => by
  have := dgL_len f (m / 10)
  rw [dgL]
  split <;> simp <;> omega
theorem dgL_step {m : Nat} (h : m ≠ 0) (h2 : m < 10 ^ 19) : dgL 20 m = dgL 20 (m / 10) ++ [UInt8.ofNat (48 + m % 10)] := by
 rw [dgL, if_neg h, dgL_more 19 (m / 10) (by omega) 20 (by omega)]
abbrev u8V (b : UInt8) : Value := .int .u8 (b.toNat : Int)
theorem dig_val (m : Nat) : (48 : Int) + ((m % 10 : Nat) : Int) = ((UInt8.ofNat (48 + m % 10)).toNat : Int) := by
 have : (UInt8.ofNat (48 + m % 10)).toNat = 48 + m % 10 := by simp; omega
 rw [this]
 omega
theorem ba_app (a b : List UInt8) : (⟨a.toArray⟩ : ByteArray) ++ ⟨b.toArray⟩ = ⟨(a ++ b).toArray⟩ := by
 apply ByteArray.ext
 simp [ByteArray.data_append]
end Go.Proofs.YtjhaakollekjeaaDoor

namespace Go.Proofs.YtjhaakollekjeaaDoor
open Go Go.RowKit
set_option linter.unusedVariables false

section
variable {P : Program} {ops : Array Oper} {Q : Exit → Act → World → Prop} {md : Region.Mode} {B B' S : Base}

end
section
variable {P : Program} {n : Nat} {env : List (Nat × Value)} {w0 : Bs} {Rs : List Res} {ops : Array Oper} {Q : Exit → Act → World → Prop} {K : Act → World → Prop} {o : Oper}
variable {Rs0 Rs1 : List Res} {fuel g f : Nat} {listed : Array Bool}
end
section
variable {P : Program} {n : Nat} {env : List (Nat × Value)} {w0 : Bs} {Rs : List Res} {ops : Array Oper} {Q : Exit → Act → World → Prop} {K : Act → World → Prop} {o : Oper}
/-- A call by a value that is known. -/
theorem run_callk {f : FuncId} (hfn : FnOk P f) {y : Operand} {xs : List Operand} {vs : List Value} {ts : Array TypeId} (ho : o.op = .call { callee := .value y, args := xs.toArray, argTypes := ts }) (hy : ev env y = some (.func (.func f) #[] #[])) (hx : evs env xs = some vs) {a : Act} {w : World} (hF : Frm n env a) : (execOp a.eval o).run P w = .ok (.enter f vs.toArray) w := by
 have he : xs.map a.eval = vs := hF.evs hx
 unfold execOp
 simp only [ho]
 simp only [resolve, hF.ev hy, Deferred.ofValue]
 simp [invoke, hfn.run, he]
theorem qt_callk {f : FuncId} (hfn : FnOk P f) {y : Operand} {xs : List Operand} {vs : List Value} {ts : Array TypeId} {v : Value} (ho : o.op = .call { callee := .value y, args := xs.toArray, argTypes := ts }) (hy : ev env y = some (.func (.func f) #[] #[])) (hx : evs env xs = some vs)
  (hc : ∀ w, St w0 Rs w → Calls P f vs.toArray w fun e w' => e = .returned v ∧ Over w w') : Qt P o n env w0 Rs v := fun a w hF hs => by
 rw [run_callk hfn ho hy hx hF]
 exact hc w hs
end
end Go.Proofs.YtjhaakollekjeaaDoor

namespace Go.Proofs.YtjhaakollekjeaaDoor
open Go Go.RowKit
set_option linter.unusedVariables false
set_option linter.unusedSimpArgs false

/-! ### Chains -/
end Go.Proofs.YtjhaakollekjeaaDoor

namespace Go.Proofs.YtjhaakollekjeaaDoor
open Go Go.RowKit
set_option linter.unusedVariables false
set_option linter.unusedSimpArgs false

section
variable {P : Program} {n : Nat} {env : List (Nat × Value)} {w0 : Bs} {Rs : List Res} {o : Oper}
variable {x y : Operand} {T T' : TypeId} {p q : Int}
theorem qt_eqlU (ho : o.op = .binOp .eql T x y T') (hx : ev env x = some (.int .u64 p)) (hy : ev env y = some (.int .u64 q)) : Qt P o n env w0 Rs (.bool (p == q)) := qt_of fun a w hf _ => by unfold execOp; simp only [ho, hf.ev hx, hf.ev hy]; simp [go_sem]
theorem qt_remU {a b : Nat} (ho : o.op = .binOp .rem T x y T') (hx : ev env x = some (.int .u64 (a : Int))) (hy : ev env y = some (.int .u64 (b : Int))) (hb : 0 < b) (ha : a < 18446744073709551616) : Qt P o n env w0 Rs (.int .u64 ((a % b : Nat) : Int)) :=
 qt_of fun ac w hf _ => by
  have hq0 : ¬ (b : Int) = 0 := by omega
  have h1 : (a : Int).tmod b = ((a % b : Nat) : Int) := by rw [Int.ofNat_tmod]
  have h2 := Nat.mod_le a b
  unfold execOp; simp only [ho, hf.ev hx, hf.ev hy]; simp [go_sem, hq0, h1, u64_in ((a % b : Nat) : Int) (by omega) (by omega), show ¬ b = 0 by omega]
theorem qt_quoU {a b : Nat} (ho : o.op = .binOp .quo T x y T') (hx : ev env x = some (.int .u64 (a : Int))) (hy : ev env y = some (.int .u64 (b : Int))) (hb : 0 < b) (ha : a < 18446744073709551616) : Qt P o n env w0 Rs (.int .u64 ((a / b : Nat) : Int)) :=
 qt_of fun ac w hf _ => by
  have hq0 : ¬ (b : Int) = 0 := by omega
  have h1 : (a : Int).tdiv b = ((a / b : Nat) : Int) := by rw [Int.ofNat_tdiv]
  have h2 := Nat.div_le_self a b
  have h3 : IntKind.u64.wrap ((a : Int) / (b : Int)) = (a : Int) / (b : Int) := u64_in _ (Int.ediv_nonneg (by omega) (by omega)) (by have := Int.natCast_ediv a b; omega)
  unfold execOp; simp only [ho, hf.ev hx, hf.ev hy]; simp [go_sem, hq0, h1, h3, show ¬ b = 0 by omega]
theorem qt_negU (ho : o.op = .unOp .neg T x) (hx : ev env x = some (.int .u64 p)) : Qt P o n env w0 Rs (.int .u64 (IntKind.u64.wrap (-p))) :=
 qt_of fun a w hf _ => by unfold execOp; simp only [ho, hf.ev hx]; simp [go_sem]
theorem qt_convW {k k' : IntKind} {d : TypeDesc} (ho : o.op = .convert T T' x) (hs : P.underlying T = some d) (hd : P.underlying T' = some (.int k')) (hx : ev env x = some (.int k p)) : Qt P o n env w0 Rs (.int k' (k'.wrap p)) :=
 qt_of fun a w hf _ => by
  have h1 : (convert T T' (.int k p)).run P w = .ok (.int k' (k'.wrap p)) w := by
   unfold convert
   simp only [Sem.run_bind, run_underlying hs, run_underlying hd, Result.andThen_ok]
   simp [Conv.intToInt]
  unfold execOp; simp only [ho, hf.ev hx]; simp [go_sem, h1]
end

section
variable {P : Program} {n : Nat} {env : List (Nat × Value)} {w0 : Bs} {Rs : List Res} {o : Oper} {K : Act → World → Prop} {Q : Exit → Act → World → Prop}
end

/-! ### What is computed -/
/-! ### The program -/
end Go.Proofs.YtjhaakollekjeaaDoor
