import Derived.Test.YtjhaakollekjeaaDoorR7
import Derived.Test.YtjhaakollekjeaaDoorR13
import Derived.Laws.IdiomStrings
import Derived.Test.YtjhaakollekjeaaDoorR6
import Derived.Test.YtjhaakollekjeaaDoorR5
namespace Go.Proofs.YtjhaakollekjeaaDoor
open Go Go.RowKit
set_option linter.unusedVariables false
set_option linter.unusedSimpArgs false
set_option maxRecDepth 100000
set_option maxHeartbeats 4000000
set_option linter.unusedVariables false
set_option linter.unusedSimpArgs false
section
variable {P : Program} {n : Nat} {env : List (Nat × Value)} {w0 : Bs} {Rs : List Res} {o : Oper} {x y : Operand} {T T' : TypeId} {a b : ByteArray}
theorem qt_addS (ho : o.op = .binOp .add T x y T') (hx : ev env x = some (.string a)) (hy : ev env y = some (.string b)) (h : a.size + b.size ≤ 9223372036854775807) : Qt P o n env w0 Rs (.string (a ++ b)) :=
 qt_of fun ac w hf _ => by
  have h' : ¬ (9223372036854775807 : Int) < ((a.size : Int) + (b.size : Int)) := by omega
  unfold execOp
  simp only [ho, hf.ev hx, hf.ev hy]
  simp [go_sem, Op.stringOp, IntKind.max, IntKind.signed, IntKind.bits, h']
theorem qt_neqStr (ho : o.op = .binOp .neq T x y T') (hx : ev env x = some (.string a)) (hy : ev env y = some (.string b)) : Qt P o n env w0 Rs (.bool (!(a.toList == b.toList))) :=
 qt_of fun ac w hf _ => by
  unfold execOp
  simp only [ho, hf.ev hx, hf.ev hy]
  simp [go_sem, Op.stringOp]
/-- Bytes that lie in memory, as a string. -/
theorem qt_bytesS {S D e : TypeId} {A : Addr} {cap m : Nat} {l : List UInt8} (ho : o.op = .convert S D x) (hx : ev env x = some (.slice (some A) m cap)) (hS : P.underlying S = some (.slice e)) (hE : P.underlying e = some (.int .u8)) (hD : P.underlying D = some .string) (hl : l.length = m)
  (hc : ∀ w, St w0 Rs w → ∀ j (hj : j < l.length), w.cell? (A.add j) = some (.int .u8 (l[j].toNat : Int))) : Qt P o n env w0 Rs (.string ⟨l.toArray⟩) :=
 qt_of fun ac w hf hs => by
  subst hl
  have h := run_convert_bytes_back (P := P) w S D e A cap l hS hE hD (hc w hs)
  unfold execOp
  simp only [ho, hf.ev hx]
  simp [h]
end
/-! ### Decimal digits -/
/-- The digits of a number that is not nought, the last one last. -/
def dgL : Nat → Nat → List UInt8
 | 0, _ => []
 | f + 1, m => if m = 0 then [] else dgL f (m / 10) ++ [UInt8.ofNat (48 + m % 10)]
theorem dgL_more : ∀ (f m : Nat), m < 10 ^ f → ∀ g, f ≤ g → dgL g m = dgL f m
 | 0, m, h, g, _ => by
  have : m = 0 := by simpa using h
  subst this
  cases g with
  | zero => rfl
  | succ g => simp [dgL]
 | f + 1, m, h, g, hg => by
  obtain ⟨g, rfl⟩ : ∃ k, g = k + 1 := ⟨g - 1, by omega⟩
  rw [dgL, dgL]
  split
  ·rfl
  ·rw [dgL_more f (m / 10) (by rw [Nat.pow_succ] at h; omega) g (by omega)]
/-- A number as text. -/
def decL (n : Int) : List UInt8 := if n = 0 then [48] else (if n < 0 then [45] else []) ++ dgL 20 n.natAbs
theorem dgL_len : ∀ f m, (dgL f m).length ≤ f
 | 0, _ => Nat.le_refl _
 | f + 1, m => by
  have := dgL_len f (m / 10)
  rw [dgL]
  split <;> simp <;> omega
theorem dgL_step {m : Nat} (h : m ≠ 0) (h2 : m < 10 ^ 19) : dgL 20 m = dgL 20 (m / 10) ++ [UInt8.ofNat (48 + m % 10)] := by
 rw [dgL, if_neg h, dgL_more 19 (m / 10) (by omega) 20 (by omega)]
theorem dgL_zero : dgL 20 0 = [] := rfl
/-- A number with the sign of n. -/
def sgm (n : Int) (m : Nat) : Int := if n < 0 then -(m : Int) else m
theorem sgm_self (n : Int) : sgm n n.natAbs = n := by unfold sgm; split <;> omega
theorem sgm_bd (n : Int) (m : Nat) : -(m : Int) ≤ sgm n m ∧ sgm n m ≤ m := by unfold sgm; split <;> omega
theorem sgm_mod (n : Int) (m : Nat) : (sgm n m).tmod 10 = sgm n (m % 10) := by
 unfold sgm
 split
 ·rw [Int.neg_tmod]
  congr 1
 ·exact (Int.ofNat_tmod m 10).symm
theorem sgm_div (n : Int) (m : Nat) : (sgm n m).tdiv 10 = sgm n (m / 10) := by
 unfold sgm
 split
 ·rw [Int.neg_tdiv]
  rfl
 ·rfl
theorem sgm_zero {n : Int} {m : Nat} : sgm n m = 0 ↔ m = 0 := by unfold sgm; split <;> omega
theorem sgm_neg {n : Int} {m : Nat} (h : sgm n m < 0) : -(sgm n m) = m := by unfold sgm at *; split <;> rename_i h1 <;> simp [h1] at h ⊢ <;> omega
theorem sgm_pos {n : Int} {m : Nat} (h : 0 ≤ sgm n m) : sgm n m = m := by unfold sgm at *; split <;> rename_i h1 <;> simp [h1] at h ⊢ <;> omega
abbrev u8V (b : UInt8) : Value := .int .u8 (b.toNat : Int)
theorem dig_val (m : Nat) : (48 : Int) + ((m % 10 : Nat) : Int) = ((UInt8.ofNat (48 + m % 10)).toNat : Int) := by
 have : (UInt8.ofNat (48 + m % 10)).toNat = 48 + m % 10 := by simp; omega
 rw [this]
 omega
theorem u8_one (L : List UInt8) : ∀ u ∈ L.map u8V, u.oneCell' = true := fun u hu => by
 obtain ⟨b, _, rfl⟩ := List.mem_map.1 hu
 rfl
theorem ba_app (a b : List UInt8) : (⟨a.toArray⟩ : ByteArray) ++ ⟨b.toArray⟩ = ⟨(a ++ b).toArray⟩ := by
 apply ByteArray.ext
 simp [ByteArray.data_append]
theorem l01Dec_any (n : Int) (w : World) (h : -1000000000000000000 ≤ n ∧ n ≤ 1000000000000000000) : Calls Tryd.prog 108 #[.int .i64 n] w fun e w' => e = .returned (.string ⟨(decL n).toArray⟩) ∧ Over w w' := by
 have hs0 := sgm_self n
 refine walk_from (m := 34) (Tryd.func108) rfl rfl (Nat.le_of_ble_eq_true rfl) ?_
 refine at_seq ?_
 refine at_region ?_
 refine at_q rfl rfl (by decide) (qt_assign rfl rfl) ?_
 refine at_end ?_
 refine at_seq ?_
 refine at_region ?_
 refine at_op rfl ?_
 refine op_buildSlice rfl rfl (bsl_sl_uint8_0) rfl (by decide) (fun b1 => ?_)
 refine at_rowN 0 1 rfl rfl ?_
 refine at_rsE (by simp only [ya,yb,yc,yd,Value.cells,ye]; rfl) ?_
 refine at_q rfl rfl (by decide) (qt_assign rfl rfl) ?_
 refine at_end ?_
 refine at_seq ?_
 refine at_seq ?_
 refine at_region ?_
 refine at_q rfl rfl (by decide) (qt_move rfl rfl) ?_
 refine at_q rfl rfl (by decide) (qt_assign rfl rfl) ?_
 refine at_end ?_
 refine at_block ?_
 refine at_loopc (X := (Nat × List UInt8) × Option Addr × Nat) (fun x => dgL 20 n.natAbs = dgL 20 x.1.1 ++ x.1.2 ∧ x.1.1 ≤ 1000000000000000000) (fun x => x.1.1) (fun x => [(3, .slice x.2.1 x.1.2.length x.2.2), (4, .int .i64 (sgm n x.1.1))]) (C := [(0, _), (2, _)]) ⟨rfl, rfl, trivial⟩ (fun x => [rowR (Bs.N ⟨w, []⟩) 5 1 x.1.2.length (x.1.2.map u8V) x.2]) ((n.natAbs, []), some ⟨b1, 0, none⟩, 0) (⟨by simp, by simp only; omega⟩) ⟨rfl, vi (by simp only; omega), rfl, rfl, trivial⟩ (fun _ h => h) ?_
 intro ⟨⟨m, L0⟩, rA, rc⟩ hx L hL1
 refine at_envE (by simp only [ya,yb]; rfl) ?_
 refine at_rsE (by first | (dsimp only; done) | (dsimp only; rfl) | rfl) ?_
 obtain ⟨hd, hm⟩ : dgL 20 n.natAbs = dgL 20 m ++ L0 ∧ m ≤ 1000000000000000000 := hx
 have hlen := dgL_len 20 n.natAbs
 rw [hd, List.length_append] at hlen
 obtain ⟨sb1, sb2⟩ := sgm_bd n m
 obtain ⟨sb3, sb4⟩ := sgm_bd n (m % 10)
 refine at_seq ?_
 refine at_seq ?_
 refine at_region ?_
 refine at_q rfl rfl (by decide) (qt_move rfl rfl) ?_
 refine at_q rfl rfl (by decide) (qt_neq rfl rfl rfl) ?_
 refine at_end ?_
 refine at_cond rfl (fun c1 => ?_) (fun c1 => ?_)
 ·try simp only [za,zb,zc,zd,ze,zf,Bool.not_true,Bool.not_false,zg,zh,ne_eq,zi,zj] at c1
  have hm0 : m ≠ 0 := (fun hh => by rw [sgm_zero.2 hh] at c1; exact c1 rfl)
  have hst := dgL_step hm0 (by omega)
  refine at_skip ?_
  refine norm_then ?_
  refine at_seq ?_
  refine at_block ?_
  refine at_seq ?_
  refine at_region ?_
  refine at_q rfl rfl (by decide) (qt_move rfl rfl) ?_
  refine at_q rfl rfl (by decide) ((qt_rem rfl rfl rfl (by omega) (by omega) (by omega)).as (congrArg _ (sgm_mod n m))) ?_
  refine at_q rfl rfl (by decide) (qt_assign rfl rfl) ?_
  refine at_end ?_
  refine at_seq ?_
  refine at_seq ?_
  refine at_region ?_
  refine at_q rfl rfl (by decide) (qt_move rfl rfl) ?_
  refine at_q rfl rfl (by decide) (qt_lss rfl rfl rfl) ?_
  refine at_end ?_
  refine at_cond rfl (fun c2 => ?_) (fun c2 => ?_)
  ·try simp only [za,zb,zc,zd,ze,zf,Bool.not_true,Bool.not_false,zg,zh,ne_eq,zi,zj] at c2
   refine at_region ?_
   refine at_q rfl rfl (by decide) (qt_move rfl rfl) ?_
   refine at_q rfl rfl (by decide) ((qt_neg rfl rfl (by omega) (by omega)).as (congrArg _ (sgm_neg c2))) ?_
   refine at_q rfl rfl (by decide) (qt_assign rfl rfl) ?_
   refine at_end ?_
   refine at_region ?_
   refine at_q rfl rfl (by decide) (qt_move rfl rfl) ?_
   refine at_q rfl rfl (by decide) (qt_add rfl rfl rfl (by omega) (by omega)) ?_
   refine at_q rfl rfl (by decide) ((qt_convI rfl Tryd.underlying2 Tryd.underlying5 rfl (by simp [IntKind.wrap, IntKind.bits, IntKind.signed]; omega)).as (congrArg _ (dig_val m))) ?_
   refine at_op rfl ?_
   refine op_buildSlice rfl rfl (bsl_sl_uint8_1_0 rfl) rfl (by decide) (fun b2 => ?_)
   refine at_rsE (by simp only [ya,yb,yc,yd,Value.cells,ye]; rfl) ?_
   refine at_rowM 1 1 1 rfl rfl rfl (by unfold maxLen; omega) ?_
   refine at_rsE (by simp only [List.nil_append, List.cons_append, List.set_cons_zero, List.set_cons_succ, List.eraseIdx_cons_zero, List.eraseIdx_cons_succ, Value.cells, List.toList_toArray]; rfl) ?_
   refine at_q rfl rfl (by decide) (qt_move rfl rfl) ?_
   refine at_op rfl ?_
   refine op_appendR (k := 1) rfl tyl_sl_uint8 tyz_uint8 (by decide) rfl (by decide) rfl rfl rfl (fun w' hs => src_row hs (k := 0) rfl) ((u8_one L0)) (by unfold maxLen; omega) (by omega) (Nat.le_refl _) (fun r1 => ?_)
   refine at_rsE (by simp only [ya,yb,yc,yd,Value.cells,ye]; rfl) ?_
   refine at_q rfl rfl (by decide) (qt_assign rfl rfl) ?_
   refine at_nil ?_
   refine norm_block ?_
   refine norm_then ?_
   refine at_region ?_
   refine at_q rfl rfl (by decide) (qt_move rfl rfl) ?_
   refine at_q rfl rfl (by decide) ((qt_quo rfl rfl rfl (by omega) (by omega) (by omega)).as (congrArg _ (sgm_div n m))) ?_
   refine at_q rfl rfl (by decide) (qt_assign rfl rfl) ?_
   refine at_end ?_
   exact at_againc hL1 (((m / 10, UInt8.ofNat (48 + m % 10) :: L0), r1)) (⟨by simp only; rw [hd, hst, List.append_assoc]; rfl, by simp only; omega⟩) (by simp only; omega) ⟨(by rw [List.length_cons, Nat.add_comm]; rfl), rfl, rfl, rfl, trivial⟩ (fun _ h => (h.picks [1] (by decide)).upto ⟨by rw [List.length_cons, Nat.add_comm]; rfl, trivial⟩)
  ·try simp only [za,zb,zc,zd,ze,zf,Bool.not_true,Bool.not_false,zg,zh,ne_eq,zi,zj] at c2
   rw [sgm_pos c2]
   refine at_skip ?_
   refine norm_then ?_
   refine at_region ?_
   refine at_q rfl rfl (by decide) (qt_move rfl rfl) ?_
   refine at_q rfl rfl (by decide) (qt_add rfl rfl rfl (by omega) (by omega)) ?_
   refine at_q rfl rfl (by decide) ((qt_convI rfl Tryd.underlying2 Tryd.underlying5 rfl (by simp [IntKind.wrap, IntKind.bits, IntKind.signed]; omega)).as (congrArg _ (dig_val m))) ?_
   refine at_op rfl ?_
   refine op_buildSlice rfl rfl (bsl_sl_uint8_1_0 rfl) rfl (by decide) (fun b3 => ?_)
   refine at_rsE (by simp only [ya,yb,yc,yd,Value.cells,ye]; rfl) ?_
   refine at_rowM 1 1 1 rfl rfl rfl (by unfold maxLen; omega) ?_
   refine at_rsE (by simp only [List.nil_append, List.cons_append, List.set_cons_zero, List.set_cons_succ, List.eraseIdx_cons_zero, List.eraseIdx_cons_succ, Value.cells, List.toList_toArray]; rfl) ?_
   refine at_q rfl rfl (by decide) (qt_move rfl rfl) ?_
   refine at_op rfl ?_
   refine op_appendR (k := 1) rfl tyl_sl_uint8 tyz_uint8 (by decide) rfl (by decide) rfl rfl rfl (fun w' hs => src_row hs (k := 0) rfl) ((u8_one L0)) (by unfold maxLen; omega) (by omega) (Nat.le_refl _) (fun r2 => ?_)
   refine at_rsE (by simp only [ya,yb,yc,yd,Value.cells,ye]; rfl) ?_
   refine at_q rfl rfl (by decide) (qt_assign rfl rfl) ?_
   refine at_nil ?_
   refine norm_block ?_
   refine norm_then ?_
   refine at_region ?_
   refine at_q rfl rfl (by decide) (qt_move rfl rfl) ?_
   refine at_q rfl rfl (by decide) ((qt_quo rfl rfl rfl (by omega) (by omega) (by omega)).as (congrArg _ (sgm_div n m))) ?_
   refine at_q rfl rfl (by decide) (qt_assign rfl rfl) ?_
   refine at_end ?_
   exact at_againc hL1 (((m / 10, UInt8.ofNat (48 + m % 10) :: L0), r2)) (⟨by simp only; rw [hd, hst, List.append_assoc]; rfl, by simp only; omega⟩) (by simp only; omega) ⟨(by rw [List.length_cons, Nat.add_comm]; rfl), rfl, rfl, rfl, trivial⟩ (fun _ h => (h.picks [1] (by decide)).upto ⟨by rw [List.length_cons, Nat.add_comm]; rfl, trivial⟩)
 ·try simp only [za,zb,zc,zd,ze,zf,Bool.not_true,Bool.not_false,zg,zh,ne_eq,zi,zj] at c1
  have hm0 : m = 0 := sgm_zero.1 (by simpa using c1)
  rw [hm0, dgL_zero, List.nil_append] at hd
  refine at_exit ?_
  refine pass_then (fun h => by cases h) ?_
  refine pass_then (fun h => by cases h) ?_
  refine pass_hit ?_
  refine norm_then ?_
  refine at_seq ?_
  refine at_seq ?_
  refine at_region ?_
  refine at_q rfl rfl (by decide) (qt_move rfl rfl) ?_
  refine at_q rfl rfl (by decide) (qt_len rfl rfl tyl_sl_uint8) ?_
  refine at_q rfl rfl (by decide) (qt_eql rfl rfl rfl) ?_
  refine at_end ?_
  refine at_cond rfl (fun c3 => ?_) (fun c3 => ?_)
  ·try simp only [za,zb,zc,zd,ze,zf,Bool.not_true,Bool.not_false,zg,zh,ne_eq,zi,zj] at c3
   have hL : L0 = [] := List.eq_nil_of_length_eq_zero (by omega)
   have hn0 : n = 0 := (by rw [hL] at hd; by_cases e : n = 0; exact e; rw [dgL_step (by omega) (by omega)] at hd; simp at hd)
   refine at_seq ?_
   refine at_region ?_
   refine at_q rfl rfl (by decide) (qt_assign rfl rfl) ?_
   refine at_end ?_
   refine at_retc ?_
   refine then_ret ?_
   refine at_ret1 rfl (.tmp rfl) ?_
   intro w' hs
   exact ⟨by rw [hn0]; rfl, hs.fin⟩
  ·try simp only [za,zb,zc,zd,ze,zf,Bool.not_true,Bool.not_false,zg,zh,ne_eq,zi,zj] at c3
   have hpos : 0 < L0.length := (by omega)
   have hn0 : n ≠ 0 := (fun e => by rw [e] at hd; rw [← hd] at hpos; simp [dgL] at hpos)
   refine at_fact (fun w hs => rowSome (k := 0) rfl hs hpos) ?_
   rintro ⟨eg, rfl⟩
   refine at_skip ?_
   refine norm_then ?_
   refine at_seq ?_
   refine at_seq ?_
   refine at_region ?_
   refine at_q rfl rfl (by decide) (qt_move rfl rfl) ?_
   refine at_q rfl rfl (by decide) (qt_lss rfl rfl rfl) ?_
   refine at_end ?_
   refine at_cond rfl (fun c4 => ?_) (fun c4 => ?_)
   ·try simp only [za,zb,zc,zd,ze,zf,Bool.not_true,Bool.not_false,zg,zh,ne_eq,zi,zj] at c4
    refine at_seq ?_
    refine at_region ?_
    refine at_q rfl rfl (by decide) (qt_move rfl rfl) ?_
    refine at_q rfl rfl (by decide) (qt_bytesS (l := L0) rfl rfl Tryd.underlying30 Tryd.underlying5 Tryd.underlying9 rfl (fun w hs j hj => by rw [add_none, Nat.zero_add]; exact row_cell (hs.all 0 _ rfl).1 (by rw [List.getElem?_map, List.getElem?_eq_getElem hj]; rfl))) ?_
    refine at_q rfl rfl (by decide) (qt_addS rfl rfl rfl (by simp [ByteArray.size]; omega)) ?_
    refine at_q rfl rfl (by decide) (qt_assign rfl rfl) ?_
    refine at_end ?_
    refine at_retc ?_
    refine then_ret ?_
    refine at_ret1 rfl (.tmp rfl) ?_
    intro w' hs
    exact ⟨by rw [decL, if_neg hn0, if_pos (by omega), hd, ← ba_app], hs.fin⟩
   ·try simp only [za,zb,zc,zd,ze,zf,Bool.not_true,Bool.not_false,zg,zh,ne_eq,zi,zj] at c4
    refine at_skip ?_
    refine norm_then ?_
    refine at_seq ?_
    refine at_region ?_
    refine at_q rfl rfl (by decide) (qt_move rfl rfl) ?_
    refine at_q rfl rfl (by decide) (qt_bytesS (l := L0) rfl rfl Tryd.underlying30 Tryd.underlying5 Tryd.underlying9 rfl (fun w hs j hj => by rw [add_none, Nat.zero_add]; exact row_cell (hs.all 0 _ rfl).1 (by rw [List.getElem?_map, List.getElem?_eq_getElem hj]; rfl))) ?_
    refine at_q rfl rfl (by decide) (qt_assign rfl rfl) ?_
    refine at_end ?_
    refine at_retc ?_
    refine at_ret1 rfl (.tmp rfl) ?_
    intro w' hs
    exact ⟨by rw [decL, if_neg hn0, if_neg (by omega), hd]; rfl, hs.fin⟩
end Go.Proofs.YtjhaakollekjeaaDoor

namespace Go.Proofs.YtjhaakollekjeaaDoor
open Go Go.RowKit
set_option linter.unusedVariables false

section
variable {P : Program} {ops : Array Oper} {Q : Exit → Act → World → Prop} {md : Region.Mode} {B B' S : Base}

end
section
variable {P : Program} {n : Nat} {env : List (Nat × Value)} {w0 : Bs} {Rs : List Res} {ops : Array Oper} {Q : Exit → Act → World → Prop} {K : Act → World → Prop} {o : Oper}
variable {Rs0 Rs1 : List Res} {fuel g f : Nat} {listed : Array Bool}
end
section
variable {P : Program} {n : Nat} {env : List (Nat × Value)} {w0 : Bs} {Rs : List Res} {ops : Array Oper} {Q : Exit → Act → World → Prop} {K : Act → World → Prop} {o : Oper}
end
end Go.Proofs.YtjhaakollekjeaaDoor

namespace Go.Proofs.YtjhaakollekjeaaDoor
open Go Go.RowKit
set_option linter.unusedVariables false
set_option linter.unusedSimpArgs false

/-! ### Chains -/
end Go.Proofs.YtjhaakollekjeaaDoor

namespace Go.Proofs.YtjhaakollekjeaaDoor
open Go Go.RowKit
set_option linter.unusedVariables false
set_option linter.unusedSimpArgs false

section
variable {P : Program} {n : Nat} {env : List (Nat × Value)} {w0 : Bs} {Rs : List Res} {o : Oper}
variable {x y : Operand} {T T' : TypeId} {p q : Int}
theorem qt_eqlU (ho : o.op = .binOp .eql T x y T') (hx : ev env x = some (.int .u64 p)) (hy : ev env y = some (.int .u64 q)) : Qt P o n env w0 Rs (.bool (p == q)) := qt_of fun a w hf _ => by unfold execOp; simp only [ho, hf.ev hx, hf.ev hy]; simp [go_sem]
theorem qt_remU {a b : Nat} (ho : o.op = .binOp .rem T x y T') (hx : ev env x = some (.int .u64 (a : Int))) (hy : ev env y = some (.int .u64 (b : Int))) (hb : 0 < b) (ha : a < 18446744073709551616) : Qt P o n env w0 Rs (.int .u64 ((a % b : Nat) : Int)) :=
 qt_of fun ac w hf _ => by
  have hq0 : ¬ (b : Int) = 0 := by omega
  have h1 : (a : Int).tmod b = ((a % b : Nat) : Int) := by rw [Int.ofNat_tmod]
  have h2 := Nat.mod_le a b
  unfold execOp; simp only [ho, hf.ev hx, hf.ev hy]; simp [go_sem, hq0, h1, u64_in ((a % b : Nat) : Int) (by omega) (by omega), show ¬ b = 0 by omega]
theorem qt_quoU {a b : Nat} (ho : o.op = .binOp .quo T x y T') (hx : ev env x = some (.int .u64 (a : Int))) (hy : ev env y = some (.int .u64 (b : Int))) (hb : 0 < b) (ha : a < 18446744073709551616) : Qt P o n env w0 Rs (.int .u64 ((a / b : Nat) : Int)) :=
 qt_of fun ac w hf _ => by
  have hq0 : ¬ (b : Int) = 0 := by omega
  have h1 : (a : Int).tdiv b = ((a / b : Nat) : Int) := by rw [Int.ofNat_tdiv]
  have h2 := Nat.div_le_self a b
  have h3 : IntKind.u64.wrap ((a : Int) / (b : Int)) = (a : Int) / (b : Int) := u64_in _ (Int.ediv_nonneg (by omega) (by omega)) (by have := Int.natCast_ediv a b; omega)
  unfold execOp; simp only [ho, hf.ev hx, hf.ev hy]; simp [go_sem, hq0, h1, h3, show ¬ b = 0 by omega]
theorem qt_negU (ho : o.op = .unOp .neg T x) (hx : ev env x = some (.int .u64 p)) : Qt P o n env w0 Rs (.int .u64 (IntKind.u64.wrap (-p))) :=
 qt_of fun a w hf _ => by unfold execOp; simp only [ho, hf.ev hx]; simp [go_sem]
theorem qt_convW {k k' : IntKind} {d : TypeDesc} (ho : o.op = .convert T T' x) (hs : P.underlying T = some d) (hd : P.underlying T' = some (.int k')) (hx : ev env x = some (.int k p)) : Qt P o n env w0 Rs (.int k' (k'.wrap p)) :=
 qt_of fun a w hf _ => by
  have h1 : (convert T T' (.int k p)).run P w = .ok (.int k' (k'.wrap p)) w := by
   unfold convert
   simp only [Sem.run_bind, run_underlying hs, run_underlying hd, Result.andThen_ok]
   simp [Conv.intToInt]
  unfold execOp; simp only [ho, hf.ev hx]; simp [go_sem, h1]
end

section
variable {P : Program} {n : Nat} {env : List (Nat × Value)} {w0 : Bs} {Rs : List Res} {o : Oper} {K : Act → World → Prop} {Q : Exit → Act → World → Prop}
end

/-! ### What is computed -/
/-! ### The program -/
end Go.Proofs.YtjhaakollekjeaaDoor
