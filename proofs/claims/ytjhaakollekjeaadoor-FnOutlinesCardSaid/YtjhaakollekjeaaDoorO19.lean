import Derived.Test.YtjhaakollekjeaaDoorO18
import Derived.Test.YtjhaakollekjeaaDoorO13
namespace Go.Proofs.YtjhaakollekjeaaDoor
open Go Go.RowKit
set_option linter.unusedVariables false
set_option linter.unusedSimpArgs false
set_option maxRecDepth 100000
set_option maxHeartbeats 4000000
set_option linter.unusedVariables false
set_option linter.unusedSimpArgs false
section
variable {P : Program} {n : Nat} {env : List (Nat × Value)} {w0 : Bs} {Rs : List Res} {o : Oper} {x y : Operand} {T U : TypeId} {len s b off j : Nat}
/-- An element of an array behind a pointer. -/
theorem qt_indexPA (ho : o.op = .indexAddr T x y) (hx : ev env x = some (.pointer (some ⟨b, off, none⟩))) (hy : ev env y = some (.int .i64 (j : Int))) (hT : P.underlying T = some (.array len U)) (hS : (P.info? U).map (·.size) = some s) (hj : j < len) : Qt P o n env w0 Rs (.pointer (some ⟨b, off + j * s, none⟩)) :=
 qt_of fun a w hF _ => by
  have hE : P.elem T = U := by simp [Program.elem, hT]
  have hL : P.arrayLen T = len := by simp [Program.arrayLen, hT]
  have := run_indexAt_array (P := P) w T ⟨b, off, none⟩ .i64 j (by rw [hE, hL]; exact hT)
  obtain ⟨i, hi, hs'⟩ := Option.map_eq_some_iff.1 hS
  have hso : (sizeOf U).run P w = .ok s w := by simp [sizeOf, typeInfo, hi, hs']
  rw [hL, if_pos (by omega), hE, hso] at this
  unfold execOp; simp only [ho, hF.ev hx, hF.ev hy]; simp [this, add_none]
/-- The end of an array behind a pointer, as a slice. -/
theorem qt_slicePA (ho : o.op = .slice T x (some y) none none) (hx : ev env x = some (.pointer (some ⟨b, off, none⟩))) (hy : ev env y = some (.int .i64 (j : Int))) (hT : P.underlying T = some (.array len U)) (hS : (P.info? U).map (·.size) = some s) (hj : j < len) : Qt P o n env w0 Rs (.slice (some ⟨b, off + j * s, none⟩) (len - j) (len - j)) :=
 qt_of fun a w hF _ => by
  have hE : P.elem T = U := by simp [Program.elem, hT]
  have hL : P.arrayLen T = len := by simp [Program.arrayLen, hT]
  have := run_sliceAt_array_l (P := P) w T ⟨b, off, none⟩ (by rw [hE, hL]; exact hT) .i64 (j : Int) (by omega) (by rw [hL]; omega)
  obtain ⟨i, hi, hs'⟩ := Option.map_eq_some_iff.1 hS
  have hso : (sizeOf U).run P w = .ok s w := by simp [sizeOf, typeInfo, hi, hs']
  rw [hL, hE, hso] at this
  simp only [Result.andThen_ok, slicedAt, Int.toNat_natCast, if_neg (show ¬ len = j by omega), add_none] at this
  unfold execOp; simp only [ho, hF.ev hx, hF.ev hy, Option.map_some, Option.map_none]; simp [this]
end
theorem vu {a b : Int} (h : a = b) : some (Value.int .u64 a) = some (.int .u64 b) := by rw [h]
theorem neg_abs {n : Int} (h : -1000000000000000000 ≤ n) (h2 : n < 0) : IntKind.u64.wrap (-(IntKind.u64.wrap n)) = ((n.natAbs : Nat) : Int) := by
 simp [IntKind.wrap, IntKind.bits, IntKind.signed]
 omega
abbrev u8Z : Value := .int .u8 0
theorem arr_put (L : List UInt8) (b : UInt8) (h : L.length < 20) : splice (List.replicate (20 - L.length) u8Z ++ L.map u8V) (0 + (20 - (L.length + 1)) * 1) [u8V b] = List.replicate (20 - (b :: L).length) u8Z ++ (b :: L).map u8V := by
 have e : 20 - L.length = (19 - L.length) + 1 := by omega
 have s := splice_app [u8V b] (List.replicate (19 - L.length) u8Z) [u8Z] (L.map u8V) rfl
 rw [List.length_replicate] at s
 rw [show 20 - (L.length + 1) = 19 - L.length by omega, e, List.replicate_succ', Nat.zero_add, Nat.mul_one, s, List.length_cons, show 20 - (L.length + 1) = 19 - L.length by omega, List.append_assoc]
 rfl
theorem dgL_len7 {m : Nat} (h : m ≤ 1000000000000000000) : (dgL 20 m).length ≤ 19 := by
 rw [dgL_more 19 m (by omega) 20 (by omega)]
 exact dgL_len 19 m
/-- The digits of a number: one at least. -/
def dgN (m : Nat) : List UInt8 := if m = 0 then [48] else dgL 20 m
theorem decL_of (n : Int) : decL n = (if n < 0 then [45] else []) ++ dgN n.natAbs := by
 unfold decL dgN
 by_cases h : n = 0
 ·subst h; rfl
 ·rw [if_neg h, if_neg (show ¬ n.natAbs = 0 by omega)]
theorem dg_cell {L : List UInt8} {b T : Nat} {w : World} (h : w.heap[b]? = some (.cells (List.replicate (20 - L.length) u8Z ++ L.map u8V).toArray T (0, 0))) (hl : L.length ≤ 20) (j : Nat) (hj : j < L.length) : w.cell? ((⟨b, 0 + (20 - L.length) * 1, none⟩ : Addr).add j) = some (.int .u8 (L[j].toNat : Int)) := by
 rw [add_none, cell_of_row w b _ _ T (0, 0) h, List.getElem?_toArray, List.getElem?_append_right (by rw [List.length_replicate]; omega), List.length_replicate, show 0 + (20 - L.length) * 1 + j - (20 - L.length) = j by omega, List.getElem?_map, List.getElem?_eq_getElem hj]
 rfl
theorem dgL_pos {m : Nat} (h : m ≠ 0) (h2 : m ≤ 1000000000000000000) : 1 ≤ (dgL 20 m).length := by
 rw [dgL_step h (by omega), List.length_append]
 simp
theorem dgN_end {n : Int} {m : Nat} {L0 : List UInt8} (hI : (L0 = [] ∧ m = n.natAbs) ∨ (m ≠ 0 ∧ n ≠ 0 ∧ dgL 20 n.natAbs = dgL 20 m ++ L0)) (hm : m ≤ 1000000000000000000) (hz : m / 10 = 0) : dgN n.natAbs = UInt8.ofNat (48 + m % 10) :: L0 := by
 rcases hI with ⟨rfl, e⟩ | ⟨h1, h2, e⟩
 ·rw [← e]
  by_cases h0 : m = 0
  ·subst h0; rfl
  ·rw [dgN, if_neg h0, dgL_step h0 (by omega), hz]
   rfl
 ·rw [dgN, if_neg (by omega), e, dgL_step h1 (by omega), hz]
  rfl
theorem dgN_more {n : Int} {m : Nat} {L0 : List UInt8} (hI : (L0 = [] ∧ m = n.natAbs) ∨ (m ≠ 0 ∧ n ≠ 0 ∧ dgL 20 n.natAbs = dgL 20 m ++ L0)) (hm : m ≤ 1000000000000000000) (hz : m / 10 ≠ 0) : n ≠ 0 ∧ dgL 20 n.natAbs = dgL 20 (m / 10) ++ (UInt8.ofNat (48 + m % 10) :: L0) := by
 rcases hI with ⟨rfl, e⟩ | ⟨h1, h2, e⟩
 ·rw [← e]
  exact ⟨fun h => hz (by rw [e, h]; rfl), dgL_step (fun h => hz (by rw [h])) (by omega)⟩
 ·refine ⟨h2, ?_⟩
  rw [e, dgL_step h1 (by omega), List.append_assoc]
  rfl
theorem Decimal_any (n : Int) (w : World) (h : -1000000000000000000 ≤ n ∧ n ≤ 1000000000000000000) : Calls Tryd.prog 85 #[.int .i64 n] w fun e w' => e = .returned (.string ⟨(decL n).toArray⟩) ∧ Over w w' := by
 have h7 := dgL_len7 (m := n.natAbs) (by omega)
 refine walk_from (m := 33) (Tryd.func85) rfl rfl (Nat.le_of_ble_eq_true rfl) ?_
 refine at_seq ?_
 refine at_region ?_
 refine at_q rfl rfl (by decide) (qt_assign rfl rfl) ?_
 refine at_end ?_
 refine at_seq ?_
 refine at_region ?_
 refine at_op rfl ?_
 refine op_alloc rfl tyz_20_uint8 rfl (by decide) (fun b1 => ?_)
 refine at_rsE (by simp only [ya,yb,yc,yd,Value.cells,ye]; rfl) ?_
 refine at_end ?_
 refine at_seq ?_
 refine at_region ?_
 refine at_q rfl rfl (by decide) (qt_assign rfl rfl) ?_
 refine at_end ?_
 refine at_seq ?_
 refine at_region ?_
 refine at_q rfl rfl (by decide) (qt_move rfl rfl) ?_
 refine at_q rfl rfl (by decide) (qt_convW rfl Tryd.underlying2 Tryd.underlying113 rfl) ?_
 refine at_q rfl rfl (by decide) (qt_assign rfl rfl) ?_
 refine at_end ?_
 refine at_cutE [(5, .int .u64 ((n.natAbs : Nat) : Int))] (C := [(0, _), (2, _), (3, _), (4, _)])  ⟨rfl, rfl, rfl, rfl, trivial⟩ (fun L hC_cutif_t9 => ?_) ?_
 ·refine at_seq ?_
  refine at_region ?_
  refine at_q rfl rfl (by decide) (qt_move rfl rfl) ?_
  refine at_q rfl rfl (by decide) (qt_lss rfl rfl rfl) ?_
  refine at_end ?_
  refine at_cond rfl (fun c1 => ?_) (fun c1 => ?_)
  ·try simp only [za,zb,zc,zd,ze,zf,Bool.not_true,Bool.not_false,zg,zh,ne_eq,zi,zj] at c1
   refine at_region ?_
   refine at_q rfl rfl (by decide) (qt_move rfl rfl) ?_
   refine at_q rfl rfl (by decide) (qt_negU rfl rfl) ?_
   refine at_q rfl rfl (by decide) (qt_assign rfl rfl) ?_
   refine at_end ?_
   exact at_meet hC_cutif_t9 ⟨vu (neg_abs h.1 c1), rfl, rfl, rfl, rfl, trivial⟩ (fun _ h => h.upto ⟨rfl, trivial⟩)
  ·try simp only [za,zb,zc,zd,ze,zf,Bool.not_true,Bool.not_false,zg,zh,ne_eq,zi,zj] at c1
   refine at_skip ?_
   refine norm_then ?_
   exact at_meet hC_cutif_t9 ⟨vu (by rw [u64_in n (by omega) (by omega)]; omega), rfl, rfl, rfl, rfl, trivial⟩ (fun _ h => h.upto ⟨rfl, trivial⟩)
 ·refine at_envE (by simp only [ya,yb]; rfl) ?_
  refine at_seq ?_
  refine at_block ?_
  refine at_loopc (X := Nat × List UInt8) (fun x => x.1 ≤ 1000000000000000000 ∧ x.2.length ≤ 18 ∧ ((x.2 = [] ∧ x.1 = n.natAbs) ∨ (x.1 ≠ 0 ∧ n ≠ 0 ∧ dgL 20 n.natAbs = dgL 20 x.1 ++ x.2))) (fun x => x.1) (fun x => [(4, .int .i64 (20 - (x.2.length : Int))), (5, .int .u64 (x.1 : Int))]) (C := [(0, _), (2, _), (3, _)]) ⟨rfl, rfl, rfl, trivial⟩ (fun x => [.cel b1 168 (List.replicate (20 - x.2.length) u8Z ++ x.2.map u8V)]) (n.natAbs, []) (⟨by simp only; omega, Nat.zero_le _, .inl ⟨rfl, rfl⟩⟩) ⟨vi (by simp), rfl, rfl, rfl, rfl, trivial⟩ (fun _ h => h.upto ⟨rfl, trivial⟩) ?_
  intro ⟨m, L0⟩ hx L hL1
  refine at_envE (by simp only [ya,yb]; rfl) ?_
  refine at_rsE (by first | (dsimp only; done) | (dsimp only; rfl) | rfl) ?_
  obtain ⟨hm, hl6, hI⟩ : m ≤ 1000000000000000000 ∧ L0.length ≤ 18 ∧ ((L0 = [] ∧ m = n.natAbs) ∨ (m ≠ 0 ∧ n ≠ 0 ∧ dgL 20 n.natAbs = dgL 20 m ++ L0)) := hx
  have hN : m / 10 = 0 → dgN n.natAbs = UInt8.ofNat (48 + m % 10) :: L0 := dgN_end hI hm
  have hA : m / 10 ≠ 0 → n ≠ 0 ∧ dgL 20 n.natAbs = dgL 20 (m / 10) ++ (UInt8.ofNat (48 + m % 10) :: L0) := dgN_more hI hm
  refine at_block ?_
  refine at_seq ?_
  refine at_region ?_
  refine at_q rfl rfl (by decide) (qt_move rfl rfl) ?_
  refine at_q rfl rfl (by decide) ((qt_sub rfl rfl rfl (by omega) (by omega)).as (congrArg _ (show (20 : Int) - (L0.length : Int) - 1 = ((20 - (L0.length + 1) : Nat) : Int) by omega))) ?_
  refine at_q rfl rfl (by decide) (qt_assign rfl rfl) ?_
  refine at_end ?_
  refine at_seq ?_
  refine at_region ?_
  refine at_q rfl rfl (by decide) (qt_move rfl rfl) ?_
  refine at_q rfl rfl (by decide) (qt_move rfl rfl) ?_
  refine at_q rfl rfl (by decide) (qt_remU (b := 10) rfl rfl rfl (by decide) (by omega)) ?_
  refine at_q rfl rfl (by decide) ((qt_addU rfl rfl rfl).as (congrArg _ (u64_in _ (by omega) (by omega)))) ?_
  refine at_q rfl rfl (by decide) ((qt_convI rfl Tryd.underlying113 Tryd.underlying5 rfl (by simp [IntKind.wrap, IntKind.bits, IntKind.signed]; omega)).as (congrArg _ (dig_val m))) ?_
  refine at_q rfl rfl (by decide) (qt_indexPA (len := 20) (j := 20 - (L0.length + 1)) rfl rfl rfl tya_20_uint8 tyz_uint8.szx (by omega)) ?_
  refine at_op rfl ?_
  refine op_store (k := 0) (off := 0 + (20 - (L0.length + 1)) * 1) rfl rfl rfl rfl rfl (by rfl) tyz_uint8.szx rfl rfl (by simp; omega) ?_
  refine at_end ?_
  rw [arr_put L0 _ (by omega)]
  refine at_seq ?_
  refine at_region ?_
  refine at_q rfl rfl (by decide) (qt_move rfl rfl) ?_
  refine at_q rfl rfl (by decide) (qt_quoU (b := 10) rfl rfl rfl (by decide) (by omega)) ?_
  refine at_q rfl rfl (by decide) (qt_assign rfl rfl) ?_
  refine at_end ?_
  refine at_seq ?_
  refine at_region ?_
  refine at_q rfl rfl (by decide) (qt_move rfl rfl) ?_
  refine at_q rfl rfl (by decide) (qt_eqlU rfl rfl rfl) ?_
  refine at_end ?_
  refine at_cond rfl (fun c2 => ?_) (fun c2 => ?_)
  ·try simp only [za,zb,zc,zd,ze,zf,Bool.not_true,Bool.not_false,zg,zh,ne_eq,zi,zj] at c2
   have hz : m / 10 = 0 := (by have : (m : Int) / 10 = 0 := (by simpa using c2); omega)
   obtain ⟨F, hF⟩ : ∃ F, F = UInt8.ofNat (48 + m % 10) :: L0 := ⟨_, rfl⟩
   have hFl : F.length = L0.length + 1 := (by rw [hF]; rfl)
   have hFd : dgN n.natAbs = F := (by rw [hF]; exact hN hz)
   rw [← hF, ← hFl]
   refine at_exit ?_
   refine pass_miss (by decide) ?_
   refine pass_then (fun h => by cases h) ?_
   refine pass_hit ?_
   refine norm_then ?_
   refine at_seq ?_
   refine at_seq ?_
   refine at_region ?_
   refine at_q rfl rfl (by decide) (qt_move rfl rfl) ?_
   refine at_q rfl rfl (by decide) (qt_lss rfl rfl rfl) ?_
   refine at_end ?_
   refine at_cond rfl (fun c3 => ?_) (fun c3 => ?_)
   ·try simp only [za,zb,zc,zd,ze,zf,Bool.not_true,Bool.not_false,zg,zh,ne_eq,zi,zj] at c3
    have hF20 : F.length ≤ 19 := (by omega)
    refine at_seq ?_
    refine at_region ?_
    refine at_q rfl rfl (by decide) (qt_move rfl rfl) ?_
    refine at_q rfl rfl (by decide) ((qt_sub rfl rfl rfl (by omega) (by omega)).as (congrArg _ (show ((20 - F.length : Nat) : Int) - 1 = ((20 - (F.length + 1) : Nat) : Int) by omega))) ?_
    refine at_q rfl rfl (by decide) (qt_assign rfl rfl) ?_
    refine at_end ?_
    refine at_region ?_
    refine at_q rfl rfl (by decide) (qt_move rfl rfl) ?_
    refine at_q rfl rfl (by decide) (qt_indexPA (len := 20) (j := 20 - (F.length + 1)) rfl rfl rfl tya_20_uint8 tyz_uint8.szx (by omega)) ?_
    refine at_op rfl ?_
    refine op_store (k := 0) (off := 0 + (20 - (F.length + 1)) * 1) rfl rfl rfl rfl rfl (by rfl) tyz_uint8.szx rfl rfl (by simp; omega) ?_
    refine at_end ?_
    rw [show ([Value.int .u8 45] : List Value) = [u8V 45] from rfl, arr_put F 45 (by omega)]
    obtain ⟨G, hG⟩ : ∃ G, G = (45 : UInt8) :: F := ⟨_, rfl⟩
    have hGl : G.length = F.length + 1 := (by rw [hG]; rfl)
    rw [← hG, ← hGl]
    refine at_seq ?_
    refine at_region ?_
    refine at_q rfl rfl (by decide) (qt_move rfl rfl) ?_
    refine at_q rfl rfl (by decide) (qt_slicePA (len := 20) (j := 20 - G.length) rfl rfl rfl tya_20_uint8 tyz_uint8.szx (by omega)) ?_
    refine at_q rfl rfl (by decide) (qt_bytesS (l := G) rfl rfl Tryd.underlying30 Tryd.underlying5 Tryd.underlying9 (by omega) (fun w hs j hj => dg_cell (hs.cel (k := 0) rfl) (by omega) j hj)) ?_
    refine at_q rfl rfl (by decide) (qt_assign rfl rfl) ?_
    refine at_end ?_
    refine at_retc ?_
    refine at_ret1 rfl (.tmp rfl) ?_
    intro w' hs
    exact ⟨by rw [decL_of, if_pos c3, hFd, hG]; rfl, hs.fin⟩
   ·try simp only [za,zb,zc,zd,ze,zf,Bool.not_true,Bool.not_false,zg,zh,ne_eq,zi,zj] at c3
    obtain ⟨G, hG⟩ : ∃ G, G = F := ⟨_, rfl⟩
    have hGl : G.length = L0.length + 1 := (by rw [hG]; exact hFl)
    rw [← hG]
    refine at_skip ?_
    refine norm_then ?_
    refine at_seq ?_
    refine at_region ?_
    refine at_q rfl rfl (by decide) (qt_move rfl rfl) ?_
    refine at_q rfl rfl (by decide) (qt_slicePA (len := 20) (j := 20 - G.length) rfl rfl rfl tya_20_uint8 tyz_uint8.szx (by omega)) ?_
    refine at_q rfl rfl (by decide) (qt_bytesS (l := G) rfl rfl Tryd.underlying30 Tryd.underlying5 Tryd.underlying9 (by omega) (fun w hs j hj => dg_cell (hs.cel (k := 0) rfl) (by omega) j hj)) ?_
    refine at_q rfl rfl (by decide) (qt_assign rfl rfl) ?_
    refine at_end ?_
    refine at_retc ?_
    refine at_ret1 rfl (.tmp rfl) ?_
    intro w' hs
    exact ⟨by rw [decL_of, if_neg (by omega), hFd, hG]; rfl, hs.fin⟩
  ·try simp only [za,zb,zc,zd,ze,zf,Bool.not_true,Bool.not_false,zg,zh,ne_eq,zi,zj] at c2
   have hz : m / 10 ≠ 0 := (fun e => by rw [e] at c2; simp at c2)
   refine at_skip ?_
   refine norm_block ?_
   refine norm_then ?_
   exact at_againc hL1 ((m / 10, UInt8.ofNat (48 + m % 10) :: L0)) (⟨by simp only; omega, by have := congrArg List.length (hA hz).2; rw [List.length_append] at this; have := dgL_pos hz (show m / 10 ≤ 1000000000000000000 by omega); simp only at *; omega, .inr ⟨hz, hA hz⟩⟩) (by simp only; omega) ⟨vi (by simp only [List.length_cons]; omega), rfl, rfl, rfl, rfl, trivial⟩ (fun _ h => h.upto ⟨rfl, trivial⟩)
end Go.Proofs.YtjhaakollekjeaaDoor

namespace Go.Proofs.YtjhaakollekjeaaDoor
open Go Go.RowKit
set_option linter.unusedVariables false
set_option linter.unusedSimpArgs false
set_option maxRecDepth 100000
set_option maxHeartbeats 4000000
set_option linter.unusedVariables false
set_option linter.unusedSimpArgs false
theorem decL_len (n : Int) : (decL n).length ≤ 21 := by
 have := dgL_len 20 n.natAbs
 unfold decL
 split
 ·simp
 ·split <;> simp <;> omega
/-- The text of a point. -/
def ptL (p : Pn) : List UInt8 := decL p.1 ++ [44] ++ decL p.2
theorem ptL_len (p : Pn) : (ptL p).length ≤ 43 := by
 have := decL_len p.1
 have := decL_len p.2
 simp [ptL]
 omega
theorem ba_size (l : List UInt8) : (⟨l.toArray⟩ : ByteArray).size = l.length := rfl
theorem okB_six {x y : Int} (h : okB x y = true) : (-1000000000000000000 ≤ x ∧ x ≤ 1000000000000000000) ∧ -1000000000000000000 ≤ y ∧ y ≤ 1000000000000000000 := by
 have := okB_bd2 (p := (x, y)) h
 obtain ⟨⟨h1, h2⟩, h3, h4⟩ := this
 simp only at h1 h2 h3 h4
 omega
theorem PtText_any (p : Pn) (w : World) (h : okB p.1 p.2 = true) : Calls Tryd.prog 63 #[pV p] w fun e w' => e = .returned (.string ⟨(ptL p).toArray⟩) ∧ Over w w' := by
 obtain ⟨h1, h2⟩ := okB_six h
 have d1 := decL_len p.1
 have d2 := decL_len p.2
 refine walk_from (m := 14) (Tryd.func63) rfl rfl (Nat.le_of_ble_eq_true rfl) ?_
 refine at_seq ?_
 refine at_region ?_
 refine at_op rfl ?_
 refine op_box rfl rfl (rfl) rfl (by decide) (fun b1 => ?_)
 refine at_rsE (by simp only [ya,yb,yc,yd,Value.cells,ye]; rfl) ?_
 refine at_q rfl rfl (by decide) (qt_assign rfl rfl) ?_
 refine at_end ?_
 refine at_seq ?_
 refine at_seq ?_
 refine at_region ?_
 refine at_q rfl rfl (by decide) (qt_loadS rfl rfl tys_impl_Pt rfl (rdAll (k := 0) rfl)) ?_
 refine at_q rfl rfl (by decide) (qt_call ok_impl_ValidPt rfl rfl (fun w1 hs => h ▸ ValidPt_any p.1 p.2 w1)) ?_
 refine at_q rfl rfl (by decide) (qt_not rfl rfl) ?_
 refine at_end ?_
 refine at_no rfl (rfl) ?_
 refine at_skip ?_
 refine norm_then ?_
 refine at_seq ?_
 refine dg_start mixed rfl ?_
 refine dg_phase 9 ?_
 refine dg_q (i := 0) rfl (by kernel_rfl) (by kernel_rfl) (by kernel_rfl) [] (by kernel_rfl) (fun _ _ _ h => h) rfl rfl (by decide) (fun _ h => h.upto ⟨rfl, trivial⟩) (qt_fieldAddr rfl rfl tyf_impl_Pt_0) ?_
 refine dg_q (i := 1) rfl (by kernel_rfl) (by kernel_rfl) (by kernel_rfl) [] (by kernel_rfl) (fun _ _ _ h => h) rfl rfl (by decide) (fun _ h => h.upto ⟨rfl, trivial⟩) (qt_load1 rfl rfl ty1_int64 (rd1 (k := 0) rfl rfl)) ?_
 refine dg_q (i := 2) rfl (by kernel_rfl) (by kernel_rfl) (by kernel_rfl) [] (by kernel_rfl) (fun _ _ _ h => h) rfl rfl (by decide) (fun _ h => h.upto ⟨rfl, trivial⟩) (qt_call ok_impl_Decimal rfl rfl (fun w1 hs => Decimal_any p.1 w1 h1)) ?_
 refine dg_q (i := 3) rfl (by kernel_rfl) (by kernel_rfl) (by kernel_rfl) [] (by kernel_rfl) (fun _ _ _ h => h) rfl rfl (by decide) (fun _ h => h.upto ⟨rfl, trivial⟩) ((qt_addS (b := ⟨[44].toArray⟩) rfl rfl rfl (by rw [ba_size, ba_size]; simp; omega)).as (congrArg Value.string (ba_app _ _))) ?_
 refine dg_q (i := 4) rfl (by kernel_rfl) (by kernel_rfl) (by kernel_rfl) [] (by kernel_rfl) (fun _ _ _ h => h) rfl rfl (by decide) (fun _ h => h.upto ⟨rfl, trivial⟩) (qt_fieldAddr rfl rfl tyf_impl_Pt_1) ?_
 refine dg_q (i := 5) rfl (by kernel_rfl) (by kernel_rfl) (by kernel_rfl) [] (by kernel_rfl) (fun _ _ _ h => h) rfl rfl (by decide) (fun _ h => h.upto ⟨rfl, trivial⟩) (qt_load1 rfl rfl ty1_int64 (rd1 (k := 0) rfl rfl)) ?_
 refine dg_q (i := 6) rfl (by kernel_rfl) (by kernel_rfl) (by kernel_rfl) [] (by kernel_rfl) (fun _ _ _ h => h) rfl rfl (by decide) (fun _ h => h.upto ⟨rfl, trivial⟩) (qt_call ok_impl_Decimal rfl rfl (fun w1 hs => Decimal_any p.2 w1 h2)) ?_
 refine dg_q (i := 7) rfl (by kernel_rfl) (by kernel_rfl) (by kernel_rfl) [] (by kernel_rfl) (fun _ _ _ h => h) rfl rfl (by decide) (fun _ h => h.upto ⟨rfl, trivial⟩) ((qt_addS rfl rfl rfl (by rw [ba_size, ba_size, List.length_append]; simp; omega)).as (congrArg Value.string (ba_app _ _))) ?_
 refine dg_q (i := 8) rfl (by kernel_rfl) (by kernel_rfl) (by kernel_rfl) [] (by kernel_rfl) (fun _ _ _ h => h) rfl rfl (by decide) (fun _ h => h.upto ⟨rfl, trivial⟩) (qt_assign rfl rfl) ?_
 refine dg_done (by kernel_rfl) ?_
 refine norm_then ?_
 refine at_retc ?_
 refine at_ret1 rfl (.tmp rfl) ?_
 intro w' hs
 exact ⟨rfl, hs.fin⟩
end Go.Proofs.YtjhaakollekjeaaDoor

namespace Go.Proofs.YtjhaakollekjeaaDoor
open Go Go.RowKit
set_option linter.unusedVariables false
set_option linter.unusedSimpArgs false
end Go.Proofs.YtjhaakollekjeaaDoor
