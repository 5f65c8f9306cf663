import Derived.Test.YtjhaakollekjeaaR12
import Derived.Test.YtjhaakollekjeaaR19
import Derived.Test.YtjhaakollekjeaaR21
import Derived.Test.YtjhaakollekjeaaR18
import Derived.Test.YtjhaakollekjeaaR14
import Derived.Test.YtjhaakollekjeaaR24
namespace Go.Proofs.Ytjhaakollekjeaa
open Go Go.RowKit
set_option linter.unusedVariables false
set_option linter.unusedSimpArgs false
set_option maxRecDepth 100000
set_option maxHeartbeats 4000000
set_option linter.unusedVariables false
set_option linter.unusedSimpArgs false

section
variable {P : Program} {n : Nat} {env : List (Nat × Value)} {w0 : Bs} {Rs : List Res} {o : Oper} {K : Act → World → Prop} {Q : Exit → Act → World → Prop}
variable {x y : Operand} {T T' : TypeId} {p q : Int}
/-- A slice made with room and no element. -/
theorem op_makeC {U s bytes m d : Nat} {z : Value} (ho : o.op = .makeSlice T x y) (hx : ev env x = some (.int .i64 0)) (hy : ev env y = some (.int .i64 (m : Int))) (hT : TyL P T U s) (hZ : TyZ P U s bytes z) (hd : o.dst = some d) (hn : d < n) (hb : bytes * m ≤ 281474976710656) (hm : m ≤ 9223372036854775807)
  (h : ∀ b, At n ((d, .slice (some ⟨b, 0, none⟩) 0 m) :: env) w0 (Rs ++ [.cel b U (madeCells z.cells (m * s)).toList]) K) : At n env w0 Rs (fun a w => o.wp P a w K Q) := fun a w hf hs => by
 obtain ⟨i, hi, hz0, hz1, hz2⟩ := hZ.info
 have hmk := run_make (P := P) w T U i z hT.desc hi hz0 .i64 .i64 0 (m : Int) (by omega) (by omega) (by rw [hz2]; omega) (by omega)
 rw [hz1, Int.toNat_natCast] at hmk
 have hrun : (execOp a.eval o).run P w = .ok (.value (.slice (some ⟨w.heap.size, 0, none⟩) 0 m)) (w.alloc (.cells (madeCells z.cells (m * s)) U)) := by
  unfold execOp
  simp only [ho, hf.ev hx, hf.ev hy, Sem.run_bind, hmk, Result.andThen_ok, Sem.run_pure]
  rfl
 show o.upon P a K Q ((execOp a.eval o).run P w)
 rw [hrun, Oper.upon_value, hd]
 exact h _ _ _ (hf.put hn _) (hs.add (Over.alloc _ _) (by show (w.alloc _).heap[w.heap.size]? = some (.cells (madeCells z.cells (m * s)).toList.toArray U (0, 0)); rw [heap_alloc_new, Array.toArray_toList]) (fun b hb => Nat.le_of_eq hb.symm) ⟨Nat.zero_le _, fun _ _ => Nat.zero_le _⟩)
theorem at_rowC (k s m : Nat) (hX : w0.X = []) {b U : Nat} {cs : List Value} (hk : Rs[k]? = some (.cel b U cs)) (hl : cs.length = m * s) (hm : m ≤ maxLen) (h : At n env w0 (Rs.set k (.row w0.N U s (.slice (some ⟨b, 0, none⟩) 0 m) 0 [])) K) : At n env w0 Rs K := fun a w hf hs => by
 have hlow : w0.N ≤ b := ((hs.all k _ hk).2.1 b rfl).elim id (fun h => by rw [hX] at h; cases h)
 refine h a w hf (hs.chg hk (fun hP => ?_) (fun c hc => ?_) rfl)
 ·exact ⟨by simp, .inr ⟨b, m, cs.toArray, rfl, hlow, hP, Nat.zero_le _, hm, by simp [hl], by simp⟩⟩
 ·have : some b = some c := hc
  injection this with this
  exact this.symm
end
end Go.Proofs.Ytjhaakollekjeaa

namespace Go.Proofs.Ytjhaakollekjeaa
open Go Go.RowKit
set_option linter.unusedVariables false
set_option linter.unusedSimpArgs false
/-- Texts joined with blanks. -/
theorem join_to (xs : List Pn) : ∀ k, k ≤ xs.length → Lib.join ((xs.take k).map ptL) [32] = jnTo xs k
 | 0, _ => rfl
 | k + 1, hk => by
  have ih := join_to xs k (by omega)
  have e : xs.take (k + 1) = xs.take k ++ [pt xs k] := by rw [List.take_succ_eq_append_getElem (by omega), pt_at]
  rw [e, List.map_append, jnTo, ← ih]
  have key : ∀ (l : List (List UInt8)) (x : List UInt8), Lib.join (l ++ [x]) [32] = Lib.join l [32] ++ (if 0 < l.length then [32] else []) ++ x := by
   intro l x
   cases l with
   | nil => rw [List.nil_append, Lib.join_one, Lib.join_nil]; rfl
   | cons a r =>
    rw [List.cons_append, Lib.join_cons, Lib.join_cons]
    simp [Lib.joinTail, List.append_assoc]
  rw [List.map_cons, List.map_nil, key]
  simp [show min k xs.length = k by omega]
end Go.Proofs.Ytjhaakollekjeaa

namespace Go.Proofs.Ytjhaakollekjeaa
open Go Go.RowKit
set_option linter.unusedVariables false
set_option linter.unusedSimpArgs false
set_option maxRecDepth 100000
set_option maxHeartbeats 4000000
set_option linter.unusedVariables false
set_option linter.unusedSimpArgs false
abbrev ptB (p : Pn) : ByteArray := ⟨(ptL p).toArray⟩
abbrev ptS (p : Pn) : Value := .string (ptB p)
/-- The join of a row of texts of points. -/
theorem joinRow {n : Nat} {xs : List Pn} (hl : xs.length = n) (hn : 1 ≤ n) (hm : n ≤ 400) {B : Nat} {x : Option Addr × Nat} {w : World} (h : w.ownsRow B 9 1 (.slice x.1 n x.2) n ((xs.take n).map ptS)) :
  Calls Try.prog 68 #[.slice x.1 n x.2, .string ⟨#[32]⟩] w fun e w' => e = .returned (.string ⟨(jnTo xs n).toArray⟩) ∧ Over w w' := by
 obtain ⟨g, hg⟩ : ∃ g, x.1 = some ⟨g, 0, none⟩ := by
  rcases h.2 with ⟨_, e⟩ | ⟨g, cap, cur, e, _⟩
  ·omega
  ·injection e with e1
   exact ⟨g, e1⟩
 obtain ⟨A, c⟩ := x
 simp only at hg h
 subst hg
 have hc := rowCap h
 have hb : g < w.heap.size := (h.lt g rfl).2
 have hcells : ∀ (j : Nat) y, (xs.map ptB)[j]? = some y → w.cell? ⟨g, 0 + j, none⟩ = some (.string y) := fun j y hy => by
  have := row_cell (x := (some ⟨g, 0, none⟩, c)) (i := j) (v := .string y) (show (rowR B 9 1 n ((xs.take n).map ptS) (some ⟨g, 0, none⟩, c)).P w from h) (by
   rw [← hl, List.take_length]
   rw [List.getElem?_map] at hy ⊢
   cases hx : xs[j]? with
   | none => rw [hx] at hy; cases hy
   | some p => rw [hx] at hy; injection hy with hy; subst hy; rfl)
  rw [Nat.zero_add]; exact this
 have e1 : (xs.map ptB).map (·.data.toList) = (xs.take xs.length).map ptL := by
  rw [List.take_length, List.map_map]
  rfl
 have hj := join_to xs xs.length (Nat.le_refl _)
 have hjl := jnTo_len xs n
 have := Join_any g 0 c (xs.map ptB) ⟨#[32]⟩ w hcells hb (by simp; omega) (by simp; omega) (by rw [e1]; show (Lib.join _ [32]).length ≤ _; rw [hj, hl]; omega)
 rw [e1, List.length_map, hl] at this
 rw [hl] at hj
 rw [show Lib.join ((xs.take n).map ptL) (⟨#[32]⟩ : ByteArray).data.toList = jnTo xs n from hj] at this
 exact this
theorem joinPts_any (A : Option Addr) (n c : Nat) (xs : List Pn) (w : World) (h : Pts w A n xs) (h1 : 1 ≤ n) (hn : n ≤ 400) (hok : ∀ p ∈ xs, okB p.1 p.2 = true) : Calls Try.prog 33 #[.slice A n c] w fun e w' => e = .returned (.string ⟨(jnTo xs n).toArray⟩) ∧ Over w w' := by
 have hl := h.1
 refine walk_from (m := 23) (Try.func33) rfl rfl (Nat.le_of_ble_eq_true rfl) ?_
 refine at_seq ?_
 refine at_region ?_
 refine at_q rfl rfl (by decide) (qt_assign rfl rfl) ?_
 refine at_end ?_
 refine at_seq ?_
 refine at_region ?_
 refine at_q rfl rfl (by decide) (qt_move rfl rfl) ?_
 refine at_q rfl rfl (by decide) (qt_len rfl rfl tyl_sl_impl_Pt) ?_
 refine at_op rfl ?_
 refine op_makeC (m := n) rfl rfl rfl tyl_sl_string tyz_string rfl (by decide) (by omega) (by omega) (fun bm => ?_)
 refine at_rsE (by simp only [ya,yb,yc,yd,Value.cells,ye]; rfl) ?_
 refine at_rowC 0 1 n rfl rfl (by simp [madeCells]) (by unfold maxLen; omega) ?_
 refine at_rsE (by simp only [List.nil_append, List.cons_append, List.set_cons_zero, List.set_cons_succ, List.eraseIdx_cons_zero, List.eraseIdx_cons_succ, Value.cells, List.toList_toArray]; rfl) ?_
 refine at_q rfl rfl (by decide) (qt_assign rfl rfl) ?_
 refine at_end ?_
 refine at_seq ?_
 refine at_seq ?_
 refine at_region ?_
 refine at_q rfl rfl (by decide) (qt_move rfl rfl) ?_
 refine at_q rfl rfl (by decide) (qt_len rfl rfl tyl_sl_impl_Pt) ?_
 refine at_q rfl rfl (by decide) (qt_move rfl rfl) ?_
 refine at_end ?_
 refine at_block ?_
 refine at_loopc (X := Nat × Option Addr × Nat) (fun x => x.1 ≤ n) (fun x => n - x.1) (fun x => [(3, .slice x.2.1 x.1 x.2.2), (11, .int .i64 (x.1 : Int))]) (C := [(2, _), (9, _), (10, _)]) ⟨rfl, rfl, rfl, trivial⟩ (fun x => [rowR (Bs.N ⟨w, []⟩) 9 1 x.1 ((xs.take x.1).map ptS) x.2]) (0, some ⟨bm, 0, none⟩, n) (Nat.zero_le _) ⟨rfl, rfl, rfl, rfl, rfl, trivial⟩ (fun _ h => h) ?_
 intro ⟨k, rA, rc⟩ hx L hL1
 refine at_envE (by simp only [ya,yb]; rfl) ?_
 refine at_rsE (by first | (dsimp only; done) | (dsimp only; rfl) | rfl) ?_
 have hk : k ≤ n := hx
 refine at_seq ?_
 refine at_region ?_
 refine at_q rfl rfl (by decide) (qt_lss rfl rfl rfl) ?_
 refine at_end ?_
 refine at_seq ?_
 refine at_cond rfl (fun c1 => ?_) (fun c1 => ?_)
 ·try simp only [za,zb,zc,zd,ze,zf,Bool.not_true,Bool.not_false,zg,zh,ne_eq,zi,zj] at c1
  have hlt : k < n := (by omega)
  obtain ⟨eb, eo, rfl, _⟩ := h.2 (by omega)
  refine at_skip ?_
  refine norm_then ?_
  refine at_seq ?_
  refine at_block ?_
  refine at_seq ?_
  refine at_region ?_
  refine at_q rfl rfl (by decide) (qt_index rfl rfl rfl tyl_sl_impl_Pt (by omega)) ?_
  refine at_q rfl rfl (by decide) (qt_loadS rfl rfl tys_impl_Pt rfl (rdPts h hlt)) ?_
  refine at_op rfl ?_
  refine op_alloc rfl tyz_impl_Pt rfl (by decide) (fun b1 => ?_)
  refine at_rsE (by simp only [ya,yb,yc,yd,Value.cells,ye]; rfl) ?_
  refine at_op rfl ?_
  refine op_storeAll' (k := 1) rfl rfl rfl rfl (rfl) (by rfl) tyz_impl_Pt.szx rfl rfl rfl ?_
  refine at_rsE (by simp only [ya,yb,yc,yd,Value.cells,ye]; rfl) ?_
  refine at_end ?_
  refine at_region ?_
  refine at_q rfl rfl (by decide) (qt_move rfl rfl) ?_
  refine at_q rfl rfl (by decide) (qt_loadS rfl rfl tys_impl_Pt rfl (rdAll (k := 1) rfl)) ?_
  refine at_q rfl rfl (by decide) (qt_call ok_impl_PtText rfl rfl (fun w1 hs => PtText_any (pt xs k) w1 (hok _ (by rw [← pt_at (show k < xs.length by omega)]; exact List.getElem_mem _)))) ?_
  refine at_op rfl ?_
  refine op_buildSlice rfl rfl (bsl_sl_string_1_0 rfl) rfl (by decide) (fun b2 => ?_)
  refine at_rsE (by simp only [ya,yb,yc,yd,Value.cells,ye]; rfl) ?_
  refine at_op rfl ?_
  refine op_appendR (k := 0) rfl tyl_sl_string tyz_string (by decide) rfl (by decide) rfl rfl rfl (fun w' hs => src_cel hs (k := 2) rfl rfl) (by simp [Value.oneCell']) (by unfold maxLen; omega) (by omega) (Nat.le_refl _) (fun r1 => ?_)
  refine at_rsE (by simp only [ya,yb,yc,yd,Value.cells,ye]; rfl) ?_
  refine at_q rfl rfl (by decide) (qt_assign rfl rfl) ?_
  refine at_nil ?_
  refine norm_block ?_
  refine norm_then ?_
  refine at_region ?_
  refine at_q rfl rfl (by decide) (qt_add rfl rfl rfl (by omega) (by omega)) ?_
  refine at_q rfl rfl (by decide) (qt_move rfl rfl) ?_
  refine at_end ?_
  exact at_againc hL1 ((k + 1, r1)) ((show k + 1 ≤ n by omega)) (by simp only; omega) ⟨rfl, vi (by omega), rfl, rfl, rfl, trivial⟩ (fun _ h => h.upto ⟨by rw [List.take_succ_eq_append_getElem (show k < xs.length by omega), pt_at, List.map_append]; rfl, trivial⟩)
 ·try simp only [za,zb,zc,zd,ze,zf,Bool.not_true,Bool.not_false,zg,zh,ne_eq,zi,zj] at c1
  have hkn : k = n := (by omega)
  subst hkn
  refine at_exit ?_
  refine pass_then (fun h => by cases h) ?_
  refine pass_then (fun h => by cases h) ?_
  refine pass_hit ?_
  refine norm_then ?_
  refine at_seq ?_
  refine at_region ?_
  refine at_q rfl rfl (by decide) (qt_move rfl rfl) ?_
  refine at_q rfl rfl (by decide) (qt_call ok_strings_Join rfl rfl (fun w1 hs => joinRow (B := Bs.N ⟨w, []⟩) (x := (rA, rc)) hl h1 hn (hs.all 0 _ rfl).1)) ?_
  refine at_q rfl rfl (by decide) (qt_assign rfl rfl) ?_
  refine at_end ?_
  refine at_retc ?_
  refine at_ret1 rfl (.tmp rfl) ?_
  intro w' hs
  exact ⟨rfl, hs.fin⟩
end Go.Proofs.Ytjhaakollekjeaa
