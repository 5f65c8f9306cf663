import Derived.Test.YtjhaakollekjeaaDoorO29
import Derived.Test.YtjhaakollekjeaaDoorO18
namespace Go.Proofs.YtjhaakollekjeaaDoor
open Go Go.RowKit
set_option linter.unusedVariables false
set_option linter.unusedSimpArgs false
set_option maxRecDepth 100000
set_option maxHeartbeats 4000000
set_option linter.unusedVariables false
set_option linter.unusedSimpArgs false

abbrev sgCells (s : Sg) : List Value := [.int .i64 s.a.1, .int .i64 s.a.2, .int .i64 s.b.1, .int .i64 s.b.2, .int .i64 s.c.1, .int .i64 s.c.2, .bool s.st]
theorem sgCells_len (s : Sg) : (sgCells s).length = 7 := rfl
theorem modI1 (k n : Nat) : ((k : Int) + 1).tmod (n : Int) = (((k + 1) % n : Nat) : Int) := by rw [show (k : Int) + 1 = ((k + 1 : Nat) : Int) from rfl, Int.ofNat_tmod]
section
variable {w0 : Bs} {Rs : List Res} {k B T q j off : Nat} {r : Option Addr × Nat} {L : List Kn}
theorem rdRowK (hk : Rs[k]? = some (rowR B T 3 q (L.flatMap knCells) r)) (hj : j < L.length) (he : off = 0 + j * 3) : ∀ w, St w0 Rs w → ∀ q v, [Value.int .i64 (kn L j).1.1, Value.int .i64 (kn L j).1.2][q]? = some v → w.cell? ⟨ablk r.1, off + q, none⟩ = some v := rdRowS [] [.bool (kn L j).2] knCells_len hk (kn_get hj) rfl he
theorem rdRowKB (hk : Rs[k]? = some (rowR B T 3 q (L.flatMap knCells) r)) (hj : j < L.length) (he : off = 0 + j * 3 + 2) : ∀ w, St w0 Rs w → w.cell? ⟨ablk r.1, off, none⟩ = some (.bool (kn L j).2) := rdRow (i := 2) knCells_len hk (kn_get hj) rfl he
end
theorem vsK {A : Option Addr} {c n m : Nat} (h : n = m) : some (Value.slice A n c) = some (Value.slice A m c) := by rw [h]
theorem fuK_len2 (l : List Kn) : (fuK l).length = (fuTo l l.length).length + 1 := by rw [fuK, List.length_append]; rfl
theorem fuK_cells (l : List Kn) : (fuK l).flatMap knCells = (fuTo l l.length).flatMap knCells ++ knCells (kn l 0) := by rw [fuK, List.flatMap_append]; rfl
abbrev SgP (l : List Kn) (e : Ending) (w w' : World) : Prop := ∃ x : Option Addr × Nat, e = .returned (.slice x.1 (sgL (fuK l)).length x.2) ∧ Over w w' ∧ (rowR 0 96 7 (sgL (fuK l)).length ((sgL (fuK l)).flatMap sgCells) x).P w' ∧ (∀ d, (rowR 0 96 7 (sgL (fuK l)).length ((sgL (fuK l)).flatMap sgCells) x).F d → w.heap.size ≤ d) ∧ (rowR 0 96 7 (sgL (fuK l)).length ((sgL (fuK l)).flatMap sgCells) x).B = 0 ∧ True
theorem sgp_ok {l : List Kn} {S : List Sg} {w w' : World} {x : Option Addr × Nat} (hS : S = sgL (fuK l)) (ho : Over w w') (hP : (rowR 0 96 7 S.length (S.flatMap sgCells) x).P w') (hF : ∀ d, (rowR 0 96 7 S.length (S.flatMap sgCells) x).F d → w.heap.size ≤ d) : SgP l (.returned (.slice x.1 S.length x.2)) w w' := by
 subst hS
 exact ⟨x, rfl, ho, hP, hF, rfl, trivial⟩
theorem segmentsOf_any (A : Option Addr) (c : Nat) (l : List Kn) (w : World) (h : Kns w A l.length l) (hL : LoopOk l) : Calls Tryd.prog 41 #[outV A l.length c] w fun e w' => SgP l e w w' := by
 have hpos := hL.pos
 have hlen := hL.len
 obtain ⟨eb, eo, rfl, _⟩ := h.at_ hpos
 refine walk_from (m := 108) (Tryd.func41) rfl rfl (Nat.le_of_ble_eq_true rfl) ?_
 refine at_seq ?_
 refine at_region ?_
 refine at_op rfl ?_
 refine op_box rfl rfl (rfl) rfl (by decide) (fun b1 => ?_)
 refine at_rsE (by simp only [ya,yb,yc,yd,Value.cells,ye]; rfl) ?_
 refine at_q rfl rfl (by decide) (qt_assign rfl rfl) ?_
 refine at_end ?_
 refine at_seq ?_
 refine at_region ?_
 refine at_q rfl rfl (by decide) (qt_assign rfl rfl) ?_
 refine at_row0 (T := 54) (s := 3) ?_
 refine at_rsE (by simp only [ya,yb,yc,yd,Value.cells,ye]; rfl) ?_
 refine at_end ?_
 refine at_seq ?_
 refine at_seq ?_
 refine at_region ?_
 refine at_q rfl rfl (by decide) (qt_fieldAddr rfl rfl tyf_impl_Loop_0) ?_
 refine at_q rfl rfl (by decide) (qt_load1 rfl rfl ty1_sl_impl_Knot (rd1 (k := 0) rfl rfl)) ?_
 refine at_q rfl rfl (by decide) (qt_len rfl rfl tyl_sl_impl_Knot) ?_
 refine at_q rfl rfl (by decide) (qt_move rfl rfl) ?_
 refine at_end ?_
 refine at_block ?_
 refine at_loopc (X := Nat × Option Addr × Nat) (fun x => x.1 ≤ l.length) (fun x => l.length - x.1) (fun x => [(3, .slice x.2.1 (fuTo l x.1).length x.2.2), (14, .int .i64 (x.1 : Int))]) (C := [(1, _), (2, _), (12, _), (13, _)]) ⟨rfl, rfl, rfl, rfl, trivial⟩ (fun x => [.cel b1 48 [.slice (some ⟨eb, eo, none⟩) l.length c], rowR (Bs.N ⟨w, []⟩) 54 3 (fuTo l x.1).length ((fuTo l x.1).flatMap knCells) x.2]) (0, none, 0) (Nat.zero_le _) ⟨rfl, rfl, rfl, rfl, rfl, rfl, trivial⟩ (fun _ h => h) ?_
 intro ⟨k, rA, rc⟩ hx L hL1
 refine at_envE (by simp only [ya,yb]; rfl) ?_
 refine at_rsE (by first | (dsimp only; done) | (dsimp only; rfl) | rfl) ?_
 have hk : k ≤ l.length := hx
 have hfl := fuTo_len l k
 refine at_seq ?_
 refine at_region ?_
 refine at_q rfl rfl (by decide) (qt_lss rfl rfl rfl) ?_
 refine at_end ?_
 refine at_seq ?_
 refine at_cond rfl (fun c1 => ?_) (fun c1 => ?_)
 ·try simp only [za,zb,zc,zd,ze,zf,Bool.not_true,Bool.not_false,zg,zh,ne_eq,zi,zj] at c1
  have hlt : k < l.length := (by omega)
  have hm : (k + 1) % l.length < l.length := Nat.mod_lt _ (by omega)
  refine at_skip ?_
  refine norm_then ?_
  refine at_seq ?_
  refine at_block ?_
  refine at_seq ?_
  refine at_region ?_
  refine at_q rfl rfl (by decide) (qt_move rfl rfl) ?_
  refine at_q rfl rfl (by decide) (qt_index rfl rfl rfl tyl_sl_impl_Knot (by omega)) ?_
  refine at_q rfl rfl (by decide) (qt_loadS rfl rfl tys_impl_Knot rfl (rdKn h hlt rfl)) ?_
  refine at_op rfl ?_
  refine op_alloc rfl tyz_impl_Knot rfl (by decide) (fun b2 => ?_)
  refine at_rsE (by simp only [ya,yb,yc,yd,Value.cells,ye]; rfl) ?_
  refine at_q rfl rfl (by decide) (qt_assign rfl rfl) ?_
  refine at_op rfl ?_
  refine op_storeAll' (k := 2) rfl rfl rfl rfl (rfl) (by rfl) tyz_impl_Knot.szx rfl rfl rfl ?_
  refine at_rsE (by simp only [ya,yb,yc,yd,Value.cells,ye]; rfl) ?_
  refine at_end ?_
  refine at_seq ?_
  refine at_region ?_
  refine at_q rfl rfl (by decide) (qt_move rfl rfl) ?_
  refine at_q rfl rfl (by decide) (qt_loadS rfl rfl tys_impl_Knot rfl (rdAll (k := 2) rfl)) ?_
  refine at_op rfl ?_
  refine op_buildSlice rfl rfl (bsl_sl_impl_Knot_1_0 rfl) rfl (by decide) (fun b3 => ?_)
  refine at_rsE (by simp only [ya,yb,yc,yd,Value.cells,ye]; rfl) ?_
  refine at_op rfl ?_
  refine op_appendR (k := 1) rfl tyl_sl_impl_Knot tyz_impl_Knot (by decide) rfl (by decide) rfl rfl rfl (fun w' hs => src_cel hs (k := 3) rfl rfl) (by simp [Value.oneCell']) (by unfold maxLen; omega) (by omega) (Nat.le_refl _) (fun r1 => ?_)
  refine at_rsE (by simp only [ya,yb,yc,yd,Value.cells,ye]; rfl) ?_
  refine at_q rfl rfl (by decide) (qt_assign rfl rfl) ?_
  refine at_end ?_
  refine at_seq ?_
  refine dg_start mixed rfl ?_
  refine dg_phase 12 ?_
  refine dg_q (i := 0) rfl (by kernel_rfl) (by kernel_rfl) (by kernel_rfl) [] (by kernel_rfl) (fun _ _ _ h => h) rfl rfl (by decide) (fun _ h => h.upto ⟨rfl, rfl, rfl, rfl, trivial⟩) (qt_fieldAddr rfl rfl tyf_impl_Loop_0) ?_
  refine dg_q (i := 1) rfl (by kernel_rfl) (by kernel_rfl) (by kernel_rfl) [] (by kernel_rfl) (fun _ _ _ h => h) rfl rfl (by decide) (fun _ h => h.upto ⟨rfl, rfl, rfl, rfl, trivial⟩) (qt_load1 rfl rfl ty1_sl_impl_Knot (rd1 (k := 0) rfl rfl)) ?_
  refine dg_q (i := 2) rfl (by kernel_rfl) (by kernel_rfl) (by kernel_rfl) [] (by kernel_rfl) (fun _ _ _ h => h) rfl rfl (by decide) (fun _ h => h.upto ⟨rfl, rfl, rfl, rfl, trivial⟩) (qt_move rfl rfl) ?_
  refine dg_q (i := 3) rfl (by kernel_rfl) (by kernel_rfl) (by kernel_rfl) [] (by kernel_rfl) (fun _ _ _ h => h) rfl rfl (by decide) (fun _ h => h.upto ⟨rfl, rfl, rfl, rfl, trivial⟩) (qt_add rfl rfl rfl (by omega) (by omega)) ?_
  refine dg_q (i := 4) rfl (by kernel_rfl) (by kernel_rfl) (by kernel_rfl) [] (by kernel_rfl) (fun _ _ _ h => h) rfl rfl (by decide) (fun _ h => h.upto ⟨rfl, rfl, rfl, rfl, trivial⟩) (qt_fieldAddr rfl rfl tyf_impl_Loop_0) ?_
  refine dg_q (i := 5) rfl (by kernel_rfl) (by kernel_rfl) (by kernel_rfl) [] (by kernel_rfl) (fun _ _ _ h => h) rfl rfl (by decide) (fun _ h => h.upto ⟨rfl, rfl, rfl, rfl, trivial⟩) (qt_load1 rfl rfl ty1_sl_impl_Knot (rd1 (k := 0) rfl rfl)) ?_
  refine dg_q (i := 6) rfl (by kernel_rfl) (by kernel_rfl) (by kernel_rfl) [] (by kernel_rfl) (fun _ _ _ h => h) rfl rfl (by decide) (fun _ h => h.upto ⟨rfl, rfl, rfl, rfl, trivial⟩) (qt_len rfl rfl tyl_sl_impl_Knot) ?_
  refine dg_q (i := 7) rfl (by kernel_rfl) (by kernel_rfl) (by kernel_rfl) [] (by kernel_rfl) (fun _ _ _ h => h) rfl rfl (by decide) (fun _ h => h.upto ⟨rfl, rfl, rfl, rfl, trivial⟩) ((qt_rem rfl rfl rfl (by omega) (by omega) (by omega)).as (congrArg _ (modI1 k l.length))) ?_
  refine dg_q (i := 8) rfl (by kernel_rfl) (by kernel_rfl) (by kernel_rfl) [] (by kernel_rfl) (fun _ _ _ h => h) rfl rfl (by decide) (fun _ h => h.upto ⟨rfl, rfl, rfl, rfl, trivial⟩) (qt_index (j := (k + 1) % l.length) rfl rfl rfl tyl_sl_impl_Knot (by omega)) ?_
  refine dg_q (i := 9) rfl (by kernel_rfl) (by kernel_rfl) (by kernel_rfl) [] (by kernel_rfl) (fun _ _ _ h => h) rfl rfl (by decide) (fun _ h => h.upto ⟨rfl, rfl, rfl, rfl, trivial⟩) (qt_loadS rfl rfl tys_impl_Knot rfl (rdKn h hm rfl)) ?_
  refine dg_one (i := 10) rfl (by decide) (by kernel_rfl) rfl ?_
  refine op_alloc rfl tyz_impl_Knot rfl (by decide) (fun b4 => ?_)
  refine at_rsE (by simp only [ya,yb,yc,yd,Value.cells,ye]; rfl) ?_
  refine dr_keep (fun _ h => h.upto ⟨rfl, rfl, rfl, rfl, trivial⟩) ?_
  refine dg_one (i := 11) rfl (by decide) (by kernel_rfl) rfl ?_
  refine op_storeAll' (k := 4) rfl rfl rfl rfl (rfl) (by rfl) tyz_impl_Knot.szx rfl rfl rfl ?_
  refine at_rsE (by simp only [ya,yb,yc,yd,Value.cells,ye]; rfl) ?_
  refine dr_keep (fun _ h => h.upto ⟨rfl, rfl, rfl, rfl, trivial⟩) ?_
  refine dg_done (by kernel_rfl) ?_
  refine norm_then ?_
  refine at_seq ?_
  refine at_region ?_
  refine at_q rfl rfl (by decide) (qt_fieldAddr rfl rfl tyf_impl_Knot_1) ?_
  refine at_q rfl rfl (by decide) (qt_load1 rfl rfl ty1_bool (rd1 (k := 2) rfl rfl)) ?_
  refine at_q rfl rfl (by decide) (qt_not rfl rfl) ?_
  refine at_q rfl rfl (by decide) (qt_move rfl rfl) ?_
  refine at_bsplit 36 rfl (fun g1 => ?_) (fun g1 => ?_)
  ·try simp only [za,zb,zc,zd,ze,zf,Bool.not_true,Bool.not_false,zg,zh,ne_eq,zi,zj] at g1
   refine at_on rfl rfl rfl rfl ?_
   refine op_q rfl (by decide) (qt_fieldAddr rfl rfl tyf_impl_Knot_1) ?_
   refine at_on rfl rfl rfl rfl ?_
   refine op_q rfl (by decide) (qt_load1 rfl rfl ty1_bool (rd1 (k := 4) rfl rfl)) ?_
   refine at_on rfl rfl rfl rfl ?_
   refine op_q rfl (by decide) (qt_not rfl rfl) ?_
   refine at_q rfl rfl (by decide) (qt_pickT rfl rfl rfl) ?_
   refine at_end ?_
   refine at_cond rfl (fun c2 => ?_) (fun c2 => ?_)
   ·try simp only [za,zb,zc,zd,ze,zf,Bool.not_true,Bool.not_false,zg,zh,ne_eq,zi,zj] at c2
    have e1 := md_yes (l := l) (i := k) (by simpa using g1) (by simpa using c2)
    refine at_region ?_
    refine at_q rfl rfl (by decide) (qt_move rfl rfl) ?_
    refine at_q rfl rfl (by decide) (qt_fieldAddr rfl rfl tyf_impl_Knot_0) ?_
    refine at_q rfl rfl (by decide) (qt_loadS rfl rfl tys_impl_Pt rfl (rd2 (k := 2) rfl rfl rfl)) ?_
    refine at_q rfl rfl (by decide) (qt_fieldAddr rfl rfl tyf_impl_Knot_0) ?_
    refine at_q rfl rfl (by decide) (qt_loadS rfl rfl tys_impl_Pt rfl (rd2 (k := 4) rfl rfl rfl)) ?_
    refine at_q rfl rfl (by decide) (qt_call ok_impl_midPt rfl rfl (fun w1 hs => midPt_any (kn l k).1 (kn l ((k + 1) % l.length)).1 w1 (hL.at_ hlt) (hL.at_ hm))) ?_
    refine at_q rfl rfl (by decide) (qt_build rfl rfl (bld_impl_Knot_0_1 rfl rfl)) ?_
    refine at_op rfl ?_
    refine op_buildSlice rfl rfl (bsl_sl_impl_Knot_1_0 rfl) rfl (by decide) (fun b5 => ?_)
    refine at_rsE (by simp only [ya,yb,yc,yd,Value.cells,ye]; rfl) ?_
    refine at_op rfl ?_
    refine op_appendR (k := 1) rfl tyl_sl_impl_Knot tyz_impl_Knot (by decide) rfl (by decide) rfl rfl rfl (fun w' hs => src_cel hs (k := 5) rfl rfl) (by simp [Value.oneCell']) (by unfold maxLen; omega) (by omega) (Nat.le_refl _) (fun r2 => ?_)
    refine at_rsE (by simp only [ya,yb,yc,yd,Value.cells,ye]; rfl) ?_
    refine at_q rfl rfl (by decide) (qt_assign rfl rfl) ?_
    refine at_nil ?_
    refine norm_block ?_
    refine norm_then ?_
    refine at_region ?_
    refine at_q rfl rfl (by decide) (qt_add rfl rfl rfl (by omega) (by omega)) ?_
    refine at_q rfl rfl (by decide) (qt_move rfl rfl) ?_
    refine at_end ?_
    exact at_againc hL1 ((k + 1, r2)) ((show k + 1 ≤ l.length by omega)) (by simp only; omega) ⟨vsK (by rw [e1, List.length_append, List.length_append]; rfl), vi (by omega), rfl, rfl, rfl, rfl, trivial⟩ (fun _ h => h.upto ⟨rfl, by rw [e1, List.flatMap_append, List.flatMap_append, List.length_append, List.length_append]; rfl, trivial⟩)
   ·try simp only [za,zb,zc,zd,ze,zf,Bool.not_true,Bool.not_false,zg,zh,ne_eq,zi,zj] at c2
    have e1 := md_no (l := l) (i := k) (fun hh => by simp [hh.2] at c2)
    refine at_skip ?_
    refine norm_block ?_
    refine norm_then ?_
    refine at_region ?_
    refine at_q rfl rfl (by decide) (qt_add rfl rfl rfl (by omega) (by omega)) ?_
    refine at_q rfl rfl (by decide) (qt_move rfl rfl) ?_
    refine at_end ?_
    exact at_againc hL1 ((k + 1, r1)) ((show k + 1 ≤ l.length by omega)) (by simp only; omega) ⟨vsK (by rw [e1, List.length_append]; rfl), vi (by omega), rfl, rfl, rfl, rfl, trivial⟩ (fun _ h => h.upto ⟨rfl, by rw [e1, List.flatMap_append, List.length_append]; rfl, trivial⟩)
  ·try simp only [za,zb,zc,zd,ze,zf,Bool.not_true,Bool.not_false,zg,zh,ne_eq,zi,zj] at g1
   have e1 := md_no (l := l) (i := k) (fun hh => by simp [hh.1] at g1)
   refine at_off rfl rfl rfl rfl (by decide) rfl (by decide) ?_
   refine at_off rfl rfl rfl rfl (by decide) rfl (by decide) ?_
   refine at_off rfl rfl rfl rfl (by decide) rfl (by decide) ?_
   refine at_q rfl rfl (by decide) (qt_pickF rfl rfl rfl) ?_
   refine at_end ?_
   refine at_no rfl rfl ?_
   refine at_skip ?_
   refine norm_block ?_
   refine norm_then ?_
   refine at_region ?_
   refine at_q rfl rfl (by decide) (qt_add rfl rfl rfl (by omega) (by omega)) ?_
   refine at_q rfl rfl (by decide) (qt_move rfl rfl) ?_
   refine at_end ?_
   exact at_againc hL1 ((k + 1, r1)) ((show k + 1 ≤ l.length by omega)) (by simp only; omega) ⟨vsK (by rw [e1, List.length_append]; rfl), vi (by omega), rfl, rfl, rfl, rfl, trivial⟩ (fun _ h => h.upto ⟨rfl, by rw [e1, List.flatMap_append, List.length_append]; rfl, trivial⟩)
 ·try simp only [za,zb,zc,zd,ze,zf,Bool.not_true,Bool.not_false,zg,zh,ne_eq,zi,zj] at c1
  have hkn : k = l.length := (by omega)
  subst hkn
  refine at_exit ?_
  refine pass_then (fun h => by cases h) ?_
  refine pass_then (fun h => by cases h) ?_
  refine pass_hit ?_
  refine norm_then ?_
  refine at_seq ?_
  refine at_region ?_
  refine at_q rfl rfl (by decide) (qt_move rfl rfl) ?_
  refine at_q rfl rfl (by decide) (qt_fieldAddr rfl rfl tyf_impl_Loop_0) ?_
  refine at_q rfl rfl (by decide) (qt_load1 rfl rfl ty1_sl_impl_Knot (rd1 (k := 0) rfl rfl)) ?_
  refine at_q rfl rfl (by decide) (qt_index (j := 0) rfl rfl rfl tyl_sl_impl_Knot (by omega)) ?_
  refine at_q rfl rfl (by decide) (qt_loadS rfl rfl tys_impl_Knot rfl (rdKn h (k := 0) hpos rfl)) ?_
  refine at_op rfl ?_
  refine op_buildSlice rfl rfl (bsl_sl_impl_Knot_1_0 rfl) rfl (by decide) (fun b6 => ?_)
  refine at_rsE (by simp only [ya,yb,yc,yd,Value.cells,ye]; rfl) ?_
  refine at_op rfl ?_
  refine op_appendR (k := 1) rfl tyl_sl_impl_Knot tyz_impl_Knot (by decide) rfl (by decide) rfl rfl rfl (fun w' hs => src_cel hs (k := 2) rfl rfl) (by simp [Value.oneCell']) (by unfold maxLen; omega) (by omega) (Nat.le_refl _) (fun r3 => ?_)
  refine at_rsE (by simp only [ya,yb,yc,yd,Value.cells,ye]; rfl) ?_
  refine at_q rfl rfl (by decide) (qt_assign rfl rfl) ?_
  refine at_end ?_
  have hfk := fuK_len hL
  refine at_seq ?_
  refine at_region ?_
  refine at_q rfl rfl (by decide) (qt_assign rfl rfl) ?_
  refine at_row0 (T := 96) (s := 7) ?_
  refine at_rsE (by simp only [ya,yb,yc,yd,Value.cells,ye]; rfl) ?_
  refine at_end ?_
  refine at_seq ?_
  refine at_seq ?_
  refine at_region ?_
  refine at_q rfl rfl (by decide) (qt_assign rfl rfl) ?_
  refine at_end ?_
  refine at_block ?_
  refine at_loopc (X := Nat × List Sg × Option Addr × Nat) (fun x => x.1 + 1 ≤ (fuK l).length ∧ x.2.1 ++ sgL ((fuK l).drop x.1) = sgL (fuK l) ∧ x.2.1.length ≤ x.1) (fun x => (fuK l).length - x.1) (fun x => [(3, .slice r3.1 (fuK l).length r3.2), (7, .slice x.2.2.1 x.2.1.length x.2.2.2), (8, .int .i64 (x.1 : Int))]) (C := [(2, _)]) ⟨rfl, trivial⟩ (fun x => [.cel b1 48 [.slice (some ⟨eb, eo, none⟩) l.length c], rowR (Bs.N ⟨w, []⟩) 54 3 (fuK l).length ((fuK l).flatMap knCells) r3, .cel b6 54 (knCells (kn l 0)), rowR (Bs.N ⟨w, []⟩) 96 7 x.2.1.length (x.2.1.flatMap sgCells) x.2.2]) (0, [], none, 0) (⟨by simp only; omega, by simp, Nat.le_refl _⟩) ⟨vsK (by rw [fuK_len2]), rfl, rfl, rfl, trivial⟩ (fun _ h => h.upto ⟨rfl, by rw [fuK_len2, fuK_cells], rfl, rfl, trivial⟩) ?_
  intro ⟨i, S, sA, sc⟩ hx L hL2
  refine at_envE (by simp only [ya,yb]; rfl) ?_
  refine at_rsE (by first | (dsimp only; done) | (dsimp only; rfl) | rfl) ?_
  obtain ⟨hi, hS, hSl⟩ := hx
  simp only at hi hS hSl
  refine at_seq ?_
  refine at_seq ?_
  refine at_region ?_
  refine at_q rfl rfl (by decide) (qt_move rfl rfl) ?_
  refine at_q rfl rfl (by decide) (qt_add rfl rfl rfl (by omega) (by omega)) ?_
  refine at_q rfl rfl (by decide) (qt_move rfl rfl) ?_
  refine at_q rfl rfl (by decide) (qt_len rfl rfl tyl_sl_impl_Knot) ?_
  refine at_q rfl rfl (by decide) (qt_lss rfl rfl rfl) ?_
  refine at_end ?_
  refine at_cond rfl (fun c3 => ?_) (fun c3 => ?_)
  ·try simp only [za,zb,zc,zd,ze,zf,Bool.not_true,Bool.not_false,zg,zh,ne_eq,zi,zj] at c3
   have hi1 : i + 1 < (fuK l).length := (by omega)
   refine at_skip ?_
   refine norm_then ?_
   refine at_block ?_
   refine at_seq ?_
   refine dg_start mixed rfl ?_
   refine dg_phase 15 ?_
   refine dg_q (i := 0) rfl (by kernel_rfl) (by kernel_rfl) (by kernel_rfl) [] (by kernel_rfl) (fun _ _ _ h => h) rfl rfl (by decide) (fun _ h => h.upto ⟨rfl, rfl, rfl, rfl, trivial⟩) (qt_move rfl rfl) ?_
   refine dg_q (i := 1) rfl (by kernel_rfl) (by kernel_rfl) (by kernel_rfl) [] (by kernel_rfl) (fun _ _ _ h => h) rfl rfl (by decide) (fun _ h => h.upto ⟨rfl, rfl, rfl, rfl, trivial⟩) (qt_move rfl rfl) ?_
   refine dg_q (i := 2) rfl (by kernel_rfl) (by kernel_rfl) (by kernel_rfl) [] (by kernel_rfl) (fun _ _ _ h => h) rfl rfl (by decide) (fun _ h => h.upto ⟨rfl, rfl, rfl, rfl, trivial⟩) (qt_indexR (k := 1) (j := i) rfl rfl rfl rfl tyl_sl_impl_Knot (by omega)) ?_
   refine dg_q (i := 3) rfl (by kernel_rfl) (by kernel_rfl) (by kernel_rfl) [] (by kernel_rfl) (fun _ _ _ h => h) rfl rfl (by decide) (fun _ h => h.upto ⟨rfl, rfl, rfl, rfl, trivial⟩) (qt_fieldAddr rfl rfl tyf_impl_Knot_0) ?_
   refine dg_q (i := 4) rfl (by kernel_rfl) (by kernel_rfl) (by kernel_rfl) [] (by kernel_rfl) (fun _ _ _ h => h) rfl rfl (by decide) (fun _ h => h.upto ⟨rfl, rfl, rfl, rfl, trivial⟩) (qt_loadS rfl rfl tys_impl_Pt rfl (rdRowK (k := 1) rfl (by omega) rfl)) ?_
   refine dg_q (i := 5) rfl (by kernel_rfl) (by kernel_rfl) (by kernel_rfl) [] (by kernel_rfl) (fun _ _ _ h => h) rfl rfl (by decide) (fun _ h => h.upto ⟨rfl, rfl, rfl, rfl, trivial⟩) (qt_move rfl rfl) ?_
   refine dg_q (i := 6) rfl (by kernel_rfl) (by kernel_rfl) (by kernel_rfl) [] (by kernel_rfl) (fun _ _ _ h => h) rfl rfl (by decide) (fun _ h => h.upto ⟨rfl, rfl, rfl, rfl, trivial⟩) (qt_move rfl rfl) ?_
   refine dg_q (i := 7) rfl (by kernel_rfl) (by kernel_rfl) (by kernel_rfl) [] (by kernel_rfl) (fun _ _ _ h => h) rfl rfl (by decide) (fun _ h => h.upto ⟨rfl, rfl, rfl, rfl, trivial⟩) ((qt_add rfl rfl rfl (by omega) (by omega)).as (congrArg _ (show (i : Int) + 1 = ((i + 1 : Nat) : Int) from rfl))) ?_
   refine dg_q (i := 8) rfl (by kernel_rfl) (by kernel_rfl) (by kernel_rfl) [] (by kernel_rfl) (fun _ _ _ h => h) rfl rfl (by decide) (fun _ h => h.upto ⟨rfl, rfl, rfl, rfl, trivial⟩) (qt_indexR (k := 1) (j := i + 1) rfl rfl rfl rfl tyl_sl_impl_Knot (by omega)) ?_
   refine dg_q (i := 9) rfl (by kernel_rfl) (by kernel_rfl) (by kernel_rfl) [] (by kernel_rfl) (fun _ _ _ h => h) rfl rfl (by decide) (fun _ h => h.upto ⟨rfl, rfl, rfl, rfl, trivial⟩) (qt_fieldAddr rfl rfl tyf_impl_Knot_0) ?_
   refine dg_q (i := 10) rfl (by kernel_rfl) (by kernel_rfl) (by kernel_rfl) [] (by kernel_rfl) (fun _ _ _ h => h) rfl rfl (by decide) (fun _ h => h.upto ⟨rfl, rfl, rfl, rfl, trivial⟩) (qt_loadS rfl rfl tys_impl_Pt rfl (rdRowK (k := 1) rfl (by omega) rfl)) ?_
   refine dg_new2 (i := 11) (j := 12) rfl rfl (by decide) (by decide) (by decide) rfl rfl rfl rfl (by decide) (by decide) (by decide) rfl rfl tyz_impl_Pt tyz_impl_Pt (by kernel_rfl) (by kernel_rfl) (by kernel_rfl) (fun _ h => h.upto ⟨rfl, rfl, rfl, rfl, trivial⟩) (fun b7 b8 => ?_)
   refine at_rsE (by simp only [ya,yb,yc,yd,Value.cells,ye]; rfl) ?_
   refine dg_one (i := 13) rfl (by decide) (by kernel_rfl) rfl ?_
   refine op_storeAll' (k := 4) rfl rfl rfl rfl (rfl) (by rfl) tyz_impl_Pt.szx rfl rfl rfl ?_
   refine at_rsE (by simp only [ya,yb,yc,yd,Value.cells,ye]; rfl) ?_
   refine dr_keep (fun _ h => h.upto ⟨rfl, rfl, rfl, rfl, trivial⟩) ?_
   refine dg_one (i := 14) rfl (by decide) (by kernel_rfl) rfl ?_
   refine op_storeAll' (k := 5) rfl rfl rfl rfl (rfl) (by rfl) tyz_impl_Pt.szx rfl rfl rfl ?_
   refine at_rsE (by simp only [ya,yb,yc,yd,Value.cells,ye]; rfl) ?_
   refine dr_keep (fun _ h => h.upto ⟨rfl, rfl, rfl, rfl, trivial⟩) ?_
   refine dg_done (by kernel_rfl) ?_
   refine norm_then ?_
   refine at_seq ?_
   refine at_region ?_
   refine at_q rfl rfl (by decide) (qt_move rfl rfl) ?_
   refine at_q rfl rfl (by decide) (qt_move rfl rfl) ?_
   refine at_q rfl rfl (by decide) ((qt_add rfl rfl rfl (by omega) (by omega)).as (congrArg _ (show (i : Int) + 1 = ((i + 1 : Nat) : Int) from rfl))) ?_
   refine at_q rfl rfl (by decide) (qt_indexR (k := 1) (j := i + 1) rfl rfl rfl rfl tyl_sl_impl_Knot (by omega)) ?_
   refine at_q rfl rfl (by decide) (qt_fieldAddr rfl rfl tyf_impl_Knot_1) ?_
   refine at_q rfl rfl (by decide) (qt_load1 rfl rfl ty1_bool (rdRowKB (k := 1) rfl (show i + 1 < (fuK l).length by omega) rfl)) ?_
   refine at_end ?_
   refine at_cond rfl (fun c4 => ?_) (fun c4 => ?_)
   ·try simp only [za,zb,zc,zd,ze,zf,Bool.not_true,Bool.not_false,zg,zh,ne_eq,zi,zj] at c4
    have e1 := sg_on (l := fuK l) (i := i) (by omega) (by simpa using c4)
    refine at_seq ?_
    refine dg_start mixed rfl ?_
    refine dg_phase 9 ?_
    refine dg_q (i := 0) rfl (by kernel_rfl) (by kernel_rfl) (by kernel_rfl) [] (by kernel_rfl) (fun _ _ _ h => h) rfl rfl (by decide) (fun _ h => h.upto ⟨rfl, rfl, rfl, rfl, rfl, rfl, trivial⟩) (qt_move rfl rfl) ?_
    refine dg_q (i := 1) rfl (by kernel_rfl) (by kernel_rfl) (by kernel_rfl) [6, 7, 8] (by kernel_rfl) (fun _ _ _ h => h) rfl rfl (by decide) (fun _ h => h.upto ⟨rfl, rfl, rfl, rfl, rfl, rfl, trivial⟩) (qt_loadS rfl rfl tys_impl_Pt rfl (rdAll (k := 4) rfl)) ?_
    refine dg_q (i := 2) rfl (by kernel_rfl) (by kernel_rfl) (by kernel_rfl) [4] (by kernel_rfl) (fun _ _ _ h => h) rfl rfl (by decide) (fun _ h => h.upto ⟨rfl, rfl, rfl, rfl, rfl, rfl, trivial⟩) (qt_loadS rfl rfl tys_impl_Pt rfl (rdAll (k := 4) rfl)) ?_
    refine dg_q (i := 3) rfl (by kernel_rfl) (by kernel_rfl) (by kernel_rfl) [4] (by kernel_rfl) (fun _ _ _ h => h) rfl rfl (by decide) (fun _ h => h.upto ⟨rfl, rfl, rfl, rfl, rfl, rfl, trivial⟩) (qt_loadS rfl rfl tys_impl_Pt rfl (rdAll (k := 5) rfl)) ?_
    refine dg_q (i := 4) rfl (by kernel_rfl) (by kernel_rfl) (by kernel_rfl) [] (by kernel_rfl) (fun _ _ _ h => h) rfl rfl (by decide) (fun _ h => h.upto ⟨rfl, rfl, rfl, rfl, rfl, rfl, trivial⟩) (qt_call ok_impl_midPt rfl rfl (fun w1 hs => midPt_any (kn (fuK l) i).1 (kn (fuK l) (i + 1)).1 w1 (fuK_bd hL _ (by rw [← kn_at (show i < (fuK l).length by omega)]; exact List.getElem_mem _)) (fuK_bd hL _ (by rw [← kn_at hi1]; exact List.getElem_mem _)))) ?_
    refine dg_q (i := 5) rfl (by kernel_rfl) (by kernel_rfl) (by kernel_rfl) [6, 7, 8] (by kernel_rfl) (fun _ _ _ h => h) rfl rfl (by decide) (fun _ h => h.upto ⟨rfl, rfl, rfl, rfl, rfl, rfl, trivial⟩) (qt_loadS rfl rfl tys_impl_Pt rfl (rdAll (k := 5) rfl)) ?_
    refine dg_q (i := 6) rfl (by kernel_rfl) (by kernel_rfl) (by kernel_rfl) [7, 8] (by kernel_rfl) (fun _ _ _ h => h) rfl rfl (by decide) (fun _ h => h.upto ⟨rfl, rfl, rfl, rfl, rfl, rfl, trivial⟩) (qt_build rfl rfl (bld_impl_Quad_0_1_2 rfl rfl rfl)) ?_
    refine dg_q (i := 7) rfl (by kernel_rfl) (by kernel_rfl) (by kernel_rfl) [8] (by kernel_rfl) (fun _ _ _ h => h) rfl rfl (by decide) (fun _ h => h.upto ⟨rfl, rfl, rfl, rfl, rfl, rfl, trivial⟩) (qt_build rfl rfl (bld_impl_loopSegment_0_1 rfl rfl)) ?_
    refine dg_one (i := 8) rfl (by decide) (by kernel_rfl) rfl ?_
    refine op_buildSlice rfl rfl (bsl_sl_impl_loopSegment_1_0 rfl) rfl (by decide) (fun b9 => ?_)
    refine at_rsE (by simp only [ya,yb,yc,yd,Value.cells,ye]; rfl) ?_
    refine dr_keep (fun _ h => h.upto ⟨rfl, rfl, rfl, rfl, rfl, rfl, trivial⟩) ?_
    refine dg_bar rfl (by kernel_rfl) rfl ?_
    refine op_appendR (k := 3) rfl tyl_sl_impl_loopSegment tyz_impl_loopSegment (by decide) rfl (by decide) rfl rfl rfl (fun w' hs => src_cel hs (k := 6) rfl rfl) (by simp [Value.oneCell']) (by unfold maxLen; omega) (by omega) (Nat.le_refl _) (fun r4 => ?_)
    refine at_rsE (by simp only [ya,yb,yc,yd,Value.cells,ye]; rfl) ?_
    refine dg_phase 11 ?_
    refine dg_q (i := 10) rfl (by kernel_rfl) (by kernel_rfl) (by kernel_rfl) [] (by kernel_rfl) (fun _ _ _ h => h) rfl rfl (by decide) (fun _ h => h.upto ⟨rfl, rfl, rfl, rfl, rfl, rfl, rfl, trivial⟩) (qt_assign rfl rfl) ?_
    refine dg_done (by kernel_rfl) ?_
    refine norm_then ?_
    refine at_region ?_
    refine at_q rfl rfl (by decide) (qt_move rfl rfl) ?_
    refine at_q rfl rfl (by decide) (qt_add rfl rfl rfl (by omega) (by omega)) ?_
    refine at_q rfl rfl (by decide) (qt_assign rfl rfl) ?_
    refine at_nil ?_
    refine norm_block ?_
    refine norm_then ?_
    exact at_againc hL2 ((i + 1, S ++ [⟨(kn (fuK l) i).1, mdP (kn (fuK l) i).1 (kn (fuK l) (i + 1)).1, (kn (fuK l) (i + 1)).1, true⟩], r4)) (⟨show i + 1 + 1 ≤ (fuK l).length by omega, by simp only; rw [List.append_assoc, ← hS, e1]; rfl, by simp only [List.length_append, List.length_singleton]; omega⟩) (by simp only; omega) ⟨rfl, vsK (by rw [List.length_append]; rfl), vi (by omega), rfl, trivial⟩ (fun _ h => h.upto ⟨rfl, rfl, rfl, by rw [List.flatMap_append, List.length_append]; rfl, trivial⟩)
   ·try simp only [za,zb,zc,zd,ze,zf,Bool.not_true,Bool.not_false,zg,zh,ne_eq,zi,zj] at c4
    have hoff : (kn (fuK l) (i + 1)).2 = false := (by simpa using c4)
    have h2 : i + 2 < (fuK l).length := Nat.lt_of_not_le fun hh => by have := fuK_last hL (i := i + 1) (by omega); rw [this] at hoff; cases hoff
    have e1 := sg_off (l := fuK l) (i := i) h2 hoff
    refine at_seq ?_
    refine dg_start mixed rfl ?_
    refine dg_phase 12 ?_
    refine dg_q (i := 0) rfl (by kernel_rfl) (by kernel_rfl) (by kernel_rfl) [] (by kernel_rfl) (fun _ _ _ h => h) rfl rfl (by decide) (fun _ h => h.upto ⟨rfl, rfl, rfl, rfl, rfl, rfl, trivial⟩) (qt_move rfl rfl) ?_
    refine dg_q (i := 1) rfl (by kernel_rfl) (by kernel_rfl) (by kernel_rfl) [9, 10, 11] (by kernel_rfl) (fun _ _ _ h => h) rfl rfl (by decide) (fun _ h => h.upto ⟨rfl, rfl, rfl, rfl, rfl, rfl, trivial⟩) (qt_loadS rfl rfl tys_impl_Pt rfl (rdAll (k := 4) rfl)) ?_
    refine dg_q (i := 2) rfl (by kernel_rfl) (by kernel_rfl) (by kernel_rfl) [9, 10, 11] (by kernel_rfl) (fun _ _ _ h => h) rfl rfl (by decide) (fun _ h => h.upto ⟨rfl, rfl, rfl, rfl, rfl, rfl, trivial⟩) (qt_loadS rfl rfl tys_impl_Pt rfl (rdAll (k := 5) rfl)) ?_
    refine dg_q (i := 3) rfl (by kernel_rfl) (by kernel_rfl) (by kernel_rfl) [6, 7, 8, 9, 10, 11] (by kernel_rfl) (fun _ _ _ h => h) rfl rfl (by decide) (fun _ h => h.upto ⟨rfl, rfl, rfl, rfl, rfl, rfl, trivial⟩) (qt_move rfl rfl) ?_
    refine dg_q (i := 4) rfl (by kernel_rfl) (by kernel_rfl) (by kernel_rfl) [5, 6, 7, 8, 9, 10, 11] (by kernel_rfl) (fun _ _ _ h => h) rfl rfl (by decide) (fun _ h => h.upto ⟨rfl, rfl, rfl, rfl, rfl, rfl, trivial⟩) (qt_move rfl rfl) ?_
    refine dg_q (i := 5) rfl (by kernel_rfl) (by kernel_rfl) (by kernel_rfl) [6, 7, 8, 9, 10, 11] (by kernel_rfl) (fun _ _ _ h => h) rfl rfl (by decide) (fun _ h => h.upto ⟨rfl, rfl, rfl, rfl, rfl, rfl, trivial⟩) ((qt_add rfl rfl rfl (by omega) (by omega)).as (congrArg _ (show (i : Int) + 2 = ((i + 2 : Nat) : Int) from rfl))) ?_
    refine dg_q (i := 6) rfl (by kernel_rfl) (by kernel_rfl) (by kernel_rfl) [7, 8, 9, 10, 11] (by kernel_rfl) (fun _ _ _ h => h) rfl rfl (by decide) (fun _ h => h.upto ⟨rfl, rfl, rfl, rfl, rfl, rfl, trivial⟩) (qt_indexR (k := 1) (j := i + 2) rfl rfl rfl rfl tyl_sl_impl_Knot (by omega)) ?_
    refine dg_q (i := 7) rfl (by kernel_rfl) (by kernel_rfl) (by kernel_rfl) [8, 9, 10, 11] (by kernel_rfl) (fun _ _ _ h => h) rfl rfl (by decide) (fun _ h => h.upto ⟨rfl, rfl, rfl, rfl, rfl, rfl, trivial⟩) (qt_fieldAddr rfl rfl tyf_impl_Knot_0) ?_
    refine dg_q (i := 8) rfl (by kernel_rfl) (by kernel_rfl) (by kernel_rfl) [9, 10, 11] (by kernel_rfl) (fun _ _ _ h => h) rfl rfl (by decide) (fun _ h => h.upto ⟨rfl, rfl, rfl, rfl, rfl, rfl, trivial⟩) (qt_loadS rfl rfl tys_impl_Pt rfl (rdRowK (k := 1) rfl (by omega) rfl)) ?_
    refine dg_q (i := 9) rfl (by kernel_rfl) (by kernel_rfl) (by kernel_rfl) [10, 11] (by kernel_rfl) (fun _ _ _ h => h) rfl rfl (by decide) (fun _ h => h.upto ⟨rfl, rfl, rfl, rfl, rfl, rfl, trivial⟩) (qt_build rfl rfl (bld_impl_Quad_0_1_2 rfl rfl rfl)) ?_
    refine dg_q (i := 10) rfl (by kernel_rfl) (by kernel_rfl) (by kernel_rfl) [11] (by kernel_rfl) (fun _ _ _ h => h) rfl rfl (by decide) (fun _ h => h.upto ⟨rfl, rfl, rfl, rfl, rfl, rfl, trivial⟩) (qt_build rfl rfl (bld_impl_loopSegment_0_1 rfl rfl)) ?_
    refine dg_one (i := 11) rfl (by decide) (by kernel_rfl) rfl ?_
    refine op_buildSlice rfl rfl (bsl_sl_impl_loopSegment_1_0 rfl) rfl (by decide) (fun b10 => ?_)
    refine at_rsE (by simp only [ya,yb,yc,yd,Value.cells,ye]; rfl) ?_
    refine dr_keep (fun _ h => h.upto ⟨rfl, rfl, rfl, rfl, rfl, rfl, trivial⟩) ?_
    refine dg_bar rfl (by kernel_rfl) rfl ?_
    refine op_appendR (k := 3) rfl tyl_sl_impl_loopSegment tyz_impl_loopSegment (by decide) rfl (by decide) rfl rfl rfl (fun w' hs => src_cel hs (k := 6) rfl rfl) (by simp [Value.oneCell']) (by unfold maxLen; omega) (by omega) (Nat.le_refl _) (fun r5 => ?_)
    refine at_rsE (by simp only [ya,yb,yc,yd,Value.cells,ye]; rfl) ?_
    refine dg_phase 14 ?_
    refine dg_q (i := 13) rfl (by kernel_rfl) (by kernel_rfl) (by kernel_rfl) [] (by kernel_rfl) (fun _ _ _ h => h) rfl rfl (by decide) (fun _ h => h.upto ⟨rfl, rfl, rfl, rfl, rfl, rfl, rfl, trivial⟩) (qt_assign rfl rfl) ?_
    refine dg_done (by kernel_rfl) ?_
    refine norm_then ?_
    refine at_region ?_
    refine at_q rfl rfl (by decide) (qt_move rfl rfl) ?_
    refine at_q rfl rfl (by decide) (qt_add rfl rfl rfl (by omega) (by omega)) ?_
    refine at_q rfl rfl (by decide) (qt_assign rfl rfl) ?_
    refine at_nil ?_
    refine norm_block ?_
    refine norm_then ?_
    exact at_againc hL2 ((i + 2, S ++ [⟨(kn (fuK l) i).1, (kn (fuK l) (i + 1)).1, (kn (fuK l) (i + 2)).1, false⟩], r5)) (⟨show i + 2 + 1 ≤ (fuK l).length by omega, by simp only; rw [List.append_assoc, ← hS, e1]; rfl, by simp only [List.length_append, List.length_singleton]; omega⟩) (by simp only; omega) ⟨rfl, vsK (by rw [List.length_append]; rfl), vi (by omega), rfl, trivial⟩ (fun _ h => h.upto ⟨rfl, rfl, rfl, by rw [List.flatMap_append, List.length_append]; rfl, trivial⟩)
  ·try simp only [za,zb,zc,zd,ze,zf,Bool.not_true,Bool.not_false,zg,zh,ne_eq,zi,zj] at c3
   rw [sg_end (l := fuK l) (i := i) (by omega), List.append_nil] at hS
   refine at_exit ?_
   refine pass_then (fun h => by cases h) ?_
   refine pass_then (fun h => by cases h) ?_
   refine pass_hit ?_
   refine norm_then ?_
   refine at_seq ?_
   refine at_region ?_
   refine at_q rfl rfl (by decide) (qt_move rfl rfl) ?_
   refine at_q rfl rfl (by decide) (qt_assign rfl rfl) ?_
   refine at_end ?_
   refine at_retc ?_
   refine at_ret1 rfl (.tmp rfl) ?_
   intro w' hs
   exact sgp_ok (x := (sA, sc)) hS hs.fin (row_low (hs.all 3 _ rfl).1 (Nat.zero_le _)) (fun b hb => ((hs.all 3 _ rfl).2.1 b hb).elim id (fun h => by cases h))
end Go.Proofs.YtjhaakollekjeaaDoor
