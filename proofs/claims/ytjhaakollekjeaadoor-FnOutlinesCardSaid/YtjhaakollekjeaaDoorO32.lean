import Derived.Test.YtjhaakollekjeaaDoorO31
import Derived.Test.YtjhaakollekjeaaDoorO12
import Derived.Test.YtjhaakollekjeaaDoorO15
import Derived.Test.YtjhaakollekjeaaDoorO17
namespace Go.Proofs.YtjhaakollekjeaaDoor
open Go Go.RowKit
set_option linter.unusedVariables false
set_option linter.unusedSimpArgs false

/-! ### MinkowskiSum -/
end Go.Proofs.YtjhaakollekjeaaDoor

namespace Go.Proofs.YtjhaakollekjeaaDoor
open Go Go.RowKit
set_option linter.unusedVariables false
set_option linter.unusedSimpArgs false

/-! ### Bounds of strokes -/
end Go.Proofs.YtjhaakollekjeaaDoor

namespace Go.Proofs.YtjhaakollekjeaaDoor
open Go Go.RowKit
set_option linter.unusedVariables false
set_option linter.unusedSimpArgs false
end Go.Proofs.YtjhaakollekjeaaDoor

namespace Go.Proofs.YtjhaakollekjeaaDoor
open Go Go.RowKit
set_option linter.unusedVariables false

/-! ### A region made, as a row and its rings -/
section
variable {n : Nat} {env : List (Nat × Value)} {w0 : Bs} {Rs : List Res} {K : Act → World → Prop}
end
end Go.Proofs.YtjhaakollekjeaaDoor

namespace Go.Proofs.YtjhaakollekjeaaDoor
open Go Go.RowKit
set_option linter.unusedVariables false
set_option linter.unusedSimpArgs false

/-! ### Legs -/
/-! ### Points in strokes -/
/-! ### Raw strokes -/
end Go.Proofs.YtjhaakollekjeaaDoor

namespace Go.Proofs.YtjhaakollekjeaaDoor
open Go Go.RowKit
set_option linter.unusedVariables false
set_option linter.unusedSimpArgs false
set_option maxRecDepth 100000
set_option maxHeartbeats 4000000
set_option linter.unusedVariables false
set_option linter.unusedSimpArgs false

/-! ### Plain -/
theorem rgPt_len {t : Int} {l : List Kn} (h : LoopOk l) : (rgPt t l).length ≤ 7744 := by
 have h1 := sgP_len t (sgs l)
 have h2 := sgs_len h
 have e : rgPt t l = (sgs l).flatMap (sgP t) := rfl
 rw [e]
 omega
theorem rg_fo {t : Int} {ls : List (List Kn)} {j : Nat} (hj : j < ls.length) : rg (foRs t ls) j = rgPt t (lp ls j) := by
 simp [rg, foRs, List.getD, hj, lp]
theorem fo_len {t : Int} {ls : List (List Kn)} (h : outB ls = true) : ∀ j, j < (foRs t ls).length → (rg (foRs t ls) j).length ≤ 7744 := fun j hj => by
 have hj' : j < ls.length := by simpa [foRs] using hj
 rw [rg_fo hj']
 exact rgPt_len (loop_ok (out_at h hj'))
theorem fo_total {t : Int} {ls : List (List Kn)} (h : outB ls = true) : (total (foRs t ls) : Int) ≤ 1048577 := by
 have h1 : (foRs t ls).length = ls.length := by simp [foRs]
 have h2 := out_len h
 have key : ∀ k, k ≤ (foRs t ls).length → sumTo (foRs t ls) k ≤ 7744 * k := fun k => by
  induction k with
  | zero => simp [sumTo]
  | succ k ih =>
   intro hk
   have := ih (by omega)
   have := fo_len (t := t) h k (by omega)
   simp only [sumTo]
   omega
 have := key _ (Nat.le_refl _)
 unfold total
 omega
theorem fo_inv {t : Int} {ls : List (List Kn)} (h : outB ls = false) : foC ls t = 1 ∧ foR ls t = [] := by
 have e : foC ls t = 1 := by rw [foC, h]; rfl
 exact ⟨e, by rw [foR, e]; rfl⟩
theorem fo_tol {t : Int} {ls : List (List Kn)} (h : outB ls = true) (ht : ¬ (1 ≤ t ∧ t ≤ 262144)) : foC ls t = 2 ∧ foR ls t = [] := by
 have e : foC ls t = 2 := by rw [foC, if_pos h, if_neg ht]
 exact ⟨e, by rw [foR, e]; rfl⟩
theorem fo_full {t : Int} {ls : List (List Kn)} (h : outB ls = true) (ht : 1 ≤ t ∧ t ≤ 262144) (hf : (foOk t ls && regionB (foRs t ls)) = false) : foC ls t = 5 ∧ foR ls t = [] := by
 have e : foC ls t = 5 := by rw [foC, if_pos h, if_pos ht, hf]; rfl
 exact ⟨e, by rw [foR, e]; rfl⟩
theorem fo_yes {t : Int} {ls : List (List Kn)} (h : outB ls = true) (ht : 1 ≤ t ∧ t ≤ 262144) (h1 : foOk t ls = true) (h2 : regionB (foRs t ls) = true) : foC ls t = 0 ∧ foR ls t = foRs t ls := by
 have e : foC ls t = 0 := by rw [foC, if_pos h, if_pos ht, h1, h2]; rfl
 exact ⟨e, by rw [foR, if_pos e]⟩
theorem foR_small (ls : List (List Kn)) (t : Int) : smallR (foR ls t) := by
 unfold foR
 split
 ·rename_i h
  refine smallR.of ?_
  unfold foC at h
  split at h
  ·split at h
   ·split at h
    ·rename_i h3
     simp only [Bool.and_eq_true] at h3
     exact h3.2
    ·omega
   ·omega
  ·omega
 ·exact smallR.nil
theorem rg_stop {t : Int} {ls : List (List Kn)} {k : Nat} (hk : k < ls.length) (h : rgOk t (lp ls k) = false) : foOk t ls = false := List.all_eq_false.2 ⟨lp ls k, by rw [← lp_at hk]; exact List.getElem_mem hk, by rw [h]; decide⟩
theorem take_map {t : Int} {ls : List (List Kn)} {k : Nat} (hk : k < ls.length) : (ls.take (k + 1)).map (rgPt t) = (ls.take k).map (rgPt t) ++ [rgPt t (lp ls k)] := by
 rw [List.take_add_one, List.getElem?_eq_getElem hk, lp_at hk, List.map_append]
 rfl
theorem takeK_all {t : Int} {ls : List (List Kn)} {k : Nat} (hk : k < ls.length) (h : (ls.take k).all (rgOk t) = true) (h2 : rgOk t (lp ls k) = true) : (ls.take (k + 1)).all (rgOk t) = true := by
 rw [List.take_add_one, List.getElem?_eq_getElem hk, lp_at hk, List.all_append, h]
 simp [h2]
theorem rgC_no {t : Int} {l : List Kn} (h : ¬ rgC t l = 0) : rgOk t l = false ∧ rgC t l = 5 := by
 unfold rgC at h ⊢
 cases hb : rgOk t l with
 | true => rw [hb] at h; exact absurd rfl h
 | false => exact ⟨rfl, rfl⟩
theorem rgC_yes {t : Int} {l : List Kn} (h : rgC t l = 0) : rgOk t l = true ∧ rgR t l = rgPt t l := by
 unfold rgC at h
 cases hb : rgOk t l with
 | true => exact ⟨rfl, by rw [rgR, if_pos hb]⟩
 | false => rw [hb] at h; cases h
abbrev FoG (rs : List Ring_) (v : Value) (e : Ending) (w w' : World) : Prop := ∃ A' c', e = .returned (.tuple #[regV A' rs.length c', v]) ∧ OwnG w.heap.size w'.heap.size w' A' rs.length rs ∧ Over w w'
theorem fog_nil {v : Value} {w w' : World} (ho : Over w w') : FoG [] v (.returned (.tuple #[regV none 0 0, v])) w w' := ⟨none, 0, rfl, OwnG.nil none, ho⟩
theorem fog_ok {rs : List Ring_} {v : Value} {w w' : World} {Rs : List Res} (hs : St ⟨w, []⟩ Rs w') {kr kp B k : Nat} {l : List Pc} {x : Option Addr × Nat} (hr : Rs[kr]? = some (rowR B 66 1 k (l.map Pc.val) x)) (hp : Rs[kp]? = some (pcsR l)) (hne : kr ≠ kp) (hl : l.length = k) (hrs : l.map (·.xs) = rs) (hm : ∀ j, j < rs.length → (rg rs j).length ≤ 7744) (ho : Over w w') : FoG rs v (.returned (.tuple #[regV x.1 k x.2, v])) w w' := by
 have hk : rs.length = k := by rw [← hrs, List.length_map]; exact hl
 exact ⟨x.1, x.2, by rw [hk], by rw [hk]; exact pcs_row hs hr hp hne rfl hl hrs (fun j hj => Nat.le_trans (hm j hj) (by decide)), ho⟩
/-! ### The program -/
theorem FlattenOutline_any (A : Option Addr) (c : Nat) (ls : List (List Kn)) (t : Int) (w : World) (h : Loops w A ls.length ls) (hn : (ls.length : Int) ≤ 9223372036854775807) : Calls Tryd.prog 18 #[outV A ls.length c, .int .i64 t] w fun e w' => FoG (foR ls t) (.int .i64 (foC ls t)) e w w' := by
 refine walk_from (m := 48) (Tryd.func18) rfl rfl (Nat.le_of_ble_eq_true rfl) ?_
 refine at_seq ?_
 refine at_region ?_
 refine at_op rfl ?_
 refine op_box rfl rfl (rfl) rfl (by decide) (fun b1 => ?_)
 refine at_rsE (by simp only [ya,yb,yc,yd,Value.cells,ye]; rfl) ?_
 refine at_op rfl ?_
 refine op_alloc rfl tyz_impl_Region rfl (by decide) (fun b2 => ?_)
 refine at_rsE (by simp only [ya,yb,yc,yd,Value.cells,ye]; rfl) ?_
 refine at_q rfl rfl (by decide) (qt_assign rfl rfl) ?_
 refine at_end ?_
 refine at_seq ?_
 refine at_seq ?_
 refine at_region ?_
 refine at_q rfl rfl (by decide) (qt_loadS rfl rfl tys_impl_Outline rfl (rdAll (k := 0) rfl)) ?_
 refine at_q rfl rfl (by decide) (qt_call ok_impl_ValidOutline rfl rfl (fun w1 hs => ValidOutline_any A ls.length c ls w1 (h.over hs.fin) hn)) ?_
 refine at_q rfl rfl (by decide) (qt_not rfl rfl) ?_
 refine at_end ?_
 refine at_cond rfl (fun c1 => ?_) (fun c1 => ?_)
 ·try simp only [za,zb,zc,zd,ze,zf,Bool.not_true,Bool.not_false,zg,zh,ne_eq,zi,zj] at c1
  refine at_seq ?_
  refine at_region ?_
  refine at_q rfl rfl (by decide) (qt_build rfl rfl (bld_impl_Region_)) ?_
  refine at_op rfl ?_
  refine op_storeAll' (k := 1) rfl rfl rfl rfl (rfl) (by rfl) tyz_impl_Region.szx rfl rfl rfl ?_
  refine at_rsE (by simp only [ya,yb,yc,yd,Value.cells,ye]; rfl) ?_
  refine at_q rfl rfl (by decide) (qt_assign rfl rfl) ?_
  refine at_end ?_
  refine at_retc ?_
  refine then_ret ?_
  refine at_ret2 rfl (rvCelS (k := 1) rfl tys_impl_Region rfl rfl) (.tmp rfl) ?_
  intro w' hs
  obtain ⟨e1, e2⟩ := fo_inv (t := t) (show outB ls = false by simpa using c1)
  rw [e1, e2]
  exact fog_nil hs.fin
 ·try simp only [za,zb,zc,zd,ze,zf,Bool.not_true,Bool.not_false,zg,zh,ne_eq,zi,zj] at c1
  have hv : outB ls = true := by simpa using c1
  have h12 := out_len hv
  refine at_skip ?_
  refine norm_then ?_
  refine at_seq ?_
  refine at_seq ?_
  refine at_region ?_
  refine at_q rfl rfl (by decide) (qt_move rfl rfl) ?_
  refine at_q rfl rfl (by decide) (qt_call ok_impl_isTolerance rfl rfl (fun w1 hs => isTolerance_any t w1)) ?_
  refine at_q rfl rfl (by decide) (qt_not rfl rfl) ?_
  refine at_end ?_
  refine at_cond rfl (fun c2 => ?_) (fun c2 => ?_)
  ·try simp only [za,zb,zc,zd,ze,zf,Bool.not_true,Bool.not_false,zg,zh,ne_eq,zi,zj] at c2
   refine at_seq ?_
   refine at_region ?_
   refine at_q rfl rfl (by decide) (qt_build rfl rfl (bld_impl_Region_)) ?_
   refine at_op rfl ?_
   refine op_storeAll' (k := 1) rfl rfl rfl rfl (rfl) (by rfl) tyz_impl_Region.szx rfl rfl rfl ?_
   refine at_rsE (by simp only [ya,yb,yc,yd,Value.cells,ye]; rfl) ?_
   refine at_q rfl rfl (by decide) (qt_assign rfl rfl) ?_
   refine at_end ?_
   refine at_retc ?_
   refine then_ret ?_
   refine at_ret2 rfl (rvCelS (k := 1) rfl tys_impl_Region rfl rfl) (.tmp rfl) ?_
   intro w' hs
   obtain ⟨e1, e2⟩ := fo_tol hv (by simpa using c2)
   rw [e1, e2]
   exact fog_nil hs.fin
  ·try simp only [za,zb,zc,zd,ze,zf,Bool.not_true,Bool.not_false,zg,zh,ne_eq,zi,zj] at c2
   have ht : 1 ≤ t ∧ t ≤ 262144 := by simpa using c2
   refine at_skip ?_
   refine norm_then ?_
   refine at_seq ?_
   refine at_region ?_
   refine at_op rfl ?_
   refine op_alloc rfl tyz_impl_Region rfl (by decide) (fun b3 => ?_)
   refine at_rsE (by simp only [ya,yb,yc,yd,Value.cells,ye]; rfl) ?_
   refine at_end ?_
   refine at_row0 (T := 66) (s := 1) ?_
   refine at_rsE (by simp only [List.nil_append, List.cons_append, List.set_cons_zero, List.set_cons_succ, List.eraseIdx_cons_zero, List.eraseIdx_cons_succ, Value.cells, List.toList_toArray]; rfl) ?_
   refine at_many0 ?_
   refine at_rsE (by simp only [List.nil_append, List.cons_append, List.set_cons_zero, List.set_cons_succ, List.eraseIdx_cons_zero, List.eraseIdx_cons_succ, Value.cells, List.toList_toArray]; rfl) ?_
   refine at_seq ?_
   refine at_seq ?_
   refine at_region ?_
   refine at_q rfl rfl (by decide) (qt_fieldAddr rfl rfl tyf_impl_Outline_0) ?_
   refine at_q rfl rfl (by decide) (qt_load1 rfl rfl ty1_sl_impl_Loop (rd1 (k := 0) rfl rfl)) ?_
   refine at_q rfl rfl (by decide) (qt_len rfl rfl tyl_sl_impl_Loop) ?_
   refine at_q rfl rfl (by decide) (qt_move rfl rfl) ?_
   refine at_end ?_
   refine at_block ?_
   refine at_loopc (X := Nat × (Option Addr × Nat) × List Pc) (fun x => x.1 ≤ ls.length ∧ x.2.2.map (·.xs) = (ls.take x.1).map (rgPt t) ∧ (ls.take x.1).all (rgOk t) = true) (fun x => ls.length - x.1) (fun x => [(22, .int .i64 (x.1 : Int))]) (C := [(1, _), (4, _), (5, _), (6, _), (20, _), (21, _)]) ⟨rfl, rfl, rfl, rfl, rfl, rfl, trivial⟩ (fun x => [.cel b1 34 [.slice A ls.length c], .cel b2 24 [.slice none 0 0], .cel b3 24 [.slice x.2.1.1 x.1 x.2.1.2], rowR (Bs.N ⟨w, []⟩) 66 1 x.1 (x.2.2.map Pc.val) x.2.1, pcsR x.2.2]) (0, (none, 0), []) (⟨Nat.zero_le _, rfl, rfl⟩) ⟨rfl, rfl, rfl, rfl, rfl, rfl, rfl, trivial⟩ (fun _ h => h) ?_
   intro ⟨k, ⟨rA, rc⟩, pl⟩ hx L hL1
   refine at_envE (by simp only [ya,yb]; rfl) ?_
   refine at_rsE (by first | (dsimp only; done) | (dsimp only; rfl) | rfl) ?_
   obtain ⟨hk, hmp, hall⟩ : k ≤ ls.length ∧ pl.map (·.xs) = (ls.take k).map (rgPt t) ∧ (ls.take k).all (rgOk t) = true := hx
   have hlk : pl.length = k := by have := congrArg List.length hmp; rw [List.length_map, List.length_map, List.length_take] at this; omega
   refine at_seq ?_
   refine at_region ?_
   refine at_q rfl rfl (by decide) (qt_lss rfl rfl rfl) ?_
   refine at_end ?_
   refine at_seq ?_
   refine at_cond rfl (fun c3 => ?_) (fun c3 => ?_)
   ·try simp only [za,zb,zc,zd,ze,zf,Bool.not_true,Bool.not_false,zg,zh,ne_eq,zi,zj] at c3
    have hlt : k < ls.length := (by omega)
    obtain ⟨eb, eo, Ak, ck, rfl, hbB, hcell, hkns, hmax⟩ := h.at_ hlt
    refine at_skip ?_
    refine norm_then ?_
    refine at_seq ?_
    refine at_block ?_
    refine at_seq ?_
    refine at_region ?_
    refine at_q rfl rfl (by decide) (qt_index rfl rfl rfl tyl_sl_impl_Loop (by omega)) ?_
    refine at_q rfl rfl (by decide) (qt_loadS rfl rfl tys_impl_Loop rfl (rdOld1 hcell hbB)) ?_
    refine at_op rfl ?_
    refine op_alloc rfl tyz_impl_Loop rfl (by decide) (fun b4 => ?_)
    refine at_rsE (by simp only [ya,yb,yc,yd,Value.cells,ye]; rfl) ?_
    refine at_op rfl ?_
    refine op_storeAll' (k := 5) rfl rfl rfl rfl (rfl) (by rfl) tyz_impl_Loop.szx rfl rfl rfl ?_
    refine at_rsE (by simp only [ya,yb,yc,yd,Value.cells,ye]; rfl) ?_
    refine at_end ?_
    refine at_seq ?_
    refine at_region ?_
    refine at_q rfl rfl (by decide) (qt_loadS rfl rfl tys_impl_Loop rfl (rdAll (k := 5) rfl)) ?_
    refine at_q rfl rfl (by decide) (qt_move rfl rfl) ?_
    refine at_op rfl ?_
    refine op_call ok_impl_flattenLoop (v := fun x => .tuple #[.agg #[.slice x.1 _ x.2], .int .i64 _]) (r := fun x => rowR 0 50 2 _ _ x) (H := fun _ => True) rfl rfl rfl (by decide) (fun w1 hs => flattenLoop_any Ak ck (lp ls k) t w1 (hkns.over hs.fin) (loop_ok (out_at hv hlt)) ht) ?_
    rintro ⟨pA, pc⟩ -
    refine at_rsE (by simp only [ya,yb,yc,yd,Value.cells,ye]; rfl) ?_
    refine at_q rfl rfl (by decide) (qt_move rfl rfl) ?_
    refine at_q rfl rfl (by decide) (qt_extract rfl rfl rfl) ?_
    refine at_q rfl rfl (by decide) (qt_extract rfl rfl rfl) ?_
    refine at_op rfl ?_
    refine op_alloc rfl tyz_impl_Ring rfl (by decide) (fun b5 => ?_)
    refine at_rsE (by simp only [ya,yb,yc,yd,Value.cells,ye]; rfl) ?_
    refine at_op rfl ?_
    refine op_storeAll' (k := 7) rfl rfl rfl rfl (rfl) (by rfl) tyz_impl_Ring.szx rfl rfl rfl ?_
    refine at_rsE (by simp only [ya,yb,yc,yd,Value.cells,ye]; rfl) ?_
    refine at_q rfl rfl (by decide) (qt_assign rfl rfl) ?_
    refine at_end ?_
    refine at_seq ?_
    refine at_seq ?_
    refine at_region ?_
    refine at_q rfl rfl (by decide) (qt_move rfl rfl) ?_
    refine at_q rfl rfl (by decide) (qt_neq rfl rfl rfl) ?_
    refine at_end ?_
    refine at_cond rfl (fun c4 => ?_) (fun c4 => ?_)
    ·try simp only [za,zb,zc,zd,ze,zf,Bool.not_true,Bool.not_false,zg,zh,ne_eq,zi,zj] at c4
     obtain ⟨z1, z2⟩ := rgC_no c4
     obtain ⟨e1, e2⟩ := fo_full hv ht (by rw [rg_stop hlt z1]; rfl)
     rw [z2]
     refine at_seq ?_
     refine at_region ?_
     refine at_q rfl rfl (by decide) (qt_build rfl rfl (bld_impl_Region_)) ?_
     refine at_q rfl rfl (by decide) (qt_move rfl rfl) ?_
     refine at_op rfl ?_
     refine op_storeAll' (k := 1) rfl rfl rfl rfl (rfl) (by rfl) tyz_impl_Region.szx rfl rfl rfl ?_
     refine at_rsE (by simp only [ya,yb,yc,yd,Value.cells,ye]; rfl) ?_
     refine at_q rfl rfl (by decide) (qt_assign rfl rfl) ?_
     refine at_end ?_
     refine at_retc ?_
     refine then_ret ?_
     refine pass_ret ?_
     refine then_ret ?_
     refine then_ret ?_
     refine pass_ret ?_
     refine then_ret ?_
     refine at_ret2 rfl (rvCelS (k := 1) rfl tys_impl_Region rfl rfl) (.tmp rfl) ?_
     intro w' hs
     rw [e1, e2]
     exact fog_nil hs.fin
    ·try simp only [za,zb,zc,zd,ze,zf,Bool.not_true,Bool.not_false,zg,zh,ne_eq,zi,zj] at c4
     obtain ⟨z1, z2⟩ := rgC_yes (by simpa using c4)
     rw [z2]
     refine at_skip ?_
     refine norm_then ?_
     refine at_region ?_
     refine at_q rfl rfl (by decide) (qt_fieldAddr rfl rfl tyf_impl_Region_0) ?_
     refine at_q rfl rfl (by decide) (qt_load1 rfl rfl ty1_sl_impl_Ring (rd1 (k := 2) rfl rfl)) ?_
     refine at_q rfl rfl (by decide) (qt_loadS rfl rfl tys_impl_Ring rfl (rdAll (k := 7) rfl)) ?_
     refine at_op rfl ?_
     refine op_buildSlice rfl rfl (bsl_sl_impl_Ring_1_0 rfl) rfl (by decide) (fun b6 => ?_)
     refine at_rsE (by simp only [ya,yb,yc,yd,Value.cells,ye]; rfl) ?_
     refine at_op rfl ?_
     refine op_appendR (k := 3) rfl tyl_sl_impl_Ring tyz_impl_Ring (by decide) rfl (by decide) rfl rfl rfl (fun w' hs => src_cel hs (k := 8) rfl rfl) (by simp [Value.oneCell']) (by unfold maxLen; omega) (by omega) (Nat.le_refl _) (fun r1 => ?_)
     refine at_rsE (by simp only [ya,yb,yc,yd,Value.cells,ye]; rfl) ?_
     refine at_q rfl rfl (by decide) (qt_fieldAddr rfl rfl tyf_impl_Region_0) ?_
     refine at_op rfl ?_
     refine op_storeAll' (k := 2) rfl rfl rfl rfl (rfl) (by rfl) tyz_sl_impl_Ring.szx rfl rfl rfl ?_
     refine at_rsE (by simp only [ya,yb,yc,yd,Value.cells,ye]; rfl) ?_
     refine at_nil ?_
     refine at_pc 6 rfl rfl (fun clo chi => ?_)
     refine at_rsE (by simp only [List.nil_append, List.cons_append, List.set_cons_zero, List.set_cons_succ, List.eraseIdx_cons_zero, List.eraseIdx_cons_succ, Value.cells, List.toList_toArray]; rfl) ?_
     refine at_push 4 6 rfl rfl (by decide) rfl ?_
     refine at_rsE (by simp only [List.nil_append, List.cons_append, List.set_cons_zero, List.set_cons_succ, List.eraseIdx_cons_zero, List.eraseIdx_cons_succ, Value.cells, List.toList_toArray]; rfl) ?_
     refine norm_block ?_
     refine norm_then ?_
     refine at_region ?_
     refine at_q rfl rfl (by decide) (qt_add rfl rfl rfl (by omega) (by omega)) ?_
     refine at_q rfl rfl (by decide) (qt_move rfl rfl) ?_
     refine at_end ?_
     exact at_againc hL1 ((k + 1, r1, pl ++ [⟨rgPt t (lp ls k), pA, pc, clo, chi⟩])) (⟨show k + 1 ≤ ls.length by omega, by rw [List.map_append, hmp, take_map hlt]; rfl, takeK_all hlt hall z1⟩) (by simp only; omega) ⟨vi (by omega), rfl, rfl, rfl, rfl, rfl, rfl, trivial⟩ (fun _ h => h.upto ⟨rfl, rfl, rfl, by rw [List.map_append]; rfl, (pcsR_push _ _).symm, trivial⟩)
   ·try simp only [za,zb,zc,zd,ze,zf,Bool.not_true,Bool.not_false,zg,zh,ne_eq,zi,zj] at c3
    have hkn : k = ls.length := (by omega)
    have hrs : pl.map (·.xs) = foRs t ls := by rw [hmp, List.take_of_length_le (by omega)]; rfl
    have hfo : foOk t ls = true := by rw [List.take_of_length_le (by omega)] at hall; exact hall
    refine at_exit ?_
    refine pass_then (fun h => by cases h) ?_
    refine pass_then (fun h => by cases h) ?_
    refine pass_hit ?_
    refine norm_then ?_
    refine at_seq ?_
    refine at_seq ?_
    refine at_region ?_
    refine at_q rfl rfl (by decide) (qt_loadS rfl rfl tys_impl_Region rfl (rdAll (k := 2) rfl)) ?_
    refine at_q rfl rfl (by decide) (qt_call ok_impl_ValidRegion rfl rfl (fun w1 hs => ValidRegion_any _ _ _ (foRs t ls) w1 (pcs_row hs (kr := 3) (kp := 4) rfl rfl (by decide) rfl hlk hrs (fun i hi => Nat.le_trans (fo_len hv i hi) (by decide))).rings (fo_total hv))) ?_
    refine at_q rfl rfl (by decide) (qt_not rfl rfl) ?_
    refine at_end ?_
    refine at_cond rfl (fun c5 => ?_) (fun c5 => ?_)
    ·try simp only [za,zb,zc,zd,ze,zf,Bool.not_true,Bool.not_false,zg,zh,ne_eq,zi,zj] at c5
     refine at_seq ?_
     refine at_region ?_
     refine at_q rfl rfl (by decide) (qt_build rfl rfl (bld_impl_Region_)) ?_
     refine at_op rfl ?_
     refine op_storeAll' (k := 1) rfl rfl rfl rfl (rfl) (by rfl) tyz_impl_Region.szx rfl rfl rfl ?_
     refine at_rsE (by simp only [ya,yb,yc,yd,Value.cells,ye]; rfl) ?_
     refine at_q rfl rfl (by decide) (qt_assign rfl rfl) ?_
     refine at_end ?_
     refine at_retc ?_
     refine then_ret ?_
     refine at_ret2 rfl (rvCelS (k := 1) rfl tys_impl_Region rfl rfl) (.tmp rfl) ?_
     intro w' hs
     obtain ⟨e1, e2⟩ := fo_full hv ht (by rw [hfo]; simpa using c5)
     rw [e1, e2]
     exact fog_nil hs.fin
    ·try simp only [za,zb,zc,zd,ze,zf,Bool.not_true,Bool.not_false,zg,zh,ne_eq,zi,zj] at c5
     refine at_skip ?_
     refine norm_then ?_
     refine at_seq ?_
     refine at_region ?_
     refine at_q rfl rfl (by decide) (qt_loadS rfl rfl tys_impl_Region rfl (rdAll (k := 2) rfl)) ?_
     refine at_op rfl ?_
     refine op_storeAll' (k := 1) rfl rfl rfl rfl (rfl) (by rfl) tyz_impl_Region.szx rfl rfl rfl ?_
     refine at_rsE (by simp only [ya,yb,yc,yd,Value.cells,ye]; rfl) ?_
     refine at_q rfl rfl (by decide) (qt_assign rfl rfl) ?_
     refine at_end ?_
     refine at_retc ?_
     refine at_ret2 rfl (rvCelS (k := 1) rfl tys_impl_Region rfl rfl) (.tmp rfl) ?_
     intro w' hs
     obtain ⟨e1, e2⟩ := fo_yes hv ht hfo (by simpa using c5)
     rw [e1, e2]
     exact fog_ok (x := (rA, rc)) hs (kr := 3) (kp := 4) rfl rfl (by decide) hlk hrs (fo_len hv) hs.fin
/-! ### The reference -/
end Go.Proofs.YtjhaakollekjeaaDoor
