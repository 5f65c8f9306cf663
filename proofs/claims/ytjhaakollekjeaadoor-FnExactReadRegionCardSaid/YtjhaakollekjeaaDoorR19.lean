import Derived.Test.YtjhaakollekjeaaDoorR18
namespace Go.Proofs.YtjhaakollekjeaaDoor
open Go Go.RowKit
set_option linter.unusedVariables false
set_option linter.unusedSimpArgs false
set_option maxRecDepth 100000
set_option maxHeartbeats 4000000
set_option linter.unusedVariables false
set_option linter.unusedSimpArgs false
theorem rdStr {w0 : Bs} {Rs : List Res} {k B T m j : Nat} {L : List (List UInt8)} {r : Option Addr × Nat} (hk : Rs[k]? = some (rowR B T 1 m (L.map sV) r)) (hj : j < L.length) : ∀ w, St w0 Rs w → w.cell? ⟨ablk r.1, 0 + j * 1, none⟩ = some (sV L[j]) := fun w hs => by
 rw [Nat.zero_add, Nat.mul_one]
 exact row_cell (hs.all k _ hk).1 (by rw [List.getElem?_map, List.getElem?_eq_getElem hj]; rfl)
/-- What has been parted, and the rest. -/
def SplI (b : UInt8) (l : List UInt8) (i fr : Nat) (O : List (List UInt8)) : Prop := fr ≤ i ∧ i ≤ l.length ∧ O ++ ahdL ((l.drop fr).take (i - fr)) (splL b (l.drop i)) = splL b l
theorem spl_start (b : UInt8) (l : List UInt8) : SplI b l 0 0 [] := ⟨Nat.le_refl _, Nat.zero_le _, by rw [List.nil_append, Nat.sub_zero, List.take_zero, List.drop_zero, ahdL_nil (splL_ne b l)]⟩
theorem ahd_cons (p : List UInt8) (h : List UInt8) (t : List (List UInt8)) : ahdL p (h :: t) = (p ++ h) :: t := rfl
theorem spl_hit {b : UInt8} {l : List UInt8} {i fr : Nat} {O : List (List UInt8)} (h : SplI b l i fr O) (hi : i < l.length) (hb : l[i] = b) : SplI b l (i + 1) (i + 1) (O ++ [(l.drop fr).take (i - fr)]) := by
 obtain ⟨h1, h2, h3⟩ := h
 refine ⟨Nat.le_refl _, by omega, ?_⟩
 rw [Nat.sub_self, List.take_zero, ahdL_nil (splL_ne _ _), List.append_assoc, ← h3, List.drop_eq_getElem_cons hi, hb, splL_hit, ahd_cons, List.append_nil, List.singleton_append]
theorem spl_miss {b : UInt8} {l : List UInt8} {i fr : Nat} {O : List (List UInt8)} (h : SplI b l i fr O) (hi : i < l.length) (hb : ¬ l[i] = b) : SplI b l (i + 1) fr O := by
 obtain ⟨h1, h2, h3⟩ := h
 refine ⟨by omega, by omega, ?_⟩
 rw [← h3, List.drop_eq_getElem_cons hi, splL, if_neg hb]
 have e : (l.drop fr).take (i + 1 - fr) = (l.drop fr).take (i - fr) ++ [l[i]] := by
  rw [show i + 1 - fr = (i - fr) + 1 by omega, List.take_succ_eq_append_getElem (by rw [List.length_drop]; omega), List.getElem_drop]
  simp [show fr + (i - fr) = i by omega]
 cases hs : splL b (l.drop (i + 1)) with
 | nil => exact (splL_ne _ _ hs).elim
 | cons a t =>
  rw [e, ahd_cons, ahd_cons, List.append_assoc, List.singleton_append]
theorem spl_end {b : UInt8} {l : List UInt8} {i fr : Nat} {O : List (List UInt8)} (h : SplI b l i fr O) (hi : i = l.length) : splL b l = O ++ [l.drop fr] := by
 obtain ⟨h1, h2, h3⟩ := h
 subst hi
 rw [← h3, List.drop_length, splL, ahd_cons, List.append_nil, List.take_of_length_le (by rw [List.length_drop]; omega)]
theorem spl_len {b : UInt8} {l : List UInt8} {i fr : Nat} {O : List (List UInt8)} (h : SplI b l i fr O) : O.length ≤ l.length := by
 have h1 := congrArg List.length h.2.2
 have h2 := splL_sum b l
 cases hs : splL b (l.drop i) with
 | nil => exact (splL_ne _ _ hs).elim
 | cons a t =>
  rw [hs, ahd_cons, List.length_append, List.length_cons] at h1
  omega
theorem l01Split_any (b : UInt8) (l : List UInt8) (w : World) (hl : l.length ≤ 1048576) : Calls Tryd.prog 21 #[sV l, u8V b] w fun e w' => ∃ v, e = .returned v ∧ True ∧ w'.ownsRow w.heap.size 9 1 v (splL b l).length ((splL b l).map sV) ∧ Over w w' := by
 refine walk_from (m := 35) (Tryd.func21) rfl rfl (Nat.le_of_ble_eq_true rfl) ?_
 refine at_seq ?_
 refine at_region ?_
 refine at_q rfl rfl (by decide) (qt_assign rfl rfl) ?_
 refine at_end ?_
 refine at_seq ?_
 refine at_region ?_
 refine at_op rfl ?_
 refine op_buildSlice rfl rfl (bsl_sl_string_0) rfl (by decide) (fun b1 => ?_)
 refine at_rowN 0 1 rfl rfl ?_
 refine at_rsE (by simp only [ya,yb,yc,yd,Value.cells,ye]; rfl) ?_
 refine at_q rfl rfl (by decide) (qt_assign rfl rfl) ?_
 refine at_end ?_
 refine at_seq ?_
 refine at_region ?_
 refine at_q rfl rfl (by decide) (qt_assign rfl rfl) ?_
 refine at_end ?_
 refine at_seq ?_
 refine at_seq ?_
 refine at_region ?_
 refine at_q rfl rfl (by decide) (qt_assign rfl rfl) ?_
 refine at_end ?_
 refine at_block ?_
 refine at_loopc (X := (Nat × Nat × List (List UInt8)) × Option Addr × Nat) (fun x => SplI b l x.1.1 x.1.2.1 x.1.2.2) (fun x => l.length - x.1.1) (fun x => [(5, .slice x.2.1 x.1.2.2.length x.2.2), (6, .int .i64 (x.1.2.1 : Int)), (7, .int .i64 (x.1.1 : Int))]) (C := [(0, _), (1, _), (4, _)]) ⟨rfl, rfl, rfl, trivial⟩ (fun x => [rowR (Bs.N ⟨w, []⟩) 9 1 x.1.2.2.length (x.1.2.2.map sV) x.2]) ((0, 0, []), some ⟨b1, 0, none⟩, 0) (spl_start b l) ⟨rfl, rfl, rfl, rfl, rfl, rfl, trivial⟩ (fun _ h => h) ?_
 intro ⟨⟨i, fr, O⟩, rA, rc⟩ hx L hL1
 refine at_envE (by simp only [ya,yb]; rfl) ?_
 refine at_rsE (by first | (dsimp only; done) | (dsimp only; rfl) | rfl) ?_
 have hI : SplI b l i fr O := hx
 obtain ⟨hfi, hil, _⟩ : fr ≤ i ∧ i ≤ l.length ∧ True := ⟨hx.1, hx.2.1, trivial⟩
 have hOl := spl_len hI
 refine at_seq ?_
 refine at_seq ?_
 refine at_region ?_
 refine at_q rfl rfl (by decide) (qt_move rfl rfl) ?_
 refine at_q rfl rfl (by decide) (qt_move rfl rfl) ?_
 refine at_q rfl rfl (by decide) (qt_lenL rfl rfl Tryd.underlying9) ?_
 refine at_q rfl rfl (by decide) (qt_lss rfl rfl rfl) ?_
 refine at_end ?_
 refine at_cond rfl (fun c1 => ?_) (fun c1 => ?_)
 ·try simp only [za,zb,zc,zd,ze,zf,Bool.not_true,Bool.not_false,zg,zh,ne_eq,zi,zj] at c1
  have hlt : i < l.length := (by omega)
  refine at_skip ?_
  refine norm_then ?_
  refine at_seq ?_
  refine at_block ?_
  refine at_seq ?_
  refine at_region ?_
  refine at_q rfl rfl (by decide) (qt_move rfl rfl) ?_
  refine at_q rfl rfl (by decide) (qt_move rfl rfl) ?_
  refine at_q rfl rfl (by decide) (qt_idxL rfl rfl rfl Tryd.underlying9 hlt) ?_
  refine at_q rfl rfl (by decide) (qt_move rfl rfl) ?_
  refine at_q rfl rfl (by decide) (qt_eql8 b rfl rfl rfl) ?_
  refine at_end ?_
  refine at_cond rfl (fun c2 => ?_) (fun c2 => ?_)
  ·try simp only [za,zb,zc,zd,ze,zf,Bool.not_true,Bool.not_false,zg,zh,ne_eq,zi,zj] at c2
   refine at_seq ?_
   refine at_region ?_
   refine at_q rfl rfl (by decide) (qt_move rfl rfl) ?_
   refine at_q rfl rfl (by decide) (qt_move rfl rfl) ?_
   refine at_q rfl rfl (by decide) (qt_move rfl rfl) ?_
   refine at_q rfl rfl (by decide) (qt_move rfl rfl) ?_
   refine at_q rfl rfl (by decide) (qt_midL (i := fr) (j := i) rfl rfl rfl rfl Tryd.underlying9 hfi hil) ?_
   refine at_op rfl ?_
   refine op_buildSlice rfl rfl (bsl_sl_string_1_0 rfl) rfl (by decide) (fun b2 => ?_)
   refine at_rsE (by simp only [ya,yb,yc,yd,Value.cells,ye]; rfl) ?_
   refine at_op rfl ?_
   refine op_appendR (k := 0) rfl tyl_sl_string tyz_string (by decide) rfl (by decide) rfl rfl rfl (fun w' hs => src_cel hs (k := 1) rfl rfl) (by simp [Value.oneCell']) (by unfold maxLen; omega) (by omega) (Nat.le_refl _) (fun r1 => ?_)
   refine at_rsE (by simp only [ya,yb,yc,yd,Value.cells,ye]; rfl) ?_
   refine at_q rfl rfl (by decide) (qt_assign rfl rfl) ?_
   refine at_end ?_
   refine at_region ?_
   refine at_q rfl rfl (by decide) (qt_move rfl rfl) ?_
   refine at_q rfl rfl (by decide) (qt_add rfl rfl rfl (by omega) (by omega)) ?_
   refine at_q rfl rfl (by decide) (qt_assign rfl rfl) ?_
   refine at_nil ?_
   refine norm_block ?_
   refine norm_then ?_
   refine at_region ?_
   refine at_q rfl rfl (by decide) (qt_move rfl rfl) ?_
   refine at_q rfl rfl (by decide) (qt_add rfl rfl rfl (by omega) (by omega)) ?_
   refine at_q rfl rfl (by decide) (qt_assign rfl rfl) ?_
   refine at_end ?_
   exact at_againc hL1 (((i + 1, i + 1, O ++ [(l.drop fr).take (i - fr)]), r1)) (spl_hit hI hlt (by simpa using c2)) (by simp only; omega) ⟨(by rw [List.length_append]; rfl), vi (by simp only; omega), vi (by simp only; omega), rfl, rfl, rfl, trivial⟩ (fun _ h => h.upto ⟨by rw [List.length_append, List.map_append]; rfl, trivial⟩)
  ·try simp only [za,zb,zc,zd,ze,zf,Bool.not_true,Bool.not_false,zg,zh,ne_eq,zi,zj] at c2
   refine at_skip ?_
   refine norm_block ?_
   refine norm_then ?_
   refine at_region ?_
   refine at_q rfl rfl (by decide) (qt_move rfl rfl) ?_
   refine at_q rfl rfl (by decide) (qt_add rfl rfl rfl (by omega) (by omega)) ?_
   refine at_q rfl rfl (by decide) (qt_assign rfl rfl) ?_
   refine at_end ?_
   exact at_againc hL1 (((i + 1, fr, O), (rA, rc))) (spl_miss hI hlt (by simpa using c2)) (by simp only; omega) ⟨rfl, rfl, vi (by simp only; omega), rfl, rfl, rfl, trivial⟩ (fun _ h => h.upto ⟨rfl, trivial⟩)
 ·try simp only [za,zb,zc,zd,ze,zf,Bool.not_true,Bool.not_false,zg,zh,ne_eq,zi,zj] at c1
  have hin : i = l.length := (by omega)
  have hend := spl_end hI hin
  refine at_exit ?_
  refine pass_then (fun h => by cases h) ?_
  refine pass_then (fun h => by cases h) ?_
  refine pass_hit ?_
  refine norm_then ?_
  refine at_seq ?_
  refine at_region ?_
  refine at_q rfl rfl (by decide) (qt_move rfl rfl) ?_
  refine at_q rfl rfl (by decide) (qt_move rfl rfl) ?_
  refine at_q rfl rfl (by decide) (qt_move rfl rfl) ?_
  refine at_q rfl rfl (by decide) (qt_fromL (j := fr) rfl rfl rfl Tryd.underlying9 (by omega)) ?_
  refine at_op rfl ?_
  refine op_buildSlice rfl rfl (bsl_sl_string_1_0 rfl) rfl (by decide) (fun b3 => ?_)
  refine at_rsE (by simp only [ya,yb,yc,yd,Value.cells,ye]; rfl) ?_
  refine at_op rfl ?_
  refine op_appendR (k := 0) rfl tyl_sl_string tyz_string (by decide) rfl (by decide) rfl rfl rfl (fun w' hs => src_cel hs (k := 1) rfl rfl) (by simp [Value.oneCell']) (by unfold maxLen; omega) (by omega) (Nat.le_refl _) (fun r2 => ?_)
  refine at_rsE (by simp only [ya,yb,yc,yd,Value.cells,ye]; rfl) ?_
  refine at_q rfl rfl (by decide) (qt_assign rfl rfl) ?_
  refine at_end ?_
  refine at_retc ?_
  refine at_ret1 rfl (.tmp rfl) ?_
  intro w' hs
  exact ⟨_, rfl, trivial, by rw [hend, List.length_append, List.map_append]; exact (hs.all 0 _ rfl).1, hs.fin⟩
/-! ### Points -/
def ptR (o : Option Pn) : Value := .tuple #[pV (o.getD (0, 0)), .bool o.isSome]
theorem pt_none {o : Option Pn} (h : o = none) : Ending.returned (.tuple #[pV (0, 0), .bool false]) = .returned (ptR o) := by rw [h]; rfl
theorem pt_some {o : Option Pn} {p : Pn} (h : o = some p) : Ending.returned (.tuple #[pV p, .bool true]) = .returned (ptR o) := by rw [h]; rfl
theorem two_no {p q : List UInt8} (hc : (44 : UInt8) ∉ p) (h : ¬ (okD p = true ∧ okD q = true ∧ okB (valL p) (valL q) = true)) : txPt (p ++ 44 :: q) = none := by
 rw [txPt_cut hc, if_neg]
 rw [Bool.and_eq_true, Bool.and_eq_true]
 exact fun k => h ⟨k.1.1, k.1.2, k.2⟩
theorem two_yes {p q : List UInt8} (hc : (44 : UInt8) ∉ p) (h1 : okD p = true) (h2 : okD q = true) (h3 : okB (valL p) (valL q) = true) : txPt (p ++ 44 :: q) = some (valL p, valL q) := by
 rw [txPt_cut hc, h1, h2, h3]
 rfl
theorem decV_yes {l : List UInt8} (h : okD l = true) : decV l = valL l := if_pos h
theorem ReadPt_no (l : List UInt8) (w : World) (hM : MaxL w) (hl : l.length ≤ 1048576) (hc : (44 : UInt8) ∉ l) : Calls Tryd.prog 49 #[sV l] w fun e w' => e = .returned (ptR (txPt l)) ∧ Over w w' := by
 have hcut := cut_no hc
 refine walk_from (m := 42) (Tryd.func49) rfl rfl (Nat.le_of_ble_eq_true rfl) ?_
 refine at_seq ?_
 refine at_region ?_
 refine at_op rfl ?_
 refine op_alloc rfl tyz_impl_Pt rfl (by decide) (fun b1 => ?_)
 refine at_rsE (by simp only [ya,yb,yc,yd,Value.cells,ye]; rfl) ?_
 refine at_q rfl rfl (by decide) (qt_assign rfl rfl) ?_
 refine at_end ?_
 refine at_seq ?_
 refine at_region ?_
 refine at_q rfl rfl (by decide) (qt_move rfl rfl) ?_
 refine at_q rfl rfl (by decide) (qt_call ok_strings_Cut rfl rfl (fun w1 hs => hcut ▸ Cut_any 44 l w1 (hM.over hs.fin) hl)) ?_
 refine at_q rfl rfl (by decide) (qt_move rfl rfl) ?_
 refine at_q rfl rfl (by decide) (qt_extract rfl rfl rfl) ?_
 refine at_q rfl rfl (by decide) (qt_extract rfl rfl rfl) ?_
 refine at_q rfl rfl (by decide) (qt_extract rfl rfl rfl) ?_
 refine at_q rfl rfl (by decide) (qt_assign rfl rfl) ?_
 refine at_q rfl rfl (by decide) (qt_assign rfl rfl) ?_
 refine at_q rfl rfl (by decide) (qt_assign rfl rfl) ?_
 refine at_end ?_
 refine at_seq ?_
 refine at_seq ?_
 refine at_region ?_
 refine at_q rfl rfl (by decide) (qt_move rfl rfl) ?_
 refine at_q rfl rfl (by decide) (qt_not rfl rfl) ?_
 refine at_end ?_
 refine at_yes rfl (rfl) ?_
 refine at_seq ?_
 refine at_region ?_
 refine at_q rfl rfl (by decide) (qt_build rfl rfl (bld_impl_Pt_)) ?_
 refine at_op rfl ?_
 refine op_storeAll' (k := 0) rfl rfl rfl rfl (rfl) (by rfl) tyz_impl_Pt.szx rfl rfl rfl ?_
 refine at_rsE (by simp only [ya,yb,yc,yd,Value.cells,ye]; rfl) ?_
 refine at_q rfl rfl (by decide) (qt_assign rfl rfl) ?_
 refine at_end ?_
 refine at_retc ?_
 refine then_ret ?_
 refine at_ret2 rfl (rvCelS (k := 0) rfl tys_impl_Pt rfl rfl) (.tmp rfl) ?_
 intro w' hs
 exact ⟨pt_none (txPt_no hc), hs.fin⟩
theorem ReadPt_two (p q : List UInt8) (w : World) (hM : MaxL w) (hl : (p ++ 44 :: q).length ≤ 1048576) (hc : (44 : UInt8) ∉ p) : Calls Tryd.prog 49 #[sV (p ++ 44 :: q)] w fun e w' => e = .returned (ptR (txPt (p ++ 44 :: q))) ∧ Over w w' := by
 have hcut := cut_two (l := q) hc
 have hlp : p.length + (q.length + 1) ≤ 1048576 := by rw [List.length_append, List.length_cons] at hl; exact hl
 refine walk_from (m := 42) (Tryd.func49) rfl rfl (Nat.le_of_ble_eq_true rfl) ?_
 refine at_seq ?_
 refine at_region ?_
 refine at_op rfl ?_
 refine op_alloc rfl tyz_impl_Pt rfl (by decide) (fun b1 => ?_)
 refine at_rsE (by simp only [ya,yb,yc,yd,Value.cells,ye]; rfl) ?_
 refine at_q rfl rfl (by decide) (qt_assign rfl rfl) ?_
 refine at_end ?_
 refine at_seq ?_
 refine at_region ?_
 refine at_q rfl rfl (by decide) (qt_move rfl rfl) ?_
 refine at_q rfl rfl (by decide) (qt_call ok_strings_Cut rfl rfl (fun w1 hs => hcut ▸ Cut_any 44 (p ++ 44 :: q) w1 (hM.over hs.fin) hl)) ?_
 refine at_q rfl rfl (by decide) (qt_move rfl rfl) ?_
 refine at_q rfl rfl (by decide) (qt_extract rfl rfl rfl) ?_
 refine at_q rfl rfl (by decide) (qt_extract rfl rfl rfl) ?_
 refine at_q rfl rfl (by decide) (qt_extract rfl rfl rfl) ?_
 refine at_q rfl rfl (by decide) (qt_assign rfl rfl) ?_
 refine at_q rfl rfl (by decide) (qt_assign rfl rfl) ?_
 refine at_q rfl rfl (by decide) (qt_assign rfl rfl) ?_
 refine at_end ?_
 refine at_seq ?_
 refine at_seq ?_
 refine at_region ?_
 refine at_q rfl rfl (by decide) (qt_move rfl rfl) ?_
 refine at_q rfl rfl (by decide) (qt_not rfl rfl) ?_
 refine at_end ?_
 refine at_no rfl (rfl) ?_
 refine at_skip ?_
 refine norm_then ?_
 refine at_seq ?_
 refine at_region ?_
 refine at_q rfl rfl (by decide) (qt_build rfl rfl (bld_impl_Pt_)) ?_
 refine at_op rfl ?_
 refine op_alloc rfl tyz_impl_Pt rfl (by decide) (fun b2 => ?_)
 refine at_rsE (by simp only [ya,yb,yc,yd,Value.cells,ye]; rfl) ?_
 refine at_op rfl ?_
 refine op_storeAll' (k := 1) rfl rfl rfl rfl (rfl) (by rfl) tyz_impl_Pt.szx rfl rfl rfl ?_
 refine at_rsE (by simp only [ya,yb,yc,yd,Value.cells,ye]; rfl) ?_
 refine at_end ?_
 refine at_seq ?_
 refine at_seq ?_
 refine at_region ?_
 refine at_q rfl rfl (by decide) (qt_move rfl rfl) ?_
 refine at_q rfl rfl (by decide) (qt_call ok_impl_ReadDecimal rfl rfl (fun w1 hs => ReadDecimal_any p w1 (by omega))) ?_
 refine at_q rfl rfl (by decide) (qt_move rfl rfl) ?_
 refine at_q rfl rfl (by decide) (qt_extract rfl rfl rfl) ?_
 refine at_q rfl rfl (by decide) (qt_extract rfl rfl rfl) ?_
 refine at_q rfl rfl (by decide) (qt_fieldAddr rfl rfl tyf_impl_Pt_0) ?_
 refine at_op rfl ?_
 refine op_store_2_0_1 (k := 1) rfl rfl rfl rfl (rfl) (by rfl) tyz_int64.szx rfl ?_
 refine at_rsE (by simp only [ya,yb,yc,yd,Value.cells,ye]; rfl) ?_
 refine at_q rfl rfl (by decide) (qt_assign rfl rfl) ?_
 refine at_end ?_
 refine at_seq ?_
 refine at_region ?_
 refine at_q rfl rfl (by decide) (qt_move rfl rfl) ?_
 refine at_q rfl rfl (by decide) (qt_not rfl rfl) ?_
 refine at_end ?_
 refine at_cond rfl (fun c1 => ?_) (fun c1 => ?_)
 ·try simp only [za,zb,zc,zd,ze,zf,Bool.not_true,Bool.not_false,zg,zh,ne_eq,zi,zj] at c1
  refine at_seq ?_
  refine at_region ?_
  refine at_q rfl rfl (by decide) (qt_build rfl rfl (bld_impl_Pt_)) ?_
  refine at_op rfl ?_
  refine op_storeAll' (k := 0) rfl rfl rfl rfl (rfl) (by rfl) tyz_impl_Pt.szx rfl rfl rfl ?_
  refine at_rsE (by simp only [ya,yb,yc,yd,Value.cells,ye]; rfl) ?_
  refine at_q rfl rfl (by decide) (qt_assign rfl rfl) ?_
  refine at_end ?_
  refine at_retc ?_
  refine then_ret ?_
  refine at_ret2 rfl (rvCelS (k := 0) rfl tys_impl_Pt rfl rfl) (.tmp rfl) ?_
  intro w' hs
  exact ⟨pt_none (two_no hc (by rw [c1]; simp)), hs.fin⟩
 ·try simp only [za,zb,zc,zd,ze,zf,Bool.not_true,Bool.not_false,zg,zh,ne_eq,zi,zj] at c1
  refine at_skip ?_
  refine norm_then ?_
  refine at_seq ?_
  refine at_seq ?_
  refine at_region ?_
  refine at_q rfl rfl (by decide) (qt_move rfl rfl) ?_
  refine at_q rfl rfl (by decide) (qt_call ok_impl_ReadDecimal rfl rfl (fun w1 hs => ReadDecimal_any q w1 (by omega))) ?_
  refine at_q rfl rfl (by decide) (qt_move rfl rfl) ?_
  refine at_q rfl rfl (by decide) (qt_extract rfl rfl rfl) ?_
  refine at_q rfl rfl (by decide) (qt_extract rfl rfl rfl) ?_
  refine at_q rfl rfl (by decide) (qt_fieldAddr rfl rfl tyf_impl_Pt_1) ?_
  refine at_op rfl ?_
  refine op_store_2_1_1 (k := 1) rfl rfl rfl rfl (rfl) (by rfl) tyz_int64.szx rfl ?_
  refine at_rsE (by simp only [ya,yb,yc,yd,Value.cells,ye]; rfl) ?_
  refine at_q rfl rfl (by decide) (qt_assign rfl rfl) ?_
  refine at_end ?_
  refine at_seq ?_
  refine at_region ?_
  refine at_q rfl rfl (by decide) (qt_move rfl rfl) ?_
  refine at_q rfl rfl (by decide) (qt_not rfl rfl) ?_
  refine at_q rfl rfl (by decide) (qt_move rfl rfl) ?_
  refine at_bsplit 35 rfl (fun g1 => ?_) (fun g1 => ?_)
  ·try simp only [za,zb,zc,zd,ze,zf,Bool.not_true,Bool.not_false,zg,zh,ne_eq,zi,zj] at g1
   refine at_off rfl rfl rfl rfl (by decide) rfl (by decide) ?_
   refine at_off rfl rfl rfl rfl (by decide) rfl (by decide) ?_
   refine at_off rfl rfl rfl rfl (by decide) rfl (by decide) ?_
   refine at_q rfl rfl (by decide) (qt_pickT rfl rfl rfl) ?_
   refine at_end ?_
   refine at_yes rfl rfl ?_
   refine at_seq ?_
   refine at_region ?_
   refine at_q rfl rfl (by decide) (qt_build rfl rfl (bld_impl_Pt_)) ?_
   refine at_op rfl ?_
   refine op_storeAll' (k := 0) rfl rfl rfl rfl (rfl) (by rfl) tyz_impl_Pt.szx rfl rfl rfl ?_
   refine at_rsE (by simp only [ya,yb,yc,yd,Value.cells,ye]; rfl) ?_
   refine at_q rfl rfl (by decide) (qt_assign rfl rfl) ?_
   refine at_end ?_
   refine at_retc ?_
   refine then_ret ?_
   refine at_ret2 rfl (rvCelS (k := 0) rfl tys_impl_Pt rfl rfl) (.tmp rfl) ?_
   intro w' hs
   exact ⟨pt_none (two_no hc (by rw [g1]; simp)), hs.fin⟩
  ·try simp only [za,zb,zc,zd,ze,zf,Bool.not_true,Bool.not_false,zg,zh,ne_eq,zi,zj] at g1
   refine at_on rfl rfl rfl rfl ?_
   refine op_q rfl (by decide) (qt_loadS rfl rfl tys_impl_Pt rfl (rdAll (k := 1) rfl)) ?_
   refine at_on rfl rfl rfl rfl ?_
   refine op_q rfl (by decide) (qt_call ok_impl_ValidPt rfl rfl (fun w1 hs => ValidPt_any (decV p) (decV q) w1)) ?_
   refine at_on rfl rfl rfl rfl ?_
   refine op_q rfl (by decide) (qt_not rfl rfl) ?_
   refine at_q rfl rfl (by decide) (qt_pickF rfl rfl rfl) ?_
   refine at_end ?_
   refine at_cond rfl (fun c2 => ?_) (fun c2 => ?_)
   ·try simp only [za,zb,zc,zd,ze,zf,Bool.not_true,Bool.not_false,zg,zh,ne_eq,zi,zj] at c2
    refine at_seq ?_
    refine at_region ?_
    refine at_q rfl rfl (by decide) (qt_build rfl rfl (bld_impl_Pt_)) ?_
    refine at_op rfl ?_
    refine op_storeAll' (k := 0) rfl rfl rfl rfl (rfl) (by rfl) tyz_impl_Pt.szx rfl rfl rfl ?_
    refine at_rsE (by simp only [ya,yb,yc,yd,Value.cells,ye]; rfl) ?_
    refine at_q rfl rfl (by decide) (qt_assign rfl rfl) ?_
    refine at_end ?_
    refine at_retc ?_
    refine then_ret ?_
    refine at_ret2 rfl (rvCelS (k := 0) rfl tys_impl_Pt rfl rfl) (.tmp rfl) ?_
    intro w' hs
    exact ⟨pt_none (two_no hc (by rintro ⟨h1, h2, h3⟩; rw [← decV_yes h1, ← decV_yes h2, c2] at h3; cases h3)), hs.fin⟩
   ·try simp only [za,zb,zc,zd,ze,zf,Bool.not_true,Bool.not_false,zg,zh,ne_eq,zi,zj] at c2
    refine at_skip ?_
    refine norm_then ?_
    refine at_seq ?_
    refine at_region ?_
    refine at_q rfl rfl (by decide) (qt_loadS rfl rfl tys_impl_Pt rfl (rdAll (k := 1) rfl)) ?_
    refine at_op rfl ?_
    refine op_storeAll' (k := 0) rfl rfl rfl rfl (rfl) (by rfl) tyz_impl_Pt.szx rfl rfl rfl ?_
    refine at_rsE (by simp only [ya,yb,yc,yd,Value.cells,ye]; rfl) ?_
    refine at_q rfl rfl (by decide) (qt_assign rfl rfl) ?_
    refine at_end ?_
    refine at_retc ?_
    refine at_ret2 rfl (rvCelS (k := 0) rfl tys_impl_Pt rfl rfl) (.tmp rfl) ?_
    intro w' hs
    exact ⟨by have e1 := decV_yes c1; have e2 := decV_yes g1; rw [e1, e2] at c2 ⊢; exact pt_some (two_yes hc c1 g1 c2), hs.fin⟩
theorem ReadPt_any (l : List UInt8) (w : World) (hM : MaxL w) (hl : l.length ≤ 1048576) : Calls Tryd.prog 49 #[sV l] w fun e w' => e = .returned (ptR (txPt l)) ∧ Over w w' := by
 rcases cut_or 44 l with hc | ⟨p, q, hc, rfl⟩
 ·exact ReadPt_no l w hM hl hc
 ·exact ReadPt_two p q w hM hl hc
theorem spl_word {b : UInt8} {l x : List UInt8} (h : x ∈ splL b l) : x.length ≤ l.length := by
 have h1 := splL_sum b l
 have key : ∀ L : List (List UInt8), x ∈ L → x.length + L.length ≤ (L.map List.length).sum + L.length := fun L => by
  induction L with
  | nil => intro k; cases k
  | cons a t ih =>
   intro k
   rw [List.map_cons, List.sum_cons, List.length_cons]
   rcases List.mem_cons.1 k with q | q
   ·subst q; omega
   ·have := ih q; omega
 have h2 := key _ h
 have h3 : 1 ≤ (splL b l).length := List.length_pos_iff.2 (splL_ne b l)
 omega
theorem newRowV {P : Program} {f : FuncId} {args : Array Value} {w1 : World} {T s n : Nat} {xs : List Value} {V : Value → Value} (h : Calls P f args w1 fun e w' => ∃ v, e = .returned (V v) ∧ True ∧ w'.ownsRow w1.heap.size T s v n xs ∧ Over w1 w') :
  Calls P f args w1 fun e w' => ∃ x : Option Addr × Nat, e = .returned (V (.slice x.1 n x.2)) ∧ Over w1 w' ∧ (rowR 0 T s n xs x).P w' ∧ (∀ b, (rowR 0 T s n xs x).F b → w1.heap.size ≤ b) ∧ (rowR 0 T s n xs x).B = 0 ∧ True := by
 refine h.mono ?_
 rintro e w' ⟨v, rfl, _, hr, hO⟩
 obtain ⟨x, rfl⟩ := row_slice hr
 exact ⟨x, rfl, hO, row_low hr (Nat.zero_le _), fun b hb => (hr.lt b hb).1, rfl, trivial⟩
theorem splR_no {l : List UInt8} (h : ¬ ((splL 44 l).length : Int) = 2) : txPt l = none := by
 unfold txPt
 split
 ·rename_i a b hab
  rw [hab] at h
  exact (h rfl).elim
 ·rfl
theorem txPt_of {l a b : List UInt8} (h : [a, b] = splL 44 l) : txPt l = if (okD a && okD b && okB (valL a) (valL b)) = true then some (valL a, valL b) else none := by
 unfold txPt
 rw [← h]
theorem txPt_noT {l a b : List UInt8} (hs : [a, b] = splL 44 l) (h : ¬ (okD a = true ∧ okD b = true ∧ okB (valL a) (valL b) = true)) : txPt l = none := by
 rw [txPt_of hs, if_neg]
 rw [Bool.and_eq_true, Bool.and_eq_true]
 exact fun k => h ⟨k.1.1, k.1.2, k.2⟩
theorem txPt_yesT {l a b : List UInt8} (hs : [a, b] = splL 44 l) (h1 : okD a = true) (h2 : okD b = true) (h3 : okB (valL a) (valL b) = true) : txPt l = some (valL a, valL b) := by
 rw [txPt_of hs, h1, h2, h3]
 rfl
theorem specReadPt_any (l : List UInt8) (w : World) (hl : l.length ≤ 1048576) : Calls Tryd.prog 45 #[sV l] w fun e w' => e = .returned (ptR (txPt l)) ∧ Over w w' := by
 obtain ⟨L, hL⟩ : ∃ L, L = splL 44 l := ⟨_, rfl⟩
 have hw : ∀ j (hj : j < L.length), L[j].length ≤ 1048576 := fun j hj => Nat.le_trans (spl_word (b := 44) (l := l) (by rw [← hL]; exact List.getElem_mem hj)) hl
 refine walk_from (m := 46) (Tryd.func45) rfl rfl (Nat.le_of_ble_eq_true rfl) ?_
 refine at_seq ?_
 refine at_region ?_
 refine at_op rfl ?_
 refine op_alloc rfl tyz_impl_Pt rfl (by decide) (fun b1 => ?_)
 refine at_rsE (by simp only [ya,yb,yc,yd,Value.cells,ye]; rfl) ?_
 refine at_q rfl rfl (by decide) (qt_assign rfl rfl) ?_
 refine at_end ?_
 refine at_seq ?_
 refine at_region ?_
 refine at_q rfl rfl (by decide) (qt_move rfl rfl) ?_
 refine at_op rfl ?_
 refine op_call ok_spec_l01Split (v := fun x => .slice x.1 L.length x.2) (r := fun x => rowR 0 9 1 L.length (L.map sV) x) (H := fun _ => True) rfl rfl rfl (by decide) (fun w1 hs => newRow (hL ▸ l01Split_any 44 l w1 hl)) ?_
 rintro ⟨sA, sc⟩ -
 refine at_rsE (by simp only [ya,yb,yc,yd,Value.cells,ye]; rfl) ?_
 refine at_q rfl rfl (by decide) (qt_assign rfl rfl) ?_
 refine at_end ?_
 refine at_seq ?_
 refine at_seq ?_
 refine at_region ?_
 refine at_q rfl rfl (by decide) (qt_move rfl rfl) ?_
 refine at_q rfl rfl (by decide) (qt_len rfl rfl tyl_sl_string) ?_
 refine at_q rfl rfl (by decide) (qt_neq rfl rfl rfl) ?_
 refine at_end ?_
 refine at_cond rfl (fun c1 => ?_) (fun c1 => ?_)
 ·try simp only [za,zb,zc,zd,ze,zf,Bool.not_true,Bool.not_false,zg,zh,ne_eq,zi,zj] at c1
  refine at_seq ?_
  refine at_region ?_
  refine at_q rfl rfl (by decide) (qt_build rfl rfl (bld_impl_Pt_)) ?_
  refine at_op rfl ?_
  refine op_storeAll' (k := 0) rfl rfl rfl rfl (rfl) (by rfl) tyz_impl_Pt.szx rfl rfl rfl ?_
  refine at_rsE (by simp only [ya,yb,yc,yd,Value.cells,ye]; rfl) ?_
  refine at_q rfl rfl (by decide) (qt_assign rfl rfl) ?_
  refine at_end ?_
  refine at_retc ?_
  refine then_ret ?_
  refine at_ret2 rfl (rvCelS (k := 0) rfl tys_impl_Pt rfl rfl) (.tmp rfl) ?_
  intro w' hs
  exact ⟨pt_none (splR_no (by rw [← hL]; exact c1)), hs.fin⟩
 ·try simp only [za,zb,zc,zd,ze,zf,Bool.not_true,Bool.not_false,zg,zh,ne_eq,zi,zj] at c1
  have h2 : L.length = 2 := (by have := c1; omega)
  obtain ⟨a, b, hab⟩ : ∃ a b, L = [a, b] := (match L, h2 with | [a, b], _ => ⟨a, b, rfl⟩)
  subst hab
  refine at_skip ?_
  refine norm_then ?_
  refine at_seq ?_
  refine at_region ?_
  refine at_q rfl rfl (by decide) (qt_move rfl rfl) ?_
  refine at_q rfl rfl (by decide) (qt_indexR (k := 1) (j := 0) rfl rfl rfl rfl tyl_sl_string (by simp)) ?_
  refine at_q rfl rfl (by decide) (qt_load1 rfl rfl ty1_string (rdStr (k := 1) (j := 0) rfl (by simp))) ?_
  refine at_q rfl rfl (by decide) (qt_call ok_spec_ReadDecimal rfl rfl (fun w1 hs => specReadDecimal_any a w1 (hw 0 (by simp)))) ?_
  refine at_q rfl rfl (by decide) (qt_move rfl rfl) ?_
  refine at_q rfl rfl (by decide) (qt_extract rfl rfl rfl) ?_
  refine at_q rfl rfl (by decide) (qt_extract rfl rfl rfl) ?_
  refine at_q rfl rfl (by decide) (qt_assign rfl rfl) ?_
  refine at_q rfl rfl (by decide) (qt_assign rfl rfl) ?_
  refine at_end ?_
  refine at_seq ?_
  refine at_region ?_
  refine at_q rfl rfl (by decide) (qt_move rfl rfl) ?_
  refine at_q rfl rfl (by decide) (qt_indexR (k := 1) (j := 1) rfl rfl rfl rfl tyl_sl_string (by simp)) ?_
  refine at_q rfl rfl (by decide) (qt_load1 rfl rfl ty1_string (rdStr (k := 1) (j := 1) rfl (by simp))) ?_
  refine at_q rfl rfl (by decide) (qt_call ok_spec_ReadDecimal rfl rfl (fun w1 hs => specReadDecimal_any b w1 (hw 1 (by simp)))) ?_
  refine at_q rfl rfl (by decide) (qt_move rfl rfl) ?_
  refine at_q rfl rfl (by decide) (qt_extract rfl rfl rfl) ?_
  refine at_q rfl rfl (by decide) (qt_extract rfl rfl rfl) ?_
  refine at_q rfl rfl (by decide) (qt_assign rfl rfl) ?_
  refine at_q rfl rfl (by decide) (qt_assign rfl rfl) ?_
  refine at_end ?_
  refine at_seq ?_
  refine at_region ?_
  refine at_q rfl rfl (by decide) (qt_move rfl rfl) ?_
  refine at_q rfl rfl (by decide) (qt_move rfl rfl) ?_
  refine at_q rfl rfl (by decide) (qt_build rfl rfl (bld_impl_Pt_0_1 rfl rfl)) ?_
  refine at_op rfl ?_
  refine op_alloc rfl tyz_impl_Pt rfl (by decide) (fun b2 => ?_)
  refine at_rsE (by simp only [ya,yb,yc,yd,Value.cells,ye]; rfl) ?_
  refine at_op rfl ?_
  refine op_storeAll' (k := 2) rfl rfl rfl rfl (rfl) (by rfl) tyz_impl_Pt.szx rfl rfl rfl ?_
  refine at_rsE (by simp only [ya,yb,yc,yd,Value.cells,ye]; rfl) ?_
  refine at_end ?_
  refine at_seq ?_
  refine at_seq ?_
  refine at_region ?_
  refine at_q rfl rfl (by decide) (qt_move rfl rfl) ?_
  refine at_q rfl rfl (by decide) (qt_not rfl rfl) ?_
  refine at_q rfl rfl (by decide) (qt_move rfl rfl) ?_
  refine at_bsplit 35 rfl (fun g1 => ?_) (fun g1 => ?_)
  ·try simp only [za,zb,zc,zd,ze,zf,Bool.not_true,Bool.not_false,zg,zh,ne_eq,zi,zj] at g1
   refine at_off rfl rfl rfl rfl (by decide) rfl (by decide) ?_
   refine at_off rfl rfl rfl rfl (by decide) rfl (by decide) ?_
   refine at_q rfl rfl (by decide) (qt_pickT rfl rfl rfl) ?_
   refine at_q rfl rfl (by decide) (qt_move rfl rfl) ?_
   refine at_off rfl rfl rfl rfl (by decide) rfl (by decide) ?_
   refine at_off rfl rfl rfl rfl (by decide) rfl (by decide) ?_
   refine at_off rfl rfl rfl rfl (by decide) rfl (by decide) ?_
   refine at_q rfl rfl (by decide) (qt_pickT rfl rfl rfl) ?_
   refine at_end ?_
   refine at_yes rfl rfl ?_
   refine at_seq ?_
   refine at_region ?_
   refine at_q rfl rfl (by decide) (qt_build rfl rfl (bld_impl_Pt_)) ?_
   refine at_op rfl ?_
   refine op_storeAll' (k := 0) rfl rfl rfl rfl (rfl) (by rfl) tyz_impl_Pt.szx rfl rfl rfl ?_
   refine at_rsE (by simp only [ya,yb,yc,yd,Value.cells,ye]; rfl) ?_
   refine at_q rfl rfl (by decide) (qt_assign rfl rfl) ?_
   refine at_end ?_
   refine at_retc ?_
   refine then_ret ?_
   refine at_ret2 rfl (rvCelS (k := 0) rfl tys_impl_Pt rfl rfl) (.tmp rfl) ?_
   intro w' hs
   exact ⟨pt_none (txPt_noT hL (by rw [g1]; simp)), hs.fin⟩
  ·try simp only [za,zb,zc,zd,ze,zf,Bool.not_true,Bool.not_false,zg,zh,ne_eq,zi,zj] at g1
   refine at_on rfl rfl rfl rfl ?_
   refine op_q rfl (by decide) (qt_move rfl rfl) ?_
   refine at_on rfl rfl rfl rfl ?_
   refine op_q rfl (by decide) (qt_not rfl rfl) ?_
   refine at_q rfl rfl (by decide) (qt_pickF rfl rfl rfl) ?_
   refine at_q rfl rfl (by decide) (qt_move rfl rfl) ?_
   refine at_bsplit 39 rfl (fun g2 => ?_) (fun g2 => ?_)
   ·try simp only [za,zb,zc,zd,ze,zf,Bool.not_true,Bool.not_false,zg,zh,ne_eq,zi,zj] at g2
    refine at_off rfl rfl rfl rfl (by decide) rfl (by decide) ?_
    refine at_off rfl rfl rfl rfl (by decide) rfl (by decide) ?_
    refine at_off rfl rfl rfl rfl (by decide) rfl (by decide) ?_
    refine at_q rfl rfl (by decide) (qt_pickT rfl rfl rfl) ?_
    refine at_end ?_
    refine at_yes rfl rfl ?_
    refine at_seq ?_
    refine at_region ?_
    refine at_q rfl rfl (by decide) (qt_build rfl rfl (bld_impl_Pt_)) ?_
    refine at_op rfl ?_
    refine op_storeAll' (k := 0) rfl rfl rfl rfl (rfl) (by rfl) tyz_impl_Pt.szx rfl rfl rfl ?_
    refine at_rsE (by simp only [ya,yb,yc,yd,Value.cells,ye]; rfl) ?_
    refine at_q rfl rfl (by decide) (qt_assign rfl rfl) ?_
    refine at_end ?_
    refine at_retc ?_
    refine then_ret ?_
    refine at_ret2 rfl (rvCelS (k := 0) rfl tys_impl_Pt rfl rfl) (.tmp rfl) ?_
    intro w' hs
    exact ⟨pt_none (txPt_noT hL (by rw [g2]; simp)), hs.fin⟩
   ·try simp only [za,zb,zc,zd,ze,zf,Bool.not_true,Bool.not_false,zg,zh,ne_eq,zi,zj] at g2
    refine at_on rfl rfl rfl rfl ?_
    refine op_q rfl (by decide) (qt_loadS rfl rfl tys_impl_Pt rfl (rdAll (k := 2) rfl)) ?_
    refine at_on rfl rfl rfl rfl ?_
    refine op_q rfl (by decide) (qt_call ok_spec_l03Ok rfl rfl (fun w1 hs => l03Ok_any (decV a) (decV b) w1)) ?_
    refine at_on rfl rfl rfl rfl ?_
    refine op_q rfl (by decide) (qt_not rfl rfl) ?_
    refine at_q rfl rfl (by decide) (qt_pickF rfl rfl rfl) ?_
    refine at_end ?_
    refine at_cond rfl (fun c2 => ?_) (fun c2 => ?_)
    ·try simp only [za,zb,zc,zd,ze,zf,Bool.not_true,Bool.not_false,zg,zh,ne_eq,zi,zj] at c2
     refine at_seq ?_
     refine at_region ?_
     refine at_q rfl rfl (by decide) (qt_build rfl rfl (bld_impl_Pt_)) ?_
     refine at_op rfl ?_
     refine op_storeAll' (k := 0) rfl rfl rfl rfl (rfl) (by rfl) tyz_impl_Pt.szx rfl rfl rfl ?_
     refine at_rsE (by simp only [ya,yb,yc,yd,Value.cells,ye]; rfl) ?_
     refine at_q rfl rfl (by decide) (qt_assign rfl rfl) ?_
     refine at_end ?_
     refine at_retc ?_
     refine then_ret ?_
     refine at_ret2 rfl (rvCelS (k := 0) rfl tys_impl_Pt rfl rfl) (.tmp rfl) ?_
     intro w' hs
     exact ⟨pt_none (txPt_noT hL (by rintro ⟨h1, h2, h3⟩; rw [← decV_yes h1, ← decV_yes h2, c2] at h3; cases h3)), hs.fin⟩
    ·try simp only [za,zb,zc,zd,ze,zf,Bool.not_true,Bool.not_false,zg,zh,ne_eq,zi,zj] at c2
     refine at_skip ?_
     refine norm_then ?_
     refine at_seq ?_
     refine at_region ?_
     refine at_q rfl rfl (by decide) (qt_loadS rfl rfl tys_impl_Pt rfl (rdAll (k := 2) rfl)) ?_
     refine at_op rfl ?_
     refine op_storeAll' (k := 0) rfl rfl rfl rfl (rfl) (by rfl) tyz_impl_Pt.szx rfl rfl rfl ?_
     refine at_rsE (by simp only [ya,yb,yc,yd,Value.cells,ye]; rfl) ?_
     refine at_q rfl rfl (by decide) (qt_assign rfl rfl) ?_
     refine at_end ?_
     refine at_retc ?_
     refine at_ret2 rfl (rvCelS (k := 0) rfl tys_impl_Pt rfl rfl) (.tmp rfl) ?_
     intro w' hs
     exact ⟨by have e1 := decV_yes g1; have e2 := decV_yes g2; rw [e1, e2] at c2 ⊢; exact pt_some (txPt_yesT hL g1 g2 c2), hs.fin⟩
end Go.Proofs.YtjhaakollekjeaaDoor
