import Derived.Test.YtjhaakollekjeaaDoorO38
import Derived.Test.YtjhaakollekjeaaDoorO39
import Derived.Test.YtjhaakollekjeaaDoorO32
import Derived.Test.YtjhaakollekjeaaDoorO40
namespace Go.Proofs.YtjhaakollekjeaaDoor
open Go Go.RowKit
set_option linter.unusedVariables false
set_option linter.unusedSimpArgs false
set_option maxRecDepth 100000
set_option maxHeartbeats 4000000
set_option linter.unusedVariables false
set_option linter.unusedSimpArgs false
theorem chn_fst : ∀ {S : List Sg} {a z : Pn}, chn a S z → ∀ (h : 0 < S.length), (S[0]).a = a
 | [], _, _, _, h => by simp at h
 | s :: S, a, z, h, _ => h.1
theorem sum_bd {rs : List Ring_} (h : regionB rs = true) : -2251799813685248 ≤ legSum (edgesAll rs) ∧ legSum (edgesAll rs) ≤ 2251799813685248 := by
 obtain ⟨u1, u2⟩ := legSum_bd (allTo rs rs.length) (all_ok2 h rs.length (by omega))
 have h1 := allTo_len rs rs.length
 have h2 := sumTo_le h rs.length (by omega)
 have h3 := reg_len h
 show -2251799813685248 ≤ legSum (allTo rs rs.length) ∧ legSum (allTo rs rs.length) ≤ 2251799813685248
 omega
theorem ptNo {a b : Pn} (h : a = b) : (!((a.1 == b.1) && (a.2 == b.2))) = false := by rw [h]; simp
theorem rdOldO {w : World} {Rs : List Res} {b o : Nat} {v : Value} (hc : w.cell? ⟨b, o, none⟩ = some v) (hb : b < w.heap.size) : ∀ w', St ⟨w, []⟩ Rs w' → ∀ j u, [v][j]? = some u → w'.cell? ⟨b, o + j, none⟩ = some u := fun w' hs j u hj => by
 match j, hj with
 | 0, hj => simp at hj; subst hj; exact rdOld0 hc hb w' hs
theorem ouTx_len {ls : List (List Kn)} (h : outB ls = true) : (ouTx ls).length ≤ 1048576 := by
 have h12 := out_len h
 have := ouTo_len (ls := ls) (fun j hj => (loop_ok (out_at h hj)).len) ls.length (Nat.le_refl _)
 show (ouTo ls ls.length).length ≤ _
 omega
theorem law_FnOutlines (A0 : Option Addr) (n0 c0_ : Nat) (zs0 : List Int) (A1 : Option Addr) (n1 c1_ : Nat) (zs1 : List Int) (w : World) (hM : MaxL w) (hp0 : Byts w A0 n0 zs0) (hm0 : (n0 : Int) ≤ 9223372036854775807) (hp1 : Byts w A1 n1 zs1) (hm1 : (n1 : Int) ≤ 9223372036854775807) :
  Calls Tryd.prog 4 #[.slice A0 n0 c0_, .slice A1 n1 c1_] w fun e w' => e = .returned (.bool true) ∧ Over w w' := by
 obtain ⟨T, hT⟩ : ∃ T, T = tol9 n1 zs1 := ⟨_, rfl⟩
 have hT2 : 0 ≤ T ∧ T ≤ 8 := hT ▸ tol9_bd hp1
 refine walk_from (m := 186) (Tryd.func4) rfl rfl (Nat.le_of_ble_eq_true rfl) ?_
 refine at_seq ?_
 refine at_region ?_
 refine at_q rfl rfl (by decide) (qt_assign rfl rfl) ?_
 refine at_end ?_
 refine at_seq ?_
 refine at_seq ?_
 refine at_region ?_
 refine at_q rfl rfl (by decide) (qt_move rfl rfl) ?_
 refine at_q rfl rfl (by decide) (qt_move rfl rfl) ?_
 refine at_q rfl rfl (by decide) (qt_call ok_laws_e8Long rfl rfl (fun w1 hs => e8Lo_any A0 A1 n0 _ n1 _ w1)) ?_
 refine at_end ?_
 refine at_cond rfl (fun c1 => ?_) (fun c1 => ?_)
 ·try simp only [za,zb,zc,zd,ze,zf,Bool.not_true,Bool.not_false,zg,zh,ne_eq,zi,zj] at c1
  refine at_seq ?_
  refine at_region ?_
  refine at_q rfl rfl (by decide) (qt_assign rfl rfl) ?_
  refine at_end ?_
  refine at_retc ?_
  refine then_ret ?_
  refine at_ret1 rfl (.tmp rfl) ?_
  intro w' hs
  exact ⟨rfl, hs.fin⟩
 ·try simp only [za,zb,zc,zd,ze,zf,Bool.not_true,Bool.not_false,zg,zh,ne_eq,zi,zj] at c1
  have hn : n0 ≤ 1048576 ∧ n1 ≤ 1048576 := by simp at c1; omega
  refine at_skip ?_
  refine norm_then ?_
  refine at_seq ?_
  refine at_region ?_
  refine at_q rfl rfl (by decide) (qt_move rfl rfl) ?_
  refine at_op rfl ?_
  refine op_call ok_spec_E8Outline (X := OX) (v := fun x => outV x.2.1.1 x.1.1.length x.2.1.2) (r := fun x => doqR x) (H := fun _ => True) rfl rfl rfl (by decide) (fun w1 hs => E8Outline_any (hp0.over hs.fin) hn.1) ?_
  rintro ⟨⟨ls, hls⟩, ⟨oA, oc⟩, olo, ohi⟩ -
  refine at_rsE (by simp only [ya,yb,yc,yd,Value.cells,ye]; rfl) ?_
  try dsimp only
  have hou := ouD_ok hls
  have h12 := out_len hou
  have hrl : (revO ls).length = ls.length := by unfold revO; rw [List.length_map]
  refine at_op rfl ?_
  refine op_alloc rfl tyz_impl_Outline rfl (by decide) (fun b1 => ?_)
  refine at_rsE (by simp only [ya,yb,yc,yd,Value.cells,ye]; rfl) ?_
  refine at_op rfl ?_
  refine op_storeAll' (k := 1) rfl rfl rfl rfl (rfl) (by rfl) tyz_impl_Outline.szx rfl rfl rfl ?_
  refine at_rsE (by simp only [ya,yb,yc,yd,Value.cells,ye]; rfl) ?_
  refine at_end ?_
  refine at_seq ?_
  refine at_region ?_
  refine at_q rfl rfl (by decide) (qt_move rfl rfl) ?_
  refine at_q rfl rfl (by decide) (qt_call ok_laws_e8At rfl rfl (fun w1 hs => hT ▸ e8At9_any A1 n1 _ zs1 w1 (hp1.over hs.fin) hn.2)) ?_
  refine at_q rfl rfl (by decide) (qt_add rfl rfl rfl (by omega) (by omega)) ?_
  refine at_q rfl rfl (by decide) (qt_assign rfl rfl) ?_
  refine at_end ?_
  refine at_seq ?_
  refine at_region ?_
  refine at_q rfl rfl (by decide) (qt_loadS rfl rfl tys_impl_Outline rfl (rdAll (k := 1) rfl)) ?_
  refine at_op rfl ?_
  refine op_call ok_impl_ReverseOutline (X := (Option Addr × Nat) × Nat × Nat) (v := fun x => .tuple #[outV x.1.1 (revO ls).length x.1.2, .int .i64 0]) (r := fun x => oqR (revO ls) x.1.1 x.2.1 x.2.2) (H := fun _ => True) rfl rfl rfl (by decide) (fun w1 hs => ReverseOutline_any oA _ ls w1 (oqLoops (k := 0) rfl w1 hs) hou) ?_
  rintro ⟨⟨bA, bc⟩, blo, bhi⟩ -
  refine at_rsE (by simp only [ya,yb,yc,yd,Value.cells,ye]; rfl) ?_
  refine at_q rfl rfl (by decide) (qt_move rfl rfl) ?_
  refine at_q rfl rfl (by decide) (qt_extract rfl rfl rfl) ?_
  refine at_q rfl rfl (by decide) (qt_extract rfl rfl rfl) ?_
  refine at_op rfl ?_
  refine op_alloc rfl tyz_impl_Outline rfl (by decide) (fun b2 => ?_)
  refine at_rsE (by simp only [ya,yb,yc,yd,Value.cells,ye]; rfl) ?_
  refine at_op rfl ?_
  refine op_storeAll' (k := 3) rfl rfl rfl rfl (rfl) (by rfl) tyz_impl_Outline.szx rfl rfl rfl ?_
  refine at_rsE (by simp only [ya,yb,yc,yd,Value.cells,ye]; rfl) ?_
  refine at_q rfl rfl (by decide) (qt_assign rfl rfl) ?_
  refine at_end ?_
  refine at_seq ?_
  refine at_region ?_
  refine at_q rfl rfl (by decide) (qt_loadS rfl rfl tys_impl_Outline rfl (rdAll (k := 3) rfl)) ?_
  refine at_op rfl ?_
  refine op_call ok_impl_ReverseOutline (X := (Option Addr × Nat) × Nat × Nat) (v := fun x => .tuple #[outV x.1.1 ls.length x.1.2, .int .i64 0]) (r := fun x => oqR ls x.1.1 x.2.1 x.2.2) (H := fun _ => True) rfl rfl rfl (by decide) (fun w1 hs => (by have := ReverseOutline_any bA bc (revO ls) w1 (oqLoops (k := 2) rfl w1 hs) (by rw [outB_rev]; exact hou); rw [revO_revO] at this; exact this)) ?_
  rintro ⟨⟨aA, ac⟩, alo, ahi⟩ -
  refine at_rsE (by simp only [ya,yb,yc,yd,Value.cells,ye]; rfl) ?_
  refine at_q rfl rfl (by decide) (qt_move rfl rfl) ?_
  refine at_q rfl rfl (by decide) (qt_extract rfl rfl rfl) ?_
  refine at_q rfl rfl (by decide) (qt_extract rfl rfl rfl) ?_
  refine at_op rfl ?_
  refine op_alloc rfl tyz_impl_Outline rfl (by decide) (fun b3 => ?_)
  refine at_rsE (by simp only [ya,yb,yc,yd,Value.cells,ye]; rfl) ?_
  refine at_op rfl ?_
  refine op_storeAll' (k := 5) rfl rfl rfl rfl (rfl) (by rfl) tyz_impl_Outline.szx rfl rfl rfl ?_
  refine at_rsE (by simp only [ya,yb,yc,yd,Value.cells,ye]; rfl) ?_
  refine at_q rfl rfl (by decide) (qt_assign rfl rfl) ?_
  refine at_end ?_
  refine at_seq ?_
  refine at_region ?_
  refine at_q rfl rfl (by decide) (qt_loadS rfl rfl tys_impl_Outline rfl (rdAll (k := 1) rfl)) ?_
  refine at_q rfl rfl (by decide) (qt_call ok_impl_OutlineText rfl rfl (fun w1 hs => OutlineText_any oA _ ls w1 (oqLoops (k := 0) rfl w1 hs) hou)) ?_
  refine at_op rfl ?_
  refine op_call ok_impl_ReadOutline (X := (Option Addr × Nat) × Nat × Nat) (v := fun x => .tuple #[outV x.1.1 ls.length x.1.2, .bool true]) (r := fun x => oqR ls x.1.1 x.2.1 x.2.2) (H := fun _ => True) rfl rfl rfl (by decide) (fun w1 hs => ReadOutline_any (ouTx ls) ls w1 (hM.over hs.fin) (ouTx_len hou) (txOu_ou hou)) ?_
  rintro ⟨⟨rA, rc⟩, rlo, rhi⟩ -
  refine at_rsE (by simp only [ya,yb,yc,yd,Value.cells,ye]; rfl) ?_
  refine at_q rfl rfl (by decide) (qt_move rfl rfl) ?_
  refine at_q rfl rfl (by decide) (qt_extract rfl rfl rfl) ?_
  refine at_q rfl rfl (by decide) (qt_extract rfl rfl rfl) ?_
  refine at_op rfl ?_
  refine op_alloc rfl tyz_impl_Outline rfl (by decide) (fun b4 => ?_)
  refine at_rsE (by simp only [ya,yb,yc,yd,Value.cells,ye]; rfl) ?_
  refine at_op rfl ?_
  refine op_storeAll' (k := 7) rfl rfl rfl rfl (rfl) (by rfl) tyz_impl_Outline.szx rfl rfl rfl ?_
  refine at_rsE (by simp only [ya,yb,yc,yd,Value.cells,ye]; rfl) ?_
  refine at_q rfl rfl (by decide) (qt_assign rfl rfl) ?_
  refine at_end ?_
  refine at_seq ?_
  refine at_seq ?_
  refine at_region ?_
  refine at_q rfl rfl (by decide) (qt_move rfl rfl) ?_
  refine at_q rfl rfl (by decide) (qt_neq rfl rfl rfl) ?_
  refine at_q rfl rfl (by decide) (qt_move rfl rfl) ?_
  refine at_as 52 (.bool false) rfl (by rw [(show (!((0 : Int) == 0)) = false from rfl)]) ?_
  refine at_on rfl rfl rfl rfl ?_
  refine op_q rfl (by decide) (qt_move rfl rfl) ?_
  refine at_on rfl rfl rfl rfl ?_
  refine op_q rfl (by decide) (qt_neq rfl rfl rfl) ?_
  refine at_q rfl rfl (by decide) (qt_pickF rfl rfl rfl) ?_
  refine at_q rfl rfl (by decide) (qt_move rfl rfl) ?_
  refine at_as 56 (.bool false) rfl (by rw [(show (!((0 : Int) == 0)) = false from rfl)]) ?_
  refine at_on rfl rfl rfl rfl ?_
  refine op_q rfl (by decide) (qt_loadS rfl rfl tys_impl_Outline rfl (rdAll (k := 5) rfl)) ?_
  refine at_on rfl rfl rfl rfl ?_
  refine op_q rfl (by decide) (qt_loadS rfl rfl tys_impl_Outline rfl (rdAll (k := 1) rfl)) ?_
  refine at_on rfl rfl rfl rfl ?_
  refine op_q rfl (by decide) (qt_call ok_spec_SameOutline rfl rfl (fun w1 hs => SameOutline_same aA oA _ ac _ ls w1 (oqLoops (k := 4) rfl w1 hs) (oqLoops (k := 0) rfl w1 hs) (by omega))) ?_
  refine at_on rfl rfl rfl rfl ?_
  refine op_q rfl (by decide) (qt_not rfl rfl) ?_
  refine at_q rfl rfl (by decide) (qt_pickF rfl rfl rfl) ?_
  refine at_q rfl rfl (by decide) (qt_move rfl rfl) ?_
  refine at_as 62 (.bool false) rfl (by rw [notTrue]) ?_
  refine at_on rfl rfl rfl rfl ?_
  refine op_q rfl (by decide) (qt_move rfl rfl) ?_
  refine at_on rfl rfl rfl rfl ?_
  refine op_q rfl (by decide) (qt_not rfl rfl) ?_
  refine at_q rfl rfl (by decide) (qt_pickF rfl rfl rfl) ?_
  refine at_q rfl rfl (by decide) (qt_move rfl rfl) ?_
  refine at_as 66 (.bool false) rfl (by rw [notTrue]) ?_
  refine at_on rfl rfl rfl rfl ?_
  refine op_q rfl (by decide) (qt_loadS rfl rfl tys_impl_Outline rfl (rdAll (k := 7) rfl)) ?_
  refine at_on rfl rfl rfl rfl ?_
  refine op_q rfl (by decide) (qt_loadS rfl rfl tys_impl_Outline rfl (rdAll (k := 1) rfl)) ?_
  refine at_on rfl rfl rfl rfl ?_
  refine op_q rfl (by decide) (qt_call ok_spec_SameOutline rfl rfl (fun w1 hs => SameOutline_same rA oA _ rc _ ls w1 (oqLoops (k := 6) rfl w1 hs) (oqLoops (k := 0) rfl w1 hs) (by omega))) ?_
  refine at_on rfl rfl rfl rfl ?_
  refine op_q rfl (by decide) (qt_not rfl rfl) ?_
  refine at_q rfl rfl (by decide) (qt_pickF rfl rfl rfl) ?_
  refine at_end ?_
  refine at_no rfl (notTrue) ?_
  refine at_skip ?_
  refine norm_then ?_
  refine at_seq ?_
  refine at_seq ?_
  refine at_rebase fun w1 hs1 => ?_
  have hC5 : w1.cell? ⟨b1, 0, none⟩ = some (.slice oA ls.length oc) := rd1 (k := 1) (off := 0) rfl rfl w1 hs1
  have hB5 : b1 < w1.heap.size := lt_of_some (hs1.cel (k := 1) rfl)
  have hC7 : w1.cell? ⟨b2, 0, none⟩ = some (.slice bA (revO ls).length bc) := rd1 (k := 3) (off := 0) rfl rfl w1 hs1
  have hB7 : b2 < w1.heap.size := lt_of_some (hs1.cel (k := 3) rfl)
  have hG : Loops w1 oA ls.length ls := oqLoops (k := 0) rfl w1 hs1
  have hG2 : Loops w1 bA (revO ls).length (revO ls) := oqLoops (k := 2) rfl w1 hs1
  have hO := hs1.fin
  refine at_region ?_
  refine at_q rfl rfl (by decide) (qt_assign rfl rfl) ?_
  refine at_end ?_
  refine at_block ?_
  refine at_loopk (X := Nat) (fun k => k ≤ ls.length) (fun k => ls.length - k) (fun k => [(13, .int .i64 (k : Int))]) (C := [(4, _), (5, _), (6, _), (7, _)]) ⟨rfl, rfl, rfl, rfl, trivial⟩ 0 (Nat.zero_le _) ⟨rfl, rfl, rfl, rfl, rfl, trivial⟩ ?_
  intro k hk L hL1
  refine at_envE (by simp only [ya,yb]; rfl) ?_
  refine at_seq ?_
  refine at_seq ?_
  refine at_region ?_
  refine at_q rfl rfl (by decide) (qt_move rfl rfl) ?_
  refine at_q rfl rfl (by decide) (qt_fieldAddr rfl rfl tyf_impl_Outline_0) ?_
  refine at_q rfl rfl (by decide) (qt_load1 rfl rfl ty1_sl_impl_Loop (rdOld0 hC5 hB5)) ?_
  refine at_q rfl rfl (by decide) (qt_len rfl rfl tyl_sl_impl_Loop) ?_
  refine at_q rfl rfl (by decide) (qt_lss rfl rfl rfl) ?_
  refine at_end ?_
  refine at_cond rfl (fun c2 => ?_) (fun c2 => ?_)
  ·try simp only [za,zb,zc,zd,ze,zf,Bool.not_true,Bool.not_false,zg,zh,ne_eq,zi,zj] at c2
   have hlt : k < ls.length := (by omega)
   obtain ⟨eb, eo, Ak, ck, rfl, hbB, hcell, hkns, hmax⟩ := hG.at_ hlt
   have hLk := out_at hou hlt
   have hok := loop_ok hLk
   have hch : chn (kn (lp ls k) 0).1 (sgs (lp ls k)) (kn (lp ls k) 0).1 := rg_chn hok
   have hps : 0 < (sgs (lp ls k)).length := sg_pos hok
   have hsl := sgs_len hok
   have hlp := hok.pos
   obtain ⟨fb, fo, rfl, _⟩ := hkns.at_ hlp
   refine at_skip ?_
   refine norm_then ?_
   refine at_seq ?_
   refine at_block ?_
   refine at_seq ?_
   refine at_region ?_
   refine at_q rfl rfl (by decide) (qt_fieldAddr rfl rfl tyf_impl_Outline_0) ?_
   refine at_q rfl rfl (by decide) (qt_load1 rfl rfl ty1_sl_impl_Loop (rdOld0 hC5 hB5)) ?_
   refine at_q rfl rfl (by decide) (qt_move rfl rfl) ?_
   refine at_q rfl rfl (by decide) (qt_index rfl rfl rfl tyl_sl_impl_Loop (by omega)) ?_
   refine at_q rfl rfl (by decide) (qt_loadS rfl rfl tys_impl_Loop rfl (rdOld1 hcell hbB)) ?_
   refine at_op rfl ?_
   refine op_call ok_impl_QuadsOfLoop (v := fun x => .tuple #[.slice x.1 _ x.2, .int .i64 0]) (r := fun x => rowR 0 52 6 _ _ x) (H := fun _ => True) rfl rfl rfl (by decide) (fun w2 hs => QuadsOfLoop_any _ ck (lp ls k) w2 (hkns.over hs.fin) hLk) ?_
   rintro ⟨qA, qc⟩ -
   obtain ⟨s0, hs0⟩ : ∃ s0, (sgs (lp ls k))[0]? = some s0 := ⟨_, List.getElem?_eq_getElem hps⟩
   obtain ⟨s9, hs9⟩ : ∃ s9, (sgs (lp ls k))[(sgs (lp ls k)).length - 1]? = some s9 := ⟨_, List.getElem?_eq_getElem (by omega)⟩
   have e0 : s0.a = (kn (lp ls k) 0).1 := by obtain ⟨z1, z2⟩ := List.getElem?_eq_some_iff.1 hs0; rw [← z2]; exact chn_fst hch z1
   have e9 : s9.c = (kn (lp ls k) 0).1 := by obtain ⟨z1, z2⟩ := List.getElem?_eq_some_iff.1 hs9; rw [← z2]; exact chn_end hch z1 (by omega)
   refine at_rsE (by simp only [ya,yb,yc,yd,Value.cells,ye]; rfl) ?_
   refine at_q rfl rfl (by decide) (qt_move rfl rfl) ?_
   refine at_q rfl rfl (by decide) (qt_extract rfl rfl rfl) ?_
   refine at_q rfl rfl (by decide) (qt_extract rfl rfl rfl) ?_
   refine at_q rfl rfl (by decide) (qt_assign rfl rfl) ?_
   refine at_q rfl rfl (by decide) (qt_assign rfl rfl) ?_
   refine at_end ?_
   refine at_seq ?_
   refine at_region ?_
   refine at_q rfl rfl (by decide) (qt_move rfl rfl) ?_
   refine at_q rfl rfl (by decide) (qt_len rfl rfl tyl_sl_impl_Quad) ?_
   refine at_q rfl rfl (by decide) (qt_assign rfl rfl) ?_
   refine at_end ?_
   refine at_seq ?_
   refine at_seq ?_
   refine dg_start mixed rfl ?_
   refine dg_phase 35 ?_
   refine dg_q (i := 0) rfl (by kernel_rfl) (by kernel_rfl) (by kernel_rfl) [] (by kernel_rfl) (fun _ _ _ h => h) rfl rfl (by decide) (fun _ h => h.upto ⟨rfl, trivial⟩) (qt_move rfl rfl) ?_
   refine dg_q (i := 1) rfl (by kernel_rfl) (by kernel_rfl) (by kernel_rfl) [] (by kernel_rfl) (fun _ _ _ h => h) rfl rfl (by decide) (fun _ h => h.upto ⟨rfl, trivial⟩) (qt_neq rfl rfl rfl) ?_
   refine dg_q (i := 2) rfl (by kernel_rfl) (by kernel_rfl) (by kernel_rfl) [] (by kernel_rfl) (fun _ _ _ h => h) rfl rfl (by decide) (fun _ h => h.upto ⟨rfl, trivial⟩) (qt_move rfl rfl) ?_
   refine at_as 92 (.bool false) rfl (by rw [(show (!((0 : Int) == 0)) = false from rfl)]) ?_
   refine dg_qg (i := 3) rfl (by kernel_rfl) (by kernel_rfl) (by kernel_rfl) [] (by kernel_rfl) (fun _ _ _ h => h) rfl rfl rfl rfl rfl (by decide) (fun _ h => h.upto ⟨rfl, trivial⟩) (qt_move rfl rfl) ?_
   refine dg_qg (i := 4) rfl (by kernel_rfl) (by kernel_rfl) (by kernel_rfl) [] (by kernel_rfl) (fun _ _ _ h => h) rfl rfl rfl rfl rfl (by decide) (fun _ h => h.upto ⟨rfl, trivial⟩) (qt_eql rfl rfl rfl) ?_
   refine dg_q (i := 5) rfl (by kernel_rfl) (by kernel_rfl) (by kernel_rfl) [] (by kernel_rfl) (fun _ _ _ h => h) rfl rfl (by decide) (fun _ h => h.upto ⟨rfl, trivial⟩) (qt_pickF rfl rfl rfl) ?_
   refine dg_q (i := 6) rfl (by kernel_rfl) (by kernel_rfl) (by kernel_rfl) [] (by kernel_rfl) (fun _ _ _ h => h) rfl rfl (by decide) (fun _ h => h.upto ⟨rfl, trivial⟩) (qt_move rfl rfl) ?_
   refine at_as 96 (.bool false) rfl (by rw [(beq_eq_false_iff_ne.2 (by omega))]) ?_
   refine dg_qg (i := 7) rfl (by kernel_rfl) (by kernel_rfl) (by kernel_rfl) [] (by kernel_rfl) (fun _ _ _ h => h) rfl rfl rfl rfl rfl (by decide) (fun _ h => h.upto ⟨rfl, trivial⟩) (qt_move rfl rfl) ?_
   refine dg_qg (i := 8) rfl (by kernel_rfl) (by kernel_rfl) (by kernel_rfl) [] (by kernel_rfl) (fun _ _ _ h => h) rfl rfl rfl rfl rfl (by decide) (fun _ h => h.upto ⟨rfl, trivial⟩) (qt_indexR (k := 0) (j := 0) rfl rfl rfl rfl tyl_sl_impl_Quad (by omega)) ?_
   refine dg_qg (i := 9) rfl (by kernel_rfl) (by kernel_rfl) (by kernel_rfl) [] (by kernel_rfl) (fun _ _ _ h => h) rfl rfl rfl rfl rfl (by decide) (fun _ h => h.upto ⟨rfl, trivial⟩) (qt_fieldAddr rfl rfl tyf_impl_Quad_0) ?_
   refine dg_qg (i := 10) rfl (by kernel_rfl) (by kernel_rfl) (by kernel_rfl) [] (by kernel_rfl) (fun _ _ _ h => h) rfl rfl rfl rfl rfl (by decide) (fun _ h => h.upto ⟨rfl, trivial⟩) (qt_loadS rfl rfl tys_impl_Pt rfl (rdRowS (k := 0) (vs := [.int .i64 s0.a.1, .int .i64 s0.a.2]) [] [.int .i64 s0.b.1, .int .i64 s0.b.2, .int .i64 s0.c.1, .int .i64 s0.c.2] quS_len rfl hs0 rfl rfl)) ?_
   refine dg_qg (i := 11) rfl (by kernel_rfl) (by kernel_rfl) (by kernel_rfl) [] (by kernel_rfl) (fun _ _ _ h => h) rfl rfl rfl rfl rfl (by decide) (fun _ h => h.upto ⟨rfl, trivial⟩) (qt_fieldAddr rfl rfl tyf_impl_Outline_0) ?_
   refine dg_qg (i := 12) rfl (by kernel_rfl) (by kernel_rfl) (by kernel_rfl) [] (by kernel_rfl) (fun _ _ _ h => h) rfl rfl rfl rfl rfl (by decide) (fun _ h => h.upto ⟨rfl, trivial⟩) (qt_load1 rfl rfl ty1_sl_impl_Loop (rdOld0 hC5 hB5)) ?_
   refine dg_qg (i := 13) rfl (by kernel_rfl) (by kernel_rfl) (by kernel_rfl) [] (by kernel_rfl) (fun _ _ _ h => h) rfl rfl rfl rfl rfl (by decide) (fun _ h => h.upto ⟨rfl, trivial⟩) (qt_move rfl rfl) ?_
   refine dg_qg (i := 14) rfl (by kernel_rfl) (by kernel_rfl) (by kernel_rfl) [] (by kernel_rfl) (fun _ _ _ h => h) rfl rfl rfl rfl rfl (by decide) (fun _ h => h.upto ⟨rfl, trivial⟩) (qt_index rfl rfl rfl tyl_sl_impl_Loop (by omega)) ?_
   refine dg_qg (i := 15) rfl (by kernel_rfl) (by kernel_rfl) (by kernel_rfl) [] (by kernel_rfl) (fun _ _ _ h => h) rfl rfl rfl rfl rfl (by decide) (fun _ h => h.upto ⟨rfl, trivial⟩) (qt_fieldAddr rfl rfl tyf_impl_Loop_0) ?_
   refine dg_qg (i := 16) rfl (by kernel_rfl) (by kernel_rfl) (by kernel_rfl) [] (by kernel_rfl) (fun _ _ _ h => h) rfl rfl rfl rfl rfl (by decide) (fun _ h => h.upto ⟨rfl, trivial⟩) (qt_load1 rfl rfl ty1_sl_impl_Knot (rdOldF hcell hbB)) ?_
   refine dg_qg (i := 17) rfl (by kernel_rfl) (by kernel_rfl) (by kernel_rfl) [] (by kernel_rfl) (fun _ _ _ h => h) rfl rfl rfl rfl rfl (by decide) (fun _ h => h.upto ⟨rfl, trivial⟩) (qt_index (j := 0) rfl rfl rfl tyl_sl_impl_Knot (by omega)) ?_
   refine dg_qg (i := 18) rfl (by kernel_rfl) (by kernel_rfl) (by kernel_rfl) [] (by kernel_rfl) (fun _ _ _ h => h) rfl rfl rfl rfl rfl (by decide) (fun _ h => h.upto ⟨rfl, trivial⟩) (qt_fieldAddr rfl rfl tyf_impl_Knot_0) ?_
   refine dg_qg (i := 19) rfl (by kernel_rfl) (by kernel_rfl) (by kernel_rfl) [] (by kernel_rfl) (fun _ _ _ h => h) rfl rfl rfl rfl rfl (by decide) (fun _ h => h.upto ⟨rfl, trivial⟩) (qt_loadS rfl rfl tys_impl_Pt rfl (rdKnA hkns (k := 0) hok.pos rfl)) ?_
   refine dg_qg (i := 20) rfl (by kernel_rfl) (by kernel_rfl) (by kernel_rfl) [] (by kernel_rfl) (fun _ _ _ h => h) rfl rfl rfl rfl rfl (by decide) (fun _ h => h.upto ⟨rfl, trivial⟩) (qt_neqS_impl_Pt rfl rfl rfl) ?_
   refine dg_q (i := 21) rfl (by kernel_rfl) (by kernel_rfl) (by kernel_rfl) [] (by kernel_rfl) (fun _ _ _ h => h) rfl rfl (by decide) (fun _ h => h.upto ⟨rfl, trivial⟩) (qt_pickF rfl rfl rfl) ?_
   refine dg_q (i := 22) rfl (by kernel_rfl) (by kernel_rfl) (by kernel_rfl) [] (by kernel_rfl) (fun _ _ _ h => h) rfl rfl (by decide) (fun _ h => h.upto ⟨rfl, trivial⟩) (qt_move rfl rfl) ?_
   refine at_as 112 (.bool false) rfl (by rw [ptNo e0]) ?_
   refine dg_qg (i := 23) rfl (by kernel_rfl) (by kernel_rfl) (by kernel_rfl) [] (by kernel_rfl) (fun _ _ _ h => h) rfl rfl rfl rfl rfl (by decide) (fun _ h => h.upto ⟨rfl, trivial⟩) (qt_move rfl rfl) ?_
   refine dg_qg (i := 24) rfl (by kernel_rfl) (by kernel_rfl) (by kernel_rfl) [] (by kernel_rfl) (fun _ _ _ h => h) rfl rfl rfl rfl rfl (by decide) (fun _ h => h.upto ⟨rfl, trivial⟩) (qt_move rfl rfl) ?_
   refine dg_qg (i := 25) rfl (by kernel_rfl) (by kernel_rfl) (by kernel_rfl) [] (by kernel_rfl) (fun _ _ _ h => h) rfl rfl rfl rfl rfl (by decide) (fun _ h => h.upto ⟨rfl, trivial⟩) ((qt_sub rfl rfl rfl (by omega) (by omega)).as (congrArg _ (show ((sgs (lp ls k)).length : Int) - 1 = (((sgs (lp ls k)).length - 1 : Nat) : Int) by omega))) ?_
   refine dg_qg (i := 26) rfl (by kernel_rfl) (by kernel_rfl) (by kernel_rfl) [] (by kernel_rfl) (fun _ _ _ h => h) rfl rfl rfl rfl rfl (by decide) (fun _ h => h.upto ⟨rfl, trivial⟩) (qt_indexR (k := 0) (j := (sgs (lp ls k)).length - 1) rfl rfl rfl rfl tyl_sl_impl_Quad (by omega)) ?_
   refine dg_qg (i := 27) rfl (by kernel_rfl) (by kernel_rfl) (by kernel_rfl) [] (by kernel_rfl) (fun _ _ _ h => h) rfl rfl rfl rfl rfl (by decide) (fun _ h => h.upto ⟨rfl, trivial⟩) (qt_fieldAddr rfl rfl tyf_impl_Quad_2) ?_
   refine dg_qg (i := 28) rfl (by kernel_rfl) (by kernel_rfl) (by kernel_rfl) [] (by kernel_rfl) (fun _ _ _ h => h) rfl rfl rfl rfl rfl (by decide) (fun _ h => h.upto ⟨rfl, trivial⟩) (qt_loadS rfl rfl tys_impl_Pt rfl (rdRowS (k := 0) (vs := [.int .i64 s9.c.1, .int .i64 s9.c.2]) [.int .i64 s9.a.1, .int .i64 s9.a.2, .int .i64 s9.b.1, .int .i64 s9.b.2] [] quS_len rfl hs9 rfl rfl)) ?_
   refine dg_qg (i := 29) rfl (by kernel_rfl) (by kernel_rfl) (by kernel_rfl) [] (by kernel_rfl) (fun _ _ _ h => h) rfl rfl rfl rfl rfl (by decide) (fun _ h => h.upto ⟨rfl, trivial⟩) (qt_move rfl rfl) ?_
   refine dg_qg (i := 30) rfl (by kernel_rfl) (by kernel_rfl) (by kernel_rfl) [] (by kernel_rfl) (fun _ _ _ h => h) rfl rfl rfl rfl rfl (by decide) (fun _ h => h.upto ⟨rfl, trivial⟩) (qt_indexR (k := 0) (j := 0) rfl rfl rfl rfl tyl_sl_impl_Quad (by omega)) ?_
   refine dg_qg (i := 31) rfl (by kernel_rfl) (by kernel_rfl) (by kernel_rfl) [] (by kernel_rfl) (fun _ _ _ h => h) rfl rfl rfl rfl rfl (by decide) (fun _ h => h.upto ⟨rfl, trivial⟩) (qt_fieldAddr rfl rfl tyf_impl_Quad_0) ?_
   refine dg_qg (i := 32) rfl (by kernel_rfl) (by kernel_rfl) (by kernel_rfl) [] (by kernel_rfl) (fun _ _ _ h => h) rfl rfl rfl rfl rfl (by decide) (fun _ h => h.upto ⟨rfl, trivial⟩) (qt_loadS rfl rfl tys_impl_Pt rfl (rdRowS (k := 0) (vs := [.int .i64 s0.a.1, .int .i64 s0.a.2]) [] [.int .i64 s0.b.1, .int .i64 s0.b.2, .int .i64 s0.c.1, .int .i64 s0.c.2] quS_len rfl hs0 rfl rfl)) ?_
   refine dg_qg (i := 33) rfl (by kernel_rfl) (by kernel_rfl) (by kernel_rfl) [] (by kernel_rfl) (fun _ _ _ h => h) rfl rfl rfl rfl rfl (by decide) (fun _ h => h.upto ⟨rfl, trivial⟩) (qt_neqS_impl_Pt rfl rfl rfl) ?_
   refine dg_q (i := 34) rfl (by kernel_rfl) (by kernel_rfl) (by kernel_rfl) [] (by kernel_rfl) (fun _ _ _ h => h) rfl rfl (by decide) (fun _ h => h.upto ⟨rfl, trivial⟩) (qt_pickF rfl rfl rfl) ?_
   refine dg_done (by kernel_rfl) ?_
   refine norm_then ?_
   refine at_no rfl (ptNo (e9.trans e0.symm)) ?_
   refine at_skip ?_
   refine norm_then ?_
   refine at_seq ?_
   refine at_region ?_
   refine at_q rfl rfl (by decide) (qt_assign rfl rfl) ?_
   refine at_end ?_
   refine at_block ?_
   refine at_loopk (X := Nat) (fun j => 1 ≤ j ∧ j ≤ (sgs (lp ls k)).length) (fun j => (sgs (lp ls k)).length - j) (fun j => [(17, .int .i64 (j : Int))]) (C := [(4, _), (5, _), (6, _), (7, _), (13, _), (72, _), (73, _), (74, _), (75, _), (76, _), (80, _), (81, _), (82, _), (83, _), (84, _), (85, _), (79, _), (86, _), (87, _), (14, _), (15, _), (88, _), (89, _), (16, _), (90, _), (91, _), (92, _), (93, _), (94, _), (95, _), (96, _), (97, _), (98, _), (99, _), (100, _), (101, _), (102, _), (103, _), (104, _), (105, _), (106, _), (107, _), (108, _), (109, _), (110, _), (111, _), (112, _), (113, _), (114, _), (115, _), (116, _), (117, _), (118, _), (119, _), (120, _), (121, _), (122, _), (123, _), (124, _)]) ⟨rfl, rfl, rfl, rfl, rfl, rfl, rfl, rfl, rfl, rfl, rfl, rfl, rfl, rfl, rfl, rfl, rfl, rfl, rfl, rfl, rfl, rfl, rfl, rfl, rfl, rfl, rfl, rfl, rfl, rfl, rfl, rfl, rfl, rfl, rfl, rfl, rfl, rfl, rfl, rfl, rfl, rfl, rfl, rfl, rfl, rfl, rfl, rfl, rfl, rfl, rfl, rfl, rfl, rfl, rfl, rfl, rfl, rfl, rfl, trivial⟩ 1 (⟨Nat.le_refl _, hps⟩) ⟨rfl, rfl, rfl, rfl, rfl, rfl, rfl, rfl, rfl, rfl, rfl, rfl, rfl, rfl, rfl, rfl, rfl, rfl, rfl, rfl, rfl, rfl, rfl, rfl, rfl, rfl, rfl, rfl, rfl, rfl, rfl, rfl, rfl, rfl, rfl, rfl, rfl, rfl, rfl, rfl, rfl, rfl, rfl, rfl, rfl, rfl, rfl, rfl, rfl, rfl, rfl, rfl, rfl, rfl, rfl, rfl, rfl, rfl, rfl, rfl, trivial⟩ ?_
   intro j hj L hL2
   refine at_envE (by simp only [ya,yb]; rfl) ?_
   refine at_seq ?_
   refine at_seq ?_
   refine at_region ?_
   refine at_q rfl rfl (by decide) (qt_move rfl rfl) ?_
   refine at_q rfl rfl (by decide) (qt_move rfl rfl) ?_
   refine at_q rfl rfl (by decide) (qt_lss rfl rfl rfl) ?_
   refine at_end ?_
   refine at_cond rfl (fun c3 => ?_) (fun c3 => ?_)
   ·try simp only [za,zb,zc,zd,ze,zf,Bool.not_true,Bool.not_false,zg,zh,ne_eq,zi,zj] at c3
    have hjl : j < (sgs (lp ls k)).length := (by omega)
    obtain ⟨s1, hs1_⟩ : ∃ s1, (sgs (lp ls k))[j - 1]? = some s1 := ⟨_, List.getElem?_eq_getElem (by omega)⟩
    obtain ⟨s2, hs2_⟩ : ∃ s2, (sgs (lp ls k))[j]? = some s2 := ⟨_, List.getElem?_eq_getElem hjl⟩
    have e12 : s1.c = s2.a := by obtain ⟨z1, z2⟩ := List.getElem?_eq_some_iff.1 hs1_; obtain ⟨y1, y2⟩ := List.getElem?_eq_some_iff.1 hs2_; rw [← z2, ← y2]; obtain ⟨i, rfl⟩ : ∃ i, j = i + 1 := ⟨j - 1, by omega⟩; exact chn_mem hch y1
    refine at_skip ?_
    refine norm_then ?_
    refine at_seq ?_
    refine at_block ?_
    refine at_seq ?_
    refine dg_start mixed rfl ?_
    refine dg_phase 12 ?_
    refine dg_q (i := 0) rfl (by kernel_rfl) (by kernel_rfl) (by kernel_rfl) [] (by kernel_rfl) (fun _ _ _ h => h) rfl rfl (by decide) (fun _ h => h.upto ⟨rfl, trivial⟩) (qt_move rfl rfl) ?_
    refine dg_q (i := 1) rfl (by kernel_rfl) (by kernel_rfl) (by kernel_rfl) [] (by kernel_rfl) (fun _ _ _ h => h) rfl rfl (by decide) (fun _ h => h.upto ⟨rfl, trivial⟩) (qt_move rfl rfl) ?_
    refine dg_q (i := 2) rfl (by kernel_rfl) (by kernel_rfl) (by kernel_rfl) [] (by kernel_rfl) (fun _ _ _ h => h) rfl rfl (by decide) (fun _ h => h.upto ⟨rfl, trivial⟩) ((qt_sub rfl rfl rfl (by omega) (by omega)).as (congrArg _ (show (j : Int) - 1 = ((j - 1 : Nat) : Int) by omega))) ?_
    refine dg_q (i := 3) rfl (by kernel_rfl) (by kernel_rfl) (by kernel_rfl) [] (by kernel_rfl) (fun _ _ _ h => h) rfl rfl (by decide) (fun _ h => h.upto ⟨rfl, trivial⟩) (qt_indexR (k := 0) (j := j - 1) rfl rfl rfl rfl tyl_sl_impl_Quad (by omega)) ?_
    refine dg_q (i := 4) rfl (by kernel_rfl) (by kernel_rfl) (by kernel_rfl) [] (by kernel_rfl) (fun _ _ _ h => h) rfl rfl (by decide) (fun _ h => h.upto ⟨rfl, trivial⟩) (qt_fieldAddr rfl rfl tyf_impl_Quad_2) ?_
    refine dg_q (i := 5) rfl (by kernel_rfl) (by kernel_rfl) (by kernel_rfl) [] (by kernel_rfl) (fun _ _ _ h => h) rfl rfl (by decide) (fun _ h => h.upto ⟨rfl, trivial⟩) (qt_loadS rfl rfl tys_impl_Pt rfl (rdRowS (k := 0) (vs := [.int .i64 s1.c.1, .int .i64 s1.c.2]) [.int .i64 s1.a.1, .int .i64 s1.a.2, .int .i64 s1.b.1, .int .i64 s1.b.2] [] quS_len rfl hs1_ rfl rfl)) ?_
    refine dg_q (i := 6) rfl (by kernel_rfl) (by kernel_rfl) (by kernel_rfl) [] (by kernel_rfl) (fun _ _ _ h => h) rfl rfl (by decide) (fun _ h => h.upto ⟨rfl, trivial⟩) (qt_move rfl rfl) ?_
    refine dg_q (i := 7) rfl (by kernel_rfl) (by kernel_rfl) (by kernel_rfl) [] (by kernel_rfl) (fun _ _ _ h => h) rfl rfl (by decide) (fun _ h => h.upto ⟨rfl, trivial⟩) (qt_move rfl rfl) ?_
    refine dg_q (i := 8) rfl (by kernel_rfl) (by kernel_rfl) (by kernel_rfl) [] (by kernel_rfl) (fun _ _ _ h => h) rfl rfl (by decide) (fun _ h => h.upto ⟨rfl, trivial⟩) (qt_indexR (k := 0) (j := j) rfl rfl rfl rfl tyl_sl_impl_Quad (by omega)) ?_
    refine dg_q (i := 9) rfl (by kernel_rfl) (by kernel_rfl) (by kernel_rfl) [] (by kernel_rfl) (fun _ _ _ h => h) rfl rfl (by decide) (fun _ h => h.upto ⟨rfl, trivial⟩) (qt_fieldAddr rfl rfl tyf_impl_Quad_0) ?_
    refine dg_q (i := 10) rfl (by kernel_rfl) (by kernel_rfl) (by kernel_rfl) [] (by kernel_rfl) (fun _ _ _ h => h) rfl rfl (by decide) (fun _ h => h.upto ⟨rfl, trivial⟩) (qt_loadS rfl rfl tys_impl_Pt rfl (rdRowS (k := 0) (vs := [.int .i64 s2.a.1, .int .i64 s2.a.2]) [] [.int .i64 s2.b.1, .int .i64 s2.b.2, .int .i64 s2.c.1, .int .i64 s2.c.2] quS_len rfl hs2_ rfl rfl)) ?_
    refine dg_q (i := 11) rfl (by kernel_rfl) (by kernel_rfl) (by kernel_rfl) [] (by kernel_rfl) (fun _ _ _ h => h) rfl rfl (by decide) (fun _ h => h.upto ⟨rfl, trivial⟩) (qt_neqS_impl_Pt rfl rfl rfl) ?_
    refine dg_done (by kernel_rfl) ?_
    refine norm_then ?_
    refine at_no rfl (ptNo e12) ?_
    refine at_skip ?_
    refine norm_block ?_
    refine norm_then ?_
    refine at_region ?_
    refine at_q rfl rfl (by decide) (qt_move rfl rfl) ?_
    refine at_q rfl rfl (by decide) (qt_add rfl rfl rfl (by omega) (by omega)) ?_
    refine at_q rfl rfl (by decide) (qt_assign rfl rfl) ?_
    refine at_end ?_
    exact at_againk hL2 (j + 1) (⟨by omega, by omega⟩) (by omega) ⟨vi (by omega), rfl, rfl, rfl, rfl, rfl, rfl, rfl, rfl, rfl, rfl, rfl, rfl, rfl, rfl, rfl, rfl, rfl, rfl, rfl, rfl, rfl, rfl, rfl, rfl, rfl, rfl, rfl, rfl, rfl, rfl, rfl, rfl, rfl, rfl, rfl, rfl, rfl, rfl, rfl, rfl, rfl, rfl, rfl, rfl, rfl, rfl, rfl, rfl, rfl, rfl, rfl, rfl, rfl, rfl, rfl, rfl, rfl, rfl, rfl, trivial⟩ (fun _ h => h.upto ⟨rfl, trivial⟩)
   ·try simp only [za,zb,zc,zd,ze,zf,Bool.not_true,Bool.not_false,zg,zh,ne_eq,zi,zj] at c3
    refine at_exit ?_
    refine pass_then (fun h => by cases h) ?_
    refine pass_then (fun h => by cases h) ?_
    refine pass_hit ?_
    refine norm_block ?_
    refine norm_then ?_
    refine at_region ?_
    refine at_q rfl rfl (by decide) (qt_move rfl rfl) ?_
    refine at_q rfl rfl (by decide) (qt_add rfl rfl rfl (by omega) (by omega)) ?_
    refine at_q rfl rfl (by decide) (qt_assign rfl rfl) ?_
    refine at_end ?_
    exact at_againk hL1 (k + 1) (by omega) (by omega) ⟨vi (by omega), rfl, rfl, rfl, rfl, trivial⟩ (fun _ h => h.upto trivial)
  ·try simp only [za,zb,zc,zd,ze,zf,Bool.not_true,Bool.not_false,zg,zh,ne_eq,zi,zj] at c2
   refine at_exit ?_
   refine pass_then (fun h => by cases h) ?_
   refine pass_then (fun h => by cases h) ?_
   refine pass_hit ?_
   refine norm_then ?_
   refine at_seq ?_
   refine at_region ?_
   refine at_q rfl rfl (by decide) (qt_loadS rfl rfl tys_impl_Outline rfl (rdOldO hC5 hB5)) ?_
   refine at_q rfl rfl (by decide) (qt_move rfl rfl) ?_
   refine at_op rfl ?_
   refine op_call ok_impl_FlattenOutline (X := (Option Addr × Nat) × Nat × Nat) (v := fun x => .tuple #[regV x.1.1 (foR ls (1 + T)).length x.1.2, .int .i64 (foC ls (1 + T))]) (r := fun x => gegR (foR ls (1 + T)).length (foR ls (1 + T)) x.2.1 x.2.2 x.1.1) (H := fun _ => True) rfl rfl rfl (by decide) (fun w2 hs => gegCode (FlattenOutline_any _ _ ls (1 + T) w2 (hG.over hs.fin) (by omega))) ?_
   rintro ⟨⟨fA, fc⟩, flo, fhi⟩ -
   have hsm := (foR_small ls (1 + T)).total
   have hsm2 := (foR_small (revO ls) (1 + T)).total
   refine at_rsE (by simp only [ya,yb,yc,yd,Value.cells,ye]; rfl) ?_
   refine at_q rfl rfl (by decide) (qt_move rfl rfl) ?_
   refine at_q rfl rfl (by decide) (qt_extract rfl rfl rfl) ?_
   refine at_q rfl rfl (by decide) (qt_extract rfl rfl rfl) ?_
   refine at_op rfl ?_
   refine op_alloc rfl tyz_impl_Region rfl (by decide) (fun b5 => ?_)
   refine at_rsE (by simp only [ya,yb,yc,yd,Value.cells,ye]; rfl) ?_
   refine at_op rfl ?_
   refine op_storeAll' (k := 1) rfl rfl rfl rfl (rfl) (by rfl) tyz_impl_Region.szx rfl rfl rfl ?_
   refine at_rsE (by simp only [ya,yb,yc,yd,Value.cells,ye]; rfl) ?_
   refine at_q rfl rfl (by decide) (qt_assign rfl rfl) ?_
   refine at_end ?_
   refine at_seq ?_
   refine at_region ?_
   refine at_q rfl rfl (by decide) (qt_loadS rfl rfl tys_impl_Outline rfl (rdOldO hC7 hB7)) ?_
   refine at_q rfl rfl (by decide) (qt_move rfl rfl) ?_
   refine at_op rfl ?_
   refine op_call ok_impl_FlattenOutline (X := (Option Addr × Nat) × Nat × Nat) (v := fun x => .tuple #[regV x.1.1 (foR (revO ls) (1 + T)).length x.1.2, .int .i64 (foC ls (1 + T))]) (r := fun x => gegR (foR (revO ls) (1 + T)).length (foR (revO ls) (1 + T)) x.2.1 x.2.2 x.1.1) (H := fun _ => True) rfl rfl rfl (by decide) (fun w2 hs => foC_rev ls (1 + T) ▸ gegCode (FlattenOutline_any _ _ (revO ls) (1 + T) w2 (hG2.over hs.fin) (by omega))) ?_
   rintro ⟨⟨gA, gc⟩, glo, ghi⟩ -
   refine at_rsE (by simp only [ya,yb,yc,yd,Value.cells,ye]; rfl) ?_
   refine at_q rfl rfl (by decide) (qt_move rfl rfl) ?_
   refine at_q rfl rfl (by decide) (qt_extract rfl rfl rfl) ?_
   refine at_q rfl rfl (by decide) (qt_extract rfl rfl rfl) ?_
   refine at_op rfl ?_
   refine op_alloc rfl tyz_impl_Region rfl (by decide) (fun b6 => ?_)
   refine at_rsE (by simp only [ya,yb,yc,yd,Value.cells,ye]; rfl) ?_
   refine at_op rfl ?_
   refine op_storeAll' (k := 3) rfl rfl rfl rfl (rfl) (by rfl) tyz_impl_Region.szx rfl rfl rfl ?_
   refine at_rsE (by simp only [ya,yb,yc,yd,Value.cells,ye]; rfl) ?_
   refine at_q rfl rfl (by decide) (qt_assign rfl rfl) ?_
   refine at_end ?_
   refine at_seq ?_
   refine at_seq ?_
   refine at_region ?_
   refine at_q rfl rfl (by decide) (qt_move rfl rfl) ?_
   refine at_q rfl rfl (by decide) (qt_move rfl rfl) ?_
   refine at_q rfl rfl (by decide) (qt_neq rfl rfl rfl) ?_
   refine at_q rfl rfl (by decide) (qt_move rfl rfl) ?_
   refine at_as 157 (.bool false) rfl (by rw [neSelf _]) ?_
   refine at_on rfl rfl rfl rfl ?_
   refine op_q rfl (by decide) (qt_move rfl rfl) ?_
   refine at_on rfl rfl rfl rfl ?_
   refine op_q rfl (by decide) (qt_neq rfl rfl rfl) ?_
   refine at_q rfl rfl (by decide) (qt_pickF rfl rfl rfl) ?_
   refine at_end ?_
   refine at_cond rfl (fun c4 => ?_) (fun c4 => ?_)
   ·try simp only [za,zb,zc,zd,ze,zf,Bool.not_true,Bool.not_false,zg,zh,ne_eq,zi,zj] at c4
    refine at_seq ?_
    refine at_region ?_
    refine at_q rfl rfl (by decide) (qt_move rfl rfl) ?_
    refine at_q rfl rfl (by decide) (qt_move rfl rfl) ?_
    refine at_q rfl rfl (by decide) (qt_eql rfl rfl rfl) ?_
    refine at_q rfl rfl (by decide) (qt_assign rfl rfl) ?_
    refine at_end ?_
    refine at_retc ?_
    refine then_ret ?_
    refine at_ret1 rfl (.tmp rfl) ?_
    intro w' hs
    exact ⟨retB (by simp), hO.trans hs.fin⟩
   ·try simp only [za,zb,zc,zd,ze,zf,Bool.not_true,Bool.not_false,zg,zh,ne_eq,zi,zj] at c4
    have hc0 : foC ls (1 + T) = 0 := by simpa using c4
    obtain ⟨y1, y2, y3⟩ := fo_area hc0
    have z1 := sum_bd y1
    have z2 := sum_bd y2
    have a1 : atA (foR ls (1 + T)) = legSum (edgesAll (foR ls (1 + T))) := if_pos y1
    have a2 : atA (foR (revO ls) (1 + T)) = legSum (edgesAll (foR (revO ls) (1 + T))) := if_pos y2
    refine at_skip ?_
    refine norm_then ?_
    refine at_seq ?_
    refine at_region ?_
    refine at_q rfl rfl (by decide) (qt_loadS rfl rfl tys_impl_Region rfl (rdAll (k := 1) rfl)) ?_
    refine at_q rfl rfl (by decide) (qt_call ok_spec_AreaTwice rfl rfl (fun w2 hs => specAreaTwice_any _ _ _ (foR ls (1 + T)) w2 (gegRings (k := 0) rfl w2 hs) (by omega))) ?_
    refine at_q rfl rfl (by decide) (qt_move rfl rfl) ?_
    refine at_q rfl rfl (by decide) (qt_extract rfl rfl rfl) ?_
    refine at_q rfl rfl (by decide) (qt_extract rfl rfl rfl) ?_
    refine at_q rfl rfl (by decide) (qt_assign rfl rfl) ?_
    refine at_q rfl rfl (by decide) (qt_assign rfl rfl) ?_
    refine at_end ?_
    refine at_seq ?_
    refine at_region ?_
    refine at_q rfl rfl (by decide) (qt_loadS rfl rfl tys_impl_Region rfl (rdAll (k := 3) rfl)) ?_
    refine at_q rfl rfl (by decide) (qt_call ok_spec_AreaTwice rfl rfl (fun w2 hs => specAreaTwice_any _ _ _ (foR (revO ls) (1 + T)) w2 (gegRings (k := 2) rfl w2 hs) (by omega))) ?_
    refine at_q rfl rfl (by decide) (qt_move rfl rfl) ?_
    refine at_q rfl rfl (by decide) (qt_extract rfl rfl rfl) ?_
    refine at_q rfl rfl (by decide) (qt_extract rfl rfl rfl) ?_
    refine at_q rfl rfl (by decide) (qt_assign rfl rfl) ?_
    refine at_q rfl rfl (by decide) (qt_assign rfl rfl) ?_
    refine at_end ?_
    refine at_seq ?_
    refine at_region ?_
    refine at_q rfl rfl (by decide) (qt_loadS rfl rfl tys_impl_Region rfl (rdAll (k := 1) rfl)) ?_
    refine at_q rfl rfl (by decide) (qt_call ok_spec_ValidRegion rfl rfl (fun w2 hs => specValidRegion_any _ _ _ (foR ls (1 + T)) w2 (gegRings (k := 0) rfl w2 hs) (by omega))) ?_
    refine at_q rfl rfl (by decide) (qt_move rfl rfl) ?_
    refine at_as 176 (.bool true) rfl (by rw [y1]) ?_
    refine at_on rfl rfl rfl rfl ?_
    refine op_q rfl (by decide) (qt_loadS rfl rfl tys_impl_Region rfl (rdAll (k := 3) rfl)) ?_
    refine at_on rfl rfl rfl rfl ?_
    refine op_q rfl (by decide) (qt_call ok_spec_ValidRegion rfl rfl (fun w2 hs => specValidRegion_any _ _ _ (foR (revO ls) (1 + T)) w2 (gegRings (k := 2) rfl w2 hs) (by omega))) ?_
    refine at_q rfl rfl (by decide) (qt_pickT rfl rfl rfl) ?_
    refine at_q rfl rfl (by decide) (qt_move rfl rfl) ?_
    refine at_as 180 (.bool true) rfl (by rw [y2]) ?_
    refine at_on rfl rfl rfl rfl ?_
    refine op_q rfl (by decide) (qt_move rfl rfl) ?_
    refine at_on rfl rfl rfl rfl ?_
    refine op_q rfl (by decide) (qt_move rfl rfl) ?_
    refine at_on rfl rfl rfl rfl ?_
    refine op_q rfl (by decide) (qt_neg rfl rfl (by omega) (by omega)) ?_
    refine at_on rfl rfl rfl rfl ?_
    refine op_q rfl (by decide) (qt_eql rfl rfl rfl) ?_
    refine at_q rfl rfl (by decide) (qt_pickT rfl rfl rfl) ?_
    refine at_q rfl rfl (by decide) (qt_assign rfl rfl) ?_
    refine at_end ?_
    refine at_retc ?_
    refine at_ret1 rfl (.tmp rfl) ?_
    intro w' hs
    exact ⟨retB (by rw [a1, a2, y3]; simp), hO.trans hs.fin⟩
end Go.Proofs.YtjhaakollekjeaaDoor
