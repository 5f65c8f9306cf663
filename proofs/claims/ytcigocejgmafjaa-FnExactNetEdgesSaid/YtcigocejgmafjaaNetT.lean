/- Net edges: the reference's sides; both walks of NetEdges. -/
import Derived.Test.YtcigocejgmafjaaNetS
namespace Go.Proofs.Ytcigocejgmafjaa
open Go Go.RowKit
set_option linter.unusedVariables false
set_option linter.unusedSimpArgs false
set_option maxRecDepth 100000
set_option maxHeartbeats 4000000
set_option linter.unusedVariables false
set_option linter.unusedSimpArgs false

theorem sum_w (p q : Pn) (w : World) (hp : bd2 p) (hq : bd2 q) : Calls Try.prog 55 #[pV p, pV q] w fun e w' => e = .returned (pV (p.1 + q.1, p.2 + q.2)) ∧ Over w w' := by
 obtain ⟨⟨a1, a2⟩, a3, a4⟩ := hp; obtain ⟨⟨b1, b2⟩, b3, b4⟩ := hq
 refine walk_from (m := 16) (Try.func55) rfl rfl (Nat.le_of_ble_eq_true rfl) ?_
 refine at_seq ?_
 refine at_region ?_
 refine at_op rfl ?_
 refine op_box rfl rfl (rfl) rfl (by decide) (fun b1 => ?_)
 refine at_rsE (by simp only [ya,yb,yc,yd,Value.cells,ye]; rfl) ?_
 refine at_op rfl ?_
 refine op_box rfl rfl (rfl) rfl (by decide) (fun b2 => ?_)
 refine at_rsE (by simp only [ya,yb,yc,yd,Value.cells,ye]; rfl) ?_
 refine at_op rfl ?_
 refine op_alloc rfl tyz_impl_Pt rfl (by decide) (fun b3 => ?_)
 refine at_rsE (by simp only [ya,yb,yc,yd,Value.cells,ye]; rfl) ?_
 refine at_end ?_
 refine at_seq ?_
 refine at_region ?_
 refine at_q rfl rfl (by decide) (qt_fieldAddr rfl rfl tyf_impl_Pt_0) ?_
 refine at_q rfl rfl (by decide) (qt_load1 rfl rfl ty1_int64 (rd1 (k := 0) rfl rfl)) ?_
 refine at_q rfl rfl (by decide) (qt_fieldAddr rfl rfl tyf_impl_Pt_0) ?_
 refine at_q rfl rfl (by decide) (qt_load1 rfl rfl ty1_int64 (rd1 (k := 1) rfl rfl)) ?_
 refine at_q rfl rfl (by decide) (qt_add rfl rfl rfl (by omega) (by omega)) ?_
 refine at_q rfl rfl (by decide) (qt_fieldAddr rfl rfl tyf_impl_Pt_1) ?_
 refine at_q rfl rfl (by decide) (qt_load1 rfl rfl ty1_int64 (rd1 (k := 0) rfl rfl)) ?_
 refine at_q rfl rfl (by decide) (qt_fieldAddr rfl rfl tyf_impl_Pt_1) ?_
 refine at_q rfl rfl (by decide) (qt_load1 rfl rfl ty1_int64 (rd1 (k := 1) rfl rfl)) ?_
 refine at_q rfl rfl (by decide) (qt_add rfl rfl rfl (by omega) (by omega)) ?_
 refine at_q rfl rfl (by decide) (qt_build rfl rfl (bld_impl_Pt_0_1 rfl rfl)) ?_
 refine at_op rfl ?_
 refine op_storeAll' (k := 2) rfl rfl rfl rfl (rfl) (by rfl) tyz_impl_Pt.szx rfl rfl rfl ?_
 refine at_rsE (by simp only [ya,yb,yc,yd,Value.cells,ye]; rfl) ?_
 refine at_end ?_
 refine at_retc ?_
 refine at_ret1 rfl (rvCelS (k := 2) rfl tys_impl_Pt rfl rfl) ?_
 intro w' hs
 exact ⟨rfl, hs.fin⟩
theorem twice_w (p : Pn) (w : World) (hp : bd2 p) : Calls Try.prog 57 #[pV p, .int .i64 2] w fun e w' => e = .returned (pV (2 * p.1, 2 * p.2)) ∧ Over w w' := by
 obtain ⟨⟨a1, a2⟩, a3, a4⟩ := hp
 refine walk_from (m := 14) (Try.func57) rfl rfl (Nat.le_of_ble_eq_true rfl) ?_
 refine at_seq ?_
 refine at_region ?_
 refine at_op rfl ?_
 refine op_box rfl rfl (rfl) rfl (by decide) (fun b1 => ?_)
 refine at_rsE (by simp only [ya,yb,yc,yd,Value.cells,ye]; rfl) ?_
 refine at_op rfl ?_
 refine op_alloc rfl tyz_impl_Pt rfl (by decide) (fun b2 => ?_)
 refine at_rsE (by simp only [ya,yb,yc,yd,Value.cells,ye]; rfl) ?_
 refine at_end ?_
 refine at_seq ?_
 refine at_region ?_
 refine at_q rfl rfl (by decide) (qt_fieldAddr rfl rfl tyf_impl_Pt_0) ?_
 refine at_q rfl rfl (by decide) (qt_load1 rfl rfl ty1_int64 (rd1 (k := 0) rfl rfl)) ?_
 refine at_q rfl rfl (by decide) (qt_move rfl rfl) ?_
 refine at_q rfl rfl (by decide) (qt_mul rfl rfl rfl (by omega) (by omega)) ?_
 refine at_q rfl rfl (by decide) (qt_fieldAddr rfl rfl tyf_impl_Pt_1) ?_
 refine at_q rfl rfl (by decide) (qt_load1 rfl rfl ty1_int64 (rd1 (k := 0) rfl rfl)) ?_
 refine at_q rfl rfl (by decide) (qt_move rfl rfl) ?_
 refine at_q rfl rfl (by decide) (qt_mul rfl rfl rfl (by omega) (by omega)) ?_
 refine at_q rfl rfl (by decide) (qt_build rfl rfl (bld_impl_Pt_0_1 rfl rfl)) ?_
 refine at_op rfl ?_
 refine op_storeAll' (k := 1) rfl rfl rfl rfl (rfl) (by rfl) tyz_impl_Pt.szx rfl rfl rfl ?_
 refine at_rsE (by simp only [ya,yb,yc,yd,Value.cells,ye]; rfl) ?_
 refine at_end ?_
 refine at_retc ?_
 refine at_ret1 rfl (rvCelS (k := 1) rfl tys_impl_Pt rfl rfl) ?_
 intro w' hs
 exact ⟨by rw [Int.mul_comm p.1, Int.mul_comm p.2], hs.fin⟩
theorem rot_w (p : Pn) (w : World) (hp : bdM p.1 ∧ bdM p.2) : Calls Try.prog 56 #[pV p] w fun e w' => e = .returned (pV (-p.2, p.1)) ∧ Over w w' := by
 obtain ⟨⟨a1, a2⟩, a3, a4⟩ := hp
 refine walk_from (m := 9) (Try.func56) rfl rfl (Nat.le_of_ble_eq_true rfl) ?_
 refine at_seq ?_
 refine at_region ?_
 refine at_op rfl ?_
 refine op_box rfl rfl (rfl) rfl (by decide) (fun b1 => ?_)
 refine at_rsE (by simp only [ya,yb,yc,yd,Value.cells,ye]; rfl) ?_
 refine at_op rfl ?_
 refine op_alloc rfl tyz_impl_Pt rfl (by decide) (fun b2 => ?_)
 refine at_rsE (by simp only [ya,yb,yc,yd,Value.cells,ye]; rfl) ?_
 refine at_end ?_
 refine at_seq ?_
 refine at_region ?_
 refine at_q rfl rfl (by decide) (qt_fieldAddr rfl rfl tyf_impl_Pt_1) ?_
 refine at_q rfl rfl (by decide) (qt_load1 rfl rfl ty1_int64 (rd1 (k := 0) rfl rfl)) ?_
 refine at_q rfl rfl (by decide) (qt_neg rfl rfl (by omega) (by omega)) ?_
 refine at_q rfl rfl (by decide) (qt_fieldAddr rfl rfl tyf_impl_Pt_0) ?_
 refine at_q rfl rfl (by decide) (qt_load1 rfl rfl ty1_int64 (rd1 (k := 0) rfl rfl)) ?_
 refine at_q rfl rfl (by decide) (qt_build rfl rfl (bld_impl_Pt_0_1 rfl rfl)) ?_
 refine at_op rfl ?_
 refine op_storeAll' (k := 1) rfl rfl rfl rfl (rfl) (by rfl) tyz_impl_Pt.szx rfl rfl rfl ?_
 refine at_rsE (by simp only [ya,yb,yc,yd,Value.cells,ye]; rfl) ?_
 refine at_end ?_
 refine at_retc ?_
 refine at_ret1 rfl (rvCelS (k := 1) rfl tys_impl_Pt rfl rfl) ?_
 intro w' hs
 exact ⟨rfl, hs.fin⟩
/-- The middle, and an edge, as the reference turns them. -/
def mdR (p : Leg) : Pn := if p.ay = p.b_y then (-(midY p), midX p) else (midX p, midY p)
def lgR (p q : Leg) : Leg := if p.ay = p.b_y then rotL (dblL true q) else dblL true q
theorem besG_R (p q : Leg) : besG p q = wStep (lgR p q) (mdR p).1 (mdR p).2 := by
 unfold besG lgR mdR
 split <;> rfl
theorem mdR_bd {p : Leg} (h : legOk p) : bdM (mdR p).1 ∧ bdM (mdR p).2 := by
 obtain ⟨⟨a1, a2⟩, ⟨a3, a4⟩, ⟨b1, b2⟩, b3, b4⟩ := h
 unfold mdR midX midY
 split
 ·refine ⟨⟨?_, ?_⟩, ?_, ?_⟩ <;> (simp only; omega)
 ·refine ⟨⟨?_, ?_⟩, ?_, ?_⟩ <;> (simp only; omega)
theorem lgR_bd {p q : Leg} (h : legOk q) : bdM (lgR p q).ax ∧ bdM (lgR p q).ay ∧ bdM (lgR p q).bx ∧ bdM (lgR p q).b_y := by
 obtain ⟨h1, h2, h3, h4⟩ := dblL_bd true h
 unfold lgR rotL bdM at *
 split
 ·simp only; omega
 ·exact ⟨h1, h2, h3, h4⟩
theorem legB2 {l : Leg} (h : legOk l) : bd2 (lA l) ∧ bd2 (lB l) := ⟨⟨h.1, h.2.1⟩, h.2.2.1, h.2.2.2⟩
theorem bes_same {s : Bool} {l : List Nt} {k : Nat} : besTo s l k (k + 1) = besTo s l k k := by simp [besTo]
theorem bes_up {s : Bool} {l : List Nt} {k i : Nat} (h : i ≠ k) (hu : wUp (lgR (nt l k).e (nt l i).e) (mdR (nt l k).e).1 (mdR (nt l k).e).2 = true) : besTo s l k i + cntN s (nt l i) = besTo s l k (i + 1) := by
 rw [besTo, if_neg h, besG_R, wStep, if_pos hu, Int.mul_one]
theorem bes_down {s : Bool} {l : List Nt} {k i : Nat} (h : i ≠ k) (hu : wUp (lgR (nt l k).e (nt l i).e) (mdR (nt l k).e).1 (mdR (nt l k).e).2 = false) (hd : wDown (lgR (nt l k).e (nt l i).e) (mdR (nt l k).e).1 (mdR (nt l k).e).2 = true) : besTo s l k i - cntN s (nt l i) = besTo s l k (i + 1) := by
 rw [besTo, if_neg h, besG_R, wStep, hu, if_neg (by simp), if_pos hd, Int.mul_neg, Int.mul_one]
 omega
theorem bes_stay {s : Bool} {l : List Nt} {k i : Nat} (h : i ≠ k) (hu : wUp (lgR (nt l k).e (nt l i).e) (mdR (nt l k).e).1 (mdR (nt l k).e).2 = false) (hd : wDown (lgR (nt l k).e (nt l i).e) (mdR (nt l k).e).1 (mdR (nt l k).e).2 = false) : besTo s l k i = besTo s l k (i + 1) := by
 rw [besTo, if_neg h, besG_R, wStep, hu, if_neg (by simp), hd, if_neg (by simp), Int.mul_zero, Int.add_zero]
theorem l14Beside_any (l : List Nt) (x : Option Addr × Nat) (k : Nat) (w : World) (hr : (ntR l x).P w) (hk : k < l.length) (hok : ∀ y ∈ l, legOk y.e) (hl : l.length ≤ 16384) (ha : ∀ t, aS t l ≤ 16384) :
  Calls Try.prog 34 #[.slice x.1 l.length x.2, .int .i64 (k : Int)] w fun e w' => e = .returned (.tuple #[.int .i64 (besTo false l k l.length), .int .i64 (besTo true l k l.length)]) ∧ Over w w' := by
 have hpo := hok _ (nt_mem hk)
 obtain ⟨m1, m2⟩ := mdR_bd hpo
 obtain ⟨⟨a1, a2⟩, ⟨a3, a4⟩, ⟨b1', b2'⟩, b3', b4'⟩ := id hpo
 obtain ⟨hp1, hp2⟩ := legB2 hpo
 obtain ⟨p, hp⟩ : ∃ p, p = (nt l k).e := ⟨_, rfl⟩
 refine walk_from (m := 132) (Try.func34) rfl rfl (Nat.le_of_ble_eq_true rfl) ?_
 refine at_seq ?_
 refine at_region ?_
 refine at_q rfl rfl (by decide) (qt_assign rfl rfl) ?_
 refine at_q rfl rfl (by decide) (qt_assign rfl rfl) ?_
 refine at_end ?_
 refine at_seq ?_
 refine at_region ?_
 refine at_q rfl rfl (by decide) (qt_move rfl rfl) ?_
 refine at_q rfl rfl (by decide) (qt_move rfl rfl) ?_
 refine at_q rfl rfl (by decide) (qt_indexW (j := k) (fun w hs => rowOver hr hs.fin) rfl rfl rfl tyl_sl_spec_l14Net hk) ?_
 refine at_q rfl rfl (by decide) (qt_fieldAddr rfl rfl tyf_spec_l14Net_0) ?_
 refine at_q rfl rfl (by decide) (qt_loadS rfl rfl tys_spec_l13Edge rfl (rdNtS [.int .i64 (nt l k).e.ax, .int .i64 (nt l k).e.ay, .int .i64 (nt l k).e.bx, .int .i64 (nt l k).e.b_y] 0 (fun w hs => rowOver hr hs.fin) hk (by omega) (four_of rfl rfl rfl rfl))) ?_
 refine at_op rfl ?_
 refine op_alloc rfl tyz_spec_l13Edge rfl (by decide) (fun b1 => ?_)
 refine at_rsE (by simp only [ya,yb,yc,yd,Value.cells,ye]; rfl) ?_
 refine at_op rfl ?_
 refine op_storeAll' (k := 0) rfl rfl rfl rfl (rfl) (by rfl) tyz_spec_l13Edge.szx rfl rfl rfl ?_
 refine at_rsE (by simp only [ya,yb,yc,yd,Value.cells,ye]; rfl) ?_
 refine at_end ?_
 refine at_seq ?_
 refine at_region ?_
 refine at_q rfl rfl (by decide) (qt_fieldAddr rfl rfl tyf_spec_l13Edge_0) ?_
 refine at_q rfl rfl (by decide) (qt_fieldAddr rfl rfl tyf_impl_Pt_1) ?_
 refine at_q rfl rfl (by decide) (qt_load1 rfl rfl ty1_int64 (rd1 (k := 0) rfl rfl)) ?_
 refine at_q rfl rfl (by decide) (qt_fieldAddr rfl rfl tyf_spec_l13Edge_1) ?_
 refine at_q rfl rfl (by decide) (qt_fieldAddr rfl rfl tyf_impl_Pt_1) ?_
 refine at_q rfl rfl (by decide) (qt_load1 rfl rfl ty1_int64 (rd1 (k := 0) rfl rfl)) ?_
 refine at_q rfl rfl (by decide) (qt_eql rfl rfl rfl) ?_
 refine at_q rfl rfl (by decide) (qt_assign rfl rfl) ?_
 refine at_end ?_
 refine at_seq ?_
 refine at_region ?_
 refine at_q rfl rfl (by decide) (qt_fieldAddr rfl rfl tyf_spec_l13Edge_0) ?_
 refine at_q rfl rfl (by decide) (qt_loadS rfl rfl tys_impl_Pt rfl (rd2 (k := 0) rfl rfl rfl)) ?_
 refine at_q rfl rfl (by decide) (qt_fieldAddr rfl rfl tyf_spec_l13Edge_1) ?_
 refine at_q rfl rfl (by decide) (qt_loadS rfl rfl tys_impl_Pt rfl (rd2 (k := 0) rfl rfl rfl)) ?_
 refine at_q rfl rfl (by decide) (qt_call ok_spec_l09Sum rfl rfl (fun w1 hs => sum_w (lA (nt l k).e) (lB (nt l k).e) w1 hp1 hp2)) ?_
 refine at_op rfl ?_
 refine op_alloc rfl tyz_impl_Pt rfl (by decide) (fun b2 => ?_)
 refine at_rsE (by simp only [ya,yb,yc,yd,Value.cells,ye]; rfl) ?_
 refine at_op rfl ?_
 refine op_storeAll' (k := 1) rfl rfl rfl rfl (rfl) (by rfl) tyz_impl_Pt.szx rfl rfl rfl ?_
 refine at_rsE (by simp only [ya,yb,yc,yd,Value.cells,ye]; rfl) ?_
 refine at_end ?_
 refine at_cut [] (C := [(0, _), (1, _), (4, _), (5, _), (7, _), (8, _)]) ([.cel b1 51 [.int .i64 (nt l k).e.ax, .int .i64 (nt l k).e.ay, .int .i64 (nt l k).e.bx, .int .i64 (nt l k).e.b_y], .cel b2 49 [.int .i64 (mdR (nt l k).e).1, .int .i64 (mdR (nt l k).e).2]]) ⟨rfl, rfl, rfl, rfl, rfl, rfl, trivial⟩ (fun L hC_cutif_t31 => ?_) ?_
 ·refine at_seq ?_
  refine at_region ?_
  refine at_q rfl rfl (by decide) (qt_move rfl rfl) ?_
  refine at_end ?_
  refine at_cond rfl (fun c1 => ?_) (fun c1 => ?_)
  ·try simp only [za,zb,zc,zd,ze,zf,Bool.not_true,Bool.not_false,zg,zh,ne_eq,zi,zj] at c1
   refine at_region ?_
   refine at_q rfl rfl (by decide) (qt_loadS rfl rfl tys_impl_Pt rfl (rdAll (k := 1) rfl)) ?_
   refine at_q rfl rfl (by decide) (qt_call ok_spec_l14Rotate rfl rfl (fun w1 hs => rot_w (midX (nt l k).e, midY (nt l k).e) w1 ⟨⟨by unfold midX; simp only; omega, by unfold midX; simp only; omega⟩, by unfold midY; simp only; omega, by unfold midY; simp only; omega⟩)) ?_
   refine at_op rfl ?_
   refine op_storeAll' (k := 1) rfl rfl rfl rfl (rfl) (by rfl) tyz_impl_Pt.szx rfl rfl rfl ?_
   refine at_rsE (by simp only [ya,yb,yc,yd,Value.cells,ye]; rfl) ?_
   refine at_end ?_
   exact at_meet hC_cutif_t31 ⟨rfl, rfl, rfl, rfl, rfl, rfl, trivial⟩ (fun _ h => h.upto ⟨rfl, by rw [mdR, if_pos c1], trivial⟩)
  ·try simp only [za,zb,zc,zd,ze,zf,Bool.not_true,Bool.not_false,zg,zh,ne_eq,zi,zj] at c1
   refine at_skip ?_
   refine norm_then ?_
   exact at_meet hC_cutif_t31 ⟨rfl, rfl, rfl, rfl, rfl, rfl, trivial⟩ (fun _ h => h.upto ⟨rfl, by rw [mdR, if_neg c1]; rfl, trivial⟩)
 ·refine at_envE (by simp only [ya,yb]; rfl) ?_
  refine at_seq ?_
  refine at_region ?_
  refine at_q rfl rfl (by decide) (qt_assign rfl rfl) ?_
  refine at_end ?_
  refine at_seq ?_
  refine at_region ?_
  refine at_q rfl rfl (by decide) (qt_assign rfl rfl) ?_
  refine at_end ?_
  refine at_seq ?_
  refine at_seq ?_
  refine at_region ?_
  refine at_q rfl rfl (by decide) (qt_assign rfl rfl) ?_
  refine at_end ?_
  refine at_block ?_
  refine at_loopk (X := Nat) (fun i => i ≤ l.length) (fun i => l.length - i) (fun i => [(9, .int .i64 (besTo false l k i)), (10, .int .i64 (besTo true l k i)), (11, .int .i64 (i : Int))]) (C := [(0, _), (1, _), (4, _), (5, _), (7, _), (8, _)]) ⟨rfl, rfl, rfl, rfl, rfl, rfl, trivial⟩ 0 (Nat.zero_le _) ⟨rfl, rfl, rfl, rfl, rfl, rfl, rfl, rfl, rfl, trivial⟩ ?_
  intro i hi L hL1
  refine at_envE (by simp only [ya,yb]; rfl) ?_
  have hb1 := besTo_bd (s := false) (k := k) (show i ≤ l.length from hi)
  have hb2 := besTo_bd (s := true) (k := k) (show i ≤ l.length from hi)
  have ha1 := ha false
  have ha2 := ha true
  refine at_seq ?_
  refine at_seq ?_
  refine at_region ?_
  refine at_q rfl rfl (by decide) (qt_move rfl rfl) ?_
  refine at_q rfl rfl (by decide) (qt_move rfl rfl) ?_
  refine at_q rfl rfl (by decide) (qt_len rfl rfl tyl_sl_spec_l14Net) ?_
  refine at_q rfl rfl (by decide) (qt_lss rfl rfl rfl) ?_
  refine at_end ?_
  refine at_cond rfl (fun c2 => ?_) (fun c2 => ?_)
  ·try simp only [za,zb,zc,zd,ze,zf,Bool.not_true,Bool.not_false,zg,zh,ne_eq,zi,zj] at c2
   have hlt : i < l.length := (by omega)
   have hqo := hok _ (nt_mem hlt)
   obtain ⟨q1, q2⟩ := legB2 hqo
   obtain ⟨d1, d2, d3, d4⟩ := lgR_bd (p := (nt l k).e) hqo
   obtain ⟨⟨e1, e2⟩, ⟨e3, e4⟩, ⟨e5, e6⟩, e7, e8⟩ := id hqo
   have hn1 := cnt_bd (s := false) hlt
   have hn2 := cnt_bd (s := true) hlt
   simp only [cntN, if_true, Bool.false_eq_true, if_false] at hn1 hn2
   refine at_skip ?_
   refine norm_then ?_
   refine at_seq ?_
   refine at_block ?_
   refine at_seq ?_
   refine at_seq ?_
   refine at_region ?_
   refine at_q rfl rfl (by decide) (qt_move rfl rfl) ?_
   refine at_q rfl rfl (by decide) (qt_move rfl rfl) ?_
   refine at_q rfl rfl (by decide) (qt_eql rfl rfl rfl) ?_
   refine at_end ?_
   refine at_cond rfl (fun c3 => ?_) (fun c3 => ?_)
   ·try simp only [za,zb,zc,zd,ze,zf,Bool.not_true,Bool.not_false,zg,zh,ne_eq,zi,zj] at c3
    refine at_exit ?_
    refine pass_then (fun h => by cases h) ?_
    refine pass_hit ?_
    refine norm_then ?_
    refine at_region ?_
    refine at_q rfl rfl (by decide) (qt_move rfl rfl) ?_
    refine at_q rfl rfl (by decide) (qt_add rfl rfl rfl (by omega) (by omega)) ?_
    refine at_q rfl rfl (by decide) (qt_assign rfl rfl) ?_
    refine at_end ?_
    exact at_againk hL1 (i + 1) (by omega) (by omega) ⟨vi (by rw [show i = k by omega, bes_same]), vi (by rw [show i = k by omega, bes_same]), vi (by omega), rfl, rfl, rfl, rfl, rfl, rfl, trivial⟩ (fun _ h => h.upto ⟨rfl, rfl, trivial⟩)
   ·try simp only [za,zb,zc,zd,ze,zf,Bool.not_true,Bool.not_false,zg,zh,ne_eq,zi,zj] at c3
    have hik : i ≠ k := (by omega)
    refine at_skip ?_
    refine norm_then ?_
    refine at_seq ?_
    refine at_region ?_
    refine at_q rfl rfl (by decide) (qt_move rfl rfl) ?_
    refine at_q rfl rfl (by decide) (qt_move rfl rfl) ?_
    refine at_q rfl rfl (by decide) (qt_indexW (j := i) (fun w hs => rowOver hr hs.fin) rfl rfl rfl tyl_sl_spec_l14Net hlt) ?_
    refine at_q rfl rfl (by decide) (qt_fieldAddr rfl rfl tyf_spec_l14Net_0) ?_
    refine at_q rfl rfl (by decide) (qt_fieldAddr rfl rfl tyf_spec_l13Edge_0) ?_
    refine at_q rfl rfl (by decide) (qt_loadS rfl rfl tys_impl_Pt rfl (rdNtS [.int .i64 (nt l i).e.ax, .int .i64 (nt l i).e.ay] 0 (fun w hs => rowOver hr hs.fin) hlt (by omega) (two_of rfl rfl))) ?_
    refine at_q rfl rfl (by decide) (qt_call ok_spec_l09Times rfl rfl (fun w1 hs => twice_w (lA (nt l i).e) w1 q1)) ?_
    refine at_op rfl ?_
    refine op_alloc rfl tyz_impl_Pt rfl (by decide) (fun b3 => ?_)
    refine at_rsE (by simp only [ya,yb,yc,yd,Value.cells,ye]; rfl) ?_
    refine at_op rfl ?_
    refine op_storeAll' (k := 2) rfl rfl rfl rfl (rfl) (by rfl) tyz_impl_Pt.szx rfl rfl rfl ?_
    refine at_rsE (by simp only [ya,yb,yc,yd,Value.cells,ye]; rfl) ?_
    refine at_end ?_
    refine at_seq ?_
    refine at_region ?_
    refine at_q rfl rfl (by decide) (qt_move rfl rfl) ?_
    refine at_q rfl rfl (by decide) (qt_move rfl rfl) ?_
    refine at_q rfl rfl (by decide) (qt_indexW (j := i) (fun w hs => rowOver hr hs.fin) rfl rfl rfl tyl_sl_spec_l14Net hlt) ?_
    refine at_q rfl rfl (by decide) (qt_fieldAddr rfl rfl tyf_spec_l14Net_0) ?_
    refine at_q rfl rfl (by decide) (qt_fieldAddr rfl rfl tyf_spec_l13Edge_1) ?_
    refine at_q rfl rfl (by decide) (qt_loadS rfl rfl tys_impl_Pt rfl (rdNtS [.int .i64 (nt l i).e.bx, .int .i64 (nt l i).e.b_y] 2 (fun w hs => rowOver hr hs.fin) hlt (by omega) (two_of rfl rfl))) ?_
    refine at_q rfl rfl (by decide) (qt_call ok_spec_l09Times rfl rfl (fun w1 hs => twice_w (lB (nt l i).e) w1 q2)) ?_
    refine at_op rfl ?_
    refine op_alloc rfl tyz_impl_Pt rfl (by decide) (fun b4 => ?_)
    refine at_rsE (by simp only [ya,yb,yc,yd,Value.cells,ye]; rfl) ?_
    refine at_op rfl ?_
    refine op_storeAll' (k := 3) rfl rfl rfl rfl (rfl) (by rfl) tyz_impl_Pt.szx rfl rfl rfl ?_
    refine at_rsE (by simp only [ya,yb,yc,yd,Value.cells,ye]; rfl) ?_
    refine at_end ?_
    refine at_cut [] (C := [(0, _), (1, _), (4, _), (5, _), (7, _), (8, _), (9, _), (10, _), (11, _), (34, _), (35, _), (36, _), (37, _), (40, _), (41, _), (42, _), (43, _), (44, _), (45, _), (46, _), (47, _), (48, _), (49, _), (12, _), (50, _), (51, _), (52, _), (53, _), (54, _), (55, _), (56, _), (13, _)]) ([.cel b1 51 [.int .i64 (nt l k).e.ax, .int .i64 (nt l k).e.ay, .int .i64 (nt l k).e.bx, .int .i64 (nt l k).e.b_y], .cel b2 49 [.int .i64 (mdR (nt l k).e).1, .int .i64 (mdR (nt l k).e).2], .cel b3 49 [.int .i64 (lgR (nt l k).e (nt l i).e).ax, .int .i64 (lgR (nt l k).e (nt l i).e).ay], .cel b4 49 [.int .i64 (lgR (nt l k).e (nt l i).e).bx, .int .i64 (lgR (nt l k).e (nt l i).e).b_y]]) ⟨rfl, rfl, rfl, rfl, rfl, rfl, rfl, rfl, rfl, rfl, rfl, rfl, rfl, rfl, rfl, rfl, rfl, rfl, rfl, rfl, rfl, rfl, rfl, rfl, rfl, rfl, rfl, rfl, rfl, rfl, rfl, rfl, trivial⟩ (fun L hC_cutif_t57 => ?_) ?_
    ·refine at_seq ?_
     refine at_region ?_
     refine at_q rfl rfl (by decide) (qt_move rfl rfl) ?_
     refine at_end ?_
     refine at_cond rfl (fun c4 => ?_) (fun c4 => ?_)
     ·try simp only [za,zb,zc,zd,ze,zf,Bool.not_true,Bool.not_false,zg,zh,ne_eq,zi,zj] at c4
      refine at_seq ?_
      refine at_region ?_
      refine at_q rfl rfl (by decide) (qt_loadS rfl rfl tys_impl_Pt rfl (rdAll (k := 2) rfl)) ?_
      refine at_q rfl rfl (by decide) (qt_call ok_spec_l14Rotate rfl rfl (fun w1 hs => rot_w (2 * (nt l i).e.ax, 2 * (nt l i).e.ay) w1 ⟨⟨by simp only; omega, by simp only; omega⟩, by simp only; omega, by simp only; omega⟩)) ?_
      refine at_op rfl ?_
      refine op_storeAll' (k := 2) rfl rfl rfl rfl (rfl) (by rfl) tyz_impl_Pt.szx rfl rfl rfl ?_
      refine at_rsE (by simp only [ya,yb,yc,yd,Value.cells,ye]; rfl) ?_
      refine at_end ?_
      refine at_region ?_
      refine at_q rfl rfl (by decide) (qt_loadS rfl rfl tys_impl_Pt rfl (rdAll (k := 3) rfl)) ?_
      refine at_q rfl rfl (by decide) (qt_call ok_spec_l14Rotate rfl rfl (fun w1 hs => rot_w (2 * (nt l i).e.bx, 2 * (nt l i).e.b_y) w1 ⟨⟨by simp only; omega, by simp only; omega⟩, by simp only; omega, by simp only; omega⟩)) ?_
      refine at_op rfl ?_
      refine op_storeAll' (k := 3) rfl rfl rfl rfl (rfl) (by rfl) tyz_impl_Pt.szx rfl rfl rfl ?_
      refine at_rsE (by simp only [ya,yb,yc,yd,Value.cells,ye]; rfl) ?_
      refine at_end ?_
      exact at_meet hC_cutif_t57 ⟨rfl, rfl, rfl, rfl, rfl, rfl, rfl, rfl, rfl, rfl, rfl, rfl, rfl, rfl, rfl, rfl, rfl, rfl, rfl, rfl, rfl, rfl, rfl, rfl, rfl, rfl, rfl, rfl, rfl, rfl, rfl, rfl, trivial⟩ (fun _ h => h.upto ⟨rfl, rfl, by rw [lgR, if_pos c4]; rfl, by rw [lgR, if_pos c4]; rfl, trivial⟩)
     ·try simp only [za,zb,zc,zd,ze,zf,Bool.not_true,Bool.not_false,zg,zh,ne_eq,zi,zj] at c4
      refine at_skip ?_
      refine norm_then ?_
      exact at_meet hC_cutif_t57 ⟨rfl, rfl, rfl, rfl, rfl, rfl, rfl, rfl, rfl, rfl, rfl, rfl, rfl, rfl, rfl, rfl, rfl, rfl, rfl, rfl, rfl, rfl, rfl, rfl, rfl, rfl, rfl, rfl, rfl, rfl, rfl, rfl, trivial⟩ (fun _ h => h.upto ⟨rfl, rfl, by rw [lgR, if_neg c4]; rfl, by rw [lgR, if_neg c4]; rfl, trivial⟩)
    ·refine at_envE (by simp only [ya,yb]; rfl) ?_
     refine at_block ?_
     refine at_cutE [(62, .bool (wUp (lgR (nt l k).e (nt l i).e) (mdR (nt l k).e).1 (mdR (nt l k).e).2))] (C := [(0, _), (1, _), (4, _), (5, _), (7, _), (8, _), (9, _), (10, _), (11, _), (34, _), (35, _), (36, _), (37, _), (40, _), (41, _), (42, _), (43, _), (44, _), (45, _), (46, _), (47, _), (48, _), (49, _), (12, _), (50, _), (51, _), (52, _), (53, _), (54, _), (55, _), (56, _), (13, _)])  ⟨rfl, rfl, rfl, rfl, rfl, rfl, rfl, rfl, rfl, rfl, rfl, rfl, rfl, rfl, rfl, rfl, rfl, rfl, rfl, rfl, rfl, rfl, rfl, rfl, rfl, rfl, rfl, rfl, rfl, rfl, rfl, rfl, trivial⟩ (fun L hC_cut_17 => ?_) ?_
     ·refine at_region ?_
      refine at_q rfl rfl (by decide) (qt_fieldAddr rfl rfl tyf_impl_Pt_1) ?_
      refine at_q rfl rfl (by decide) (qt_load1 rfl rfl ty1_int64 (rd1 (k := 2) rfl rfl)) ?_
      refine at_q rfl rfl (by decide) (qt_fieldAddr rfl rfl tyf_impl_Pt_1) ?_
      refine at_q rfl rfl (by decide) (qt_load1 rfl rfl ty1_int64 (rd1 (k := 1) rfl rfl)) ?_
      refine at_q rfl rfl (by decide) (qt_leq rfl rfl rfl) ?_
      refine at_q rfl rfl (by decide) (qt_move rfl rfl) ?_
      refine at_bsplit 68 rfl (fun g1 => ?_) (fun g1 => ?_)
      ·try simp only [za,zb,zc,zd,ze,zf,Bool.not_true,Bool.not_false,zg,zh,ne_eq,zi,zj] at g1
       refine at_on rfl rfl rfl rfl ?_
       refine op_q rfl (by decide) (qt_fieldAddr rfl rfl tyf_impl_Pt_1) ?_
       refine at_on rfl rfl rfl rfl ?_
       refine op_q rfl (by decide) (qt_load1 rfl rfl ty1_int64 (rd1 (k := 1) rfl rfl)) ?_
       refine at_on rfl rfl rfl rfl ?_
       refine op_q rfl (by decide) (qt_fieldAddr rfl rfl tyf_impl_Pt_1) ?_
       refine at_on rfl rfl rfl rfl ?_
       refine op_q rfl (by decide) (qt_load1 rfl rfl ty1_int64 (rd1 (k := 3) rfl rfl)) ?_
       refine at_on rfl rfl rfl rfl ?_
       refine op_q rfl (by decide) (qt_lss rfl rfl rfl) ?_
       refine at_q rfl rfl (by decide) (qt_pickT rfl rfl rfl) ?_
       refine at_q rfl rfl (by decide) (qt_move rfl rfl) ?_
       refine at_bsplit 75 rfl (fun g2 => ?_) (fun g2 => ?_)
       ·try simp only [za,zb,zc,zd,ze,zf,Bool.not_true,Bool.not_false,zg,zh,ne_eq,zi,zj] at g2
        refine at_on rfl rfl rfl rfl ?_
        refine op_q rfl (by decide) (qt_loadS rfl rfl tys_impl_Pt rfl (rdAll (k := 2) rfl)) ?_
        refine at_on rfl rfl rfl rfl ?_
        refine op_q rfl (by decide) (qt_loadS rfl rfl tys_impl_Pt rfl (rdAll (k := 3) rfl)) ?_
        refine at_on rfl rfl rfl rfl ?_
        refine op_q rfl (by decide) (qt_loadS rfl rfl tys_impl_Pt rfl (rdAll (k := 1) rfl)) ?_
        refine at_on rfl rfl rfl rfl ?_
        refine op_q rfl (by decide) (qt_call ok_spec_l03Turn rfl rfl (fun w h => l03Turn_any _ _ _ _ _ _ w d1.1 d1.2 d2.1 d2.2 d3.1 d3.2 d4.1 d4.2 m1.1 m1.2 m2.1 m2.2)) ?_
        refine at_on rfl rfl rfl rfl ?_
        refine op_q rfl (by decide) (qt_gtr rfl rfl rfl) ?_
        refine at_q rfl rfl (by decide) (qt_pickT rfl rfl rfl) ?_
        refine at_q rfl rfl (by decide) (qt_assign rfl rfl) ?_
        refine at_end ?_
        exact at_meet hC_cut_17 ⟨vb (by simp [wUp, *]), rfl, rfl, rfl, rfl, rfl, rfl, rfl, rfl, rfl, rfl, rfl, rfl, rfl, rfl, rfl, rfl, rfl, rfl, rfl, rfl, rfl, rfl, rfl, rfl, rfl, rfl, rfl, rfl, rfl, rfl, rfl, rfl, trivial⟩ (fun _ h => h.upto ⟨rfl, rfl, rfl, rfl, trivial⟩)
       ·try simp only [za,zb,zc,zd,ze,zf,Bool.not_true,Bool.not_false,zg,zh,ne_eq,zi,zj] at g2
        refine at_off rfl rfl rfl rfl (by decide) rfl (by decide) ?_
        refine at_off rfl rfl rfl rfl (by decide) rfl (by decide) ?_
        refine at_off rfl rfl rfl rfl (by decide) rfl (by decide) ?_
        refine at_off rfl rfl rfl rfl (by decide) rfl (by decide) ?_
        refine at_off rfl rfl rfl rfl (by decide) rfl (by decide) ?_
        refine at_q rfl rfl (by decide) (qt_pickF rfl rfl rfl) ?_
        refine at_q rfl rfl (by decide) (qt_assign rfl rfl) ?_
        refine at_end ?_
        exact at_meet hC_cut_17 ⟨vb (by symm; simp [wUp]; omega), rfl, rfl, rfl, rfl, rfl, rfl, rfl, rfl, rfl, rfl, rfl, rfl, rfl, rfl, rfl, rfl, rfl, rfl, rfl, rfl, rfl, rfl, rfl, rfl, rfl, rfl, rfl, rfl, rfl, rfl, rfl, rfl, trivial⟩ (fun _ h => h.upto ⟨rfl, rfl, rfl, rfl, trivial⟩)
      ·try simp only [za,zb,zc,zd,ze,zf,Bool.not_true,Bool.not_false,zg,zh,ne_eq,zi,zj] at g1
       refine at_off rfl rfl rfl rfl (by decide) rfl (by decide) ?_
       refine at_off rfl rfl rfl rfl (by decide) rfl (by decide) ?_
       refine at_off rfl rfl rfl rfl (by decide) rfl (by decide) ?_
       refine at_off rfl rfl rfl rfl (by decide) rfl (by decide) ?_
       refine at_off rfl rfl rfl rfl (by decide) rfl (by decide) ?_
       refine at_q rfl rfl (by decide) (qt_pickF rfl rfl rfl) ?_
       refine at_q rfl rfl (by decide) (qt_move rfl rfl) ?_
       refine at_off rfl rfl rfl rfl (by decide) rfl (by decide) ?_
       refine at_off rfl rfl rfl rfl (by decide) rfl (by decide) ?_
       refine at_off rfl rfl rfl rfl (by decide) rfl (by decide) ?_
       refine at_off rfl rfl rfl rfl (by decide) rfl (by decide) ?_
       refine at_off rfl rfl rfl rfl (by decide) rfl (by decide) ?_
       refine at_q rfl rfl (by decide) (qt_pickF rfl rfl rfl) ?_
       refine at_q rfl rfl (by decide) (qt_assign rfl rfl) ?_
       refine at_end ?_
       exact at_meet hC_cut_17 ⟨vb (by symm; simp [wUp]; omega), rfl, rfl, rfl, rfl, rfl, rfl, rfl, rfl, rfl, rfl, rfl, rfl, rfl, rfl, rfl, rfl, rfl, rfl, rfl, rfl, rfl, rfl, rfl, rfl, rfl, rfl, rfl, rfl, rfl, rfl, rfl, rfl, trivial⟩ (fun _ h => h.upto ⟨rfl, rfl, rfl, rfl, trivial⟩)
     ·refine at_envE (by simp only [ya,yb]; rfl) ?_
      refine at_cond rfl (fun c5 => ?_) (fun c5 => ?_)
      ·try simp only [za,zb,zc,zd,ze,zf,Bool.not_true,Bool.not_false,zg,zh,ne_eq,zi,zj] at c5
       refine at_seq ?_
       refine at_region ?_
       refine at_q rfl rfl (by decide) (qt_move rfl rfl) ?_
       refine at_q rfl rfl (by decide) (qt_move rfl rfl) ?_
       refine at_q rfl rfl (by decide) (qt_move rfl rfl) ?_
       refine at_q rfl rfl (by decide) (qt_indexW (j := i) (fun w hs => rowOver hr hs.fin) rfl rfl rfl tyl_sl_spec_l14Net hlt) ?_
       refine at_q rfl rfl (by decide) (qt_fieldAddr rfl rfl tyf_spec_l14Net_1) ?_
       refine at_q rfl rfl (by decide) (qt_load1 rfl rfl ty1_int64 (rdNt (i := 4) (fun w hs => rowOver hr hs.fin) hlt (by omega) rfl)) ?_
       refine at_q rfl rfl (by decide) (qt_add rfl rfl rfl (by omega) (by omega)) ?_
       refine at_q rfl rfl (by decide) (qt_assign rfl rfl) ?_
       refine at_end ?_
       refine at_region ?_
       refine at_q rfl rfl (by decide) (qt_move rfl rfl) ?_
       refine at_q rfl rfl (by decide) (qt_move rfl rfl) ?_
       refine at_q rfl rfl (by decide) (qt_move rfl rfl) ?_
       refine at_q rfl rfl (by decide) (qt_indexW (j := i) (fun w hs => rowOver hr hs.fin) rfl rfl rfl tyl_sl_spec_l14Net hlt) ?_
       refine at_q rfl rfl (by decide) (qt_fieldAddr rfl rfl tyf_spec_l14Net_2) ?_
       refine at_q rfl rfl (by decide) (qt_load1 rfl rfl ty1_int64 (rdNt (i := 5) (fun w hs => rowOver hr hs.fin) hlt (by omega) rfl)) ?_
       refine at_q rfl rfl (by decide) (qt_add rfl rfl rfl (by omega) (by omega)) ?_
       refine at_q rfl rfl (by decide) (qt_assign rfl rfl) ?_
       refine at_nil ?_
       refine norm_block ?_
       refine norm_block ?_
       refine norm_then ?_
       refine at_region ?_
       refine at_q rfl rfl (by decide) (qt_move rfl rfl) ?_
       refine at_q rfl rfl (by decide) (qt_add rfl rfl rfl (by omega) (by omega)) ?_
       refine at_q rfl rfl (by decide) (qt_assign rfl rfl) ?_
       refine at_end ?_
       exact at_againk hL1 (i + 1) (by omega) (by omega) ⟨vi (bes_up (s := false) hik c5), vi (bes_up (s := true) hik c5), vi (by omega), rfl, rfl, rfl, rfl, rfl, rfl, trivial⟩ (fun _ h => h.upto ⟨rfl, rfl, trivial⟩)
      ·try simp only [za,zb,zc,zd,ze,zf,Bool.not_true,Bool.not_false,zg,zh,ne_eq,zi,zj] at c5
       refine at_cutE [(96, .bool (wDown (lgR (nt l k).e (nt l i).e) (mdR (nt l k).e).1 (mdR (nt l k).e).2))] (C := [(0, _), (1, _), (4, _), (5, _), (7, _), (8, _), (9, _), (10, _), (11, _), (34, _), (35, _), (36, _), (37, _), (40, _), (41, _), (42, _), (43, _), (44, _), (45, _), (46, _), (47, _), (48, _), (49, _), (12, _), (50, _), (51, _), (52, _), (53, _), (54, _), (55, _), (56, _), (13, _), (62, _)])  ⟨rfl, rfl, rfl, rfl, rfl, rfl, rfl, rfl, rfl, rfl, rfl, rfl, rfl, rfl, rfl, rfl, rfl, rfl, rfl, rfl, rfl, rfl, rfl, rfl, rfl, rfl, rfl, rfl, rfl, rfl, rfl, rfl, rfl, trivial⟩ (fun L hC_cut_20 => ?_) ?_
       ·refine at_region ?_
        refine at_q rfl rfl (by decide) (qt_fieldAddr rfl rfl tyf_impl_Pt_1) ?_
        refine at_q rfl rfl (by decide) (qt_load1 rfl rfl ty1_int64 (rd1 (k := 3) rfl rfl)) ?_
        refine at_q rfl rfl (by decide) (qt_fieldAddr rfl rfl tyf_impl_Pt_1) ?_
        refine at_q rfl rfl (by decide) (qt_load1 rfl rfl ty1_int64 (rd1 (k := 1) rfl rfl)) ?_
        refine at_q rfl rfl (by decide) (qt_leq rfl rfl rfl) ?_
        refine at_q rfl rfl (by decide) (qt_move rfl rfl) ?_
        refine at_bsplit 102 rfl (fun g3 => ?_) (fun g3 => ?_)
        ·try simp only [za,zb,zc,zd,ze,zf,Bool.not_true,Bool.not_false,zg,zh,ne_eq,zi,zj] at g3
         refine at_on rfl rfl rfl rfl ?_
         refine op_q rfl (by decide) (qt_fieldAddr rfl rfl tyf_impl_Pt_1) ?_
         refine at_on rfl rfl rfl rfl ?_
         refine op_q rfl (by decide) (qt_load1 rfl rfl ty1_int64 (rd1 (k := 1) rfl rfl)) ?_
         refine at_on rfl rfl rfl rfl ?_
         refine op_q rfl (by decide) (qt_fieldAddr rfl rfl tyf_impl_Pt_1) ?_
         refine at_on rfl rfl rfl rfl ?_
         refine op_q rfl (by decide) (qt_load1 rfl rfl ty1_int64 (rd1 (k := 2) rfl rfl)) ?_
         refine at_on rfl rfl rfl rfl ?_
         refine op_q rfl (by decide) (qt_lss rfl rfl rfl) ?_
         refine at_q rfl rfl (by decide) (qt_pickT rfl rfl rfl) ?_
         refine at_q rfl rfl (by decide) (qt_move rfl rfl) ?_
         refine at_bsplit 109 rfl (fun g4 => ?_) (fun g4 => ?_)
         ·try simp only [za,zb,zc,zd,ze,zf,Bool.not_true,Bool.not_false,zg,zh,ne_eq,zi,zj] at g4
          refine at_on rfl rfl rfl rfl ?_
          refine op_q rfl (by decide) (qt_loadS rfl rfl tys_impl_Pt rfl (rdAll (k := 2) rfl)) ?_
          refine at_on rfl rfl rfl rfl ?_
          refine op_q rfl (by decide) (qt_loadS rfl rfl tys_impl_Pt rfl (rdAll (k := 3) rfl)) ?_
          refine at_on rfl rfl rfl rfl ?_
          refine op_q rfl (by decide) (qt_loadS rfl rfl tys_impl_Pt rfl (rdAll (k := 1) rfl)) ?_
          refine at_on rfl rfl rfl rfl ?_
          refine op_q rfl (by decide) (qt_call ok_spec_l03Turn rfl rfl (fun w h => l03Turn_any _ _ _ _ _ _ w d1.1 d1.2 d2.1 d2.2 d3.1 d3.2 d4.1 d4.2 m1.1 m1.2 m2.1 m2.2)) ?_
          refine at_on rfl rfl rfl rfl ?_
          refine op_q rfl (by decide) (qt_lss rfl rfl rfl) ?_
          refine at_q rfl rfl (by decide) (qt_pickT rfl rfl rfl) ?_
          refine at_q rfl rfl (by decide) (qt_assign rfl rfl) ?_
          refine at_end ?_
          exact at_meet hC_cut_20 ⟨vb (by simp [wDown, *]), rfl, rfl, rfl, rfl, rfl, rfl, rfl, rfl, rfl, rfl, rfl, rfl, rfl, rfl, rfl, rfl, rfl, rfl, rfl, rfl, rfl, rfl, rfl, rfl, rfl, rfl, rfl, rfl, rfl, rfl, rfl, rfl, rfl, trivial⟩ (fun _ h => h.upto ⟨rfl, rfl, rfl, rfl, trivial⟩)
         ·try simp only [za,zb,zc,zd,ze,zf,Bool.not_true,Bool.not_false,zg,zh,ne_eq,zi,zj] at g4
          refine at_off rfl rfl rfl rfl (by decide) rfl (by decide) ?_
          refine at_off rfl rfl rfl rfl (by decide) rfl (by decide) ?_
          refine at_off rfl rfl rfl rfl (by decide) rfl (by decide) ?_
          refine at_off rfl rfl rfl rfl (by decide) rfl (by decide) ?_
          refine at_off rfl rfl rfl rfl (by decide) rfl (by decide) ?_
          refine at_q rfl rfl (by decide) (qt_pickF rfl rfl rfl) ?_
          refine at_q rfl rfl (by decide) (qt_assign rfl rfl) ?_
          refine at_end ?_
          exact at_meet hC_cut_20 ⟨vb (by symm; simp [wDown]; omega), rfl, rfl, rfl, rfl, rfl, rfl, rfl, rfl, rfl, rfl, rfl, rfl, rfl, rfl, rfl, rfl, rfl, rfl, rfl, rfl, rfl, rfl, rfl, rfl, rfl, rfl, rfl, rfl, rfl, rfl, rfl, rfl, rfl, trivial⟩ (fun _ h => h.upto ⟨rfl, rfl, rfl, rfl, trivial⟩)
        ·try simp only [za,zb,zc,zd,ze,zf,Bool.not_true,Bool.not_false,zg,zh,ne_eq,zi,zj] at g3
         refine at_off rfl rfl rfl rfl (by decide) rfl (by decide) ?_
         refine at_off rfl rfl rfl rfl (by decide) rfl (by decide) ?_
         refine at_off rfl rfl rfl rfl (by decide) rfl (by decide) ?_
         refine at_off rfl rfl rfl rfl (by decide) rfl (by decide) ?_
         refine at_off rfl rfl rfl rfl (by decide) rfl (by decide) ?_
         refine at_q rfl rfl (by decide) (qt_pickF rfl rfl rfl) ?_
         refine at_q rfl rfl (by decide) (qt_move rfl rfl) ?_
         refine at_off rfl rfl rfl rfl (by decide) rfl (by decide) ?_
         refine at_off rfl rfl rfl rfl (by decide) rfl (by decide) ?_
         refine at_off rfl rfl rfl rfl (by decide) rfl (by decide) ?_
         refine at_off rfl rfl rfl rfl (by decide) rfl (by decide) ?_
         refine at_off rfl rfl rfl rfl (by decide) rfl (by decide) ?_
         refine at_q rfl rfl (by decide) (qt_pickF rfl rfl rfl) ?_
         refine at_q rfl rfl (by decide) (qt_assign rfl rfl) ?_
         refine at_end ?_
         exact at_meet hC_cut_20 ⟨vb (by symm; simp [wDown]; omega), rfl, rfl, rfl, rfl, rfl, rfl, rfl, rfl, rfl, rfl, rfl, rfl, rfl, rfl, rfl, rfl, rfl, rfl, rfl, rfl, rfl, rfl, rfl, rfl, rfl, rfl, rfl, rfl, rfl, rfl, rfl, rfl, rfl, trivial⟩ (fun _ h => h.upto ⟨rfl, rfl, rfl, rfl, trivial⟩)
       ·refine at_envE (by simp only [ya,yb]; rfl) ?_
        refine at_cond rfl (fun c6 => ?_) (fun c6 => ?_)
        ·try simp only [za,zb,zc,zd,ze,zf,Bool.not_true,Bool.not_false,zg,zh,ne_eq,zi,zj] at c6
         refine at_seq ?_
         refine at_region ?_
         refine at_q rfl rfl (by decide) (qt_move rfl rfl) ?_
         refine at_q rfl rfl (by decide) (qt_move rfl rfl) ?_
         refine at_q rfl rfl (by decide) (qt_move rfl rfl) ?_
         refine at_q rfl rfl (by decide) (qt_indexW (j := i) (fun w hs => rowOver hr hs.fin) rfl rfl rfl tyl_sl_spec_l14Net hlt) ?_
         refine at_q rfl rfl (by decide) (qt_fieldAddr rfl rfl tyf_spec_l14Net_1) ?_
         refine at_q rfl rfl (by decide) (qt_load1 rfl rfl ty1_int64 (rdNt (i := 4) (fun w hs => rowOver hr hs.fin) hlt (by omega) rfl)) ?_
         refine at_q rfl rfl (by decide) (qt_sub rfl rfl rfl (by omega) (by omega)) ?_
         refine at_q rfl rfl (by decide) (qt_assign rfl rfl) ?_
         refine at_end ?_
         refine at_region ?_
         refine at_q rfl rfl (by decide) (qt_move rfl rfl) ?_
         refine at_q rfl rfl (by decide) (qt_move rfl rfl) ?_
         refine at_q rfl rfl (by decide) (qt_move rfl rfl) ?_
         refine at_q rfl rfl (by decide) (qt_indexW (j := i) (fun w hs => rowOver hr hs.fin) rfl rfl rfl tyl_sl_spec_l14Net hlt) ?_
         refine at_q rfl rfl (by decide) (qt_fieldAddr rfl rfl tyf_spec_l14Net_2) ?_
         refine at_q rfl rfl (by decide) (qt_load1 rfl rfl ty1_int64 (rdNt (i := 5) (fun w hs => rowOver hr hs.fin) hlt (by omega) rfl)) ?_
         refine at_q rfl rfl (by decide) (qt_sub rfl rfl rfl (by omega) (by omega)) ?_
         refine at_q rfl rfl (by decide) (qt_assign rfl rfl) ?_
         refine at_nil ?_
         refine norm_block ?_
         refine norm_block ?_
         refine norm_then ?_
         refine at_region ?_
         refine at_q rfl rfl (by decide) (qt_move rfl rfl) ?_
         refine at_q rfl rfl (by decide) (qt_add rfl rfl rfl (by omega) (by omega)) ?_
         refine at_q rfl rfl (by decide) (qt_assign rfl rfl) ?_
         refine at_end ?_
         exact at_againk hL1 (i + 1) (by omega) (by omega) ⟨vi (bes_down (s := false) hik c5 c6), vi (bes_down (s := true) hik c5 c6), vi (by omega), rfl, rfl, rfl, rfl, rfl, rfl, trivial⟩ (fun _ h => h.upto ⟨rfl, rfl, trivial⟩)
        ·try simp only [za,zb,zc,zd,ze,zf,Bool.not_true,Bool.not_false,zg,zh,ne_eq,zi,zj] at c6
         refine at_skip ?_
         refine norm_block ?_
         refine norm_block ?_
         refine norm_then ?_
         refine at_region ?_
         refine at_q rfl rfl (by decide) (qt_move rfl rfl) ?_
         refine at_q rfl rfl (by decide) (qt_add rfl rfl rfl (by omega) (by omega)) ?_
         refine at_q rfl rfl (by decide) (qt_assign rfl rfl) ?_
         refine at_end ?_
         exact at_againk hL1 (i + 1) (by omega) (by omega) ⟨vi (bes_stay (s := false) hik c5 c6), vi (bes_stay (s := true) hik c5 c6), vi (by omega), rfl, rfl, rfl, rfl, rfl, rfl, trivial⟩ (fun _ h => h.upto ⟨rfl, rfl, trivial⟩)
  ·try simp only [za,zb,zc,zd,ze,zf,Bool.not_true,Bool.not_false,zg,zh,ne_eq,zi,zj] at c2
   have hin : i = l.length := (by omega)
   refine at_exit ?_
   refine pass_then (fun h => by cases h) ?_
   refine pass_then (fun h => by cases h) ?_
   refine pass_hit ?_
   refine norm_then ?_
   refine at_seq ?_
   refine at_region ?_
   refine at_q rfl rfl (by decide) (qt_move rfl rfl) ?_
   refine at_q rfl rfl (by decide) (qt_move rfl rfl) ?_
   refine at_q rfl rfl (by decide) (qt_assign rfl rfl) ?_
   refine at_q rfl rfl (by decide) (qt_assign rfl rfl) ?_
   refine at_end ?_
   refine at_retc ?_
   refine at_ret2 rfl (.tmp rfl) (.tmp rfl) ?_
   intro w' hs
   exact ⟨by rw [hin], hs.fin⟩

/-! ### The sides -/
def sdN (l : List Nt) (k : Nat) : Nt := { nt l k with l1 := besTo false l k l.length + (nt l k).one, l2 := besTo true l k l.length + (nt l k).two }
def sidTo (l : List Nt) (i : Nat) : List Nt := (List.range l.length).map fun k => if k < i then sdN l k else nt l k
theorem sid_len (l : List Nt) (i : Nat) : (sidTo l i).length = l.length := by simp [sidTo]
theorem sid_nt {l : List Nt} {i k : Nat} (h : k < l.length) : nt (sidTo l i) k = if k < i then sdN l k else nt l k := by
 simp [nt, sidTo, List.getD, List.getElem?_map, List.getElem?_range h]
theorem sid_e {l : List Nt} {i k : Nat} (h : k < l.length) : (nt (sidTo l i) k).e = (nt l k).e ∧ (∀ s, cntN s (nt (sidTo l i) k) = cntN s (nt l k)) := by
 rw [sid_nt h]
 split
 ·exact ⟨rfl, fun s => by cases s <;> rfl⟩
 ·exact ⟨rfl, fun s => rfl⟩
theorem list_nt (l : List Nt) : l = (List.range l.length).map (nt l) := by
 refine List.ext_getElem (by simp) fun k h1 h2 => ?_
 simp only [List.getElem_map, List.getElem_range]
 exact at_nt h1
theorem sid_zero (l : List Nt) : sidTo l 0 = l := by
 conv => rhs; rw [list_nt l]
 simp [sidTo]
theorem sid_step {l : List Nt} {i : Nat} (h : i < l.length) : sidTo l (i + 1) = (sidTo l i).set i (sdN l i) := by
 refine List.ext_getElem (by simp [sidTo]) fun k h1 h2 => ?_
 rw [List.getElem_set]
 simp only [sidTo, List.getElem_map, List.getElem_range]
 by_cases e : i = k
 ·subst e; rw [if_pos (by omega), if_pos rfl]
 ·rw [if_neg e]
  by_cases c : k < i
  ·rw [if_pos c, if_pos (by omega)]
  ·rw [if_neg c, if_neg (by omega)]
theorem sm_map {α β : Type} (f : β → Int) (g : α → β) : ∀ l : List α, sm f (l.map g) = sm (fun x => f (g x)) l
 | [] => rfl
 | x :: l => by simp only [List.map_cons, sm, sm_map f g l]
theorem sid_a (l : List Nt) (i : Nat) (t : Bool) : aS t (sidTo l i) = aS t l := by
 have e : ∀ m : List Nt, aS t m = sm (fun k => iabs (cntN t (nt m k))) (List.range m.length) := fun m => by
  conv => lhs; rw [list_nt m]
  unfold aS
  rw [sm_map]
 rw [e, e l, sid_len]
 exact sm_congr fun k hk => by rw [(sid_e (List.mem_range.1 hk)).2]
theorem sid_bes {l : List Nt} {i k : Nat} (hk : k < l.length) (s : Bool) : ∀ j, j ≤ l.length → besTo s (sidTo l i) k j = besTo s l k j
 | 0, _ => rfl
 | j + 1, h => by rw [besTo, besTo, sid_bes hk s j (by omega), (sid_e (show j < l.length by omega)).1, (sid_e (show j < l.length by omega)).2, (sid_e hk).1]
theorem sid_ok {l : List Nt} {i : Nat} (h : ∀ y ∈ l, legOk y.e) : ∀ y ∈ sidTo l i, legOk y.e := fun y hy => by
 obtain ⟨k, hk, rfl⟩ := List.mem_map.1 hy
 have hk := List.mem_range.1 hk
 split
 ·exact (show legOk (nt l k).e from h _ (nt_mem hk))
 ·exact h _ (nt_mem hk)
def sideN (l : List Nt) : List Nt := sidTo l l.length
theorem st_l1 {l : List Nt} {k : Nat} {e : Nt} (h : k < l.length) (he : nt l k = e) {v : Int} : splice (l.flatMap ntCells) (0 + k * 8 + 6) [.int .i64 v] = (l.set k { e with l1 := v }).flatMap ntCells := by
 subst he
 exact flat_splice ntCells ntCells_len (nt_get h) (legCells (nt l k).e ++ [.int .i64 (nt l k).one, .int .i64 (nt l k).two]) [.int .i64 (nt l k).l1] [.int .i64 v] [.int .i64 (nt l k).l2] (by simp [ntCells]) (by simp [ntCells]) rfl (by simp [legCells])
theorem st_l2 {l : List Nt} {k : Nat} {e : Nt} (h : k < l.length) (he : nt l k = e) {v : Int} : splice (l.flatMap ntCells) (0 + k * 8 + 7) [.int .i64 v] = (l.set k { e with l2 := v }).flatMap ntCells := by
 subst he
 exact flat_splice ntCells ntCells_len (nt_get h) (legCells (nt l k).e ++ [.int .i64 (nt l k).one, .int .i64 (nt l k).two, .int .i64 (nt l k).l1]) [.int .i64 (nt l k).l2] [.int .i64 v] [] (by simp [ntCells]) (by simp [ntCells]) rfl (by simp [legCells])
theorem nt_set {l : List Nt} {k : Nat} {e : Nt} (h : k < l.length) : nt (l.set k e) k = e := by simp [nt, List.getD, h]
theorem l14Sides_any (l : List Nt) (x : Option Addr × Nat) (w : World) (hr : (ntR l x).P w) (hok : ∀ y ∈ l, legOk y.e) (hl : l.length ≤ 16384) (ha : ∀ t, aS t l ≤ 16384) :
  Calls Try.prog 18 #[.slice x.1 l.length x.2] w fun e w' => e = .returned (.tuple #[]) ∧ Wrs (ntR l x).F w w' ∧ (rowR 0 53 8 l.length ((sideN l).flatMap ntCells) x).P w' := by
 refine walk_fromR (m := 39) (rblk x) (ntR l x) (hr) (fun b hb => rblk_F.1 hb) rfl (Try.func18) rfl rfl (Nat.le_of_ble_eq_true rfl) ?_
 refine at_seq ?_
 refine at_region ?_
 refine at_q rfl rfl (by decide) (qt_assign rfl rfl) ?_
 refine at_end ?_
 refine at_block ?_
 refine at_loopc (X := Nat) (fun i => i ≤ l.length) (fun i => l.length - i) (fun i => [(2, .int .i64 (i : Int))]) (C := [(0, _)]) ⟨rfl, trivial⟩ (fun i => [rowR 0 53 8 l.length ((sidTo l i).flatMap ntCells) x]) 0 (Nat.zero_le _) ⟨rfl, rfl, trivial⟩ (fun _ h => by rw [sid_zero]; exact h) ?_
 intro i hi L hL1
 refine at_envE (by simp only [ya,yb]; rfl) ?_
 refine at_rsE (by first | (dsimp only; done) | (dsimp only; rfl) | rfl) ?_
 obtain ⟨M, hM⟩ : ∃ M, M = sidTo l i := ⟨_, rfl⟩
 have hMl : M.length = l.length := (by rw [hM]; exact sid_len l i)
 have hMa : ∀ t, aS t M ≤ 16384 := (fun t => by rw [hM, sid_a]; exact ha t)
 have hMo : ∀ y ∈ M, legOk y.e := (by rw [hM]; exact sid_ok hok)
 rw [← hM]
 refine at_seq ?_
 refine at_seq ?_
 refine at_region ?_
 refine at_q rfl rfl (by decide) (qt_move rfl rfl) ?_
 refine at_q rfl rfl (by decide) (qt_move rfl rfl) ?_
 refine at_q rfl rfl (by decide) (qt_len rfl rfl tyl_sl_spec_l14Net) ?_
 refine at_q rfl rfl (by decide) (qt_lss rfl rfl rfl) ?_
 refine at_end ?_
 refine at_cond rfl (fun c1 => ?_) (fun c1 => ?_)
 ·try simp only [za,zb,zc,zd,ze,zf,Bool.not_true,Bool.not_false,zg,zh,ne_eq,zi,zj] at c1
  have hlt : i < l.length := (by omega)
  have hlM : i < M.length := (by omega)
  have hb1 : besTo false M i l.length = besTo false l i l.length := (by rw [hM]; exact sid_bes hlt false _ (Nat.le_refl _))
  have hb2 : besTo true M i l.length = besTo true l i l.length := (by rw [hM]; exact sid_bes hlt true _ (Nat.le_refl _))
  have hn : nt M i = nt l i := (by rw [hM, sid_nt hlt, if_neg (by omega)])
  have hd1 := besTo_bd (s := false) (k := i) (Nat.le_refl l.length)
  have hd2 := besTo_bd (s := true) (k := i) (Nat.le_refl l.length)
  have hc1 := cnt_bd (s := false) hlt
  have hc2 := cnt_bd (s := true) hlt
  have ha1 := ha false
  have ha2 := ha true
  simp only [cntN, if_true, Bool.false_eq_true, if_false] at hc1 hc2
  refine at_skip ?_
  refine norm_then ?_
  refine at_seq ?_
  refine at_block ?_
  refine at_seq ?_
  refine at_region ?_
  refine at_q rfl rfl (by decide) (qt_move rfl rfl) ?_
  refine at_q rfl rfl (by decide) (qt_move rfl rfl) ?_
  refine at_q rfl rfl (by decide) (qt_call ok_spec_l14Beside rfl rfl (fun w1 hs => by have := l14Beside_any M x i w1 (by have := (hs.all 0 _ rfl).1; rw [← hMl] at this; exact this) hlM hMo (by omega) hMa; rw [hMl, hb1, hb2] at this; exact this)) ?_
  refine at_q rfl rfl (by decide) (qt_move rfl rfl) ?_
  refine at_q rfl rfl (by decide) (qt_extract rfl rfl rfl) ?_
  refine at_q rfl rfl (by decide) (qt_extract rfl rfl rfl) ?_
  refine at_q rfl rfl (by decide) (qt_assign rfl rfl) ?_
  refine at_q rfl rfl (by decide) (qt_assign rfl rfl) ?_
  refine at_end ?_
  refine at_seq ?_
  refine at_region ?_
  refine at_q rfl rfl (by decide) (qt_move rfl rfl) ?_
  refine at_q rfl rfl (by decide) (qt_move rfl rfl) ?_
  refine at_q rfl rfl (by decide) (qt_move rfl rfl) ?_
  refine at_q rfl rfl (by decide) (qt_move rfl rfl) ?_
  refine at_q rfl rfl (by decide) (qt_move rfl rfl) ?_
  refine at_q rfl rfl (by decide) (qt_indexW (j := i) (fun w hs => (hs.all 0 _ rfl).1) rfl rfl rfl tyl_sl_spec_l14Net hlt) ?_
  refine at_q rfl rfl (by decide) (qt_fieldAddr rfl rfl tyf_spec_l14Net_1) ?_
  refine at_q rfl rfl (by decide) (qt_load1 rfl rfl ty1_int64 (rdNt (i := 4) (v := .int .i64 (nt l i).one) (fun w hs => (hs.all 0 _ rfl).1) hlM (by omega) (by rw [hn]; rfl))) ?_
  refine at_q rfl rfl (by decide) (qt_add rfl rfl rfl (by omega) (by omega)) ?_
  refine at_q rfl rfl (by decide) (qt_indexW (j := i) (fun w hs => (hs.all 0 _ rfl).1) rfl rfl rfl tyl_sl_spec_l14Net hlt) ?_
  refine at_q rfl rfl (by decide) (qt_fieldAddr rfl rfl tyf_spec_l14Net_3) ?_
  refine at_op rfl ?_
  refine op_storeR (k := 0) (vs := [.int .i64 (besTo false l i l.length + (nt l i).one)]) rfl rfl rfl rfl (by rfl) (by rfl) tyz_int64.szx rfl rfl (by simp) (by rw [flat_len ntCells 8 ntCells_len]; simp only [List.length_cons, List.length_nil]; omega) ?_
  refine at_rsE (by simp only [ya,yb,yc,yd,Value.cells,ye]; rfl) ?_
  rw [st_l1 hlM hn]
  have hlM2 : i < (M.set i { nt l i with l1 := besTo false l i l.length + (nt l i).one }).length := (by rw [List.length_set]; exact hlM)
  have hn2 := nt_set (e := { nt l i with l1 := besTo false l i l.length + (nt l i).one }) hlM
  refine at_end ?_
  refine at_region ?_
  refine at_q rfl rfl (by decide) (qt_move rfl rfl) ?_
  refine at_q rfl rfl (by decide) (qt_move rfl rfl) ?_
  refine at_q rfl rfl (by decide) (qt_move rfl rfl) ?_
  refine at_q rfl rfl (by decide) (qt_move rfl rfl) ?_
  refine at_q rfl rfl (by decide) (qt_move rfl rfl) ?_
  refine at_q rfl rfl (by decide) (qt_indexW (j := i) (fun w hs => (hs.all 0 _ rfl).1) rfl rfl rfl tyl_sl_spec_l14Net hlt) ?_
  refine at_q rfl rfl (by decide) (qt_fieldAddr rfl rfl tyf_spec_l14Net_2) ?_
  refine at_q rfl rfl (by decide) (qt_load1 rfl rfl ty1_int64 (rdNt (i := 5) (v := .int .i64 (nt l i).two) (fun w hs => (hs.all 0 _ rfl).1) hlM2 (by omega) (by rw [hn2]; rfl))) ?_
  refine at_q rfl rfl (by decide) (qt_add rfl rfl rfl (by omega) (by omega)) ?_
  refine at_q rfl rfl (by decide) (qt_indexW (j := i) (fun w hs => (hs.all 0 _ rfl).1) rfl rfl rfl tyl_sl_spec_l14Net hlt) ?_
  refine at_q rfl rfl (by decide) (qt_fieldAddr rfl rfl tyf_spec_l14Net_4) ?_
  refine at_op rfl ?_
  refine op_storeR (k := 0) (vs := [.int .i64 (besTo true l i l.length + (nt l i).two)]) rfl rfl rfl rfl (by rfl) (by rfl) tyz_int64.szx rfl rfl (by simp) (by rw [flat_len ntCells 8 ntCells_len, List.length_set]; simp only [List.length_cons, List.length_nil]; omega) ?_
  refine at_rsE (by simp only [ya,yb,yc,yd,Value.cells,ye]; rfl) ?_
  rw [st_l2 hlM2 hn2, List.set_set]
  refine at_nil ?_
  refine norm_block ?_
  refine norm_then ?_
  refine at_region ?_
  refine at_q rfl rfl (by decide) (qt_move rfl rfl) ?_
  refine at_q rfl rfl (by decide) (qt_add rfl rfl rfl (by omega) (by omega)) ?_
  refine at_q rfl rfl (by decide) (qt_assign rfl rfl) ?_
  refine at_end ?_
  exact at_againc hL1 (i + 1) (by omega) (by omega) ⟨vi (by omega), rfl, trivial⟩ (fun _ h => h.upto ⟨by rw [sid_step hlt, ← hM]; rfl, trivial⟩)
 ·try simp only [za,zb,zc,zd,ze,zf,Bool.not_true,Bool.not_false,zg,zh,ne_eq,zi,zj] at c1
  have hin : i = l.length := (by omega)
  refine at_exit ?_
  refine pass_then (fun h => by cases h) ?_
  refine pass_then (fun h => by cases h) ?_
  refine pass_hit ?_
  refine at_end0 rfl ?_
  intro w' hs
  exact ⟨rfl, hs.over.wrs.mono fun b hb => rblk_F.2 hb, by have := (hs.all 0 _ rfl).1; rw [hM, hin] at this; exact this⟩
 -- NOT USED: leaf
end Go.Proofs.Ytcigocejgmafjaa
