/- How often edges go around a point; whether a point is on one: the program's and the reference's. -/
import Derived.Test.YtcigocejgmafjaaOn
import Derived.Test.YtcigocejgmafjaaValidRegion
namespace Go.Proofs.Ytcigocejgmafjaa
open Go Go.RowKit
set_option linter.unusedVariables false
set_option linter.unusedSimpArgs false
set_option maxRecDepth 100000
set_option maxHeartbeats 4000000

section
variable {w : World} {w0 : Bs} {Rs : List Res}
theorem Legs.form {A : Option Addr} {n : Nat} {ls : List Leg} (h : Legs w A n ls) (hn : 0 < n) : ∃ b o, A = some ⟨b, o, none⟩ := by
 obtain ⟨b, o, rfl, _⟩ := h.2 hn
 exact ⟨b, o, rfl⟩
/-- An edge of a slice, its first end, its second end. -/
theorem rdLeg {b o m j : Nat} {ls : List Leg} (h : ∀ w, St w0 Rs w → Legs w (some ⟨b, o, none⟩) m ls) (hj : j < m) : ∀ w', St w0 Rs w' → ∀ q v, [Value.int .i64 (lg ls j).ax, Value.int .i64 (lg ls j).ay, Value.int .i64 (lg ls j).bx, Value.int .i64 (lg ls j).b_y][q]? = some v → w'.cell? ⟨b, o + j * 4 + q, none⟩ = some v := fun w' hs q v hv => by
 obtain ⟨b', o', e, _, h1, h2, h3, h4⟩ := (h w' hs).at_ hj
 injection e with e
 injection e with e1 e2 _
 subst e1 e2
 match q, hv with
 | 0, hv => simp at hv; subst hv; exact h1
 | 1, hv => simp at hv; subst hv; exact h2
 | 2, hv => simp at hv; subst hv; exact h3
 | 3, hv => simp at hv; subst hv; exact h4
theorem rdLegA {b o m j : Nat} {ls : List Leg} (h : ∀ w, St w0 Rs w → Legs w (some ⟨b, o, none⟩) m ls) (hj : j < m) : ∀ w', St w0 Rs w' → ∀ q v, [Value.int .i64 (lg ls j).ax, Value.int .i64 (lg ls j).ay][q]? = some v → w'.cell? ⟨b, o + j * 4 + 0 + q, none⟩ = some v := fun w' hs q v hv =>
 rdLeg h hj w' hs q v (by match q, hv with | 0, hv => exact hv | 1, hv => exact hv)
theorem rdLegB {b o m j : Nat} {ls : List Leg} (h : ∀ w, St w0 Rs w → Legs w (some ⟨b, o, none⟩) m ls) (hj : j < m) : ∀ w', St w0 Rs w' → ∀ q v, [Value.int .i64 (lg ls j).bx, Value.int .i64 (lg ls j).b_y][q]? = some v → w'.cell? ⟨b, o + j * 4 + 2 + q, none⟩ = some v := fun w' hs q v hv => by
 have := rdLeg h hj w' hs (2 + q) v (by match q, hv with | 0, hv => exact hv | 1, hv => exact hv)
 rwa [← Nat.add_assoc] at this
end

def dblL (h : Bool) (l : Leg) : Leg := if h = true then ⟨2 * l.ax, 2 * l.ay, 2 * l.bx, 2 * l.b_y⟩ else l
def wUp (l : Leg) (x y : Int) : Bool := decide (l.ay ≤ y) && decide (y < l.b_y) && decide (0 < trn l.ax l.ay l.bx l.b_y x y)
def wDown (l : Leg) (x y : Int) : Bool := decide (l.b_y ≤ y) && decide (y < l.ay) && decide (trn l.ax l.ay l.bx l.b_y x y < 0)
def wStep (l : Leg) (x y : Int) : Int := if wUp l x y = true then 1 else if wDown l x y = true then -1 else 0
def windTo (h : Bool) (ls : List Leg) (x y : Int) : Nat → Int
 | 0 => 0
 | k + 1 => windTo h ls x y k + wStep (dblL h (lg ls k)) x y
def wind (h : Bool) (ls : List Leg) (x y : Int) : Int := windTo h ls x y ls.length
theorem windTo_bd (h : Bool) (ls : List Leg) (x y : Int) : ∀ k : Nat, -(k : Int) ≤ windTo h ls x y k ∧ windTo h ls x y k ≤ k
 | 0 => by simp [windTo]
 | k + 1 => by
  have := windTo_bd h ls x y k
  have h2 : -1 ≤ wStep (dblL h (lg ls k)) x y ∧ wStep (dblL h (lg ls k)) x y ≤ 1 := by unfold wStep; split <;> (try split) <;> omega
  simp only [windTo]
  omega
theorem lg_ok {ls : List Leg} (h : ∀ l ∈ ls, legOk l) {k : Nat} (hk : k < ls.length) : legOk (lg ls k) := by
 rw [← at_l hk]
 exact h _ (List.getElem_mem hk)
theorem dblL_bd (h : Bool) {l : Leg} (hl : legOk l) : bdM (dblL h l).ax ∧ bdM (dblL h l).ay ∧ bdM (dblL h l).bx ∧ bdM (dblL h l).b_y := by
 obtain ⟨⟨a1, a2⟩, ⟨a3, a4⟩, ⟨b1, b2⟩, b3, b4⟩ := hl
 cases h
 ·simp only [dblL, bdM, Bool.false_eq_true, if_false]; omega
 ·simp only [dblL, bdM, if_true]; omega

theorem double_any (x y : Int) (w : World) (h1 : bdM x) (h2 : bdM y) : Calls Try.prog 64 #[ptV x y] w fun e w' => e = .returned (ptV (2 * x) (2 * y)) ∧ Over w w' := by
 refine walk_from (m := 10) (Try.func64) rfl rfl (Nat.le_of_ble_eq_true rfl) ?_
 refine at_seq ?_
 refine at_region ?_
 refine at_op rfl ?_
 refine op_box rfl rfl (rfl) rfl (by decide) (fun b1 => ?_)
 refine at_rsE (by simp only [ya,yb,yc,yd,Value.cells,ye]; rfl) ?_
 refine at_op rfl ?_
 refine op_alloc rfl tyz_impl_Pt rfl (by decide) (fun b2 => ?_)
 refine at_rsE (by simp only [ya,yb,yc,yd,Value.cells,ye]; rfl) ?_
 refine at_end ?_
 refine at_seq ?_
 refine at_region ?_
 refine at_q rfl rfl (by decide) (qt_fieldAddr rfl rfl tyf_impl_Pt_0) ?_
 refine at_q rfl rfl (by decide) (qt_load1 rfl rfl ty1_int64 (rd1 (k := 0) rfl rfl)) ?_
 refine at_q rfl rfl (by decide) (qt_mul rfl rfl rfl (by omega) (by omega)) ?_
 refine at_q rfl rfl (by decide) (qt_fieldAddr rfl rfl tyf_impl_Pt_1) ?_
 refine at_q rfl rfl (by decide) (qt_load1 rfl rfl ty1_int64 (rd1 (k := 0) rfl rfl)) ?_
 refine at_q rfl rfl (by decide) (qt_mul rfl rfl rfl (by omega) (by omega)) ?_
 refine at_q rfl rfl (by decide) (qt_build rfl rfl (bld_impl_Pt_0_1 rfl rfl)) ?_
 refine at_op rfl ?_
 refine op_storeAll' (k := 1) rfl rfl rfl rfl (rfl) (by rfl) tyz_impl_Pt.szx rfl rfl rfl ?_
 refine at_rsE (by simp only [ya,yb,yc,yd,Value.cells,ye]; rfl) ?_
 refine at_end ?_
 refine at_retc ?_
 refine at_ret1 rfl (rvCelS (k := 1) rfl tys_impl_Pt rfl rfl) ?_
 intro w' hs
 exact ⟨rfl, hs.fin⟩

theorem windingOf_any (A : Option Addr) (n c : Nat) (ls : List Leg) (x y : Int) (hf : Bool) (w : World) (h : Legs w A n ls) (hn : n ≤ 1048576) (hok : ∀ l ∈ ls, legOk l) (hx : bdM x) (hy : bdM y) :
  Calls Try.prog 43 #[.slice A n c, ptV x y, .bool hf] w fun e w' => e = .returned (.int .i64 (wind hf ls x y)) ∧ Over w w' := by
 have hl := h.1
 refine walk_from (m := 73) (Try.func43) rfl rfl (Nat.le_of_ble_eq_true rfl) ?_
 refine at_seq ?_
 refine at_region ?_
 refine at_op rfl ?_
 refine op_box rfl rfl (rfl) rfl (by decide) (fun b1 => ?_)
 refine at_rsE (by simp only [ya,yb,yc,yd,Value.cells,ye]; rfl) ?_
 refine at_q rfl rfl (by decide) (qt_assign rfl rfl) ?_
 refine at_end ?_
 refine at_seq ?_
 refine at_region ?_
 refine at_q rfl rfl (by decide) (qt_assign rfl rfl) ?_
 refine at_end ?_
 refine at_seq ?_
 refine at_seq ?_
 refine at_region ?_
 refine at_q rfl rfl (by decide) (qt_move rfl rfl) ?_
 refine at_q rfl rfl (by decide) (qt_len rfl rfl tyl_sl_impl_leg) ?_
 refine at_q rfl rfl (by decide) (qt_move rfl rfl) ?_
 refine at_end ?_
 refine at_block ?_
 refine at_loopk (X := Nat) (fun k => k ≤ n) (fun k => n - k) (fun k => [(7, .int .i64 (windTo hf ls x y k)), (14, .int .i64 (k : Int))]) (C := [(2, _), (4, _), (6, _), (12, _), (13, _)]) ⟨rfl, rfl, rfl, rfl, rfl, trivial⟩ 0 (Nat.zero_le _) ⟨rfl, rfl, rfl, rfl, rfl, rfl, rfl, trivial⟩ ?_
 intro k hk L hL1
 refine at_envE (by simp only [ya,yb]; rfl) ?_
 have hwb := windTo_bd hf ls x y k
 refine at_seq ?_
 refine at_region ?_
 refine at_q rfl rfl (by decide) (qt_lss rfl rfl rfl) ?_
 refine at_end ?_
 refine at_seq ?_
 refine at_cond rfl (fun c1 => ?_) (fun c1 => ?_)
 ·try simp only [za,zb,zc,zd,ze,zf,Bool.not_true,Bool.not_false,zg,zh,ne_eq,zi,zj] at c1
  have hlt : k < n := (by omega)
  obtain ⟨bb, oo, rfl⟩ := h.form (by omega)
  have hle := lg_ok hok (show k < ls.length by omega)
  obtain ⟨d1, d2, d3, d4⟩ := dblL_bd hf hle
  obtain ⟨⟨e1, e2⟩, ⟨e3, e4⟩, ⟨e5, e6⟩, e7, e8⟩ := hle
  refine at_skip ?_
  refine norm_then ?_
  refine at_seq ?_
  refine at_block ?_
  refine at_seq ?_
  refine at_region ?_
  refine at_q rfl rfl (by decide) (qt_index rfl rfl rfl tyl_sl_impl_leg (by omega)) ?_
  refine at_q rfl rfl (by decide) (qt_loadS rfl rfl tys_impl_leg rfl (rdLeg (fun w' hs => h.over hs.fin) hlt)) ?_
  refine at_op rfl ?_
  refine op_alloc rfl tyz_impl_leg rfl (by decide) (fun b2 => ?_)
  refine at_rsE (by simp only [ya,yb,yc,yd,Value.cells,ye]; rfl) ?_
  refine at_op rfl ?_
  refine op_storeAll' (k := 1) rfl rfl rfl rfl (rfl) (by rfl) tyz_impl_leg.szx rfl rfl rfl ?_
  refine at_rsE (by simp only [ya,yb,yc,yd,Value.cells,ye]; rfl) ?_
  refine at_end ?_
  refine at_seq ?_
  refine dg_start mixed rfl ?_
  refine dg_phase 8 ?_
  refine dg_q (i := 0) rfl (by kernel_rfl) (by kernel_rfl) (by kernel_rfl) [] (by kernel_rfl) (fun _ _ _ h => h) rfl rfl (by decide) (fun _ h => h.upto ⟨rfl, rfl, trivial⟩) (qt_fieldAddr rfl rfl tyf_impl_leg_0) ?_
  refine dg_q (i := 1) rfl (by kernel_rfl) (by kernel_rfl) (by kernel_rfl) [] (by kernel_rfl) (fun _ _ _ h => h) rfl rfl (by decide) (fun _ h => h.upto ⟨rfl, rfl, trivial⟩) (qt_loadS rfl rfl tys_impl_Pt rfl (rd2 (k := 1) rfl rfl rfl)) ?_
  refine dg_q (i := 2) rfl (by kernel_rfl) (by kernel_rfl) (by kernel_rfl) [] (by kernel_rfl) (fun _ _ _ h => h) rfl rfl (by decide) (fun _ h => h.upto ⟨rfl, rfl, trivial⟩) (qt_fieldAddr rfl rfl tyf_impl_leg_1) ?_
  refine dg_q (i := 3) rfl (by kernel_rfl) (by kernel_rfl) (by kernel_rfl) [] (by kernel_rfl) (fun _ _ _ h => h) rfl rfl (by decide) (fun _ h => h.upto ⟨rfl, rfl, trivial⟩) (qt_loadS rfl rfl tys_impl_Pt rfl (rd2 (k := 1) rfl rfl rfl)) ?_
  refine dg_new2 (i := 4) (j := 5) rfl rfl (by decide) (by decide) (by decide) rfl rfl rfl rfl (by decide) (by decide) (by decide) rfl rfl tyz_impl_Pt tyz_impl_Pt (by kernel_rfl) (by kernel_rfl) (by kernel_rfl) (fun _ h => h.upto ⟨rfl, rfl, trivial⟩) (fun b3 b4 => ?_)
  refine at_rsE (by simp only [ya,yb,yc,yd,Value.cells,ye]; rfl) ?_
  refine dg_one (i := 6) rfl (by decide) (by kernel_rfl) rfl ?_
  refine op_storeAll' (k := 2) rfl rfl rfl rfl (rfl) (by rfl) tyz_impl_Pt.szx rfl rfl rfl ?_
  refine at_rsE (by simp only [ya,yb,yc,yd,Value.cells,ye]; rfl) ?_
  refine dr_keep (fun _ h => h.upto ⟨rfl, rfl, trivial⟩) ?_
  refine dg_one (i := 7) rfl (by decide) (by kernel_rfl) rfl ?_
  refine op_storeAll' (k := 3) rfl rfl rfl rfl (rfl) (by rfl) tyz_impl_Pt.szx rfl rfl rfl ?_
  refine at_rsE (by simp only [ya,yb,yc,yd,Value.cells,ye]; rfl) ?_
  refine dr_keep (fun _ h => h.upto ⟨rfl, rfl, trivial⟩) ?_
  refine dg_done (by kernel_rfl) ?_
  refine norm_then ?_
  refine at_cut [] (C := [(2, _), (4, _), (6, _), (12, _), (13, _), (7, _), (14, _), (15, _), (16, _), (17, _), (9, _), (18, _), (19, _), (20, _), (21, _), (10, _), (11, _)]) ([.cel b1 49 [.int .i64 x, .int .i64 y], .cel b2 61 (legCells (lg ls k)), .cel b3 49 [.int .i64 (dblL hf (lg ls k)).ax, .int .i64 (dblL hf (lg ls k)).ay], .cel b4 49 [.int .i64 (dblL hf (lg ls k)).bx, .int .i64 (dblL hf (lg ls k)).b_y]]) ⟨rfl, rfl, rfl, rfl, rfl, rfl, rfl, rfl, rfl, rfl, rfl, rfl, rfl, rfl, rfl, rfl, rfl, trivial⟩ (fun L hC_cutif_t22 => ?_) ?_
  ·refine at_seq ?_
   refine at_region ?_
   refine at_q rfl rfl (by decide) (qt_move rfl rfl) ?_
   refine at_end ?_
   refine at_cond rfl (fun c2 => ?_) (fun c2 => ?_)
   ·try simp only [za,zb,zc,zd,ze,zf,Bool.not_true,Bool.not_false,zg,zh,ne_eq,zi,zj] at c2
    refine dg_start mixed rfl ?_
    refine dg_phase 4 ?_
    refine dg_q (i := 0) rfl (by kernel_rfl) (by kernel_rfl) (by kernel_rfl) [] (by kernel_rfl) (fun _ _ _ h => h) rfl rfl (by decide) (fun _ h => h.upto ⟨rfl, rfl, rfl, rfl, trivial⟩) (qt_loadS rfl rfl tys_impl_Pt rfl (rdAll (k := 2) rfl)) ?_
    refine dg_q (i := 1) rfl (by kernel_rfl) (by kernel_rfl) (by kernel_rfl) [] (by kernel_rfl) (fun _ _ _ h => h) rfl rfl (by decide) (fun _ h => h.upto ⟨rfl, rfl, rfl, rfl, trivial⟩) (qt_call ok_impl_double rfl rfl (fun w h => double_any _ _ w ⟨by omega, by omega⟩ ⟨by omega, by omega⟩)) ?_
    refine dg_q (i := 2) rfl (by kernel_rfl) (by kernel_rfl) (by kernel_rfl) [3] (by kernel_rfl) (fun _ _ _ h => h) rfl rfl (by decide) (fun _ h => h.upto ⟨rfl, rfl, rfl, rfl, trivial⟩) (qt_loadS rfl rfl tys_impl_Pt rfl (rdAll (k := 3) rfl)) ?_
    refine dg_q (i := 3) rfl (by kernel_rfl) (by kernel_rfl) (by kernel_rfl) [] (by kernel_rfl) (fun _ _ _ h => h) rfl rfl (by decide) (fun _ h => h.upto ⟨rfl, rfl, rfl, rfl, trivial⟩) (qt_call ok_impl_double rfl rfl (fun w h => double_any _ _ w ⟨by omega, by omega⟩ ⟨by omega, by omega⟩)) ?_
    refine dg_bar rfl (by kernel_rfl) rfl ?_
    refine op_storeAll' (k := 2) rfl rfl rfl rfl (rfl) (by rfl) tyz_impl_Pt.szx rfl rfl rfl ?_
    refine at_rsE (by simp only [ya,yb,yc,yd,Value.cells,ye]; rfl) ?_
    refine dg_phaseW 6 [3] ?_
    refine dg_one (i := 5) rfl (by decide) (by kernel_rfl) rfl ?_
    refine op_storeAll' (k := 3) rfl rfl rfl rfl (rfl) (by rfl) tyz_impl_Pt.szx rfl rfl rfl ?_
    refine at_rsE (by simp only [ya,yb,yc,yd,Value.cells,ye]; rfl) ?_
    refine dr_keep (fun _ h => (h.wk [3]).upto ⟨rfl, rfl, rfl, rfl, trivial⟩) ?_
    refine dg_done (by kernel_rfl) ?_
    refine norm_then ?_
    exact at_meet hC_cutif_t22 ⟨rfl, rfl, rfl, rfl, rfl, rfl, rfl, rfl, rfl, rfl, rfl, rfl, rfl, rfl, rfl, rfl, rfl, trivial⟩ (fun _ h => h.upto ⟨rfl, rfl, by rw [dblL, if_pos c2], by rw [dblL, if_pos c2], trivial⟩)
   ·try simp only [za,zb,zc,zd,ze,zf,Bool.not_true,Bool.not_false,zg,zh,ne_eq,zi,zj] at c2
    refine at_skip ?_
    refine norm_then ?_
    exact at_meet hC_cutif_t22 ⟨rfl, rfl, rfl, rfl, rfl, rfl, rfl, rfl, rfl, rfl, rfl, rfl, rfl, rfl, rfl, rfl, rfl, trivial⟩ (fun _ h => h.upto ⟨rfl, rfl, by rw [dblL, c2]; rfl, by rw [dblL, c2]; rfl, trivial⟩)
  ·refine at_envE (by simp only [ya,yb]; rfl) ?_
   refine at_block ?_
   refine at_cutE [(27, .bool (wUp (dblL hf (lg ls k)) x y))] (C := [(2, _), (4, _), (6, _), (12, _), (13, _), (7, _), (14, _), (15, _), (16, _), (17, _), (9, _), (18, _), (19, _), (20, _), (21, _), (10, _), (11, _)])  ⟨rfl, rfl, rfl, rfl, rfl, rfl, rfl, rfl, rfl, rfl, rfl, rfl, rfl, rfl, rfl, rfl, rfl, trivial⟩ (fun L hC_cut_8 => ?_) ?_
   ·refine at_region ?_
    refine at_q rfl rfl (by decide) (qt_fieldAddr rfl rfl tyf_impl_Pt_1) ?_
    refine at_q rfl rfl (by decide) (qt_load1 rfl rfl ty1_int64 (rd1 (k := 2) rfl rfl)) ?_
    refine at_q rfl rfl (by decide) (qt_fieldAddr rfl rfl tyf_impl_Pt_1) ?_
    refine at_q rfl rfl (by decide) (qt_load1 rfl rfl ty1_int64 (rd1 (k := 0) rfl rfl)) ?_
    refine at_q rfl rfl (by decide) (qt_leq rfl rfl rfl) ?_
    refine at_q rfl rfl (by decide) (qt_move rfl rfl) ?_
    refine at_bsplit 33 rfl (fun g1 => ?_) (fun g1 => ?_)
    ·try simp only [za,zb,zc,zd,ze,zf,Bool.not_true,Bool.not_false,zg,zh,ne_eq,zi,zj] at g1
     refine at_on rfl rfl rfl rfl ?_
     refine op_q rfl (by decide) (qt_fieldAddr rfl rfl tyf_impl_Pt_1) ?_
     refine at_on rfl rfl rfl rfl ?_
     refine op_q rfl (by decide) (qt_load1 rfl rfl ty1_int64 (rd1 (k := 0) rfl rfl)) ?_
     refine at_on rfl rfl rfl rfl ?_
     refine op_q rfl (by decide) (qt_fieldAddr rfl rfl tyf_impl_Pt_1) ?_
     refine at_on rfl rfl rfl rfl ?_
     refine op_q rfl (by decide) (qt_load1 rfl rfl ty1_int64 (rd1 (k := 3) rfl rfl)) ?_
     refine at_on rfl rfl rfl rfl ?_
     refine op_q rfl (by decide) (qt_lss rfl rfl rfl) ?_
     refine at_q rfl rfl (by decide) (qt_pickT rfl rfl rfl) ?_
     refine at_q rfl rfl (by decide) (qt_move rfl rfl) ?_
     refine at_bsplit 40 rfl (fun g2 => ?_) (fun g2 => ?_)
     ·try simp only [za,zb,zc,zd,ze,zf,Bool.not_true,Bool.not_false,zg,zh,ne_eq,zi,zj] at g2
      refine at_on rfl rfl rfl rfl ?_
      refine op_q rfl (by decide) (qt_loadS rfl rfl tys_impl_Pt rfl (rdAll (k := 2) rfl)) ?_
      refine at_on rfl rfl rfl rfl ?_
      refine op_q rfl (by decide) (qt_loadS rfl rfl tys_impl_Pt rfl (rdAll (k := 3) rfl)) ?_
      refine at_on rfl rfl rfl rfl ?_
      refine op_q rfl (by decide) (qt_loadS rfl rfl tys_impl_Pt rfl (rdAll (k := 0) rfl)) ?_
      refine at_on rfl rfl rfl rfl ?_
      refine op_q rfl (by decide) (qt_call ok_impl_turn rfl rfl (fun w h => turn_any _ _ _ _ _ _ w d1.1 d1.2 d2.1 d2.2 d3.1 d3.2 d4.1 d4.2 hx.1 hx.2 hy.1 hy.2)) ?_
      refine at_on rfl rfl rfl rfl ?_
      refine op_q rfl (by decide) (qt_gtr rfl rfl rfl) ?_
      refine at_q rfl rfl (by decide) (qt_pickT rfl rfl rfl) ?_
      refine at_q rfl rfl (by decide) (qt_assign rfl rfl) ?_
      refine at_end ?_
      exact at_meet hC_cut_8 ⟨vb (by simp [wUp, *]), rfl, rfl, rfl, rfl, rfl, rfl, rfl, rfl, rfl, rfl, rfl, rfl, rfl, rfl, rfl, rfl, rfl, trivial⟩ (fun _ h => h.upto ⟨rfl, rfl, rfl, rfl, trivial⟩)
     ·try simp only [za,zb,zc,zd,ze,zf,Bool.not_true,Bool.not_false,zg,zh,ne_eq,zi,zj] at g2
      refine at_off rfl rfl rfl rfl (by decide) rfl (by decide) ?_
      refine at_off rfl rfl rfl rfl (by decide) rfl (by decide) ?_
      refine at_off rfl rfl rfl rfl (by decide) rfl (by decide) ?_
      refine at_off rfl rfl rfl rfl (by decide) rfl (by decide) ?_
      refine at_off rfl rfl rfl rfl (by decide) rfl (by decide) ?_
      refine at_q rfl rfl (by decide) (qt_pickF rfl rfl rfl) ?_
      refine at_q rfl rfl (by decide) (qt_assign rfl rfl) ?_
      refine at_end ?_
      exact at_meet hC_cut_8 ⟨vb (by symm; simp [wUp]; omega), rfl, rfl, rfl, rfl, rfl, rfl, rfl, rfl, rfl, rfl, rfl, rfl, rfl, rfl, rfl, rfl, rfl, trivial⟩ (fun _ h => h.upto ⟨rfl, rfl, rfl, rfl, trivial⟩)
    ·try simp only [za,zb,zc,zd,ze,zf,Bool.not_true,Bool.not_false,zg,zh,ne_eq,zi,zj] at g1
     refine at_off rfl rfl rfl rfl (by decide) rfl (by decide) ?_
     refine at_off rfl rfl rfl rfl (by decide) rfl (by decide) ?_
     refine at_off rfl rfl rfl rfl (by decide) rfl (by decide) ?_
     refine at_off rfl rfl rfl rfl (by decide) rfl (by decide) ?_
     refine at_off rfl rfl rfl rfl (by decide) rfl (by decide) ?_
     refine at_q rfl rfl (by decide) (qt_pickF rfl rfl rfl) ?_
     refine at_q rfl rfl (by decide) (qt_move rfl rfl) ?_
     refine at_off rfl rfl rfl rfl (by decide) rfl (by decide) ?_
     refine at_off rfl rfl rfl rfl (by decide) rfl (by decide) ?_
     refine at_off rfl rfl rfl rfl (by decide) rfl (by decide) ?_
     refine at_off rfl rfl rfl rfl (by decide) rfl (by decide) ?_
     refine at_off rfl rfl rfl rfl (by decide) rfl (by decide) ?_
     refine at_q rfl rfl (by decide) (qt_pickF rfl rfl rfl) ?_
     refine at_q rfl rfl (by decide) (qt_assign rfl rfl) ?_
     refine at_end ?_
     exact at_meet hC_cut_8 ⟨vb (by symm; simp [wUp]; omega), rfl, rfl, rfl, rfl, rfl, rfl, rfl, rfl, rfl, rfl, rfl, rfl, rfl, rfl, rfl, rfl, rfl, trivial⟩ (fun _ h => h.upto ⟨rfl, rfl, rfl, rfl, trivial⟩)
   ·refine at_envE (by simp only [ya,yb]; rfl) ?_
    refine at_cond rfl (fun c3 => ?_) (fun c3 => ?_)
    ·try simp only [za,zb,zc,zd,ze,zf,Bool.not_true,Bool.not_false,zg,zh,ne_eq,zi,zj] at c3
     refine at_region ?_
     refine at_q rfl rfl (by decide) (qt_move rfl rfl) ?_
     refine at_q rfl rfl (by decide) (qt_add rfl rfl rfl (by omega) (by omega)) ?_
     refine at_q rfl rfl (by decide) (qt_assign rfl rfl) ?_
     refine at_nil ?_
     refine norm_block ?_
     refine norm_block ?_
     refine norm_then ?_
     refine at_region ?_
     refine at_q rfl rfl (by decide) (qt_add rfl rfl rfl (by omega) (by omega)) ?_
     refine at_q rfl rfl (by decide) (qt_move rfl rfl) ?_
     refine at_end ?_
     exact at_againk hL1 (k + 1) (by omega) (by omega) ⟨vi (by rw [windTo, wStep, if_pos c3]), vi (by omega), rfl, rfl, rfl, rfl, rfl, trivial⟩ (fun _ h => h.upto ⟨rfl, trivial⟩)
    ·try simp only [za,zb,zc,zd,ze,zf,Bool.not_true,Bool.not_false,zg,zh,ne_eq,zi,zj] at c3
     refine at_cutE [(49, .bool (wDown (dblL hf (lg ls k)) x y))] (C := [(2, _), (4, _), (6, _), (12, _), (13, _), (7, _), (14, _), (15, _), (16, _), (17, _), (9, _), (18, _), (19, _), (20, _), (21, _), (10, _), (11, _), (27, _)])  ⟨rfl, rfl, rfl, rfl, rfl, rfl, rfl, rfl, rfl, rfl, rfl, rfl, rfl, rfl, rfl, rfl, rfl, rfl, trivial⟩ (fun L hC_cut_10 => ?_) ?_
     ·refine at_region ?_
      refine at_q rfl rfl (by decide) (qt_fieldAddr rfl rfl tyf_impl_Pt_1) ?_
      refine at_q rfl rfl (by decide) (qt_load1 rfl rfl ty1_int64 (rd1 (k := 3) rfl rfl)) ?_
      refine at_q rfl rfl (by decide) (qt_fieldAddr rfl rfl tyf_impl_Pt_1) ?_
      refine at_q rfl rfl (by decide) (qt_load1 rfl rfl ty1_int64 (rd1 (k := 0) rfl rfl)) ?_
      refine at_q rfl rfl (by decide) (qt_leq rfl rfl rfl) ?_
      refine at_q rfl rfl (by decide) (qt_move rfl rfl) ?_
      refine at_bsplit 55 rfl (fun g3 => ?_) (fun g3 => ?_)
      ·try simp only [za,zb,zc,zd,ze,zf,Bool.not_true,Bool.not_false,zg,zh,ne_eq,zi,zj] at g3
       refine at_on rfl rfl rfl rfl ?_
       refine op_q rfl (by decide) (qt_fieldAddr rfl rfl tyf_impl_Pt_1) ?_
       refine at_on rfl rfl rfl rfl ?_
       refine op_q rfl (by decide) (qt_load1 rfl rfl ty1_int64 (rd1 (k := 0) rfl rfl)) ?_
       refine at_on rfl rfl rfl rfl ?_
       refine op_q rfl (by decide) (qt_fieldAddr rfl rfl tyf_impl_Pt_1) ?_
       refine at_on rfl rfl rfl rfl ?_
       refine op_q rfl (by decide) (qt_load1 rfl rfl ty1_int64 (rd1 (k := 2) rfl rfl)) ?_
       refine at_on rfl rfl rfl rfl ?_
       refine op_q rfl (by decide) (qt_lss rfl rfl rfl) ?_
       refine at_q rfl rfl (by decide) (qt_pickT rfl rfl rfl) ?_
       refine at_q rfl rfl (by decide) (qt_move rfl rfl) ?_
       refine at_bsplit 62 rfl (fun g4 => ?_) (fun g4 => ?_)
       ·try simp only [za,zb,zc,zd,ze,zf,Bool.not_true,Bool.not_false,zg,zh,ne_eq,zi,zj] at g4
        refine at_on rfl rfl rfl rfl ?_
        refine op_q rfl (by decide) (qt_loadS rfl rfl tys_impl_Pt rfl (rdAll (k := 2) rfl)) ?_
        refine at_on rfl rfl rfl rfl ?_
        refine op_q rfl (by decide) (qt_loadS rfl rfl tys_impl_Pt rfl (rdAll (k := 3) rfl)) ?_
        refine at_on rfl rfl rfl rfl ?_
        refine op_q rfl (by decide) (qt_loadS rfl rfl tys_impl_Pt rfl (rdAll (k := 0) rfl)) ?_
        refine at_on rfl rfl rfl rfl ?_
        refine op_q rfl (by decide) (qt_call ok_impl_turn rfl rfl (fun w h => turn_any _ _ _ _ _ _ w d1.1 d1.2 d2.1 d2.2 d3.1 d3.2 d4.1 d4.2 hx.1 hx.2 hy.1 hy.2)) ?_
        refine at_on rfl rfl rfl rfl ?_
        refine op_q rfl (by decide) (qt_lss rfl rfl rfl) ?_
        refine at_q rfl rfl (by decide) (qt_pickT rfl rfl rfl) ?_
        refine at_q rfl rfl (by decide) (qt_assign rfl rfl) ?_
        refine at_end ?_
        exact at_meet hC_cut_10 ⟨vb (by simp [wDown, *]), rfl, rfl, rfl, rfl, rfl, rfl, rfl, rfl, rfl, rfl, rfl, rfl, rfl, rfl, rfl, rfl, rfl, rfl, trivial⟩ (fun _ h => h.upto ⟨rfl, rfl, rfl, rfl, trivial⟩)
       ·try simp only [za,zb,zc,zd,ze,zf,Bool.not_true,Bool.not_false,zg,zh,ne_eq,zi,zj] at g4
        refine at_off rfl rfl rfl rfl (by decide) rfl (by decide) ?_
        refine at_off rfl rfl rfl rfl (by decide) rfl (by decide) ?_
        refine at_off rfl rfl rfl rfl (by decide) rfl (by decide) ?_
        refine at_off rfl rfl rfl rfl (by decide) rfl (by decide) ?_
        refine at_off rfl rfl rfl rfl (by decide) rfl (by decide) ?_
        refine at_q rfl rfl (by decide) (qt_pickF rfl rfl rfl) ?_
        refine at_q rfl rfl (by decide) (qt_assign rfl rfl) ?_
        refine at_end ?_
        exact at_meet hC_cut_10 ⟨vb (by symm; simp [wDown]; omega), rfl, rfl, rfl, rfl, rfl, rfl, rfl, rfl, rfl, rfl, rfl, rfl, rfl, rfl, rfl, rfl, rfl, rfl, trivial⟩ (fun _ h => h.upto ⟨rfl, rfl, rfl, rfl, trivial⟩)
      ·try simp only [za,zb,zc,zd,ze,zf,Bool.not_true,Bool.not_false,zg,zh,ne_eq,zi,zj] at g3
       refine at_off rfl rfl rfl rfl (by decide) rfl (by decide) ?_
       refine at_off rfl rfl rfl rfl (by decide) rfl (by decide) ?_
       refine at_off rfl rfl rfl rfl (by decide) rfl (by decide) ?_
       refine at_off rfl rfl rfl rfl (by decide) rfl (by decide) ?_
       refine at_off rfl rfl rfl rfl (by decide) rfl (by decide) ?_
       refine at_q rfl rfl (by decide) (qt_pickF rfl rfl rfl) ?_
       refine at_q rfl rfl (by decide) (qt_move rfl rfl) ?_
       refine at_off rfl rfl rfl rfl (by decide) rfl (by decide) ?_
       refine at_off rfl rfl rfl rfl (by decide) rfl (by decide) ?_
       refine at_off rfl rfl rfl rfl (by decide) rfl (by decide) ?_
       refine at_off rfl rfl rfl rfl (by decide) rfl (by decide) ?_
       refine at_off rfl rfl rfl rfl (by decide) rfl (by decide) ?_
       refine at_q rfl rfl (by decide) (qt_pickF rfl rfl rfl) ?_
       refine at_q rfl rfl (by decide) (qt_assign rfl rfl) ?_
       refine at_end ?_
       exact at_meet hC_cut_10 ⟨vb (by symm; simp [wDown]; omega), rfl, rfl, rfl, rfl, rfl, rfl, rfl, rfl, rfl, rfl, rfl, rfl, rfl, rfl, rfl, rfl, rfl, rfl, trivial⟩ (fun _ h => h.upto ⟨rfl, rfl, rfl, rfl, trivial⟩)
     ·refine at_envE (by simp only [ya,yb]; rfl) ?_
      refine at_cond rfl (fun c4 => ?_) (fun c4 => ?_)
      ·try simp only [za,zb,zc,zd,ze,zf,Bool.not_true,Bool.not_false,zg,zh,ne_eq,zi,zj] at c4
       refine at_region ?_
       refine at_q rfl rfl (by decide) (qt_move rfl rfl) ?_
       refine at_q rfl rfl (by decide) (qt_sub rfl rfl rfl (by omega) (by omega)) ?_
       refine at_q rfl rfl (by decide) (qt_assign rfl rfl) ?_
       refine at_nil ?_
       refine norm_block ?_
       refine norm_block ?_
       refine norm_then ?_
       refine at_region ?_
       refine at_q rfl rfl (by decide) (qt_add rfl rfl rfl (by omega) (by omega)) ?_
       refine at_q rfl rfl (by decide) (qt_move rfl rfl) ?_
       refine at_end ?_
       exact at_againk hL1 (k + 1) (by omega) (by omega) ⟨vi (by rw [windTo, wStep, c3, if_neg (by simp), if_pos c4]; rfl), vi (by omega), rfl, rfl, rfl, rfl, rfl, trivial⟩ (fun _ h => h.upto ⟨rfl, trivial⟩)
      ·try simp only [za,zb,zc,zd,ze,zf,Bool.not_true,Bool.not_false,zg,zh,ne_eq,zi,zj] at c4
       refine at_skip ?_
       refine norm_block ?_
       refine norm_block ?_
       refine norm_then ?_
       refine at_region ?_
       refine at_q rfl rfl (by decide) (qt_add rfl rfl rfl (by omega) (by omega)) ?_
       refine at_q rfl rfl (by decide) (qt_move rfl rfl) ?_
       refine at_end ?_
       exact at_againk hL1 (k + 1) (by omega) (by omega) ⟨vi (by rw [windTo, wStep, c3, if_neg (by simp), c4, if_neg (by simp)]; omega), vi (by omega), rfl, rfl, rfl, rfl, rfl, trivial⟩ (fun _ h => h.upto ⟨rfl, trivial⟩)
 ·try simp only [za,zb,zc,zd,ze,zf,Bool.not_true,Bool.not_false,zg,zh,ne_eq,zi,zj] at c1
  refine at_exit ?_
  refine pass_then (fun h => by cases h) ?_
  refine pass_then (fun h => by cases h) ?_
  refine pass_hit ?_
  refine norm_then ?_
  refine at_seq ?_
  refine at_region ?_
  refine at_q rfl rfl (by decide) (qt_move rfl rfl) ?_
  refine at_q rfl rfl (by decide) (qt_assign rfl rfl) ?_
  refine at_end ?_
  refine at_retc ?_
  refine at_ret1 rfl (.tmp rfl) ?_
  intro w' hs
  exact ⟨retI (by rw [wind, hl, show k = n by omega]), hs.fin⟩

end Go.Proofs.Ytcigocejgmafjaa
