/- The law NetEdges. -/
import Derived.Test.YtcigocejgmafjaaNetU
import Derived.Test.YtcigocejgmafjaaLawKit
namespace Go.Proofs.Ytcigocejgmafjaa
open Go Go.RowKit
set_option linter.unusedVariables false
set_option linter.unusedSimpArgs false
set_option maxRecDepth 100000
set_option maxHeartbeats 4000000
set_option linter.unusedVariables false
set_option linter.unusedSimpArgs false

/-- The j-th of the numbers of an entry is v. -/
def putNe (i : Nat) (v : Int) (x : Ne) : Ne := match i with
 | 0 => { x with e := { x.e with ax := v } }
 | 1 => { x with e := { x.e with ay := v } }
 | 2 => { x with e := { x.e with bx := v } }
 | 3 => { x with e := { x.e with b_y := v } }
 | 4 => { x with net := v }
 | 5 => { x with left := v }
 | _ => { x with right := v }
def nE (l : List Ne) (k : Nat) : Ne := l.getD k ⟨⟨0, 0, 0, 0⟩, 0, 0, 0⟩
theorem nE_get {l : List Ne} {k : Nat} (h : k < l.length) : l[k]? = some (nE l k) := by simp [nE, List.getD, h]
theorem put_ne {l : List Ne} {k i off : Nat} {x : Ne} {v : Int} (h : k < l.length) (hi : i < 7) (ho : off = 0 + k * 7 + i) : splice ((l.set k x).flatMap neCells) off [.int .i64 v] = (l.set k (putNe i v x)).flatMap neCells := by
 subst ho
 have hx : (l.set k x)[k]? = some x := by simp [h]
 have e : (l.set k x).set k (putNe i v x) = l.set k (putNe i v x) := List.set_set ..
 rw [← e]
 match i, hi with
 | 0, _ => exact flat_splice neCells neCells_len hx [] [.int .i64 x.e.ax] [.int .i64 v] [.int .i64 x.e.ay, .int .i64 x.e.bx, .int .i64 x.e.b_y, .int .i64 x.net, .int .i64 x.left, .int .i64 x.right] rfl rfl rfl (by simp)
 | 1, _ => exact flat_splice neCells neCells_len hx [.int .i64 x.e.ax] [.int .i64 x.e.ay] [.int .i64 v] [.int .i64 x.e.bx, .int .i64 x.e.b_y, .int .i64 x.net, .int .i64 x.left, .int .i64 x.right] rfl rfl rfl (by simp)
 | 2, _ => exact flat_splice neCells neCells_len hx [.int .i64 x.e.ax, .int .i64 x.e.ay] [.int .i64 x.e.bx] [.int .i64 v] [.int .i64 x.e.b_y, .int .i64 x.net, .int .i64 x.left, .int .i64 x.right] rfl rfl rfl (by simp)
 | 3, _ => exact flat_splice neCells neCells_len hx [.int .i64 x.e.ax, .int .i64 x.e.ay, .int .i64 x.e.bx] [.int .i64 x.e.b_y] [.int .i64 v] [.int .i64 x.net, .int .i64 x.left, .int .i64 x.right] rfl rfl rfl (by simp)
 | 4, _ => exact flat_splice neCells neCells_len hx [.int .i64 x.e.ax, .int .i64 x.e.ay, .int .i64 x.e.bx, .int .i64 x.e.b_y] [.int .i64 x.net] [.int .i64 v] [.int .i64 x.left, .int .i64 x.right] rfl rfl rfl (by simp)
 | 5, _ => exact flat_splice neCells neCells_len hx [.int .i64 x.e.ax, .int .i64 x.e.ay, .int .i64 x.e.bx, .int .i64 x.e.b_y, .int .i64 x.net] [.int .i64 x.left] [.int .i64 v] [.int .i64 x.right] rfl rfl rfl (by simp)
 | 6, _ => exact flat_splice neCells neCells_len hx [.int .i64 x.e.ax, .int .i64 x.e.ay, .int .i64 x.e.bx, .int .i64 x.e.b_y, .int .i64 x.net, .int .i64 x.left] [.int .i64 x.right] [.int .i64 v] [] rfl rfl rfl (by simp)
theorem set_self {l : List Ne} {k : Nat} (h : k < l.length) : l = l.set k (nE l k) := by
 refine List.ext_getElem (by simp) fun j h1 h2 => ?_
 rw [List.getElem_set]
 split
 ·rename_i e; subst e; simp [nE, List.getD, h1]
 ·rfl
def mkNe (m : Int) (k : Nat) : Ne := ⟨⟨m + 7 * (k : Int), m + 7 * (k : Int) + 1, m + 7 * (k : Int) + 2, m + 7 * (k : Int) + 3⟩, m + 7 * (k : Int) + 4, m + 7 * (k : Int) + 5, m + 7 * (k : Int) + 6⟩
/-- Marks up to k. -/
def mixNe (m : Int) (l : List Ne) (k : Nat) : List Ne := (List.range l.length).map fun j => if j < k then mkNe m j else nE l j
theorem mixNe_len (m : Int) (l : List Ne) (k : Nat) : (mixNe m l k).length = l.length := by simp [mixNe]
theorem mixNe_zero (m : Int) (l : List Ne) : mixNe m l 0 = l := by
 refine List.ext_getElem (by simp [mixNe]) fun j h1 h2 => ?_
 simp [mixNe, nE, List.getD, h2]
theorem mixNe_step {m : Int} {l : List Ne} {k : Nat} (h : k < l.length) : mixNe m l (k + 1) = (mixNe m l k).set k (mkNe m k) := by
 refine List.ext_getElem (by simp [mixNe]) fun j h1 h2 => ?_
 rw [List.getElem_set]
 simp only [mixNe, List.getElem_map, List.getElem_range]
 by_cases e : k = j
 ·subst e; rw [if_pos (by omega), if_pos rfl]
 ·rw [if_neg e]
  by_cases c : j < k
  ·rw [if_pos c, if_pos (by omega)]
  ·rw [if_neg c, if_neg (by omega)]
theorem eqPt_ss (p : Pn) (w : World) : Calls Try.prog 44 #[pV p, pV p] w fun e w' => e = .returned (.bool true) ∧ Over w w' := by
 refine (eqPt_any p.1 p.2 p.1 p.2 w).mono ?_
 rintro e w' ⟨rfl, h⟩
 exact ⟨by simp, h⟩
theorem neF {a b : Int} (h : a = b) : (!(a == b)) = false := by rw [h]; simp
theorem eqNe_same (x : Ne) (w : World) : Calls Try.prog 25 #[neV x, neV x] w fun e w' => e = .returned (.bool true) ∧ Over w w' := by
 refine walk_from (m := 32) (Try.func25) rfl rfl (Nat.le_of_ble_eq_true rfl) ?_
 refine at_seq ?_
 refine at_region ?_
 refine at_op rfl ?_
 refine op_box rfl rfl (rfl) rfl (by decide) (fun b1 => ?_)
 refine at_rsE (by simp only [ya,yb,yc,yd,Value.cells,ye]; rfl) ?_
 refine at_op rfl ?_
 refine op_box rfl rfl (rfl) rfl (by decide) (fun b2 => ?_)
 refine at_rsE (by simp only [ya,yb,yc,yd,Value.cells,ye]; rfl) ?_
 refine at_q rfl rfl (by decide) (qt_assign rfl rfl) ?_
 refine at_end ?_
 refine at_seq ?_
 refine at_seq ?_
 refine at_region ?_
 refine at_q rfl rfl (by decide) (qt_fieldAddr rfl rfl tyf_impl_NetEdge_0) ?_
 refine at_q rfl rfl (by decide) (qt_loadS rfl rfl tys_impl_Pt rfl (rd2 (k := 0) rfl rfl rfl)) ?_
 refine at_q rfl rfl (by decide) (qt_fieldAddr rfl rfl tyf_impl_NetEdge_0) ?_
 refine at_q rfl rfl (by decide) (qt_loadS rfl rfl tys_impl_Pt rfl (rd2 (k := 1) rfl rfl rfl)) ?_
 refine at_q rfl rfl (by decide) (qt_call ok_laws_eqPt rfl rfl (fun w1 hs => eqPt_ss (lA x.e) w1)) ?_
 refine at_q rfl rfl (by decide) (qt_not rfl rfl) ?_
 refine at_end ?_
 refine at_no rfl (rfl) ?_
 refine at_skip ?_
 refine norm_then ?_
 refine at_seq ?_
 refine at_seq ?_
 refine at_region ?_
 refine at_q rfl rfl (by decide) (qt_fieldAddr rfl rfl tyf_impl_NetEdge_1) ?_
 refine at_q rfl rfl (by decide) (qt_loadS rfl rfl tys_impl_Pt rfl (rd2 (k := 0) rfl rfl rfl)) ?_
 refine at_q rfl rfl (by decide) (qt_fieldAddr rfl rfl tyf_impl_NetEdge_1) ?_
 refine at_q rfl rfl (by decide) (qt_loadS rfl rfl tys_impl_Pt rfl (rd2 (k := 1) rfl rfl rfl)) ?_
 refine at_q rfl rfl (by decide) (qt_call ok_laws_eqPt rfl rfl (fun w1 hs => eqPt_ss (lB x.e) w1)) ?_
 refine at_q rfl rfl (by decide) (qt_not rfl rfl) ?_
 refine at_end ?_
 refine at_no rfl (rfl) ?_
 refine at_skip ?_
 refine norm_then ?_
 refine at_seq ?_
 refine at_seq ?_
 refine at_region ?_
 refine at_q rfl rfl (by decide) (qt_fieldAddr rfl rfl tyf_impl_NetEdge_2) ?_
 refine at_q rfl rfl (by decide) (qt_load1 rfl rfl ty1_int64 (rd1 (k := 0) rfl rfl)) ?_
 refine at_q rfl rfl (by decide) (qt_fieldAddr rfl rfl tyf_impl_NetEdge_2) ?_
 refine at_q rfl rfl (by decide) (qt_load1 rfl rfl ty1_int64 (rd1 (k := 1) rfl rfl)) ?_
 refine at_q rfl rfl (by decide) (qt_neq rfl rfl rfl) ?_
 refine at_end ?_
 refine at_no rfl (neSelf _) ?_
 refine at_skip ?_
 refine norm_then ?_
 refine at_seq ?_
 refine at_seq ?_
 refine at_region ?_
 refine at_q rfl rfl (by decide) (qt_fieldAddr rfl rfl tyf_impl_NetEdge_3) ?_
 refine at_q rfl rfl (by decide) (qt_load1 rfl rfl ty1_int64 (rd1 (k := 0) rfl rfl)) ?_
 refine at_q rfl rfl (by decide) (qt_fieldAddr rfl rfl tyf_impl_NetEdge_3) ?_
 refine at_q rfl rfl (by decide) (qt_load1 rfl rfl ty1_int64 (rd1 (k := 1) rfl rfl)) ?_
 refine at_q rfl rfl (by decide) (qt_neq rfl rfl rfl) ?_
 refine at_end ?_
 refine at_no rfl (neSelf _) ?_
 refine at_skip ?_
 refine norm_then ?_
 refine at_seq ?_
 refine at_seq ?_
 refine at_region ?_
 refine at_q rfl rfl (by decide) (qt_fieldAddr rfl rfl tyf_impl_NetEdge_4) ?_
 refine at_q rfl rfl (by decide) (qt_load1 rfl rfl ty1_int64 (rd1 (k := 0) rfl rfl)) ?_
 refine at_q rfl rfl (by decide) (qt_fieldAddr rfl rfl tyf_impl_NetEdge_4) ?_
 refine at_q rfl rfl (by decide) (qt_load1 rfl rfl ty1_int64 (rd1 (k := 1) rfl rfl)) ?_
 refine at_q rfl rfl (by decide) (qt_neq rfl rfl rfl) ?_
 refine at_end ?_
 refine at_no rfl (neSelf _) ?_
 refine at_skip ?_
 refine norm_then ?_
 refine at_seq ?_
 refine at_region ?_
 refine at_q rfl rfl (by decide) (qt_assign rfl rfl) ?_
 refine at_end ?_
 refine at_retc ?_
 refine at_ret1 rfl (.tmp rfl) ?_
 intro w' hs
 exact ⟨rfl, hs.fin⟩
theorem neVs {l : List Ne} {j : Nat} (h : j < l.length) : ∀ q v, [Value.int .i64 (nE l j).e.ax, .int .i64 (nE l j).e.ay, .int .i64 (nE l j).e.bx, .int .i64 (nE l j).e.b_y, .int .i64 (nE l j).net, .int .i64 (nE l j).left, .int .i64 (nE l j).right][q]? = some v → (neCells (nE l j))[0 + q]? = some v := fun q v hv => by rw [Nat.zero_add]; exact hv
theorem eqNeS_same (l : List Ne) (x y : Option Addr × Nat) (w : World) (hx : (neR l x).P w) (hy : (neR l y).P w) (hl : l.length ≤ 100000) :
  Calls Try.prog 8 #[.slice x.1 l.length x.2, .slice y.1 l.length y.2] w fun e w' => e = .returned (.bool true) ∧ Over w w' := by
 refine walk_from (m := 27) (Try.func8) rfl rfl (Nat.le_of_ble_eq_true rfl) ?_
 refine at_seq ?_
 refine at_region ?_
 refine at_q rfl rfl (by decide) (qt_assign rfl rfl) ?_
 refine at_end ?_
 refine at_seq ?_
 refine at_seq ?_
 refine at_region ?_
 refine at_q rfl rfl (by decide) (qt_move rfl rfl) ?_
 refine at_q rfl rfl (by decide) (qt_len rfl rfl tyl_sl_impl_NetEdge) ?_
 refine at_q rfl rfl (by decide) (qt_move rfl rfl) ?_
 refine at_q rfl rfl (by decide) (qt_len rfl rfl tyl_sl_impl_NetEdge) ?_
 refine at_q rfl rfl (by decide) (qt_neq rfl rfl rfl) ?_
 refine at_end ?_
 refine at_no rfl (neSelf _) ?_
 refine at_skip ?_
 refine norm_then ?_
 refine at_seq ?_
 refine at_seq ?_
 refine at_region ?_
 refine at_q rfl rfl (by decide) (qt_assign rfl rfl) ?_
 refine at_end ?_
 refine at_block ?_
 refine at_loopk (X := Nat) (fun k => k ≤ l.length) (fun k => l.length - k) (fun k => [(5, .int .i64 (k : Int))]) (C := [(0, _), (1, _), (4, _)]) ⟨rfl, rfl, rfl, trivial⟩ 0 (Nat.zero_le _) ⟨rfl, rfl, rfl, rfl, trivial⟩ ?_
 intro k hk L hL1
 refine at_envE (by simp only [ya,yb]; rfl) ?_
 refine at_seq ?_
 refine at_seq ?_
 refine at_region ?_
 refine at_q rfl rfl (by decide) (qt_move rfl rfl) ?_
 refine at_q rfl rfl (by decide) (qt_move rfl rfl) ?_
 refine at_q rfl rfl (by decide) (qt_len rfl rfl tyl_sl_impl_NetEdge) ?_
 refine at_q rfl rfl (by decide) (qt_lss rfl rfl rfl) ?_
 refine at_end ?_
 refine at_cond rfl (fun c1 => ?_) (fun c1 => ?_)
 ·try simp only [za,zb,zc,zd,ze,zf,Bool.not_true,Bool.not_false,zg,zh,ne_eq,zi,zj] at c1
  have hlt : k < l.length := (by omega)
  refine at_skip ?_
  refine norm_then ?_
  refine at_seq ?_
  refine at_block ?_
  refine at_seq ?_
  refine dg_start mixed rfl ?_
  refine dg_phase 10 ?_
  refine dg_q (i := 0) rfl (by kernel_rfl) (by kernel_rfl) (by kernel_rfl) [] (by kernel_rfl) (fun _ _ _ h => h) rfl rfl (by decide) (fun _ h => h.upto trivial) (qt_move rfl rfl) ?_
  refine dg_q (i := 1) rfl (by kernel_rfl) (by kernel_rfl) (by kernel_rfl) [] (by kernel_rfl) (fun _ _ _ h => h) rfl rfl (by decide) (fun _ h => h.upto trivial) (qt_move rfl rfl) ?_
  refine dg_q (i := 2) rfl (by kernel_rfl) (by kernel_rfl) (by kernel_rfl) [] (by kernel_rfl) (fun _ _ _ h => h) rfl rfl (by decide) (fun _ h => h.upto trivial) (qt_indexW (j := k) (fun w hs => rowOver hx hs.fin) rfl rfl rfl tyl_sl_impl_NetEdge hlt) ?_
  refine dg_q (i := 3) rfl (by kernel_rfl) (by kernel_rfl) (by kernel_rfl) [] (by kernel_rfl) (fun _ _ _ h => h) rfl rfl (by decide) (fun _ h => h.upto trivial) (qt_loadS rfl rfl tys_impl_NetEdge rfl (rdGS [.int .i64 (nE l k).e.ax, .int .i64 (nE l k).e.ay, .int .i64 (nE l k).e.bx, .int .i64 (nE l k).e.b_y, .int .i64 (nE l k).net, .int .i64 (nE l k).left, .int .i64 (nE l k).right] 0 (m := 7) neCells_len (fun w hs => rowOver hx hs.fin) (nE_get hlt) (by omega) (neVs hlt))) ?_
  refine dg_q (i := 4) rfl (by kernel_rfl) (by kernel_rfl) (by kernel_rfl) [] (by kernel_rfl) (fun _ _ _ h => h) rfl rfl (by decide) (fun _ h => h.upto trivial) (qt_move rfl rfl) ?_
  refine dg_q (i := 5) rfl (by kernel_rfl) (by kernel_rfl) (by kernel_rfl) [] (by kernel_rfl) (fun _ _ _ h => h) rfl rfl (by decide) (fun _ h => h.upto trivial) (qt_move rfl rfl) ?_
  refine dg_q (i := 6) rfl (by kernel_rfl) (by kernel_rfl) (by kernel_rfl) [] (by kernel_rfl) (fun _ _ _ h => h) rfl rfl (by decide) (fun _ h => h.upto trivial) (qt_indexW (j := k) (fun w hs => rowOver hy hs.fin) rfl rfl rfl tyl_sl_impl_NetEdge hlt) ?_
  refine dg_q (i := 7) rfl (by kernel_rfl) (by kernel_rfl) (by kernel_rfl) [] (by kernel_rfl) (fun _ _ _ h => h) rfl rfl (by decide) (fun _ h => h.upto trivial) (qt_loadS rfl rfl tys_impl_NetEdge rfl (rdGS [.int .i64 (nE l k).e.ax, .int .i64 (nE l k).e.ay, .int .i64 (nE l k).e.bx, .int .i64 (nE l k).e.b_y, .int .i64 (nE l k).net, .int .i64 (nE l k).left, .int .i64 (nE l k).right] 0 (m := 7) neCells_len (fun w hs => rowOver hy hs.fin) (nE_get hlt) (by omega) (neVs hlt))) ?_
  refine dg_q (i := 8) rfl (by kernel_rfl) (by kernel_rfl) (by kernel_rfl) [] (by kernel_rfl) (fun _ _ _ h => h) rfl rfl (by decide) (fun _ h => h.upto trivial) (qt_call ok_laws_eqNetEdge rfl rfl (fun w1 hs => eqNe_same (nE l k) w1)) ?_
  refine dg_q (i := 9) rfl (by kernel_rfl) (by kernel_rfl) (by kernel_rfl) [] (by kernel_rfl) (fun _ _ _ h => h) rfl rfl (by decide) (fun _ h => h.upto trivial) (qt_not rfl rfl) ?_
  refine dg_done (by kernel_rfl) ?_
  refine norm_then ?_
  refine at_no rfl (rfl) ?_
  refine at_skip ?_
  refine norm_block ?_
  refine norm_then ?_
  refine at_region ?_
  refine at_q rfl rfl (by decide) (qt_move rfl rfl) ?_
  refine at_q rfl rfl (by decide) (qt_add rfl rfl rfl (by omega) (by omega)) ?_
  refine at_q rfl rfl (by decide) (qt_assign rfl rfl) ?_
  refine at_end ?_
  exact at_againk hL1 (k + 1) (by omega) (by omega) ⟨vi (by omega), rfl, rfl, rfl, trivial⟩ (fun _ h => h.upto trivial)
 ·try simp only [za,zb,zc,zd,ze,zf,Bool.not_true,Bool.not_false,zg,zh,ne_eq,zi,zj] at c1
  refine at_exit ?_
  refine pass_then (fun h => by cases h) ?_
  refine pass_then (fun h => by cases h) ?_
  refine pass_hit ?_
  refine norm_then ?_
  refine at_seq ?_
  refine at_region ?_
  refine at_q rfl rfl (by decide) (qt_assign rfl rfl) ?_
  refine at_end ?_
  refine at_retc ?_
  refine at_ret1 rfl (.tmp rfl) ?_
  intro w' hs
  exact ⟨rfl, hs.fin⟩
theorem markNe_any (l : List Ne) (x : Option Addr × Nat) (w : World) (hx : (neR l x).P w) (hl : l.length ≤ 100000) :
  Calls Try.prog 11 #[.slice x.1 l.length x.2, .int .i64 1] w fun e w' => e = .returned (.int .i64 (1 + 7 * (l.length : Int))) ∧ Wrs (neR l x).F w w' ∧ (rowR 0 55 7 l.length ((mixNe 1 l l.length).flatMap neCells) x).P w' := by
 refine walk_fromR (m := 66) (rblk x) (neR l x) (hx) (fun b hb => rblk_F.1 hb) rfl (Try.func11) rfl rfl (Nat.le_of_ble_eq_true rfl) ?_
 refine at_seq ?_
 refine at_region ?_
 refine at_q rfl rfl (by decide) (qt_assign rfl rfl) ?_
 refine at_end ?_
 refine at_seq ?_
 refine at_seq ?_
 refine at_region ?_
 refine at_q rfl rfl (by decide) (qt_assign rfl rfl) ?_
 refine at_end ?_
 refine at_block ?_
 refine at_loopc (X := Nat) (fun k => k ≤ l.length) (fun k => l.length - k) (fun k => [(1, .int .i64 (1 + 7 * (k : Int))), (5, .int .i64 (k : Int))]) (C := [(0, _), (4, _)]) ⟨rfl, rfl, trivial⟩ (fun k => [rowR 0 55 7 l.length ((mixNe 1 l k).flatMap neCells) x]) 0 (Nat.zero_le _) ⟨vi (by simp), rfl, rfl, rfl, trivial⟩ (fun _ h => by rw [mixNe_zero]; exact h) ?_
 intro k hk L hL1
 refine at_envE (by simp only [ya,yb]; rfl) ?_
 refine at_rsE (by first | (dsimp only; done) | (dsimp only; rfl) | rfl) ?_
 obtain ⟨M, hM⟩ : ∃ M, M = mixNe 1 l k := ⟨_, rfl⟩
 have hMl : M.length = l.length := (by rw [hM]; exact mixNe_len 1 l k)
 rw [← hM]
 refine at_seq ?_
 refine at_seq ?_
 refine at_region ?_
 refine at_q rfl rfl (by decide) (qt_move rfl rfl) ?_
 refine at_q rfl rfl (by decide) (qt_move rfl rfl) ?_
 refine at_q rfl rfl (by decide) (qt_len rfl rfl tyl_sl_impl_NetEdge) ?_
 refine at_q rfl rfl (by decide) (qt_lss rfl rfl rfl) ?_
 refine at_end ?_
 refine at_cond rfl (fun c1 => ?_) (fun c1 => ?_)
 ·try simp only [za,zb,zc,zd,ze,zf,Bool.not_true,Bool.not_false,zg,zh,ne_eq,zi,zj] at c1
  have hlt : k < l.length := (by omega)
  have hlM : k < M.length := (by omega)
  have hset := set_self hlM
  obtain ⟨x0, hx0⟩ : ∃ x0, x0 = nE M k := ⟨_, rfl⟩
  rw [← hx0] at hset
  rw [hset]
  refine at_skip ?_
  refine norm_then ?_
  refine at_seq ?_
  refine at_block ?_
  refine at_seq ?_
  refine at_region ?_
  refine at_q rfl rfl (by decide) (qt_move rfl rfl) ?_
  refine at_q rfl rfl (by decide) (qt_move rfl rfl) ?_
  refine at_q rfl rfl (by decide) (qt_move rfl rfl) ?_
  refine at_q rfl rfl (by decide) (qt_indexW (j := k) (fun w hs => (hs.all 0 _ rfl).1) rfl rfl rfl tyl_sl_impl_NetEdge hlt) ?_
  refine at_q rfl rfl (by decide) (qt_fieldAddr rfl rfl tyf_impl_NetEdge_0) ?_
  refine at_q rfl rfl (by decide) (qt_fieldAddr rfl rfl tyf_impl_Pt_0) ?_
  refine at_op rfl ?_
  refine op_storeR (k := 0) (vs := [.int .i64 (1 + 7 * (k : Int))]) rfl rfl rfl rfl (by rfl) (by rfl) tyz_int64.szx rfl rfl (by simp) (by rw [flat_len neCells 7 neCells_len, List.length_set]; simp only [List.length_cons, List.length_nil]; omega) ?_
  refine at_rsE (by simp only [ya,yb,yc,yd,Value.cells,ye]; rfl) ?_
  rw [put_ne (i := 0) hlM (by decide) (by omega)]
  refine at_end ?_
  refine at_seq ?_
  refine at_region ?_
  refine at_q rfl rfl (by decide) (qt_move rfl rfl) ?_
  refine at_q rfl rfl (by decide) (qt_add rfl rfl rfl (by omega) (by omega)) ?_
  refine at_q rfl rfl (by decide) (qt_assign rfl rfl) ?_
  refine at_end ?_
  refine at_seq ?_
  refine at_region ?_
  refine at_q rfl rfl (by decide) (qt_move rfl rfl) ?_
  refine at_q rfl rfl (by decide) (qt_move rfl rfl) ?_
  refine at_q rfl rfl (by decide) (qt_move rfl rfl) ?_
  refine at_q rfl rfl (by decide) (qt_indexW (j := k) (fun w hs => (hs.all 0 _ rfl).1) rfl rfl rfl tyl_sl_impl_NetEdge hlt) ?_
  refine at_q rfl rfl (by decide) (qt_fieldAddr rfl rfl tyf_impl_NetEdge_0) ?_
  refine at_q rfl rfl (by decide) (qt_fieldAddr rfl rfl tyf_impl_Pt_1) ?_
  refine at_op rfl ?_
  refine op_storeR (k := 0) (vs := [.int .i64 (1 + 7 * (k : Int) + 1)]) rfl rfl rfl rfl (by rfl) (by rfl) tyz_int64.szx rfl rfl (by simp) (by rw [flat_len neCells 7 neCells_len, List.length_set]; simp only [List.length_cons, List.length_nil]; omega) ?_
  refine at_rsE (by simp only [ya,yb,yc,yd,Value.cells,ye]; rfl) ?_
  rw [put_ne (i := 1) hlM (by decide) (by omega)]
  refine at_end ?_
  refine at_seq ?_
  refine at_region ?_
  refine at_q rfl rfl (by decide) (qt_move rfl rfl) ?_
  refine at_q rfl rfl (by decide) (qt_add rfl rfl rfl (by omega) (by omega)) ?_
  refine at_q rfl rfl (by decide) (qt_assign rfl rfl) ?_
  refine at_end ?_
  refine at_seq ?_
  refine at_region ?_
  refine at_q rfl rfl (by decide) (qt_move rfl rfl) ?_
  refine at_q rfl rfl (by decide) (qt_move rfl rfl) ?_
  refine at_q rfl rfl (by decide) (qt_move rfl rfl) ?_
  refine at_q rfl rfl (by decide) (qt_indexW (j := k) (fun w hs => (hs.all 0 _ rfl).1) rfl rfl rfl tyl_sl_impl_NetEdge hlt) ?_
  refine at_q rfl rfl (by decide) (qt_fieldAddr rfl rfl tyf_impl_NetEdge_1) ?_
  refine at_q rfl rfl (by decide) (qt_fieldAddr rfl rfl tyf_impl_Pt_0) ?_
  refine at_op rfl ?_
  refine op_storeR (k := 0) (vs := [.int .i64 (1 + 7 * (k : Int) + 1 + 1)]) rfl rfl rfl rfl (by rfl) (by rfl) tyz_int64.szx rfl rfl (by simp) (by rw [flat_len neCells 7 neCells_len, List.length_set]; simp only [List.length_cons, List.length_nil]; omega) ?_
  refine at_rsE (by simp only [ya,yb,yc,yd,Value.cells,ye]; rfl) ?_
  rw [put_ne (i := 2) hlM (by decide) (by omega)]
  refine at_end ?_
  refine at_seq ?_
  refine at_region ?_
  refine at_q rfl rfl (by decide) (qt_move rfl rfl) ?_
  refine at_q rfl rfl (by decide) (qt_add rfl rfl rfl (by omega) (by omega)) ?_
  refine at_q rfl rfl (by decide) (qt_assign rfl rfl) ?_
  refine at_end ?_
  refine at_seq ?_
  refine at_region ?_
  refine at_q rfl rfl (by decide) (qt_move rfl rfl) ?_
  refine at_q rfl rfl (by decide) (qt_move rfl rfl) ?_
  refine at_q rfl rfl (by decide) (qt_move rfl rfl) ?_
  refine at_q rfl rfl (by decide) (qt_indexW (j := k) (fun w hs => (hs.all 0 _ rfl).1) rfl rfl rfl tyl_sl_impl_NetEdge hlt) ?_
  refine at_q rfl rfl (by decide) (qt_fieldAddr rfl rfl tyf_impl_NetEdge_1) ?_
  refine at_q rfl rfl (by decide) (qt_fieldAddr rfl rfl tyf_impl_Pt_1) ?_
  refine at_op rfl ?_
  refine op_storeR (k := 0) (vs := [.int .i64 (1 + 7 * (k : Int) + 1 + 1 + 1)]) rfl rfl rfl rfl (by rfl) (by rfl) tyz_int64.szx rfl rfl (by simp) (by rw [flat_len neCells 7 neCells_len, List.length_set]; simp only [List.length_cons, List.length_nil]; omega) ?_
  refine at_rsE (by simp only [ya,yb,yc,yd,Value.cells,ye]; rfl) ?_
  rw [put_ne (i := 3) hlM (by decide) (by omega)]
  refine at_end ?_
  refine at_seq ?_
  refine at_region ?_
  refine at_q rfl rfl (by decide) (qt_move rfl rfl) ?_
  refine at_q rfl rfl (by decide) (qt_add rfl rfl rfl (by omega) (by omega)) ?_
  refine at_q rfl rfl (by decide) (qt_assign rfl rfl) ?_
  refine at_end ?_
  refine at_seq ?_
  refine at_region ?_
  refine at_q rfl rfl (by decide) (qt_move rfl rfl) ?_
  refine at_q rfl rfl (by decide) (qt_move rfl rfl) ?_
  refine at_q rfl rfl (by decide) (qt_move rfl rfl) ?_
  refine at_q rfl rfl (by decide) (qt_indexW (j := k) (fun w hs => (hs.all 0 _ rfl).1) rfl rfl rfl tyl_sl_impl_NetEdge hlt) ?_
  refine at_q rfl rfl (by decide) (qt_fieldAddr rfl rfl tyf_impl_NetEdge_2) ?_
  refine at_op rfl ?_
  refine op_storeR (k := 0) (vs := [.int .i64 (1 + 7 * (k : Int) + 1 + 1 + 1 + 1)]) rfl rfl rfl rfl (by rfl) (by rfl) tyz_int64.szx rfl rfl (by simp) (by rw [flat_len neCells 7 neCells_len, List.length_set]; simp only [List.length_cons, List.length_nil]; omega) ?_
  refine at_rsE (by simp only [ya,yb,yc,yd,Value.cells,ye]; rfl) ?_
  rw [put_ne (i := 4) hlM (by decide) (by omega)]
  refine at_end ?_
  refine at_seq ?_
  refine at_region ?_
  refine at_q rfl rfl (by decide) (qt_move rfl rfl) ?_
  refine at_q rfl rfl (by decide) (qt_add rfl rfl rfl (by omega) (by omega)) ?_
  refine at_q rfl rfl (by decide) (qt_assign rfl rfl) ?_
  refine at_end ?_
  refine at_seq ?_
  refine at_region ?_
  refine at_q rfl rfl (by decide) (qt_move rfl rfl) ?_
  refine at_q rfl rfl (by decide) (qt_move rfl rfl) ?_
  refine at_q rfl rfl (by decide) (qt_move rfl rfl) ?_
  refine at_q rfl rfl (by decide) (qt_indexW (j := k) (fun w hs => (hs.all 0 _ rfl).1) rfl rfl rfl tyl_sl_impl_NetEdge hlt) ?_
  refine at_q rfl rfl (by decide) (qt_fieldAddr rfl rfl tyf_impl_NetEdge_3) ?_
  refine at_op rfl ?_
  refine op_storeR (k := 0) (vs := [.int .i64 (1 + 7 * (k : Int) + 1 + 1 + 1 + 1 + 1)]) rfl rfl rfl rfl (by rfl) (by rfl) tyz_int64.szx rfl rfl (by simp) (by rw [flat_len neCells 7 neCells_len, List.length_set]; simp only [List.length_cons, List.length_nil]; omega) ?_
  refine at_rsE (by simp only [ya,yb,yc,yd,Value.cells,ye]; rfl) ?_
  rw [put_ne (i := 5) hlM (by decide) (by omega)]
  refine at_end ?_
  refine at_seq ?_
  refine at_region ?_
  refine at_q rfl rfl (by decide) (qt_move rfl rfl) ?_
  refine at_q rfl rfl (by decide) (qt_add rfl rfl rfl (by omega) (by omega)) ?_
  refine at_q rfl rfl (by decide) (qt_assign rfl rfl) ?_
  refine at_end ?_
  refine at_seq ?_
  refine at_region ?_
  refine at_q rfl rfl (by decide) (qt_move rfl rfl) ?_
  refine at_q rfl rfl (by decide) (qt_move rfl rfl) ?_
  refine at_q rfl rfl (by decide) (qt_move rfl rfl) ?_
  refine at_q rfl rfl (by decide) (qt_indexW (j := k) (fun w hs => (hs.all 0 _ rfl).1) rfl rfl rfl tyl_sl_impl_NetEdge hlt) ?_
  refine at_q rfl rfl (by decide) (qt_fieldAddr rfl rfl tyf_impl_NetEdge_4) ?_
  refine at_op rfl ?_
  refine op_storeR (k := 0) (vs := [.int .i64 (1 + 7 * (k : Int) + 1 + 1 + 1 + 1 + 1 + 1)]) rfl rfl rfl rfl (by rfl) (by rfl) tyz_int64.szx rfl rfl (by simp) (by rw [flat_len neCells 7 neCells_len, List.length_set]; simp only [List.length_cons, List.length_nil]; omega) ?_
  refine at_rsE (by simp only [ya,yb,yc,yd,Value.cells,ye]; rfl) ?_
  rw [put_ne (i := 6) hlM (by decide) (by omega)]
  refine at_end ?_
  refine at_region ?_
  refine at_q rfl rfl (by decide) (qt_move rfl rfl) ?_
  refine at_q rfl rfl (by decide) (qt_add rfl rfl rfl (by omega) (by omega)) ?_
  refine at_q rfl rfl (by decide) (qt_assign rfl rfl) ?_
  refine at_nil ?_
  refine norm_block ?_
  refine norm_then ?_
  refine at_region ?_
  refine at_q rfl rfl (by decide) (qt_move rfl rfl) ?_
  refine at_q rfl rfl (by decide) (qt_add rfl rfl rfl (by omega) (by omega)) ?_
  refine at_q rfl rfl (by decide) (qt_assign rfl rfl) ?_
  refine at_end ?_
  exact at_againc hL1 (k + 1) (by omega) (by omega) ⟨vi (by omega), vi (by omega), rfl, rfl, trivial⟩ (fun _ h => h.upto ⟨by rw [mixNe_step hlt, ← hM]; congr 3, trivial⟩)
 ·try simp only [za,zb,zc,zd,ze,zf,Bool.not_true,Bool.not_false,zg,zh,ne_eq,zi,zj] at c1
  have hkn : k = l.length := (by omega)
  refine at_exit ?_
  refine pass_then (fun h => by cases h) ?_
  refine pass_then (fun h => by cases h) ?_
  refine pass_hit ?_
  refine norm_then ?_
  refine at_seq ?_
  refine at_region ?_
  refine at_q rfl rfl (by decide) (qt_move rfl rfl) ?_
  refine at_q rfl rfl (by decide) (qt_assign rfl rfl) ?_
  refine at_end ?_
  refine at_retc ?_
  refine at_ret1 rfl (.tmp rfl) ?_
  intro w' hs
  exact ⟨retI (by rw [hkn]), hs.over.wrs.mono fun b hb => rblk_F.2 hb, by have := (hs.all 0 _ rfl).1; rw [hM, hkn] at this; exact this⟩
theorem mix_nE {m : Int} {l : List Ne} {k : Nat} (h : k < l.length) : (mixNe m l l.length)[k]? = some (mkNe m k) := by simp [mixNe, h]
theorem heldNe_any (l : List Ne) (x : Option Addr × Nat) (w : World) (hx : (rowR 0 55 7 l.length ((mixNe 1 l l.length).flatMap neCells) x).P w) (hl : l.length ≤ 100000) :
  Calls Try.prog 12 #[.slice x.1 l.length x.2, .int .i64 1] w fun e w' => e = .returned (.int .i64 (1 + 7 * (l.length : Int))) ∧ Over w w' := by
 refine walk_from (m := 80) (Try.func12) rfl rfl (Nat.le_of_ble_eq_true rfl) ?_
 refine at_seq ?_
 refine at_region ?_
 refine at_q rfl rfl (by decide) (qt_assign rfl rfl) ?_
 refine at_end ?_
 refine at_seq ?_
 refine at_seq ?_
 refine at_region ?_
 refine at_q rfl rfl (by decide) (qt_assign rfl rfl) ?_
 refine at_end ?_
 refine at_block ?_
 refine at_loopk (X := Nat) (fun k => k ≤ l.length) (fun k => l.length - k) (fun k => [(1, .int .i64 (1 + 7 * (k : Int))), (5, .int .i64 (k : Int))]) (C := [(0, _), (4, _)]) ⟨rfl, rfl, trivial⟩ 0 (Nat.zero_le _) ⟨vi (by simp), rfl, rfl, rfl, trivial⟩ ?_
 intro k hk L hL1
 refine at_envE (by simp only [ya,yb]; rfl) ?_
 refine at_seq ?_
 refine at_seq ?_
 refine at_region ?_
 refine at_q rfl rfl (by decide) (qt_move rfl rfl) ?_
 refine at_q rfl rfl (by decide) (qt_move rfl rfl) ?_
 refine at_q rfl rfl (by decide) (qt_len rfl rfl tyl_sl_impl_NetEdge) ?_
 refine at_q rfl rfl (by decide) (qt_lss rfl rfl rfl) ?_
 refine at_end ?_
 refine at_cond rfl (fun c1 => ?_) (fun c1 => ?_)
 ·try simp only [za,zb,zc,zd,ze,zf,Bool.not_true,Bool.not_false,zg,zh,ne_eq,zi,zj] at c1
  have hlt : k < l.length := (by omega)
  refine at_skip ?_
  refine norm_then ?_
  refine at_seq ?_
  refine at_block ?_
  refine at_seq ?_
  refine at_seq ?_
  refine at_region ?_
  refine at_q rfl rfl (by decide) (qt_move rfl rfl) ?_
  refine at_q rfl rfl (by decide) (qt_move rfl rfl) ?_
  refine at_q rfl rfl (by decide) (qt_indexW (j := k) (fun w hs => rowOver hx hs.fin) rfl rfl rfl tyl_sl_impl_NetEdge hlt) ?_
  refine at_q rfl rfl (by decide) (qt_fieldAddr rfl rfl tyf_impl_NetEdge_0) ?_
  refine at_q rfl rfl (by decide) (qt_fieldAddr rfl rfl tyf_impl_Pt_0) ?_
  refine at_q rfl rfl (by decide) (qt_load1 rfl rfl ty1_int64 (rdG (i := 0) (m := 7) (v := .int .i64 (1 + 7 * (k : Int))) neCells_len (fun w hs => rowOver hx hs.fin) (mix_nE hlt) (by omega) rfl)) ?_
  refine at_q rfl rfl (by decide) (qt_move rfl rfl) ?_
  refine at_q rfl rfl (by decide) (qt_neq rfl rfl rfl) ?_
  refine at_end ?_
  refine at_no rfl (neF (by omega)) ?_
  refine at_skip ?_
  refine norm_then ?_
  refine at_seq ?_
  refine at_region ?_
  refine at_q rfl rfl (by decide) (qt_move rfl rfl) ?_
  refine at_q rfl rfl (by decide) (qt_add rfl rfl rfl (by omega) (by omega)) ?_
  refine at_q rfl rfl (by decide) (qt_assign rfl rfl) ?_
  refine at_end ?_
  refine at_seq ?_
  refine at_seq ?_
  refine at_region ?_
  refine at_q rfl rfl (by decide) (qt_move rfl rfl) ?_
  refine at_q rfl rfl (by decide) (qt_move rfl rfl) ?_
  refine at_q rfl rfl (by decide) (qt_indexW (j := k) (fun w hs => rowOver hx hs.fin) rfl rfl rfl tyl_sl_impl_NetEdge hlt) ?_
  refine at_q rfl rfl (by decide) (qt_fieldAddr rfl rfl tyf_impl_NetEdge_0) ?_
  refine at_q rfl rfl (by decide) (qt_fieldAddr rfl rfl tyf_impl_Pt_1) ?_
  refine at_q rfl rfl (by decide) (qt_load1 rfl rfl ty1_int64 (rdG (i := 1) (m := 7) (v := .int .i64 (1 + 7 * (k : Int) + 1)) neCells_len (fun w hs => rowOver hx hs.fin) (mix_nE hlt) (by omega) rfl)) ?_
  refine at_q rfl rfl (by decide) (qt_move rfl rfl) ?_
  refine at_q rfl rfl (by decide) (qt_neq rfl rfl rfl) ?_
  refine at_end ?_
  refine at_no rfl (neF (by omega)) ?_
  refine at_skip ?_
  refine norm_then ?_
  refine at_seq ?_
  refine at_region ?_
  refine at_q rfl rfl (by decide) (qt_move rfl rfl) ?_
  refine at_q rfl rfl (by decide) (qt_add rfl rfl rfl (by omega) (by omega)) ?_
  refine at_q rfl rfl (by decide) (qt_assign rfl rfl) ?_
  refine at_end ?_
  refine at_seq ?_
  refine at_seq ?_
  refine at_region ?_
  refine at_q rfl rfl (by decide) (qt_move rfl rfl) ?_
  refine at_q rfl rfl (by decide) (qt_move rfl rfl) ?_
  refine at_q rfl rfl (by decide) (qt_indexW (j := k) (fun w hs => rowOver hx hs.fin) rfl rfl rfl tyl_sl_impl_NetEdge hlt) ?_
  refine at_q rfl rfl (by decide) (qt_fieldAddr rfl rfl tyf_impl_NetEdge_1) ?_
  refine at_q rfl rfl (by decide) (qt_fieldAddr rfl rfl tyf_impl_Pt_0) ?_
  refine at_q rfl rfl (by decide) (qt_load1 rfl rfl ty1_int64 (rdG (i := 2) (m := 7) (v := .int .i64 (1 + 7 * (k : Int) + 2)) neCells_len (fun w hs => rowOver hx hs.fin) (mix_nE hlt) (by omega) rfl)) ?_
  refine at_q rfl rfl (by decide) (qt_move rfl rfl) ?_
  refine at_q rfl rfl (by decide) (qt_neq rfl rfl rfl) ?_
  refine at_end ?_
  refine at_no rfl (neF (by omega)) ?_
  refine at_skip ?_
  refine norm_then ?_
  refine at_seq ?_
  refine at_region ?_
  refine at_q rfl rfl (by decide) (qt_move rfl rfl) ?_
  refine at_q rfl rfl (by decide) (qt_add rfl rfl rfl (by omega) (by omega)) ?_
  refine at_q rfl rfl (by decide) (qt_assign rfl rfl) ?_
  refine at_end ?_
  refine at_seq ?_
  refine at_seq ?_
  refine at_region ?_
  refine at_q rfl rfl (by decide) (qt_move rfl rfl) ?_
  refine at_q rfl rfl (by decide) (qt_move rfl rfl) ?_
  refine at_q rfl rfl (by decide) (qt_indexW (j := k) (fun w hs => rowOver hx hs.fin) rfl rfl rfl tyl_sl_impl_NetEdge hlt) ?_
  refine at_q rfl rfl (by decide) (qt_fieldAddr rfl rfl tyf_impl_NetEdge_1) ?_
  refine at_q rfl rfl (by decide) (qt_fieldAddr rfl rfl tyf_impl_Pt_1) ?_
  refine at_q rfl rfl (by decide) (qt_load1 rfl rfl ty1_int64 (rdG (i := 3) (m := 7) (v := .int .i64 (1 + 7 * (k : Int) + 3)) neCells_len (fun w hs => rowOver hx hs.fin) (mix_nE hlt) (by omega) rfl)) ?_
  refine at_q rfl rfl (by decide) (qt_move rfl rfl) ?_
  refine at_q rfl rfl (by decide) (qt_neq rfl rfl rfl) ?_
  refine at_end ?_
  refine at_no rfl (neF (by omega)) ?_
  refine at_skip ?_
  refine norm_then ?_
  refine at_seq ?_
  refine at_region ?_
  refine at_q rfl rfl (by decide) (qt_move rfl rfl) ?_
  refine at_q rfl rfl (by decide) (qt_add rfl rfl rfl (by omega) (by omega)) ?_
  refine at_q rfl rfl (by decide) (qt_assign rfl rfl) ?_
  refine at_end ?_
  refine at_seq ?_
  refine at_seq ?_
  refine at_region ?_
  refine at_q rfl rfl (by decide) (qt_move rfl rfl) ?_
  refine at_q rfl rfl (by decide) (qt_move rfl rfl) ?_
  refine at_q rfl rfl (by decide) (qt_indexW (j := k) (fun w hs => rowOver hx hs.fin) rfl rfl rfl tyl_sl_impl_NetEdge hlt) ?_
  refine at_q rfl rfl (by decide) (qt_fieldAddr rfl rfl tyf_impl_NetEdge_2) ?_
  refine at_q rfl rfl (by decide) (qt_load1 rfl rfl ty1_int64 (rdG (i := 4) (m := 7) (v := .int .i64 (1 + 7 * (k : Int) + 4)) neCells_len (fun w hs => rowOver hx hs.fin) (mix_nE hlt) (by omega) rfl)) ?_
  refine at_q rfl rfl (by decide) (qt_move rfl rfl) ?_
  refine at_q rfl rfl (by decide) (qt_neq rfl rfl rfl) ?_
  refine at_end ?_
  refine at_no rfl (neF (by omega)) ?_
  refine at_skip ?_
  refine norm_then ?_
  refine at_seq ?_
  refine at_region ?_
  refine at_q rfl rfl (by decide) (qt_move rfl rfl) ?_
  refine at_q rfl rfl (by decide) (qt_add rfl rfl rfl (by omega) (by omega)) ?_
  refine at_q rfl rfl (by decide) (qt_assign rfl rfl) ?_
  refine at_end ?_
  refine at_seq ?_
  refine at_seq ?_
  refine at_region ?_
  refine at_q rfl rfl (by decide) (qt_move rfl rfl) ?_
  refine at_q rfl rfl (by decide) (qt_move rfl rfl) ?_
  refine at_q rfl rfl (by decide) (qt_indexW (j := k) (fun w hs => rowOver hx hs.fin) rfl rfl rfl tyl_sl_impl_NetEdge hlt) ?_
  refine at_q rfl rfl (by decide) (qt_fieldAddr rfl rfl tyf_impl_NetEdge_3) ?_
  refine at_q rfl rfl (by decide) (qt_load1 rfl rfl ty1_int64 (rdG (i := 5) (m := 7) (v := .int .i64 (1 + 7 * (k : Int) + 5)) neCells_len (fun w hs => rowOver hx hs.fin) (mix_nE hlt) (by omega) rfl)) ?_
  refine at_q rfl rfl (by decide) (qt_move rfl rfl) ?_
  refine at_q rfl rfl (by decide) (qt_neq rfl rfl rfl) ?_
  refine at_end ?_
  refine at_no rfl (neF (by omega)) ?_
  refine at_skip ?_
  refine norm_then ?_
  refine at_seq ?_
  refine at_region ?_
  refine at_q rfl rfl (by decide) (qt_move rfl rfl) ?_
  refine at_q rfl rfl (by decide) (qt_add rfl rfl rfl (by omega) (by omega)) ?_
  refine at_q rfl rfl (by decide) (qt_assign rfl rfl) ?_
  refine at_end ?_
  refine at_seq ?_
  refine at_seq ?_
  refine at_region ?_
  refine at_q rfl rfl (by decide) (qt_move rfl rfl) ?_
  refine at_q rfl rfl (by decide) (qt_move rfl rfl) ?_
  refine at_q rfl rfl (by decide) (qt_indexW (j := k) (fun w hs => rowOver hx hs.fin) rfl rfl rfl tyl_sl_impl_NetEdge hlt) ?_
  refine at_q rfl rfl (by decide) (qt_fieldAddr rfl rfl tyf_impl_NetEdge_4) ?_
  refine at_q rfl rfl (by decide) (qt_load1 rfl rfl ty1_int64 (rdG (i := 6) (m := 7) (v := .int .i64 (1 + 7 * (k : Int) + 6)) neCells_len (fun w hs => rowOver hx hs.fin) (mix_nE hlt) (by omega) rfl)) ?_
  refine at_q rfl rfl (by decide) (qt_move rfl rfl) ?_
  refine at_q rfl rfl (by decide) (qt_neq rfl rfl rfl) ?_
  refine at_end ?_
  refine at_no rfl (neF (by omega)) ?_
  refine at_skip ?_
  refine norm_then ?_
  refine at_region ?_
  refine at_q rfl rfl (by decide) (qt_move rfl rfl) ?_
  refine at_q rfl rfl (by decide) (qt_add rfl rfl rfl (by omega) (by omega)) ?_
  refine at_q rfl rfl (by decide) (qt_assign rfl rfl) ?_
  refine at_nil ?_
  refine norm_block ?_
  refine norm_then ?_
  refine at_region ?_
  refine at_q rfl rfl (by decide) (qt_move rfl rfl) ?_
  refine at_q rfl rfl (by decide) (qt_add rfl rfl rfl (by omega) (by omega)) ?_
  refine at_q rfl rfl (by decide) (qt_assign rfl rfl) ?_
  refine at_end ?_
  exact at_againk hL1 (k + 1) (by omega) (by omega) ⟨vi (by omega), vi (by omega), rfl, rfl, trivial⟩ (fun _ h => h.upto trivial)
 ·try simp only [za,zb,zc,zd,ze,zf,Bool.not_true,Bool.not_false,zg,zh,ne_eq,zi,zj] at c1
  have hkn : k = l.length := (by omega)
  refine at_exit ?_
  refine pass_then (fun h => by cases h) ?_
  refine pass_then (fun h => by cases h) ?_
  refine pass_hit ?_
  refine norm_then ?_
  refine at_seq ?_
  refine at_region ?_
  refine at_q rfl rfl (by decide) (qt_move rfl rfl) ?_
  refine at_q rfl rfl (by decide) (qt_assign rfl rfl) ?_
  refine at_end ?_
  refine at_retc ?_
  refine at_ret1 rfl (.tmp rfl) ?_
  intro w' hs
  exact ⟨retI (by rw [hkn]), hs.fin⟩
theorem neL_len (rs : List Ring_) : (neL rs).length ≤ 400 := by
 unfold neL
 split
 ·rename_i h
  have hr : regionB rs = true := by unfold isnB at h; simp only [Bool.and_eq_true] at h; exact h.1
  have h1 := keys_len (es := edgesAll rs)
  simp [regionB] at hr
  rw [neAll, List.length_map]
  omega
 ·simp
theorem posF7 (k : Nat) : decide ((1 : Int) + 7 * (k : Int) < 0) = false := decide_eq_false (by omega)
theorem law_NetEdges (A : Option Addr) (n c : Nat) (rs : List Ring_) (w : World) (h : Rings w A n rs) (hm : (n : Int) ≤ 9223372036854775807) :
  Calls Try.prog 3 #[regV A n c] w fun e w' => e = .returned (.bool true) ∧ Over w w' := by
 have hl := h.1
 have hz : (total rs : Int) ≤ 1048576 → szV 1048576 (total rs) = 1048576 - total rs := szV_small
 have hz2 : ¬ (total rs : Int) ≤ 1048576 → szV 1048576 (total rs) = -1 := szV_big
 have hsm := neL_len rs
 refine walk_from (m := 96) (Try.func3) rfl rfl (Nat.le_of_ble_eq_true rfl) ?_
 refine at_seq ?_
 refine at_region ?_
 refine at_op rfl ?_
 refine op_box rfl rfl (rfl) rfl (by decide) (fun b1 => ?_)
 refine at_rsE (by simp only [ya,yb,yc,yd,Value.cells,ye]; rfl) ?_
 refine at_q rfl rfl (by decide) (qt_assign rfl rfl) ?_
 refine at_end ?_
 refine at_seq ?_
 refine at_region ?_
 refine at_q rfl rfl (by decide) (qt_assign rfl rfl) ?_
 refine at_end ?_
 refine at_seq ?_
 refine at_region ?_
 refine at_q rfl rfl (by decide) (qt_loadS rfl rfl tys_laws_Region rfl (rdAll (k := 0) rfl)) ?_
 refine at_q rfl rfl (by decide) (qt_move rfl rfl) ?_
 refine at_q rfl rfl (by decide) (qt_call ok_laws_szRegion rfl rfl (fun w1 hs => szRegion_any A n c rs 1048576 w1 (h.over hs.fin) (by omega) (by omega) hm)) ?_
 refine at_q rfl rfl (by decide) (qt_assign rfl rfl) ?_
 refine at_end ?_
 refine at_seq ?_
 refine at_seq ?_
 refine at_region ?_
 refine at_q rfl rfl (by decide) (qt_move rfl rfl) ?_
 refine at_q rfl rfl (by decide) (qt_lss rfl rfl rfl) ?_
 refine at_end ?_
 refine at_cond rfl (fun c1 => ?_) (fun c1 => ?_)
 ·try simp only [za,zb,zc,zd,ze,zf,Bool.not_true,Bool.not_false,zg,zh,ne_eq,zi,zj] at c1
  refine at_seq ?_
  refine at_region ?_
  refine at_q rfl rfl (by decide) (qt_assign rfl rfl) ?_
  refine at_end ?_
  refine at_retc ?_
  refine then_ret ?_
  refine at_ret1 rfl (.tmp rfl) ?_
  intro w' hs
  exact ⟨rfl, hs.fin⟩
 ·try simp only [za,zb,zc,zd,ze,zf,Bool.not_true,Bool.not_false,zg,zh,ne_eq,zi,zj] at c1
  have ht : (total rs : Int) ≤ 1048576 := Decidable.byContradiction fun ht => by have := hz2 ht; omega
  clear hz hz2 hm
  have hts := total_sum ht hl
  refine at_skip ?_
  refine norm_then ?_
  refine at_seq ?_
  refine at_region ?_
  refine at_q rfl rfl (by decide) (qt_loadS rfl rfl tys_laws_Region rfl (rdAll (k := 0) rfl)) ?_
  refine at_op rfl ?_
  refine op_call ok_laws_toRegion (X := Nat × Nat × Nat) (v := fun x => regV (some ⟨x.1, 0, none⟩) n n) (r := fun x => gegR n rs x.2.1 x.2.2 (some ⟨x.1, 0, none⟩)) (H := fun _ => True) rfl rfl rfl (by decide) (fun w1 hs => gegNew1 (toRegion_new A n c rs w1 (h.over hs.fin) ht)) ?_
  rintro ⟨tg, tlo, thi⟩ -
  refine at_rsE (by simp only [ya,yb,yc,yd,Value.cells,ye]; rfl) ?_
  refine at_op rfl ?_
  refine op_call ok_spec_NetEdges (X := Option Addr × Nat) (v := fun x => .tuple #[.slice x.1 (neL rs).length x.2, .int .i64 (neC rs)]) (r := fun x => neR (neL rs) x) (H := fun _ => True) rfl rfl rfl (by decide) (fun w1 hs => specNetEdges_any _ n n rs w1 (gegRings (k := 1) rfl w1 hs) (Int.le_trans ht (by decide))) ?_
  rintro ⟨wA, wc⟩ -
  refine at_rsE (by simp only [ya,yb,yc,yd,Value.cells,ye]; rfl) ?_
  refine at_q rfl rfl (by decide) (qt_move rfl rfl) ?_
  refine at_q rfl rfl (by decide) (qt_extract rfl rfl rfl) ?_
  refine at_q rfl rfl (by decide) (qt_extract rfl rfl rfl) ?_
  refine at_q rfl rfl (by decide) (qt_assign rfl rfl) ?_
  refine at_q rfl rfl (by decide) (qt_assign rfl rfl) ?_
  refine at_end ?_
  refine at_seq ?_
  refine at_region ?_
  refine at_q rfl rfl (by decide) (qt_loadS rfl rfl tys_laws_Region rfl (rdAll (k := 0) rfl)) ?_
  refine at_op rfl ?_
  refine op_call ok_laws_toRegion (X := Nat × Nat × Nat) (v := fun x => regV (some ⟨x.1, 0, none⟩) n n) (r := fun x => gegR n rs x.2.1 x.2.2 (some ⟨x.1, 0, none⟩)) (H := fun _ => True) rfl rfl rfl (by decide) (fun w1 hs => gegNew1 (toRegion_new A n c rs w1 (h.over hs.fin) ht)) ?_
  rintro ⟨tg, tlo, thi⟩ -
  refine at_rsE (by simp only [ya,yb,yc,yd,Value.cells,ye]; rfl) ?_
  refine at_op rfl ?_
  refine op_alloc rfl tyz_impl_Region rfl (by decide) (fun b2 => ?_)
  refine at_rsE (by simp only [ya,yb,yc,yd,Value.cells,ye]; rfl) ?_
  refine at_op rfl ?_
  refine op_storeAll' (k := 4) rfl rfl rfl rfl (rfl) (by rfl) tyz_impl_Region.szx rfl rfl rfl ?_
  refine at_rsE (by simp only [ya,yb,yc,yd,Value.cells,ye]; rfl) ?_
  refine at_end ?_
  refine at_seq ?_
  refine at_region ?_
  refine at_q rfl rfl (by decide) (qt_loadS rfl rfl tys_impl_Region rfl (rdAll (k := 4) rfl)) ?_
  refine at_op rfl ?_
  refine op_call ok_impl_NetEdges (X := Option Addr × Nat) (v := fun x => .tuple #[.slice x.1 (neL rs).length x.2, .int .i64 (neC rs)]) (r := fun x => neR (neL rs) x) (H := fun _ => True) rfl rfl rfl (by decide) (fun w1 hs => NetEdges_any _ n n rs w1 (gegRings (k := 3) rfl w1 hs) (Int.le_trans ht (by decide))) ?_
  rintro ⟨gA, gc⟩ -
  refine at_rsE (by simp only [ya,yb,yc,yd,Value.cells,ye]; rfl) ?_
  refine at_q rfl rfl (by decide) (qt_move rfl rfl) ?_
  refine at_q rfl rfl (by decide) (qt_extract rfl rfl rfl) ?_
  refine at_q rfl rfl (by decide) (qt_extract rfl rfl rfl) ?_
  refine at_q rfl rfl (by decide) (qt_assign rfl rfl) ?_
  refine at_q rfl rfl (by decide) (qt_assign rfl rfl) ?_
  refine at_end ?_
  refine at_seq ?_
  refine at_seq ?_
  refine at_region ?_
  refine at_q rfl rfl (by decide) (qt_move rfl rfl) ?_
  refine at_q rfl rfl (by decide) (qt_move rfl rfl) ?_
  refine at_q rfl rfl (by decide) (qt_call ok_laws_eqNetEdgeS rfl rfl (fun w1 hs => eqNeS_same (neL rs) (gA, gc) (wA, wc) w1 (hs.all 5 _ rfl).1 (hs.all 2 _ rfl).1 (by omega))) ?_
  refine at_q rfl rfl (by decide) (qt_not rfl rfl) ?_
  refine at_q rfl rfl (by decide) (qt_move rfl rfl) ?_
  refine at_as 36 (.bool false) rfl (by rw [notTrue]) ?_
  refine at_on rfl rfl rfl rfl ?_
  refine op_q rfl (by decide) (qt_move rfl rfl) ?_
  refine at_on rfl rfl rfl rfl ?_
  refine op_q rfl (by decide) (qt_move rfl rfl) ?_
  refine at_on rfl rfl rfl rfl ?_
  refine op_q rfl (by decide) (qt_neq rfl rfl rfl) ?_
  refine at_q rfl rfl (by decide) (qt_pickF rfl rfl rfl) ?_
  refine at_end ?_
  refine at_no rfl (neSelf _) ?_
  refine at_skip ?_
  refine norm_then ?_
  refine at_seq ?_
  refine at_seq ?_
  refine dg_start mixed rfl ?_
  refine dg_phase 5 ?_
  refine dg_q (i := 0) rfl (by kernel_rfl) (by kernel_rfl) (by kernel_rfl) [] (by kernel_rfl) (fun _ _ _ h => h) rfl rfl (by decide) (fun _ h => h.upto ⟨rfl, rfl, rfl, rfl, rfl, rfl, trivial⟩) (qt_loadS rfl rfl tys_impl_Region rfl (rdAll (k := 4) rfl)) ?_
  refine dg_q (i := 1) rfl (by kernel_rfl) (by kernel_rfl) (by kernel_rfl) [] (by kernel_rfl) (fun _ _ _ h => h) rfl rfl (by decide) (fun _ h => h.upto ⟨rfl, rfl, rfl, rfl, rfl, rfl, trivial⟩) (qt_loadS rfl rfl tys_laws_Region rfl (rdAll (k := 0) rfl)) ?_
  refine dg_one (i := 2) rfl (by decide) (by kernel_rfl) rfl ?_
  refine op_call ok_laws_toRegion (X := Nat × Nat × Nat) (v := fun x => regV (some ⟨x.1, 0, none⟩) n n) (r := fun x => gegR n rs x.2.1 x.2.2 (some ⟨x.1, 0, none⟩)) (H := fun _ => True) rfl rfl rfl (by decide) (fun w1 hs => gegNew1 (toRegion_new A n c rs w1 (h.over hs.fin) ht)) ?_
  rintro ⟨tg, tlo, thi⟩ -
  refine at_rsE (by simp only [ya,yb,yc,yd,Value.cells,ye]; rfl) ?_
  refine dr_more (fun _ h => h.upto ⟨rfl, rfl, rfl, rfl, rfl, rfl, trivial⟩) ?_
  refine dg_q (i := 3) rfl (by kernel_rfl) (by kernel_rfl) (by kernel_rfl) [] (by kernel_rfl) (fun _ _ _ h => h) rfl rfl (by decide) (fun _ h => h.upto ⟨rfl, rfl, rfl, rfl, rfl, rfl, rfl, trivial⟩) (qt_call ok_laws_eqRegion rfl rfl (fun w1 hs => eqRegion_same _ _ _ _ _ rs w1 (gegRings (k := 3) rfl w1 hs) (gegRings (k := 6) rfl w1 hs) ht)) ?_
  refine dg_q (i := 4) rfl (by kernel_rfl) (by kernel_rfl) (by kernel_rfl) [] (by kernel_rfl) (fun _ _ _ h => h) rfl rfl (by decide) (fun _ h => h.upto ⟨rfl, rfl, rfl, rfl, rfl, rfl, rfl, trivial⟩) (qt_not rfl rfl) ?_
  refine dg_done (by kernel_rfl) ?_
  refine norm_then ?_
  refine at_no rfl (rfl) ?_
  refine at_skip ?_
  refine norm_then ?_
  refine at_seq ?_
  refine at_region ?_
  refine at_q rfl rfl (by decide) (qt_assign rfl rfl) ?_
  refine at_end ?_
  refine at_seq ?_
  refine at_region ?_
  refine at_q rfl rfl (by decide) (qt_loadS rfl rfl tys_impl_Region rfl (rdAll (k := 4) rfl)) ?_
  refine at_q rfl rfl (by decide) (qt_move rfl rfl) ?_
  refine at_op rfl ?_
  refine op_callw (k := 3) (r' := gegR n (marksR 1 rs) _ _ _) ok_laws_markRegion rfl rfl rfl (by decide) rfl (fun w1 hs => markGeg (gegS (k := 3) rfl w1 hs) (gegH (k := 3) rfl w1 hs) hts) (fun _ h => h) rfl ?_
  refine at_rsE (by simp only [ya,yb,yc,yd,Value.cells,ye]; rfl) ?_
  refine at_q rfl rfl (by decide) (qt_assign rfl rfl) ?_
  refine at_end ?_
  refine at_seq ?_
  refine at_seq ?_
  refine at_region ?_
  refine at_q rfl rfl (by decide) (qt_move rfl rfl) ?_
  refine at_q rfl rfl (by decide) (qt_lss rfl rfl rfl) ?_
  refine at_q rfl rfl (by decide) (qt_move rfl rfl) ?_
  refine at_as 51 (.bool false) rfl (by rw [(posF _)]) ?_
  refine at_on rfl rfl rfl rfl ?_
  refine op_q rfl (by decide) (qt_move rfl rfl) ?_
  refine at_on rfl rfl rfl rfl ?_
  refine op_q rfl (by decide) (qt_move rfl rfl) ?_
  refine at_on rfl rfl rfl rfl ?_
  refine op_q rfl (by decide) (qt_call ok_laws_eqNetEdgeS rfl rfl (fun w1 hs => eqNeS_same (neL rs) (gA, gc) (wA, wc) w1 (hs.all 5 _ rfl).1 (hs.all 2 _ rfl).1 (by omega))) ?_
  refine at_on rfl rfl rfl rfl ?_
  refine op_q rfl (by decide) (qt_not rfl rfl) ?_
  refine at_q rfl rfl (by decide) (qt_pickF rfl rfl rfl) ?_
  refine at_q rfl rfl (by decide) (qt_move rfl rfl) ?_
  refine at_as 57 (.bool false) rfl (by rw [notTrue]) ?_
  refine at_on rfl rfl rfl rfl ?_
  refine op_q rfl (by decide) (qt_move rfl rfl) ?_
  refine at_on rfl rfl rfl rfl ?_
  refine op_q rfl (by decide) (qt_move rfl rfl) ?_
  refine at_on rfl rfl rfl rfl ?_
  refine op_q rfl (by decide) (qt_neq rfl rfl rfl) ?_
  refine at_q rfl rfl (by decide) (qt_pickF rfl rfl rfl) ?_
  refine at_end ?_
  refine at_no rfl (neSelf _) ?_
  refine at_skip ?_
  refine norm_then ?_
  refine at_seq ?_
  refine at_region ?_
  refine at_q rfl rfl (by decide) (qt_assign rfl rfl) ?_
  refine at_end ?_
  refine at_seq ?_
  refine at_region ?_
  refine at_q rfl rfl (by decide) (qt_move rfl rfl) ?_
  refine at_q rfl rfl (by decide) (qt_move rfl rfl) ?_
  refine at_op rfl ?_
  refine op_callw (k := 5) (r' := rowR 0 55 7 (neL rs).length ((mixNe 1 (neL rs) (neL rs).length).flatMap neCells) (gA, gc)) ok_laws_markNetEdgeS rfl rfl rfl (by decide) rfl (fun w1 hs => markNe_any (neL rs) (gA, gc) w1 (hs.all 5 _ rfl).1 (by omega)) (fun _ h => h) rfl ?_
  refine at_rsE (by simp only [ya,yb,yc,yd,Value.cells,ye]; rfl) ?_
  refine at_q rfl rfl (by decide) (qt_assign rfl rfl) ?_
  refine at_end ?_
  refine at_seq ?_
  refine at_region ?_
  refine at_q rfl rfl (by decide) (qt_assign rfl rfl) ?_
  refine at_end ?_
  refine at_seq ?_
  refine at_region ?_
  refine at_q rfl rfl (by decide) (qt_move rfl rfl) ?_
  refine at_q rfl rfl (by decide) (qt_move rfl rfl) ?_
  refine at_q rfl rfl (by decide) (qt_call ok_laws_heldNetEdgeS rfl rfl (fun w1 hs => heldNe_any (neL rs) (gA, gc) w1 (hs.all 5 _ rfl).1 (by omega))) ?_
  refine at_q rfl rfl (by decide) (qt_assign rfl rfl) ?_
  refine at_end ?_
  refine at_seq ?_
  refine at_seq ?_
  refine at_region ?_
  refine at_q rfl rfl (by decide) (qt_move rfl rfl) ?_
  refine at_q rfl rfl (by decide) (qt_lss rfl rfl rfl) ?_
  refine at_end ?_
  refine at_no rfl (posF7 _) ?_
  refine at_skip ?_
  refine norm_then ?_
  refine at_seq ?_
  refine at_seq ?_
  refine at_region ?_
  refine at_q rfl rfl (by decide) (qt_move rfl rfl) ?_
  refine at_q rfl rfl (by decide) (qt_move rfl rfl) ?_
  refine at_q rfl rfl (by decide) (qt_neq rfl rfl rfl) ?_
  refine at_end ?_
  refine at_no rfl (neSelf _) ?_
  refine at_skip ?_
  refine norm_then ?_
  refine at_seq ?_
  refine at_region ?_
  refine at_q rfl rfl (by decide) (qt_loadS rfl rfl tys_laws_Region rfl (rdAll (k := 0) rfl)) ?_
  refine at_op rfl ?_
  refine op_call ok_laws_toRegion (X := Nat × Nat × Nat) (v := fun x => regV (some ⟨x.1, 0, none⟩) n n) (r := fun x => gegR n rs x.2.1 x.2.2 (some ⟨x.1, 0, none⟩)) (H := fun _ => True) rfl rfl rfl (by decide) (fun w1 hs => gegNew1 (toRegion_new A n c rs w1 (h.over hs.fin) ht)) ?_
  rintro ⟨tg, tlo, thi⟩ -
  refine at_rsE (by simp only [ya,yb,yc,yd,Value.cells,ye]; rfl) ?_
  refine at_op rfl ?_
  refine op_call ok_impl_NetEdges (X := Option Addr × Nat) (v := fun x => .tuple #[.slice x.1 (neL rs).length x.2, .int .i64 (neC rs)]) (r := fun x => neR (neL rs) x) (H := fun _ => True) rfl rfl rfl (by decide) (fun w1 hs => NetEdges_any _ n n rs w1 (gegRings (k := 7) rfl w1 hs) (Int.le_trans ht (by decide))) ?_
  rintro ⟨hA, hc⟩ -
  refine at_rsE (by simp only [ya,yb,yc,yd,Value.cells,ye]; rfl) ?_
  refine at_q rfl rfl (by decide) (qt_move rfl rfl) ?_
  refine at_q rfl rfl (by decide) (qt_extract rfl rfl rfl) ?_
  refine at_q rfl rfl (by decide) (qt_extract rfl rfl rfl) ?_
  refine at_q rfl rfl (by decide) (qt_assign rfl rfl) ?_
  refine at_q rfl rfl (by decide) (qt_assign rfl rfl) ?_
  refine at_end ?_
  refine at_seq ?_
  refine at_seq ?_
  refine at_region ?_
  refine at_q rfl rfl (by decide) (qt_move rfl rfl) ?_
  refine at_q rfl rfl (by decide) (qt_move rfl rfl) ?_
  refine at_q rfl rfl (by decide) (qt_call ok_laws_eqNetEdgeS rfl rfl (fun w1 hs => eqNeS_same (neL rs) (hA, hc) (wA, wc) w1 (hs.all 8 _ rfl).1 (hs.all 2 _ rfl).1 (by omega))) ?_
  refine at_q rfl rfl (by decide) (qt_not rfl rfl) ?_
  refine at_q rfl rfl (by decide) (qt_move rfl rfl) ?_
  refine at_as 83 (.bool false) rfl (by rw [notTrue]) ?_
  refine at_on rfl rfl rfl rfl ?_
  refine op_q rfl (by decide) (qt_move rfl rfl) ?_
  refine at_on rfl rfl rfl rfl ?_
  refine op_q rfl (by decide) (qt_move rfl rfl) ?_
  refine at_on rfl rfl rfl rfl ?_
  refine op_q rfl (by decide) (qt_neq rfl rfl rfl) ?_
  refine at_q rfl rfl (by decide) (qt_pickF rfl rfl rfl) ?_
  refine at_end ?_
  refine at_no rfl (neSelf _) ?_
  refine at_skip ?_
  refine norm_then ?_
  refine at_seq ?_
  refine at_region ?_
  refine at_q rfl rfl (by decide) (qt_assign rfl rfl) ?_
  refine at_end ?_
  refine at_seq ?_
  refine at_region ?_
  refine at_q rfl rfl (by decide) (qt_move rfl rfl) ?_
  refine at_q rfl rfl (by decide) (qt_move rfl rfl) ?_
  refine at_q rfl rfl (by decide) (qt_call ok_laws_heldNetEdgeS rfl rfl (fun w1 hs => heldNe_any (neL rs) (gA, gc) w1 (hs.all 5 _ rfl).1 (by omega))) ?_
  refine at_q rfl rfl (by decide) (qt_assign rfl rfl) ?_
  refine at_end ?_
  refine at_seq ?_
  refine at_seq ?_
  refine at_region ?_
  refine at_q rfl rfl (by decide) (qt_move rfl rfl) ?_
  refine at_q rfl rfl (by decide) (qt_lss rfl rfl rfl) ?_
  refine at_end ?_
  refine at_no rfl (posF7 _) ?_
  refine at_skip ?_
  refine norm_then ?_
  refine at_seq ?_
  refine at_seq ?_
  refine at_region ?_
  refine at_q rfl rfl (by decide) (qt_move rfl rfl) ?_
  refine at_q rfl rfl (by decide) (qt_move rfl rfl) ?_
  refine at_q rfl rfl (by decide) (qt_neq rfl rfl rfl) ?_
  refine at_end ?_
  refine at_no rfl (neSelf _) ?_
  refine at_skip ?_
  refine norm_then ?_
  refine at_seq ?_
  refine at_region ?_
  refine at_q rfl rfl (by decide) (qt_assign rfl rfl) ?_
  refine at_end ?_
  refine at_retc ?_
  refine at_ret1 rfl (.tmp rfl) ?_
  intro w' hs
  exact ⟨rfl, hs.fin⟩
end Go.Proofs.Ytcigocejgmafjaa
