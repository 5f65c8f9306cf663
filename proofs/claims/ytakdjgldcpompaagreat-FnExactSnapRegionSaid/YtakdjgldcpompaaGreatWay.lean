/- Stable sorting of way points in place: the walks (five cells an element). -/
import Derived.Test.YtakdjgldcpompaaGreatStabP
import Derived.Test.YtakdjgldcpompaaGreatSimp
import Derived.Test.YtakdjgldcpompaaGreatSd2
import Derived.Test.YtakdjgldcpompaaGreatSrc
namespace Go.Proofs.YtakdjgldcpompaaGreat
open Go Go.RowKit
set_option linter.unusedVariables false
set_option linter.unusedSimpArgs false
set_option maxRecDepth 100000
set_option maxHeartbeats 4000000
set_option linter.unusedVariables false
set_option linter.unusedSimpArgs false

/-- A way point: its place and the bound from which on the segment is in its pixel. -/
structure Wy where
 x : Int
 y : Int
 num : Int
 den : Int
 cl : Bool
 pos : 0 < den
def Wy.cells (e : Wy) : List Value := [.int .i64 e.x, .int .i64 e.y, .int .i64 e.num, .int .i64 e.den, .bool e.cl]
abbrev Wy.val (e : Wy) : Value := .agg #[.int .i64 e.x, .int .i64 e.y, .int .i64 e.num, .int .i64 e.den, .bool e.cl]
/-- The cells of way points, and what lies behind them. -/
def wyF (ds : List Wy) (tl : List Value) : List Value := ds.flatMap Wy.cells ++ tl
theorem wyC_len (ds : List Wy) : (ds.flatMap Wy.cells).length = ds.length * 5 := by
 induction ds with
 | nil => rfl
 | cons e l ih => rw [List.flatMap_cons, List.length_append, ih, List.length_cons]; simp only [Wy.cells, List.length_cons, List.length_nil]; omega
theorem wyF_len (ds : List Wy) (tl : List Value) : (wyF ds tl).length = ds.length * 5 + tl.length := by rw [wyF, List.length_append, wyC_len]
theorem wyF_app (ds es : List Wy) (tl : List Value) : wyF (ds ++ es) tl = wyF ds (wyF es tl) := by simp [wyF]
theorem wyF_at {ds : List Wy} {tl : List Value} {i : Nat} {e : Wy} (h : ds[i]? = some e) {j : Nat} {v : Value} (hv : e.cells[j]? = some v) : (wyF ds tl)[i * 5 + j]? = some v := by
 obtain ⟨hi, rfl⟩ := List.getElem?_eq_some_iff.1 h
 have hj : j < 5 := by have := (List.getElem?_eq_some_iff.1 hv).1; simpa [Wy.cells] using this
 have e1 : ds = ds.take i ++ (ds[i] :: ds.drop (i + 1)) := by rw [← List.drop_eq_getElem_cons hi, List.take_append_drop]
 have e2 : wyF ds tl = (ds.take i).flatMap Wy.cells ++ (ds[i].cells ++ wyF (ds.drop (i + 1)) tl) := by
  conv => lhs; rw [e1]
  rw [wyF_app]
  simp only [wyF, List.flatMap_cons, List.append_assoc]
 rw [e2, List.getElem?_append_right (by rw [wyC_len, List.length_take]; omega), wyC_len, List.length_take, show i * 5 + j - min i ds.length * 5 = j by omega, List.getElem?_append_left (by simpa [Wy.cells] using hj)]
 exact hv
theorem splice_wy {ds : List Wy} {tl : List Value} {i : Nat} (e : Wy) (hi : i < ds.length) : splice (wyF ds tl) (0 + i * 5) e.cells = wyF (ds.set i e) tl := by
 have e1 : ds = ds.take i ++ (ds[i] :: ds.drop (i + 1)) := by rw [← List.drop_eq_getElem_cons hi, List.take_append_drop]
 have e2 : wyF ds tl = (ds.take i).flatMap Wy.cells ++ ds[i].cells ++ wyF (ds.drop (i + 1)) tl := by
  conv => lhs; rw [e1]
  rw [wyF_app]
  simp only [wyF, List.flatMap_cons, List.append_assoc]
 have e3 : wyF (ds.set i e) tl = (ds.take i).flatMap Wy.cells ++ e.cells ++ wyF (ds.drop (i + 1)) tl := by
  rw [List.set_eq_take_append_cons_drop, if_pos hi, wyF_app]
  simp only [wyF, List.flatMap_cons, List.append_assoc]
 have hlen : ((ds.take i).flatMap Wy.cells).length = 0 + i * 5 := by rw [wyC_len, List.length_take]; omega
 rw [e2, e3, ← hlen]
 exact splice_app e.cells _ ds[i].cells _ rfl
theorem swap_wy {ds : List Wy} {tl : List Value} {i j : Nat} {x y : Wy} (hx : ds[i]? = some x) (hy : ds[j]? = some y) : wyF (swap2 ds i j) tl = splice (splice (wyF ds tl) (0 + i * 5) y.cells) (0 + j * 5) x.cells := by
 have hi := (List.getElem?_eq_some_iff.1 hx).1
 have hj := (List.getElem?_eq_some_iff.1 hy).1
 rw [splice_wy y hi, splice_wy x (by simpa using hj), swap2_at hx hy]
section
variable {P : Program} {w0 : Bs} {Rs : List Res}
theorem rdW {k b T off i : Nat} {ds : List Wy} {tl : List Value} {e : Wy} (hk : Rs[k]? = some (.cel b T (wyF ds tl))) (hv : ds[i]? = some e) (he : off = 0 + i * 5) : ∀ w, St w0 Rs w → ∀ j x, e.cells[j]? = some x → w.cell? ⟨b, off + j, none⟩ = some x := fun w h j x hx => by
 subst he
 rw [Nat.zero_add, cell_of_row w b _ _ T (0, 0) (h.cel hk)]
 have := wyF_at (tl := tl) hv hx
 simpa using this
end
theorem swapRange_wy (b T : Nat) (tl : List Value) (cs : List Wy) (n c i j m : Nat) (fv : Value) (w : World) (hh : w.heap[b]? = some (.cells (wyF (cs) tl).toArray T (0, 0))) (hl : n ≤ cs.length) (h1 : i + m ≤ n) (h2 : j + m ≤ n) (hn : n ≤ 1099511627776)
  (hone : Up n (fun _ : Wy => True) cs) :
  Calls Tryz.prog 117 #[.slice (some ⟨b, 0, none⟩) n c, .int .i64 (i : Int), .int .i64 (j : Int), .int .i64 (m : Int), fv] w fun e w' => e = .returned (.tuple #[]) ∧ Wr b w w' ∧ w'.heap[b]? = some (.cells (wyF (swapN cs i j m) tl).toArray T (0, 0)) := by
 refine walk_from1 (m := 38) (Tryz.func117) rfl rfl (Nat.le_of_ble_eq_true rfl) (hh) ?_
 refine at_seq ?_
 refine at_region ?_
 refine at_q rfl rfl (by decide) (qt_assign rfl rfl) ?_
 refine at_end ?_
 refine at_block ?_
 refine at_loopc (X := Nat × List Wy) (fun x => x.1 ≤ m ∧ x.2 = swapN cs i j x.1) (fun x => m - x.1) (fun x => [(10, .int .i64 (x.1 : Int))]) (C := [(0, _), (1, _), (2, _), (3, _)]) ⟨rfl, rfl, rfl, rfl, trivial⟩ (fun x => [.cel b T (wyF x.2 tl)]) (0, cs) (⟨Nat.zero_le _, rfl⟩) ⟨rfl, rfl, rfl, rfl, rfl, trivial⟩ (fun _ h => h) ?_
 intro ⟨k, ds⟩ hx L hL1
 refine at_envE (by simp only [ya,yb]; rfl) ?_
 refine at_rsE (by first | (dsimp only; done) | (dsimp only; rfl) | rfl) ?_
 have hk : k ≤ m := hx.1
 have hds : ds = swapN cs i j k := hx.2
 have hlen : ds.length = cs.length := by rw [hds, swapN_len]
 refine at_seq ?_
 refine at_seq ?_
 refine at_region ?_
 refine at_q rfl rfl (by decide) (qt_move rfl rfl) ?_
 refine at_q rfl rfl (by decide) (qt_move rfl rfl) ?_
 refine at_q rfl rfl (by decide) (qt_lss rfl rfl rfl) ?_
 refine at_end ?_
 refine at_cond rfl (fun c1 => ?_) (fun c1 => ?_)
 ·try simp only [za,zb,zc,zd,ze,zf,Bool.not_true,Bool.not_false,zg,zh,ne_eq,zi,zj] at c1
  have hlt : k < m := (by omega)
  obtain ⟨x, hx1⟩ : ∃ x, ds[i + k]? = some x := ⟨_, List.getElem?_eq_getElem (by omega)⟩
  obtain ⟨y, hy1⟩ : ∃ y, ds[j + k]? = some y := ⟨_, List.getElem?_eq_getElem (by omega)⟩
  have hxo : (Wy.cells x).all (·.oneCell') = true := rfl
  have hyo : (Wy.cells y).all (·.oneCell') = true := rfl
  refine at_skip ?_
  refine norm_then ?_
  refine at_seq ?_
  refine at_block ?_
  refine dg_start mixed rfl ?_
  refine dh_phase 21 23 [0] ?_
  refine dh_q (i := 0) rfl (by kernel_rfl) (by kernel_rfl) (by kernel_rfl) [] (by kernel_rfl) (fun _ _ _ h => h) rfl rfl (by decide) (fun _ h => h.upto ⟨rfl, trivial⟩) (qt_move rfl rfl) ?_
  refine dh_q (i := 1) rfl (by kernel_rfl) (by kernel_rfl) (by kernel_rfl) [] (by kernel_rfl) (fun _ _ _ h => h) rfl rfl (by decide) (fun _ h => h.upto ⟨rfl, trivial⟩) (qt_move rfl rfl) ?_
  refine dh_q (i := 2) rfl (by kernel_rfl) (by kernel_rfl) (by kernel_rfl) [] (by kernel_rfl) (fun _ _ _ h => h) rfl rfl (by decide) (fun _ h => h.upto ⟨rfl, trivial⟩) (qt_move rfl rfl) ?_
  refine dh_q (i := 3) rfl (by kernel_rfl) (by kernel_rfl) (by kernel_rfl) [] (by kernel_rfl) (fun _ _ _ h => h) rfl rfl (by decide) (fun _ h => h.upto ⟨rfl, trivial⟩) (qt_add rfl rfl rfl (by omega) (by omega)) ?_
  refine dh_ql (i := 4) rfl (by kernel_rfl) (by kernel_rfl) (by kernel_rfl) [] (by kernel_rfl) (fun _ _ _ h => h) rfl rfl (by decide) (fun _ h => h.upto ⟨rfl, trivial⟩) (qt_move rfl rfl) (qt_move rfl rfl) ?_
  refine dh_ql (i := 5) rfl (by kernel_rfl) (by kernel_rfl) (by kernel_rfl) [] (by kernel_rfl) (fun _ _ _ h => h) rfl rfl (by decide) (fun _ h => h.upto ⟨rfl, trivial⟩) (qt_move rfl rfl) (qt_move rfl rfl) ?_
  refine dh_ql (i := 6) rfl (by kernel_rfl) (by kernel_rfl) (by kernel_rfl) [] (by kernel_rfl) (fun _ _ _ h => h) rfl rfl (by decide) (fun _ h => h.upto ⟨rfl, trivial⟩) (qt_move rfl rfl) (qt_move rfl rfl) ?_
  refine dh_ql (i := 7) rfl (by kernel_rfl) (by kernel_rfl) (by kernel_rfl) [] (by kernel_rfl) (fun _ _ _ h => h) rfl rfl (by decide) (fun _ h => h.upto ⟨rfl, trivial⟩) (qt_add rfl rfl rfl (by omega) (by omega)) (qt_add rfl rfl rfl (by omega) (by omega)) ?_
  refine dh_q (i := 8) rfl (by kernel_rfl) (by kernel_rfl) (by kernel_rfl) [] (by kernel_rfl) (fun _ _ _ h => h) rfl rfl (by decide) (fun _ h => h.upto ⟨rfl, trivial⟩) (qt_move rfl rfl) ?_
  refine dh_q (i := 9) rfl (by kernel_rfl) (by kernel_rfl) (by kernel_rfl) [] (by kernel_rfl) (fun _ _ _ h => h) rfl rfl (by decide) (fun _ h => h.upto ⟨rfl, trivial⟩) (qt_move rfl rfl) ?_
  refine dh_q (i := 10) rfl (by kernel_rfl) (by kernel_rfl) (by kernel_rfl) [] (by kernel_rfl) (fun _ _ _ h => h) rfl rfl (by decide) (fun _ h => h.upto ⟨rfl, trivial⟩) (qt_move rfl rfl) ?_
  refine dh_q (i := 11) rfl (by kernel_rfl) (by kernel_rfl) (by kernel_rfl) [] (by kernel_rfl) (fun _ _ _ h => h) rfl rfl (by decide) (fun _ h => h.upto ⟨rfl, trivial⟩) (qt_add rfl rfl rfl (by omega) (by omega)) ?_
  refine dh_q (i := 12) rfl (by kernel_rfl) (by kernel_rfl) (by kernel_rfl) [] (by kernel_rfl) (fun _ _ _ h => h) rfl rfl (by decide) (fun _ h => h.upto ⟨rfl, trivial⟩) (qt_index (j := j + k) rfl rfl rfl tyl_sl_impl_wayPoint (by omega)) ?_
  refine dh_q (i := 13) rfl (by kernel_rfl) (by kernel_rfl) (by kernel_rfl) [] (by kernel_rfl) (fun _ _ _ h => h) rfl rfl (by decide) (fun _ h => h.upto ⟨rfl, trivial⟩) (qt_loadS rfl rfl tys_impl_wayPoint rfl (rdW (k := 0) rfl hy1 (by omega))) ?_
  refine dh_q (i := 14) rfl (by kernel_rfl) (by kernel_rfl) (by kernel_rfl) [18, 19] (by kernel_rfl) (fun _ _ _ h => h) rfl rfl (by decide) (fun _ h => h.upto ⟨rfl, trivial⟩) (qt_move rfl rfl) ?_
  refine dh_q (i := 15) rfl (by kernel_rfl) (by kernel_rfl) (by kernel_rfl) [17, 18, 19] (by kernel_rfl) (fun _ _ _ h => h) rfl rfl (by decide) (fun _ h => h.upto ⟨rfl, trivial⟩) (qt_move rfl rfl) ?_
  refine dh_q (i := 16) rfl (by kernel_rfl) (by kernel_rfl) (by kernel_rfl) [17, 18, 19] (by kernel_rfl) (fun _ _ _ h => h) rfl rfl (by decide) (fun _ h => h.upto ⟨rfl, trivial⟩) (qt_move rfl rfl) ?_
  refine dh_q (i := 17) rfl (by kernel_rfl) (by kernel_rfl) (by kernel_rfl) [18, 19] (by kernel_rfl) (fun _ _ _ h => h) rfl rfl (by decide) (fun _ h => h.upto ⟨rfl, trivial⟩) (qt_add rfl rfl rfl (by omega) (by omega)) ?_
  refine dh_q (i := 18) rfl (by kernel_rfl) (by kernel_rfl) (by kernel_rfl) [19] (by kernel_rfl) (fun _ _ _ h => h) rfl rfl (by decide) (fun _ h => h.upto ⟨rfl, trivial⟩) (qt_index (j := i + k) rfl rfl rfl tyl_sl_impl_wayPoint (by omega)) ?_
  refine dh_q (i := 19) rfl (by kernel_rfl) (by kernel_rfl) (by kernel_rfl) [] (by kernel_rfl) (fun _ _ _ h => h) rfl rfl (by decide) (fun _ h => h.upto ⟨rfl, trivial⟩) (qt_loadS rfl rfl tys_impl_wayPoint rfl (rdW (k := 0) rfl hx1 (by omega))) ?_
  refine dh_q (i := 20) rfl (by kernel_rfl) (by kernel_rfl) (by kernel_rfl) [] (by kernel_rfl) (fun _ _ _ h => h) rfl rfl (by decide) (fun _ h => h.upto ⟨rfl, trivial⟩) (qt_index (j := i + k) rfl rfl rfl tyl_sl_impl_wayPoint (by omega)) ?_
  refine dh_bar rfl (by kernel_rfl) rfl ?_
  refine op_store (k := 0) rfl rfl rfl rfl rfl hyo tyz_impl_wayPoint.szx rfl rfl (by rw [wyF_len]; simp [Wy.cells]; omega) ?_
  refine dr_keep (fun _ h => (h.wk [0]).upto ⟨rfl, trivial⟩) ?_
  refine at_rsE (by simp only [ya,yb,yc,yd,Value.cells,ye]; rfl) ?_
  refine dg_q (i := 22) rfl (by kernel_rfl) (by kernel_rfl) (by kernel_rfl) [] (by kernel_rfl) (fun _ _ _ h => h) rfl rfl (by decide) (fun _ h => (h.wk [0]).upto ⟨rfl, trivial⟩) (qt_index (j := j + k) rfl rfl rfl tyl_sl_impl_wayPoint (by omega)) ?_
  refine dg_bar rfl (by kernel_rfl) rfl ?_
  refine op_store (k := 0) rfl rfl rfl rfl rfl hxo tyz_impl_wayPoint.szx rfl rfl (by rw [splice_len, wyF_len]; simp [Wy.cells]; omega) ?_
  refine dg_end (by kernel_rfl) ?_
  refine norm_block ?_
  refine norm_then ?_
  refine at_region ?_
  refine at_q rfl rfl (by decide) (qt_move rfl rfl) ?_
  refine at_q rfl rfl (by decide) (qt_add rfl rfl rfl (by omega) (by omega)) ?_
  refine at_q rfl rfl (by decide) (qt_assign rfl rfl) ?_
  refine at_end ?_
  exact at_againc hL1 ((k + 1, swap2 ds (i + k) (j + k))) (⟨show k + 1 ≤ m by omega, by rw [swapN, ← hds]⟩) (by simp only; omega) ⟨vi (by omega), rfl, rfl, rfl, rfl, trivial⟩ (fun _ h => h.upto ⟨congrArg (Res.cel b T) (swap_wy hx1 hy1), trivial⟩)
 ·try simp only [za,zb,zc,zd,ze,zf,Bool.not_true,Bool.not_false,zg,zh,ne_eq,zi,zj] at c1
  refine at_exit ?_
  refine pass_then (fun h => by cases h) ?_
  refine pass_then (fun h => by cases h) ?_
  refine pass_hit ?_
  refine at_end0 rfl ?_
  intro w' hs
  have hkm : k = m := (by omega)
  subst hkm
  exact ⟨rfl, hs.over.wr, hds ▸ hs.cel (k := 0) rfl⟩
theorem rotate_wy (b T : Nat) (tl : List Value) (A G R B : List Wy) (n c a m e_ : Nat) (fv : Value) (w : World) (hh : w.heap[b]? = some (.cells (wyF (A ++ G ++ R ++ B) tl).toArray T (0, 0)))
  (ha : A.length = a) (hm : a + G.length = m) (he : m + R.length = e_) (hG : 0 < G.length) (hR : 0 < R.length) (hen : e_ ≤ n) (hl : n ≤ (A ++ G ++ R ++ B).length) (hn : n ≤ 1099511627776)
  (hone : Up n (fun _ : Wy => True) (A ++ G ++ R ++ B)) :
  Calls Tryz.prog 115 #[.slice (some ⟨b, 0, none⟩) n c, .int .i64 (a : Int), .int .i64 (m : Int), .int .i64 (e_ : Int), fv] w fun e w' => e = .returned (.tuple #[]) ∧ Wr b w w' ∧ w'.heap[b]? = some (.cells (wyF (A ++ R ++ G ++ B) tl).toArray T (0, 0)) := by
 have hlt : n ≤ (A ++ R ++ G ++ B).length := by simp at hl ⊢; omega
 refine walk_from1 (m := 58) (Tryz.func115) rfl rfl (Nat.le_of_ble_eq_true rfl) (hh) ?_
 refine at_seq ?_
 refine at_region ?_
 refine at_q rfl rfl (by decide) (qt_move rfl rfl) ?_
 refine at_q rfl rfl (by decide) (qt_move rfl rfl) ?_
 refine at_q rfl rfl (by decide) (qt_sub rfl rfl rfl (by omega) (by omega)) ?_
 refine at_q rfl rfl (by decide) (qt_assign rfl rfl) ?_
 refine at_end ?_
 refine at_seq ?_
 refine at_region ?_
 refine at_q rfl rfl (by decide) (qt_move rfl rfl) ?_
 refine at_q rfl rfl (by decide) (qt_move rfl rfl) ?_
 refine at_q rfl rfl (by decide) (qt_sub rfl rfl rfl (by omega) (by omega)) ?_
 refine at_q rfl rfl (by decide) (qt_assign rfl rfl) ?_
 refine at_end ?_
 refine at_seq ?_
 refine at_block ?_
 refine at_loopc (X := Nat × Nat × List Wy) (fun x => RotI (fun _ : Wy => True) (A ++ R ++ G ++ B) m n x.1 x.2.1 x.2.2) (fun x => x.1 + x.2.1) (fun x => [(10, .int .i64 (x.1 : Int)), (11, .int .i64 (x.2.1 : Int))]) (C := [(0, _), (2, _), (4, _)]) ⟨rfl, rfl, rfl, trivial⟩ (fun x => [.cel b T (wyF x.2.2 tl)]) (G.length, R.length, A ++ G ++ R ++ B) (⟨⟨A, G, R, B, rfl, (by show A.length + G.length = m; omega), rfl, rfl, rfl⟩, hG, hR, (by show m + R.length ≤ n; omega), hone⟩) ⟨vi (by omega), vi (by show (e_ : Int) - (m : Int) = ((R.length : Nat) : Int); omega), rfl, rfl, rfl, trivial⟩ (fun _ h => h) ?_
 intro ⟨i, j, ds⟩ hx L hL1
 refine at_envE (by simp only [ya,yb]; rfl) ?_
 refine at_rsE (by first | (dsimp only; done) | (dsimp only; rfl) | rfl) ?_
 have hx' : RotI (fun _ : Wy => True) (A ++ R ++ G ++ B) m n i j ds := hx
 have hlen := hx'.len
 have hle := hx'.le
 have hi0 := hx'.i0
 have hj0 := hx'.j0
 refine at_seq ?_
 refine at_seq ?_
 refine at_region ?_
 refine at_q rfl rfl (by decide) (qt_move rfl rfl) ?_
 refine at_q rfl rfl (by decide) (qt_move rfl rfl) ?_
 refine at_q rfl rfl (by decide) (qt_neq rfl rfl rfl) ?_
 refine at_end ?_
 refine at_cond rfl (fun c1 => ?_) (fun c1 => ?_)
 ·try simp only [za,zb,zc,zd,ze,zf,Bool.not_true,Bool.not_false,zg,zh,ne_eq,zi,zj] at c1
  have hne : i ≠ j := (by omega)
  refine at_skip ?_
  refine norm_then ?_
  refine at_block ?_
  refine at_seq ?_
  refine at_region ?_
  refine at_q rfl rfl (by decide) (qt_move rfl rfl) ?_
  refine at_q rfl rfl (by decide) (qt_move rfl rfl) ?_
  refine at_q rfl rfl (by decide) (qt_gtr rfl rfl rfl) ?_
  refine at_end ?_
  refine at_cond rfl (fun c2 => ?_) (fun c2 => ?_)
  ·try simp only [za,zb,zc,zd,ze,zf,Bool.not_true,Bool.not_false,zg,zh,ne_eq,zi,zj] at c2
   have hji : j < i := (by omega)
   refine at_seq ?_
   refine at_region ?_
   refine at_q rfl rfl (by decide) (qt_move rfl rfl) ?_
   refine at_q rfl rfl (by decide) (qt_move rfl rfl) ?_
   refine at_q rfl rfl (by decide) (qt_move rfl rfl) ?_
   refine at_q rfl rfl (by decide) (qt_sub rfl rfl rfl (by omega) (by omega)) ?_
   refine at_q rfl rfl (by decide) (qt_move rfl rfl) ?_
   refine at_q rfl rfl (by decide) (qt_move rfl rfl) ?_
   refine at_q rfl rfl (by decide) (qt_move rfl rfl) ?_
   refine at_as 27 (.int .i64 ((m - i : Nat) : Int)) rfl (congrArg _ (by omega)) ?_
   refine at_op rfl ?_
   refine op_callm (k := 0) ok_slices_swapRangeCmpFunc_impl_wayPoint rfl rfl rfl (by decide) rfl (fun w1 h1 => swapRange_wy b T tl ds n c (m - i) m j fv w1 (h1.cel (k := 0) rfl) (by omega) (by omega) (by omega) hn hx'.one) ?_
   refine at_rsE (by simp only [ya,yb,yc,yd,Value.cells,ye]; rfl) ?_
   refine at_end ?_
   refine at_region ?_
   refine at_q rfl rfl (by decide) (qt_move rfl rfl) ?_
   refine at_q rfl rfl (by decide) (qt_move rfl rfl) ?_
   refine at_q rfl rfl (by decide) (qt_sub rfl rfl rfl (by omega) (by omega)) ?_
   refine at_q rfl rfl (by decide) (qt_assign rfl rfl) ?_
   refine at_nil ?_
   refine norm_block ?_
   refine norm_then ?_
   exact at_againc hL1 ((i - j, j, _)) (hx'.left hji) (by simp only; omega) ⟨vi (by omega), rfl, rfl, rfl, rfl, trivial⟩ (fun _ h => h.upto ⟨rfl, trivial⟩)
  ·try simp only [za,zb,zc,zd,ze,zf,Bool.not_true,Bool.not_false,zg,zh,ne_eq,zi,zj] at c2
   have hji : i < j := (by simp at c2; omega)
   refine at_seq ?_
   refine at_region ?_
   refine at_q rfl rfl (by decide) (qt_move rfl rfl) ?_
   refine at_q rfl rfl (by decide) (qt_move rfl rfl) ?_
   refine at_q rfl rfl (by decide) (qt_move rfl rfl) ?_
   refine at_q rfl rfl (by decide) (qt_sub rfl rfl rfl (by omega) (by omega)) ?_
   refine at_q rfl rfl (by decide) (qt_move rfl rfl) ?_
   refine at_q rfl rfl (by decide) (qt_move rfl rfl) ?_
   refine at_q rfl rfl (by decide) (qt_add rfl rfl rfl (by omega) (by omega)) ?_
   refine at_q rfl rfl (by decide) (qt_move rfl rfl) ?_
   refine at_q rfl rfl (by decide) (qt_sub rfl rfl rfl (by omega) (by omega)) ?_
   refine at_q rfl rfl (by decide) (qt_move rfl rfl) ?_
   refine at_q rfl rfl (by decide) (qt_move rfl rfl) ?_
   refine at_as 38 (.int .i64 ((m - i : Nat) : Int)) rfl (congrArg _ (by omega)) ?_
   refine at_as 43 (.int .i64 ((m + j - i : Nat) : Int)) rfl (congrArg _ (by omega)) ?_
   refine at_op rfl ?_
   refine op_callm (k := 0) ok_slices_swapRangeCmpFunc_impl_wayPoint rfl rfl rfl (by decide) rfl (fun w1 h1 => swapRange_wy b T tl ds n c (m - i) (m + j - i) i fv w1 (h1.cel (k := 0) rfl) (by omega) (by omega) (by omega) hn hx'.one) ?_
   refine at_rsE (by simp only [ya,yb,yc,yd,Value.cells,ye]; rfl) ?_
   refine at_end ?_
   refine at_region ?_
   refine at_q rfl rfl (by decide) (qt_move rfl rfl) ?_
   refine at_q rfl rfl (by decide) (qt_move rfl rfl) ?_
   refine at_q rfl rfl (by decide) (qt_sub rfl rfl rfl (by omega) (by omega)) ?_
   refine at_q rfl rfl (by decide) (qt_assign rfl rfl) ?_
   refine at_nil ?_
   refine norm_block ?_
   refine norm_then ?_
   exact at_againc hL1 ((i, j - i, _)) (hx'.right hji) (by simp only; omega) ⟨rfl, vi (by show (j : Int) - (i : Int) = ((j - i : Nat) : Int); omega), rfl, rfl, rfl, trivial⟩ (fun _ h => h.upto ⟨rfl, trivial⟩)
 ·try simp only [za,zb,zc,zd,ze,zf,Bool.not_true,Bool.not_false,zg,zh,ne_eq,zi,zj] at c1
  refine at_exit ?_
  refine pass_then (fun h => by cases h) ?_
  refine pass_then (fun h => by cases h) ?_
  refine pass_hit ?_
  refine norm_then ?_
  refine at_region ?_
  refine at_q rfl rfl (by decide) (qt_move rfl rfl) ?_
  refine at_q rfl rfl (by decide) (qt_move rfl rfl) ?_
  refine at_q rfl rfl (by decide) (qt_move rfl rfl) ?_
  refine at_q rfl rfl (by decide) (qt_sub rfl rfl rfl (by omega) (by omega)) ?_
  refine at_q rfl rfl (by decide) (qt_move rfl rfl) ?_
  refine at_q rfl rfl (by decide) (qt_move rfl rfl) ?_
  refine at_q rfl rfl (by decide) (qt_move rfl rfl) ?_
  refine at_as 53 (.int .i64 ((m - i : Nat) : Int)) rfl (congrArg _ (by omega)) ?_
  refine at_op rfl ?_
  refine op_callm (k := 0) ok_slices_swapRangeCmpFunc_impl_wayPoint rfl rfl rfl (by decide) rfl (fun w1 h1 => swapRange_wy b T tl ds n c (m - i) m i fv w1 (h1.cel (k := 0) rfl) (by omega) (by omega) (by omega) hn hx'.one) ?_
  refine at_rsE (by simp only [ya,yb,yc,yd,Value.cells,ye]; rfl) ?_
  refine at_nil ?_
  refine at_end0 rfl ?_
  intro w' hs
  have hij : i = j := (by omega)
  subst hij
  exact ⟨rfl, hs.over.wr, by rw [← hx'.fin]; exact hs.cel (k := 0) rfl⟩
/-- The comparison answers so at the elements S, whatever block b holds. -/
structure CmpW (w : World) (b : Nat) (S : Wy → Prop) (cr : Wy → Wy → Int) : Prop where
 call : ∀ x, S x → ∀ y, S y → ∀ w', Ovx ⟨w, [b]⟩ w' → Calls Tryz.prog 68 #[x.val, y.val] w' fun e w'' => e = .returned (.int .i64 (cr x y)) ∧ Over w' w''
 weak : Weak (ltC cr)
theorem CmpW.over {w w1 : World} {b : Nat} {S : Wy → Prop} {cr : Wy → Wy → Int} (h : CmpW w b S cr) (ho : Ovx ⟨w, [b]⟩ w1) : CmpW w1 b S cr :=
 ⟨fun x hx y hy w' hw => h.call x hx y hy w' ⟨hw.os.trans ho.os, hw.tape.trans ho.tape, hw.output.trans ho.output, Nat.le_trans ho.size hw.size, fun q hq hne => (hw.block q (Nat.lt_of_lt_of_le hq ho.size) hne).trans (ho.block q hq hne)⟩, h.weak⟩
theorem insertion_wy (b T : Nat) (tl : List Value) (A X B : List Wy) (n c a e_ : Nat) (S : Wy → Prop) (cr : Wy → Wy → Int) (w : World) (hC : CmpW w b S cr) (hh : w.heap[b]? = some (.cells (wyF (A ++ X ++ B) tl).toArray T (0, 0)))
  (ha : A.length = a) (he : a + X.length = e_) (hen : e_ ≤ n) (hl : n ≤ (A ++ X ++ B).length) (hn : n ≤ 1099511627776) (hS : Up n S (A ++ X ++ B)) :
  Calls Tryz.prog 106 #[.slice (some ⟨b, 0, none⟩) n c, .int .i64 (a : Int), .int .i64 (e_ : Int), .func (.func 68) #[] #[]] w fun e w' => e = .returned (.tuple #[]) ∧ Wr b w w' ∧ w'.heap[b]? = some (.cells (wyF (A ++ srt (ltC cr) X ++ B) tl).toArray T (0, 0)) := by
 subst ha
 refine walk_from1 (m := 53) (Tryz.func106) rfl rfl (Nat.le_of_ble_eq_true rfl) (hh) ?_
 refine at_seq ?_
 refine at_region ?_
 refine at_q rfl rfl (by decide) (qt_move rfl rfl) ?_
 refine at_q rfl rfl (by decide) (qt_add rfl rfl rfl (by omega) (by omega)) ?_
 refine at_q rfl rfl (by decide) (qt_assign rfl rfl) ?_
 refine at_end ?_
 refine at_block ?_
 refine at_loopc (X := Nat × List Wy) (fun x => InsO (ltC cr) A X B x.1 x.2 ∧ Up n S x.2) (fun x => e_ - x.1) (fun x => [(8, .int .i64 (x.1 : Int))]) (C := [(0, _), (1, _), (2, _), (3, _)]) ⟨rfl, rfl, rfl, rfl, trivial⟩ (fun x => [.cel b T (wyF x.2 tl)]) (A.length + 1, A ++ X ++ B) (⟨InsO.start, hS⟩) ⟨rfl, rfl, rfl, rfl, rfl, trivial⟩ (fun _ h => h) ?_
 intro ⟨i, ds⟩ hx L hL1
 refine at_envE (by simp only [ya,yb]; rfl) ?_
 refine at_rsE (by first | (dsimp only; done) | (dsimp only; rfl) | rfl) ?_
 have hx1 : InsO (ltC cr) A X B i ds := hx.1
 have hSd : Up n S ds := hx.2
 have hlo := hx1.lo
 refine at_seq ?_
 refine at_seq ?_
 refine at_region ?_
 refine at_q rfl rfl (by decide) (qt_move rfl rfl) ?_
 refine at_q rfl rfl (by decide) (qt_move rfl rfl) ?_
 refine at_q rfl rfl (by decide) (qt_lss rfl rfl rfl) ?_
 refine at_end ?_
 refine at_cond rfl (fun c1 => ?_) (fun c1 => ?_)
 ·try simp only [za,zb,zc,zd,ze,zf,Bool.not_true,Bool.not_false,zg,zh,ne_eq,zi,zj] at c1
  have hlt : i < e_ := (by omega)
  obtain ⟨x, hin, hout⟩ := hx1.in_ (by omega)
  refine at_skip ?_
  refine norm_then ?_
  refine at_seq ?_
  refine at_block ?_
  refine at_seq ?_
  refine at_region ?_
  refine at_q rfl rfl (by decide) (qt_move rfl rfl) ?_
  refine at_q rfl rfl (by decide) (qt_assign rfl rfl) ?_
  refine at_end ?_
  refine at_block ?_
  refine at_loopc (X := Nat × List Wy) (fun y => InsI (ltC cr) A (srt (ltC cr) (X.take (i - A.length))) (X.drop (i - A.length + 1) ++ B) x y.1 y.2 ∧ A.length ≤ y.1 ∧ y.1 ≤ i ∧ y.2.length = (A ++ X ++ B).length ∧ Up n S y.2) (fun y => y.1) (fun y => [(9, .int .i64 (y.1 : Int))]) (C := [(0, _), (1, _), (2, _), (3, _), (8, _), (12, _), (13, _), (14, _), (17, _)]) ⟨rfl, rfl, rfl, rfl, rfl, rfl, rfl, rfl, rfl, trivial⟩ (fun y => [.cel b T (wyF y.2 tl)]) (i, ds) (⟨hin, by show A.length ≤ i; omega, Nat.le_refl _, hx1.len, hSd⟩) ⟨rfl, rfl, rfl, rfl, rfl, rfl, rfl, rfl, rfl, rfl, trivial⟩ (fun _ h => h) ?_
  intro ⟨j, fs⟩ hy L hL2
  refine at_envE (by simp only [ya,yb]; rfl) ?_
  refine at_rsE (by first | (dsimp only; done) | (dsimp only; rfl) | rfl) ?_
  have hy1 : InsI (ltC cr) A (srt (ltC cr) (X.take (i - A.length))) (X.drop (i - A.length + 1) ++ B) x j fs := hy.1
  have hy2 : A.length ≤ j := hy.2.1
  have hy3 : j ≤ i := hy.2.2.1
  have hy4 : fs.length = (A ++ X ++ B).length := hy.2.2.2.1
  have hSf : Up n S fs := hy.2.2.2.2
  refine at_seq ?_
  refine at_seq ?_
  refine dg_start mixed rfl ?_
  refine dg_phase 17 ?_
  refine dg_q (i := 0) rfl (by kernel_rfl) (by kernel_rfl) (by kernel_rfl) [] (by kernel_rfl) (fun _ _ _ h => h) rfl rfl (by decide) (fun _ h => h.upto ⟨rfl, trivial⟩) (qt_move rfl rfl) ?_
  refine dg_q (i := 1) rfl (by kernel_rfl) (by kernel_rfl) (by kernel_rfl) [] (by kernel_rfl) (fun _ _ _ h => h) rfl rfl (by decide) (fun _ h => h.upto ⟨rfl, trivial⟩) (qt_move rfl rfl) ?_
  refine dg_q (i := 2) rfl (by kernel_rfl) (by kernel_rfl) (by kernel_rfl) [] (by kernel_rfl) (fun _ _ _ h => h) rfl rfl (by decide) (fun _ h => h.upto ⟨rfl, trivial⟩) (qt_gtr rfl rfl rfl) ?_
  refine dg_q (i := 3) rfl (by kernel_rfl) (by kernel_rfl) (by kernel_rfl) [] (by kernel_rfl) (fun _ _ _ h => h) rfl rfl (by decide) (fun _ h => h.upto ⟨rfl, trivial⟩) (qt_move rfl rfl) ?_
  refine at_bsplit 21 rfl (fun g1 => ?_) (fun g1 => ?_)
  ·try simp only [za,zb,zc,zd,ze,zf,Bool.not_true,Bool.not_false,zg,zh,ne_eq,zi,zj] at g1
   have hjl : A.length < j := (by simp at g1; omega)
   obtain ⟨p, u1, u2, hstop, hgo⟩ := hy1.last hjl
   have hSx := hSf j x (by omega) u1
   have hSp := hSf (j - 1) p (by omega) u2
   have hxo : (Wy.cells x).all (·.oneCell') = true := rfl
   have hpo : (Wy.cells p).all (·.oneCell') = true := rfl
   refine dg_qg (i := 4) rfl (by kernel_rfl) (by kernel_rfl) (by kernel_rfl) [] (by kernel_rfl) (fun _ _ _ h => h) rfl rfl rfl rfl rfl (by decide) (fun _ h => h.upto ⟨rfl, trivial⟩) (qt_move rfl rfl) ?_
   refine dg_qg (i := 5) rfl (by kernel_rfl) (by kernel_rfl) (by kernel_rfl) [] (by kernel_rfl) (fun _ _ _ h => h) rfl rfl rfl rfl rfl (by decide) (fun _ h => h.upto ⟨rfl, trivial⟩) (qt_move rfl rfl) ?_
   refine dg_qg (i := 6) rfl (by kernel_rfl) (by kernel_rfl) (by kernel_rfl) [] (by kernel_rfl) (fun _ _ _ h => h) rfl rfl rfl rfl rfl (by decide) (fun _ h => h.upto ⟨rfl, trivial⟩) (qt_move rfl rfl) ?_
   refine dg_qg (i := 7) rfl (by kernel_rfl) (by kernel_rfl) (by kernel_rfl) [] (by kernel_rfl) (fun _ _ _ h => h) rfl rfl rfl rfl rfl (by decide) (fun _ h => h.upto ⟨rfl, trivial⟩) (qt_index (j := j) rfl rfl rfl tyl_sl_impl_wayPoint (by omega)) ?_
   refine dg_qg (i := 8) rfl (by kernel_rfl) (by kernel_rfl) (by kernel_rfl) [] (by kernel_rfl) (fun _ _ _ h => h) rfl rfl rfl rfl rfl (by decide) (fun _ h => h.upto ⟨rfl, trivial⟩) (qt_loadS rfl rfl tys_impl_wayPoint rfl (rdW (k := 0) rfl u1 (by omega))) ?_
   refine dg_qg (i := 9) rfl (by kernel_rfl) (by kernel_rfl) (by kernel_rfl) [] (by kernel_rfl) (fun _ _ _ h => h) rfl rfl rfl rfl rfl (by decide) (fun _ h => h.upto ⟨rfl, trivial⟩) (qt_move rfl rfl) ?_
   refine dg_qg (i := 10) rfl (by kernel_rfl) (by kernel_rfl) (by kernel_rfl) [] (by kernel_rfl) (fun _ _ _ h => h) rfl rfl rfl rfl rfl (by decide) (fun _ h => h.upto ⟨rfl, trivial⟩) (qt_move rfl rfl) ?_
   refine dg_qg (i := 11) rfl (by kernel_rfl) (by kernel_rfl) (by kernel_rfl) [] (by kernel_rfl) (fun _ _ _ h => h) rfl rfl rfl rfl rfl (by decide) (fun _ h => h.upto ⟨rfl, trivial⟩) ((qt_sub rfl rfl rfl (by omega) (by omega)).as (show Value.int .i64 ((j : Int) - 1) = Value.int .i64 ((j - 1 : Nat) : Int) from congrArg _ (by omega))) ?_
   refine dg_qg (i := 12) rfl (by kernel_rfl) (by kernel_rfl) (by kernel_rfl) [] (by kernel_rfl) (fun _ _ _ h => h) rfl rfl rfl rfl rfl (by decide) (fun _ h => h.upto ⟨rfl, trivial⟩) (qt_index (j := j - 1) rfl rfl rfl tyl_sl_impl_wayPoint (by omega)) ?_
   refine dg_qg (i := 13) rfl (by kernel_rfl) (by kernel_rfl) (by kernel_rfl) [] (by kernel_rfl) (fun _ _ _ h => h) rfl rfl rfl rfl rfl (by decide) (fun _ h => h.upto ⟨rfl, trivial⟩) (qt_loadS rfl rfl tys_impl_wayPoint rfl (rdW (k := 0) rfl u2 (by omega))) ?_
   refine dg_qg (i := 14) rfl (by kernel_rfl) (by kernel_rfl) (by kernel_rfl) [] (by kernel_rfl) (fun _ _ _ h => h) rfl rfl rfl rfl rfl (by decide) (fun _ h => h.upto ⟨rfl, trivial⟩) (qt_callk ok_impl_snapEdge_2 rfl rfl rfl (fun w1 h1 => hC.call x hSx p hSp w1 h1.over)) ?_
   refine dg_qg (i := 15) rfl (by kernel_rfl) (by kernel_rfl) (by kernel_rfl) [] (by kernel_rfl) (fun _ _ _ h => h) rfl rfl rfl rfl rfl (by decide) (fun _ h => h.upto ⟨rfl, trivial⟩) (qt_lss rfl rfl rfl) ?_
   refine dg_q (i := 16) rfl (by kernel_rfl) (by kernel_rfl) (by kernel_rfl) [] (by kernel_rfl) (fun _ _ _ h => h) rfl rfl (by decide) (fun _ h => h.upto ⟨rfl, trivial⟩) (qt_pickT rfl rfl rfl) ?_
   refine dg_done (by kernel_rfl) ?_
   refine norm_then ?_
   refine at_cond rfl (fun c2 => ?_) (fun c2 => ?_)
   ·try simp only [za,zb,zc,zd,ze,zf,Bool.not_true,Bool.not_false,zg,zh,ne_eq,zi,zj] at c2
    have hlx : ltC cr x p = true := (by simpa [ltC] using c2)
    refine at_skip ?_
    refine norm_then ?_
    refine at_seq ?_
    refine at_block ?_
    refine dg_start mixed rfl ?_
    refine dh_phase 15 17 [0] ?_
    refine dh_q (i := 0) rfl (by kernel_rfl) (by kernel_rfl) (by kernel_rfl) [] (by kernel_rfl) (fun _ _ _ h => h) rfl rfl (by decide) (fun _ h => h.upto ⟨rfl, trivial⟩) (qt_move rfl rfl) ?_
    refine dh_q (i := 1) rfl (by kernel_rfl) (by kernel_rfl) (by kernel_rfl) [] (by kernel_rfl) (fun _ _ _ h => h) rfl rfl (by decide) (fun _ h => h.upto ⟨rfl, trivial⟩) (qt_move rfl rfl) ?_
    refine dh_ql (i := 2) rfl (by kernel_rfl) (by kernel_rfl) (by kernel_rfl) [] (by kernel_rfl) (fun _ _ _ h => h) rfl rfl (by decide) (fun _ h => h.upto ⟨rfl, trivial⟩) (qt_move rfl rfl) (qt_move rfl rfl) ?_
    refine dh_ql (i := 3) rfl (by kernel_rfl) (by kernel_rfl) (by kernel_rfl) [] (by kernel_rfl) (fun _ _ _ h => h) rfl rfl (by decide) (fun _ h => h.upto ⟨rfl, trivial⟩) (qt_move rfl rfl) (qt_move rfl rfl) ?_
    refine dh_ql (i := 4) rfl (by kernel_rfl) (by kernel_rfl) (by kernel_rfl) [] (by kernel_rfl) (fun _ _ _ h => h) rfl rfl (by decide) (fun _ h => h.upto ⟨rfl, trivial⟩) ((qt_sub rfl rfl rfl (by omega) (by omega)).as (show Value.int .i64 ((j : Int) - 1) = Value.int .i64 ((j - 1 : Nat) : Int) from congrArg _ (by omega))) ((qt_sub rfl rfl rfl (by omega) (by omega)).as (show Value.int .i64 ((j : Int) - 1) = Value.int .i64 ((j - 1 : Nat) : Int) from congrArg _ (by omega))) ?_
    refine dh_q (i := 5) rfl (by kernel_rfl) (by kernel_rfl) (by kernel_rfl) [] (by kernel_rfl) (fun _ _ _ h => h) rfl rfl (by decide) (fun _ h => h.upto ⟨rfl, trivial⟩) (qt_move rfl rfl) ?_
    refine dh_q (i := 6) rfl (by kernel_rfl) (by kernel_rfl) (by kernel_rfl) [] (by kernel_rfl) (fun _ _ _ h => h) rfl rfl (by decide) (fun _ h => h.upto ⟨rfl, trivial⟩) (qt_move rfl rfl) ?_
    refine dh_q (i := 7) rfl (by kernel_rfl) (by kernel_rfl) (by kernel_rfl) [] (by kernel_rfl) (fun _ _ _ h => h) rfl rfl (by decide) (fun _ h => h.upto ⟨rfl, trivial⟩) ((qt_sub rfl rfl rfl (by omega) (by omega)).as (show Value.int .i64 ((j : Int) - 1) = Value.int .i64 ((j - 1 : Nat) : Int) from congrArg _ (by omega))) ?_
    refine dh_q (i := 8) rfl (by kernel_rfl) (by kernel_rfl) (by kernel_rfl) [] (by kernel_rfl) (fun _ _ _ h => h) rfl rfl (by decide) (fun _ h => h.upto ⟨rfl, trivial⟩) (qt_index (j := j - 1) rfl rfl rfl tyl_sl_impl_wayPoint (by omega)) ?_
    refine dh_q (i := 9) rfl (by kernel_rfl) (by kernel_rfl) (by kernel_rfl) [] (by kernel_rfl) (fun _ _ _ h => h) rfl rfl (by decide) (fun _ h => h.upto ⟨rfl, trivial⟩) (qt_loadS rfl rfl tys_impl_wayPoint rfl (rdW (k := 0) rfl u2 (by omega))) ?_
    refine dh_q (i := 10) rfl (by kernel_rfl) (by kernel_rfl) (by kernel_rfl) [12, 13] (by kernel_rfl) (fun _ _ _ h => h) rfl rfl (by decide) (fun _ h => h.upto ⟨rfl, trivial⟩) (qt_move rfl rfl) ?_
    refine dh_q (i := 11) rfl (by kernel_rfl) (by kernel_rfl) (by kernel_rfl) [12, 13] (by kernel_rfl) (fun _ _ _ h => h) rfl rfl (by decide) (fun _ h => h.upto ⟨rfl, trivial⟩) (qt_move rfl rfl) ?_
    refine dh_q (i := 12) rfl (by kernel_rfl) (by kernel_rfl) (by kernel_rfl) [13] (by kernel_rfl) (fun _ _ _ h => h) rfl rfl (by decide) (fun _ h => h.upto ⟨rfl, trivial⟩) (qt_index (j := j) rfl rfl rfl tyl_sl_impl_wayPoint (by omega)) ?_
    refine dh_q (i := 13) rfl (by kernel_rfl) (by kernel_rfl) (by kernel_rfl) [] (by kernel_rfl) (fun _ _ _ h => h) rfl rfl (by decide) (fun _ h => h.upto ⟨rfl, trivial⟩) (qt_loadS rfl rfl tys_impl_wayPoint rfl (rdW (k := 0) rfl u1 (by omega))) ?_
    refine dh_q (i := 14) rfl (by kernel_rfl) (by kernel_rfl) (by kernel_rfl) [] (by kernel_rfl) (fun _ _ _ h => h) rfl rfl (by decide) (fun _ h => h.upto ⟨rfl, trivial⟩) (qt_index (j := j) rfl rfl rfl tyl_sl_impl_wayPoint (by omega)) ?_
    refine dh_bar rfl (by kernel_rfl) rfl ?_
    refine op_store (k := 0) rfl rfl rfl rfl rfl hpo tyz_impl_wayPoint.szx rfl rfl (by rw [wyF_len]; simp [Wy.cells]; omega) ?_
    refine dr_keep (fun _ h => (h.wk [0]).upto ⟨rfl, trivial⟩) ?_
    refine at_rsE (by simp only [ya,yb,yc,yd,Value.cells,ye]; rfl) ?_
    refine dg_q (i := 16) rfl (by kernel_rfl) (by kernel_rfl) (by kernel_rfl) [] (by kernel_rfl) (fun _ _ _ h => h) rfl rfl (by decide) (fun _ h => (h.wk [0]).upto ⟨rfl, trivial⟩) (qt_index (j := j - 1) rfl rfl rfl tyl_sl_impl_wayPoint (by omega)) ?_
    refine dg_bar rfl (by kernel_rfl) rfl ?_
    refine op_store (k := 0) rfl rfl rfl rfl rfl hxo tyz_impl_wayPoint.szx rfl rfl (by rw [splice_len, wyF_len]; simp [Wy.cells]; omega) ?_
    refine dg_end (by kernel_rfl) ?_
    refine norm_block ?_
    refine norm_then ?_
    refine at_region ?_
    refine at_q rfl rfl (by decide) (qt_move rfl rfl) ?_
    refine at_q rfl rfl (by decide) (qt_sub rfl rfl rfl (by omega) (by omega)) ?_
    refine at_q rfl rfl (by decide) (qt_assign rfl rfl) ?_
    refine at_end ?_
    exact at_againc hL2 ((j - 1, swap2 fs j (j - 1))) (⟨hgo hlx, (by show A.length ≤ j - 1; omega), (by show j - 1 ≤ i; omega), by rw [swap2_len]; exact hy4, hSf.swap2 (by omega) (by omega)⟩) (by simp only; omega) ⟨vi (by omega), rfl, rfl, rfl, rfl, rfl, rfl, rfl, rfl, rfl, trivial⟩ (fun _ h => h.upto ⟨congrArg (Res.cel b T) (swap_wy u1 u2), trivial⟩)
   ·try simp only [za,zb,zc,zd,ze,zf,Bool.not_true,Bool.not_false,zg,zh,ne_eq,zi,zj] at c2
    have hlx : ltC cr x p = false := (by simpa [ltC] using c2)
    refine at_exit ?_
    refine pass_then (fun h => by cases h) ?_
    refine pass_then (fun h => by cases h) ?_
    refine pass_hit ?_
    refine norm_block ?_
    refine norm_then ?_
    refine at_region ?_
    refine at_q rfl rfl (by decide) (qt_move rfl rfl) ?_
    refine at_q rfl rfl (by decide) (qt_add rfl rfl rfl (by omega) (by omega)) ?_
    refine at_q rfl rfl (by decide) (qt_assign rfl rfl) ?_
    refine at_end ?_
    exact at_againc hL1 ((i + 1, _)) (⟨hout _ (hstop hC.weak (srt_srt hC.weak _) hlx), hSf⟩) (by simp only; omega) ⟨vi (by omega), rfl, rfl, rfl, rfl, trivial⟩ (fun _ h => h.upto ⟨rfl, trivial⟩)
  ·try simp only [za,zb,zc,zd,ze,zf,Bool.not_true,Bool.not_false,zg,zh,ne_eq,zi,zj] at g1
   have hjl : j ≤ A.length := (by simp at g1; omega)
   refine dg_off (i := 4) rfl (by kernel_rfl) (by kernel_rfl) (by kernel_rfl) [] (by kernel_rfl) (fun _ _ _ h => h) rfl rfl rfl rfl (by decide) rfl (by decide) (fun _ h => h.upto ⟨rfl, trivial⟩) ?_
   refine dg_off (i := 5) rfl (by kernel_rfl) (by kernel_rfl) (by kernel_rfl) [] (by kernel_rfl) (fun _ _ _ h => h) rfl rfl rfl rfl (by decide) rfl (by decide) (fun _ h => h.upto ⟨rfl, trivial⟩) ?_
   refine dg_off (i := 6) rfl (by kernel_rfl) (by kernel_rfl) (by kernel_rfl) [] (by kernel_rfl) (fun _ _ _ h => h) rfl rfl rfl rfl (by decide) rfl (by decide) (fun _ h => h.upto ⟨rfl, trivial⟩) ?_
   refine dg_off (i := 7) rfl (by kernel_rfl) (by kernel_rfl) (by kernel_rfl) [] (by kernel_rfl) (fun _ _ _ h => h) rfl rfl rfl rfl (by decide) rfl (by decide) (fun _ h => h.upto ⟨rfl, trivial⟩) ?_
   refine dg_off (i := 8) rfl (by kernel_rfl) (by kernel_rfl) (by kernel_rfl) [] (by kernel_rfl) (fun _ _ _ h => h) rfl rfl rfl rfl (by decide) rfl (by decide) (fun _ h => h.upto ⟨rfl, trivial⟩) ?_
   refine dg_off (i := 9) rfl (by kernel_rfl) (by kernel_rfl) (by kernel_rfl) [] (by kernel_rfl) (fun _ _ _ h => h) rfl rfl rfl rfl (by decide) rfl (by decide) (fun _ h => h.upto ⟨rfl, trivial⟩) ?_
   refine dg_off (i := 10) rfl (by kernel_rfl) (by kernel_rfl) (by kernel_rfl) [] (by kernel_rfl) (fun _ _ _ h => h) rfl rfl rfl rfl (by decide) rfl (by decide) (fun _ h => h.upto ⟨rfl, trivial⟩) ?_
   refine dg_off (i := 11) rfl (by kernel_rfl) (by kernel_rfl) (by kernel_rfl) [] (by kernel_rfl) (fun _ _ _ h => h) rfl rfl rfl rfl (by decide) rfl (by decide) (fun _ h => h.upto ⟨rfl, trivial⟩) ?_
   refine dg_off (i := 12) rfl (by kernel_rfl) (by kernel_rfl) (by kernel_rfl) [] (by kernel_rfl) (fun _ _ _ h => h) rfl rfl rfl rfl (by decide) rfl (by decide) (fun _ h => h.upto ⟨rfl, trivial⟩) ?_
   refine dg_off (i := 13) rfl (by kernel_rfl) (by kernel_rfl) (by kernel_rfl) [] (by kernel_rfl) (fun _ _ _ h => h) rfl rfl rfl rfl (by decide) rfl (by decide) (fun _ h => h.upto ⟨rfl, trivial⟩) ?_
   refine dg_off (i := 14) rfl (by kernel_rfl) (by kernel_rfl) (by kernel_rfl) [] (by kernel_rfl) (fun _ _ _ h => h) rfl rfl rfl rfl (by decide) rfl (by decide) (fun _ h => h.upto ⟨rfl, trivial⟩) ?_
   refine dg_off (i := 15) rfl (by kernel_rfl) (by kernel_rfl) (by kernel_rfl) [] (by kernel_rfl) (fun _ _ _ h => h) rfl rfl rfl rfl (by decide) rfl (by decide) (fun _ h => h.upto ⟨rfl, trivial⟩) ?_
   refine dg_q (i := 16) rfl (by kernel_rfl) (by kernel_rfl) (by kernel_rfl) [] (by kernel_rfl) (fun _ _ _ h => h) rfl rfl (by decide) (fun _ h => h.upto ⟨rfl, trivial⟩) (qt_pickF rfl rfl rfl) ?_
   refine dg_done (by kernel_rfl) ?_
   refine norm_then ?_
   refine at_no rfl rfl ?_
   refine at_exit ?_
   refine pass_then (fun h => by cases h) ?_
   refine pass_then (fun h => by cases h) ?_
   refine pass_hit ?_
   refine norm_block ?_
   refine norm_then ?_
   refine at_region ?_
   refine at_q rfl rfl (by decide) (qt_move rfl rfl) ?_
   refine at_q rfl rfl (by decide) (qt_add rfl rfl rfl (by omega) (by omega)) ?_
   refine at_q rfl rfl (by decide) (qt_assign rfl rfl) ?_
   refine at_end ?_
   exact at_againc hL1 ((i + 1, _)) (⟨hout _ (hy1.low hjl), hSf⟩) (by simp only; omega) ⟨vi (by omega), rfl, rfl, rfl, rfl, trivial⟩ (fun _ h => h.upto ⟨rfl, trivial⟩)
 ·try simp only [za,zb,zc,zd,ze,zf,Bool.not_true,Bool.not_false,zg,zh,ne_eq,zi,zj] at c1
  refine at_exit ?_
  refine pass_then (fun h => by cases h) ?_
  refine pass_then (fun h => by cases h) ?_
  refine pass_hit ?_
  refine at_end0 rfl ?_
  intro w' hs
  exact ⟨rfl, hs.over.wr, by rw [← hx1.fin (by omega)]; exact hs.cel (k := 0) rfl⟩
theorem wy_eq {l l' : List Wy} {T : Nat} {tl : List Value} (e : l = l') : some (Obj.cells (wyF l tl).toArray T (0, 0)) = some (Obj.cells (wyF l' tl).toArray T (0, 0)) := by rw [e]
theorem stable_wy (b T : Nat) (tl : List Value) (X B : List Wy) (n c : Nat) (S : Wy → Prop) (cr : Wy → Wy → Int) (w : World) (hC : CmpW w b S cr) (hh : w.heap[b]? = some (.cells (wyF (X ++ B) tl).toArray T (0, 0)))
  (hX : X.length = n) (hn : n ≤ 1099511627776) (hS : ∀ x ∈ X, S x)
  (hM : ∀ (A L R Z : List Wy) (a m e_ : Nat) (w1 : World), CmpW w1 b S cr → w1.heap[b]? = some (.cells (wyF (A ++ L ++ R ++ Z) tl).toArray T (0, 0)) → A.length = a → a + L.length = m → m + R.length = e_ → 0 < L.length → 0 < R.length → e_ ≤ n → n ≤ (A ++ L ++ R ++ Z).length → Srt (ltC cr) L → Srt (ltC cr) R → Up n S (A ++ L ++ R ++ Z) →
   Calls Tryz.prog 107 #[.slice (some ⟨b, 0, none⟩) n c, .int .i64 (a : Int), .int .i64 (m : Int), .int .i64 (e_ : Int), .func (.func 68) #[] #[]] w1 fun e w' => e = .returned (.tuple #[]) ∧ Wr b w1 w' ∧ w'.heap[b]? = some (.cells (wyF (A ++ mrg (ltC cr) L R ++ Z) tl).toArray T (0, 0))) :
  Calls Tryz.prog 88 #[.slice (some ⟨b, 0, none⟩) n c, .int .i64 (n : Int), .func (.func 68) #[] #[]] w fun e w' => e = .returned (.tuple #[]) ∧ Wr b w w' ∧ w'.heap[b]? = some (.cells (wyF (srt (ltC cr) X ++ B) tl).toArray T (0, 0)) := by
 have W := hC.weak
 refine walk_from1 (m := 63) (Tryz.func88) rfl rfl (Nat.le_of_ble_eq_true rfl) (hh) ?_
 refine at_seq ?_
 refine at_region ?_
 refine at_q rfl rfl (by decide) (qt_assign rfl rfl) ?_
 refine at_end ?_
 refine at_seq ?_
 refine at_region ?_
 refine at_q rfl rfl (by decide) (qt_move rfl rfl) ?_
 refine at_q rfl rfl (by decide) (qt_assign rfl rfl) ?_
 refine at_q rfl rfl (by decide) (qt_assign rfl rfl) ?_
 refine at_end ?_
 refine at_seq ?_
 refine at_block ?_
 refine at_loopc (X := Nat × List Wy) (fun x => PreI (ltC cr) X 20 x.1 x.2) (fun x => n + 20 - x.1) (fun x => [(7, .int .i64 (x.1 : Int)), (8, .int .i64 ((x.1 + 20 : Nat) : Int))]) (C := [(0, _), (1, _), (2, _), (6, _)]) ⟨rfl, rfl, rfl, rfl, trivial⟩ (fun x => [.cel b T (wyF (x.2 ++ (X.drop x.1 ++ B)) tl)]) (0, []) (PreI.zero) ⟨rfl, rfl, rfl, rfl, rfl, rfl, trivial⟩ (fun _ h => h) ?_
 intro ⟨a, F⟩ hx L hL1
 refine at_envE (by simp only [ya,yb]; rfl) ?_
 refine at_rsE (by first | (dsimp only; done) | (dsimp only; rfl) | rfl) ?_
 have hx1 : PreI (ltC cr) X 20 a F := hx
 have hle := hx1.le
 have hfl := hx1.len
 refine at_seq ?_
 refine at_seq ?_
 refine at_region ?_
 refine at_q rfl rfl (by decide) (qt_move rfl rfl) ?_
 refine at_q rfl rfl (by decide) (qt_move rfl rfl) ?_
 refine at_q rfl rfl (by decide) (qt_leq rfl rfl rfl) ?_
 refine at_end ?_
 refine at_cond rfl (fun c1 => ?_) (fun c1 => ?_)
 ·try simp only [za,zb,zc,zd,ze,zf,Bool.not_true,Bool.not_false,zg,zh,ne_eq,zi,zj] at c1
  have hlt : a + 20 ≤ n := (by omega)
  refine at_skip ?_
  refine norm_then ?_
  refine at_block ?_
  refine at_seq ?_
  refine at_region ?_
  refine at_q rfl rfl (by decide) (qt_move rfl rfl) ?_
  refine at_q rfl rfl (by decide) (qt_move rfl rfl) ?_
  refine at_q rfl rfl (by decide) (qt_move rfl rfl) ?_
  refine at_q rfl rfl (by decide) (qt_move rfl rfl) ?_
  refine at_op rfl ?_
  refine op_callm (k := 0) ok_slices_insertionSortCmpFunc_impl_wayPoint rfl rfl rfl (by decide) rfl (fun w1 h1 => insertion_wy b T tl F ((X.drop a).take 20) (X.drop (a + 20) ++ B) n c a (a + 20) S cr w1 (hC.over h1.over) ((h1.cel (k := 0) rfl).trans (wy_eq PreI.cut)) hfl (by simp; omega) hlt (by rw [← PreI.cut, ← hX]; exact (hx1.lens (q := 0)).1) hn (by rw [← PreI.cut]; exact (hx1.all (q := 0) hS hX).1)) ?_
  refine at_rsE (by simp only [ya,yb,yc,yd,Value.cells,ye]; rfl) ?_
  refine at_end ?_
  refine at_seq ?_
  refine at_region ?_
  refine at_q rfl rfl (by decide) (qt_move rfl rfl) ?_
  refine at_q rfl rfl (by decide) (qt_assign rfl rfl) ?_
  refine at_end ?_
  refine at_region ?_
  refine at_q rfl rfl (by decide) (qt_move rfl rfl) ?_
  refine at_q rfl rfl (by decide) (qt_move rfl rfl) ?_
  refine at_q rfl rfl (by decide) (qt_add rfl rfl rfl (by omega) (by omega)) ?_
  refine at_q rfl rfl (by decide) (qt_assign rfl rfl) ?_
  refine at_nil ?_
  refine norm_block ?_
  refine norm_then ?_
  exact at_againc hL1 ((a + 20, F ++ srt (ltC cr) ((X.drop a).take 20))) (hx1.step (by decide) (by omega)) (by simp only; omega) ⟨rfl, vi (by omega), rfl, rfl, rfl, rfl, trivial⟩ (fun _ h => h.upto ⟨rfl, trivial⟩)
 ·try simp only [za,zb,zc,zd,ze,zf,Bool.not_true,Bool.not_false,zg,zh,ne_eq,zi,zj] at c1
  refine at_exit ?_
  refine pass_then (fun h => by cases h) ?_
  refine pass_then (fun h => by cases h) ?_
  refine pass_hit ?_
  refine norm_then ?_
  refine at_seq ?_
  refine at_region ?_
  refine at_q rfl rfl (by decide) (qt_move rfl rfl) ?_
  refine at_q rfl rfl (by decide) (qt_move rfl rfl) ?_
  refine at_q rfl rfl (by decide) (qt_move rfl rfl) ?_
  refine at_q rfl rfl (by decide) (qt_move rfl rfl) ?_
  refine at_op rfl ?_
  refine op_callm (k := 0) ok_slices_insertionSortCmpFunc_impl_wayPoint rfl rfl rfl (by decide) rfl (fun w1 h1 => insertion_wy b T tl F (X.drop a) B n c a n S cr w1 (hC.over h1.over) ((h1.cel (k := 0) rfl).trans (wy_eq (List.append_assoc ..).symm)) hfl (by simp; omega) (Nat.le_refl _) (by rw [List.append_assoc, ← hX]; exact (hx1.lens (q := 0)).1) hn (by rw [List.append_assoc]; exact (hx1.all (q := 0) hS hX).1)) ?_
  refine at_rsE (by simp only [ya,yb,yc,yd,Value.cells,ye]; rfl) ?_
  rw [show F ++ srt (ltC cr) (X.drop a) = blk (ltC cr) 20 X from hx1.fin (by omega)]
  refine at_end ?_
  refine at_block ?_
  refine at_loopc (X := Nat × Value × Value) (fun x => 20 ≤ x.1 ∧ x.1 ≤ 2 * n + 40) (fun x => n - x.1) (fun x => [(6, .int .i64 (x.1 : Int)), (7, x.2.1), (8, x.2.2)]) (C := [(0, _), (1, _), (2, _)]) ⟨rfl, rfl, rfl, trivial⟩ (fun x => [.cel b T (wyF (blk (ltC cr) x.1 X ++ B) tl)]) (20, .int .i64 (a : Int), .int .i64 ((a + 20 : Nat) : Int)) (⟨Nat.le_refl _, (by show 20 ≤ 2 * n + 40; omega)⟩) ⟨rfl, rfl, rfl, rfl, rfl, rfl, trivial⟩ (fun _ h => h) ?_
  intro ⟨k, v7, v8⟩ hk L hL2
  refine at_envE (by simp only [ya,yb]; rfl) ?_
  refine at_rsE (by first | (dsimp only; done) | (dsimp only; rfl) | rfl) ?_
  have hk1 : 20 ≤ k := hk.1
  have hk2 : k ≤ 2 * n + 40 := hk.2
  refine at_seq ?_
  refine at_seq ?_
  refine at_region ?_
  refine at_q rfl rfl (by decide) (qt_move rfl rfl) ?_
  refine at_q rfl rfl (by decide) (qt_move rfl rfl) ?_
  refine at_q rfl rfl (by decide) (qt_lss rfl rfl rfl) ?_
  refine at_end ?_
  refine at_cond rfl (fun c2 => ?_) (fun c2 => ?_)
  ·try simp only [za,zb,zc,zd,ze,zf,Bool.not_true,Bool.not_false,zg,zh,ne_eq,zi,zj] at c2
   have hkn : k < n := (by omega)
   refine at_skip ?_
   refine norm_then ?_
   refine at_block ?_
   refine at_seq ?_
   refine at_region ?_
   refine at_q rfl rfl (by decide) (qt_move rfl rfl) ?_
   refine at_q rfl rfl (by decide) (qt_mul rfl rfl rfl (by omega) (by omega)) ?_
   refine at_q rfl rfl (by decide) (qt_assign rfl rfl) ?_
   refine at_q rfl rfl (by decide) (qt_assign rfl rfl) ?_
   refine at_end ?_
   refine at_seq ?_
   refine at_block ?_
   refine at_loopc (X := Nat × List Wy) (fun y => PreI (ltC cr) X (2 * k) y.1 y.2) (fun y => n + 2 * k - y.1) (fun y => [(7, .int .i64 (y.1 : Int)), (8, .int .i64 ((y.1 + 2 * k : Nat) : Int))]) (C := [(0, _), (1, _), (2, _), (6, _), (28, _), (29, _), (30, _), (31, _), (32, _)]) ⟨rfl, rfl, rfl, rfl, rfl, rfl, rfl, rfl, rfl, trivial⟩ (fun y => [.cel b T (wyF (y.2 ++ (blk (ltC cr) k (X.drop y.1) ++ B)) tl)]) (0, []) (PreI.zero) ⟨rfl, vi (by omega), rfl, rfl, rfl, rfl, rfl, rfl, rfl, rfl, rfl, trivial⟩ (fun _ h => h) ?_
   intro ⟨d, G⟩ hy L hL3
   refine at_envE (by simp only [ya,yb]; rfl) ?_
   refine at_rsE (by first | (dsimp only; done) | (dsimp only; rfl) | rfl) ?_
   have hy1 : PreI (ltC cr) X (2 * k) d G := hy
   have hld := hy1.le
   have hgl := hy1.len
   refine at_seq ?_
   refine at_seq ?_
   refine at_region ?_
   refine at_q rfl rfl (by decide) (qt_move rfl rfl) ?_
   refine at_q rfl rfl (by decide) (qt_move rfl rfl) ?_
   refine at_q rfl rfl (by decide) (qt_leq rfl rfl rfl) ?_
   refine at_end ?_
   refine at_cond rfl (fun c3 => ?_) (fun c3 => ?_)
   ·try simp only [za,zb,zc,zd,ze,zf,Bool.not_true,Bool.not_false,zg,zh,ne_eq,zi,zj] at c3
    have hd2 : d + 2 * k ≤ n := (by omega)
    obtain ⟨e1, e2⟩ := hy1.two W (B := B) (by omega) (by omega)
    refine at_skip ?_
    refine norm_then ?_
    refine at_block ?_
    refine at_seq ?_
    refine at_region ?_
    refine at_q rfl rfl (by decide) (qt_move rfl rfl) ?_
    refine at_q rfl rfl (by decide) (qt_move rfl rfl) ?_
    refine at_q rfl rfl (by decide) (qt_move rfl rfl) ?_
    refine at_q rfl rfl (by decide) (qt_move rfl rfl) ?_
    refine at_q rfl rfl (by decide) (qt_add rfl rfl rfl (by omega) (by omega)) ?_
    refine at_q rfl rfl (by decide) (qt_move rfl rfl) ?_
    refine at_q rfl rfl (by decide) (qt_move rfl rfl) ?_
    refine at_op rfl ?_
    refine op_callm (k := 0) ok_slices_symMergeCmpFunc_impl_wayPoint rfl rfl rfl (by decide) rfl (fun w1 h1 => hM G (srt (ltC cr) ((X.drop d).take k)) (srt (ltC cr) (((X.drop d).drop k).take k)) (blk (ltC cr) k (X.drop (d + 2 * k)) ++ B) d (d + k) (d + 2 * k) w1 (hC.over h1.over) ((h1.cel (k := 0) rfl).trans (wy_eq e1)) hgl (by rw [srt_len]; simp; omega) (by rw [srt_len]; simp; omega) (by rw [srt_len]; simp; omega) (by rw [srt_len]; simp; omega) hd2 (by rw [← e1, ← hX]; exact (hy1.lens (q := k)).2) (srt_srt W _) (srt_srt W _) (by rw [← e1]; exact (hy1.all (q := k) hS hX).2)) ?_
    refine at_rsE (by simp only [ya,yb,yc,yd,Value.cells,ye]; rfl) ?_
    refine at_end ?_
    refine at_seq ?_
    refine at_region ?_
    refine at_q rfl rfl (by decide) (qt_move rfl rfl) ?_
    refine at_q rfl rfl (by decide) (qt_assign rfl rfl) ?_
    refine at_end ?_
    refine at_region ?_
    refine at_q rfl rfl (by decide) (qt_move rfl rfl) ?_
    refine at_q rfl rfl (by decide) (qt_move rfl rfl) ?_
    refine at_q rfl rfl (by decide) (qt_mul rfl rfl rfl (by omega) (by omega)) ?_
    refine at_q rfl rfl (by decide) (qt_add rfl rfl rfl (by omega) (by omega)) ?_
    refine at_q rfl rfl (by decide) (qt_assign rfl rfl) ?_
    refine at_nil ?_
    refine norm_block ?_
    refine norm_then ?_
    exact at_againc hL3 ((d + 2 * k, G ++ mrg (ltC cr) (srt (ltC cr) ((X.drop d).take k)) (srt (ltC cr) (((X.drop d).drop k).take k)))) (e2) (by simp only; omega) ⟨rfl, vi (by omega), rfl, rfl, rfl, rfl, rfl, rfl, rfl, rfl, rfl, trivial⟩ (fun _ h => h.upto ⟨rfl, trivial⟩)
   ·try simp only [za,zb,zc,zd,ze,zf,Bool.not_true,Bool.not_false,zg,zh,ne_eq,zi,zj] at c3
    refine at_exit ?_
    refine pass_then (fun h => by cases h) ?_
    refine pass_then (fun h => by cases h) ?_
    refine pass_hit ?_
    refine norm_then ?_
    refine at_seq ?_
    refine at_seq ?_
    refine at_region ?_
    refine at_q rfl rfl (by decide) (qt_move rfl rfl) ?_
    refine at_q rfl rfl (by decide) (qt_move rfl rfl) ?_
    refine at_q rfl rfl (by decide) (qt_add rfl rfl rfl (by omega) (by omega)) ?_
    refine at_q rfl rfl (by decide) (qt_assign rfl rfl) ?_
    refine at_end ?_
    refine at_seq ?_
    refine at_region ?_
    refine at_q rfl rfl (by decide) (qt_move rfl rfl) ?_
    refine at_q rfl rfl (by decide) (qt_move rfl rfl) ?_
    refine at_q rfl rfl (by decide) (qt_lss rfl rfl rfl) ?_
    refine at_end ?_
    refine at_cond rfl (fun c4 => ?_) (fun c4 => ?_)
    ·try simp only [za,zb,zc,zd,ze,zf,Bool.not_true,Bool.not_false,zg,zh,ne_eq,zi,zj] at c4
     have hdk : d + k < n := (by omega)
     obtain ⟨e3, e4⟩ := hy1.last W (B := B) (by omega) (by omega) (by omega)
     refine at_region ?_
     refine at_q rfl rfl (by decide) (qt_move rfl rfl) ?_
     refine at_q rfl rfl (by decide) (qt_move rfl rfl) ?_
     refine at_q rfl rfl (by decide) (qt_move rfl rfl) ?_
     refine at_q rfl rfl (by decide) (qt_move rfl rfl) ?_
     refine at_q rfl rfl (by decide) (qt_move rfl rfl) ?_
     refine at_op rfl ?_
     refine op_callm (k := 0) ok_slices_symMergeCmpFunc_impl_wayPoint rfl rfl rfl (by decide) rfl (fun w1 h1 => hM G (srt (ltC cr) ((X.drop d).take k)) (srt (ltC cr) ((X.drop d).drop k)) B d (d + k) n w1 (hC.over h1.over) ((h1.cel (k := 0) rfl).trans (wy_eq e3)) hgl (by rw [srt_len]; simp; omega) (by rw [srt_len]; simp; omega) (by rw [srt_len]; simp; omega) (by rw [srt_len]; simp; omega) (Nat.le_refl _) (by rw [← e3, ← hX]; exact (hy1.lens (q := k)).2) (srt_srt W _) (srt_srt W _) (by rw [← e3]; exact (hy1.all (q := k) hS hX).2)) ?_
     refine at_rsE (by simp only [ya,yb,yc,yd,Value.cells,ye]; rfl) ?_
     rw [e4]
     refine at_end ?_
     refine at_region ?_
     refine at_q rfl rfl (by decide) (qt_move rfl rfl) ?_
     refine at_q rfl rfl (by decide) (qt_mul rfl rfl rfl (by omega) (by omega)) ?_
     refine at_q rfl rfl (by decide) (qt_assign rfl rfl) ?_
     refine at_nil ?_
     refine norm_block ?_
     refine norm_then ?_
     exact at_againc hL2 ((2 * k, .int .i64 (d : Int), .int .i64 ((d + 2 * k : Nat) : Int))) (⟨show 20 ≤ 2 * k by omega, show 2 * k ≤ 2 * n + 40 by omega⟩) (by simp only; omega) ⟨vi (by show (k : Int) * 2 = ((2 * k : Nat) : Int); omega), rfl, rfl, rfl, rfl, rfl, trivial⟩ (fun _ h => h.upto ⟨rfl, trivial⟩)
    ·try simp only [za,zb,zc,zd,ze,zf,Bool.not_true,Bool.not_false,zg,zh,ne_eq,zi,zj] at c4
     rw [show G ++ (blk (ltC cr) k (X.drop d) ++ B) = blk (ltC cr) (2 * k) X ++ B from hy1.none (by omega)]
     refine at_skip ?_
     refine norm_then ?_
     refine at_region ?_
     refine at_q rfl rfl (by decide) (qt_move rfl rfl) ?_
     refine at_q rfl rfl (by decide) (qt_mul rfl rfl rfl (by omega) (by omega)) ?_
     refine at_q rfl rfl (by decide) (qt_assign rfl rfl) ?_
     refine at_nil ?_
     refine norm_block ?_
     refine norm_then ?_
     exact at_againc hL2 ((2 * k, .int .i64 (d : Int), .int .i64 ((d + 2 * k : Nat) : Int))) (⟨show 20 ≤ 2 * k by omega, show 2 * k ≤ 2 * n + 40 by omega⟩) (by simp only; omega) ⟨vi (by show (k : Int) * 2 = ((2 * k : Nat) : Int); omega), rfl, rfl, rfl, rfl, rfl, trivial⟩ (fun _ h => h.upto ⟨rfl, trivial⟩)
  ·try simp only [za,zb,zc,zd,ze,zf,Bool.not_true,Bool.not_false,zg,zh,ne_eq,zi,zj] at c2
   refine at_exit ?_
   refine pass_then (fun h => by cases h) ?_
   refine pass_then (fun h => by cases h) ?_
   refine pass_hit ?_
   refine at_end0 rfl ?_
   intro w' hs
   exact ⟨rfl, hs.over.wr, by rw [← blk_short (lt := ltC cr) (k := k) (xs := X) (by omega)]; exact hs.cel (k := 0) rfl⟩
/-- The contract of a merge over stretches shorter than m. -/
def MrgW (b T n c : Nat) (tl : List Value) (S : Wy → Prop) (cr : Wy → Wy → Int) (top : Nat) : Prop :=
 ∀ (A L R Z : List Wy) (a m e_ : Nat) (w1 : World), L.length + R.length < top → CmpW w1 b S cr → w1.heap[b]? = some (.cells (wyF (A ++ L ++ R ++ Z) tl).toArray T (0, 0)) → A.length = a → a + L.length = m → m + R.length = e_ → 0 < L.length → 0 < R.length → e_ ≤ n → n ≤ (A ++ L ++ R ++ Z).length → Srt (ltC cr) L → Srt (ltC cr) R → Up n S (A ++ L ++ R ++ Z) →
   Calls Tryz.prog 107 #[.slice (some ⟨b, 0, none⟩) n c, .int .i64 (a : Int), .int .i64 (m : Int), .int .i64 (e_ : Int), .func (.func 68) #[] #[]] w1 fun e w' => e = .returned (.tuple #[]) ∧ Wr b w1 w' ∧ w'.heap[b]? = some (.cells (wyF (A ++ mrg (ltC cr) L R ++ Z) tl).toArray T (0, 0))
theorem symMerge_wy (b T n c : Nat) (tl : List Value) (S : Wy → Prop) (cr : Wy → Wy → Int) (hn : n ≤ 1099511627776) (A G R Z : List Wy) (a m e_ : Nat) (w : World) (ih : MrgW b T n c tl S cr (G.length + R.length))
  (hC : CmpW w b S cr) (hh : w.heap[b]? = some (.cells (wyF (A ++ G ++ R ++ Z) tl).toArray T (0, 0))) (ha : A.length = a) (hm : a + G.length = m) (he : m + R.length = e_) (hG : 0 < G.length) (hR : 0 < R.length) (hen : e_ ≤ n) (hl : n ≤ (A ++ G ++ R ++ Z).length)
  (hsG : Srt (ltC cr) G) (hsR : Srt (ltC cr) R) (hS : Up n S (A ++ G ++ R ++ Z)) :
  Calls Tryz.prog 107 #[.slice (some ⟨b, 0, none⟩) n c, .int .i64 (a : Int), .int .i64 (m : Int), .int .i64 (e_ : Int), .func (.func 68) #[] #[]] w fun e w' => e = .returned (.tuple #[]) ∧ Wr b w w' ∧ w'.heap[b]? = some (.cells (wyF (A ++ mrg (ltC cr) G R ++ Z) tl).toArray T (0, 0)) := by
 have W := hC.weak
 have hlen : (A ++ G ++ R ++ Z).length = e_ + Z.length := by simp; omega
 have hRat : ∀ i, i < R.length → (A ++ G ++ R ++ Z)[m + i]? = R[i]? := fun i hi => by
  rw [List.getElem?_append_left (by simp; omega), List.getElem?_append_right (by simp; omega)]
  congr 1
  simp
  omega
 have hGat : ∀ i, i < G.length → (A ++ G ++ R ++ Z)[a + i]? = G[i]? := fun i hi => by
  rw [List.getElem?_append_left (by simp; omega), List.getElem?_append_left (by simp; omega), List.getElem?_append_right (by omega)]
  congr 1
  omega
 refine walk_from1 (m := 220) (Tryz.func107) rfl rfl (Nat.le_of_ble_eq_true rfl) (hh) ?_
 refine at_seq ?_
 refine at_seq ?_
 refine at_region ?_
 refine at_q rfl rfl (by decide) (qt_move rfl rfl) ?_
 refine at_q rfl rfl (by decide) (qt_move rfl rfl) ?_
 refine at_q rfl rfl (by decide) (qt_sub rfl rfl rfl (by omega) (by omega)) ?_
 refine at_q rfl rfl (by decide) (qt_eql rfl rfl rfl) ?_
 refine at_end ?_
 refine at_cond rfl (fun c1 => ?_) (fun c1 => ?_)
 ·try simp only [za,zb,zc,zd,ze,zf,Bool.not_true,Bool.not_false,zg,zh,ne_eq,zi,zj] at c1
  have hG1 : G.length = 1 := (by omega)
  obtain ⟨x, hx0⟩ : ∃ x, G[0]? = some x := ⟨_, List.getElem?_eq_getElem hG⟩
  have hGx : G = [x] := (by match G, hG1, hx0 with | [y], _, h => (cases h; rfl))
  have hxa : (A ++ G ++ R ++ Z)[a]? = some x := (hGat 0 hG).trans hx0
  have hSx : S x := hS _ x (by omega) hxa
  refine at_seq ?_
  refine at_region ?_
  refine at_q rfl rfl (by decide) (qt_move rfl rfl) ?_
  refine at_q rfl rfl (by decide) (qt_assign rfl rfl) ?_
  refine at_end ?_
  refine at_seq ?_
  refine at_region ?_
  refine at_q rfl rfl (by decide) (qt_move rfl rfl) ?_
  refine at_q rfl rfl (by decide) (qt_assign rfl rfl) ?_
  refine at_end ?_
  refine at_seq ?_
  refine at_block ?_
  refine at_loopc (X := Nat × Nat) (fun y => S1I (ltC cr) R x y.1 y.2) (fun y => y.2 - y.1) (fun y => [(10, .int .i64 ((m + y.1 : Nat) : Int)), (11, .int .i64 ((m + y.2 : Nat) : Int))]) (C := [(0, _), (1, _), (2, _), (3, _), (4, _)]) ⟨rfl, rfl, rfl, rfl, rfl, trivial⟩ (fun y => [.cel b T (wyF (A ++ G ++ R ++ Z) tl)]) (0, R.length) (S1I.start) ⟨rfl, vi (by omega), rfl, rfl, rfl, rfl, rfl, trivial⟩ (fun _ h => h) ?_
  intro ⟨i, j⟩ hy L hL1
  refine at_envE (by simp only [ya,yb]; rfl) ?_
  refine at_rsE (by first | (dsimp only; done) | (dsimp only; rfl) | rfl) ?_
  have hy1 : S1I (ltC cr) R x i j := hy
  have hle := hy1.le
  refine at_seq ?_
  refine at_seq ?_
  refine at_region ?_
  refine at_q rfl rfl (by decide) (qt_move rfl rfl) ?_
  refine at_q rfl rfl (by decide) (qt_move rfl rfl) ?_
  refine at_q rfl rfl (by decide) (qt_lss rfl rfl rfl) ?_
  refine at_end ?_
  refine at_cond rfl (fun c2 => ?_) (fun c2 => ?_)
  ·try simp only [za,zb,zc,zd,ze,zf,Bool.not_true,Bool.not_false,zg,zh,ne_eq,zi,zj] at c2
   have hij : i < j := (by omega)
   obtain ⟨r, hr⟩ : ∃ r, R[(i + j) / 2]? = some r := ⟨_, List.getElem?_eq_getElem (by omega)⟩
   have hra : (A ++ G ++ R ++ Z)[m + (i + j) / 2]? = some r := (hRat _ (by omega)).trans hr
   have hSr : S r := hS _ r (by omega) hra
   refine at_skip ?_
   refine norm_then ?_
   refine at_block ?_
   refine at_seq ?_
   refine at_region ?_
   refine at_q rfl rfl (by decide) (qt_move rfl rfl) ?_
   refine at_q rfl rfl (by decide) (qt_move rfl rfl) ?_
   refine at_q rfl rfl (by decide) (qt_add rfl rfl rfl (by omega) (by omega)) ?_
   refine at_q rfl rfl (by decide) (qt_convI rfl Tryz.underlying3 Tryz.underlying121 rfl (u64_in _ (by omega) (by omega))) ?_
   refine at_q rfl rfl (by decide) (qt_shrU (q := 1) rfl rfl rfl (by decide) (by decide)) ?_
   refine at_q rfl rfl (by decide) ((qt_convI rfl Tryz.underlying121 Tryz.underlying3 rfl (wrapI64 _ (by simp; omega) (by simp; omega))).as (congrArg _ (show ((((m + i : Nat) : Int) + ((m + j : Nat) : Int)) / 2 ^ (Int.toNat 1)) = ((m + (i + j) / 2 : Nat) : Int) by simp; omega))) ?_
   refine at_q rfl rfl (by decide) (qt_assign rfl rfl) ?_
   refine at_end ?_
   refine at_seq ?_
   refine dg_start mixed rfl ?_
   refine dg_phase 11 ?_
   refine dg_q (i := 0) rfl (by kernel_rfl) (by kernel_rfl) (by kernel_rfl) [] (by kernel_rfl) (fun _ _ _ h => h) rfl rfl (by decide) (fun _ h => h.upto ⟨rfl, trivial⟩) (qt_move rfl rfl) ?_
   refine dg_q (i := 1) rfl (by kernel_rfl) (by kernel_rfl) (by kernel_rfl) [] (by kernel_rfl) (fun _ _ _ h => h) rfl rfl (by decide) (fun _ h => h.upto ⟨rfl, trivial⟩) (qt_move rfl rfl) ?_
   refine dg_q (i := 2) rfl (by kernel_rfl) (by kernel_rfl) (by kernel_rfl) [] (by kernel_rfl) (fun _ _ _ h => h) rfl rfl (by decide) (fun _ h => h.upto ⟨rfl, trivial⟩) (qt_move rfl rfl) ?_
   refine dg_q (i := 3) rfl (by kernel_rfl) (by kernel_rfl) (by kernel_rfl) [] (by kernel_rfl) (fun _ _ _ h => h) rfl rfl (by decide) (fun _ h => h.upto ⟨rfl, trivial⟩) (qt_index (j := m + (i + j) / 2) rfl rfl rfl tyl_sl_impl_wayPoint (by omega)) ?_
   refine dg_q (i := 4) rfl (by kernel_rfl) (by kernel_rfl) (by kernel_rfl) [] (by kernel_rfl) (fun _ _ _ h => h) rfl rfl (by decide) (fun _ h => h.upto ⟨rfl, trivial⟩) (qt_loadS rfl rfl tys_impl_wayPoint rfl (rdW (k := 0) rfl hra (by omega))) ?_
   refine dg_q (i := 5) rfl (by kernel_rfl) (by kernel_rfl) (by kernel_rfl) [] (by kernel_rfl) (fun _ _ _ h => h) rfl rfl (by decide) (fun _ h => h.upto ⟨rfl, trivial⟩) (qt_move rfl rfl) ?_
   refine dg_q (i := 6) rfl (by kernel_rfl) (by kernel_rfl) (by kernel_rfl) [] (by kernel_rfl) (fun _ _ _ h => h) rfl rfl (by decide) (fun _ h => h.upto ⟨rfl, trivial⟩) (qt_move rfl rfl) ?_
   refine dg_q (i := 7) rfl (by kernel_rfl) (by kernel_rfl) (by kernel_rfl) [] (by kernel_rfl) (fun _ _ _ h => h) rfl rfl (by decide) (fun _ h => h.upto ⟨rfl, trivial⟩) (qt_index (j := a) rfl rfl rfl tyl_sl_impl_wayPoint (by omega)) ?_
   refine dg_q (i := 8) rfl (by kernel_rfl) (by kernel_rfl) (by kernel_rfl) [] (by kernel_rfl) (fun _ _ _ h => h) rfl rfl (by decide) (fun _ h => h.upto ⟨rfl, trivial⟩) (qt_loadS rfl rfl tys_impl_wayPoint rfl (rdW (k := 0) rfl hxa (by omega))) ?_
   refine dg_q (i := 9) rfl (by kernel_rfl) (by kernel_rfl) (by kernel_rfl) [] (by kernel_rfl) (fun _ _ _ h => h) rfl rfl (by decide) (fun _ h => h.upto ⟨rfl, trivial⟩) (qt_callk ok_impl_snapEdge_2 rfl rfl rfl (fun w1 h1 => hC.call r hSr x hSx w1 h1.over)) ?_
   refine dg_q (i := 10) rfl (by kernel_rfl) (by kernel_rfl) (by kernel_rfl) [] (by kernel_rfl) (fun _ _ _ h => h) rfl rfl (by decide) (fun _ h => h.upto ⟨rfl, trivial⟩) (qt_lss rfl rfl rfl) ?_
   refine dg_done (by kernel_rfl) ?_
   refine norm_then ?_
   refine at_cond rfl (fun c3 => ?_) (fun c3 => ?_)
   ·try simp only [za,zb,zc,zd,ze,zf,Bool.not_true,Bool.not_false,zg,zh,ne_eq,zi,zj] at c3
    refine at_region ?_
    refine at_q rfl rfl (by decide) (qt_move rfl rfl) ?_
    refine at_q rfl rfl (by decide) (qt_add rfl rfl rfl (by omega) (by omega)) ?_
    refine at_q rfl rfl (by decide) (qt_assign rfl rfl) ?_
    refine at_nil ?_
    refine norm_block ?_
    refine norm_then ?_
    exact at_againc hL1 (((i + j) / 2 + 1, j)) (hy1.yes W hsR (by omega) (by omega) hr (by simpa [ltC] using c3)) (by simp only; omega) ⟨vi (by omega), rfl, rfl, rfl, rfl, rfl, rfl, trivial⟩ (fun _ h => h.upto ⟨rfl, trivial⟩)
   ·try simp only [za,zb,zc,zd,ze,zf,Bool.not_true,Bool.not_false,zg,zh,ne_eq,zi,zj] at c3
    refine at_region ?_
    refine at_q rfl rfl (by decide) (qt_move rfl rfl) ?_
    refine at_q rfl rfl (by decide) (qt_assign rfl rfl) ?_
    refine at_nil ?_
    refine norm_block ?_
    refine norm_then ?_
    exact at_againc hL1 ((i, (i + j) / 2)) (hy1.no W hsR (by omega) (by omega) hr (by simpa [ltC] using c3)) (by simp only; omega) ⟨rfl, rfl, rfl, rfl, rfl, rfl, rfl, trivial⟩ (fun _ h => h.upto ⟨rfl, trivial⟩)
  ·try simp only [za,zb,zc,zd,ze,zf,Bool.not_true,Bool.not_false,zg,zh,ne_eq,zi,zj] at c2
   have hij : i = j := (by omega)
   subst hij
   have hG0 : A ++ G ++ R ++ Z = A ++ (R.take 0 ++ x :: R.drop 0) ++ Z := (by rw [hGx]; simp)
   refine at_exit ?_
   refine pass_then (fun h => by cases h) ?_
   refine pass_then (fun h => by cases h) ?_
   refine pass_hit ?_
   refine norm_then ?_
   refine at_seq ?_
   refine at_seq ?_
   refine at_region ?_
   refine at_q rfl rfl (by decide) (qt_move rfl rfl) ?_
   refine at_q rfl rfl (by decide) (qt_assign rfl rfl) ?_
   refine at_end ?_
   refine at_block ?_
   refine at_loopc (X := Nat × List Wy) (fun y => y.1 ≤ i ∧ y.2 = A ++ (R.take y.1 ++ x :: R.drop y.1) ++ Z) (fun y => i - y.1) (fun y => [(13, .int .i64 ((a + y.1 : Nat) : Int))]) (C := [(0, _), (1, _), (2, _), (3, _), (4, _), (10, _)]) ⟨rfl, rfl, rfl, rfl, rfl, rfl, trivial⟩ (fun y => [.cel b T (wyF y.2 tl)]) (0, A ++ G ++ R ++ Z) (⟨Nat.zero_le _, hG0⟩) ⟨rfl, rfl, rfl, rfl, rfl, rfl, rfl, trivial⟩ (fun _ h => h) ?_
   intro ⟨k, ds⟩ hk L hL2
   refine at_envE (by simp only [ya,yb]; rfl) ?_
   refine at_rsE (by first | (dsimp only; done) | (dsimp only; rfl) | rfl) ?_
   have hk1 : k ≤ i := hk.1
   have hds : ds = A ++ (R.take k ++ x :: R.drop k) ++ Z := hk.2
   have hdl : ds.length = (A ++ G ++ R ++ Z).length := (by rw [hds, hGx]; simp; omega)
   have hmem : Up n S ds := (by rw [hds]; rw [List.append_assoc A G] at hS; refine up_mid hS (fun y hy => ?_) (by simp [hGx]; omega) (by simp; omega); simp only [hGx, List.mem_append, List.mem_cons, List.mem_singleton, List.not_mem_nil, or_false] at hy ⊢; rcases hy with h | h | h; exact .inr (List.mem_of_mem_take h); exact .inl h; exact .inr (List.mem_of_mem_drop h))
   refine at_seq ?_
   refine at_seq ?_
   refine at_region ?_
   refine at_q rfl rfl (by decide) (qt_move rfl rfl) ?_
   refine at_q rfl rfl (by decide) (qt_move rfl rfl) ?_
   refine at_q rfl rfl (by decide) (qt_sub rfl rfl rfl (by omega) (by omega)) ?_
   refine at_q rfl rfl (by decide) (qt_lss rfl rfl rfl) ?_
   refine at_end ?_
   refine at_cond rfl (fun c4 => ?_) (fun c4 => ?_)
   ·try simp only [za,zb,zc,zd,ze,zf,Bool.not_true,Bool.not_false,zg,zh,ne_eq,zi,zj] at c4
    have hki : k < i := (by omega)
    obtain ⟨x1, u1⟩ : ∃ q, ds[a + k]? = some q := ⟨_, List.getElem?_eq_getElem (by omega)⟩
    obtain ⟨x2, u2⟩ : ∃ q, ds[a + k + 1]? = some q := ⟨_, List.getElem?_eq_getElem (by omega)⟩
    have hxo1 : (Wy.cells x1).all (·.oneCell') = true := rfl
    have hxo2 : (Wy.cells x2).all (·.oneCell') = true := rfl
    have hmv : (ds.set (a + k) x2).set (a + k + 1) x1 = A ++ (R.take (k + 1) ++ x :: R.drop (k + 1)) ++ Z := (by rw [← swap2_at u1 u2, hds, ← ha]; exact move_up A R Z x (by omega))
    refine at_skip ?_
    refine norm_then ?_
    refine at_seq ?_
    refine at_block ?_
    refine dg_start mixed rfl ?_
    refine dh_phase 15 17 [0] ?_
    refine dh_q (i := 0) rfl (by kernel_rfl) (by kernel_rfl) (by kernel_rfl) [] (by kernel_rfl) (fun _ _ _ h => h) rfl rfl (by decide) (fun _ h => h.upto ⟨rfl, trivial⟩) (qt_move rfl rfl) ?_
    refine dh_q (i := 1) rfl (by kernel_rfl) (by kernel_rfl) (by kernel_rfl) [] (by kernel_rfl) (fun _ _ _ h => h) rfl rfl (by decide) (fun _ h => h.upto ⟨rfl, trivial⟩) (qt_move rfl rfl) ?_
    refine dh_ql (i := 2) rfl (by kernel_rfl) (by kernel_rfl) (by kernel_rfl) [] (by kernel_rfl) (fun _ _ _ h => h) rfl rfl (by decide) (fun _ h => h.upto ⟨rfl, trivial⟩) (qt_move rfl rfl) (qt_move rfl rfl) ?_
    refine dh_ql (i := 3) rfl (by kernel_rfl) (by kernel_rfl) (by kernel_rfl) [] (by kernel_rfl) (fun _ _ _ h => h) rfl rfl (by decide) (fun _ h => h.upto ⟨rfl, trivial⟩) (qt_move rfl rfl) (qt_move rfl rfl) ?_
    refine dh_ql (i := 4) rfl (by kernel_rfl) (by kernel_rfl) (by kernel_rfl) [] (by kernel_rfl) (fun _ _ _ h => h) rfl rfl (by decide) (fun _ h => h.upto ⟨rfl, trivial⟩) (qt_add rfl rfl rfl (by omega) (by omega)) (qt_add rfl rfl rfl (by omega) (by omega)) ?_
    refine dh_q (i := 5) rfl (by kernel_rfl) (by kernel_rfl) (by kernel_rfl) [] (by kernel_rfl) (fun _ _ _ h => h) rfl rfl (by decide) (fun _ h => h.upto ⟨rfl, trivial⟩) (qt_move rfl rfl) ?_
    refine dh_q (i := 6) rfl (by kernel_rfl) (by kernel_rfl) (by kernel_rfl) [] (by kernel_rfl) (fun _ _ _ h => h) rfl rfl (by decide) (fun _ h => h.upto ⟨rfl, trivial⟩) (qt_move rfl rfl) ?_
    refine dh_q (i := 7) rfl (by kernel_rfl) (by kernel_rfl) (by kernel_rfl) [] (by kernel_rfl) (fun _ _ _ h => h) rfl rfl (by decide) (fun _ h => h.upto ⟨rfl, trivial⟩) (qt_add rfl rfl rfl (by omega) (by omega)) ?_
    refine dh_q (i := 8) rfl (by kernel_rfl) (by kernel_rfl) (by kernel_rfl) [] (by kernel_rfl) (fun _ _ _ h => h) rfl rfl (by decide) (fun _ h => h.upto ⟨rfl, trivial⟩) (qt_index (j := a + k + 1) rfl rfl rfl tyl_sl_impl_wayPoint (by omega)) ?_
    refine dh_q (i := 9) rfl (by kernel_rfl) (by kernel_rfl) (by kernel_rfl) [] (by kernel_rfl) (fun _ _ _ h => h) rfl rfl (by decide) (fun _ h => h.upto ⟨rfl, trivial⟩) (qt_loadS rfl rfl tys_impl_wayPoint rfl (rdW (k := 0) rfl u2 (by omega))) ?_
    refine dh_q (i := 10) rfl (by kernel_rfl) (by kernel_rfl) (by kernel_rfl) [12, 13] (by kernel_rfl) (fun _ _ _ h => h) rfl rfl (by decide) (fun _ h => h.upto ⟨rfl, trivial⟩) (qt_move rfl rfl) ?_
    refine dh_q (i := 11) rfl (by kernel_rfl) (by kernel_rfl) (by kernel_rfl) [12, 13] (by kernel_rfl) (fun _ _ _ h => h) rfl rfl (by decide) (fun _ h => h.upto ⟨rfl, trivial⟩) (qt_move rfl rfl) ?_
    refine dh_q (i := 12) rfl (by kernel_rfl) (by kernel_rfl) (by kernel_rfl) [13] (by kernel_rfl) (fun _ _ _ h => h) rfl rfl (by decide) (fun _ h => h.upto ⟨rfl, trivial⟩) (qt_index (j := a + k) rfl rfl rfl tyl_sl_impl_wayPoint (by omega)) ?_
    refine dh_q (i := 13) rfl (by kernel_rfl) (by kernel_rfl) (by kernel_rfl) [] (by kernel_rfl) (fun _ _ _ h => h) rfl rfl (by decide) (fun _ h => h.upto ⟨rfl, trivial⟩) (qt_loadS rfl rfl tys_impl_wayPoint rfl (rdW (k := 0) rfl u1 (by omega))) ?_
    refine dh_q (i := 14) rfl (by kernel_rfl) (by kernel_rfl) (by kernel_rfl) [] (by kernel_rfl) (fun _ _ _ h => h) rfl rfl (by decide) (fun _ h => h.upto ⟨rfl, trivial⟩) (qt_index (j := a + k) rfl rfl rfl tyl_sl_impl_wayPoint (by omega)) ?_
    refine dh_bar rfl (by kernel_rfl) rfl ?_
    refine op_store (k := 0) rfl rfl rfl rfl rfl hxo2 tyz_impl_wayPoint.szx rfl rfl (by rw [wyF_len]; simp [Wy.cells]; omega) ?_
    refine dr_keep (fun _ h => (h.wk [0]).upto ⟨rfl, trivial⟩) ?_
    refine at_rsE (by simp only [ya,yb,yc,yd,Value.cells,ye]; rfl) ?_
    refine dg_q (i := 16) rfl (by kernel_rfl) (by kernel_rfl) (by kernel_rfl) [] (by kernel_rfl) (fun _ _ _ h => h) rfl rfl (by decide) (fun _ h => (h.wk [0]).upto ⟨rfl, trivial⟩) (qt_index (j := a + k + 1) rfl rfl rfl tyl_sl_impl_wayPoint (by omega)) ?_
    refine dg_bar rfl (by kernel_rfl) rfl ?_
    refine op_store (k := 0) rfl rfl rfl rfl rfl hxo1 tyz_impl_wayPoint.szx rfl rfl (by rw [splice_len, wyF_len]; simp [Wy.cells]; omega) ?_
    refine dg_end (by kernel_rfl) ?_
    refine norm_block ?_
    refine norm_then ?_
    refine at_region ?_
    refine at_q rfl rfl (by decide) (qt_move rfl rfl) ?_
    refine at_q rfl rfl (by decide) (qt_add rfl rfl rfl (by omega) (by omega)) ?_
    refine at_q rfl rfl (by decide) (qt_assign rfl rfl) ?_
    refine at_end ?_
    exact at_againc hL2 ((k + 1, swap2 ds (a + k) (a + k + 1))) (⟨show k + 1 ≤ i by omega, (by rw [swap2_at u1 u2]; exact hmv)⟩) (by simp only; omega) ⟨vi (by omega), rfl, rfl, rfl, rfl, rfl, rfl, trivial⟩ (fun _ h => h.upto ⟨congrArg (Res.cel b T) (swap_wy u1 u2), trivial⟩)
   ·try simp only [za,zb,zc,zd,ze,zf,Bool.not_true,Bool.not_false,zg,zh,ne_eq,zi,zj] at c4
    have hki : k = i := (by omega)
    subst hki
    refine at_exit ?_
    refine pass_then (fun h => by cases h) ?_
    refine pass_then (fun h => by cases h) ?_
    refine pass_hit ?_
    refine norm_then ?_
    refine at_retc ?_
    refine then_ret ?_
    refine at_ret0 rfl ?_
    intro w' hs
    exact ⟨rfl, hs.over.wr, by rw [hGx, hy1.fin, ← hds]; exact hs.cel (k := 0) rfl⟩
 ·try simp only [za,zb,zc,zd,ze,zf,Bool.not_true,Bool.not_false,zg,zh,ne_eq,zi,zj] at c1
  refine at_skip ?_
  refine norm_then ?_
  refine at_seq ?_
  refine at_seq ?_
  refine at_region ?_
  refine at_q rfl rfl (by decide) (qt_move rfl rfl) ?_
  refine at_q rfl rfl (by decide) (qt_move rfl rfl) ?_
  refine at_q rfl rfl (by decide) (qt_sub rfl rfl rfl (by omega) (by omega)) ?_
  refine at_q rfl rfl (by decide) (qt_eql rfl rfl rfl) ?_
  refine at_end ?_
  refine at_cond rfl (fun c5 => ?_) (fun c5 => ?_)
  ·try simp only [za,zb,zc,zd,ze,zf,Bool.not_true,Bool.not_false,zg,zh,ne_eq,zi,zj] at c5
   have hR1 : R.length = 1 := (by omega)
   obtain ⟨y, hy0⟩ : ∃ y, R[0]? = some y := ⟨_, List.getElem?_eq_getElem hR⟩
   have hRy : R = [y] := (by match R, hR1, hy0 with | [y], _, h => (cases h; rfl))
   have hya : (A ++ G ++ R ++ Z)[m]? = some y := (hRat 0 hR).trans hy0
   have hSy : S y := hS _ y (by omega) hya
   refine at_seq ?_
   refine at_region ?_
   refine at_q rfl rfl (by decide) (qt_move rfl rfl) ?_
   refine at_q rfl rfl (by decide) (qt_assign rfl rfl) ?_
   refine at_end ?_
   refine at_seq ?_
   refine at_region ?_
   refine at_q rfl rfl (by decide) (qt_move rfl rfl) ?_
   refine at_q rfl rfl (by decide) (qt_assign rfl rfl) ?_
   refine at_end ?_
   refine at_seq ?_
   refine at_block ?_
   refine at_loopc (X := Nat × Nat) (fun q => S2I (ltC cr) G y q.1 q.2) (fun q => q.2 - q.1) (fun q => [(14, .int .i64 ((a + q.1 : Nat) : Int)), (15, .int .i64 ((a + q.2 : Nat) : Int))]) (C := [(0, _), (1, _), (2, _), (3, _), (4, _)]) ⟨rfl, rfl, rfl, rfl, rfl, trivial⟩ (fun q => [.cel b T (wyF (A ++ G ++ R ++ Z) tl)]) (0, G.length) (S2I.start) ⟨rfl, vi (by omega), rfl, rfl, rfl, rfl, rfl, trivial⟩ (fun _ h => h) ?_
   intro ⟨i, j⟩ hq L hL3
   refine at_envE (by simp only [ya,yb]; rfl) ?_
   refine at_rsE (by first | (dsimp only; done) | (dsimp only; rfl) | rfl) ?_
   have hq1 : S2I (ltC cr) G y i j := hq
   have hle := hq1.le
   refine at_seq ?_
   refine at_seq ?_
   refine at_region ?_
   refine at_q rfl rfl (by decide) (qt_move rfl rfl) ?_
   refine at_q rfl rfl (by decide) (qt_move rfl rfl) ?_
   refine at_q rfl rfl (by decide) (qt_lss rfl rfl rfl) ?_
   refine at_end ?_
   refine at_cond rfl (fun c6 => ?_) (fun c6 => ?_)
   ·try simp only [za,zb,zc,zd,ze,zf,Bool.not_true,Bool.not_false,zg,zh,ne_eq,zi,zj] at c6
    have hij : i < j := (by omega)
    obtain ⟨r, hr⟩ : ∃ r, G[(i + j) / 2]? = some r := ⟨_, List.getElem?_eq_getElem (by omega)⟩
    have hra : (A ++ G ++ R ++ Z)[a + (i + j) / 2]? = some r := (hGat _ (by omega)).trans hr
    have hSr : S r := hS _ r (by omega) hra
    refine at_skip ?_
    refine norm_then ?_
    refine at_block ?_
    refine at_seq ?_
    refine at_region ?_
    refine at_q rfl rfl (by decide) (qt_move rfl rfl) ?_
    refine at_q rfl rfl (by decide) (qt_move rfl rfl) ?_
    refine at_q rfl rfl (by decide) (qt_add rfl rfl rfl (by omega) (by omega)) ?_
    refine at_q rfl rfl (by decide) (qt_convI rfl Tryz.underlying3 Tryz.underlying121 rfl (u64_in _ (by omega) (by omega))) ?_
    refine at_q rfl rfl (by decide) (qt_shrU (q := 1) rfl rfl rfl (by decide) (by decide)) ?_
    refine at_q rfl rfl (by decide) ((qt_convI rfl Tryz.underlying121 Tryz.underlying3 rfl (wrapI64 _ (by simp; omega) (by simp; omega))).as (congrArg _ (show ((((a + i : Nat) : Int) + ((a + j : Nat) : Int)) / 2 ^ (Int.toNat 1)) = ((a + (i + j) / 2 : Nat) : Int) by simp; omega))) ?_
    refine at_q rfl rfl (by decide) (qt_assign rfl rfl) ?_
    refine at_end ?_
    refine at_seq ?_
    refine dg_start mixed rfl ?_
    refine dg_phase 12 ?_
    refine dg_q (i := 0) rfl (by kernel_rfl) (by kernel_rfl) (by kernel_rfl) [] (by kernel_rfl) (fun _ _ _ h => h) rfl rfl (by decide) (fun _ h => h.upto ⟨rfl, trivial⟩) (qt_move rfl rfl) ?_
    refine dg_q (i := 1) rfl (by kernel_rfl) (by kernel_rfl) (by kernel_rfl) [] (by kernel_rfl) (fun _ _ _ h => h) rfl rfl (by decide) (fun _ h => h.upto ⟨rfl, trivial⟩) (qt_move rfl rfl) ?_
    refine dg_q (i := 2) rfl (by kernel_rfl) (by kernel_rfl) (by kernel_rfl) [] (by kernel_rfl) (fun _ _ _ h => h) rfl rfl (by decide) (fun _ h => h.upto ⟨rfl, trivial⟩) (qt_move rfl rfl) ?_
    refine dg_q (i := 3) rfl (by kernel_rfl) (by kernel_rfl) (by kernel_rfl) [] (by kernel_rfl) (fun _ _ _ h => h) rfl rfl (by decide) (fun _ h => h.upto ⟨rfl, trivial⟩) (qt_index (j := m) rfl rfl rfl tyl_sl_impl_wayPoint (by omega)) ?_
    refine dg_q (i := 4) rfl (by kernel_rfl) (by kernel_rfl) (by kernel_rfl) [] (by kernel_rfl) (fun _ _ _ h => h) rfl rfl (by decide) (fun _ h => h.upto ⟨rfl, trivial⟩) (qt_loadS rfl rfl tys_impl_wayPoint rfl (rdW (k := 0) rfl hya (by omega))) ?_
    refine dg_q (i := 5) rfl (by kernel_rfl) (by kernel_rfl) (by kernel_rfl) [] (by kernel_rfl) (fun _ _ _ h => h) rfl rfl (by decide) (fun _ h => h.upto ⟨rfl, trivial⟩) (qt_move rfl rfl) ?_
    refine dg_q (i := 6) rfl (by kernel_rfl) (by kernel_rfl) (by kernel_rfl) [] (by kernel_rfl) (fun _ _ _ h => h) rfl rfl (by decide) (fun _ h => h.upto ⟨rfl, trivial⟩) (qt_move rfl rfl) ?_
    refine dg_q (i := 7) rfl (by kernel_rfl) (by kernel_rfl) (by kernel_rfl) [] (by kernel_rfl) (fun _ _ _ h => h) rfl rfl (by decide) (fun _ h => h.upto ⟨rfl, trivial⟩) (qt_index (j := a + (i + j) / 2) rfl rfl rfl tyl_sl_impl_wayPoint (by omega)) ?_
    refine dg_q (i := 8) rfl (by kernel_rfl) (by kernel_rfl) (by kernel_rfl) [] (by kernel_rfl) (fun _ _ _ h => h) rfl rfl (by decide) (fun _ h => h.upto ⟨rfl, trivial⟩) (qt_loadS rfl rfl tys_impl_wayPoint rfl (rdW (k := 0) rfl hra (by omega))) ?_
    refine dg_q (i := 9) rfl (by kernel_rfl) (by kernel_rfl) (by kernel_rfl) [] (by kernel_rfl) (fun _ _ _ h => h) rfl rfl (by decide) (fun _ h => h.upto ⟨rfl, trivial⟩) (qt_callk ok_impl_snapEdge_2 rfl rfl rfl (fun w1 h1 => hC.call y hSy r hSr w1 h1.over)) ?_
    refine dg_q (i := 10) rfl (by kernel_rfl) (by kernel_rfl) (by kernel_rfl) [] (by kernel_rfl) (fun _ _ _ h => h) rfl rfl (by decide) (fun _ h => h.upto ⟨rfl, trivial⟩) (qt_lss rfl rfl rfl) ?_
    refine dg_q (i := 11) rfl (by kernel_rfl) (by kernel_rfl) (by kernel_rfl) [] (by kernel_rfl) (fun _ _ _ h => h) rfl rfl (by decide) (fun _ h => h.upto ⟨rfl, trivial⟩) (qt_not rfl rfl) ?_
    refine dg_done (by kernel_rfl) ?_
    refine norm_then ?_
    refine at_cond rfl (fun c7 => ?_) (fun c7 => ?_)
    ·try simp only [za,zb,zc,zd,ze,zf,Bool.not_true,Bool.not_false,zg,zh,ne_eq,zi,zj] at c7
     refine at_region ?_
     refine at_q rfl rfl (by decide) (qt_move rfl rfl) ?_
     refine at_q rfl rfl (by decide) (qt_add rfl rfl rfl (by omega) (by omega)) ?_
     refine at_q rfl rfl (by decide) (qt_assign rfl rfl) ?_
     refine at_nil ?_
     refine norm_block ?_
     refine norm_then ?_
     exact at_againc hL3 (((i + j) / 2 + 1, j)) (hq1.yes W hsG (by omega) (by omega) hr (by simpa [ltC] using c7)) (by simp only; omega) ⟨vi (by omega), rfl, rfl, rfl, rfl, rfl, rfl, trivial⟩ (fun _ h => h.upto ⟨rfl, trivial⟩)
    ·try simp only [za,zb,zc,zd,ze,zf,Bool.not_true,Bool.not_false,zg,zh,ne_eq,zi,zj] at c7
     refine at_region ?_
     refine at_q rfl rfl (by decide) (qt_move rfl rfl) ?_
     refine at_q rfl rfl (by decide) (qt_assign rfl rfl) ?_
     refine at_nil ?_
     refine norm_block ?_
     refine norm_then ?_
     exact at_againc hL3 ((i, (i + j) / 2)) (hq1.no W hsG (by omega) (by omega) hr (by simpa [ltC] using c7)) (by simp only; omega) ⟨rfl, rfl, rfl, rfl, rfl, rfl, rfl, trivial⟩ (fun _ h => h.upto ⟨rfl, trivial⟩)
   ·try simp only [za,zb,zc,zd,ze,zf,Bool.not_true,Bool.not_false,zg,zh,ne_eq,zi,zj] at c6
    have hij : i = j := (by omega)
    subst hij
    have hG0 : A ++ G ++ R ++ Z = A ++ (G.take G.length ++ y :: G.drop G.length) ++ Z := (by rw [hRy]; simp)
    refine at_exit ?_
    refine pass_then (fun h => by cases h) ?_
    refine pass_then (fun h => by cases h) ?_
    refine pass_hit ?_
    refine norm_then ?_
    refine at_seq ?_
    refine at_seq ?_
    refine at_region ?_
    refine at_q rfl rfl (by decide) (qt_move rfl rfl) ?_
    refine at_q rfl rfl (by decide) (qt_assign rfl rfl) ?_
    refine at_end ?_
    refine at_block ?_
    refine at_loopc (X := Nat × List Wy) (fun q => i ≤ q.1 ∧ q.1 ≤ G.length ∧ q.2 = A ++ (G.take q.1 ++ y :: G.drop q.1) ++ Z) (fun q => q.1) (fun q => [(17, .int .i64 ((a + q.1 : Nat) : Int))]) (C := [(0, _), (1, _), (2, _), (3, _), (4, _), (14, _)]) ⟨rfl, rfl, rfl, rfl, rfl, rfl, trivial⟩ (fun q => [.cel b T (wyF q.2 tl)]) (G.length, A ++ G ++ R ++ Z) (⟨hle.2, Nat.le_refl _, hG0⟩) ⟨vi (by omega), rfl, rfl, rfl, rfl, rfl, rfl, trivial⟩ (fun _ h => h) ?_
    intro ⟨k, ds⟩ hk L hL4
    refine at_envE (by simp only [ya,yb]; rfl) ?_
    refine at_rsE (by first | (dsimp only; done) | (dsimp only; rfl) | rfl) ?_
    have hk1 : i ≤ k := hk.1
    have hk2 : k ≤ G.length := hk.2.1
    have hds : ds = A ++ (G.take k ++ y :: G.drop k) ++ Z := hk.2.2
    have hdl : ds.length = (A ++ G ++ R ++ Z).length := (by rw [hds, hRy]; simp; omega)
    have hmem : Up n S ds := (by rw [hds]; rw [List.append_assoc A G] at hS; refine up_mid hS (fun y hy => ?_) (by simp [hRy]; omega) (by simp; omega); simp only [hRy, List.mem_append, List.mem_cons, List.mem_singleton, List.not_mem_nil, or_false] at hy ⊢; rcases hy with h | h | h; exact .inl (List.mem_of_mem_take h); exact .inr h; exact .inl (List.mem_of_mem_drop h))
    refine at_seq ?_
    refine at_seq ?_
    refine at_region ?_
    refine at_q rfl rfl (by decide) (qt_move rfl rfl) ?_
    refine at_q rfl rfl (by decide) (qt_move rfl rfl) ?_
    refine at_q rfl rfl (by decide) (qt_gtr rfl rfl rfl) ?_
    refine at_end ?_
    refine at_cond rfl (fun c8 => ?_) (fun c8 => ?_)
    ·try simp only [za,zb,zc,zd,ze,zf,Bool.not_true,Bool.not_false,zg,zh,ne_eq,zi,zj] at c8
     have hki : i < k := (by omega)
     obtain ⟨x1, u1⟩ : ∃ q, ds[a + k]? = some q := ⟨_, List.getElem?_eq_getElem (by omega)⟩
     obtain ⟨x2, u2⟩ : ∃ q, ds[a + k - 1]? = some q := ⟨_, List.getElem?_eq_getElem (by omega)⟩
     have hxo1 : (Wy.cells x1).all (·.oneCell') = true := rfl
     have hxo2 : (Wy.cells x2).all (·.oneCell') = true := rfl
     have hmv : (ds.set (a + k) x2).set (a + k - 1) x1 = A ++ (G.take (k - 1) ++ y :: G.drop (k - 1)) ++ Z := (by rw [← swap2_at u1 u2, hds, ← ha]; exact move_down A G Z y (by omega) hk2)
     refine at_skip ?_
     refine norm_then ?_
     refine at_seq ?_
     refine at_block ?_
     refine dg_start mixed rfl ?_
     refine dh_phase 15 17 [0] ?_
     refine dh_q (i := 0) rfl (by kernel_rfl) (by kernel_rfl) (by kernel_rfl) [] (by kernel_rfl) (fun _ _ _ h => h) rfl rfl (by decide) (fun _ h => h.upto ⟨rfl, trivial⟩) (qt_move rfl rfl) ?_
     refine dh_q (i := 1) rfl (by kernel_rfl) (by kernel_rfl) (by kernel_rfl) [] (by kernel_rfl) (fun _ _ _ h => h) rfl rfl (by decide) (fun _ h => h.upto ⟨rfl, trivial⟩) (qt_move rfl rfl) ?_
     refine dh_ql (i := 2) rfl (by kernel_rfl) (by kernel_rfl) (by kernel_rfl) [] (by kernel_rfl) (fun _ _ _ h => h) rfl rfl (by decide) (fun _ h => h.upto ⟨rfl, trivial⟩) (qt_move rfl rfl) (qt_move rfl rfl) ?_
     refine dh_ql (i := 3) rfl (by kernel_rfl) (by kernel_rfl) (by kernel_rfl) [] (by kernel_rfl) (fun _ _ _ h => h) rfl rfl (by decide) (fun _ h => h.upto ⟨rfl, trivial⟩) (qt_move rfl rfl) (qt_move rfl rfl) ?_
     refine dh_ql (i := 4) rfl (by kernel_rfl) (by kernel_rfl) (by kernel_rfl) [] (by kernel_rfl) (fun _ _ _ h => h) rfl rfl (by decide) (fun _ h => h.upto ⟨rfl, trivial⟩) ((qt_sub rfl rfl rfl (by omega) (by omega)).as (congrArg _ (show (((a + k : Nat) : Int) - 1) = ((a + k - 1 : Nat) : Int) by omega))) ((qt_sub rfl rfl rfl (by omega) (by omega)).as (congrArg _ (show (((a + k : Nat) : Int) - 1) = ((a + k - 1 : Nat) : Int) by omega))) ?_
     refine dh_q (i := 5) rfl (by kernel_rfl) (by kernel_rfl) (by kernel_rfl) [] (by kernel_rfl) (fun _ _ _ h => h) rfl rfl (by decide) (fun _ h => h.upto ⟨rfl, trivial⟩) (qt_move rfl rfl) ?_
     refine dh_q (i := 6) rfl (by kernel_rfl) (by kernel_rfl) (by kernel_rfl) [] (by kernel_rfl) (fun _ _ _ h => h) rfl rfl (by decide) (fun _ h => h.upto ⟨rfl, trivial⟩) (qt_move rfl rfl) ?_
     refine dh_q (i := 7) rfl (by kernel_rfl) (by kernel_rfl) (by kernel_rfl) [] (by kernel_rfl) (fun _ _ _ h => h) rfl rfl (by decide) (fun _ h => h.upto ⟨rfl, trivial⟩) ((qt_sub rfl rfl rfl (by omega) (by omega)).as (congrArg _ (show (((a + k : Nat) : Int) - 1) = ((a + k - 1 : Nat) : Int) by omega))) ?_
     refine dh_q (i := 8) rfl (by kernel_rfl) (by kernel_rfl) (by kernel_rfl) [] (by kernel_rfl) (fun _ _ _ h => h) rfl rfl (by decide) (fun _ h => h.upto ⟨rfl, trivial⟩) (qt_index (j := a + k - 1) rfl rfl rfl tyl_sl_impl_wayPoint (by omega)) ?_
     refine dh_q (i := 9) rfl (by kernel_rfl) (by kernel_rfl) (by kernel_rfl) [] (by kernel_rfl) (fun _ _ _ h => h) rfl rfl (by decide) (fun _ h => h.upto ⟨rfl, trivial⟩) (qt_loadS rfl rfl tys_impl_wayPoint rfl (rdW (k := 0) rfl u2 (by omega))) ?_
     refine dh_q (i := 10) rfl (by kernel_rfl) (by kernel_rfl) (by kernel_rfl) [12, 13] (by kernel_rfl) (fun _ _ _ h => h) rfl rfl (by decide) (fun _ h => h.upto ⟨rfl, trivial⟩) (qt_move rfl rfl) ?_
     refine dh_q (i := 11) rfl (by kernel_rfl) (by kernel_rfl) (by kernel_rfl) [12, 13] (by kernel_rfl) (fun _ _ _ h => h) rfl rfl (by decide) (fun _ h => h.upto ⟨rfl, trivial⟩) (qt_move rfl rfl) ?_
     refine dh_q (i := 12) rfl (by kernel_rfl) (by kernel_rfl) (by kernel_rfl) [13] (by kernel_rfl) (fun _ _ _ h => h) rfl rfl (by decide) (fun _ h => h.upto ⟨rfl, trivial⟩) (qt_index (j := a + k) rfl rfl rfl tyl_sl_impl_wayPoint (by omega)) ?_
     refine dh_q (i := 13) rfl (by kernel_rfl) (by kernel_rfl) (by kernel_rfl) [] (by kernel_rfl) (fun _ _ _ h => h) rfl rfl (by decide) (fun _ h => h.upto ⟨rfl, trivial⟩) (qt_loadS rfl rfl tys_impl_wayPoint rfl (rdW (k := 0) rfl u1 (by omega))) ?_
     refine dh_q (i := 14) rfl (by kernel_rfl) (by kernel_rfl) (by kernel_rfl) [] (by kernel_rfl) (fun _ _ _ h => h) rfl rfl (by decide) (fun _ h => h.upto ⟨rfl, trivial⟩) (qt_index (j := a + k) rfl rfl rfl tyl_sl_impl_wayPoint (by omega)) ?_
     refine dh_bar rfl (by kernel_rfl) rfl ?_
     refine op_store (k := 0) rfl rfl rfl rfl rfl hxo2 tyz_impl_wayPoint.szx rfl rfl (by rw [wyF_len]; simp [Wy.cells]; omega) ?_
     refine dr_keep (fun _ h => (h.wk [0]).upto ⟨rfl, trivial⟩) ?_
     refine at_rsE (by simp only [ya,yb,yc,yd,Value.cells,ye]; rfl) ?_
     refine dg_q (i := 16) rfl (by kernel_rfl) (by kernel_rfl) (by kernel_rfl) [] (by kernel_rfl) (fun _ _ _ h => h) rfl rfl (by decide) (fun _ h => (h.wk [0]).upto ⟨rfl, trivial⟩) (qt_index (j := a + k - 1) rfl rfl rfl tyl_sl_impl_wayPoint (by omega)) ?_
     refine dg_bar rfl (by kernel_rfl) rfl ?_
     refine op_store (k := 0) rfl rfl rfl rfl rfl hxo1 tyz_impl_wayPoint.szx rfl rfl (by rw [splice_len, wyF_len]; simp [Wy.cells]; omega) ?_
     refine dg_end (by kernel_rfl) ?_
     refine norm_block ?_
     refine norm_then ?_
     refine at_region ?_
     refine at_q rfl rfl (by decide) (qt_move rfl rfl) ?_
     refine at_q rfl rfl (by decide) (qt_sub rfl rfl rfl (by omega) (by omega)) ?_
     refine at_q rfl rfl (by decide) (qt_assign rfl rfl) ?_
     refine at_end ?_
     exact at_againc hL4 ((k - 1, swap2 ds (a + k) (a + k - 1))) (⟨show i ≤ k - 1 by omega, show k - 1 ≤ G.length by omega, (by rw [swap2_at u1 u2]; exact hmv)⟩) (by simp only; omega) ⟨vi (by omega), rfl, rfl, rfl, rfl, rfl, rfl, trivial⟩ (fun _ h => h.upto ⟨congrArg (Res.cel b T) (swap_wy u1 u2), trivial⟩)
    ·try simp only [za,zb,zc,zd,ze,zf,Bool.not_true,Bool.not_false,zg,zh,ne_eq,zi,zj] at c8
     have hki : k = i := (by omega)
     subst hki
     refine at_exit ?_
     refine pass_then (fun h => by cases h) ?_
     refine pass_then (fun h => by cases h) ?_
     refine pass_hit ?_
     refine norm_then ?_
     refine at_retc ?_
     refine then_ret ?_
     refine at_ret0 rfl ?_
     intro w' hs
     exact ⟨rfl, hs.over.wr, by rw [hRy, hq1.fin, ← hds]; exact hs.cel (k := 0) rfl⟩
  ·try simp only [za,zb,zc,zd,ze,zf,Bool.not_true,Bool.not_false,zg,zh,ne_eq,zi,zj] at c5
   refine at_skip ?_
   refine norm_then ?_
   refine at_seq ?_
   obtain ⟨h, hh2⟩ : ∃ h, h = (G.length + R.length) / 2 := ⟨_, rfl⟩
   have hG2 : 2 ≤ G.length := (by omega)
   have hR2 : 2 ≤ R.length := (by omega)
   have hone : Up n (fun _ : Wy => True) (A ++ G ++ R ++ Z) := fun _ _ _ _ => trivial
   refine at_region ?_
   refine at_q rfl rfl (by decide) (qt_move rfl rfl) ?_
   refine at_q rfl rfl (by decide) (qt_move rfl rfl) ?_
   refine at_q rfl rfl (by decide) (qt_add rfl rfl rfl (by omega) (by omega)) ?_
   refine at_q rfl rfl (by decide) (qt_convI rfl Tryz.underlying3 Tryz.underlying121 rfl (u64_in _ (by omega) (by omega))) ?_
   refine at_q rfl rfl (by decide) (qt_shrU (q := 1) rfl rfl rfl (by decide) (by decide)) ?_
   refine at_q rfl rfl (by decide) ((qt_convI rfl Tryz.underlying121 Tryz.underlying3 rfl (wrapI64 _ (by simp; omega) (by simp; omega))).as (congrArg _ (show (((a : Int) + (e_ : Int)) / 2 ^ (Int.toNat 1)) = ((a + h : Nat) : Int) by simp; omega))) ?_
   refine at_q rfl rfl (by decide) (qt_assign rfl rfl) ?_
   refine at_end ?_
   refine at_seq ?_
   refine at_region ?_
   refine at_q rfl rfl (by decide) (qt_move rfl rfl) ?_
   refine at_q rfl rfl (by decide) (qt_move rfl rfl) ?_
   refine at_q rfl rfl (by decide) ((qt_add rfl rfl rfl (by omega) (by omega)).as (congrArg _ (show (((a + h : Nat) : Int) + (m : Int)) = ((a + h + m : Nat) : Int) by omega))) ?_
   refine at_q rfl rfl (by decide) (qt_assign rfl rfl) ?_
   refine at_end ?_
   refine at_seq ?_
   refine at_region ?_
   refine at_q rfl rfl (by decide) (qt_assign rfl rfl) ?_
   refine at_q rfl rfl (by decide) (qt_assign rfl rfl) ?_
   refine at_end ?_
   refine at_cutE [(20, .int .i64 ((a + (h - R.length) : Nat) : Int)), (21, .int .i64 ((a + min G.length h : Nat) : Int))] (C := [(0, _), (1, _), (2, _), (3, _), (4, _), (18, _), (19, _)])  ⟨rfl, rfl, rfl, rfl, rfl, rfl, rfl, trivial⟩ (fun L hC_cutif_t140 => ?_) ?_
   ·refine at_seq ?_
    refine at_region ?_
    refine at_q rfl rfl (by decide) (qt_move rfl rfl) ?_
    refine at_q rfl rfl (by decide) (qt_move rfl rfl) ?_
    refine at_q rfl rfl (by decide) (qt_gtr rfl rfl rfl) ?_
    refine at_end ?_
    refine at_cond rfl (fun c9 => ?_) (fun c9 => ?_)
    ·try simp only [za,zb,zc,zd,ze,zf,Bool.not_true,Bool.not_false,zg,zh,ne_eq,zi,zj] at c9
     refine at_seq ?_
     refine at_region ?_
     refine at_q rfl rfl (by decide) (qt_move rfl rfl) ?_
     refine at_q rfl rfl (by decide) (qt_move rfl rfl) ?_
     refine at_q rfl rfl (by decide) (qt_sub rfl rfl rfl (by omega) (by omega)) ?_
     refine at_q rfl rfl (by decide) (qt_assign rfl rfl) ?_
     refine at_end ?_
     refine at_region ?_
     refine at_q rfl rfl (by decide) (qt_move rfl rfl) ?_
     refine at_q rfl rfl (by decide) (qt_assign rfl rfl) ?_
     refine at_end ?_
     exact at_meet hC_cutif_t140 ⟨vi (by omega), vi (by omega), rfl, rfl, rfl, rfl, rfl, rfl, rfl, trivial⟩ (fun _ h => h.upto ⟨rfl, trivial⟩)
    ·try simp only [za,zb,zc,zd,ze,zf,Bool.not_true,Bool.not_false,zg,zh,ne_eq,zi,zj] at c9
     refine at_seq ?_
     refine at_region ?_
     refine at_q rfl rfl (by decide) (qt_move rfl rfl) ?_
     refine at_q rfl rfl (by decide) (qt_assign rfl rfl) ?_
     refine at_end ?_
     refine at_region ?_
     refine at_q rfl rfl (by decide) (qt_move rfl rfl) ?_
     refine at_q rfl rfl (by decide) (qt_assign rfl rfl) ?_
     refine at_end ?_
     exact at_meet hC_cutif_t140 ⟨vi (by omega), vi (by omega), rfl, rfl, rfl, rfl, rfl, rfl, rfl, trivial⟩ (fun _ h => h.upto ⟨rfl, trivial⟩)
   ·refine at_envE (by simp only [ya,yb]; rfl) ?_
    refine at_seq ?_
    refine at_region ?_
    refine at_q rfl rfl (by decide) (qt_move rfl rfl) ?_
    refine at_q rfl rfl (by decide) ((qt_sub rfl rfl rfl (by omega) (by omega)).as (congrArg _ (show (((a + h + m : Nat) : Int) - 1) = ((a + h + m - 1 : Nat) : Int) by omega))) ?_
    refine at_q rfl rfl (by decide) (qt_assign rfl rfl) ?_
    refine at_end ?_
    refine at_seq ?_
    refine at_block ?_
    refine at_loopc (X := Nat × Nat) (fun q => GI (ltC cr) G R h q.1 q.2) (fun q => q.2 - q.1) (fun q => [(20, .int .i64 ((a + q.1 : Nat) : Int)), (21, .int .i64 ((a + q.2 : Nat) : Int))]) (C := [(0, _), (1, _), (2, _), (3, _), (4, _), (18, _), (19, _), (22, _)]) ⟨rfl, rfl, rfl, rfl, rfl, rfl, rfl, rfl, trivial⟩ (fun q => [.cel b T (wyF (A ++ G ++ R ++ Z) tl)]) (h - R.length, min G.length h) (GI.start hh2) ⟨rfl, rfl, rfl, rfl, rfl, rfl, rfl, rfl, rfl, rfl, trivial⟩ (fun _ h => h) ?_
    intro ⟨sg, ug⟩ hq L hL5
    refine at_envE (by simp only [ya,yb]; rfl) ?_
    refine at_rsE (by first | (dsimp only; done) | (dsimp only; rfl) | rfl) ?_
    have hq1 : GI (ltC cr) G R h sg ug := hq
    have hle := hq1.b
    refine at_seq ?_
    refine at_seq ?_
    refine at_region ?_
    refine at_q rfl rfl (by decide) (qt_move rfl rfl) ?_
    refine at_q rfl rfl (by decide) (qt_move rfl rfl) ?_
    refine at_q rfl rfl (by decide) (qt_lss rfl rfl rfl) ?_
    refine at_end ?_
    refine at_cond rfl (fun c10 => ?_) (fun c10 => ?_)
    ·try simp only [za,zb,zc,zd,ze,zf,Bool.not_true,Bool.not_false,zg,zh,ne_eq,zi,zj] at c10
     have hij : sg < ug := (by omega)
     obtain ⟨x, hx⟩ : ∃ r, G[(sg + ug) / 2]? = some r := ⟨_, List.getElem?_eq_getElem (by omega)⟩
     obtain ⟨y, hy⟩ : ∃ r, R[h - (sg + ug) / 2 - 1]? = some r := ⟨_, List.getElem?_eq_getElem (by omega)⟩
     have hxa : (A ++ G ++ R ++ Z)[a + (sg + ug) / 2]? = some x := (hGat _ (by omega)).trans hx
     have hya : (A ++ G ++ R ++ Z)[m + (h - (sg + ug) / 2 - 1)]? = some y := (hRat _ (by omega)).trans hy
     have hSx : S x := hS _ x (by omega) hxa
     have hSy : S y := hS _ y (by omega) hya
     refine at_skip ?_
     refine norm_then ?_
     refine at_block ?_
     refine at_seq ?_
     refine at_region ?_
     refine at_q rfl rfl (by decide) (qt_move rfl rfl) ?_
     refine at_q rfl rfl (by decide) (qt_move rfl rfl) ?_
     refine at_q rfl rfl (by decide) (qt_add rfl rfl rfl (by omega) (by omega)) ?_
     refine at_q rfl rfl (by decide) (qt_convI rfl Tryz.underlying3 Tryz.underlying121 rfl (u64_in _ (by omega) (by omega))) ?_
     refine at_q rfl rfl (by decide) (qt_shrU (q := 1) rfl rfl rfl (by decide) (by decide)) ?_
     refine at_q rfl rfl (by decide) ((qt_convI rfl Tryz.underlying121 Tryz.underlying3 rfl (wrapI64 _ (by simp; omega) (by simp; omega))).as (congrArg _ (show ((((a + sg : Nat) : Int) + ((a + ug : Nat) : Int)) / 2 ^ (Int.toNat 1)) = ((a + (sg + ug) / 2 : Nat) : Int) by simp; omega))) ?_
     refine at_q rfl rfl (by decide) (qt_assign rfl rfl) ?_
     refine at_end ?_
     refine at_seq ?_
     refine dg_start mixed rfl ?_
     refine dg_phase 14 ?_
     refine dg_q (i := 0) rfl (by kernel_rfl) (by kernel_rfl) (by kernel_rfl) [] (by kernel_rfl) (fun _ _ _ h => h) rfl rfl (by decide) (fun _ h => h.upto ⟨rfl, trivial⟩) (qt_move rfl rfl) ?_
     refine dg_q (i := 1) rfl (by kernel_rfl) (by kernel_rfl) (by kernel_rfl) [] (by kernel_rfl) (fun _ _ _ h => h) rfl rfl (by decide) (fun _ h => h.upto ⟨rfl, trivial⟩) (qt_move rfl rfl) ?_
     refine dg_q (i := 2) rfl (by kernel_rfl) (by kernel_rfl) (by kernel_rfl) [] (by kernel_rfl) (fun _ _ _ h => h) rfl rfl (by decide) (fun _ h => h.upto ⟨rfl, trivial⟩) (qt_move rfl rfl) ?_
     refine dg_q (i := 3) rfl (by kernel_rfl) (by kernel_rfl) (by kernel_rfl) [] (by kernel_rfl) (fun _ _ _ h => h) rfl rfl (by decide) (fun _ h => h.upto ⟨rfl, trivial⟩) (qt_move rfl rfl) ?_
     refine dg_q (i := 4) rfl (by kernel_rfl) (by kernel_rfl) (by kernel_rfl) [] (by kernel_rfl) (fun _ _ _ h => h) rfl rfl (by decide) (fun _ h => h.upto ⟨rfl, trivial⟩) ((qt_sub rfl rfl rfl (by omega) (by omega)).as (congrArg _ (show (((a + h + m - 1 : Nat) : Int) - ((a + (sg + ug) / 2 : Nat) : Int)) = ((m + (h - (sg + ug) / 2 - 1) : Nat) : Int) by omega))) ?_
     refine dg_q (i := 5) rfl (by kernel_rfl) (by kernel_rfl) (by kernel_rfl) [] (by kernel_rfl) (fun _ _ _ h => h) rfl rfl (by decide) (fun _ h => h.upto ⟨rfl, trivial⟩) (qt_index (j := m + (h - (sg + ug) / 2 - 1)) rfl rfl rfl tyl_sl_impl_wayPoint (by omega)) ?_
     refine dg_q (i := 6) rfl (by kernel_rfl) (by kernel_rfl) (by kernel_rfl) [] (by kernel_rfl) (fun _ _ _ h => h) rfl rfl (by decide) (fun _ h => h.upto ⟨rfl, trivial⟩) (qt_loadS rfl rfl tys_impl_wayPoint rfl (rdW (k := 0) rfl hya (by omega))) ?_
     refine dg_q (i := 7) rfl (by kernel_rfl) (by kernel_rfl) (by kernel_rfl) [] (by kernel_rfl) (fun _ _ _ h => h) rfl rfl (by decide) (fun _ h => h.upto ⟨rfl, trivial⟩) (qt_move rfl rfl) ?_
     refine dg_q (i := 8) rfl (by kernel_rfl) (by kernel_rfl) (by kernel_rfl) [] (by kernel_rfl) (fun _ _ _ h => h) rfl rfl (by decide) (fun _ h => h.upto ⟨rfl, trivial⟩) (qt_move rfl rfl) ?_
     refine dg_q (i := 9) rfl (by kernel_rfl) (by kernel_rfl) (by kernel_rfl) [] (by kernel_rfl) (fun _ _ _ h => h) rfl rfl (by decide) (fun _ h => h.upto ⟨rfl, trivial⟩) (qt_index (j := a + (sg + ug) / 2) rfl rfl rfl tyl_sl_impl_wayPoint (by omega)) ?_
     refine dg_q (i := 10) rfl (by kernel_rfl) (by kernel_rfl) (by kernel_rfl) [] (by kernel_rfl) (fun _ _ _ h => h) rfl rfl (by decide) (fun _ h => h.upto ⟨rfl, trivial⟩) (qt_loadS rfl rfl tys_impl_wayPoint rfl (rdW (k := 0) rfl hxa (by omega))) ?_
     refine dg_q (i := 11) rfl (by kernel_rfl) (by kernel_rfl) (by kernel_rfl) [] (by kernel_rfl) (fun _ _ _ h => h) rfl rfl (by decide) (fun _ h => h.upto ⟨rfl, trivial⟩) (qt_callk ok_impl_snapEdge_2 rfl rfl rfl (fun w1 h1 => hC.call y hSy x hSx w1 h1.over)) ?_
     refine dg_q (i := 12) rfl (by kernel_rfl) (by kernel_rfl) (by kernel_rfl) [] (by kernel_rfl) (fun _ _ _ h => h) rfl rfl (by decide) (fun _ h => h.upto ⟨rfl, trivial⟩) (qt_lss rfl rfl rfl) ?_
     refine dg_q (i := 13) rfl (by kernel_rfl) (by kernel_rfl) (by kernel_rfl) [] (by kernel_rfl) (fun _ _ _ h => h) rfl rfl (by decide) (fun _ h => h.upto ⟨rfl, trivial⟩) (qt_not rfl rfl) ?_
     refine dg_done (by kernel_rfl) ?_
     refine norm_then ?_
     refine at_cond rfl (fun c11 => ?_) (fun c11 => ?_)
     ·try simp only [za,zb,zc,zd,ze,zf,Bool.not_true,Bool.not_false,zg,zh,ne_eq,zi,zj] at c11
      refine at_region ?_
      refine at_q rfl rfl (by decide) (qt_move rfl rfl) ?_
      refine at_q rfl rfl (by decide) (qt_add rfl rfl rfl (by omega) (by omega)) ?_
      refine at_q rfl rfl (by decide) (qt_assign rfl rfl) ?_
      refine at_nil ?_
      refine norm_block ?_
      refine norm_then ?_
      exact at_againc hL5 (((sg + ug) / 2 + 1, ug)) (hq1.yes (by omega) (by omega) hx hy (by simpa [ltC] using c11)) (by simp only; omega) ⟨vi (by omega), rfl, rfl, rfl, rfl, rfl, rfl, rfl, rfl, rfl, trivial⟩ (fun _ h => h.upto ⟨rfl, trivial⟩)
     ·try simp only [za,zb,zc,zd,ze,zf,Bool.not_true,Bool.not_false,zg,zh,ne_eq,zi,zj] at c11
      refine at_region ?_
      refine at_q rfl rfl (by decide) (qt_move rfl rfl) ?_
      refine at_q rfl rfl (by decide) (qt_assign rfl rfl) ?_
      refine at_nil ?_
      refine norm_block ?_
      refine norm_then ?_
      exact at_againc hL5 ((sg, (sg + ug) / 2)) (hq1.no (by omega) (by omega) hx hy (by simpa [ltC] using c11)) (by simp only; omega) ⟨rfl, rfl, rfl, rfl, rfl, rfl, rfl, rfl, rfl, rfl, trivial⟩ (fun _ h => h.upto ⟨rfl, trivial⟩)
    ·try simp only [za,zb,zc,zd,ze,zf,Bool.not_true,Bool.not_false,zg,zh,ne_eq,zi,zj] at c10
     have hij : sg = ug := (by omega)
     subst hij
     have hsG1 : Srt (ltC cr) (G.take sg) := hsG.sublist (List.take_sublist _ _)
     have hsG2 : Srt (ltC cr) (G.drop sg) := hsG.sublist (List.drop_sublist _ _)
     have hsR1 : Srt (ltC cr) (R.take (h - sg)) := hsR.sublist (List.take_sublist _ _)
     have hsR2 : Srt (ltC cr) (R.drop (h - sg)) := hsR.sublist (List.drop_sublist _ _)
     have hfin := hq1.fin W hsG hsR
     have hl1 : (A ++ (G.take sg ++ R.take (h - sg)) ++ (G.drop sg ++ R.drop (h - sg)) ++ Z).length = (A ++ G ++ R ++ Z).length := (by rw [← rot_eq2, rot_eq1 (G := G) (R := R) (s := sg) (t := h - sg)]; simp only [List.length_append]; omega)
     have hS1 : Up n S (A ++ (G.take sg ++ R.take (h - sg)) ++ (G.drop sg ++ R.drop (h - sg)) ++ Z) := (by rw [List.append_assoc A G] at hS; rw [List.append_assoc A (G.take sg ++ R.take (h - sg))]; refine up_mid hS (fun y hy => ?_) (by simp; omega) (by simp; omega); simp only [List.mem_append] at hy ⊢; rcases hy with (hy | hy) | (hy | hy); exact .inl (List.mem_of_mem_take hy); exact .inr (List.mem_of_mem_take hy); exact .inl (List.mem_of_mem_drop hy); exact .inr (List.mem_of_mem_drop hy))
     have hl2 : (A ++ mrg (ltC cr) (G.take sg) (R.take (h - sg)) ++ (G.drop sg ++ R.drop (h - sg)) ++ Z).length = (A ++ G ++ R ++ Z).length := (by rw [← hl1]; simp only [List.length_append, mrg_len])
     have hS2 : Up n S (A ++ mrg (ltC cr) (G.take sg) (R.take (h - sg)) ++ (G.drop sg ++ R.drop (h - sg)) ++ Z) := (by rw [List.append_assoc (A ++ _)] at hS1 ⊢; exact up_mid hS1 (fun y hy => List.mem_append.2 ((mrg_mem _ _ y).1 hy)) (by simp [mrg_len]) (by simp; omega))
     refine at_exit ?_
     refine pass_then (fun h => by cases h) ?_
     refine pass_then (fun h => by cases h) ?_
     refine pass_hit ?_
     refine norm_then ?_
     refine at_seq ?_
     refine at_region ?_
     refine at_q rfl rfl (by decide) (qt_move rfl rfl) ?_
     refine at_q rfl rfl (by decide) (qt_move rfl rfl) ?_
     refine at_q rfl rfl (by decide) ((qt_sub rfl rfl rfl (by omega) (by omega)).as (congrArg _ (show (((a + h + m : Nat) : Int) - ((a + sg : Nat) : Int)) = ((m + (h - sg) : Nat) : Int) by omega))) ?_
     refine at_q rfl rfl (by decide) (qt_assign rfl rfl) ?_
     refine at_end ?_
     refine at_cut [] (C := [(0, _), (1, _), (3, _), (4, _), (18, _), (20, _), (24, _)]) ([.cel b T (wyF (A ++ (G.take sg ++ R.take (h - sg)) ++ (G.drop sg ++ R.drop (h - sg)) ++ Z) tl)]) ⟨rfl, rfl, rfl, rfl, rfl, rfl, rfl, trivial⟩ (fun L hC_cutif_t185 => ?_) ?_
     ·refine at_cutE [(185, .bool (decide (sg < G.length) && decide (sg < h)))] (C := [(0, _), (1, _), (2, _), (3, _), (4, _), (18, _), (20, _), (24, _)])  ⟨rfl, rfl, rfl, rfl, rfl, rfl, rfl, rfl, trivial⟩ (fun L hC_cut_39 => ?_) ?_
      ·refine at_region ?_
       refine at_q rfl rfl (by decide) (qt_move rfl rfl) ?_
       refine at_q rfl rfl (by decide) (qt_move rfl rfl) ?_
       refine at_q rfl rfl (by decide) (qt_lss rfl rfl rfl) ?_
       refine at_q rfl rfl (by decide) (qt_move rfl rfl) ?_
       refine at_bsplit 181 rfl (fun g1 => ?_) (fun g1 => ?_)
       ·try simp only [za,zb,zc,zd,ze,zf,Bool.not_true,Bool.not_false,zg,zh,ne_eq,zi,zj] at g1
        refine at_on rfl rfl rfl rfl ?_
        refine op_q rfl (by decide) (qt_move rfl rfl) ?_
        refine at_on rfl rfl rfl rfl ?_
        refine op_q rfl (by decide) (qt_move rfl rfl) ?_
        refine at_on rfl rfl rfl rfl ?_
        refine op_q rfl (by decide) (qt_lss rfl rfl rfl) ?_
        refine at_q rfl rfl (by decide) (qt_pickT rfl rfl rfl) ?_
        refine at_end ?_
        exact at_meet hC_cut_39 ⟨vb (by rw [show decide (sg < G.length) = true from decide_eq_true (by omega), Bool.true_and]; exact decide_eq_decide.2 (by omega)), rfl, rfl, rfl, rfl, rfl, rfl, rfl, rfl, trivial⟩ (fun _ h => h.upto ⟨rfl, trivial⟩)
       ·try simp only [za,zb,zc,zd,ze,zf,Bool.not_true,Bool.not_false,zg,zh,ne_eq,zi,zj] at g1
        refine at_off rfl rfl rfl rfl (by decide) rfl (by decide) ?_
        refine at_off rfl rfl rfl rfl (by decide) rfl (by decide) ?_
        refine at_off rfl rfl rfl rfl (by decide) rfl (by decide) ?_
        refine at_q rfl rfl (by decide) (qt_pickF rfl rfl rfl) ?_
        refine at_end ?_
        exact at_meet hC_cut_39 ⟨vb (by rw [show decide (sg < G.length) = false from decide_eq_false (by omega), Bool.false_and]), rfl, rfl, rfl, rfl, rfl, rfl, rfl, rfl, trivial⟩ (fun _ h => h.upto ⟨rfl, trivial⟩)
      ·refine at_envE (by simp only [ya,yb]; rfl) ?_
       refine at_cond rfl (fun c12 => ?_) (fun c12 => ?_)
       ·try simp only [za,zb,zc,zd,ze,zf,Bool.not_true,Bool.not_false,zg,zh,ne_eq,zi,zj] at c12
        simp only [Bool.and_eq_true, decide_eq_true_eq] at c12
        refine at_region ?_
        refine at_q rfl rfl (by decide) (qt_move rfl rfl) ?_
        refine at_q rfl rfl (by decide) (qt_move rfl rfl) ?_
        refine at_q rfl rfl (by decide) (qt_move rfl rfl) ?_
        refine at_q rfl rfl (by decide) (qt_move rfl rfl) ?_
        refine at_q rfl rfl (by decide) (qt_move rfl rfl) ?_
        refine at_op rfl ?_
        refine op_callm (k := 0) ok_slices_rotateCmpFunc_impl_wayPoint rfl rfl rfl (by decide) rfl (fun w1 h1 => rotate_wy b T tl (A ++ G.take sg) (G.drop sg) (R.take (h - sg)) (R.drop (h - sg) ++ Z) n c (a + sg) m (m + (h - sg)) _ w1 ((h1.cel (k := 0) rfl).trans (wy_eq rot_eq1)) (by simp; omega) (by simp; omega) (by simp; omega) (by simp; omega) (by simp; omega) (by omega) (by rw [← rot_eq1]; omega) hn (by rw [← rot_eq1]; exact hone)) ?_
        refine at_rsE (by simp only [ya,yb,yc,yd,Value.cells,ye]; rfl) ?_
        rw [rot_eq2]
        refine at_end ?_
        exact at_meet hC_cutif_t185 ⟨rfl, rfl, rfl, rfl, rfl, rfl, rfl, trivial⟩ (fun _ h => h.upto ⟨rfl, trivial⟩)
       ·try simp only [za,zb,zc,zd,ze,zf,Bool.not_true,Bool.not_false,zg,zh,ne_eq,zi,zj] at c12
        rw [show A ++ G ++ R ++ Z = A ++ (G.take sg ++ R.take (h - sg)) ++ (G.drop sg ++ R.drop (h - sg)) ++ Z from rot_no (by simp at c12; omega)]
        refine at_skip ?_
        refine norm_then ?_
        exact at_meet hC_cutif_t185 ⟨rfl, rfl, rfl, rfl, rfl, rfl, rfl, trivial⟩ (fun _ h => h.upto ⟨rfl, trivial⟩)
     ·refine at_envE (by simp only [ya,yb]; rfl) ?_
      refine at_cut [] (C := [(0, _), (3, _), (4, _), (18, _), (24, _)]) ([.cel b T (wyF (A ++ mrg (ltC cr) (G.take sg) (R.take (h - sg)) ++ (G.drop sg ++ R.drop (h - sg)) ++ Z) tl)]) ⟨rfl, rfl, rfl, rfl, rfl, trivial⟩ (fun L hC_cutif_t199 => ?_) ?_
      ·refine at_cutE [(199, .bool (decide (0 < sg) && decide (sg < h)))] (C := [(0, _), (1, _), (3, _), (4, _), (18, _), (20, _), (24, _)])  ⟨rfl, rfl, rfl, rfl, rfl, rfl, rfl, trivial⟩ (fun L hC_cut_41 => ?_) ?_
       ·refine at_region ?_
        refine at_q rfl rfl (by decide) (qt_move rfl rfl) ?_
        refine at_q rfl rfl (by decide) (qt_move rfl rfl) ?_
        refine at_q rfl rfl (by decide) (qt_lss rfl rfl rfl) ?_
        refine at_q rfl rfl (by decide) (qt_move rfl rfl) ?_
        refine at_bsplit 195 rfl (fun g2 => ?_) (fun g2 => ?_)
        ·try simp only [za,zb,zc,zd,ze,zf,Bool.not_true,Bool.not_false,zg,zh,ne_eq,zi,zj] at g2
         refine at_on rfl rfl rfl rfl ?_
         refine op_q rfl (by decide) (qt_move rfl rfl) ?_
         refine at_on rfl rfl rfl rfl ?_
         refine op_q rfl (by decide) (qt_move rfl rfl) ?_
         refine at_on rfl rfl rfl rfl ?_
         refine op_q rfl (by decide) (qt_lss rfl rfl rfl) ?_
         refine at_q rfl rfl (by decide) (qt_pickT rfl rfl rfl) ?_
         refine at_end ?_
         exact at_meet hC_cut_41 ⟨vb (by rw [show decide (0 < sg) = true from decide_eq_true (by omega), Bool.true_and]; exact decide_eq_decide.2 (by omega)), rfl, rfl, rfl, rfl, rfl, rfl, rfl, trivial⟩ (fun _ h => h.upto ⟨rfl, trivial⟩)
        ·try simp only [za,zb,zc,zd,ze,zf,Bool.not_true,Bool.not_false,zg,zh,ne_eq,zi,zj] at g2
         refine at_off rfl rfl rfl rfl (by decide) rfl (by decide) ?_
         refine at_off rfl rfl rfl rfl (by decide) rfl (by decide) ?_
         refine at_off rfl rfl rfl rfl (by decide) rfl (by decide) ?_
         refine at_q rfl rfl (by decide) (qt_pickF rfl rfl rfl) ?_
         refine at_end ?_
         exact at_meet hC_cut_41 ⟨vb (by rw [show decide (0 < sg) = false from decide_eq_false (by omega), Bool.false_and]), rfl, rfl, rfl, rfl, rfl, rfl, rfl, trivial⟩ (fun _ h => h.upto ⟨rfl, trivial⟩)
       ·refine at_envE (by simp only [ya,yb]; rfl) ?_
        refine at_cond rfl (fun c13 => ?_) (fun c13 => ?_)
        ·try simp only [za,zb,zc,zd,ze,zf,Bool.not_true,Bool.not_false,zg,zh,ne_eq,zi,zj] at c13
         simp only [Bool.and_eq_true, decide_eq_true_eq] at c13
         refine at_region ?_
         refine at_q rfl rfl (by decide) (qt_move rfl rfl) ?_
         refine at_q rfl rfl (by decide) (qt_move rfl rfl) ?_
         refine at_q rfl rfl (by decide) (qt_move rfl rfl) ?_
         refine at_q rfl rfl (by decide) (qt_move rfl rfl) ?_
         refine at_q rfl rfl (by decide) (qt_move rfl rfl) ?_
         refine at_op rfl ?_
         refine op_callm (k := 0) ok_slices_symMergeCmpFunc_impl_wayPoint rfl rfl rfl (by decide) rfl (fun w1 h1 => ih A (G.take sg) (R.take (h - sg)) (G.drop sg ++ R.drop (h - sg) ++ Z) a (a + sg) (a + h) w1 (by simp; omega) (hC.over h1.over) ((h1.cel (k := 0) rfl).trans (wy_eq mg1_eq1)) ha (by simp; omega) (by simp; omega) (by simp; omega) (by simp; omega) (by omega) (by rw [← mg1_eq1]; omega) hsG1 hsR1 (by rw [← mg1_eq1]; exact hS1)) ?_
         refine at_rsE (by simp only [ya,yb,yc,yd,Value.cells,ye]; rfl) ?_
         rw [mg1_eq2]
         refine at_end ?_
         exact at_meet hC_cutif_t199 ⟨rfl, rfl, rfl, rfl, rfl, trivial⟩ (fun _ h => h.upto ⟨rfl, trivial⟩)
        ·try simp only [za,zb,zc,zd,ze,zf,Bool.not_true,Bool.not_false,zg,zh,ne_eq,zi,zj] at c13
         rw [show G.take sg ++ R.take (h - sg) = mrg (ltC cr) (G.take sg) (R.take (h - sg)) from mg1_no (by simp at c13; omega)]
         refine at_skip ?_
         refine norm_then ?_
         exact at_meet hC_cutif_t199 ⟨rfl, rfl, rfl, rfl, rfl, trivial⟩ (fun _ h => h.upto ⟨rfl, trivial⟩)
      ·refine at_envE (by simp only [ya,yb]; rfl) ?_
       refine at_cutE [(213, .bool (decide (sg < G.length) && decide (h - sg < R.length)))] (C := [(0, _), (3, _), (4, _), (18, _), (24, _)])  ⟨rfl, rfl, rfl, rfl, rfl, trivial⟩ (fun L hC_cut_43 => ?_) ?_
       ·refine at_region ?_
        refine at_q rfl rfl (by decide) (qt_move rfl rfl) ?_
        refine at_q rfl rfl (by decide) (qt_move rfl rfl) ?_
        refine at_q rfl rfl (by decide) (qt_lss rfl rfl rfl) ?_
        refine at_q rfl rfl (by decide) (qt_move rfl rfl) ?_
        refine at_bsplit 209 rfl (fun g3 => ?_) (fun g3 => ?_)
        ·try simp only [za,zb,zc,zd,ze,zf,Bool.not_true,Bool.not_false,zg,zh,ne_eq,zi,zj] at g3
         refine at_on rfl rfl rfl rfl ?_
         refine op_q rfl (by decide) (qt_move rfl rfl) ?_
         refine at_on rfl rfl rfl rfl ?_
         refine op_q rfl (by decide) (qt_move rfl rfl) ?_
         refine at_on rfl rfl rfl rfl ?_
         refine op_q rfl (by decide) (qt_lss rfl rfl rfl) ?_
         refine at_q rfl rfl (by decide) (qt_pickT rfl rfl rfl) ?_
         refine at_end ?_
         exact at_meet hC_cut_43 ⟨vb (by rw [show decide (sg < G.length) = true from decide_eq_true (by omega), Bool.true_and]; exact decide_eq_decide.2 (by omega)), rfl, rfl, rfl, rfl, rfl, trivial⟩ (fun _ h => h.upto ⟨rfl, trivial⟩)
        ·try simp only [za,zb,zc,zd,ze,zf,Bool.not_true,Bool.not_false,zg,zh,ne_eq,zi,zj] at g3
         refine at_off rfl rfl rfl rfl (by decide) rfl (by decide) ?_
         refine at_off rfl rfl rfl rfl (by decide) rfl (by decide) ?_
         refine at_off rfl rfl rfl rfl (by decide) rfl (by decide) ?_
         refine at_q rfl rfl (by decide) (qt_pickF rfl rfl rfl) ?_
         refine at_end ?_
         exact at_meet hC_cut_43 ⟨vb (by rw [show decide (sg < G.length) = false from decide_eq_false (by omega), Bool.false_and]), rfl, rfl, rfl, rfl, rfl, trivial⟩ (fun _ h => h.upto ⟨rfl, trivial⟩)
       ·refine at_envE (by simp only [ya,yb]; rfl) ?_
        refine at_cond rfl (fun c14 => ?_) (fun c14 => ?_)
        ·try simp only [za,zb,zc,zd,ze,zf,Bool.not_true,Bool.not_false,zg,zh,ne_eq,zi,zj] at c14
         simp only [Bool.and_eq_true, decide_eq_true_eq] at c14
         refine at_region ?_
         refine at_q rfl rfl (by decide) (qt_move rfl rfl) ?_
         refine at_q rfl rfl (by decide) (qt_move rfl rfl) ?_
         refine at_q rfl rfl (by decide) (qt_move rfl rfl) ?_
         refine at_q rfl rfl (by decide) (qt_move rfl rfl) ?_
         refine at_q rfl rfl (by decide) (qt_move rfl rfl) ?_
         refine at_op rfl ?_
         refine op_callm (k := 0) ok_slices_symMergeCmpFunc_impl_wayPoint rfl rfl rfl (by decide) rfl (fun w1 h1 => ih (A ++ mrg (ltC cr) (G.take sg) (R.take (h - sg))) (G.drop sg) (R.drop (h - sg)) Z (a + h) (m + (h - sg)) e_ w1 (by simp; omega) (hC.over h1.over) ((h1.cel (k := 0) rfl).trans (wy_eq mg2_eq1)) (by simp [mrg_len]; omega) (by simp; omega) (by simp; omega) (by simp; omega) (by simp; omega) (by omega) (by rw [← mg2_eq1]; omega) hsG2 hsR2 (by rw [← mg2_eq1]; exact hS2)) ?_
         refine at_rsE (by simp only [ya,yb,yc,yd,Value.cells,ye]; rfl) ?_
         refine at_nil ?_
         refine at_end0 rfl ?_
         intro w' hs
         exact ⟨rfl, hs.over.wr, by rw [hfin, ← mg2_eq2]; exact hs.cel (k := 0) rfl⟩
        ·try simp only [za,zb,zc,zd,ze,zf,Bool.not_true,Bool.not_false,zg,zh,ne_eq,zi,zj] at c14
         refine at_skip ?_
         refine at_end0 rfl ?_
         intro w' hs
         exact ⟨rfl, hs.over.wr, by rw [hfin, ← mg2_no (by simp at c14; omega), ← List.append_assoc A]; exact hs.cel (k := 0) rfl⟩
theorem MrgW.le {b T n c : Nat} {tl : List Value} {S : Wy → Prop} {cr : Wy → Wy → Int} {k top : Nat} (h : MrgW b T n c tl S cr top) (hk : k ≤ top) : MrgW b T n c tl S cr k :=
 fun A L R Z a m e_ w1 hlt => h A L R Z a m e_ w1 (by omega)
theorem mrgW_all (b T n c : Nat) (tl : List Value) (S : Wy → Prop) (cr : Wy → Wy → Int) (hn : n ≤ 1099511627776) : ∀ top, MrgW b T n c tl S cr top
 | 0 => fun A L R Z a m e_ w1 hlt => absurd hlt (by omega)
 | top + 1 => fun A L R Z a m e_ w1 hlt hC hh ha hm he hL hR hen hl hsL hsR hS =>
  symMerge_wy b T n c tl S cr hn A L R Z a m e_ w1 ((mrgW_all b T n c tl S cr hn top).le (by omega)) hC hh ha hm he hL hR hen hl hsL hsR hS
theorem sort_wy (b T : Nat) (tl : List Value) (X B : List Wy) (n c : Nat) (S : Wy → Prop) (cr : Wy → Wy → Int) (w : World) (hC : CmpW w b S cr) (hh : w.heap[b]? = some (.cells (wyF (X ++ B) tl).toArray T (0, 0)))
  (hX : X.length = n) (hn : n ≤ 1099511627776) (hS : ∀ x ∈ X, S x) :
  Calls Tryz.prog 67 #[.slice (some ⟨b, 0, none⟩) n c, .func (.func 68) #[] #[]] w fun e w' => e = .returned (.tuple #[]) ∧ Wr b w w' ∧ w'.heap[b]? = some (.cells (wyF (srt (ltC cr) X ++ B) tl).toArray T (0, 0)) := by
 refine walk_from1 (m := 9) (Tryz.func67) rfl rfl (Nat.le_of_ble_eq_true rfl) (hh) ?_
 refine at_region ?_
 refine at_q rfl rfl (by decide) (qt_move rfl rfl) ?_
 refine at_q rfl rfl (by decide) (qt_move rfl rfl) ?_
 refine at_q rfl rfl (by decide) (qt_len rfl rfl tyl_sl_impl_wayPoint) ?_
 refine at_q rfl rfl (by decide) (qt_move rfl rfl) ?_
 refine at_op rfl ?_
 refine op_callm (k := 0) ok_slices_stableCmpFunc_impl_wayPoint rfl rfl rfl (by decide) rfl (fun w1 h1 => stable_wy b T tl X B n c S cr w1 (hC.over h1.over) (h1.cel (k := 0) rfl) hX hn hS (fun A L R Z a m e_ w2 => mrgW_all b T n c tl S cr hn (L.length + R.length + 1) A L R Z a m e_ w2 (Nat.lt_succ_self _))) ?_
 refine at_rsE (by simp only [ya,yb,yc,yd,Value.cells,ye]; rfl) ?_
 refine at_nil ?_
 refine at_end0 rfl ?_
 intro w' hs
 exact ⟨rfl, hs.over.wr, hs.cel (k := 0) rfl⟩
theorem insertion_noneW (A : Option Addr) (c : Nat) (fv : Value) (w : World) : Calls Tryz.prog 106 #[.slice A 0 c, .int .i64 0, .int .i64 0, fv] w fun e w' => e = .returned (.tuple #[]) ∧ Over w w' := by
 refine walk_from (m := 53) (Tryz.func106) rfl rfl (Nat.le_of_ble_eq_true rfl) ?_
 refine at_seq ?_
 refine at_region ?_
 refine at_q rfl rfl (by decide) (qt_move rfl rfl) ?_
 refine at_q rfl rfl (by decide) (qt_add rfl rfl rfl (by omega) (by omega)) ?_
 refine at_q rfl rfl (by decide) (qt_assign rfl rfl) ?_
 refine at_end ?_
 refine at_block ?_
 refine at_loopk (X := Nat) (fun k => k = 0) (fun k => k) (fun k => [(8, .int .i64 ((k : Int) + 1))]) (C := [(0, _), (1, _), (2, _), (3, _)]) ⟨rfl, rfl, rfl, rfl, trivial⟩ 0 (rfl) ⟨rfl, rfl, rfl, rfl, rfl, trivial⟩ ?_
 intro k hk L hL1
 refine at_envE (by simp only [ya,yb]; rfl) ?_
 refine at_seq ?_
 refine at_seq ?_
 refine at_region ?_
 refine at_q rfl rfl (by decide) (qt_move rfl rfl) ?_
 refine at_q rfl rfl (by decide) (qt_move rfl rfl) ?_
 refine at_q rfl rfl (by decide) (qt_lss rfl rfl rfl) ?_
 refine at_end ?_
 refine at_cond rfl (fun c1 => ?_) (fun c1 => ?_)
 ·try simp only [za,zb,zc,zd,ze,zf,Bool.not_true,Bool.not_false,zg,zh,ne_eq,zi,zj] at c1
  omega
 ·try simp only [za,zb,zc,zd,ze,zf,Bool.not_true,Bool.not_false,zg,zh,ne_eq,zi,zj] at c1
  refine at_exit ?_
  refine pass_then (fun h => by cases h) ?_
  refine pass_then (fun h => by cases h) ?_
  refine pass_hit ?_
  refine at_end0 rfl ?_
  intro w' hs
  exact ⟨rfl, hs.fin⟩
theorem stable_noneW (A : Option Addr) (c : Nat) (fv : Value) (w : World) : Calls Tryz.prog 88 #[.slice A 0 c, .int .i64 0, fv] w fun e w' => e = .returned (.tuple #[]) ∧ Over w w' := by
 refine walk_from (m := 63) (Tryz.func88) rfl rfl (Nat.le_of_ble_eq_true rfl) ?_
 refine at_seq ?_
 refine at_region ?_
 refine at_q rfl rfl (by decide) (qt_assign rfl rfl) ?_
 refine at_end ?_
 refine at_seq ?_
 refine at_region ?_
 refine at_q rfl rfl (by decide) (qt_move rfl rfl) ?_
 refine at_q rfl rfl (by decide) (qt_assign rfl rfl) ?_
 refine at_q rfl rfl (by decide) (qt_assign rfl rfl) ?_
 refine at_end ?_
 refine at_seq ?_
 refine at_block ?_
 refine at_loopk (X := Nat) (fun k => k = 0) (fun k => k) (fun k => [(7, .int .i64 (k : Int)), (8, .int .i64 ((k : Int) + 20))]) (C := [(0, _), (1, _), (2, _), (6, _)]) ⟨rfl, rfl, rfl, rfl, trivial⟩ 0 (rfl) ⟨rfl, rfl, rfl, rfl, rfl, rfl, trivial⟩ ?_
 intro k hk L hL1
 refine at_envE (by simp only [ya,yb]; rfl) ?_
 refine at_seq ?_
 refine at_seq ?_
 refine at_region ?_
 refine at_q rfl rfl (by decide) (qt_move rfl rfl) ?_
 refine at_q rfl rfl (by decide) (qt_move rfl rfl) ?_
 refine at_q rfl rfl (by decide) (qt_leq rfl rfl rfl) ?_
 refine at_end ?_
 refine at_cond rfl (fun c1 => ?_) (fun c1 => ?_)
 ·try simp only [za,zb,zc,zd,ze,zf,Bool.not_true,Bool.not_false,zg,zh,ne_eq,zi,zj] at c1
  omega
 ·try simp only [za,zb,zc,zd,ze,zf,Bool.not_true,Bool.not_false,zg,zh,ne_eq,zi,zj] at c1
  subst hk
  refine at_exit ?_
  refine pass_then (fun h => by cases h) ?_
  refine pass_then (fun h => by cases h) ?_
  refine pass_hit ?_
  refine norm_then ?_
  refine at_seq ?_
  refine at_region ?_
  refine at_q rfl rfl (by decide) (qt_move rfl rfl) ?_
  refine at_q rfl rfl (by decide) (qt_move rfl rfl) ?_
  refine at_q rfl rfl (by decide) (qt_move rfl rfl) ?_
  refine at_q rfl rfl (by decide) (qt_move rfl rfl) ?_
  refine at_q rfl rfl (by decide) (qt_call ok_slices_insertionSortCmpFunc_impl_wayPoint rfl rfl (fun w1 h1 => insertion_noneW A c fv w1)) ?_
  refine at_end ?_
  refine at_block ?_
  refine at_loopk (X := Nat) (fun q => q = 0) (fun q => q) (fun q => [(6, .int .i64 ((q : Int) + 20))]) (C := [(0, _), (1, _), (2, _), (7, _), (8, _)]) ⟨rfl, rfl, rfl, rfl, rfl, trivial⟩ 0 (rfl) ⟨rfl, rfl, rfl, rfl, rfl, rfl, trivial⟩ ?_
  intro q hq L hL2
  refine at_envE (by simp only [ya,yb]; rfl) ?_
  refine at_seq ?_
  refine at_seq ?_
  refine at_region ?_
  refine at_q rfl rfl (by decide) (qt_move rfl rfl) ?_
  refine at_q rfl rfl (by decide) (qt_move rfl rfl) ?_
  refine at_q rfl rfl (by decide) (qt_lss rfl rfl rfl) ?_
  refine at_end ?_
  refine at_cond rfl (fun c2 => ?_) (fun c2 => ?_)
  ·try simp only [za,zb,zc,zd,ze,zf,Bool.not_true,Bool.not_false,zg,zh,ne_eq,zi,zj] at c2
   omega
  ·try simp only [za,zb,zc,zd,ze,zf,Bool.not_true,Bool.not_false,zg,zh,ne_eq,zi,zj] at c2
   refine at_exit ?_
   refine pass_then (fun h => by cases h) ?_
   refine pass_then (fun h => by cases h) ?_
   refine pass_hit ?_
   refine at_end0 rfl ?_
   intro w' hs
   exact ⟨rfl, hs.fin⟩
theorem sort_noneW (A : Option Addr) (c : Nat) (fv : Value) (w : World) : Calls Tryz.prog 67 #[.slice A 0 c, fv] w fun e w' => e = .returned (.tuple #[]) ∧ Over w w' := by
 refine walk_from (m := 9) (Tryz.func67) rfl rfl (Nat.le_of_ble_eq_true rfl) ?_
 refine at_region ?_
 refine at_q rfl rfl (by decide) (qt_move rfl rfl) ?_
 refine at_q rfl rfl (by decide) (qt_move rfl rfl) ?_
 refine at_q rfl rfl (by decide) (qt_len rfl rfl tyl_sl_impl_wayPoint) ?_
 refine at_q rfl rfl (by decide) (qt_move rfl rfl) ?_
 refine at_q rfl rfl (by decide) (qt_call ok_slices_stableCmpFunc_impl_wayPoint rfl rfl (fun w1 h1 => stable_noneW A c fv w1)) ?_
 refine at_nil ?_
 refine at_end0 rfl ?_
 intro w' hs
 exact ⟨rfl, hs.fin⟩

/-! ### Sorting under a map -/
end Go.Proofs.YtakdjgldcpompaaGreat
