/- Hulls of points: plain law, chains, the reference's hull. -/
import Derived.Test.YtjhaakollekjeaaSd2
import Derived.Test.YtjhaakollekjeaaHot
import Derived.Test.YtjhaakollekjeaaRev
namespace Go.Proofs.Ytjhaakollekjeaa
open Go Go.RowKit
set_option linter.unusedVariables false
set_option linter.unusedSimpArgs false
set_option maxRecDepth 100000
set_option maxHeartbeats 4000000
set_option linter.unusedVariables false
set_option linter.unusedSimpArgs false

/-- A point whose coordinates are not far out. -/
def bdH (p : Pn) : Prop := (-1048576 ≤ p.1 ∧ p.1 ≤ 1048576) ∧ -1048576 ≤ p.2 ∧ p.2 ≤ 1048576
theorem bd2.mid {p : Pn} (h : bd2 p) : bdH p := by
 obtain ⟨⟨h1, h2⟩, h3, h4⟩ := h
 exact ⟨⟨by omega, by omega⟩, by omega, by omega⟩
theorem bdH.wide {p : Pn} (h : bdH p) : bdW p := by
 obtain ⟨⟨h1, h2⟩, h3, h4⟩ := h
 exact ⟨⟨by omega, by omega⟩, by omega, by omega⟩
theorem turn_h (a b c : Pn) (w : World) (ha : bdH a) (hb : bdH b) (hc : bdH c) : Calls Try.prog 105 #[pV a, pV b, pV c] w fun e w' => e = .returned (.int .i64 (tn a b c)) ∧ Over w w' :=
 turn_any _ _ _ _ _ _ w ha.1.1 ha.1.2 ha.2.1 ha.2.2 hb.1.1 hb.1.2 hb.2.1 hb.2.2 hc.1.1 hc.1.2 hc.2.1 hc.2.2
theorem l03Turn_h (a b c : Pn) (w : World) (ha : bdH a) (hb : bdH b) (hc : bdH c) : Calls Try.prog 134 #[pV a, pV b, pV c] w fun e w' => e = .returned (.int .i64 (tn a b c)) ∧ Over w w' :=
 l03Turn_any _ _ _ _ _ _ w ha.1.1 ha.1.2 ha.2.1 ha.2.2 hb.1.1 hb.1.2 hb.2.1 hb.2.2 hc.1.1 hc.1.2 hc.2.1 hc.2.2
theorem pt_mem {xs : List Pn} {k : Nat} (h : k < xs.length) : pt xs k ∈ xs := by rw [← pt_at h]; exact List.getElem_mem h
theorem pt_takH {xs : List Pn} {k m : Nat} (h : k < m) : pt (xs.take m) k = pt xs k := by
 simp only [pt, px, py, List.getD, List.getElem?_take, if_pos h]
/-! ### Chains -/
/-- How many of the first k points of a chain stay when p comes. -/
def keepN (xs : List Pn) (p : Pn) : Nat → Nat
 | 0 => 0
 | 1 => 1
 | k + 2 => if tn (pt xs k) (pt xs (k + 1)) p ≤ 0 then keepN xs p (k + 1) else k + 2
theorem keepN_le (xs : List Pn) (p : Pn) : ∀ k, keepN xs p k ≤ k
 | 0 => Nat.le_refl _
 | 1 => Nat.le_refl _
 | k + 2 => by
  unfold keepN
  split
  ·have := keepN_le xs p (k + 1); omega
  ·exact Nat.le_refl _
theorem keepN_pos (xs : List Pn) (p : Pn) : ∀ k, 0 < k → 0 < keepN xs p k
 | 0, h => h
 | 1, _ => Nat.zero_lt_one
 | k + 2, _ => by
  unfold keepN
  split
  ·exact keepN_pos xs p (k + 1) (by omega)
  ·omega
theorem keepN_stop {xs : List Pn} {p : Pn} {m : Nat} (h : ¬ (1 < m ∧ tn (pt xs (m - 2)) (pt xs (m - 1)) p ≤ 0)) : keepN xs p m = m := by
 match m, h with
 | 0, _ => rfl
 | 1, _ => rfl
 | k + 2, h =>
  unfold keepN
  exact if_neg fun h1 => h ⟨by omega, h1⟩
theorem keepN_more {xs : List Pn} {p : Pn} {m : Nat} (h : 1 < m ∧ tn (pt xs (m - 2)) (pt xs (m - 1)) p ≤ 0) : keepN xs p (m - 1) = keepN xs p m := by
 match m, h with
 | k + 2, h =>
  show keepN xs p (k + 1) = keepN xs p (k + 2)
  rw [keepN.eq_3, if_pos (show tn (pt xs k) (pt xs (k + 1)) p ≤ 0 from h.2)]
def pushP (xs : List Pn) (p : Pn) : List Pn := xs.take (keepN xs p xs.length) ++ [p]
def chainP (l : List Pn) : List Pn := l.foldl pushP []
/-- One side of a hull: the chain without its last point. -/
def sideP (l : List Pn) : List Pn := (chainP l).take ((chainP l).length - 1)
def hullS (all : List Pn) : List Pn := if all.length < 3 then all else sideP all ++ sideP all.reverse
/-- The hull of points. -/
def hullP (l : List Pn) : List Pn := hullS (putAll l)
theorem chainP_app (l : List Pn) (p : Pn) : chainP (l ++ [p]) = pushP (chainP l) p := by simp [chainP, List.foldl_append]
theorem pushP_len (xs : List Pn) (p : Pn) : 0 < (pushP xs p).length ∧ (pushP xs p).length ≤ xs.length + 1 := by
 have := keepN_le xs p xs.length
 rw [pushP, List.length_append, List.length_take, List.length_singleton]
 omega
theorem pushP_sub {xs : List Pn} {p q : Pn} (h : q ∈ pushP xs p) : q ∈ xs ∨ q = p := by
 rcases List.mem_append.1 h with h | h
 ·exact .inl (List.mem_of_mem_take h)
 ·exact .inr (List.mem_singleton.1 h)
theorem foldl_push (l : List Pn) : ∀ xs, (l.foldl pushP xs).length ≤ xs.length + l.length ∧ ∀ q ∈ l.foldl pushP xs, q ∈ xs ∨ q ∈ l := by
 induction l with
 | nil => intro xs; exact ⟨Nat.le_refl _, fun q h => .inl h⟩
 | cons p l ih =>
  intro xs
  obtain ⟨h1, h2⟩ := ih (pushP xs p)
  have := (pushP_len xs p).2
  refine ⟨by rw [List.foldl_cons, List.length_cons]; omega, fun q hq => ?_⟩
  rcases h2 q hq with h | h
  ·rcases pushP_sub h with h | h
   ·exact .inl h
   ·exact .inr (by rw [h]; simp)
  ·exact .inr (List.mem_cons_of_mem _ h)
theorem chain_len (l : List Pn) : (chainP l).length ≤ l.length := by have := (foldl_push l []).1; simpa [chainP] using this
theorem chain_mem {l : List Pn} {q : Pn} (h : q ∈ chainP l) : q ∈ l := by have := (foldl_push l []).2 q h; simpa using this
theorem chn_step {xs : List Pn} {k : Nat} (h : k < xs.length) : chainP (xs.take (k + 1)) = pushP (chainP (xs.take k)) (pt xs k) := by
 rw [List.take_succ_eq_append_getElem h, chainP_app, pt_at h]
theorem chain_pos {l : List Pn} (h : 0 < l.length) : 0 < (chainP l).length := by
 have := chn_step (xs := l) (k := l.length - 1) (by omega)
 rw [show l.length - 1 + 1 = l.length by omega, List.take_length] at this
 rw [this]
 exact (pushP_len _ _).1
theorem chain_take_len {xs : List Pn} {k : Nat} (h : k ≤ xs.length) : (chainP (xs.take k)).length ≤ k := by
 have := chain_len (xs.take k)
 rw [List.length_take] at this
 omega
theorem chain_take_mem {xs : List Pn} {k : Nat} {q : Pn} (h : q ∈ chainP (xs.take k)) : q ∈ xs := List.mem_of_mem_take (chain_mem h)
theorem side_lnH (l : List Pn) : (sideP l).length = (chainP l).length - 1 := by rw [sideP, List.length_take]; omega
theorem hullS_len (l : List Pn) : (hullS l).length ≤ 2 * l.length := by
 unfold hullS
 split
 ·omega
 ·have h1 := chain_len l
  have h2 := chain_len l.reverse
  rw [List.length_append, side_lnH, side_lnH]
  rw [List.length_reverse] at h2
  omega
theorem hull_len (l : List Pn) : (hullP l).length ≤ 2 * l.length := Nat.le_trans (hullS_len _) (Nat.mul_le_mul_left _ (putAll_len l))
theorem putAll_pos {l : List Pn} (h : 0 < l.length) : 0 < (putAll l).length := by
 obtain ⟨p, hp⟩ := List.exists_mem_of_length_pos h
 exact List.length_pos_of_mem ((putAll_mem l p).2 hp)
/-- The first point of a chain stays. -/
theorem keepN_first {xs : List Pn} {p : Pn} (h : 0 < xs.length) : (pushP xs p).head? = xs.head? := by
 have h1 := keepN_pos xs p xs.length h
 unfold pushP
 match xs, h with
 | q :: xs, _ =>
  obtain ⟨j, hj⟩ : ∃ j, keepN (q :: xs) p (q :: xs).length = j + 1 := ⟨_, (Nat.succ_pred_eq_of_pos h1).symm⟩
  rw [hj]
  rfl
theorem foldl_head (l : List Pn) : ∀ xs : List Pn, 0 < xs.length → (l.foldl pushP xs).head? = xs.head? := by
 induction l with
 | nil => intro xs _; rfl
 | cons p l ih =>
  intro xs h
  rw [List.foldl_cons, ih _ (pushP_len xs p).1, keepN_first h]
theorem chain_head : ∀ l : List Pn, (chainP l).head? = l.head?
 | [] => rfl
 | p :: l => by
  show (l.foldl pushP (pushP [] p)).head? = some p
  rw [foldl_head _ _ (pushP_len [] p).1]
  rfl
theorem chain_last {l : List Pn} (h : 0 < l.length) : (chainP l)[(chainP l).length - 1]? = l[l.length - 1]? := by
 have := chn_step (xs := l) (k := l.length - 1) (by omega)
 rw [show l.length - 1 + 1 = l.length by omega, List.take_length] at this
 rw [this, pushP, List.length_append, List.length_singleton, Nat.add_sub_cancel, List.getElem?_append_right (Nat.le_refl _), Nat.sub_self]
 have h2 : l.length - 1 < l.length := by omega
 rw [List.getElem?_eq_getElem h2, pt_at h2]
 rfl
/-- A chain of two and more different points has two and more points. -/
theorem chain_two {l : List Pn} (h : 2 ≤ l.length) (hne : l[0]? ≠ l[l.length - 1]?) : 2 ≤ (chainP l).length := by
 have h1 := chain_pos (l := l) (by omega)
 have h2 := chain_last (l := l) (by omega)
 have h3 := chain_head l
 rw [List.head?_eq_getElem?, List.head?_eq_getElem?] at h3
 rcases Nat.lt_or_ge 1 (chainP l).length with h4 | h4
 ·exact h4
 ·rw [show (chainP l).length - 1 = 0 by omega, h3] at h2
  exact absurd h2 hne
theorem asc_ends {l : List Pn} (h : Asc l) (h2 : 2 ≤ l.length) : l[0]? ≠ l[l.length - 1]? := by
 intro e
 have := List.pairwise_iff_getElem.1 h 0 (l.length - 1) (by omega) (by omega) (by omega)
 rw [List.getElem?_eq_getElem (by omega), List.getElem?_eq_getElem (by omega)] at e
 injection e with e
 rw [e] at this
 exact ltY_irrefl _ this
/-- A row, shorter. -/
theorem row_take {w : World} {B T m m' c : Nat} {A : Option Addr} {ys : List Pn} (h : w.ownsRow B T 2 (.slice A m c) m ((ys.take m).flatMap ptCells)) (hm : m' ≤ m) (hy : m ≤ ys.length) (h0 : 0 < m) : w.ownsRow 0 T 2 (.slice A m' c) m' ((ys.take m').flatMap ptCells) := by
 refine ⟨by rw [ptCells_len, List.length_take, Nat.min_eq_left (by omega)], ?_⟩
 rcases h.2 with ⟨e, _⟩ | ⟨g, cap, cur, e, hb, hg, hcap, hmax, hsz, htk⟩
 ·omega
 ·injection e with e1 e2 e3
  subst e1 e3
  refine .inr ⟨g, c, cur, rfl, Nat.zero_le _, hg, by omega, hmax, hsz, ?_⟩
  have : cur.toList.take (m' * 2) = (cur.toList.take (m * 2)).take (m' * 2) := by rw [List.take_take, Nat.min_eq_left (by omega)]
  rw [this, htk, take_cells, List.take_take, Nat.min_eq_left hm]
theorem at_rowTake {n : Nat} {env : List (Nat × Value)} {w0 : Bs} {Rs : List Res} {K : Act → World → Prop} (k m' : Nat) {B T m : Nat} {ys : List Pn} {x : Option Addr × Nat} (hk : Rs[k]? = some (rowR B T 2 m ((ys.take m).flatMap ptCells) x)) (hm : m' ≤ m) (hy : m ≤ ys.length) (h0 : 0 < m)
  (h : At n env w0 (Rs.set k (rowR 0 T 2 m' ((ys.take m').flatMap ptCells) x)) K) : At n env w0 Rs K := fun a w hf hs =>
 h a w hf (hs.chg hk (fun hP => row_take hP hm hy h0) (fun c hc => by obtain ⟨A, cc⟩ := x; cases A <;> exact hc) rfl)
/-- A point of a row. -/
theorem rdRowH {w0 : Bs} {Rs : List Res} {k B T m j g c : Nat} {ys : List Pn} (hk : Rs[k]? = some (rowR B T 2 m ((ys.take m).flatMap ptCells) (some ⟨g, 0, none⟩, c))) (hm : m ≤ ys.length) (hj : j < m) :
  ∀ w', St w0 Rs w' → ∀ q v, [Value.int .i64 (px ys j), Value.int .i64 (py ys j)][q]? = some v → w'.cell? ⟨g, 0 + j * 2 + q, none⟩ = some v := fun w' hs q v hv => by
 have hp := ptsRow (hs.all k _ hk).1 (by rw [List.length_take]; omega)
 have e : pt (ys.take m) j = pt ys j := pt_takH hj
 refine rdPts (Rs := []) hp hj w' (St.start w') q v ?_
 rw [show px (ys.take m) j = px ys j from congrArg Prod.fst e, show py (ys.take m) j = py ys j from congrArg Prod.snd e]
 exact hv
theorem rdRow1 {w0 : Bs} {Rs : List Res} {k B T m j g c : Nat} {ys : List Pn} (hk : Rs[k]? = some (rowR B T 2 m (ys.flatMap ptCells) (some ⟨g, 0, none⟩, c))) (hj : j < m) :
  ∀ w', St w0 Rs w' → ∀ q v, [Value.int .i64 (px ys j), Value.int .i64 (py ys j)][q]? = some v → w'.cell? ⟨g, 0 + j * 2 + q, none⟩ = some v := fun w' hs q v hv => by
 have hr : w'.ownsRow B T 2 (.slice (some ⟨g, 0, none⟩) m c) m (ys.flatMap ptCells) := (hs.all k _ hk).1
 have hm : ys.length = m := by have := hr.1; rw [ptCells_len] at this; omega
 exact rdPts (Rs := []) (ptsRow hr hm) hj w' (St.start w') q v hv
theorem push_eq {ys : List Pn} {p : Pn} {m : Nat} (h : keepN ys p m = keepN ys p ys.length) (hs : ¬ (1 < m ∧ tn (pt ys (m - 2)) (pt ys (m - 1)) p ≤ 0)) (hm : m ≤ ys.length) : pushP ys p = ys.take m ++ [p] ∧ (pushP ys p).length = m + 1 := by
 have e : pushP ys p = ys.take m ++ [p] := by rw [pushP, ← h, keepN_stop hs]
 exact ⟨e, by rw [e, List.length_append, List.length_take, List.length_singleton]; omega⟩
theorem half_any (A : Option Addr) (n c : Nat) (xs : List Pn) (w : World) (h : Pts w A n xs) (hx : ∀ p ∈ xs, bdH p) (h0 : 0 < n) (hn : n ≤ 1048576) :
  Calls Try.prog 104 #[.slice A n c] w fun e w' => ∃ v, e = .returned v ∧ w'.ownsRow w.heap.size 103 2 v (sideP xs).length ((sideP xs).flatMap ptCells) ∧ Over w w' := by
 have hl := h.1
 refine walk_from (m := 47) (Try.func104) rfl rfl (Nat.le_of_ble_eq_true rfl) ?_
 refine at_seq ?_
 refine at_region ?_
 refine at_q rfl rfl (by decide) (qt_assign rfl rfl) ?_
 refine at_end ?_
 refine at_seq ?_
 refine at_region ?_
 refine at_q rfl rfl (by decide) (qt_assign rfl rfl) ?_
 refine at_row0 (T := 103) (s := 2) ?_
 refine at_rsE (by simp only [ya,yb,yc,yd,Value.cells,ye]; rfl) ?_
 refine at_end ?_
 refine at_rowB0 0 rfl ?_
 refine at_rsE (by simp only [List.nil_append, List.cons_append, List.set_cons_zero, List.set_cons_succ, List.eraseIdx_cons_zero, List.eraseIdx_cons_succ, Value.cells, List.toList_toArray]; rfl) ?_
 refine at_seq ?_
 refine at_seq ?_
 refine at_region ?_
 refine at_q rfl rfl (by decide) (qt_move rfl rfl) ?_
 refine at_q rfl rfl (by decide) (qt_len rfl rfl tyl_sl_impl_Pt) ?_
 refine at_q rfl rfl (by decide) (qt_move rfl rfl) ?_
 refine at_end ?_
 refine at_block ?_
 refine at_loopc (X := Nat × Option Addr × Nat) (fun x => x.1 ≤ n) (fun x => n - x.1) (fun x => [(3, .slice x.2.1 (chainP (xs.take x.1)).length x.2.2), (8, .int .i64 (x.1 : Int))]) (C := [(2, _), (6, _), (7, _)]) ⟨rfl, rfl, rfl, trivial⟩ (fun x => [rowR 0 103 2 (chainP (xs.take x.1)).length ((chainP (xs.take x.1)).flatMap ptCells) x.2]) (0, none, 0) (Nat.zero_le _) ⟨rfl, rfl, rfl, rfl, rfl, trivial⟩ (fun _ h => h) ?_
 intro ⟨k, rA, rc⟩ hk L hL1
 refine at_envE (by simp only [ya,yb]; rfl) ?_
 refine at_rsE (by first | (dsimp only; done) | (dsimp only; rfl) | rfl) ?_
 have hk : k ≤ n := hk
 refine at_seq ?_
 refine at_region ?_
 refine at_q rfl rfl (by decide) (qt_lss rfl rfl rfl) ?_
 refine at_end ?_
 refine at_seq ?_
 refine at_cond rfl (fun c1 => ?_) (fun c1 => ?_)
 ·try simp only [za,zb,zc,zd,ze,zf,Bool.not_true,Bool.not_false,zg,zh,ne_eq,zi,zj] at c1
  have hlt : k < n := (by omega)
  obtain ⟨eb, eo, rfl, _⟩ := h.2 (by omega)
  have hcl := chain_take_len (xs := xs) (k := k) (by omega)
  have hst := chn_step (xs := xs) (k := k) (by omega)
  have hbp := hx _ (pt_mem (show k < xs.length by omega))
  have hbq : ∀ j, j < (chainP (xs.take k)).length → bdH (pt (chainP (xs.take k)) j) := fun j hj => hx _ (chain_take_mem (pt_mem hj))
  generalize chainP (xs.take k) = ys at hcl hst hbq ⊢
  refine at_skip ?_
  refine norm_then ?_
  refine at_seq ?_
  refine at_block ?_
  refine at_seq ?_
  refine at_region ?_
  refine at_q rfl rfl (by decide) (qt_index rfl rfl rfl tyl_sl_impl_Pt (by omega)) ?_
  refine at_q rfl rfl (by decide) (qt_loadS rfl rfl tys_impl_Pt rfl (rdPts h hlt)) ?_
  refine at_op rfl ?_
  refine op_alloc rfl tyz_impl_Pt rfl (by decide) (fun b1 => ?_)
  refine at_rsE (by simp only [ya,yb,yc,yd,Value.cells,ye]; rfl) ?_
  refine at_op rfl ?_
  refine op_storeAll' (k := 1) rfl rfl rfl rfl (rfl) (by rfl) tyz_impl_Pt.szx rfl rfl rfl ?_
  refine at_rsE (by simp only [ya,yb,yc,yd,Value.cells,ye]; rfl) ?_
  refine at_end ?_
  refine at_seq ?_
  refine at_block ?_
  refine at_loopc (X := Nat) (fun m => m ≤ ys.length ∧ keepN ys (pt xs k) m = keepN ys (pt xs k) ys.length) (fun m => m) (fun m => [(3, .slice rA m rc)]) (C := [(2, _), (6, _), (7, _), (8, _), (9, _), (10, _), (11, _), (5, _)]) ⟨rfl, rfl, rfl, rfl, rfl, rfl, rfl, rfl, trivial⟩ (fun m => [rowR 0 103 2 m ((ys.take m).flatMap ptCells) (rA, rc), .cel b1 103 [.int .i64 (px xs k), .int .i64 (py xs k)]]) ys.length (⟨Nat.le_refl _, rfl⟩) ⟨rfl, rfl, rfl, rfl, rfl, rfl, rfl, rfl, rfl, trivial⟩ (fun _ h => h.upto ⟨by rw [List.take_length], rfl, trivial⟩) ?_
  intro m hm L hL2
  refine at_envE (by simp only [ya,yb]; rfl) ?_
  refine at_rsE (by first | (dsimp only; done) | (dsimp only; rfl) | rfl) ?_
  refine at_seq ?_
  refine at_cutE [(31, .bool (decide (1 < m ∧ tn (pt ys (m - 2)) (pt ys (m - 1)) (pt xs k) ≤ 0)))] (C := [(2, _), (6, _), (7, _), (8, _), (9, _), (10, _), (11, _), (5, _), (3, _)])  ⟨rfl, rfl, rfl, rfl, rfl, rfl, rfl, rfl, rfl, trivial⟩ (fun L hC_cut_5 => ?_) ?_
  ·refine dg_start mixed rfl ?_
   refine dg_phase 20 ?_
   refine dg_q (i := 0) rfl (by kernel_rfl) (by kernel_rfl) (by kernel_rfl) [] (by kernel_rfl) (fun _ _ _ h => h) rfl rfl (by decide) (fun _ h => h.upto ⟨rfl, rfl, trivial⟩) (qt_move rfl rfl) ?_
   refine dg_q (i := 1) rfl (by kernel_rfl) (by kernel_rfl) (by kernel_rfl) [] (by kernel_rfl) (fun _ _ _ h => h) rfl rfl (by decide) (fun _ h => h.upto ⟨rfl, rfl, trivial⟩) (qt_len rfl rfl tyl_sl_impl_Pt) ?_
   refine dg_q (i := 2) rfl (by kernel_rfl) (by kernel_rfl) (by kernel_rfl) [] (by kernel_rfl) (fun _ _ _ h => h) rfl rfl (by decide) (fun _ h => h.upto ⟨rfl, rfl, trivial⟩) (qt_gtr rfl rfl rfl) ?_
   refine dg_q (i := 3) rfl (by kernel_rfl) (by kernel_rfl) (by kernel_rfl) [] (by kernel_rfl) (fun _ _ _ h => h) rfl rfl (by decide) (fun _ h => h.upto ⟨rfl, rfl, trivial⟩) (qt_move rfl rfl) ?_
   refine at_bsplit 15 rfl (fun g1 => ?_) (fun g1 => ?_)
   ·try simp only [za,zb,zc,zd,ze,zf,Bool.not_true,Bool.not_false,zg,zh,ne_eq,zi,zj] at g1
    have hm1 : 1 < m := (by omega)
    refine at_fact (fun w hs => rowSome (k := 0) rfl hs (by omega)) ?_
    rintro ⟨eg, rfl⟩
    refine dg_qg (i := 4) rfl (by kernel_rfl) (by kernel_rfl) (by kernel_rfl) [] (by kernel_rfl) (fun _ _ _ h => h) rfl rfl rfl rfl rfl (by decide) (fun _ h => h.upto ⟨rfl, rfl, trivial⟩) (qt_move rfl rfl) ?_
    refine dg_qg (i := 5) rfl (by kernel_rfl) (by kernel_rfl) (by kernel_rfl) [] (by kernel_rfl) (fun _ _ _ h => h) rfl rfl rfl rfl rfl (by decide) (fun _ h => h.upto ⟨rfl, rfl, trivial⟩) (qt_move rfl rfl) ?_
    refine dg_qg (i := 6) rfl (by kernel_rfl) (by kernel_rfl) (by kernel_rfl) [] (by kernel_rfl) (fun _ _ _ h => h) rfl rfl rfl rfl rfl (by decide) (fun _ h => h.upto ⟨rfl, rfl, trivial⟩) (qt_len rfl rfl tyl_sl_impl_Pt) ?_
    refine dg_qg (i := 7) rfl (by kernel_rfl) (by kernel_rfl) (by kernel_rfl) [] (by kernel_rfl) (fun _ _ _ h => h) rfl rfl rfl rfl rfl (by decide) (fun _ h => h.upto ⟨rfl, rfl, trivial⟩) ((qt_sub rfl rfl rfl (by omega) (by omega)).as (congrArg _ (show ((m : Int) - 2) = ((m - 2 : Nat) : Int) by omega))) ?_
    refine dg_qg (i := 8) rfl (by kernel_rfl) (by kernel_rfl) (by kernel_rfl) [] (by kernel_rfl) (fun _ _ _ h => h) rfl rfl rfl rfl rfl (by decide) (fun _ h => h.upto ⟨rfl, rfl, trivial⟩) (qt_index rfl rfl rfl tyl_sl_impl_Pt (by omega)) ?_
    refine dg_qg (i := 9) rfl (by kernel_rfl) (by kernel_rfl) (by kernel_rfl) [] (by kernel_rfl) (fun _ _ _ h => h) rfl rfl rfl rfl rfl (by decide) (fun _ h => h.upto ⟨rfl, rfl, trivial⟩) (qt_loadS rfl rfl tys_impl_Pt rfl (rdRowH (k := 0) rfl hm.1 (by omega))) ?_
    refine dg_qg (i := 10) rfl (by kernel_rfl) (by kernel_rfl) (by kernel_rfl) [] (by kernel_rfl) (fun _ _ _ h => h) rfl rfl rfl rfl rfl (by decide) (fun _ h => h.upto ⟨rfl, rfl, trivial⟩) (qt_move rfl rfl) ?_
    refine dg_qg (i := 11) rfl (by kernel_rfl) (by kernel_rfl) (by kernel_rfl) [] (by kernel_rfl) (fun _ _ _ h => h) rfl rfl rfl rfl rfl (by decide) (fun _ h => h.upto ⟨rfl, rfl, trivial⟩) (qt_move rfl rfl) ?_
    refine dg_qg (i := 12) rfl (by kernel_rfl) (by kernel_rfl) (by kernel_rfl) [] (by kernel_rfl) (fun _ _ _ h => h) rfl rfl rfl rfl rfl (by decide) (fun _ h => h.upto ⟨rfl, rfl, trivial⟩) (qt_len rfl rfl tyl_sl_impl_Pt) ?_
    refine dg_qg (i := 13) rfl (by kernel_rfl) (by kernel_rfl) (by kernel_rfl) [] (by kernel_rfl) (fun _ _ _ h => h) rfl rfl rfl rfl rfl (by decide) (fun _ h => h.upto ⟨rfl, rfl, trivial⟩) ((qt_sub rfl rfl rfl (by omega) (by omega)).as (congrArg _ (show ((m : Int) - 1) = ((m - 1 : Nat) : Int) by omega))) ?_
    refine dg_qg (i := 14) rfl (by kernel_rfl) (by kernel_rfl) (by kernel_rfl) [] (by kernel_rfl) (fun _ _ _ h => h) rfl rfl rfl rfl rfl (by decide) (fun _ h => h.upto ⟨rfl, rfl, trivial⟩) (qt_index rfl rfl rfl tyl_sl_impl_Pt (by omega)) ?_
    refine dg_qg (i := 15) rfl (by kernel_rfl) (by kernel_rfl) (by kernel_rfl) [] (by kernel_rfl) (fun _ _ _ h => h) rfl rfl rfl rfl rfl (by decide) (fun _ h => h.upto ⟨rfl, rfl, trivial⟩) (qt_loadS rfl rfl tys_impl_Pt rfl (rdRowH (k := 0) rfl hm.1 (by omega))) ?_
    refine dg_qg (i := 16) rfl (by kernel_rfl) (by kernel_rfl) (by kernel_rfl) [] (by kernel_rfl) (fun _ _ _ h => h) rfl rfl rfl rfl rfl (by decide) (fun _ h => h.upto ⟨rfl, rfl, trivial⟩) (qt_loadS rfl rfl tys_impl_Pt rfl (rdAll (k := 1) rfl)) ?_
    refine dg_qg (i := 17) rfl (by kernel_rfl) (by kernel_rfl) (by kernel_rfl) [] (by kernel_rfl) (fun _ _ _ h => h) rfl rfl rfl rfl rfl (by decide) (fun _ h => h.upto ⟨rfl, rfl, trivial⟩) (qt_call ok_impl_turn rfl rfl (fun w _ => turn_h (pt ys (m - 2)) (pt ys (m - 1)) (pt xs k) w (hbq _ (by omega)) (hbq _ (by omega)) hbp)) ?_
    refine dg_qg (i := 18) rfl (by kernel_rfl) (by kernel_rfl) (by kernel_rfl) [] (by kernel_rfl) (fun _ _ _ h => h) rfl rfl rfl rfl rfl (by decide) (fun _ h => h.upto ⟨rfl, rfl, trivial⟩) (qt_leq rfl rfl rfl) ?_
    refine dg_q (i := 19) rfl (by kernel_rfl) (by kernel_rfl) (by kernel_rfl) [] (by kernel_rfl) (fun _ _ _ h => h) rfl rfl (by decide) (fun _ h => h.upto ⟨rfl, rfl, trivial⟩) (qt_pickT rfl rfl rfl) ?_
    refine dg_done (by kernel_rfl) ?_
    refine norm_then ?_
    exact at_meet hC_cut_5 ⟨vb (by simp; omega), rfl, rfl, rfl, rfl, rfl, rfl, rfl, rfl, rfl, trivial⟩ (fun _ h => h.upto ⟨rfl, rfl, trivial⟩)
   ·try simp only [za,zb,zc,zd,ze,zf,Bool.not_true,Bool.not_false,zg,zh,ne_eq,zi,zj] at g1
    refine dg_off (i := 4) rfl (by kernel_rfl) (by kernel_rfl) (by kernel_rfl) [] (by kernel_rfl) (fun _ _ _ h => h) rfl rfl rfl rfl (by decide) rfl (by decide) (fun _ h => h.upto ⟨rfl, rfl, trivial⟩) ?_
    refine dg_off (i := 5) rfl (by kernel_rfl) (by kernel_rfl) (by kernel_rfl) [] (by kernel_rfl) (fun _ _ _ h => h) rfl rfl rfl rfl (by decide) rfl (by decide) (fun _ h => h.upto ⟨rfl, rfl, trivial⟩) ?_
    refine dg_off (i := 6) rfl (by kernel_rfl) (by kernel_rfl) (by kernel_rfl) [] (by kernel_rfl) (fun _ _ _ h => h) rfl rfl rfl rfl (by decide) rfl (by decide) (fun _ h => h.upto ⟨rfl, rfl, trivial⟩) ?_
    refine dg_off (i := 7) rfl (by kernel_rfl) (by kernel_rfl) (by kernel_rfl) [] (by kernel_rfl) (fun _ _ _ h => h) rfl rfl rfl rfl (by decide) rfl (by decide) (fun _ h => h.upto ⟨rfl, rfl, trivial⟩) ?_
    refine dg_off (i := 8) rfl (by kernel_rfl) (by kernel_rfl) (by kernel_rfl) [] (by kernel_rfl) (fun _ _ _ h => h) rfl rfl rfl rfl (by decide) rfl (by decide) (fun _ h => h.upto ⟨rfl, rfl, trivial⟩) ?_
    refine dg_off (i := 9) rfl (by kernel_rfl) (by kernel_rfl) (by kernel_rfl) [] (by kernel_rfl) (fun _ _ _ h => h) rfl rfl rfl rfl (by decide) rfl (by decide) (fun _ h => h.upto ⟨rfl, rfl, trivial⟩) ?_
    refine dg_off (i := 10) rfl (by kernel_rfl) (by kernel_rfl) (by kernel_rfl) [] (by kernel_rfl) (fun _ _ _ h => h) rfl rfl rfl rfl (by decide) rfl (by decide) (fun _ h => h.upto ⟨rfl, rfl, trivial⟩) ?_
    refine dg_off (i := 11) rfl (by kernel_rfl) (by kernel_rfl) (by kernel_rfl) [] (by kernel_rfl) (fun _ _ _ h => h) rfl rfl rfl rfl (by decide) rfl (by decide) (fun _ h => h.upto ⟨rfl, rfl, trivial⟩) ?_
    refine dg_off (i := 12) rfl (by kernel_rfl) (by kernel_rfl) (by kernel_rfl) [] (by kernel_rfl) (fun _ _ _ h => h) rfl rfl rfl rfl (by decide) rfl (by decide) (fun _ h => h.upto ⟨rfl, rfl, trivial⟩) ?_
    refine dg_off (i := 13) rfl (by kernel_rfl) (by kernel_rfl) (by kernel_rfl) [] (by kernel_rfl) (fun _ _ _ h => h) rfl rfl rfl rfl (by decide) rfl (by decide) (fun _ h => h.upto ⟨rfl, rfl, trivial⟩) ?_
    refine dg_off (i := 14) rfl (by kernel_rfl) (by kernel_rfl) (by kernel_rfl) [] (by kernel_rfl) (fun _ _ _ h => h) rfl rfl rfl rfl (by decide) rfl (by decide) (fun _ h => h.upto ⟨rfl, rfl, trivial⟩) ?_
    refine dg_off (i := 15) rfl (by kernel_rfl) (by kernel_rfl) (by kernel_rfl) [] (by kernel_rfl) (fun _ _ _ h => h) rfl rfl rfl rfl (by decide) rfl (by decide) (fun _ h => h.upto ⟨rfl, rfl, trivial⟩) ?_
    refine dg_off (i := 16) rfl (by kernel_rfl) (by kernel_rfl) (by kernel_rfl) [] (by kernel_rfl) (fun _ _ _ h => h) rfl rfl rfl rfl (by decide) rfl (by decide) (fun _ h => h.upto ⟨rfl, rfl, trivial⟩) ?_
    refine dg_off (i := 17) rfl (by kernel_rfl) (by kernel_rfl) (by kernel_rfl) [] (by kernel_rfl) (fun _ _ _ h => h) rfl rfl rfl rfl (by decide) rfl (by decide) (fun _ h => h.upto ⟨rfl, rfl, trivial⟩) ?_
    refine dg_off (i := 18) rfl (by kernel_rfl) (by kernel_rfl) (by kernel_rfl) [] (by kernel_rfl) (fun _ _ _ h => h) rfl rfl rfl rfl (by decide) rfl (by decide) (fun _ h => h.upto ⟨rfl, rfl, trivial⟩) ?_
    refine dg_q (i := 19) rfl (by kernel_rfl) (by kernel_rfl) (by kernel_rfl) [] (by kernel_rfl) (fun _ _ _ h => h) rfl rfl (by decide) (fun _ h => h.upto ⟨rfl, rfl, trivial⟩) (qt_pickF rfl rfl rfl) ?_
    refine dg_done (by kernel_rfl) ?_
    refine norm_then ?_
    exact at_meet hC_cut_5 ⟨vb (by simp; omega), rfl, rfl, rfl, rfl, rfl, rfl, rfl, rfl, rfl, trivial⟩ (fun _ h => h.upto ⟨rfl, rfl, trivial⟩)
  ·refine at_envE (by simp only [ya,yb]; rfl) ?_
   refine at_cond rfl (fun c2 => ?_) (fun c2 => ?_)
   ·try simp only [za,zb,zc,zd,ze,zf,Bool.not_true,Bool.not_false,zg,zh,ne_eq,zi,zj] at c2
    have hm1 : 1 < m := (by omega)
    refine at_fact (fun w hs => rowSome (k := 0) rfl hs (by omega)) ?_
    rintro ⟨eg, rfl⟩
    refine at_fact (fun w hs => rowCap (hs.all 0 _ rfl).1) ?_
    intro hcap
    refine at_skip ?_
    refine norm_then ?_
    refine at_block ?_
    refine at_region ?_
    refine at_q rfl rfl (by decide) (qt_move rfl rfl) ?_
    refine at_q rfl rfl (by decide) (qt_move rfl rfl) ?_
    refine at_q rfl rfl (by decide) (qt_len rfl rfl tyl_sl_impl_Pt) ?_
    refine at_q rfl rfl (by decide) ((qt_sub rfl rfl rfl (by omega) (by omega)).as (congrArg _ (show ((m : Int) - 1) = ((m - 1 : Nat) : Int) by omega))) ?_
    refine at_q rfl rfl (by decide) ((qt_sliceH rfl rfl rfl tyl_sl_impl_Pt (by omega)).as (slicedH _ _ _ _ _)) ?_
    refine at_q rfl rfl (by decide) (qt_assign rfl rfl) ?_
    refine at_nil ?_
    refine at_rowTake 0 (m - 1) rfl (by omega) hm.1 (by omega) ?_
    refine at_rsE (by simp only [List.nil_append, List.cons_append, List.set_cons_zero, List.set_cons_succ, List.eraseIdx_cons_zero, List.eraseIdx_cons_succ, Value.cells, List.toList_toArray]; rfl) ?_
    refine norm_block ?_
    refine norm_then ?_
    exact at_againc hL2 (m - 1) (⟨by omega, (keepN_more c2).trans hm.2⟩) (by omega) ⟨rfl, rfl, rfl, rfl, rfl, rfl, rfl, rfl, rfl, trivial⟩ (fun _ h => h.upto ⟨rfl, rfl, trivial⟩)
   ·try simp only [za,zb,zc,zd,ze,zf,Bool.not_true,Bool.not_false,zg,zh,ne_eq,zi,zj] at c2
    obtain ⟨he, hel⟩ := push_eq hm.2 c2 hm.1
    refine at_exit ?_
    refine pass_then (fun h => by cases h) ?_
    refine pass_then (fun h => by cases h) ?_
    refine pass_hit ?_
    refine norm_then ?_
    refine at_region ?_
    refine at_q rfl rfl (by decide) (qt_move rfl rfl) ?_
    refine at_q rfl rfl (by decide) (qt_loadS rfl rfl tys_impl_Pt rfl (rdAll (k := 1) rfl)) ?_
    refine at_op rfl ?_
    refine op_buildSlice rfl rfl (bsl_sl_impl_Pt_1_0 rfl) rfl (by decide) (fun b2 => ?_)
    refine at_rsE (by simp only [ya,yb,yc,yd,Value.cells,ye]; rfl) ?_
    refine at_op rfl ?_
    refine op_appendR (k := 0) rfl tyl_sl_impl_Pt tyz_impl_Pt (by decide) rfl (by decide) rfl rfl rfl (fun w' hs => src_cel hs (k := 2) rfl rfl) (by simp [Value.oneCell']) (by unfold maxLen; omega) (by omega) (Nat.zero_le _) (fun r1 => ?_)
    refine at_rsE (by simp only [ya,yb,yc,yd,Value.cells,ye]; rfl) ?_
    refine at_q rfl rfl (by decide) (qt_assign rfl rfl) ?_
    refine at_nil ?_
    refine norm_block ?_
    refine norm_then ?_
    refine at_region ?_
    refine at_q rfl rfl (by decide) (qt_add rfl rfl rfl (by omega) (by omega)) ?_
    refine at_q rfl rfl (by decide) (qt_move rfl rfl) ?_
    refine at_end ?_
    exact at_againc hL1 ((k + 1, r1)) ((show k + 1 ≤ n by omega)) (by simp only; omega) ⟨(by rw [hst, hel]; rfl), vi (by omega), rfl, rfl, rfl, trivial⟩ (fun _ h => h.upto ⟨by rw [hst, hel, he, List.flatMap_append]; rfl, trivial⟩)
 ·try simp only [za,zb,zc,zd,ze,zf,Bool.not_true,Bool.not_false,zg,zh,ne_eq,zi,zj] at c1
  have hkn : k = n := (by omega)
  subst hkn
  have htk : xs.take k = xs := List.take_of_length_le (by omega)
  rw [htk]
  have hcp := chain_pos (l := xs) (by omega)
  have hcl := chain_len xs
  refine at_fact (fun w hs => rowSome (k := 0) rfl hs hcp) ?_
  rintro ⟨eg, rfl⟩
  refine at_fact (fun w hs => rowCap (hs.all 0 _ rfl).1) ?_
  intro hcap
  have htl : (chainP xs).take (chainP xs).length = chainP xs := List.take_length
  refine at_exit ?_
  refine pass_then (fun h => by cases h) ?_
  refine pass_then (fun h => by cases h) ?_
  refine pass_hit ?_
  refine norm_then ?_
  refine at_seq ?_
  refine at_region ?_
  refine at_q rfl rfl (by decide) (qt_move rfl rfl) ?_
  refine at_q rfl rfl (by decide) (qt_move rfl rfl) ?_
  refine at_q rfl rfl (by decide) (qt_len rfl rfl tyl_sl_impl_Pt) ?_
  refine at_q rfl rfl (by decide) ((qt_sub rfl rfl rfl (by omega) (by omega)).as (congrArg _ (show (((chainP xs).length : Int) - 1) = (((chainP xs).length - 1 : Nat) : Int) by omega))) ?_
  refine at_q rfl rfl (by decide) ((qt_sliceH rfl rfl rfl tyl_sl_impl_Pt (by omega)).as (slicedH _ _ _ _ _)) ?_
  refine at_q rfl rfl (by decide) (qt_assign rfl rfl) ?_
  refine at_end ?_
  refine at_retc ?_
  refine at_ret1 rfl (.tmp rfl) ?_
  intro w' hs
  have hr := hs.all 0 _ rfl
  have hr1 : w'.ownsRow 0 103 2 (.slice (some ⟨eg, 0, none⟩) (chainP xs).length rc) (chainP xs).length (((chainP xs).take (chainP xs).length).flatMap ptCells) := by rw [htl]; exact hr.1
  have hr2 := row_take (m' := (chainP xs).length - 1) hr1 (by omega) (Nat.le_refl _) hcp
  exact ⟨_, rfl, by rw [side_lnH]; exact row_from hr2 (fun b hb => (hr.2.1 b hb).elim id (fun h => by cases h)), hs.fin⟩
theorem l11Chain_any (A : Option Addr) (n c : Nat) (xs : List Pn) (w : World) (h : Pts w A n xs) (hx : ∀ p ∈ xs, bdH p) (hn : n ≤ 1048576) :
  Calls Try.prog 89 #[.slice A n c] w fun e w' => ∃ v, e = .returned v ∧ w'.ownsRow w.heap.size 103 2 v (chainP xs).length ((chainP xs).flatMap ptCells) ∧ Over w w' := by
 have hl := h.1
 refine walk_from (m := 48) (Try.func89) rfl rfl (Nat.le_of_ble_eq_true rfl) ?_
 refine at_seq ?_
 refine at_region ?_
 refine at_q rfl rfl (by decide) (qt_assign rfl rfl) ?_
 refine at_end ?_
 refine at_seq ?_
 refine at_region ?_
 refine at_op rfl ?_
 refine op_buildSlice rfl rfl (bsl_sl_impl_Pt_0) rfl (by decide) (fun b1 => ?_)
 refine at_rowN 0 2 rfl rfl ?_
 refine at_rsE (by simp only [ya,yb,yc,yd,Value.cells,ye]; rfl) ?_
 refine at_q rfl rfl (by decide) (qt_assign rfl rfl) ?_
 refine at_end ?_
 refine at_rowB0 0 rfl ?_
 refine at_rsE (by simp only [List.nil_append, List.cons_append, List.set_cons_zero, List.set_cons_succ, List.eraseIdx_cons_zero, List.eraseIdx_cons_succ, Value.cells, List.toList_toArray]; rfl) ?_
 refine at_seq ?_
 refine at_seq ?_
 refine at_region ?_
 refine at_q rfl rfl (by decide) (qt_assign rfl rfl) ?_
 refine at_end ?_
 refine at_block ?_
 refine at_loopc (X := Nat × Option Addr × Nat) (fun x => x.1 ≤ n) (fun x => n - x.1) (fun x => [(3, .slice x.2.1 (chainP (xs.take x.1)).length x.2.2), (4, .int .i64 (x.1 : Int))]) (C := [(0, _), (2, _)]) ⟨rfl, rfl, trivial⟩ (fun x => [rowR 0 103 2 (chainP (xs.take x.1)).length ((chainP (xs.take x.1)).flatMap ptCells) x.2]) (0, some ⟨b1, 0, none⟩, 0) (Nat.zero_le _) ⟨rfl, rfl, rfl, rfl, trivial⟩ (fun _ h => h) ?_
 intro ⟨k, rA, rc⟩ hk L hL1
 refine at_envE (by simp only [ya,yb]; rfl) ?_
 refine at_rsE (by first | (dsimp only; done) | (dsimp only; rfl) | rfl) ?_
 have hk : k ≤ n := hk
 refine at_seq ?_
 refine at_seq ?_
 refine at_region ?_
 refine at_q rfl rfl (by decide) (qt_move rfl rfl) ?_
 refine at_q rfl rfl (by decide) (qt_move rfl rfl) ?_
 refine at_q rfl rfl (by decide) (qt_len rfl rfl tyl_sl_impl_Pt) ?_
 refine at_q rfl rfl (by decide) (qt_lss rfl rfl rfl) ?_
 refine at_end ?_
 refine at_cond rfl (fun c1 => ?_) (fun c1 => ?_)
 ·try simp only [za,zb,zc,zd,ze,zf,Bool.not_true,Bool.not_false,zg,zh,ne_eq,zi,zj] at c1
  have hlt : k < n := (by omega)
  obtain ⟨eb, eo, rfl, _⟩ := h.2 (by omega)
  have hcl := chain_take_len (xs := xs) (k := k) (by omega)
  have hst := chn_step (xs := xs) (k := k) (by omega)
  have hbp := hx _ (pt_mem (show k < xs.length by omega))
  have hbq : ∀ j, j < (chainP (xs.take k)).length → bdH (pt (chainP (xs.take k)) j) := fun j hj => hx _ (chain_take_mem (pt_mem hj))
  generalize chainP (xs.take k) = ys at hcl hst hbq ⊢
  refine at_skip ?_
  refine norm_then ?_
  refine at_seq ?_
  refine at_block ?_
  refine at_seq ?_
  refine at_block ?_
  refine at_loopc (X := Nat) (fun m => m ≤ ys.length ∧ keepN ys (pt xs k) m = keepN ys (pt xs k) ys.length) (fun m => m) (fun m => [(3, .slice rA m rc)]) (C := [(0, _), (2, _), (4, _), (6, _), (7, _), (8, _), (9, _)]) ⟨rfl, rfl, rfl, rfl, rfl, rfl, rfl, trivial⟩ (fun m => [rowR 0 103 2 m ((ys.take m).flatMap ptCells) (rA, rc)]) ys.length (⟨Nat.le_refl _, rfl⟩) ⟨rfl, rfl, rfl, rfl, rfl, rfl, rfl, rfl, trivial⟩ (fun _ h => h.upto ⟨by rw [List.take_length], trivial⟩) ?_
  intro m hm L hL2
  refine at_envE (by simp only [ya,yb]; rfl) ?_
  refine at_rsE (by first | (dsimp only; done) | (dsimp only; rfl) | rfl) ?_
  refine at_seq ?_
  refine at_cutE [(34, .bool (decide (1 < m ∧ tn (pt ys (m - 2)) (pt ys (m - 1)) (pt xs k) ≤ 0)))] (C := [(0, _), (2, _), (4, _), (6, _), (7, _), (8, _), (9, _), (3, _)])  ⟨rfl, rfl, rfl, rfl, rfl, rfl, rfl, rfl, trivial⟩ (fun L hC_cut_5 => ?_) ?_
  ·refine dg_start mixed rfl ?_
   refine dg_phase 23 ?_
   refine dg_q (i := 0) rfl (by kernel_rfl) (by kernel_rfl) (by kernel_rfl) [] (by kernel_rfl) (fun _ _ _ h => h) rfl rfl (by decide) (fun _ h => h.upto ⟨rfl, trivial⟩) (qt_move rfl rfl) ?_
   refine dg_q (i := 1) rfl (by kernel_rfl) (by kernel_rfl) (by kernel_rfl) [] (by kernel_rfl) (fun _ _ _ h => h) rfl rfl (by decide) (fun _ h => h.upto ⟨rfl, trivial⟩) (qt_len rfl rfl tyl_sl_impl_Pt) ?_
   refine dg_q (i := 2) rfl (by kernel_rfl) (by kernel_rfl) (by kernel_rfl) [] (by kernel_rfl) (fun _ _ _ h => h) rfl rfl (by decide) (fun _ h => h.upto ⟨rfl, trivial⟩) (qt_gtr rfl rfl rfl) ?_
   refine dg_q (i := 3) rfl (by kernel_rfl) (by kernel_rfl) (by kernel_rfl) [] (by kernel_rfl) (fun _ _ _ h => h) rfl rfl (by decide) (fun _ h => h.upto ⟨rfl, trivial⟩) (qt_move rfl rfl) ?_
   refine at_bsplit 15 rfl (fun g1 => ?_) (fun g1 => ?_)
   ·try simp only [za,zb,zc,zd,ze,zf,Bool.not_true,Bool.not_false,zg,zh,ne_eq,zi,zj] at g1
    have hm1 : 1 < m := (by omega)
    refine at_fact (fun w hs => rowSome (k := 0) rfl hs (by omega)) ?_
    rintro ⟨eg, rfl⟩
    refine dg_qg (i := 4) rfl (by kernel_rfl) (by kernel_rfl) (by kernel_rfl) [] (by kernel_rfl) (fun _ _ _ h => h) rfl rfl rfl rfl rfl (by decide) (fun _ h => h.upto ⟨rfl, trivial⟩) (qt_move rfl rfl) ?_
    refine dg_qg (i := 5) rfl (by kernel_rfl) (by kernel_rfl) (by kernel_rfl) [] (by kernel_rfl) (fun _ _ _ h => h) rfl rfl rfl rfl rfl (by decide) (fun _ h => h.upto ⟨rfl, trivial⟩) (qt_move rfl rfl) ?_
    refine dg_qg (i := 6) rfl (by kernel_rfl) (by kernel_rfl) (by kernel_rfl) [] (by kernel_rfl) (fun _ _ _ h => h) rfl rfl rfl rfl rfl (by decide) (fun _ h => h.upto ⟨rfl, trivial⟩) (qt_len rfl rfl tyl_sl_impl_Pt) ?_
    refine dg_qg (i := 7) rfl (by kernel_rfl) (by kernel_rfl) (by kernel_rfl) [] (by kernel_rfl) (fun _ _ _ h => h) rfl rfl rfl rfl rfl (by decide) (fun _ h => h.upto ⟨rfl, trivial⟩) ((qt_sub rfl rfl rfl (by omega) (by omega)).as (congrArg _ (show ((m : Int) - 2) = ((m - 2 : Nat) : Int) by omega))) ?_
    refine dg_qg (i := 8) rfl (by kernel_rfl) (by kernel_rfl) (by kernel_rfl) [] (by kernel_rfl) (fun _ _ _ h => h) rfl rfl rfl rfl rfl (by decide) (fun _ h => h.upto ⟨rfl, trivial⟩) (qt_index rfl rfl rfl tyl_sl_impl_Pt (by omega)) ?_
    refine dg_qg (i := 9) rfl (by kernel_rfl) (by kernel_rfl) (by kernel_rfl) [] (by kernel_rfl) (fun _ _ _ h => h) rfl rfl rfl rfl rfl (by decide) (fun _ h => h.upto ⟨rfl, trivial⟩) (qt_loadS rfl rfl tys_impl_Pt rfl (rdRowH (k := 0) rfl hm.1 (by omega))) ?_
    refine dg_qg (i := 10) rfl (by kernel_rfl) (by kernel_rfl) (by kernel_rfl) [] (by kernel_rfl) (fun _ _ _ h => h) rfl rfl rfl rfl rfl (by decide) (fun _ h => h.upto ⟨rfl, trivial⟩) (qt_move rfl rfl) ?_
    refine dg_qg (i := 11) rfl (by kernel_rfl) (by kernel_rfl) (by kernel_rfl) [] (by kernel_rfl) (fun _ _ _ h => h) rfl rfl rfl rfl rfl (by decide) (fun _ h => h.upto ⟨rfl, trivial⟩) (qt_move rfl rfl) ?_
    refine dg_qg (i := 12) rfl (by kernel_rfl) (by kernel_rfl) (by kernel_rfl) [] (by kernel_rfl) (fun _ _ _ h => h) rfl rfl rfl rfl rfl (by decide) (fun _ h => h.upto ⟨rfl, trivial⟩) (qt_len rfl rfl tyl_sl_impl_Pt) ?_
    refine dg_qg (i := 13) rfl (by kernel_rfl) (by kernel_rfl) (by kernel_rfl) [] (by kernel_rfl) (fun _ _ _ h => h) rfl rfl rfl rfl rfl (by decide) (fun _ h => h.upto ⟨rfl, trivial⟩) ((qt_sub rfl rfl rfl (by omega) (by omega)).as (congrArg _ (show ((m : Int) - 1) = ((m - 1 : Nat) : Int) by omega))) ?_
    refine dg_qg (i := 14) rfl (by kernel_rfl) (by kernel_rfl) (by kernel_rfl) [] (by kernel_rfl) (fun _ _ _ h => h) rfl rfl rfl rfl rfl (by decide) (fun _ h => h.upto ⟨rfl, trivial⟩) (qt_index rfl rfl rfl tyl_sl_impl_Pt (by omega)) ?_
    refine dg_qg (i := 15) rfl (by kernel_rfl) (by kernel_rfl) (by kernel_rfl) [] (by kernel_rfl) (fun _ _ _ h => h) rfl rfl rfl rfl rfl (by decide) (fun _ h => h.upto ⟨rfl, trivial⟩) (qt_loadS rfl rfl tys_impl_Pt rfl (rdRowH (k := 0) rfl hm.1 (by omega))) ?_
    refine dg_qg (i := 16) rfl (by kernel_rfl) (by kernel_rfl) (by kernel_rfl) [] (by kernel_rfl) (fun _ _ _ h => h) rfl rfl rfl rfl rfl (by decide) (fun _ h => h.upto ⟨rfl, trivial⟩) (qt_move rfl rfl) ?_
    refine dg_qg (i := 17) rfl (by kernel_rfl) (by kernel_rfl) (by kernel_rfl) [] (by kernel_rfl) (fun _ _ _ h => h) rfl rfl rfl rfl rfl (by decide) (fun _ h => h.upto ⟨rfl, trivial⟩) (qt_move rfl rfl) ?_
    refine dg_qg (i := 18) rfl (by kernel_rfl) (by kernel_rfl) (by kernel_rfl) [] (by kernel_rfl) (fun _ _ _ h => h) rfl rfl rfl rfl rfl (by decide) (fun _ h => h.upto ⟨rfl, trivial⟩) (qt_index rfl rfl rfl tyl_sl_impl_Pt (by omega)) ?_
    refine dg_qg (i := 19) rfl (by kernel_rfl) (by kernel_rfl) (by kernel_rfl) [] (by kernel_rfl) (fun _ _ _ h => h) rfl rfl rfl rfl rfl (by decide) (fun _ h => h.upto ⟨rfl, trivial⟩) (qt_loadS rfl rfl tys_impl_Pt rfl (rdPts h hlt)) ?_
    refine dg_qg (i := 20) rfl (by kernel_rfl) (by kernel_rfl) (by kernel_rfl) [] (by kernel_rfl) (fun _ _ _ h => h) rfl rfl rfl rfl rfl (by decide) (fun _ h => h.upto ⟨rfl, trivial⟩) (qt_call ok_spec_l03Turn rfl rfl (fun w _ => l03Turn_h (pt ys (m - 2)) (pt ys (m - 1)) (pt xs k) w (hbq _ (by omega)) (hbq _ (by omega)) hbp)) ?_
    refine dg_qg (i := 21) rfl (by kernel_rfl) (by kernel_rfl) (by kernel_rfl) [] (by kernel_rfl) (fun _ _ _ h => h) rfl rfl rfl rfl rfl (by decide) (fun _ h => h.upto ⟨rfl, trivial⟩) (qt_leq rfl rfl rfl) ?_
    refine dg_q (i := 22) rfl (by kernel_rfl) (by kernel_rfl) (by kernel_rfl) [] (by kernel_rfl) (fun _ _ _ h => h) rfl rfl (by decide) (fun _ h => h.upto ⟨rfl, trivial⟩) (qt_pickT rfl rfl rfl) ?_
    refine dg_done (by kernel_rfl) ?_
    refine norm_then ?_
    exact at_meet hC_cut_5 ⟨vb (by simp; omega), rfl, rfl, rfl, rfl, rfl, rfl, rfl, rfl, trivial⟩ (fun _ h => h.upto ⟨rfl, trivial⟩)
   ·try simp only [za,zb,zc,zd,ze,zf,Bool.not_true,Bool.not_false,zg,zh,ne_eq,zi,zj] at g1
    refine dg_off (i := 4) rfl (by kernel_rfl) (by kernel_rfl) (by kernel_rfl) [] (by kernel_rfl) (fun _ _ _ h => h) rfl rfl rfl rfl (by decide) rfl (by decide) (fun _ h => h.upto ⟨rfl, trivial⟩) ?_
    refine dg_off (i := 5) rfl (by kernel_rfl) (by kernel_rfl) (by kernel_rfl) [] (by kernel_rfl) (fun _ _ _ h => h) rfl rfl rfl rfl (by decide) rfl (by decide) (fun _ h => h.upto ⟨rfl, trivial⟩) ?_
    refine dg_off (i := 6) rfl (by kernel_rfl) (by kernel_rfl) (by kernel_rfl) [] (by kernel_rfl) (fun _ _ _ h => h) rfl rfl rfl rfl (by decide) rfl (by decide) (fun _ h => h.upto ⟨rfl, trivial⟩) ?_
    refine dg_off (i := 7) rfl (by kernel_rfl) (by kernel_rfl) (by kernel_rfl) [] (by kernel_rfl) (fun _ _ _ h => h) rfl rfl rfl rfl (by decide) rfl (by decide) (fun _ h => h.upto ⟨rfl, trivial⟩) ?_
    refine dg_off (i := 8) rfl (by kernel_rfl) (by kernel_rfl) (by kernel_rfl) [] (by kernel_rfl) (fun _ _ _ h => h) rfl rfl rfl rfl (by decide) rfl (by decide) (fun _ h => h.upto ⟨rfl, trivial⟩) ?_
    refine dg_off (i := 9) rfl (by kernel_rfl) (by kernel_rfl) (by kernel_rfl) [] (by kernel_rfl) (fun _ _ _ h => h) rfl rfl rfl rfl (by decide) rfl (by decide) (fun _ h => h.upto ⟨rfl, trivial⟩) ?_
    refine dg_off (i := 10) rfl (by kernel_rfl) (by kernel_rfl) (by kernel_rfl) [] (by kernel_rfl) (fun _ _ _ h => h) rfl rfl rfl rfl (by decide) rfl (by decide) (fun _ h => h.upto ⟨rfl, trivial⟩) ?_
    refine dg_off (i := 11) rfl (by kernel_rfl) (by kernel_rfl) (by kernel_rfl) [] (by kernel_rfl) (fun _ _ _ h => h) rfl rfl rfl rfl (by decide) rfl (by decide) (fun _ h => h.upto ⟨rfl, trivial⟩) ?_
    refine dg_off (i := 12) rfl (by kernel_rfl) (by kernel_rfl) (by kernel_rfl) [] (by kernel_rfl) (fun _ _ _ h => h) rfl rfl rfl rfl (by decide) rfl (by decide) (fun _ h => h.upto ⟨rfl, trivial⟩) ?_
    refine dg_off (i := 13) rfl (by kernel_rfl) (by kernel_rfl) (by kernel_rfl) [] (by kernel_rfl) (fun _ _ _ h => h) rfl rfl rfl rfl (by decide) rfl (by decide) (fun _ h => h.upto ⟨rfl, trivial⟩) ?_
    refine dg_off (i := 14) rfl (by kernel_rfl) (by kernel_rfl) (by kernel_rfl) [] (by kernel_rfl) (fun _ _ _ h => h) rfl rfl rfl rfl (by decide) rfl (by decide) (fun _ h => h.upto ⟨rfl, trivial⟩) ?_
    refine dg_off (i := 15) rfl (by kernel_rfl) (by kernel_rfl) (by kernel_rfl) [] (by kernel_rfl) (fun _ _ _ h => h) rfl rfl rfl rfl (by decide) rfl (by decide) (fun _ h => h.upto ⟨rfl, trivial⟩) ?_
    refine dg_off (i := 16) rfl (by kernel_rfl) (by kernel_rfl) (by kernel_rfl) [] (by kernel_rfl) (fun _ _ _ h => h) rfl rfl rfl rfl (by decide) rfl (by decide) (fun _ h => h.upto ⟨rfl, trivial⟩) ?_
    refine dg_off (i := 17) rfl (by kernel_rfl) (by kernel_rfl) (by kernel_rfl) [] (by kernel_rfl) (fun _ _ _ h => h) rfl rfl rfl rfl (by decide) rfl (by decide) (fun _ h => h.upto ⟨rfl, trivial⟩) ?_
    refine dg_off (i := 18) rfl (by kernel_rfl) (by kernel_rfl) (by kernel_rfl) [] (by kernel_rfl) (fun _ _ _ h => h) rfl rfl rfl rfl (by decide) rfl (by decide) (fun _ h => h.upto ⟨rfl, trivial⟩) ?_
    refine dg_off (i := 19) rfl (by kernel_rfl) (by kernel_rfl) (by kernel_rfl) [] (by kernel_rfl) (fun _ _ _ h => h) rfl rfl rfl rfl (by decide) rfl (by decide) (fun _ h => h.upto ⟨rfl, trivial⟩) ?_
    refine dg_off (i := 20) rfl (by kernel_rfl) (by kernel_rfl) (by kernel_rfl) [] (by kernel_rfl) (fun _ _ _ h => h) rfl rfl rfl rfl (by decide) rfl (by decide) (fun _ h => h.upto ⟨rfl, trivial⟩) ?_
    refine dg_off (i := 21) rfl (by kernel_rfl) (by kernel_rfl) (by kernel_rfl) [] (by kernel_rfl) (fun _ _ _ h => h) rfl rfl rfl rfl (by decide) rfl (by decide) (fun _ h => h.upto ⟨rfl, trivial⟩) ?_
    refine dg_q (i := 22) rfl (by kernel_rfl) (by kernel_rfl) (by kernel_rfl) [] (by kernel_rfl) (fun _ _ _ h => h) rfl rfl (by decide) (fun _ h => h.upto ⟨rfl, trivial⟩) (qt_pickF rfl rfl rfl) ?_
    refine dg_done (by kernel_rfl) ?_
    refine norm_then ?_
    exact at_meet hC_cut_5 ⟨vb (by simp; omega), rfl, rfl, rfl, rfl, rfl, rfl, rfl, rfl, trivial⟩ (fun _ h => h.upto ⟨rfl, trivial⟩)
  ·refine at_envE (by simp only [ya,yb]; rfl) ?_
   refine at_cond rfl (fun c2 => ?_) (fun c2 => ?_)
   ·try simp only [za,zb,zc,zd,ze,zf,Bool.not_true,Bool.not_false,zg,zh,ne_eq,zi,zj] at c2
    have hm1 : 1 < m := (by omega)
    refine at_fact (fun w hs => rowSome (k := 0) rfl hs (by omega)) ?_
    rintro ⟨eg, rfl⟩
    refine at_fact (fun w hs => rowCap (hs.all 0 _ rfl).1) ?_
    intro hcap
    refine at_skip ?_
    refine norm_then ?_
    refine at_block ?_
    refine at_region ?_
    refine at_q rfl rfl (by decide) (qt_move rfl rfl) ?_
    refine at_q rfl rfl (by decide) (qt_move rfl rfl) ?_
    refine at_q rfl rfl (by decide) (qt_len rfl rfl tyl_sl_impl_Pt) ?_
    refine at_q rfl rfl (by decide) ((qt_sub rfl rfl rfl (by omega) (by omega)).as (congrArg _ (show ((m : Int) - 1) = ((m - 1 : Nat) : Int) by omega))) ?_
    refine at_q rfl rfl (by decide) ((qt_sliceH rfl rfl rfl tyl_sl_impl_Pt (by omega)).as (slicedH _ _ _ _ _)) ?_
    refine at_q rfl rfl (by decide) (qt_assign rfl rfl) ?_
    refine at_nil ?_
    refine at_rowTake 0 (m - 1) rfl (by omega) hm.1 (by omega) ?_
    refine at_rsE (by simp only [List.nil_append, List.cons_append, List.set_cons_zero, List.set_cons_succ, List.eraseIdx_cons_zero, List.eraseIdx_cons_succ, Value.cells, List.toList_toArray]; rfl) ?_
    refine norm_block ?_
    refine norm_then ?_
    exact at_againc hL2 (m - 1) (⟨by omega, (keepN_more c2).trans hm.2⟩) (by omega) ⟨rfl, rfl, rfl, rfl, rfl, rfl, rfl, rfl, trivial⟩ (fun _ h => h.upto ⟨rfl, trivial⟩)
   ·try simp only [za,zb,zc,zd,ze,zf,Bool.not_true,Bool.not_false,zg,zh,ne_eq,zi,zj] at c2
    obtain ⟨he, hel⟩ := push_eq hm.2 c2 hm.1
    refine at_exit ?_
    refine pass_then (fun h => by cases h) ?_
    refine pass_then (fun h => by cases h) ?_
    refine pass_hit ?_
    refine norm_then ?_
    refine at_region ?_
    refine at_q rfl rfl (by decide) (qt_move rfl rfl) ?_
    refine at_q rfl rfl (by decide) (qt_move rfl rfl) ?_
    refine at_q rfl rfl (by decide) (qt_move rfl rfl) ?_
    refine at_q rfl rfl (by decide) (qt_index rfl rfl rfl tyl_sl_impl_Pt (by omega)) ?_
    refine at_q rfl rfl (by decide) (qt_loadS rfl rfl tys_impl_Pt rfl (rdPts h hlt)) ?_
    refine at_op rfl ?_
    refine op_buildSlice rfl rfl (bsl_sl_impl_Pt_1_0 rfl) rfl (by decide) (fun b2 => ?_)
    refine at_rsE (by simp only [ya,yb,yc,yd,Value.cells,ye]; rfl) ?_
    refine at_op rfl ?_
    refine op_appendR (k := 0) rfl tyl_sl_impl_Pt tyz_impl_Pt (by decide) rfl (by decide) rfl rfl rfl (fun w' hs => src_cel hs (k := 1) rfl rfl) (by simp [Value.oneCell']) (by unfold maxLen; omega) (by omega) (Nat.zero_le _) (fun r1 => ?_)
    refine at_rsE (by simp only [ya,yb,yc,yd,Value.cells,ye]; rfl) ?_
    refine at_q rfl rfl (by decide) (qt_assign rfl rfl) ?_
    refine at_nil ?_
    refine norm_block ?_
    refine norm_then ?_
    refine at_region ?_
    refine at_q rfl rfl (by decide) (qt_move rfl rfl) ?_
    refine at_q rfl rfl (by decide) (qt_add rfl rfl rfl (by omega) (by omega)) ?_
    refine at_q rfl rfl (by decide) (qt_assign rfl rfl) ?_
    refine at_end ?_
    exact at_againc hL1 ((k + 1, r1)) ((show k + 1 ≤ n by omega)) (by simp only; omega) ⟨(by rw [hst, hel]; rfl), vi (by omega), rfl, rfl, trivial⟩ (fun _ h => h.upto ⟨by rw [hst, hel, he, List.flatMap_append]; rfl, trivial⟩)
 ·try simp only [za,zb,zc,zd,ze,zf,Bool.not_true,Bool.not_false,zg,zh,ne_eq,zi,zj] at c1
  refine at_exit ?_
  refine pass_then (fun h => by cases h) ?_
  refine pass_then (fun h => by cases h) ?_
  refine pass_hit ?_
  refine norm_then ?_
  refine at_seq ?_
  refine at_region ?_
  refine at_q rfl rfl (by decide) (qt_move rfl rfl) ?_
  refine at_q rfl rfl (by decide) (qt_assign rfl rfl) ?_
  refine at_end ?_
  refine at_retc ?_
  refine at_ret1 rfl (.tmp rfl) ?_
  intro w' hs
  have hkn : k = n := by omega
  subst hkn
  have hr := hs.all 0 _ rfl
  have htk : xs.take k = xs := List.take_of_length_le (by omega)
  rw [htk] at hr
  exact ⟨_, by rw [htk], row_from hr.1 (fun b hb => (hr.2.1 b hb).elim id (fun h => by cases h)), hs.fin⟩
theorem putAll_take {xs : List Pn} {k : Nat} (h : k < xs.length) : putAll (xs.take (k + 1)) = putP (putAll (xs.take k)) (pt xs k) := by
 rw [List.take_succ_eq_append_getElem h, putAll_app, pt_at h]
theorem l11Hull_any (A : Option Addr) (n c : Nat) (xs : List Pn) (w : World) (h : Pts w A n xs) (hx : ∀ p ∈ xs, bdH p) (hn : n ≤ 500000) :
  Calls Try.prog 51 #[.slice A n c] w fun e w' => ∃ v, e = .returned v ∧ w'.ownsRow w.heap.size 103 2 v (hullP xs).length ((hullP xs).flatMap ptCells) ∧ Over w w' := by
 have hl := h.1
 have hpl := putAll_len xs
 have hpx : ∀ p ∈ putAll xs, bdH p := fun p hp => hx p ((putAll_mem xs p).1 hp)
 refine walk_from (m := 60) (Try.func51) rfl rfl (Nat.le_of_ble_eq_true rfl) ?_
 refine at_seq ?_
 refine at_region ?_
 refine at_q rfl rfl (by decide) (qt_assign rfl rfl) ?_
 refine at_end ?_
 refine at_seq ?_
 refine at_region ?_
 refine at_op rfl ?_
 refine op_buildSlice rfl rfl (bsl_sl_impl_Pt_0) rfl (by decide) (fun b1 => ?_)
 refine at_rowN 0 2 rfl rfl ?_
 refine at_rsE (by simp only [ya,yb,yc,yd,Value.cells,ye]; rfl) ?_
 refine at_q rfl rfl (by decide) (qt_assign rfl rfl) ?_
 refine at_end ?_
 refine at_rowB0 0 rfl ?_
 refine at_rsE (by simp only [List.nil_append, List.cons_append, List.set_cons_zero, List.set_cons_succ, List.eraseIdx_cons_zero, List.eraseIdx_cons_succ, Value.cells, List.toList_toArray]; rfl) ?_
 refine at_seq ?_
 refine at_seq ?_
 refine at_region ?_
 refine at_q rfl rfl (by decide) (qt_assign rfl rfl) ?_
 refine at_end ?_
 refine at_block ?_
 refine at_loopc (X := Nat × Nat × Nat) (fun x => x.1 ≤ n) (fun x => n - x.1) (fun x => [(3, .slice (some ⟨x.2.1, 0, none⟩) (putAll (xs.take x.1)).length x.2.2), (4, .int .i64 (x.1 : Int))]) (C := [(0, _), (2, _)]) ⟨rfl, rfl, trivial⟩ (fun x => [hotR (putAll (xs.take x.1)) x.2]) (0, b1, 0) (Nat.zero_le _) ⟨rfl, rfl, rfl, rfl, trivial⟩ (fun _ h => h) ?_
 intro ⟨k, g, gc⟩ hk L hL1
 refine at_envE (by simp only [ya,yb]; rfl) ?_
 refine at_rsE (by first | (dsimp only; done) | (dsimp only; rfl) | rfl) ?_
 have hk : k ≤ n := hk
 refine at_seq ?_
 refine at_seq ?_
 refine at_region ?_
 refine at_q rfl rfl (by decide) (qt_move rfl rfl) ?_
 refine at_q rfl rfl (by decide) (qt_move rfl rfl) ?_
 refine at_q rfl rfl (by decide) (qt_len rfl rfl tyl_sl_impl_Pt) ?_
 refine at_q rfl rfl (by decide) (qt_lss rfl rfl rfl) ?_
 refine at_end ?_
 refine at_cond rfl (fun c1 => ?_) (fun c1 => ?_)
 ·try simp only [za,zb,zc,zd,ze,zf,Bool.not_true,Bool.not_false,zg,zh,ne_eq,zi,zj] at c1
  have hlt : k < n := (by omega)
  obtain ⟨eb, eo, rfl, _⟩ := h.2 (by omega)
  have hpk := putAll_len (xs.take k)
  rw [List.length_take] at hpk
  refine at_skip ?_
  refine norm_then ?_
  refine at_seq ?_
  refine at_block ?_
  refine at_region ?_
  refine at_q rfl rfl (by decide) (qt_move rfl rfl) ?_
  refine at_q rfl rfl (by decide) (qt_move rfl rfl) ?_
  refine at_q rfl rfl (by decide) (qt_move rfl rfl) ?_
  refine at_q rfl rfl (by decide) (qt_index rfl rfl rfl tyl_sl_impl_Pt (by omega)) ?_
  refine at_q rfl rfl (by decide) (qt_loadS rfl rfl tys_impl_Pt rfl (rdPts h hlt)) ?_
  refine at_op rfl ?_
  refine op_callP (k := 0) (v := fun x : Nat × Nat => .slice (some ⟨x.1, 0, none⟩) _ x.2) (r' := fun x => hotR _ x) ok_spec_l13Put rfl rfl rfl (by decide) rfl (fun w1 hs => put_row (p := pt xs k) (hs.all 0 _ rfl).1 (by omega)) ?_
  rintro ⟨g3, gc3⟩
  refine at_rsE (by simp only [ya,yb,yc,yd,Value.cells,ye]; rfl) ?_
  refine at_q rfl rfl (by decide) (qt_assign rfl rfl) ?_
  refine at_nil ?_
  refine norm_block ?_
  refine norm_then ?_
  refine at_region ?_
  refine at_q rfl rfl (by decide) (qt_move rfl rfl) ?_
  refine at_q rfl rfl (by decide) (qt_add rfl rfl rfl (by omega) (by omega)) ?_
  refine at_q rfl rfl (by decide) (qt_assign rfl rfl) ?_
  refine at_end ?_
  exact at_againc hL1 ((k + 1, g3, gc3)) ((show k + 1 ≤ n by omega)) (by simp only; omega) ⟨(by rw [putAll_take (by omega)]; rfl), vi (by omega), rfl, rfl, trivial⟩ (fun _ h => h.upto ⟨by rw [putAll_take (by omega)], trivial⟩)
 ·try simp only [za,zb,zc,zd,ze,zf,Bool.not_true,Bool.not_false,zg,zh,ne_eq,zi,zj] at c1
  have hkn : k = n := (by omega)
  subst hkn
  have htk : xs.take k = xs := List.take_of_length_le (by omega)
  rw [htk]
  refine at_fact (fun w hs => rowCap (hs.all 0 _ rfl).1) ?_
  intro hcap
  refine at_exit ?_
  refine pass_then (fun h => by cases h) ?_
  refine pass_then (fun h => by cases h) ?_
  refine pass_hit ?_
  refine norm_then ?_
  refine at_seq ?_
  refine at_seq ?_
  refine at_region ?_
  refine at_q rfl rfl (by decide) (qt_move rfl rfl) ?_
  refine at_q rfl rfl (by decide) (qt_len rfl rfl tyl_sl_impl_Pt) ?_
  refine at_q rfl rfl (by decide) (qt_lss rfl rfl rfl) ?_
  refine at_end ?_
  refine at_cond rfl (fun c2 => ?_) (fun c2 => ?_)
  ·try simp only [za,zb,zc,zd,ze,zf,Bool.not_true,Bool.not_false,zg,zh,ne_eq,zi,zj] at c2
   have he2 : hullP xs = putAll xs := by rw [hullP, hullS, if_pos (by omega)]
   refine at_seq ?_
   refine at_region ?_
   refine at_q rfl rfl (by decide) (qt_move rfl rfl) ?_
   refine at_q rfl rfl (by decide) (qt_assign rfl rfl) ?_
   refine at_end ?_
   refine at_retc ?_
   refine then_ret ?_
   refine at_ret1 rfl (.tmp rfl) ?_
   intro w' hs
   have hr := hs.all 0 _ rfl
   exact ⟨_, rfl, by rw [he2]; exact row_from hr.1 (fun b hb => (hr.2.1 b hb).elim id (fun h => by cases h)), hs.fin⟩
  ·try simp only [za,zb,zc,zd,ze,zf,Bool.not_true,Bool.not_false,zg,zh,ne_eq,zi,zj] at c2
   have he2 : hullP xs = sideP (putAll xs) ++ sideP (putAll xs).reverse := by rw [hullP, hullS, if_neg (by omega)]
   generalize hall : putAll xs = all at *
   refine at_skip ?_
   refine norm_then ?_
   refine at_seq ?_
   refine at_region ?_
   refine at_op rfl ?_
   refine op_buildSlice rfl rfl (bsl_sl_impl_Pt_0) rfl (by decide) (fun b2 => ?_)
   refine at_rowN 1 2 rfl rfl ?_
   refine at_rsE (by simp only [ya,yb,yc,yd,Value.cells,ye]; rfl) ?_
   refine at_q rfl rfl (by decide) (qt_assign rfl rfl) ?_
   refine at_end ?_
   refine at_seq ?_
   refine at_seq ?_
   refine at_rowB0 1 rfl ?_
   refine at_rsE (by simp only [List.nil_append, List.cons_append, List.set_cons_zero, List.set_cons_succ, List.eraseIdx_cons_zero, List.eraseIdx_cons_succ, Value.cells, List.toList_toArray]; rfl) ?_
   refine at_region ?_
   refine at_q rfl rfl (by decide) (qt_move rfl rfl) ?_
   refine at_q rfl rfl (by decide) (qt_len rfl rfl tyl_sl_impl_Pt) ?_
   refine at_q rfl rfl (by decide) (qt_sub rfl rfl rfl (by omega) (by omega)) ?_
   refine at_q rfl rfl (by decide) (qt_assign rfl rfl) ?_
   refine at_end ?_
   refine at_block ?_
   refine at_loopc (X := Nat × Option Addr × Nat) (fun y => y.1 ≤ all.length) (fun y => all.length - y.1) (fun y => [(5, .slice y.2.1 y.1 y.2.2), (6, .int .i64 ((all.length : Int) - 1 - (y.1 : Int)))]) (C := [(2, _), (3, _)]) ⟨rfl, rfl, trivial⟩ (fun y => [hotR all (g, gc), rowR 0 103 2 y.1 ((revPre all y.1).flatMap ptCells) y.2]) (0, some ⟨b2, 0, none⟩, 0) (Nat.zero_le _) ⟨rfl, vi (by omega), rfl, rfl, trivial⟩ (fun _ h => h) ?_
   intro ⟨j, qA, qc⟩ hy L hL2
   refine at_envE (by simp only [ya,yb]; rfl) ?_
   refine at_rsE (by first | (dsimp only; done) | (dsimp only; rfl) | rfl) ?_
   have hj : j ≤ all.length := hy
   refine at_seq ?_
   refine at_seq ?_
   refine at_region ?_
   refine at_q rfl rfl (by decide) (qt_move rfl rfl) ?_
   refine at_q rfl rfl (by decide) (qt_geq rfl rfl rfl) ?_
   refine at_end ?_
   refine at_cond rfl (fun c3 => ?_) (fun c3 => ?_)
   ·try simp only [za,zb,zc,zd,ze,zf,Bool.not_true,Bool.not_false,zg,zh,ne_eq,zi,zj] at c3
    have hjl : j < all.length := (by omega)
    refine at_as 6 (.int .i64 ((all.length - 1 - j : Nat) : Int)) rfl (congrArg _ (by omega)) ?_
    refine at_skip ?_
    refine norm_then ?_
    refine at_seq ?_
    refine at_block ?_
    refine at_region ?_
    refine at_q rfl rfl (by decide) (qt_move rfl rfl) ?_
    refine at_q rfl rfl (by decide) (qt_move rfl rfl) ?_
    refine at_q rfl rfl (by decide) (qt_move rfl rfl) ?_
    refine at_q rfl rfl (by decide) (qt_index rfl rfl rfl tyl_sl_impl_Pt (by omega)) ?_
    refine at_q rfl rfl (by decide) (qt_loadS rfl rfl tys_impl_Pt rfl (rdRow1 (k := 0) rfl (by omega))) ?_
    refine at_op rfl ?_
    refine op_buildSlice rfl rfl (bsl_sl_impl_Pt_1_0 rfl) rfl (by decide) (fun b3 => ?_)
    refine at_rsE (by simp only [ya,yb,yc,yd,Value.cells,ye]; rfl) ?_
    refine at_op rfl ?_
    refine op_appendR (k := 1) rfl tyl_sl_impl_Pt tyz_impl_Pt (by decide) rfl (by decide) rfl rfl rfl (fun w' hs => src_cel hs (k := 2) rfl rfl) (by simp [Value.oneCell']) (by unfold maxLen; omega) (by omega) (Nat.zero_le _) (fun r1 => ?_)
    refine at_rsE (by simp only [ya,yb,yc,yd,Value.cells,ye]; rfl) ?_
    refine at_q rfl rfl (by decide) (qt_assign rfl rfl) ?_
    refine at_nil ?_
    refine norm_block ?_
    refine norm_then ?_
    refine at_region ?_
    refine at_q rfl rfl (by decide) (qt_move rfl rfl) ?_
    refine at_q rfl rfl (by decide) (qt_sub rfl rfl rfl (by omega) (by omega)) ?_
    refine at_q rfl rfl (by decide) (qt_assign rfl rfl) ?_
    refine at_end ?_
    exact at_againc hL2 ((j + 1, r1)) ((show j + 1 ≤ all.length by omega)) (by simp only; omega) ⟨rfl, vi (by omega), rfl, rfl, trivial⟩ (fun _ h => h.upto ⟨rfl, by rw [← revPre_step hjl], trivial⟩)
   ·try simp only [za,zb,zc,zd,ze,zf,Bool.not_true,Bool.not_false,zg,zh,ne_eq,zi,zj] at c3
    have hje : j = all.length := (by omega)
    subst hje
    rw [revPre_all]
    have hs1 := chain_two (l := all) (by omega) (asc_ends (hall ▸ putAll_asc xs) (by omega))
    have hs2 := chain_two (l := all.reverse) (by rw [List.length_reverse]; omega) (by have := asc_ends (hall ▸ putAll_asc xs) (by omega : 2 ≤ all.length); rw [List.getElem?_reverse (by omega), List.getElem?_reverse (by simp; omega), List.length_reverse]; simp only [Nat.sub_zero]; rw [show all.length - 1 - (all.length - 1) = 0 by omega]; exact this.symm)
    have hsl := side_lnH all.reverse
    have hcl := chain_len all.reverse
    have hcl1 := chain_len all
    have hsl1 := side_lnH all
    rw [List.length_reverse] at hcl
    refine at_exit ?_
    refine pass_then (fun h => by cases h) ?_
    refine pass_then (fun h => by cases h) ?_
    refine pass_hit ?_
    refine norm_then ?_
    refine at_seq ?_
    refine at_region ?_
    refine at_q rfl rfl (by decide) (qt_move rfl rfl) ?_
    refine at_op rfl ?_
    refine op_call ok_spec_l11Chain (v := fun x => .slice x.1 _ x.2) (r := fun x => rowR 0 103 2 _ _ x) (H := fun _ => True) rfl rfl rfl (by decide) (fun w1 hs => newRow' (l11Chain_any _ _ _ all w1 (ptsRow (hs.all 0 _ rfl).1 rfl) hpx (by omega))) ?_
    rintro ⟨uA, uc⟩ -
    refine at_rsE (by simp only [ya,yb,yc,yd,Value.cells,ye]; rfl) ?_
    refine at_q rfl rfl (by decide) (qt_assign rfl rfl) ?_
    refine at_end ?_
    refine at_seq ?_
    refine at_region ?_
    refine at_q rfl rfl (by decide) (qt_move rfl rfl) ?_
    refine at_op rfl ?_
    refine op_call ok_spec_l11Chain (v := fun x => .slice x.1 _ x.2) (r := fun x => rowR 0 103 2 _ _ x) (H := fun _ => True) rfl rfl rfl (by decide) (fun w1 hs => newRow' (l11Chain_any _ _ _ all.reverse w1 (ptsRow (hs.all 1 _ rfl).1 (by simp)) (fun p hp => hpx p (List.mem_reverse.1 hp)) (by omega))) ?_
    rintro ⟨dA, dc⟩ -
    refine at_rsE (by simp only [ya,yb,yc,yd,Value.cells,ye]; rfl) ?_
    refine at_q rfl rfl (by decide) (qt_assign rfl rfl) ?_
    refine at_end ?_
    refine at_fact (fun w hs => rowSome (k := 2) rfl hs (by omega)) ?_
    rintro ⟨ug, rfl⟩
    refine at_fact (fun w hs => rowSome (k := 3) rfl hs (by omega)) ?_
    rintro ⟨dg, rfl⟩
    refine at_fact (fun w hs => rowCap (hs.all 2 _ rfl).1) ?_
    intro hcu
    refine at_fact (fun w hs => rowCap (hs.all 3 _ rfl).1) ?_
    intro hcd
    refine at_seq ?_
    refine at_region ?_
    refine at_op rfl ?_
    refine op_buildSlice rfl rfl (bsl_sl_impl_Pt_0) rfl (by decide) (fun b4 => ?_)
    refine at_rowN 4 2 rfl rfl ?_
    refine at_rsE (by simp only [ya,yb,yc,yd,Value.cells,ye]; rfl) ?_
    refine at_q rfl rfl (by decide) (qt_move rfl rfl) ?_
    refine at_q rfl rfl (by decide) (qt_move rfl rfl) ?_
    refine at_q rfl rfl (by decide) (qt_len rfl rfl tyl_sl_impl_Pt) ?_
    refine at_q rfl rfl (by decide) ((qt_sub rfl rfl rfl (by omega) (by omega)).as (congrArg _ (show (((chainP all).length : Int) - 1) = (((chainP all).length - 1 : Nat) : Int) by omega))) ?_
    refine at_q rfl rfl (by decide) ((qt_sliceH rfl rfl rfl tyl_sl_impl_Pt (by omega)).as (slicedH _ _ _ _ _)) ?_
    refine at_op rfl ?_
    refine op_appendR (k := 4) rfl tyl_sl_impl_Pt tyz_impl_Pt (by decide) rfl (by decide) rfl rfl rfl (fun w' hs => srcTake (ptsRow (hs.all 2 _ rfl).1 rfl) (by omega)) (ptCells_one _) (by unfold maxLen; omega) (by omega) (Nat.le_refl _) (fun r2 => ?_)
    refine at_rsE (by simp only [ya,yb,yc,yd,Value.cells,ye]; rfl) ?_
    refine at_q rfl rfl (by decide) (qt_assign rfl rfl) ?_
    refine at_end ?_
    refine at_seq ?_
    refine at_region ?_
    refine at_q rfl rfl (by decide) (qt_move rfl rfl) ?_
    refine at_q rfl rfl (by decide) (qt_move rfl rfl) ?_
    refine at_q rfl rfl (by decide) (qt_move rfl rfl) ?_
    refine at_q rfl rfl (by decide) (qt_len rfl rfl tyl_sl_impl_Pt) ?_
    refine at_q rfl rfl (by decide) ((qt_sub rfl rfl rfl (by omega) (by omega)).as (congrArg _ (show (((chainP all.reverse).length : Int) - 1) = (((chainP all.reverse).length - 1 : Nat) : Int) by omega))) ?_
    refine at_q rfl rfl (by decide) ((qt_sliceH rfl rfl rfl tyl_sl_impl_Pt (by omega)).as (slicedH _ _ _ _ _)) ?_
    refine at_op rfl ?_
    refine op_appendR (k := 4) rfl tyl_sl_impl_Pt tyz_impl_Pt (by decide) rfl (by decide) rfl rfl rfl (fun w' hs => srcTake (ptsRow (hs.all 3 _ rfl).1 rfl) (by omega)) (ptCells_one _) (by unfold maxLen; omega) (by omega) (Nat.le_refl _) (fun r3 => ?_)
    refine at_rsE (by simp only [ya,yb,yc,yd,Value.cells,ye]; rfl) ?_
    refine at_q rfl rfl (by decide) (qt_assign rfl rfl) ?_
    refine at_end ?_
    refine at_retc ?_
    refine at_ret1 rfl (.tmp rfl) ?_
    intro w' hs
    have hr := hs.all 4 _ rfl
    refine ⟨_, rfl, ?_, hs.fin⟩
    rw [Nat.zero_add] at hr ⊢
    rw [he2, List.length_append, List.flatMap_append, side_lnH, side_lnH]
    exact row_from hr.1 (fun b hb => (hr.2.1 b hb).elim id (fun h => by cases h))
end Go.Proofs.Ytjhaakollekjeaa
