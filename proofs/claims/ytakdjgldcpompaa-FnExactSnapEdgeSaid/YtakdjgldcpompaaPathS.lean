/- The way of a segment through hot points: snapEdge, the program's walk. -/
import Derived.Test.YtakdjgldcpompaaPathW
namespace Go.Proofs.Ytakdjgldcpompaa
open Go Go.RowKit
set_option linter.unusedVariables false
set_option linter.unusedSimpArgs false
set_option maxRecDepth 100000
set_option maxHeartbeats 4000000
set_option linter.unusedVariables false
set_option linter.unusedSimpArgs false

theorem bounds2 (b3 : Nat) (a b : Pn) (w : World) (h : Pts w (some ⟨b3, 0, none⟩) 2 [a, b]) : Calls Try.prog 52 #[.slice (some ⟨b3, 0, none⟩) 2 2] w fun e w' => e = .returned (.tuple #[ptV (min a.1 b.1) (min a.2 b.2), ptV (max a.1 b.1) (max a.2 b.2)]) ∧ Over w w' := by
  have := boundsOf_any _ 2 2 [a, b] w h (by decide) (by decide) (by decide)
  exact this
/-- Whether a segment meets the pixel of a point, and where. -/
def wkS (a b p : Pn) : Sp := if clipB sp0 (2 * a.1) (2 * (b.1 - a.1)) (2 * p.1 - 1) = true then clipS (clipS sp0 (2 * a.1) (2 * (b.1 - a.1)) (2 * p.1 - 1)) (2 * a.2) (2 * (b.2 - a.2)) (2 * p.2 - 1) else clipS sp0 (2 * a.1) (2 * (b.1 - a.1)) (2 * p.1 - 1)
theorem wkS_eq {a b p : Pn} (h : insP a b p = true) : wkS a b p = pathSp a b p := by
  obtain ⟨h1, h2⟩ := clip_path a b p h
  rw [wkS, if_pos h1, h2]
theorem walkPixel_p (a b p : Pn) (w : World) (ha : okB a.1 a.2 = true) (hb : okB b.1 b.2 = true) (hp : okB p.1 p.2 = true) :
    Calls Try.prog 55 #[pV a, pV b, pV p] w fun e w' => e = .returned (.tuple #[walkV (wkS a b p), .bool (insP a b p)]) ∧ Over w w' := by
  have := walkPixel_any a.1 a.2 b.1 b.2 p.1 p.2 w ha hb hp
  rw [← clip_law] at this
  exact this
theorem okB_bd2 {p : Pn} (h : okB p.1 p.2 = true) : bd2 p := by
  simp [okB, inB] at h
  exact ⟨⟨by omega, by omega⟩, by omega, by omega⟩
theorem boxX_low {a b p : Pn} (h : p.1 < min a.1 b.1 - 1) : boxX a b p = false := by unfold boxX; rw [decide_eq_true h]; rfl
theorem boxX_rest {a b p : Pn} (h : min a.1 b.1 - 1 ≤ p.1) : decide (p.1 > max a.1 b.1 + 1) = !boxX a b p := by unfold boxX; rw [decide_eq_false (Int.not_lt.2 h), Bool.false_or, Bool.not_not]
theorem boxY_yes {a b p : Pn} (h1 : min a.2 b.2 - 1 ≤ p.2) (h2 : p.2 ≤ max a.2 b.2 + 1) : boxY a b p = true := by unfold boxY; rw [decide_eq_false (Int.not_lt.2 h1), decide_eq_false (Int.not_lt.2 h2)]; rfl
theorem onWay_b1 {a b p : Pn} (h : boxX a b p = false) : onWay a b p = false := by simp [onWay, h]
theorem onWay_b2 {a b p : Pn} (h : boxY a b p = false) : onWay a b p = false := by simp [onWay, h]
theorem onWay_b3 {a b p : Pn} (h : insP a b p = false) : onWay a b p = false := by simp [onWay, h]
theorem onWay_yes {a b p : Pn} (h1 : boxX a b p = true) (h2 : boxY a b p = true) (h3 : insP a b p = true) : onWay a b p = true := by simp [onWay, h1, h2, h3]
theorem way_no {a b : Pn} {ys : List Pn} {k : Nat} (hk : k < ys.length) (h : onWay a b (pt ys k) = false) : wayL a b (ys.take (k + 1)) = wayL a b (ys.take k) := by
  rw [take_pt hk, wayL_app, wayL_none (l := [pt ys k]) (fun p hp => by rw [List.mem_singleton.1 hp]; exact h), List.append_nil]
theorem way_yes {a b : Pn} {ys : List Pn} {k : Nat} (hk : k < ys.length) (h : onWay a b (pt ys k) = true) : wayL a b (ys.take (k + 1)) = wayL a b (ys.take k) ++ [wyOf a b (pt ys k)] := by
  rw [take_pt hk, wayL_app, wayL_one h]
theorem mem_pt {xs : List Pn} {p : Pn} (h : p ∈ xs) : ∃ k, k < xs.length ∧ pt xs k = p := by
  obtain ⟨k, hk, e⟩ := List.getElem_of_mem h
  exact ⟨k, hk, by rw [← e, pt_at hk]⟩
theorem pt_drop (xs : List Pn) (i k : Nat) : pt (xs.drop i) k = pt xs (i + k) := by
  simp only [pt, px, py, List.getD_eq_getElem?_getD, List.getElem?_drop]
theorem pt_take {xs : List Pn} {i k : Nat} (h : k < i) : pt (xs.take i) k = pt xs k := by
  simp only [pt, px, py, List.getD_eq_getElem?_getD, List.getElem?_take, if_pos h]
/-- All that the search leaves out lies below. -/
theorem bs_low : ∀ (xs : List Pn) (t : Int), bsI xs t ≤ xs.length ∧ (∀ p ∈ xs.take (bsI xs t), p.2 < t) ∧ (bsI xs t < xs.length → t ≤ py xs (bsI xs t))
  | [], t => ⟨Nat.le_refl _, fun p hp => by simp at hp, fun h => absurd h (by simp [bsI])⟩
  | p :: xs, t => by
    obtain ⟨h1, h2, h3⟩ := bs_low xs t
    by_cases hp : p.2 < t
    · have e : bsI (p :: xs) t = bsI xs t + 1 := by
        unfold bsI
        rw [List.takeWhile_cons_of_pos (by simpa using hp), List.length_cons]
      rw [e]
      refine ⟨by simpa using h1, fun q hq => ?_, fun h => ?_⟩
      · rw [List.take_succ_cons] at hq
        rcases List.mem_cons.1 hq with rfl | hq
        · exact hp
        · exact h2 q hq
      · have := h3 (by simpa using h)
        have ek : py (p :: xs) (bsI xs t + 1) = py xs (bsI xs t) := by simp [py]
        rw [ek]
        exact this
    · have e : bsI (p :: xs) t = 0 := by
        unfold bsI
        rw [List.takeWhile_cons_of_neg (by simpa using hp)]
        rfl
      rw [e]
      exact ⟨Nat.zero_le _, fun q hq => by simp at hq, fun _ => by have : py (p :: xs) 0 = p.2 := rfl; omega⟩
theorem way_low {a b : Pn} {xs : List Pn} : wayL a b (xs.drop (bsI xs (min a.2 b.2 - 1))) = wayL a b xs := by
  obtain ⟨h1, h2, h3⟩ := bs_low xs (min a.2 b.2 - 1)
  conv => rhs; rw [← List.take_append_drop (bsI xs (min a.2 b.2 - 1)) xs]
  rw [wayL_app, wayL_none (l := xs.take _) (fun p hp => onWay_b2 (by have := h2 p hp; simp [boxY, this])), List.nil_append]
theorem way_high {a b : Pn} {ys : List Pn} {k : Nat} (hm : MonoY ys) (hk : k < ys.length) (h : py ys k > max a.2 b.2 + 1) : wayL a b (ys.take k) = wayL a b ys := by
  conv => rhs; rw [← List.take_append_drop k ys]
  rw [wayL_app, wayL_none (l := ys.drop k) (fun p hp => onWay_b2 ?_), List.append_nil]
  obtain ⟨j, hj, rfl⟩ := mem_pt hp
  rw [List.length_drop] at hj
  rw [pt_drop]
  have := hm k (k + j) (by omega) (by omega)
  have e : (pt ys (k + j)).2 = py ys (k + j) := rfl
  simp [boxY, e]
  omega
theorem mono_drop {xs : List Pn} (h : MonoY xs) (i : Nat) : MonoY (xs.drop i) := fun k j hkj hj => by
  rw [List.length_drop] at hj
  have e : ∀ k, py (xs.drop i) k = py xs (i + k) := fun k => by have := pt_drop xs i k; simp only [pt] at this; injection this
  rw [e, e]
  exact h _ _ (by omega) (by omega)
theorem low_at {a b : Pn} {xs : List Pn} (hm : MonoY xs) {k : Nat} (hk : k < (xs.drop (bsI xs (min a.2 b.2 - 1))).length) : min a.2 b.2 - 1 ≤ py (xs.drop (bsI xs (min a.2 b.2 - 1))) k := by
  obtain ⟨h1, h2, h3⟩ := bs_low xs (min a.2 b.2 - 1)
  rw [List.length_drop] at hk
  have e : py (xs.drop (bsI xs (min a.2 b.2 - 1))) k = py xs (bsI xs (min a.2 b.2 - 1) + k) := by have := pt_drop xs (bsI xs (min a.2 b.2 - 1)) k; simp only [pt] at this; injection this
  rw [e]
  have := hm (bsI xs (min a.2 b.2 - 1)) (bsI xs (min a.2 b.2 - 1) + k) (by omega) (by omega)
  have := h3 (by omega)
  omega
/-- The rest of a slice. -/
theorem slice_rest {A : Option Addr} {n c i : Nat} (hi : i ≤ n) (hc : n ≤ c) : ∃ A', sliced A i n c 2 = .slice A' (n - i) (c - i) ∧ ∀ {w : World} {xs : List Pn}, Pts w A n xs → Pts w A' (n - i) (xs.drop i) := by
  by_cases h0 : i < n
  · cases A with
    | none => exact ⟨none, by simp [sliced], fun h => absurd (h.2 (by omega)) (by rintro ⟨b, o, e, _⟩; cases e)⟩
    | some p =>
      by_cases hp : p.spot = none
      · obtain ⟨b, o, v⟩ := p
        cases hp
        exact ⟨_, slicedL hc hi, fun h => h.dropT hi hc⟩
      · refine ⟨_, rfl, fun {w xs} h => ?_⟩
        obtain ⟨b, o, e, _⟩ := h.2 (by omega)
        injection e with e
        subst e
        exact absurd rfl hp
  · obtain rfl : i = n := by omega
    refine ⟨_, rfl, fun {w xs} h => ⟨by rw [List.length_drop, h.1], fun h => absurd h (by omega)⟩⟩
theorem rdRowWy {w0 : Bs} {Rs : List Res} {k B T m g c j : Nat} {l : List Wy} {e : Wy} (hk : Rs[k]? = some (rowR B T 5 m (l.flatMap Wy.cells) (some ⟨g, 0, none⟩, c))) (he : l[j]? = some e) : ∀ w', St w0 Rs w' → ∀ q v, e.cells[q]? = some v → w'.cell? ⟨g, 0 + j * 5 + q, none⟩ = some v := fun w' hs q v hv => by
  have h : w'.ownsRow B T 5 (.slice (some ⟨g, 0, none⟩) m c) m (l.flatMap Wy.cells) := (hs.all k _ hk).1
  have := wyF_at (tl := []) he hv
  rw [wyF, List.append_nil] at this
  have := h.cells rfl _ v this
  rw [add_none] at this
  rw [Nat.zero_add] at this ⊢
  exact this
theorem path_step {L : List Wy} {k : Nat} {e : Wy} (h : L[k]? = some e) : ((L.map fun e => (e.x, e.y)).take k).flatMap ptCells ++ [.int .i64 e.x, .int .i64 e.y] = ((L.map fun e => (e.x, e.y)).take (k + 1)).flatMap ptCells := by
  obtain ⟨hk, rfl⟩ := List.getElem?_eq_some_iff.1 h
  rw [List.take_succ_eq_append_getElem (by simpa using hk), List.flatMap_append]
  simp [ptCells]
theorem snapEdge_any (a b : Pn) (A : Option Addr) (n c : Nat) (hot : List Pn) (w : World) (h : Pts w A n hot) (ha : okB a.1 a.2 = true) (hb : okB b.1 b.2 = true) (hh : ∀ p ∈ hot, okB p.1 p.2 = true) (hasc : Asc hot) (hc : n ≤ c) (hn : n ≤ 1048576) :
    Calls Try.prog 28 #[pV a, pV b, .slice A n c] w fun e w' => ∃ v, e = .returned v ∧ w'.ownsRow w.heap.size 29 2 v (pathP a b hot).length ((pathP a b hot).flatMap ptCells) ∧ Over w w' := by
  have hl := h.1
  have hmono := asc_mono hasc
  obtain ⟨hi1, hi2, hi3⟩ := bs_low hot (min a.2 b.2 - 1)
  have ha2 : bd2 a := okB_bd2 ha
  have hb2 : bd2 b := okB_bd2 hb
  have hp2 : ∀ p ∈ hot, bd2 p := fun p hp => okB_bd2 (hh p hp)
  obtain ⟨⟨a1, a2⟩, a3, a4⟩ := id ha2
  obtain ⟨⟨b1', b2'⟩, b3', b4'⟩ := id hb2
  obtain ⟨i, hi⟩ : ∃ i, i = bsI hot (min a.2 b.2 - 1) := ⟨_, rfl⟩
  obtain ⟨A', eA, hA'⟩ := slice_rest (A := A) (n := n) (c := c) (i := i) (by omega) hc
  obtain ⟨ys, hys⟩ : ∃ ys, ys = hot.drop i := ⟨_, rfl⟩
  have hyl : ys.length = n - i := by rw [hys, List.length_drop, hl]
  have hyp : Pts w A' (n - i) ys := hys ▸ hA' h
  have hym : MonoY ys := hys ▸ mono_drop hmono i
  have hylow : ∀ k, k < ys.length → min a.2 b.2 - 1 ≤ py ys k := fun k hk => by subst hys hi; exact low_at hmono hk
  have hway : wayL a b ys = wayL a b hot := by subst hys hi; exact way_low
  have hymem : ∀ k, k < ys.length → pt ys k ∈ hot := fun k hk => by rw [hys] at hk ⊢; rw [pt_drop, ← pt_at (by rw [List.length_drop] at hk; omega)]; exact List.getElem_mem _
  have hwl := wayL_len a b hot
  have hwl2 : ∀ k, (wayL a b (ys.take k)).length ≤ 1048576 := fun k => by have := wayL_len a b (ys.take k); rw [List.length_take] at this; omega
  have hwb : ∀ e ∈ wayL a b hot, bd1 e.num e.den := fun e he => by
    obtain ⟨p, hp, rfl⟩ := wayL_mem he
    exact (pathSp_bd ha2 hb2 (hp2 p hp)).low
  have hpl : (pathP a b hot).length = (wayL a b hot).length := by rw [pathP, List.length_map, srt_len]
  have hsl : (srt (ltC cmpWy) (wayL a b hot)).length = (wayL a b hot).length := srt_len _
  refine walk_from (m := 93) (Try.func28) rfl rfl (Nat.le_of_ble_eq_true rfl) ?_
  refine at_seq ?_
  refine at_region ?_
  refine at_op rfl ?_
  refine op_box rfl rfl (rfl) rfl (by decide) (fun b1 => ?_)
  refine at_rsE (by simp only [List.nil_append, List.cons_append, List.set_cons_zero, List.set_cons_succ, Value.cells, List.toList_toArray]; rfl) ?_
  refine at_op rfl ?_
  refine op_box rfl rfl (rfl) rfl (by decide) (fun b2 => ?_)
  refine at_rsE (by simp only [List.nil_append, List.cons_append, List.set_cons_zero, List.set_cons_succ, Value.cells, List.toList_toArray]; rfl) ?_
  refine at_q rfl rfl (by decide) (qt_assign rfl rfl) ?_
  refine at_end ?_
  refine at_seq ?_
  refine at_region ?_
  refine at_q rfl rfl (by decide) (qt_loadS rfl rfl tys_impl_Pt rfl (rdAll (k := 0) rfl)) ?_
  refine at_q rfl rfl (by decide) (qt_loadS rfl rfl tys_impl_Pt rfl (rdAll (k := 1) rfl)) ?_
  refine at_op rfl ?_
  refine op_buildSlice rfl rfl (bsl_sl_impl_Pt_2_0_1 rfl rfl) rfl (by decide) (fun b3 => ?_)
  refine at_rsE (by simp only [List.nil_append, List.cons_append, List.set_cons_zero, List.set_cons_succ, Value.cells, List.toList_toArray]; rfl) ?_
  refine at_q rfl rfl (by decide) (qt_call ok_impl_boundsOf rfl rfl (fun w1 hs => bounds2 _ a b w1 (ptsCel (k := 2) _ rfl rfl w1 hs))) ?_
  refine at_q rfl rfl (by decide) (qt_move rfl rfl) ?_
  refine at_q rfl rfl (by decide) (qt_extract rfl rfl rfl) ?_
  refine at_q rfl rfl (by decide) (qt_extract rfl rfl rfl) ?_
  refine at_op rfl ?_
  refine op_alloc rfl tyz_impl_Pt rfl (by decide) (fun b4 => ?_)
  refine at_rsE (by simp only [List.nil_append, List.cons_append, List.set_cons_zero, List.set_cons_succ, Value.cells, List.toList_toArray]; rfl) ?_
  refine at_op rfl ?_
  refine op_alloc rfl tyz_impl_Pt rfl (by decide) (fun b5 => ?_)
  refine at_rsE (by simp only [List.nil_append, List.cons_append, List.set_cons_zero, List.set_cons_succ, Value.cells, List.toList_toArray]; rfl) ?_
  refine at_op rfl ?_
  refine op_storeAll' (k := 3) rfl rfl rfl rfl (rfl) (by rfl) tyz_impl_Pt.szx rfl rfl rfl ?_
  refine at_rsE (by simp only [List.nil_append, List.cons_append, List.set_cons_zero, List.set_cons_succ, Value.cells, List.toList_toArray]; rfl) ?_
  refine at_op rfl ?_
  refine op_storeAll' (k := 4) rfl rfl rfl rfl (rfl) (by rfl) tyz_impl_Pt.szx rfl rfl rfl ?_
  refine at_rsE (by simp only [List.nil_append, List.cons_append, List.set_cons_zero, List.set_cons_succ, Value.cells, List.toList_toArray]; rfl) ?_
  refine at_end ?_
  refine at_seq ?_
  refine at_region ?_
  refine at_q rfl rfl (by decide) (qt_move rfl rfl) ?_
  refine at_q rfl rfl (by decide) (qt_fieldAddr rfl rfl tyf_impl_Pt_1) ?_
  refine at_q rfl rfl (by decide) (qt_load1 rfl rfl ty1_int64 (rd1 (k := 3) rfl rfl)) ?_
  refine at_q rfl rfl (by decide) (qt_sub rfl rfl rfl (by omega) (by omega)) ?_
  refine at_q rfl rfl (by decide) (qt_call ok_slices_BinarySearchFunc_sl_impl_Pt_impl_Pt_int64 rfl rfl (fun w1 hs => BinarySearch_any A n c hot (min a.2 b.2 - 1) w1 (h.over hs.fin) (fun p hp => (hp2 p hp).wide) (by omega) hmono (by omega))) ?_
  refine at_q rfl rfl (by decide) (qt_move rfl rfl) ?_
  refine at_q rfl rfl (by decide) (qt_extract rfl rfl rfl) ?_
  refine at_q rfl rfl (by decide) (qt_extract rfl rfl rfl) ?_
  refine at_q rfl rfl (by decide) (qt_assign rfl rfl) ?_
  refine at_q rfl rfl (by decide) (qt_assign rfl rfl) ?_
  refine at_end ?_
  refine at_seq ?_
  refine at_region ?_
  refine at_q rfl rfl (by decide) (qt_assign rfl rfl) ?_
  refine at_row0 (T := 107) (s := 5) ?_
  refine at_rsE (by simp only [List.nil_append, List.cons_append, List.set_cons_zero, List.set_cons_succ, Value.cells, List.toList_toArray]; rfl) ?_
  refine at_end ?_
  refine at_cutX (X := Option Addr × Nat) (fun x => True) (fun x => [(11, .slice x.1 (wayL a b hot).length x.2)]) (C := [(6, _)]) ⟨rfl, trivial⟩ (fun x => [.cel b1 29 [.int .i64 a.1, .int .i64 a.2], .cel b2 29 [.int .i64 b.1, .int .i64 b.2], .cel b3 29 [.int .i64 a.1, .int .i64 a.2, .int .i64 b.1, .int .i64 b.2], .cel b4 29 [.int .i64 (min a.1 b.1), .int .i64 (min a.2 b.2)], .cel b5 29 [.int .i64 (max a.1 b.1), .int .i64 (max a.2 b.2)], rowR (Bs.N ⟨w, []⟩) 107 5 (wayL a b hot).length ((wayL a b hot).flatMap Wy.cells) x]) (fun L hC_cutblock_0 => ?_) ?_
  · refine at_seq ?_
    rw [← hi]
    refine at_region ?_
    refine at_q rfl rfl (by decide) (qt_move rfl rfl) ?_
    refine at_q rfl rfl (by decide) (qt_move rfl rfl) ?_
    refine at_q rfl rfl (by decide) ((qt_sliceL rfl rfl rfl tyl_sl_impl_Pt (by omega)).as (eA)) ?_
    refine at_q rfl rfl (by decide) (qt_len rfl rfl tyl_sl_impl_Pt) ?_
    refine at_q rfl rfl (by decide) (qt_move rfl rfl) ?_
    refine at_end ?_
    refine at_block ?_
    refine at_loopc (X := Nat × Option Addr × Nat) (fun x => x.1 ≤ n - i) (fun x => n - i - x.1) (fun x => [(11, .slice x.2.1 (wayL a b (ys.take x.1)).length x.2.2), (38, .int .i64 (x.1 : Int))]) (C := [(3, _), (4, _), (6, _), (7, _), (8, _), (36, _), (37, _)]) ⟨rfl, rfl, rfl, rfl, rfl, rfl, rfl, trivial⟩ (fun x => [.cel b1 29 [.int .i64 a.1, .int .i64 a.2], .cel b2 29 [.int .i64 b.1, .int .i64 b.2], .cel b3 29 [.int .i64 a.1, .int .i64 a.2, .int .i64 b.1, .int .i64 b.2], .cel b4 29 [.int .i64 (min a.1 b.1), .int .i64 (min a.2 b.2)], .cel b5 29 [.int .i64 (max a.1 b.1), .int .i64 (max a.2 b.2)], rowR (Bs.N ⟨w, []⟩) 107 5 (wayL a b (ys.take x.1)).length ((wayL a b (ys.take x.1)).flatMap Wy.cells) x.2]) (0, none, 0) (Nat.zero_le _) ⟨rfl, rfl, rfl, rfl, rfl, rfl, rfl, rfl, rfl, trivial⟩ (fun _ h => h) ?_
    intro ⟨k, rA, rc⟩ hx L hL1
    refine at_envE (by simp only [List.nil_append, List.cons_append]; rfl) ?_
    refine at_rsE (by first | (dsimp only; done) | (dsimp only; rfl) | rfl) ?_
    have hk : k ≤ n - i := hx
    refine at_seq ?_
    refine at_region ?_
    refine at_q rfl rfl (by decide) (qt_lss rfl rfl rfl) ?_
    refine at_end ?_
    refine at_seq ?_
    refine at_cond rfl (fun c1 => ?_) (fun c1 => ?_)
    · try simp only [decide_eq_true_eq, decide_eq_false_iff_not, beq_iff_eq, beq_eq_false_iff_ne, Bool.not_eq_true', Bool.not_eq_false', Bool.not_true, Bool.not_false, Int.not_lt, Int.not_le, ne_eq, Nat.not_lt, Nat.not_le] at c1
      have hlt : k < n - i := (by omega)
      obtain ⟨eb, eo, rfl, _⟩ := hyp.2 (by omega)
      have hpm := hymem k (by omega)
      have hlo := hylow k (by omega)
      obtain ⟨⟨p1, p2⟩, p3, p4⟩ := hp2 _ hpm
      have hwk := hwl2 k
      refine at_skip ?_
      refine norm_then ?_
      refine at_seq ?_
      refine at_block ?_
      refine at_seq ?_
      refine at_region ?_
      refine at_q rfl rfl (by decide) (qt_index rfl rfl rfl tyl_sl_impl_Pt (by omega)) ?_
      refine at_q rfl rfl (by decide) (qt_loadS rfl rfl tys_impl_Pt rfl (rdPts (b := eb) (o := eo) hyp hlt)) ?_
      refine at_op rfl ?_
      refine op_alloc rfl tyz_impl_Pt rfl (by decide) (fun b6 => ?_)
      refine at_rsE (by simp only [List.nil_append, List.cons_append, List.set_cons_zero, List.set_cons_succ, Value.cells, List.toList_toArray]; rfl) ?_
      refine at_op rfl ?_
      refine op_storeAll' (k := 6) rfl rfl rfl rfl (rfl) (by rfl) tyz_impl_Pt.szx rfl rfl rfl ?_
      refine at_rsE (by simp only [List.nil_append, List.cons_append, List.set_cons_zero, List.set_cons_succ, Value.cells, List.toList_toArray]; rfl) ?_
      refine at_end ?_
      refine at_seq ?_
      refine at_seq ?_
      refine at_region ?_
      refine at_q rfl rfl (by decide) (qt_fieldAddr rfl rfl tyf_impl_Pt_1) ?_
      refine at_q rfl rfl (by decide) (qt_load1 rfl rfl ty1_int64 (rd1 (k := 6) rfl rfl)) ?_
      refine at_q rfl rfl (by decide) (qt_fieldAddr rfl rfl tyf_impl_Pt_1) ?_
      refine at_q rfl rfl (by decide) (qt_load1 rfl rfl ty1_int64 (rd1 (k := 4) rfl rfl)) ?_
      refine at_q rfl rfl (by decide) (qt_add rfl rfl rfl (by omega) (by omega)) ?_
      refine at_q rfl rfl (by decide) (qt_gtr rfl rfl rfl) ?_
      refine at_end ?_
      refine at_cond rfl (fun c2 => ?_) (fun c2 => ?_)
      · try simp only [decide_eq_true_eq, decide_eq_false_iff_not, beq_iff_eq, beq_eq_false_iff_ne, Bool.not_eq_true', Bool.not_eq_false', Bool.not_true, Bool.not_false, Int.not_lt, Int.not_le, ne_eq, Nat.not_lt, Nat.not_le] at c2
        rw [way_high (a := a) (b := b) hym (by omega) (by omega), hway]
        refine at_exit ?_
        refine pass_then (fun h => by cases h) ?_
        refine pass_miss (by decide) ?_
        refine pass_then (fun h => by cases h) ?_
        refine pass_then (fun h => by cases h) ?_
        refine pass_hit ?_
        refine norm_then ?_
        exact at_meetX hC_cutblock_0 ((rA, rc)) (trivial) ⟨rfl, rfl, trivial⟩ (fun _ h => h.picks [0, 1, 2, 3, 4, 5] (by decide))
      · try simp only [decide_eq_true_eq, decide_eq_false_iff_not, beq_iff_eq, beq_eq_false_iff_ne, Bool.not_eq_true', Bool.not_eq_false', Bool.not_true, Bool.not_false, Int.not_lt, Int.not_le, ne_eq, Nat.not_lt, Nat.not_le] at c2
        refine at_skip ?_
        refine norm_then ?_
        refine at_seq ?_
        refine at_cutE [(61, .bool (!boxX a b (pt ys k)))] (C := [(3, _), (4, _), (6, _), (7, _), (8, _), (36, _), (37, _), (11, _), (38, _), (39, _), (40, _), (41, _), (13, _), (42, _), (43, _), (44, _), (45, _), (46, _), (47, _)])  ⟨rfl, rfl, rfl, rfl, rfl, rfl, rfl, rfl, rfl, rfl, rfl, rfl, rfl, rfl, rfl, rfl, rfl, rfl, rfl, trivial⟩ (fun L hC_cut_8 => ?_) ?_
        · refine at_region ?_
          refine at_q rfl rfl (by decide) (qt_fieldAddr rfl rfl tyf_impl_Pt_0) ?_
          refine at_q rfl rfl (by decide) (qt_load1 rfl rfl ty1_int64 (rd1 (k := 6) rfl rfl)) ?_
          refine at_q rfl rfl (by decide) (qt_fieldAddr rfl rfl tyf_impl_Pt_0) ?_
          refine at_q rfl rfl (by decide) (qt_load1 rfl rfl ty1_int64 (rd1 (k := 3) rfl rfl)) ?_
          refine at_q rfl rfl (by decide) (qt_sub rfl rfl rfl (by omega) (by omega)) ?_
          refine at_q rfl rfl (by decide) (qt_lss rfl rfl rfl) ?_
          refine at_q rfl rfl (by decide) (qt_move rfl rfl) ?_
          refine at_bsplit 54 rfl (fun g1 => ?_) (fun g1 => ?_)
          · try simp only [decide_eq_true_eq, decide_eq_false_iff_not, beq_iff_eq, beq_eq_false_iff_ne, Bool.not_eq_true', Bool.not_eq_false', Bool.not_true, Bool.not_false, Int.not_lt, Int.not_le, ne_eq, Nat.not_lt, Nat.not_le] at g1
            refine at_off rfl rfl rfl rfl (by decide) rfl (by decide) ?_
            refine at_off rfl rfl rfl rfl (by decide) rfl (by decide) ?_
            refine at_off rfl rfl rfl rfl (by decide) rfl (by decide) ?_
            refine at_off rfl rfl rfl rfl (by decide) rfl (by decide) ?_
            refine at_off rfl rfl rfl rfl (by decide) rfl (by decide) ?_
            refine at_off rfl rfl rfl rfl (by decide) rfl (by decide) ?_
            refine at_q rfl rfl (by decide) (qt_pickT rfl rfl rfl) ?_
            refine at_end ?_
            exact at_meet hC_cut_8 ⟨vb (by rw [boxX_low (p := pt ys k) (by show px ys k < _; omega)]; rfl), rfl, rfl, rfl, rfl, rfl, rfl, rfl, rfl, rfl, rfl, rfl, rfl, rfl, rfl, rfl, rfl, rfl, rfl, rfl, trivial⟩ (fun _ h => h.upto ⟨rfl, rfl, rfl, rfl, rfl, rfl, rfl, trivial⟩)
          · try simp only [decide_eq_true_eq, decide_eq_false_iff_not, beq_iff_eq, beq_eq_false_iff_ne, Bool.not_eq_true', Bool.not_eq_false', Bool.not_true, Bool.not_false, Int.not_lt, Int.not_le, ne_eq, Nat.not_lt, Nat.not_le] at g1
            refine at_on rfl rfl rfl rfl ?_
            refine op_q rfl (by decide) (qt_fieldAddr rfl rfl tyf_impl_Pt_0) ?_
            refine at_on rfl rfl rfl rfl ?_
            refine op_q rfl (by decide) (qt_load1 rfl rfl ty1_int64 (rd1 (k := 6) rfl rfl)) ?_
            refine at_on rfl rfl rfl rfl ?_
            refine op_q rfl (by decide) (qt_fieldAddr rfl rfl tyf_impl_Pt_0) ?_
            refine at_on rfl rfl rfl rfl ?_
            refine op_q rfl (by decide) (qt_load1 rfl rfl ty1_int64 (rd1 (k := 4) rfl rfl)) ?_
            refine at_on rfl rfl rfl rfl ?_
            refine op_q rfl (by decide) (qt_add rfl rfl rfl (by omega) (by omega)) ?_
            refine at_on rfl rfl rfl rfl ?_
            refine op_q rfl (by decide) (qt_gtr rfl rfl rfl) ?_
            refine at_q rfl rfl (by decide) (qt_pickF rfl rfl rfl) ?_
            refine at_end ?_
            exact at_meet hC_cut_8 ⟨vb (boxX_rest (p := pt ys k) (by show _ ≤ px ys k; omega)), rfl, rfl, rfl, rfl, rfl, rfl, rfl, rfl, rfl, rfl, rfl, rfl, rfl, rfl, rfl, rfl, rfl, rfl, rfl, trivial⟩ (fun _ h => h.upto ⟨rfl, rfl, rfl, rfl, rfl, rfl, rfl, trivial⟩)
        · refine at_envE (by simp only [List.nil_append, List.cons_append]; rfl) ?_
          refine at_cond rfl (fun c3 => ?_) (fun c3 => ?_)
          · try simp only [decide_eq_true_eq, decide_eq_false_iff_not, beq_iff_eq, beq_eq_false_iff_ne, Bool.not_eq_true', Bool.not_eq_false', Bool.not_true, Bool.not_false, Int.not_lt, Int.not_le, ne_eq, Nat.not_lt, Nat.not_le] at c3
            refine at_exit ?_
            refine pass_then (fun h => by cases h) ?_
            refine pass_hit ?_
            refine norm_then ?_
            refine at_region ?_
            refine at_q rfl rfl (by decide) (qt_add rfl rfl rfl (by omega) (by omega)) ?_
            refine at_q rfl rfl (by decide) (qt_move rfl rfl) ?_
            refine at_end ?_
            exact at_againc hL1 ((k + 1, rA, rc)) ((show k + 1 ≤ n - i by omega)) (by simp only; omega) ⟨(by rw [way_no (by omega) (onWay_b1 (by simpa using c3))]; rfl), vi (by omega), rfl, rfl, rfl, rfl, rfl, rfl, rfl, trivial⟩ (fun _ h => h.upto ⟨rfl, rfl, rfl, rfl, rfl, by rw [way_no (by omega) (onWay_b1 (by simpa using c3))], trivial⟩)
          · try simp only [decide_eq_true_eq, decide_eq_false_iff_not, beq_iff_eq, beq_eq_false_iff_ne, Bool.not_eq_true', Bool.not_eq_false', Bool.not_true, Bool.not_false, Int.not_lt, Int.not_le, ne_eq, Nat.not_lt, Nat.not_le] at c3
            refine at_skip ?_
            refine norm_then ?_
            refine at_seq ?_
            refine at_region ?_
            refine at_q rfl rfl (by decide) (qt_loadS rfl rfl tys_impl_Pt rfl (rdAll (k := 0) rfl)) ?_
            refine at_q rfl rfl (by decide) (qt_loadS rfl rfl tys_impl_Pt rfl (rdAll (k := 1) rfl)) ?_
            refine at_q rfl rfl (by decide) (qt_loadS rfl rfl tys_impl_Pt rfl (rdAll (k := 6) rfl)) ?_
            refine at_q rfl rfl (by decide) (qt_call ok_impl_walkPixel rfl rfl (fun w1 hs => walkPixel_p a b (pt ys k) w1 ha hb (hh _ hpm))) ?_
            refine at_q rfl rfl (by decide) (qt_move rfl rfl) ?_
            refine at_q rfl rfl (by decide) (qt_extract rfl rfl rfl) ?_
            refine at_q rfl rfl (by decide) (qt_extract rfl rfl rfl) ?_
            refine at_op rfl ?_
            refine op_alloc rfl tyz_impl_pixelWalk rfl (by decide) (fun b7 => ?_)
            refine at_rsE (by simp only [List.nil_append, List.cons_append, List.set_cons_zero, List.set_cons_succ, Value.cells, List.toList_toArray]; rfl) ?_
            refine at_op rfl ?_
            refine op_storeAll' (k := 7) rfl rfl rfl rfl (rfl) (by rfl) tyz_impl_pixelWalk.szx rfl rfl rfl ?_
            refine at_rsE (by simp only [List.nil_append, List.cons_append, List.set_cons_zero, List.set_cons_succ, Value.cells, List.toList_toArray]; rfl) ?_
            refine at_q rfl rfl (by decide) (qt_assign rfl rfl) ?_
            refine at_end ?_
            refine at_seq ?_
            refine at_region ?_
            refine at_q rfl rfl (by decide) (qt_move rfl rfl) ?_
            refine at_end ?_
            refine at_cond rfl (fun c4 => ?_) (fun c4 => ?_)
            · try simp only [decide_eq_true_eq, decide_eq_false_iff_not, beq_iff_eq, beq_eq_false_iff_ne, Bool.not_eq_true', Bool.not_eq_false', Bool.not_true, Bool.not_false, Int.not_lt, Int.not_le, ne_eq, Nat.not_lt, Nat.not_le] at c4
              rw [wkS_eq c4]
              refine at_region ?_
              refine at_q rfl rfl (by decide) (qt_move rfl rfl) ?_
              refine at_q rfl rfl (by decide) (qt_loadS rfl rfl tys_impl_Pt rfl (rdAll (k := 6) rfl)) ?_
              refine at_q rfl rfl (by decide) (qt_fieldAddr rfl rfl tyf_impl_pixelWalk_0) ?_
              refine at_q rfl rfl (by decide) (qt_loadS rfl rfl tys_impl_bound rfl (rd3 (k := 7) rfl rfl rfl rfl)) ?_
              refine at_q rfl rfl (by decide) (qt_build rfl rfl (bld_impl_wayPoint_0_1 rfl rfl)) ?_
              refine at_op rfl ?_
              refine op_buildSlice rfl rfl (bsl_sl_impl_wayPoint_1_0 rfl) rfl (by decide) (fun b8 => ?_)
              refine at_rsE (by simp only [List.nil_append, List.cons_append, List.set_cons_zero, List.set_cons_succ, Value.cells, List.toList_toArray]; rfl) ?_
              refine at_op rfl ?_
              refine op_appendR (k := 5) rfl tyl_sl_impl_wayPoint tyz_impl_wayPoint (by decide) rfl (by decide) rfl rfl rfl (fun w' hs => src_cel hs (k := 8) rfl rfl) (by simp [Value.oneCell']) (by unfold maxLen; omega) (by omega) (Nat.le_refl _) (fun r1 => ?_)
              refine at_rsE (by simp only [List.nil_append, List.cons_append, List.set_cons_zero, List.set_cons_succ, Value.cells, List.toList_toArray]; rfl) ?_
              refine at_q rfl rfl (by decide) (qt_assign rfl rfl) ?_
              refine at_nil ?_
              refine norm_block ?_
              refine norm_then ?_
              refine at_region ?_
              refine at_q rfl rfl (by decide) (qt_add rfl rfl rfl (by omega) (by omega)) ?_
              refine at_q rfl rfl (by decide) (qt_move rfl rfl) ?_
              refine at_end ?_
              exact at_againc hL1 ((k + 1, r1)) ((show k + 1 ≤ n - i by omega)) (by simp only; omega) ⟨(by rw [way_yes (by omega) (onWay_yes (by simpa using c3) (boxY_yes hlo (by show py ys k ≤ _; omega)) c4), List.length_append]; rfl), vi (by omega), rfl, rfl, rfl, rfl, rfl, rfl, rfl, trivial⟩ (fun _ h => h.upto ⟨rfl, rfl, rfl, rfl, rfl, by rw [way_yes (by omega) (onWay_yes (by simpa using c3) (boxY_yes hlo (by show py ys k ≤ _; omega)) c4), List.length_append, List.flatMap_append]; rfl, trivial⟩)
            · try simp only [decide_eq_true_eq, decide_eq_false_iff_not, beq_iff_eq, beq_eq_false_iff_ne, Bool.not_eq_true', Bool.not_eq_false', Bool.not_true, Bool.not_false, Int.not_lt, Int.not_le, ne_eq, Nat.not_lt, Nat.not_le] at c4
              refine at_skip ?_
              refine norm_block ?_
              refine norm_then ?_
              refine at_region ?_
              refine at_q rfl rfl (by decide) (qt_add rfl rfl rfl (by omega) (by omega)) ?_
              refine at_q rfl rfl (by decide) (qt_move rfl rfl) ?_
              refine at_end ?_
              exact at_againc hL1 ((k + 1, rA, rc)) ((show k + 1 ≤ n - i by omega)) (by simp only; omega) ⟨(by rw [way_no (by omega) (onWay_b3 c4)]; rfl), vi (by omega), rfl, rfl, rfl, rfl, rfl, rfl, rfl, trivial⟩ (fun _ h => h.upto ⟨rfl, rfl, rfl, rfl, rfl, by rw [way_no (by omega) (onWay_b3 c4)], trivial⟩)
    · try simp only [decide_eq_true_eq, decide_eq_false_iff_not, beq_iff_eq, beq_eq_false_iff_ne, Bool.not_eq_true', Bool.not_eq_false', Bool.not_true, Bool.not_false, Int.not_lt, Int.not_le, ne_eq, Nat.not_lt, Nat.not_le] at c1
      rw [List.take_of_length_le (by omega), hway]
      refine at_exit ?_
      refine pass_then (fun h => by cases h) ?_
      refine pass_then (fun h => by cases h) ?_
      refine pass_hit ?_
      refine norm_then ?_
      exact at_meetX hC_cutblock_0 ((rA, rc)) (trivial) ⟨rfl, rfl, trivial⟩ (fun _ h => h.picks [0, 1, 2, 3, 4, 5] (by decide))
  · rintro ⟨sA, sc⟩ -
    refine at_envE (by simp only [List.nil_append, List.cons_append]; rfl) ?_
    refine at_rsE (by first | (dsimp only; done) | (dsimp only; rfl) | rfl) ?_
    refine at_seq ?_
    refine at_region ?_
    refine at_q rfl rfl (by decide) (qt_move rfl rfl) ?_
    refine at_op rfl ?_
    refine op_callw (k := 5) (r' := rowR 0 107 5 (wayL a b hot).length ((srt (ltC cmpWy) (wayL a b hot)).flatMap Wy.cells) (sA, sc)) ok_slices_SortStableFunc_sl_impl_wayPoint_impl_wayPoint rfl rfl rfl (by decide) rfl (fun w1 hs => sortWy_row (hs.all 5 _ rfl).1 rfl hwb (by omega)) (fun _ h => h) rfl ?_
    refine at_rsE (by simp only [List.nil_append, List.cons_append, List.set_cons_zero, List.set_cons_succ, Value.cells, List.toList_toArray]; rfl) ?_
    refine at_end ?_
    refine at_seq ?_
    refine at_region ?_
    refine at_q rfl rfl (by decide) (qt_assign rfl rfl) ?_
    refine at_row0 (T := 29) (s := 2) ?_
    refine at_rsE (by simp only [List.nil_append, List.cons_append, List.set_cons_zero, List.set_cons_succ, Value.cells, List.toList_toArray]; rfl) ?_
    refine at_end ?_
    refine at_seq ?_
    refine at_seq ?_
    refine at_region ?_
    refine at_q rfl rfl (by decide) (qt_move rfl rfl) ?_
    refine at_q rfl rfl (by decide) (qt_len rfl rfl tyl_sl_impl_wayPoint) ?_
    refine at_q rfl rfl (by decide) (qt_move rfl rfl) ?_
    refine at_end ?_
    refine at_block ?_
    refine at_loopc (X := Nat × Option Addr × Nat) (fun y => y.1 ≤ (wayL a b hot).length) (fun y => (wayL a b hot).length - y.1) (fun y => [(16, .slice y.2.1 y.1 y.2.2), (82, .int .i64 (y.1 : Int))]) (C := [(6, _), (80, _), (81, _)]) ⟨rfl, rfl, rfl, trivial⟩ (fun y => [.cel b1 29 [.int .i64 a.1, .int .i64 a.2], .cel b2 29 [.int .i64 b.1, .int .i64 b.2], .cel b3 29 [.int .i64 a.1, .int .i64 a.2, .int .i64 b.1, .int .i64 b.2], .cel b4 29 [.int .i64 (min a.1 b.1), .int .i64 (min a.2 b.2)], .cel b5 29 [.int .i64 (max a.1 b.1), .int .i64 (max a.2 b.2)], rowR 0 107 5 (wayL a b hot).length ((srt (ltC cmpWy) (wayL a b hot)).flatMap Wy.cells) (sA, sc), rowR (Bs.N ⟨w, []⟩) 29 2 y.1 (((pathP a b hot).take y.1).flatMap ptCells) y.2]) (0, none, 0) (Nat.zero_le _) ⟨rfl, rfl, rfl, rfl, rfl, trivial⟩ (fun _ h => h) ?_
    intro ⟨j, qA, qc⟩ hy L hL2
    refine at_envE (by simp only [List.nil_append, List.cons_append]; rfl) ?_
    refine at_rsE (by first | (dsimp only; done) | (dsimp only; rfl) | rfl) ?_
    have hj : j ≤ (wayL a b hot).length := hy
    refine at_seq ?_
    refine at_region ?_
    refine at_q rfl rfl (by decide) (qt_lss rfl rfl rfl) ?_
    refine at_end ?_
    refine at_seq ?_
    refine at_cond rfl (fun c5 => ?_) (fun c5 => ?_)
    · try simp only [decide_eq_true_eq, decide_eq_false_iff_not, beq_iff_eq, beq_eq_false_iff_ne, Bool.not_eq_true', Bool.not_eq_false', Bool.not_true, Bool.not_false, Int.not_lt, Int.not_le, ne_eq, Nat.not_lt, Nat.not_le] at c5
      have hlt : j < (wayL a b hot).length := (by omega)
      refine at_fact (fun w hs => rowSome (k := 5) rfl hs (by omega)) ?_
      rintro ⟨eg, rfl⟩
      obtain ⟨e, he⟩ : ∃ e, (srt (ltC cmpWy) (wayL a b hot))[j]? = some e := ⟨_, List.getElem?_eq_getElem (by omega)⟩
      refine at_skip ?_
      refine norm_then ?_
      refine at_seq ?_
      refine at_block ?_
      refine at_seq ?_
      refine at_region ?_
      refine at_q rfl rfl (by decide) (qt_index (j := j) rfl rfl rfl tyl_sl_impl_wayPoint (by omega)) ?_
      refine at_q rfl rfl (by decide) (qt_loadS rfl rfl tys_impl_wayPoint rfl (rdRowWy (k := 5) rfl he)) ?_
      refine at_op rfl ?_
      refine op_alloc rfl tyz_impl_wayPoint rfl (by decide) (fun b9 => ?_)
      refine at_rsE (by simp only [List.nil_append, List.cons_append, List.set_cons_zero, List.set_cons_succ, Value.cells, List.toList_toArray]; rfl) ?_
      refine at_op rfl ?_
      refine op_storeAll' (k := 7) rfl rfl rfl rfl (rfl) (by rfl) tyz_impl_wayPoint.szx rfl rfl rfl ?_
      refine at_rsE (by simp only [List.nil_append, List.cons_append, List.set_cons_zero, List.set_cons_succ, Value.cells, List.toList_toArray]; rfl) ?_
      refine at_end ?_
      refine at_region ?_
      refine at_q rfl rfl (by decide) (qt_move rfl rfl) ?_
      refine at_q rfl rfl (by decide) (qt_fieldAddr rfl rfl tyf_impl_wayPoint_0) ?_
      refine at_q rfl rfl (by decide) (qt_loadS rfl rfl tys_impl_Pt rfl (rd2 (k := 7) rfl rfl rfl)) ?_
      refine at_op rfl ?_
      refine op_buildSlice rfl rfl (bsl_sl_impl_Pt_1_0 rfl) rfl (by decide) (fun b10 => ?_)
      refine at_rsE (by simp only [List.nil_append, List.cons_append, List.set_cons_zero, List.set_cons_succ, Value.cells, List.toList_toArray]; rfl) ?_
      refine at_op rfl ?_
      refine op_appendR (k := 6) rfl tyl_sl_impl_Pt tyz_impl_Pt (by decide) rfl (by decide) rfl rfl rfl (fun w' hs => src_cel hs (k := 8) rfl rfl) (by simp [Value.oneCell']) (by unfold maxLen; omega) (by omega) (Nat.le_refl _) (fun r2 => ?_)
      refine at_rsE (by simp only [List.nil_append, List.cons_append, List.set_cons_zero, List.set_cons_succ, Value.cells, List.toList_toArray]; rfl) ?_
      refine at_q rfl rfl (by decide) (qt_assign rfl rfl) ?_
      refine at_nil ?_
      refine norm_block ?_
      refine norm_then ?_
      refine at_region ?_
      refine at_q rfl rfl (by decide) (qt_add rfl rfl rfl (by omega) (by omega)) ?_
      refine at_q rfl rfl (by decide) (qt_move rfl rfl) ?_
      refine at_end ?_
      exact at_againc hL2 ((j + 1, r2)) ((show j + 1 ≤ (wayL a b hot).length by omega)) (by simp only; omega) ⟨rfl, vi (by omega), rfl, rfl, rfl, trivial⟩ (fun _ h => h.upto ⟨rfl, rfl, rfl, rfl, rfl, rfl, by rw [pathP, ← path_step he], trivial⟩)
    · try simp only [decide_eq_true_eq, decide_eq_false_iff_not, beq_iff_eq, beq_eq_false_iff_ne, Bool.not_eq_true', Bool.not_eq_false', Bool.not_true, Bool.not_false, Int.not_lt, Int.not_le, ne_eq, Nat.not_lt, Nat.not_le] at c5
      have hje : j = (wayL a b hot).length := (by omega)
      subst hje
      rw [List.take_of_length_le (by omega)]
      refine at_exit ?_
      refine pass_then (fun h => by cases h) ?_
      refine pass_then (fun h => by cases h) ?_
      refine pass_hit ?_
      refine norm_then ?_
      refine at_seq ?_
      refine at_region ?_
      refine at_q rfl rfl (by decide) (qt_move rfl rfl) ?_
      refine at_q rfl rfl (by decide) (qt_assign rfl rfl) ?_
      refine at_end ?_
      refine at_retc ?_
      refine at_ret1 rfl (.tmp rfl) ?_
      intro w' hs
      have hr := hs.all 6 _ rfl
      exact ⟨_, rfl, row_from (by rw [hpl]; exact hr.1) (fun b hb => (hr.2.1 b hb).elim id (fun h => by cases h)), hs.fin⟩
  -- NOT USED: meetxblock 0.1
end Go.Proofs.Ytakdjgldcpompaa
