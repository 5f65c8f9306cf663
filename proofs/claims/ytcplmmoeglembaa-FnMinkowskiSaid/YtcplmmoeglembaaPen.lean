/- Hulls of points: the program's; pens; pens in directions; reflections. -/
import Derived.Test.YtcplmmoeglembaaHull
import Derived.Test.YtcplmmoeglembaaLaw
import Derived.Test.YtcplmmoeglembaaHotLaw
import Derived.Test.YtcplmmoeglembaaLawKit
namespace Go.Proofs.Ytcplmmoeglembaa
open Go Go.RowKit
set_option linter.unusedVariables false
set_option linter.unusedSimpArgs false
set_option maxRecDepth 100000
set_option maxHeartbeats 4000000
set_option linter.unusedVariables false
set_option linter.unusedSimpArgs false

theorem reverse_rowP {B g n c : Nat} {xs : List Pn} {w : World} (h : (rowR B 34 2 n (xs.flatMap ptCells) (some ⟨g, 0, none⟩, c)).P w) (hn : xs.length = n) (hn2 : n ≤ 1048576) :
    Calls Try.prog 97 #[.slice (some ⟨g, 0, none⟩) n c] w fun e w' => e = .returned (.tuple #[]) ∧ Wrs (rowR B 34 2 n (xs.flatMap ptCells) (some ⟨g, 0, none⟩, c)).F w w' ∧ (ptsR n xs.reverse g (g + 1) (some ⟨g, 0, none⟩)).P w' := by
  have ho : OwnP g (g + 1) w (some ⟨g, 0, none⟩) n xs := ownP_row (x := (some ⟨g, 0, none⟩, c)) h hn
  have hlt : g < w.heap.size := (rowR B 34 2 n (xs.flatMap ptCells) (some ⟨g, 0, none⟩, c)).low w h g rfl
  refine (ReversePt_any g (g + 1) _ n c xs w ho (by omega)).mono ?_
  rintro e w' ⟨he, hw, ho'⟩
  exact ⟨he, hw.mono fun b hb => by rw [hb.2.1]; rfl, ptsP ho' (by have := hw.size; omega)⟩
theorem spanF {n g c B T m : Nat} {xs : List Pn} {ys : List Value} (b : Nat) (hb : (ptsR n xs g (g + 1) (some ⟨g, 0, none⟩)).F b) : (rowR B T 2 m ys (some ⟨g, 0, none⟩, c)).F b := by
  obtain ⟨h1, h2⟩ := hb
  show some g = some b
  rw [show g = b by omega]
theorem hullOf_any (A : Option Addr) (n c : Nat) (xs : List Pn) (w : World) (h : Pts w A n xs) (hx : ∀ p ∈ xs, bdH p) (h0 : 0 < n) (hn : n ≤ 1048576) :
    Calls Try.prog 53 #[.slice A n c] w fun e w' => ∃ v, e = .returned v ∧ w'.ownsRow w.heap.size 34 2 v (hullP xs).length ((hullP xs).flatMap ptCells) ∧ Over w w' := by
  have hl := h.1
  have hbd : ∀ p ∈ xs, bdW p := fun p hp => (hx p hp).wide
  have hpl := putAll_len xs
  have hpp := putAll_pos (l := xs) (by omega)
  have hpx : ∀ p ∈ putAll xs, bdH p := fun p hp => hx p ((putAll_mem xs p).1 hp)
  refine walk_from (m := 26) (Try.func53) rfl rfl (Nat.le_of_ble_eq_true rfl) ?_
  refine at_seq ?_
  refine at_region ?_
  refine at_q rfl rfl (by decide) (qt_assign rfl rfl) ?_
  refine at_end ?_
  refine at_seq ?_
  refine at_region ?_
  refine at_q rfl rfl (by decide) (qt_move rfl rfl) ?_
  refine at_op rfl ?_
  refine op_call ok_slices_Clone_sl_impl_Pt_impl_Pt (v := fun x => .slice x.1 _ x.2) (r := fun x => rowR 0 34 2 _ _ x) (H := fun _ => True) rfl rfl rfl (by decide) (fun w1 hs => newRow' (ClonePt_any A n c xs w1 (h.over hs.fin) h0 (by omega))) ?_
  rintro ⟨rA, rc⟩ -
  refine at_rsE (by simp only [List.nil_append, List.cons_append, List.set_cons_zero, List.set_cons_succ, Value.cells, List.toList_toArray]; rfl) ?_
  refine at_q rfl rfl (by decide) (qt_assign rfl rfl) ?_
  refine at_end ?_
  refine at_fact (fun w hs => rowSome (k := 0) rfl hs h0) ?_
  rintro ⟨eg, rfl⟩
  refine at_seq ?_
  refine at_region ?_
  refine at_q rfl rfl (by decide) (qt_move rfl rfl) ?_
  refine at_op rfl ?_
  refine op_callP (k := 0) (X := { ys : List Pn // ys.Perm xs ∧ Ris ys }) (v := fun _ => .tuple #[]) (r' := fun x => rowR 0 34 2 _ (x.1.flatMap ptCells) (some ⟨eg, 0, none⟩, rc)) ok_slices_SortFunc_sl_impl_Pt_impl_Pt rfl rfl rfl (by decide) rfl (fun w1 hs => sort_put (hs.all 0 _ rfl).1 hl hbd (by omega) h0) ?_
  rintro ⟨ys, hperm, hris⟩
  refine at_rsE (by simp only [List.nil_append, List.cons_append, List.set_cons_zero, List.set_cons_succ, Value.cells, List.toList_toArray]; rfl) ?_
  refine at_end ?_
  refine at_seq ?_
  refine at_region ?_
  refine at_q rfl rfl (by decide) (qt_move rfl rfl) ?_
  refine at_op rfl ?_
  refine op_callw (k := 0) (r' := rowR 0 34 2 (compP ys).length ((compP ys).flatMap ptCells) (some ⟨eg, 0, none⟩, rc)) ok_slices_Compact_sl_impl_Pt_impl_Pt rfl rfl rfl (by decide) rfl (fun w1 hs => Compact_row (hs.all 0 _ rfl).1 (hperm.length_eq.trans hl) h0 (by omega)) (fun _ h => h) rfl ?_
  refine at_rsE (by simp only [List.nil_append, List.cons_append, List.set_cons_zero, List.set_cons_succ, Value.cells, List.toList_toArray]; rfl) ?_
  refine at_q rfl rfl (by decide) (qt_assign rfl rfl) ?_
  refine at_end ?_
  have he := comp_put hris (fun q => hperm.mem_iff)
  rw [he]
  refine at_seq ?_
  refine at_seq ?_
  refine at_region ?_
  refine at_q rfl rfl (by decide) (qt_move rfl rfl) ?_
  refine at_q rfl rfl (by decide) (qt_len rfl rfl tyl_sl_impl_Pt) ?_
  refine at_q rfl rfl (by decide) (qt_lss rfl rfl rfl) ?_
  refine at_end ?_
  refine at_cond rfl (fun c1 => ?_) (fun c1 => ?_)
  · try simp only [decide_eq_true_eq, decide_eq_false_iff_not, beq_iff_eq, beq_eq_false_iff_ne, Bool.not_eq_true', Bool.not_eq_false', Bool.not_true, Bool.not_false, Int.not_lt, Int.not_le, ne_eq, Nat.not_lt, Nat.not_le] at c1
    have he2 : hullP xs = putAll xs := by rw [hullP, hullS, if_pos (by omega)]
    refine at_seq ?_
    refine at_region ?_
    refine at_q rfl rfl (by decide) (qt_move rfl rfl) ?_
    refine at_q rfl rfl (by decide) (qt_assign rfl rfl) ?_
    refine at_end ?_
    refine at_retc ?_
    refine then_ret ?_
    refine at_ret1 rfl (.tmp rfl) ?_
    intro w' hs
    have hr := hs.all 0 _ rfl
    exact ⟨_, rfl, by rw [he2]; exact row_from hr.1 (fun b hb => (hr.2.1 b hb).elim id (fun h => by cases h)), hs.fin⟩
  · try simp only [decide_eq_true_eq, decide_eq_false_iff_not, beq_iff_eq, beq_eq_false_iff_ne, Bool.not_eq_true', Bool.not_eq_false', Bool.not_true, Bool.not_false, Int.not_lt, Int.not_le, ne_eq, Nat.not_lt, Nat.not_le] at c1
    have he2 : hullP xs = sideP (putAll xs) ++ sideP (putAll xs).reverse := by rw [hullP, hullS, if_neg (by omega)]
    have hs2 := chain_two (l := (putAll xs).reverse) (by rw [List.length_reverse]; omega) (by have := asc_ends (putAll_asc xs) (by omega); rw [List.getElem?_reverse (by omega), List.getElem?_reverse (by simp; omega), List.length_reverse]; simp only [Nat.sub_zero]; rw [show (putAll xs).length - 1 - ((putAll xs).length - 1) = 0 by omega]; exact this.symm)
    have hsl := side_len (putAll xs).reverse
    have hcl := chain_len (putAll xs).reverse
    have hcl1 := chain_len (putAll xs)
    have hsl1 := side_len (putAll xs)
    rw [List.length_reverse] at hcl
    refine at_skip ?_
    refine norm_then ?_
    refine at_seq ?_
    refine at_region ?_
    refine at_q rfl rfl (by decide) (qt_assign rfl rfl) ?_
    refine at_end ?_
    refine at_seq ?_
    refine at_region ?_
    refine at_q rfl rfl (by decide) (qt_move rfl rfl) ?_
    refine at_q rfl rfl (by decide) (qt_move rfl rfl) ?_
    refine at_op rfl ?_
    refine op_callk ok_impl_hullOf_1 (v := fun x => .slice x.1 _ x.2) (r := fun x => rowR 0 34 2 _ _ x) (H := fun _ => True) rfl rfl rfl rfl (by decide) (fun w1 hs => newRow' (half_any _ _ _ (putAll xs) w1 (ptsRow (hs.all 0 _ rfl).1 rfl) hpx hpp (by omega))) ?_
    rintro ⟨uA, uc⟩ -
    refine at_rsE (by simp only [List.nil_append, List.cons_append, List.set_cons_zero, List.set_cons_succ, Value.cells, List.toList_toArray]; rfl) ?_
    refine at_q rfl rfl (by decide) (qt_assign rfl rfl) ?_
    refine at_end ?_
    refine at_seq ?_
    refine at_region ?_
    refine at_q rfl rfl (by decide) (qt_move rfl rfl) ?_
    refine at_op rfl ?_
    refine op_callw (k := 0) (r' := ptsR _ (putAll xs).reverse eg (eg + 1) (some ⟨eg, 0, none⟩)) ok_slices_Reverse_sl_impl_Pt_impl_Pt rfl rfl rfl (by decide) rfl (fun w1 hs => reverse_rowP (hs.all 0 _ rfl).1 rfl (by omega)) (fun b hb => spanF b hb) rfl ?_
    refine at_rsE (by simp only [List.nil_append, List.cons_append, List.set_cons_zero, List.set_cons_succ, Value.cells, List.toList_toArray]; rfl) ?_
    refine at_end ?_
    refine at_seq ?_
    refine at_region ?_
    refine at_q rfl rfl (by decide) (qt_move rfl rfl) ?_
    refine at_q rfl rfl (by decide) (qt_move rfl rfl) ?_
    refine at_q rfl rfl (by decide) (qt_move rfl rfl) ?_
    refine at_op rfl ?_
    refine op_callk ok_impl_hullOf_1 (v := fun x => .slice x.1 _ x.2) (r := fun x => rowR 0 34 2 _ _ x) (H := fun _ => True) rfl rfl rfl rfl (by decide) (fun w1 hs => newRow' (half_any _ _ _ (putAll xs).reverse w1 (ptsPts (k := 0) rfl w1 hs) (fun p hp => hpx p (List.mem_reverse.1 hp)) hpp (by omega))) ?_
    rintro ⟨dA, dc⟩ -
    refine at_rsE (by simp only [List.nil_append, List.cons_append, List.set_cons_zero, List.set_cons_succ, Value.cells, List.toList_toArray]; rfl) ?_
    refine at_op rfl ?_
    refine op_appendR (k := 1) rfl tyl_sl_impl_Pt tyz_impl_Pt (by decide) rfl (by decide) rfl rfl rfl (fun w' hs => srcPts (ptsRow (hs.all 2 _ rfl).1 rfl) (by omega)) (ptCells_one _) (by unfold maxLen; omega) (by omega) (Nat.zero_le _) (fun r1 => ?_)
    refine at_rsE (by simp only [List.nil_append, List.cons_append, List.set_cons_zero, List.set_cons_succ, Value.cells, List.toList_toArray]; rfl) ?_
    refine at_q rfl rfl (by decide) (qt_assign rfl rfl) ?_
    refine at_end ?_
    refine at_retc ?_
    refine at_ret1 rfl (.tmp rfl) ?_
    intro w' hs
    have hr := hs.all 1 _ rfl
    exact ⟨_, rfl, by rw [he2, List.length_append, List.flatMap_append]; exact row_from hr.1 (fun b hb => (hr.2.1 b hb).elim id (fun h => by cases h)), hs.fin⟩
theorem allOk_bd {xs : List Pn} (h : allOk xs = true) : ∀ p ∈ xs, bd2 p := fun p hp => by
  simp only [allOk, List.all_eq_true] at h
  have := h p hp
  simp [okB, inB] at this
  exact ⟨⟨by omega, by omega⟩, by omega, by omega⟩
theorem okB_bd2 {p : Pn} (h : okB p.1 p.2 = true) : bd2 p := by
  simp [okB, inB] at h
  exact ⟨⟨by omega, by omega⟩, by omega, by omega⟩
theorem allOk_H {xs : List Pn} (h : allOk xs = true) : ∀ p ∈ xs, bdH p := fun p hp => (allOk_bd h p hp).mid
/-- Whether points are a pen. -/
def penB (xs : List Pn) : Bool := decide (1 ≤ xs.length) && decide (xs.length ≤ 16) && allOk xs && decide (hullP xs = xs)
theorem pen_of {xs : List Pn} (h : penB xs = true) : (1 ≤ xs.length ∧ xs.length ≤ 16) ∧ allOk xs = true ∧ hullP xs = xs := by
  simp only [penB, Bool.and_eq_true, decide_eq_true_eq] at h
  exact ⟨h.1.1, h.1.2, h.2⟩
theorem pen_in (xs : List Pn) : (inB (xs.length : Int) 1 16 && allOk xs && decide (hullP xs = xs)) = penB xs := by
  have e : inB (xs.length : Int) 1 16 = (decide (1 ≤ xs.length) && decide (xs.length ≤ 16)) := by
    rw [Bool.eq_iff_iff]
    simp [inB]
    omega
  rw [e, penB]
theorem inB16 {n : Nat} (h : inB (n : Int) 1 16 = true) : n ≤ 500000 := by
  simp [inB] at h
  omega
theorem IsPen_any (A : Option Addr) (n c : Nat) (xs : List Pn) (w : World) (h : Pts w A n xs) (hn : (n : Int) ≤ 1048576) :
    Calls Try.prog 52 #[.slice A n c] w fun e w' => e = .returned (.bool (penB xs)) ∧ Over w w' := by
  have hl := h.1
  have hhl := hull_len xs
  refine walk_from (m := 21) (Try.func52) rfl rfl (Nat.le_of_ble_eq_true rfl) ?_
  refine at_seq ?_
  refine at_region ?_
  refine at_q rfl rfl (by decide) (qt_assign rfl rfl) ?_
  refine at_end ?_
  refine at_seq ?_
  refine at_region ?_
  refine at_q rfl rfl (by decide) (qt_move rfl rfl) ?_
  refine at_q rfl rfl (by decide) (qt_len rfl rfl tyl_sl_impl_Pt) ?_
  refine at_q rfl rfl (by decide) (qt_geq rfl rfl rfl) ?_
  refine at_q rfl rfl (by decide) (qt_move rfl rfl) ?_
  refine at_bsplit 6 rfl (fun g1 => ?_) (fun g1 => ?_)
  · try simp only [decide_eq_true_eq, decide_eq_false_iff_not, beq_iff_eq, beq_eq_false_iff_ne, Bool.not_eq_true', Bool.not_eq_false', Bool.not_true, Bool.not_false, Int.not_lt, Int.not_le, ne_eq, Nat.not_lt, Nat.not_le] at g1
    refine at_on rfl rfl rfl rfl ?_
    refine op_q rfl (by decide) (qt_move rfl rfl) ?_
    refine at_on rfl rfl rfl rfl ?_
    refine op_q rfl (by decide) (qt_len rfl rfl tyl_sl_impl_Pt) ?_
    refine at_on rfl rfl rfl rfl ?_
    refine op_q rfl (by decide) (qt_leq rfl rfl rfl) ?_
    refine at_q rfl rfl (by decide) (qt_pickT rfl rfl rfl) ?_
    refine at_q rfl rfl (by decide) (qt_move rfl rfl) ?_
    refine at_bsplit 11 rfl (fun g2 => ?_) (fun g2 => ?_)
    · try simp only [decide_eq_true_eq, decide_eq_false_iff_not, beq_iff_eq, beq_eq_false_iff_ne, Bool.not_eq_true', Bool.not_eq_false', Bool.not_true, Bool.not_false, Int.not_lt, Int.not_le, ne_eq, Nat.not_lt, Nat.not_le] at g2
      refine at_on rfl rfl rfl rfl ?_
      refine op_q rfl (by decide) (qt_move rfl rfl) ?_
      refine at_on rfl rfl rfl rfl ?_
      refine op_q rfl (by decide) (qt_call ok_impl_validPts rfl rfl (fun w1 hs => validPts_any A n c xs w1 (h.over hs.fin) hn)) ?_
      refine at_q rfl rfl (by decide) (qt_pickT rfl rfl rfl) ?_
      refine at_q rfl rfl (by decide) (qt_move rfl rfl) ?_
      refine at_bsplit 15 rfl (fun g3 => ?_) (fun g3 => ?_)
      · try simp only [decide_eq_true_eq, decide_eq_false_iff_not, beq_iff_eq, beq_eq_false_iff_ne, Bool.not_eq_true', Bool.not_eq_false', Bool.not_true, Bool.not_false, Int.not_lt, Int.not_le, ne_eq, Nat.not_lt, Nat.not_le] at g3
        refine at_on rfl rfl rfl rfl ?_
        refine op_q rfl (by decide) (qt_move rfl rfl) ?_
        refine at_on rfl rfl rfl rfl ?_
        refine op_call ok_impl_hullOf (v := fun x => .slice x.1 _ x.2) (r := fun x => rowR 0 34 2 _ _ x) (H := fun _ => True) rfl rfl rfl (by decide) (fun w1 hs => newRow' (hullOf_any A n c xs w1 (h.over hs.fin) (allOk_H (by assumption)) (by omega) (by omega))) ?_
        rintro ⟨pA, pc⟩ -
        refine at_rsE (by simp only [List.nil_append, List.cons_append, List.set_cons_zero, List.set_cons_succ, Value.cells, List.toList_toArray]; rfl) ?_
        refine at_on rfl rfl rfl rfl ?_
        refine op_q rfl (by decide) (qt_move rfl rfl) ?_
        refine at_on rfl rfl rfl rfl ?_
        refine op_q rfl (by decide) (qt_call ok_slices_Equal_sl_impl_Pt_impl_Pt rfl rfl (fun w1 hs => slEqual_any _ _ _ n _ _ _ xs w1 (ptsRow (hs.all 0 _ rfl).1 rfl) (h.over hs.fin) (by omega) hn)) ?_
        refine at_q rfl rfl (by decide) (qt_pickT rfl rfl rfl) ?_
        refine at_q rfl rfl (by decide) (qt_assign rfl rfl) ?_
        refine at_end ?_
        refine at_retc ?_
        refine at_ret1 rfl (.tmp rfl) ?_
        intro w' hs
        exact ⟨retB (by symm; simp [penB, allOk, *] <;> (intros; omega)), hs.fin⟩
      · try simp only [decide_eq_true_eq, decide_eq_false_iff_not, beq_iff_eq, beq_eq_false_iff_ne, Bool.not_eq_true', Bool.not_eq_false', Bool.not_true, Bool.not_false, Int.not_lt, Int.not_le, ne_eq, Nat.not_lt, Nat.not_le] at g3
        refine at_off rfl rfl rfl rfl (by decide) rfl (by decide) ?_
        refine at_off rfl rfl rfl rfl (by decide) rfl (by decide) ?_
        refine at_off rfl rfl rfl rfl (by decide) rfl (by decide) ?_
        refine at_off rfl rfl rfl rfl (by decide) rfl (by decide) ?_
        refine at_q rfl rfl (by decide) (qt_pickF rfl rfl rfl) ?_
        refine at_q rfl rfl (by decide) (qt_assign rfl rfl) ?_
        refine at_end ?_
        refine at_retc ?_
        refine at_ret1 rfl (.tmp rfl) ?_
        intro w' hs
        exact ⟨retB (by symm; simp [penB, allOk, *] <;> (intros; omega)), hs.fin⟩
    · try simp only [decide_eq_true_eq, decide_eq_false_iff_not, beq_iff_eq, beq_eq_false_iff_ne, Bool.not_eq_true', Bool.not_eq_false', Bool.not_true, Bool.not_false, Int.not_lt, Int.not_le, ne_eq, Nat.not_lt, Nat.not_le] at g2
      refine at_off rfl rfl rfl rfl (by decide) rfl (by decide) ?_
      refine at_off rfl rfl rfl rfl (by decide) rfl (by decide) ?_
      refine at_q rfl rfl (by decide) (qt_pickF rfl rfl rfl) ?_
      refine at_q rfl rfl (by decide) (qt_move rfl rfl) ?_
      refine at_off rfl rfl rfl rfl (by decide) rfl (by decide) ?_
      refine at_off rfl rfl rfl rfl (by decide) rfl (by decide) ?_
      refine at_off rfl rfl rfl rfl (by decide) rfl (by decide) ?_
      refine at_off rfl rfl rfl rfl (by decide) rfl (by decide) ?_
      refine at_q rfl rfl (by decide) (qt_pickF rfl rfl rfl) ?_
      refine at_q rfl rfl (by decide) (qt_assign rfl rfl) ?_
      refine at_end ?_
      refine at_retc ?_
      refine at_ret1 rfl (.tmp rfl) ?_
      intro w' hs
      exact ⟨retB (by symm; simp [penB, allOk, *] <;> (intros; omega)), hs.fin⟩
  · try simp only [decide_eq_true_eq, decide_eq_false_iff_not, beq_iff_eq, beq_eq_false_iff_ne, Bool.not_eq_true', Bool.not_eq_false', Bool.not_true, Bool.not_false, Int.not_lt, Int.not_le, ne_eq, Nat.not_lt, Nat.not_le] at g1
    refine at_off rfl rfl rfl rfl (by decide) rfl (by decide) ?_
    refine at_off rfl rfl rfl rfl (by decide) rfl (by decide) ?_
    refine at_off rfl rfl rfl rfl (by decide) rfl (by decide) ?_
    refine at_q rfl rfl (by decide) (qt_pickF rfl rfl rfl) ?_
    refine at_q rfl rfl (by decide) (qt_move rfl rfl) ?_
    refine at_off rfl rfl rfl rfl (by decide) rfl (by decide) ?_
    refine at_off rfl rfl rfl rfl (by decide) rfl (by decide) ?_
    refine at_q rfl rfl (by decide) (qt_pickF rfl rfl rfl) ?_
    refine at_q rfl rfl (by decide) (qt_move rfl rfl) ?_
    refine at_off rfl rfl rfl rfl (by decide) rfl (by decide) ?_
    refine at_off rfl rfl rfl rfl (by decide) rfl (by decide) ?_
    refine at_off rfl rfl rfl rfl (by decide) rfl (by decide) ?_
    refine at_off rfl rfl rfl rfl (by decide) rfl (by decide) ?_
    refine at_q rfl rfl (by decide) (qt_pickF rfl rfl rfl) ?_
    refine at_q rfl rfl (by decide) (qt_assign rfl rfl) ?_
    refine at_end ?_
    refine at_retc ?_
    refine at_ret1 rfl (.tmp rfl) ?_
    intro w' hs
    exact ⟨retB (by symm; simp [penB, allOk, *] <;> (intros; omega)), hs.fin⟩
theorem l11Pen_any (A : Option Addr) (n c : Nat) (xs : List Pn) (w : World) (h : Pts w A n xs) (hn : (n : Int) ≤ 1048576) :
    Calls Try.prog 49 #[.slice A n c] w fun e w' => e = .returned (.bool (penB xs)) ∧ Over w w' := by
  have hl := h.1
  have hhl := hull_len xs
  have hpi := pen_in xs
  rw [hl] at hpi
  refine walk_from (m := 16) (Try.func49) rfl rfl (Nat.le_of_ble_eq_true rfl) ?_
  refine at_seq ?_
  refine at_region ?_
  refine at_q rfl rfl (by decide) (qt_assign rfl rfl) ?_
  refine at_end ?_
  refine at_seq ?_
  refine at_region ?_
  refine at_q rfl rfl (by decide) (qt_move rfl rfl) ?_
  refine at_q rfl rfl (by decide) (qt_len rfl rfl tyl_sl_impl_Pt) ?_
  refine at_q rfl rfl (by decide) (qt_call ok_spec_l00In rfl rfl (fun w1 hs => Calls.still (l00In_any _ _ _ w1))) ?_
  refine at_q rfl rfl (by decide) (qt_move rfl rfl) ?_
  refine at_bsplit 6 rfl (fun g1 => ?_) (fun g1 => ?_)
  · try simp only [decide_eq_true_eq, decide_eq_false_iff_not, beq_iff_eq, beq_eq_false_iff_ne, Bool.not_eq_true', Bool.not_eq_false', Bool.not_true, Bool.not_false, Int.not_lt, Int.not_le, ne_eq, Nat.not_lt, Nat.not_le] at g1
    refine at_on rfl rfl rfl rfl ?_
    refine op_q rfl (by decide) (qt_move rfl rfl) ?_
    refine at_on rfl rfl rfl rfl ?_
    refine op_q rfl (by decide) (qt_call ok_spec_l13Points rfl rfl (fun w1 hs => l13Points_any A n c xs w1 (h.over hs.fin) (by omega))) ?_
    refine at_q rfl rfl (by decide) (qt_pickT rfl rfl rfl) ?_
    refine at_q rfl rfl (by decide) (qt_move rfl rfl) ?_
    refine at_bsplit 10 rfl (fun g2 => ?_) (fun g2 => ?_)
    · try simp only [decide_eq_true_eq, decide_eq_false_iff_not, beq_iff_eq, beq_eq_false_iff_ne, Bool.not_eq_true', Bool.not_eq_false', Bool.not_true, Bool.not_false, Int.not_lt, Int.not_le, ne_eq, Nat.not_lt, Nat.not_le] at g2
      refine at_on rfl rfl rfl rfl ?_
      refine op_q rfl (by decide) (qt_move rfl rfl) ?_
      refine at_on rfl rfl rfl rfl ?_
      refine op_call ok_spec_l11Hull (v := fun x => .slice x.1 _ x.2) (r := fun x => rowR 0 34 2 _ _ x) (H := fun _ => True) rfl rfl rfl (by decide) (fun w1 hs => newRow' (l11Hull_any A n c xs w1 (h.over hs.fin) (allOk_H (by assumption)) (inB16 (by assumption)))) ?_
      rintro ⟨pA, pc⟩ -
      refine at_rsE (by simp only [List.nil_append, List.cons_append, List.set_cons_zero, List.set_cons_succ, Value.cells, List.toList_toArray]; rfl) ?_
      refine at_on rfl rfl rfl rfl ?_
      refine op_q rfl (by decide) (qt_move rfl rfl) ?_
      refine at_on rfl rfl rfl rfl ?_
      refine op_q rfl (by decide) (qt_call ok_spec_l13Same rfl rfl (fun w1 hs => l13Same_any _ _ _ n _ _ _ xs w1 (ptsRow (hs.all 0 _ rfl).1 rfl) (h.over hs.fin) (by have := inB16 (n := n) (by assumption); omega) hn)) ?_
      refine at_q rfl rfl (by decide) (qt_pickT rfl rfl rfl) ?_
      refine at_q rfl rfl (by decide) (qt_assign rfl rfl) ?_
      refine at_end ?_
      refine at_retc ?_
      refine at_ret1 rfl (.tmp rfl) ?_
      intro w' hs
      exact ⟨retB (by rw [← hpi]; simp [*]), hs.fin⟩
    · try simp only [decide_eq_true_eq, decide_eq_false_iff_not, beq_iff_eq, beq_eq_false_iff_ne, Bool.not_eq_true', Bool.not_eq_false', Bool.not_true, Bool.not_false, Int.not_lt, Int.not_le, ne_eq, Nat.not_lt, Nat.not_le] at g2
      refine at_off rfl rfl rfl rfl (by decide) rfl (by decide) ?_
      refine at_off rfl rfl rfl rfl (by decide) rfl (by decide) ?_
      refine at_off rfl rfl rfl rfl (by decide) rfl (by decide) ?_
      refine at_off rfl rfl rfl rfl (by decide) rfl (by decide) ?_
      refine at_q rfl rfl (by decide) (qt_pickF rfl rfl rfl) ?_
      refine at_q rfl rfl (by decide) (qt_assign rfl rfl) ?_
      refine at_end ?_
      refine at_retc ?_
      refine at_ret1 rfl (.tmp rfl) ?_
      intro w' hs
      exact ⟨retB (by rw [← hpi]; simp [*]), hs.fin⟩
  · try simp only [decide_eq_true_eq, decide_eq_false_iff_not, beq_iff_eq, beq_eq_false_iff_ne, Bool.not_eq_true', Bool.not_eq_false', Bool.not_true, Bool.not_false, Int.not_lt, Int.not_le, ne_eq, Nat.not_lt, Nat.not_le] at g1
    refine at_off rfl rfl rfl rfl (by decide) rfl (by decide) ?_
    refine at_off rfl rfl rfl rfl (by decide) rfl (by decide) ?_
    refine at_q rfl rfl (by decide) (qt_pickF rfl rfl rfl) ?_
    refine at_q rfl rfl (by decide) (qt_move rfl rfl) ?_
    refine at_off rfl rfl rfl rfl (by decide) rfl (by decide) ?_
    refine at_off rfl rfl rfl rfl (by decide) rfl (by decide) ?_
    refine at_off rfl rfl rfl rfl (by decide) rfl (by decide) ?_
    refine at_off rfl rfl rfl rfl (by decide) rfl (by decide) ?_
    refine at_q rfl rfl (by decide) (qt_pickF rfl rfl rfl) ?_
    refine at_q rfl rfl (by decide) (qt_assign rfl rfl) ?_
    refine at_end ?_
    refine at_retc ?_
    refine at_ret1 rfl (.tmp rfl) ?_
    intro w' hs
    exact ⟨retB (by rw [← hpi]; simp [*]), hs.fin⟩
/-! ### Points in hulls -/
def hasB (h : List Pn) (p : Pn) : Bool := if h.length < 3 then on2 (pt h 0) (pt h (h.length - 1)) p else (List.range h.length).all fun i => decide (0 ≤ tn (pt h i) (pt h (nx h i)) p)
theorem hasB_no {h : List Pn} {p : Pn} {k : Nat} (h3 : ¬ h.length < 3) (hk : k < h.length) (ht : tn (pt h k) (pt h (nx h k)) p < 0) : hasB h p = false := by
  rw [hasB, if_neg h3, List.all_eq_false]
  exact ⟨k, List.mem_range.2 hk, by simp; omega⟩
theorem hasB_yes {h : List Pn} {p : Pn} (h3 : ¬ h.length < 3) (ht : ∀ k, k < h.length → 0 ≤ tn (pt h k) (pt h (nx h k)) p) : hasB h p = true := by
  rw [hasB, if_neg h3, List.all_eq_true]
  exact fun k hk => decide_eq_true (ht k (List.mem_range.1 hk))
theorem hullHas_any (A : Option Addr) (n c : Nat) (xs : List Pn) (p : Pn) (w : World) (h : Pts w A n xs) (hx : ∀ q ∈ xs, bdH q) (hp : bdH p) (h0 : 0 < n) (hn : n ≤ 1048576) :
    Calls Try.prog 57 #[.slice A n c, pV p] w fun e w' => e = .returned (.bool (hasB xs p)) ∧ Over w w' := by
  have hl := h.1
  obtain ⟨eb, eo, rfl, _⟩ := h.2 h0
  have hq : ∀ j, j < n → bdH (pt xs j) := fun j hj => hx _ (pt_mem (by omega))
  refine walk_from (m := 41) (Try.func57) rfl rfl (Nat.le_of_ble_eq_true rfl) ?_
  refine at_seq ?_
  refine at_region ?_
  refine at_op rfl ?_
  refine op_box rfl rfl (rfl) rfl (by decide) (fun b1 => ?_)
  refine at_rsE (by simp only [List.nil_append, List.cons_append, List.set_cons_zero, List.set_cons_succ, Value.cells, List.toList_toArray]; rfl) ?_
  refine at_q rfl rfl (by decide) (qt_assign rfl rfl) ?_
  refine at_end ?_
  refine at_seq ?_
  refine at_seq ?_
  refine at_region ?_
  refine at_q rfl rfl (by decide) (qt_move rfl rfl) ?_
  refine at_q rfl rfl (by decide) (qt_len rfl rfl tyl_sl_impl_Pt) ?_
  refine at_q rfl rfl (by decide) (qt_lss rfl rfl rfl) ?_
  refine at_end ?_
  refine at_cond rfl (fun c1 => ?_) (fun c1 => ?_)
  · try simp only [decide_eq_true_eq, decide_eq_false_iff_not, beq_iff_eq, beq_eq_false_iff_ne, Bool.not_eq_true', Bool.not_eq_false', Bool.not_true, Bool.not_false, Int.not_lt, Int.not_le, ne_eq, Nat.not_lt, Nat.not_le] at c1
    refine at_seq ?_
    refine dg_start mixed rfl ?_
    refine dg_phase 12 ?_
    refine dg_q (i := 0) rfl (by kernel_rfl) (by kernel_rfl) (by kernel_rfl) [] (by kernel_rfl) (fun _ _ _ h => h) rfl rfl (by decide) (fun _ h => h.upto ⟨rfl, trivial⟩) (qt_move rfl rfl) ?_
    refine dg_q (i := 1) rfl (by kernel_rfl) (by kernel_rfl) (by kernel_rfl) [] (by kernel_rfl) (fun _ _ _ h => h) rfl rfl (by decide) (fun _ h => h.upto ⟨rfl, trivial⟩) (qt_index (j := 0) rfl rfl rfl tyl_sl_impl_Pt (by omega)) ?_
    refine dg_q (i := 2) rfl (by kernel_rfl) (by kernel_rfl) (by kernel_rfl) [] (by kernel_rfl) (fun _ _ _ h => h) rfl rfl (by decide) (fun _ h => h.upto ⟨rfl, trivial⟩) (qt_loadS rfl rfl tys_impl_Pt rfl (rdPts h h0)) ?_
    refine dg_q (i := 3) rfl (by kernel_rfl) (by kernel_rfl) (by kernel_rfl) [] (by kernel_rfl) (fun _ _ _ h => h) rfl rfl (by decide) (fun _ h => h.upto ⟨rfl, trivial⟩) (qt_move rfl rfl) ?_
    refine dg_q (i := 4) rfl (by kernel_rfl) (by kernel_rfl) (by kernel_rfl) [] (by kernel_rfl) (fun _ _ _ h => h) rfl rfl (by decide) (fun _ h => h.upto ⟨rfl, trivial⟩) (qt_move rfl rfl) ?_
    refine dg_q (i := 5) rfl (by kernel_rfl) (by kernel_rfl) (by kernel_rfl) [] (by kernel_rfl) (fun _ _ _ h => h) rfl rfl (by decide) (fun _ h => h.upto ⟨rfl, trivial⟩) (qt_len rfl rfl tyl_sl_impl_Pt) ?_
    refine dg_q (i := 6) rfl (by kernel_rfl) (by kernel_rfl) (by kernel_rfl) [] (by kernel_rfl) (fun _ _ _ h => h) rfl rfl (by decide) (fun _ h => h.upto ⟨rfl, trivial⟩) ((qt_sub rfl rfl rfl (by omega) (by omega)).as (congrArg _ (show ((n : Int) - 1) = ((n - 1 : Nat) : Int) by omega))) ?_
    refine dg_q (i := 7) rfl (by kernel_rfl) (by kernel_rfl) (by kernel_rfl) [] (by kernel_rfl) (fun _ _ _ h => h) rfl rfl (by decide) (fun _ h => h.upto ⟨rfl, trivial⟩) (qt_index rfl rfl rfl tyl_sl_impl_Pt (by omega)) ?_
    refine dg_q (i := 8) rfl (by kernel_rfl) (by kernel_rfl) (by kernel_rfl) [] (by kernel_rfl) (fun _ _ _ h => h) rfl rfl (by decide) (fun _ h => h.upto ⟨rfl, trivial⟩) (qt_loadS rfl rfl tys_impl_Pt rfl (rdPts h (by omega))) ?_
    refine dg_q (i := 9) rfl (by kernel_rfl) (by kernel_rfl) (by kernel_rfl) [] (by kernel_rfl) (fun _ _ _ h => h) rfl rfl (by decide) (fun _ h => h.upto ⟨rfl, trivial⟩) (qt_loadS rfl rfl tys_impl_Pt rfl (rdAll (k := 0) rfl)) ?_
    refine dg_q (i := 10) rfl (by kernel_rfl) (by kernel_rfl) (by kernel_rfl) [] (by kernel_rfl) (fun _ _ _ h => h) rfl rfl (by decide) (fun _ h => h.upto ⟨rfl, trivial⟩) (qt_call ok_impl_onSegment rfl rfl (fun w _ => onSegment_any _ _ _ _ _ _ w (hq 0 h0).1 (hq 0 h0).2 (hq (n - 1) (by omega)).1 (hq (n - 1) (by omega)).2 hp.1 hp.2)) ?_
    refine dg_q (i := 11) rfl (by kernel_rfl) (by kernel_rfl) (by kernel_rfl) [] (by kernel_rfl) (fun _ _ _ h => h) rfl rfl (by decide) (fun _ h => h.upto ⟨rfl, trivial⟩) (qt_assign rfl rfl) ?_
    refine dg_done (by kernel_rfl) ?_
    refine norm_then ?_
    refine at_retc ?_
    refine then_ret ?_
    refine at_ret1 rfl (.tmp rfl) ?_
    intro w' hs
    exact ⟨retB (by rw [hasB, if_pos (by omega), hl]; rfl), hs.fin⟩
  · try simp only [decide_eq_true_eq, decide_eq_false_iff_not, beq_iff_eq, beq_eq_false_iff_ne, Bool.not_eq_true', Bool.not_eq_false', Bool.not_true, Bool.not_false, Int.not_lt, Int.not_le, ne_eq, Nat.not_lt, Nat.not_le] at c1
    refine at_skip ?_
    refine norm_then ?_
    refine at_seq ?_
    refine at_seq ?_
    refine at_region ?_
    refine at_q rfl rfl (by decide) (qt_move rfl rfl) ?_
    refine at_q rfl rfl (by decide) (qt_len rfl rfl tyl_sl_impl_Pt) ?_
    refine at_q rfl rfl (by decide) (qt_move rfl rfl) ?_
    refine at_end ?_
    refine at_block ?_
    refine at_loopk (X := Nat) (fun k => k ≤ n ∧ ∀ j, j < k → 0 ≤ tn (pt xs j) (pt xs (nx xs j)) p) (fun k => n - k) (fun k => [(23, .int .i64 (k : Int))]) (C := [(0, _), (3, _), (4, _), (21, _), (22, _)]) ⟨rfl, rfl, rfl, rfl, rfl, trivial⟩ 0 (⟨Nat.zero_le _, fun j hj => absurd hj (by omega)⟩) ⟨rfl, rfl, rfl, rfl, rfl, rfl, trivial⟩ ?_
    intro k hk L hL1
    refine at_envE (by simp only [List.nil_append, List.cons_append]; rfl) ?_
    refine at_seq ?_
    refine at_region ?_
    refine at_q rfl rfl (by decide) (qt_lss rfl rfl rfl) ?_
    refine at_end ?_
    refine at_seq ?_
    refine at_cond rfl (fun c2 => ?_) (fun c2 => ?_)
    · try simp only [decide_eq_true_eq, decide_eq_false_iff_not, beq_iff_eq, beq_eq_false_iff_ne, Bool.not_eq_true', Bool.not_eq_false', Bool.not_true, Bool.not_false, Int.not_lt, Int.not_le, ne_eq, Nat.not_lt, Nat.not_le] at c2
      have hlt : k < n := (by omega)
      have hnx := nx_lt (xs := xs) k (by omega)
      refine at_skip ?_
      refine norm_then ?_
      refine at_seq ?_
      refine at_block ?_
      refine at_seq ?_
      refine at_region ?_
      refine at_q rfl rfl (by decide) (qt_move rfl rfl) ?_
      refine at_q rfl rfl (by decide) (qt_index rfl rfl rfl tyl_sl_impl_Pt (by omega)) ?_
      refine at_q rfl rfl (by decide) (qt_loadS rfl rfl tys_impl_Pt rfl (rdPts h hlt)) ?_
      refine at_op rfl ?_
      refine op_alloc rfl tyz_impl_Pt rfl (by decide) (fun b2 => ?_)
      refine at_rsE (by simp only [List.nil_append, List.cons_append, List.set_cons_zero, List.set_cons_succ, Value.cells, List.toList_toArray]; rfl) ?_
      refine at_q rfl rfl (by decide) (qt_assign rfl rfl) ?_
      refine at_op rfl ?_
      refine op_storeAll' (k := 1) rfl rfl rfl rfl (rfl) (by rfl) tyz_impl_Pt.szx rfl rfl rfl ?_
      refine at_rsE (by simp only [List.nil_append, List.cons_append, List.set_cons_zero, List.set_cons_succ, Value.cells, List.toList_toArray]; rfl) ?_
      refine at_end ?_
      refine at_seq ?_
      refine dg_start mixed rfl ?_
      refine dg_phase 12 ?_
      refine dg_q (i := 0) rfl (by kernel_rfl) (by kernel_rfl) (by kernel_rfl) [] (by kernel_rfl) (fun _ _ _ h => h) rfl rfl (by decide) (fun _ h => h.upto ⟨rfl, rfl, trivial⟩) (qt_loadS rfl rfl tys_impl_Pt rfl (rdAll (k := 1) rfl)) ?_
      refine dg_q (i := 1) rfl (by kernel_rfl) (by kernel_rfl) (by kernel_rfl) [] (by kernel_rfl) (fun _ _ _ h => h) rfl rfl (by decide) (fun _ h => h.upto ⟨rfl, rfl, trivial⟩) (qt_move rfl rfl) ?_
      refine dg_q (i := 2) rfl (by kernel_rfl) (by kernel_rfl) (by kernel_rfl) [] (by kernel_rfl) (fun _ _ _ h => h) rfl rfl (by decide) (fun _ h => h.upto ⟨rfl, rfl, trivial⟩) (qt_move rfl rfl) ?_
      refine dg_q (i := 3) rfl (by kernel_rfl) (by kernel_rfl) (by kernel_rfl) [] (by kernel_rfl) (fun _ _ _ h => h) rfl rfl (by decide) (fun _ h => h.upto ⟨rfl, rfl, trivial⟩) (qt_add rfl rfl rfl (by omega) (by omega)) ?_
      refine dg_q (i := 4) rfl (by kernel_rfl) (by kernel_rfl) (by kernel_rfl) [] (by kernel_rfl) (fun _ _ _ h => h) rfl rfl (by decide) (fun _ h => h.upto ⟨rfl, rfl, trivial⟩) (qt_move rfl rfl) ?_
      refine dg_q (i := 5) rfl (by kernel_rfl) (by kernel_rfl) (by kernel_rfl) [] (by kernel_rfl) (fun _ _ _ h => h) rfl rfl (by decide) (fun _ h => h.upto ⟨rfl, rfl, trivial⟩) (qt_len rfl rfl tyl_sl_impl_Pt) ?_
      refine dg_q (i := 6) rfl (by kernel_rfl) (by kernel_rfl) (by kernel_rfl) [] (by kernel_rfl) (fun _ _ _ h => h) rfl rfl (by decide) (fun _ h => h.upto ⟨rfl, rfl, trivial⟩) ((qt_rem rfl rfl rfl (by omega) (by omega) (by omega)).as (congrArg _ (nx_int' hl k))) ?_
      refine dg_q (i := 7) rfl (by kernel_rfl) (by kernel_rfl) (by kernel_rfl) [] (by kernel_rfl) (fun _ _ _ h => h) rfl rfl (by decide) (fun _ h => h.upto ⟨rfl, rfl, trivial⟩) (qt_index rfl rfl rfl tyl_sl_impl_Pt (by omega)) ?_
      refine dg_q (i := 8) rfl (by kernel_rfl) (by kernel_rfl) (by kernel_rfl) [] (by kernel_rfl) (fun _ _ _ h => h) rfl rfl (by decide) (fun _ h => h.upto ⟨rfl, rfl, trivial⟩) (qt_loadS rfl rfl tys_impl_Pt rfl (rdPts h (by omega))) ?_
      refine dg_q (i := 9) rfl (by kernel_rfl) (by kernel_rfl) (by kernel_rfl) [] (by kernel_rfl) (fun _ _ _ h => h) rfl rfl (by decide) (fun _ h => h.upto ⟨rfl, rfl, trivial⟩) (qt_loadS rfl rfl tys_impl_Pt rfl (rdAll (k := 0) rfl)) ?_
      refine dg_q (i := 10) rfl (by kernel_rfl) (by kernel_rfl) (by kernel_rfl) [] (by kernel_rfl) (fun _ _ _ h => h) rfl rfl (by decide) (fun _ h => h.upto ⟨rfl, rfl, trivial⟩) (qt_call ok_impl_turn rfl rfl (fun w _ => turn_h (pt xs k) (pt xs (nx xs k)) p w (hq k hlt) (hq _ (by omega)) hp)) ?_
      refine dg_q (i := 11) rfl (by kernel_rfl) (by kernel_rfl) (by kernel_rfl) [] (by kernel_rfl) (fun _ _ _ h => h) rfl rfl (by decide) (fun _ h => h.upto ⟨rfl, rfl, trivial⟩) (qt_lss rfl rfl rfl) ?_
      refine dg_done (by kernel_rfl) ?_
      refine norm_then ?_
      refine at_cond rfl (fun c3 => ?_) (fun c3 => ?_)
      · try simp only [decide_eq_true_eq, decide_eq_false_iff_not, beq_iff_eq, beq_eq_false_iff_ne, Bool.not_eq_true', Bool.not_eq_false', Bool.not_true, Bool.not_false, Int.not_lt, Int.not_le, ne_eq, Nat.not_lt, Nat.not_le] at c3
        refine at_seq ?_
        refine at_region ?_
        refine at_q rfl rfl (by decide) (qt_assign rfl rfl) ?_
        refine at_end ?_
        refine at_retc ?_
        refine pass_ret ?_
        refine then_ret ?_
        refine then_ret ?_
        refine pass_ret ?_
        refine then_ret ?_
        refine at_ret1 rfl (.tmp rfl) ?_
        intro w' hs
        exact ⟨retB (hasB_no (by omega) (by omega) c3).symm, hs.fin⟩
      · try simp only [decide_eq_true_eq, decide_eq_false_iff_not, beq_iff_eq, beq_eq_false_iff_ne, Bool.not_eq_true', Bool.not_eq_false', Bool.not_true, Bool.not_false, Int.not_lt, Int.not_le, ne_eq, Nat.not_lt, Nat.not_le] at c3
        refine at_skip ?_
        refine norm_block ?_
        refine norm_then ?_
        refine at_region ?_
        refine at_q rfl rfl (by decide) (qt_add rfl rfl rfl (by omega) (by omega)) ?_
        refine at_q rfl rfl (by decide) (qt_move rfl rfl) ?_
        refine at_end ?_
        exact at_againk hL1 (k + 1) (⟨by omega, fun j hj => (Nat.lt_or_ge j k).elim (hk.2 j) (fun h3 => (show k = j by omega) ▸ c3)⟩) (by omega) ⟨vi (by omega), rfl, rfl, rfl, rfl, rfl, trivial⟩ (fun _ h => h.upto ⟨rfl, trivial⟩)
    · try simp only [decide_eq_true_eq, decide_eq_false_iff_not, beq_iff_eq, beq_eq_false_iff_ne, Bool.not_eq_true', Bool.not_eq_false', Bool.not_true, Bool.not_false, Int.not_lt, Int.not_le, ne_eq, Nat.not_lt, Nat.not_le] at c2
      refine at_exit ?_
      refine pass_then (fun h => by cases h) ?_
      refine pass_then (fun h => by cases h) ?_
      refine pass_hit ?_
      refine norm_then ?_
      refine at_seq ?_
      refine at_region ?_
      refine at_q rfl rfl (by decide) (qt_assign rfl rfl) ?_
      refine at_end ?_
      refine at_retc ?_
      refine at_ret1 rfl (.tmp rfl) ?_
      intro w' hs
      exact ⟨retB (hasB_yes (by omega) fun j hj => hk.2 j (by omega)).symm, hs.fin⟩
theorem l11Has_any (A : Option Addr) (n c : Nat) (xs : List Pn) (p : Pn) (w : World) (h : Pts w A n xs) (hx : ∀ q ∈ xs, bdH q) (hp : bdH p) (h0 : 0 < n) (hn : n ≤ 1048576) :
    Calls Try.prog 55 #[.slice A n c, pV p] w fun e w' => e = .returned (.bool (hasB xs p)) ∧ Over w w' := by
  have hl := h.1
  obtain ⟨eb, eo, rfl, _⟩ := h.2 h0
  have hq : ∀ j, j < n → bdH (pt xs j) := fun j hj => hx _ (pt_mem (by omega))
  refine walk_from (m := 40) (Try.func55) rfl rfl (Nat.le_of_ble_eq_true rfl) ?_
  refine at_seq ?_
  refine at_region ?_
  refine at_op rfl ?_
  refine op_box rfl rfl (rfl) rfl (by decide) (fun b1 => ?_)
  refine at_rsE (by simp only [List.nil_append, List.cons_append, List.set_cons_zero, List.set_cons_succ, Value.cells, List.toList_toArray]; rfl) ?_
  refine at_q rfl rfl (by decide) (qt_assign rfl rfl) ?_
  refine at_end ?_
  refine at_seq ?_
  refine at_region ?_
  refine at_q rfl rfl (by decide) (qt_move rfl rfl) ?_
  refine at_q rfl rfl (by decide) (qt_len rfl rfl tyl_sl_impl_Pt) ?_
  refine at_q rfl rfl (by decide) (qt_assign rfl rfl) ?_
  refine at_end ?_
  refine at_seq ?_
  refine at_seq ?_
  refine at_region ?_
  refine at_q rfl rfl (by decide) (qt_move rfl rfl) ?_
  refine at_q rfl rfl (by decide) (qt_lss rfl rfl rfl) ?_
  refine at_end ?_
  refine at_cond rfl (fun c1 => ?_) (fun c1 => ?_)
  · try simp only [decide_eq_true_eq, decide_eq_false_iff_not, beq_iff_eq, beq_eq_false_iff_ne, Bool.not_eq_true', Bool.not_eq_false', Bool.not_true, Bool.not_false, Int.not_lt, Int.not_le, ne_eq, Nat.not_lt, Nat.not_le] at c1
    refine at_seq ?_
    refine dg_start mixed rfl ?_
    refine dg_phase 11 ?_
    refine dg_q (i := 0) rfl (by kernel_rfl) (by kernel_rfl) (by kernel_rfl) [] (by kernel_rfl) (fun _ _ _ h => h) rfl rfl (by decide) (fun _ h => h.upto ⟨rfl, trivial⟩) (qt_move rfl rfl) ?_
    refine dg_q (i := 1) rfl (by kernel_rfl) (by kernel_rfl) (by kernel_rfl) [] (by kernel_rfl) (fun _ _ _ h => h) rfl rfl (by decide) (fun _ h => h.upto ⟨rfl, trivial⟩) (qt_index (j := 0) rfl rfl rfl tyl_sl_impl_Pt (by omega)) ?_
    refine dg_q (i := 2) rfl (by kernel_rfl) (by kernel_rfl) (by kernel_rfl) [] (by kernel_rfl) (fun _ _ _ h => h) rfl rfl (by decide) (fun _ h => h.upto ⟨rfl, trivial⟩) (qt_loadS rfl rfl tys_impl_Pt rfl (rdPts h h0)) ?_
    refine dg_q (i := 3) rfl (by kernel_rfl) (by kernel_rfl) (by kernel_rfl) [] (by kernel_rfl) (fun _ _ _ h => h) rfl rfl (by decide) (fun _ h => h.upto ⟨rfl, trivial⟩) (qt_move rfl rfl) ?_
    refine dg_q (i := 4) rfl (by kernel_rfl) (by kernel_rfl) (by kernel_rfl) [] (by kernel_rfl) (fun _ _ _ h => h) rfl rfl (by decide) (fun _ h => h.upto ⟨rfl, trivial⟩) (qt_move rfl rfl) ?_
    refine dg_q (i := 5) rfl (by kernel_rfl) (by kernel_rfl) (by kernel_rfl) [] (by kernel_rfl) (fun _ _ _ h => h) rfl rfl (by decide) (fun _ h => h.upto ⟨rfl, trivial⟩) ((qt_sub rfl rfl rfl (by omega) (by omega)).as (congrArg _ (show ((n : Int) - 1) = ((n - 1 : Nat) : Int) by omega))) ?_
    refine dg_q (i := 6) rfl (by kernel_rfl) (by kernel_rfl) (by kernel_rfl) [] (by kernel_rfl) (fun _ _ _ h => h) rfl rfl (by decide) (fun _ h => h.upto ⟨rfl, trivial⟩) (qt_index rfl rfl rfl tyl_sl_impl_Pt (by omega)) ?_
    refine dg_q (i := 7) rfl (by kernel_rfl) (by kernel_rfl) (by kernel_rfl) [] (by kernel_rfl) (fun _ _ _ h => h) rfl rfl (by decide) (fun _ h => h.upto ⟨rfl, trivial⟩) (qt_loadS rfl rfl tys_impl_Pt rfl (rdPts h (by omega))) ?_
    refine dg_q (i := 8) rfl (by kernel_rfl) (by kernel_rfl) (by kernel_rfl) [] (by kernel_rfl) (fun _ _ _ h => h) rfl rfl (by decide) (fun _ h => h.upto ⟨rfl, trivial⟩) (qt_loadS rfl rfl tys_impl_Pt rfl (rdAll (k := 0) rfl)) ?_
    refine dg_q (i := 9) rfl (by kernel_rfl) (by kernel_rfl) (by kernel_rfl) [] (by kernel_rfl) (fun _ _ _ h => h) rfl rfl (by decide) (fun _ h => h.upto ⟨rfl, trivial⟩) (qt_call ok_spec_l03On rfl rfl (fun w _ => l03On_any _ _ _ _ _ _ w (hq 0 h0).1 (hq 0 h0).2 (hq (n - 1) (by omega)).1 (hq (n - 1) (by omega)).2 hp.1 hp.2)) ?_
    refine dg_q (i := 10) rfl (by kernel_rfl) (by kernel_rfl) (by kernel_rfl) [] (by kernel_rfl) (fun _ _ _ h => h) rfl rfl (by decide) (fun _ h => h.upto ⟨rfl, trivial⟩) (qt_assign rfl rfl) ?_
    refine dg_done (by kernel_rfl) ?_
    refine norm_then ?_
    refine at_retc ?_
    refine then_ret ?_
    refine at_ret1 rfl (.tmp rfl) ?_
    intro w' hs
    exact ⟨retB (by rw [hasB, if_pos (by omega), hl]; rfl), hs.fin⟩
  · try simp only [decide_eq_true_eq, decide_eq_false_iff_not, beq_iff_eq, beq_eq_false_iff_ne, Bool.not_eq_true', Bool.not_eq_false', Bool.not_true, Bool.not_false, Int.not_lt, Int.not_le, ne_eq, Nat.not_lt, Nat.not_le] at c1
    refine at_skip ?_
    refine norm_then ?_
    refine at_seq ?_
    refine at_seq ?_
    refine at_region ?_
    refine at_q rfl rfl (by decide) (qt_assign rfl rfl) ?_
    refine at_end ?_
    refine at_block ?_
    refine at_loopk (X := Nat) (fun k => k ≤ n ∧ ∀ j, j < k → 0 ≤ tn (pt xs j) (pt xs (nx xs j)) p) (fun k => n - k) (fun k => [(6, .int .i64 (k : Int))]) (C := [(0, _), (3, _), (4, _), (5, _)]) ⟨rfl, rfl, rfl, rfl, trivial⟩ 0 (⟨Nat.zero_le _, fun j hj => absurd hj (by omega)⟩) ⟨rfl, rfl, rfl, rfl, rfl, trivial⟩ ?_
    intro k hk L hL1
    refine at_envE (by simp only [List.nil_append, List.cons_append]; rfl) ?_
    refine at_seq ?_
    refine at_seq ?_
    refine at_region ?_
    refine at_q rfl rfl (by decide) (qt_move rfl rfl) ?_
    refine at_q rfl rfl (by decide) (qt_move rfl rfl) ?_
    refine at_q rfl rfl (by decide) (qt_lss rfl rfl rfl) ?_
    refine at_end ?_
    refine at_cond rfl (fun c2 => ?_) (fun c2 => ?_)
    · try simp only [decide_eq_true_eq, decide_eq_false_iff_not, beq_iff_eq, beq_eq_false_iff_ne, Bool.not_eq_true', Bool.not_eq_false', Bool.not_true, Bool.not_false, Int.not_lt, Int.not_le, ne_eq, Nat.not_lt, Nat.not_le] at c2
      have hlt : k < n := (by omega)
      have hnx := nx_lt (xs := xs) k (by omega)
      refine at_skip ?_
      refine norm_then ?_
      refine at_seq ?_
      refine at_block ?_
      refine at_seq ?_
      refine dg_start mixed rfl ?_
      refine dg_phase 14 ?_
      refine dg_q (i := 0) rfl (by kernel_rfl) (by kernel_rfl) (by kernel_rfl) [] (by kernel_rfl) (fun _ _ _ h => h) rfl rfl (by decide) (fun _ h => h.upto ⟨rfl, trivial⟩) (qt_move rfl rfl) ?_
      refine dg_q (i := 1) rfl (by kernel_rfl) (by kernel_rfl) (by kernel_rfl) [] (by kernel_rfl) (fun _ _ _ h => h) rfl rfl (by decide) (fun _ h => h.upto ⟨rfl, trivial⟩) (qt_move rfl rfl) ?_
      refine dg_q (i := 2) rfl (by kernel_rfl) (by kernel_rfl) (by kernel_rfl) [] (by kernel_rfl) (fun _ _ _ h => h) rfl rfl (by decide) (fun _ h => h.upto ⟨rfl, trivial⟩) (qt_index rfl rfl rfl tyl_sl_impl_Pt (by omega)) ?_
      refine dg_q (i := 3) rfl (by kernel_rfl) (by kernel_rfl) (by kernel_rfl) [] (by kernel_rfl) (fun _ _ _ h => h) rfl rfl (by decide) (fun _ h => h.upto ⟨rfl, trivial⟩) (qt_loadS rfl rfl tys_impl_Pt rfl (rdPts h hlt)) ?_
      refine dg_q (i := 4) rfl (by kernel_rfl) (by kernel_rfl) (by kernel_rfl) [] (by kernel_rfl) (fun _ _ _ h => h) rfl rfl (by decide) (fun _ h => h.upto ⟨rfl, trivial⟩) (qt_move rfl rfl) ?_
      refine dg_q (i := 5) rfl (by kernel_rfl) (by kernel_rfl) (by kernel_rfl) [] (by kernel_rfl) (fun _ _ _ h => h) rfl rfl (by decide) (fun _ h => h.upto ⟨rfl, trivial⟩) (qt_move rfl rfl) ?_
      refine dg_q (i := 6) rfl (by kernel_rfl) (by kernel_rfl) (by kernel_rfl) [] (by kernel_rfl) (fun _ _ _ h => h) rfl rfl (by decide) (fun _ h => h.upto ⟨rfl, trivial⟩) (qt_add rfl rfl rfl (by omega) (by omega)) ?_
      refine dg_q (i := 7) rfl (by kernel_rfl) (by kernel_rfl) (by kernel_rfl) [] (by kernel_rfl) (fun _ _ _ h => h) rfl rfl (by decide) (fun _ h => h.upto ⟨rfl, trivial⟩) (qt_move rfl rfl) ?_
      refine dg_q (i := 8) rfl (by kernel_rfl) (by kernel_rfl) (by kernel_rfl) [] (by kernel_rfl) (fun _ _ _ h => h) rfl rfl (by decide) (fun _ h => h.upto ⟨rfl, trivial⟩) ((qt_rem rfl rfl rfl (by omega) (by omega) (by omega)).as (congrArg _ (nx_int' hl k))) ?_
      refine dg_q (i := 9) rfl (by kernel_rfl) (by kernel_rfl) (by kernel_rfl) [] (by kernel_rfl) (fun _ _ _ h => h) rfl rfl (by decide) (fun _ h => h.upto ⟨rfl, trivial⟩) (qt_index rfl rfl rfl tyl_sl_impl_Pt (by omega)) ?_
      refine dg_q (i := 10) rfl (by kernel_rfl) (by kernel_rfl) (by kernel_rfl) [] (by kernel_rfl) (fun _ _ _ h => h) rfl rfl (by decide) (fun _ h => h.upto ⟨rfl, trivial⟩) (qt_loadS rfl rfl tys_impl_Pt rfl (rdPts h (by omega))) ?_
      refine dg_q (i := 11) rfl (by kernel_rfl) (by kernel_rfl) (by kernel_rfl) [] (by kernel_rfl) (fun _ _ _ h => h) rfl rfl (by decide) (fun _ h => h.upto ⟨rfl, trivial⟩) (qt_loadS rfl rfl tys_impl_Pt rfl (rdAll (k := 0) rfl)) ?_
      refine dg_q (i := 12) rfl (by kernel_rfl) (by kernel_rfl) (by kernel_rfl) [] (by kernel_rfl) (fun _ _ _ h => h) rfl rfl (by decide) (fun _ h => h.upto ⟨rfl, trivial⟩) (qt_call ok_spec_l03Turn rfl rfl (fun w _ => l03Turn_h (pt xs k) (pt xs (nx xs k)) p w (hq k hlt) (hq _ (by omega)) hp)) ?_
      refine dg_q (i := 13) rfl (by kernel_rfl) (by kernel_rfl) (by kernel_rfl) [] (by kernel_rfl) (fun _ _ _ h => h) rfl rfl (by decide) (fun _ h => h.upto ⟨rfl, trivial⟩) (qt_lss rfl rfl rfl) ?_
      refine dg_done (by kernel_rfl) ?_
      refine norm_then ?_
      refine at_cond rfl (fun c3 => ?_) (fun c3 => ?_)
      · try simp only [decide_eq_true_eq, decide_eq_false_iff_not, beq_iff_eq, beq_eq_false_iff_ne, Bool.not_eq_true', Bool.not_eq_false', Bool.not_true, Bool.not_false, Int.not_lt, Int.not_le, ne_eq, Nat.not_lt, Nat.not_le] at c3
        refine at_seq ?_
        refine at_region ?_
        refine at_q rfl rfl (by decide) (qt_assign rfl rfl) ?_
        refine at_end ?_
        refine at_retc ?_
        refine pass_ret ?_
        refine then_ret ?_
        refine then_ret ?_
        refine pass_ret ?_
        refine then_ret ?_
        refine at_ret1 rfl (.tmp rfl) ?_
        intro w' hs
        exact ⟨retB (hasB_no (by omega) (by omega) c3).symm, hs.fin⟩
      · try simp only [decide_eq_true_eq, decide_eq_false_iff_not, beq_iff_eq, beq_eq_false_iff_ne, Bool.not_eq_true', Bool.not_eq_false', Bool.not_true, Bool.not_false, Int.not_lt, Int.not_le, ne_eq, Nat.not_lt, Nat.not_le] at c3
        refine at_skip ?_
        refine norm_block ?_
        refine norm_then ?_
        refine at_region ?_
        refine at_q rfl rfl (by decide) (qt_move rfl rfl) ?_
        refine at_q rfl rfl (by decide) (qt_add rfl rfl rfl (by omega) (by omega)) ?_
        refine at_q rfl rfl (by decide) (qt_assign rfl rfl) ?_
        refine at_end ?_
        exact at_againk hL1 (k + 1) (⟨by omega, fun j hj => (Nat.lt_or_ge j k).elim (hk.2 j) (fun h3 => (show k = j by omega) ▸ c3)⟩) (by omega) ⟨vi (by omega), rfl, rfl, rfl, rfl, trivial⟩ (fun _ h => h.upto ⟨rfl, trivial⟩)
    · try simp only [decide_eq_true_eq, decide_eq_false_iff_not, beq_iff_eq, beq_eq_false_iff_ne, Bool.not_eq_true', Bool.not_eq_false', Bool.not_true, Bool.not_false, Int.not_lt, Int.not_le, ne_eq, Nat.not_lt, Nat.not_le] at c2
      refine at_exit ?_
      refine pass_then (fun h => by cases h) ?_
      refine pass_then (fun h => by cases h) ?_
      refine pass_hit ?_
      refine norm_then ?_
      refine at_seq ?_
      refine at_region ?_
      refine at_q rfl rfl (by decide) (qt_assign rfl rfl) ?_
      refine at_end ?_
      refine at_retc ?_
      refine at_ret1 rfl (.tmp rfl) ?_
      intro w' hs
      exact ⟨retB (hasB_yes (by omega) fun j hj => hk.2 j (by omega)).symm, hs.fin⟩
def phB (xs : List Pn) (p : Pn) : Bool := penB xs && okB p.1 p.2 && hasB xs p
theorem PenHas_any (A : Option Addr) (n c : Nat) (xs : List Pn) (p : Pn) (w : World) (h : Pts w A n xs) (hn : (n : Int) ≤ 1048576) :
    Calls Try.prog 22 #[.slice A n c, pV p] w fun e w' => e = .returned (.bool (phB xs p)) ∧ Over w w' := by
  have hl := h.1
  refine walk_from (m := 16) (Try.func22) rfl rfl (Nat.le_of_ble_eq_true rfl) ?_
  refine at_seq ?_
  refine at_region ?_
  refine at_op rfl ?_
  refine op_box rfl rfl (rfl) rfl (by decide) (fun b1 => ?_)
  refine at_rsE (by simp only [List.nil_append, List.cons_append, List.set_cons_zero, List.set_cons_succ, Value.cells, List.toList_toArray]; rfl) ?_
  refine at_q rfl rfl (by decide) (qt_assign rfl rfl) ?_
  refine at_end ?_
  refine at_seq ?_
  refine at_region ?_
  refine at_q rfl rfl (by decide) (qt_move rfl rfl) ?_
  refine at_q rfl rfl (by decide) (qt_call ok_impl_IsPen rfl rfl (fun w1 hs => IsPen_any A n c xs w1 (h.over hs.fin) hn)) ?_
  refine at_q rfl rfl (by decide) (qt_move rfl rfl) ?_
  refine at_bsplit 7 rfl (fun g1 => ?_) (fun g1 => ?_)
  · try simp only [decide_eq_true_eq, decide_eq_false_iff_not, beq_iff_eq, beq_eq_false_iff_ne, Bool.not_eq_true', Bool.not_eq_false', Bool.not_true, Bool.not_false, Int.not_lt, Int.not_le, ne_eq, Nat.not_lt, Nat.not_le] at g1
    refine at_on rfl rfl rfl rfl ?_
    refine op_q rfl (by decide) (qt_loadS rfl rfl tys_impl_Pt rfl (rdAll (k := 0) rfl)) ?_
    refine at_on rfl rfl rfl rfl ?_
    refine op_q rfl (by decide) (qt_call ok_impl_ValidPt rfl rfl (fun w1 hs => ValidPt_any p.1 p.2 w1)) ?_
    refine at_q rfl rfl (by decide) (qt_pickT rfl rfl rfl) ?_
    refine at_q rfl rfl (by decide) (qt_move rfl rfl) ?_
    refine at_bsplit 11 rfl (fun g2 => ?_) (fun g2 => ?_)
    · try simp only [decide_eq_true_eq, decide_eq_false_iff_not, beq_iff_eq, beq_eq_false_iff_ne, Bool.not_eq_true', Bool.not_eq_false', Bool.not_true, Bool.not_false, Int.not_lt, Int.not_le, ne_eq, Nat.not_lt, Nat.not_le] at g2
      refine at_on rfl rfl rfl rfl ?_
      refine op_q rfl (by decide) (qt_move rfl rfl) ?_
      refine at_on rfl rfl rfl rfl ?_
      refine op_q rfl (by decide) (qt_loadS rfl rfl tys_impl_Pt rfl (rdAll (k := 0) rfl)) ?_
      refine at_on rfl rfl rfl rfl ?_
      refine op_q rfl (by decide) (qt_call ok_impl_hullHas rfl rfl (fun w1 hs => hullHas_any A n c xs p w1 (h.over hs.fin) (allOk_H (pen_of (by assumption)).2.1) (okB_bd2 (by assumption)).mid (by have := (pen_of (by assumption : penB xs = true)).1; omega) (by omega))) ?_
      refine at_q rfl rfl (by decide) (qt_pickT rfl rfl rfl) ?_
      refine at_q rfl rfl (by decide) (qt_assign rfl rfl) ?_
      refine at_end ?_
      refine at_retc ?_
      refine at_ret1 rfl (.tmp rfl) ?_
      intro w' hs
      exact ⟨retB (by symm; simp [phB, *]), hs.fin⟩
    · try simp only [decide_eq_true_eq, decide_eq_false_iff_not, beq_iff_eq, beq_eq_false_iff_ne, Bool.not_eq_true', Bool.not_eq_false', Bool.not_true, Bool.not_false, Int.not_lt, Int.not_le, ne_eq, Nat.not_lt, Nat.not_le] at g2
      refine at_off rfl rfl rfl rfl (by decide) rfl (by decide) ?_
      refine at_off rfl rfl rfl rfl (by decide) rfl (by decide) ?_
      refine at_off rfl rfl rfl rfl (by decide) rfl (by decide) ?_
      refine at_q rfl rfl (by decide) (qt_pickF rfl rfl rfl) ?_
      refine at_q rfl rfl (by decide) (qt_assign rfl rfl) ?_
      refine at_end ?_
      refine at_retc ?_
      refine at_ret1 rfl (.tmp rfl) ?_
      intro w' hs
      exact ⟨retB (by symm; simp [phB, *]), hs.fin⟩
  · try simp only [decide_eq_true_eq, decide_eq_false_iff_not, beq_iff_eq, beq_eq_false_iff_ne, Bool.not_eq_true', Bool.not_eq_false', Bool.not_true, Bool.not_false, Int.not_lt, Int.not_le, ne_eq, Nat.not_lt, Nat.not_le] at g1
    refine at_off rfl rfl rfl rfl (by decide) rfl (by decide) ?_
    refine at_off rfl rfl rfl rfl (by decide) rfl (by decide) ?_
    refine at_q rfl rfl (by decide) (qt_pickF rfl rfl rfl) ?_
    refine at_q rfl rfl (by decide) (qt_move rfl rfl) ?_
    refine at_off rfl rfl rfl rfl (by decide) rfl (by decide) ?_
    refine at_off rfl rfl rfl rfl (by decide) rfl (by decide) ?_
    refine at_off rfl rfl rfl rfl (by decide) rfl (by decide) ?_
    refine at_q rfl rfl (by decide) (qt_pickF rfl rfl rfl) ?_
    refine at_q rfl rfl (by decide) (qt_assign rfl rfl) ?_
    refine at_end ?_
    refine at_retc ?_
    refine at_ret1 rfl (.tmp rfl) ?_
    intro w' hs
    exact ⟨retB (by symm; simp [phB, *]), hs.fin⟩
theorem specPenHas_any (A : Option Addr) (n c : Nat) (xs : List Pn) (p : Pn) (w : World) (h : Pts w A n xs) (hn : (n : Int) ≤ 1048576) :
    Calls Try.prog 20 #[.slice A n c, pV p] w fun e w' => e = .returned (.bool (phB xs p)) ∧ Over w w' := by
  have hl := h.1
  refine walk_from (m := 16) (Try.func20) rfl rfl (Nat.le_of_ble_eq_true rfl) ?_
  refine at_seq ?_
  refine at_region ?_
  refine at_op rfl ?_
  refine op_box rfl rfl (rfl) rfl (by decide) (fun b1 => ?_)
  refine at_rsE (by simp only [List.nil_append, List.cons_append, List.set_cons_zero, List.set_cons_succ, Value.cells, List.toList_toArray]; rfl) ?_
  refine at_q rfl rfl (by decide) (qt_assign rfl rfl) ?_
  refine at_end ?_
  refine at_seq ?_
  refine at_region ?_
  refine at_q rfl rfl (by decide) (qt_move rfl rfl) ?_
  refine at_q rfl rfl (by decide) (qt_call ok_spec_l11Pen rfl rfl (fun w1 hs => l11Pen_any A n c xs w1 (h.over hs.fin) hn)) ?_
  refine at_q rfl rfl (by decide) (qt_move rfl rfl) ?_
  refine at_bsplit 7 rfl (fun g1 => ?_) (fun g1 => ?_)
  · try simp only [decide_eq_true_eq, decide_eq_false_iff_not, beq_iff_eq, beq_eq_false_iff_ne, Bool.not_eq_true', Bool.not_eq_false', Bool.not_true, Bool.not_false, Int.not_lt, Int.not_le, ne_eq, Nat.not_lt, Nat.not_le] at g1
    refine at_on rfl rfl rfl rfl ?_
    refine op_q rfl (by decide) (qt_loadS rfl rfl tys_impl_Pt rfl (rdAll (k := 0) rfl)) ?_
    refine at_on rfl rfl rfl rfl ?_
    refine op_q rfl (by decide) (qt_call ok_spec_l03Ok rfl rfl (fun w1 hs => l03Ok_any p.1 p.2 w1)) ?_
    refine at_q rfl rfl (by decide) (qt_pickT rfl rfl rfl) ?_
    refine at_q rfl rfl (by decide) (qt_move rfl rfl) ?_
    refine at_bsplit 11 rfl (fun g2 => ?_) (fun g2 => ?_)
    · try simp only [decide_eq_true_eq, decide_eq_false_iff_not, beq_iff_eq, beq_eq_false_iff_ne, Bool.not_eq_true', Bool.not_eq_false', Bool.not_true, Bool.not_false, Int.not_lt, Int.not_le, ne_eq, Nat.not_lt, Nat.not_le] at g2
      refine at_on rfl rfl rfl rfl ?_
      refine op_q rfl (by decide) (qt_move rfl rfl) ?_
      refine at_on rfl rfl rfl rfl ?_
      refine op_q rfl (by decide) (qt_loadS rfl rfl tys_impl_Pt rfl (rdAll (k := 0) rfl)) ?_
      refine at_on rfl rfl rfl rfl ?_
      refine op_q rfl (by decide) (qt_call ok_spec_l11Has rfl rfl (fun w1 hs => l11Has_any A n c xs p w1 (h.over hs.fin) (allOk_H (pen_of (by assumption)).2.1) (okB_bd2 (by assumption)).mid (by have := (pen_of (by assumption : penB xs = true)).1; omega) (by omega))) ?_
      refine at_q rfl rfl (by decide) (qt_pickT rfl rfl rfl) ?_
      refine at_q rfl rfl (by decide) (qt_assign rfl rfl) ?_
      refine at_end ?_
      refine at_retc ?_
      refine at_ret1 rfl (.tmp rfl) ?_
      intro w' hs
      exact ⟨retB (by symm; simp [phB, *]), hs.fin⟩
    · try simp only [decide_eq_true_eq, decide_eq_false_iff_not, beq_iff_eq, beq_eq_false_iff_ne, Bool.not_eq_true', Bool.not_eq_false', Bool.not_true, Bool.not_false, Int.not_lt, Int.not_le, ne_eq, Nat.not_lt, Nat.not_le] at g2
      refine at_off rfl rfl rfl rfl (by decide) rfl (by decide) ?_
      refine at_off rfl rfl rfl rfl (by decide) rfl (by decide) ?_
      refine at_off rfl rfl rfl rfl (by decide) rfl (by decide) ?_
      refine at_q rfl rfl (by decide) (qt_pickF rfl rfl rfl) ?_
      refine at_q rfl rfl (by decide) (qt_assign rfl rfl) ?_
      refine at_end ?_
      refine at_retc ?_
      refine at_ret1 rfl (.tmp rfl) ?_
      intro w' hs
      exact ⟨retB (by symm; simp [phB, *]), hs.fin⟩
  · try simp only [decide_eq_true_eq, decide_eq_false_iff_not, beq_iff_eq, beq_eq_false_iff_ne, Bool.not_eq_true', Bool.not_eq_false', Bool.not_true, Bool.not_false, Int.not_lt, Int.not_le, ne_eq, Nat.not_lt, Nat.not_le] at g1
    refine at_off rfl rfl rfl rfl (by decide) rfl (by decide) ?_
    refine at_off rfl rfl rfl rfl (by decide) rfl (by decide) ?_
    refine at_q rfl rfl (by decide) (qt_pickF rfl rfl rfl) ?_
    refine at_q rfl rfl (by decide) (qt_move rfl rfl) ?_
    refine at_off rfl rfl rfl rfl (by decide) rfl (by decide) ?_
    refine at_off rfl rfl rfl rfl (by decide) rfl (by decide) ?_
    refine at_off rfl rfl rfl rfl (by decide) rfl (by decide) ?_
    refine at_q rfl rfl (by decide) (qt_pickF rfl rfl rfl) ?_
    refine at_q rfl rfl (by decide) (qt_assign rfl rfl) ?_
    refine at_end ?_
    refine at_retc ?_
    refine at_ret1 rfl (.tmp rfl) ?_
    intro w' hs
    exact ⟨retB (by symm; simp [phB, *]), hs.fin⟩
theorem newRowT {P : Program} {f : FuncId} {args : Array Value} {w1 : World} {T s n : Nat} {xs : List Value} {V : Option Addr × Nat → Value} (h : Calls P f args w1 fun e w' => ∃ x : Option Addr × Nat, e = .returned (V x) ∧ w'.ownsRow w1.heap.size T s (.slice x.1 n x.2) n xs ∧ Over w1 w') :
    Calls P f args w1 fun e w' => ∃ x : Option Addr × Nat, e = .returned (V x) ∧ Over w1 w' ∧ (rowR 0 T s n xs x).P w' ∧ (∀ b, (rowR 0 T s n xs x).F b → w1.heap.size ≤ b) ∧ (rowR 0 T s n xs x).B = 0 ∧ True := by
  refine h.mono ?_
  rintro e w' ⟨x, rfl, hr, hO⟩
  exact ⟨x, rfl, hO, row_low hr (Nat.zero_le _), fun b hb => (hr.lt b hb).1, rfl, trivial⟩
theorem rowBack {w w' : World} {Rs : List Res} (hs : St ⟨w, []⟩ Rs w') {k B T s n : Nat} {x : Option Addr × Nat} {xs : List Value} (hk : Rs[k]? = some (rowR B T s n xs x)) : w'.ownsRow w.heap.size T s (.slice x.1 n x.2) n xs := by
  have hr := hs.all k _ hk
  exact row_from hr.1 (fun b hb => (hr.2.1 b hb).elim id (fun h => by cases h))
theorem rowNil {w : World} {B T s : Nat} : w.ownsRow B T s (.slice none 0 0) 0 [] := ⟨(Nat.zero_mul s).symm, .inl ⟨rfl, rfl⟩⟩

/-! ### Rows of numbers -/
def nth (xs : List Int) (k : Nat) : Int := xs.getD k 0
theorem nth_at {xs : List Int} {k : Nat} (h : k < xs.length) : xs[k] = nth xs k := by simp [nth, List.getD, h]
/-- The slice with address A and length n reads as the numbers xs. -/
def Nums (w : World) (A : Option Addr) (n : Nat) (xs : List Int) : Prop := xs.length = n ∧ (0 < n → ∃ b o, A = some ⟨b, o, none⟩ ∧ b < w.heap.size ∧ ∀ k, k < n → w.cell? ⟨b, o + k, none⟩ = some (.int .i64 (nth xs k)))
theorem Nums.over {w w' : World} {A : Option Addr} {n : Nat} {xs : List Int} (h : Nums w A n xs) (hb : Over w w') : Nums w' A n xs := by
  refine ⟨h.1, fun hn => ?_⟩
  obtain ⟨b, o, hA, hlt, hc⟩ := h.2 hn
  exact ⟨b, o, hA, Nat.lt_of_lt_of_le hlt hb.size, fun k hk => ((ocell hb).1 b _ hlt).trans (hc k hk)⟩
theorem numsRow {w : World} {B T n : Nat} {A : Option Addr} {c : Nat} {xs : List Int} (h : w.ownsRow B T 1 (.slice A n c) n (xs.map (Value.int .i64))) : Nums w A n xs := by
  have hn : xs.length = n := by have := h.1; simpa using this
  refine ⟨hn, fun h0 => ?_⟩
  rcases h.2 with ⟨_, e⟩ | ⟨g, cap, cur, e, hb, hg, hcap, hmax, hsz, htk⟩
  · omega
  · injection e with e1 e2 e3
    subst e1
    refine ⟨g, 0, rfl, lt_of_some hg, fun k hk => ?_⟩
    rw [cell_of_row w g _ _ T (0, 0) hg, Nat.zero_add]
    have h1 : (cur.toList.take (n * 1))[k]? = (xs.map (Value.int .i64))[k]? := by rw [htk]
    rw [List.getElem?_take, if_pos (by omega), List.getElem?_map, List.getElem?_eq_getElem (show k < xs.length by omega), nth_at (by omega)] at h1
    simpa using h1
theorem rdNums {b o m j : Nat} {xs : List Int} {w : World} {Rs : List Res} (h : Nums w (some ⟨b, o, none⟩) m xs) (hj : j < m) : ∀ w', St ⟨w, []⟩ Rs w' → w'.cell? ⟨b, o + j * 1, none⟩ = some (.int .i64 (nth xs j)) := fun w' hs => by
  obtain ⟨b', o', e, _, hc⟩ := (h.over hs.fin).2 (by omega)
  injection e with e
  injection e with e1 e2 _
  subst e1 e2
  rw [Nat.mul_one]
  exact hc j hj
/-- The greatest and the least of the first k + 1; the first that is greatest. -/
def mxI (g : Nat → Int) : Nat → Int
  | 0 => g 0
  | k + 1 => max (mxI g k) (g (k + 1))
def mnI (g : Nat → Int) : Nat → Int
  | 0 => g 0
  | k + 1 => min (mnI g k) (g (k + 1))
def farI (g : Nat → Int) : Nat → Nat
  | 0 => 0
  | k + 1 => if g (k + 1) > g (farI g k) then k + 1 else farI g k
theorem mx_step {g : Nat → Int} {k : Nat} (h : 1 ≤ k) : mxI g (k + 1 - 1) = max (mxI g (k - 1)) (g k) := by
  obtain ⟨j, rfl⟩ : ∃ j, k = j + 1 := ⟨k - 1, by omega⟩
  rfl
theorem mn_step {g : Nat → Int} {k : Nat} (h : 1 ≤ k) : mnI g (k + 1 - 1) = min (mnI g (k - 1)) (g k) := by
  obtain ⟨j, rfl⟩ : ∃ j, k = j + 1 := ⟨k - 1, by omega⟩
  rfl
theorem far_yes {g : Nat → Int} {k : Nat} (h : 1 ≤ k) (hg : g k > g (farI g (k - 1))) : farI g (k + 1 - 1) = k := by
  obtain ⟨j, rfl⟩ : ∃ j, k = j + 1 := ⟨k - 1, by omega⟩
  exact if_pos hg
theorem far_no {g : Nat → Int} {k : Nat} (h : 1 ≤ k) (hg : ¬ g k > g (farI g (k - 1))) : farI g (k + 1 - 1) = farI g (k - 1) := by
  obtain ⟨j, rfl⟩ : ∃ j, k = j + 1 := ⟨k - 1, by omega⟩
  exact if_neg hg
theorem far_is (g : Nat → Int) : ∀ k, farI g k ≤ k ∧ g (farI g k) = mxI g k ∧ ∀ j, j < farI g k → g j < mxI g k
  | 0 => ⟨Nat.le_refl _, rfl, fun j hj => absurd hj (by simp [farI])⟩
  | k + 1 => by
    obtain ⟨h1, h2, h3⟩ := far_is g k
    have hmx : ∀ j, j ≤ k → g j ≤ mxI g k := mx_all g k
    unfold farI mxI
    split
    · rename_i h
      refine ⟨Nat.le_refl _, by omega, fun j hj => ?_⟩
      have := hmx j (by omega)
      omega
    · rename_i h
      exact ⟨by omega, by omega, fun j hj => by have := h3 j hj; omega⟩
where
  mx_all (g : Nat → Int) : ∀ k j, j ≤ k → g j ≤ mxI g k
    | 0, j, h => by rw [show j = 0 by omega]; exact Int.le_refl _
    | k + 1, j, h => by
      unfold mxI
      by_cases e : j = k + 1
      · rw [e]; omega
      · have := mx_all g k j (by omega); omega
theorem mx_neg (g : Nat → Int) : ∀ k, mxI (fun j => - g j) k = - mnI g k
  | 0 => rfl
  | k + 1 => by
    have := mx_neg g k
    unfold mxI mnI
    omega
theorem mx_congr {g h : Nat → Int} : ∀ k, (∀ j, j ≤ k → g j = h j) → mxI g k = mxI h k
  | 0, e => e 0 (Nat.le_refl _)
  | k + 1, e => by
    unfold mxI
    rw [mx_congr k fun j hj => e j (by omega), e (k + 1) (Nat.le_refl _)]
theorem far_congr {g h : Nat → Int} : ∀ k, (∀ j, j ≤ k → g j = h j) → farI g k = farI h k
  | 0, _ => rfl
  | k + 1, e => by
    have ih := far_congr k fun j hj => e j (by omega)
    have h1 := (far_is h k).1
    unfold farI
    rw [ih, e (k + 1) (Nat.le_refl _), e (farI h k) (by omega)]
theorem mn_congr {g h : Nat → Int} : ∀ k, (∀ j, j ≤ k → g j = h j) → mnI g k = mnI h k
  | 0, e => e 0 (Nat.le_refl _)
  | k + 1, e => by
    unfold mnI
    rw [mn_congr k fun j hj => e j (by omega), e (k + 1) (Nat.le_refl _)]
theorem slMax_any (A : Option Addr) (n c : Nat) (xs : List Int) (w : World) (h : Nums w A n xs) (h0 : 0 < n) (hn : n ≤ 1048576) :
    Calls Try.prog 70 #[.slice A n c] w fun e w' => e = .returned (.int .i64 (mxI (nth xs) (n - 1))) ∧ Over w w' := by
  obtain ⟨b, o, rfl, _⟩ := h.2 h0
  refine walk_from (m := 25) (Try.func70) rfl rfl (Nat.le_of_ble_eq_true rfl) ?_
  refine at_seq ?_
  refine at_region ?_
  refine at_q rfl rfl (by decide) (qt_assign rfl rfl) ?_
  refine at_end ?_
  refine at_seq ?_
  refine at_seq ?_
  refine at_region ?_
  refine at_q rfl rfl (by decide) (qt_move rfl rfl) ?_
  refine at_q rfl rfl (by decide) (qt_len rfl rfl tyl_sl_int64) ?_
  refine at_q rfl rfl (by decide) (qt_lss rfl rfl rfl) ?_
  refine at_end ?_
  refine at_cond rfl (fun c1 => ?_) (fun c1 => ?_)
  · try simp only [decide_eq_true_eq, decide_eq_false_iff_not, beq_iff_eq, beq_eq_false_iff_ne, Bool.not_eq_true', Bool.not_eq_false', Bool.not_true, Bool.not_false, Int.not_lt, Int.not_le, ne_eq, Nat.not_lt, Nat.not_le] at c1
    omega
  · try simp only [decide_eq_true_eq, decide_eq_false_iff_not, beq_iff_eq, beq_eq_false_iff_ne, Bool.not_eq_true', Bool.not_eq_false', Bool.not_true, Bool.not_false, Int.not_lt, Int.not_le, ne_eq, Nat.not_lt, Nat.not_le] at c1
    refine at_skip ?_
    refine norm_then ?_
    refine at_seq ?_
    refine at_region ?_
    refine at_q rfl rfl (by decide) (qt_move rfl rfl) ?_
    refine at_q rfl rfl (by decide) (qt_index (j := 0) rfl rfl rfl tyl_sl_int64 (by omega)) ?_
    refine at_q rfl rfl (by decide) (qt_load1 rfl rfl ty1_int64 (rdNums h h0)) ?_
    refine at_q rfl rfl (by decide) (qt_assign rfl rfl) ?_
    refine at_end ?_
    refine at_seq ?_
    refine at_seq ?_
    refine at_region ?_
    refine at_q rfl rfl (by decide) (qt_assign rfl rfl) ?_
    refine at_end ?_
    refine at_block ?_
    refine at_loopk (X := Nat) (fun k => 1 ≤ k ∧ k ≤ n) (fun k => n - k) (fun k => [(3, .int .i64 (mxI (nth xs) (k - 1))), (4, .int .i64 (k : Int))]) (C := [(0, _), (2, _)]) ⟨rfl, rfl, trivial⟩ 1 (⟨Nat.le_refl _, by omega⟩) ⟨rfl, rfl, rfl, rfl, trivial⟩ ?_
    intro k hk L hL1
    refine at_envE (by simp only [List.nil_append, List.cons_append]; rfl) ?_
    refine at_seq ?_
    refine at_seq ?_
    refine at_region ?_
    refine at_q rfl rfl (by decide) (qt_move rfl rfl) ?_
    refine at_q rfl rfl (by decide) (qt_move rfl rfl) ?_
    refine at_q rfl rfl (by decide) (qt_len rfl rfl tyl_sl_int64) ?_
    refine at_q rfl rfl (by decide) (qt_lss rfl rfl rfl) ?_
    refine at_end ?_
    refine at_cond rfl (fun c2 => ?_) (fun c2 => ?_)
    · try simp only [decide_eq_true_eq, decide_eq_false_iff_not, beq_iff_eq, beq_eq_false_iff_ne, Bool.not_eq_true', Bool.not_eq_false', Bool.not_true, Bool.not_false, Int.not_lt, Int.not_le, ne_eq, Nat.not_lt, Nat.not_le] at c2
      have hlt : k < n := (by omega)
      refine at_skip ?_
      refine norm_then ?_
      refine at_seq ?_
      refine at_block ?_
      refine at_region ?_
      refine at_q rfl rfl (by decide) (qt_move rfl rfl) ?_
      refine at_q rfl rfl (by decide) (qt_move rfl rfl) ?_
      refine at_q rfl rfl (by decide) (qt_move rfl rfl) ?_
      refine at_q rfl rfl (by decide) (qt_index rfl rfl rfl tyl_sl_int64 (by omega)) ?_
      refine at_q rfl rfl (by decide) (qt_load1 rfl rfl ty1_int64 (rdNums h hlt)) ?_
      refine at_q rfl rfl (by decide) (qt_max rfl rfl rfl) ?_
      refine at_q rfl rfl (by decide) (qt_assign rfl rfl) ?_
      refine at_nil ?_
      refine norm_block ?_
      refine norm_then ?_
      refine at_region ?_
      refine at_q rfl rfl (by decide) (qt_move rfl rfl) ?_
      refine at_q rfl rfl (by decide) (qt_add rfl rfl rfl (by omega) (by omega)) ?_
      refine at_q rfl rfl (by decide) (qt_assign rfl rfl) ?_
      refine at_end ?_
      exact at_againk hL1 (k + 1) (⟨by omega, by omega⟩) (by omega) ⟨vi (mx_step hk.1).symm, vi (by omega), rfl, rfl, trivial⟩ (fun _ h => h.upto trivial)
    · try simp only [decide_eq_true_eq, decide_eq_false_iff_not, beq_iff_eq, beq_eq_false_iff_ne, Bool.not_eq_true', Bool.not_eq_false', Bool.not_true, Bool.not_false, Int.not_lt, Int.not_le, ne_eq, Nat.not_lt, Nat.not_le] at c2
      refine at_exit ?_
      refine pass_then (fun h => by cases h) ?_
      refine pass_then (fun h => by cases h) ?_
      refine pass_hit ?_
      refine norm_then ?_
      refine at_seq ?_
      refine at_region ?_
      refine at_q rfl rfl (by decide) (qt_move rfl rfl) ?_
      refine at_q rfl rfl (by decide) (qt_assign rfl rfl) ?_
      refine at_end ?_
      refine at_retc ?_
      refine at_ret1 rfl (.tmp rfl) ?_
      intro w' hs
      exact ⟨retI (by rw [show k = n by omega]), hs.fin⟩
theorem slMin_any (A : Option Addr) (n c : Nat) (xs : List Int) (w : World) (h : Nums w A n xs) (h0 : 0 < n) (hn : n ≤ 1048576) :
    Calls Try.prog 72 #[.slice A n c] w fun e w' => e = .returned (.int .i64 (mnI (nth xs) (n - 1))) ∧ Over w w' := by
  obtain ⟨b, o, rfl, _⟩ := h.2 h0
  refine walk_from (m := 25) (Try.func72) rfl rfl (Nat.le_of_ble_eq_true rfl) ?_
  refine at_seq ?_
  refine at_region ?_
  refine at_q rfl rfl (by decide) (qt_assign rfl rfl) ?_
  refine at_end ?_
  refine at_seq ?_
  refine at_seq ?_
  refine at_region ?_
  refine at_q rfl rfl (by decide) (qt_move rfl rfl) ?_
  refine at_q rfl rfl (by decide) (qt_len rfl rfl tyl_sl_int64) ?_
  refine at_q rfl rfl (by decide) (qt_lss rfl rfl rfl) ?_
  refine at_end ?_
  refine at_cond rfl (fun c1 => ?_) (fun c1 => ?_)
  · try simp only [decide_eq_true_eq, decide_eq_false_iff_not, beq_iff_eq, beq_eq_false_iff_ne, Bool.not_eq_true', Bool.not_eq_false', Bool.not_true, Bool.not_false, Int.not_lt, Int.not_le, ne_eq, Nat.not_lt, Nat.not_le] at c1
    omega
  · try simp only [decide_eq_true_eq, decide_eq_false_iff_not, beq_iff_eq, beq_eq_false_iff_ne, Bool.not_eq_true', Bool.not_eq_false', Bool.not_true, Bool.not_false, Int.not_lt, Int.not_le, ne_eq, Nat.not_lt, Nat.not_le] at c1
    refine at_skip ?_
    refine norm_then ?_
    refine at_seq ?_
    refine at_region ?_
    refine at_q rfl rfl (by decide) (qt_move rfl rfl) ?_
    refine at_q rfl rfl (by decide) (qt_index (j := 0) rfl rfl rfl tyl_sl_int64 (by omega)) ?_
    refine at_q rfl rfl (by decide) (qt_load1 rfl rfl ty1_int64 (rdNums h h0)) ?_
    refine at_q rfl rfl (by decide) (qt_assign rfl rfl) ?_
    refine at_end ?_
    refine at_seq ?_
    refine at_seq ?_
    refine at_region ?_
    refine at_q rfl rfl (by decide) (qt_assign rfl rfl) ?_
    refine at_end ?_
    refine at_block ?_
    refine at_loopk (X := Nat) (fun k => 1 ≤ k ∧ k ≤ n) (fun k => n - k) (fun k => [(3, .int .i64 (mnI (nth xs) (k - 1))), (4, .int .i64 (k : Int))]) (C := [(0, _), (2, _)]) ⟨rfl, rfl, trivial⟩ 1 (⟨Nat.le_refl _, by omega⟩) ⟨rfl, rfl, rfl, rfl, trivial⟩ ?_
    intro k hk L hL1
    refine at_envE (by simp only [List.nil_append, List.cons_append]; rfl) ?_
    refine at_seq ?_
    refine at_seq ?_
    refine at_region ?_
    refine at_q rfl rfl (by decide) (qt_move rfl rfl) ?_
    refine at_q rfl rfl (by decide) (qt_move rfl rfl) ?_
    refine at_q rfl rfl (by decide) (qt_len rfl rfl tyl_sl_int64) ?_
    refine at_q rfl rfl (by decide) (qt_lss rfl rfl rfl) ?_
    refine at_end ?_
    refine at_cond rfl (fun c2 => ?_) (fun c2 => ?_)
    · try simp only [decide_eq_true_eq, decide_eq_false_iff_not, beq_iff_eq, beq_eq_false_iff_ne, Bool.not_eq_true', Bool.not_eq_false', Bool.not_true, Bool.not_false, Int.not_lt, Int.not_le, ne_eq, Nat.not_lt, Nat.not_le] at c2
      have hlt : k < n := (by omega)
      refine at_skip ?_
      refine norm_then ?_
      refine at_seq ?_
      refine at_block ?_
      refine at_region ?_
      refine at_q rfl rfl (by decide) (qt_move rfl rfl) ?_
      refine at_q rfl rfl (by decide) (qt_move rfl rfl) ?_
      refine at_q rfl rfl (by decide) (qt_move rfl rfl) ?_
      refine at_q rfl rfl (by decide) (qt_index rfl rfl rfl tyl_sl_int64 (by omega)) ?_
      refine at_q rfl rfl (by decide) (qt_load1 rfl rfl ty1_int64 (rdNums h hlt)) ?_
      refine at_q rfl rfl (by decide) (qt_min rfl rfl rfl) ?_
      refine at_q rfl rfl (by decide) (qt_assign rfl rfl) ?_
      refine at_nil ?_
      refine norm_block ?_
      refine norm_then ?_
      refine at_region ?_
      refine at_q rfl rfl (by decide) (qt_move rfl rfl) ?_
      refine at_q rfl rfl (by decide) (qt_add rfl rfl rfl (by omega) (by omega)) ?_
      refine at_q rfl rfl (by decide) (qt_assign rfl rfl) ?_
      refine at_end ?_
      exact at_againk hL1 (k + 1) (⟨by omega, by omega⟩) (by omega) ⟨vi (mn_step hk.1).symm, vi (by omega), rfl, rfl, trivial⟩ (fun _ h => h.upto trivial)
    · try simp only [decide_eq_true_eq, decide_eq_false_iff_not, beq_iff_eq, beq_eq_false_iff_ne, Bool.not_eq_true', Bool.not_eq_false', Bool.not_true, Bool.not_false, Int.not_lt, Int.not_le, ne_eq, Nat.not_lt, Nat.not_le] at c2
      refine at_exit ?_
      refine pass_then (fun h => by cases h) ?_
      refine pass_then (fun h => by cases h) ?_
      refine pass_hit ?_
      refine norm_then ?_
      refine at_seq ?_
      refine at_region ?_
      refine at_q rfl rfl (by decide) (qt_move rfl rfl) ?_
      refine at_q rfl rfl (by decide) (qt_assign rfl rfl) ?_
      refine at_end ?_
      refine at_retc ?_
      refine at_ret1 rfl (.tmp rfl) ?_
      intro w' hs
      exact ⟨retI (by rw [show k = n by omega]), hs.fin⟩
theorem slIndex_any (A : Option Addr) (n c i : Nat) (xs : List Int) (v : Int) (w : World) (h : Nums w A n xs) (hi : i < n) (hv : nth xs i = v) (hne : ∀ j, j < i → nth xs j ≠ v) (hn : n ≤ 1048576) :
    Calls Try.prog 69 #[.slice A n c, .int .i64 v] w fun e w' => e = .returned (.int .i64 (i : Int)) ∧ Over w w' := by
  obtain ⟨b, o, rfl, _⟩ := h.2 (by omega)
  refine walk_from (m := 19) (Try.func69) rfl rfl (Nat.le_of_ble_eq_true rfl) ?_
  refine at_seq ?_
  refine at_region ?_
  refine at_q rfl rfl (by decide) (qt_assign rfl rfl) ?_
  refine at_end ?_
  refine at_seq ?_
  refine at_seq ?_
  refine at_region ?_
  refine at_q rfl rfl (by decide) (qt_move rfl rfl) ?_
  refine at_q rfl rfl (by decide) (qt_len rfl rfl tyl_sl_int64) ?_
  refine at_q rfl rfl (by decide) (qt_move rfl rfl) ?_
  refine at_end ?_
  refine at_block ?_
  refine at_loopk (X := Nat) (fun k => k ≤ i) (fun k => n - k) (fun k => [(8, .int .i64 (k : Int))]) (C := [(0, _), (1, _), (4, _), (7, _)]) ⟨rfl, rfl, rfl, rfl, trivial⟩ 0 (Nat.zero_le _) ⟨rfl, rfl, rfl, rfl, rfl, trivial⟩ ?_
  intro k hk L hL1
  refine at_envE (by simp only [List.nil_append, List.cons_append]; rfl) ?_
  refine at_seq ?_
  refine at_region ?_
  refine at_q rfl rfl (by decide) (qt_lss rfl rfl rfl) ?_
  refine at_end ?_
  refine at_seq ?_
  refine at_cond rfl (fun c1 => ?_) (fun c1 => ?_)
  · try simp only [decide_eq_true_eq, decide_eq_false_iff_not, beq_iff_eq, beq_eq_false_iff_ne, Bool.not_eq_true', Bool.not_eq_false', Bool.not_true, Bool.not_false, Int.not_lt, Int.not_le, ne_eq, Nat.not_lt, Nat.not_le] at c1
    have hlt : k < n := (by omega)
    refine at_skip ?_
    refine norm_then ?_
    refine at_seq ?_
    refine at_block ?_
    refine at_seq ?_
    refine at_region ?_
    refine at_q rfl rfl (by decide) (qt_move rfl rfl) ?_
    refine at_q rfl rfl (by decide) (qt_assign rfl rfl) ?_
    refine at_end ?_
    refine at_seq ?_
    refine at_region ?_
    refine at_q rfl rfl (by decide) (qt_move rfl rfl) ?_
    refine at_q rfl rfl (by decide) (qt_move rfl rfl) ?_
    refine at_q rfl rfl (by decide) (qt_move rfl rfl) ?_
    refine at_q rfl rfl (by decide) (qt_index rfl rfl rfl tyl_sl_int64 (by omega)) ?_
    refine at_q rfl rfl (by decide) (qt_load1 rfl rfl ty1_int64 (rdNums h hlt)) ?_
    refine at_q rfl rfl (by decide) (qt_eql rfl rfl rfl) ?_
    refine at_end ?_
    refine at_cond rfl (fun c2 => ?_) (fun c2 => ?_)
    · try simp only [decide_eq_true_eq, decide_eq_false_iff_not, beq_iff_eq, beq_eq_false_iff_ne, Bool.not_eq_true', Bool.not_eq_false', Bool.not_true, Bool.not_false, Int.not_lt, Int.not_le, ne_eq, Nat.not_lt, Nat.not_le] at c2
      refine at_seq ?_
      refine at_region ?_
      refine at_q rfl rfl (by decide) (qt_move rfl rfl) ?_
      refine at_q rfl rfl (by decide) (qt_assign rfl rfl) ?_
      refine at_end ?_
      refine at_retc ?_
      refine pass_ret ?_
      refine then_ret ?_
      refine then_ret ?_
      refine pass_ret ?_
      refine then_ret ?_
      refine at_ret1 rfl (.tmp rfl) ?_
      intro w' hs
      exact ⟨retI (by rcases Nat.lt_or_ge k i with h1 | h1; exact absurd c2.symm (hne k h1); omega), hs.fin⟩
    · try simp only [decide_eq_true_eq, decide_eq_false_iff_not, beq_iff_eq, beq_eq_false_iff_ne, Bool.not_eq_true', Bool.not_eq_false', Bool.not_true, Bool.not_false, Int.not_lt, Int.not_le, ne_eq, Nat.not_lt, Nat.not_le] at c2
      have hki : k ≠ i := fun e => c2 (by rw [e]; exact hv.symm)
      refine at_skip ?_
      refine norm_block ?_
      refine norm_then ?_
      refine at_region ?_
      refine at_q rfl rfl (by decide) (qt_add rfl rfl rfl (by omega) (by omega)) ?_
      refine at_q rfl rfl (by decide) (qt_move rfl rfl) ?_
      refine at_end ?_
      exact at_againk hL1 (k + 1) ((by omega)) (by omega) ⟨vi (by omega), rfl, rfl, rfl, rfl, trivial⟩ (fun _ h => h.upto trivial)
  · try simp only [decide_eq_true_eq, decide_eq_false_iff_not, beq_iff_eq, beq_eq_false_iff_ne, Bool.not_eq_true', Bool.not_eq_false', Bool.not_true, Bool.not_false, Int.not_lt, Int.not_le, ne_eq, Nat.not_lt, Nat.not_le] at c1
    refine at_exit ?_
    refine pass_then (fun h => by cases h) ?_
    refine pass_then (fun h => by cases h) ?_
    refine pass_hit ?_
    refine norm_then ?_
    refine at_seq ?_
    refine at_region ?_
    refine at_q rfl rfl (by decide) (qt_assign rfl rfl) ?_
    refine at_end ?_
    refine at_retc ?_
    refine at_ret1 rfl (.tmp rfl) ?_
    intro w' hs
    omega
/-! ### Products -/
def dotP (p d : Pn) : Int := p.1 * d.1 + p.2 * d.2
theorem dot_mul {p d : Pn} (hp : bd2 p) (hd : bd2 d) : (-68719476736 ≤ p.1 * d.1 ∧ p.1 * d.1 ≤ 68719476736) ∧ (-68719476736 ≤ p.2 * d.2 ∧ p.2 * d.2 ≤ 68719476736) := by
  obtain ⟨⟨p1, p2⟩, p3, p4⟩ := hp
  obtain ⟨⟨d1, d2⟩, d3, d4⟩ := hd
  exact ⟨mul_bd (A := 262144) (B := 262144) (by omega) (by omega) (by omega) (by omega), mul_bd (A := 262144) (B := 262144) (by omega) (by omega) (by omega) (by omega)⟩
def spC (xs : List Pn) (d : Pn) : Int := if (penB xs && okB d.1 d.2) = true then (if d = (0, 0) then 6 else 0) else 1
def spL (xs : List Pn) (d : Pn) : List Int := if spC xs d = 0 then xs.map (dotP · d) else []
theorem spC_pen {xs : List Pn} {d : Pn} (h : penB xs = false) : spC xs d = 1 := by simp [spC, h]
theorem spC_dir {xs : List Pn} {d : Pn} (h : okB d.1 d.2 = false) : spC xs d = 1 := by simp [spC, h]
theorem spC_zero {xs : List Pn} {d : Pn} (h : penB xs = true) (h2 : okB d.1 d.2 = true) (hz : d = (0, 0)) : spC xs d = 6 := by unfold spC; rw [h, h2, hz]; rfl
theorem spC_ok {xs : List Pn} {d : Pn} (h : penB xs = true) (h2 : okB d.1 d.2 = true) (hz : ¬ d = (0, 0)) : spC xs d = 0 := by simp [spC, h, h2, hz]
theorem spC_at {xs : List Pn} {d : Pn} (h : spC xs d = 0) : penB xs = true ∧ okB d.1 d.2 = true ∧ ¬ d = (0, 0) := by
  unfold spC at h
  split at h
  · rename_i h1
    rw [Bool.and_eq_true] at h1
    split at h
    · omega
    · rename_i h2; exact ⟨h1.1, h1.2, h2⟩
  · omega
theorem spL_no {xs : List Pn} {d : Pn} (h : spC xs d ≠ 0) : spL xs d = [] := if_neg h
theorem spL_yes {xs : List Pn} {d : Pn} (h : spC xs d = 0) : spL xs d = xs.map (dotP · d) := if_pos h
theorem nth_map {xs : List Pn} {d : Pn} {k : Nat} (h : k < xs.length) : nth (xs.map (dotP · d)) k = dotP (pt xs k) d := by
  rw [← nth_at (by simpa using h), List.getElem_map, pt_at h]
theorem dir_zero {d : Pn} (h : (d.1 == 0 && d.2 == 0) = true) : d = (0, 0) := by
  simp at h
  exact Prod.ext h.1 h.2
theorem dir_not {d : Pn} (h : (d.1 == 0 && d.2 == 0) = false) : ¬ d = (0, 0) := by
  rintro rfl
  simp at h
theorem dots_step {xs : List Pn} {d : Pn} {k : Nat} (h : k < xs.length) : ((xs.take (k + 1)).map (dotP · d)).map (Value.int .i64) = ((xs.take k).map (dotP · d)).map (Value.int .i64) ++ [.int .i64 (px xs k * d.1 + py xs k * d.2)] := by
  rw [List.take_succ_eq_append_getElem h, List.map_append, List.map_append, pt_at h]
  rfl
theorem products_any (A : Option Addr) (n c : Nat) (xs : List Pn) (d : Pn) (w : World) (h : Pts w A n xs) (hn : (n : Int) ≤ 1048576) :
    Calls Try.prog 68 #[.slice A n c, pV d] w fun e w' => ∃ x : Option Addr × Nat, e = .returned (.tuple #[.slice x.1 (spL xs d).length x.2, .int .i64 (spC xs d)]) ∧ w'.ownsRow w.heap.size 2 1 (.slice x.1 (spL xs d).length x.2) (spL xs d).length ((spL xs d).map (Value.int .i64)) ∧ Over w w' := by
  have hl := h.1
  refine walk_from (m := 42) (Try.func68) rfl rfl (Nat.le_of_ble_eq_true rfl) ?_
  refine at_seq ?_
  refine at_region ?_
  refine at_op rfl ?_
  refine op_box rfl rfl (rfl) rfl (by decide) (fun b1 => ?_)
  refine at_rsE (by simp only [List.nil_append, List.cons_append, List.set_cons_zero, List.set_cons_succ, Value.cells, List.toList_toArray]; rfl) ?_
  refine at_q rfl rfl (by decide) (qt_assign rfl rfl) ?_
  refine at_q rfl rfl (by decide) (qt_assign rfl rfl) ?_
  refine at_end ?_
  refine at_seq ?_
  refine at_seq ?_
  refine at_region ?_
  refine at_q rfl rfl (by decide) (qt_move rfl rfl) ?_
  refine at_q rfl rfl (by decide) (qt_call ok_impl_IsPen rfl rfl (fun w1 hs => IsPen_any A n c xs w1 (h.over hs.fin) hn)) ?_
  refine at_q rfl rfl (by decide) (qt_not rfl rfl) ?_
  refine at_q rfl rfl (by decide) (qt_move rfl rfl) ?_
  refine at_bsplit 12 rfl (fun g1 => ?_) (fun g1 => ?_)
  · try simp only [decide_eq_true_eq, decide_eq_false_iff_not, beq_iff_eq, beq_eq_false_iff_ne, Bool.not_eq_true', Bool.not_eq_false', Bool.not_true, Bool.not_false, Int.not_lt, Int.not_le, ne_eq, Nat.not_lt, Nat.not_le] at g1
    refine at_off rfl rfl rfl rfl (by decide) rfl (by decide) ?_
    refine at_off rfl rfl rfl rfl (by decide) rfl (by decide) ?_
    refine at_off rfl rfl rfl rfl (by decide) rfl (by decide) ?_
    refine at_q rfl rfl (by decide) (qt_pickT rfl rfl rfl) ?_
    refine at_end ?_
    refine at_yes rfl rfl ?_
    refine at_seq ?_
    refine at_region ?_
    refine at_q rfl rfl (by decide) (qt_assign rfl rfl) ?_
    refine at_q rfl rfl (by decide) (qt_assign rfl rfl) ?_
    refine at_end ?_
    refine at_retc ?_
    refine then_ret ?_
    refine at_ret2 rfl (.tmp rfl) (.tmp rfl) ?_
    intro w' hs
    have hc1 : spC xs d = 1 := spC_pen (by simp_all)
    have hl1 : spL xs d = [] := spL_no (by rw [hc1]; decide)
    exact ⟨(none, 0), by rw [hc1, hl1]; rfl, by rw [hl1]; exact rowNil, hs.fin⟩
  · try simp only [decide_eq_true_eq, decide_eq_false_iff_not, beq_iff_eq, beq_eq_false_iff_ne, Bool.not_eq_true', Bool.not_eq_false', Bool.not_true, Bool.not_false, Int.not_lt, Int.not_le, ne_eq, Nat.not_lt, Nat.not_le] at g1
    refine at_on rfl rfl rfl rfl ?_
    refine op_q rfl (by decide) (qt_loadS rfl rfl tys_impl_Pt rfl (rdAll (k := 0) rfl)) ?_
    refine at_on rfl rfl rfl rfl ?_
    refine op_q rfl (by decide) (qt_call ok_impl_ValidPt rfl rfl (fun w1 hs => ValidPt_any d.1 d.2 w1)) ?_
    refine at_on rfl rfl rfl rfl ?_
    refine op_q rfl (by decide) (qt_not rfl rfl) ?_
    refine at_q rfl rfl (by decide) (qt_pickF rfl rfl rfl) ?_
    refine at_end ?_
    refine at_cond rfl (fun c1 => ?_) (fun c1 => ?_)
    · try simp only [decide_eq_true_eq, decide_eq_false_iff_not, beq_iff_eq, beq_eq_false_iff_ne, Bool.not_eq_true', Bool.not_eq_false', Bool.not_true, Bool.not_false, Int.not_lt, Int.not_le, ne_eq, Nat.not_lt, Nat.not_le] at c1
      refine at_seq ?_
      refine at_region ?_
      refine at_q rfl rfl (by decide) (qt_assign rfl rfl) ?_
      refine at_q rfl rfl (by decide) (qt_assign rfl rfl) ?_
      refine at_end ?_
      refine at_retc ?_
      refine then_ret ?_
      refine at_ret2 rfl (.tmp rfl) (.tmp rfl) ?_
      intro w' hs
      have hc1 : spC xs d = 1 := spC_dir (by simp_all)
      have hl1 : spL xs d = [] := spL_no (by rw [hc1]; decide)
      exact ⟨(none, 0), by rw [hc1, hl1]; rfl, by rw [hl1]; exact rowNil, hs.fin⟩
    · try simp only [decide_eq_true_eq, decide_eq_false_iff_not, beq_iff_eq, beq_eq_false_iff_ne, Bool.not_eq_true', Bool.not_eq_false', Bool.not_true, Bool.not_false, Int.not_lt, Int.not_le, ne_eq, Nat.not_lt, Nat.not_le] at c1
      refine at_skip ?_
      refine norm_then ?_
      refine at_seq ?_
      refine at_seq ?_
      refine at_region ?_
      refine at_q rfl rfl (by decide) (qt_loadS rfl rfl tys_impl_Pt rfl (rdAll (k := 0) rfl)) ?_
      refine at_q rfl rfl (by decide) (qt_build rfl rfl (bld_impl_Pt_)) ?_
      refine at_q rfl rfl (by decide) (qt_eqlS_impl_Pt rfl rfl rfl) ?_
      refine at_end ?_
      refine at_cond rfl (fun c2 => ?_) (fun c2 => ?_)
      · try simp only [decide_eq_true_eq, decide_eq_false_iff_not, beq_iff_eq, beq_eq_false_iff_ne, Bool.not_eq_true', Bool.not_eq_false', Bool.not_true, Bool.not_false, Int.not_lt, Int.not_le, ne_eq, Nat.not_lt, Nat.not_le] at c2
        have hz := dir_zero c2
        refine at_seq ?_
        refine at_region ?_
        refine at_q rfl rfl (by decide) (qt_assign rfl rfl) ?_
        refine at_q rfl rfl (by decide) (qt_assign rfl rfl) ?_
        refine at_end ?_
        refine at_retc ?_
        refine then_ret ?_
        refine at_ret2 rfl (.tmp rfl) (.tmp rfl) ?_
        intro w' hs
        have hc1 : spC xs d = 6 := spC_zero (by simp_all) (by simp_all) hz
        have hl1 : spL xs d = [] := spL_no (by rw [hc1]; decide)
        exact ⟨(none, 0), by rw [hc1, hl1]; rfl, by rw [hl1]; exact rowNil, hs.fin⟩
      · try simp only [decide_eq_true_eq, decide_eq_false_iff_not, beq_iff_eq, beq_eq_false_iff_ne, Bool.not_eq_true', Bool.not_eq_false', Bool.not_true, Bool.not_false, Int.not_lt, Int.not_le, ne_eq, Nat.not_lt, Nat.not_le] at c2
        have hz := dir_not c2
        have hpen : penB xs = true := by simp_all
        have hdir : okB d.1 d.2 = true := by simp_all
        refine at_skip ?_
        refine norm_then ?_
        refine at_seq ?_
        refine at_region ?_
        refine at_q rfl rfl (by decide) (qt_assign rfl rfl) ?_
        refine at_row0 (T := 2) (s := 1) ?_
        refine at_rsE (by simp only [List.nil_append, List.cons_append, List.set_cons_zero, List.set_cons_succ, Value.cells, List.toList_toArray]; rfl) ?_
        refine at_end ?_
        refine at_seq ?_
        refine at_seq ?_
        refine at_region ?_
        refine at_q rfl rfl (by decide) (qt_move rfl rfl) ?_
        refine at_q rfl rfl (by decide) (qt_len rfl rfl tyl_sl_impl_Pt) ?_
        refine at_q rfl rfl (by decide) (qt_move rfl rfl) ?_
        refine at_end ?_
        refine at_block ?_
        refine at_loopc (X := Nat × Option Addr × Nat) (fun x => x.1 ≤ n) (fun x => n - x.1) (fun x => [(6, .slice x.2.1 x.1 x.2.2), (22, .int .i64 (x.1 : Int))]) (C := [(3, _), (4, _), (5, _), (20, _), (21, _)]) ⟨rfl, rfl, rfl, rfl, rfl, trivial⟩ (fun x => [.cel b1 34 [.int .i64 d.1, .int .i64 d.2], rowR (Bs.N ⟨w, []⟩) 2 1 x.1 (((xs.take x.1).map (dotP · d)).map (Value.int .i64)) x.2]) (0, none, 0) (Nat.zero_le _) ⟨rfl, rfl, rfl, rfl, rfl, rfl, rfl, trivial⟩ (fun _ h => h) ?_
        intro ⟨k, rA, rc⟩ hk L hL1
        refine at_envE (by simp only [List.nil_append, List.cons_append]; rfl) ?_
        refine at_rsE (by first | (dsimp only; done) | (dsimp only; rfl) | rfl) ?_
        have hk : k ≤ n := hk
        refine at_seq ?_
        refine at_region ?_
        refine at_q rfl rfl (by decide) (qt_lss rfl rfl rfl) ?_
        refine at_end ?_
        refine at_seq ?_
        refine at_cond rfl (fun c3 => ?_) (fun c3 => ?_)
        · try simp only [decide_eq_true_eq, decide_eq_false_iff_not, beq_iff_eq, beq_eq_false_iff_ne, Bool.not_eq_true', Bool.not_eq_false', Bool.not_true, Bool.not_false, Int.not_lt, Int.not_le, ne_eq, Nat.not_lt, Nat.not_le] at c3
          have hlt : k < n := (by omega)
          obtain ⟨eb, eo, rfl, _⟩ := h.2 (by omega)
          obtain ⟨⟨m1, m2⟩, m3, m4⟩ := dot_mul (allOk_bd (pen_of hpen).2.1 _ (pt_mem (show k < xs.length by omega))) (okB_bd2 hdir)
          simp only [pt] at m1 m2 m3 m4
          refine at_skip ?_
          refine norm_then ?_
          refine at_seq ?_
          refine at_block ?_
          refine at_seq ?_
          refine at_region ?_
          refine at_q rfl rfl (by decide) (qt_index rfl rfl rfl tyl_sl_impl_Pt (by omega)) ?_
          refine at_q rfl rfl (by decide) (qt_loadS rfl rfl tys_impl_Pt rfl (rdPts h hlt)) ?_
          refine at_op rfl ?_
          refine op_alloc rfl tyz_impl_Pt rfl (by decide) (fun b2 => ?_)
          refine at_rsE (by simp only [List.nil_append, List.cons_append, List.set_cons_zero, List.set_cons_succ, Value.cells, List.toList_toArray]; rfl) ?_
          refine at_op rfl ?_
          refine op_storeAll' (k := 2) rfl rfl rfl rfl (rfl) (by rfl) tyz_impl_Pt.szx rfl rfl rfl ?_
          refine at_rsE (by simp only [List.nil_append, List.cons_append, List.set_cons_zero, List.set_cons_succ, Value.cells, List.toList_toArray]; rfl) ?_
          refine at_end ?_
          refine at_region ?_
          refine at_q rfl rfl (by decide) (qt_move rfl rfl) ?_
          refine at_q rfl rfl (by decide) (qt_fieldAddr rfl rfl tyf_impl_Pt_0) ?_
          refine at_q rfl rfl (by decide) (qt_load1 rfl rfl ty1_int64 (rd1 (k := 2) rfl rfl)) ?_
          refine at_q rfl rfl (by decide) (qt_fieldAddr rfl rfl tyf_impl_Pt_0) ?_
          refine at_q rfl rfl (by decide) (qt_load1 rfl rfl ty1_int64 (rd1 (k := 0) rfl rfl)) ?_
          refine at_q rfl rfl (by decide) (qt_mul rfl rfl rfl (by omega) (by omega)) ?_
          refine at_q rfl rfl (by decide) (qt_fieldAddr rfl rfl tyf_impl_Pt_1) ?_
          refine at_q rfl rfl (by decide) (qt_load1 rfl rfl ty1_int64 (rd1 (k := 2) rfl rfl)) ?_
          refine at_q rfl rfl (by decide) (qt_fieldAddr rfl rfl tyf_impl_Pt_1) ?_
          refine at_q rfl rfl (by decide) (qt_load1 rfl rfl ty1_int64 (rd1 (k := 0) rfl rfl)) ?_
          refine at_q rfl rfl (by decide) (qt_mul rfl rfl rfl (by omega) (by omega)) ?_
          refine at_q rfl rfl (by decide) (qt_add rfl rfl rfl (by omega) (by omega)) ?_
          refine at_op rfl ?_
          refine op_buildSlice rfl rfl (bsl_sl_int64_1_0 rfl) rfl (by decide) (fun b3 => ?_)
          refine at_rsE (by simp only [List.nil_append, List.cons_append, List.set_cons_zero, List.set_cons_succ, Value.cells, List.toList_toArray]; rfl) ?_
          refine at_op rfl ?_
          refine op_appendR (k := 1) rfl tyl_sl_int64 tyz_int64 (by decide) rfl (by decide) rfl rfl rfl (fun w' hs => src_cel hs (k := 3) rfl rfl) (by simp [Value.oneCell']) (by unfold maxLen; omega) (by omega) (Nat.le_refl _) (fun r1 => ?_)
          refine at_rsE (by simp only [List.nil_append, List.cons_append, List.set_cons_zero, List.set_cons_succ, Value.cells, List.toList_toArray]; rfl) ?_
          refine at_q rfl rfl (by decide) (qt_assign rfl rfl) ?_
          refine at_nil ?_
          refine norm_block ?_
          refine norm_then ?_
          refine at_region ?_
          refine at_q rfl rfl (by decide) (qt_add rfl rfl rfl (by omega) (by omega)) ?_
          refine at_q rfl rfl (by decide) (qt_move rfl rfl) ?_
          refine at_end ?_
          exact at_againc hL1 ((k + 1, r1)) ((show k + 1 ≤ n by omega)) (by simp only; omega) ⟨rfl, vi (by omega), rfl, rfl, rfl, rfl, rfl, trivial⟩ (fun _ h => h.upto ⟨rfl, by rw [dots_step (by omega)], trivial⟩)
        · try simp only [decide_eq_true_eq, decide_eq_false_iff_not, beq_iff_eq, beq_eq_false_iff_ne, Bool.not_eq_true', Bool.not_eq_false', Bool.not_true, Bool.not_false, Int.not_lt, Int.not_le, ne_eq, Nat.not_lt, Nat.not_le] at c3
          refine at_exit ?_
          refine pass_then (fun h => by cases h) ?_
          refine pass_then (fun h => by cases h) ?_
          refine pass_hit ?_
          refine norm_then ?_
          refine at_seq ?_
          refine at_region ?_
          refine at_q rfl rfl (by decide) (qt_move rfl rfl) ?_
          refine at_q rfl rfl (by decide) (qt_assign rfl rfl) ?_
          refine at_q rfl rfl (by decide) (qt_assign rfl rfl) ?_
          refine at_end ?_
          refine at_retc ?_
          refine at_ret2 rfl (.tmp rfl) (.tmp rfl) ?_
          intro w' hs
          have hkn : k = n := by omega
          subst hkn
          have hc0 := spC_ok hpen hdir hz
          have hl0 := spL_yes hc0
          have hr := rowBack hs (k := 1) rfl
          rw [List.take_of_length_le (by omega)] at hr
          exact ⟨(rA, rc), by rw [hc0, hl0, List.length_map, hl], by rw [hl0, List.length_map, hl]; exact hr, hs.fin⟩
theorem spN {xs : List Pn} {d : Pn} (h : spC xs d = 0) : 0 < (spL xs d).length ∧ (spL xs d).length ≤ 16 ∧ (spL xs d).length = xs.length := by
  have := (pen_of (spC_at h).1).1
  rw [spL_yes h, List.length_map]
  omega
/-- The number that SupportOf finds; the code. -/
def farP (xs : List Pn) (d : Pn) : Nat := farI (fun j => dotP (pt xs j) d) (xs.length - 1)
def suV (xs : List Pn) (d : Pn) : Int := if spC xs d = 0 then (farP xs d : Int) else 0
theorem su_no {xs : List Pn} {d : Pn} (h : ¬ spC xs d = 0) : suV xs d = 0 := if_neg h
theorem su_yes {xs : List Pn} {d : Pn} (h : spC xs d = 0) : suV xs d = farP xs d := if_pos h
theorem mx_dots {xs : List Pn} {d : Pn} (h : 0 < xs.length) : mxI (nth (xs.map (dotP · d))) (xs.length - 1) = mxI (fun j => dotP (pt xs j) d) (xs.length - 1) :=
  mx_congr _ fun j hj => nth_map (by omega)
theorem mn_dots {xs : List Pn} {d : Pn} (h : 0 < xs.length) : mnI (nth (xs.map (dotP · d))) (xs.length - 1) = mnI (fun j => dotP (pt xs j) d) (xs.length - 1) :=
  mn_congr _ fun j hj => nth_map (by omega)
theorem SupportOf_any (A : Option Addr) (n c : Nat) (xs : List Pn) (d : Pn) (w : World) (h : Pts w A n xs) (hn : (n : Int) ≤ 1048576) :
    Calls Try.prog 29 #[.slice A n c, pV d] w fun e w' => e = .returned (.tuple #[.int .i64 (suV xs d), .int .i64 (spC xs d)]) ∧ Over w w' := by
  have hl := h.1
  refine walk_from (m := 21) (Try.func29) rfl rfl (Nat.le_of_ble_eq_true rfl) ?_
  refine at_seq ?_
  refine at_region ?_
  refine at_op rfl ?_
  refine op_box rfl rfl (rfl) rfl (by decide) (fun b1 => ?_)
  refine at_rsE (by simp only [List.nil_append, List.cons_append, List.set_cons_zero, List.set_cons_succ, Value.cells, List.toList_toArray]; rfl) ?_
  refine at_q rfl rfl (by decide) (qt_assign rfl rfl) ?_
  refine at_q rfl rfl (by decide) (qt_assign rfl rfl) ?_
  refine at_end ?_
  refine at_seq ?_
  refine at_region ?_
  refine at_q rfl rfl (by decide) (qt_move rfl rfl) ?_
  refine at_q rfl rfl (by decide) (qt_loadS rfl rfl tys_impl_Pt rfl (rdAll (k := 0) rfl)) ?_
  refine at_op rfl ?_
  refine op_call ok_impl_products (v := fun x => .tuple #[.slice x.1 _ x.2, .int .i64 _]) (r := fun x => rowR 0 2 1 _ _ x) (H := fun _ => True) rfl rfl rfl (by decide) (fun w1 hs => newRowT (products_any A n c xs d w1 (h.over hs.fin) hn)) ?_
  rintro ⟨pA, pc⟩ -
  refine at_rsE (by simp only [List.nil_append, List.cons_append, List.set_cons_zero, List.set_cons_succ, Value.cells, List.toList_toArray]; rfl) ?_
  refine at_q rfl rfl (by decide) (qt_move rfl rfl) ?_
  refine at_q rfl rfl (by decide) (qt_extract rfl rfl rfl) ?_
  refine at_q rfl rfl (by decide) (qt_extract rfl rfl rfl) ?_
  refine at_q rfl rfl (by decide) (qt_assign rfl rfl) ?_
  refine at_q rfl rfl (by decide) (qt_assign rfl rfl) ?_
  refine at_end ?_
  refine at_seq ?_
  refine at_seq ?_
  refine at_region ?_
  refine at_q rfl rfl (by decide) (qt_move rfl rfl) ?_
  refine at_q rfl rfl (by decide) (qt_neq rfl rfl rfl) ?_
  refine at_end ?_
  refine at_cond rfl (fun c1 => ?_) (fun c1 => ?_)
  · try simp only [decide_eq_true_eq, decide_eq_false_iff_not, beq_iff_eq, beq_eq_false_iff_ne, Bool.not_eq_true', Bool.not_eq_false', Bool.not_true, Bool.not_false, Int.not_lt, Int.not_le, ne_eq, Nat.not_lt, Nat.not_le] at c1
    refine at_seq ?_
    refine at_region ?_
    refine at_q rfl rfl (by decide) (qt_move rfl rfl) ?_
    refine at_q rfl rfl (by decide) (qt_assign rfl rfl) ?_
    refine at_q rfl rfl (by decide) (qt_assign rfl rfl) ?_
    refine at_end ?_
    refine at_retc ?_
    refine then_ret ?_
    refine at_ret2 rfl (.tmp rfl) (.tmp rfl) ?_
    intro w' hs
    exact ⟨by rw [su_no (by simpa using c1)], hs.fin⟩
  · try simp only [decide_eq_true_eq, decide_eq_false_iff_not, beq_iff_eq, beq_eq_false_iff_ne, Bool.not_eq_true', Bool.not_eq_false', Bool.not_true, Bool.not_false, Int.not_lt, Int.not_le, ne_eq, Nat.not_lt, Nat.not_le] at c1
    have hc : spC xs d = 0 := by simpa using c1
    obtain ⟨hn0, hn1, hn2⟩ := spN hc
    have hf := far_is (nth (spL xs d)) ((spL xs d).length - 1)
    have hfp : farI (nth (spL xs d)) ((spL xs d).length - 1) = farP xs d := by rw [spL_yes hc, farP, List.length_map]; exact far_congr _ fun j hj => nth_map (by omega)
    refine at_skip ?_
    refine norm_then ?_
    refine at_seq ?_
    refine at_region ?_
    refine at_q rfl rfl (by decide) (qt_move rfl rfl) ?_
    refine at_q rfl rfl (by decide) (qt_move rfl rfl) ?_
    refine at_q rfl rfl (by decide) (qt_call ok_slices_Max_sl_int64_int64 rfl rfl (fun w1 hs => slMax_any _ _ _ (spL xs d) w1 (numsRow (hs.all 1 _ rfl).1) hn0 (by omega))) ?_
    refine at_q rfl rfl (by decide) (qt_call ok_slices_Index_sl_int64_int64 rfl rfl (fun w1 hs => slIndex_any _ _ _ (farI (nth (spL xs d)) ((spL xs d).length - 1)) (spL xs d) _ w1 (numsRow (hs.all 1 _ rfl).1) (by omega) hf.2.1 (fun j hj => by have := hf.2.2 j hj; omega) (by omega))) ?_
    refine at_q rfl rfl (by decide) (qt_assign rfl rfl) ?_
    refine at_q rfl rfl (by decide) (qt_assign rfl rfl) ?_
    refine at_end ?_
    refine at_retc ?_
    refine at_ret2 rfl (.tmp rfl) (.tmp rfl) ?_
    intro w' hs
    exact ⟨by rw [su_yes hc, hfp, hc], hs.fin⟩
def exV (xs : List Pn) (d : Pn) : Int := if spC xs d = 0 then mxI (fun j => dotP (pt xs j) d) (xs.length - 1) - mnI (fun j => dotP (pt xs j) d) (xs.length - 1) else 0
theorem ex_no {xs : List Pn} {d : Pn} (h : ¬ spC xs d = 0) : exV xs d = 0 := if_neg h
theorem ex_yes {xs : List Pn} {d : Pn} (h : spC xs d = 0) : exV xs d = mxI (fun j => dotP (pt xs j) d) (xs.length - 1) - mnI (fun j => dotP (pt xs j) d) (xs.length - 1) := if_pos h
theorem dot_bd {p d : Pn} (hp : bd2 p) (hd : bd2 d) : -274877906944 ≤ dotP p d ∧ dotP p d ≤ 274877906944 := by
  have := dot_mul hp hd
  unfold dotP
  omega
theorem mx_bd {g : Nat → Int} {B : Int} : ∀ k, (∀ j, j ≤ k → -B ≤ g j ∧ g j ≤ B) → (-B ≤ mxI g k ∧ mxI g k ≤ B) ∧ -B ≤ mnI g k ∧ mnI g k ≤ B
  | 0, h => ⟨h 0 (Nat.le_refl _), h 0 (Nat.le_refl _)⟩
  | k + 1, h => by
    have h1 := mx_bd k fun j hj => h j (by omega)
    have h2 := h (k + 1) (Nat.le_refl _)
    unfold mxI mnI
    omega
theorem ex_bd {xs : List Pn} {d : Pn} (h : spC xs d = 0) : (-274877906944 ≤ mxI (fun j => dotP (pt xs j) d) (xs.length - 1) ∧ mxI (fun j => dotP (pt xs j) d) (xs.length - 1) ≤ 274877906944) ∧ -274877906944 ≤ mnI (fun j => dotP (pt xs j) d) (xs.length - 1) ∧ mnI (fun j => dotP (pt xs j) d) (xs.length - 1) ≤ 274877906944 := by
  obtain ⟨h1, h2, _⟩ := spC_at h
  obtain ⟨h3, h4, _⟩ := pen_of h1
  exact mx_bd _ fun j hj => dot_bd (allOk_bd h4 _ (pt_mem (by omega))) (okB_bd2 h2)
theorem ExtentOf_any (A : Option Addr) (n c : Nat) (xs : List Pn) (d : Pn) (w : World) (h : Pts w A n xs) (hn : (n : Int) ≤ 1048576) :
    Calls Try.prog 31 #[.slice A n c, pV d] w fun e w' => e = .returned (.tuple #[.int .i64 (exV xs d), .int .i64 (spC xs d)]) ∧ Over w w' := by
  have hl := h.1
  refine walk_from (m := 22) (Try.func31) rfl rfl (Nat.le_of_ble_eq_true rfl) ?_
  refine at_seq ?_
  refine at_region ?_
  refine at_op rfl ?_
  refine op_box rfl rfl (rfl) rfl (by decide) (fun b1 => ?_)
  refine at_rsE (by simp only [List.nil_append, List.cons_append, List.set_cons_zero, List.set_cons_succ, Value.cells, List.toList_toArray]; rfl) ?_
  refine at_q rfl rfl (by decide) (qt_assign rfl rfl) ?_
  refine at_q rfl rfl (by decide) (qt_assign rfl rfl) ?_
  refine at_end ?_
  refine at_seq ?_
  refine at_region ?_
  refine at_q rfl rfl (by decide) (qt_move rfl rfl) ?_
  refine at_q rfl rfl (by decide) (qt_loadS rfl rfl tys_impl_Pt rfl (rdAll (k := 0) rfl)) ?_
  refine at_op rfl ?_
  refine op_call ok_impl_products (v := fun x => .tuple #[.slice x.1 _ x.2, .int .i64 _]) (r := fun x => rowR 0 2 1 _ _ x) (H := fun _ => True) rfl rfl rfl (by decide) (fun w1 hs => newRowT (products_any A n c xs d w1 (h.over hs.fin) hn)) ?_
  rintro ⟨pA, pc⟩ -
  refine at_rsE (by simp only [List.nil_append, List.cons_append, List.set_cons_zero, List.set_cons_succ, Value.cells, List.toList_toArray]; rfl) ?_
  refine at_q rfl rfl (by decide) (qt_move rfl rfl) ?_
  refine at_q rfl rfl (by decide) (qt_extract rfl rfl rfl) ?_
  refine at_q rfl rfl (by decide) (qt_extract rfl rfl rfl) ?_
  refine at_q rfl rfl (by decide) (qt_assign rfl rfl) ?_
  refine at_q rfl rfl (by decide) (qt_assign rfl rfl) ?_
  refine at_end ?_
  refine at_seq ?_
  refine at_seq ?_
  refine at_region ?_
  refine at_q rfl rfl (by decide) (qt_move rfl rfl) ?_
  refine at_q rfl rfl (by decide) (qt_neq rfl rfl rfl) ?_
  refine at_end ?_
  refine at_cond rfl (fun c1 => ?_) (fun c1 => ?_)
  · try simp only [decide_eq_true_eq, decide_eq_false_iff_not, beq_iff_eq, beq_eq_false_iff_ne, Bool.not_eq_true', Bool.not_eq_false', Bool.not_true, Bool.not_false, Int.not_lt, Int.not_le, ne_eq, Nat.not_lt, Nat.not_le] at c1
    refine at_seq ?_
    refine at_region ?_
    refine at_q rfl rfl (by decide) (qt_move rfl rfl) ?_
    refine at_q rfl rfl (by decide) (qt_assign rfl rfl) ?_
    refine at_q rfl rfl (by decide) (qt_assign rfl rfl) ?_
    refine at_end ?_
    refine at_retc ?_
    refine then_ret ?_
    refine at_ret2 rfl (.tmp rfl) (.tmp rfl) ?_
    intro w' hs
    exact ⟨by rw [ex_no (by simpa using c1)], hs.fin⟩
  · try simp only [decide_eq_true_eq, decide_eq_false_iff_not, beq_iff_eq, beq_eq_false_iff_ne, Bool.not_eq_true', Bool.not_eq_false', Bool.not_true, Bool.not_false, Int.not_lt, Int.not_le, ne_eq, Nat.not_lt, Nat.not_le] at c1
    have hc : spC xs d = 0 := by simpa using c1
    obtain ⟨hn0, hn1, hn2⟩ := spN hc
    have e1 : mxI (nth (spL xs d)) ((spL xs d).length - 1) = mxI (fun j => dotP (pt xs j) d) (xs.length - 1) := by rw [spL_yes hc, List.length_map]; exact mx_dots (by omega)
    have e2 : mnI (nth (spL xs d)) ((spL xs d).length - 1) = mnI (fun j => dotP (pt xs j) d) (xs.length - 1) := by rw [spL_yes hc, List.length_map]; exact mn_dots (by omega)
    obtain ⟨⟨b1, b2⟩, b3, b4⟩ := ex_bd hc
    rw [← e1] at b1 b2
    rw [← e2] at b3 b4
    refine at_skip ?_
    refine norm_then ?_
    refine at_seq ?_
    refine at_region ?_
    refine at_q rfl rfl (by decide) (qt_move rfl rfl) ?_
    refine at_q rfl rfl (by decide) (qt_call ok_slices_Max_sl_int64_int64 rfl rfl (fun w1 hs => slMax_any _ _ _ (spL xs d) w1 (numsRow (hs.all 1 _ rfl).1) hn0 (by omega))) ?_
    refine at_q rfl rfl (by decide) (qt_move rfl rfl) ?_
    refine at_q rfl rfl (by decide) (qt_call ok_slices_Min_sl_int64_int64 rfl rfl (fun w1 hs => slMin_any _ _ _ (spL xs d) w1 (numsRow (hs.all 1 _ rfl).1) hn0 (by omega))) ?_
    refine at_q rfl rfl (by decide) (qt_sub rfl rfl rfl (by omega) (by omega)) ?_
    refine at_q rfl rfl (by decide) (qt_assign rfl rfl) ?_
    refine at_q rfl rfl (by decide) (qt_assign rfl rfl) ?_
    refine at_end ?_
    refine at_retc ?_
    refine at_ret2 rfl (.tmp rfl) (.tmp rfl) ?_
    intro w' hs
    exact ⟨by rw [ex_yes hc, e1, e2, hc], hs.fin⟩
/-! ### The reference's -/
theorem l11Dot_p (p d : Pn) (w : World) (hp : bd2 p) (hd : bd2 d) : Calls Try.prog 71 #[pV p, pV d] w fun e w' => e = .returned (.int .i64 (dotP p d)) ∧ Over w w' := by
  obtain ⟨⟨m1, m2⟩, m3, m4⟩ := dot_mul hp hd
  refine walk_from (m := 16) (Try.func71) rfl rfl (Nat.le_of_ble_eq_true rfl) ?_
  refine at_seq ?_
  refine at_region ?_
  refine at_op rfl ?_
  refine op_box rfl rfl (rfl) rfl (by decide) (fun b1 => ?_)
  refine at_rsE (by simp only [List.nil_append, List.cons_append, List.set_cons_zero, List.set_cons_succ, Value.cells, List.toList_toArray]; rfl) ?_
  refine at_op rfl ?_
  refine op_box rfl rfl (rfl) rfl (by decide) (fun b2 => ?_)
  refine at_rsE (by simp only [List.nil_append, List.cons_append, List.set_cons_zero, List.set_cons_succ, Value.cells, List.toList_toArray]; rfl) ?_
  refine at_q rfl rfl (by decide) (qt_assign rfl rfl) ?_
  refine at_end ?_
  refine at_seq ?_
  refine at_region ?_
  refine at_q rfl rfl (by decide) (qt_fieldAddr rfl rfl tyf_impl_Pt_0) ?_
  refine at_q rfl rfl (by decide) (qt_load1 rfl rfl ty1_int64 (rd1 (k := 0) rfl rfl)) ?_
  refine at_q rfl rfl (by decide) (qt_fieldAddr rfl rfl tyf_impl_Pt_0) ?_
  refine at_q rfl rfl (by decide) (qt_load1 rfl rfl ty1_int64 (rd1 (k := 1) rfl rfl)) ?_
  refine at_q rfl rfl (by decide) (qt_mul rfl rfl rfl (by omega) (by omega)) ?_
  refine at_q rfl rfl (by decide) (qt_fieldAddr rfl rfl tyf_impl_Pt_1) ?_
  refine at_q rfl rfl (by decide) (qt_load1 rfl rfl ty1_int64 (rd1 (k := 0) rfl rfl)) ?_
  refine at_q rfl rfl (by decide) (qt_fieldAddr rfl rfl tyf_impl_Pt_1) ?_
  refine at_q rfl rfl (by decide) (qt_load1 rfl rfl ty1_int64 (rd1 (k := 1) rfl rfl)) ?_
  refine at_q rfl rfl (by decide) (qt_mul rfl rfl rfl (by omega) (by omega)) ?_
  refine at_q rfl rfl (by decide) (qt_add rfl rfl rfl (by omega) (by omega)) ?_
  refine at_q rfl rfl (by decide) (qt_assign rfl rfl) ?_
  refine at_end ?_
  refine at_retc ?_
  refine at_ret1 rfl (.tmp rfl) ?_
  intro w' hs
  exact ⟨rfl, hs.fin⟩
theorem l09Times_any (p : Pn) (w : World) (hp : bd2 p) : Calls Try.prog 50 #[pV p, .int .i64 (-1)] w fun e w' => e = .returned (pV (-p.1, -p.2)) ∧ Over w w' := by
  obtain ⟨⟨p1, p2⟩, p3, p4⟩ := hp
  refine walk_from (m := 14) (Try.func50) rfl rfl (Nat.le_of_ble_eq_true rfl) ?_
  refine at_seq ?_
  refine at_region ?_
  refine at_op rfl ?_
  refine op_box rfl rfl (rfl) rfl (by decide) (fun b1 => ?_)
  refine at_rsE (by simp only [List.nil_append, List.cons_append, List.set_cons_zero, List.set_cons_succ, Value.cells, List.toList_toArray]; rfl) ?_
  refine at_op rfl ?_
  refine op_alloc rfl tyz_impl_Pt rfl (by decide) (fun b2 => ?_)
  refine at_rsE (by simp only [List.nil_append, List.cons_append, List.set_cons_zero, List.set_cons_succ, Value.cells, List.toList_toArray]; rfl) ?_
  refine at_end ?_
  refine at_seq ?_
  refine at_region ?_
  refine at_q rfl rfl (by decide) (qt_fieldAddr rfl rfl tyf_impl_Pt_0) ?_
  refine at_q rfl rfl (by decide) (qt_load1 rfl rfl ty1_int64 (rd1 (k := 0) rfl rfl)) ?_
  refine at_q rfl rfl (by decide) (qt_move rfl rfl) ?_
  refine at_q rfl rfl (by decide) (qt_mul rfl rfl rfl (by omega) (by omega)) ?_
  refine at_q rfl rfl (by decide) (qt_fieldAddr rfl rfl tyf_impl_Pt_1) ?_
  refine at_q rfl rfl (by decide) (qt_load1 rfl rfl ty1_int64 (rd1 (k := 0) rfl rfl)) ?_
  refine at_q rfl rfl (by decide) (qt_move rfl rfl) ?_
  refine at_q rfl rfl (by decide) (qt_mul rfl rfl rfl (by omega) (by omega)) ?_
  refine at_q rfl rfl (by decide) (qt_build rfl rfl (bld_impl_Pt_0_1 rfl rfl)) ?_
  refine at_op rfl ?_
  refine op_storeAll' (k := 1) rfl rfl rfl rfl (rfl) (by rfl) tyz_impl_Pt.szx rfl rfl rfl ?_
  refine at_rsE (by simp only [List.nil_append, List.cons_append, List.set_cons_zero, List.set_cons_succ, Value.cells, List.toList_toArray]; rfl) ?_
  refine at_end ?_
  refine at_retc ?_
  refine at_ret1 rfl (rvCelS (k := 1) rfl tys_impl_Pt rfl rfl) ?_
  intro w' hs
  exact ⟨by rw [show -p.1 = p.1 * -1 by omega, show -p.2 = p.2 * -1 by omega], hs.fin⟩
theorem l11Far_any (A : Option Addr) (n c : Nat) (xs : List Pn) (d : Pn) (w : World) (h : Pts w A n xs) (hx : ∀ p ∈ xs, bd2 p) (hd : bd2 d) (h0 : 0 < n) (hn : n ≤ 1048576) :
    Calls Try.prog 67 #[.slice A n c, pV d] w fun e w' => e = .returned (.int .i64 (farP xs d : Nat)) ∧ Over w w' := by
  have hl := h.1
  obtain ⟨eb, eo, rfl, _⟩ := h.2 h0
  refine walk_from (m := 28) (Try.func67) rfl rfl (Nat.le_of_ble_eq_true rfl) ?_
  refine at_seq ?_
  refine at_region ?_
  refine at_op rfl ?_
  refine op_box rfl rfl (rfl) rfl (by decide) (fun b1 => ?_)
  refine at_rsE (by simp only [List.nil_append, List.cons_append, List.set_cons_zero, List.set_cons_succ, Value.cells, List.toList_toArray]; rfl) ?_
  refine at_q rfl rfl (by decide) (qt_assign rfl rfl) ?_
  refine at_end ?_
  refine at_seq ?_
  refine at_region ?_
  refine at_q rfl rfl (by decide) (qt_assign rfl rfl) ?_
  refine at_end ?_
  refine at_seq ?_
  refine at_seq ?_
  refine at_region ?_
  refine at_q rfl rfl (by decide) (qt_assign rfl rfl) ?_
  refine at_end ?_
  refine at_block ?_
  refine at_loopk (X := Nat) (fun k => 1 ≤ k ∧ k ≤ n) (fun k => n - k) (fun k => [(5, .int .i64 (farI (fun j => dotP (pt xs j) d) (k - 1) : Nat)), (6, .int .i64 (k : Int))]) (C := [(0, _), (3, _), (4, _)]) ⟨rfl, rfl, rfl, trivial⟩ 1 (⟨Nat.le_refl _, by omega⟩) ⟨rfl, rfl, rfl, rfl, rfl, trivial⟩ ?_
  intro k hk L hL1
  refine at_envE (by simp only [List.nil_append, List.cons_append]; rfl) ?_
  have hf := far_is (fun j => dotP (pt xs j) d) (k - 1)
  refine at_seq ?_
  refine at_seq ?_
  refine at_region ?_
  refine at_q rfl rfl (by decide) (qt_move rfl rfl) ?_
  refine at_q rfl rfl (by decide) (qt_move rfl rfl) ?_
  refine at_q rfl rfl (by decide) (qt_len rfl rfl tyl_sl_impl_Pt) ?_
  refine at_q rfl rfl (by decide) (qt_lss rfl rfl rfl) ?_
  refine at_end ?_
  refine at_cond rfl (fun c1 => ?_) (fun c1 => ?_)
  · try simp only [decide_eq_true_eq, decide_eq_false_iff_not, beq_iff_eq, beq_eq_false_iff_ne, Bool.not_eq_true', Bool.not_eq_false', Bool.not_true, Bool.not_false, Int.not_lt, Int.not_le, ne_eq, Nat.not_lt, Nat.not_le] at c1
    have hlt : k < n := (by omega)
    refine at_skip ?_
    refine norm_then ?_
    refine at_seq ?_
    refine at_block ?_
    refine at_seq ?_
    refine dg_start mixed rfl ?_
    refine dg_phase 13 ?_
    refine dg_q (i := 0) rfl (by kernel_rfl) (by kernel_rfl) (by kernel_rfl) [] (by kernel_rfl) (fun _ _ _ h => h) rfl rfl (by decide) (fun _ h => h.upto ⟨rfl, trivial⟩) (qt_move rfl rfl) ?_
    refine dg_q (i := 1) rfl (by kernel_rfl) (by kernel_rfl) (by kernel_rfl) [] (by kernel_rfl) (fun _ _ _ h => h) rfl rfl (by decide) (fun _ h => h.upto ⟨rfl, trivial⟩) (qt_move rfl rfl) ?_
    refine dg_q (i := 2) rfl (by kernel_rfl) (by kernel_rfl) (by kernel_rfl) [] (by kernel_rfl) (fun _ _ _ h => h) rfl rfl (by decide) (fun _ h => h.upto ⟨rfl, trivial⟩) (qt_index rfl rfl rfl tyl_sl_impl_Pt (by omega)) ?_
    refine dg_q (i := 3) rfl (by kernel_rfl) (by kernel_rfl) (by kernel_rfl) [] (by kernel_rfl) (fun _ _ _ h => h) rfl rfl (by decide) (fun _ h => h.upto ⟨rfl, trivial⟩) (qt_loadS rfl rfl tys_impl_Pt rfl (rdPts h hlt)) ?_
    refine dg_q (i := 4) rfl (by kernel_rfl) (by kernel_rfl) (by kernel_rfl) [] (by kernel_rfl) (fun _ _ _ h => h) rfl rfl (by decide) (fun _ h => h.upto ⟨rfl, trivial⟩) (qt_loadS rfl rfl tys_impl_Pt rfl (rdAll (k := 0) rfl)) ?_
    refine dg_q (i := 5) rfl (by kernel_rfl) (by kernel_rfl) (by kernel_rfl) [] (by kernel_rfl) (fun _ _ _ h => h) rfl rfl (by decide) (fun _ h => h.upto ⟨rfl, trivial⟩) (qt_call ok_spec_l11Dot rfl rfl (fun w _ => l11Dot_p (pt xs k) d w (hx _ (pt_mem (by omega))) hd)) ?_
    refine dg_q (i := 6) rfl (by kernel_rfl) (by kernel_rfl) (by kernel_rfl) [] (by kernel_rfl) (fun _ _ _ h => h) rfl rfl (by decide) (fun _ h => h.upto ⟨rfl, trivial⟩) (qt_move rfl rfl) ?_
    refine dg_q (i := 7) rfl (by kernel_rfl) (by kernel_rfl) (by kernel_rfl) [] (by kernel_rfl) (fun _ _ _ h => h) rfl rfl (by decide) (fun _ h => h.upto ⟨rfl, trivial⟩) (qt_move rfl rfl) ?_
    refine dg_q (i := 8) rfl (by kernel_rfl) (by kernel_rfl) (by kernel_rfl) [] (by kernel_rfl) (fun _ _ _ h => h) rfl rfl (by decide) (fun _ h => h.upto ⟨rfl, trivial⟩) (qt_index rfl rfl rfl tyl_sl_impl_Pt (by omega)) ?_
    refine dg_q (i := 9) rfl (by kernel_rfl) (by kernel_rfl) (by kernel_rfl) [] (by kernel_rfl) (fun _ _ _ h => h) rfl rfl (by decide) (fun _ h => h.upto ⟨rfl, trivial⟩) (qt_loadS rfl rfl tys_impl_Pt rfl (rdPts h (by omega))) ?_
    refine dg_q (i := 10) rfl (by kernel_rfl) (by kernel_rfl) (by kernel_rfl) [] (by kernel_rfl) (fun _ _ _ h => h) rfl rfl (by decide) (fun _ h => h.upto ⟨rfl, trivial⟩) (qt_loadS rfl rfl tys_impl_Pt rfl (rdAll (k := 0) rfl)) ?_
    refine dg_q (i := 11) rfl (by kernel_rfl) (by kernel_rfl) (by kernel_rfl) [] (by kernel_rfl) (fun _ _ _ h => h) rfl rfl (by decide) (fun _ h => h.upto ⟨rfl, trivial⟩) (qt_call ok_spec_l11Dot rfl rfl (fun w _ => l11Dot_p (pt xs (farI (fun j => dotP (pt xs j) d) (k - 1))) d w (hx _ (pt_mem (by omega))) hd)) ?_
    refine dg_q (i := 12) rfl (by kernel_rfl) (by kernel_rfl) (by kernel_rfl) [] (by kernel_rfl) (fun _ _ _ h => h) rfl rfl (by decide) (fun _ h => h.upto ⟨rfl, trivial⟩) (qt_gtr rfl rfl rfl) ?_
    refine dg_done (by kernel_rfl) ?_
    refine norm_then ?_
    refine at_cond rfl (fun c2 => ?_) (fun c2 => ?_)
    · try simp only [decide_eq_true_eq, decide_eq_false_iff_not, beq_iff_eq, beq_eq_false_iff_ne, Bool.not_eq_true', Bool.not_eq_false', Bool.not_true, Bool.not_false, Int.not_lt, Int.not_le, ne_eq, Nat.not_lt, Nat.not_le] at c2
      refine at_region ?_
      refine at_q rfl rfl (by decide) (qt_move rfl rfl) ?_
      refine at_q rfl rfl (by decide) (qt_assign rfl rfl) ?_
      refine at_nil ?_
      refine norm_block ?_
      refine norm_then ?_
      refine at_region ?_
      refine at_q rfl rfl (by decide) (qt_move rfl rfl) ?_
      refine at_q rfl rfl (by decide) (qt_add rfl rfl rfl (by omega) (by omega)) ?_
      refine at_q rfl rfl (by decide) (qt_assign rfl rfl) ?_
      refine at_end ?_
      exact at_againk hL1 (k + 1) (⟨by omega, by omega⟩) (by omega) ⟨vi (by rw [far_yes hk.1 c2]), vi (by omega), rfl, rfl, rfl, trivial⟩ (fun _ h => h.upto ⟨rfl, trivial⟩)
    · try simp only [decide_eq_true_eq, decide_eq_false_iff_not, beq_iff_eq, beq_eq_false_iff_ne, Bool.not_eq_true', Bool.not_eq_false', Bool.not_true, Bool.not_false, Int.not_lt, Int.not_le, ne_eq, Nat.not_lt, Nat.not_le] at c2
      refine at_skip ?_
      refine norm_block ?_
      refine norm_then ?_
      refine at_region ?_
      refine at_q rfl rfl (by decide) (qt_move rfl rfl) ?_
      refine at_q rfl rfl (by decide) (qt_add rfl rfl rfl (by omega) (by omega)) ?_
      refine at_q rfl rfl (by decide) (qt_assign rfl rfl) ?_
      refine at_end ?_
      exact at_againk hL1 (k + 1) (⟨by omega, by omega⟩) (by omega) ⟨vi (by rw [far_no hk.1 (Int.not_lt.2 c2)]), vi (by omega), rfl, rfl, rfl, trivial⟩ (fun _ h => h.upto ⟨rfl, trivial⟩)
  · try simp only [decide_eq_true_eq, decide_eq_false_iff_not, beq_iff_eq, beq_eq_false_iff_ne, Bool.not_eq_true', Bool.not_eq_false', Bool.not_true, Bool.not_false, Int.not_lt, Int.not_le, ne_eq, Nat.not_lt, Nat.not_le] at c1
    refine at_exit ?_
    refine pass_then (fun h => by cases h) ?_
    refine pass_then (fun h => by cases h) ?_
    refine pass_hit ?_
    refine norm_then ?_
    refine at_seq ?_
    refine at_region ?_
    refine at_q rfl rfl (by decide) (qt_move rfl rfl) ?_
    refine at_q rfl rfl (by decide) (qt_assign rfl rfl) ?_
    refine at_end ?_
    refine at_retc ?_
    refine at_ret1 rfl (.tmp rfl) ?_
    intro w' hs
    exact ⟨retI (by rw [farP, show k - 1 = xs.length - 1 by omega]), hs.fin⟩
theorem l11Ask_any (A : Option Addr) (n c : Nat) (xs : List Pn) (d : Pn) (w : World) (h : Pts w A n xs) (hn : (n : Int) ≤ 1048576) :
    Calls Try.prog 66 #[.slice A n c, pV d] w fun e w' => e = .returned (.int .i64 (spC xs d)) ∧ Over w w' := by
  have hl := h.1
  refine walk_from (m := 16) (Try.func66) rfl rfl (Nat.le_of_ble_eq_true rfl) ?_
  refine at_seq ?_
  refine at_region ?_
  refine at_op rfl ?_
  refine op_box rfl rfl (rfl) rfl (by decide) (fun b1 => ?_)
  refine at_rsE (by simp only [List.nil_append, List.cons_append, List.set_cons_zero, List.set_cons_succ, Value.cells, List.toList_toArray]; rfl) ?_
  refine at_q rfl rfl (by decide) (qt_assign rfl rfl) ?_
  refine at_end ?_
  refine at_seq ?_
  refine at_seq ?_
  refine at_region ?_
  refine at_q rfl rfl (by decide) (qt_move rfl rfl) ?_
  refine at_q rfl rfl (by decide) (qt_call ok_spec_l11Pen rfl rfl (fun w1 hs => l11Pen_any A n c xs w1 (h.over hs.fin) hn)) ?_
  refine at_q rfl rfl (by decide) (qt_not rfl rfl) ?_
  refine at_q rfl rfl (by decide) (qt_move rfl rfl) ?_
  refine at_bsplit 8 rfl (fun g1 => ?_) (fun g1 => ?_)
  · try simp only [decide_eq_true_eq, decide_eq_false_iff_not, beq_iff_eq, beq_eq_false_iff_ne, Bool.not_eq_true', Bool.not_eq_false', Bool.not_true, Bool.not_false, Int.not_lt, Int.not_le, ne_eq, Nat.not_lt, Nat.not_le] at g1
    refine at_off rfl rfl rfl rfl (by decide) rfl (by decide) ?_
    refine at_off rfl rfl rfl rfl (by decide) rfl (by decide) ?_
    refine at_off rfl rfl rfl rfl (by decide) rfl (by decide) ?_
    refine at_q rfl rfl (by decide) (qt_pickT rfl rfl rfl) ?_
    refine at_end ?_
    refine at_yes rfl rfl ?_
    refine at_seq ?_
    refine at_region ?_
    refine at_q rfl rfl (by decide) (qt_assign rfl rfl) ?_
    refine at_end ?_
    refine at_retc ?_
    refine then_ret ?_
    refine at_ret1 rfl (.tmp rfl) ?_
    intro w' hs
    exact ⟨retI (spC_pen (by simp_all)).symm, hs.fin⟩
  · try simp only [decide_eq_true_eq, decide_eq_false_iff_not, beq_iff_eq, beq_eq_false_iff_ne, Bool.not_eq_true', Bool.not_eq_false', Bool.not_true, Bool.not_false, Int.not_lt, Int.not_le, ne_eq, Nat.not_lt, Nat.not_le] at g1
    refine at_on rfl rfl rfl rfl ?_
    refine op_q rfl (by decide) (qt_loadS rfl rfl tys_impl_Pt rfl (rdAll (k := 0) rfl)) ?_
    refine at_on rfl rfl rfl rfl ?_
    refine op_q rfl (by decide) (qt_call ok_spec_l03Ok rfl rfl (fun w1 hs => l03Ok_any d.1 d.2 w1)) ?_
    refine at_on rfl rfl rfl rfl ?_
    refine op_q rfl (by decide) (qt_not rfl rfl) ?_
    refine at_q rfl rfl (by decide) (qt_pickF rfl rfl rfl) ?_
    refine at_end ?_
    refine at_cond rfl (fun c1 => ?_) (fun c1 => ?_)
    · try simp only [decide_eq_true_eq, decide_eq_false_iff_not, beq_iff_eq, beq_eq_false_iff_ne, Bool.not_eq_true', Bool.not_eq_false', Bool.not_true, Bool.not_false, Int.not_lt, Int.not_le, ne_eq, Nat.not_lt, Nat.not_le] at c1
      refine at_seq ?_
      refine at_region ?_
      refine at_q rfl rfl (by decide) (qt_assign rfl rfl) ?_
      refine at_end ?_
      refine at_retc ?_
      refine then_ret ?_
      refine at_ret1 rfl (.tmp rfl) ?_
      intro w' hs
      exact ⟨retI (spC_dir (by simp_all)).symm, hs.fin⟩
    · try simp only [decide_eq_true_eq, decide_eq_false_iff_not, beq_iff_eq, beq_eq_false_iff_ne, Bool.not_eq_true', Bool.not_eq_false', Bool.not_true, Bool.not_false, Int.not_lt, Int.not_le, ne_eq, Nat.not_lt, Nat.not_le] at c1
      refine at_skip ?_
      refine norm_then ?_
      refine at_seq ?_
      refine at_seq ?_
      refine at_region ?_
      refine at_q rfl rfl (by decide) (qt_loadS rfl rfl tys_impl_Pt rfl (rdAll (k := 0) rfl)) ?_
      refine at_q rfl rfl (by decide) (qt_build rfl rfl (bld_impl_Pt_)) ?_
      refine at_q rfl rfl (by decide) (qt_eqlS_impl_Pt rfl rfl rfl) ?_
      refine at_end ?_
      refine at_cond rfl (fun c2 => ?_) (fun c2 => ?_)
      · try simp only [decide_eq_true_eq, decide_eq_false_iff_not, beq_iff_eq, beq_eq_false_iff_ne, Bool.not_eq_true', Bool.not_eq_false', Bool.not_true, Bool.not_false, Int.not_lt, Int.not_le, ne_eq, Nat.not_lt, Nat.not_le] at c2
        refine at_seq ?_
        refine at_region ?_
        refine at_q rfl rfl (by decide) (qt_assign rfl rfl) ?_
        refine at_end ?_
        refine at_retc ?_
        refine then_ret ?_
        refine at_ret1 rfl (.tmp rfl) ?_
        intro w' hs
        exact ⟨retI (spC_zero (by simp_all) (by simp_all) (dir_zero c2)).symm, hs.fin⟩
      · try simp only [decide_eq_true_eq, decide_eq_false_iff_not, beq_iff_eq, beq_eq_false_iff_ne, Bool.not_eq_true', Bool.not_eq_false', Bool.not_true, Bool.not_false, Int.not_lt, Int.not_le, ne_eq, Nat.not_lt, Nat.not_le] at c2
        refine at_skip ?_
        refine norm_then ?_
        refine at_seq ?_
        refine at_region ?_
        refine at_q rfl rfl (by decide) (qt_assign rfl rfl) ?_
        refine at_end ?_
        refine at_retc ?_
        refine at_ret1 rfl (.tmp rfl) ?_
        intro w' hs
        exact ⟨retI (spC_ok (by simp_all) (by simp_all) (dir_not c2)).symm, hs.fin⟩
theorem specSupportOf_any (A : Option Addr) (n c : Nat) (xs : List Pn) (d : Pn) (w : World) (h : Pts w A n xs) (hn : (n : Int) ≤ 1048576) :
    Calls Try.prog 28 #[.slice A n c, pV d] w fun e w' => e = .returned (.tuple #[.int .i64 (suV xs d), .int .i64 (spC xs d)]) ∧ Over w w' := by
  have hl := h.1
  refine walk_from (m := 16) (Try.func28) rfl rfl (Nat.le_of_ble_eq_true rfl) ?_
  refine at_seq ?_
  refine at_region ?_
  refine at_op rfl ?_
  refine op_box rfl rfl (rfl) rfl (by decide) (fun b1 => ?_)
  refine at_rsE (by simp only [List.nil_append, List.cons_append, List.set_cons_zero, List.set_cons_succ, Value.cells, List.toList_toArray]; rfl) ?_
  refine at_q rfl rfl (by decide) (qt_assign rfl rfl) ?_
  refine at_q rfl rfl (by decide) (qt_assign rfl rfl) ?_
  refine at_end ?_
  refine at_seq ?_
  refine at_region ?_
  refine at_q rfl rfl (by decide) (qt_move rfl rfl) ?_
  refine at_q rfl rfl (by decide) (qt_loadS rfl rfl tys_impl_Pt rfl (rdAll (k := 0) rfl)) ?_
  refine at_q rfl rfl (by decide) (qt_call ok_spec_l11Ask rfl rfl (fun w1 hs => l11Ask_any A n c xs d w1 (h.over hs.fin) hn)) ?_
  refine at_q rfl rfl (by decide) (qt_assign rfl rfl) ?_
  refine at_end ?_
  refine at_seq ?_
  refine at_seq ?_
  refine at_region ?_
  refine at_q rfl rfl (by decide) (qt_move rfl rfl) ?_
  refine at_q rfl rfl (by decide) (qt_neq rfl rfl rfl) ?_
  refine at_end ?_
  refine at_cond rfl (fun c1 => ?_) (fun c1 => ?_)
  · try simp only [decide_eq_true_eq, decide_eq_false_iff_not, beq_iff_eq, beq_eq_false_iff_ne, Bool.not_eq_true', Bool.not_eq_false', Bool.not_true, Bool.not_false, Int.not_lt, Int.not_le, ne_eq, Nat.not_lt, Nat.not_le] at c1
    refine at_seq ?_
    refine at_region ?_
    refine at_q rfl rfl (by decide) (qt_move rfl rfl) ?_
    refine at_q rfl rfl (by decide) (qt_assign rfl rfl) ?_
    refine at_q rfl rfl (by decide) (qt_assign rfl rfl) ?_
    refine at_end ?_
    refine at_retc ?_
    refine then_ret ?_
    refine at_ret2 rfl (.tmp rfl) (.tmp rfl) ?_
    intro w' hs
    exact ⟨by rw [su_no (by simpa using c1)], hs.fin⟩
  · try simp only [decide_eq_true_eq, decide_eq_false_iff_not, beq_iff_eq, beq_eq_false_iff_ne, Bool.not_eq_true', Bool.not_eq_false', Bool.not_true, Bool.not_false, Int.not_lt, Int.not_le, ne_eq, Nat.not_lt, Nat.not_le] at c1
    have hc : spC xs d = 0 := by simpa using c1
    obtain ⟨hpen, hdir, _⟩ := spC_at hc
    obtain ⟨h16, hall, _⟩ := pen_of hpen
    refine at_skip ?_
    refine norm_then ?_
    refine at_seq ?_
    refine at_region ?_
    refine at_q rfl rfl (by decide) (qt_move rfl rfl) ?_
    refine at_q rfl rfl (by decide) (qt_loadS rfl rfl tys_impl_Pt rfl (rdAll (k := 0) rfl)) ?_
    refine at_q rfl rfl (by decide) (qt_call ok_spec_l11Far rfl rfl (fun w1 hs => l11Far_any A n c xs d w1 (h.over hs.fin) (allOk_bd hall) (okB_bd2 hdir) (by omega) (by omega))) ?_
    refine at_q rfl rfl (by decide) (qt_assign rfl rfl) ?_
    refine at_q rfl rfl (by decide) (qt_assign rfl rfl) ?_
    refine at_end ?_
    refine at_retc ?_
    refine at_ret2 rfl (.tmp rfl) (.tmp rfl) ?_
    intro w' hs
    exact ⟨by rw [su_yes hc, hc], hs.fin⟩
theorem far_neg {xs : List Pn} {d : Pn} : dotP (pt xs (farP xs (-d.1, -d.2))) d = mnI (fun j => dotP (pt xs j) d) (xs.length - 1) := by
  have h := (far_is (fun j => dotP (pt xs j) (-d.1, -d.2)) (xs.length - 1)).2.1
  have e : ∀ j, dotP (pt xs j) (-d.1, -d.2) = - dotP (pt xs j) d := fun j => by
    show (pt xs j).1 * -d.1 + (pt xs j).2 * -d.2 = -((pt xs j).1 * d.1 + (pt xs j).2 * d.2)
    rw [Int.mul_neg, Int.mul_neg]; omega
  rw [mx_congr _ (fun j _ => e j), mx_neg] at h
  have h2 := e (farP xs (-d.1, -d.2))
  have h3 : dotP (pt xs (farP xs (-d.1, -d.2))) (-d.1, -d.2) = - mnI (fun j => dotP (pt xs j) d) (xs.length - 1) := h
  omega
theorem far_pos {xs : List Pn} {d : Pn} : dotP (pt xs (farP xs d)) d = mxI (fun j => dotP (pt xs j) d) (xs.length - 1) := (far_is (fun j => dotP (pt xs j) d) (xs.length - 1)).2.1
theorem farP_lt {xs : List Pn} {d : Pn} (h : 0 < xs.length) : farP xs d < xs.length := by
  have := (far_is (fun j => dotP (pt xs j) d) (xs.length - 1)).1
  unfold farP
  omega
theorem bd2_neg {p : Pn} (h : bd2 p) : bd2 (-p.1, -p.2) := by
  obtain ⟨⟨p1, p2⟩, p3, p4⟩ := h
  exact ⟨⟨by show -262144 ≤ -p.1; omega, by show -p.1 ≤ 262144; omega⟩, by show -262144 ≤ -p.2; omega, by show -p.2 ≤ 262144; omega⟩
theorem specExtentOf_any (A : Option Addr) (n c : Nat) (xs : List Pn) (d : Pn) (w : World) (h : Pts w A n xs) (hn : (n : Int) ≤ 1048576) :
    Calls Try.prog 30 #[.slice A n c, pV d] w fun e w' => e = .returned (.tuple #[.int .i64 (exV xs d), .int .i64 (spC xs d)]) ∧ Over w w' := by
  have hl := h.1
  refine walk_from (m := 35) (Try.func30) rfl rfl (Nat.le_of_ble_eq_true rfl) ?_
  refine at_seq ?_
  refine at_region ?_
  refine at_op rfl ?_
  refine op_box rfl rfl (rfl) rfl (by decide) (fun b1 => ?_)
  refine at_rsE (by simp only [List.nil_append, List.cons_append, List.set_cons_zero, List.set_cons_succ, Value.cells, List.toList_toArray]; rfl) ?_
  refine at_q rfl rfl (by decide) (qt_assign rfl rfl) ?_
  refine at_q rfl rfl (by decide) (qt_assign rfl rfl) ?_
  refine at_end ?_
  refine at_seq ?_
  refine at_region ?_
  refine at_q rfl rfl (by decide) (qt_move rfl rfl) ?_
  refine at_q rfl rfl (by decide) (qt_loadS rfl rfl tys_impl_Pt rfl (rdAll (k := 0) rfl)) ?_
  refine at_q rfl rfl (by decide) (qt_call ok_spec_l11Ask rfl rfl (fun w1 hs => l11Ask_any A n c xs d w1 (h.over hs.fin) hn)) ?_
  refine at_q rfl rfl (by decide) (qt_assign rfl rfl) ?_
  refine at_end ?_
  refine at_seq ?_
  refine at_seq ?_
  refine at_region ?_
  refine at_q rfl rfl (by decide) (qt_move rfl rfl) ?_
  refine at_q rfl rfl (by decide) (qt_neq rfl rfl rfl) ?_
  refine at_end ?_
  refine at_cond rfl (fun c1 => ?_) (fun c1 => ?_)
  · try simp only [decide_eq_true_eq, decide_eq_false_iff_not, beq_iff_eq, beq_eq_false_iff_ne, Bool.not_eq_true', Bool.not_eq_false', Bool.not_true, Bool.not_false, Int.not_lt, Int.not_le, ne_eq, Nat.not_lt, Nat.not_le] at c1
    refine at_seq ?_
    refine at_region ?_
    refine at_q rfl rfl (by decide) (qt_move rfl rfl) ?_
    refine at_q rfl rfl (by decide) (qt_assign rfl rfl) ?_
    refine at_q rfl rfl (by decide) (qt_assign rfl rfl) ?_
    refine at_end ?_
    refine at_retc ?_
    refine then_ret ?_
    refine at_ret2 rfl (.tmp rfl) (.tmp rfl) ?_
    intro w' hs
    exact ⟨by rw [ex_no (by simpa using c1)], hs.fin⟩
  · try simp only [decide_eq_true_eq, decide_eq_false_iff_not, beq_iff_eq, beq_eq_false_iff_ne, Bool.not_eq_true', Bool.not_eq_false', Bool.not_true, Bool.not_false, Int.not_lt, Int.not_le, ne_eq, Nat.not_lt, Nat.not_le] at c1
    have hc : spC xs d = 0 := by simpa using c1
    obtain ⟨hpen, hdir, _⟩ := spC_at hc
    obtain ⟨h16, hall, _⟩ := pen_of hpen
    obtain ⟨eb, eo, rfl, _⟩ := h.2 (by omega)
    have hd := okB_bd2 hdir
    have hx := allOk_bd hall
    have f1 := farP_lt (xs := xs) (d := d) (by omega)
    have f2 := farP_lt (xs := xs) (d := (-d.1, -d.2)) (by omega)
    obtain ⟨⟨b1, b2⟩, b3, b4⟩ := ex_bd hc
    rw [← far_pos] at b1 b2
    rw [← far_neg] at b3 b4
    refine at_skip ?_
    refine norm_then ?_
    refine at_seq ?_
    refine dg_start mixed rfl ?_
    refine dg_phase 9 ?_
    refine dg_q (i := 0) rfl (by kernel_rfl) (by kernel_rfl) (by kernel_rfl) [] (by kernel_rfl) (fun _ _ _ h => h) rfl rfl (by decide) (fun _ h => h.upto ⟨rfl, trivial⟩) (qt_move rfl rfl) ?_
    refine dg_q (i := 1) rfl (by kernel_rfl) (by kernel_rfl) (by kernel_rfl) [] (by kernel_rfl) (fun _ _ _ h => h) rfl rfl (by decide) (fun _ h => h.upto ⟨rfl, trivial⟩) (qt_move rfl rfl) ?_
    refine dg_q (i := 2) rfl (by kernel_rfl) (by kernel_rfl) (by kernel_rfl) [] (by kernel_rfl) (fun _ _ _ h => h) rfl rfl (by decide) (fun _ h => h.upto ⟨rfl, trivial⟩) (qt_loadS rfl rfl tys_impl_Pt rfl (rdAll (k := 0) rfl)) ?_
    refine dg_q (i := 3) rfl (by kernel_rfl) (by kernel_rfl) (by kernel_rfl) [] (by kernel_rfl) (fun _ _ _ h => h) rfl rfl (by decide) (fun _ h => h.upto ⟨rfl, trivial⟩) (qt_call ok_spec_l11Far rfl rfl (fun w1 hs => l11Far_any _ n c xs d w1 (h.over hs.fin) hx hd (by omega) (by omega))) ?_
    refine dg_q (i := 4) rfl (by kernel_rfl) (by kernel_rfl) (by kernel_rfl) [] (by kernel_rfl) (fun _ _ _ h => h) rfl rfl (by decide) (fun _ h => h.upto ⟨rfl, trivial⟩) (qt_index rfl rfl rfl tyl_sl_impl_Pt (by omega)) ?_
    refine dg_q (i := 5) rfl (by kernel_rfl) (by kernel_rfl) (by kernel_rfl) [] (by kernel_rfl) (fun _ _ _ h => h) rfl rfl (by decide) (fun _ h => h.upto ⟨rfl, trivial⟩) (qt_loadS rfl rfl tys_impl_Pt rfl (rdPts h (by omega))) ?_
    refine dg_q (i := 6) rfl (by kernel_rfl) (by kernel_rfl) (by kernel_rfl) [] (by kernel_rfl) (fun _ _ _ h => h) rfl rfl (by decide) (fun _ h => h.upto ⟨rfl, trivial⟩) (qt_loadS rfl rfl tys_impl_Pt rfl (rdAll (k := 0) rfl)) ?_
    refine dg_q (i := 7) rfl (by kernel_rfl) (by kernel_rfl) (by kernel_rfl) [] (by kernel_rfl) (fun _ _ _ h => h) rfl rfl (by decide) (fun _ h => h.upto ⟨rfl, trivial⟩) (qt_call ok_spec_l11Dot rfl rfl (fun w1 hs => l11Dot_p (pt xs (farP xs d)) d w1 (hx _ (pt_mem f1)) hd)) ?_
    refine dg_q (i := 8) rfl (by kernel_rfl) (by kernel_rfl) (by kernel_rfl) [] (by kernel_rfl) (fun _ _ _ h => h) rfl rfl (by decide) (fun _ h => h.upto ⟨rfl, trivial⟩) (qt_assign rfl rfl) ?_
    refine dg_done (by kernel_rfl) ?_
    refine norm_then ?_
    refine at_seq ?_
    refine dg_start mixed rfl ?_
    refine dg_phase 10 ?_
    refine dg_q (i := 0) rfl (by kernel_rfl) (by kernel_rfl) (by kernel_rfl) [] (by kernel_rfl) (fun _ _ _ h => h) rfl rfl (by decide) (fun _ h => h.upto ⟨rfl, trivial⟩) (qt_move rfl rfl) ?_
    refine dg_q (i := 1) rfl (by kernel_rfl) (by kernel_rfl) (by kernel_rfl) [] (by kernel_rfl) (fun _ _ _ h => h) rfl rfl (by decide) (fun _ h => h.upto ⟨rfl, trivial⟩) (qt_move rfl rfl) ?_
    refine dg_q (i := 2) rfl (by kernel_rfl) (by kernel_rfl) (by kernel_rfl) [] (by kernel_rfl) (fun _ _ _ h => h) rfl rfl (by decide) (fun _ h => h.upto ⟨rfl, trivial⟩) (qt_loadS rfl rfl tys_impl_Pt rfl (rdAll (k := 0) rfl)) ?_
    refine dg_q (i := 3) rfl (by kernel_rfl) (by kernel_rfl) (by kernel_rfl) [] (by kernel_rfl) (fun _ _ _ h => h) rfl rfl (by decide) (fun _ h => h.upto ⟨rfl, trivial⟩) (qt_call ok_spec_l09Times rfl rfl (fun w1 hs => l09Times_any d w1 hd)) ?_
    refine dg_q (i := 4) rfl (by kernel_rfl) (by kernel_rfl) (by kernel_rfl) [] (by kernel_rfl) (fun _ _ _ h => h) rfl rfl (by decide) (fun _ h => h.upto ⟨rfl, trivial⟩) (qt_call ok_spec_l11Far rfl rfl (fun w1 hs => l11Far_any _ n c xs (-d.1, -d.2) w1 (h.over hs.fin) hx (bd2_neg hd) (by omega) (by omega))) ?_
    refine dg_q (i := 5) rfl (by kernel_rfl) (by kernel_rfl) (by kernel_rfl) [] (by kernel_rfl) (fun _ _ _ h => h) rfl rfl (by decide) (fun _ h => h.upto ⟨rfl, trivial⟩) (qt_index rfl rfl rfl tyl_sl_impl_Pt (by omega)) ?_
    refine dg_q (i := 6) rfl (by kernel_rfl) (by kernel_rfl) (by kernel_rfl) [] (by kernel_rfl) (fun _ _ _ h => h) rfl rfl (by decide) (fun _ h => h.upto ⟨rfl, trivial⟩) (qt_loadS rfl rfl tys_impl_Pt rfl (rdPts h (by omega))) ?_
    refine dg_q (i := 7) rfl (by kernel_rfl) (by kernel_rfl) (by kernel_rfl) [] (by kernel_rfl) (fun _ _ _ h => h) rfl rfl (by decide) (fun _ h => h.upto ⟨rfl, trivial⟩) (qt_loadS rfl rfl tys_impl_Pt rfl (rdAll (k := 0) rfl)) ?_
    refine dg_q (i := 8) rfl (by kernel_rfl) (by kernel_rfl) (by kernel_rfl) [] (by kernel_rfl) (fun _ _ _ h => h) rfl rfl (by decide) (fun _ h => h.upto ⟨rfl, trivial⟩) (qt_call ok_spec_l11Dot rfl rfl (fun w1 hs => l11Dot_p (pt xs (farP xs (-d.1, -d.2))) d w1 (hx _ (pt_mem f2)) hd)) ?_
    refine dg_q (i := 9) rfl (by kernel_rfl) (by kernel_rfl) (by kernel_rfl) [] (by kernel_rfl) (fun _ _ _ h => h) rfl rfl (by decide) (fun _ h => h.upto ⟨rfl, trivial⟩) (qt_assign rfl rfl) ?_
    refine dg_done (by kernel_rfl) ?_
    refine norm_then ?_
    refine at_seq ?_
    refine at_region ?_
    refine at_q rfl rfl (by decide) (qt_move rfl rfl) ?_
    refine at_q rfl rfl (by decide) (qt_move rfl rfl) ?_
    refine at_q rfl rfl (by decide) (qt_sub rfl rfl rfl (by omega) (by omega)) ?_
    refine at_q rfl rfl (by decide) (qt_assign rfl rfl) ?_
    refine at_q rfl rfl (by decide) (qt_assign rfl rfl) ?_
    refine at_end ?_
    refine at_retc ?_
    refine at_ret2 rfl (.tmp rfl) (.tmp rfl) ?_
    intro w' hs
    exact ⟨by rw [ex_yes hc, ← far_pos, ← far_neg, hc], hs.fin⟩
theorem szV_okk {l : Int} {n : Nat} (h : 0 ≤ szV l n) : (n : Int) ≤ l ∧ szV l n = l - n := by
  unfold szV at *
  split
  · exact ⟨by assumption, rfl⟩
  · rename_i h2; rw [if_neg h2] at h; omega
theorem posF2 (a b : Nat) : decide ((1 : Int) + 2 * (a : Int) + 2 * (b : Int) < 0) = false := decide_eq_false (by omega)
/-- Points that the laws have copied. -/
theorem ptsPtS (A : Option Addr) (n c : Nat) (xs : List (Int × Int)) (w1 : World) (h : Pts w1 A n xs) (hn : (n : Int) ≤ 1048576) :
    Calls Try.prog 15 #[.slice A n c] w1 fun e w' => ∃ x : Nat × Nat × Nat, e = .returned (.slice (some ⟨x.1, 0, none⟩) n n) ∧ Over w1 w' ∧ (ptsR n xs x.2.1 x.2.2 (some ⟨x.1, 0, none⟩)).P w' ∧ (∀ b, (ptsR n xs x.2.1 x.2.2 (some ⟨x.1, 0, none⟩)).F b → w1.heap.size ≤ b) ∧ (ptsR n xs x.2.1 x.2.2 (some ⟨x.1, 0, none⟩)).B = 0 ∧ True := by
  have hl : xs.length = n := h.1
  subst hl
  refine (toPtS_any A _ c xs w1 h hn).mono ?_
  rintro e w' ⟨g, rfl, hg, ho, hO⟩
  refine ⟨(g, w1.heap.size, w'.heap.size), rfl, hO, ptsP ?_ (Nat.le_refl _), fun b hb => hb.1, rfl, trivial⟩
  obtain ⟨⟨cs, hs, hh⟩, hl, hx⟩ := ho
  refine ⟨rfl, fun h0 => ⟨g, 0, _, cs, rfl, hg, lt_of_some hh, hh, fun k hk => ?_⟩⟩
  obtain ⟨b, o, e, _, hc⟩ := hx h0
  injection e with e
  injection e with e1 e2
  subst e1 e2
  have := hc k hk
  rwa [cell_of_row w' _ _ _ _ (0, 0) hh, cell_of_row w' _ _ _ _ (0, 0) hh] at this
theorem markSlcM (m : Int) {lo hi n c : Nat} {A : Option Addr} {xs : List (Int × Int)} {w : World} (h : OwnP lo hi w A n xs) (hz : hi ≤ w.heap.size) (hm : 0 ≤ m) (hb : m + 2 * (n : Int) ≤ 4611686018427387904) :
    Calls Try.prog 18 #[.slice A n c, .int .i64 m] w fun e w' => e = .returned (.int .i64 (m + 2 * (n : Int))) ∧ Wrs (ptsR n xs lo hi A).F w w' ∧ (ptsR n (marks m n) lo hi A).P w' :=
  (markPtS_any lo hi A n c xs m w h hm hb).mono (by rintro e w' ⟨he, hw, hg⟩; exact ⟨he, hw.mono fun _ h => h.2.2, ptsP hg (Nat.le_trans hz hw.size)⟩)
/-! ### Reflections -/
def negP (p : Pn) : Pn := (-p.1, -p.2)
def rfR (xs : List Pn) : List Pn := if penB xs = true then hullP (xs.map negP) else []
def rfC (xs : List Pn) : Int := if penB xs = true then 0 else 1
theorem rf_no {xs : List Pn} (h : penB xs = false) : rfR xs = [] ∧ rfC xs = 1 := by simp [rfR, rfC, h]
theorem rf_yes {xs : List Pn} (h : penB xs = true) : rfR xs = hullP (xs.map negP) ∧ rfC xs = 0 := by simp [rfR, rfC, h]
theorem rfR_len (xs : List Pn) : (rfR xs).length ≤ 500 := by
  unfold rfR
  split
  · rename_i h
    have := (pen_of h).1
    have := hull_len (xs.map negP)
    rw [List.length_map] at this
    omega
  · simp
theorem negs_H {xs : List Pn} (h : allOk xs = true) : ∀ p ∈ xs.map negP, bdH p := by
  intro p hp
  obtain ⟨q, hq, rfl⟩ := List.mem_map.1 hp
  exact (bd2_neg (allOk_bd h q hq)).mid
theorem negs_step {xs : List Pn} {k : Nat} (h : k < xs.length) : ((xs.take (k + 1)).map negP).flatMap ptCells = ((xs.take k).map negP).flatMap ptCells ++ [.int .i64 (-px xs k), .int .i64 (-py xs k)] := by
  rw [List.take_succ_eq_append_getElem h, List.map_append, List.flatMap_append, pt_at h]
  rfl
theorem mapTake_len {xs : List Pn} {f : Pn → Pn} {k : Nat} (h : k ≤ xs.length) : ((xs.take k).map f).length = k := by rw [List.length_map, List.length_take]; omega
theorem ReflectPen_any (A : Option Addr) (n c : Nat) (xs : List Pn) (w : World) (h : Pts w A n xs) (hn : (n : Int) ≤ 1048576) :
    Calls Try.prog 16 #[.slice A n c] w fun e w' => ∃ A' c', e = .returned (.tuple #[.slice A' (rfR xs).length c', .int .i64 (rfC xs)]) ∧ OwnP w.heap.size w'.heap.size w' A' (rfR xs).length (rfR xs) ∧ Over w w' := by
  have hl := h.1
  refine walk_from (m := 29) (Try.func16) rfl rfl (Nat.le_of_ble_eq_true rfl) ?_
  refine at_seq ?_
  refine at_region ?_
  refine at_q rfl rfl (by decide) (qt_assign rfl rfl) ?_
  refine at_q rfl rfl (by decide) (qt_assign rfl rfl) ?_
  refine at_end ?_
  refine at_seq ?_
  refine at_seq ?_
  refine at_region ?_
  refine at_q rfl rfl (by decide) (qt_move rfl rfl) ?_
  refine at_q rfl rfl (by decide) (qt_call ok_impl_IsPen rfl rfl (fun w1 hs => IsPen_any A n c xs w1 (h.over hs.fin) hn)) ?_
  refine at_q rfl rfl (by decide) (qt_not rfl rfl) ?_
  refine at_end ?_
  refine at_cond rfl (fun c1 => ?_) (fun c1 => ?_)
  · try simp only [decide_eq_true_eq, decide_eq_false_iff_not, beq_iff_eq, beq_eq_false_iff_ne, Bool.not_eq_true', Bool.not_eq_false', Bool.not_true, Bool.not_false, Int.not_lt, Int.not_le, ne_eq, Nat.not_lt, Nat.not_le] at c1
    refine at_seq ?_
    refine at_region ?_
    refine at_q rfl rfl (by decide) (qt_assign rfl rfl) ?_
    refine at_q rfl rfl (by decide) (qt_assign rfl rfl) ?_
    refine at_end ?_
    refine at_retc ?_
    refine then_ret ?_
    refine at_ret2 rfl (.tmp rfl) (.tmp rfl) ?_
    intro w' hs
    obtain ⟨e1, e2⟩ := rf_no (by simpa using c1)
    exact ⟨none, 0, by rw [e1, e2]; rfl, by rw [e1]; exact OwnP.nil none, hs.fin⟩
  · try simp only [decide_eq_true_eq, decide_eq_false_iff_not, beq_iff_eq, beq_eq_false_iff_ne, Bool.not_eq_true', Bool.not_eq_false', Bool.not_true, Bool.not_false, Int.not_lt, Int.not_le, ne_eq, Nat.not_lt, Nat.not_le] at c1
    have hpen : penB xs = true := by simpa using c1
    obtain ⟨h16, hall, _⟩ := pen_of hpen
    have hbd := allOk_bd hall
    obtain ⟨e1, e2⟩ := rf_yes hpen
    refine at_skip ?_
    refine norm_then ?_
    refine at_seq ?_
    refine at_region ?_
    refine at_q rfl rfl (by decide) (qt_assign rfl rfl) ?_
    refine at_row0 (T := 34) (s := 2) ?_
    refine at_rsE (by simp only [List.nil_append, List.cons_append, List.set_cons_zero, List.set_cons_succ, Value.cells, List.toList_toArray]; rfl) ?_
    refine at_end ?_
    refine at_seq ?_
    refine at_seq ?_
    refine at_region ?_
    refine at_q rfl rfl (by decide) (qt_move rfl rfl) ?_
    refine at_q rfl rfl (by decide) (qt_len rfl rfl tyl_sl_impl_Pt) ?_
    refine at_q rfl rfl (by decide) (qt_move rfl rfl) ?_
    refine at_end ?_
    refine at_block ?_
    refine at_loopc (X := Nat × Option Addr × Nat) (fun x => x.1 ≤ n) (fun x => n - x.1) (fun x => [(4, .slice x.2.1 x.1 x.2.2), (12, .int .i64 (x.1 : Int))]) (C := [(2, _), (3, _), (10, _), (11, _)]) ⟨rfl, rfl, rfl, rfl, trivial⟩ (fun x => [rowR (Bs.N ⟨w, []⟩) 34 2 x.1 (((xs.take x.1).map negP).flatMap ptCells) x.2]) (0, none, 0) (Nat.zero_le _) ⟨rfl, rfl, rfl, rfl, rfl, rfl, trivial⟩ (fun _ h => h) ?_
    intro ⟨k, rA, rc⟩ hk L hL1
    refine at_envE (by simp only [List.nil_append, List.cons_append]; rfl) ?_
    refine at_rsE (by first | (dsimp only; done) | (dsimp only; rfl) | rfl) ?_
    have hk : k ≤ n := hk
    refine at_seq ?_
    refine at_region ?_
    refine at_q rfl rfl (by decide) (qt_lss rfl rfl rfl) ?_
    refine at_end ?_
    refine at_seq ?_
    refine at_cond rfl (fun c2 => ?_) (fun c2 => ?_)
    · try simp only [decide_eq_true_eq, decide_eq_false_iff_not, beq_iff_eq, beq_eq_false_iff_ne, Bool.not_eq_true', Bool.not_eq_false', Bool.not_true, Bool.not_false, Int.not_lt, Int.not_le, ne_eq, Nat.not_lt, Nat.not_le] at c2
      have hlt : k < n := (by omega)
      obtain ⟨eb, eo, rfl, _⟩ := h.2 (by omega)
      obtain ⟨⟨m1, m2⟩, m3, m4⟩ := hbd _ (pt_mem (show k < xs.length by omega))
      simp only [pt] at m1 m2 m3 m4
      refine at_skip ?_
      refine norm_then ?_
      refine at_seq ?_
      refine at_block ?_
      refine at_seq ?_
      refine at_region ?_
      refine at_q rfl rfl (by decide) (qt_index rfl rfl rfl tyl_sl_impl_Pt (by omega)) ?_
      refine at_q rfl rfl (by decide) (qt_loadS rfl rfl tys_impl_Pt rfl (rdPts h hlt)) ?_
      refine at_op rfl ?_
      refine op_alloc rfl tyz_impl_Pt rfl (by decide) (fun b1 => ?_)
      refine at_rsE (by simp only [List.nil_append, List.cons_append, List.set_cons_zero, List.set_cons_succ, Value.cells, List.toList_toArray]; rfl) ?_
      refine at_op rfl ?_
      refine op_storeAll' (k := 1) rfl rfl rfl rfl (rfl) (by rfl) tyz_impl_Pt.szx rfl rfl rfl ?_
      refine at_rsE (by simp only [List.nil_append, List.cons_append, List.set_cons_zero, List.set_cons_succ, Value.cells, List.toList_toArray]; rfl) ?_
      refine at_end ?_
      refine at_region ?_
      refine at_q rfl rfl (by decide) (qt_move rfl rfl) ?_
      refine at_q rfl rfl (by decide) (qt_fieldAddr rfl rfl tyf_impl_Pt_0) ?_
      refine at_q rfl rfl (by decide) (qt_load1 rfl rfl ty1_int64 (rd1 (k := 1) rfl rfl)) ?_
      refine at_q rfl rfl (by decide) (qt_neg rfl rfl (by omega) (by omega)) ?_
      refine at_q rfl rfl (by decide) (qt_fieldAddr rfl rfl tyf_impl_Pt_1) ?_
      refine at_q rfl rfl (by decide) (qt_load1 rfl rfl ty1_int64 (rd1 (k := 1) rfl rfl)) ?_
      refine at_q rfl rfl (by decide) (qt_neg rfl rfl (by omega) (by omega)) ?_
      refine at_q rfl rfl (by decide) (qt_build rfl rfl (bld_impl_Pt_0_1 rfl rfl)) ?_
      refine at_op rfl ?_
      refine op_buildSlice rfl rfl (bsl_sl_impl_Pt_1_0 rfl) rfl (by decide) (fun b2 => ?_)
      refine at_rsE (by simp only [List.nil_append, List.cons_append, List.set_cons_zero, List.set_cons_succ, Value.cells, List.toList_toArray]; rfl) ?_
      refine at_op rfl ?_
      refine op_appendR (k := 0) rfl tyl_sl_impl_Pt tyz_impl_Pt (by decide) rfl (by decide) rfl rfl rfl (fun w' hs => src_cel hs (k := 2) rfl rfl) (by simp [Value.oneCell']) (by unfold maxLen; omega) (by omega) (Nat.le_refl _) (fun r1 => ?_)
      refine at_rsE (by simp only [List.nil_append, List.cons_append, List.set_cons_zero, List.set_cons_succ, Value.cells, List.toList_toArray]; rfl) ?_
      refine at_q rfl rfl (by decide) (qt_assign rfl rfl) ?_
      refine at_nil ?_
      refine norm_block ?_
      refine norm_then ?_
      refine at_region ?_
      refine at_q rfl rfl (by decide) (qt_add rfl rfl rfl (by omega) (by omega)) ?_
      refine at_q rfl rfl (by decide) (qt_move rfl rfl) ?_
      refine at_end ?_
      exact at_againc hL1 ((k + 1, r1)) ((show k + 1 ≤ n by omega)) (by simp only; omega) ⟨rfl, vi (by omega), rfl, rfl, rfl, rfl, trivial⟩ (fun _ h => h.upto ⟨by rw [negs_step (by omega)], trivial⟩)
    · try simp only [decide_eq_true_eq, decide_eq_false_iff_not, beq_iff_eq, beq_eq_false_iff_ne, Bool.not_eq_true', Bool.not_eq_false', Bool.not_true, Bool.not_false, Int.not_lt, Int.not_le, ne_eq, Nat.not_lt, Nat.not_le] at c2
      have hkn : k = n := (by omega)
      subst hkn
      rw [List.take_of_length_le (show xs.length ≤ k by omega)]
      refine at_exit ?_
      refine pass_then (fun h => by cases h) ?_
      refine pass_then (fun h => by cases h) ?_
      refine pass_hit ?_
      refine norm_then ?_
      refine at_seq ?_
      refine at_region ?_
      refine at_q rfl rfl (by decide) (qt_move rfl rfl) ?_
      refine at_op rfl ?_
      refine op_call ok_impl_hullOf (v := fun x => .slice x.1 _ x.2) (r := fun x => rowR 0 34 2 _ _ x) (H := fun _ => True) rfl rfl rfl (by decide) (fun w1 hs => newRow' (hullOf_any _ _ _ (xs.map negP) w1 (ptsRow (hs.all 0 _ rfl).1 (by rw [List.length_map]; exact hl)) (negs_H hall) (by omega) (by omega))) ?_
      rintro ⟨pA, pc⟩ -
      refine at_rsE (by simp only [List.nil_append, List.cons_append, List.set_cons_zero, List.set_cons_succ, Value.cells, List.toList_toArray]; rfl) ?_
      refine at_q rfl rfl (by decide) (qt_assign rfl rfl) ?_
      refine at_q rfl rfl (by decide) (qt_assign rfl rfl) ?_
      refine at_end ?_
      refine at_retc ?_
      refine at_ret2 rfl (.tmp rfl) (.tmp rfl) ?_
      intro w' hs
      exact ⟨pA, pc, by rw [e1, e2], by rw [e1]; exact rowOwn3 hs (k := 1) rfl rfl, hs.fin⟩
theorem specReflectPen_any (A : Option Addr) (n c : Nat) (xs : List Pn) (w : World) (h : Pts w A n xs) (hn : (n : Int) ≤ 1048576) :
    Calls Try.prog 14 #[.slice A n c] w fun e w' => ∃ A' c', e = .returned (.tuple #[.slice A' (rfR xs).length c', .int .i64 (rfC xs)]) ∧ OwnP w.heap.size w'.heap.size w' A' (rfR xs).length (rfR xs) ∧ Over w w' := by
  have hl := h.1
  refine walk_from (m := 26) (Try.func14) rfl rfl (Nat.le_of_ble_eq_true rfl) ?_
  refine at_seq ?_
  refine at_region ?_
  refine at_q rfl rfl (by decide) (qt_assign rfl rfl) ?_
  refine at_q rfl rfl (by decide) (qt_assign rfl rfl) ?_
  refine at_end ?_
  refine at_seq ?_
  refine at_seq ?_
  refine at_region ?_
  refine at_q rfl rfl (by decide) (qt_move rfl rfl) ?_
  refine at_q rfl rfl (by decide) (qt_call ok_spec_l11Pen rfl rfl (fun w1 hs => l11Pen_any A n c xs w1 (h.over hs.fin) hn)) ?_
  refine at_q rfl rfl (by decide) (qt_not rfl rfl) ?_
  refine at_end ?_
  refine at_cond rfl (fun c1 => ?_) (fun c1 => ?_)
  · try simp only [decide_eq_true_eq, decide_eq_false_iff_not, beq_iff_eq, beq_eq_false_iff_ne, Bool.not_eq_true', Bool.not_eq_false', Bool.not_true, Bool.not_false, Int.not_lt, Int.not_le, ne_eq, Nat.not_lt, Nat.not_le] at c1
    refine at_seq ?_
    refine at_region ?_
    refine at_q rfl rfl (by decide) (qt_assign rfl rfl) ?_
    refine at_q rfl rfl (by decide) (qt_assign rfl rfl) ?_
    refine at_end ?_
    refine at_retc ?_
    refine then_ret ?_
    refine at_ret2 rfl (.tmp rfl) (.tmp rfl) ?_
    intro w' hs
    obtain ⟨e1, e2⟩ := rf_no (by simpa using c1)
    exact ⟨none, 0, by rw [e1, e2]; rfl, by rw [e1]; exact OwnP.nil none, hs.fin⟩
  · try simp only [decide_eq_true_eq, decide_eq_false_iff_not, beq_iff_eq, beq_eq_false_iff_ne, Bool.not_eq_true', Bool.not_eq_false', Bool.not_true, Bool.not_false, Int.not_lt, Int.not_le, ne_eq, Nat.not_lt, Nat.not_le] at c1
    have hpen : penB xs = true := by simpa using c1
    obtain ⟨h16, hall, _⟩ := pen_of hpen
    have hbd := allOk_bd hall
    obtain ⟨e1, e2⟩ := rf_yes hpen
    refine at_skip ?_
    refine norm_then ?_
    refine at_seq ?_
    refine at_region ?_
    refine at_op rfl ?_
    refine op_buildSlice rfl rfl (bsl_sl_impl_Pt_0) rfl (by decide) (fun b1 => ?_)
    refine at_rowN 0 2 rfl rfl ?_
    refine at_rsE (by simp only [List.nil_append, List.cons_append, List.set_cons_zero, List.set_cons_succ, Value.cells, List.toList_toArray]; rfl) ?_
    refine at_q rfl rfl (by decide) (qt_assign rfl rfl) ?_
    refine at_end ?_
    refine at_seq ?_
    refine at_seq ?_
    refine at_region ?_
    refine at_q rfl rfl (by decide) (qt_assign rfl rfl) ?_
    refine at_end ?_
    refine at_block ?_
    refine at_loopc (X := Nat × Option Addr × Nat) (fun x => x.1 ≤ n) (fun x => n - x.1) (fun x => [(4, .slice x.2.1 x.1 x.2.2), (5, .int .i64 (x.1 : Int))]) (C := [(0, _), (2, _), (3, _)]) ⟨rfl, rfl, rfl, trivial⟩ (fun x => [rowR (Bs.N ⟨w, []⟩) 34 2 x.1 (((xs.take x.1).map negP).flatMap ptCells) x.2]) (0, some ⟨b1, 0, none⟩, 0) (Nat.zero_le _) ⟨rfl, rfl, rfl, rfl, rfl, trivial⟩ (fun _ h => h) ?_
    intro ⟨k, rA, rc⟩ hk L hL1
    refine at_envE (by simp only [List.nil_append, List.cons_append]; rfl) ?_
    refine at_rsE (by first | (dsimp only; done) | (dsimp only; rfl) | rfl) ?_
    have hk : k ≤ n := hk
    refine at_seq ?_
    refine at_seq ?_
    refine at_region ?_
    refine at_q rfl rfl (by decide) (qt_move rfl rfl) ?_
    refine at_q rfl rfl (by decide) (qt_move rfl rfl) ?_
    refine at_q rfl rfl (by decide) (qt_len rfl rfl tyl_sl_impl_Pt) ?_
    refine at_q rfl rfl (by decide) (qt_lss rfl rfl rfl) ?_
    refine at_end ?_
    refine at_cond rfl (fun c2 => ?_) (fun c2 => ?_)
    · try simp only [decide_eq_true_eq, decide_eq_false_iff_not, beq_iff_eq, beq_eq_false_iff_ne, Bool.not_eq_true', Bool.not_eq_false', Bool.not_true, Bool.not_false, Int.not_lt, Int.not_le, ne_eq, Nat.not_lt, Nat.not_le] at c2
      have hlt : k < n := (by omega)
      obtain ⟨eb, eo, rfl, _⟩ := h.2 (by omega)
      refine at_skip ?_
      refine norm_then ?_
      refine at_seq ?_
      refine at_block ?_
      refine at_region ?_
      refine at_q rfl rfl (by decide) (qt_move rfl rfl) ?_
      refine at_q rfl rfl (by decide) (qt_move rfl rfl) ?_
      refine at_q rfl rfl (by decide) (qt_move rfl rfl) ?_
      refine at_q rfl rfl (by decide) (qt_index rfl rfl rfl tyl_sl_impl_Pt (by omega)) ?_
      refine at_q rfl rfl (by decide) (qt_loadS rfl rfl tys_impl_Pt rfl (rdPts h hlt)) ?_
      refine at_q rfl rfl (by decide) (qt_call ok_spec_l09Times rfl rfl (fun w1 hs => l09Times_any (pt xs k) w1 (hbd _ (pt_mem (by omega))))) ?_
      refine at_op rfl ?_
      refine op_buildSlice rfl rfl (bsl_sl_impl_Pt_1_0 rfl) rfl (by decide) (fun b2 => ?_)
      refine at_rsE (by simp only [List.nil_append, List.cons_append, List.set_cons_zero, List.set_cons_succ, Value.cells, List.toList_toArray]; rfl) ?_
      refine at_op rfl ?_
      refine op_appendR (k := 0) rfl tyl_sl_impl_Pt tyz_impl_Pt (by decide) rfl (by decide) rfl rfl rfl (fun w' hs => src_cel hs (k := 1) rfl rfl) (by simp [Value.oneCell']) (by unfold maxLen; omega) (by omega) (Nat.le_refl _) (fun r1 => ?_)
      refine at_rsE (by simp only [List.nil_append, List.cons_append, List.set_cons_zero, List.set_cons_succ, Value.cells, List.toList_toArray]; rfl) ?_
      refine at_q rfl rfl (by decide) (qt_assign rfl rfl) ?_
      refine at_nil ?_
      refine norm_block ?_
      refine norm_then ?_
      refine at_region ?_
      refine at_q rfl rfl (by decide) (qt_move rfl rfl) ?_
      refine at_q rfl rfl (by decide) (qt_add rfl rfl rfl (by omega) (by omega)) ?_
      refine at_q rfl rfl (by decide) (qt_assign rfl rfl) ?_
      refine at_end ?_
      exact at_againc hL1 ((k + 1, r1)) ((show k + 1 ≤ n by omega)) (by simp only; omega) ⟨rfl, vi (by omega), rfl, rfl, rfl, trivial⟩ (fun _ h => h.upto ⟨by rw [negs_step (by omega)]; rfl, trivial⟩)
    · try simp only [decide_eq_true_eq, decide_eq_false_iff_not, beq_iff_eq, beq_eq_false_iff_ne, Bool.not_eq_true', Bool.not_eq_false', Bool.not_true, Bool.not_false, Int.not_lt, Int.not_le, ne_eq, Nat.not_lt, Nat.not_le] at c2
      have hkn : k = n := (by omega)
      subst hkn
      rw [List.take_of_length_le (show xs.length ≤ k by omega)]
      refine at_exit ?_
      refine pass_then (fun h => by cases h) ?_
      refine pass_then (fun h => by cases h) ?_
      refine pass_hit ?_
      refine norm_then ?_
      refine at_seq ?_
      refine at_region ?_
      refine at_q rfl rfl (by decide) (qt_move rfl rfl) ?_
      refine at_op rfl ?_
      refine op_call ok_spec_l11Hull (v := fun x => .slice x.1 _ x.2) (r := fun x => rowR 0 34 2 _ _ x) (H := fun _ => True) rfl rfl rfl (by decide) (fun w1 hs => newRow' (l11Hull_any _ _ _ (xs.map negP) w1 (ptsRow (hs.all 0 _ rfl).1 (by rw [List.length_map]; exact hl)) (negs_H hall) (by omega))) ?_
      rintro ⟨pA, pc⟩ -
      refine at_rsE (by simp only [List.nil_append, List.cons_append, List.set_cons_zero, List.set_cons_succ, Value.cells, List.toList_toArray]; rfl) ?_
      refine at_q rfl rfl (by decide) (qt_assign rfl rfl) ?_
      refine at_q rfl rfl (by decide) (qt_assign rfl rfl) ?_
      refine at_end ?_
      refine at_retc ?_
      refine at_ret2 rfl (.tmp rfl) (.tmp rfl) ?_
      intro w' hs
      exact ⟨pA, pc, by rw [e1, e2], by rw [e1]; exact rowOwn3 hs (k := 1) rfl rfl, hs.fin⟩
end Go.Proofs.Ytcplmmoeglembaa
