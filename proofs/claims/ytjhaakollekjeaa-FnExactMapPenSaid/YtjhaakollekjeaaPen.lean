/- Hulls of points: the program's; pens; pens in directions; reflections. -/
import Derived.Test.YtjhaakollekjeaaHull
import Derived.Test.YtjhaakollekjeaaLaw
import Derived.Test.YtjhaakollekjeaaHotLaw
import Derived.Test.YtjhaakollekjeaaLawKit
import Derived.Test.YtjhaakollekjeaaNums
import Derived.Test.YtjhaakollekjeaaSlc
namespace Go.Proofs.Ytjhaakollekjeaa
open Go Go.RowKit
set_option linter.unusedVariables false
set_option linter.unusedSimpArgs false
set_option maxRecDepth 100000
set_option maxHeartbeats 4000000
set_option linter.unusedVariables false
set_option linter.unusedSimpArgs false

theorem reverse_rowP {B g n c : Nat} {xs : List Pn} {w : World} (h : (rowR B 103 2 n (xs.flatMap ptCells) (some ⟨g, 0, none⟩, c)).P w) (hn : xs.length = n) (hn2 : n ≤ 1048576) :
  Calls Try.prog 106 #[.slice (some ⟨g, 0, none⟩) n c] w fun e w' => e = .returned (.tuple #[]) ∧ Wrs (rowR B 103 2 n (xs.flatMap ptCells) (some ⟨g, 0, none⟩, c)).F w w' ∧ (ptsR n xs.reverse g (g + 1) (some ⟨g, 0, none⟩)).P w' := by
 have ho : OwnP g (g + 1) w (some ⟨g, 0, none⟩) n xs := ownP_row (x := (some ⟨g, 0, none⟩, c)) h hn
 have hlt : g < w.heap.size := (rowR B 103 2 n (xs.flatMap ptCells) (some ⟨g, 0, none⟩, c)).low w h g rfl
 refine (ReversePt_any g (g + 1) _ n c xs w ho (by omega)).mono ?_
 rintro e w' ⟨he, hw, ho'⟩
 exact ⟨he, hw.mono fun b hb => by rw [hb.2.1]; rfl, ptsP ho' (by have := hw.size; omega)⟩
theorem spanF {n g c B T m : Nat} {xs : List Pn} {ys : List Value} (b : Nat) (hb : (ptsR n xs g (g + 1) (some ⟨g, 0, none⟩)).F b) : (rowR B T 2 m ys (some ⟨g, 0, none⟩, c)).F b := by
 obtain ⟨h1, h2⟩ := hb
 show some g = some b
 rw [show g = b by omega]
theorem hullOf_any (A : Option Addr) (n c : Nat) (xs : List Pn) (w : World) (h : Pts w A n xs) (hx : ∀ p ∈ xs, bdH p) (h0 : 0 < n) (hn : n ≤ 1048576) :
  Calls Try.prog 57 #[.slice A n c] w fun e w' => ∃ v, e = .returned v ∧ w'.ownsRow w.heap.size 103 2 v (hullP xs).length ((hullP xs).flatMap ptCells) ∧ Over w w' := by
 have hl := h.1
 have hbd : ∀ p ∈ xs, bdW p := fun p hp => (hx p hp).wide
 have hpl := putAll_len xs
 have hpp := putAll_pos (l := xs) (by omega)
 have hpx : ∀ p ∈ putAll xs, bdH p := fun p hp => hx p ((putAll_mem xs p).1 hp)
 refine walk_from (m := 26) (Try.func57) rfl rfl (Nat.le_of_ble_eq_true rfl) ?_
 refine at_seq ?_
 refine at_region ?_
 refine at_q rfl rfl (by decide) (qt_assign rfl rfl) ?_
 refine at_end ?_
 refine at_seq ?_
 refine at_region ?_
 refine at_q rfl rfl (by decide) (qt_move rfl rfl) ?_
 refine at_op rfl ?_
 refine op_call ok_slices_Clone_sl_impl_Pt_impl_Pt (v := fun x => .slice x.1 _ x.2) (r := fun x => rowR 0 103 2 _ _ x) (H := fun _ => True) rfl rfl rfl (by decide) (fun w1 hs => newRow' (ClonePt_any A n c xs w1 (h.over hs.fin) h0 (by omega))) ?_
 rintro ⟨rA, rc⟩ -
 refine at_rsE (by simp only [ya,yb,yc,yd,Value.cells,ye]; rfl) ?_
 refine at_q rfl rfl (by decide) (qt_assign rfl rfl) ?_
 refine at_end ?_
 refine at_fact (fun w hs => rowSome (k := 0) rfl hs h0) ?_
 rintro ⟨eg, rfl⟩
 refine at_seq ?_
 refine at_region ?_
 refine at_q rfl rfl (by decide) (qt_move rfl rfl) ?_
 refine at_op rfl ?_
 refine op_callP (k := 0) (X := { ys : List Pn // ys.Perm xs ∧ Ris ys }) (v := fun _ => .tuple #[]) (r' := fun x => rowR 0 103 2 _ (x.1.flatMap ptCells) (some ⟨eg, 0, none⟩, rc)) ok_slices_SortFunc_sl_impl_Pt_impl_Pt rfl rfl rfl (by decide) rfl (fun w1 hs => sort_put (hs.all 0 _ rfl).1 hl hbd (by omega) h0) ?_
 rintro ⟨ys, hperm, hris⟩
 refine at_rsE (by simp only [ya,yb,yc,yd,Value.cells,ye]; rfl) ?_
 refine at_end ?_
 refine at_seq ?_
 refine at_region ?_
 refine at_q rfl rfl (by decide) (qt_move rfl rfl) ?_
 refine at_op rfl ?_
 refine op_callw (k := 0) (r' := rowR 0 103 2 (compP ys).length ((compP ys).flatMap ptCells) (some ⟨eg, 0, none⟩, rc)) ok_slices_Compact_sl_impl_Pt_impl_Pt rfl rfl rfl (by decide) rfl (fun w1 hs => Compact_row (hs.all 0 _ rfl).1 (hperm.length_eq.trans hl) h0 (by omega)) (fun _ h => h) rfl ?_
 refine at_rsE (by simp only [ya,yb,yc,yd,Value.cells,ye]; rfl) ?_
 refine at_q rfl rfl (by decide) (qt_assign rfl rfl) ?_
 refine at_end ?_
 have he := comp_put hris (fun q => hperm.mem_iff)
 rw [he]
 refine at_seq ?_
 refine at_seq ?_
 refine at_region ?_
 refine at_q rfl rfl (by decide) (qt_move rfl rfl) ?_
 refine at_q rfl rfl (by decide) (qt_len rfl rfl tyl_sl_impl_Pt) ?_
 refine at_q rfl rfl (by decide) (qt_lss rfl rfl rfl) ?_
 refine at_end ?_
 refine at_cond rfl (fun c1 => ?_) (fun c1 => ?_)
 ·try simp only [za,zb,zc,zd,ze,zf,Bool.not_true,Bool.not_false,zg,zh,ne_eq,zi,zj] at c1
  have he2 : hullP xs = putAll xs := by rw [hullP, hullS, if_pos (by omega)]
  refine at_seq ?_
  refine at_region ?_
  refine at_q rfl rfl (by decide) (qt_move rfl rfl) ?_
  refine at_q rfl rfl (by decide) (qt_assign rfl rfl) ?_
  refine at_end ?_
  refine at_retc ?_
  refine then_ret ?_
  refine at_ret1 rfl (.tmp rfl) ?_
  intro w' hs
  have hr := hs.all 0 _ rfl
  exact ⟨_, rfl, by rw [he2]; exact row_from hr.1 (fun b hb => (hr.2.1 b hb).elim id (fun h => by cases h)), hs.fin⟩
 ·try simp only [za,zb,zc,zd,ze,zf,Bool.not_true,Bool.not_false,zg,zh,ne_eq,zi,zj] at c1
  have he2 : hullP xs = sideP (putAll xs) ++ sideP (putAll xs).reverse := by rw [hullP, hullS, if_neg (by omega)]
  have hs2 := chain_two (l := (putAll xs).reverse) (by rw [List.length_reverse]; omega) (by have := asc_ends (putAll_asc xs) (by omega); rw [List.getElem?_reverse (by omega), List.getElem?_reverse (by simp; omega), List.length_reverse]; simp only [Nat.sub_zero]; rw [show (putAll xs).length - 1 - ((putAll xs).length - 1) = 0 by omega]; exact this.symm)
  have hsl := side_lnH (putAll xs).reverse
  have hcl := chain_len (putAll xs).reverse
  have hcl1 := chain_len (putAll xs)
  have hsl1 := side_lnH (putAll xs)
  rw [List.length_reverse] at hcl
  refine at_skip ?_
  refine norm_then ?_
  refine at_seq ?_
  refine at_region ?_
  refine at_q rfl rfl (by decide) (qt_assign rfl rfl) ?_
  refine at_end ?_
  refine at_seq ?_
  refine at_region ?_
  refine at_q rfl rfl (by decide) (qt_move rfl rfl) ?_
  refine at_q rfl rfl (by decide) (qt_move rfl rfl) ?_
  refine at_op rfl ?_
  refine op_callk ok_impl_hullOf_1 (v := fun x => .slice x.1 _ x.2) (r := fun x => rowR 0 103 2 _ _ x) (H := fun _ => True) rfl rfl rfl rfl (by decide) (fun w1 hs => newRow' (half_any _ _ _ (putAll xs) w1 (ptsRow (hs.all 0 _ rfl).1 rfl) hpx hpp (by omega))) ?_
  rintro ⟨uA, uc⟩ -
  refine at_rsE (by simp only [ya,yb,yc,yd,Value.cells,ye]; rfl) ?_
  refine at_q rfl rfl (by decide) (qt_assign rfl rfl) ?_
  refine at_end ?_
  refine at_seq ?_
  refine at_region ?_
  refine at_q rfl rfl (by decide) (qt_move rfl rfl) ?_
  refine at_op rfl ?_
  refine op_callw (k := 0) (r' := ptsR _ (putAll xs).reverse eg (eg + 1) (some ⟨eg, 0, none⟩)) ok_slices_Reverse_sl_impl_Pt_impl_Pt rfl rfl rfl (by decide) rfl (fun w1 hs => reverse_rowP (hs.all 0 _ rfl).1 rfl (by omega)) (fun b hb => spanF b hb) rfl ?_
  refine at_rsE (by simp only [ya,yb,yc,yd,Value.cells,ye]; rfl) ?_
  refine at_end ?_
  refine at_seq ?_
  refine at_region ?_
  refine at_q rfl rfl (by decide) (qt_move rfl rfl) ?_
  refine at_q rfl rfl (by decide) (qt_move rfl rfl) ?_
  refine at_q rfl rfl (by decide) (qt_move rfl rfl) ?_
  refine at_op rfl ?_
  refine op_callk ok_impl_hullOf_1 (v := fun x => .slice x.1 _ x.2) (r := fun x => rowR 0 103 2 _ _ x) (H := fun _ => True) rfl rfl rfl rfl (by decide) (fun w1 hs => newRow' (half_any _ _ _ (putAll xs).reverse w1 (ptsPts (k := 0) rfl w1 hs) (fun p hp => hpx p (List.mem_reverse.1 hp)) hpp (by omega))) ?_
  rintro ⟨dA, dc⟩ -
  refine at_rsE (by simp only [ya,yb,yc,yd,Value.cells,ye]; rfl) ?_
  refine at_op rfl ?_
  refine op_appendR (k := 1) rfl tyl_sl_impl_Pt tyz_impl_Pt (by decide) rfl (by decide) rfl rfl rfl (fun w' hs => srcPts (ptsRow (hs.all 2 _ rfl).1 rfl) (by omega)) (ptCells_one _) (by unfold maxLen; omega) (by omega) (Nat.zero_le _) (fun r1 => ?_)
  refine at_rsE (by simp only [ya,yb,yc,yd,Value.cells,ye]; rfl) ?_
  refine at_q rfl rfl (by decide) (qt_assign rfl rfl) ?_
  refine at_end ?_
  refine at_retc ?_
  refine at_ret1 rfl (.tmp rfl) ?_
  intro w' hs
  have hr := hs.all 1 _ rfl
  exact ⟨_, rfl, by rw [he2, List.length_append, List.flatMap_append]; exact row_from hr.1 (fun b hb => (hr.2.1 b hb).elim id (fun h => by cases h)), hs.fin⟩
theorem allOk_bd {xs : List Pn} (h : allOk xs = true) : ∀ p ∈ xs, bd2 p := fun p hp => by
 simp only [allOk, List.all_eq_true] at h
 have := h p hp
 simp [okB, inB] at this
 exact ⟨⟨by omega, by omega⟩, by omega, by omega⟩
theorem allOk_H {xs : List Pn} (h : allOk xs = true) : ∀ p ∈ xs, bdH p := fun p hp => (allOk_bd h p hp).mid
/-- Whether points are a pen. -/
def penB (xs : List Pn) : Bool := decide (1 ≤ xs.length) && decide (xs.length ≤ 16) && allOk xs && decide (hullP xs = xs)
theorem pen_of {xs : List Pn} (h : penB xs = true) : (1 ≤ xs.length ∧ xs.length ≤ 16) ∧ allOk xs = true ∧ hullP xs = xs := by
 simp only [penB, Bool.and_eq_true, decide_eq_true_eq] at h
 exact ⟨h.1.1, h.1.2, h.2⟩
theorem pen_in (xs : List Pn) : (inB (xs.length : Int) 1 16 && allOk xs && decide (hullP xs = xs)) = penB xs := by
 have e : inB (xs.length : Int) 1 16 = (decide (1 ≤ xs.length) && decide (xs.length ≤ 16)) := by
  rw [Bool.eq_iff_iff]
  simp [inB]
  omega
 rw [e, penB]
theorem inB16 {n : Nat} (h : inB (n : Int) 1 16 = true) : n ≤ 500000 := by
 simp [inB] at h
 omega
theorem IsPen_any (A : Option Addr) (n c : Nat) (xs : List Pn) (w : World) (h : Pts w A n xs) (hn : (n : Int) ≤ 1048576) :
  Calls Try.prog 55 #[.slice A n c] w fun e w' => e = .returned (.bool (penB xs)) ∧ Over w w' := by
 have hl := h.1
 have hhl := hull_len xs
 refine walk_from (m := 21) (Try.func55) rfl rfl (Nat.le_of_ble_eq_true rfl) ?_
 refine at_seq ?_
 refine at_region ?_
 refine at_q rfl rfl (by decide) (qt_assign rfl rfl) ?_
 refine at_end ?_
 refine at_seq ?_
 refine at_region ?_
 refine at_q rfl rfl (by decide) (qt_move rfl rfl) ?_
 refine at_q rfl rfl (by decide) (qt_len rfl rfl tyl_sl_impl_Pt) ?_
 refine at_q rfl rfl (by decide) (qt_geq rfl rfl rfl) ?_
 refine at_q rfl rfl (by decide) (qt_move rfl rfl) ?_
 refine at_bsplit 6 rfl (fun g1 => ?_) (fun g1 => ?_)
 ·try simp only [za,zb,zc,zd,ze,zf,Bool.not_true,Bool.not_false,zg,zh,ne_eq,zi,zj] at g1
  refine at_on rfl rfl rfl rfl ?_
  refine op_q rfl (by decide) (qt_move rfl rfl) ?_
  refine at_on rfl rfl rfl rfl ?_
  refine op_q rfl (by decide) (qt_len rfl rfl tyl_sl_impl_Pt) ?_
  refine at_on rfl rfl rfl rfl ?_
  refine op_q rfl (by decide) (qt_leq rfl rfl rfl) ?_
  refine at_q rfl rfl (by decide) (qt_pickT rfl rfl rfl) ?_
  refine at_q rfl rfl (by decide) (qt_move rfl rfl) ?_
  refine at_bsplit 11 rfl (fun g2 => ?_) (fun g2 => ?_)
  ·try simp only [za,zb,zc,zd,ze,zf,Bool.not_true,Bool.not_false,zg,zh,ne_eq,zi,zj] at g2
   refine at_on rfl rfl rfl rfl ?_
   refine op_q rfl (by decide) (qt_move rfl rfl) ?_
   refine at_on rfl rfl rfl rfl ?_
   refine op_q rfl (by decide) (qt_call ok_impl_validPts rfl rfl (fun w1 hs => validPts_any A n c xs w1 (h.over hs.fin) hn)) ?_
   refine at_q rfl rfl (by decide) (qt_pickT rfl rfl rfl) ?_
   refine at_q rfl rfl (by decide) (qt_move rfl rfl) ?_
   refine at_bsplit 15 rfl (fun g3 => ?_) (fun g3 => ?_)
   ·try simp only [za,zb,zc,zd,ze,zf,Bool.not_true,Bool.not_false,zg,zh,ne_eq,zi,zj] at g3
    refine at_on rfl rfl rfl rfl ?_
    refine op_q rfl (by decide) (qt_move rfl rfl) ?_
    refine at_on rfl rfl rfl rfl ?_
    refine op_call ok_impl_hullOf (v := fun x => .slice x.1 _ x.2) (r := fun x => rowR 0 103 2 _ _ x) (H := fun _ => True) rfl rfl rfl (by decide) (fun w1 hs => newRow' (hullOf_any A n c xs w1 (h.over hs.fin) (allOk_H (by assumption)) (by omega) (by omega))) ?_
    rintro ⟨pA, pc⟩ -
    refine at_rsE (by simp only [ya,yb,yc,yd,Value.cells,ye]; rfl) ?_
    refine at_on rfl rfl rfl rfl ?_
    refine op_q rfl (by decide) (qt_move rfl rfl) ?_
    refine at_on rfl rfl rfl rfl ?_
    refine op_q rfl (by decide) (qt_call ok_slices_Equal_sl_impl_Pt_impl_Pt rfl rfl (fun w1 hs => slEqual_any _ _ _ n _ _ _ xs w1 (ptsRow (hs.all 0 _ rfl).1 rfl) (h.over hs.fin) (by omega) hn)) ?_
    refine at_q rfl rfl (by decide) (qt_pickT rfl rfl rfl) ?_
    refine at_q rfl rfl (by decide) (qt_assign rfl rfl) ?_
    refine at_end ?_
    refine at_retc ?_
    refine at_ret1 rfl (.tmp rfl) ?_
    intro w' hs
    exact ⟨retB (by symm; simp [penB, allOk, *] <;> (intros; omega)), hs.fin⟩
   ·try simp only [za,zb,zc,zd,ze,zf,Bool.not_true,Bool.not_false,zg,zh,ne_eq,zi,zj] at g3
    refine at_off rfl rfl rfl rfl (by decide) rfl (by decide) ?_
    refine at_off rfl rfl rfl rfl (by decide) rfl (by decide) ?_
    refine at_off rfl rfl rfl rfl (by decide) rfl (by decide) ?_
    refine at_off rfl rfl rfl rfl (by decide) rfl (by decide) ?_
    refine at_q rfl rfl (by decide) (qt_pickF rfl rfl rfl) ?_
    refine at_q rfl rfl (by decide) (qt_assign rfl rfl) ?_
    refine at_end ?_
    refine at_retc ?_
    refine at_ret1 rfl (.tmp rfl) ?_
    intro w' hs
    exact ⟨retB (by symm; simp [penB, allOk, *] <;> (intros; omega)), hs.fin⟩
  ·try simp only [za,zb,zc,zd,ze,zf,Bool.not_true,Bool.not_false,zg,zh,ne_eq,zi,zj] at g2
   refine at_off rfl rfl rfl rfl (by decide) rfl (by decide) ?_
   refine at_off rfl rfl rfl rfl (by decide) rfl (by decide) ?_
   refine at_q rfl rfl (by decide) (qt_pickF rfl rfl rfl) ?_
   refine at_q rfl rfl (by decide) (qt_move rfl rfl) ?_
   refine at_off rfl rfl rfl rfl (by decide) rfl (by decide) ?_
   refine at_off rfl rfl rfl rfl (by decide) rfl (by decide) ?_
   refine at_off rfl rfl rfl rfl (by decide) rfl (by decide) ?_
   refine at_off rfl rfl rfl rfl (by decide) rfl (by decide) ?_
   refine at_q rfl rfl (by decide) (qt_pickF rfl rfl rfl) ?_
   refine at_q rfl rfl (by decide) (qt_assign rfl rfl) ?_
   refine at_end ?_
   refine at_retc ?_
   refine at_ret1 rfl (.tmp rfl) ?_
   intro w' hs
   exact ⟨retB (by symm; simp [penB, allOk, *] <;> (intros; omega)), hs.fin⟩
 ·try simp only [za,zb,zc,zd,ze,zf,Bool.not_true,Bool.not_false,zg,zh,ne_eq,zi,zj] at g1
  refine at_off rfl rfl rfl rfl (by decide) rfl (by decide) ?_
  refine at_off rfl rfl rfl rfl (by decide) rfl (by decide) ?_
  refine at_off rfl rfl rfl rfl (by decide) rfl (by decide) ?_
  refine at_q rfl rfl (by decide) (qt_pickF rfl rfl rfl) ?_
  refine at_q rfl rfl (by decide) (qt_move rfl rfl) ?_
  refine at_off rfl rfl rfl rfl (by decide) rfl (by decide) ?_
  refine at_off rfl rfl rfl rfl (by decide) rfl (by decide) ?_
  refine at_q rfl rfl (by decide) (qt_pickF rfl rfl rfl) ?_
  refine at_q rfl rfl (by decide) (qt_move rfl rfl) ?_
  refine at_off rfl rfl rfl rfl (by decide) rfl (by decide) ?_
  refine at_off rfl rfl rfl rfl (by decide) rfl (by decide) ?_
  refine at_off rfl rfl rfl rfl (by decide) rfl (by decide) ?_
  refine at_off rfl rfl rfl rfl (by decide) rfl (by decide) ?_
  refine at_q rfl rfl (by decide) (qt_pickF rfl rfl rfl) ?_
  refine at_q rfl rfl (by decide) (qt_assign rfl rfl) ?_
  refine at_end ?_
  refine at_retc ?_
  refine at_ret1 rfl (.tmp rfl) ?_
  intro w' hs
  exact ⟨retB (by symm; simp [penB, allOk, *] <;> (intros; omega)), hs.fin⟩
theorem l11Pen_any (A : Option Addr) (n c : Nat) (xs : List Pn) (w : World) (h : Pts w A n xs) (hn : (n : Int) ≤ 1048576) :
  Calls Try.prog 49 #[.slice A n c] w fun e w' => e = .returned (.bool (penB xs)) ∧ Over w w' := by
 have hl := h.1
 have hhl := hull_len xs
 have hpi := pen_in xs
 rw [hl] at hpi
 refine walk_from (m := 16) (Try.func49) rfl rfl (Nat.le_of_ble_eq_true rfl) ?_
 refine at_seq ?_
 refine at_region ?_
 refine at_q rfl rfl (by decide) (qt_assign rfl rfl) ?_
 refine at_end ?_
 refine at_seq ?_
 refine at_region ?_
 refine at_q rfl rfl (by decide) (qt_move rfl rfl) ?_
 refine at_q rfl rfl (by decide) (qt_len rfl rfl tyl_sl_impl_Pt) ?_
 refine at_q rfl rfl (by decide) (qt_call ok_spec_l00In rfl rfl (fun w1 hs => Calls.still (l00In_any _ _ _ w1))) ?_
 refine at_q rfl rfl (by decide) (qt_move rfl rfl) ?_
 refine at_bsplit 6 rfl (fun g1 => ?_) (fun g1 => ?_)
 ·try simp only [za,zb,zc,zd,ze,zf,Bool.not_true,Bool.not_false,zg,zh,ne_eq,zi,zj] at g1
  refine at_on rfl rfl rfl rfl ?_
  refine op_q rfl (by decide) (qt_move rfl rfl) ?_
  refine at_on rfl rfl rfl rfl ?_
  refine op_q rfl (by decide) (qt_call ok_spec_l13Points rfl rfl (fun w1 hs => l13Points_any A n c xs w1 (h.over hs.fin) (by omega))) ?_
  refine at_q rfl rfl (by decide) (qt_pickT rfl rfl rfl) ?_
  refine at_q rfl rfl (by decide) (qt_move rfl rfl) ?_
  refine at_bsplit 10 rfl (fun g2 => ?_) (fun g2 => ?_)
  ·try simp only [za,zb,zc,zd,ze,zf,Bool.not_true,Bool.not_false,zg,zh,ne_eq,zi,zj] at g2
   refine at_on rfl rfl rfl rfl ?_
   refine op_q rfl (by decide) (qt_move rfl rfl) ?_
   refine at_on rfl rfl rfl rfl ?_
   refine op_call ok_spec_l11Hull (v := fun x => .slice x.1 _ x.2) (r := fun x => rowR 0 103 2 _ _ x) (H := fun _ => True) rfl rfl rfl (by decide) (fun w1 hs => newRow' (l11Hull_any A n c xs w1 (h.over hs.fin) (allOk_H (by assumption)) (inB16 (by assumption)))) ?_
   rintro ⟨pA, pc⟩ -
   refine at_rsE (by simp only [ya,yb,yc,yd,Value.cells,ye]; rfl) ?_
   refine at_on rfl rfl rfl rfl ?_
   refine op_q rfl (by decide) (qt_move rfl rfl) ?_
   refine at_on rfl rfl rfl rfl ?_
   refine op_q rfl (by decide) (qt_call ok_spec_l13Same rfl rfl (fun w1 hs => l13Same_any _ _ _ n _ _ _ xs w1 (ptsRow (hs.all 0 _ rfl).1 rfl) (h.over hs.fin) (by have := inB16 (n := n) (by assumption); omega) hn)) ?_
   refine at_q rfl rfl (by decide) (qt_pickT rfl rfl rfl) ?_
   refine at_q rfl rfl (by decide) (qt_assign rfl rfl) ?_
   refine at_end ?_
   refine at_retc ?_
   refine at_ret1 rfl (.tmp rfl) ?_
   intro w' hs
   exact ⟨retB (by rw [← hpi]; simp [*]), hs.fin⟩
  ·try simp only [za,zb,zc,zd,ze,zf,Bool.not_true,Bool.not_false,zg,zh,ne_eq,zi,zj] at g2
   refine at_off rfl rfl rfl rfl (by decide) rfl (by decide) ?_
   refine at_off rfl rfl rfl rfl (by decide) rfl (by decide) ?_
   refine at_off rfl rfl rfl rfl (by decide) rfl (by decide) ?_
   refine at_off rfl rfl rfl rfl (by decide) rfl (by decide) ?_
   refine at_q rfl rfl (by decide) (qt_pickF rfl rfl rfl) ?_
   refine at_q rfl rfl (by decide) (qt_assign rfl rfl) ?_
   refine at_end ?_
   refine at_retc ?_
   refine at_ret1 rfl (.tmp rfl) ?_
   intro w' hs
   exact ⟨retB (by rw [← hpi]; simp [*]), hs.fin⟩
 ·try simp only [za,zb,zc,zd,ze,zf,Bool.not_true,Bool.not_false,zg,zh,ne_eq,zi,zj] at g1
  refine at_off rfl rfl rfl rfl (by decide) rfl (by decide) ?_
  refine at_off rfl rfl rfl rfl (by decide) rfl (by decide) ?_
  refine at_q rfl rfl (by decide) (qt_pickF rfl rfl rfl) ?_
  refine at_q rfl rfl (by decide) (qt_move rfl rfl) ?_
  refine at_off rfl rfl rfl rfl (by decide) rfl (by decide) ?_
  refine at_off rfl rfl rfl rfl (by decide) rfl (by decide) ?_
  refine at_off rfl rfl rfl rfl (by decide) rfl (by decide) ?_
  refine at_off rfl rfl rfl rfl (by decide) rfl (by decide) ?_
  refine at_q rfl rfl (by decide) (qt_pickF rfl rfl rfl) ?_
  refine at_q rfl rfl (by decide) (qt_assign rfl rfl) ?_
  refine at_end ?_
  refine at_retc ?_
  refine at_ret1 rfl (.tmp rfl) ?_
  intro w' hs
  exact ⟨retB (by rw [← hpi]; simp [*]), hs.fin⟩
/-! ### Points in hulls -/
/-! ### Products -/
/-! ### The reference's -/
/-! ### Reflections -/
end Go.Proofs.Ytjhaakollekjeaa
