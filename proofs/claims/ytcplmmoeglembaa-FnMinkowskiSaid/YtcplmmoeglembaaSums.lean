/- Sums of pens: both sides of MinkowskiSum and SweepOf; paths; bounds of strokes. -/
import Derived.Test.YtcplmmoeglembaaPen
import Derived.Test.YtcplmmoeglembaaBounds
namespace Go.Proofs.Ytcplmmoeglembaa
open Go Go.RowKit
set_option linter.unusedVariables false
set_option linter.unusedSimpArgs false
set_option maxRecDepth 100000
set_option maxHeartbeats 4000000
set_option linter.unusedVariables false
set_option linter.unusedSimpArgs false

def addP (p q : Pn) : Pn := (p.1 + q.1, p.2 + q.2)
/-- The sums of points. -/
def smsP (a b : List Pn) : List Pn := a.flatMap fun p => b.map (addP p)
def preS (a b : List Pn) (i j : Nat) : List Pn := smsP (a.take i) b ++ (b.take j).map (addP (pt a i))
theorem sms_len (a b : List Pn) : (smsP a b).length = a.length * b.length := by
  unfold smsP
  induction a with
  | nil => simp
  | cons p a ih => rw [List.flatMap_cons, List.length_append, List.length_map, ih, List.length_cons, Nat.add_mul, Nat.one_mul]; omega
theorem preS_len {a b : List Pn} {i j : Nat} (hi : i ≤ a.length) (hj : j ≤ b.length) : (preS a b i j).length = i * b.length + j := by
  rw [preS, List.length_append, sms_len, List.length_take, List.length_map, List.length_take, Nat.min_eq_left hi, Nat.min_eq_left hj]
theorem preS_zero (a b : List Pn) (i : Nat) : preS a b i 0 = smsP (a.take i) b := by simp [preS]
theorem preS_step {a b : List Pn} {i j : Nat} (hj : j < b.length) : preS a b i (j + 1) = preS a b i j ++ [addP (pt a i) (pt b j)] := by
  rw [preS, List.take_succ_eq_append_getElem hj, List.map_append, ← List.append_assoc, pt_at hj]
  rfl
theorem preS_all {a b : List Pn} {i : Nat} (hi : i < a.length) : preS a b i b.length = smsP (a.take (i + 1)) b := by
  rw [preS, List.take_length, smsP, smsP, List.take_succ_eq_append_getElem hi, List.flatMap_append, pt_at hi]
  simp
theorem sms_H {a b : List Pn} (ha : ∀ p ∈ a, bd2 p) (hb : ∀ p ∈ b, bd2 p) : ∀ p ∈ smsP a b, bdH p := by
  intro p hp
  obtain ⟨q, hq, h⟩ := List.mem_flatMap.1 hp
  obtain ⟨r, hr, rfl⟩ := List.mem_map.1 h
  obtain ⟨⟨q1, q2⟩, q3, q4⟩ := ha q hq
  obtain ⟨⟨r1, r2⟩, r3, r4⟩ := hb r hr
  refine ⟨⟨?_, ?_⟩, ?_, ?_⟩ <;> simp only [addP] <;> omega
theorem sms_cells {a b : List Pn} {i j : Nat} (hj : j < b.length) : (preS a b i (j + 1)).flatMap ptCells = (preS a b i j).flatMap ptCells ++ [.int .i64 (px a i + px b j), .int .i64 (py a i + py b j)] := by
  rw [preS_step hj, List.flatMap_append]
  rfl
theorem sumsOf_any (A : Option Addr) (n c : Nat) (a : List Pn) (B : Option Addr) (m d : Nat) (b : List Pn) (w : World) (h : Pts w A n a) (h2 : Pts w B m b) (ha : ∀ p ∈ a, bd2 p) (hb : ∀ p ∈ b, bd2 p) (hn : 1 ≤ n ∧ n ≤ 16) (hm : 1 ≤ m ∧ m ≤ 16) :
    Calls Try.prog 65 #[.slice A n c, .slice B m d] w fun e w' => ∃ x : Option Addr × Nat, e = .returned (.tuple #[.slice x.1 (hullP (smsP a b)).length x.2, .bool (allOk (hullP (smsP a b)))]) ∧ w'.ownsRow w.heap.size 34 2 (.slice x.1 (hullP (smsP a b)).length x.2) (hullP (smsP a b)).length ((hullP (smsP a b)).flatMap ptCells) ∧ Over w w' := by
  have hl := h.1
  have hl2 := h2.1
  obtain ⟨ab, ao, rfl, _⟩ := h.2 (by omega)
  obtain ⟨bb, bo, rfl, _⟩ := h2.2 (by omega)
  have hsl := sms_len a b
  rw [hl, hl2] at hsl
  have hp1 : n * m ≤ 16 * 16 := Nat.mul_le_mul (by omega) (by omega)
  have hp0 : 1 * 1 ≤ n * m := Nat.mul_le_mul (by omega) (by omega)
  have hhl := hull_len (smsP a b)
  refine walk_from (m := 45) (Try.func65) rfl rfl (Nat.le_of_ble_eq_true rfl) ?_
  refine at_seq ?_
  refine at_region ?_
  refine at_q rfl rfl (by decide) (qt_assign rfl rfl) ?_
  refine at_q rfl rfl (by decide) (qt_assign rfl rfl) ?_
  refine at_end ?_
  refine at_seq ?_
  refine at_region ?_
  refine at_q rfl rfl (by decide) (qt_assign rfl rfl) ?_
  refine at_row0 (T := 34) (s := 2) ?_
  refine at_rsE (by simp only [List.nil_append, List.cons_append, List.set_cons_zero, List.set_cons_succ, Value.cells, List.toList_toArray]; rfl) ?_
  refine at_end ?_
  refine at_seq ?_
  refine at_seq ?_
  refine at_region ?_
  refine at_q rfl rfl (by decide) (qt_move rfl rfl) ?_
  refine at_q rfl rfl (by decide) (qt_len rfl rfl tyl_sl_impl_Pt) ?_
  refine at_q rfl rfl (by decide) (qt_move rfl rfl) ?_
  refine at_end ?_
  refine at_block ?_
  refine at_loopc (X := Nat × Option Addr × Nat) (fun x => x.1 ≤ n) (fun x => n - x.1) (fun x => [(6, .slice x.2.1 (smsP (a.take x.1) b).length x.2.2), (14, .int .i64 (x.1 : Int))]) (C := [(1, _), (4, _), (5, _), (12, _), (13, _)]) ⟨rfl, rfl, rfl, rfl, rfl, trivial⟩ (fun x => [rowR (Bs.N ⟨w, []⟩) 34 2 (smsP (a.take x.1) b).length ((smsP (a.take x.1) b).flatMap ptCells) x.2]) (0, none, 0) (Nat.zero_le _) ⟨rfl, rfl, rfl, rfl, rfl, rfl, rfl, trivial⟩ (fun _ h => h) ?_
  intro ⟨i, rA, rc⟩ hi L hL1
  refine at_envE (by simp only [List.nil_append, List.cons_append]; rfl) ?_
  refine at_rsE (by first | (dsimp only; done) | (dsimp only; rfl) | rfl) ?_
  have hi : i ≤ n := hi
  refine at_seq ?_
  refine at_region ?_
  refine at_q rfl rfl (by decide) (qt_lss rfl rfl rfl) ?_
  refine at_end ?_
  refine at_seq ?_
  refine at_cond rfl (fun c1 => ?_) (fun c1 => ?_)
  · try simp only [decide_eq_true_eq, decide_eq_false_iff_not, beq_iff_eq, beq_eq_false_iff_ne, Bool.not_eq_true', Bool.not_eq_false', Bool.not_true, Bool.not_false, Int.not_lt, Int.not_le, ne_eq, Nat.not_lt, Nat.not_le] at c1
    have hlt : i < n := (by omega)
    have him : i * m ≤ 16 * 16 := Nat.mul_le_mul (by omega) (by omega)
    obtain ⟨⟨p1, p2⟩, p3, p4⟩ := ha _ (pt_mem (show i < a.length by omega))
    simp only [pt] at p1 p2 p3 p4
    refine at_skip ?_
    refine norm_then ?_
    refine at_seq ?_
    refine at_block ?_
    refine at_seq ?_
    refine at_region ?_
    refine at_q rfl rfl (by decide) (qt_index rfl rfl rfl tyl_sl_impl_Pt (by omega)) ?_
    refine at_q rfl rfl (by decide) (qt_loadS rfl rfl tys_impl_Pt rfl (rdPts h hlt)) ?_
    refine at_op rfl ?_
    refine op_alloc rfl tyz_impl_Pt rfl (by decide) (fun b1 => ?_)
    refine at_rsE (by simp only [List.nil_append, List.cons_append, List.set_cons_zero, List.set_cons_succ, Value.cells, List.toList_toArray]; rfl) ?_
    refine at_op rfl ?_
    refine op_storeAll' (k := 1) rfl rfl rfl rfl (rfl) (by rfl) tyz_impl_Pt.szx rfl rfl rfl ?_
    refine at_rsE (by simp only [List.nil_append, List.cons_append, List.set_cons_zero, List.set_cons_succ, Value.cells, List.toList_toArray]; rfl) ?_
    refine at_end ?_
    refine at_seq ?_
    refine at_region ?_
    refine at_q rfl rfl (by decide) (qt_move rfl rfl) ?_
    refine at_q rfl rfl (by decide) (qt_len rfl rfl tyl_sl_impl_Pt) ?_
    refine at_q rfl rfl (by decide) (qt_move rfl rfl) ?_
    refine at_end ?_
    refine at_block ?_
    refine at_loopc (X := Nat × Option Addr × Nat) (fun x => x.1 ≤ m) (fun x => m - x.1) (fun x => [(6, .slice x.2.1 (preS a b i x.1).length x.2.2), (20, .int .i64 (x.1 : Int))]) (C := [(1, _), (4, _), (5, _), (12, _), (13, _), (14, _), (15, _), (16, _), (17, _), (8, _), (18, _), (19, _)]) ⟨rfl, rfl, rfl, rfl, rfl, rfl, rfl, rfl, rfl, rfl, rfl, rfl, trivial⟩ (fun x => [rowR (Bs.N ⟨w, []⟩) 34 2 (preS a b i x.1).length ((preS a b i x.1).flatMap ptCells) x.2, .cel b1 34 [.int .i64 (px a i), .int .i64 (py a i)]]) (0, rA, rc) (Nat.zero_le _) ⟨(by rw [preS_zero]; rfl), rfl, rfl, rfl, rfl, rfl, rfl, rfl, rfl, rfl, rfl, rfl, rfl, rfl, trivial⟩ (fun _ h => h.upto ⟨by rw [preS_zero], rfl, trivial⟩) ?_
    intro ⟨j, qA, qc⟩ hj L hL2
    refine at_envE (by simp only [List.nil_append, List.cons_append]; rfl) ?_
    refine at_rsE (by first | (dsimp only; done) | (dsimp only; rfl) | rfl) ?_
    have hj : j ≤ m := hj
    have hpl := preS_len (a := a) (b := b) (i := i) (j := j) (by omega) (by omega)
    rw [hl2] at hpl
    refine at_seq ?_
    refine at_region ?_
    refine at_q rfl rfl (by decide) (qt_lss rfl rfl rfl) ?_
    refine at_end ?_
    refine at_seq ?_
    refine at_cond rfl (fun c2 => ?_) (fun c2 => ?_)
    · try simp only [decide_eq_true_eq, decide_eq_false_iff_not, beq_iff_eq, beq_eq_false_iff_ne, Bool.not_eq_true', Bool.not_eq_false', Bool.not_true, Bool.not_false, Int.not_lt, Int.not_le, ne_eq, Nat.not_lt, Nat.not_le] at c2
      have hjt : j < m := (by omega)
      obtain ⟨⟨q1, q2⟩, q3, q4⟩ := hb _ (pt_mem (show j < b.length by omega))
      simp only [pt] at q1 q2 q3 q4
      refine at_skip ?_
      refine norm_then ?_
      refine at_seq ?_
      refine at_block ?_
      refine at_seq ?_
      refine at_region ?_
      refine at_q rfl rfl (by decide) (qt_index rfl rfl rfl tyl_sl_impl_Pt (by omega)) ?_
      refine at_q rfl rfl (by decide) (qt_loadS rfl rfl tys_impl_Pt rfl (rdPts h2 hjt)) ?_
      refine at_op rfl ?_
      refine op_alloc rfl tyz_impl_Pt rfl (by decide) (fun b2 => ?_)
      refine at_rsE (by simp only [List.nil_append, List.cons_append, List.set_cons_zero, List.set_cons_succ, Value.cells, List.toList_toArray]; rfl) ?_
      refine at_op rfl ?_
      refine op_storeAll' (k := 2) rfl rfl rfl rfl (rfl) (by rfl) tyz_impl_Pt.szx rfl rfl rfl ?_
      refine at_rsE (by simp only [List.nil_append, List.cons_append, List.set_cons_zero, List.set_cons_succ, Value.cells, List.toList_toArray]; rfl) ?_
      refine at_end ?_
      refine at_region ?_
      refine at_q rfl rfl (by decide) (qt_move rfl rfl) ?_
      refine at_q rfl rfl (by decide) (qt_fieldAddr rfl rfl tyf_impl_Pt_0) ?_
      refine at_q rfl rfl (by decide) (qt_load1 rfl rfl ty1_int64 (rd1 (k := 1) rfl rfl)) ?_
      refine at_q rfl rfl (by decide) (qt_fieldAddr rfl rfl tyf_impl_Pt_0) ?_
      refine at_q rfl rfl (by decide) (qt_load1 rfl rfl ty1_int64 (rd1 (k := 2) rfl rfl)) ?_
      refine at_q rfl rfl (by decide) (qt_add rfl rfl rfl (by omega) (by omega)) ?_
      refine at_q rfl rfl (by decide) (qt_fieldAddr rfl rfl tyf_impl_Pt_1) ?_
      refine at_q rfl rfl (by decide) (qt_load1 rfl rfl ty1_int64 (rd1 (k := 1) rfl rfl)) ?_
      refine at_q rfl rfl (by decide) (qt_fieldAddr rfl rfl tyf_impl_Pt_1) ?_
      refine at_q rfl rfl (by decide) (qt_load1 rfl rfl ty1_int64 (rd1 (k := 2) rfl rfl)) ?_
      refine at_q rfl rfl (by decide) (qt_add rfl rfl rfl (by omega) (by omega)) ?_
      refine at_q rfl rfl (by decide) (qt_build rfl rfl (bld_impl_Pt_0_1 rfl rfl)) ?_
      refine at_op rfl ?_
      refine op_buildSlice rfl rfl (bsl_sl_impl_Pt_1_0 rfl) rfl (by decide) (fun b3 => ?_)
      refine at_rsE (by simp only [List.nil_append, List.cons_append, List.set_cons_zero, List.set_cons_succ, Value.cells, List.toList_toArray]; rfl) ?_
      refine at_op rfl ?_
      refine op_appendR (k := 0) rfl tyl_sl_impl_Pt tyz_impl_Pt (by decide) rfl (by decide) rfl rfl rfl (fun w' hs => src_cel hs (k := 3) rfl rfl) (by simp [Value.oneCell']) (by unfold maxLen; omega) (by omega) (Nat.le_refl _) (fun r1 => ?_)
      refine at_rsE (by simp only [List.nil_append, List.cons_append, List.set_cons_zero, List.set_cons_succ, Value.cells, List.toList_toArray]; rfl) ?_
      refine at_q rfl rfl (by decide) (qt_assign rfl rfl) ?_
      refine at_nil ?_
      refine norm_block ?_
      refine norm_then ?_
      refine at_region ?_
      refine at_q rfl rfl (by decide) (qt_add rfl rfl rfl (by omega) (by omega)) ?_
      refine at_q rfl rfl (by decide) (qt_move rfl rfl) ?_
      refine at_end ?_
      exact at_againc hL2 ((j + 1, r1)) ((show j + 1 ≤ m by omega)) (by simp only; omega) ⟨(by rw [preS_step (by omega), List.length_append]; rfl), vi (by omega), rfl, rfl, rfl, rfl, rfl, rfl, rfl, rfl, rfl, rfl, rfl, rfl, trivial⟩ (fun _ h => h.upto ⟨by rw [sms_cells (by omega), preS_step (by omega), List.length_append]; rfl, rfl, trivial⟩)
    · try simp only [decide_eq_true_eq, decide_eq_false_iff_not, beq_iff_eq, beq_eq_false_iff_ne, Bool.not_eq_true', Bool.not_eq_false', Bool.not_true, Bool.not_false, Int.not_lt, Int.not_le, ne_eq, Nat.not_lt, Nat.not_le] at c2
      have hjm : j = b.length := (by omega)
      subst hjm
      refine at_exit ?_
      refine pass_then (fun h => by cases h) ?_
      refine pass_then (fun h => by cases h) ?_
      refine pass_hit ?_
      refine norm_block ?_
      refine norm_then ?_
      refine at_region ?_
      refine at_q rfl rfl (by decide) (qt_add rfl rfl rfl (by omega) (by omega)) ?_
      refine at_q rfl rfl (by decide) (qt_move rfl rfl) ?_
      refine at_end ?_
      exact at_againc hL1 ((i + 1, qA, qc)) ((show i + 1 ≤ n by omega)) (by simp only; omega) ⟨(by rw [preS_all (by omega)]; rfl), vi (by omega), rfl, rfl, rfl, rfl, rfl, trivial⟩ (fun _ h => h.upto ⟨by rw [preS_all (by omega)], trivial⟩)
  · try simp only [decide_eq_true_eq, decide_eq_false_iff_not, beq_iff_eq, beq_eq_false_iff_ne, Bool.not_eq_true', Bool.not_eq_false', Bool.not_true, Bool.not_false, Int.not_lt, Int.not_le, ne_eq, Nat.not_lt, Nat.not_le] at c1
    have hin : i = n := (by omega)
    subst hin
    rw [List.take_of_length_le (show a.length ≤ i by omega)]
    refine at_exit ?_
    refine pass_then (fun h => by cases h) ?_
    refine pass_then (fun h => by cases h) ?_
    refine pass_hit ?_
    refine norm_then ?_
    refine at_seq ?_
    refine at_region ?_
    refine at_q rfl rfl (by decide) (qt_move rfl rfl) ?_
    refine at_op rfl ?_
    refine op_call ok_impl_hullOf (v := fun x => .slice x.1 _ x.2) (r := fun x => rowR 0 34 2 _ _ x) (H := fun _ => True) rfl rfl rfl (by decide) (fun w1 hs => newRow' (hullOf_any _ _ _ (smsP a b) w1 (ptsRow (hs.all 0 _ rfl).1 rfl) (sms_H ha hb) (by omega) (by omega))) ?_
    rintro ⟨pA, pc⟩ -
    refine at_rsE (by simp only [List.nil_append, List.cons_append, List.set_cons_zero, List.set_cons_succ, Value.cells, List.toList_toArray]; rfl) ?_
    refine at_q rfl rfl (by decide) (qt_assign rfl rfl) ?_
    refine at_end ?_
    refine at_seq ?_
    refine at_region ?_
    refine at_q rfl rfl (by decide) (qt_move rfl rfl) ?_
    refine at_q rfl rfl (by decide) (qt_move rfl rfl) ?_
    refine at_q rfl rfl (by decide) (qt_call ok_impl_validPts rfl rfl (fun w1 hs => validPts_any _ _ _ (hullP (smsP a b)) w1 (ptsRow (hs.all 1 _ rfl).1 rfl) (by omega))) ?_
    refine at_q rfl rfl (by decide) (qt_assign rfl rfl) ?_
    refine at_q rfl rfl (by decide) (qt_assign rfl rfl) ?_
    refine at_end ?_
    refine at_retc ?_
    refine at_ret2 rfl (.tmp rfl) (.tmp rfl) ?_
    intro w' hs
    exact ⟨(pA, pc), rfl, rowBack hs (k := 1) rfl, hs.fin⟩
theorem l09Sum_any (p q : Pn) (w : World) (hp : bd2 p) (hq : bd2 q) : Calls Try.prog 60 #[pV p, pV q] w fun e w' => e = .returned (pV (addP p q)) ∧ Over w w' := by
  obtain ⟨⟨p1, p2⟩, p3, p4⟩ := hp
  obtain ⟨⟨q1, q2⟩, q3, q4⟩ := hq
  refine walk_from (m := 16) (Try.func60) rfl rfl (Nat.le_of_ble_eq_true rfl) ?_
  refine at_seq ?_
  refine at_region ?_
  refine at_op rfl ?_
  refine op_box rfl rfl (rfl) rfl (by decide) (fun b1 => ?_)
  refine at_rsE (by simp only [List.nil_append, List.cons_append, List.set_cons_zero, List.set_cons_succ, Value.cells, List.toList_toArray]; rfl) ?_
  refine at_op rfl ?_
  refine op_box rfl rfl (rfl) rfl (by decide) (fun b2 => ?_)
  refine at_rsE (by simp only [List.nil_append, List.cons_append, List.set_cons_zero, List.set_cons_succ, Value.cells, List.toList_toArray]; rfl) ?_
  refine at_op rfl ?_
  refine op_alloc rfl tyz_impl_Pt rfl (by decide) (fun b3 => ?_)
  refine at_rsE (by simp only [List.nil_append, List.cons_append, List.set_cons_zero, List.set_cons_succ, Value.cells, List.toList_toArray]; rfl) ?_
  refine at_end ?_
  refine at_seq ?_
  refine at_region ?_
  refine at_q rfl rfl (by decide) (qt_fieldAddr rfl rfl tyf_impl_Pt_0) ?_
  refine at_q rfl rfl (by decide) (qt_load1 rfl rfl ty1_int64 (rd1 (k := 0) rfl rfl)) ?_
  refine at_q rfl rfl (by decide) (qt_fieldAddr rfl rfl tyf_impl_Pt_0) ?_
  refine at_q rfl rfl (by decide) (qt_load1 rfl rfl ty1_int64 (rd1 (k := 1) rfl rfl)) ?_
  refine at_q rfl rfl (by decide) (qt_add rfl rfl rfl (by omega) (by omega)) ?_
  refine at_q rfl rfl (by decide) (qt_fieldAddr rfl rfl tyf_impl_Pt_1) ?_
  refine at_q rfl rfl (by decide) (qt_load1 rfl rfl ty1_int64 (rd1 (k := 0) rfl rfl)) ?_
  refine at_q rfl rfl (by decide) (qt_fieldAddr rfl rfl tyf_impl_Pt_1) ?_
  refine at_q rfl rfl (by decide) (qt_load1 rfl rfl ty1_int64 (rd1 (k := 1) rfl rfl)) ?_
  refine at_q rfl rfl (by decide) (qt_add rfl rfl rfl (by omega) (by omega)) ?_
  refine at_q rfl rfl (by decide) (qt_build rfl rfl (bld_impl_Pt_0_1 rfl rfl)) ?_
  refine at_op rfl ?_
  refine op_storeAll' (k := 2) rfl rfl rfl rfl (rfl) (by rfl) tyz_impl_Pt.szx rfl rfl rfl ?_
  refine at_rsE (by simp only [List.nil_append, List.cons_append, List.set_cons_zero, List.set_cons_succ, Value.cells, List.toList_toArray]; rfl) ?_
  refine at_end ?_
  refine at_retc ?_
  refine at_ret1 rfl (rvCelS (k := 2) rfl tys_impl_Pt rfl rfl) ?_
  intro w' hs
  exact ⟨rfl, hs.fin⟩
theorem l11Sum_any (A : Option Addr) (n c : Nat) (a : List Pn) (B : Option Addr) (m d : Nat) (b : List Pn) (w : World) (h : Pts w A n a) (h2 : Pts w B m b) (ha : ∀ p ∈ a, bd2 p) (hb : ∀ p ∈ b, bd2 p) (hn : 1 ≤ n ∧ n ≤ 16) (hm : 1 ≤ m ∧ m ≤ 16) :
    Calls Try.prog 64 #[.slice A n c, .slice B m d] w fun e w' => ∃ x : Option Addr × Nat, e = .returned (.tuple #[.slice x.1 (hullP (smsP a b)).length x.2, .bool (allOk (hullP (smsP a b)))]) ∧ w'.ownsRow w.heap.size 34 2 (.slice x.1 (hullP (smsP a b)).length x.2) (hullP (smsP a b)).length ((hullP (smsP a b)).flatMap ptCells) ∧ Over w w' := by
  have hl := h.1
  have hl2 := h2.1
  obtain ⟨ab, ao, rfl, _⟩ := h.2 (by omega)
  obtain ⟨bb, bo, rfl, _⟩ := h2.2 (by omega)
  have hsl := sms_len a b
  rw [hl, hl2] at hsl
  have hp1 : n * m ≤ 16 * 16 := Nat.mul_le_mul (by omega) (by omega)
  have hhl := hull_len (smsP a b)
  refine walk_from (m := 40) (Try.func64) rfl rfl (Nat.le_of_ble_eq_true rfl) ?_
  refine at_seq ?_
  refine at_region ?_
  refine at_q rfl rfl (by decide) (qt_assign rfl rfl) ?_
  refine at_q rfl rfl (by decide) (qt_assign rfl rfl) ?_
  refine at_end ?_
  refine at_seq ?_
  refine at_region ?_
  refine at_op rfl ?_
  refine op_buildSlice rfl rfl (bsl_sl_impl_Pt_0) rfl (by decide) (fun b1 => ?_)
  refine at_rowN 0 2 rfl rfl ?_
  refine at_rsE (by simp only [List.nil_append, List.cons_append, List.set_cons_zero, List.set_cons_succ, Value.cells, List.toList_toArray]; rfl) ?_
  refine at_q rfl rfl (by decide) (qt_assign rfl rfl) ?_
  refine at_end ?_
  refine at_seq ?_
  refine at_seq ?_
  refine at_region ?_
  refine at_q rfl rfl (by decide) (qt_assign rfl rfl) ?_
  refine at_end ?_
  refine at_block ?_
  refine at_loopc (X := Nat × Option Addr × Nat) (fun x => x.1 ≤ n) (fun x => n - x.1) (fun x => [(6, .slice x.2.1 (smsP (a.take x.1) b).length x.2.2), (7, .int .i64 (x.1 : Int))]) (C := [(0, _), (1, _), (4, _), (5, _)]) ⟨rfl, rfl, rfl, rfl, trivial⟩ (fun x => [rowR (Bs.N ⟨w, []⟩) 34 2 (smsP (a.take x.1) b).length ((smsP (a.take x.1) b).flatMap ptCells) x.2]) (0, some ⟨b1, 0, none⟩, 0) (Nat.zero_le _) ⟨rfl, rfl, rfl, rfl, rfl, rfl, trivial⟩ (fun _ h => h) ?_
  intro ⟨i, rA, rc⟩ hi L hL1
  refine at_envE (by simp only [List.nil_append, List.cons_append]; rfl) ?_
  refine at_rsE (by first | (dsimp only; done) | (dsimp only; rfl) | rfl) ?_
  have hi : i ≤ n := hi
  refine at_seq ?_
  refine at_seq ?_
  refine at_region ?_
  refine at_q rfl rfl (by decide) (qt_move rfl rfl) ?_
  refine at_q rfl rfl (by decide) (qt_move rfl rfl) ?_
  refine at_q rfl rfl (by decide) (qt_len rfl rfl tyl_sl_impl_Pt) ?_
  refine at_q rfl rfl (by decide) (qt_lss rfl rfl rfl) ?_
  refine at_end ?_
  refine at_cond rfl (fun c1 => ?_) (fun c1 => ?_)
  · try simp only [decide_eq_true_eq, decide_eq_false_iff_not, beq_iff_eq, beq_eq_false_iff_ne, Bool.not_eq_true', Bool.not_eq_false', Bool.not_true, Bool.not_false, Int.not_lt, Int.not_le, ne_eq, Nat.not_lt, Nat.not_le] at c1
    have hlt : i < n := (by omega)
    have him : i * m ≤ 16 * 16 := Nat.mul_le_mul (by omega) (by omega)
    refine at_skip ?_
    refine norm_then ?_
    refine at_seq ?_
    refine at_block ?_
    refine at_seq ?_
    refine at_region ?_
    refine at_q rfl rfl (by decide) (qt_assign rfl rfl) ?_
    refine at_end ?_
    refine at_block ?_
    refine at_loopc (X := Nat × Option Addr × Nat) (fun x => x.1 ≤ m) (fun x => m - x.1) (fun x => [(6, .slice x.2.1 (preS a b i x.1).length x.2.2), (8, .int .i64 (x.1 : Int))]) (C := [(0, _), (1, _), (4, _), (5, _), (7, _), (11, _), (12, _), (13, _), (14, _)]) ⟨rfl, rfl, rfl, rfl, rfl, rfl, rfl, rfl, rfl, trivial⟩ (fun x => [rowR (Bs.N ⟨w, []⟩) 34 2 (preS a b i x.1).length ((preS a b i x.1).flatMap ptCells) x.2]) (0, rA, rc) (Nat.zero_le _) ⟨(by rw [preS_zero]; rfl), rfl, rfl, rfl, rfl, rfl, rfl, rfl, rfl, rfl, rfl, trivial⟩ (fun _ h => h.upto ⟨by rw [preS_zero], trivial⟩) ?_
    intro ⟨j, qA, qc⟩ hj L hL2
    refine at_envE (by simp only [List.nil_append, List.cons_append]; rfl) ?_
    refine at_rsE (by first | (dsimp only; done) | (dsimp only; rfl) | rfl) ?_
    have hj : j ≤ m := hj
    have hpl := preS_len (a := a) (b := b) (i := i) (j := j) (by omega) (by omega)
    rw [hl2] at hpl
    refine at_seq ?_
    refine at_seq ?_
    refine at_region ?_
    refine at_q rfl rfl (by decide) (qt_move rfl rfl) ?_
    refine at_q rfl rfl (by decide) (qt_move rfl rfl) ?_
    refine at_q rfl rfl (by decide) (qt_len rfl rfl tyl_sl_impl_Pt) ?_
    refine at_q rfl rfl (by decide) (qt_lss rfl rfl rfl) ?_
    refine at_end ?_
    refine at_cond rfl (fun c2 => ?_) (fun c2 => ?_)
    · try simp only [decide_eq_true_eq, decide_eq_false_iff_not, beq_iff_eq, beq_eq_false_iff_ne, Bool.not_eq_true', Bool.not_eq_false', Bool.not_true, Bool.not_false, Int.not_lt, Int.not_le, ne_eq, Nat.not_lt, Nat.not_le] at c2
      have hjt : j < m := (by omega)
      refine at_skip ?_
      refine norm_then ?_
      refine at_seq ?_
      refine at_block ?_
      refine dg_start mixed rfl ?_
      refine dg_phase 11 ?_
      refine dg_q (i := 0) rfl (by kernel_rfl) (by kernel_rfl) (by kernel_rfl) [] (by kernel_rfl) (fun _ _ _ h => h) rfl rfl (by decide) (fun _ h => h.upto ⟨rfl, trivial⟩) (qt_move rfl rfl) ?_
      refine dg_q (i := 1) rfl (by kernel_rfl) (by kernel_rfl) (by kernel_rfl) [3, 4, 9] (by kernel_rfl) (fun _ _ _ h => h) rfl rfl (by decide) (fun _ h => h.upto ⟨rfl, trivial⟩) (qt_move rfl rfl) ?_
      refine dg_q (i := 2) rfl (by kernel_rfl) (by kernel_rfl) (by kernel_rfl) [3, 4, 9] (by kernel_rfl) (fun _ _ _ h => h) rfl rfl (by decide) (fun _ h => h.upto ⟨rfl, trivial⟩) (qt_move rfl rfl) ?_
      refine dg_q (i := 3) rfl (by kernel_rfl) (by kernel_rfl) (by kernel_rfl) [4, 9] (by kernel_rfl) (fun _ _ _ h => h) rfl rfl (by decide) (fun _ h => h.upto ⟨rfl, trivial⟩) (qt_index rfl rfl rfl tyl_sl_impl_Pt (by omega)) ?_
      refine dg_q (i := 4) rfl (by kernel_rfl) (by kernel_rfl) (by kernel_rfl) [9] (by kernel_rfl) (fun _ _ _ h => h) rfl rfl (by decide) (fun _ h => h.upto ⟨rfl, trivial⟩) (qt_loadS rfl rfl tys_impl_Pt rfl (rdPts h hlt)) ?_
      refine dg_q (i := 5) rfl (by kernel_rfl) (by kernel_rfl) (by kernel_rfl) [7, 8, 9] (by kernel_rfl) (fun _ _ _ h => h) rfl rfl (by decide) (fun _ h => h.upto ⟨rfl, trivial⟩) (qt_move rfl rfl) ?_
      refine dg_q (i := 6) rfl (by kernel_rfl) (by kernel_rfl) (by kernel_rfl) [7, 8, 9] (by kernel_rfl) (fun _ _ _ h => h) rfl rfl (by decide) (fun _ h => h.upto ⟨rfl, trivial⟩) (qt_move rfl rfl) ?_
      refine dg_q (i := 7) rfl (by kernel_rfl) (by kernel_rfl) (by kernel_rfl) [8, 9] (by kernel_rfl) (fun _ _ _ h => h) rfl rfl (by decide) (fun _ h => h.upto ⟨rfl, trivial⟩) (qt_index rfl rfl rfl tyl_sl_impl_Pt (by omega)) ?_
      refine dg_q (i := 8) rfl (by kernel_rfl) (by kernel_rfl) (by kernel_rfl) [9] (by kernel_rfl) (fun _ _ _ h => h) rfl rfl (by decide) (fun _ h => h.upto ⟨rfl, trivial⟩) (qt_loadS rfl rfl tys_impl_Pt rfl (rdPts h2 hjt)) ?_
      refine dg_q (i := 9) rfl (by kernel_rfl) (by kernel_rfl) (by kernel_rfl) [] (by kernel_rfl) (fun _ _ _ h => h) rfl rfl (by decide) (fun _ h => h.upto ⟨rfl, trivial⟩) (qt_call ok_spec_l09Sum rfl rfl (fun w1 hs => l09Sum_any (pt a i) (pt b j) w1 (ha _ (pt_mem (by omega))) (hb _ (pt_mem (by omega))))) ?_
      refine dg_one (i := 10) rfl (by decide) (by kernel_rfl) rfl ?_
      refine op_buildSlice rfl rfl (bsl_sl_impl_Pt_1_0 rfl) rfl (by decide) (fun b2 => ?_)
      refine at_rsE (by simp only [List.nil_append, List.cons_append, List.set_cons_zero, List.set_cons_succ, Value.cells, List.toList_toArray]; rfl) ?_
      refine dr_keep (fun _ h => h.upto ⟨rfl, trivial⟩) ?_
      refine dg_bar rfl (by kernel_rfl) rfl ?_
      refine op_appendR (k := 0) rfl tyl_sl_impl_Pt tyz_impl_Pt (by decide) rfl (by decide) rfl rfl rfl (fun w' hs => src_cel hs (k := 1) rfl rfl) (by simp [Value.oneCell']) (by unfold maxLen; omega) (by omega) (Nat.le_refl _) (fun r1 => ?_)
      refine at_rsE (by simp only [List.nil_append, List.cons_append, List.set_cons_zero, List.set_cons_succ, Value.cells, List.toList_toArray]; rfl) ?_
      refine dg_phase 13 ?_
      refine dg_q (i := 12) rfl (by kernel_rfl) (by kernel_rfl) (by kernel_rfl) [] (by kernel_rfl) (fun _ _ _ h => h) rfl rfl (by decide) (fun _ h => h.upto ⟨rfl, rfl, trivial⟩) (qt_assign rfl rfl) ?_
      refine dg_done (by kernel_rfl) ?_
      refine norm_block ?_
      refine norm_then ?_
      refine at_region ?_
      refine at_q rfl rfl (by decide) (qt_move rfl rfl) ?_
      refine at_q rfl rfl (by decide) (qt_add rfl rfl rfl (by omega) (by omega)) ?_
      refine at_q rfl rfl (by decide) (qt_assign rfl rfl) ?_
      refine at_end ?_
      exact at_againc hL2 ((j + 1, r1)) ((show j + 1 ≤ m by omega)) (by simp only; omega) ⟨(by rw [preS_step (by omega), List.length_append]; rfl), vi (by omega), rfl, rfl, rfl, rfl, rfl, rfl, rfl, rfl, rfl, trivial⟩ (fun _ h => h.upto ⟨by rw [sms_cells (by omega), preS_step (by omega), List.length_append]; rfl, trivial⟩)
    · try simp only [decide_eq_true_eq, decide_eq_false_iff_not, beq_iff_eq, beq_eq_false_iff_ne, Bool.not_eq_true', Bool.not_eq_false', Bool.not_true, Bool.not_false, Int.not_lt, Int.not_le, ne_eq, Nat.not_lt, Nat.not_le] at c2
      have hjm : j = b.length := (by omega)
      subst hjm
      refine at_exit ?_
      refine pass_then (fun h => by cases h) ?_
      refine pass_then (fun h => by cases h) ?_
      refine pass_hit ?_
      refine norm_block ?_
      refine norm_then ?_
      refine at_region ?_
      refine at_q rfl rfl (by decide) (qt_move rfl rfl) ?_
      refine at_q rfl rfl (by decide) (qt_add rfl rfl rfl (by omega) (by omega)) ?_
      refine at_q rfl rfl (by decide) (qt_assign rfl rfl) ?_
      refine at_end ?_
      exact at_againc hL1 ((i + 1, qA, qc)) ((show i + 1 ≤ n by omega)) (by simp only; omega) ⟨(by rw [preS_all (by omega)]; rfl), vi (by omega), rfl, rfl, rfl, rfl, trivial⟩ (fun _ h => h.upto ⟨by rw [preS_all (by omega)], trivial⟩)
  · try simp only [decide_eq_true_eq, decide_eq_false_iff_not, beq_iff_eq, beq_eq_false_iff_ne, Bool.not_eq_true', Bool.not_eq_false', Bool.not_true, Bool.not_false, Int.not_lt, Int.not_le, ne_eq, Nat.not_lt, Nat.not_le] at c1
    have hin : i = n := (by omega)
    subst hin
    rw [List.take_of_length_le (show a.length ≤ i by omega)]
    refine at_exit ?_
    refine pass_then (fun h => by cases h) ?_
    refine pass_then (fun h => by cases h) ?_
    refine pass_hit ?_
    refine norm_then ?_
    refine at_seq ?_
    refine at_region ?_
    refine at_q rfl rfl (by decide) (qt_move rfl rfl) ?_
    refine at_op rfl ?_
    refine op_call ok_spec_l11Hull (v := fun x => .slice x.1 _ x.2) (r := fun x => rowR 0 34 2 _ _ x) (H := fun _ => True) rfl rfl rfl (by decide) (fun w1 hs => newRow' (l11Hull_any _ _ _ (smsP a b) w1 (ptsRow (hs.all 0 _ rfl).1 rfl) (sms_H ha hb) (by omega))) ?_
    rintro ⟨pA, pc⟩ -
    refine at_rsE (by simp only [List.nil_append, List.cons_append, List.set_cons_zero, List.set_cons_succ, Value.cells, List.toList_toArray]; rfl) ?_
    refine at_q rfl rfl (by decide) (qt_assign rfl rfl) ?_
    refine at_end ?_
    refine at_seq ?_
    refine at_region ?_
    refine at_q rfl rfl (by decide) (qt_move rfl rfl) ?_
    refine at_q rfl rfl (by decide) (qt_move rfl rfl) ?_
    refine at_q rfl rfl (by decide) (qt_call ok_spec_l13Points rfl rfl (fun w1 hs => l13Points_any _ _ _ (hullP (smsP a b)) w1 (ptsRow (hs.all 1 _ rfl).1 rfl) (by omega))) ?_
    refine at_q rfl rfl (by decide) (qt_assign rfl rfl) ?_
    refine at_q rfl rfl (by decide) (qt_assign rfl rfl) ?_
    refine at_end ?_
    refine at_retc ?_
    refine at_ret2 rfl (.tmp rfl) (.tmp rfl) ?_
    intro w' hs
    exact ⟨(pA, pc), rfl, rowBack hs (k := 1) rfl, hs.fin⟩
/-! ### MinkowskiSum -/
def mkC (a b : List Pn) : Int := if (penB a && penB b) = true then (if allOk (hullP (smsP a b)) = true then 0 else 2) else 1
def mkR (a b : List Pn) : List Pn := if mkC a b = 0 then hullP (smsP a b) else []
theorem mk_no1 {a b : List Pn} (h : penB a = false) : mkC a b = 1 ∧ mkR a b = [] := by simp [mkR, mkC, h]
theorem mk_no2 {a b : List Pn} (h : penB b = false) : mkC a b = 1 ∧ mkR a b = [] := by simp [mkR, mkC, h]
theorem mk_no3 {a b : List Pn} (h : penB a = true) (h2 : penB b = true) (h3 : allOk (hullP (smsP a b)) = false) : mkC a b = 2 ∧ mkR a b = [] := by simp [mkR, mkC, h, h2, h3]
theorem mk_yes {a b : List Pn} (h : penB a = true) (h2 : penB b = true) (h3 : allOk (hullP (smsP a b)) = true) : mkC a b = 0 ∧ mkR a b = hullP (smsP a b) := by simp [mkR, mkC, h, h2, h3]
theorem mk_len (a b : List Pn) : (mkR a b).length ≤ 600 := by
  unfold mkR
  split
  · rename_i h
    unfold mkC at h
    split at h
    · rename_i h1
      rw [Bool.and_eq_true] at h1
      have h2 := (pen_of h1.1).1
      have h3 := (pen_of h1.2).1
      have h4 := hull_len (smsP a b)
      have h5 := sms_len a b
      have h6 : a.length * b.length ≤ 16 * 16 := Nat.mul_le_mul h2.2 h3.2
      omega
    · omega
  · simp
theorem MinkowskiSum_any (A : Option Addr) (n c : Nat) (a : List Pn) (B : Option Addr) (m d : Nat) (b : List Pn) (w : World) (h : Pts w A n a) (h2 : Pts w B m b) (hn : (n : Int) ≤ 1048576) (hm : (m : Int) ≤ 1048576) :
    Calls Try.prog 27 #[.slice A n c, .slice B m d] w fun e w' => ∃ A' c', e = .returned (.tuple #[.slice A' (mkR a b).length c', .int .i64 (mkC a b)]) ∧ OwnP w.heap.size w'.heap.size w' A' (mkR a b).length (mkR a b) ∧ Over w w' := by
  have hl := h.1
  have hl2 := h2.1
  refine walk_from (m := 25) (Try.func27) rfl rfl (Nat.le_of_ble_eq_true rfl) ?_
  refine at_seq ?_
  refine at_region ?_
  refine at_q rfl rfl (by decide) (qt_assign rfl rfl) ?_
  refine at_q rfl rfl (by decide) (qt_assign rfl rfl) ?_
  refine at_end ?_
  refine at_seq ?_
  refine at_seq ?_
  refine at_region ?_
  refine at_q rfl rfl (by decide) (qt_move rfl rfl) ?_
  refine at_q rfl rfl (by decide) (qt_call ok_impl_IsPen rfl rfl (fun w1 hs => IsPen_any A n c a w1 (h.over hs.fin) hn)) ?_
  refine at_q rfl rfl (by decide) (qt_not rfl rfl) ?_
  refine at_q rfl rfl (by decide) (qt_move rfl rfl) ?_
  refine at_bsplit 11 rfl (fun g1 => ?_) (fun g1 => ?_)
  · try simp only [decide_eq_true_eq, decide_eq_false_iff_not, beq_iff_eq, beq_eq_false_iff_ne, Bool.not_eq_true', Bool.not_eq_false', Bool.not_true, Bool.not_false, Int.not_lt, Int.not_le, ne_eq, Nat.not_lt, Nat.not_le] at g1
    refine at_off rfl rfl rfl rfl (by decide) rfl (by decide) ?_
    refine at_off rfl rfl rfl rfl (by decide) rfl (by decide) ?_
    refine at_off rfl rfl rfl rfl (by decide) rfl (by decide) ?_
    refine at_q rfl rfl (by decide) (qt_pickT rfl rfl rfl) ?_
    refine at_end ?_
    refine at_yes rfl rfl ?_
    refine at_seq ?_
    refine at_region ?_
    refine at_q rfl rfl (by decide) (qt_assign rfl rfl) ?_
    refine at_q rfl rfl (by decide) (qt_assign rfl rfl) ?_
    refine at_end ?_
    refine at_retc ?_
    refine then_ret ?_
    refine at_ret2 rfl (.tmp rfl) (.tmp rfl) ?_
    intro w' hs
    obtain ⟨e1, e2⟩ := mk_no1 (a := a) (b := b) (by simp_all)
    exact ⟨none, 0, by rw [e1, e2]; rfl, by rw [e2]; exact OwnP.nil none, hs.fin⟩
  · try simp only [decide_eq_true_eq, decide_eq_false_iff_not, beq_iff_eq, beq_eq_false_iff_ne, Bool.not_eq_true', Bool.not_eq_false', Bool.not_true, Bool.not_false, Int.not_lt, Int.not_le, ne_eq, Nat.not_lt, Nat.not_le] at g1
    refine at_on rfl rfl rfl rfl ?_
    refine op_q rfl (by decide) (qt_move rfl rfl) ?_
    refine at_on rfl rfl rfl rfl ?_
    refine op_q rfl (by decide) (qt_call ok_impl_IsPen rfl rfl (fun w1 hs => IsPen_any B m d b w1 (h2.over hs.fin) hm)) ?_
    refine at_on rfl rfl rfl rfl ?_
    refine op_q rfl (by decide) (qt_not rfl rfl) ?_
    refine at_q rfl rfl (by decide) (qt_pickF rfl rfl rfl) ?_
    refine at_end ?_
    refine at_cond rfl (fun c1 => ?_) (fun c1 => ?_)
    · try simp only [decide_eq_true_eq, decide_eq_false_iff_not, beq_iff_eq, beq_eq_false_iff_ne, Bool.not_eq_true', Bool.not_eq_false', Bool.not_true, Bool.not_false, Int.not_lt, Int.not_le, ne_eq, Nat.not_lt, Nat.not_le] at c1
      refine at_seq ?_
      refine at_region ?_
      refine at_q rfl rfl (by decide) (qt_assign rfl rfl) ?_
      refine at_q rfl rfl (by decide) (qt_assign rfl rfl) ?_
      refine at_end ?_
      refine at_retc ?_
      refine then_ret ?_
      refine at_ret2 rfl (.tmp rfl) (.tmp rfl) ?_
      intro w' hs
      obtain ⟨e1, e2⟩ := mk_no2 (a := a) (b := b) (by simp_all)
      exact ⟨none, 0, by rw [e1, e2]; rfl, by rw [e2]; exact OwnP.nil none, hs.fin⟩
    · try simp only [decide_eq_true_eq, decide_eq_false_iff_not, beq_iff_eq, beq_eq_false_iff_ne, Bool.not_eq_true', Bool.not_eq_false', Bool.not_true, Bool.not_false, Int.not_lt, Int.not_le, ne_eq, Nat.not_lt, Nat.not_le] at c1
      have hpa : penB a = true := by simp_all
      have hpb : penB b = true := by simp_all
      obtain ⟨ka, ka2, _⟩ := pen_of hpa
      obtain ⟨kb, kb2, _⟩ := pen_of hpb
      refine at_skip ?_
      refine norm_then ?_
      refine at_seq ?_
      refine at_region ?_
      refine at_q rfl rfl (by decide) (qt_move rfl rfl) ?_
      refine at_q rfl rfl (by decide) (qt_move rfl rfl) ?_
      refine at_op rfl ?_
      refine op_call ok_impl_sumsOf (v := fun x => .tuple #[.slice x.1 _ x.2, .bool _]) (r := fun x => rowR 0 34 2 _ _ x) (H := fun _ => True) rfl rfl rfl (by decide) (fun w1 hs => newRowT (sumsOf_any A n c a B m d b w1 (h.over hs.fin) (h2.over hs.fin) (allOk_bd ka2) (allOk_bd kb2) (by omega) (by omega))) ?_
      rintro ⟨pA, pc⟩ -
      refine at_rsE (by simp only [List.nil_append, List.cons_append, List.set_cons_zero, List.set_cons_succ, Value.cells, List.toList_toArray]; rfl) ?_
      refine at_q rfl rfl (by decide) (qt_move rfl rfl) ?_
      refine at_q rfl rfl (by decide) (qt_extract rfl rfl rfl) ?_
      refine at_q rfl rfl (by decide) (qt_extract rfl rfl rfl) ?_
      refine at_q rfl rfl (by decide) (qt_assign rfl rfl) ?_
      refine at_q rfl rfl (by decide) (qt_assign rfl rfl) ?_
      refine at_end ?_
      refine at_seq ?_
      refine at_seq ?_
      refine at_region ?_
      refine at_q rfl rfl (by decide) (qt_move rfl rfl) ?_
      refine at_q rfl rfl (by decide) (qt_not rfl rfl) ?_
      refine at_end ?_
      refine at_cond rfl (fun c2 => ?_) (fun c2 => ?_)
      · try simp only [decide_eq_true_eq, decide_eq_false_iff_not, beq_iff_eq, beq_eq_false_iff_ne, Bool.not_eq_true', Bool.not_eq_false', Bool.not_true, Bool.not_false, Int.not_lt, Int.not_le, ne_eq, Nat.not_lt, Nat.not_le] at c2
        refine at_seq ?_
        refine at_region ?_
        refine at_q rfl rfl (by decide) (qt_assign rfl rfl) ?_
        refine at_q rfl rfl (by decide) (qt_assign rfl rfl) ?_
        refine at_end ?_
        refine at_retc ?_
        refine then_ret ?_
        refine at_ret2 rfl (.tmp rfl) (.tmp rfl) ?_
        intro w' hs
        obtain ⟨e1, e2⟩ := mk_no3 hpa hpb (by simp_all)
        exact ⟨none, 0, by rw [e1, e2]; rfl, by rw [e2]; exact OwnP.nil none, hs.fin⟩
      · try simp only [decide_eq_true_eq, decide_eq_false_iff_not, beq_iff_eq, beq_eq_false_iff_ne, Bool.not_eq_true', Bool.not_eq_false', Bool.not_true, Bool.not_false, Int.not_lt, Int.not_le, ne_eq, Nat.not_lt, Nat.not_le] at c2
        refine at_skip ?_
        refine norm_then ?_
        refine at_seq ?_
        refine at_region ?_
        refine at_q rfl rfl (by decide) (qt_move rfl rfl) ?_
        refine at_q rfl rfl (by decide) (qt_assign rfl rfl) ?_
        refine at_q rfl rfl (by decide) (qt_assign rfl rfl) ?_
        refine at_end ?_
        refine at_retc ?_
        refine at_ret2 rfl (.tmp rfl) (.tmp rfl) ?_
        intro w' hs
        obtain ⟨e1, e2⟩ := mk_yes hpa hpb (by simp_all)
        exact ⟨pA, pc, by rw [e1, e2], by rw [e2]; exact rowOwn3 hs (k := 0) rfl rfl, hs.fin⟩
theorem specMinkowskiSum_any (A : Option Addr) (n c : Nat) (a : List Pn) (B : Option Addr) (m d : Nat) (b : List Pn) (w : World) (h : Pts w A n a) (h2 : Pts w B m b) (hn : (n : Int) ≤ 1048576) (hm : (m : Int) ≤ 1048576) :
    Calls Try.prog 26 #[.slice A n c, .slice B m d] w fun e w' => ∃ A' c', e = .returned (.tuple #[.slice A' (mkR a b).length c', .int .i64 (mkC a b)]) ∧ OwnP w.heap.size w'.heap.size w' A' (mkR a b).length (mkR a b) ∧ Over w w' := by
  have hl := h.1
  have hl2 := h2.1
  refine walk_from (m := 25) (Try.func26) rfl rfl (Nat.le_of_ble_eq_true rfl) ?_
  refine at_seq ?_
  refine at_region ?_
  refine at_q rfl rfl (by decide) (qt_assign rfl rfl) ?_
  refine at_q rfl rfl (by decide) (qt_assign rfl rfl) ?_
  refine at_end ?_
  refine at_seq ?_
  refine at_seq ?_
  refine at_region ?_
  refine at_q rfl rfl (by decide) (qt_move rfl rfl) ?_
  refine at_q rfl rfl (by decide) (qt_call ok_spec_l11Pen rfl rfl (fun w1 hs => l11Pen_any A n c a w1 (h.over hs.fin) hn)) ?_
  refine at_q rfl rfl (by decide) (qt_not rfl rfl) ?_
  refine at_q rfl rfl (by decide) (qt_move rfl rfl) ?_
  refine at_bsplit 11 rfl (fun g1 => ?_) (fun g1 => ?_)
  · try simp only [decide_eq_true_eq, decide_eq_false_iff_not, beq_iff_eq, beq_eq_false_iff_ne, Bool.not_eq_true', Bool.not_eq_false', Bool.not_true, Bool.not_false, Int.not_lt, Int.not_le, ne_eq, Nat.not_lt, Nat.not_le] at g1
    refine at_off rfl rfl rfl rfl (by decide) rfl (by decide) ?_
    refine at_off rfl rfl rfl rfl (by decide) rfl (by decide) ?_
    refine at_off rfl rfl rfl rfl (by decide) rfl (by decide) ?_
    refine at_q rfl rfl (by decide) (qt_pickT rfl rfl rfl) ?_
    refine at_end ?_
    refine at_yes rfl rfl ?_
    refine at_seq ?_
    refine at_region ?_
    refine at_q rfl rfl (by decide) (qt_assign rfl rfl) ?_
    refine at_q rfl rfl (by decide) (qt_assign rfl rfl) ?_
    refine at_end ?_
    refine at_retc ?_
    refine then_ret ?_
    refine at_ret2 rfl (.tmp rfl) (.tmp rfl) ?_
    intro w' hs
    obtain ⟨e1, e2⟩ := mk_no1 (a := a) (b := b) (by simp_all)
    exact ⟨none, 0, by rw [e1, e2]; rfl, by rw [e2]; exact OwnP.nil none, hs.fin⟩
  · try simp only [decide_eq_true_eq, decide_eq_false_iff_not, beq_iff_eq, beq_eq_false_iff_ne, Bool.not_eq_true', Bool.not_eq_false', Bool.not_true, Bool.not_false, Int.not_lt, Int.not_le, ne_eq, Nat.not_lt, Nat.not_le] at g1
    refine at_on rfl rfl rfl rfl ?_
    refine op_q rfl (by decide) (qt_move rfl rfl) ?_
    refine at_on rfl rfl rfl rfl ?_
    refine op_q rfl (by decide) (qt_call ok_spec_l11Pen rfl rfl (fun w1 hs => l11Pen_any B m d b w1 (h2.over hs.fin) hm)) ?_
    refine at_on rfl rfl rfl rfl ?_
    refine op_q rfl (by decide) (qt_not rfl rfl) ?_
    refine at_q rfl rfl (by decide) (qt_pickF rfl rfl rfl) ?_
    refine at_end ?_
    refine at_cond rfl (fun c1 => ?_) (fun c1 => ?_)
    · try simp only [decide_eq_true_eq, decide_eq_false_iff_not, beq_iff_eq, beq_eq_false_iff_ne, Bool.not_eq_true', Bool.not_eq_false', Bool.not_true, Bool.not_false, Int.not_lt, Int.not_le, ne_eq, Nat.not_lt, Nat.not_le] at c1
      refine at_seq ?_
      refine at_region ?_
      refine at_q rfl rfl (by decide) (qt_assign rfl rfl) ?_
      refine at_q rfl rfl (by decide) (qt_assign rfl rfl) ?_
      refine at_end ?_
      refine at_retc ?_
      refine then_ret ?_
      refine at_ret2 rfl (.tmp rfl) (.tmp rfl) ?_
      intro w' hs
      obtain ⟨e1, e2⟩ := mk_no2 (a := a) (b := b) (by simp_all)
      exact ⟨none, 0, by rw [e1, e2]; rfl, by rw [e2]; exact OwnP.nil none, hs.fin⟩
    · try simp only [decide_eq_true_eq, decide_eq_false_iff_not, beq_iff_eq, beq_eq_false_iff_ne, Bool.not_eq_true', Bool.not_eq_false', Bool.not_true, Bool.not_false, Int.not_lt, Int.not_le, ne_eq, Nat.not_lt, Nat.not_le] at c1
      have hpa : penB a = true := by simp_all
      have hpb : penB b = true := by simp_all
      obtain ⟨ka, ka2, _⟩ := pen_of hpa
      obtain ⟨kb, kb2, _⟩ := pen_of hpb
      refine at_skip ?_
      refine norm_then ?_
      refine at_seq ?_
      refine at_region ?_
      refine at_q rfl rfl (by decide) (qt_move rfl rfl) ?_
      refine at_q rfl rfl (by decide) (qt_move rfl rfl) ?_
      refine at_op rfl ?_
      refine op_call ok_spec_l11Sum (v := fun x => .tuple #[.slice x.1 _ x.2, .bool _]) (r := fun x => rowR 0 34 2 _ _ x) (H := fun _ => True) rfl rfl rfl (by decide) (fun w1 hs => newRowT (l11Sum_any A n c a B m d b w1 (h.over hs.fin) (h2.over hs.fin) (allOk_bd ka2) (allOk_bd kb2) (by omega) (by omega))) ?_
      rintro ⟨pA, pc⟩ -
      refine at_rsE (by simp only [List.nil_append, List.cons_append, List.set_cons_zero, List.set_cons_succ, Value.cells, List.toList_toArray]; rfl) ?_
      refine at_q rfl rfl (by decide) (qt_move rfl rfl) ?_
      refine at_q rfl rfl (by decide) (qt_extract rfl rfl rfl) ?_
      refine at_q rfl rfl (by decide) (qt_extract rfl rfl rfl) ?_
      refine at_q rfl rfl (by decide) (qt_assign rfl rfl) ?_
      refine at_q rfl rfl (by decide) (qt_assign rfl rfl) ?_
      refine at_end ?_
      refine at_seq ?_
      refine at_seq ?_
      refine at_region ?_
      refine at_q rfl rfl (by decide) (qt_move rfl rfl) ?_
      refine at_q rfl rfl (by decide) (qt_not rfl rfl) ?_
      refine at_end ?_
      refine at_cond rfl (fun c2 => ?_) (fun c2 => ?_)
      · try simp only [decide_eq_true_eq, decide_eq_false_iff_not, beq_iff_eq, beq_eq_false_iff_ne, Bool.not_eq_true', Bool.not_eq_false', Bool.not_true, Bool.not_false, Int.not_lt, Int.not_le, ne_eq, Nat.not_lt, Nat.not_le] at c2
        refine at_seq ?_
        refine at_region ?_
        refine at_q rfl rfl (by decide) (qt_assign rfl rfl) ?_
        refine at_q rfl rfl (by decide) (qt_assign rfl rfl) ?_
        refine at_end ?_
        refine at_retc ?_
        refine then_ret ?_
        refine at_ret2 rfl (.tmp rfl) (.tmp rfl) ?_
        intro w' hs
        obtain ⟨e1, e2⟩ := mk_no3 hpa hpb (by simp_all)
        exact ⟨none, 0, by rw [e1, e2]; rfl, by rw [e2]; exact OwnP.nil none, hs.fin⟩
      · try simp only [decide_eq_true_eq, decide_eq_false_iff_not, beq_iff_eq, beq_eq_false_iff_ne, Bool.not_eq_true', Bool.not_eq_false', Bool.not_true, Bool.not_false, Int.not_lt, Int.not_le, ne_eq, Nat.not_lt, Nat.not_le] at c2
        refine at_skip ?_
        refine norm_then ?_
        refine at_seq ?_
        refine at_region ?_
        refine at_q rfl rfl (by decide) (qt_move rfl rfl) ?_
        refine at_q rfl rfl (by decide) (qt_assign rfl rfl) ?_
        refine at_q rfl rfl (by decide) (qt_assign rfl rfl) ?_
        refine at_end ?_
        refine at_retc ?_
        refine at_ret2 rfl (.tmp rfl) (.tmp rfl) ?_
        intro w' hs
        obtain ⟨e1, e2⟩ := mk_yes hpa hpb (by simp_all)
        exact ⟨pA, pc, by rw [e1, e2], by rw [e2]; exact rowOwn3 hs (k := 0) rfl rfl, hs.fin⟩
end Go.Proofs.Ytcplmmoeglembaa
