/- The law FnMinkowski, walked. -/
import Derived.Test.YtcplmmoeglembaaMink
namespace Go.Proofs.Ytcplmmoeglembaa
open Go Go.RowKit
set_option linter.unusedVariables false
set_option linter.unusedSimpArgs false
set_option maxRecDepth 100000
set_option maxHeartbeats 4000000
set_option linter.unusedVariables false
set_option linter.unusedSimpArgs false

theorem mink_flip (A : Option Addr) (n c : Nat) (a : List Pn) (B : Option Addr) (m d : Nat) (b : List Pn) (w : World) (h : Pts w A n a) (h2 : Pts w B m b) (hn : (n : Int) ≤ 1048576) (hm : (m : Int) ≤ 1048576) :
    Calls Try.prog 27 #[.slice B m d, .slice A n c] w fun e w' => ∃ A' c', e = .returned (.tuple #[.slice A' (mkR a b).length c', .int .i64 (mkC a b)]) ∧ OwnP w.heap.size w'.heap.size w' A' (mkR a b).length (mkR a b) ∧ Over w w' := by
  have := MinkowskiSum_any B m d b A n c a w h2 h hm hn
  rwa [(mk_comm b a).1, (mk_comm b a).2] at this
theorem refl_pen (A : Option Addr) (n c : Nat) (a : List Pn) (w : World) (h : Pts w A n a) (ha : penB a = true) (hn : (n : Int) ≤ 1048576) :
    Calls Try.prog 16 #[.slice A n c] w fun e w' => ∃ A' c', e = .returned (.tuple #[.slice A' (hullP (a.map negP)).length c', .int .i64 0]) ∧ OwnP w.heap.size w'.heap.size w' A' (hullP (a.map negP)).length (hullP (a.map negP)) ∧ Over w w' := by
  have := ReflectPen_any A n c a w h hn
  rwa [(rf_yes ha).1, (rf_yes ha).2] at this
theorem has_back (A : Option Addr) (n c : Nat) (a : List Pn) (p : Pn) (w : World) (h : Pts w A n (hullP (a.map negP))) (ha : penB a = true) (hp : bd2 p) (hn : (n : Int) ≤ 1048576) :
    Calls Try.prog 22 #[.slice A n c, ptV (-p.1) (-p.2)] w fun e w' => e = .returned (.bool (phB a p)) ∧ Over w w' := by
  have := PenHas_any A n c (hullP (a.map negP)) (negP p) w h hn
  rwa [ph_refl ha hp] at this
theorem ext_two (A : Option Addr) (n c : Nat) (a b : List Pn) (d : Pn) (w : World) (h : Pts w A n b) (ha : penB a = true) (hb : penB b = true) (hd : bd2 d) (hn : (n : Int) ≤ 1048576) :
    Calls Try.prog 31 #[.slice A n c, pV d] w fun e w' => e = .returned (.tuple #[.int .i64 (exV b d), .int .i64 (spC a d)]) ∧ Over w w' := by
  have := ExtentOf_any A n c b d w h hn
  rwa [spC_two ha hb hd] at this
theorem ext_back (A : Option Addr) (n c : Nat) (a : List Pn) (d : Pn) (w : World) (h : Pts w A n (hullP (a.map negP))) (ha : penB a = true) (hd : bd2 d) (h0 : spC a d = 0) (hn : (n : Int) ≤ 1048576) :
    Calls Try.prog 31 #[.slice A n c, pV d] w fun e w' => e = .returned (.tuple #[.int .i64 (exV a d), .int .i64 0]) ∧ Over w w' := by
  have := ExtentOf_any A n c (hullP (a.map negP)) d w h hn
  rwa [spC_two ha (pen_refl ha) hd, h0, exV_refl ha hd h0] at this
theorem ext_sum (A : Option Addr) (n c : Nat) (a b : List Pn) (d : Pn) (w : World) (h : Pts w A n (hullP (smsP a b))) (ha : penB a = true) (hb : penB b = true) (hs : penB (hullP (smsP a b)) = true) (hd : bd2 d) (h0 : spC a d = 0) (hn : (n : Int) ≤ 1048576) :
    Calls Try.prog 31 #[.slice A n c, pV d] w fun e w' => e = .returned (.tuple #[.int .i64 (exV a d + exV b d), .int .i64 0]) ∧ Over w w' := by
  have := ExtentOf_any A n c (hullP (smsP a b)) d w h hn
  rwa [spC_two ha hs hd, h0, exV_sum ha hb hd hs h0] at this
theorem law_Minkowski (A : Option Addr) (n c : Nat) (zs : List Int) (B : Option Addr) (m d : Nat) (ys : List Int) (w : World) (h : Byts w A n zs) (_hm : (n : Int) ≤ 9223372036854775807) (h2 : Byts w B m ys) (_hm2 : (m : Int) ≤ 9223372036854775807) :
    Calls Try.prog 11 #[.slice A n c, .slice B m d] w fun e w' => e = .returned (.bool true) ∧ Over w w' := by
  refine walk_from (m := 154) (Try.func11) rfl rfl (Nat.le_of_ble_eq_true rfl) ?_
  refine at_seq ?_
  refine at_region ?_
  refine at_q rfl rfl (by decide) (qt_assign rfl rfl) ?_
  refine at_end ?_
  refine at_seq ?_
  refine at_seq ?_
  refine at_region ?_
  refine at_q rfl rfl (by decide) (qt_move rfl rfl) ?_
  refine at_q rfl rfl (by decide) (qt_move rfl rfl) ?_
  refine at_q rfl rfl (by decide) (qt_call ok_laws_e8Long rfl rfl (fun w1 hs => e8Long_any A B n c m d w1)) ?_
  refine at_end ?_
  refine at_cond rfl (fun c1 => ?_) (fun c1 => ?_)
  · try simp only [decide_eq_true_eq, decide_eq_false_iff_not, beq_iff_eq, beq_eq_false_iff_ne, Bool.not_eq_true', Bool.not_eq_false', Bool.not_true, Bool.not_false, Int.not_lt, Int.not_le, ne_eq, Nat.not_lt, Nat.not_le] at c1
    refine at_seq ?_
    refine at_region ?_
    refine at_q rfl rfl (by decide) (qt_assign rfl rfl) ?_
    refine at_end ?_
    refine at_retc ?_
    refine then_ret ?_
    refine at_ret1 rfl (.tmp rfl) ?_
    intro w' hs
    exact ⟨rfl, hs.fin⟩
  · try simp only [decide_eq_true_eq, decide_eq_false_iff_not, beq_iff_eq, beq_eq_false_iff_ne, Bool.not_eq_true', Bool.not_eq_false', Bool.not_true, Bool.not_false, Int.not_lt, Int.not_le, ne_eq, Nat.not_lt, Nat.not_le] at c1
    have hn : n ≤ 1048576 ∧ m ≤ 1048576 := by simp at c1; omega
    refine at_skip ?_
    refine norm_then ?_
    refine at_seq ?_
    refine at_region ?_
    refine at_q rfl rfl (by decide) (qt_move rfl rfl) ?_
    refine at_op rfl ?_
    refine op_call ok_spec_E8Pen (v := fun x : Pen × Option Addr × Nat => .slice x.2.1 x.1.1.length x.2.2) (r := fun x => rowR 0 34 2 x.1.1.length (x.1.1.flatMap ptCells) x.2) (H := fun _ => True) rfl rfl rfl (by decide) (fun w1 hs => E8Pen_any (h.over hs.fin) hn.1) ?_
    rintro ⟨⟨a, ha⟩, aA, ac⟩ -
    refine at_rsE (by simp only [List.nil_append, List.cons_append, List.set_cons_zero, List.set_cons_succ, Value.cells, List.toList_toArray]; rfl) ?_
    try dsimp only
    refine at_q rfl rfl (by decide) (qt_assign rfl rfl) ?_
    refine at_end ?_
    refine at_seq ?_
    refine at_region ?_
    refine at_q rfl rfl (by decide) (qt_move rfl rfl) ?_
    refine at_op rfl ?_
    refine op_call ok_spec_E8Pen (v := fun x : Pen × Option Addr × Nat => .slice x.2.1 x.1.1.length x.2.2) (r := fun x => rowR 0 34 2 x.1.1.length (x.1.1.flatMap ptCells) x.2) (H := fun _ => True) rfl rfl rfl (by decide) (fun w1 hs => E8Pen_any (h2.over hs.fin) hn.2) ?_
    rintro ⟨⟨b, hb⟩, bA, bc⟩ -
    refine at_rsE (by simp only [List.nil_append, List.cons_append, List.set_cons_zero, List.set_cons_succ, Value.cells, List.toList_toArray]; rfl) ?_
    try dsimp only
    have ka := (pen_of ha).1
    have kb := (pen_of hb).1
    have hsm := mk_len a b
    have hrl := refl_len ha
    refine at_q rfl rfl (by decide) (qt_assign rfl rfl) ?_
    refine at_end ?_
    refine at_seq ?_
    refine at_region ?_
    refine at_q rfl rfl (by decide) (qt_move rfl rfl) ?_
    refine at_op rfl ?_
    refine op_call ok_spec_E8Points (v := fun x : Four => .tuple #[pV x.1.1, pV x.1.2.1, pV x.1.2.2.1, pV x.1.2.2.2]) (r := fun _ => Res.many []) (H := fun _ => True) rfl rfl rfl (by decide) (fun w1 hs => E8Points_any (h2.over hs.fin) hn.2) ?_
    rintro ⟨⟨p, q, p3, p4⟩, hp, hq, hp3, hp4⟩ -
    refine at_rsE (by simp only [List.nil_append, List.cons_append, List.set_cons_zero, List.set_cons_succ, Value.cells, List.toList_toArray]; rfl) ?_
    try dsimp only
    replace hp : bd2 p := hp
    replace hq : bd2 q := hq
    obtain ⟨⟨u1, u2⟩, u3, u4⟩ := id hp
    refine at_q rfl rfl (by decide) (qt_move rfl rfl) ?_
    refine at_q rfl rfl (by decide) (qt_extract rfl rfl rfl) ?_
    refine at_q rfl rfl (by decide) (qt_extract rfl rfl rfl) ?_
    refine at_q rfl rfl (by decide) (qt_extract rfl rfl rfl) ?_
    refine at_q rfl rfl (by decide) (qt_extract rfl rfl rfl) ?_
    refine at_op rfl ?_
    refine op_alloc rfl tyz_impl_Pt rfl (by decide) (fun b1 => ?_)
    refine at_rsE (by simp only [List.nil_append, List.cons_append, List.set_cons_zero, List.set_cons_succ, Value.cells, List.toList_toArray]; rfl) ?_
    refine at_op rfl ?_
    refine op_alloc rfl tyz_impl_Pt rfl (by decide) (fun b2 => ?_)
    refine at_rsE (by simp only [List.nil_append, List.cons_append, List.set_cons_zero, List.set_cons_succ, Value.cells, List.toList_toArray]; rfl) ?_
    refine at_op rfl ?_
    refine op_alloc rfl tyz_impl_Pt rfl (by decide) (fun b3 => ?_)
    refine at_rsE (by simp only [List.nil_append, List.cons_append, List.set_cons_zero, List.set_cons_succ, Value.cells, List.toList_toArray]; rfl) ?_
    refine at_op rfl ?_
    refine op_alloc rfl tyz_impl_Pt rfl (by decide) (fun b4 => ?_)
    refine at_rsE (by simp only [List.nil_append, List.cons_append, List.set_cons_zero, List.set_cons_succ, Value.cells, List.toList_toArray]; rfl) ?_
    refine at_op rfl ?_
    refine op_storeAll' (k := 3) rfl rfl rfl rfl (rfl) (by rfl) tyz_impl_Pt.szx rfl rfl rfl ?_
    refine at_rsE (by simp only [List.nil_append, List.cons_append, List.set_cons_zero, List.set_cons_succ, Value.cells, List.toList_toArray]; rfl) ?_
    refine at_op rfl ?_
    refine op_storeAll' (k := 4) rfl rfl rfl rfl (rfl) (by rfl) tyz_impl_Pt.szx rfl rfl rfl ?_
    refine at_rsE (by simp only [List.nil_append, List.cons_append, List.set_cons_zero, List.set_cons_succ, Value.cells, List.toList_toArray]; rfl) ?_
    refine at_op rfl ?_
    refine op_storeAll' (k := 5) rfl rfl rfl rfl (rfl) (by rfl) tyz_impl_Pt.szx rfl rfl rfl ?_
    refine at_rsE (by simp only [List.nil_append, List.cons_append, List.set_cons_zero, List.set_cons_succ, Value.cells, List.toList_toArray]; rfl) ?_
    refine at_op rfl ?_
    refine op_storeAll' (k := 6) rfl rfl rfl rfl (rfl) (by rfl) tyz_impl_Pt.szx rfl rfl rfl ?_
    refine at_rsE (by simp only [List.nil_append, List.cons_append, List.set_cons_zero, List.set_cons_succ, Value.cells, List.toList_toArray]; rfl) ?_
    refine at_end ?_
    refine at_seq ?_
    refine at_region ?_
    refine at_q rfl rfl (by decide) (qt_move rfl rfl) ?_
    refine at_q rfl rfl (by decide) (qt_move rfl rfl) ?_
    refine at_op rfl ?_
    refine op_call ok_impl_MinkowskiSum (X := (Option Addr × Nat) × Nat × Nat) (v := fun x => .tuple #[.slice x.1.1 _ x.1.2, .int .i64 _]) (r := fun x => ptsR _ _ x.2.1 x.2.2 x.1.1) (H := fun _ => True) rfl rfl rfl (by decide) (fun w1 hs => slcCode (MinkowskiSum_any _ _ _ a _ _ _ b w1 (ptsRow (hs.all 0 _ rfl).1 rfl) (ptsRow (hs.all 1 _ rfl).1 rfl) (by omega) (by omega))) ?_
    rintro ⟨⟨sA, sc⟩, slo, shi⟩ -
    refine at_rsE (by simp only [List.nil_append, List.cons_append, List.set_cons_zero, List.set_cons_succ, Value.cells, List.toList_toArray]; rfl) ?_
    refine at_q rfl rfl (by decide) (qt_move rfl rfl) ?_
    refine at_q rfl rfl (by decide) (qt_extract rfl rfl rfl) ?_
    refine at_q rfl rfl (by decide) (qt_extract rfl rfl rfl) ?_
    refine at_q rfl rfl (by decide) (qt_assign rfl rfl) ?_
    refine at_q rfl rfl (by decide) (qt_assign rfl rfl) ?_
    refine at_end ?_
    refine at_seq ?_
    refine at_region ?_
    refine at_q rfl rfl (by decide) (qt_move rfl rfl) ?_
    refine at_q rfl rfl (by decide) (qt_move rfl rfl) ?_
    refine at_op rfl ?_
    refine op_call ok_impl_MinkowskiSum (X := (Option Addr × Nat) × Nat × Nat) (v := fun x => .tuple #[.slice x.1.1 _ x.1.2, .int .i64 _]) (r := fun x => ptsR _ _ x.2.1 x.2.2 x.1.1) (H := fun _ => True) rfl rfl rfl (by decide) (fun w1 hs => slcCode (mink_flip _ _ _ a _ _ _ b w1 (ptsRow (hs.all 0 _ rfl).1 rfl) (ptsRow (hs.all 1 _ rfl).1 rfl) (by omega) (by omega))) ?_
    rintro ⟨⟨oA, oc⟩, olo, ohi⟩ -
    refine at_rsE (by simp only [List.nil_append, List.cons_append, List.set_cons_zero, List.set_cons_succ, Value.cells, List.toList_toArray]; rfl) ?_
    refine at_q rfl rfl (by decide) (qt_move rfl rfl) ?_
    refine at_q rfl rfl (by decide) (qt_extract rfl rfl rfl) ?_
    refine at_q rfl rfl (by decide) (qt_extract rfl rfl rfl) ?_
    refine at_q rfl rfl (by decide) (qt_assign rfl rfl) ?_
    refine at_q rfl rfl (by decide) (qt_assign rfl rfl) ?_
    refine at_end ?_
    refine at_seq ?_
    refine at_seq ?_
    refine at_region ?_
    refine at_q rfl rfl (by decide) (qt_move rfl rfl) ?_
    refine at_q rfl rfl (by decide) (qt_move rfl rfl) ?_
    refine at_q rfl rfl (by decide) (qt_neq rfl rfl rfl) ?_
    refine at_q rfl rfl (by decide) (qt_move rfl rfl) ?_
    refine at_as 54 (.bool false) rfl (by rw [neSelf _]) ?_
    refine at_on rfl rfl rfl rfl ?_
    refine op_q rfl (by decide) (qt_move rfl rfl) ?_
    refine at_on rfl rfl rfl rfl ?_
    refine op_q rfl (by decide) (qt_neq rfl rfl rfl) ?_
    refine at_q rfl rfl (by decide) (qt_pickF rfl rfl rfl) ?_
    refine at_end ?_
    refine at_cond rfl (fun c2 => ?_) (fun c2 => ?_)
    · try simp only [decide_eq_true_eq, decide_eq_false_iff_not, beq_iff_eq, beq_eq_false_iff_ne, Bool.not_eq_true', Bool.not_eq_false', Bool.not_true, Bool.not_false, Int.not_lt, Int.not_le, ne_eq, Nat.not_lt, Nat.not_le] at c2
      have h2' := mk_two ha hb (by simpa using c2)
      refine at_seq ?_
      refine at_region ?_
      refine at_q rfl rfl (by decide) (qt_move rfl rfl) ?_
      refine at_q rfl rfl (by decide) (qt_move rfl rfl) ?_
      refine at_q rfl rfl (by decide) (qt_eql rfl rfl rfl) ?_
      refine at_q rfl rfl (by decide) (qt_move rfl rfl) ?_
      refine at_as 61 (.bool true) rfl (by rw [(eqSelfI _)]) ?_
      refine at_on rfl rfl rfl rfl ?_
      refine op_q rfl (by decide) (qt_move rfl rfl) ?_
      refine at_on rfl rfl rfl rfl ?_
      refine op_q rfl (by decide) (qt_eql rfl rfl rfl) ?_
      refine at_q rfl rfl (by decide) (qt_pickT rfl rfl rfl) ?_
      refine at_q rfl rfl (by decide) (qt_assign rfl rfl) ?_
      refine at_end ?_
      refine at_retc ?_
      refine then_ret ?_
      refine at_ret1 rfl (.tmp rfl) ?_
      intro w' hs
      exact ⟨retB (by rw [h2']; rfl), hs.fin⟩
    · try simp only [decide_eq_true_eq, decide_eq_false_iff_not, beq_iff_eq, beq_eq_false_iff_ne, Bool.not_eq_true', Bool.not_eq_false', Bool.not_true, Bool.not_false, Int.not_lt, Int.not_le, ne_eq, Nat.not_lt, Nat.not_le] at c2
      have h0' : mkC a b = 0 := by simpa using c2
      obtain ⟨hR, hok⟩ := mk_zero ha hb h0'
      refine at_skip ?_
      refine norm_then ?_
      refine at_seq ?_
      refine at_seq ?_
      refine at_region ?_
      refine at_q rfl rfl (by decide) (qt_move rfl rfl) ?_
      refine at_q rfl rfl (by decide) (qt_move rfl rfl) ?_
      refine at_q rfl rfl (by decide) (qt_call ok_laws_e8Same rfl rfl (fun w1 hs => e8Same_same _ _ _ _ _ (mkR a b) w1 (ptsPts (k := 7) rfl w1 hs) (ptsPts (k := 8) rfl w1 hs) (by omega))) ?_
      refine at_q rfl rfl (by decide) (qt_not rfl rfl) ?_
      refine at_end ?_
      refine at_no rfl (rfl) ?_
      refine at_skip ?_
      refine norm_then ?_
      refine at_seq ?_
      refine at_region ?_
      refine at_q rfl rfl (by decide) (qt_move rfl rfl) ?_
      refine at_op rfl ?_
      refine op_call ok_impl_ReflectPen (X := (Option Addr × Nat) × Nat × Nat) (v := fun x => .tuple #[.slice x.1.1 _ x.1.2, .int .i64 _]) (r := fun x => ptsR _ _ x.2.1 x.2.2 x.1.1) (H := fun _ => True) rfl rfl rfl (by decide) (fun w1 hs => slcCode (refl_pen _ _ _ a w1 (ptsRow (hs.all 0 _ rfl).1 rfl) ha (by omega))) ?_
      rintro ⟨⟨rA, rc⟩, rlo, rhi⟩ -
      refine at_rsE (by simp only [List.nil_append, List.cons_append, List.set_cons_zero, List.set_cons_succ, Value.cells, List.toList_toArray]; rfl) ?_
      refine at_q rfl rfl (by decide) (qt_move rfl rfl) ?_
      refine at_q rfl rfl (by decide) (qt_extract rfl rfl rfl) ?_
      refine at_q rfl rfl (by decide) (qt_extract rfl rfl rfl) ?_
      refine at_q rfl rfl (by decide) (qt_assign rfl rfl) ?_
      refine at_q rfl rfl (by decide) (qt_assign rfl rfl) ?_
      refine at_end ?_
      refine at_seq ?_
      refine at_seq ?_
      refine dg_start mixed rfl ?_
      refine dg_phase 17 ?_
      refine dg_q (i := 0) rfl (by kernel_rfl) (by kernel_rfl) (by kernel_rfl) [] (by kernel_rfl) (fun _ _ _ h => h) rfl rfl (by decide) (fun _ h => h.upto ⟨rfl, rfl, rfl, rfl, rfl, rfl, rfl, rfl, rfl, rfl, trivial⟩) (qt_move rfl rfl) ?_
      refine dg_q (i := 1) rfl (by kernel_rfl) (by kernel_rfl) (by kernel_rfl) [] (by kernel_rfl) (fun _ _ _ h => h) rfl rfl (by decide) (fun _ h => h.upto ⟨rfl, rfl, rfl, rfl, rfl, rfl, rfl, rfl, rfl, rfl, trivial⟩) (qt_neq rfl rfl rfl) ?_
      refine dg_q (i := 2) rfl (by kernel_rfl) (by kernel_rfl) (by kernel_rfl) [] (by kernel_rfl) (fun _ _ _ h => h) rfl rfl (by decide) (fun _ h => h.upto ⟨rfl, rfl, rfl, rfl, rfl, rfl, rfl, rfl, rfl, rfl, trivial⟩) (qt_move rfl rfl) ?_
      refine at_as 76 (.bool false) rfl (by rw [neSelf _]) ?_
      refine dg_qg (i := 3) rfl (by kernel_rfl) (by kernel_rfl) (by kernel_rfl) [] (by kernel_rfl) (fun _ _ _ h => h) rfl rfl rfl rfl rfl (by decide) (fun _ h => h.upto ⟨rfl, rfl, rfl, rfl, rfl, rfl, rfl, rfl, rfl, rfl, trivial⟩) (qt_move rfl rfl) ?_
      refine dg_qg (i := 4) rfl (by kernel_rfl) (by kernel_rfl) (by kernel_rfl) [] (by kernel_rfl) (fun _ _ _ h => h) rfl rfl rfl rfl rfl (by decide) (fun _ h => h.upto ⟨rfl, rfl, rfl, rfl, rfl, rfl, rfl, rfl, rfl, rfl, trivial⟩) (qt_loadS rfl rfl tys_impl_Pt rfl (rdAll (k := 3) rfl)) ?_
      refine dg_qg (i := 5) rfl (by kernel_rfl) (by kernel_rfl) (by kernel_rfl) [] (by kernel_rfl) (fun _ _ _ h => h) rfl rfl rfl rfl rfl (by decide) (fun _ h => h.upto ⟨rfl, rfl, rfl, rfl, rfl, rfl, rfl, rfl, rfl, rfl, trivial⟩) (qt_call ok_impl_PenHas rfl rfl (fun w1 hs => PenHas_any _ _ _ a p w1 (ptsRow (hs.all 0 _ rfl).1 rfl) (by omega))) ?_
      refine dg_qg (i := 6) rfl (by kernel_rfl) (by kernel_rfl) (by kernel_rfl) [] (by kernel_rfl) (fun _ _ _ h => h) rfl rfl rfl rfl rfl (by decide) (fun _ h => h.upto ⟨rfl, rfl, rfl, rfl, rfl, rfl, rfl, rfl, rfl, rfl, trivial⟩) (qt_move rfl rfl) ?_
      refine dg_qg (i := 7) rfl (by kernel_rfl) (by kernel_rfl) (by kernel_rfl) [] (by kernel_rfl) (fun _ _ _ h => h) rfl rfl rfl rfl rfl (by decide) (fun _ h => h.upto ⟨rfl, rfl, rfl, rfl, rfl, rfl, rfl, rfl, rfl, rfl, trivial⟩) (qt_fieldAddr rfl rfl tyf_impl_Pt_0) ?_
      refine dg_qg (i := 8) rfl (by kernel_rfl) (by kernel_rfl) (by kernel_rfl) [] (by kernel_rfl) (fun _ _ _ h => h) rfl rfl rfl rfl rfl (by decide) (fun _ h => h.upto ⟨rfl, rfl, rfl, rfl, rfl, rfl, rfl, rfl, rfl, rfl, trivial⟩) (qt_load1 rfl rfl ty1_int64 (rd1 (k := 3) rfl rfl)) ?_
      refine dg_qg (i := 9) rfl (by kernel_rfl) (by kernel_rfl) (by kernel_rfl) [] (by kernel_rfl) (fun _ _ _ h => h) rfl rfl rfl rfl rfl (by decide) (fun _ h => h.upto ⟨rfl, rfl, rfl, rfl, rfl, rfl, rfl, rfl, rfl, rfl, trivial⟩) (qt_neg rfl rfl (by omega) (by omega)) ?_
      refine dg_qg (i := 10) rfl (by kernel_rfl) (by kernel_rfl) (by kernel_rfl) [] (by kernel_rfl) (fun _ _ _ h => h) rfl rfl rfl rfl rfl (by decide) (fun _ h => h.upto ⟨rfl, rfl, rfl, rfl, rfl, rfl, rfl, rfl, rfl, rfl, trivial⟩) (qt_fieldAddr rfl rfl tyf_impl_Pt_1) ?_
      refine dg_qg (i := 11) rfl (by kernel_rfl) (by kernel_rfl) (by kernel_rfl) [] (by kernel_rfl) (fun _ _ _ h => h) rfl rfl rfl rfl rfl (by decide) (fun _ h => h.upto ⟨rfl, rfl, rfl, rfl, rfl, rfl, rfl, rfl, rfl, rfl, trivial⟩) (qt_load1 rfl rfl ty1_int64 (rd1 (k := 3) rfl rfl)) ?_
      refine dg_qg (i := 12) rfl (by kernel_rfl) (by kernel_rfl) (by kernel_rfl) [] (by kernel_rfl) (fun _ _ _ h => h) rfl rfl rfl rfl rfl (by decide) (fun _ h => h.upto ⟨rfl, rfl, rfl, rfl, rfl, rfl, rfl, rfl, rfl, rfl, trivial⟩) (qt_neg rfl rfl (by omega) (by omega)) ?_
      refine dg_qg (i := 13) rfl (by kernel_rfl) (by kernel_rfl) (by kernel_rfl) [] (by kernel_rfl) (fun _ _ _ h => h) rfl rfl rfl rfl rfl (by decide) (fun _ h => h.upto ⟨rfl, rfl, rfl, rfl, rfl, rfl, rfl, rfl, rfl, rfl, trivial⟩) (qt_build rfl rfl (bld_impl_Pt_0_1 rfl rfl)) ?_
      refine dg_qg (i := 14) rfl (by kernel_rfl) (by kernel_rfl) (by kernel_rfl) [] (by kernel_rfl) (fun _ _ _ h => h) rfl rfl rfl rfl rfl (by decide) (fun _ h => h.upto ⟨rfl, rfl, rfl, rfl, rfl, rfl, rfl, rfl, rfl, rfl, trivial⟩) (qt_call ok_impl_PenHas rfl rfl (fun w1 hs => has_back _ _ _ a p w1 (ptsPts (k := 9) rfl w1 hs) ha hp (by omega))) ?_
      refine dg_qg (i := 15) rfl (by kernel_rfl) (by kernel_rfl) (by kernel_rfl) [] (by kernel_rfl) (fun _ _ _ h => h) rfl rfl rfl rfl rfl (by decide) (fun _ h => h.upto ⟨rfl, rfl, rfl, rfl, rfl, rfl, rfl, rfl, rfl, rfl, trivial⟩) (qt_neqB tyb_bool rfl rfl rfl) ?_
      refine dg_q (i := 16) rfl (by kernel_rfl) (by kernel_rfl) (by kernel_rfl) [] (by kernel_rfl) (fun _ _ _ h => h) rfl rfl (by decide) (fun _ h => h.upto ⟨rfl, rfl, rfl, rfl, rfl, rfl, rfl, rfl, rfl, rfl, trivial⟩) (qt_pickF rfl rfl rfl) ?_
      refine dg_done (by kernel_rfl) ?_
      refine norm_then ?_
      refine at_no rfl (neSelfB _) ?_
      refine at_skip ?_
      refine norm_then ?_
      refine at_seq ?_
      refine at_region ?_
      refine at_q rfl rfl (by decide) (qt_move rfl rfl) ?_
      refine at_q rfl rfl (by decide) (qt_loadS rfl rfl tys_impl_Pt rfl (rdAll (k := 4) rfl)) ?_
      refine at_q rfl rfl (by decide) (qt_call ok_impl_ExtentOf rfl rfl (fun w1 hs => ExtentOf_any _ _ _ a q w1 (ptsRow (hs.all 0 _ rfl).1 rfl) (by omega))) ?_
      refine at_q rfl rfl (by decide) (qt_move rfl rfl) ?_
      refine at_q rfl rfl (by decide) (qt_extract rfl rfl rfl) ?_
      refine at_q rfl rfl (by decide) (qt_extract rfl rfl rfl) ?_
      refine at_q rfl rfl (by decide) (qt_assign rfl rfl) ?_
      refine at_q rfl rfl (by decide) (qt_assign rfl rfl) ?_
      refine at_end ?_
      refine at_seq ?_
      refine at_region ?_
      refine at_q rfl rfl (by decide) (qt_move rfl rfl) ?_
      refine at_q rfl rfl (by decide) (qt_loadS rfl rfl tys_impl_Pt rfl (rdAll (k := 4) rfl)) ?_
      refine at_q rfl rfl (by decide) (qt_call ok_impl_ExtentOf rfl rfl (fun w1 hs => ext_two _ _ _ a b q w1 (ptsRow (hs.all 1 _ rfl).1 rfl) ha hb hq (by omega))) ?_
      refine at_q rfl rfl (by decide) (qt_move rfl rfl) ?_
      refine at_q rfl rfl (by decide) (qt_extract rfl rfl rfl) ?_
      refine at_q rfl rfl (by decide) (qt_extract rfl rfl rfl) ?_
      refine at_q rfl rfl (by decide) (qt_assign rfl rfl) ?_
      refine at_q rfl rfl (by decide) (qt_assign rfl rfl) ?_
      refine at_end ?_
      refine at_seq ?_
      refine at_seq ?_
      refine at_region ?_
      refine at_q rfl rfl (by decide) (qt_move rfl rfl) ?_
      refine at_q rfl rfl (by decide) (qt_neq rfl rfl rfl) ?_
      refine at_q rfl rfl (by decide) (qt_move rfl rfl) ?_
      refine at_bsplit 105 rfl (fun g1 => ?_) (fun g1 => ?_)
      · try simp only [decide_eq_true_eq, decide_eq_false_iff_not, beq_iff_eq, beq_eq_false_iff_ne, Bool.not_eq_true', Bool.not_eq_false', Bool.not_true, Bool.not_false, Int.not_lt, Int.not_le, ne_eq, Nat.not_lt, Nat.not_le] at g1
        obtain ⟨h6, hd0⟩ := spC_six ha hq (by simpa using g1)
        refine at_off rfl rfl rfl rfl (by decide) rfl (by decide) ?_
        refine at_off rfl rfl rfl rfl (by decide) rfl (by decide) ?_
        refine at_q rfl rfl (by decide) (qt_pickT rfl rfl rfl) ?_
        refine at_end ?_
        refine at_yes rfl rfl ?_
        refine at_seq ?_
        refine at_region ?_
        refine at_q rfl rfl (by decide) (qt_move rfl rfl) ?_
        refine at_q rfl rfl (by decide) (qt_eql rfl rfl rfl) ?_
        refine at_q rfl rfl (by decide) (qt_move rfl rfl) ?_
        refine at_as 111 (.bool true) rfl (by rw [(show (spC a q == 6) = true by rw [h6]; rfl)]) ?_
        refine at_on rfl rfl rfl rfl ?_
        refine op_q rfl (by decide) (qt_move rfl rfl) ?_
        refine at_on rfl rfl rfl rfl ?_
        refine op_q rfl (by decide) (qt_eql rfl rfl rfl) ?_
        refine at_q rfl rfl (by decide) (qt_pickT rfl rfl rfl) ?_
        refine at_q rfl rfl (by decide) (qt_move rfl rfl) ?_
        refine at_as 115 (.bool true) rfl (by rw [(show (spC a q == 6) = true by rw [h6]; rfl)]) ?_
        refine at_on rfl rfl rfl rfl ?_
        refine op_q rfl (by decide) (qt_loadS rfl rfl tys_impl_Pt rfl (rdAll (k := 4) rfl)) ?_
        refine at_on rfl rfl rfl rfl ?_
        refine op_q rfl (by decide) (qt_build rfl rfl (bld_impl_Pt_)) ?_
        refine at_on rfl rfl rfl rfl ?_
        refine op_q rfl (by decide) (qt_eqlS_impl_Pt rfl rfl rfl) ?_
        refine at_q rfl rfl (by decide) (qt_pickT rfl rfl rfl) ?_
        refine at_q rfl rfl (by decide) (qt_assign rfl rfl) ?_
        refine at_end ?_
        refine at_retc ?_
        refine then_ret ?_
        refine at_ret1 rfl (.tmp rfl) ?_
        intro w' hs
        exact ⟨retB (by rw [hd0]; rfl), hs.fin⟩
      · try simp only [decide_eq_true_eq, decide_eq_false_iff_not, beq_iff_eq, beq_eq_false_iff_ne, Bool.not_eq_true', Bool.not_eq_false', Bool.not_true, Bool.not_false, Int.not_lt, Int.not_le, ne_eq, Nat.not_lt, Nat.not_le] at g1
        have hc0 : spC a q = 0 := by simpa using g1
        have e1 := exV_bd hc0
        have e2 := exV_bd (a := b) (d := q) (by rw [spC_two ha hb hq]; exact hc0)
        refine at_on rfl rfl rfl rfl ?_
        refine op_q rfl (by decide) (qt_move rfl rfl) ?_
        refine at_on rfl rfl rfl rfl ?_
        refine op_q rfl (by decide) (qt_neq rfl rfl rfl) ?_
        refine at_q rfl rfl (by decide) (qt_pickF rfl rfl rfl) ?_
        refine at_end ?_
        refine at_no rfl ((show (!(spC a q == 0)) = false by rw [hc0]; rfl)) ?_
        refine at_skip ?_
        refine norm_then ?_
        refine at_seq ?_
        refine at_region ?_
        refine at_q rfl rfl (by decide) (qt_move rfl rfl) ?_
        refine at_q rfl rfl (by decide) (qt_loadS rfl rfl tys_impl_Pt rfl (rdAll (k := 4) rfl)) ?_
        refine at_q rfl rfl (by decide) (qt_call ok_impl_ExtentOf rfl rfl (fun w1 hs => ext_back _ _ _ a q w1 (ptsPts (k := 9) rfl w1 hs) ha hq hc0 (by omega))) ?_
        refine at_q rfl rfl (by decide) (qt_move rfl rfl) ?_
        refine at_q rfl rfl (by decide) (qt_extract rfl rfl rfl) ?_
        refine at_q rfl rfl (by decide) (qt_extract rfl rfl rfl) ?_
        refine at_q rfl rfl (by decide) (qt_assign rfl rfl) ?_
        refine at_q rfl rfl (by decide) (qt_assign rfl rfl) ?_
        refine at_end ?_
        refine at_seq ?_
        refine at_seq ?_
        refine at_region ?_
        refine at_q rfl rfl (by decide) (qt_move rfl rfl) ?_
        refine at_q rfl rfl (by decide) (qt_neq rfl rfl rfl) ?_
        refine at_q rfl rfl (by decide) (qt_move rfl rfl) ?_
        refine at_as 128 (.bool false) rfl (by rw [neSelf _]) ?_
        refine at_on rfl rfl rfl rfl ?_
        refine op_q rfl (by decide) (qt_move rfl rfl) ?_
        refine at_on rfl rfl rfl rfl ?_
        refine op_q rfl (by decide) (qt_move rfl rfl) ?_
        refine at_on rfl rfl rfl rfl ?_
        refine op_q rfl (by decide) (qt_neq rfl rfl rfl) ?_
        refine at_q rfl rfl (by decide) (qt_pickF rfl rfl rfl) ?_
        refine at_end ?_
        refine at_no rfl (neSelf _) ?_
        refine at_skip ?_
        refine norm_then ?_
        refine at_seq ?_
        refine at_seq ?_
        refine at_region ?_
        refine at_q rfl rfl (by decide) (qt_move rfl rfl) ?_
        refine at_q rfl rfl (by decide) (qt_call ok_spec_IsPen rfl rfl (fun w1 hs => specIsPen_any _ _ _ (mkR a b) w1 (ptsPts (k := 7) rfl w1 hs) (by omega))) ?_
        refine at_q rfl rfl (by decide) (qt_not rfl rfl) ?_
        refine at_end ?_
        refine at_cond rfl (fun c3 => ?_) (fun c3 => ?_)
        · try simp only [decide_eq_true_eq, decide_eq_false_iff_not, beq_iff_eq, beq_eq_false_iff_ne, Bool.not_eq_true', Bool.not_eq_false', Bool.not_true, Bool.not_false, Int.not_lt, Int.not_le, ne_eq, Nat.not_lt, Nat.not_le] at c3
          have hpn : penB (hullP (smsP a b)) = false := by rw [← hR]; simpa using c3
          have h16 := sum_pen ha hb hok hpn
          refine at_seq ?_
          refine at_region ?_
          refine at_q rfl rfl (by decide) (qt_move rfl rfl) ?_
          refine at_q rfl rfl (by decide) (qt_len rfl rfl tyl_sl_impl_Pt) ?_
          refine at_q rfl rfl (by decide) (qt_gtr rfl rfl rfl) ?_
          refine at_q rfl rfl (by decide) (qt_assign rfl rfl) ?_
          refine at_end ?_
          refine at_retc ?_
          refine then_ret ?_
          refine at_ret1 rfl (.tmp rfl) ?_
          intro w' hs
          exact ⟨retB (decide_eq_true (by rw [hR]; omega)), hs.fin⟩
        · try simp only [decide_eq_true_eq, decide_eq_false_iff_not, beq_iff_eq, beq_eq_false_iff_ne, Bool.not_eq_true', Bool.not_eq_false', Bool.not_true, Bool.not_false, Int.not_lt, Int.not_le, ne_eq, Nat.not_lt, Nat.not_le] at c3
          have hps : penB (hullP (smsP a b)) = true := by rw [← hR]; simpa using c3
          refine at_skip ?_
          refine norm_then ?_
          refine at_seq ?_
          refine at_region ?_
          refine at_q rfl rfl (by decide) (qt_move rfl rfl) ?_
          refine at_q rfl rfl (by decide) (qt_loadS rfl rfl tys_impl_Pt rfl (rdAll (k := 4) rfl)) ?_
          refine at_q rfl rfl (by decide) (qt_call ok_impl_ExtentOf rfl rfl (fun w1 hs => ext_sum _ _ _ a b q w1 (hR ▸ ptsPts (k := 7) rfl w1 hs) ha hb hps hq hc0 (by omega))) ?_
          refine at_q rfl rfl (by decide) (qt_move rfl rfl) ?_
          refine at_q rfl rfl (by decide) (qt_extract rfl rfl rfl) ?_
          refine at_q rfl rfl (by decide) (qt_extract rfl rfl rfl) ?_
          refine at_q rfl rfl (by decide) (qt_assign rfl rfl) ?_
          refine at_q rfl rfl (by decide) (qt_assign rfl rfl) ?_
          refine at_end ?_
          refine at_seq ?_
          refine at_region ?_
          refine at_q rfl rfl (by decide) (qt_move rfl rfl) ?_
          refine at_q rfl rfl (by decide) (qt_eql rfl rfl rfl) ?_
          refine at_q rfl rfl (by decide) (qt_move rfl rfl) ?_
          refine at_as 147 (.bool true) rfl (by rw [(eqSelfI _)]) ?_
          refine at_on rfl rfl rfl rfl ?_
          refine op_q rfl (by decide) (qt_move rfl rfl) ?_
          refine at_on rfl rfl rfl rfl ?_
          refine op_q rfl (by decide) (qt_move rfl rfl) ?_
          refine at_on rfl rfl rfl rfl ?_
          refine op_q rfl (by decide) (qt_move rfl rfl) ?_
          refine at_on rfl rfl rfl rfl ?_
          refine op_q rfl (by decide) (qt_add rfl rfl rfl (by omega) (by omega)) ?_
          refine at_on rfl rfl rfl rfl ?_
          refine op_q rfl (by decide) (qt_eql rfl rfl rfl) ?_
          refine at_q rfl rfl (by decide) (qt_pickT rfl rfl rfl) ?_
          refine at_q rfl rfl (by decide) (qt_assign rfl rfl) ?_
          refine at_end ?_
          refine at_retc ?_
          refine at_ret1 rfl (.tmp rfl) ?_
          intro w' hs
          exact ⟨retB (eqSelfI _), hs.fin⟩
end Go.Proofs.Ytcplmmoeglembaa
