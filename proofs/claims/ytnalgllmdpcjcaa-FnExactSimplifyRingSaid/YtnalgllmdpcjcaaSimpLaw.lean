/- The law SimplifyRing, walked. -/
import Derived.Test.YtnalgllmdpcjcaaSimp3
import Derived.Test.YtnalgllmdpcjcaaLawKit
namespace Go.Proofs.Ytnalgllmdpcjcaa
open Go Go.RowKit
set_option linter.unusedVariables false
set_option linter.unusedSimpArgs false
set_option maxRecDepth 100000
set_option maxHeartbeats 4000000
set_option linter.unusedVariables false

/-! ### Rings as what a call has made -/
/-- Points of the call's own. -/
theorem ptsNew {P : Program} {f : FuncId} {args : Array Value} {w1 : World} {n : Nat} {xs : List (Int × Int)} {V : Option Addr → Nat → Value} (h : Calls P f args w1 fun e w' => ∃ A c, e = .returned (V A c) ∧ OwnP w1.heap.size w'.heap.size w' A n xs ∧ Over w1 w') :
    Calls P f args w1 fun e w' => ∃ x : (Option Addr × Nat) × Nat × Nat, e = .returned (V x.1.1 x.1.2) ∧ Over w1 w' ∧ (ptsR n xs x.2.1 x.2.2 x.1.1).P w' ∧ (∀ b, (ptsR n xs x.2.1 x.2.2 x.1.1).F b → w1.heap.size ≤ b) ∧ (ptsR n xs x.2.1 x.2.2 x.1.1).B = 0 ∧ True := by
  refine h.mono ?_
  rintro e w' ⟨A, c, rfl, ho, hO⟩
  exact ⟨((A, c), w1.heap.size, w'.heap.size), rfl, hO, ptsP ho (Nat.le_refl _), fun b hb => hb.1, rfl, trivial⟩
theorem ptsCode {P : Program} {f : FuncId} {args : Array Value} {w1 : World} {xs : List (Int × Int)} {code : Int} (h : Calls P f args w1 fun e w' => ∃ A' c', e = .returned (.tuple #[ringV A' xs.length c', .int .i64 code]) ∧ OwnP w1.heap.size w'.heap.size w' A' xs.length xs ∧ Over w1 w') :
    Calls P f args w1 fun e w' => ∃ x : (Option Addr × Nat) × Nat × Nat, e = .returned (.tuple #[ringV x.1.1 xs.length x.1.2, .int .i64 code]) ∧ Over w1 w' ∧ (ptsR xs.length xs x.2.1 x.2.2 x.1.1).P w' ∧ (∀ b, (ptsR xs.length xs x.2.1 x.2.2 x.1.1).F b → w1.heap.size ≤ b) ∧ (ptsR xs.length xs x.2.1 x.2.2 x.1.1).B = 0 ∧ True :=
  ptsNew (V := fun A c => .tuple #[ringV A xs.length c, .int .i64 code]) h
/-- A ring that the laws have copied. -/
theorem ptsRing (A : Option Addr) (n c : Nat) (xs : List (Int × Int)) (w1 : World) (h : Pts w1 A n xs) (hn : (n : Int) ≤ 1048576) :
    Calls Try.prog 20 #[ringV A n c] w1 fun e w' => ∃ x : Nat × Nat × Nat, e = .returned (ringV (some ⟨x.1, 0, none⟩) n n) ∧ Over w1 w' ∧ (ptsR n xs x.2.1 x.2.2 (some ⟨x.1, 0, none⟩)).P w' ∧ (∀ b, (ptsR n xs x.2.1 x.2.2 (some ⟨x.1, 0, none⟩)).F b → w1.heap.size ≤ b) ∧ (ptsR n xs x.2.1 x.2.2 (some ⟨x.1, 0, none⟩)).B = 0 ∧ True := by
  have hl : xs.length = n := h.1
  subst hl
  exact newPc rfl (toRing_any A _ c xs w1 h hn)
theorem markPts {lo hi n c : Nat} {A : Option Addr} {xs : List (Int × Int)} {w : World} (h : OwnP lo hi w A n xs) (hz : hi ≤ w.heap.size) (hb : 1 + 2 * (n : Int) ≤ 4611686018427387904) :
    Calls Try.prog 23 #[ringV A n c, .int .i64 1] w fun e w' => e = .returned (.int .i64 (1 + 2 * (n : Int))) ∧ Wrs (ptsR n xs lo hi A).F w w' ∧ (ptsR n (marks 1 n) lo hi A).P w' :=
  (markRing_any lo hi A n c xs 1 w h hz (by omega) hb).mono (by rintro e w' ⟨he, hw, hg⟩; exact ⟨he, hw, ptsP hg (Nat.le_trans hz hw.size)⟩)
theorem heldPts {n c : Nat} {A : Option Addr} {w : World} (h : Pts w A n (marks 1 n)) (hb : 1 + 2 * (n : Int) ≤ 4611686018427387904) :
    Calls Try.prog 24 #[ringV A n c, .int .i64 1] w fun e w' => e = .returned (.int .i64 (1 + 2 * (n : Int))) ∧ Over w w' := heldRing_any A n c 1 w h (by omega) hb
theorem eqPts {n c n' c' : Nat} {A A' : Option Addr} {xs : List (Int × Int)} {w : World} (h : Pts w A n xs) (h' : Pts w A' n' xs) (hn : (n : Int) ≤ 1048576) :
    Calls Try.prog 22 #[ringV A n c, ringV A' n' c'] w fun e w' => e = .returned (.bool true) ∧ Over w w' := by
  have h1 := h.1
  have h2 := h'.1
  obtain rfl : n' = n := by omega
  exact eqRing_same A A' _ c c' xs w h h' hn

theorem simple_len (n : Nat) : ∀ xs : List (Int × Int), xs.length ≤ n → (simple xs).length ≤ xs.length := by
  induction n with
  | zero =>
    intro xs h
    have : idle xs = none := idle_none fun j hj => absurd hj (by omega)
    rw [simple_none this]
    exact Nat.le_refl _
  | succ n ih =>
    intro xs h
    cases hi : idle xs with
    | none => rw [simple_none hi]; exact Nat.le_refl _
    | some k =>
      have hk := idle_lt hi
      have he := erase_len hk
      rw [simple_some hi]
      have := ih (xs.eraseIdx k) (by omega)
      omega
theorem smR_len (xs : List (Int × Int)) : (smR xs).length ≤ 500 := by
  unfold smR
  split
  · rename_i h
    have := pos_of_ring h
    have := simple_len _ xs (Nat.le_refl _)
    omega
  · simp
theorem law_SimplifyRing (A : Option Addr) (n c : Nat) (xs : List (Int × Int)) (w : World) (h : Pts w A n xs) (hm : (n : Int) ≤ 9223372036854775807) :
    Calls Try.prog 4 #[ringV A n c] w fun e w' => e = .returned (.bool true) ∧ Over w w' := by
  have hl := h.1
  have hz : (n : Int) ≤ 1048576 → szV 1048576 n = 1048576 - n := szV_small
  have hz2 : ¬ (n : Int) ≤ 1048576 → szV 1048576 n = -1 := szV_big
  have hsm := smR_len xs
  refine walk_from (m := 96) (Try.func4) rfl rfl (Nat.le_of_ble_eq_true rfl) ?_
  refine at_seq ?_
  refine at_region ?_
  refine at_op rfl ?_
  refine op_box rfl rfl (rfl) rfl (by decide) (fun b1 => ?_)
  refine at_rsE (by simp only [List.nil_append, List.cons_append, List.set_cons_zero, List.set_cons_succ, Value.cells, List.toList_toArray]; rfl) ?_
  refine at_q rfl rfl (by decide) (qt_assign rfl rfl) ?_
  refine at_end ?_
  refine at_seq ?_
  refine at_region ?_
  refine at_q rfl rfl (by decide) (qt_assign rfl rfl) ?_
  refine at_end ?_
  refine at_seq ?_
  refine at_region ?_
  refine at_q rfl rfl (by decide) (qt_loadS rfl rfl tys_laws_Ring rfl (rdAll (k := 0) rfl)) ?_
  refine at_q rfl rfl (by decide) (qt_move rfl rfl) ?_
  refine at_q rfl rfl (by decide) (qt_call ok_laws_szRing rfl rfl (fun w1 hs => szRing_any A n c 1048576 w1 (by omega) (by omega) hm)) ?_
  refine at_q rfl rfl (by decide) (qt_assign rfl rfl) ?_
  refine at_end ?_
  refine at_seq ?_
  refine at_seq ?_
  refine at_region ?_
  refine at_q rfl rfl (by decide) (qt_move rfl rfl) ?_
  refine at_q rfl rfl (by decide) (qt_lss rfl rfl rfl) ?_
  refine at_end ?_
  refine at_cond rfl (fun c1 => ?_) (fun c1 => ?_)
  · try simp only [decide_eq_true_eq, decide_eq_false_iff_not, beq_iff_eq, beq_eq_false_iff_ne, Bool.not_eq_true', Bool.not_eq_false', Bool.not_true, Bool.not_false, Int.not_lt, Int.not_le, ne_eq, Nat.not_lt, Nat.not_le] at c1
    refine at_seq ?_
    refine at_region ?_
    refine at_q rfl rfl (by decide) (qt_assign rfl rfl) ?_
    refine at_end ?_
    refine at_retc ?_
    refine then_ret ?_
    refine at_ret1 rfl (.tmp rfl) ?_
    intro w' hs
    exact ⟨rfl, hs.fin⟩
  · try simp only [decide_eq_true_eq, decide_eq_false_iff_not, beq_iff_eq, beq_eq_false_iff_ne, Bool.not_eq_true', Bool.not_eq_false', Bool.not_true, Bool.not_false, Int.not_lt, Int.not_le, ne_eq, Nat.not_lt, Nat.not_le] at c1
    have ht : (n : Int) ≤ 1048576 := Decidable.byContradiction fun ht => by have := hz2 ht; omega
    clear hz hz2 hm
    refine at_skip ?_
    refine norm_then ?_
    refine at_seq ?_
    refine at_region ?_
    refine at_q rfl rfl (by decide) (qt_loadS rfl rfl tys_laws_Ring rfl (rdAll (k := 0) rfl)) ?_
    refine at_op rfl ?_
    refine op_call ok_laws_toRing (X := Nat × Nat × Nat) (v := fun x => ringV (some ⟨x.1, 0, none⟩) n n) (r := fun x => ptsR n xs x.2.1 x.2.2 (some ⟨x.1, 0, none⟩)) (H := fun _ => True) rfl rfl rfl (by decide) (fun w1 hs => ptsRing A n c xs w1 (h.over hs.fin) ht) ?_
    rintro ⟨tg, tlo, thi⟩ -
    refine at_rsE (by simp only [List.nil_append, List.cons_append, List.set_cons_zero, List.set_cons_succ, Value.cells, List.toList_toArray]; rfl) ?_
    refine at_op rfl ?_
    refine op_call ok_spec_SimplifyRing (X := (Option Addr × Nat) × Nat × Nat) (v := fun x => .tuple #[ringV x.1.1 _ x.1.2, .int .i64 _]) (r := fun x => ptsR _ _ x.2.1 x.2.2 x.1.1) (H := fun _ => True) rfl rfl rfl (by decide) (fun w1 hs => ptsCode (specSimplifyRing_any _ n n xs w1 (ptsPts (k := 1) rfl w1 hs) (Int.le_trans ht (by decide)))) ?_
    rintro ⟨⟨wA, wc⟩, wlo, whi⟩ -
    refine at_rsE (by simp only [List.nil_append, List.cons_append, List.set_cons_zero, List.set_cons_succ, Value.cells, List.toList_toArray]; rfl) ?_
    refine at_q rfl rfl (by decide) (qt_move rfl rfl) ?_
    refine at_q rfl rfl (by decide) (qt_extract rfl rfl rfl) ?_
    refine at_q rfl rfl (by decide) (qt_extract rfl rfl rfl) ?_
    refine at_op rfl ?_
    refine op_alloc rfl tyz_impl_Ring rfl (by decide) (fun b2 => ?_)
    refine at_rsE (by simp only [List.nil_append, List.cons_append, List.set_cons_zero, List.set_cons_succ, Value.cells, List.toList_toArray]; rfl) ?_
    refine at_op rfl ?_
    refine op_storeAll' (k := 3) rfl rfl rfl rfl (rfl) (by rfl) tyz_impl_Ring.szx rfl rfl rfl ?_
    refine at_rsE (by simp only [List.nil_append, List.cons_append, List.set_cons_zero, List.set_cons_succ, Value.cells, List.toList_toArray]; rfl) ?_
    refine at_q rfl rfl (by decide) (qt_assign rfl rfl) ?_
    refine at_end ?_
    refine at_seq ?_
    refine at_region ?_
    refine at_q rfl rfl (by decide) (qt_loadS rfl rfl tys_laws_Ring rfl (rdAll (k := 0) rfl)) ?_
    refine at_op rfl ?_
    refine op_call ok_laws_toRing (X := Nat × Nat × Nat) (v := fun x => ringV (some ⟨x.1, 0, none⟩) n n) (r := fun x => ptsR n xs x.2.1 x.2.2 (some ⟨x.1, 0, none⟩)) (H := fun _ => True) rfl rfl rfl (by decide) (fun w1 hs => ptsRing A n c xs w1 (h.over hs.fin) ht) ?_
    rintro ⟨tg, tlo, thi⟩ -
    refine at_rsE (by simp only [List.nil_append, List.cons_append, List.set_cons_zero, List.set_cons_succ, Value.cells, List.toList_toArray]; rfl) ?_
    refine at_op rfl ?_
    refine op_alloc rfl tyz_impl_Ring rfl (by decide) (fun b3 => ?_)
    refine at_rsE (by simp only [List.nil_append, List.cons_append, List.set_cons_zero, List.set_cons_succ, Value.cells, List.toList_toArray]; rfl) ?_
    refine at_op rfl ?_
    refine op_storeAll' (k := 5) rfl rfl rfl rfl (rfl) (by rfl) tyz_impl_Ring.szx rfl rfl rfl ?_
    refine at_rsE (by simp only [List.nil_append, List.cons_append, List.set_cons_zero, List.set_cons_succ, Value.cells, List.toList_toArray]; rfl) ?_
    refine at_end ?_
    refine at_seq ?_
    refine at_region ?_
    refine at_q rfl rfl (by decide) (qt_loadS rfl rfl tys_impl_Ring rfl (rdAll (k := 5) rfl)) ?_
    refine at_op rfl ?_
    refine op_call ok_impl_SimplifyRing (X := (Option Addr × Nat) × Nat × Nat) (v := fun x => .tuple #[ringV x.1.1 _ x.1.2, .int .i64 _]) (r := fun x => ptsR _ _ x.2.1 x.2.2 x.1.1) (H := fun _ => True) rfl rfl rfl (by decide) (fun w1 hs => ptsCode (SimplifyRing_any _ n n xs w1 (ptsPts (k := 4) rfl w1 hs) (Int.le_trans ht (by decide)))) ?_
    rintro ⟨⟨gA, gc⟩, glo, ghi⟩ -
    refine at_rsE (by simp only [List.nil_append, List.cons_append, List.set_cons_zero, List.set_cons_succ, Value.cells, List.toList_toArray]; rfl) ?_
    refine at_q rfl rfl (by decide) (qt_move rfl rfl) ?_
    refine at_q rfl rfl (by decide) (qt_extract rfl rfl rfl) ?_
    refine at_q rfl rfl (by decide) (qt_extract rfl rfl rfl) ?_
    refine at_op rfl ?_
    refine op_alloc rfl tyz_impl_Ring rfl (by decide) (fun b4 => ?_)
    refine at_rsE (by simp only [List.nil_append, List.cons_append, List.set_cons_zero, List.set_cons_succ, Value.cells, List.toList_toArray]; rfl) ?_
    refine at_op rfl ?_
    refine op_storeAll' (k := 7) rfl rfl rfl rfl (rfl) (by rfl) tyz_impl_Ring.szx rfl rfl rfl ?_
    refine at_rsE (by simp only [List.nil_append, List.cons_append, List.set_cons_zero, List.set_cons_succ, Value.cells, List.toList_toArray]; rfl) ?_
    refine at_q rfl rfl (by decide) (qt_assign rfl rfl) ?_
    refine at_end ?_
    refine at_seq ?_
    refine at_seq ?_
    refine at_region ?_
    refine at_q rfl rfl (by decide) (qt_loadS rfl rfl tys_impl_Ring rfl (rdAll (k := 7) rfl)) ?_
    refine at_q rfl rfl (by decide) (qt_loadS rfl rfl tys_impl_Ring rfl (rdAll (k := 3) rfl)) ?_
    refine at_q rfl rfl (by decide) (qt_call ok_laws_eqRing rfl rfl (fun w1 hs => eqPts (ptsPts (k := 6) rfl w1 hs) (ptsPts (k := 2) rfl w1 hs) (by omega))) ?_
    refine at_q rfl rfl (by decide) (qt_not rfl rfl) ?_
    refine at_q rfl rfl (by decide) (qt_move rfl rfl) ?_
    refine at_as 36 (.bool false) rfl (by rw [notTrue]) ?_
    refine at_on rfl rfl rfl rfl ?_
    refine op_q rfl (by decide) (qt_move rfl rfl) ?_
    refine at_on rfl rfl rfl rfl ?_
    refine op_q rfl (by decide) (qt_move rfl rfl) ?_
    refine at_on rfl rfl rfl rfl ?_
    refine op_q rfl (by decide) (qt_neq rfl rfl rfl) ?_
    refine at_q rfl rfl (by decide) (qt_pickF rfl rfl rfl) ?_
    refine at_end ?_
    refine at_no rfl (neSelf _) ?_
    refine at_skip ?_
    refine norm_then ?_
    refine at_seq ?_
    refine at_seq ?_
    refine dg_start mixed rfl ?_
    refine dg_phase 5 ?_
    refine dg_q (i := 0) rfl (by kernel_rfl) (by kernel_rfl) (by kernel_rfl) [] (by kernel_rfl) (fun _ _ _ h => h) rfl rfl (by decide) (fun _ h => h.upto ⟨rfl, rfl, rfl, rfl, rfl, rfl, rfl, rfl, trivial⟩) (qt_loadS rfl rfl tys_impl_Ring rfl (rdAll (k := 5) rfl)) ?_
    refine dg_q (i := 1) rfl (by kernel_rfl) (by kernel_rfl) (by kernel_rfl) [] (by kernel_rfl) (fun _ _ _ h => h) rfl rfl (by decide) (fun _ h => h.upto ⟨rfl, rfl, rfl, rfl, rfl, rfl, rfl, rfl, trivial⟩) (qt_loadS rfl rfl tys_laws_Ring rfl (rdAll (k := 0) rfl)) ?_
    refine dg_one (i := 2) rfl (by decide) (by kernel_rfl) rfl ?_
    refine op_call ok_laws_toRing (X := Nat × Nat × Nat) (v := fun x => ringV (some ⟨x.1, 0, none⟩) n n) (r := fun x => ptsR n xs x.2.1 x.2.2 (some ⟨x.1, 0, none⟩)) (H := fun _ => True) rfl rfl rfl (by decide) (fun w1 hs => ptsRing A n c xs w1 (h.over hs.fin) ht) ?_
    rintro ⟨tg, tlo, thi⟩ -
    refine at_rsE (by simp only [List.nil_append, List.cons_append, List.set_cons_zero, List.set_cons_succ, Value.cells, List.toList_toArray]; rfl) ?_
    refine dr_more (fun _ h => h.upto ⟨rfl, rfl, rfl, rfl, rfl, rfl, rfl, rfl, trivial⟩) ?_
    refine dg_q (i := 3) rfl (by kernel_rfl) (by kernel_rfl) (by kernel_rfl) [] (by kernel_rfl) (fun _ _ _ h => h) rfl rfl (by decide) (fun _ h => h.upto ⟨rfl, rfl, rfl, rfl, rfl, rfl, rfl, rfl, rfl, trivial⟩) (qt_call ok_laws_eqRing rfl rfl (fun w1 hs => eqPts (ptsPts (k := 4) rfl w1 hs) (ptsPts (k := 8) rfl w1 hs) ht)) ?_
    refine dg_q (i := 4) rfl (by kernel_rfl) (by kernel_rfl) (by kernel_rfl) [] (by kernel_rfl) (fun _ _ _ h => h) rfl rfl (by decide) (fun _ h => h.upto ⟨rfl, rfl, rfl, rfl, rfl, rfl, rfl, rfl, rfl, trivial⟩) (qt_not rfl rfl) ?_
    refine dg_done (by kernel_rfl) ?_
    refine norm_then ?_
    refine at_no rfl (rfl) ?_
    refine at_skip ?_
    refine norm_then ?_
    refine at_seq ?_
    refine at_region ?_
    refine at_q rfl rfl (by decide) (qt_assign rfl rfl) ?_
    refine at_end ?_
    refine at_seq ?_
    refine at_region ?_
    refine at_q rfl rfl (by decide) (qt_loadS rfl rfl tys_impl_Ring rfl (rdAll (k := 5) rfl)) ?_
    refine at_q rfl rfl (by decide) (qt_move rfl rfl) ?_
    refine at_op rfl ?_
    refine op_callw (k := 4) (r' := ptsR n (marks 1 n) _ _ _) ok_laws_markRing rfl rfl rfl (by decide) rfl (fun w1 hs => markPts (ptsS (k := 4) rfl w1 hs) (ptsH (k := 4) rfl w1 hs) (by omega)) (fun _ h => h) rfl ?_
    refine at_rsE (by simp only [List.nil_append, List.cons_append, List.set_cons_zero, List.set_cons_succ, Value.cells, List.toList_toArray]; rfl) ?_
    refine at_q rfl rfl (by decide) (qt_assign rfl rfl) ?_
    refine at_end ?_
    refine at_seq ?_
    refine at_seq ?_
    refine at_region ?_
    refine at_q rfl rfl (by decide) (qt_move rfl rfl) ?_
    refine at_q rfl rfl (by decide) (qt_lss rfl rfl rfl) ?_
    refine at_q rfl rfl (by decide) (qt_move rfl rfl) ?_
    refine at_as 51 (.bool false) rfl (by rw [(posF _)]) ?_
    refine at_on rfl rfl rfl rfl ?_
    refine op_q rfl (by decide) (qt_loadS rfl rfl tys_impl_Ring rfl (rdAll (k := 7) rfl)) ?_
    refine at_on rfl rfl rfl rfl ?_
    refine op_q rfl (by decide) (qt_loadS rfl rfl tys_impl_Ring rfl (rdAll (k := 3) rfl)) ?_
    refine at_on rfl rfl rfl rfl ?_
    refine op_q rfl (by decide) (qt_call ok_laws_eqRing rfl rfl (fun w1 hs => eqPts (ptsPts (k := 6) rfl w1 hs) (ptsPts (k := 2) rfl w1 hs) (by omega))) ?_
    refine at_on rfl rfl rfl rfl ?_
    refine op_q rfl (by decide) (qt_not rfl rfl) ?_
    refine at_q rfl rfl (by decide) (qt_pickF rfl rfl rfl) ?_
    refine at_q rfl rfl (by decide) (qt_move rfl rfl) ?_
    refine at_as 57 (.bool false) rfl (by rw [notTrue]) ?_
    refine at_on rfl rfl rfl rfl ?_
    refine op_q rfl (by decide) (qt_move rfl rfl) ?_
    refine at_on rfl rfl rfl rfl ?_
    refine op_q rfl (by decide) (qt_move rfl rfl) ?_
    refine at_on rfl rfl rfl rfl ?_
    refine op_q rfl (by decide) (qt_neq rfl rfl rfl) ?_
    refine at_q rfl rfl (by decide) (qt_pickF rfl rfl rfl) ?_
    refine at_end ?_
    refine at_no rfl (neSelf _) ?_
    refine at_skip ?_
    refine norm_then ?_
    refine at_seq ?_
    refine at_region ?_
    refine at_q rfl rfl (by decide) (qt_assign rfl rfl) ?_
    refine at_end ?_
    refine at_seq ?_
    refine at_region ?_
    refine at_q rfl rfl (by decide) (qt_loadS rfl rfl tys_impl_Ring rfl (rdAll (k := 7) rfl)) ?_
    refine at_q rfl rfl (by decide) (qt_move rfl rfl) ?_
    refine at_op rfl ?_
    refine op_callw (k := 6) (r' := ptsR _ (marks 1 _) _ _ _) ok_laws_markRing rfl rfl rfl (by decide) rfl (fun w1 hs => markPts (ptsS (k := 6) rfl w1 hs) (ptsH (k := 6) rfl w1 hs) (by omega)) (fun _ h => h) rfl ?_
    refine at_rsE (by simp only [List.nil_append, List.cons_append, List.set_cons_zero, List.set_cons_succ, Value.cells, List.toList_toArray]; rfl) ?_
    refine at_q rfl rfl (by decide) (qt_assign rfl rfl) ?_
    refine at_end ?_
    refine at_seq ?_
    refine at_region ?_
    refine at_q rfl rfl (by decide) (qt_assign rfl rfl) ?_
    refine at_end ?_
    refine at_seq ?_
    refine at_region ?_
    refine at_q rfl rfl (by decide) (qt_loadS rfl rfl tys_impl_Ring rfl (rdAll (k := 7) rfl)) ?_
    refine at_q rfl rfl (by decide) (qt_move rfl rfl) ?_
    refine at_q rfl rfl (by decide) (qt_call ok_laws_heldRing rfl rfl (fun w1 hs => heldPts (ptsPts (k := 6) rfl w1 hs) (by omega))) ?_
    refine at_q rfl rfl (by decide) (qt_assign rfl rfl) ?_
    refine at_end ?_
    refine at_seq ?_
    refine at_seq ?_
    refine at_region ?_
    refine at_q rfl rfl (by decide) (qt_move rfl rfl) ?_
    refine at_q rfl rfl (by decide) (qt_lss rfl rfl rfl) ?_
    refine at_end ?_
    refine at_no rfl (posF _) ?_
    refine at_skip ?_
    refine norm_then ?_
    refine at_seq ?_
    refine at_seq ?_
    refine at_region ?_
    refine at_q rfl rfl (by decide) (qt_move rfl rfl) ?_
    refine at_q rfl rfl (by decide) (qt_move rfl rfl) ?_
    refine at_q rfl rfl (by decide) (qt_neq rfl rfl rfl) ?_
    refine at_end ?_
    refine at_no rfl (neSelf _) ?_
    refine at_skip ?_
    refine norm_then ?_
    refine at_seq ?_
    refine at_region ?_
    refine at_q rfl rfl (by decide) (qt_loadS rfl rfl tys_laws_Ring rfl (rdAll (k := 0) rfl)) ?_
    refine at_op rfl ?_
    refine op_call ok_laws_toRing (X := Nat × Nat × Nat) (v := fun x => ringV (some ⟨x.1, 0, none⟩) n n) (r := fun x => ptsR n xs x.2.1 x.2.2 (some ⟨x.1, 0, none⟩)) (H := fun _ => True) rfl rfl rfl (by decide) (fun w1 hs => ptsRing A n c xs w1 (h.over hs.fin) ht) ?_
    rintro ⟨tg, tlo, thi⟩ -
    refine at_rsE (by simp only [List.nil_append, List.cons_append, List.set_cons_zero, List.set_cons_succ, Value.cells, List.toList_toArray]; rfl) ?_
    refine at_op rfl ?_
    refine op_call ok_impl_SimplifyRing (X := (Option Addr × Nat) × Nat × Nat) (v := fun x => .tuple #[ringV x.1.1 _ x.1.2, .int .i64 _]) (r := fun x => ptsR _ _ x.2.1 x.2.2 x.1.1) (H := fun _ => True) rfl rfl rfl (by decide) (fun w1 hs => ptsCode (SimplifyRing_any _ n n xs w1 (ptsPts (k := 9) rfl w1 hs) (Int.le_trans ht (by decide)))) ?_
    rintro ⟨⟨hA, hc⟩, hlo, hhi⟩ -
    refine at_rsE (by simp only [List.nil_append, List.cons_append, List.set_cons_zero, List.set_cons_succ, Value.cells, List.toList_toArray]; rfl) ?_
    refine at_q rfl rfl (by decide) (qt_move rfl rfl) ?_
    refine at_q rfl rfl (by decide) (qt_extract rfl rfl rfl) ?_
    refine at_q rfl rfl (by decide) (qt_extract rfl rfl rfl) ?_
    refine at_op rfl ?_
    refine op_alloc rfl tyz_impl_Ring rfl (by decide) (fun b5 => ?_)
    refine at_rsE (by simp only [List.nil_append, List.cons_append, List.set_cons_zero, List.set_cons_succ, Value.cells, List.toList_toArray]; rfl) ?_
    refine at_op rfl ?_
    refine op_storeAll' (k := 11) rfl rfl rfl rfl (rfl) (by rfl) tyz_impl_Ring.szx rfl rfl rfl ?_
    refine at_rsE (by simp only [List.nil_append, List.cons_append, List.set_cons_zero, List.set_cons_succ, Value.cells, List.toList_toArray]; rfl) ?_
    refine at_q rfl rfl (by decide) (qt_assign rfl rfl) ?_
    refine at_end ?_
    refine at_seq ?_
    refine at_seq ?_
    refine at_region ?_
    refine at_q rfl rfl (by decide) (qt_loadS rfl rfl tys_impl_Ring rfl (rdAll (k := 11) rfl)) ?_
    refine at_q rfl rfl (by decide) (qt_loadS rfl rfl tys_impl_Ring rfl (rdAll (k := 3) rfl)) ?_
    refine at_q rfl rfl (by decide) (qt_call ok_laws_eqRing rfl rfl (fun w1 hs => eqPts (ptsPts (k := 10) rfl w1 hs) (ptsPts (k := 2) rfl w1 hs) (by omega))) ?_
    refine at_q rfl rfl (by decide) (qt_not rfl rfl) ?_
    refine at_q rfl rfl (by decide) (qt_move rfl rfl) ?_
    refine at_as 83 (.bool false) rfl (by rw [notTrue]) ?_
    refine at_on rfl rfl rfl rfl ?_
    refine op_q rfl (by decide) (qt_move rfl rfl) ?_
    refine at_on rfl rfl rfl rfl ?_
    refine op_q rfl (by decide) (qt_move rfl rfl) ?_
    refine at_on rfl rfl rfl rfl ?_
    refine op_q rfl (by decide) (qt_neq rfl rfl rfl) ?_
    refine at_q rfl rfl (by decide) (qt_pickF rfl rfl rfl) ?_
    refine at_end ?_
    refine at_no rfl (neSelf _) ?_
    refine at_skip ?_
    refine norm_then ?_
    refine at_seq ?_
    refine at_region ?_
    refine at_q rfl rfl (by decide) (qt_assign rfl rfl) ?_
    refine at_end ?_
    refine at_seq ?_
    refine at_region ?_
    refine at_q rfl rfl (by decide) (qt_loadS rfl rfl tys_impl_Ring rfl (rdAll (k := 7) rfl)) ?_
    refine at_q rfl rfl (by decide) (qt_move rfl rfl) ?_
    refine at_q rfl rfl (by decide) (qt_call ok_laws_heldRing rfl rfl (fun w1 hs => heldPts (ptsPts (k := 6) rfl w1 hs) (by omega))) ?_
    refine at_q rfl rfl (by decide) (qt_assign rfl rfl) ?_
    refine at_end ?_
    refine at_seq ?_
    refine at_seq ?_
    refine at_region ?_
    refine at_q rfl rfl (by decide) (qt_move rfl rfl) ?_
    refine at_q rfl rfl (by decide) (qt_lss rfl rfl rfl) ?_
    refine at_end ?_
    refine at_no rfl (posF _) ?_
    refine at_skip ?_
    refine norm_then ?_
    refine at_seq ?_
    refine at_seq ?_
    refine at_region ?_
    refine at_q rfl rfl (by decide) (qt_move rfl rfl) ?_
    refine at_q rfl rfl (by decide) (qt_move rfl rfl) ?_
    refine at_q rfl rfl (by decide) (qt_neq rfl rfl rfl) ?_
    refine at_end ?_
    refine at_no rfl (neSelf _) ?_
    refine at_skip ?_
    refine norm_then ?_
    refine at_seq ?_
    refine at_region ?_
    refine at_q rfl rfl (by decide) (qt_assign rfl rfl) ?_
    refine at_end ?_
    refine at_retc ?_
    refine at_ret1 rfl (.tmp rfl) ?_
    intro w' hs
    exact ⟨rfl, hs.fin⟩
end Go.Proofs.Ytnalgllmdpcjcaa
