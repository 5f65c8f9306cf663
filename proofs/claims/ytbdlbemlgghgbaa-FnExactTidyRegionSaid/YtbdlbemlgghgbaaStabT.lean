/- Stable sorting of rings in place: the merge's walk, the whole. -/
import Derived.Test.YtbdlbemlgghgbaaStabM
namespace Go.Proofs.Ytbdlbemlgghgbaa
open Go Go.RowKit
set_option linter.unusedVariables false
set_option linter.unusedSimpArgs false
set_option maxRecDepth 100000
set_option maxHeartbeats 4000000
set_option linter.unusedVariables false
set_option linter.unusedSimpArgs false

section
variable {A G R Z : List Value} {s t : Nat}
theorem rot_eq1 : A ++ G ++ R ++ Z = (A ++ G.take s) ++ G.drop s ++ R.take t ++ (R.drop t ++ Z) := by
  rw [List.append_assoc A (G.take s), List.take_append_drop, List.append_assoc (A ++ G) (R.take t), ← List.append_assoc (R.take t), List.take_append_drop, ← List.append_assoc]
theorem rot_eq2 : (A ++ G.take s) ++ R.take t ++ G.drop s ++ (R.drop t ++ Z) = A ++ (G.take s ++ R.take t) ++ (G.drop s ++ R.drop t) ++ Z := by simp only [List.append_assoc]
theorem rot_no (h : G.length ≤ s ∨ t = 0) : A ++ G ++ R ++ Z = A ++ (G.take s ++ R.take t) ++ (G.drop s ++ R.drop t) ++ Z := by
  rw [rot_eq1 (s := s) (t := t), ← rot_eq2]
  rcases h with h | h
  · rw [List.drop_of_length_le h, List.append_nil, List.append_nil]
  · subst h
    rw [List.take_zero, List.append_nil, List.append_nil]
theorem mg1_eq1 : A ++ (G.take s ++ R.take t) ++ (G.drop s ++ R.drop t) ++ Z = A ++ G.take s ++ R.take t ++ (G.drop s ++ R.drop t ++ Z) := by simp only [List.append_assoc]
theorem mg1_eq2 {M : List Value} : A ++ M ++ (G.drop s ++ R.drop t ++ Z) = A ++ M ++ (G.drop s ++ R.drop t) ++ Z := by simp only [List.append_assoc]
theorem mg1_no {lt : Value → Value → Bool} (h : s = 0 ∨ t = 0) : G.take s ++ R.take t = mrg lt (G.take s) (R.take t) := by
  rcases h with rfl | rfl
  · rw [List.take_zero, mrg_nilL]; rfl
  · rw [List.take_zero, mrg_nilR, List.append_nil]
theorem mg2_eq1 {M : List Value} : A ++ M ++ (G.drop s ++ R.drop t) ++ Z = A ++ M ++ G.drop s ++ R.drop t ++ Z := by simp only [List.append_assoc]
theorem mg2_eq2 {M M2 : List Value} : A ++ M ++ M2 ++ Z = A ++ (M ++ M2) ++ Z := by simp only [List.append_assoc]
theorem mg2_no {lt : Value → Value → Bool} (h : G.length ≤ s ∨ R.length ≤ t) : G.drop s ++ R.drop t = mrg lt (G.drop s) (R.drop t) := by
  rcases h with h | h
  · rw [List.drop_of_length_le h, mrg_nilL]; rfl
  · rw [List.drop_of_length_le h, mrg_nilR, List.append_nil]
theorem GI.start {lt : Value → Value → Bool} {G R : List Value} {h : Nat} (e : h = (G.length + R.length) / 2) : GI lt G R h (h - R.length) (min G.length h) :=
  ⟨by omega, by omega, by omega⟩
end

theorem symMerge_step (b T n c : Nat) (S : Value → Prop) (cr : Value → Value → Int) (hn : n ≤ 1099511627776) (A G R Z : List Value) (a m e_ : Nat) (w : World) (ih : MrgC b T n c S cr (G.length + R.length))
    (hC : CmpOk w b S cr) (hh : w.heap[b]? = some (.cells (A ++ G ++ R ++ Z).toArray T (0, 0))) (ha : A.length = a) (hm : a + G.length = m) (he : m + R.length = e_) (hG : 0 < G.length) (hR : 0 < R.length) (hen : e_ ≤ n) (hl : n ≤ (A ++ G ++ R ++ Z).length)
    (hsG : Srt (ltC cr) G) (hsR : Srt (ltC cr) R) (hS : Up n S (A ++ G ++ R ++ Z)) :
    Calls Try.prog 88 #[.slice (some ⟨b, 0, none⟩) n c, .int .i64 (a : Int), .int .i64 (m : Int), .int .i64 (e_ : Int), .func (.func 74) #[] #[]] w fun e w' => e = .returned (.tuple #[]) ∧ Wr b w w' ∧ w'.heap[b]? = some (.cells (A ++ mrg (ltC cr) G R ++ Z).toArray T (0, 0)) := by
  have W := hC.weak
  have hlen : (A ++ G ++ R ++ Z).length = e_ + Z.length := by simp; omega
  have hRat : ∀ i, i < R.length → (A ++ G ++ R ++ Z)[m + i]? = R[i]? := fun i hi => by
    rw [List.getElem?_append_left (by simp; omega), List.getElem?_append_right (by simp; omega)]
    congr 1
    simp
    omega
  have hGat : ∀ i, i < G.length → (A ++ G ++ R ++ Z)[a + i]? = G[i]? := fun i hi => by
    rw [List.getElem?_append_left (by simp; omega), List.getElem?_append_left (by simp; omega), List.getElem?_append_right (by omega)]
    congr 1
    omega
  refine walk_from1 (m := 220) (Try.func88) rfl rfl (Nat.le_of_ble_eq_true rfl) (hh) ?_
  refine at_seq ?_
  refine at_seq ?_
  refine at_region ?_
  refine at_q rfl rfl (by decide) (qt_move rfl rfl) ?_
  refine at_q rfl rfl (by decide) (qt_move rfl rfl) ?_
  refine at_q rfl rfl (by decide) (qt_sub rfl rfl rfl (by omega) (by omega)) ?_
  refine at_q rfl rfl (by decide) (qt_eql rfl rfl rfl) ?_
  refine at_end ?_
  refine at_cond rfl (fun c1 => ?_) (fun c1 => ?_)
  · try simp only [decide_eq_true_eq, decide_eq_false_iff_not, beq_iff_eq, beq_eq_false_iff_ne, Bool.not_eq_true', Bool.not_eq_false', Bool.not_true, Bool.not_false, Int.not_lt, Int.not_le, ne_eq, Nat.not_lt, Nat.not_le] at c1
    have hG1 : G.length = 1 := (by omega)
    obtain ⟨x, hx0⟩ : ∃ x, G[0]? = some x := ⟨_, List.getElem?_eq_getElem hG⟩
    have hGx : G = [x] := (by match G, hG1, hx0 with | [y], _, h => (cases h; rfl))
    have hxa : (A ++ G ++ R ++ Z)[a]? = some x := (hGat 0 hG).trans hx0
    have hSx : S x := hS _ x (by omega) hxa
    refine at_seq ?_
    refine at_region ?_
    refine at_q rfl rfl (by decide) (qt_move rfl rfl) ?_
    refine at_q rfl rfl (by decide) (qt_assign rfl rfl) ?_
    refine at_end ?_
    refine at_seq ?_
    refine at_region ?_
    refine at_q rfl rfl (by decide) (qt_move rfl rfl) ?_
    refine at_q rfl rfl (by decide) (qt_assign rfl rfl) ?_
    refine at_end ?_
    refine at_seq ?_
    refine at_block ?_
    refine at_loopc (X := Nat × Nat) (fun y => S1I (ltC cr) R x y.1 y.2) (fun y => y.2 - y.1) (fun y => [(10, .int .i64 ((m + y.1 : Nat) : Int)), (11, .int .i64 ((m + y.2 : Nat) : Int))]) (C := [(0, _), (1, _), (2, _), (3, _), (4, _)]) ⟨rfl, rfl, rfl, rfl, rfl, trivial⟩ (fun y => [.cel b T (A ++ G ++ R ++ Z)]) (0, R.length) (S1I.start) ⟨rfl, vi (by omega), rfl, rfl, rfl, rfl, rfl, trivial⟩ (fun _ h => h) ?_
    intro ⟨i, j⟩ hy L hL1
    refine at_envE (by simp only [List.nil_append, List.cons_append]; rfl) ?_
    refine at_rsE (by first | (dsimp only; done) | (dsimp only; rfl) | rfl) ?_
    have hy1 : S1I (ltC cr) R x i j := hy
    have hle := hy1.le
    refine at_seq ?_
    refine at_seq ?_
    refine at_region ?_
    refine at_q rfl rfl (by decide) (qt_move rfl rfl) ?_
    refine at_q rfl rfl (by decide) (qt_move rfl rfl) ?_
    refine at_q rfl rfl (by decide) (qt_lss rfl rfl rfl) ?_
    refine at_end ?_
    refine at_cond rfl (fun c2 => ?_) (fun c2 => ?_)
    · try simp only [decide_eq_true_eq, decide_eq_false_iff_not, beq_iff_eq, beq_eq_false_iff_ne, Bool.not_eq_true', Bool.not_eq_false', Bool.not_true, Bool.not_false, Int.not_lt, Int.not_le, ne_eq, Nat.not_lt, Nat.not_le] at c2
      have hij : i < j := (by omega)
      obtain ⟨r, hr⟩ : ∃ r, R[(i + j) / 2]? = some r := ⟨_, List.getElem?_eq_getElem (by omega)⟩
      have hra : (A ++ G ++ R ++ Z)[m + (i + j) / 2]? = some r := (hRat _ (by omega)).trans hr
      have hSr : S r := hS _ r (by omega) hra
      refine at_skip ?_
      refine norm_then ?_
      refine at_block ?_
      refine at_seq ?_
      refine at_region ?_
      refine at_q rfl rfl (by decide) (qt_move rfl rfl) ?_
      refine at_q rfl rfl (by decide) (qt_move rfl rfl) ?_
      refine at_q rfl rfl (by decide) (qt_add rfl rfl rfl (by omega) (by omega)) ?_
      refine at_q rfl rfl (by decide) (qt_convI rfl Try.underlying3 Try.underlying116 rfl (u64_in _ (by omega) (by omega))) ?_
      refine at_q rfl rfl (by decide) (qt_shrU (q := 1) rfl rfl rfl (by decide) (by decide)) ?_
      refine at_q rfl rfl (by decide) ((qt_convI rfl Try.underlying116 Try.underlying3 rfl (wrapI64 _ (by simp; omega) (by simp; omega))).as (congrArg _ (show ((((m + i : Nat) : Int) + ((m + j : Nat) : Int)) / 2 ^ (Int.toNat 1)) = ((m + (i + j) / 2 : Nat) : Int) by simp; omega))) ?_
      refine at_q rfl rfl (by decide) (qt_assign rfl rfl) ?_
      refine at_end ?_
      refine at_seq ?_
      refine dg_start mixed rfl ?_
      refine dg_phase 11 ?_
      refine dg_q (i := 0) rfl (by kernel_rfl) (by kernel_rfl) (by kernel_rfl) [] (by kernel_rfl) (fun _ _ _ h => h) rfl rfl (by decide) (fun _ h => h.upto ⟨rfl, trivial⟩) (qt_move rfl rfl) ?_
      refine dg_q (i := 1) rfl (by kernel_rfl) (by kernel_rfl) (by kernel_rfl) [] (by kernel_rfl) (fun _ _ _ h => h) rfl rfl (by decide) (fun _ h => h.upto ⟨rfl, trivial⟩) (qt_move rfl rfl) ?_
      refine dg_q (i := 2) rfl (by kernel_rfl) (by kernel_rfl) (by kernel_rfl) [] (by kernel_rfl) (fun _ _ _ h => h) rfl rfl (by decide) (fun _ h => h.upto ⟨rfl, trivial⟩) (qt_move rfl rfl) ?_
      refine dg_q (i := 3) rfl (by kernel_rfl) (by kernel_rfl) (by kernel_rfl) [] (by kernel_rfl) (fun _ _ _ h => h) rfl rfl (by decide) (fun _ h => h.upto ⟨rfl, trivial⟩) (qt_index (j := m + (i + j) / 2) rfl rfl rfl tyl_sl_impl_Ring (by omega)) ?_
      refine dg_q (i := 4) rfl (by kernel_rfl) (by kernel_rfl) (by kernel_rfl) [] (by kernel_rfl) (fun _ _ _ h => h) rfl rfl (by decide) (fun _ h => h.upto ⟨rfl, trivial⟩) (qt_loadS rfl rfl tys_impl_Ring rfl (rdS1 (k := 0) rfl hra (by omega))) ?_
      refine dg_q (i := 5) rfl (by kernel_rfl) (by kernel_rfl) (by kernel_rfl) [] (by kernel_rfl) (fun _ _ _ h => h) rfl rfl (by decide) (fun _ h => h.upto ⟨rfl, trivial⟩) (qt_move rfl rfl) ?_
      refine dg_q (i := 6) rfl (by kernel_rfl) (by kernel_rfl) (by kernel_rfl) [] (by kernel_rfl) (fun _ _ _ h => h) rfl rfl (by decide) (fun _ h => h.upto ⟨rfl, trivial⟩) (qt_move rfl rfl) ?_
      refine dg_q (i := 7) rfl (by kernel_rfl) (by kernel_rfl) (by kernel_rfl) [] (by kernel_rfl) (fun _ _ _ h => h) rfl rfl (by decide) (fun _ h => h.upto ⟨rfl, trivial⟩) (qt_index (j := a) rfl rfl rfl tyl_sl_impl_Ring (by omega)) ?_
      refine dg_q (i := 8) rfl (by kernel_rfl) (by kernel_rfl) (by kernel_rfl) [] (by kernel_rfl) (fun _ _ _ h => h) rfl rfl (by decide) (fun _ h => h.upto ⟨rfl, trivial⟩) (qt_loadS rfl rfl tys_impl_Ring rfl (rdS1 (k := 0) rfl hxa (by omega))) ?_
      refine dg_q (i := 9) rfl (by kernel_rfl) (by kernel_rfl) (by kernel_rfl) [] (by kernel_rfl) (fun _ _ _ h => h) rfl rfl (by decide) (fun _ h => h.upto ⟨rfl, trivial⟩) (qt_callk ok_impl_orderRings_1 rfl rfl rfl (fun w1 h1 => hC.call r hSr x hSx w1 h1.over)) ?_
      refine dg_q (i := 10) rfl (by kernel_rfl) (by kernel_rfl) (by kernel_rfl) [] (by kernel_rfl) (fun _ _ _ h => h) rfl rfl (by decide) (fun _ h => h.upto ⟨rfl, trivial⟩) (qt_lss rfl rfl rfl) ?_
      refine dg_done (by kernel_rfl) ?_
      refine norm_then ?_
      refine at_cond rfl (fun c3 => ?_) (fun c3 => ?_)
      · try simp only [decide_eq_true_eq, decide_eq_false_iff_not, beq_iff_eq, beq_eq_false_iff_ne, Bool.not_eq_true', Bool.not_eq_false', Bool.not_true, Bool.not_false, Int.not_lt, Int.not_le, ne_eq, Nat.not_lt, Nat.not_le] at c3
        refine at_region ?_
        refine at_q rfl rfl (by decide) (qt_move rfl rfl) ?_
        refine at_q rfl rfl (by decide) (qt_add rfl rfl rfl (by omega) (by omega)) ?_
        refine at_q rfl rfl (by decide) (qt_assign rfl rfl) ?_
        refine at_nil ?_
        refine norm_block ?_
        refine norm_then ?_
        exact at_againc hL1 (((i + j) / 2 + 1, j)) (hy1.yes W hsR (by omega) (by omega) hr (by simpa [ltC] using c3)) (by simp only; omega) ⟨vi (by omega), rfl, rfl, rfl, rfl, rfl, rfl, trivial⟩ (fun _ h => h.upto ⟨rfl, trivial⟩)
      · try simp only [decide_eq_true_eq, decide_eq_false_iff_not, beq_iff_eq, beq_eq_false_iff_ne, Bool.not_eq_true', Bool.not_eq_false', Bool.not_true, Bool.not_false, Int.not_lt, Int.not_le, ne_eq, Nat.not_lt, Nat.not_le] at c3
        refine at_region ?_
        refine at_q rfl rfl (by decide) (qt_move rfl rfl) ?_
        refine at_q rfl rfl (by decide) (qt_assign rfl rfl) ?_
        refine at_nil ?_
        refine norm_block ?_
        refine norm_then ?_
        exact at_againc hL1 ((i, (i + j) / 2)) (hy1.no W hsR (by omega) (by omega) hr (by simpa [ltC] using c3)) (by simp only; omega) ⟨rfl, rfl, rfl, rfl, rfl, rfl, rfl, trivial⟩ (fun _ h => h.upto ⟨rfl, trivial⟩)
    · try simp only [decide_eq_true_eq, decide_eq_false_iff_not, beq_iff_eq, beq_eq_false_iff_ne, Bool.not_eq_true', Bool.not_eq_false', Bool.not_true, Bool.not_false, Int.not_lt, Int.not_le, ne_eq, Nat.not_lt, Nat.not_le] at c2
      have hij : i = j := (by omega)
      subst hij
      have hG0 : A ++ G ++ R ++ Z = A ++ (R.take 0 ++ x :: R.drop 0) ++ Z := (by rw [hGx]; simp)
      refine at_exit ?_
      refine pass_then (fun h => by cases h) ?_
      refine pass_then (fun h => by cases h) ?_
      refine pass_hit ?_
      refine norm_then ?_
      refine at_seq ?_
      refine at_seq ?_
      refine at_region ?_
      refine at_q rfl rfl (by decide) (qt_move rfl rfl) ?_
      refine at_q rfl rfl (by decide) (qt_assign rfl rfl) ?_
      refine at_end ?_
      refine at_block ?_
      refine at_loopc (X := Nat × List Value) (fun y => y.1 ≤ i ∧ y.2 = A ++ (R.take y.1 ++ x :: R.drop y.1) ++ Z) (fun y => i - y.1) (fun y => [(13, .int .i64 ((a + y.1 : Nat) : Int))]) (C := [(0, _), (1, _), (2, _), (3, _), (4, _), (10, _)]) ⟨rfl, rfl, rfl, rfl, rfl, rfl, trivial⟩ (fun y => [.cel b T y.2]) (0, A ++ G ++ R ++ Z) (⟨Nat.zero_le _, hG0⟩) ⟨rfl, rfl, rfl, rfl, rfl, rfl, rfl, trivial⟩ (fun _ h => h) ?_
      intro ⟨k, ds⟩ hk L hL2
      refine at_envE (by simp only [List.nil_append, List.cons_append]; rfl) ?_
      refine at_rsE (by first | (dsimp only; done) | (dsimp only; rfl) | rfl) ?_
      have hk1 : k ≤ i := hk.1
      have hds : ds = A ++ (R.take k ++ x :: R.drop k) ++ Z := hk.2
      have hdl : ds.length = (A ++ G ++ R ++ Z).length := (by rw [hds, hGx]; simp; omega)
      have hmem : Up n S ds := (by rw [hds]; rw [List.append_assoc A G] at hS; refine up_mid hS (fun y hy => ?_) (by simp [hGx]; omega) (by simp; omega); simp only [hGx, List.mem_append, List.mem_cons, List.mem_singleton, List.not_mem_nil, or_false] at hy ⊢; rcases hy with h | h | h; exact .inr (List.mem_of_mem_take h); exact .inl h; exact .inr (List.mem_of_mem_drop h))
      refine at_seq ?_
      refine at_seq ?_
      refine at_region ?_
      refine at_q rfl rfl (by decide) (qt_move rfl rfl) ?_
      refine at_q rfl rfl (by decide) (qt_move rfl rfl) ?_
      refine at_q rfl rfl (by decide) (qt_sub rfl rfl rfl (by omega) (by omega)) ?_
      refine at_q rfl rfl (by decide) (qt_lss rfl rfl rfl) ?_
      refine at_end ?_
      refine at_cond rfl (fun c4 => ?_) (fun c4 => ?_)
      · try simp only [decide_eq_true_eq, decide_eq_false_iff_not, beq_iff_eq, beq_eq_false_iff_ne, Bool.not_eq_true', Bool.not_eq_false', Bool.not_true, Bool.not_false, Int.not_lt, Int.not_le, ne_eq, Nat.not_lt, Nat.not_le] at c4
        have hki : k < i := (by omega)
        obtain ⟨x1, u1⟩ : ∃ q, ds[a + k]? = some q := ⟨_, List.getElem?_eq_getElem (by omega)⟩
        obtain ⟨x2, u2⟩ : ∃ q, ds[a + k + 1]? = some q := ⟨_, List.getElem?_eq_getElem (by omega)⟩
        have hxo1 : [x1].all (·.oneCell') = true := by simp [hC.one x1 (hmem _ _ (by omega) u1)]
        have hxo2 : [x2].all (·.oneCell') = true := by simp [hC.one x2 (hmem _ _ (by omega) u2)]
        have hmv : (ds.set (a + k) x2).set (a + k + 1) x1 = A ++ (R.take (k + 1) ++ x :: R.drop (k + 1)) ++ Z := (by rw [← swap2_at u1 u2, hds, ← ha]; exact move_up A R Z x (by omega))
        refine at_skip ?_
        refine norm_then ?_
        refine at_seq ?_
        refine at_block ?_
        refine dg_start mixed rfl ?_
        refine dh_phase 15 17 [0] ?_
        refine dh_q (i := 0) rfl (by kernel_rfl) (by kernel_rfl) (by kernel_rfl) [] (by kernel_rfl) (fun _ _ _ h => h) rfl rfl (by decide) (fun _ h => h.upto ⟨rfl, trivial⟩) (qt_move rfl rfl) ?_
        refine dh_q (i := 1) rfl (by kernel_rfl) (by kernel_rfl) (by kernel_rfl) [] (by kernel_rfl) (fun _ _ _ h => h) rfl rfl (by decide) (fun _ h => h.upto ⟨rfl, trivial⟩) (qt_move rfl rfl) ?_
        refine dh_ql (i := 2) rfl (by kernel_rfl) (by kernel_rfl) (by kernel_rfl) [] (by kernel_rfl) (fun _ _ _ h => h) rfl rfl (by decide) (fun _ h => h.upto ⟨rfl, trivial⟩) (qt_move rfl rfl) (qt_move rfl rfl) ?_
        refine dh_ql (i := 3) rfl (by kernel_rfl) (by kernel_rfl) (by kernel_rfl) [] (by kernel_rfl) (fun _ _ _ h => h) rfl rfl (by decide) (fun _ h => h.upto ⟨rfl, trivial⟩) (qt_move rfl rfl) (qt_move rfl rfl) ?_
        refine dh_ql (i := 4) rfl (by kernel_rfl) (by kernel_rfl) (by kernel_rfl) [] (by kernel_rfl) (fun _ _ _ h => h) rfl rfl (by decide) (fun _ h => h.upto ⟨rfl, trivial⟩) (qt_add rfl rfl rfl (by omega) (by omega)) (qt_add rfl rfl rfl (by omega) (by omega)) ?_
        refine dh_q (i := 5) rfl (by kernel_rfl) (by kernel_rfl) (by kernel_rfl) [] (by kernel_rfl) (fun _ _ _ h => h) rfl rfl (by decide) (fun _ h => h.upto ⟨rfl, trivial⟩) (qt_move rfl rfl) ?_
        refine dh_q (i := 6) rfl (by kernel_rfl) (by kernel_rfl) (by kernel_rfl) [] (by kernel_rfl) (fun _ _ _ h => h) rfl rfl (by decide) (fun _ h => h.upto ⟨rfl, trivial⟩) (qt_move rfl rfl) ?_
        refine dh_q (i := 7) rfl (by kernel_rfl) (by kernel_rfl) (by kernel_rfl) [] (by kernel_rfl) (fun _ _ _ h => h) rfl rfl (by decide) (fun _ h => h.upto ⟨rfl, trivial⟩) (qt_add rfl rfl rfl (by omega) (by omega)) ?_
        refine dh_q (i := 8) rfl (by kernel_rfl) (by kernel_rfl) (by kernel_rfl) [] (by kernel_rfl) (fun _ _ _ h => h) rfl rfl (by decide) (fun _ h => h.upto ⟨rfl, trivial⟩) (qt_index (j := a + k + 1) rfl rfl rfl tyl_sl_impl_Ring (by omega)) ?_
        refine dh_q (i := 9) rfl (by kernel_rfl) (by kernel_rfl) (by kernel_rfl) [] (by kernel_rfl) (fun _ _ _ h => h) rfl rfl (by decide) (fun _ h => h.upto ⟨rfl, trivial⟩) (qt_loadS rfl rfl tys_impl_Ring rfl (rdS1 (k := 0) rfl u2 (by omega))) ?_
        refine dh_q (i := 10) rfl (by kernel_rfl) (by kernel_rfl) (by kernel_rfl) [12, 13] (by kernel_rfl) (fun _ _ _ h => h) rfl rfl (by decide) (fun _ h => h.upto ⟨rfl, trivial⟩) (qt_move rfl rfl) ?_
        refine dh_q (i := 11) rfl (by kernel_rfl) (by kernel_rfl) (by kernel_rfl) [12, 13] (by kernel_rfl) (fun _ _ _ h => h) rfl rfl (by decide) (fun _ h => h.upto ⟨rfl, trivial⟩) (qt_move rfl rfl) ?_
        refine dh_q (i := 12) rfl (by kernel_rfl) (by kernel_rfl) (by kernel_rfl) [13] (by kernel_rfl) (fun _ _ _ h => h) rfl rfl (by decide) (fun _ h => h.upto ⟨rfl, trivial⟩) (qt_index (j := a + k) rfl rfl rfl tyl_sl_impl_Ring (by omega)) ?_
        refine dh_q (i := 13) rfl (by kernel_rfl) (by kernel_rfl) (by kernel_rfl) [] (by kernel_rfl) (fun _ _ _ h => h) rfl rfl (by decide) (fun _ h => h.upto ⟨rfl, trivial⟩) (qt_loadS rfl rfl tys_impl_Ring rfl (rdS1 (k := 0) rfl u1 (by omega))) ?_
        refine dh_q (i := 14) rfl (by kernel_rfl) (by kernel_rfl) (by kernel_rfl) [] (by kernel_rfl) (fun _ _ _ h => h) rfl rfl (by decide) (fun _ h => h.upto ⟨rfl, trivial⟩) (qt_index (j := a + k) rfl rfl rfl tyl_sl_impl_Ring (by omega)) ?_
        refine dh_bar rfl (by kernel_rfl) rfl ?_
        refine op_store (k := 0) rfl rfl rfl rfl rfl hxo2 tyz_impl_Ring.szx rfl rfl (by simp; omega) ?_
        refine dr_keep (fun _ h => (h.wk [0]).upto ⟨rfl, trivial⟩) ?_
        refine at_rsE (by simp only [List.nil_append, List.cons_append, List.set_cons_zero, List.set_cons_succ, Value.cells, List.toList_toArray]; rfl) ?_
        refine dg_q (i := 16) rfl (by kernel_rfl) (by kernel_rfl) (by kernel_rfl) [] (by kernel_rfl) (fun _ _ _ h => h) rfl rfl (by decide) (fun _ h => (h.wk [0]).upto ⟨rfl, trivial⟩) (qt_index (j := a + k + 1) rfl rfl rfl tyl_sl_impl_Ring (by omega)) ?_
        refine dg_bar rfl (by kernel_rfl) rfl ?_
        refine op_store (k := 0) rfl rfl rfl rfl rfl hxo1 tyz_impl_Ring.szx rfl rfl (by rw [splice_len]; simp; omega) ?_
        refine dg_end (by kernel_rfl) ?_
        refine norm_block ?_
        refine norm_then ?_
        refine at_region ?_
        refine at_q rfl rfl (by decide) (qt_move rfl rfl) ?_
        refine at_q rfl rfl (by decide) (qt_add rfl rfl rfl (by omega) (by omega)) ?_
        refine at_q rfl rfl (by decide) (qt_assign rfl rfl) ?_
        refine at_end ?_
        exact at_againc hL2 ((k + 1, _)) (⟨show k + 1 ≤ i by omega, (by show List.set (List.set ds _ _) _ _ = _; simpa only [splice, Nat.zero_add, Nat.mul_one] using hmv)⟩) (by simp only; omega) ⟨vi (by omega), rfl, rfl, rfl, rfl, rfl, rfl, trivial⟩ (fun _ h => h.upto ⟨rfl, trivial⟩)
      · try simp only [decide_eq_true_eq, decide_eq_false_iff_not, beq_iff_eq, beq_eq_false_iff_ne, Bool.not_eq_true', Bool.not_eq_false', Bool.not_true, Bool.not_false, Int.not_lt, Int.not_le, ne_eq, Nat.not_lt, Nat.not_le] at c4
        have hki : k = i := (by omega)
        subst hki
        refine at_exit ?_
        refine pass_then (fun h => by cases h) ?_
        refine pass_then (fun h => by cases h) ?_
        refine pass_hit ?_
        refine norm_then ?_
        refine at_retc ?_
        refine then_ret ?_
        refine at_ret0 rfl ?_
        intro w' hs
        exact ⟨rfl, hs.over.wr, by rw [hGx, hy1.fin, ← hds]; exact hs.cel (k := 0) rfl⟩
  · try simp only [decide_eq_true_eq, decide_eq_false_iff_not, beq_iff_eq, beq_eq_false_iff_ne, Bool.not_eq_true', Bool.not_eq_false', Bool.not_true, Bool.not_false, Int.not_lt, Int.not_le, ne_eq, Nat.not_lt, Nat.not_le] at c1
    refine at_skip ?_
    refine norm_then ?_
    refine at_seq ?_
    refine at_seq ?_
    refine at_region ?_
    refine at_q rfl rfl (by decide) (qt_move rfl rfl) ?_
    refine at_q rfl rfl (by decide) (qt_move rfl rfl) ?_
    refine at_q rfl rfl (by decide) (qt_sub rfl rfl rfl (by omega) (by omega)) ?_
    refine at_q rfl rfl (by decide) (qt_eql rfl rfl rfl) ?_
    refine at_end ?_
    refine at_cond rfl (fun c5 => ?_) (fun c5 => ?_)
    · try simp only [decide_eq_true_eq, decide_eq_false_iff_not, beq_iff_eq, beq_eq_false_iff_ne, Bool.not_eq_true', Bool.not_eq_false', Bool.not_true, Bool.not_false, Int.not_lt, Int.not_le, ne_eq, Nat.not_lt, Nat.not_le] at c5
      have hR1 : R.length = 1 := (by omega)
      obtain ⟨y, hy0⟩ : ∃ y, R[0]? = some y := ⟨_, List.getElem?_eq_getElem hR⟩
      have hRy : R = [y] := (by match R, hR1, hy0 with | [y], _, h => (cases h; rfl))
      have hya : (A ++ G ++ R ++ Z)[m]? = some y := (hRat 0 hR).trans hy0
      have hSy : S y := hS _ y (by omega) hya
      refine at_seq ?_
      refine at_region ?_
      refine at_q rfl rfl (by decide) (qt_move rfl rfl) ?_
      refine at_q rfl rfl (by decide) (qt_assign rfl rfl) ?_
      refine at_end ?_
      refine at_seq ?_
      refine at_region ?_
      refine at_q rfl rfl (by decide) (qt_move rfl rfl) ?_
      refine at_q rfl rfl (by decide) (qt_assign rfl rfl) ?_
      refine at_end ?_
      refine at_seq ?_
      refine at_block ?_
      refine at_loopc (X := Nat × Nat) (fun q => S2I (ltC cr) G y q.1 q.2) (fun q => q.2 - q.1) (fun q => [(14, .int .i64 ((a + q.1 : Nat) : Int)), (15, .int .i64 ((a + q.2 : Nat) : Int))]) (C := [(0, _), (1, _), (2, _), (3, _), (4, _)]) ⟨rfl, rfl, rfl, rfl, rfl, trivial⟩ (fun q => [.cel b T (A ++ G ++ R ++ Z)]) (0, G.length) (S2I.start) ⟨rfl, vi (by omega), rfl, rfl, rfl, rfl, rfl, trivial⟩ (fun _ h => h) ?_
      intro ⟨i, j⟩ hq L hL3
      refine at_envE (by simp only [List.nil_append, List.cons_append]; rfl) ?_
      refine at_rsE (by first | (dsimp only; done) | (dsimp only; rfl) | rfl) ?_
      have hq1 : S2I (ltC cr) G y i j := hq
      have hle := hq1.le
      refine at_seq ?_
      refine at_seq ?_
      refine at_region ?_
      refine at_q rfl rfl (by decide) (qt_move rfl rfl) ?_
      refine at_q rfl rfl (by decide) (qt_move rfl rfl) ?_
      refine at_q rfl rfl (by decide) (qt_lss rfl rfl rfl) ?_
      refine at_end ?_
      refine at_cond rfl (fun c6 => ?_) (fun c6 => ?_)
      · try simp only [decide_eq_true_eq, decide_eq_false_iff_not, beq_iff_eq, beq_eq_false_iff_ne, Bool.not_eq_true', Bool.not_eq_false', Bool.not_true, Bool.not_false, Int.not_lt, Int.not_le, ne_eq, Nat.not_lt, Nat.not_le] at c6
        have hij : i < j := (by omega)
        obtain ⟨r, hr⟩ : ∃ r, G[(i + j) / 2]? = some r := ⟨_, List.getElem?_eq_getElem (by omega)⟩
        have hra : (A ++ G ++ R ++ Z)[a + (i + j) / 2]? = some r := (hGat _ (by omega)).trans hr
        have hSr : S r := hS _ r (by omega) hra
        refine at_skip ?_
        refine norm_then ?_
        refine at_block ?_
        refine at_seq ?_
        refine at_region ?_
        refine at_q rfl rfl (by decide) (qt_move rfl rfl) ?_
        refine at_q rfl rfl (by decide) (qt_move rfl rfl) ?_
        refine at_q rfl rfl (by decide) (qt_add rfl rfl rfl (by omega) (by omega)) ?_
        refine at_q rfl rfl (by decide) (qt_convI rfl Try.underlying3 Try.underlying116 rfl (u64_in _ (by omega) (by omega))) ?_
        refine at_q rfl rfl (by decide) (qt_shrU (q := 1) rfl rfl rfl (by decide) (by decide)) ?_
        refine at_q rfl rfl (by decide) ((qt_convI rfl Try.underlying116 Try.underlying3 rfl (wrapI64 _ (by simp; omega) (by simp; omega))).as (congrArg _ (show ((((a + i : Nat) : Int) + ((a + j : Nat) : Int)) / 2 ^ (Int.toNat 1)) = ((a + (i + j) / 2 : Nat) : Int) by simp; omega))) ?_
        refine at_q rfl rfl (by decide) (qt_assign rfl rfl) ?_
        refine at_end ?_
        refine at_seq ?_
        refine dg_start mixed rfl ?_
        refine dg_phase 12 ?_
        refine dg_q (i := 0) rfl (by kernel_rfl) (by kernel_rfl) (by kernel_rfl) [] (by kernel_rfl) (fun _ _ _ h => h) rfl rfl (by decide) (fun _ h => h.upto ⟨rfl, trivial⟩) (qt_move rfl rfl) ?_
        refine dg_q (i := 1) rfl (by kernel_rfl) (by kernel_rfl) (by kernel_rfl) [] (by kernel_rfl) (fun _ _ _ h => h) rfl rfl (by decide) (fun _ h => h.upto ⟨rfl, trivial⟩) (qt_move rfl rfl) ?_
        refine dg_q (i := 2) rfl (by kernel_rfl) (by kernel_rfl) (by kernel_rfl) [] (by kernel_rfl) (fun _ _ _ h => h) rfl rfl (by decide) (fun _ h => h.upto ⟨rfl, trivial⟩) (qt_move rfl rfl) ?_
        refine dg_q (i := 3) rfl (by kernel_rfl) (by kernel_rfl) (by kernel_rfl) [] (by kernel_rfl) (fun _ _ _ h => h) rfl rfl (by decide) (fun _ h => h.upto ⟨rfl, trivial⟩) (qt_index (j := m) rfl rfl rfl tyl_sl_impl_Ring (by omega)) ?_
        refine dg_q (i := 4) rfl (by kernel_rfl) (by kernel_rfl) (by kernel_rfl) [] (by kernel_rfl) (fun _ _ _ h => h) rfl rfl (by decide) (fun _ h => h.upto ⟨rfl, trivial⟩) (qt_loadS rfl rfl tys_impl_Ring rfl (rdS1 (k := 0) rfl hya (by omega))) ?_
        refine dg_q (i := 5) rfl (by kernel_rfl) (by kernel_rfl) (by kernel_rfl) [] (by kernel_rfl) (fun _ _ _ h => h) rfl rfl (by decide) (fun _ h => h.upto ⟨rfl, trivial⟩) (qt_move rfl rfl) ?_
        refine dg_q (i := 6) rfl (by kernel_rfl) (by kernel_rfl) (by kernel_rfl) [] (by kernel_rfl) (fun _ _ _ h => h) rfl rfl (by decide) (fun _ h => h.upto ⟨rfl, trivial⟩) (qt_move rfl rfl) ?_
        refine dg_q (i := 7) rfl (by kernel_rfl) (by kernel_rfl) (by kernel_rfl) [] (by kernel_rfl) (fun _ _ _ h => h) rfl rfl (by decide) (fun _ h => h.upto ⟨rfl, trivial⟩) (qt_index (j := a + (i + j) / 2) rfl rfl rfl tyl_sl_impl_Ring (by omega)) ?_
        refine dg_q (i := 8) rfl (by kernel_rfl) (by kernel_rfl) (by kernel_rfl) [] (by kernel_rfl) (fun _ _ _ h => h) rfl rfl (by decide) (fun _ h => h.upto ⟨rfl, trivial⟩) (qt_loadS rfl rfl tys_impl_Ring rfl (rdS1 (k := 0) rfl hra (by omega))) ?_
        refine dg_q (i := 9) rfl (by kernel_rfl) (by kernel_rfl) (by kernel_rfl) [] (by kernel_rfl) (fun _ _ _ h => h) rfl rfl (by decide) (fun _ h => h.upto ⟨rfl, trivial⟩) (qt_callk ok_impl_orderRings_1 rfl rfl rfl (fun w1 h1 => hC.call y hSy r hSr w1 h1.over)) ?_
        refine dg_q (i := 10) rfl (by kernel_rfl) (by kernel_rfl) (by kernel_rfl) [] (by kernel_rfl) (fun _ _ _ h => h) rfl rfl (by decide) (fun _ h => h.upto ⟨rfl, trivial⟩) (qt_lss rfl rfl rfl) ?_
        refine dg_q (i := 11) rfl (by kernel_rfl) (by kernel_rfl) (by kernel_rfl) [] (by kernel_rfl) (fun _ _ _ h => h) rfl rfl (by decide) (fun _ h => h.upto ⟨rfl, trivial⟩) (qt_not rfl rfl) ?_
        refine dg_done (by kernel_rfl) ?_
        refine norm_then ?_
        refine at_cond rfl (fun c7 => ?_) (fun c7 => ?_)
        · try simp only [decide_eq_true_eq, decide_eq_false_iff_not, beq_iff_eq, beq_eq_false_iff_ne, Bool.not_eq_true', Bool.not_eq_false', Bool.not_true, Bool.not_false, Int.not_lt, Int.not_le, ne_eq, Nat.not_lt, Nat.not_le] at c7
          refine at_region ?_
          refine at_q rfl rfl (by decide) (qt_move rfl rfl) ?_
          refine at_q rfl rfl (by decide) (qt_add rfl rfl rfl (by omega) (by omega)) ?_
          refine at_q rfl rfl (by decide) (qt_assign rfl rfl) ?_
          refine at_nil ?_
          refine norm_block ?_
          refine norm_then ?_
          exact at_againc hL3 (((i + j) / 2 + 1, j)) (hq1.yes W hsG (by omega) (by omega) hr (by simpa [ltC] using c7)) (by simp only; omega) ⟨vi (by omega), rfl, rfl, rfl, rfl, rfl, rfl, trivial⟩ (fun _ h => h.upto ⟨rfl, trivial⟩)
        · try simp only [decide_eq_true_eq, decide_eq_false_iff_not, beq_iff_eq, beq_eq_false_iff_ne, Bool.not_eq_true', Bool.not_eq_false', Bool.not_true, Bool.not_false, Int.not_lt, Int.not_le, ne_eq, Nat.not_lt, Nat.not_le] at c7
          refine at_region ?_
          refine at_q rfl rfl (by decide) (qt_move rfl rfl) ?_
          refine at_q rfl rfl (by decide) (qt_assign rfl rfl) ?_
          refine at_nil ?_
          refine norm_block ?_
          refine norm_then ?_
          exact at_againc hL3 ((i, (i + j) / 2)) (hq1.no W hsG (by omega) (by omega) hr (by simpa [ltC] using c7)) (by simp only; omega) ⟨rfl, rfl, rfl, rfl, rfl, rfl, rfl, trivial⟩ (fun _ h => h.upto ⟨rfl, trivial⟩)
      · try simp only [decide_eq_true_eq, decide_eq_false_iff_not, beq_iff_eq, beq_eq_false_iff_ne, Bool.not_eq_true', Bool.not_eq_false', Bool.not_true, Bool.not_false, Int.not_lt, Int.not_le, ne_eq, Nat.not_lt, Nat.not_le] at c6
        have hij : i = j := (by omega)
        subst hij
        have hG0 : A ++ G ++ R ++ Z = A ++ (G.take G.length ++ y :: G.drop G.length) ++ Z := (by rw [hRy]; simp)
        refine at_exit ?_
        refine pass_then (fun h => by cases h) ?_
        refine pass_then (fun h => by cases h) ?_
        refine pass_hit ?_
        refine norm_then ?_
        refine at_seq ?_
        refine at_seq ?_
        refine at_region ?_
        refine at_q rfl rfl (by decide) (qt_move rfl rfl) ?_
        refine at_q rfl rfl (by decide) (qt_assign rfl rfl) ?_
        refine at_end ?_
        refine at_block ?_
        refine at_loopc (X := Nat × List Value) (fun q => i ≤ q.1 ∧ q.1 ≤ G.length ∧ q.2 = A ++ (G.take q.1 ++ y :: G.drop q.1) ++ Z) (fun q => q.1) (fun q => [(17, .int .i64 ((a + q.1 : Nat) : Int))]) (C := [(0, _), (1, _), (2, _), (3, _), (4, _), (14, _)]) ⟨rfl, rfl, rfl, rfl, rfl, rfl, trivial⟩ (fun q => [.cel b T q.2]) (G.length, A ++ G ++ R ++ Z) (⟨hle.2, Nat.le_refl _, hG0⟩) ⟨vi (by omega), rfl, rfl, rfl, rfl, rfl, rfl, trivial⟩ (fun _ h => h) ?_
        intro ⟨k, ds⟩ hk L hL4
        refine at_envE (by simp only [List.nil_append, List.cons_append]; rfl) ?_
        refine at_rsE (by first | (dsimp only; done) | (dsimp only; rfl) | rfl) ?_
        have hk1 : i ≤ k := hk.1
        have hk2 : k ≤ G.length := hk.2.1
        have hds : ds = A ++ (G.take k ++ y :: G.drop k) ++ Z := hk.2.2
        have hdl : ds.length = (A ++ G ++ R ++ Z).length := (by rw [hds, hRy]; simp; omega)
        have hmem : Up n S ds := (by rw [hds]; rw [List.append_assoc A G] at hS; refine up_mid hS (fun y hy => ?_) (by simp [hRy]; omega) (by simp; omega); simp only [hRy, List.mem_append, List.mem_cons, List.mem_singleton, List.not_mem_nil, or_false] at hy ⊢; rcases hy with h | h | h; exact .inl (List.mem_of_mem_take h); exact .inr h; exact .inl (List.mem_of_mem_drop h))
        refine at_seq ?_
        refine at_seq ?_
        refine at_region ?_
        refine at_q rfl rfl (by decide) (qt_move rfl rfl) ?_
        refine at_q rfl rfl (by decide) (qt_move rfl rfl) ?_
        refine at_q rfl rfl (by decide) (qt_gtr rfl rfl rfl) ?_
        refine at_end ?_
        refine at_cond rfl (fun c8 => ?_) (fun c8 => ?_)
        · try simp only [decide_eq_true_eq, decide_eq_false_iff_not, beq_iff_eq, beq_eq_false_iff_ne, Bool.not_eq_true', Bool.not_eq_false', Bool.not_true, Bool.not_false, Int.not_lt, Int.not_le, ne_eq, Nat.not_lt, Nat.not_le] at c8
          have hki : i < k := (by omega)
          obtain ⟨x1, u1⟩ : ∃ q, ds[a + k]? = some q := ⟨_, List.getElem?_eq_getElem (by omega)⟩
          obtain ⟨x2, u2⟩ : ∃ q, ds[a + k - 1]? = some q := ⟨_, List.getElem?_eq_getElem (by omega)⟩
          have hxo1 : [x1].all (·.oneCell') = true := by simp [hC.one x1 (hmem _ _ (by omega) u1)]
          have hxo2 : [x2].all (·.oneCell') = true := by simp [hC.one x2 (hmem _ _ (by omega) u2)]
          have hmv : (ds.set (a + k) x2).set (a + k - 1) x1 = A ++ (G.take (k - 1) ++ y :: G.drop (k - 1)) ++ Z := (by rw [← swap2_at u1 u2, hds, ← ha]; exact move_down A G Z y (by omega) hk2)
          refine at_skip ?_
          refine norm_then ?_
          refine at_seq ?_
          refine at_block ?_
          refine dg_start mixed rfl ?_
          refine dh_phase 15 17 [0] ?_
          refine dh_q (i := 0) rfl (by kernel_rfl) (by kernel_rfl) (by kernel_rfl) [] (by kernel_rfl) (fun _ _ _ h => h) rfl rfl (by decide) (fun _ h => h.upto ⟨rfl, trivial⟩) (qt_move rfl rfl) ?_
          refine dh_q (i := 1) rfl (by kernel_rfl) (by kernel_rfl) (by kernel_rfl) [] (by kernel_rfl) (fun _ _ _ h => h) rfl rfl (by decide) (fun _ h => h.upto ⟨rfl, trivial⟩) (qt_move rfl rfl) ?_
          refine dh_ql (i := 2) rfl (by kernel_rfl) (by kernel_rfl) (by kernel_rfl) [] (by kernel_rfl) (fun _ _ _ h => h) rfl rfl (by decide) (fun _ h => h.upto ⟨rfl, trivial⟩) (qt_move rfl rfl) (qt_move rfl rfl) ?_
          refine dh_ql (i := 3) rfl (by kernel_rfl) (by kernel_rfl) (by kernel_rfl) [] (by kernel_rfl) (fun _ _ _ h => h) rfl rfl (by decide) (fun _ h => h.upto ⟨rfl, trivial⟩) (qt_move rfl rfl) (qt_move rfl rfl) ?_
          refine dh_ql (i := 4) rfl (by kernel_rfl) (by kernel_rfl) (by kernel_rfl) [] (by kernel_rfl) (fun _ _ _ h => h) rfl rfl (by decide) (fun _ h => h.upto ⟨rfl, trivial⟩) ((qt_sub rfl rfl rfl (by omega) (by omega)).as (congrArg _ (show (((a + k : Nat) : Int) - 1) = ((a + k - 1 : Nat) : Int) by omega))) ((qt_sub rfl rfl rfl (by omega) (by omega)).as (congrArg _ (show (((a + k : Nat) : Int) - 1) = ((a + k - 1 : Nat) : Int) by omega))) ?_
          refine dh_q (i := 5) rfl (by kernel_rfl) (by kernel_rfl) (by kernel_rfl) [] (by kernel_rfl) (fun _ _ _ h => h) rfl rfl (by decide) (fun _ h => h.upto ⟨rfl, trivial⟩) (qt_move rfl rfl) ?_
          refine dh_q (i := 6) rfl (by kernel_rfl) (by kernel_rfl) (by kernel_rfl) [] (by kernel_rfl) (fun _ _ _ h => h) rfl rfl (by decide) (fun _ h => h.upto ⟨rfl, trivial⟩) (qt_move rfl rfl) ?_
          refine dh_q (i := 7) rfl (by kernel_rfl) (by kernel_rfl) (by kernel_rfl) [] (by kernel_rfl) (fun _ _ _ h => h) rfl rfl (by decide) (fun _ h => h.upto ⟨rfl, trivial⟩) ((qt_sub rfl rfl rfl (by omega) (by omega)).as (congrArg _ (show (((a + k : Nat) : Int) - 1) = ((a + k - 1 : Nat) : Int) by omega))) ?_
          refine dh_q (i := 8) rfl (by kernel_rfl) (by kernel_rfl) (by kernel_rfl) [] (by kernel_rfl) (fun _ _ _ h => h) rfl rfl (by decide) (fun _ h => h.upto ⟨rfl, trivial⟩) (qt_index (j := a + k - 1) rfl rfl rfl tyl_sl_impl_Ring (by omega)) ?_
          refine dh_q (i := 9) rfl (by kernel_rfl) (by kernel_rfl) (by kernel_rfl) [] (by kernel_rfl) (fun _ _ _ h => h) rfl rfl (by decide) (fun _ h => h.upto ⟨rfl, trivial⟩) (qt_loadS rfl rfl tys_impl_Ring rfl (rdS1 (k := 0) rfl u2 (by omega))) ?_
          refine dh_q (i := 10) rfl (by kernel_rfl) (by kernel_rfl) (by kernel_rfl) [12, 13] (by kernel_rfl) (fun _ _ _ h => h) rfl rfl (by decide) (fun _ h => h.upto ⟨rfl, trivial⟩) (qt_move rfl rfl) ?_
          refine dh_q (i := 11) rfl (by kernel_rfl) (by kernel_rfl) (by kernel_rfl) [12, 13] (by kernel_rfl) (fun _ _ _ h => h) rfl rfl (by decide) (fun _ h => h.upto ⟨rfl, trivial⟩) (qt_move rfl rfl) ?_
          refine dh_q (i := 12) rfl (by kernel_rfl) (by kernel_rfl) (by kernel_rfl) [13] (by kernel_rfl) (fun _ _ _ h => h) rfl rfl (by decide) (fun _ h => h.upto ⟨rfl, trivial⟩) (qt_index (j := a + k) rfl rfl rfl tyl_sl_impl_Ring (by omega)) ?_
          refine dh_q (i := 13) rfl (by kernel_rfl) (by kernel_rfl) (by kernel_rfl) [] (by kernel_rfl) (fun _ _ _ h => h) rfl rfl (by decide) (fun _ h => h.upto ⟨rfl, trivial⟩) (qt_loadS rfl rfl tys_impl_Ring rfl (rdS1 (k := 0) rfl u1 (by omega))) ?_
          refine dh_q (i := 14) rfl (by kernel_rfl) (by kernel_rfl) (by kernel_rfl) [] (by kernel_rfl) (fun _ _ _ h => h) rfl rfl (by decide) (fun _ h => h.upto ⟨rfl, trivial⟩) (qt_index (j := a + k) rfl rfl rfl tyl_sl_impl_Ring (by omega)) ?_
          refine dh_bar rfl (by kernel_rfl) rfl ?_
          refine op_store (k := 0) rfl rfl rfl rfl rfl hxo2 tyz_impl_Ring.szx rfl rfl (by simp; omega) ?_
          refine dr_keep (fun _ h => (h.wk [0]).upto ⟨rfl, trivial⟩) ?_
          refine at_rsE (by simp only [List.nil_append, List.cons_append, List.set_cons_zero, List.set_cons_succ, Value.cells, List.toList_toArray]; rfl) ?_
          refine dg_q (i := 16) rfl (by kernel_rfl) (by kernel_rfl) (by kernel_rfl) [] (by kernel_rfl) (fun _ _ _ h => h) rfl rfl (by decide) (fun _ h => (h.wk [0]).upto ⟨rfl, trivial⟩) (qt_index (j := a + k - 1) rfl rfl rfl tyl_sl_impl_Ring (by omega)) ?_
          refine dg_bar rfl (by kernel_rfl) rfl ?_
          refine op_store (k := 0) rfl rfl rfl rfl rfl hxo1 tyz_impl_Ring.szx rfl rfl (by rw [splice_len]; simp; omega) ?_
          refine dg_end (by kernel_rfl) ?_
          refine norm_block ?_
          refine norm_then ?_
          refine at_region ?_
          refine at_q rfl rfl (by decide) (qt_move rfl rfl) ?_
          refine at_q rfl rfl (by decide) (qt_sub rfl rfl rfl (by omega) (by omega)) ?_
          refine at_q rfl rfl (by decide) (qt_assign rfl rfl) ?_
          refine at_end ?_
          exact at_againc hL4 ((k - 1, _)) (⟨show i ≤ k - 1 by omega, show k - 1 ≤ G.length by omega, (by show List.set (List.set ds _ _) _ _ = _; simpa only [splice, Nat.zero_add, Nat.mul_one] using hmv)⟩) (by simp only; omega) ⟨vi (by omega), rfl, rfl, rfl, rfl, rfl, rfl, trivial⟩ (fun _ h => h.upto ⟨rfl, trivial⟩)
        · try simp only [decide_eq_true_eq, decide_eq_false_iff_not, beq_iff_eq, beq_eq_false_iff_ne, Bool.not_eq_true', Bool.not_eq_false', Bool.not_true, Bool.not_false, Int.not_lt, Int.not_le, ne_eq, Nat.not_lt, Nat.not_le] at c8
          have hki : k = i := (by omega)
          subst hki
          refine at_exit ?_
          refine pass_then (fun h => by cases h) ?_
          refine pass_then (fun h => by cases h) ?_
          refine pass_hit ?_
          refine norm_then ?_
          refine at_retc ?_
          refine then_ret ?_
          refine at_ret0 rfl ?_
          intro w' hs
          exact ⟨rfl, hs.over.wr, by rw [hRy, hq1.fin, ← hds]; exact hs.cel (k := 0) rfl⟩
    · try simp only [decide_eq_true_eq, decide_eq_false_iff_not, beq_iff_eq, beq_eq_false_iff_ne, Bool.not_eq_true', Bool.not_eq_false', Bool.not_true, Bool.not_false, Int.not_lt, Int.not_le, ne_eq, Nat.not_lt, Nat.not_le] at c5
      refine at_skip ?_
      refine norm_then ?_
      refine at_seq ?_
      obtain ⟨h, hh2⟩ : ∃ h, h = (G.length + R.length) / 2 := ⟨_, rfl⟩
      have hG2 : 2 ≤ G.length := (by omega)
      have hR2 : 2 ≤ R.length := (by omega)
      have hone : Up n (fun x => x.oneCell' = true) (A ++ G ++ R ++ Z) := hS.mono hC.one
      refine at_region ?_
      refine at_q rfl rfl (by decide) (qt_move rfl rfl) ?_
      refine at_q rfl rfl (by decide) (qt_move rfl rfl) ?_
      refine at_q rfl rfl (by decide) (qt_add rfl rfl rfl (by omega) (by omega)) ?_
      refine at_q rfl rfl (by decide) (qt_convI rfl Try.underlying3 Try.underlying116 rfl (u64_in _ (by omega) (by omega))) ?_
      refine at_q rfl rfl (by decide) (qt_shrU (q := 1) rfl rfl rfl (by decide) (by decide)) ?_
      refine at_q rfl rfl (by decide) ((qt_convI rfl Try.underlying116 Try.underlying3 rfl (wrapI64 _ (by simp; omega) (by simp; omega))).as (congrArg _ (show (((a : Int) + (e_ : Int)) / 2 ^ (Int.toNat 1)) = ((a + h : Nat) : Int) by simp; omega))) ?_
      refine at_q rfl rfl (by decide) (qt_assign rfl rfl) ?_
      refine at_end ?_
      refine at_seq ?_
      refine at_region ?_
      refine at_q rfl rfl (by decide) (qt_move rfl rfl) ?_
      refine at_q rfl rfl (by decide) (qt_move rfl rfl) ?_
      refine at_q rfl rfl (by decide) ((qt_add rfl rfl rfl (by omega) (by omega)).as (congrArg _ (show (((a + h : Nat) : Int) + (m : Int)) = ((a + h + m : Nat) : Int) by omega))) ?_
      refine at_q rfl rfl (by decide) (qt_assign rfl rfl) ?_
      refine at_end ?_
      refine at_seq ?_
      refine at_region ?_
      refine at_q rfl rfl (by decide) (qt_assign rfl rfl) ?_
      refine at_q rfl rfl (by decide) (qt_assign rfl rfl) ?_
      refine at_end ?_
      refine at_cutE [(20, .int .i64 ((a + (h - R.length) : Nat) : Int)), (21, .int .i64 ((a + min G.length h : Nat) : Int))] (C := [(0, _), (1, _), (2, _), (3, _), (4, _), (18, _), (19, _)])  ⟨rfl, rfl, rfl, rfl, rfl, rfl, rfl, trivial⟩ (fun L hC_cutif_t140 => ?_) ?_
      · refine at_seq ?_
        refine at_region ?_
        refine at_q rfl rfl (by decide) (qt_move rfl rfl) ?_
        refine at_q rfl rfl (by decide) (qt_move rfl rfl) ?_
        refine at_q rfl rfl (by decide) (qt_gtr rfl rfl rfl) ?_
        refine at_end ?_
        refine at_cond rfl (fun c9 => ?_) (fun c9 => ?_)
        · try simp only [decide_eq_true_eq, decide_eq_false_iff_not, beq_iff_eq, beq_eq_false_iff_ne, Bool.not_eq_true', Bool.not_eq_false', Bool.not_true, Bool.not_false, Int.not_lt, Int.not_le, ne_eq, Nat.not_lt, Nat.not_le] at c9
          refine at_seq ?_
          refine at_region ?_
          refine at_q rfl rfl (by decide) (qt_move rfl rfl) ?_
          refine at_q rfl rfl (by decide) (qt_move rfl rfl) ?_
          refine at_q rfl rfl (by decide) (qt_sub rfl rfl rfl (by omega) (by omega)) ?_
          refine at_q rfl rfl (by decide) (qt_assign rfl rfl) ?_
          refine at_end ?_
          refine at_region ?_
          refine at_q rfl rfl (by decide) (qt_move rfl rfl) ?_
          refine at_q rfl rfl (by decide) (qt_assign rfl rfl) ?_
          refine at_end ?_
          exact at_meet hC_cutif_t140 ⟨vi (by omega), vi (by omega), rfl, rfl, rfl, rfl, rfl, rfl, rfl, trivial⟩ (fun _ h => h.upto ⟨rfl, trivial⟩)
        · try simp only [decide_eq_true_eq, decide_eq_false_iff_not, beq_iff_eq, beq_eq_false_iff_ne, Bool.not_eq_true', Bool.not_eq_false', Bool.not_true, Bool.not_false, Int.not_lt, Int.not_le, ne_eq, Nat.not_lt, Nat.not_le] at c9
          refine at_seq ?_
          refine at_region ?_
          refine at_q rfl rfl (by decide) (qt_move rfl rfl) ?_
          refine at_q rfl rfl (by decide) (qt_assign rfl rfl) ?_
          refine at_end ?_
          refine at_region ?_
          refine at_q rfl rfl (by decide) (qt_move rfl rfl) ?_
          refine at_q rfl rfl (by decide) (qt_assign rfl rfl) ?_
          refine at_end ?_
          exact at_meet hC_cutif_t140 ⟨vi (by omega), vi (by omega), rfl, rfl, rfl, rfl, rfl, rfl, rfl, trivial⟩ (fun _ h => h.upto ⟨rfl, trivial⟩)
      · refine at_envE (by simp only [List.nil_append, List.cons_append]; rfl) ?_
        refine at_seq ?_
        refine at_region ?_
        refine at_q rfl rfl (by decide) (qt_move rfl rfl) ?_
        refine at_q rfl rfl (by decide) ((qt_sub rfl rfl rfl (by omega) (by omega)).as (congrArg _ (show (((a + h + m : Nat) : Int) - 1) = ((a + h + m - 1 : Nat) : Int) by omega))) ?_
        refine at_q rfl rfl (by decide) (qt_assign rfl rfl) ?_
        refine at_end ?_
        refine at_seq ?_
        refine at_block ?_
        refine at_loopc (X := Nat × Nat) (fun q => GI (ltC cr) G R h q.1 q.2) (fun q => q.2 - q.1) (fun q => [(20, .int .i64 ((a + q.1 : Nat) : Int)), (21, .int .i64 ((a + q.2 : Nat) : Int))]) (C := [(0, _), (1, _), (2, _), (3, _), (4, _), (18, _), (19, _), (22, _)]) ⟨rfl, rfl, rfl, rfl, rfl, rfl, rfl, rfl, trivial⟩ (fun q => [.cel b T (A ++ G ++ R ++ Z)]) (h - R.length, min G.length h) (GI.start hh2) ⟨rfl, rfl, rfl, rfl, rfl, rfl, rfl, rfl, rfl, rfl, trivial⟩ (fun _ h => h) ?_
        intro ⟨sg, ug⟩ hq L hL5
        refine at_envE (by simp only [List.nil_append, List.cons_append]; rfl) ?_
        refine at_rsE (by first | (dsimp only; done) | (dsimp only; rfl) | rfl) ?_
        have hq1 : GI (ltC cr) G R h sg ug := hq
        have hle := hq1.b
        refine at_seq ?_
        refine at_seq ?_
        refine at_region ?_
        refine at_q rfl rfl (by decide) (qt_move rfl rfl) ?_
        refine at_q rfl rfl (by decide) (qt_move rfl rfl) ?_
        refine at_q rfl rfl (by decide) (qt_lss rfl rfl rfl) ?_
        refine at_end ?_
        refine at_cond rfl (fun c10 => ?_) (fun c10 => ?_)
        · try simp only [decide_eq_true_eq, decide_eq_false_iff_not, beq_iff_eq, beq_eq_false_iff_ne, Bool.not_eq_true', Bool.not_eq_false', Bool.not_true, Bool.not_false, Int.not_lt, Int.not_le, ne_eq, Nat.not_lt, Nat.not_le] at c10
          have hij : sg < ug := (by omega)
          obtain ⟨x, hx⟩ : ∃ r, G[(sg + ug) / 2]? = some r := ⟨_, List.getElem?_eq_getElem (by omega)⟩
          obtain ⟨y, hy⟩ : ∃ r, R[h - (sg + ug) / 2 - 1]? = some r := ⟨_, List.getElem?_eq_getElem (by omega)⟩
          have hxa : (A ++ G ++ R ++ Z)[a + (sg + ug) / 2]? = some x := (hGat _ (by omega)).trans hx
          have hya : (A ++ G ++ R ++ Z)[m + (h - (sg + ug) / 2 - 1)]? = some y := (hRat _ (by omega)).trans hy
          have hSx : S x := hS _ x (by omega) hxa
          have hSy : S y := hS _ y (by omega) hya
          refine at_skip ?_
          refine norm_then ?_
          refine at_block ?_
          refine at_seq ?_
          refine at_region ?_
          refine at_q rfl rfl (by decide) (qt_move rfl rfl) ?_
          refine at_q rfl rfl (by decide) (qt_move rfl rfl) ?_
          refine at_q rfl rfl (by decide) (qt_add rfl rfl rfl (by omega) (by omega)) ?_
          refine at_q rfl rfl (by decide) (qt_convI rfl Try.underlying3 Try.underlying116 rfl (u64_in _ (by omega) (by omega))) ?_
          refine at_q rfl rfl (by decide) (qt_shrU (q := 1) rfl rfl rfl (by decide) (by decide)) ?_
          refine at_q rfl rfl (by decide) ((qt_convI rfl Try.underlying116 Try.underlying3 rfl (wrapI64 _ (by simp; omega) (by simp; omega))).as (congrArg _ (show ((((a + sg : Nat) : Int) + ((a + ug : Nat) : Int)) / 2 ^ (Int.toNat 1)) = ((a + (sg + ug) / 2 : Nat) : Int) by simp; omega))) ?_
          refine at_q rfl rfl (by decide) (qt_assign rfl rfl) ?_
          refine at_end ?_
          refine at_seq ?_
          refine dg_start mixed rfl ?_
          refine dg_phase 14 ?_
          refine dg_q (i := 0) rfl (by kernel_rfl) (by kernel_rfl) (by kernel_rfl) [] (by kernel_rfl) (fun _ _ _ h => h) rfl rfl (by decide) (fun _ h => h.upto ⟨rfl, trivial⟩) (qt_move rfl rfl) ?_
          refine dg_q (i := 1) rfl (by kernel_rfl) (by kernel_rfl) (by kernel_rfl) [] (by kernel_rfl) (fun _ _ _ h => h) rfl rfl (by decide) (fun _ h => h.upto ⟨rfl, trivial⟩) (qt_move rfl rfl) ?_
          refine dg_q (i := 2) rfl (by kernel_rfl) (by kernel_rfl) (by kernel_rfl) [] (by kernel_rfl) (fun _ _ _ h => h) rfl rfl (by decide) (fun _ h => h.upto ⟨rfl, trivial⟩) (qt_move rfl rfl) ?_
          refine dg_q (i := 3) rfl (by kernel_rfl) (by kernel_rfl) (by kernel_rfl) [] (by kernel_rfl) (fun _ _ _ h => h) rfl rfl (by decide) (fun _ h => h.upto ⟨rfl, trivial⟩) (qt_move rfl rfl) ?_
          refine dg_q (i := 4) rfl (by kernel_rfl) (by kernel_rfl) (by kernel_rfl) [] (by kernel_rfl) (fun _ _ _ h => h) rfl rfl (by decide) (fun _ h => h.upto ⟨rfl, trivial⟩) ((qt_sub rfl rfl rfl (by omega) (by omega)).as (congrArg _ (show (((a + h + m - 1 : Nat) : Int) - ((a + (sg + ug) / 2 : Nat) : Int)) = ((m + (h - (sg + ug) / 2 - 1) : Nat) : Int) by omega))) ?_
          refine dg_q (i := 5) rfl (by kernel_rfl) (by kernel_rfl) (by kernel_rfl) [] (by kernel_rfl) (fun _ _ _ h => h) rfl rfl (by decide) (fun _ h => h.upto ⟨rfl, trivial⟩) (qt_index (j := m + (h - (sg + ug) / 2 - 1)) rfl rfl rfl tyl_sl_impl_Ring (by omega)) ?_
          refine dg_q (i := 6) rfl (by kernel_rfl) (by kernel_rfl) (by kernel_rfl) [] (by kernel_rfl) (fun _ _ _ h => h) rfl rfl (by decide) (fun _ h => h.upto ⟨rfl, trivial⟩) (qt_loadS rfl rfl tys_impl_Ring rfl (rdS1 (k := 0) rfl hya (by omega))) ?_
          refine dg_q (i := 7) rfl (by kernel_rfl) (by kernel_rfl) (by kernel_rfl) [] (by kernel_rfl) (fun _ _ _ h => h) rfl rfl (by decide) (fun _ h => h.upto ⟨rfl, trivial⟩) (qt_move rfl rfl) ?_
          refine dg_q (i := 8) rfl (by kernel_rfl) (by kernel_rfl) (by kernel_rfl) [] (by kernel_rfl) (fun _ _ _ h => h) rfl rfl (by decide) (fun _ h => h.upto ⟨rfl, trivial⟩) (qt_move rfl rfl) ?_
          refine dg_q (i := 9) rfl (by kernel_rfl) (by kernel_rfl) (by kernel_rfl) [] (by kernel_rfl) (fun _ _ _ h => h) rfl rfl (by decide) (fun _ h => h.upto ⟨rfl, trivial⟩) (qt_index (j := a + (sg + ug) / 2) rfl rfl rfl tyl_sl_impl_Ring (by omega)) ?_
          refine dg_q (i := 10) rfl (by kernel_rfl) (by kernel_rfl) (by kernel_rfl) [] (by kernel_rfl) (fun _ _ _ h => h) rfl rfl (by decide) (fun _ h => h.upto ⟨rfl, trivial⟩) (qt_loadS rfl rfl tys_impl_Ring rfl (rdS1 (k := 0) rfl hxa (by omega))) ?_
          refine dg_q (i := 11) rfl (by kernel_rfl) (by kernel_rfl) (by kernel_rfl) [] (by kernel_rfl) (fun _ _ _ h => h) rfl rfl (by decide) (fun _ h => h.upto ⟨rfl, trivial⟩) (qt_callk ok_impl_orderRings_1 rfl rfl rfl (fun w1 h1 => hC.call y hSy x hSx w1 h1.over)) ?_
          refine dg_q (i := 12) rfl (by kernel_rfl) (by kernel_rfl) (by kernel_rfl) [] (by kernel_rfl) (fun _ _ _ h => h) rfl rfl (by decide) (fun _ h => h.upto ⟨rfl, trivial⟩) (qt_lss rfl rfl rfl) ?_
          refine dg_q (i := 13) rfl (by kernel_rfl) (by kernel_rfl) (by kernel_rfl) [] (by kernel_rfl) (fun _ _ _ h => h) rfl rfl (by decide) (fun _ h => h.upto ⟨rfl, trivial⟩) (qt_not rfl rfl) ?_
          refine dg_done (by kernel_rfl) ?_
          refine norm_then ?_
          refine at_cond rfl (fun c11 => ?_) (fun c11 => ?_)
          · try simp only [decide_eq_true_eq, decide_eq_false_iff_not, beq_iff_eq, beq_eq_false_iff_ne, Bool.not_eq_true', Bool.not_eq_false', Bool.not_true, Bool.not_false, Int.not_lt, Int.not_le, ne_eq, Nat.not_lt, Nat.not_le] at c11
            refine at_region ?_
            refine at_q rfl rfl (by decide) (qt_move rfl rfl) ?_
            refine at_q rfl rfl (by decide) (qt_add rfl rfl rfl (by omega) (by omega)) ?_
            refine at_q rfl rfl (by decide) (qt_assign rfl rfl) ?_
            refine at_nil ?_
            refine norm_block ?_
            refine norm_then ?_
            exact at_againc hL5 (((sg + ug) / 2 + 1, ug)) (hq1.yes (by omega) (by omega) hx hy (by simpa [ltC] using c11)) (by simp only; omega) ⟨vi (by omega), rfl, rfl, rfl, rfl, rfl, rfl, rfl, rfl, rfl, trivial⟩ (fun _ h => h.upto ⟨rfl, trivial⟩)
          · try simp only [decide_eq_true_eq, decide_eq_false_iff_not, beq_iff_eq, beq_eq_false_iff_ne, Bool.not_eq_true', Bool.not_eq_false', Bool.not_true, Bool.not_false, Int.not_lt, Int.not_le, ne_eq, Nat.not_lt, Nat.not_le] at c11
            refine at_region ?_
            refine at_q rfl rfl (by decide) (qt_move rfl rfl) ?_
            refine at_q rfl rfl (by decide) (qt_assign rfl rfl) ?_
            refine at_nil ?_
            refine norm_block ?_
            refine norm_then ?_
            exact at_againc hL5 ((sg, (sg + ug) / 2)) (hq1.no (by omega) (by omega) hx hy (by simpa [ltC] using c11)) (by simp only; omega) ⟨rfl, rfl, rfl, rfl, rfl, rfl, rfl, rfl, rfl, rfl, trivial⟩ (fun _ h => h.upto ⟨rfl, trivial⟩)
        · try simp only [decide_eq_true_eq, decide_eq_false_iff_not, beq_iff_eq, beq_eq_false_iff_ne, Bool.not_eq_true', Bool.not_eq_false', Bool.not_true, Bool.not_false, Int.not_lt, Int.not_le, ne_eq, Nat.not_lt, Nat.not_le] at c10
          have hij : sg = ug := (by omega)
          subst hij
          have hsG1 : Srt (ltC cr) (G.take sg) := hsG.sublist (List.take_sublist _ _)
          have hsG2 : Srt (ltC cr) (G.drop sg) := hsG.sublist (List.drop_sublist _ _)
          have hsR1 : Srt (ltC cr) (R.take (h - sg)) := hsR.sublist (List.take_sublist _ _)
          have hsR2 : Srt (ltC cr) (R.drop (h - sg)) := hsR.sublist (List.drop_sublist _ _)
          have hfin := hq1.fin W hsG hsR
          have hl1 : (A ++ (G.take sg ++ R.take (h - sg)) ++ (G.drop sg ++ R.drop (h - sg)) ++ Z).length = (A ++ G ++ R ++ Z).length := (by rw [← rot_eq2, rot_eq1 (G := G) (R := R) (s := sg) (t := h - sg)]; simp only [List.length_append]; omega)
          have hS1 : Up n S (A ++ (G.take sg ++ R.take (h - sg)) ++ (G.drop sg ++ R.drop (h - sg)) ++ Z) := (by rw [List.append_assoc A G] at hS; rw [List.append_assoc A (G.take sg ++ R.take (h - sg))]; refine up_mid hS (fun y hy => ?_) (by simp; omega) (by simp; omega); simp only [List.mem_append] at hy ⊢; rcases hy with (hy | hy) | (hy | hy); exact .inl (List.mem_of_mem_take hy); exact .inr (List.mem_of_mem_take hy); exact .inl (List.mem_of_mem_drop hy); exact .inr (List.mem_of_mem_drop hy))
          have hl2 : (A ++ mrg (ltC cr) (G.take sg) (R.take (h - sg)) ++ (G.drop sg ++ R.drop (h - sg)) ++ Z).length = (A ++ G ++ R ++ Z).length := (by rw [← hl1]; simp only [List.length_append, mrg_len])
          have hS2 : Up n S (A ++ mrg (ltC cr) (G.take sg) (R.take (h - sg)) ++ (G.drop sg ++ R.drop (h - sg)) ++ Z) := (by rw [List.append_assoc (A ++ _)] at hS1 ⊢; exact up_mid hS1 (fun y hy => List.mem_append.2 ((mrg_mem _ _ y).1 hy)) (by simp [mrg_len]) (by simp; omega))
          refine at_exit ?_
          refine pass_then (fun h => by cases h) ?_
          refine pass_then (fun h => by cases h) ?_
          refine pass_hit ?_
          refine norm_then ?_
          refine at_seq ?_
          refine at_region ?_
          refine at_q rfl rfl (by decide) (qt_move rfl rfl) ?_
          refine at_q rfl rfl (by decide) (qt_move rfl rfl) ?_
          refine at_q rfl rfl (by decide) ((qt_sub rfl rfl rfl (by omega) (by omega)).as (congrArg _ (show (((a + h + m : Nat) : Int) - ((a + sg : Nat) : Int)) = ((m + (h - sg) : Nat) : Int) by omega))) ?_
          refine at_q rfl rfl (by decide) (qt_assign rfl rfl) ?_
          refine at_end ?_
          refine at_cut [] (C := [(0, _), (1, _), (3, _), (4, _), (18, _), (20, _), (24, _)]) ([.cel b T (A ++ (G.take sg ++ R.take (h - sg)) ++ (G.drop sg ++ R.drop (h - sg)) ++ Z)]) ⟨rfl, rfl, rfl, rfl, rfl, rfl, rfl, trivial⟩ (fun L hC_cutif_t185 => ?_) ?_
          · refine at_cutE [(185, .bool (decide (sg < G.length) && decide (sg < h)))] (C := [(0, _), (1, _), (2, _), (3, _), (4, _), (18, _), (20, _), (24, _)])  ⟨rfl, rfl, rfl, rfl, rfl, rfl, rfl, rfl, trivial⟩ (fun L hC_cut_39 => ?_) ?_
            · refine at_region ?_
              refine at_q rfl rfl (by decide) (qt_move rfl rfl) ?_
              refine at_q rfl rfl (by decide) (qt_move rfl rfl) ?_
              refine at_q rfl rfl (by decide) (qt_lss rfl rfl rfl) ?_
              refine at_q rfl rfl (by decide) (qt_move rfl rfl) ?_
              refine at_bsplit 181 rfl (fun g1 => ?_) (fun g1 => ?_)
              · try simp only [decide_eq_true_eq, decide_eq_false_iff_not, beq_iff_eq, beq_eq_false_iff_ne, Bool.not_eq_true', Bool.not_eq_false', Bool.not_true, Bool.not_false, Int.not_lt, Int.not_le, ne_eq, Nat.not_lt, Nat.not_le] at g1
                refine at_on rfl rfl rfl rfl ?_
                refine op_q rfl (by decide) (qt_move rfl rfl) ?_
                refine at_on rfl rfl rfl rfl ?_
                refine op_q rfl (by decide) (qt_move rfl rfl) ?_
                refine at_on rfl rfl rfl rfl ?_
                refine op_q rfl (by decide) (qt_lss rfl rfl rfl) ?_
                refine at_q rfl rfl (by decide) (qt_pickT rfl rfl rfl) ?_
                refine at_end ?_
                exact at_meet hC_cut_39 ⟨vb (by rw [show decide (sg < G.length) = true from decide_eq_true (by omega), Bool.true_and]; exact decide_eq_decide.2 (by omega)), rfl, rfl, rfl, rfl, rfl, rfl, rfl, rfl, trivial⟩ (fun _ h => h.upto ⟨rfl, trivial⟩)
              · try simp only [decide_eq_true_eq, decide_eq_false_iff_not, beq_iff_eq, beq_eq_false_iff_ne, Bool.not_eq_true', Bool.not_eq_false', Bool.not_true, Bool.not_false, Int.not_lt, Int.not_le, ne_eq, Nat.not_lt, Nat.not_le] at g1
                refine at_off rfl rfl rfl rfl (by decide) rfl (by decide) ?_
                refine at_off rfl rfl rfl rfl (by decide) rfl (by decide) ?_
                refine at_off rfl rfl rfl rfl (by decide) rfl (by decide) ?_
                refine at_q rfl rfl (by decide) (qt_pickF rfl rfl rfl) ?_
                refine at_end ?_
                exact at_meet hC_cut_39 ⟨vb (by rw [show decide (sg < G.length) = false from decide_eq_false (by omega), Bool.false_and]), rfl, rfl, rfl, rfl, rfl, rfl, rfl, rfl, trivial⟩ (fun _ h => h.upto ⟨rfl, trivial⟩)
            · refine at_envE (by simp only [List.nil_append, List.cons_append]; rfl) ?_
              refine at_cond rfl (fun c12 => ?_) (fun c12 => ?_)
              · try simp only [decide_eq_true_eq, decide_eq_false_iff_not, beq_iff_eq, beq_eq_false_iff_ne, Bool.not_eq_true', Bool.not_eq_false', Bool.not_true, Bool.not_false, Int.not_lt, Int.not_le, ne_eq, Nat.not_lt, Nat.not_le] at c12
                simp only [Bool.and_eq_true, decide_eq_true_eq] at c12
                refine at_region ?_
                refine at_q rfl rfl (by decide) (qt_move rfl rfl) ?_
                refine at_q rfl rfl (by decide) (qt_move rfl rfl) ?_
                refine at_q rfl rfl (by decide) (qt_move rfl rfl) ?_
                refine at_q rfl rfl (by decide) (qt_move rfl rfl) ?_
                refine at_q rfl rfl (by decide) (qt_move rfl rfl) ?_
                refine at_op rfl ?_
                refine op_callm (k := 0) ok_slices_rotateCmpFunc_impl_Ring rfl rfl rfl (by decide) rfl (fun w1 h1 => rotate_cells b T (A ++ G.take sg) (G.drop sg) (R.take (h - sg)) (R.drop (h - sg) ++ Z) n c (a + sg) m (m + (h - sg)) _ w1 ((h1.cel (k := 0) rfl).trans (cells_eq rot_eq1)) (by simp; omega) (by simp; omega) (by simp; omega) (by simp; omega) (by simp; omega) (by omega) (by rw [← rot_eq1]; omega) hn (by rw [← rot_eq1]; exact hone)) ?_
                refine at_rsE (by simp only [List.nil_append, List.cons_append, List.set_cons_zero, List.set_cons_succ, Value.cells, List.toList_toArray]; rfl) ?_
                rw [rot_eq2]
                refine at_end ?_
                exact at_meet hC_cutif_t185 ⟨rfl, rfl, rfl, rfl, rfl, rfl, rfl, trivial⟩ (fun _ h => h.upto ⟨rfl, trivial⟩)
              · try simp only [decide_eq_true_eq, decide_eq_false_iff_not, beq_iff_eq, beq_eq_false_iff_ne, Bool.not_eq_true', Bool.not_eq_false', Bool.not_true, Bool.not_false, Int.not_lt, Int.not_le, ne_eq, Nat.not_lt, Nat.not_le] at c12
                rw [show A ++ G ++ R ++ Z = A ++ (G.take sg ++ R.take (h - sg)) ++ (G.drop sg ++ R.drop (h - sg)) ++ Z from rot_no (by simp at c12; omega)]
                refine at_skip ?_
                refine norm_then ?_
                exact at_meet hC_cutif_t185 ⟨rfl, rfl, rfl, rfl, rfl, rfl, rfl, trivial⟩ (fun _ h => h.upto ⟨rfl, trivial⟩)
          · refine at_envE (by simp only [List.nil_append, List.cons_append]; rfl) ?_
            refine at_cut [] (C := [(0, _), (3, _), (4, _), (18, _), (24, _)]) ([.cel b T (A ++ mrg (ltC cr) (G.take sg) (R.take (h - sg)) ++ (G.drop sg ++ R.drop (h - sg)) ++ Z)]) ⟨rfl, rfl, rfl, rfl, rfl, trivial⟩ (fun L hC_cutif_t199 => ?_) ?_
            · refine at_cutE [(199, .bool (decide (0 < sg) && decide (sg < h)))] (C := [(0, _), (1, _), (3, _), (4, _), (18, _), (20, _), (24, _)])  ⟨rfl, rfl, rfl, rfl, rfl, rfl, rfl, trivial⟩ (fun L hC_cut_41 => ?_) ?_
              · refine at_region ?_
                refine at_q rfl rfl (by decide) (qt_move rfl rfl) ?_
                refine at_q rfl rfl (by decide) (qt_move rfl rfl) ?_
                refine at_q rfl rfl (by decide) (qt_lss rfl rfl rfl) ?_
                refine at_q rfl rfl (by decide) (qt_move rfl rfl) ?_
                refine at_bsplit 195 rfl (fun g2 => ?_) (fun g2 => ?_)
                · try simp only [decide_eq_true_eq, decide_eq_false_iff_not, beq_iff_eq, beq_eq_false_iff_ne, Bool.not_eq_true', Bool.not_eq_false', Bool.not_true, Bool.not_false, Int.not_lt, Int.not_le, ne_eq, Nat.not_lt, Nat.not_le] at g2
                  refine at_on rfl rfl rfl rfl ?_
                  refine op_q rfl (by decide) (qt_move rfl rfl) ?_
                  refine at_on rfl rfl rfl rfl ?_
                  refine op_q rfl (by decide) (qt_move rfl rfl) ?_
                  refine at_on rfl rfl rfl rfl ?_
                  refine op_q rfl (by decide) (qt_lss rfl rfl rfl) ?_
                  refine at_q rfl rfl (by decide) (qt_pickT rfl rfl rfl) ?_
                  refine at_end ?_
                  exact at_meet hC_cut_41 ⟨vb (by rw [show decide (0 < sg) = true from decide_eq_true (by omega), Bool.true_and]; exact decide_eq_decide.2 (by omega)), rfl, rfl, rfl, rfl, rfl, rfl, rfl, trivial⟩ (fun _ h => h.upto ⟨rfl, trivial⟩)
                · try simp only [decide_eq_true_eq, decide_eq_false_iff_not, beq_iff_eq, beq_eq_false_iff_ne, Bool.not_eq_true', Bool.not_eq_false', Bool.not_true, Bool.not_false, Int.not_lt, Int.not_le, ne_eq, Nat.not_lt, Nat.not_le] at g2
                  refine at_off rfl rfl rfl rfl (by decide) rfl (by decide) ?_
                  refine at_off rfl rfl rfl rfl (by decide) rfl (by decide) ?_
                  refine at_off rfl rfl rfl rfl (by decide) rfl (by decide) ?_
                  refine at_q rfl rfl (by decide) (qt_pickF rfl rfl rfl) ?_
                  refine at_end ?_
                  exact at_meet hC_cut_41 ⟨vb (by rw [show decide (0 < sg) = false from decide_eq_false (by omega), Bool.false_and]), rfl, rfl, rfl, rfl, rfl, rfl, rfl, trivial⟩ (fun _ h => h.upto ⟨rfl, trivial⟩)
              · refine at_envE (by simp only [List.nil_append, List.cons_append]; rfl) ?_
                refine at_cond rfl (fun c13 => ?_) (fun c13 => ?_)
                · try simp only [decide_eq_true_eq, decide_eq_false_iff_not, beq_iff_eq, beq_eq_false_iff_ne, Bool.not_eq_true', Bool.not_eq_false', Bool.not_true, Bool.not_false, Int.not_lt, Int.not_le, ne_eq, Nat.not_lt, Nat.not_le] at c13
                  simp only [Bool.and_eq_true, decide_eq_true_eq] at c13
                  refine at_region ?_
                  refine at_q rfl rfl (by decide) (qt_move rfl rfl) ?_
                  refine at_q rfl rfl (by decide) (qt_move rfl rfl) ?_
                  refine at_q rfl rfl (by decide) (qt_move rfl rfl) ?_
                  refine at_q rfl rfl (by decide) (qt_move rfl rfl) ?_
                  refine at_q rfl rfl (by decide) (qt_move rfl rfl) ?_
                  refine at_op rfl ?_
                  refine op_callm (k := 0) ok_slices_symMergeCmpFunc_impl_Ring rfl rfl rfl (by decide) rfl (fun w1 h1 => ih A (G.take sg) (R.take (h - sg)) (G.drop sg ++ R.drop (h - sg) ++ Z) a (a + sg) (a + h) w1 (by simp; omega) (hC.over h1.over) ((h1.cel (k := 0) rfl).trans (cells_eq mg1_eq1)) ha (by simp; omega) (by simp; omega) (by simp; omega) (by simp; omega) (by omega) (by rw [← mg1_eq1]; omega) hsG1 hsR1 (by rw [← mg1_eq1]; exact hS1)) ?_
                  refine at_rsE (by simp only [List.nil_append, List.cons_append, List.set_cons_zero, List.set_cons_succ, Value.cells, List.toList_toArray]; rfl) ?_
                  rw [mg1_eq2]
                  refine at_end ?_
                  exact at_meet hC_cutif_t199 ⟨rfl, rfl, rfl, rfl, rfl, trivial⟩ (fun _ h => h.upto ⟨rfl, trivial⟩)
                · try simp only [decide_eq_true_eq, decide_eq_false_iff_not, beq_iff_eq, beq_eq_false_iff_ne, Bool.not_eq_true', Bool.not_eq_false', Bool.not_true, Bool.not_false, Int.not_lt, Int.not_le, ne_eq, Nat.not_lt, Nat.not_le] at c13
                  rw [show G.take sg ++ R.take (h - sg) = mrg (ltC cr) (G.take sg) (R.take (h - sg)) from mg1_no (by simp at c13; omega)]
                  refine at_skip ?_
                  refine norm_then ?_
                  exact at_meet hC_cutif_t199 ⟨rfl, rfl, rfl, rfl, rfl, trivial⟩ (fun _ h => h.upto ⟨rfl, trivial⟩)
            · refine at_envE (by simp only [List.nil_append, List.cons_append]; rfl) ?_
              refine at_cutE [(213, .bool (decide (sg < G.length) && decide (h - sg < R.length)))] (C := [(0, _), (3, _), (4, _), (18, _), (24, _)])  ⟨rfl, rfl, rfl, rfl, rfl, trivial⟩ (fun L hC_cut_43 => ?_) ?_
              · refine at_region ?_
                refine at_q rfl rfl (by decide) (qt_move rfl rfl) ?_
                refine at_q rfl rfl (by decide) (qt_move rfl rfl) ?_
                refine at_q rfl rfl (by decide) (qt_lss rfl rfl rfl) ?_
                refine at_q rfl rfl (by decide) (qt_move rfl rfl) ?_
                refine at_bsplit 209 rfl (fun g3 => ?_) (fun g3 => ?_)
                · try simp only [decide_eq_true_eq, decide_eq_false_iff_not, beq_iff_eq, beq_eq_false_iff_ne, Bool.not_eq_true', Bool.not_eq_false', Bool.not_true, Bool.not_false, Int.not_lt, Int.not_le, ne_eq, Nat.not_lt, Nat.not_le] at g3
                  refine at_on rfl rfl rfl rfl ?_
                  refine op_q rfl (by decide) (qt_move rfl rfl) ?_
                  refine at_on rfl rfl rfl rfl ?_
                  refine op_q rfl (by decide) (qt_move rfl rfl) ?_
                  refine at_on rfl rfl rfl rfl ?_
                  refine op_q rfl (by decide) (qt_lss rfl rfl rfl) ?_
                  refine at_q rfl rfl (by decide) (qt_pickT rfl rfl rfl) ?_
                  refine at_end ?_
                  exact at_meet hC_cut_43 ⟨vb (by rw [show decide (sg < G.length) = true from decide_eq_true (by omega), Bool.true_and]; exact decide_eq_decide.2 (by omega)), rfl, rfl, rfl, rfl, rfl, trivial⟩ (fun _ h => h.upto ⟨rfl, trivial⟩)
                · try simp only [decide_eq_true_eq, decide_eq_false_iff_not, beq_iff_eq, beq_eq_false_iff_ne, Bool.not_eq_true', Bool.not_eq_false', Bool.not_true, Bool.not_false, Int.not_lt, Int.not_le, ne_eq, Nat.not_lt, Nat.not_le] at g3
                  refine at_off rfl rfl rfl rfl (by decide) rfl (by decide) ?_
                  refine at_off rfl rfl rfl rfl (by decide) rfl (by decide) ?_
                  refine at_off rfl rfl rfl rfl (by decide) rfl (by decide) ?_
                  refine at_q rfl rfl (by decide) (qt_pickF rfl rfl rfl) ?_
                  refine at_end ?_
                  exact at_meet hC_cut_43 ⟨vb (by rw [show decide (sg < G.length) = false from decide_eq_false (by omega), Bool.false_and]), rfl, rfl, rfl, rfl, rfl, trivial⟩ (fun _ h => h.upto ⟨rfl, trivial⟩)
              · refine at_envE (by simp only [List.nil_append, List.cons_append]; rfl) ?_
                refine at_cond rfl (fun c14 => ?_) (fun c14 => ?_)
                · try simp only [decide_eq_true_eq, decide_eq_false_iff_not, beq_iff_eq, beq_eq_false_iff_ne, Bool.not_eq_true', Bool.not_eq_false', Bool.not_true, Bool.not_false, Int.not_lt, Int.not_le, ne_eq, Nat.not_lt, Nat.not_le] at c14
                  simp only [Bool.and_eq_true, decide_eq_true_eq] at c14
                  refine at_region ?_
                  refine at_q rfl rfl (by decide) (qt_move rfl rfl) ?_
                  refine at_q rfl rfl (by decide) (qt_move rfl rfl) ?_
                  refine at_q rfl rfl (by decide) (qt_move rfl rfl) ?_
                  refine at_q rfl rfl (by decide) (qt_move rfl rfl) ?_
                  refine at_q rfl rfl (by decide) (qt_move rfl rfl) ?_
                  refine at_op rfl ?_
                  refine op_callm (k := 0) ok_slices_symMergeCmpFunc_impl_Ring rfl rfl rfl (by decide) rfl (fun w1 h1 => ih (A ++ mrg (ltC cr) (G.take sg) (R.take (h - sg))) (G.drop sg) (R.drop (h - sg)) Z (a + h) (m + (h - sg)) e_ w1 (by simp; omega) (hC.over h1.over) ((h1.cel (k := 0) rfl).trans (cells_eq mg2_eq1)) (by simp [mrg_len]; omega) (by simp; omega) (by simp; omega) (by simp; omega) (by simp; omega) (by omega) (by rw [← mg2_eq1]; omega) hsG2 hsR2 (by rw [← mg2_eq1]; exact hS2)) ?_
                  refine at_rsE (by simp only [List.nil_append, List.cons_append, List.set_cons_zero, List.set_cons_succ, Value.cells, List.toList_toArray]; rfl) ?_
                  refine at_nil ?_
                  refine at_end0 rfl ?_
                  intro w' hs
                  exact ⟨rfl, hs.over.wr, by rw [hfin, ← mg2_eq2]; exact hs.cel (k := 0) rfl⟩
                · try simp only [decide_eq_true_eq, decide_eq_false_iff_not, beq_iff_eq, beq_eq_false_iff_ne, Bool.not_eq_true', Bool.not_eq_false', Bool.not_true, Bool.not_false, Int.not_lt, Int.not_le, ne_eq, Nat.not_lt, Nat.not_le] at c14
                  refine at_skip ?_
                  refine at_end0 rfl ?_
                  intro w' hs
                  exact ⟨rfl, hs.over.wr, by rw [hfin, ← mg2_no (by simp at c14; omega), ← List.append_assoc A]; exact hs.cel (k := 0) rfl⟩
theorem MrgC.le {b T n c : Nat} {S : Value → Prop} {cr : Value → Value → Int} {k top : Nat} (h : MrgC b T n c S cr top) (hk : k ≤ top) : MrgC b T n c S cr k :=
  fun A L R Z a m e_ w1 hlt => h A L R Z a m e_ w1 (by omega)
theorem mrgC_all (b T n c : Nat) (S : Value → Prop) (cr : Value → Value → Int) (hn : n ≤ 1099511627776) : ∀ top, MrgC b T n c S cr top
  | 0 => fun A L R Z a m e_ w1 hlt => absurd hlt (by omega)
  | top + 1 => fun A L R Z a m e_ w1 hlt hC hh ha hm he hL hR hen hl hsL hsR hS =>
    symMerge_step b T n c S cr hn A L R Z a m e_ w1 ((mrgC_all b T n c S cr hn top).le (by omega)) hC hh ha hm he hL hR hen hl hsL hsR hS
theorem sort_cells (b T : Nat) (X B : List Value) (n c : Nat) (S : Value → Prop) (cr : Value → Value → Int) (w : World) (hC : CmpOk w b S cr) (hh : w.heap[b]? = some (.cells (X ++ B).toArray T (0, 0)))
    (hX : X.length = n) (hn : n ≤ 1099511627776) (hS : ∀ x ∈ X, S x) :
    Calls Try.prog 73 #[.slice (some ⟨b, 0, none⟩) n c, .func (.func 74) #[] #[]] w fun e w' => e = .returned (.tuple #[]) ∧ Wr b w w' ∧ w'.heap[b]? = some (.cells (srt (ltC cr) X ++ B).toArray T (0, 0)) := by
  refine walk_from1 (m := 9) (Try.func73) rfl rfl (Nat.le_of_ble_eq_true rfl) (hh) ?_
  refine at_region ?_
  refine at_q rfl rfl (by decide) (qt_move rfl rfl) ?_
  refine at_q rfl rfl (by decide) (qt_move rfl rfl) ?_
  refine at_q rfl rfl (by decide) (qt_len rfl rfl tyl_sl_impl_Ring) ?_
  refine at_q rfl rfl (by decide) (qt_move rfl rfl) ?_
  refine at_op rfl ?_
  refine op_callm (k := 0) ok_slices_stableCmpFunc_impl_Ring rfl rfl rfl (by decide) rfl (fun w1 h1 => stable_cells b T X B n c S cr w1 (hC.over h1.over) (h1.cel (k := 0) rfl) hX hn hS (fun A L R Z a m e_ w2 => mrgC_all b T n c S cr hn (L.length + R.length + 1) A L R Z a m e_ w2 (Nat.lt_succ_self _))) ?_
  refine at_rsE (by simp only [List.nil_append, List.cons_append, List.set_cons_zero, List.set_cons_succ, Value.cells, List.toList_toArray]; rfl) ?_
  refine at_nil ?_
  refine at_end0 rfl ?_
  intro w' hs
  exact ⟨rfl, hs.over.wr, hs.cel (k := 0) rfl⟩
theorem insertion_none (A : Option Addr) (c : Nat) (fv : Value) (w : World) : Calls Try.prog 87 #[.slice A 0 c, .int .i64 0, .int .i64 0, fv] w fun e w' => e = .returned (.tuple #[]) ∧ Over w w' := by
  refine walk_from (m := 53) (Try.func87) rfl rfl (Nat.le_of_ble_eq_true rfl) ?_
  refine at_seq ?_
  refine at_region ?_
  refine at_q rfl rfl (by decide) (qt_move rfl rfl) ?_
  refine at_q rfl rfl (by decide) (qt_add rfl rfl rfl (by omega) (by omega)) ?_
  refine at_q rfl rfl (by decide) (qt_assign rfl rfl) ?_
  refine at_end ?_
  refine at_block ?_
  refine at_loopk (X := Nat) (fun k => k = 0) (fun k => k) (fun k => [(8, .int .i64 ((k : Int) + 1))]) (C := [(0, _), (1, _), (2, _), (3, _)]) ⟨rfl, rfl, rfl, rfl, trivial⟩ 0 (rfl) ⟨rfl, rfl, rfl, rfl, rfl, trivial⟩ ?_
  intro k hk L hL1
  refine at_envE (by simp only [List.nil_append, List.cons_append]; rfl) ?_
  refine at_seq ?_
  refine at_seq ?_
  refine at_region ?_
  refine at_q rfl rfl (by decide) (qt_move rfl rfl) ?_
  refine at_q rfl rfl (by decide) (qt_move rfl rfl) ?_
  refine at_q rfl rfl (by decide) (qt_lss rfl rfl rfl) ?_
  refine at_end ?_
  refine at_cond rfl (fun c1 => ?_) (fun c1 => ?_)
  · try simp only [decide_eq_true_eq, decide_eq_false_iff_not, beq_iff_eq, beq_eq_false_iff_ne, Bool.not_eq_true', Bool.not_eq_false', Bool.not_true, Bool.not_false, Int.not_lt, Int.not_le, ne_eq, Nat.not_lt, Nat.not_le] at c1
    omega
  · try simp only [decide_eq_true_eq, decide_eq_false_iff_not, beq_iff_eq, beq_eq_false_iff_ne, Bool.not_eq_true', Bool.not_eq_false', Bool.not_true, Bool.not_false, Int.not_lt, Int.not_le, ne_eq, Nat.not_lt, Nat.not_le] at c1
    refine at_exit ?_
    refine pass_then (fun h => by cases h) ?_
    refine pass_then (fun h => by cases h) ?_
    refine pass_hit ?_
    refine at_end0 rfl ?_
    intro w' hs
    exact ⟨rfl, hs.fin⟩
theorem stable_none (A : Option Addr) (c : Nat) (fv : Value) (w : World) : Calls Try.prog 83 #[.slice A 0 c, .int .i64 0, fv] w fun e w' => e = .returned (.tuple #[]) ∧ Over w w' := by
  refine walk_from (m := 63) (Try.func83) rfl rfl (Nat.le_of_ble_eq_true rfl) ?_
  refine at_seq ?_
  refine at_region ?_
  refine at_q rfl rfl (by decide) (qt_assign rfl rfl) ?_
  refine at_end ?_
  refine at_seq ?_
  refine at_region ?_
  refine at_q rfl rfl (by decide) (qt_move rfl rfl) ?_
  refine at_q rfl rfl (by decide) (qt_assign rfl rfl) ?_
  refine at_q rfl rfl (by decide) (qt_assign rfl rfl) ?_
  refine at_end ?_
  refine at_seq ?_
  refine at_block ?_
  refine at_loopk (X := Nat) (fun k => k = 0) (fun k => k) (fun k => [(7, .int .i64 (k : Int)), (8, .int .i64 ((k : Int) + 20))]) (C := [(0, _), (1, _), (2, _), (6, _)]) ⟨rfl, rfl, rfl, rfl, trivial⟩ 0 (rfl) ⟨rfl, rfl, rfl, rfl, rfl, rfl, trivial⟩ ?_
  intro k hk L hL1
  refine at_envE (by simp only [List.nil_append, List.cons_append]; rfl) ?_
  refine at_seq ?_
  refine at_seq ?_
  refine at_region ?_
  refine at_q rfl rfl (by decide) (qt_move rfl rfl) ?_
  refine at_q rfl rfl (by decide) (qt_move rfl rfl) ?_
  refine at_q rfl rfl (by decide) (qt_leq rfl rfl rfl) ?_
  refine at_end ?_
  refine at_cond rfl (fun c1 => ?_) (fun c1 => ?_)
  · try simp only [decide_eq_true_eq, decide_eq_false_iff_not, beq_iff_eq, beq_eq_false_iff_ne, Bool.not_eq_true', Bool.not_eq_false', Bool.not_true, Bool.not_false, Int.not_lt, Int.not_le, ne_eq, Nat.not_lt, Nat.not_le] at c1
    omega
  · try simp only [decide_eq_true_eq, decide_eq_false_iff_not, beq_iff_eq, beq_eq_false_iff_ne, Bool.not_eq_true', Bool.not_eq_false', Bool.not_true, Bool.not_false, Int.not_lt, Int.not_le, ne_eq, Nat.not_lt, Nat.not_le] at c1
    subst hk
    refine at_exit ?_
    refine pass_then (fun h => by cases h) ?_
    refine pass_then (fun h => by cases h) ?_
    refine pass_hit ?_
    refine norm_then ?_
    refine at_seq ?_
    refine at_region ?_
    refine at_q rfl rfl (by decide) (qt_move rfl rfl) ?_
    refine at_q rfl rfl (by decide) (qt_move rfl rfl) ?_
    refine at_q rfl rfl (by decide) (qt_move rfl rfl) ?_
    refine at_q rfl rfl (by decide) (qt_move rfl rfl) ?_
    refine at_q rfl rfl (by decide) (qt_call ok_slices_insertionSortCmpFunc_impl_Ring rfl rfl (fun w1 h1 => insertion_none A c fv w1)) ?_
    refine at_end ?_
    refine at_block ?_
    refine at_loopk (X := Nat) (fun q => q = 0) (fun q => q) (fun q => [(6, .int .i64 ((q : Int) + 20))]) (C := [(0, _), (1, _), (2, _), (7, _), (8, _)]) ⟨rfl, rfl, rfl, rfl, rfl, trivial⟩ 0 (rfl) ⟨rfl, rfl, rfl, rfl, rfl, rfl, trivial⟩ ?_
    intro q hq L hL2
    refine at_envE (by simp only [List.nil_append, List.cons_append]; rfl) ?_
    refine at_seq ?_
    refine at_seq ?_
    refine at_region ?_
    refine at_q rfl rfl (by decide) (qt_move rfl rfl) ?_
    refine at_q rfl rfl (by decide) (qt_move rfl rfl) ?_
    refine at_q rfl rfl (by decide) (qt_lss rfl rfl rfl) ?_
    refine at_end ?_
    refine at_cond rfl (fun c2 => ?_) (fun c2 => ?_)
    · try simp only [decide_eq_true_eq, decide_eq_false_iff_not, beq_iff_eq, beq_eq_false_iff_ne, Bool.not_eq_true', Bool.not_eq_false', Bool.not_true, Bool.not_false, Int.not_lt, Int.not_le, ne_eq, Nat.not_lt, Nat.not_le] at c2
      omega
    · try simp only [decide_eq_true_eq, decide_eq_false_iff_not, beq_iff_eq, beq_eq_false_iff_ne, Bool.not_eq_true', Bool.not_eq_false', Bool.not_true, Bool.not_false, Int.not_lt, Int.not_le, ne_eq, Nat.not_lt, Nat.not_le] at c2
      refine at_exit ?_
      refine pass_then (fun h => by cases h) ?_
      refine pass_then (fun h => by cases h) ?_
      refine pass_hit ?_
      refine at_end0 rfl ?_
      intro w' hs
      exact ⟨rfl, hs.fin⟩
theorem sort_none (A : Option Addr) (c : Nat) (fv : Value) (w : World) : Calls Try.prog 73 #[.slice A 0 c, fv] w fun e w' => e = .returned (.tuple #[]) ∧ Over w w' := by
  refine walk_from (m := 9) (Try.func73) rfl rfl (Nat.le_of_ble_eq_true rfl) ?_
  refine at_region ?_
  refine at_q rfl rfl (by decide) (qt_move rfl rfl) ?_
  refine at_q rfl rfl (by decide) (qt_move rfl rfl) ?_
  refine at_q rfl rfl (by decide) (qt_len rfl rfl tyl_sl_impl_Ring) ?_
  refine at_q rfl rfl (by decide) (qt_move rfl rfl) ?_
  refine at_q rfl rfl (by decide) (qt_call ok_slices_stableCmpFunc_impl_Ring rfl rfl (fun w1 h1 => stable_none A c fv w1)) ?_
  refine at_nil ?_
  refine at_end0 rfl ?_
  intro w' hs
  exact ⟨rfl, hs.fin⟩

/-! ### Sorting under a map -/
section
variable {α β : Type} {lt : α → α → Bool} {lt' : β → β → Bool} {f : α → β}
theorem insS_map {x : α} : ∀ {l : List α}, (∀ y ∈ l, lt' (f x) (f y) = lt x y) → insS lt' (f x) (l.map f) = (insS lt x l).map f
  | [], _ => rfl
  | y :: l, h => by
    rw [List.map_cons, insS_cons, insS_cons, h y (List.mem_cons_self ..)]
    split
    · rfl
    · rw [List.map_cons, insS_map fun z hz => h z (List.mem_cons_of_mem _ hz)]
theorem srt_map_aux : ∀ {l acc : List α}, (∀ x, (x ∈ acc ∨ x ∈ l) → ∀ y, (y ∈ acc ∨ y ∈ l) → lt' (f x) (f y) = lt x y) → (l.map f).foldl (fun acc x => insS lt' x acc) (acc.map f) = (l.foldl (fun acc x => insS lt x acc) acc).map f
  | [], _, _ => rfl
  | x :: l, acc, h => by
    rw [List.map_cons, List.foldl_cons, List.foldl_cons, insS_map fun y hy => h x (.inr (List.mem_cons_self ..)) y (.inl hy)]
    have key : ∀ u, (u ∈ insS lt x acc ∨ u ∈ l) → (u ∈ acc ∨ u ∈ x :: l) := fun u hu => by
      rcases hu with h' | h'
      · rcases insS_mem.1 h' with rfl | h''
        · exact .inr (List.mem_cons_self ..)
        · exact .inl h''
      · exact .inr (List.mem_cons_of_mem _ h')
    exact srt_map_aux fun u hu v hv => h u (key u hu) v (key v hv)
theorem srt_map {l : List α} (h : ∀ x ∈ l, ∀ y ∈ l, lt' (f x) (f y) = lt x y) : srt lt' (l.map f) = (srt lt l).map f :=
  srt_map_aux (acc := []) fun x hx y hy => h x (hx.resolve_left (by simp)) y (hy.resolve_left (by simp))
theorem insS_perm {x : α} : ∀ {l : List α}, (insS lt x l).Perm (x :: l)
  | [] => List.Perm.refl _
  | y :: l => by
    rw [insS_cons]
    split
    · exact List.Perm.refl _
    · exact ((insS_perm (l := l)).cons y).trans (List.Perm.swap x y l)
theorem insF_perm : ∀ {l acc : List α}, (l.foldl (fun acc x => insS lt x acc) acc).Perm (acc ++ l)
  | [], acc => by simp
  | x :: l, acc => by
    rw [List.foldl_cons]
    refine (insF_perm (l := l)).trans ?_
    refine ((insS_perm (x := x) (l := acc)).append_right l).trans ?_
    exact (List.perm_middle (a := x) (l₁ := acc) (l₂ := l)).symm
theorem srt_perm {l : List α} : (srt lt l).Perm l := by
  have := insF_perm (lt := lt) (l := l) (acc := [])
  rwa [List.nil_append] at this
end
end Go.Proofs.Ytbdlbemlgghgbaa
