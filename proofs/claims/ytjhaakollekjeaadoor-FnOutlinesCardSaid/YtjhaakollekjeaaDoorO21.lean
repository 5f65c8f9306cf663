import Derived.Test.YtjhaakollekjeaaDoorO20
namespace Go.Proofs.YtjhaakollekjeaaDoor
open Go Go.RowKit
set_option linter.unusedVariables false
set_option linter.unusedSimpArgs false
set_option maxRecDepth 100000
set_option maxHeartbeats 4000000
set_option linter.unusedVariables false
set_option linter.unusedSimpArgs false
theorem CutMinus_any (l : List UInt8) (w : World) : Calls Tryd.prog 61 #[sV l, .string ⟨#[45]⟩] w fun e w' => e = .returned (.tuple #[sV (barL l), .bool (negB l)]) ∧ Over w w' := by
 have := CutPrefix_any l [45] w
 rw [(pre_bar l).1, (pre_bar l).2] at this
 exact this
def decR (l : List UInt8) : Value := .tuple #[.int .i64 (decV l), .bool (okD l)]
theorem dec_no {l : List UInt8} (h : okD l = false) : Ending.returned (.tuple #[.int .i64 0, .bool false]) = .returned (decR l) := by
 unfold decR decV
 rw [h]
 rfl
theorem dec_yes {l : List UInt8} (h : okD l = true) : Ending.returned (.tuple #[.int .i64 (valL l), .bool true]) = .returned (decR l) := by
 unfold decR decV
 rw [h]
 rfl
theorem okD_len {l : List UInt8} (h : ¬ (1 ≤ (barL l).length ∧ (barL l).length ≤ 18)) : okD l = false := by
 rw [Bool.eq_false_iff]
 intro k
 unfold okD at k
 rw [Bool.and_eq_true, Bool.and_eq_true, Bool.and_eq_true, decide_eq_true_iff, decide_eq_true_iff] at k
 exact h k.1.1
theorem okD_dig {l : List UInt8} {k : Nat} (hk : k < (barL l).length) (h : digB (barL l)[k] = false) : okD l = false := by
 rw [Bool.eq_false_iff]
 intro c
 unfold okD at c
 rw [Bool.and_eq_true, Bool.and_eq_true] at c
 have := List.all_eq_true.1 c.1.2 _ (List.getElem_mem hk)
 rw [h] at this
 cases this
theorem okD_text {l : List UInt8} (h : ¬ decL (valL l) = l) : okD l = false := by
 rw [Bool.eq_false_iff]
 intro k
 unfold okD at k
 rw [Bool.and_eq_true, decide_eq_true_iff] at k
 exact h k.2
theorem okD_all {l : List UInt8} (h1 : 1 ≤ (barL l).length) (h2 : (barL l).length ≤ 18) (hd : (barL l).all digB = true) (h : decL (valL l) = l) : okD l = true := by
 unfold okD
 rw [decide_eq_true h1, decide_eq_true h2, hd, decide_eq_true h]
 rfl
theorem dig_bd {b : UInt8} (h : digB b = true) : 48 ≤ b.toNat ∧ b.toNat ≤ 57 := by
 unfold digB at h
 rw [Bool.and_eq_true, decide_eq_true_iff, decide_eq_true_iff] at h
 exact h
theorem take_dig {l : List UInt8} {k : Nat} (hk : k < l.length) (h : (l.take k).all digB = true) (hb : digB l[k] = true) : (l.take (k + 1)).all digB = true := by
 rw [List.take_succ_eq_append_getElem hk, List.all_append, h]
 simp [hb]
theorem numT_bd {l : List UInt8} {k : Nat} (hk : k ≤ l.length) (h18 : l.length ≤ 18) (h : (l.take k).all digB = true) : numT l k < 10 ^ k := by
 have h1 := numT_lt h k (by rw [List.length_take]; omega)
 have e : numT (l.take k) k = numT l k := by unfold numT; rw [List.take_take, Nat.min_self]
 rw [e] at h1
 exact h1
theorem numT_17 {l : List UInt8} {k : Nat} (hk : k < l.length) (h18 : l.length ≤ 18) (h : (l.take k).all digB = true) : numT l k < 100000000000000000 := by
 have h1 := numT_bd (Nat.le_of_lt hk) h18 h
 have h2 : 10 ^ k ≤ 10 ^ 17 := Nat.pow_le_pow_right (by decide) (by omega)
 omega
theorem ReadDecimal_any (l : List UInt8) (w : World) (hl : l.length ≤ 1048576) : Calls Tryd.prog 77 #[sV l] w fun e w' => e = .returned (decR l) ∧ Over w w' := by
 have hbl := bar_len l
 refine walk_from (m := 48) (Tryd.func77) rfl rfl (Nat.le_of_ble_eq_true rfl) ?_
 refine at_seq ?_
 refine at_region ?_
 refine at_q rfl rfl (by decide) (qt_assign rfl rfl) ?_
 refine at_q rfl rfl (by decide) (qt_assign rfl rfl) ?_
 refine at_end ?_
 refine at_seq ?_
 refine at_region ?_
 refine at_q rfl rfl (by decide) (qt_move rfl rfl) ?_
 refine at_q rfl rfl (by decide) (qt_call ok_strings_CutPrefix rfl rfl (fun w1 hs => CutMinus_any l w1)) ?_
 refine at_q rfl rfl (by decide) (qt_move rfl rfl) ?_
 refine at_q rfl rfl (by decide) (qt_extract rfl rfl rfl) ?_
 refine at_q rfl rfl (by decide) (qt_extract rfl rfl rfl) ?_
 refine at_q rfl rfl (by decide) (qt_assign rfl rfl) ?_
 refine at_q rfl rfl (by decide) (qt_assign rfl rfl) ?_
 refine at_end ?_
 refine at_seq ?_
 refine at_cutE [(20, .bool (!(decide (1 ≤ (barL l).length ∧ (barL l).length ≤ 18))))] (C := [(0, _), (2, _), (3, _), (4, _), (5, _)])  ⟨rfl, rfl, rfl, rfl, rfl, trivial⟩ (fun L hC_cut_2 => ?_) ?_
 ·refine at_region ?_
  refine at_q rfl rfl (by decide) (qt_move rfl rfl) ?_
  refine at_q rfl rfl (by decide) (qt_lenL rfl rfl Tryd.underlying9) ?_
  refine at_q rfl rfl (by decide) (qt_lss rfl rfl rfl) ?_
  refine at_q rfl rfl (by decide) (qt_move rfl rfl) ?_
  refine at_bsplit 16 rfl (fun g1 => ?_) (fun g1 => ?_)
  ·try simp only [za,zb,zc,zd,ze,zf,Bool.not_true,Bool.not_false,zg,zh,ne_eq,zi,zj] at g1
   refine at_off rfl rfl rfl rfl (by decide) rfl (by decide) ?_
   refine at_off rfl rfl rfl rfl (by decide) rfl (by decide) ?_
   refine at_off rfl rfl rfl rfl (by decide) rfl (by decide) ?_
   refine at_q rfl rfl (by decide) (qt_pickT rfl rfl rfl) ?_
   refine at_end ?_
   exact at_meet hC_cut_2 ⟨vb (by rw [decide_eq_false (show ¬ (1 ≤ (barL l).length ∧ (barL l).length ≤ 18) by omega)]; rfl), rfl, rfl, rfl, rfl, rfl, trivial⟩ (fun _ h => h.upto trivial)
  ·try simp only [za,zb,zc,zd,ze,zf,Bool.not_true,Bool.not_false,zg,zh,ne_eq,zi,zj] at g1
   refine at_on rfl rfl rfl rfl ?_
   refine op_q rfl (by decide) (qt_move rfl rfl) ?_
   refine at_on rfl rfl rfl rfl ?_
   refine op_q rfl (by decide) (qt_lenL rfl rfl Tryd.underlying9) ?_
   refine at_on rfl rfl rfl rfl ?_
   refine op_q rfl (by decide) (qt_gtr rfl rfl rfl) ?_
   refine at_q rfl rfl (by decide) (qt_pickF rfl rfl rfl) ?_
   refine at_end ?_
   exact at_meet hC_cut_2 ⟨vb (by rw [Bool.eq_iff_iff, decide_eq_true_iff, Bool.not_eq_true', decide_eq_false_iff_not]; omega), rfl, rfl, rfl, rfl, rfl, trivial⟩ (fun _ h => h.upto trivial)
 ·refine at_envE (by simp only [ya,yb]; rfl) ?_
  refine at_cond rfl (fun c1 => ?_) (fun c1 => ?_)
  ·try simp only [za,zb,zc,zd,ze,zf,Bool.not_true,Bool.not_false,zg,zh,ne_eq,zi,zj] at c1
   refine at_seq ?_
   refine at_region ?_
   refine at_q rfl rfl (by decide) (qt_assign rfl rfl) ?_
   refine at_q rfl rfl (by decide) (qt_assign rfl rfl) ?_
   refine at_end ?_
   refine at_retc ?_
   refine then_ret ?_
   refine at_ret2 rfl (.tmp rfl) (.tmp rfl) ?_
   intro w' hs
   exact ⟨dec_no (okD_len (by simpa using c1)), hs.fin⟩
  ·try simp only [za,zb,zc,zd,ze,zf,Bool.not_true,Bool.not_false,zg,zh,ne_eq,zi,zj] at c1
   obtain ⟨h1, h18⟩ : 1 ≤ (barL l).length ∧ (barL l).length ≤ 18 := (by simpa using c1)
   refine at_skip ?_
   refine norm_then ?_
   refine at_seq ?_
   refine at_region ?_
   refine at_q rfl rfl (by decide) (qt_assign rfl rfl) ?_
   refine at_end ?_
   refine at_seq ?_
   refine at_seq ?_
   refine at_region ?_
   refine at_q rfl rfl (by decide) (qt_assign rfl rfl) ?_
   refine at_end ?_
   refine at_block ?_
   refine at_loopk (X := Nat) (fun k => k ≤ (barL l).length ∧ ((barL l).take k).all digB = true) (fun k => (barL l).length - k) (fun k => [(6, .int .i64 (numT (barL l) k : Int)), (7, .int .i64 (k : Int))]) (C := [(0, _), (2, _), (3, _), (4, _), (5, _)]) ⟨rfl, rfl, rfl, rfl, rfl, trivial⟩ 0 (⟨Nat.zero_le _, rfl⟩) ⟨rfl, rfl, rfl, rfl, rfl, rfl, rfl, trivial⟩ ?_
   intro k hx L hL1
   refine at_envE (by simp only [ya,yb]; rfl) ?_
   obtain ⟨hk, hd⟩ : k ≤ (barL l).length ∧ ((barL l).take k).all digB = true := hx
   refine at_seq ?_
   refine at_seq ?_
   refine at_region ?_
   refine at_q rfl rfl (by decide) (qt_move rfl rfl) ?_
   refine at_q rfl rfl (by decide) (qt_move rfl rfl) ?_
   refine at_q rfl rfl (by decide) (qt_lenL rfl rfl Tryd.underlying9) ?_
   refine at_q rfl rfl (by decide) (qt_lss rfl rfl rfl) ?_
   refine at_end ?_
   refine at_cond rfl (fun c2 => ?_) (fun c2 => ?_)
   ·try simp only [za,zb,zc,zd,ze,zf,Bool.not_true,Bool.not_false,zg,zh,ne_eq,zi,zj] at c2
    have hlt : k < (barL l).length := (by omega)
    have h17 := numT_17 hlt h18 hd
    refine at_skip ?_
    refine norm_then ?_
    refine at_seq ?_
    refine at_block ?_
    refine at_seq ?_
    refine at_seq ?_
    refine at_region ?_
    refine at_q rfl rfl (by decide) (qt_move rfl rfl) ?_
    refine at_q rfl rfl (by decide) (qt_move rfl rfl) ?_
    refine at_q rfl rfl (by decide) (qt_idxL rfl rfl rfl Tryd.underlying9 hlt) ?_
    refine at_q rfl rfl (by decide) (qt_call ok_impl_isDigit rfl rfl (fun w1 hs => isDigit_any _ w1)) ?_
    refine at_q rfl rfl (by decide) (qt_not rfl rfl) ?_
    refine at_end ?_
    refine at_cond rfl (fun c3 => ?_) (fun c3 => ?_)
    ·try simp only [za,zb,zc,zd,ze,zf,Bool.not_true,Bool.not_false,zg,zh,ne_eq,zi,zj] at c3
     refine at_seq ?_
     refine at_region ?_
     refine at_q rfl rfl (by decide) (qt_assign rfl rfl) ?_
     refine at_q rfl rfl (by decide) (qt_assign rfl rfl) ?_
     refine at_end ?_
     refine at_retc ?_
     refine then_ret ?_
     refine pass_ret ?_
     refine then_ret ?_
     refine then_ret ?_
     refine pass_ret ?_
     refine then_ret ?_
     refine at_ret2 rfl (.tmp rfl) (.tmp rfl) ?_
     intro w' hs
     exact ⟨dec_no (okD_dig hlt (by simpa using c3)), hs.fin⟩
    ·try simp only [za,zb,zc,zd,ze,zf,Bool.not_true,Bool.not_false,zg,zh,ne_eq,zi,zj] at c3
     have hdg : digB (barL l)[k] = true := (by simpa using c3)
     obtain ⟨d1, d2⟩ := dig_bd hdg
     refine at_skip ?_
     refine norm_then ?_
     refine at_region ?_
     refine at_q rfl rfl (by decide) (qt_move rfl rfl) ?_
     refine at_q rfl rfl (by decide) (qt_mul rfl rfl rfl (by omega) (by omega)) ?_
     refine at_q rfl rfl (by decide) (qt_move rfl rfl) ?_
     refine at_q rfl rfl (by decide) (qt_move rfl rfl) ?_
     refine at_q rfl rfl (by decide) (qt_idxL rfl rfl rfl Tryd.underlying9 hlt) ?_
     refine at_q rfl rfl (by decide) (qt_sub8 (c := 48) rfl rfl rfl d1) ?_
     refine at_q rfl rfl (by decide) (qt_convI rfl Tryd.underlying5 Tryd.underlying2 rfl (by simp [IntKind.wrap, IntKind.bits, IntKind.signed]; omega)) ?_
     refine at_q rfl rfl (by decide) (qt_add rfl rfl rfl (by omega) (by omega)) ?_
     refine at_q rfl rfl (by decide) (qt_assign rfl rfl) ?_
     refine at_nil ?_
     refine norm_block ?_
     refine norm_then ?_
     refine at_region ?_
     refine at_q rfl rfl (by decide) (qt_move rfl rfl) ?_
     refine at_q rfl rfl (by decide) (qt_add rfl rfl rfl (by omega) (by omega)) ?_
     refine at_q rfl rfl (by decide) (qt_assign rfl rfl) ?_
     refine at_end ?_
     exact at_againk hL1 (k + 1) (⟨show k + 1 ≤ _ by omega, take_dig hlt hd hdg⟩) (by omega) ⟨vi (by rw [numT_succ hlt]; omega), vi (by omega), rfl, rfl, rfl, rfl, rfl, trivial⟩ (fun _ h => h.upto trivial)
   ·try simp only [za,zb,zc,zd,ze,zf,Bool.not_true,Bool.not_false,zg,zh,ne_eq,zi,zj] at c2
    have hkn : k = (barL l).length := (by omega)
    have hda : (barL l).all digB = true := (by rw [hkn, List.take_length] at hd; exact hd)
    have hv := val_bd h18 hda
    rw [hkn, ← num_all]
    refine at_exit ?_
    refine pass_then (fun h => by cases h) ?_
    refine pass_then (fun h => by cases h) ?_
    refine pass_hit ?_
    refine norm_then ?_
    refine at_cutE [(6, .int .i64 (valL l))] (C := [(0, _), (2, _), (3, _)])  ⟨rfl, rfl, rfl, trivial⟩ (fun L hC_cutif_t40 => ?_) ?_
    ·refine at_seq ?_
     refine at_region ?_
     refine at_q rfl rfl (by decide) (qt_move rfl rfl) ?_
     refine at_end ?_
     refine at_cond rfl (fun c4 => ?_) (fun c4 => ?_)
     ·try simp only [za,zb,zc,zd,ze,zf,Bool.not_true,Bool.not_false,zg,zh,ne_eq,zi,zj] at c4
      refine at_region ?_
      refine at_q rfl rfl (by decide) (qt_move rfl rfl) ?_
      refine at_q rfl rfl (by decide) (qt_neg rfl rfl (by omega) (by omega)) ?_
      refine at_q rfl rfl (by decide) (qt_assign rfl rfl) ?_
      refine at_end ?_
      exact at_meet hC_cutif_t40 ⟨vi (by unfold valL; rw [if_pos c4]), rfl, rfl, rfl, trivial⟩ (fun _ h => h.upto trivial)
     ·try simp only [za,zb,zc,zd,ze,zf,Bool.not_true,Bool.not_false,zg,zh,ne_eq,zi,zj] at c4
      refine at_skip ?_
      refine norm_then ?_
      exact at_meet hC_cutif_t40 ⟨vi (by unfold valL; rw [if_neg (by rw [c4]; decide)]), rfl, rfl, rfl, trivial⟩ (fun _ h => h.upto trivial)
    ·refine at_envE (by simp only [ya,yb]; rfl) ?_
     refine at_seq ?_
     refine at_seq ?_
     refine at_region ?_
     refine at_q rfl rfl (by decide) (qt_move rfl rfl) ?_
     refine at_q rfl rfl (by decide) (qt_call ok_impl_Decimal rfl rfl (fun w1 hs => Decimal_any (valL l) w1 (by unfold valL; split <;> omega))) ?_
     refine at_q rfl rfl (by decide) (qt_move rfl rfl) ?_
     refine at_q rfl rfl (by decide) (qt_neqL rfl rfl rfl) ?_
     refine at_end ?_
     refine at_cond rfl (fun c5 => ?_) (fun c5 => ?_)
     ·try simp only [za,zb,zc,zd,ze,zf,Bool.not_true,Bool.not_false,zg,zh,ne_eq,zi,zj] at c5
      refine at_seq ?_
      refine at_region ?_
      refine at_q rfl rfl (by decide) (qt_assign rfl rfl) ?_
      refine at_q rfl rfl (by decide) (qt_assign rfl rfl) ?_
      refine at_end ?_
      refine at_retc ?_
      refine then_ret ?_
      refine at_ret2 rfl (.tmp rfl) (.tmp rfl) ?_
      intro w' hs
      exact ⟨dec_no (okD_text (by simpa using c5)), hs.fin⟩
     ·try simp only [za,zb,zc,zd,ze,zf,Bool.not_true,Bool.not_false,zg,zh,ne_eq,zi,zj] at c5
      refine at_skip ?_
      refine norm_then ?_
      refine at_seq ?_
      refine at_region ?_
      refine at_q rfl rfl (by decide) (qt_move rfl rfl) ?_
      refine at_q rfl rfl (by decide) (qt_assign rfl rfl) ?_
      refine at_q rfl rfl (by decide) (qt_assign rfl rfl) ?_
      refine at_end ?_
      refine at_retc ?_
      refine at_ret2 rfl (.tmp rfl) (.tmp rfl) ?_
      intro w' hs
      exact ⟨dec_yes (okD_all h1 h18 hda (by simpa using c5)), hs.fin⟩
end Go.Proofs.YtjhaakollekjeaaDoor
