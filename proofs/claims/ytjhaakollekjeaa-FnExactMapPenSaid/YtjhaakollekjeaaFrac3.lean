/- Fractions and maps: the reference's walks. -/
import Derived.Test.YtjhaakollekjeaaFrac2
namespace Go.Proofs.Ytjhaakollekjeaa
open Go Go.RowKit
set_option linter.unusedVariables false
set_option linter.unusedSimpArgs false
set_option maxRecDepth 100000
set_option maxHeartbeats 4000000
set_option linter.unusedVariables false
set_option linter.unusedSimpArgs false

theorem l02Gcd_any (a b : Nat) (w : World) (ha : a < 18446744073709551616) (hb : b < 18446744073709551616) : Calls Try.prog 127 #[.int .u64 (a : Int), .int .u64 (b : Int)] w fun e w' => e = .returned (.int .u64 ((Nat.gcd a b : Nat) : Int)) ∧ Over w w' := by
 refine walk_from (m := 14) (Try.func127) rfl rfl (Nat.le_of_ble_eq_true rfl) ?_
 refine at_seq ?_
 refine at_region ?_
 refine at_q rfl rfl (by decide) (qt_assign rfl rfl) ?_
 refine at_end ?_
 refine at_seq ?_
 refine at_block ?_
 refine at_loopk (X := Nat × Nat) (fun x => x.1 < 18446744073709551616 ∧ x.2 < 18446744073709551616 ∧ Nat.gcd x.1 x.2 = Nat.gcd a b) (fun x => x.2) (fun x => [(0, .int .u64 (x.1 : Int)), (1, .int .u64 (x.2 : Int))]) (C := [(4, _)]) ⟨rfl, trivial⟩ (a, b) (⟨ha, hb, rfl⟩) ⟨rfl, rfl, rfl, trivial⟩ ?_
 intro ⟨p, q⟩ hx L hL1
 refine at_envE (by simp only [ya,yb]; rfl) ?_
 obtain ⟨hp, hq, hg⟩ := hx
 simp only at hp hq hg
 refine at_seq ?_
 refine at_seq ?_
 refine at_region ?_
 refine at_q rfl rfl (by decide) (qt_move rfl rfl) ?_
 refine at_q rfl rfl (by decide) (qt_gtrU rfl rfl rfl) ?_
 refine at_end ?_
 refine at_cond rfl (fun c1 => ?_) (fun c1 => ?_)
 ·try simp only [za,zb,zc,zd,ze,zf,Bool.not_true,Bool.not_false,zg,zh,ne_eq,zi,zj] at c1
  have hq0 : 0 < q := (by omega)
  refine at_skip ?_
  refine norm_then ?_
  refine at_block ?_
  refine at_seq ?_
  refine at_region ?_
  refine at_q rfl rfl (by decide) (qt_move rfl rfl) ?_
  refine at_q rfl rfl (by decide) (qt_move rfl rfl) ?_
  refine at_q rfl rfl (by decide) (qt_remU rfl rfl rfl hq0 hp) ?_
  refine at_q rfl rfl (by decide) (qt_assign rfl rfl) ?_
  refine at_end ?_
  refine at_seq ?_
  refine at_region ?_
  refine at_q rfl rfl (by decide) (qt_move rfl rfl) ?_
  refine at_q rfl rfl (by decide) (qt_assign rfl rfl) ?_
  refine at_end ?_
  refine at_region ?_
  refine at_q rfl rfl (by decide) (qt_move rfl rfl) ?_
  refine at_q rfl rfl (by decide) (qt_assign rfl rfl) ?_
  refine at_nil ?_
  refine norm_block ?_
  refine norm_then ?_
  exact at_againk hL1 ((q, p % q)) (⟨hq, Nat.lt_of_le_of_lt (Nat.mod_le _ _) hp, gcd_step hg⟩) ((show p % q < q from Nat.mod_lt _ hq0)) ⟨rfl, rfl, rfl, trivial⟩ (fun _ h => h.upto trivial)
 ·try simp only [za,zb,zc,zd,ze,zf,Bool.not_true,Bool.not_false,zg,zh,ne_eq,zi,zj] at c1
  have hq0 : q = 0 := (by omega)
  subst hq0
  refine at_exit ?_
  refine pass_then (fun h => by cases h) ?_
  refine pass_then (fun h => by cases h) ?_
  refine pass_hit ?_
  refine norm_then ?_
  refine at_seq ?_
  refine at_region ?_
  refine at_q rfl rfl (by decide) (qt_move rfl rfl) ?_
  refine at_q rfl rfl (by decide) (qt_assign rfl rfl) ?_
  refine at_end ?_
  refine at_retc ?_
  refine at_ret1 rfl (.tmp rfl) ?_
  intro w' hs
  exact ⟨by rw [gcd_end hg], hs.fin⟩
theorem l02Size_any (n : Int) (w : World) (h1 : -9223372036854775808 ≤ n) (h2 : n ≤ 9223372036854775807) : Calls Try.prog 128 #[.int .i64 n] w fun e w' => e = .returned (.int .u64 ((n.natAbs : Nat) : Int)) ∧ Over w w' := by
 refine walk_from (m := 12) (Try.func128) rfl rfl (Nat.le_of_ble_eq_true rfl) ?_
 refine at_seq ?_
 refine at_region ?_
 refine at_q rfl rfl (by decide) (qt_assign rfl rfl) ?_
 refine at_end ?_
 refine at_seq ?_
 refine at_seq ?_
 refine at_region ?_
 refine at_q rfl rfl (by decide) (qt_move rfl rfl) ?_
 refine at_q rfl rfl (by decide) (qt_lss rfl rfl rfl) ?_
 refine at_end ?_
 refine at_cond rfl (fun c1 => ?_) (fun c1 => ?_)
 ·try simp only [za,zb,zc,zd,ze,zf,Bool.not_true,Bool.not_false,zg,zh,ne_eq,zi,zj] at c1
  refine at_seq ?_
  refine at_region ?_
  refine at_q rfl rfl (by decide) (qt_move rfl rfl) ?_
  refine at_q rfl rfl (by decide) (qt_add rfl rfl rfl (by omega) (by omega)) ?_
  refine at_q rfl rfl (by decide) (qt_neg rfl rfl (by omega) (by omega)) ?_
  refine at_q rfl rfl (by decide) (qt_convI rfl Try.underlying2 Try.underlying199 rfl (u64_in _ (by omega) (by omega))) ?_
  refine at_q rfl rfl (by decide) ((qt_addU rfl rfl rfl).as (congrArg _ ((u64_in _ (by omega) (by omega)).trans (show -(n + 1) + 1 = ((n.natAbs : Nat) : Int) by omega)))) ?_
  refine at_q rfl rfl (by decide) (qt_assign rfl rfl) ?_
  refine at_end ?_
  refine at_retc ?_
  refine then_ret ?_
  refine at_ret1 rfl (.tmp rfl) ?_
  intro w' hs
  exact ⟨rfl, hs.fin⟩
 ·try simp only [za,zb,zc,zd,ze,zf,Bool.not_true,Bool.not_false,zg,zh,ne_eq,zi,zj] at c1
  refine at_skip ?_
  refine norm_then ?_
  refine at_seq ?_
  refine at_region ?_
  refine at_q rfl rfl (by decide) (qt_move rfl rfl) ?_
  refine at_q rfl rfl (by decide) ((qt_convI rfl Try.underlying2 Try.underlying199 rfl (u64_in _ (by omega) (by omega))).as (congrArg _ (show n = ((n.natAbs : Nat) : Int) by omega))) ?_
  refine at_q rfl rfl (by decide) (qt_assign rfl rfl) ?_
  refine at_end ?_
  refine at_retc ?_
  refine at_ret1 rfl (.tmp rfl) ?_
  intro w' hs
  exact ⟨rfl, hs.fin⟩
theorem fr_both {p : Pn} (h1 : inB p.2 1 1000000 = true) (h2 : inB p.1 (-1000000000) 1000000000 = true) : (1 ≤ p.2 ∧ p.2 ≤ 1000000) ∧ -1000000000 ≤ p.1 ∧ p.1 ≤ 1000000000 := by
 simp [inB] at h1 h2
 omega
theorem fr_out1 {p : Pn} (h : inB p.2 1 1000000 = false) : false = frB p := fr_no fun k => by simp [inB] at h; omega
theorem fr_out2 {p : Pn} (h : inB p.1 (-1000000000) 1000000000 = false) : false = frB p := fr_no fun k => by simp [inB] at h; omega
theorem l02Ok_any (p : Pn) (w : World) : Calls Try.prog 83 #[pV p] w fun e w' => e = .returned (.bool (frB p)) ∧ Over w w' := by
 refine walk_from (m := 21) (Try.func83) rfl rfl (Nat.le_of_ble_eq_true rfl) ?_
 refine at_seq ?_
 refine at_region ?_
 refine at_op rfl ?_
 refine op_box rfl rfl (rfl) rfl (by decide) (fun b1 => ?_)
 refine at_rsE (by simp only [ya,yb,yc,yd,Value.cells,ye]; rfl) ?_
 refine at_q rfl rfl (by decide) (qt_assign rfl rfl) ?_
 refine at_end ?_
 refine at_seq ?_
 refine dg_start mixed rfl ?_
 refine dg_phase 19 ?_
 refine dg_q (i := 0) rfl (by kernel_rfl) (by kernel_rfl) (by kernel_rfl) [] (by kernel_rfl) (fun _ _ _ h => h) rfl rfl (by decide) (fun _ h => h.upto ⟨rfl, trivial⟩) (qt_fieldAddr rfl rfl tyf_impl_Frac_1) ?_
 refine dg_q (i := 1) rfl (by kernel_rfl) (by kernel_rfl) (by kernel_rfl) [] (by kernel_rfl) (fun _ _ _ h => h) rfl rfl (by decide) (fun _ h => h.upto ⟨rfl, trivial⟩) (qt_load1 rfl rfl ty1_int64 (rd1 (k := 0) rfl rfl)) ?_
 refine dg_q (i := 2) rfl (by kernel_rfl) (by kernel_rfl) (by kernel_rfl) [] (by kernel_rfl) (fun _ _ _ h => h) rfl rfl (by decide) (fun _ h => h.upto ⟨rfl, trivial⟩) (qt_call ok_spec_l00In rfl rfl (fun w1 hs => Calls.still (l00In_any p.2 1 1000000 w1))) ?_
 refine dg_q (i := 3) rfl (by kernel_rfl) (by kernel_rfl) (by kernel_rfl) [] (by kernel_rfl) (fun _ _ _ h => h) rfl rfl (by decide) (fun _ h => h.upto ⟨rfl, trivial⟩) (qt_move rfl rfl) ?_
 refine at_bsplit 6 rfl (fun g1 => ?_) (fun g1 => ?_)
 ·try simp only [za,zb,zc,zd,ze,zf,Bool.not_true,Bool.not_false,zg,zh,ne_eq,zi,zj] at g1
  refine dg_qg (i := 4) rfl (by kernel_rfl) (by kernel_rfl) (by kernel_rfl) [] (by kernel_rfl) (fun _ _ _ h => h) rfl rfl rfl rfl rfl (by decide) (fun _ h => h.upto ⟨rfl, trivial⟩) (qt_fieldAddr rfl rfl tyf_impl_Frac_0) ?_
  refine dg_qg (i := 5) rfl (by kernel_rfl) (by kernel_rfl) (by kernel_rfl) [] (by kernel_rfl) (fun _ _ _ h => h) rfl rfl rfl rfl rfl (by decide) (fun _ h => h.upto ⟨rfl, trivial⟩) (qt_load1 rfl rfl ty1_int64 (rd1 (k := 0) rfl rfl)) ?_
  refine dg_qg (i := 6) rfl (by kernel_rfl) (by kernel_rfl) (by kernel_rfl) [] (by kernel_rfl) (fun _ _ _ h => h) rfl rfl rfl rfl rfl (by decide) (fun _ h => h.upto ⟨rfl, trivial⟩) (qt_call ok_spec_l00In rfl rfl (fun w1 hs => Calls.still (l00In_any p.1 (-1000000000) 1000000000 w1))) ?_
  refine dg_q (i := 7) rfl (by kernel_rfl) (by kernel_rfl) (by kernel_rfl) [] (by kernel_rfl) (fun _ _ _ h => h) rfl rfl (by decide) (fun _ h => h.upto ⟨rfl, trivial⟩) (qt_pickT rfl rfl rfl) ?_
  refine dg_q (i := 8) rfl (by kernel_rfl) (by kernel_rfl) (by kernel_rfl) [] (by kernel_rfl) (fun _ _ _ h => h) rfl rfl (by decide) (fun _ h => h.upto ⟨rfl, trivial⟩) (qt_move rfl rfl) ?_
  refine at_bsplit 11 rfl (fun g2 => ?_) (fun g2 => ?_)
  ·try simp only [za,zb,zc,zd,ze,zf,Bool.not_true,Bool.not_false,zg,zh,ne_eq,zi,zj] at g2
   obtain ⟨z1, z2⟩ := fr_both g1 g2
   refine dg_qg (i := 9) rfl (by kernel_rfl) (by kernel_rfl) (by kernel_rfl) [] (by kernel_rfl) (fun _ _ _ h => h) rfl rfl rfl rfl rfl (by decide) (fun _ h => h.upto ⟨rfl, trivial⟩) (qt_fieldAddr rfl rfl tyf_impl_Frac_0) ?_
   refine dg_qg (i := 10) rfl (by kernel_rfl) (by kernel_rfl) (by kernel_rfl) [] (by kernel_rfl) (fun _ _ _ h => h) rfl rfl rfl rfl rfl (by decide) (fun _ h => h.upto ⟨rfl, trivial⟩) (qt_load1 rfl rfl ty1_int64 (rd1 (k := 0) rfl rfl)) ?_
   refine dg_qg (i := 11) rfl (by kernel_rfl) (by kernel_rfl) (by kernel_rfl) [] (by kernel_rfl) (fun _ _ _ h => h) rfl rfl rfl rfl rfl (by decide) (fun _ h => h.upto ⟨rfl, trivial⟩) (qt_call ok_spec_l02Size rfl rfl (fun w1 hs => l02Size_any p.1 w1 (by omega) (by omega))) ?_
   refine dg_qg (i := 12) rfl (by kernel_rfl) (by kernel_rfl) (by kernel_rfl) [] (by kernel_rfl) (fun _ _ _ h => h) rfl rfl rfl rfl rfl (by decide) (fun _ h => h.upto ⟨rfl, trivial⟩) (qt_fieldAddr rfl rfl tyf_impl_Frac_1) ?_
   refine dg_qg (i := 13) rfl (by kernel_rfl) (by kernel_rfl) (by kernel_rfl) [] (by kernel_rfl) (fun _ _ _ h => h) rfl rfl rfl rfl rfl (by decide) (fun _ h => h.upto ⟨rfl, trivial⟩) (qt_load1 rfl rfl ty1_int64 (rd1 (k := 0) rfl rfl)) ?_
   refine dg_qg (i := 14) rfl (by kernel_rfl) (by kernel_rfl) (by kernel_rfl) [] (by kernel_rfl) (fun _ _ _ h => h) rfl rfl rfl rfl rfl (by decide) (fun _ h => h.upto ⟨rfl, trivial⟩) ((qt_convI rfl Try.underlying2 Try.underlying199 rfl (u64_in _ (by omega) (by omega))).as (congrArg _ (show p.2 = ((p.2.natAbs : Nat) : Int) by omega))) ?_
   refine dg_qg (i := 15) rfl (by kernel_rfl) (by kernel_rfl) (by kernel_rfl) [] (by kernel_rfl) (fun _ _ _ h => h) rfl rfl rfl rfl rfl (by decide) (fun _ h => h.upto ⟨rfl, trivial⟩) (qt_call ok_spec_l02Gcd rfl rfl (fun w1 hs => l02Gcd_any p.1.natAbs p.2.natAbs w1 (by omega) (by omega))) ?_
   refine dg_qg (i := 16) rfl (by kernel_rfl) (by kernel_rfl) (by kernel_rfl) [] (by kernel_rfl) (fun _ _ _ h => h) rfl rfl rfl rfl rfl (by decide) (fun _ h => h.upto ⟨rfl, trivial⟩) (qt_eqlU rfl rfl rfl) ?_
   refine dg_q (i := 17) rfl (by kernel_rfl) (by kernel_rfl) (by kernel_rfl) [] (by kernel_rfl) (fun _ _ _ h => h) rfl rfl (by decide) (fun _ h => h.upto ⟨rfl, trivial⟩) (qt_pickT rfl rfl rfl) ?_
   refine dg_q (i := 18) rfl (by kernel_rfl) (by kernel_rfl) (by kernel_rfl) [] (by kernel_rfl) (fun _ _ _ h => h) rfl rfl (by decide) (fun _ h => h.upto ⟨rfl, trivial⟩) (qt_assign rfl rfl) ?_
   refine dg_done (by kernel_rfl) ?_
   refine norm_then ?_
   refine at_retc ?_
   refine at_ret1 rfl (.tmp rfl) ?_
   intro w' hs
   exact ⟨retB (fr_in z1 z2), hs.fin⟩
  ·try simp only [za,zb,zc,zd,ze,zf,Bool.not_true,Bool.not_false,zg,zh,ne_eq,zi,zj] at g2
   refine dg_off (i := 9) rfl (by kernel_rfl) (by kernel_rfl) (by kernel_rfl) [] (by kernel_rfl) (fun _ _ _ h => h) rfl rfl rfl rfl (by decide) rfl (by decide) (fun _ h => h.upto ⟨rfl, trivial⟩) ?_
   refine dg_off (i := 10) rfl (by kernel_rfl) (by kernel_rfl) (by kernel_rfl) [] (by kernel_rfl) (fun _ _ _ h => h) rfl rfl rfl rfl (by decide) rfl (by decide) (fun _ h => h.upto ⟨rfl, trivial⟩) ?_
   refine dg_off (i := 11) rfl (by kernel_rfl) (by kernel_rfl) (by kernel_rfl) [] (by kernel_rfl) (fun _ _ _ h => h) rfl rfl rfl rfl (by decide) rfl (by decide) (fun _ h => h.upto ⟨rfl, trivial⟩) ?_
   refine dg_off (i := 12) rfl (by kernel_rfl) (by kernel_rfl) (by kernel_rfl) [] (by kernel_rfl) (fun _ _ _ h => h) rfl rfl rfl rfl (by decide) rfl (by decide) (fun _ h => h.upto ⟨rfl, trivial⟩) ?_
   refine dg_off (i := 13) rfl (by kernel_rfl) (by kernel_rfl) (by kernel_rfl) [] (by kernel_rfl) (fun _ _ _ h => h) rfl rfl rfl rfl (by decide) rfl (by decide) (fun _ h => h.upto ⟨rfl, trivial⟩) ?_
   refine dg_off (i := 14) rfl (by kernel_rfl) (by kernel_rfl) (by kernel_rfl) [] (by kernel_rfl) (fun _ _ _ h => h) rfl rfl rfl rfl (by decide) rfl (by decide) (fun _ h => h.upto ⟨rfl, trivial⟩) ?_
   refine dg_off (i := 15) rfl (by kernel_rfl) (by kernel_rfl) (by kernel_rfl) [] (by kernel_rfl) (fun _ _ _ h => h) rfl rfl rfl rfl (by decide) rfl (by decide) (fun _ h => h.upto ⟨rfl, trivial⟩) ?_
   refine dg_off (i := 16) rfl (by kernel_rfl) (by kernel_rfl) (by kernel_rfl) [] (by kernel_rfl) (fun _ _ _ h => h) rfl rfl rfl rfl (by decide) rfl (by decide) (fun _ h => h.upto ⟨rfl, trivial⟩) ?_
   refine dg_q (i := 17) rfl (by kernel_rfl) (by kernel_rfl) (by kernel_rfl) [] (by kernel_rfl) (fun _ _ _ h => h) rfl rfl (by decide) (fun _ h => h.upto ⟨rfl, trivial⟩) (qt_pickF rfl rfl rfl) ?_
   refine dg_q (i := 18) rfl (by kernel_rfl) (by kernel_rfl) (by kernel_rfl) [] (by kernel_rfl) (fun _ _ _ h => h) rfl rfl (by decide) (fun _ h => h.upto ⟨rfl, trivial⟩) (qt_assign rfl rfl) ?_
   refine dg_done (by kernel_rfl) ?_
   refine norm_then ?_
   refine at_retc ?_
   refine at_ret1 rfl (.tmp rfl) ?_
   intro w' hs
   exact ⟨retB (fr_out2 g2), hs.fin⟩
 ·try simp only [za,zb,zc,zd,ze,zf,Bool.not_true,Bool.not_false,zg,zh,ne_eq,zi,zj] at g1
  refine dg_off (i := 4) rfl (by kernel_rfl) (by kernel_rfl) (by kernel_rfl) [] (by kernel_rfl) (fun _ _ _ h => h) rfl rfl rfl rfl (by decide) rfl (by decide) (fun _ h => h.upto ⟨rfl, trivial⟩) ?_
  refine dg_off (i := 5) rfl (by kernel_rfl) (by kernel_rfl) (by kernel_rfl) [] (by kernel_rfl) (fun _ _ _ h => h) rfl rfl rfl rfl (by decide) rfl (by decide) (fun _ h => h.upto ⟨rfl, trivial⟩) ?_
  refine dg_off (i := 6) rfl (by kernel_rfl) (by kernel_rfl) (by kernel_rfl) [] (by kernel_rfl) (fun _ _ _ h => h) rfl rfl rfl rfl (by decide) rfl (by decide) (fun _ h => h.upto ⟨rfl, trivial⟩) ?_
  refine dg_q (i := 7) rfl (by kernel_rfl) (by kernel_rfl) (by kernel_rfl) [] (by kernel_rfl) (fun _ _ _ h => h) rfl rfl (by decide) (fun _ h => h.upto ⟨rfl, trivial⟩) (qt_pickF rfl rfl rfl) ?_
  refine dg_q (i := 8) rfl (by kernel_rfl) (by kernel_rfl) (by kernel_rfl) [] (by kernel_rfl) (fun _ _ _ h => h) rfl rfl (by decide) (fun _ h => h.upto ⟨rfl, trivial⟩) (qt_move rfl rfl) ?_
  refine dg_off (i := 9) rfl (by kernel_rfl) (by kernel_rfl) (by kernel_rfl) [] (by kernel_rfl) (fun _ _ _ h => h) rfl rfl rfl rfl (by decide) rfl (by decide) (fun _ h => h.upto ⟨rfl, trivial⟩) ?_
  refine dg_off (i := 10) rfl (by kernel_rfl) (by kernel_rfl) (by kernel_rfl) [] (by kernel_rfl) (fun _ _ _ h => h) rfl rfl rfl rfl (by decide) rfl (by decide) (fun _ h => h.upto ⟨rfl, trivial⟩) ?_
  refine dg_off (i := 11) rfl (by kernel_rfl) (by kernel_rfl) (by kernel_rfl) [] (by kernel_rfl) (fun _ _ _ h => h) rfl rfl rfl rfl (by decide) rfl (by decide) (fun _ h => h.upto ⟨rfl, trivial⟩) ?_
  refine dg_off (i := 12) rfl (by kernel_rfl) (by kernel_rfl) (by kernel_rfl) [] (by kernel_rfl) (fun _ _ _ h => h) rfl rfl rfl rfl (by decide) rfl (by decide) (fun _ h => h.upto ⟨rfl, trivial⟩) ?_
  refine dg_off (i := 13) rfl (by kernel_rfl) (by kernel_rfl) (by kernel_rfl) [] (by kernel_rfl) (fun _ _ _ h => h) rfl rfl rfl rfl (by decide) rfl (by decide) (fun _ h => h.upto ⟨rfl, trivial⟩) ?_
  refine dg_off (i := 14) rfl (by kernel_rfl) (by kernel_rfl) (by kernel_rfl) [] (by kernel_rfl) (fun _ _ _ h => h) rfl rfl rfl rfl (by decide) rfl (by decide) (fun _ h => h.upto ⟨rfl, trivial⟩) ?_
  refine dg_off (i := 15) rfl (by kernel_rfl) (by kernel_rfl) (by kernel_rfl) [] (by kernel_rfl) (fun _ _ _ h => h) rfl rfl rfl rfl (by decide) rfl (by decide) (fun _ h => h.upto ⟨rfl, trivial⟩) ?_
  refine dg_off (i := 16) rfl (by kernel_rfl) (by kernel_rfl) (by kernel_rfl) [] (by kernel_rfl) (fun _ _ _ h => h) rfl rfl rfl rfl (by decide) rfl (by decide) (fun _ h => h.upto ⟨rfl, trivial⟩) ?_
  refine dg_q (i := 17) rfl (by kernel_rfl) (by kernel_rfl) (by kernel_rfl) [] (by kernel_rfl) (fun _ _ _ h => h) rfl rfl (by decide) (fun _ h => h.upto ⟨rfl, trivial⟩) (qt_pickF rfl rfl rfl) ?_
  refine dg_q (i := 18) rfl (by kernel_rfl) (by kernel_rfl) (by kernel_rfl) [] (by kernel_rfl) (fun _ _ _ h => h) rfl rfl (by decide) (fun _ h => h.upto ⟨rfl, trivial⟩) (qt_assign rfl rfl) ?_
  refine dg_done (by kernel_rfl) ?_
  refine norm_then ?_
  refine at_retc ?_
  refine at_ret1 rfl (.tmp rfl) ?_
  intro w' hs
  exact ⟨retB (fr_out1 g1), hs.fin⟩
theorem specMakeFrac_any (a b : Int) (w : World) (ha : -4611686018427387904 ≤ a ∧ a ≤ 4611686018427387904) (hb : -4611686018427387904 ≤ b ∧ b ≤ 4611686018427387904) : Calls Try.prog 153 #[.int .i64 a, .int .i64 b] w fun e w' => e = .returned (.tuple #[pV (mkP a b), .int .i64 (mkC a b)]) ∧ Over w w' := by
 refine walk_from (m := 48) (Try.func153) rfl rfl (Nat.le_of_ble_eq_true rfl) ?_
 refine at_seq ?_
 refine at_region ?_
 refine at_op rfl ?_
 refine op_alloc rfl tyz_impl_Frac rfl (by decide) (fun b1 => ?_)
 refine at_rsE (by simp only [ya,yb,yc,yd,Value.cells,ye]; rfl) ?_
 refine at_q rfl rfl (by decide) (qt_assign rfl rfl) ?_
 refine at_end ?_
 refine at_seq ?_
 refine at_seq ?_
 refine at_region ?_
 refine at_q rfl rfl (by decide) (qt_move rfl rfl) ?_
 refine at_q rfl rfl (by decide) (qt_eql rfl rfl rfl) ?_
 refine at_end ?_
 refine at_cond rfl (fun c1 => ?_) (fun c1 => ?_)
 ·try simp only [za,zb,zc,zd,ze,zf,Bool.not_true,Bool.not_false,zg,zh,ne_eq,zi,zj] at c1
  refine at_seq ?_
  refine at_region ?_
  refine at_q rfl rfl (by decide) (qt_build rfl rfl (bld_impl_Frac_)) ?_
  refine at_op rfl ?_
  refine op_storeAll' (k := 0) rfl rfl rfl rfl (rfl) (by rfl) tyz_impl_Frac.szx rfl rfl rfl ?_
  refine at_rsE (by simp only [ya,yb,yc,yd,Value.cells,ye]; rfl) ?_
  refine at_q rfl rfl (by decide) (qt_assign rfl rfl) ?_
  refine at_end ?_
  refine at_retc ?_
  refine then_ret ?_
  refine at_ret2 rfl (rvCelS (k := 0) rfl tys_impl_Frac rfl rfl) (.tmp rfl) ?_
  intro w' hs
  obtain ⟨e1, e2⟩ := mk_zero a
  exact ⟨by rw [c1, e1, e2], hs.fin⟩
 ·try simp only [za,zb,zc,zd,ze,zf,Bool.not_true,Bool.not_false,zg,zh,ne_eq,zi,zj] at c1
  have hg := gcd_pos (a := a) c1
  obtain ⟨l1, l2⟩ := mk_le a b
  refine at_skip ?_
  refine norm_then ?_
  refine at_seq ?_
  refine at_region ?_
  refine at_q rfl rfl (by decide) (qt_move rfl rfl) ?_
  refine at_q rfl rfl (by decide) (qt_call ok_spec_l02Size rfl rfl (fun w1 hs => l02Size_any a w1 (by omega) (by omega))) ?_
  refine at_q rfl rfl (by decide) (qt_assign rfl rfl) ?_
  refine at_end ?_
  refine at_seq ?_
  refine at_region ?_
  refine at_q rfl rfl (by decide) (qt_move rfl rfl) ?_
  refine at_q rfl rfl (by decide) (qt_call ok_spec_l02Size rfl rfl (fun w1 hs => l02Size_any b w1 (by omega) (by omega))) ?_
  refine at_q rfl rfl (by decide) (qt_assign rfl rfl) ?_
  refine at_end ?_
  refine at_seq ?_
  refine at_region ?_
  refine at_q rfl rfl (by decide) (qt_move rfl rfl) ?_
  refine at_q rfl rfl (by decide) (qt_move rfl rfl) ?_
  refine at_q rfl rfl (by decide) (qt_call ok_spec_l02Gcd rfl rfl (fun w1 hs => l02Gcd_any a.natAbs b.natAbs w1 (by omega) (by omega))) ?_
  refine at_q rfl rfl (by decide) (qt_assign rfl rfl) ?_
  refine at_end ?_
  refine at_seq ?_
  refine at_region ?_
  refine at_q rfl rfl (by decide) (qt_move rfl rfl) ?_
  refine at_q rfl rfl (by decide) (qt_move rfl rfl) ?_
  refine at_q rfl rfl (by decide) ((qt_quoU rfl rfl rfl hg (by omega)).as (show Value.int .u64 ((a.natAbs / Nat.gcd a.natAbs b.natAbs : Nat) : Int) = .int .u64 (mkA a b : Int) from rfl)) ?_
  refine at_q rfl rfl (by decide) (qt_assign rfl rfl) ?_
  refine at_end ?_
  refine at_seq ?_
  refine at_region ?_
  refine at_q rfl rfl (by decide) (qt_move rfl rfl) ?_
  refine at_q rfl rfl (by decide) (qt_move rfl rfl) ?_
  refine at_q rfl rfl (by decide) ((qt_quoU rfl rfl rfl hg (by omega)).as (show Value.int .u64 ((b.natAbs / Nat.gcd a.natAbs b.natAbs : Nat) : Int) = .int .u64 (mkB a b : Int) from rfl)) ?_
  refine at_q rfl rfl (by decide) (qt_assign rfl rfl) ?_
  refine at_end ?_
  refine at_seq ?_
  refine at_seq ?_
  refine at_region ?_
  refine at_q rfl rfl (by decide) (qt_move rfl rfl) ?_
  refine at_q rfl rfl (by decide) (qt_gtrU rfl rfl rfl) ?_
  refine at_q rfl rfl (by decide) (qt_move rfl rfl) ?_
  refine at_bsplit 28 rfl (fun g1 => ?_) (fun g1 => ?_)
  ·try simp only [za,zb,zc,zd,ze,zf,Bool.not_true,Bool.not_false,zg,zh,ne_eq,zi,zj] at g1
   refine at_off rfl rfl rfl rfl (by decide) rfl (by decide) ?_
   refine at_off rfl rfl rfl rfl (by decide) rfl (by decide) ?_
   refine at_q rfl rfl (by decide) (qt_pickT rfl rfl rfl) ?_
   refine at_end ?_
   refine at_yes rfl rfl ?_
   refine at_seq ?_
   refine at_region ?_
   refine at_q rfl rfl (by decide) (qt_build rfl rfl (bld_impl_Frac_)) ?_
   refine at_op rfl ?_
   refine op_storeAll' (k := 0) rfl rfl rfl rfl (rfl) (by rfl) tyz_impl_Frac.szx rfl rfl rfl ?_
   refine at_rsE (by simp only [ya,yb,yc,yd,Value.cells,ye]; rfl) ?_
   refine at_q rfl rfl (by decide) (qt_assign rfl rfl) ?_
   refine at_end ?_
   refine at_retc ?_
   refine then_ret ?_
   refine at_ret2 rfl (rvCelS (k := 0) rfl tys_impl_Frac rfl rfl) (.tmp rfl) ?_
   intro w' hs
   obtain ⟨e1, e2⟩ := mk_big (a := a) c1 (.inl (by omega))
   exact ⟨by rw [e1, e2], hs.fin⟩
  ·try simp only [za,zb,zc,zd,ze,zf,Bool.not_true,Bool.not_false,zg,zh,ne_eq,zi,zj] at g1
   refine at_on rfl rfl rfl rfl ?_
   refine op_q rfl (by decide) (qt_move rfl rfl) ?_
   refine at_on rfl rfl rfl rfl ?_
   refine op_q rfl (by decide) (qt_gtrU rfl rfl rfl) ?_
   refine at_q rfl rfl (by decide) (qt_pickF rfl rfl rfl) ?_
   refine at_end ?_
   refine at_cond rfl (fun c2 => ?_) (fun c2 => ?_)
   ·try simp only [za,zb,zc,zd,ze,zf,Bool.not_true,Bool.not_false,zg,zh,ne_eq,zi,zj] at c2
    refine at_seq ?_
    refine at_region ?_
    refine at_q rfl rfl (by decide) (qt_build rfl rfl (bld_impl_Frac_)) ?_
    refine at_op rfl ?_
    refine op_storeAll' (k := 0) rfl rfl rfl rfl (rfl) (by rfl) tyz_impl_Frac.szx rfl rfl rfl ?_
    refine at_rsE (by simp only [ya,yb,yc,yd,Value.cells,ye]; rfl) ?_
    refine at_q rfl rfl (by decide) (qt_assign rfl rfl) ?_
    refine at_end ?_
    refine at_retc ?_
    refine then_ret ?_
    refine at_ret2 rfl (rvCelS (k := 0) rfl tys_impl_Frac rfl rfl) (.tmp rfl) ?_
    intro w' hs
    obtain ⟨e1, e2⟩ := mk_big (a := a) c1 (.inr (by omega))
    exact ⟨by rw [e1, e2], hs.fin⟩
   ·try simp only [za,zb,zc,zd,ze,zf,Bool.not_true,Bool.not_false,zg,zh,ne_eq,zi,zj] at c2
    obtain ⟨e1, e2⟩ := mk_fit (a := a) c1 (by omega)
    refine at_skip ?_
    refine norm_then ?_
    refine at_seq ?_
    refine at_region ?_
    refine at_q rfl rfl (by decide) (qt_move rfl rfl) ?_
    refine at_q rfl rfl (by decide) (qt_convI rfl Try.underlying199 Try.underlying2 rfl (wrapI64 _ (by omega) (by omega))) ?_
    refine at_q rfl rfl (by decide) (qt_move rfl rfl) ?_
    refine at_q rfl rfl (by decide) (qt_convI rfl Try.underlying199 Try.underlying2 rfl (wrapI64 _ (by omega) (by omega))) ?_
    refine at_q rfl rfl (by decide) (qt_build rfl rfl (bld_impl_Frac_0_1 rfl rfl)) ?_
    refine at_op rfl ?_
    refine op_alloc rfl tyz_impl_Frac rfl (by decide) (fun b2 => ?_)
    refine at_rsE (by simp only [ya,yb,yc,yd,Value.cells,ye]; rfl) ?_
    refine at_op rfl ?_
    refine op_storeAll' (k := 1) rfl rfl rfl rfl (rfl) (by rfl) tyz_impl_Frac.szx rfl rfl rfl ?_
    refine at_rsE (by simp only [ya,yb,yc,yd,Value.cells,ye]; rfl) ?_
    refine at_end ?_
    refine at_seq ?_
    refine at_seq ?_
    refine at_region ?_
    refine at_q rfl rfl (by decide) (qt_move rfl rfl) ?_
    refine at_q rfl rfl (by decide) (qt_lss rfl rfl rfl) ?_
    refine at_q rfl rfl (by decide) (qt_move rfl rfl) ?_
    refine at_q rfl rfl (by decide) (qt_lss rfl rfl rfl) ?_
    refine at_q rfl rfl (by decide) (qt_neqB tyb_bool rfl rfl rfl) ?_
    refine at_end ?_
    refine at_cond rfl (fun c3 => ?_) (fun c3 => ?_)
    ·try simp only [za,zb,zc,zd,ze,zf,Bool.not_true,Bool.not_false,zg,zh,ne_eq,zi,zj] at c3
     rw [if_neg c3] at e2
     refine at_region ?_
     refine at_q rfl rfl (by decide) (qt_fieldAddr rfl rfl tyf_impl_Frac_0) ?_
     refine at_q rfl rfl (by decide) (qt_load1 rfl rfl ty1_int64 (rd1 (k := 1) rfl rfl)) ?_
     refine at_q rfl rfl (by decide) (qt_neg rfl rfl (by omega) (by omega)) ?_
     refine at_q rfl rfl (by decide) (qt_fieldAddr rfl rfl tyf_impl_Frac_0) ?_
     refine at_op rfl ?_
     refine op_store_2_0_1 (k := 1) rfl rfl rfl rfl (rfl) (by rfl) tyz_int64.szx rfl ?_
     refine at_rsE (by simp only [ya,yb,yc,yd,Value.cells,ye]; rfl) ?_
     refine at_end ?_
     refine at_seq ?_
     refine at_region ?_
     refine at_q rfl rfl (by decide) (qt_loadS rfl rfl tys_impl_Frac rfl (rdAll (k := 1) rfl)) ?_
     refine at_op rfl ?_
     refine op_storeAll' (k := 0) rfl rfl rfl rfl (rfl) (by rfl) tyz_impl_Frac.szx rfl rfl rfl ?_
     refine at_rsE (by simp only [ya,yb,yc,yd,Value.cells,ye]; rfl) ?_
     refine at_q rfl rfl (by decide) (qt_assign rfl rfl) ?_
     refine at_end ?_
     refine at_retc ?_
     refine at_ret2 rfl (rvCelS (k := 0) rfl tys_impl_Frac rfl rfl) (.tmp rfl) ?_
     intro w' hs
     exact ⟨by rw [e1, e2], hs.fin⟩
    ·try simp only [za,zb,zc,zd,ze,zf,Bool.not_true,Bool.not_false,zg,zh,ne_eq,zi,zj] at c3
     rw [if_pos c3] at e2
     refine at_skip ?_
     refine norm_then ?_
     refine at_seq ?_
     refine at_region ?_
     refine at_q rfl rfl (by decide) (qt_loadS rfl rfl tys_impl_Frac rfl (rdAll (k := 1) rfl)) ?_
     refine at_op rfl ?_
     refine op_storeAll' (k := 0) rfl rfl rfl rfl (rfl) (by rfl) tyz_impl_Frac.szx rfl rfl rfl ?_
     refine at_rsE (by simp only [ya,yb,yc,yd,Value.cells,ye]; rfl) ?_
     refine at_q rfl rfl (by decide) (qt_assign rfl rfl) ?_
     refine at_end ?_
     refine at_retc ?_
     refine at_ret2 rfl (rvCelS (k := 0) rfl tys_impl_Frac rfl rfl) (.tmp rfl) ?_
     intro w' hs
     exact ⟨by rw [e1, e2], hs.fin⟩
theorem specAddFrac_any (p q : Pn) (w : World) : Calls Try.prog 131 #[pV p, pV q] w fun e w' => e = .returned (.tuple #[pV (adP p q), .int .i64 (adC p q)]) ∧ Over w w' := by
 refine walk_from (m := 34) (Try.func131) rfl rfl (Nat.le_of_ble_eq_true rfl) ?_
 refine at_seq ?_
 refine at_region ?_
 refine at_op rfl ?_
 refine op_box rfl rfl (rfl) rfl (by decide) (fun b1 => ?_)
 refine at_rsE (by simp only [ya,yb,yc,yd,Value.cells,ye]; rfl) ?_
 refine at_op rfl ?_
 refine op_box rfl rfl (rfl) rfl (by decide) (fun b2 => ?_)
 refine at_rsE (by simp only [ya,yb,yc,yd,Value.cells,ye]; rfl) ?_
 refine at_op rfl ?_
 refine op_alloc rfl tyz_impl_Frac rfl (by decide) (fun b3 => ?_)
 refine at_rsE (by simp only [ya,yb,yc,yd,Value.cells,ye]; rfl) ?_
 refine at_q rfl rfl (by decide) (qt_assign rfl rfl) ?_
 refine at_end ?_
 refine at_seq ?_
 refine at_seq ?_
 refine at_region ?_
 refine at_q rfl rfl (by decide) (qt_loadS rfl rfl tys_impl_Frac rfl (rdAll (k := 0) rfl)) ?_
 refine at_q rfl rfl (by decide) (qt_call ok_spec_l02Ok rfl rfl (fun w1 hs => l02Ok_any p w1)) ?_
 refine at_q rfl rfl (by decide) (qt_not rfl rfl) ?_
 refine at_q rfl rfl (by decide) (qt_move rfl rfl) ?_
 refine at_bsplit 9 rfl (fun g1 => ?_) (fun g1 => ?_)
 ·try simp only [za,zb,zc,zd,ze,zf,Bool.not_true,Bool.not_false,zg,zh,ne_eq,zi,zj] at g1
  refine at_off rfl rfl rfl rfl (by decide) rfl (by decide) ?_
  refine at_off rfl rfl rfl rfl (by decide) rfl (by decide) ?_
  refine at_off rfl rfl rfl rfl (by decide) rfl (by decide) ?_
  refine at_q rfl rfl (by decide) (qt_pickT rfl rfl rfl) ?_
  refine at_end ?_
  refine at_yes rfl rfl ?_
  refine at_seq ?_
  refine at_region ?_
  refine at_q rfl rfl (by decide) (qt_build rfl rfl (bld_impl_Frac_)) ?_
  refine at_op rfl ?_
  refine op_storeAll' (k := 2) rfl rfl rfl rfl (rfl) (by rfl) tyz_impl_Frac.szx rfl rfl rfl ?_
  refine at_rsE (by simp only [ya,yb,yc,yd,Value.cells,ye]; rfl) ?_
  refine at_q rfl rfl (by decide) (qt_assign rfl rfl) ?_
  refine at_end ?_
  refine at_retc ?_
  refine then_ret ?_
  refine at_ret2 rfl (rvCelS (k := 2) rfl tys_impl_Frac rfl rfl) (.tmp rfl) ?_
  intro w' hs
  obtain ⟨e1, e2, _⟩ := ad_no (two_l (q := q) g1)
  exact ⟨by rw [e1, e2], hs.fin⟩
 ·try simp only [za,zb,zc,zd,ze,zf,Bool.not_true,Bool.not_false,zg,zh,ne_eq,zi,zj] at g1
  refine at_on rfl rfl rfl rfl ?_
  refine op_q rfl (by decide) (qt_loadS rfl rfl tys_impl_Frac rfl (rdAll (k := 1) rfl)) ?_
  refine at_on rfl rfl rfl rfl ?_
  refine op_q rfl (by decide) (qt_call ok_spec_l02Ok rfl rfl (fun w1 hs => l02Ok_any q w1)) ?_
  refine at_on rfl rfl rfl rfl ?_
  refine op_q rfl (by decide) (qt_not rfl rfl) ?_
  refine at_q rfl rfl (by decide) (qt_pickF rfl rfl rfl) ?_
  refine at_end ?_
  refine at_cond rfl (fun c1 => ?_) (fun c1 => ?_)
  ·try simp only [za,zb,zc,zd,ze,zf,Bool.not_true,Bool.not_false,zg,zh,ne_eq,zi,zj] at c1
   refine at_seq ?_
   refine at_region ?_
   refine at_q rfl rfl (by decide) (qt_build rfl rfl (bld_impl_Frac_)) ?_
   refine at_op rfl ?_
   refine op_storeAll' (k := 2) rfl rfl rfl rfl (rfl) (by rfl) tyz_impl_Frac.szx rfl rfl rfl ?_
   refine at_rsE (by simp only [ya,yb,yc,yd,Value.cells,ye]; rfl) ?_
   refine at_q rfl rfl (by decide) (qt_assign rfl rfl) ?_
   refine at_end ?_
   refine at_retc ?_
   refine then_ret ?_
   refine at_ret2 rfl (rvCelS (k := 2) rfl tys_impl_Frac rfl rfl) (.tmp rfl) ?_
   intro w' hs
   obtain ⟨e1, e2, _⟩ := ad_no (two_r (p := p) c1)
   exact ⟨by rw [e1, e2], hs.fin⟩
  ·try simp only [za,zb,zc,zd,ze,zf,Bool.not_true,Bool.not_false,zg,zh,ne_eq,zi,zj] at c1
   have h2 := two_y g1 c1
   obtain ⟨e1, e2, _⟩ := ad_yes h2
   obtain ⟨o1, o2⟩ := two_ok h2
   obtain ⟨⟨b1, b2⟩, ⟨b3, b4⟩, b5, b6⟩ := ad_bd o1 o2
   refine at_skip ?_
   refine norm_then ?_
   refine at_seq ?_
   refine at_region ?_
   refine at_q rfl rfl (by decide) (qt_fieldAddr rfl rfl tyf_impl_Frac_0) ?_
   refine at_q rfl rfl (by decide) (qt_load1 rfl rfl ty1_int64 (rd1 (k := 0) rfl rfl)) ?_
   refine at_q rfl rfl (by decide) (qt_fieldAddr rfl rfl tyf_impl_Frac_1) ?_
   refine at_q rfl rfl (by decide) (qt_load1 rfl rfl ty1_int64 (rd1 (k := 1) rfl rfl)) ?_
   refine at_q rfl rfl (by decide) (qt_mul rfl rfl rfl (by omega) (by omega)) ?_
   refine at_q rfl rfl (by decide) (qt_fieldAddr rfl rfl tyf_impl_Frac_0) ?_
   refine at_q rfl rfl (by decide) (qt_load1 rfl rfl ty1_int64 (rd1 (k := 1) rfl rfl)) ?_
   refine at_q rfl rfl (by decide) (qt_fieldAddr rfl rfl tyf_impl_Frac_1) ?_
   refine at_q rfl rfl (by decide) (qt_load1 rfl rfl ty1_int64 (rd1 (k := 0) rfl rfl)) ?_
   refine at_q rfl rfl (by decide) (qt_mul rfl rfl rfl (by omega) (by omega)) ?_
   refine at_q rfl rfl (by decide) (qt_add rfl rfl rfl (by omega) (by omega)) ?_
   refine at_q rfl rfl (by decide) (qt_fieldAddr rfl rfl tyf_impl_Frac_1) ?_
   refine at_q rfl rfl (by decide) (qt_load1 rfl rfl ty1_int64 (rd1 (k := 0) rfl rfl)) ?_
   refine at_q rfl rfl (by decide) (qt_fieldAddr rfl rfl tyf_impl_Frac_1) ?_
   refine at_q rfl rfl (by decide) (qt_load1 rfl rfl ty1_int64 (rd1 (k := 1) rfl rfl)) ?_
   refine at_q rfl rfl (by decide) (qt_mul rfl rfl rfl (by omega) (by omega)) ?_
   refine at_q rfl rfl (by decide) (qt_call ok_spec_MakeFrac rfl rfl (fun w1 hs => specMakeFrac_any (adN p q) (p.2 * q.2) w1 (by unfold adN; omega) (by omega))) ?_
   refine at_q rfl rfl (by decide) (qt_extract rfl rfl rfl) ?_
   refine at_q rfl rfl (by decide) (qt_extract rfl rfl rfl) ?_
   refine at_op rfl ?_
   refine op_storeAll' (k := 2) rfl rfl rfl rfl (rfl) (by rfl) tyz_impl_Frac.szx rfl rfl rfl ?_
   refine at_rsE (by simp only [ya,yb,yc,yd,Value.cells,ye]; rfl) ?_
   refine at_q rfl rfl (by decide) (qt_assign rfl rfl) ?_
   refine at_end ?_
   refine at_retc ?_
   refine at_ret2 rfl (rvCelS (k := 2) rfl tys_impl_Frac rfl rfl) (.tmp rfl) ?_
   intro w' hs
   exact ⟨by rw [e1, e2], hs.fin⟩
theorem specMulFrac_any (p q : Pn) (w : World) : Calls Try.prog 152 #[pV p, pV q] w fun e w' => e = .returned (.tuple #[pV (muP p q), .int .i64 (muC p q)]) ∧ Over w w' := by
 refine walk_from (m := 28) (Try.func152) rfl rfl (Nat.le_of_ble_eq_true rfl) ?_
 refine at_seq ?_
 refine at_region ?_
 refine at_op rfl ?_
 refine op_box rfl rfl (rfl) rfl (by decide) (fun b1 => ?_)
 refine at_rsE (by simp only [ya,yb,yc,yd,Value.cells,ye]; rfl) ?_
 refine at_op rfl ?_
 refine op_box rfl rfl (rfl) rfl (by decide) (fun b2 => ?_)
 refine at_rsE (by simp only [ya,yb,yc,yd,Value.cells,ye]; rfl) ?_
 refine at_op rfl ?_
 refine op_alloc rfl tyz_impl_Frac rfl (by decide) (fun b3 => ?_)
 refine at_rsE (by simp only [ya,yb,yc,yd,Value.cells,ye]; rfl) ?_
 refine at_q rfl rfl (by decide) (qt_assign rfl rfl) ?_
 refine at_end ?_
 refine at_seq ?_
 refine at_seq ?_
 refine at_region ?_
 refine at_q rfl rfl (by decide) (qt_loadS rfl rfl tys_impl_Frac rfl (rdAll (k := 0) rfl)) ?_
 refine at_q rfl rfl (by decide) (qt_call ok_spec_l02Ok rfl rfl (fun w1 hs => l02Ok_any p w1)) ?_
 refine at_q rfl rfl (by decide) (qt_not rfl rfl) ?_
 refine at_q rfl rfl (by decide) (qt_move rfl rfl) ?_
 refine at_bsplit 9 rfl (fun g1 => ?_) (fun g1 => ?_)
 ·try simp only [za,zb,zc,zd,ze,zf,Bool.not_true,Bool.not_false,zg,zh,ne_eq,zi,zj] at g1
  refine at_off rfl rfl rfl rfl (by decide) rfl (by decide) ?_
  refine at_off rfl rfl rfl rfl (by decide) rfl (by decide) ?_
  refine at_off rfl rfl rfl rfl (by decide) rfl (by decide) ?_
  refine at_q rfl rfl (by decide) (qt_pickT rfl rfl rfl) ?_
  refine at_end ?_
  refine at_yes rfl rfl ?_
  refine at_seq ?_
  refine at_region ?_
  refine at_q rfl rfl (by decide) (qt_build rfl rfl (bld_impl_Frac_)) ?_
  refine at_op rfl ?_
  refine op_storeAll' (k := 2) rfl rfl rfl rfl (rfl) (by rfl) tyz_impl_Frac.szx rfl rfl rfl ?_
  refine at_rsE (by simp only [ya,yb,yc,yd,Value.cells,ye]; rfl) ?_
  refine at_q rfl rfl (by decide) (qt_assign rfl rfl) ?_
  refine at_end ?_
  refine at_retc ?_
  refine then_ret ?_
  refine at_ret2 rfl (rvCelS (k := 2) rfl tys_impl_Frac rfl rfl) (.tmp rfl) ?_
  intro w' hs
  obtain ⟨_, _, e1, e2⟩ := ad_no (two_l (q := q) g1)
  exact ⟨by rw [e1, e2], hs.fin⟩
 ·try simp only [za,zb,zc,zd,ze,zf,Bool.not_true,Bool.not_false,zg,zh,ne_eq,zi,zj] at g1
  refine at_on rfl rfl rfl rfl ?_
  refine op_q rfl (by decide) (qt_loadS rfl rfl tys_impl_Frac rfl (rdAll (k := 1) rfl)) ?_
  refine at_on rfl rfl rfl rfl ?_
  refine op_q rfl (by decide) (qt_call ok_spec_l02Ok rfl rfl (fun w1 hs => l02Ok_any q w1)) ?_
  refine at_on rfl rfl rfl rfl ?_
  refine op_q rfl (by decide) (qt_not rfl rfl) ?_
  refine at_q rfl rfl (by decide) (qt_pickF rfl rfl rfl) ?_
  refine at_end ?_
  refine at_cond rfl (fun c1 => ?_) (fun c1 => ?_)
  ·try simp only [za,zb,zc,zd,ze,zf,Bool.not_true,Bool.not_false,zg,zh,ne_eq,zi,zj] at c1
   refine at_seq ?_
   refine at_region ?_
   refine at_q rfl rfl (by decide) (qt_build rfl rfl (bld_impl_Frac_)) ?_
   refine at_op rfl ?_
   refine op_storeAll' (k := 2) rfl rfl rfl rfl (rfl) (by rfl) tyz_impl_Frac.szx rfl rfl rfl ?_
   refine at_rsE (by simp only [ya,yb,yc,yd,Value.cells,ye]; rfl) ?_
   refine at_q rfl rfl (by decide) (qt_assign rfl rfl) ?_
   refine at_end ?_
   refine at_retc ?_
   refine then_ret ?_
   refine at_ret2 rfl (rvCelS (k := 2) rfl tys_impl_Frac rfl rfl) (.tmp rfl) ?_
   intro w' hs
   obtain ⟨_, _, e1, e2⟩ := ad_no (two_r (p := p) c1)
   exact ⟨by rw [e1, e2], hs.fin⟩
  ·try simp only [za,zb,zc,zd,ze,zf,Bool.not_true,Bool.not_false,zg,zh,ne_eq,zi,zj] at c1
   have h2 := two_y g1 c1
   obtain ⟨_, _, e1, e2⟩ := ad_yes h2
   obtain ⟨o1, o2⟩ := two_ok h2
   obtain ⟨b7, b8⟩ := mu_bd o1 o2
   obtain ⟨_, _, b5, b6⟩ := ad_bd o1 o2
   refine at_skip ?_
   refine norm_then ?_
   refine at_seq ?_
   refine at_region ?_
   refine at_q rfl rfl (by decide) (qt_fieldAddr rfl rfl tyf_impl_Frac_0) ?_
   refine at_q rfl rfl (by decide) (qt_load1 rfl rfl ty1_int64 (rd1 (k := 0) rfl rfl)) ?_
   refine at_q rfl rfl (by decide) (qt_fieldAddr rfl rfl tyf_impl_Frac_0) ?_
   refine at_q rfl rfl (by decide) (qt_load1 rfl rfl ty1_int64 (rd1 (k := 1) rfl rfl)) ?_
   refine at_q rfl rfl (by decide) (qt_mul rfl rfl rfl (by omega) (by omega)) ?_
   refine at_q rfl rfl (by decide) (qt_fieldAddr rfl rfl tyf_impl_Frac_1) ?_
   refine at_q rfl rfl (by decide) (qt_load1 rfl rfl ty1_int64 (rd1 (k := 0) rfl rfl)) ?_
   refine at_q rfl rfl (by decide) (qt_fieldAddr rfl rfl tyf_impl_Frac_1) ?_
   refine at_q rfl rfl (by decide) (qt_load1 rfl rfl ty1_int64 (rd1 (k := 1) rfl rfl)) ?_
   refine at_q rfl rfl (by decide) (qt_mul rfl rfl rfl (by omega) (by omega)) ?_
   refine at_q rfl rfl (by decide) (qt_call ok_spec_MakeFrac rfl rfl (fun w1 hs => specMakeFrac_any (p.1 * q.1) (p.2 * q.2) w1 (by omega) (by omega))) ?_
   refine at_q rfl rfl (by decide) (qt_extract rfl rfl rfl) ?_
   refine at_q rfl rfl (by decide) (qt_extract rfl rfl rfl) ?_
   refine at_op rfl ?_
   refine op_storeAll' (k := 2) rfl rfl rfl rfl (rfl) (by rfl) tyz_impl_Frac.szx rfl rfl rfl ?_
   refine at_rsE (by simp only [ya,yb,yc,yd,Value.cells,ye]; rfl) ?_
   refine at_q rfl rfl (by decide) (qt_assign rfl rfl) ?_
   refine at_end ?_
   refine at_retc ?_
   refine at_ret2 rfl (rvCelS (k := 2) rfl tys_impl_Frac rfl rfl) (.tmp rfl) ?_
   intro w' hs
   exact ⟨by rw [e1, e2], hs.fin⟩
theorem rnd_fl {n d : Int} (hd : 0 < d) : (2 * n + d) / (2 * d) = rnd n d := by
 have e := Int.mul_ediv_add_emod n d
 have m0 := Int.emod_nonneg n (Int.ne_of_gt hd)
 have m1 := Int.emod_lt_of_pos n hd
 have key : ∀ q r : Int, 0 ≤ r → r < 2 * d → 2 * n + d = 2 * d * q + r → (2 * n + d) / (2 * d) = q := fun q r h1 h2 h3 => by
  rw [h3, Int.mul_add_ediv_left _ _ (by omega), Int.ediv_eq_zero_of_lt h1 h2, Int.add_zero]
 unfold rnd
 split
 ·exact key _ (2 * (n % d) - d) (by omega) (by omega) (by rw [Int.mul_add, Int.mul_assoc]; omega)
 ·exact key _ (2 * (n % d) + d) (by omega) (by omega) (by rw [Int.mul_assoc]; omega)
theorem tdiv_fl {n d : Int} (hd : 0 < d) : (n.tmod d < 0 → n.tdiv d - 1 = n / d) ∧ (¬ n.tmod d < 0 → n.tdiv d = n / d) := by
 have m0 := Int.emod_nonneg n (Int.ne_of_gt hd)
 have m1 := Int.emod_lt_of_pos n hd
 rcases Int.lt_or_le n 0 with h | h
 ·obtain ⟨e1, e2⟩ := tdiv_neg_ n d h hd
  rw [e1, e2]
  by_cases k : n % d = 0
  ·rw [if_pos k, if_pos k]
   exact ⟨fun q => by omega, fun _ => rfl⟩
  ·rw [if_neg k, if_neg k]
   exact ⟨fun _ => by omega, fun q => by omega⟩
 ·have e1 := Int.tdiv_eq_ediv_of_nonneg (b := d) h
  have e2 := Int.tmod_eq_emod_of_nonneg (b := d) h
  rw [e1, e2]
  exact ⟨fun q => by omega, fun _ => rfl⟩
theorem l02Div_any (a b : Int) (w : World) (hb : 0 < b) (h1 : -9223372036854775000 ≤ a) (h2 : a ≤ 9223372036854775000) : Calls Try.prog 171 #[.int .i64 a, .int .i64 b] w fun e w' => e = .returned (.int .i64 (a / b)) ∧ Over w w' := by
 obtain ⟨k1, k2⟩ := tdiv_fl (n := a) hb
 have hd := div_bd a b 9223372036854775000 hb h1 h2
 refine walk_from (m := 16) (Try.func171) rfl rfl (Nat.le_of_ble_eq_true rfl) ?_
 refine at_seq ?_
 refine at_region ?_
 refine at_q rfl rfl (by decide) (qt_assign rfl rfl) ?_
 refine at_end ?_
 refine at_seq ?_
 refine at_region ?_
 refine at_q rfl rfl (by decide) (qt_move rfl rfl) ?_
 refine at_q rfl rfl (by decide) (qt_move rfl rfl) ?_
 refine at_q rfl rfl (by decide) (qt_quo rfl rfl rfl (by omega) (by omega) (by omega)) ?_
 refine at_q rfl rfl (by decide) (qt_assign rfl rfl) ?_
 refine at_end ?_
 refine at_cutE [(5, .int .i64 (a / b))] (C := [(4, _)])  ⟨rfl, trivial⟩ (fun L hC_cutif_t12 => ?_) ?_
 ·refine at_seq ?_
  refine at_region ?_
  refine at_q rfl rfl (by decide) (qt_move rfl rfl) ?_
  refine at_q rfl rfl (by decide) (qt_move rfl rfl) ?_
  refine at_q rfl rfl (by decide) (qt_rem rfl rfl rfl (by omega) (by omega) (by omega)) ?_
  refine at_q rfl rfl (by decide) (qt_lss rfl rfl rfl) ?_
  refine at_end ?_
  refine at_cond rfl (fun c1 => ?_) (fun c1 => ?_)
  ·try simp only [za,zb,zc,zd,ze,zf,Bool.not_true,Bool.not_false,zg,zh,ne_eq,zi,zj] at c1
   refine at_region ?_
   refine at_q rfl rfl (by decide) (qt_move rfl rfl) ?_
   refine at_q rfl rfl (by decide) (qt_sub rfl rfl rfl (by omega) (by omega)) ?_
   refine at_q rfl rfl (by decide) (qt_assign rfl rfl) ?_
   refine at_end ?_
   exact at_meet hC_cutif_t12 ⟨vi (k1 c1), rfl, trivial⟩ (fun _ h => h.upto trivial)
  ·try simp only [za,zb,zc,zd,ze,zf,Bool.not_true,Bool.not_false,zg,zh,ne_eq,zi,zj] at c1
   refine at_skip ?_
   refine norm_then ?_
   exact at_meet hC_cutif_t12 ⟨vi (k2 (by omega)), rfl, trivial⟩ (fun _ h => h.upto trivial)
 ·refine at_envE (by simp only [ya,yb]; rfl) ?_
  refine at_seq ?_
  refine at_region ?_
  refine at_q rfl rfl (by decide) (qt_move rfl rfl) ?_
  refine at_q rfl rfl (by decide) (qt_assign rfl rfl) ?_
  refine at_end ?_
  refine at_retc ?_
  refine at_ret1 rfl (.tmp rfl) ?_
  intro w' hs
  exact ⟨rfl, hs.fin⟩
theorem l02Round_any (n d : Int) (w : World) (hd : 0 < d) (hd2 : d ≤ 1000000) (h1 : -1000000000 ≤ n) (h2 : n ≤ 1000000000) : Calls Try.prog 154 #[.int .i64 n, .int .i64 d] w fun e w' => e = .returned (.int .i64 (rnd n d)) ∧ Over w w' := by
 refine walk_from (m := 12) (Try.func154) rfl rfl (Nat.le_of_ble_eq_true rfl) ?_
 refine at_seq ?_
 refine at_region ?_
 refine at_q rfl rfl (by decide) (qt_assign rfl rfl) ?_
 refine at_end ?_
 refine at_seq ?_
 refine at_region ?_
 refine at_q rfl rfl (by decide) (qt_move rfl rfl) ?_
 refine at_q rfl rfl (by decide) (qt_mul rfl rfl rfl (by omega) (by omega)) ?_
 refine at_q rfl rfl (by decide) (qt_move rfl rfl) ?_
 refine at_q rfl rfl (by decide) (qt_add rfl rfl rfl (by omega) (by omega)) ?_
 refine at_q rfl rfl (by decide) (qt_move rfl rfl) ?_
 refine at_q rfl rfl (by decide) (qt_mul rfl rfl rfl (by omega) (by omega)) ?_
 refine at_q rfl rfl (by decide) (qt_call ok_spec_l02Div rfl rfl (fun w1 hs => l02Div_any (2 * n + d) (2 * d) w1 (by omega) (by omega) (by omega))) ?_
 refine at_q rfl rfl (by decide) (qt_assign rfl rfl) ?_
 refine at_end ?_
 refine at_retc ?_
 refine at_ret1 rfl (.tmp rfl) ?_
 intro w' hs
 exact ⟨by rw [rnd_fl hd], hs.fin⟩
theorem specRoundFrac_any (p : Pn) (w : World) : Calls Try.prog 132 #[pV p] w fun e w' => e = .returned (.int .i64 (rfV p)) ∧ Over w w' := by
 refine walk_from (m := 11) (Try.func132) rfl rfl (Nat.le_of_ble_eq_true rfl) ?_
 refine at_seq ?_
 refine at_region ?_
 refine at_op rfl ?_
 refine op_box rfl rfl (rfl) rfl (by decide) (fun b1 => ?_)
 refine at_rsE (by simp only [ya,yb,yc,yd,Value.cells,ye]; rfl) ?_
 refine at_q rfl rfl (by decide) (qt_assign rfl rfl) ?_
 refine at_end ?_
 refine at_seq ?_
 refine at_seq ?_
 refine at_region ?_
 refine at_q rfl rfl (by decide) (qt_loadS rfl rfl tys_impl_Frac rfl (rdAll (k := 0) rfl)) ?_
 refine at_q rfl rfl (by decide) (qt_call ok_spec_l02Ok rfl rfl (fun w1 hs => l02Ok_any p w1)) ?_
 refine at_q rfl rfl (by decide) (qt_not rfl rfl) ?_
 refine at_end ?_
 refine at_cond rfl (fun c1 => ?_) (fun c1 => ?_)
 ·try simp only [za,zb,zc,zd,ze,zf,Bool.not_true,Bool.not_false,zg,zh,ne_eq,zi,zj] at c1
  refine at_seq ?_
  refine at_region ?_
  refine at_q rfl rfl (by decide) (qt_assign rfl rfl) ?_
  refine at_end ?_
  refine at_retc ?_
  refine then_ret ?_
  refine at_ret1 rfl (.tmp rfl) ?_
  intro w' hs
  exact ⟨by rw [rfV, if_neg (by rw [c1]; decide)], hs.fin⟩
 ·try simp only [za,zb,zc,zd,ze,zf,Bool.not_true,Bool.not_false,zg,zh,ne_eq,zi,zj] at c1
  have ho := fr_ok c1
  obtain ⟨d1, d2, n1, n2⟩ := ho
  refine at_skip ?_
  refine norm_then ?_
  refine at_seq ?_
  refine at_region ?_
  refine at_q rfl rfl (by decide) (qt_fieldAddr rfl rfl tyf_impl_Frac_0) ?_
  refine at_q rfl rfl (by decide) (qt_load1 rfl rfl ty1_int64 (rd1 (k := 0) rfl rfl)) ?_
  refine at_q rfl rfl (by decide) (qt_fieldAddr rfl rfl tyf_impl_Frac_1) ?_
  refine at_q rfl rfl (by decide) (qt_load1 rfl rfl ty1_int64 (rd1 (k := 0) rfl rfl)) ?_
  refine at_q rfl rfl (by decide) (qt_call ok_spec_l02Round rfl rfl (fun w1 hs => l02Round_any p.1 p.2 w1 (by omega) d2 n1 n2)) ?_
  refine at_q rfl rfl (by decide) (qt_assign rfl rfl) ?_
  refine at_end ?_
  refine at_retc ?_
  refine at_ret1 rfl (.tmp rfl) ?_
  intro w' hs
  exact ⟨by rw [rfV, if_pos c1], hs.fin⟩
theorem l04Int_any (n : Int) (w : World) : Calls Try.prog 130 #[.int .i64 n] w fun e w' => e = .returned (pV (n, 1)) ∧ Over w w' := by
 refine walk_from (m := 5) (Try.func130) rfl rfl (Nat.le_of_ble_eq_true rfl) ?_
 refine at_seq ?_
 refine at_region ?_
 refine at_op rfl ?_
 refine op_alloc rfl tyz_impl_Frac rfl (by decide) (fun b1 => ?_)
 refine at_rsE (by simp only [ya,yb,yc,yd,Value.cells,ye]; rfl) ?_
 refine at_end ?_
 refine at_seq ?_
 refine at_region ?_
 refine at_q rfl rfl (by decide) (qt_move rfl rfl) ?_
 refine at_q rfl rfl (by decide) (qt_build rfl rfl (bld_impl_Frac_0_1 rfl rfl)) ?_
 refine at_op rfl ?_
 refine op_storeAll' (k := 0) rfl rfl rfl rfl (rfl) (by rfl) tyz_impl_Frac.szx rfl rfl rfl ?_
 refine at_rsE (by simp only [ya,yb,yc,yd,Value.cells,ye]; rfl) ?_
 refine at_end ?_
 refine at_retc ?_
 refine at_ret1 rfl (rvCelS (k := 0) rfl tys_impl_Frac rfl rfl) ?_
 intro w' hs
 exact ⟨rfl, hs.fin⟩
theorem l2_one {a b c d : Pn} (h : ¬ muC a b = 0) : l2P a b c d = (0, 0) ∧ decide (l2C a b c d = 0) = false := by
 have e : l2C a b c d = muC a b := by rw [l2C, if_neg h]
 exact ⟨by rw [l2P, e, if_neg h], by rw [e]; exact decide_eq_false h⟩
theorem l2_two {a b c d : Pn} (h0 : muC a b = 0) (h : ¬ muC c d = 0) : l2P a b c d = (0, 0) ∧ decide (l2C a b c d = 0) = false := by
 have e : l2C a b c d = muC c d := by rw [l2C, if_pos h0, if_neg h]
 exact ⟨by rw [l2P, e, if_neg h], by rw [e]; exact decide_eq_false h⟩
theorem l2_ok {a b c d : Pn} (h0 : muC a b = 0) (h : muC c d = 0) : l2P a b c d = adP (muP a b) (muP c d) ∧ decide (l2C a b c d = 0) = (adC (muP a b) (muP c d) == 0) := by
 have e : l2C a b c d = adC (muP a b) (muP c d) := by rw [l2C, if_pos h0, if_pos h]
 refine ⟨?_, by rw [e]; rfl⟩
 rw [l2P, e]
 split
 ·rfl
 ·rename_i k; exact (ad_err k).symm
theorem l04Two_any (a b c d : Pn) (w : World) : Calls Try.prog 129 #[pV a, pV b, pV c, pV d] w fun e w' => e = .returned (.tuple #[pV (l2P a b c d), .bool (decide (l2C a b c d = 0))]) ∧ Over w w' := by
 refine walk_from (m := 44) (Try.func129) rfl rfl (Nat.le_of_ble_eq_true rfl) ?_
 refine at_seq ?_
 refine at_region ?_
 refine at_op rfl ?_
 refine op_box rfl rfl (rfl) rfl (by decide) (fun b1 => ?_)
 refine at_rsE (by simp only [ya,yb,yc,yd,Value.cells,ye]; rfl) ?_
 refine at_op rfl ?_
 refine op_box rfl rfl (rfl) rfl (by decide) (fun b2 => ?_)
 refine at_rsE (by simp only [ya,yb,yc,yd,Value.cells,ye]; rfl) ?_
 refine at_op rfl ?_
 refine op_box rfl rfl (rfl) rfl (by decide) (fun b3 => ?_)
 refine at_rsE (by simp only [ya,yb,yc,yd,Value.cells,ye]; rfl) ?_
 refine at_op rfl ?_
 refine op_box rfl rfl (rfl) rfl (by decide) (fun b4 => ?_)
 refine at_rsE (by simp only [ya,yb,yc,yd,Value.cells,ye]; rfl) ?_
 refine at_op rfl ?_
 refine op_alloc rfl tyz_impl_Frac rfl (by decide) (fun b5 => ?_)
 refine at_rsE (by simp only [ya,yb,yc,yd,Value.cells,ye]; rfl) ?_
 refine at_q rfl rfl (by decide) (qt_assign rfl rfl) ?_
 refine at_end ?_
 refine at_seq ?_
 refine at_region ?_
 refine at_q rfl rfl (by decide) (qt_loadS rfl rfl tys_impl_Frac rfl (rdAll (k := 0) rfl)) ?_
 refine at_q rfl rfl (by decide) (qt_loadS rfl rfl tys_impl_Frac rfl (rdAll (k := 1) rfl)) ?_
 refine at_q rfl rfl (by decide) (qt_call ok_spec_MulFrac rfl rfl (fun w1 hs => specMulFrac_any a b w1)) ?_
 refine at_q rfl rfl (by decide) (qt_move rfl rfl) ?_
 refine at_q rfl rfl (by decide) (qt_extract rfl rfl rfl) ?_
 refine at_q rfl rfl (by decide) (qt_extract rfl rfl rfl) ?_
 refine at_op rfl ?_
 refine op_alloc rfl tyz_impl_Frac rfl (by decide) (fun b6 => ?_)
 refine at_rsE (by simp only [ya,yb,yc,yd,Value.cells,ye]; rfl) ?_
 refine at_op rfl ?_
 refine op_storeAll' (k := 5) rfl rfl rfl rfl (rfl) (by rfl) tyz_impl_Frac.szx rfl rfl rfl ?_
 refine at_rsE (by simp only [ya,yb,yc,yd,Value.cells,ye]; rfl) ?_
 refine at_q rfl rfl (by decide) (qt_assign rfl rfl) ?_
 refine at_end ?_
 refine at_seq ?_
 refine at_region ?_
 refine at_q rfl rfl (by decide) (qt_loadS rfl rfl tys_impl_Frac rfl (rdAll (k := 2) rfl)) ?_
 refine at_q rfl rfl (by decide) (qt_loadS rfl rfl tys_impl_Frac rfl (rdAll (k := 3) rfl)) ?_
 refine at_q rfl rfl (by decide) (qt_call ok_spec_MulFrac rfl rfl (fun w1 hs => specMulFrac_any c d w1)) ?_
 refine at_q rfl rfl (by decide) (qt_move rfl rfl) ?_
 refine at_q rfl rfl (by decide) (qt_extract rfl rfl rfl) ?_
 refine at_q rfl rfl (by decide) (qt_extract rfl rfl rfl) ?_
 refine at_op rfl ?_
 refine op_alloc rfl tyz_impl_Frac rfl (by decide) (fun b7 => ?_)
 refine at_rsE (by simp only [ya,yb,yc,yd,Value.cells,ye]; rfl) ?_
 refine at_op rfl ?_
 refine op_storeAll' (k := 6) rfl rfl rfl rfl (rfl) (by rfl) tyz_impl_Frac.szx rfl rfl rfl ?_
 refine at_rsE (by simp only [ya,yb,yc,yd,Value.cells,ye]; rfl) ?_
 refine at_q rfl rfl (by decide) (qt_assign rfl rfl) ?_
 refine at_end ?_
 refine at_seq ?_
 refine at_seq ?_
 refine at_region ?_
 refine at_q rfl rfl (by decide) (qt_move rfl rfl) ?_
 refine at_q rfl rfl (by decide) (qt_neq rfl rfl rfl) ?_
 refine at_q rfl rfl (by decide) (qt_move rfl rfl) ?_
 refine at_bsplit 30 rfl (fun g1 => ?_) (fun g1 => ?_)
 ·try simp only [za,zb,zc,zd,ze,zf,Bool.not_true,Bool.not_false,zg,zh,ne_eq,zi,zj] at g1
  refine at_off rfl rfl rfl rfl (by decide) rfl (by decide) ?_
  refine at_off rfl rfl rfl rfl (by decide) rfl (by decide) ?_
  refine at_q rfl rfl (by decide) (qt_pickT rfl rfl rfl) ?_
  refine at_end ?_
  refine at_yes rfl rfl ?_
  refine at_seq ?_
  refine at_region ?_
  refine at_q rfl rfl (by decide) (qt_build rfl rfl (bld_impl_Frac_)) ?_
  refine at_op rfl ?_
  refine op_storeAll' (k := 4) rfl rfl rfl rfl (rfl) (by rfl) tyz_impl_Frac.szx rfl rfl rfl ?_
  refine at_rsE (by simp only [ya,yb,yc,yd,Value.cells,ye]; rfl) ?_
  refine at_q rfl rfl (by decide) (qt_assign rfl rfl) ?_
  refine at_end ?_
  refine at_retc ?_
  refine then_ret ?_
  refine at_ret2 rfl (rvCelS (k := 4) rfl tys_impl_Frac rfl rfl) (.tmp rfl) ?_
  intro w' hs
  obtain ⟨e1, e2⟩ := l2_one (c := c) (d := d) g1
  exact ⟨by rw [e1, e2], hs.fin⟩
 ·try simp only [za,zb,zc,zd,ze,zf,Bool.not_true,Bool.not_false,zg,zh,ne_eq,zi,zj] at g1
  refine at_on rfl rfl rfl rfl ?_
  refine op_q rfl (by decide) (qt_move rfl rfl) ?_
  refine at_on rfl rfl rfl rfl ?_
  refine op_q rfl (by decide) (qt_neq rfl rfl rfl) ?_
  refine at_q rfl rfl (by decide) (qt_pickF rfl rfl rfl) ?_
  refine at_end ?_
  refine at_cond rfl (fun c1 => ?_) (fun c1 => ?_)
  ·try simp only [za,zb,zc,zd,ze,zf,Bool.not_true,Bool.not_false,zg,zh,ne_eq,zi,zj] at c1
   refine at_seq ?_
   refine at_region ?_
   refine at_q rfl rfl (by decide) (qt_build rfl rfl (bld_impl_Frac_)) ?_
   refine at_op rfl ?_
   refine op_storeAll' (k := 4) rfl rfl rfl rfl (rfl) (by rfl) tyz_impl_Frac.szx rfl rfl rfl ?_
   refine at_rsE (by simp only [ya,yb,yc,yd,Value.cells,ye]; rfl) ?_
   refine at_q rfl rfl (by decide) (qt_assign rfl rfl) ?_
   refine at_end ?_
   refine at_retc ?_
   refine then_ret ?_
   refine at_ret2 rfl (rvCelS (k := 4) rfl tys_impl_Frac rfl rfl) (.tmp rfl) ?_
   intro w' hs
   obtain ⟨e1, e2⟩ := l2_two g1 c1
   exact ⟨by rw [e1, e2], hs.fin⟩
  ·try simp only [za,zb,zc,zd,ze,zf,Bool.not_true,Bool.not_false,zg,zh,ne_eq,zi,zj] at c1
   obtain ⟨e1, e2⟩ := l2_ok g1 c1
   refine at_skip ?_
   refine norm_then ?_
   refine at_seq ?_
   refine at_region ?_
   refine at_q rfl rfl (by decide) (qt_loadS rfl rfl tys_impl_Frac rfl (rdAll (k := 5) rfl)) ?_
   refine at_q rfl rfl (by decide) (qt_loadS rfl rfl tys_impl_Frac rfl (rdAll (k := 6) rfl)) ?_
   refine at_q rfl rfl (by decide) (qt_call ok_spec_AddFrac rfl rfl (fun w1 hs => specAddFrac_any (muP a b) (muP c d) w1)) ?_
   refine at_q rfl rfl (by decide) (qt_move rfl rfl) ?_
   refine at_q rfl rfl (by decide) (qt_extract rfl rfl rfl) ?_
   refine at_q rfl rfl (by decide) (qt_extract rfl rfl rfl) ?_
   refine at_op rfl ?_
   refine op_alloc rfl tyz_impl_Frac rfl (by decide) (fun b8 => ?_)
   refine at_rsE (by simp only [ya,yb,yc,yd,Value.cells,ye]; rfl) ?_
   refine at_op rfl ?_
   refine op_storeAll' (k := 7) rfl rfl rfl rfl (rfl) (by rfl) tyz_impl_Frac.szx rfl rfl rfl ?_
   refine at_rsE (by simp only [ya,yb,yc,yd,Value.cells,ye]; rfl) ?_
   refine at_q rfl rfl (by decide) (qt_assign rfl rfl) ?_
   refine at_end ?_
   refine at_seq ?_
   refine at_region ?_
   refine at_q rfl rfl (by decide) (qt_loadS rfl rfl tys_impl_Frac rfl (rdAll (k := 7) rfl)) ?_
   refine at_q rfl rfl (by decide) (qt_move rfl rfl) ?_
   refine at_q rfl rfl (by decide) (qt_eql rfl rfl rfl) ?_
   refine at_op rfl ?_
   refine op_storeAll' (k := 4) rfl rfl rfl rfl (rfl) (by rfl) tyz_impl_Frac.szx rfl rfl rfl ?_
   refine at_rsE (by simp only [ya,yb,yc,yd,Value.cells,ye]; rfl) ?_
   refine at_q rfl rfl (by decide) (qt_assign rfl rfl) ?_
   refine at_end ?_
   refine at_retc ?_
   refine at_ret2 rfl (rvCelS (k := 4) rfl tys_impl_Frac rfl rfl) (.tmp rfl) ?_
   intro w' hs
   exact ⟨by rw [e1, e2], hs.fin⟩
theorem rw_no {a b c : Pn} {x y : Int} (h : decide (l2C a (x, 1) b (y, 1) = 0) = false) : rfV (rwP a b c x y) = 0 ∧ decide (rwC a b c x y = 0) = false := by
 have h2 : ¬ l2C a (x, 1) b (y, 1) = 0 := of_decide_eq_false h
 have e1 : rwP a b c x y = (0, 0) := by rw [rwP, l2P, if_neg h2, ad_zero]
 refine ⟨by rw [e1]; rfl, ?_⟩
 rw [rwC, if_neg h2]
 exact decide_eq_false h2
theorem rw_yes {a b c : Pn} {x y : Int} (h : decide (l2C a (x, 1) b (y, 1) = 0) = true) : decide (rwC a b c x y = 0) = (adC (l2P a (x, 1) b (y, 1)) c == 0) := by
 rw [rwC, if_pos (of_decide_eq_true h)]
 rfl
theorem l04Row_any (a b c p : Pn) (w : World) : Calls Try.prog 86 #[pV a, pV b, pV c, pV p] w fun e w' => e = .returned (.tuple #[.int .i64 (rfV (rwP a b c p.1 p.2)), .bool (decide (rwC a b c p.1 p.2 = 0))]) ∧ Over w w' := by
 refine walk_from (m := 38) (Try.func86) rfl rfl (Nat.le_of_ble_eq_true rfl) ?_
 refine at_seq ?_
 refine at_region ?_
 refine at_op rfl ?_
 refine op_box rfl rfl (rfl) rfl (by decide) (fun b1 => ?_)
 refine at_rsE (by simp only [ya,yb,yc,yd,Value.cells,ye]; rfl) ?_
 refine at_op rfl ?_
 refine op_box rfl rfl (rfl) rfl (by decide) (fun b2 => ?_)
 refine at_rsE (by simp only [ya,yb,yc,yd,Value.cells,ye]; rfl) ?_
 refine at_op rfl ?_
 refine op_box rfl rfl (rfl) rfl (by decide) (fun b3 => ?_)
 refine at_rsE (by simp only [ya,yb,yc,yd,Value.cells,ye]; rfl) ?_
 refine at_op rfl ?_
 refine op_box rfl rfl (rfl) rfl (by decide) (fun b4 => ?_)
 refine at_rsE (by simp only [ya,yb,yc,yd,Value.cells,ye]; rfl) ?_
 refine at_q rfl rfl (by decide) (qt_assign rfl rfl) ?_
 refine at_q rfl rfl (by decide) (qt_assign rfl rfl) ?_
 refine at_end ?_
 refine at_seq ?_
 refine dg_start mixed rfl ?_
 refine dg_phase 15 ?_
 refine dg_q (i := 0) rfl (by kernel_rfl) (by kernel_rfl) (by kernel_rfl) [] (by kernel_rfl) (fun _ _ _ h => h) rfl rfl (by decide) (fun _ h => h.upto ⟨rfl, rfl, rfl, rfl, trivial⟩) (qt_loadS rfl rfl tys_impl_Frac rfl (rdAll (k := 0) rfl)) ?_
 refine dg_q (i := 1) rfl (by kernel_rfl) (by kernel_rfl) (by kernel_rfl) [] (by kernel_rfl) (fun _ _ _ h => h) rfl rfl (by decide) (fun _ h => h.upto ⟨rfl, rfl, rfl, rfl, trivial⟩) (qt_fieldAddr rfl rfl tyf_impl_Pt_0) ?_
 refine dg_q (i := 2) rfl (by kernel_rfl) (by kernel_rfl) (by kernel_rfl) [] (by kernel_rfl) (fun _ _ _ h => h) rfl rfl (by decide) (fun _ h => h.upto ⟨rfl, rfl, rfl, rfl, trivial⟩) (qt_load1 rfl rfl ty1_int64 (rd1 (k := 3) rfl rfl)) ?_
 refine dg_q (i := 3) rfl (by kernel_rfl) (by kernel_rfl) (by kernel_rfl) [] (by kernel_rfl) (fun _ _ _ h => h) rfl rfl (by decide) (fun _ h => h.upto ⟨rfl, rfl, rfl, rfl, trivial⟩) (qt_call ok_spec_l04Int rfl rfl (fun w1 hs => l04Int_any p.1 w1)) ?_
 refine dg_q (i := 4) rfl (by kernel_rfl) (by kernel_rfl) (by kernel_rfl) [] (by kernel_rfl) (fun _ _ _ h => h) rfl rfl (by decide) (fun _ h => h.upto ⟨rfl, rfl, rfl, rfl, trivial⟩) (qt_loadS rfl rfl tys_impl_Frac rfl (rdAll (k := 1) rfl)) ?_
 refine dg_q (i := 5) rfl (by kernel_rfl) (by kernel_rfl) (by kernel_rfl) [] (by kernel_rfl) (fun _ _ _ h => h) rfl rfl (by decide) (fun _ h => h.upto ⟨rfl, rfl, rfl, rfl, trivial⟩) (qt_fieldAddr rfl rfl tyf_impl_Pt_1) ?_
 refine dg_q (i := 6) rfl (by kernel_rfl) (by kernel_rfl) (by kernel_rfl) [] (by kernel_rfl) (fun _ _ _ h => h) rfl rfl (by decide) (fun _ h => h.upto ⟨rfl, rfl, rfl, rfl, trivial⟩) (qt_load1 rfl rfl ty1_int64 (rd1 (k := 3) rfl rfl)) ?_
 refine dg_q (i := 7) rfl (by kernel_rfl) (by kernel_rfl) (by kernel_rfl) [] (by kernel_rfl) (fun _ _ _ h => h) rfl rfl (by decide) (fun _ h => h.upto ⟨rfl, rfl, rfl, rfl, trivial⟩) (qt_call ok_spec_l04Int rfl rfl (fun w1 hs => l04Int_any p.2 w1)) ?_
 refine dg_q (i := 8) rfl (by kernel_rfl) (by kernel_rfl) (by kernel_rfl) [] (by kernel_rfl) (fun _ _ _ h => h) rfl rfl (by decide) (fun _ h => h.upto ⟨rfl, rfl, rfl, rfl, trivial⟩) (qt_call ok_spec_l04Two rfl rfl (fun w1 hs => l04Two_any a (p.1, 1) b (p.2, 1) w1)) ?_
 refine dg_q (i := 9) rfl (by kernel_rfl) (by kernel_rfl) (by kernel_rfl) [] (by kernel_rfl) (fun _ _ _ h => h) rfl rfl (by decide) (fun _ h => h.upto ⟨rfl, rfl, rfl, rfl, trivial⟩) (qt_move rfl rfl) ?_
 refine dg_q (i := 10) rfl (by kernel_rfl) (by kernel_rfl) (by kernel_rfl) [] (by kernel_rfl) (fun _ _ _ h => h) rfl rfl (by decide) (fun _ h => h.upto ⟨rfl, rfl, rfl, rfl, trivial⟩) (qt_extract rfl rfl rfl) ?_
 refine dg_q (i := 11) rfl (by kernel_rfl) (by kernel_rfl) (by kernel_rfl) [] (by kernel_rfl) (fun _ _ _ h => h) rfl rfl (by decide) (fun _ h => h.upto ⟨rfl, rfl, rfl, rfl, trivial⟩) (qt_extract rfl rfl rfl) ?_
 refine dg_one (i := 12) rfl (by decide) (by kernel_rfl) rfl ?_
 refine op_alloc rfl tyz_impl_Frac rfl (by decide) (fun b5 => ?_)
 refine at_rsE (by simp only [ya,yb,yc,yd,Value.cells,ye]; rfl) ?_
 refine dr_keep (fun _ h => h.upto ⟨rfl, rfl, rfl, rfl, trivial⟩) ?_
 refine dg_one (i := 13) rfl (by decide) (by kernel_rfl) rfl ?_
 refine op_storeAll' (k := 4) rfl rfl rfl rfl (rfl) (by rfl) tyz_impl_Frac.szx rfl rfl rfl ?_
 refine at_rsE (by simp only [ya,yb,yc,yd,Value.cells,ye]; rfl) ?_
 refine dr_keep (fun _ h => h.upto ⟨rfl, rfl, rfl, rfl, trivial⟩) ?_
 refine dg_q (i := 14) rfl (by kernel_rfl) (by kernel_rfl) (by kernel_rfl) [] (by kernel_rfl) (fun _ _ _ h => h) rfl rfl (by decide) (fun _ h => h.upto ⟨rfl, rfl, rfl, rfl, trivial⟩) (qt_assign rfl rfl) ?_
 refine dg_done (by kernel_rfl) ?_
 refine norm_then ?_
 refine at_seq ?_
 refine at_seq ?_
 refine at_region ?_
 refine at_q rfl rfl (by decide) (qt_move rfl rfl) ?_
 refine at_q rfl rfl (by decide) (qt_not rfl rfl) ?_
 refine at_end ?_
 refine at_cond rfl (fun c1 => ?_) (fun c1 => ?_)
 ·try simp only [za,zb,zc,zd,ze,zf,Bool.not_true,Bool.not_false,zg,zh,ne_eq,zi,zj] at c1
  refine at_seq ?_
  refine at_region ?_
  refine at_q rfl rfl (by decide) (qt_assign rfl rfl) ?_
  refine at_q rfl rfl (by decide) (qt_assign rfl rfl) ?_
  refine at_end ?_
  refine at_retc ?_
  refine then_ret ?_
  refine at_ret2 rfl (.tmp rfl) (.tmp rfl) ?_
  intro w' hs
  obtain ⟨e1, e2⟩ := rw_no (c := c) (decide_eq_false c1)
  exact ⟨by rw [e1, e2], hs.fin⟩
 ·try simp only [za,zb,zc,zd,ze,zf,Bool.not_true,Bool.not_false,zg,zh,ne_eq,zi,zj] at c1
  have e1 := rw_yes (c := c) (decide_eq_true c1)
  refine at_skip ?_
  refine norm_then ?_
  refine at_seq ?_
  refine at_region ?_
  refine at_q rfl rfl (by decide) (qt_loadS rfl rfl tys_impl_Frac rfl (rdAll (k := 4) rfl)) ?_
  refine at_q rfl rfl (by decide) (qt_loadS rfl rfl tys_impl_Frac rfl (rdAll (k := 2) rfl)) ?_
  refine at_q rfl rfl (by decide) (qt_call ok_spec_AddFrac rfl rfl (fun w1 hs => specAddFrac_any (l2P a (p.1, 1) b (p.2, 1)) c w1)) ?_
  refine at_q rfl rfl (by decide) (qt_move rfl rfl) ?_
  refine at_q rfl rfl (by decide) (qt_extract rfl rfl rfl) ?_
  refine at_q rfl rfl (by decide) (qt_extract rfl rfl rfl) ?_
  refine at_op rfl ?_
  refine op_alloc rfl tyz_impl_Frac rfl (by decide) (fun b6 => ?_)
  refine at_rsE (by simp only [ya,yb,yc,yd,Value.cells,ye]; rfl) ?_
  refine at_op rfl ?_
  refine op_storeAll' (k := 5) rfl rfl rfl rfl (rfl) (by rfl) tyz_impl_Frac.szx rfl rfl rfl ?_
  refine at_rsE (by simp only [ya,yb,yc,yd,Value.cells,ye]; rfl) ?_
  refine at_q rfl rfl (by decide) (qt_assign rfl rfl) ?_
  refine at_end ?_
  refine at_seq ?_
  refine at_region ?_
  refine at_q rfl rfl (by decide) (qt_loadS rfl rfl tys_impl_Frac rfl (rdAll (k := 5) rfl)) ?_
  refine at_q rfl rfl (by decide) (qt_call ok_spec_RoundFrac rfl rfl (fun w1 hs => specRoundFrac_any (rwP a b c p.1 p.2) w1)) ?_
  refine at_q rfl rfl (by decide) (qt_move rfl rfl) ?_
  refine at_q rfl rfl (by decide) (qt_eql rfl rfl rfl) ?_
  refine at_q rfl rfl (by decide) (qt_assign rfl rfl) ?_
  refine at_q rfl rfl (by decide) (qt_assign rfl rfl) ?_
  refine at_end ?_
  refine at_retc ?_
  refine at_ret2 rfl (.tmp rfl) (.tmp rfl) ?_
  intro w' hs
  exact ⟨by rw [e1], hs.fin⟩
 -- NOT USED: two 1
end Go.Proofs.Ytjhaakollekjeaa
