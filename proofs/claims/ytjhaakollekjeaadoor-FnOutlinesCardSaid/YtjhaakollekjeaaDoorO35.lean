import Derived.Test.YtjhaakollekjeaaDoorO34
import Derived.Test.YtjhaakollekjeaaDoorO27
import Derived.Test.YtjhaakollekjeaaDoorO18
namespace Go.Proofs.YtjhaakollekjeaaDoor
open Go Go.RowKit
set_option linter.unusedVariables false
set_option linter.unusedSimpArgs false
set_option maxRecDepth 100000
set_option maxHeartbeats 4000000
set_option linter.unusedVariables false
set_option linter.unusedSimpArgs false
/-- A short loop, near nought. -/
def lpD (m : Int) (l : List Kn) : Prop := (1 ≤ l.length ∧ l.length ≤ 9) ∧ (kn l 0).2 = true ∧ ∀ k ∈ l, bdI m k.1
def onK : List Kn → List Kn
 | [] => []
 | a :: r => (a.1, true) :: r
theorem onK_len (l : List Kn) : (onK l).length = l.length := by cases l <;> rfl
theorem onK_ok {m : Int} {l : List Kn} (h1 : 1 ≤ l.length) (h2 : l.length ≤ 9) (h : ∀ k ∈ l, bdI m k.1) : lpD m (onK l) := by
 cases l with
 | nil => simp at h1
 | cons a r =>
  refine ⟨⟨by simp [onK], by rw [onK_len]; exact h2⟩, rfl, fun k hk => ?_⟩
  rcases List.mem_cons.1 hk with e | e
  ·rw [e]; exact h a (by simp)
  ·exact h k (List.mem_cons_of_mem _ e)
theorem onK_cells {l : List Kn} (h1 : 1 ≤ l.length) : splice (l.flatMap knCells) (0 + 0 * 3 + 2) [.bool true] = (onK l).flatMap knCells := by
 cases l with
 | nil => simp at h1
 | cons a r => rfl
theorem lpD_ok {m : Int} (hm : m ≤ 500) {l : List Kn} (h : lpD m l) : loopB l = true := by
 obtain ⟨⟨h1, h2⟩, h3, h4⟩ := h
 unfold loopB
 rw [decide_eq_true ⟨h1, by omega⟩, h3, Bool.true_and, Bool.true_and]
 exact List.all_eq_true.2 fun k hk => by
  have := bdI_2 (h4 k hk) (by omega)
  exact bd2_ok this
/-- Few short loops. -/
def ouD (ls : List (List Kn)) : Prop := ls.length ≤ 3 ∧ ∀ l ∈ ls, lpD 500 l
theorem ouD_ok {ls : List (List Kn)} (h : ouD ls) : outB ls = true := by
 unfold outB
 rw [decide_eq_true (show ls.length ≤ 12 by have := h.1; omega), Bool.true_and]
 exact List.all_eq_true.2 fun l hl => lpD_ok (by decide) (h.2 l hl)
theorem lpD_up {m : Int} (hm : m ≤ 500) {l : List Kn} (h : lpD m l) : lpD 500 l := ⟨h.1, h.2.1, fun k hk => by
 obtain ⟨⟨u1, u2⟩, u3, u4⟩ := h.2.2 k hk
 exact ⟨⟨by omega, by omega⟩, by omega, by omega⟩⟩
abbrev DLp (m : Int) := { l : List Kn // lpD m l }
abbrev dlpR (b : Nat) (A : Option Addr) (n c K : Nat) {m : Int} (x : DLp m × Option Addr × Nat) : Res := .many [srcR b A n c K, Kq.res ⟨x.1.1, x.2.1, x.2.2⟩]
theorem dlp_ok {w w' : World} {b n c K K0 K' ks kr B q : Nat} {A : Option Addr} {Rs : List Res} {m : Int} {l : List Kn} {x : Option Addr × Nat} (hs : St ⟨w, [b]⟩ Rs w') (h1 : Rs[ks]? = some (srcR b A n c K0)) (h2 : Rs[kr]? = some (rowR B 54 3 q (l.flatMap knCells) x)) (hne : ks ≠ kr) (hq : l.length = q) (hd : lpD m l) (hK : K0 ≤ K') :
  (dlpR b A n c K' ((⟨l, hd⟩, x) : DLp m × Option Addr × Nat)).P w' ∧ (∀ q, (dlpR b A n c K' ((⟨l, hd⟩, x) : DLp m × Option Addr × Nat)).F q → (srcR b A n c K).F q ∨ w.heap.size ≤ q) ∧ (dlpR b A n c K' ((⟨l, hd⟩, x) : DLp m × Option Addr × Nat)).B = 0 := by
 subst hq
 have a1 := hs.all ks _ h1
 have a2 := hs.all kr _ h2
 refine ⟨many2 (srcR.more a1.1 hK) (row_low a2.1 (Nat.zero_le _)) rfl rfl (fun q hq hq2 => hs.apart ks kr _ _ hne h1 h2 q hq hq2), fun q hq => ?_, rfl⟩
 obtain ⟨r, hr, hq⟩ := hq
 simp only [List.mem_cons, List.not_mem_nil, or_false] at hr
 rcases hr with rfl | rfl
 ·exact .inl hq
 ·exact (a2.2.1 q hq).elim (fun h => .inr h) (fun h => .inl (List.mem_singleton.1 h))
section
variable {b n c K : Nat} {A : Option Addr} {zs : List Int} {w : World}
theorem l10DrawLoop_any (m : Int) (hm : 0 ≤ m) (hm2 : m ≤ 500) (hB : Byts w A n zs) (hne : 0 < n → ∀ p, A = some p → p.block ≠ b) (hP : (srcR b A n c K).P w) (hn : n ≤ 1048576) (hK : K ≤ 1000) :
  Calls Tryd.prog 57 #[.pointer (some ⟨b, 0, none⟩), .int .i64 m] w fun e w' => ∃ x : DLp m × Option Addr × Nat, e = .returned (outV x.2.1 x.1.1.length x.2.2) ∧ Wrs (srcR b A n c K).F w w' ∧ (dlpR b A n c (K + 100) x).P w' ∧ (∀ q, (dlpR b A n c (K + 100) x).F q → (srcR b A n c K).F q ∨ w.heap.size ≤ q) ∧ (dlpR b A n c (K + 100) x).B = 0 := by
 have hlt := (srcR b A n c K).low w hP b rfl
 refine walk_fromR (m := 32) ([b]) (srcR b A n c K) (hP) (fun q hq => List.mem_singleton.2 hq) rfl (Tryd.func57) rfl rfl (Nat.le_of_ble_eq_true rfl) ?_
 refine at_seq ?_
 refine at_region ?_
 refine at_op rfl ?_
 refine op_alloc rfl tyz_impl_Loop rfl (by decide) (fun b1 => ?_)
 refine at_rsE (by simp only [ya,yb,yc,yd,Value.cells,ye]; rfl) ?_
 refine at_end ?_
 refine at_seq ?_
 refine at_region ?_
 refine at_q rfl rfl (by decide) (qt_build rfl rfl (bld_impl_Loop_)) ?_
 refine at_op rfl ?_
 refine op_alloc rfl tyz_impl_Loop rfl (by decide) (fun b2 => ?_)
 refine at_rsE (by simp only [ya,yb,yc,yd,Value.cells,ye]; rfl) ?_
 refine at_op rfl ?_
 refine op_storeAll' (k := 2) rfl rfl rfl rfl (rfl) (by rfl) tyz_impl_Loop.szx rfl rfl rfl ?_
 refine at_rsE (by simp only [ya,yb,yc,yd,Value.cells,ye]; rfl) ?_
 refine at_end ?_
 refine at_seq ?_
 refine at_seq ?_
 refine at_region ?_
 refine at_q rfl rfl (by decide) (qt_move rfl rfl) ?_
 refine at_op rfl ?_
 refine op_callP (k := 0) (X := { v : Int // 0 ≤ v ∧ v < 9 }) (v := fun x => .int .i64 x.1) (r' := fun _ => srcR b A n c (K + 1)) ok_p_spec_l00Src_pick rfl rfl rfl (by decide) rfl (fun w1 hs => pick_any (zs := zs) 9 (by decide) (by decide) (hB.ovx hs.over hne) hne (hs.all 0 _ rfl).1 hn (by omega)) ?_
 rintro ⟨v1, hv1⟩
 refine at_rsE (by simp only [ya,yb,yc,yd,Value.cells,ye]; rfl) ?_
 try dsimp only
 refine at_q rfl rfl (by decide) (qt_add rfl rfl rfl (by omega) (by omega)) ?_
 refine at_q rfl rfl (by decide) (qt_assign rfl rfl) ?_
 refine at_end ?_
 refine at_row0 (T := 54) (s := 3) ?_
 refine at_rsE (by simp only [List.nil_append, List.cons_append, List.set_cons_zero, List.set_cons_succ, List.eraseIdx_cons_zero, List.eraseIdx_cons_succ, Value.cells, List.toList_toArray]; rfl) ?_
 refine at_block ?_
 refine at_loopc (X := Nat × List Kn × Option Addr × Nat) (fun y => (y.2.1.length + y.1 ≤ 9 ∧ 0 < y.2.1.length + y.1) ∧ ∀ k ∈ y.2.1, bdI m k.1) (fun y => y.1) (fun y => [(6, .int .i64 (y.1 : Int))]) (C := [(0, _), (1, _), (4, _), (5, _)]) ⟨rfl, rfl, rfl, rfl, trivial⟩ (fun y => [srcR b A n c (K + 1 + 9 * y.2.1.length), .cel b1 48 [.slice none 0 0], .cel b2 48 [.slice y.2.2.1 y.2.1.length y.2.2.2], rowR (Bs.N ⟨w, [b]⟩) 54 3 y.2.1.length (y.2.1.flatMap knCells) y.2.2]) ((1 + v1).toNat, [], none, 0) (⟨⟨by simp only [List.length_nil]; omega, by simp only [List.length_nil]; omega⟩, fun k hk => by cases hk⟩) ⟨vi (by omega), rfl, rfl, rfl, rfl, trivial⟩ (fun _ h => h) ?_
 intro ⟨i, xs, rA, rc⟩ hy L hL1
 refine at_envE (by simp only [ya,yb]; rfl) ?_
 refine at_rsE (by first | (dsimp only; done) | (dsimp only; rfl) | rfl) ?_
 obtain ⟨⟨h9, h0⟩, hbd⟩ : (xs.length + i ≤ 9 ∧ 0 < xs.length + i) ∧ ∀ k ∈ xs, bdI m k.1 := hy
 refine at_seq ?_
 refine at_seq ?_
 refine at_region ?_
 refine at_q rfl rfl (by decide) (qt_move rfl rfl) ?_
 refine at_q rfl rfl (by decide) (qt_gtr rfl rfl rfl) ?_
 refine at_end ?_
 refine at_cond rfl (fun c1 => ?_) (fun c1 => ?_)
 ·try simp only [za,zb,zc,zd,ze,zf,Bool.not_true,Bool.not_false,zg,zh,ne_eq,zi,zj] at c1
  refine at_skip ?_
  refine norm_then ?_
  refine at_seq ?_
  refine at_block ?_
  refine dg_start mixed rfl ?_
  refine dg_phaseW 10 [0] ?_
  refine dg_q (i := 0) rfl (by kernel_rfl) (by kernel_rfl) (by kernel_rfl) [1] (by kernel_rfl) (fun _ _ _ h => h) rfl rfl (by decide) (fun _ h => (h.wk [0]).upto ⟨rfl, rfl, rfl, rfl, trivial⟩) (qt_fieldAddr rfl rfl tyf_impl_Loop_0) ?_
  refine dg_q (i := 1) rfl (by kernel_rfl) (by kernel_rfl) (by kernel_rfl) [] (by kernel_rfl) (fun _ _ _ h => h) rfl rfl (by decide) (fun _ h => (h.wk [0]).upto ⟨rfl, rfl, rfl, rfl, trivial⟩) (qt_load1 rfl rfl ty1_sl_impl_Knot (rd1 (k := 2) rfl rfl)) ?_
  refine dg_q (i := 2) rfl (by kernel_rfl) (by kernel_rfl) (by kernel_rfl) [4, 6] (by kernel_rfl) (fun _ _ _ h => h) rfl rfl (by decide) (fun _ h => (h.wk [0]).upto ⟨rfl, rfl, rfl, rfl, trivial⟩) (qt_move rfl rfl) ?_
  refine dg_q (i := 3) rfl (by kernel_rfl) (by kernel_rfl) (by kernel_rfl) [4, 6] (by kernel_rfl) (fun _ _ _ h => h) rfl rfl (by decide) (fun _ h => (h.wk [0]).upto ⟨rfl, rfl, rfl, rfl, trivial⟩) (qt_move rfl rfl) ?_
  refine dg_q (i := 5) rfl (by kernel_rfl) (by kernel_rfl) (by kernel_rfl) [6] (by kernel_rfl) (fun _ _ _ h => h) rfl rfl (by decide) (fun _ h => (h.wk [0]).upto ⟨rfl, rfl, rfl, rfl, trivial⟩) (qt_move rfl rfl) ?_
  refine dg_one (i := 4) rfl (by decide) (by kernel_rfl) rfl ?_
  refine op_callP (k := 0) (X := { p : Pn // bdI m p }) (v := fun x => pV x.1) (r' := fun _ => srcR b A n c (K + 1 + 9 * xs.length + 8)) ok_spec_l03Draw rfl rfl rfl (by decide) rfl (fun w1 hs => draw_any (zs := zs) m hm (by omega) (hB.ovx hs.over hne) hne (hs.all 0 _ rfl).1 hn (by omega)) ?_
  rintro ⟨q, hq⟩
  refine at_rsE (by simp only [ya,yb,yc,yd,Value.cells,ye]; rfl) ?_
  try dsimp only
  refine dr_keep (fun _ h => (h.wk [0]).upto ⟨rfl, rfl, rfl, rfl, trivial⟩) ?_
  refine dg_one (i := 6) rfl (by decide) (by kernel_rfl) rfl ?_
  refine op_callP (k := 0) (X := { v : Int // 0 ≤ v ∧ v < 5 }) (v := fun x => .int .i64 x.1) (r' := fun _ => srcR b A n c (K + 1 + 9 * xs.length + 9)) ok_p_spec_l00Src_pick rfl rfl rfl (by decide) rfl (fun w1 hs => pick_any (zs := zs) 5 (by decide) (by decide) (hB.ovx hs.over hne) hne (hs.all 0 _ rfl).1 hn (by omega)) ?_
  rintro ⟨v2, hv2⟩
  refine at_rsE (by simp only [ya,yb,yc,yd,Value.cells,ye]; rfl) ?_
  try dsimp only
  refine dr_keep (fun _ h => (h.wk [0]).upto ⟨rfl, rfl, rfl, rfl, trivial⟩) ?_
  refine dg_q (i := 7) rfl (by kernel_rfl) (by kernel_rfl) (by kernel_rfl) [8, 9] (by kernel_rfl) (fun _ _ _ h => h) rfl rfl (by decide) (fun _ h => (h.wk [0]).upto ⟨rfl, rfl, rfl, rfl, trivial⟩) (qt_gtr rfl rfl rfl) ?_
  refine dg_q (i := 8) rfl (by kernel_rfl) (by kernel_rfl) (by kernel_rfl) [9] (by kernel_rfl) (fun _ _ _ h => h) rfl rfl (by decide) (fun _ h => (h.wk [0]).upto ⟨rfl, rfl, rfl, rfl, trivial⟩) (qt_build rfl rfl (bld_impl_Knot_0_1 rfl rfl)) ?_
  refine dg_one (i := 9) rfl (by decide) (by kernel_rfl) rfl ?_
  refine op_buildSlice rfl rfl (bsl_sl_impl_Knot_1_0 rfl) rfl (by decide) (fun b3 => ?_)
  refine at_rsE (by simp only [ya,yb,yc,yd,Value.cells,ye]; rfl) ?_
  refine dr_keep (fun _ h => (h.wk [0]).upto ⟨rfl, rfl, rfl, rfl, trivial⟩) ?_
  refine dg_bar rfl (by kernel_rfl) rfl ?_
  refine op_appendR (k := 3) rfl tyl_sl_impl_Knot tyz_impl_Knot (by decide) rfl (by decide) rfl rfl rfl (fun w' hs => src_cel hs (k := 4) rfl rfl) (by simp [Value.oneCell']) (by unfold maxLen; omega) (by omega) (Nat.le_refl _) (fun r1 => ?_)
  refine at_rsE (by simp only [ya,yb,yc,yd,Value.cells,ye]; rfl) ?_
  refine dg_phaseW 13 [2] ?_
  refine dg_q (i := 11) rfl (by kernel_rfl) (by kernel_rfl) (by kernel_rfl) [] (by kernel_rfl) (fun _ _ _ h => h) rfl rfl (by decide) (fun _ h => (h.wk [2]).upto ⟨rfl, rfl, rfl, rfl, rfl, trivial⟩) (qt_fieldAddr rfl rfl tyf_impl_Loop_0) ?_
  refine dg_one (i := 12) rfl (by decide) (by kernel_rfl) rfl ?_
  refine op_storeAll' (k := 2) rfl rfl rfl rfl (rfl) (by rfl) tyz_sl_impl_Knot.szx rfl rfl rfl ?_
  refine at_rsE (by simp only [ya,yb,yc,yd,Value.cells,ye]; rfl) ?_
  refine dr_keep (fun _ h => (h.wk [2]).upto ⟨rfl, rfl, rfl, rfl, rfl, trivial⟩) ?_
  refine dg_done (by kernel_rfl) ?_
  refine norm_block ?_
  refine norm_then ?_
  refine at_region ?_
  refine at_q rfl rfl (by decide) (qt_move rfl rfl) ?_
  refine at_q rfl rfl (by decide) (qt_sub rfl rfl rfl (by omega) (by omega)) ?_
  refine at_q rfl rfl (by decide) (qt_assign rfl rfl) ?_
  refine at_end ?_
  exact at_againc hL1 ((i - 1, xs ++ [(q, decide (1 < v2))], r1)) (⟨⟨by simp only [List.length_append, List.length_cons, List.length_nil]; omega, by simp only [List.length_append, List.length_cons, List.length_nil]; omega⟩, fun k hk => (List.mem_append.1 hk).elim (hbd k) (fun h => by rw [List.mem_singleton.1 h]; exact hq)⟩) (by simp only; omega) ⟨vi (by omega), rfl, rfl, rfl, rfl, trivial⟩ (fun _ h => h.upto ⟨by rw [List.length_append]; rfl, rfl, by rw [List.length_append]; rfl, by rw [List.length_append, List.flatMap_append]; rfl, trivial⟩)
 ·try simp only [za,zb,zc,zd,ze,zf,Bool.not_true,Bool.not_false,zg,zh,ne_eq,zi,zj] at c1
  have hi0 : i = 0 := (by omega)
  have h1 : 1 ≤ xs.length := (by omega)
  refine at_exit ?_
  refine pass_then (fun h => by cases h) ?_
  refine pass_then (fun h => by cases h) ?_
  refine pass_hit ?_
  refine norm_then ?_
  refine at_seq ?_
  refine at_region ?_
  refine at_q rfl rfl (by decide) (qt_fieldAddr rfl rfl tyf_impl_Loop_0) ?_
  refine at_q rfl rfl (by decide) (qt_load1 rfl rfl ty1_sl_impl_Knot (rd1 (k := 2) rfl rfl)) ?_
  refine at_q rfl rfl (by decide) (qt_indexR (k := 3) (j := 0) rfl rfl rfl rfl tyl_sl_impl_Knot (by omega)) ?_
  refine at_q rfl rfl (by decide) (qt_fieldAddr rfl rfl tyf_impl_Knot_1) ?_
  refine at_op rfl ?_
  refine op_storeR (k := 3) (vs := [.bool true]) (off := 0 + 0 * 3 + 2) rfl rfl rfl rfl rfl (by rfl) tyz_bool.szx rfl rfl (by simp) (by rw [flat_len knCells 3 knCells_len]; simp only [List.length_cons, List.length_nil]; omega) ?_
  refine at_end ?_
  rw [onK_cells h1]
  refine at_seq ?_
  refine at_region ?_
  refine at_q rfl rfl (by decide) (qt_loadS rfl rfl tys_impl_Loop rfl (rdAll (k := 2) rfl)) ?_
  refine at_op rfl ?_
  refine op_storeAll' (k := 1) rfl rfl rfl rfl (rfl) (by rfl) tyz_impl_Loop.szx rfl rfl rfl ?_
  refine at_rsE (by simp only [ya,yb,yc,yd,Value.cells,ye]; rfl) ?_
  refine at_end ?_
  refine at_retc ?_
  refine at_ret1 rfl (rvCelS (k := 1) rfl tys_impl_Loop rfl rfl) ?_
  intro w' hs
  refine ⟨(⟨onK xs, onK_ok h1 (by omega) hbd⟩, rA, rc), by simp only [onK_len], wrsX hs, ?_⟩
  exact dlp_ok hs (ks := 0) (kr := 3) (x := (rA, rc)) rfl rfl (by decide) (onK_len xs) _ (by omega)
end
end Go.Proofs.YtjhaakollekjeaaDoor
