import Derived.Test.YtjhaakollekjeaaDoorO35
namespace Go.Proofs.YtjhaakollekjeaaDoor
open Go Go.RowKit
set_option linter.unusedVariables false
set_option linter.unusedSimpArgs false
set_option maxRecDepth 100000
set_option maxHeartbeats 4000000
set_option linter.unusedVariables false
set_option linter.unusedSimpArgs false
theorem at_moreO {N : Nat} {env : List (Nat × Value)} {w0 : Bs} {Rs : List Res} {K : Act → World → Prop} (k : Nat) {b m c K1 K2 : Nat} {A : Option Addr} (hk : Rs[k]? = some (srcR b A m c K1)) (hK : K1 ≤ K2) (h : At N env w0 (Rs.set k (srcR b A m c K2)) K) : At N env w0 Rs K := fun a w hf hs =>
 h a w hf (hs.chg hk (fun hP => srcR.more hP hK) (fun c hc => hc) rfl)
def kqD (L : List Kq) : Prop := ∀ e ∈ L, lpD 500 e.l
theorem kqD.push {L : List Kq} (h : kqD L) {e : Kq} (he : lpD 500 e.l) : kqD (L ++ [e]) := fun q hq => (List.mem_append.1 hq).elim (h q) (fun h1 => by rw [List.mem_singleton.1 h1]; exact he)
theorem kqD.ou {L : List Kq} (h : kqD L) (hl : L.length ≤ 3) : ouD (L.map (·.l)) := ⟨by rw [List.length_map]; exact hl, fun r hr => by
 obtain ⟨e, he, rfl⟩ := List.mem_map.1 hr
 exact h e he⟩
abbrev DOu := { ls : List (List Kn) // ouD ls }
abbrev OX := DOu × (Option Addr × Nat) × Nat × Nat
abbrev doqR (x : OX) : Res := oqR x.1.1 x.2.1.1 x.2.2.1 x.2.2.2
abbrev douR (b : Nat) (A : Option Addr) (n c K : Nat) (x : OX) : Res := .many [srcR b A n c K, doqR x]
theorem dou_ok {w w' : World} {b n c K K' : Nat} {A : Option Addr} {x : OX} (hP : (srcR b A n c K').P w') (hlt : b < w.heap.size) (hO : (oqR x.1.1 x.2.1.1 w.heap.size w'.heap.size).P w') (h1 : x.2.2.1 = w.heap.size) (h2 : x.2.2.2 = w'.heap.size) :
  (douR b A n c K' x).P w' ∧ (∀ q, (douR b A n c K' x).F q → (srcR b A n c K).F q ∨ w.heap.size ≤ q) ∧ (douR b A n c K' x).B = 0 := by
 obtain ⟨y, ⟨a, c2⟩, lo, hi⟩ := x
 have h1 : lo = w.heap.size := h1
 have h2 : hi = w'.heap.size := h2
 subst h1 h2
 refine ⟨many2 hP hO rfl rfl (fun q hq hq2 => ?_), fun q hq => ?_, rfl⟩
 ·have hq : q = b := hq
  have hq2 : w.heap.size ≤ q ∧ q < w'.heap.size := hq2
  omega
 ·obtain ⟨r, hr, hq⟩ := hq
  simp only [List.mem_cons, List.not_mem_nil, or_false] at hr
  rcases hr with rfl | rfl
  ·exact .inl hq
  ·exact .inr hq.1
theorem kqX {w w' : World} {b : Nat} {Rs : List Res} (hs : St ⟨w, [b]⟩ Rs w') {ks k : Nat} {r s : Res} (h1 : Rs[ks]? = some r) (hF : r.F b) (h2 : Rs[k]? = some s) (hne : ks ≠ k) : ∀ q, s.F q → q ∉ [b] := fun q hq hm => by
 have := List.mem_singleton.1 hm
 subst this
 exact hs.apart ks k _ _ hne h1 h2 q hF hq
section
variable {b n c K : Nat} {A : Option Addr} {zs : List Int} {w : World}
theorem l10Draw_any (hB : Byts w A n zs) (hne : 0 < n → ∀ p, A = some p → p.block ≠ b) (hP : (srcR b A n c K).P w) (hn : n ≤ 1048576) (hK : K ≤ 500) :
  Calls Tryd.prog 31 #[.pointer (some ⟨b, 0, none⟩)] w fun e w' => ∃ x : OX, e = .returned (outV x.2.1.1 x.1.1.length x.2.1.2) ∧ Wrs (srcR b A n c K).F w w' ∧ (douR b A n c (K + 400) x).P w' ∧ (∀ q, (douR b A n c (K + 400) x).F q → (srcR b A n c K).F q ∨ w.heap.size ≤ q) ∧ (douR b A n c (K + 400) x).B = 0 := by
 have hlt := (srcR b A n c K).low w hP b rfl
 refine walk_fromR (m := 25) ([b]) (srcR b A n c K) (hP) (fun q hq => List.mem_singleton.2 hq) rfl (Tryd.func31) rfl rfl (Nat.le_of_ble_eq_true rfl) ?_
 refine at_seq ?_
 refine at_region ?_
 refine at_op rfl ?_
 refine op_alloc rfl tyz_impl_Outline rfl (by decide) (fun b1 => ?_)
 refine at_rsE (by simp only [ya,yb,yc,yd,Value.cells,ye]; rfl) ?_
 refine at_end ?_
 refine at_seq ?_
 refine at_region ?_
 refine at_q rfl rfl (by decide) (qt_build rfl rfl (bld_impl_Outline_)) ?_
 refine at_op rfl ?_
 refine op_alloc rfl tyz_impl_Outline rfl (by decide) (fun b2 => ?_)
 refine at_rsE (by simp only [ya,yb,yc,yd,Value.cells,ye]; rfl) ?_
 refine at_op rfl ?_
 refine op_storeAll' (k := 2) rfl rfl rfl rfl (rfl) (by rfl) tyz_impl_Outline.szx rfl rfl rfl ?_
 refine at_rsE (by simp only [ya,yb,yc,yd,Value.cells,ye]; rfl) ?_
 refine at_end ?_
 refine at_seq ?_
 refine at_region ?_
 refine at_q rfl rfl (by decide) (qt_move rfl rfl) ?_
 refine at_op rfl ?_
 refine op_buildSlice rfl rfl (bsl_sl_int64_4_0_1_2_3 rfl rfl rfl rfl) rfl (by decide) (fun b3 => ?_)
 refine at_rsE (by simp only [ya,yb,yc,yd,Value.cells,ye]; rfl) ?_
 refine at_op rfl ?_
 refine op_callP (k := 0) (X := { v : Int // v ∈ [8, 40, 40, 500] }) (v := fun x => .int .i64 x.1) (r' := fun _ => srcR b A n c (K + 1)) ok_p_spec_l00Src_among rfl rfl rfl (by decide) rfl (fun w1 hs => among_any (zs := zs) _ 4 4 [8, 40, 40, 500] (numsCel [8, 40, 40, 500] (k := 3) rfl rfl w1 hs) (by decide) (by decide) (fun p hp e => by injection hp with hp; subst hp; exact hs.apart 0 3 _ _ (by decide) rfl rfl b rfl e.symm) (hB.ovx hs.over hne) hne (hs.all 0 _ rfl).1 hn (by omega)) ?_
 rintro ⟨m, hm⟩
 refine at_rsE (by simp only [ya,yb,yc,yd,Value.cells,ye]; rfl) ?_
 try dsimp only
 have hm0 : 0 ≤ m ∧ m ≤ 500 := by simp only [List.mem_cons, List.not_mem_nil, or_false] at hm; omega
 refine at_q rfl rfl (by decide) (qt_assign rfl rfl) ?_
 refine at_end ?_
 refine at_seq ?_
 refine at_seq ?_
 refine at_region ?_
 refine at_q rfl rfl (by decide) (qt_move rfl rfl) ?_
 refine at_op rfl ?_
 refine op_callP (k := 0) (X := { v : Int // 0 ≤ v ∧ v < 4 }) (v := fun x => .int .i64 x.1) (r' := fun _ => srcR b A n c (K + 2)) ok_p_spec_l00Src_pick rfl rfl rfl (by decide) rfl (fun w1 hs => pick_any (zs := zs) 4 (by decide) (by decide) (hB.ovx hs.over hne) hne (hs.all 0 _ rfl).1 hn (by omega)) ?_
 rintro ⟨v1, hv1⟩
 refine at_rsE (by simp only [ya,yb,yc,yd,Value.cells,ye]; rfl) ?_
 try dsimp only
 refine at_q rfl rfl (by decide) (qt_assign rfl rfl) ?_
 refine at_end ?_
 refine at_row0 (T := 48) (s := 1) ?_
 refine at_rsE (by simp only [List.nil_append, List.cons_append, List.set_cons_zero, List.set_cons_succ, List.eraseIdx_cons_zero, List.eraseIdx_cons_succ, Value.cells, List.toList_toArray]; rfl) ?_
 refine at_many0 ?_
 refine at_rsE (by simp only [List.nil_append, List.cons_append, List.set_cons_zero, List.set_cons_succ, List.eraseIdx_cons_zero, List.eraseIdx_cons_succ, Value.cells, List.toList_toArray]; rfl) ?_
 refine at_block ?_
 refine at_loopc (X := Nat × (Option Addr × Nat) × List Kq) (fun x => x.2.2.length + x.1 ≤ 3 ∧ kqD x.2.2) (fun x => x.1) (fun x => [(5, .int .i64 (x.1 : Int))]) (C := [(0, _), (2, _), (3, _), (4, _)]) ⟨rfl, rfl, rfl, rfl, trivial⟩ (fun x => [srcR b A n c (K + 2 + 100 * x.2.2.length), .cel b1 34 [.slice none 0 0], .cel b2 34 [.slice x.2.1.1 x.2.2.length x.2.1.2], .cel b3 2 [.int .i64 8, .int .i64 40, .int .i64 40, .int .i64 500], rowR (Bs.N ⟨w, [b]⟩) 48 1 x.2.2.length (x.2.2.map Kq.val) x.2.1, kqsR x.2.2]) (v1.toNat, (none, 0), []) (⟨by simp only [List.length_nil]; omega, fun e he => by cases he⟩) ⟨vi (by omega), rfl, rfl, rfl, rfl, trivial⟩ (fun _ h => h) ?_
 intro ⟨j, ⟨rA, rc⟩, L0⟩ hx L hL1
 refine at_envE (by simp only [ya,yb]; rfl) ?_
 refine at_rsE (by first | (dsimp only; done) | (dsimp only; rfl) | rfl) ?_
 obtain ⟨hj, hpc⟩ : L0.length + j ≤ 3 ∧ kqD L0 := hx
 obtain ⟨KL, hKL⟩ : ∃ KL, KL = K + 2 + 100 * L0.length := ⟨_, rfl⟩
 rw [← hKL]
 refine at_seq ?_
 refine at_seq ?_
 refine at_region ?_
 refine at_q rfl rfl (by decide) (qt_move rfl rfl) ?_
 refine at_q rfl rfl (by decide) (qt_gtr rfl rfl rfl) ?_
 refine at_end ?_
 refine at_cond rfl (fun c1 => ?_) (fun c1 => ?_)
 ·try simp only [za,zb,zc,zd,ze,zf,Bool.not_true,Bool.not_false,zg,zh,ne_eq,zi,zj] at c1
  refine at_skip ?_
  refine norm_then ?_
  refine at_seq ?_
  refine at_block ?_
  refine dg_start mixed rfl ?_
  refine dg_phaseW 6 [0] ?_
  refine dg_q (i := 0) rfl (by kernel_rfl) (by kernel_rfl) (by kernel_rfl) [1] (by kernel_rfl) (fun _ _ _ h => h) rfl rfl (by decide) (fun _ h => (h.wk [0]).upto ⟨rfl, rfl, rfl, rfl, rfl, rfl, trivial⟩) (qt_fieldAddr rfl rfl tyf_impl_Outline_0) ?_
  refine dg_q (i := 1) rfl (by kernel_rfl) (by kernel_rfl) (by kernel_rfl) [] (by kernel_rfl) (fun _ _ _ h => h) rfl rfl (by decide) (fun _ h => (h.wk [0]).upto ⟨rfl, rfl, rfl, rfl, rfl, rfl, trivial⟩) (qt_load1 rfl rfl ty1_sl_impl_Loop (rd1 (k := 2) rfl rfl)) ?_
  refine dg_q (i := 2) rfl (by kernel_rfl) (by kernel_rfl) (by kernel_rfl) [4] (by kernel_rfl) (fun _ _ _ h => h) rfl rfl (by decide) (fun _ h => (h.wk [0]).upto ⟨rfl, rfl, rfl, rfl, rfl, rfl, trivial⟩) (qt_move rfl rfl) ?_
  refine dg_q (i := 3) rfl (by kernel_rfl) (by kernel_rfl) (by kernel_rfl) [4] (by kernel_rfl) (fun _ _ _ h => h) rfl rfl (by decide) (fun _ h => (h.wk [0]).upto ⟨rfl, rfl, rfl, rfl, rfl, rfl, trivial⟩) (qt_move rfl rfl) ?_
  refine dg_one (i := 4) rfl (by decide) (by kernel_rfl) rfl ?_
  refine op_callP (k := 0) (X := DLp m × Option Addr × Nat) (v := fun x => outV x.2.1 x.1.1.length x.2.2) (r' := fun x => dlpR b A n c (KL + 100) x) ok_spec_l10DrawLoop rfl rfl rfl (by decide) rfl (fun w1 hs => l10DrawLoop_any (zs := zs) m hm0.1 hm0.2 (hB.ovx hs.over hne) hne (hs.all 0 _ rfl).1 hn (by omega)) ?_
  rintro ⟨⟨q, hq⟩, qA, qc⟩
  refine at_rsE (by simp only [ya,yb,yc,yd,Value.cells,ye]; rfl) ?_
  refine at_two 0 rfl ?_
  refine at_rsE (by simp only [List.nil_append, List.cons_append, List.set_cons_zero, List.set_cons_succ, List.eraseIdx_cons_zero, List.eraseIdx_cons_succ, Value.cells, List.toList_toArray]; rfl) ?_
  refine dr_keep (fun _ h => (h.wk [0]).upto ⟨rfl, rfl, rfl, rfl, rfl, rfl, trivial⟩) ?_
  refine dg_one (i := 5) rfl (by decide) (by kernel_rfl) rfl ?_
  refine op_buildSlice rfl rfl (bsl_sl_impl_Loop_1_0 rfl) rfl (by decide) (fun b4 => ?_)
  refine at_rsE (by simp only [ya,yb,yc,yd,Value.cells,ye]; rfl) ?_
  refine dr_keep (fun _ h => (h.wk [0]).upto ⟨rfl, rfl, rfl, rfl, rfl, rfl, trivial⟩) ?_
  refine dg_bar rfl (by kernel_rfl) rfl ?_
  refine op_appendR (k := 4) rfl tyl_sl_impl_Loop tyz_impl_Loop (by decide) rfl (by decide) rfl rfl rfl (fun w' hs => src_cel hs (k := 7) rfl rfl) (by simp [Value.oneCell']) (by unfold maxLen; omega) (by omega) (Nat.le_refl _) (fun r1 => ?_)
  refine at_rsE (by simp only [ya,yb,yc,yd,Value.cells,ye]; rfl) ?_
  refine dg_phaseW 9 [2] ?_
  refine dg_q (i := 7) rfl (by kernel_rfl) (by kernel_rfl) (by kernel_rfl) [] (by kernel_rfl) (fun _ _ _ h => h) rfl rfl (by decide) (fun _ h => (h.wk [2]).upto ⟨rfl, rfl, rfl, rfl, rfl, rfl, rfl, rfl, trivial⟩) (qt_fieldAddr rfl rfl tyf_impl_Outline_0) ?_
  refine dg_one (i := 8) rfl (by decide) (by kernel_rfl) rfl ?_
  refine op_storeAll' (k := 2) rfl rfl rfl rfl (rfl) (by rfl) tyz_sl_impl_Loop.szx rfl rfl rfl ?_
  refine at_rsE (by simp only [ya,yb,yc,yd,Value.cells,ye]; rfl) ?_
  refine dr_keep (fun _ h => (h.wk [2]).upto ⟨rfl, rfl, rfl, rfl, rfl, rfl, rfl, rfl, trivial⟩) ?_
  refine dg_done (by kernel_rfl) ?_
  refine at_moreO 0 (K2 := K + 2 + 100 * (L0.length + 1)) rfl (by omega) ?_
  refine at_rsE (by simp only [List.nil_append, List.cons_append, List.set_cons_zero, List.set_cons_succ, List.eraseIdx_cons_zero, List.eraseIdx_cons_succ, Value.cells, List.toList_toArray]; rfl) ?_
  refine at_push 5 6 rfl rfl (by decide) rfl ?_
  refine at_rsE (by simp only [List.nil_append, List.cons_append, List.set_cons_zero, List.set_cons_succ, List.eraseIdx_cons_zero, List.eraseIdx_cons_succ, Value.cells, List.toList_toArray]; rfl) ?_
  refine norm_block ?_
  refine norm_then ?_
  refine at_region ?_
  refine at_q rfl rfl (by decide) (qt_move rfl rfl) ?_
  refine at_q rfl rfl (by decide) (qt_sub rfl rfl rfl (by omega) (by omega)) ?_
  refine at_q rfl rfl (by decide) (qt_assign rfl rfl) ?_
  refine at_end ?_
  exact at_againc hL1 ((j - 1, r1, L0 ++ [⟨q, qA, qc⟩])) (⟨by simp only [List.length_append, List.length_cons, List.length_nil]; omega, hpc.push (lpD_up hm0.2 hq)⟩) (by simp only; omega) ⟨vi (by omega), rfl, rfl, rfl, rfl, trivial⟩ (fun _ h => h.upto ⟨by rw [List.length_append]; rfl, rfl, by rw [List.length_append]; rfl, rfl, by rw [List.length_append, List.map_append]; rfl, (kqsR_push _ _).symm, trivial⟩)
 ·try simp only [za,zb,zc,zd,ze,zf,Bool.not_true,Bool.not_false,zg,zh,ne_eq,zi,zj] at c1
  refine at_exit ?_
  refine pass_then (fun h => by cases h) ?_
  refine pass_then (fun h => by cases h) ?_
  refine pass_hit ?_
  refine norm_then ?_
  refine at_seq ?_
  refine at_region ?_
  refine at_q rfl rfl (by decide) (qt_loadS rfl rfl tys_impl_Outline rfl (rdAll (k := 2) rfl)) ?_
  refine at_op rfl ?_
  refine op_storeAll' (k := 1) rfl rfl rfl rfl (rfl) (by rfl) tyz_impl_Outline.szx rfl rfl rfl ?_
  refine at_rsE (by simp only [ya,yb,yc,yd,Value.cells,ye]; rfl) ?_
  refine at_end ?_
  refine at_retc ?_
  refine at_ret1 rfl (rvCelS (k := 1) rfl tys_impl_Outline rfl rfl) ?_
  intro w' hs
  exact ⟨(⟨L0.map (·.l), hpc.ou (by omega)⟩, (rA, rc), w.heap.size, w'.heap.size), by simp only [List.length_map], wrsX hs, dou_ok (srcR.more (hs.all 0 _ rfl).1 (by omega)) hlt (kq_out hs (kr := 4) (kp := 5) rfl rfl (fun q hq => hq.elim (fun h => kqX hs (ks := 0) rfl rfl (k := 4) rfl (by decide) q h) (fun h => kqX hs (ks := 0) rfl rfl (k := 5) rfl (by decide) q h)) rfl (fun e he => by have := (hpc e he).1.2; omega)) rfl rfl⟩
theorem E8Outline_any (hB : Byts w A n zs) (hn : n ≤ 1048576) :
  Calls Tryd.prog 11 #[.slice A n c] w fun e w' => ∃ x : OX, e = .returned (outV x.2.1.1 x.1.1.length x.2.1.2) ∧ Over w w' ∧ (doqR x).P w' ∧ (∀ q, (doqR x).F q → w.heap.size ≤ q) ∧ (doqR x).B = 0 ∧ True := by
 refine walk_from (m := 8) (Tryd.func11) rfl rfl (Nat.le_of_ble_eq_true rfl) ?_
 refine at_seq ?_
 refine at_region ?_
 refine at_op rfl ?_
 refine op_alloc rfl tyz_impl_Outline rfl (by decide) (fun b1 => ?_)
 refine at_rsE (by simp only [ya,yb,yc,yd,Value.cells,ye]; rfl) ?_
 refine at_end ?_
 refine at_seq ?_
 refine at_region ?_
 refine at_q rfl rfl (by decide) (qt_move rfl rfl) ?_
 refine at_op rfl ?_
 refine op_call ok_spec_l00From (v := fun g : Nat => .pointer (some ⟨g, 0, none⟩)) (r := fun g => srcR g A n c 0) (H := fun _ => True) rfl rfl rfl (by decide) (fun w1 hs => l00From_any A n c w1) ?_
 rintro g -
 refine at_rsE (by simp only [ya,yb,yc,yd,Value.cells,ye]; rfl) ?_
 refine at_q rfl rfl (by decide) (qt_assign rfl rfl) ?_
 refine at_end ?_
 refine at_fact (fun w1 hs => ((hs.all 1 _ rfl).2.1 g rfl).elim id (fun h => by cases h)) ?_
 intro hg
 have hne := byNe hB (g := g) hg
 refine at_seq ?_
 refine at_region ?_
 refine at_q rfl rfl (by decide) (qt_move rfl rfl) ?_
 refine at_op rfl ?_
 refine op_callP (k := 1) (X := OX) (v := fun x => outV x.2.1.1 x.1.1.length x.2.1.2) (r' := fun x => douR g A n c (0 + 400) x) ok_spec_l10Draw rfl rfl rfl (by decide) rfl (fun w1 hs => l10Draw_any (zs := zs) (hB.over hs.fin) hne (hs.all 1 _ rfl).1 hn (by decide)) ?_
 rintro x0
 refine at_rsE (by simp only [ya,yb,yc,yd,Value.cells,ye]; rfl) ?_
 refine at_two 1 rfl ?_
 refine at_rsE (by simp only [List.nil_append, List.cons_append, List.set_cons_zero, List.set_cons_succ, List.eraseIdx_cons_zero, List.eraseIdx_cons_succ, Value.cells, List.toList_toArray]; rfl) ?_
 refine at_op rfl ?_
 refine op_storeAll' (k := 0) rfl rfl rfl rfl (rfl) (by rfl) tyz_impl_Outline.szx rfl rfl rfl ?_
 refine at_rsE (by simp only [ya,yb,yc,yd,Value.cells,ye]; rfl) ?_
 refine at_end ?_
 refine at_retc ?_
 refine at_ret1 rfl (rvCelS (k := 0) rfl tys_impl_Outline rfl rfl) ?_
 intro w' hs
 exact ⟨x0, rfl, hs.fin, (hs.all 2 _ rfl).1, fun q hq => ((hs.all 2 _ rfl).2.1 q hq).elim id (fun h => by cases h), rfl, trivial⟩
end
/-! ### Copied and turned around -/
abbrev rqR (n : Nat) (x : (Option Addr × Nat) × List Kq) : Res := .many [rowR 0 48 1 n (x.2.map Kq.val) x.1, kqsR x.2]
theorem rq_ok {w w' : World} {Rs : List Res} (hs : St ⟨w, []⟩ Rs w') {kr kp B n : Nat} {x : Option Addr × Nat} {L : List Kq} (hr : Rs[kr]? = some (rowR B 48 1 n (L.map Kq.val) x)) (hp : Rs[kp]? = some (kqsR L)) (hne : kr ≠ kp) : (rqR n (x, L)).P w' ∧ (∀ q, (rqR n (x, L)).F q → w.heap.size ≤ q) ∧ (rqR n (x, L)).B = 0 := by
 have a1 := hs.all kr _ hr
 have a2 := hs.all kp _ hp
 refine ⟨many2 (row_low a1.1 (Nat.zero_le _)) a2.1 rfl rfl (fun q hq hq2 => hs.apart kr kp _ _ hne hr hp q hq hq2), fun q hq => ?_, rfl⟩
 obtain ⟨r, hr', hq⟩ := hq
 simp only [List.mem_cons, List.not_mem_nil, or_false] at hr'
 rcases hr' with rfl | rfl
 ·exact (a1.2.1 q hq).elim id (fun h => by cases h)
 ·exact (a2.2.1 q hq).elim id (fun h => by cases h)
theorem copyOutline_any (A : Option Addr) (c : Nat) (ls : List (List Kn)) (w : World) (h : Loops w A ls.length ls) (hv : outB ls = true) :
  Calls Tryd.prog 33 #[outV A ls.length c] w fun e w' => ∃ x : (Option Addr × Nat) × List Kq, e = .returned (outV x.1.1 ls.length x.1.2) ∧ Over w w' ∧ (rqR ls.length x).P w' ∧ (∀ q, (rqR ls.length x).F q → w.heap.size ≤ q) ∧ (rqR ls.length x).B = 0 ∧ x.2.map (·.l) = ls := by
 have h12 := out_len hv
 refine walk_from (m := 25) (Tryd.func33) rfl rfl (Nat.le_of_ble_eq_true rfl) ?_
 refine at_seq ?_
 refine at_region ?_
 refine at_op rfl ?_
 refine op_box rfl rfl (rfl) rfl (by decide) (fun b1 => ?_)
 refine at_rsE (by simp only [ya,yb,yc,yd,Value.cells,ye]; rfl) ?_
 refine at_op rfl ?_
 refine op_alloc rfl tyz_impl_Outline rfl (by decide) (fun b2 => ?_)
 refine at_rsE (by simp only [ya,yb,yc,yd,Value.cells,ye]; rfl) ?_
 refine at_end ?_
 refine at_seq ?_
 refine at_region ?_
 refine at_q rfl rfl (by decide) (qt_build rfl rfl (bld_impl_Outline_)) ?_
 refine at_op rfl ?_
 refine op_alloc rfl tyz_impl_Outline rfl (by decide) (fun b3 => ?_)
 refine at_rsE (by simp only [ya,yb,yc,yd,Value.cells,ye]; rfl) ?_
 refine at_op rfl ?_
 refine op_storeAll' (k := 2) rfl rfl rfl rfl (rfl) (by rfl) tyz_impl_Outline.szx rfl rfl rfl ?_
 refine at_rsE (by simp only [ya,yb,yc,yd,Value.cells,ye]; rfl) ?_
 refine at_end ?_
 refine at_row0 (T := 48) (s := 1) ?_
 refine at_rsE (by simp only [List.nil_append, List.cons_append, List.set_cons_zero, List.set_cons_succ, List.eraseIdx_cons_zero, List.eraseIdx_cons_succ, Value.cells, List.toList_toArray]; rfl) ?_
 refine at_many0 ?_
 refine at_rsE (by simp only [List.nil_append, List.cons_append, List.set_cons_zero, List.set_cons_succ, List.eraseIdx_cons_zero, List.eraseIdx_cons_succ, Value.cells, List.toList_toArray]; rfl) ?_
 refine at_seq ?_
 refine at_seq ?_
 refine at_region ?_
 refine at_q rfl rfl (by decide) (qt_fieldAddr rfl rfl tyf_impl_Outline_0) ?_
 refine at_q rfl rfl (by decide) (qt_load1 rfl rfl ty1_sl_impl_Loop (rd1 (k := 0) rfl rfl)) ?_
 refine at_q rfl rfl (by decide) (qt_len rfl rfl tyl_sl_impl_Loop) ?_
 refine at_q rfl rfl (by decide) (qt_move rfl rfl) ?_
 refine at_end ?_
 refine at_block ?_
 refine at_loopc (X := Nat × (Option Addr × Nat) × List Kq) (fun x => x.1 ≤ ls.length ∧ x.2.2.map (·.l) = ls.take x.1) (fun x => ls.length - x.1) (fun x => [(10, .int .i64 (x.1 : Int))]) (C := [(2, _), (3, _), (8, _), (9, _)]) ⟨rfl, rfl, rfl, rfl, trivial⟩ (fun x => [.cel b1 34 [.slice A ls.length c], .cel b2 34 [.slice none 0 0], .cel b3 34 [.slice x.2.1.1 x.1 x.2.1.2], rowR (Bs.N ⟨w, []⟩) 48 1 x.1 (x.2.2.map Kq.val) x.2.1, kqsR x.2.2]) (0, (none, 0), []) (⟨Nat.zero_le _, rfl⟩) ⟨rfl, rfl, rfl, rfl, rfl, trivial⟩ (fun _ h => h) ?_
 intro ⟨k, ⟨rA, rc⟩, L0⟩ hx L hL1
 refine at_envE (by simp only [ya,yb]; rfl) ?_
 refine at_rsE (by first | (dsimp only; done) | (dsimp only; rfl) | rfl) ?_
 obtain ⟨hk, hmp⟩ : k ≤ ls.length ∧ L0.map (·.l) = ls.take k := hx
 have hlk : L0.length = k := by have := congrArg List.length hmp; rw [List.length_map, List.length_take] at this; omega
 refine at_seq ?_
 refine at_region ?_
 refine at_q rfl rfl (by decide) (qt_lss rfl rfl rfl) ?_
 refine at_end ?_
 refine at_seq ?_
 refine at_cond rfl (fun c1 => ?_) (fun c1 => ?_)
 ·try simp only [za,zb,zc,zd,ze,zf,Bool.not_true,Bool.not_false,zg,zh,ne_eq,zi,zj] at c1
  have hlt : k < ls.length := (by omega)
  obtain ⟨bb, oo, Ak, ck, rfl, hbB, hcell, hkns, hmax⟩ := h.at_ hlt
  have hpos := (loop_ok (out_at hv hlt)).pos
  have h60 := (loop_ok (out_at hv hlt)).len
  refine at_skip ?_
  refine norm_then ?_
  refine at_seq ?_
  refine at_block ?_
  refine at_seq ?_
  refine at_region ?_
  refine at_q rfl rfl (by decide) (qt_index rfl rfl rfl tyl_sl_impl_Loop (by omega)) ?_
  refine at_q rfl rfl (by decide) (qt_loadS rfl rfl tys_impl_Loop rfl (rdOld1 hcell hbB)) ?_
  refine at_op rfl ?_
  refine op_alloc rfl tyz_impl_Loop rfl (by decide) (fun b4 => ?_)
  refine at_rsE (by simp only [ya,yb,yc,yd,Value.cells,ye]; rfl) ?_
  refine at_op rfl ?_
  refine op_storeAll' (k := 5) rfl rfl rfl rfl (rfl) (by rfl) tyz_impl_Loop.szx rfl rfl rfl ?_
  refine at_rsE (by simp only [ya,yb,yc,yd,Value.cells,ye]; rfl) ?_
  refine at_end ?_
  refine dg_start mixed rfl ?_
  refine dg_phase 7 ?_
  refine dg_q (i := 0) rfl (by kernel_rfl) (by kernel_rfl) (by kernel_rfl) [1] (by kernel_rfl) (fun _ _ _ h => h) rfl rfl (by decide) (fun _ h => h.upto ⟨rfl, rfl, rfl, rfl, rfl, rfl, trivial⟩) (qt_fieldAddr rfl rfl tyf_impl_Outline_0) ?_
  refine dg_q (i := 1) rfl (by kernel_rfl) (by kernel_rfl) (by kernel_rfl) [] (by kernel_rfl) (fun _ _ _ h => h) rfl rfl (by decide) (fun _ h => h.upto ⟨rfl, rfl, rfl, rfl, rfl, rfl, trivial⟩) (qt_load1 rfl rfl ty1_sl_impl_Loop (rd1 (k := 2) rfl rfl)) ?_
  refine dg_q (i := 2) rfl (by kernel_rfl) (by kernel_rfl) (by kernel_rfl) [3, 4] (by kernel_rfl) (fun _ _ _ h => h) rfl rfl (by decide) (fun _ h => h.upto ⟨rfl, rfl, rfl, rfl, rfl, rfl, trivial⟩) (qt_fieldAddr rfl rfl tyf_impl_Loop_0) ?_
  refine dg_q (i := 3) rfl (by kernel_rfl) (by kernel_rfl) (by kernel_rfl) [4] (by kernel_rfl) (fun _ _ _ h => h) rfl rfl (by decide) (fun _ h => h.upto ⟨rfl, rfl, rfl, rfl, rfl, rfl, trivial⟩) (qt_load1 rfl rfl ty1_sl_impl_Knot (rd1 (k := 5) rfl rfl)) ?_
  refine dg_one (i := 4) rfl (by decide) (by kernel_rfl) rfl ?_
  refine op_call ok_slices_Clone_sl_impl_Knot_impl_Knot (X := Option Addr × Nat) (v := fun x => .slice x.1 (lp ls k).length x.2) (r := fun x => rowR 0 54 3 (lp ls k).length ((lp ls k).flatMap knCells) x) (H := fun _ => True) rfl rfl rfl (by decide) (fun w1 hs => newRow (CloneKn_any Ak _ ck (lp ls k) w1 (hkns.over hs.fin) hpos (by omega))) ?_
  rintro ⟨cA, cc⟩ -
  refine at_rsE (by simp only [ya,yb,yc,yd,Value.cells,ye]; rfl) ?_
  refine dr_more (fun _ h => h.upto ⟨rfl, rfl, rfl, rfl, rfl, rfl, trivial⟩) ?_
  refine dg_q (i := 5) rfl (by kernel_rfl) (by kernel_rfl) (by kernel_rfl) [6] (by kernel_rfl) (fun _ _ _ h => h) rfl rfl (by decide) (fun _ h => h.upto ⟨rfl, rfl, rfl, rfl, rfl, rfl, rfl, trivial⟩) (qt_build rfl rfl (bld_impl_Loop_0 rfl)) ?_
  refine dg_one (i := 6) rfl (by decide) (by kernel_rfl) rfl ?_
  refine op_buildSlice rfl rfl (bsl_sl_impl_Loop_1_0 rfl) rfl (by decide) (fun b5 => ?_)
  refine at_rsE (by simp only [ya,yb,yc,yd,Value.cells,ye]; rfl) ?_
  refine dr_keep (fun _ h => h.upto ⟨rfl, rfl, rfl, rfl, rfl, rfl, rfl, trivial⟩) ?_
  refine dg_bar rfl (by kernel_rfl) rfl ?_
  refine op_appendR (k := 3) rfl tyl_sl_impl_Loop tyz_impl_Loop (by decide) rfl (by decide) rfl rfl rfl (fun w' hs => src_cel hs (k := 7) rfl rfl) (by simp [Value.oneCell']) (by unfold maxLen; omega) (by omega) (Nat.le_refl _) (fun r1 => ?_)
  refine at_rsE (by simp only [ya,yb,yc,yd,Value.cells,ye]; rfl) ?_
  refine dg_phaseW 10 [2] ?_
  refine dg_q (i := 8) rfl (by kernel_rfl) (by kernel_rfl) (by kernel_rfl) [] (by kernel_rfl) (fun _ _ _ h => h) rfl rfl (by decide) (fun _ h => (h.wk [2]).upto ⟨rfl, rfl, rfl, rfl, rfl, rfl, rfl, rfl, trivial⟩) (qt_fieldAddr rfl rfl tyf_impl_Outline_0) ?_
  refine dg_one (i := 9) rfl (by decide) (by kernel_rfl) rfl ?_
  refine op_storeAll' (k := 2) rfl rfl rfl rfl (rfl) (by rfl) tyz_sl_impl_Loop.szx rfl rfl rfl ?_
  refine at_rsE (by simp only [ya,yb,yc,yd,Value.cells,ye]; rfl) ?_
  refine dr_keep (fun _ h => (h.wk [2]).upto ⟨rfl, rfl, rfl, rfl, rfl, rfl, rfl, rfl, trivial⟩) ?_
  refine dg_done (by kernel_rfl) ?_
  refine at_push 4 6 rfl rfl (by decide) rfl ?_
  refine at_rsE (by simp only [List.nil_append, List.cons_append, List.set_cons_zero, List.set_cons_succ, List.eraseIdx_cons_zero, List.eraseIdx_cons_succ, Value.cells, List.toList_toArray]; rfl) ?_
  refine norm_block ?_
  refine norm_then ?_
  refine at_region ?_
  refine at_q rfl rfl (by decide) (qt_add rfl rfl rfl (by omega) (by omega)) ?_
  refine at_q rfl rfl (by decide) (qt_move rfl rfl) ?_
  refine at_end ?_
  exact at_againc hL1 ((k + 1, r1, L0 ++ [⟨lp ls k, cA, cc⟩])) (⟨show k + 1 ≤ ls.length by omega, by rw [List.map_append, hmp, takeL_step hlt]; rfl⟩) (by simp only; omega) ⟨vi (by omega), rfl, rfl, rfl, rfl, trivial⟩ (fun _ h => h.upto ⟨rfl, rfl, rfl, by rw [List.map_append]; rfl, (kqsR_push _ _).symm, trivial⟩)
 ·try simp only [za,zb,zc,zd,ze,zf,Bool.not_true,Bool.not_false,zg,zh,ne_eq,zi,zj] at c1
  have hkn : k = ls.length := (by omega)
  refine at_exit ?_
  refine pass_then (fun h => by cases h) ?_
  refine pass_then (fun h => by cases h) ?_
  refine pass_hit ?_
  refine norm_then ?_
  refine at_seq ?_
  refine at_region ?_
  refine at_q rfl rfl (by decide) (qt_loadS rfl rfl tys_impl_Outline rfl (rdAll (k := 2) rfl)) ?_
  refine at_op rfl ?_
  refine op_storeAll' (k := 1) rfl rfl rfl rfl (rfl) (by rfl) tyz_impl_Outline.szx rfl rfl rfl ?_
  refine at_rsE (by simp only [ya,yb,yc,yd,Value.cells,ye]; rfl) ?_
  refine at_end ?_
  refine at_retc ?_
  refine at_ret1 rfl (rvCelS (k := 1) rfl tys_impl_Outline rfl rfl) ?_
  intro w' hs
  subst hkn
  have hrs : L0.map (·.l) = ls := by rw [hmp, List.take_of_length_le (Nat.le_refl _)]
  obtain ⟨o1, o2, o3⟩ := rq_ok hs (kr := 3) (kp := 4) (x := (rA, rc)) rfl rfl (by decide)
  exact ⟨((rA, rc), L0), rfl, hs.fin, o1, o2, o3, hrs⟩
def rvq (e : Kq) : Kq := ⟨revK e.l, e.A, e.c⟩
theorem rvq_val (e : Kq) : (rvq e).val = e.val := by show Value.slice _ (revK e.l).length _ = _; rw [revK_len]; rfl
def rvL (L : List Kq) (k : Nat) : List Kq := (L.take k).map rvq ++ L.drop k
theorem rvL_val (L : List Kq) (k : Nat) : (rvL L k).map Kq.val = L.map Kq.val := by
 unfold rvL
 rw [List.map_append, List.map_map]
 have e : (L.take k).map (Kq.val ∘ rvq) = (L.take k).map Kq.val := List.map_congr_left fun x _ => rvq_val x
 rw [e, ← List.map_append, List.take_append_drop]
theorem rvL_at {L : List Kq} {k : Nat} (h : k < L.length) : (rvL L k)[k]? = some L[k] ∧ (rvL L k).set k (rvq L[k]) = rvL L (k + 1) := by
 have hl : ((L.take k).map rvq).length = k := by rw [List.length_map, List.length_take]; omega
 unfold rvL
 refine ⟨?_, ?_⟩
 ·rw [List.getElem?_append_right (by omega), hl, Nat.sub_self, List.drop_eq_getElem_cons h]
  rfl
 ·rw [List.set_append_right _ _ (by omega), hl, Nat.sub_self, List.drop_eq_getElem_cons h, List.set_cons_zero, List.take_succ_eq_append_getElem h, List.map_append, List.append_assoc]
  rfl
theorem rvL_end (L : List Kq) : (rvL L L.length).map (·.l) = (L.map (·.l)).map revK := by
 unfold rvL
 rw [List.take_length, List.drop_length, List.append_nil, List.map_map, List.map_map]
 rfl
theorem rdQ {w0 : Bs} {Rs : List Res} {j B T m k : Nat} {vs : List Value} {x : Option Addr × Nat} {v : Value} (hk : Rs[j]? = some (rowR B T 1 m vs x)) (hv : vs[k]? = some v) : ∀ w, St w0 Rs w → ∀ q u, [v][q]? = some u → w.cell? ⟨ablk x.1, 0 + k * 1 + q, none⟩ = some u := fun w hs q u hq => by
 match q, hq with
 | 0, hq =>
  have e : v = u := by simpa using hq
  subst e
  rw [Nat.zero_add, Nat.mul_one, Nat.add_zero]
  exact row_cell (hs.all j _ hk).1 hv
theorem rvq_F {e : Kq} {b : Nat} (h : (rvq e).res.F b) : e.res.F b := by
 have h : Value.ownBlock (.slice e.A (revK e.l).length e.c) = some b := h
 rw [revK_len] at h
 exact h
theorem rev_piece {L L2 : List Kq} {k : Nat} {e : Kq} {w : World} (hP : (kqsR L).P w) (h1 : L[k]? = some e) (h2 : L.set k (rvq e) = L2) (hpos : 1 ≤ e.l.length) (h60 : e.l.length ≤ 1048577) :
  Calls Tryd.prog 34 #[sliced e.A 1 e.l.length e.c 3] w fun r w' => r = .returned (.tuple #[]) ∧ Wrs (kqsR L).F w w' ∧ (kqsR L2).P w' := by
 have he : (L.map Kq.res)[k]? = some e.res := by rw [List.getElem?_map, h1]; rfl
 have hm : e.res ∈ L.map Kq.res := List.mem_of_getElem? he
 have hp : e.res.P w := (hP.1 _ hm).1
 refine (ReverseKn_row (l := e.l) hp hpos rfl h60).mono ?_
 rintro r w' ⟨rfl, hw, hP'⟩
 refine ⟨rfl, hw.mono fun b hb => ⟨e.res, hm, hb⟩, ?_⟩
 have hr : (rvq e).res.P w' := by
  show (rowR 0 54 3 (revK e.l).length ((revK e.l).flatMap knCells) (e.A, e.c)).P w'
  rw [revK_len]
  exact hP'
 have := manyK_set hP he hw hr (fun b hb => rvq_F hb) rfl
 rw [← List.map_set, h2] at this
 exact this
theorem rvL_F {L : List Kq} {k : Nat} (h : k < L.length) (b : Nat) (hb : (kqsR (rvL L (k + 1))).F b) : (kqsR (rvL L k)).F b := by
 obtain ⟨v1, v2⟩ := rvL_at h
 rw [← v2] at hb
 obtain ⟨r, hr, hb⟩ := hb
 obtain ⟨e, he, rfl⟩ := List.mem_map.1 hr
 rcases List.mem_or_eq_of_mem_set he with k1 | k1
 ·exact ⟨e.res, List.mem_map.2 ⟨e, k1, rfl⟩, hb⟩
 ·subst k1
  exact ⟨(L[k]).res, List.mem_map.2 ⟨_, List.mem_of_getElem? v1, rfl⟩, rvq_F hb⟩
theorem out_mem {ls : List (List Kn)} (h : outB ls = true) {l : List Kn} (hl : l ∈ ls) : LoopOk l := by
 unfold outB at h
 rw [Bool.and_eq_true] at h
 exact loop_ok (List.all_eq_true.1 h.2 l hl)
theorem ReverseOutline_any (A : Option Addr) (c : Nat) (ls : List (List Kn)) (w : World) (h : Loops w A ls.length ls) (hv : outB ls = true) :
  Calls Tryd.prog 13 #[outV A ls.length c] w fun e w' => OqP (revO ls) (fun v => .tuple #[v, .int .i64 0]) e w w' := by
 have h12 := out_len hv
 refine walk_from (m := 26) (Tryd.func13) rfl rfl (Nat.le_of_ble_eq_true rfl) ?_
 refine at_seq ?_
 refine at_region ?_
 refine at_op rfl ?_
 refine op_box rfl rfl (rfl) rfl (by decide) (fun b1 => ?_)
 refine at_rsE (by simp only [ya,yb,yc,yd,Value.cells,ye]; rfl) ?_
 refine at_op rfl ?_
 refine op_alloc rfl tyz_impl_Outline rfl (by decide) (fun b2 => ?_)
 refine at_rsE (by simp only [ya,yb,yc,yd,Value.cells,ye]; rfl) ?_
 refine at_q rfl rfl (by decide) (qt_assign rfl rfl) ?_
 refine at_end ?_
 refine at_seq ?_
 refine at_seq ?_
 refine at_region ?_
 refine at_q rfl rfl (by decide) (qt_loadS rfl rfl tys_impl_Outline rfl (rdAll (k := 0) rfl)) ?_
 refine at_q rfl rfl (by decide) (qt_call ok_impl_ValidOutline rfl rfl (fun w1 hs => ValidOutline_any A ls.length c ls w1 (h.over hs.fin) (by omega))) ?_
 refine at_q rfl rfl (by decide) (qt_not rfl rfl) ?_
 refine at_end ?_
 refine at_no rfl (by rw [hv]; rfl) ?_
 refine at_skip ?_
 refine norm_then ?_
 refine at_seq ?_
 refine at_region ?_
 refine at_q rfl rfl (by decide) (qt_loadS rfl rfl tys_impl_Outline rfl (rdAll (k := 0) rfl)) ?_
 refine at_op rfl ?_
 refine op_call ok_impl_copyOutline (X := (Option Addr × Nat) × List Kq) (v := fun x => outV x.1.1 ls.length x.1.2) (r := fun x => rqR ls.length x) (H := fun x => x.2.map (·.l) = ls) rfl rfl rfl (by decide) (fun w1 hs => copyOutline_any A c ls w1 (h.over hs.fin) hv) ?_
 rintro ⟨⟨gA, gc⟩, L0⟩ hL0
 refine at_rsE (by simp only [ya,yb,yc,yd,Value.cells,ye]; rfl) ?_
 refine at_op rfl ?_
 refine op_alloc rfl tyz_impl_Outline rfl (by decide) (fun b3 => ?_)
 refine at_rsE (by simp only [ya,yb,yc,yd,Value.cells,ye]; rfl) ?_
 refine at_op rfl ?_
 refine op_storeAll' (k := 3) rfl rfl rfl rfl (rfl) (by rfl) tyz_impl_Outline.szx rfl rfl rfl ?_
 refine at_rsE (by simp only [ya,yb,yc,yd,Value.cells,ye]; rfl) ?_
 refine at_end ?_
 refine at_two 2 rfl ?_
 refine at_rsE (by simp only [List.nil_append, List.cons_append, List.set_cons_zero, List.set_cons_succ, List.eraseIdx_cons_zero, List.eraseIdx_cons_succ, Value.cells, List.toList_toArray]; rfl) ?_
 have hlen : L0.length = ls.length := by rw [← hL0, List.length_map]
 refine at_seq ?_
 refine at_seq ?_
 refine at_region ?_
 refine at_q rfl rfl (by decide) (qt_fieldAddr rfl rfl tyf_impl_Outline_0) ?_
 refine at_q rfl rfl (by decide) (qt_load1 rfl rfl ty1_sl_impl_Loop (rd1 (k := 3) rfl rfl)) ?_
 refine at_q rfl rfl (by decide) (qt_len rfl rfl tyl_sl_impl_Loop) ?_
 refine at_q rfl rfl (by decide) (qt_move rfl rfl) ?_
 refine at_end ?_
 refine at_block ?_
 refine at_loopc (X := Nat) (fun k => k ≤ ls.length) (fun k => ls.length - k) (fun k => [(16, .int .i64 (k : Int))]) (C := [(2, _), (3, _), (4, _), (14, _), (15, _)]) ⟨rfl, rfl, rfl, rfl, rfl, trivial⟩ (fun k => [.cel b1 34 [.slice A ls.length c], .cel b2 34 [.slice none 0 0], rowR 0 48 1 ls.length (L0.map Kq.val) (gA, gc), .cel b3 34 [.slice gA ls.length gc], kqsR (rvL L0 k)]) 0 (Nat.zero_le _) ⟨rfl, rfl, rfl, rfl, rfl, rfl, trivial⟩ (fun _ h => h) ?_
 intro k hk L hL1
 refine at_envE (by simp only [ya,yb]; rfl) ?_
 refine at_rsE (by first | (dsimp only; done) | (dsimp only; rfl) | rfl) ?_
 refine at_seq ?_
 refine at_region ?_
 refine at_q rfl rfl (by decide) (qt_lss rfl rfl rfl) ?_
 refine at_end ?_
 refine at_seq ?_
 refine at_cond rfl (fun c1 => ?_) (fun c1 => ?_)
 ·try simp only [za,zb,zc,zd,ze,zf,Bool.not_true,Bool.not_false,zg,zh,ne_eq,zi,zj] at c1
  have hlt : k < L0.length := (by omega)
  obtain ⟨v1, v2⟩ := rvL_at hlt
  have hl0 : (L0[k]).l = lp ls k := by rw [← lp_at (show k < ls.length by omega)]; simp [← hL0]
  have hpos := (loop_ok (out_at hv (show k < ls.length by omega))).pos
  have h60 := (loop_ok (out_at hv (show k < ls.length by omega))).len
  rw [← hl0] at hpos h60
  refine at_skip ?_
  refine norm_then ?_
  refine at_seq ?_
  refine at_block ?_
  refine at_seq ?_
  refine at_region ?_
  refine at_q rfl rfl (by decide) (qt_indexR (k := 2) (j := k) rfl rfl rfl rfl tyl_sl_impl_Loop (by omega)) ?_
  refine at_q rfl rfl (by decide) (qt_loadS rfl rfl tys_impl_Loop rfl (rdQ (j := 2) (v := Kq.val L0[k]) rfl (by rw [List.getElem?_map, List.getElem?_eq_getElem hlt]; rfl))) ?_
  refine at_op rfl ?_
  refine op_alloc rfl tyz_impl_Loop rfl (by decide) (fun b4 => ?_)
  refine at_rsE (by simp only [ya,yb,yc,yd,Value.cells,ye]; rfl) ?_
  refine at_op rfl ?_
  refine op_storeAll' (k := 5) rfl rfl rfl rfl (rfl) (by rfl) tyz_impl_Loop.szx rfl rfl rfl ?_
  refine at_rsE (by simp only [ya,yb,yc,yd,Value.cells,ye]; rfl) ?_
  refine at_end ?_
  refine at_region ?_
  refine at_q rfl rfl (by decide) (qt_fieldAddr rfl rfl tyf_impl_Loop_0) ?_
  refine at_q rfl rfl (by decide) (qt_load1 rfl rfl ty1_sl_impl_Knot (rd1 (k := 5) rfl rfl)) ?_
  refine at_q rfl rfl (by decide) (qt_sliceL (l := 1) rfl rfl rfl tyl_sl_impl_Knot hpos) ?_
  refine at_op rfl ?_
  refine op_callw (k := 4) (r' := kqsR (rvL L0 (k + 1))) ok_slices_Reverse_sl_impl_Knot_impl_Knot rfl rfl rfl (by decide) rfl (fun w1 hs => rev_piece (hs.all 4 _ rfl).1 v1 v2 hpos (by omega)) (fun b hb => rvL_F hlt b hb) rfl ?_
  refine at_rsE (by simp only [ya,yb,yc,yd,Value.cells,ye]; rfl) ?_
  refine at_nil ?_
  refine norm_block ?_
  refine norm_then ?_
  refine at_region ?_
  refine at_q rfl rfl (by decide) (qt_add rfl rfl rfl (by omega) (by omega)) ?_
  refine at_q rfl rfl (by decide) (qt_move rfl rfl) ?_
  refine at_end ?_
  exact at_againc hL1 (k + 1) (by omega) (by omega) ⟨vi (by omega), rfl, rfl, rfl, rfl, rfl, trivial⟩ (fun _ h => h.upto ⟨rfl, rfl, rfl, rfl, rfl, trivial⟩)
 ·try simp only [za,zb,zc,zd,ze,zf,Bool.not_true,Bool.not_false,zg,zh,ne_eq,zi,zj] at c1
  have hkn : k = ls.length := (by omega)
  have hLL : (rvL L0 k).map (·.l) = revO ls := (by rw [show k = L0.length by omega, rvL_end, hL0]; rfl)
  have hLn : (rvL L0 k).length = ls.length := (by have := congrArg List.length hLL; rw [List.length_map] at this; rw [this, revO, List.length_map])
  refine at_exit ?_
  refine pass_then (fun h => by cases h) ?_
  refine pass_then (fun h => by cases h) ?_
  refine pass_hit ?_
  refine norm_then ?_
  refine at_seq ?_
  refine at_region ?_
  refine at_q rfl rfl (by decide) (qt_loadS rfl rfl tys_impl_Outline rfl (rdAll (k := 3) rfl)) ?_
  refine at_op rfl ?_
  refine op_storeAll' (k := 1) rfl rfl rfl rfl (rfl) (by rfl) tyz_impl_Outline.szx rfl rfl rfl ?_
  refine at_rsE (by simp only [ya,yb,yc,yd,Value.cells,ye]; rfl) ?_
  refine at_q rfl rfl (by decide) (qt_assign rfl rfl) ?_
  refine at_end ?_
  refine at_retc ?_
  refine at_ret2 rfl (rvCelS (k := 1) rfl tys_impl_Outline rfl rfl) (.tmp rfl) ?_
  intro w' hs
  exact oqp_ok hs (kr := 2) (kp := 4) (x := (gA, gc)) (L := rvL L0 k) (by rw [rvL_val]; rfl) rfl hLn hLL (fun e he => by have h1 : e.l ∈ revO ls := hLL ▸ List.mem_map.2 ⟨e, he, rfl⟩; obtain ⟨l, hl, e2⟩ := List.mem_map.1 h1; rw [← e2, revK_len]; have := (out_mem hv hl).len; omega)
end Go.Proofs.YtjhaakollekjeaaDoor
