/- FnMinkowski: pens and points that are drawn, plain facts. -/
import Derived.Test.YtcplmmoeglembaaSrc3
namespace Go.Proofs.Ytcplmmoeglembaa
open Go Go.RowKit
set_option linter.unusedVariables false
set_option linter.unusedSimpArgs false
set_option maxRecDepth 100000
set_option maxHeartbeats 4000000
set_option linter.unusedVariables false
set_option linter.unusedSimpArgs false

theorem refl_len {a : List Pn} (ha : penB a = true) : (hullP (a.map negP)).length = a.length := by
  obtain ⟨h1, h2, h3⟩ := pen_of ha
  have hA := putAll_asc a
  have e : putAll (a.map negP) = rv (putAll a) := asc_ext (putAll_asc _) (rv_asc hA) fun q => by
    rw [putAll_mem, mem_rv, putAll_mem, List.mem_map]
    constructor
    · rintro ⟨r, hr, rfl⟩; rw [neg_neg]; exact hr
    · intro h; exact ⟨_, h, neg_neg q⟩
  have h3' : hullS (putAll a) = a := h3
  show (hullS (putAll (a.map negP))).length = a.length
  rw [e]
  conv => rhs; rw [← h3']
  generalize putAll a = all at *
  rcases Nat.lt_or_ge all.length 3 with h | h
  · rw [show hullS all = all from if_pos h, show hullS (rv all) = rv all from if_pos (by rw [rv_len]; exact h), rv_len]
  · rw [show hullS all = sideP all ++ sideP all.reverse from if_neg (by omega), show hullS (rv all) = sideP (rv all) ++ sideP (rv all).reverse from if_neg (by rw [rv_len]; omega)]
    have e1 : sideP (rv all) = (sideP all.reverse).map negP := by rw [side_rev, map_negneg]
    have e2 : sideP (rv all).reverse = (sideP all).map negP := by rw [show (rv all).reverse = all.map negP by rw [rv, List.reverse_reverse], side_neg]
    rw [e1, e2, List.length_append, List.length_append, List.length_map, List.length_map]
    omega
theorem pen_refl {a : List Pn} (ha : penB a = true) : penB (hullP (a.map negP)) = true := by
  obtain ⟨h1, h2, h3⟩ := pen_of ha
  refine pen_hull (by rw [List.length_map]; omega) (allOk_of fun p hp => ?_) (by rw [refl_len ha]; omega)
  obtain ⟨q, hq, rfl⟩ := List.mem_map.1 (hull_mem hp)
  exact bd2_neg (allOk_bd h2 q hq)
theorem okB_2 {p : Pn} (h : bd2 p) : okB p.1 p.2 = true := bd2_ok h
theorem ph_refl {a : List Pn} (ha : penB a = true) {p : Pn} (hp : bd2 p) : phB (hullP (a.map negP)) (negP p) = phB a p := by
  have h1 : okB (negP p).1 (negP p).2 = true := okB_2 (bd2_neg hp)
  rw [phB, phB, pen_refl ha, ha, h1, okB_2 hp, has_refl ha]
theorem neSelfB' {a b : Bool} (h : a = b) : (!(a == b)) = false := by rw [h]; simp
theorem eqSelfI (a : Int) : (a == a) = true := by simp
theorem spC_is {a : List Pn} {d : Pn} (ha : penB a = true) (hd : bd2 d) : spC a d = if d = (0, 0) then 6 else 0 := by
  rw [spC, ha, okB_2 hd]
  rfl
theorem spC_two {a b : List Pn} {d : Pn} (ha : penB a = true) (hb : penB b = true) (hd : bd2 d) : spC b d = spC a d := by rw [spC_is ha hd, spC_is hb hd]
theorem spC_six {a : List Pn} {d : Pn} (ha : penB a = true) (hd : bd2 d) (h : ¬ spC a d = 0) : spC a d = 6 ∧ d = (0, 0) := by
  rw [spC_is ha hd] at h ⊢
  split at h
  · rename_i e; exact ⟨if_pos e, e⟩
  · exact absurd rfl h
theorem exV_ext {a : List Pn} {d : Pn} (h : spC a d = 0) : exV a d = extD a d := ex_yes h
theorem exV_refl {a : List Pn} {d : Pn} (ha : penB a = true) (hd : bd2 d) (h : spC a d = 0) : exV (hullP (a.map negP)) d = exV a d := by
  have h1 := (pen_of ha).1
  rw [exV_ext h, exV_ext (by rw [spC_two ha (pen_refl ha) hd]; exact h), extD_neg (by omega)]
theorem exV_sum {a b : List Pn} {d : Pn} (ha : penB a = true) (hb : penB b = true) (hd : bd2 d) (hs : penB (hullP (smsP a b)) = true) (h : spC a d = 0) : exV (hullP (smsP a b)) d = exV a d + exV b d := by
  have h1 := (pen_of ha).1
  have h2 := (pen_of hb).1
  rw [exV_ext h, exV_ext (a := b) (d := d) (by rw [spC_two ha hb hd]; exact h), exV_ext (a := hullP (smsP a b)) (d := d) (by rw [spC_two ha hs hd]; exact h), extD_sum (by omega) (by omega)]
theorem exV_bd {a : List Pn} {d : Pn} (h : spC a d = 0) : -549755813888 ≤ exV a d ∧ exV a d ≤ 549755813888 := by
  have := ex_bd h
  rw [ex_yes h]
  omega
theorem mk_two {a b : List Pn} (ha : penB a = true) (hb : penB b = true) (h : ¬ mkC a b = 0) : mkC a b = 2 := by
  unfold mkC at *
  rw [ha, hb] at *
  simp only [Bool.and_self, if_true] at *
  split at h
  · exact absurd rfl h
  · rename_i h1; exact if_neg h1
theorem mk_zero {a b : List Pn} (ha : penB a = true) (hb : penB b = true) (h : mkC a b = 0) : mkR a b = hullP (smsP a b) ∧ allOk (hullP (smsP a b)) = true := by
  refine ⟨if_pos h, ?_⟩
  unfold mkC at h
  rw [ha, hb] at h
  simp only [Bool.and_self, if_true] at h
  split at h
  · assumption
  · omega
theorem sum_pen {a b : List Pn} (ha : penB a = true) (hb : penB b = true) (h : allOk (hullP (smsP a b)) = true) (hn : penB (hullP (smsP a b)) = false) : 16 < (hullP (smsP a b)).length := by
  have h1 := (pen_of ha).1
  have h2 := (pen_of hb).1
  rcases Nat.lt_or_ge 16 (hullP (smsP a b)).length with h3 | h3
  · exact h3
  · have := pen_hull (l := smsP a b) (by rw [sms_len]; exact Nat.mul_pos (by omega) (by omega)) h h3
    rw [this] at hn
    cases hn
theorem numsCel {w0 : Bs} {Rs : List Res} {k b T m : Nat} (xs : List Int) (hk : Rs[k]? = some (.cel b T (xs.map (Value.int .i64)))) (hm : xs.length = m) : ∀ w, St w0 Rs w → Nums w (some ⟨b, 0, none⟩) m xs := fun w hs => by
  have hh := hs.cel hk
  refine ⟨hm, fun _ => ⟨b, 0, rfl, lt_of_some hh, fun j hj => ?_⟩⟩
  rw [Nat.zero_add, cell_of_row w b _ _ T (0, 0) hh, List.getElem?_toArray, List.getElem?_map, List.getElem?_eq_getElem (show j < xs.length by omega), nth_at (by omega)]
  rfl
/-! ### Pens and points drawn from bytes -/
section
variable {n c : Nat} {A : Option Addr} {zs : List Int} {w : World}
theorem at_ret4 {P : Program} {n : Nat} {env : List (Nat × Value)} {w0 : Bs} {Rs : List Res} {fn : Func} {R : Ending → World → Prop} {r1 r2 r3 r4 : ResultVar} {v1 v2 v3 v4 : Value} (hr : fn.results = #[r1, r2, r3, r4]) (h1 : RV P env w0 Rs r1 v1) (h2 : RV P env w0 Rs r2 v2) (h3 : RV P env w0 Rs r3 v3) (h4 : RV P env w0 Rs r4 v4) (h : ∀ w, St w0 Rs w → R (.returned (.tuple #[v1, v2, v3, v4])) w) :
    At n env w0 Rs (fun a w => bodyPost P fn R .ret a w) := fun a w hf hs => by
  refine bodyPost_ret (v := .tuple #[v1, v2, v3, v4]) ?_ hf.defers (h w hs)
  rw [results_rv, hr]
  have e1 := h1.run hf hs
  have e2 := h2.run hf hs
  have e3 := h3.run hf hs
  have e4 := h4.run hf hs
  simp [e1, e2, e3, e4]
theorem byNe (hB : Byts w A n zs) {g : Nat} (hg : w.heap.size ≤ g) : 0 < n → ∀ p, A = some p → p.block ≠ g := fun h0 p hp e => by
  obtain ⟨b, o, hA, hlt, _⟩ := hB.2.2 h0
  rw [hA] at hp
  injection hp with hp
  subst hp
  have : b = g := e
  omega
theorem E8Pen_any (hB : Byts w A n zs) (hn : n ≤ 1048576) :
    Calls Try.prog 40 #[.slice A n c] w fun e w' => ∃ x : Pen × Option Addr × Nat, e = .returned (.slice x.2.1 x.1.1.length x.2.2) ∧ Over w w' ∧ (rowR 0 34 2 x.1.1.length (x.1.1.flatMap ptCells) x.2).P w' ∧ (∀ q, (rowR 0 34 2 x.1.1.length (x.1.1.flatMap ptCells) x.2).F q → w.heap.size ≤ q) ∧ (rowR 0 34 2 x.1.1.length (x.1.1.flatMap ptCells) x.2).B = 0 ∧ True := by
  refine walk_from (m := 8) (Try.func40) rfl rfl (Nat.le_of_ble_eq_true rfl) ?_
  refine at_seq ?_
  refine at_region ?_
  refine at_q rfl rfl (by decide) (qt_assign rfl rfl) ?_
  refine at_end ?_
  refine at_seq ?_
  refine at_region ?_
  refine at_q rfl rfl (by decide) (qt_move rfl rfl) ?_
  refine at_op rfl ?_
  refine op_call ok_spec_l00From (v := fun g : Nat => .pointer (some ⟨g, 0, none⟩)) (r := fun g => srcR g A n c 0) (H := fun _ => True) rfl rfl rfl (by decide) (fun w1 hs => l00From_any A n c w1) ?_
  rintro g -
  refine at_rsE (by simp only [List.nil_append, List.cons_append, List.set_cons_zero, List.set_cons_succ, Value.cells, List.toList_toArray]; rfl) ?_
  refine at_q rfl rfl (by decide) (qt_assign rfl rfl) ?_
  refine at_end ?_
  refine at_fact (fun w1 hs => ((hs.all 0 _ rfl).2.1 g rfl).elim id (fun h => by cases h)) ?_
  intro hg
  have hne := byNe hB (g := g) hg
  refine at_seq ?_
  refine at_region ?_
  refine at_q rfl rfl (by decide) (qt_move rfl rfl) ?_
  refine at_op rfl ?_
  refine op_callP (k := 0) (X := Pen × Option Addr × Nat) (v := fun x => .slice x.2.1 x.1.1.length x.2.2) (r' := fun x => rowR 0 34 2 x.1.1.length (x.1.1.flatMap ptCells) x.2) ok_spec_l11Draw rfl rfl rfl (by decide) rfl (fun w1 hs => draw9_any g n c 0 A zs w1 (hB.over hs.fin) hne (hs.all 0 _ rfl).1 hn (by decide)) ?_
  rintro ⟨⟨xs, hxs⟩, rA, rc⟩
  refine at_rsE (by simp only [List.nil_append, List.cons_append, List.set_cons_zero, List.set_cons_succ, Value.cells, List.toList_toArray]; rfl) ?_
  refine at_q rfl rfl (by decide) (qt_assign rfl rfl) ?_
  refine at_end ?_
  refine at_retc ?_
  refine at_ret1 rfl (.tmp rfl) ?_
  intro w' hs
  exact ⟨(⟨xs, hxs⟩, rA, rc), rfl, hs.fin, row_low (hs.all 0 _ rfl).1 (Nat.zero_le _), fun q hq => ((hs.all 0 _ rfl).2.1 q hq).elim id (fun h => by cases h), rfl, trivial⟩
/-- Four points. -/
abbrev Four := { x : Pn × Pn × Pn × Pn // bd2 x.1 ∧ bd2 x.2.1 ∧ bd2 x.2.2.1 ∧ bd2 x.2.2.2 }
theorem manyNil (w : World) : (Res.many []).P w := ⟨fun r hr => absurd hr (by simp), List.Pairwise.nil⟩
theorem E8Points_any (hB : Byts w A n zs) (hn : n ≤ 1048576) :
    Calls Try.prog 41 #[.slice A n c] w fun e w' => ∃ x : Four, e = .returned (.tuple #[pV x.1.1, pV x.1.2.1, pV x.1.2.2.1, pV x.1.2.2.2]) ∧ Over w w' ∧ (Res.many []).P w' ∧ (∀ q, (Res.many []).F q → w.heap.size ≤ q) ∧ (Res.many []).B = 0 ∧ True := by
  refine walk_from (m := 31) (Try.func41) rfl rfl (Nat.le_of_ble_eq_true rfl) ?_
  refine at_seq ?_
  refine at_region ?_
  refine at_op rfl ?_
  refine op_alloc rfl tyz_impl_Pt rfl (by decide) (fun b1 => ?_)
  refine at_rsE (by simp only [List.nil_append, List.cons_append, List.set_cons_zero, List.set_cons_succ, Value.cells, List.toList_toArray]; rfl) ?_
  refine at_op rfl ?_
  refine op_alloc rfl tyz_impl_Pt rfl (by decide) (fun b2 => ?_)
  refine at_rsE (by simp only [List.nil_append, List.cons_append, List.set_cons_zero, List.set_cons_succ, Value.cells, List.toList_toArray]; rfl) ?_
  refine at_op rfl ?_
  refine op_alloc rfl tyz_impl_Pt rfl (by decide) (fun b3 => ?_)
  refine at_rsE (by simp only [List.nil_append, List.cons_append, List.set_cons_zero, List.set_cons_succ, Value.cells, List.toList_toArray]; rfl) ?_
  refine at_op rfl ?_
  refine op_alloc rfl tyz_impl_Pt rfl (by decide) (fun b4 => ?_)
  refine at_rsE (by simp only [List.nil_append, List.cons_append, List.set_cons_zero, List.set_cons_succ, Value.cells, List.toList_toArray]; rfl) ?_
  refine at_end ?_
  refine at_seq ?_
  refine at_region ?_
  refine at_q rfl rfl (by decide) (qt_move rfl rfl) ?_
  refine at_op rfl ?_
  refine op_call ok_spec_l00From (v := fun g : Nat => .pointer (some ⟨g, 0, none⟩)) (r := fun g => srcR g A n c 0) (H := fun _ => True) rfl rfl rfl (by decide) (fun w1 hs => l00From_any A n c w1) ?_
  rintro g -
  refine at_rsE (by simp only [List.nil_append, List.cons_append, List.set_cons_zero, List.set_cons_succ, Value.cells, List.toList_toArray]; rfl) ?_
  refine at_q rfl rfl (by decide) (qt_assign rfl rfl) ?_
  refine at_end ?_
  refine at_fact (fun w1 hs => ((hs.all 4 _ rfl).2.1 g rfl).elim id (fun h => by cases h)) ?_
  intro hg
  have hne := byNe hB (g := g) hg
  refine at_seq ?_
  refine at_region ?_
  refine at_q rfl rfl (by decide) (qt_move rfl rfl) ?_
  refine at_op rfl ?_
  refine op_buildSlice rfl rfl (bsl_sl_int64_5_0_1_2_3_4 rfl rfl rfl rfl rfl) rfl (by decide) (fun b5 => ?_)
  refine at_rsE (by simp only [List.nil_append, List.cons_append, List.set_cons_zero, List.set_cons_succ, Value.cells, List.toList_toArray]; rfl) ?_
  refine at_op rfl ?_
  refine op_callP (k := 4) (X := { v : Int // v ∈ [(3 : Int), 6, 30, 1000, 262144] }) (v := fun x => .int .i64 x.1) (r' := fun _ => srcR g A n c 1) ok_p_spec_l00Src_among rfl rfl rfl (by decide) rfl (fun w1 hs => among_any (zs := zs) _ 5 5 [3, 6, 30, 1000, 262144] (numsCel [3, 6, 30, 1000, 262144] (k := 5) rfl rfl w1 hs) (by decide) (by decide) (fun p hp e => by injection hp with hp; subst hp; exact hs.apart 4 5 _ _ (by decide) rfl rfl g rfl e.symm) (hB.over hs.fin) hne (hs.all 4 _ rfl).1 hn (by decide)) ?_
  rintro ⟨m, hm⟩
  refine at_rsE (by simp only [List.nil_append, List.cons_append, List.set_cons_zero, List.set_cons_succ, Value.cells, List.toList_toArray]; rfl) ?_
  try dsimp only
  have hm0 : 0 ≤ m ∧ m ≤ 262144 := by simp only [List.mem_cons, List.not_mem_nil, or_false] at hm; omega
  refine at_q rfl rfl (by decide) (qt_assign rfl rfl) ?_
  refine at_end ?_
  refine at_seq ?_
  refine at_region ?_
  refine at_q rfl rfl (by decide) (qt_move rfl rfl) ?_
  refine at_q rfl rfl (by decide) (qt_move rfl rfl) ?_
  refine at_op rfl ?_
  refine op_callP (k := 4) (X := { p : Pn // bdI m p }) (v := fun x => pV x.1) (r' := fun _ => srcR g A n c 9) ok_spec_l03Draw rfl rfl rfl (by decide) rfl (fun w1 hs => draw_any (zs := zs) m hm0.1 hm0.2 (hB.over hs.fin) hne (hs.all 4 _ rfl).1 hn (by decide)) ?_
  rintro ⟨p1, hp1⟩
  refine at_rsE (by simp only [List.nil_append, List.cons_append, List.set_cons_zero, List.set_cons_succ, Value.cells, List.toList_toArray]; rfl) ?_
  try dsimp only
  refine at_op rfl ?_
  refine op_alloc rfl tyz_impl_Pt rfl (by decide) (fun b6 => ?_)
  refine at_rsE (by simp only [List.nil_append, List.cons_append, List.set_cons_zero, List.set_cons_succ, Value.cells, List.toList_toArray]; rfl) ?_
  refine at_op rfl ?_
  refine op_storeAll' (k := 6) rfl rfl rfl rfl (rfl) (by rfl) tyz_impl_Pt.szx rfl rfl rfl ?_
  refine at_rsE (by simp only [List.nil_append, List.cons_append, List.set_cons_zero, List.set_cons_succ, Value.cells, List.toList_toArray]; rfl) ?_
  refine at_end ?_
  refine at_seq ?_
  refine at_region ?_
  refine at_q rfl rfl (by decide) (qt_move rfl rfl) ?_
  refine at_q rfl rfl (by decide) (qt_move rfl rfl) ?_
  refine at_op rfl ?_
  refine op_callP (k := 4) (X := { p : Pn // bdI m p }) (v := fun x => pV x.1) (r' := fun _ => srcR g A n c 17) ok_spec_l03Draw rfl rfl rfl (by decide) rfl (fun w1 hs => draw_any (zs := zs) m hm0.1 hm0.2 (hB.over hs.fin) hne (hs.all 4 _ rfl).1 hn (by decide)) ?_
  rintro ⟨p2, hp2⟩
  refine at_rsE (by simp only [List.nil_append, List.cons_append, List.set_cons_zero, List.set_cons_succ, Value.cells, List.toList_toArray]; rfl) ?_
  try dsimp only
  refine at_op rfl ?_
  refine op_alloc rfl tyz_impl_Pt rfl (by decide) (fun b7 => ?_)
  refine at_rsE (by simp only [List.nil_append, List.cons_append, List.set_cons_zero, List.set_cons_succ, Value.cells, List.toList_toArray]; rfl) ?_
  refine at_op rfl ?_
  refine op_storeAll' (k := 7) rfl rfl rfl rfl (rfl) (by rfl) tyz_impl_Pt.szx rfl rfl rfl ?_
  refine at_rsE (by simp only [List.nil_append, List.cons_append, List.set_cons_zero, List.set_cons_succ, Value.cells, List.toList_toArray]; rfl) ?_
  refine at_end ?_
  refine at_seq ?_
  refine at_region ?_
  refine at_q rfl rfl (by decide) (qt_move rfl rfl) ?_
  refine at_q rfl rfl (by decide) (qt_move rfl rfl) ?_
  refine at_op rfl ?_
  refine op_callP (k := 4) (X := { p : Pn // bdI m p }) (v := fun x => pV x.1) (r' := fun _ => srcR g A n c 25) ok_spec_l03Draw rfl rfl rfl (by decide) rfl (fun w1 hs => draw_any (zs := zs) m hm0.1 hm0.2 (hB.over hs.fin) hne (hs.all 4 _ rfl).1 hn (by decide)) ?_
  rintro ⟨p3, hp3⟩
  refine at_rsE (by simp only [List.nil_append, List.cons_append, List.set_cons_zero, List.set_cons_succ, Value.cells, List.toList_toArray]; rfl) ?_
  try dsimp only
  refine at_op rfl ?_
  refine op_alloc rfl tyz_impl_Pt rfl (by decide) (fun b8 => ?_)
  refine at_rsE (by simp only [List.nil_append, List.cons_append, List.set_cons_zero, List.set_cons_succ, Value.cells, List.toList_toArray]; rfl) ?_
  refine at_op rfl ?_
  refine op_storeAll' (k := 8) rfl rfl rfl rfl (rfl) (by rfl) tyz_impl_Pt.szx rfl rfl rfl ?_
  refine at_rsE (by simp only [List.nil_append, List.cons_append, List.set_cons_zero, List.set_cons_succ, Value.cells, List.toList_toArray]; rfl) ?_
  refine at_end ?_
  refine at_seq ?_
  refine dg_start mixed rfl ?_
  refine dg_phaseW 10 [0, 1, 2, 3, 4] ?_
  refine dg_q (i := 0) rfl (by kernel_rfl) (by kernel_rfl) (by kernel_rfl) [] (by kernel_rfl) (fun _ _ _ h => h) rfl rfl (by decide) (fun _ h => (h.wk [0, 1, 2, 3, 4]).upto ⟨rfl, rfl, rfl, rfl, rfl, rfl, rfl, rfl, rfl, trivial⟩) (qt_loadS rfl rfl tys_impl_Pt rfl (rdAll (k := 6) rfl)) ?_
  refine dg_q (i := 1) rfl (by kernel_rfl) (by kernel_rfl) (by kernel_rfl) [] (by kernel_rfl) (fun _ _ _ h => h) rfl rfl (by decide) (fun _ h => (h.wk [0, 1, 2, 3, 4]).upto ⟨rfl, rfl, rfl, rfl, rfl, rfl, rfl, rfl, rfl, trivial⟩) (qt_loadS rfl rfl tys_impl_Pt rfl (rdAll (k := 7) rfl)) ?_
  refine dg_q (i := 2) rfl (by kernel_rfl) (by kernel_rfl) (by kernel_rfl) [] (by kernel_rfl) (fun _ _ _ h => h) rfl rfl (by decide) (fun _ h => (h.wk [0, 1, 2, 3, 4]).upto ⟨rfl, rfl, rfl, rfl, rfl, rfl, rfl, rfl, rfl, trivial⟩) (qt_loadS rfl rfl tys_impl_Pt rfl (rdAll (k := 8) rfl)) ?_
  refine dg_q (i := 3) rfl (by kernel_rfl) (by kernel_rfl) (by kernel_rfl) [] (by kernel_rfl) (fun _ _ _ h => h) rfl rfl (by decide) (fun _ h => (h.wk [0, 1, 2, 3, 4]).upto ⟨rfl, rfl, rfl, rfl, rfl, rfl, rfl, rfl, rfl, trivial⟩) (qt_move rfl rfl) ?_
  refine dg_q (i := 4) rfl (by kernel_rfl) (by kernel_rfl) (by kernel_rfl) [] (by kernel_rfl) (fun _ _ _ h => h) rfl rfl (by decide) (fun _ h => (h.wk [0, 1, 2, 3, 4]).upto ⟨rfl, rfl, rfl, rfl, rfl, rfl, rfl, rfl, rfl, trivial⟩) (qt_move rfl rfl) ?_
  refine dg_one (i := 5) rfl (by decide) (by kernel_rfl) rfl ?_
  refine op_callP (k := 4) (X := { p : Pn // bdI m p }) (v := fun x => pV x.1) (r' := fun _ => srcR g A n c 33) ok_spec_l03Draw rfl rfl rfl (by decide) rfl (fun w1 hs => draw_any (zs := zs) m hm0.1 hm0.2 (hB.over hs.fin) hne (hs.all 4 _ rfl).1 hn (by decide)) ?_
  rintro ⟨p4, hp4⟩
  refine at_rsE (by simp only [List.nil_append, List.cons_append, List.set_cons_zero, List.set_cons_succ, Value.cells, List.toList_toArray]; rfl) ?_
  try dsimp only
  refine dr_keep (fun _ h => (h.wk [0, 1, 2, 3, 4]).upto ⟨rfl, rfl, rfl, rfl, rfl, rfl, rfl, rfl, rfl, trivial⟩) ?_
  refine dg_one (i := 6) rfl (by decide) (by kernel_rfl) rfl ?_
  refine op_storeAll' (k := 0) rfl rfl rfl rfl (rfl) (by rfl) tyz_impl_Pt.szx rfl rfl rfl ?_
  refine at_rsE (by simp only [List.nil_append, List.cons_append, List.set_cons_zero, List.set_cons_succ, Value.cells, List.toList_toArray]; rfl) ?_
  refine dr_keep (fun _ h => (h.wk [0, 1, 2, 3, 4]).upto ⟨rfl, rfl, rfl, rfl, rfl, rfl, rfl, rfl, rfl, trivial⟩) ?_
  refine dg_one (i := 7) rfl (by decide) (by kernel_rfl) rfl ?_
  refine op_storeAll' (k := 1) rfl rfl rfl rfl (rfl) (by rfl) tyz_impl_Pt.szx rfl rfl rfl ?_
  refine at_rsE (by simp only [List.nil_append, List.cons_append, List.set_cons_zero, List.set_cons_succ, Value.cells, List.toList_toArray]; rfl) ?_
  refine dr_keep (fun _ h => (h.wk [0, 1, 2, 3, 4]).upto ⟨rfl, rfl, rfl, rfl, rfl, rfl, rfl, rfl, rfl, trivial⟩) ?_
  refine dg_one (i := 8) rfl (by decide) (by kernel_rfl) rfl ?_
  refine op_storeAll' (k := 2) rfl rfl rfl rfl (rfl) (by rfl) tyz_impl_Pt.szx rfl rfl rfl ?_
  refine at_rsE (by simp only [List.nil_append, List.cons_append, List.set_cons_zero, List.set_cons_succ, Value.cells, List.toList_toArray]; rfl) ?_
  refine dr_keep (fun _ h => (h.wk [0, 1, 2, 3, 4]).upto ⟨rfl, rfl, rfl, rfl, rfl, rfl, rfl, rfl, rfl, trivial⟩) ?_
  refine dg_one (i := 9) rfl (by decide) (by kernel_rfl) rfl ?_
  refine op_storeAll' (k := 3) rfl rfl rfl rfl (rfl) (by rfl) tyz_impl_Pt.szx rfl rfl rfl ?_
  refine at_rsE (by simp only [List.nil_append, List.cons_append, List.set_cons_zero, List.set_cons_succ, Value.cells, List.toList_toArray]; rfl) ?_
  refine dr_keep (fun _ h => (h.wk [0, 1, 2, 3, 4]).upto ⟨rfl, rfl, rfl, rfl, rfl, rfl, rfl, rfl, rfl, trivial⟩) ?_
  refine dg_done (by kernel_rfl) ?_
  refine norm_then ?_
  refine at_retc ?_
  refine at_ret4 rfl (rvCelS (k := 0) rfl tys_impl_Pt rfl rfl) (rvCelS (k := 1) rfl tys_impl_Pt rfl rfl) (rvCelS (k := 2) rfl tys_impl_Pt rfl rfl) (rvCelS (k := 3) rfl tys_impl_Pt rfl rfl) ?_
  intro w' hs
  exact ⟨⟨(p1, p2, p3, p4), bdI_2 hp1 hm0.2, bdI_2 hp2 hm0.2, bdI_2 hp3 hm0.2, bdI_2 hp4 hm0.2⟩, rfl, hs.fin, manyNil _, fun q hq => by obtain ⟨r, hr, _⟩ := hq; simp at hr, rfl, trivial⟩
  -- NOT USED: two 6
end
theorem e8Same_same (A B : Option Addr) (n c d : Nat) (xs : List Pn) (w : World) (h : Pts w A n xs) (h' : Pts w B n xs) (hn : n ≤ 1048576) :
    Calls Try.prog 42 #[.slice A n c, .slice B n d] w fun e w' => e = .returned (.bool true) ∧ Over w w' := by
  refine walk_from (m := 26) (Try.func42) rfl rfl (Nat.le_of_ble_eq_true rfl) ?_
  refine at_seq ?_
  refine at_region ?_
  refine at_q rfl rfl (by decide) (qt_assign rfl rfl) ?_
  refine at_end ?_
  refine at_seq ?_
  refine at_seq ?_
  refine at_region ?_
  refine at_q rfl rfl (by decide) (qt_move rfl rfl) ?_
  refine at_q rfl rfl (by decide) (qt_len rfl rfl tyl_sl_impl_Pt) ?_
  refine at_q rfl rfl (by decide) (qt_move rfl rfl) ?_
  refine at_q rfl rfl (by decide) (qt_len rfl rfl tyl_sl_impl_Pt) ?_
  refine at_q rfl rfl (by decide) (qt_neq rfl rfl rfl) ?_
  refine at_end ?_
  refine at_no rfl (neSelf _) ?_
  refine at_skip ?_
  refine norm_then ?_
  refine at_seq ?_
  refine at_seq ?_
  refine at_region ?_
  refine at_q rfl rfl (by decide) (qt_assign rfl rfl) ?_
  refine at_end ?_
  refine at_block ?_
  refine at_loopk (X := Nat) (fun k => k ≤ n) (fun k => n - k) (fun k => [(5, .int .i64 (k : Int))]) (C := [(0, _), (1, _), (4, _)]) ⟨rfl, rfl, rfl, trivial⟩ 0 (Nat.zero_le _) ⟨rfl, rfl, rfl, rfl, trivial⟩ ?_
  intro k hk L hL1
  refine at_envE (by simp only [List.nil_append, List.cons_append]; rfl) ?_
  refine at_seq ?_
  refine at_seq ?_
  refine at_region ?_
  refine at_q rfl rfl (by decide) (qt_move rfl rfl) ?_
  refine at_q rfl rfl (by decide) (qt_move rfl rfl) ?_
  refine at_q rfl rfl (by decide) (qt_len rfl rfl tyl_sl_impl_Pt) ?_
  refine at_q rfl rfl (by decide) (qt_lss rfl rfl rfl) ?_
  refine at_end ?_
  refine at_cond rfl (fun c1 => ?_) (fun c1 => ?_)
  · try simp only [decide_eq_true_eq, decide_eq_false_iff_not, beq_iff_eq, beq_eq_false_iff_ne, Bool.not_eq_true', Bool.not_eq_false', Bool.not_true, Bool.not_false, Int.not_lt, Int.not_le, ne_eq, Nat.not_lt, Nat.not_le] at c1
    have hlt : k < n := (by omega)
    obtain ⟨eb, eo, rfl, _⟩ := h.2 (by omega)
    obtain ⟨fb, fo, rfl, _⟩ := h'.2 (by omega)
    refine at_skip ?_
    refine norm_then ?_
    refine at_seq ?_
    refine at_block ?_
    refine at_seq ?_
    refine dg_start mixed rfl ?_
    refine dg_phase 9 ?_
    refine dg_q (i := 0) rfl (by kernel_rfl) (by kernel_rfl) (by kernel_rfl) [] (by kernel_rfl) (fun _ _ _ h => h) rfl rfl (by decide) (fun _ h => h.upto trivial) (qt_move rfl rfl) ?_
    refine dg_q (i := 1) rfl (by kernel_rfl) (by kernel_rfl) (by kernel_rfl) [] (by kernel_rfl) (fun _ _ _ h => h) rfl rfl (by decide) (fun _ h => h.upto trivial) (qt_move rfl rfl) ?_
    refine dg_q (i := 2) rfl (by kernel_rfl) (by kernel_rfl) (by kernel_rfl) [] (by kernel_rfl) (fun _ _ _ h => h) rfl rfl (by decide) (fun _ h => h.upto trivial) (qt_index rfl rfl rfl tyl_sl_impl_Pt (by omega)) ?_
    refine dg_q (i := 3) rfl (by kernel_rfl) (by kernel_rfl) (by kernel_rfl) [] (by kernel_rfl) (fun _ _ _ h => h) rfl rfl (by decide) (fun _ h => h.upto trivial) (qt_loadS rfl rfl tys_impl_Pt rfl (rdPts h hlt)) ?_
    refine dg_q (i := 4) rfl (by kernel_rfl) (by kernel_rfl) (by kernel_rfl) [] (by kernel_rfl) (fun _ _ _ h => h) rfl rfl (by decide) (fun _ h => h.upto trivial) (qt_move rfl rfl) ?_
    refine dg_q (i := 5) rfl (by kernel_rfl) (by kernel_rfl) (by kernel_rfl) [] (by kernel_rfl) (fun _ _ _ h => h) rfl rfl (by decide) (fun _ h => h.upto trivial) (qt_move rfl rfl) ?_
    refine dg_q (i := 6) rfl (by kernel_rfl) (by kernel_rfl) (by kernel_rfl) [] (by kernel_rfl) (fun _ _ _ h => h) rfl rfl (by decide) (fun _ h => h.upto trivial) (qt_index rfl rfl rfl tyl_sl_impl_Pt (by omega)) ?_
    refine dg_q (i := 7) rfl (by kernel_rfl) (by kernel_rfl) (by kernel_rfl) [] (by kernel_rfl) (fun _ _ _ h => h) rfl rfl (by decide) (fun _ h => h.upto trivial) (qt_loadS rfl rfl tys_impl_Pt rfl (rdPts h' hlt)) ?_
    refine dg_q (i := 8) rfl (by kernel_rfl) (by kernel_rfl) (by kernel_rfl) [] (by kernel_rfl) (fun _ _ _ h => h) rfl rfl (by decide) (fun _ h => h.upto trivial) (qt_neqS_impl_Pt rfl rfl rfl) ?_
    refine dg_done (by kernel_rfl) ?_
    refine norm_then ?_
    refine at_no rfl (eqSelf2 _ _) ?_
    refine at_skip ?_
    refine norm_block ?_
    refine norm_then ?_
    refine at_region ?_
    refine at_q rfl rfl (by decide) (qt_move rfl rfl) ?_
    refine at_q rfl rfl (by decide) (qt_add rfl rfl rfl (by omega) (by omega)) ?_
    refine at_q rfl rfl (by decide) (qt_assign rfl rfl) ?_
    refine at_end ?_
    exact at_againk hL1 (k + 1) ((by omega)) (by omega) ⟨vi (by omega), rfl, rfl, rfl, trivial⟩ (fun _ h => h.upto trivial)
  · try simp only [decide_eq_true_eq, decide_eq_false_iff_not, beq_iff_eq, beq_eq_false_iff_ne, Bool.not_eq_true', Bool.not_eq_false', Bool.not_true, Bool.not_false, Int.not_lt, Int.not_le, ne_eq, Nat.not_lt, Nat.not_le] at c1
    refine at_exit ?_
    refine pass_then (fun h => by cases h) ?_
    refine pass_then (fun h => by cases h) ?_
    refine pass_hit ?_
    refine norm_then ?_
    refine at_seq ?_
    refine at_region ?_
    refine at_q rfl rfl (by decide) (qt_assign rfl rfl) ?_
    refine at_end ?_
    refine at_retc ?_
    refine at_ret1 rfl (.tmp rfl) ?_
    intro w' hs
    exact ⟨rfl, hs.fin⟩
theorem e8Long_any (A B : Option Addr) (n c m d : Nat) (w : World) : Calls Try.prog 39 #[.slice A n c, .slice B m d] w fun e w' => e = .returned (.bool (decide (1048576 < n) || decide (1048576 < m))) ∧ Over w w' := by
  refine walk_from (m := 13) (Try.func39) rfl rfl (Nat.le_of_ble_eq_true rfl) ?_
  refine at_seq ?_
  refine at_region ?_
  refine at_q rfl rfl (by decide) (qt_assign rfl rfl) ?_
  refine at_end ?_
  refine at_seq ?_
  refine at_region ?_
  refine at_q rfl rfl (by decide) (qt_move rfl rfl) ?_
  refine at_q rfl rfl (by decide) (qt_len rfl rfl tyl_sl_uint8) ?_
  refine at_q rfl rfl (by decide) (qt_gtr rfl rfl rfl) ?_
  refine at_q rfl rfl (by decide) (qt_move rfl rfl) ?_
  refine at_bsplit 8 rfl (fun g1 => ?_) (fun g1 => ?_)
  · try simp only [decide_eq_true_eq, decide_eq_false_iff_not, beq_iff_eq, beq_eq_false_iff_ne, Bool.not_eq_true', Bool.not_eq_false', Bool.not_true, Bool.not_false, Int.not_lt, Int.not_le, ne_eq, Nat.not_lt, Nat.not_le] at g1
    refine at_off rfl rfl rfl rfl (by decide) rfl (by decide) ?_
    refine at_off rfl rfl rfl rfl (by decide) rfl (by decide) ?_
    refine at_off rfl rfl rfl rfl (by decide) rfl (by decide) ?_
    refine at_q rfl rfl (by decide) (qt_pickT rfl rfl rfl) ?_
    refine at_q rfl rfl (by decide) (qt_assign rfl rfl) ?_
    refine at_end ?_
    refine at_retc ?_
    refine at_ret1 rfl (.tmp rfl) ?_
    intro w' hs
    exact ⟨retB (by rw [decide_eq_true (show 1048576 < n by omega)]; rfl), hs.fin⟩
  · try simp only [decide_eq_true_eq, decide_eq_false_iff_not, beq_iff_eq, beq_eq_false_iff_ne, Bool.not_eq_true', Bool.not_eq_false', Bool.not_true, Bool.not_false, Int.not_lt, Int.not_le, ne_eq, Nat.not_lt, Nat.not_le] at g1
    refine at_on rfl rfl rfl rfl ?_
    refine op_q rfl (by decide) (qt_move rfl rfl) ?_
    refine at_on rfl rfl rfl rfl ?_
    refine op_q rfl (by decide) (qt_len rfl rfl tyl_sl_uint8) ?_
    refine at_on rfl rfl rfl rfl ?_
    refine op_q rfl (by decide) (qt_gtr rfl rfl rfl) ?_
    refine at_q rfl rfl (by decide) (qt_pickF rfl rfl rfl) ?_
    refine at_q rfl rfl (by decide) (qt_assign rfl rfl) ?_
    refine at_end ?_
    refine at_retc ?_
    refine at_ret1 rfl (.tmp rfl) ?_
    intro w' hs
    exact ⟨retB (by rw [decide_eq_false (show ¬ 1048576 < n by omega), Bool.false_or]; exact decide_eq_decide.2 (by omega)), hs.fin⟩
theorem specIsPen_any (A : Option Addr) (n c : Nat) (xs : List Pn) (w : World) (h : Pts w A n xs) (hn : (n : Int) ≤ 1048576) :
    Calls Try.prog 43 #[.slice A n c] w fun e w' => e = .returned (.bool (penB xs)) ∧ Over w w' := by
  refine walk_from (m := 5) (Try.func43) rfl rfl (Nat.le_of_ble_eq_true rfl) ?_
  refine at_seq ?_
  refine at_region ?_
  refine at_q rfl rfl (by decide) (qt_assign rfl rfl) ?_
  refine at_end ?_
  refine at_seq ?_
  refine at_region ?_
  refine at_q rfl rfl (by decide) (qt_move rfl rfl) ?_
  refine at_q rfl rfl (by decide) (qt_call ok_spec_l11Pen rfl rfl (fun w1 hs => l11Pen_any A n c xs w1 (h.over hs.fin) hn)) ?_
  refine at_q rfl rfl (by decide) (qt_assign rfl rfl) ?_
  refine at_end ?_
  refine at_retc ?_
  refine at_ret1 rfl (.tmp rfl) ?_
  intro w' hs
  exact ⟨rfl, hs.fin⟩
end Go.Proofs.Ytcplmmoeglembaa
