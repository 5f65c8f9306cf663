/- Net edges: the program's walk. -/
import Derived.Test.YtcigocejgmafjaaLegSort
import Derived.Test.YtcigocejgmafjaaNetQ
namespace Go.Proofs.Ytcigocejgmafjaa
open Go Go.RowKit
set_option linter.unusedVariables false
set_option linter.unusedSimpArgs false
set_option maxRecDepth 100000
set_option maxHeartbeats 4000000
set_option linter.unusedVariables false
set_option linter.unusedSimpArgs false

theorem cmpYX_gt (p q : Pn) : 0 < cmpYX p q ↔ ltY q p := by
 have h1 := sgn3 (p.1 - q.1)
 have h2 := sgn3 (p.2 - q.2)
 unfold cmpYX ltY
 split <;> omega
theorem compareYX_o (p q : Pn) (hp : bdW p) (hq : bdW q) (W : World) : Calls Try.prog 39 #[pV p, pV q] W fun e w' => e = .returned (.int .i64 (cmpYX p q)) ∧ Over W w' :=
 (compareYX_w p q hp hq W).mono fun e w' ⟨h, q', os', hw⟩ => ⟨h, over_of_grow hw⟩
def nrmK (ls : List Leg) (k : Nat) : List Leg := (ls.take k).map nrm
theorem nrmK_succ {ls : List Leg} {k : Nat} (h : k < ls.length) : nrmK ls (k + 1) = nrmK ls k ++ [nrm (lg ls k)] := by
 rw [nrmK, List.take_succ_eq_append_getElem h, at_l h]
 simp [nrmK]
theorem nrmK_len {ls : List Leg} {k : Nat} (h : k ≤ ls.length) : (nrmK ls k).length = k := by
 rw [nrmK, List.length_map, List.length_take]
 omega
theorem nrm_yes {l : Leg} (h : 0 < cmpYX (lA l) (lB l)) : nrm l = ⟨l.bx, l.b_y, l.ax, l.ay⟩ := by rw [nrm, if_pos ((cmpYX_gt _ _).1 h)]; rfl
theorem nrm_no {l : Leg} (h : cmpYX (lA l) (lB l) ≤ 0) : nrm l = l := by rw [nrm, if_neg fun k => by have := (cmpYX_gt _ _).2 k; omega]
/-- The edges between which there are pairs, in order. -/
def keysG (es : List Leg) : List Leg := (addAll false es []).map (·.e)
theorem keysG_of {es m : List Leg} (hp : m.Perm (es.map nrm)) (hr : RisG m) : compG m = keysG es :=
 (net_keys rfl hr fun q => by rw [hp.mem_iff, List.mem_map]; constructor <;> (rintro ⟨e, h1, h2⟩; exact ⟨e, h1, h2.symm⟩)).symm
theorem sort_putG {B g c n : Nat} {xs : List Leg} {w : World} (h : (rowR B 61 4 n (xs.flatMap legCells) (some ⟨g, 0, none⟩, c)).P w) (hl : xs.length = n) (hx : ∀ p ∈ xs, legOk p) (hn : n ≤ 1048576) (h0 : 0 < n) :
  Calls Try.prog 40 #[.slice (some ⟨g, 0, none⟩) n c, .func (.func 41) #[] #[]] w fun e w' => ∃ x : { ys : List Leg // ys.Perm xs ∧ RisG ys }, e = .returned (.tuple #[]) ∧ Wrs (rowR B 61 4 n (xs.flatMap legCells) (some ⟨g, 0, none⟩, c)).F w w' ∧ (rowR 0 61 4 n (x.1.flatMap legCells) (some ⟨g, 0, none⟩, c)).P w' ∧ (∀ b, (rowR 0 61 4 n (x.1.flatMap legCells) (some ⟨g, 0, none⟩, c)).F b → (rowR B 61 4 n (xs.flatMap legCells) (some ⟨g, 0, none⟩, c)).F b ∨ w.heap.size ≤ b) ∧ (rowR 0 61 4 n (x.1.flatMap legCells) (some ⟨g, 0, none⟩, c)).B = 0 := by
 refine (sort_rowG h hl hx hn h0).mono ?_
 rintro e w' ⟨rfl, ys, hp, hr, hw, ho⟩
 exact ⟨⟨ys, hp, hr⟩, rfl, hw.mono fun b hb => by subst hb; rfl, ho, fun b hb => .inl hb, rfl⟩
theorem nrmK_ok {ls : List Leg} (hok : ∀ l ∈ ls, legOk l) (k : Nat) : ∀ l ∈ nrmK ls k, legOk l := fun l hl => by
 obtain ⟨e, he, rfl⟩ := List.mem_map.1 hl
 exact nrm_ok (hok e (List.mem_of_mem_take he))
theorem pairsOf_pos (A : Option Addr) (n c : Nat) (ls : List Leg) (w : World) (h : Legs w A n ls) (hok : ∀ l ∈ ls, legOk l) (hn : n ≤ 1048576) (h0 : 0 < n) :
  Calls Try.prog 23 #[.slice A n c] w fun e w' => ∃ v, e = .returned v ∧ w'.ownsRow w.heap.size 61 4 v (keysG ls).length ((keysG ls).flatMap legCells) ∧ Over w w' := by
 have hl := h.1
 refine walk_from (m := 33) (Try.func23) rfl rfl (Nat.le_of_ble_eq_true rfl) ?_
 refine at_seq ?_
 refine at_region ?_
 refine at_q rfl rfl (by decide) (qt_assign rfl rfl) ?_
 refine at_end ?_
 refine at_seq ?_
 refine at_region ?_
 refine at_q rfl rfl (by decide) (qt_assign rfl rfl) ?_
 refine at_row0 (T := 61) (s := 4) ?_
 refine at_rsE (by simp only [ya,yb,yc,yd,Value.cells,ye]; rfl) ?_
 refine at_end ?_
 refine at_seq ?_
 refine at_seq ?_
 refine at_region ?_
 refine at_q rfl rfl (by decide) (qt_move rfl rfl) ?_
 refine at_q rfl rfl (by decide) (qt_len rfl rfl tyl_sl_impl_leg) ?_
 refine at_q rfl rfl (by decide) (qt_move rfl rfl) ?_
 refine at_end ?_
 refine at_block ?_
 refine at_loopc (X := Nat × Option Addr × Nat) (fun x => x.1 ≤ n) (fun x => n - x.1) (fun x => [(3, .slice x.2.1 x.1 x.2.2), (8, .int .i64 (x.1 : Int))]) (C := [(2, _), (6, _), (7, _)]) ⟨rfl, rfl, rfl, trivial⟩ (fun x => [rowR (Bs.N ⟨w, []⟩) 61 4 x.1 ((nrmK ls x.1).flatMap legCells) x.2]) (0, none, 0) (Nat.zero_le _) ⟨rfl, rfl, rfl, rfl, rfl, trivial⟩ (fun _ h => h) ?_
 intro ⟨k, rA, rc⟩ hk L hL1
 refine at_envE (by simp only [ya,yb]; rfl) ?_
 refine at_rsE (by first | (dsimp only; done) | (dsimp only; rfl) | rfl) ?_
 have hk : k ≤ n := hk
 refine at_seq ?_
 refine at_region ?_
 refine at_q rfl rfl (by decide) (qt_lss rfl rfl rfl) ?_
 refine at_end ?_
 refine at_seq ?_
 refine at_cond rfl (fun c1 => ?_) (fun c1 => ?_)
 ·try simp only [za,zb,zc,zd,ze,zf,Bool.not_true,Bool.not_false,zg,zh,ne_eq,zi,zj] at c1
  have hlt : k < n := (by omega)
  obtain ⟨eb, eo, rfl, _⟩ := h.2 (by omega)
  have hb1 := bdW_leg (lg_ok hok (show k < ls.length by omega))
  refine at_skip ?_
  refine norm_then ?_
  refine at_seq ?_
  refine at_block ?_
  refine at_seq ?_
  refine at_region ?_
  refine at_q rfl rfl (by decide) (qt_index rfl rfl rfl tyl_sl_impl_leg (by omega)) ?_
  refine at_q rfl rfl (by decide) (qt_loadS rfl rfl tys_impl_leg rfl (rdLeg (fun w' hs => h.over hs.fin) hlt)) ?_
  refine at_op rfl ?_
  refine op_alloc rfl tyz_impl_leg rfl (by decide) (fun b1 => ?_)
  refine at_rsE (by simp only [ya,yb,yc,yd,Value.cells,ye]; rfl) ?_
  refine at_op rfl ?_
  refine op_storeAll' (k := 1) rfl rfl rfl rfl (rfl) (by rfl) tyz_impl_leg.szx rfl rfl rfl ?_
  refine at_rsE (by simp only [ya,yb,yc,yd,Value.cells,ye]; rfl) ?_
  refine at_end ?_
  refine at_seq ?_
  refine at_seq ?_
  refine at_region ?_
  refine at_q rfl rfl (by decide) (qt_fieldAddr rfl rfl tyf_impl_leg_0) ?_
  refine at_q rfl rfl (by decide) (qt_loadS rfl rfl tys_impl_Pt rfl (rd2 (k := 1) rfl rfl rfl)) ?_
  refine at_q rfl rfl (by decide) (qt_fieldAddr rfl rfl tyf_impl_leg_1) ?_
  refine at_q rfl rfl (by decide) (qt_loadS rfl rfl tys_impl_Pt rfl (rd2 (k := 1) rfl rfl rfl)) ?_
  refine at_q rfl rfl (by decide) (qt_call ok_impl_compareYX rfl rfl (fun w1 hs => compareYX_o (lA (lg ls k)) (lB (lg ls k)) hb1.1 hb1.2 w1)) ?_
  refine at_q rfl rfl (by decide) (qt_gtr rfl rfl rfl) ?_
  refine at_end ?_
  refine at_cond rfl (fun c2 => ?_) (fun c2 => ?_)
  ·try simp only [za,zb,zc,zd,ze,zf,Bool.not_true,Bool.not_false,zg,zh,ne_eq,zi,zj] at c2
   refine at_region ?_
   refine at_q rfl rfl (by decide) (qt_fieldAddr rfl rfl tyf_impl_leg_1) ?_
   refine at_q rfl rfl (by decide) (qt_loadS rfl rfl tys_impl_Pt rfl (rd2 (k := 1) rfl rfl rfl)) ?_
   refine at_q rfl rfl (by decide) (qt_fieldAddr rfl rfl tyf_impl_leg_0) ?_
   refine at_q rfl rfl (by decide) (qt_loadS rfl rfl tys_impl_Pt rfl (rd2 (k := 1) rfl rfl rfl)) ?_
   refine at_q rfl rfl (by decide) (qt_fieldAddr rfl rfl tyf_impl_leg_0) ?_
   refine at_op rfl ?_
   refine op_store_4_0_2 (k := 1) rfl rfl rfl rfl (rfl) (by rfl) tyz_impl_Pt.szx rfl ?_
   refine at_rsE (by simp only [ya,yb,yc,yd,Value.cells,ye]; rfl) ?_
   refine at_q rfl rfl (by decide) (qt_fieldAddr rfl rfl tyf_impl_leg_1) ?_
   refine at_op rfl ?_
   refine op_store_4_2_2 (k := 1) rfl rfl rfl rfl (rfl) (by rfl) tyz_impl_Pt.szx rfl ?_
   refine at_rsE (by simp only [ya,yb,yc,yd,Value.cells,ye]; rfl) ?_
   refine at_end ?_
   refine at_region ?_
   refine at_q rfl rfl (by decide) (qt_move rfl rfl) ?_
   refine at_q rfl rfl (by decide) (qt_loadS rfl rfl tys_impl_leg rfl (rdAll (k := 1) rfl)) ?_
   refine at_op rfl ?_
   refine op_buildSlice rfl rfl (bsl_sl_impl_leg_1_0 rfl) rfl (by decide) (fun b2 => ?_)
   refine at_rsE (by simp only [ya,yb,yc,yd,Value.cells,ye]; rfl) ?_
   refine at_op rfl ?_
   refine op_appendR (k := 0) rfl tyl_sl_impl_leg tyz_impl_leg (by decide) rfl (by decide) rfl rfl rfl (fun w' hs => src_cel hs (k := 2) rfl rfl) (by simp [Value.oneCell']) (by unfold maxLen; omega) (by omega) (Nat.le_refl _) (fun r1 => ?_)
   refine at_rsE (by simp only [ya,yb,yc,yd,Value.cells,ye]; rfl) ?_
   refine at_q rfl rfl (by decide) (qt_assign rfl rfl) ?_
   refine at_nil ?_
   refine norm_block ?_
   refine norm_then ?_
   refine at_region ?_
   refine at_q rfl rfl (by decide) (qt_add rfl rfl rfl (by omega) (by omega)) ?_
   refine at_q rfl rfl (by decide) (qt_move rfl rfl) ?_
   refine at_end ?_
   exact at_againc hL1 ((k + 1, r1)) ((show k + 1 ≤ n by omega)) (by simp only; omega) ⟨rfl, vi (by omega), rfl, rfl, rfl, trivial⟩ (fun _ h => h.upto ⟨by rw [nrmK_succ (by omega), nrm_yes c2, List.flatMap_append]; rfl, trivial⟩)
  ·try simp only [za,zb,zc,zd,ze,zf,Bool.not_true,Bool.not_false,zg,zh,ne_eq,zi,zj] at c2
   refine at_skip ?_
   refine norm_then ?_
   refine at_region ?_
   refine at_q rfl rfl (by decide) (qt_move rfl rfl) ?_
   refine at_q rfl rfl (by decide) (qt_loadS rfl rfl tys_impl_leg rfl (rdAll (k := 1) rfl)) ?_
   refine at_op rfl ?_
   refine op_buildSlice rfl rfl (bsl_sl_impl_leg_1_0 rfl) rfl (by decide) (fun b3 => ?_)
   refine at_rsE (by simp only [ya,yb,yc,yd,Value.cells,ye]; rfl) ?_
   refine at_op rfl ?_
   refine op_appendR (k := 0) rfl tyl_sl_impl_leg tyz_impl_leg (by decide) rfl (by decide) rfl rfl rfl (fun w' hs => src_cel hs (k := 2) rfl rfl) (by simp [Value.oneCell']) (by unfold maxLen; omega) (by omega) (Nat.le_refl _) (fun r2 => ?_)
   refine at_rsE (by simp only [ya,yb,yc,yd,Value.cells,ye]; rfl) ?_
   refine at_q rfl rfl (by decide) (qt_assign rfl rfl) ?_
   refine at_nil ?_
   refine norm_block ?_
   refine norm_then ?_
   refine at_region ?_
   refine at_q rfl rfl (by decide) (qt_add rfl rfl rfl (by omega) (by omega)) ?_
   refine at_q rfl rfl (by decide) (qt_move rfl rfl) ?_
   refine at_end ?_
   exact at_againc hL1 ((k + 1, r2)) ((show k + 1 ≤ n by omega)) (by simp only; omega) ⟨rfl, vi (by omega), rfl, rfl, rfl, trivial⟩ (fun _ h => h.upto ⟨by rw [nrmK_succ (by omega), nrm_no c2, List.flatMap_append]; rfl, trivial⟩)
 ·try simp only [za,zb,zc,zd,ze,zf,Bool.not_true,Bool.not_false,zg,zh,ne_eq,zi,zj] at c1
  have hin : k = n := by omega
  subst hin
  have hnl := nrmK_len (show k ≤ ls.length by omega)
  refine at_exit ?_
  refine pass_then (fun h => by cases h) ?_
  refine pass_then (fun h => by cases h) ?_
  refine pass_hit ?_
  refine norm_then ?_
  refine at_seq ?_
  refine at_fact (fun w hs => rowSome (k := 0) rfl hs h0) ?_
  rintro ⟨eg, rfl⟩
  refine at_region ?_
  refine at_q rfl rfl (by decide) (qt_move rfl rfl) ?_
  refine at_op rfl ?_
  refine op_callP (k := 0) (X := { ys : List Leg // ys.Perm (nrmK ls k) ∧ RisG ys }) (v := fun _ => .tuple #[]) (r' := fun x => rowR 0 61 4 _ (x.1.flatMap legCells) (some ⟨eg, 0, none⟩, rc)) ok_slices_SortFunc_sl_impl_leg_impl_leg rfl rfl rfl (by decide) rfl (fun w1 hs => sort_putG (hs.all 0 _ rfl).1 hnl (nrmK_ok hok k) hn h0) ?_
  rintro ⟨ys, hperm, hris⟩
  refine at_rsE (by simp only [ya,yb,yc,yd,Value.cells,ye]; rfl) ?_
  refine at_end ?_
  refine at_seq ?_
  refine at_region ?_
  refine at_q rfl rfl (by decide) (qt_move rfl rfl) ?_
  refine at_op rfl ?_
  refine op_callw (k := 0) (r' := rowR 0 61 4 (compG ys).length ((compG ys).flatMap legCells) (some ⟨eg, 0, none⟩, rc)) ok_slices_Compact_sl_impl_leg_impl_leg rfl rfl rfl (by decide) rfl (fun w1 hs => Compact_rowG (hs.all 0 _ rfl).1 (hperm.length_eq.trans hnl) h0 (by omega)) (fun _ h => h) rfl ?_
  refine at_rsE (by simp only [ya,yb,yc,yd,Value.cells,ye]; rfl) ?_
  refine at_q rfl rfl (by decide) (qt_assign rfl rfl) ?_
  refine at_end ?_
  refine at_retc ?_
  refine at_ret1 rfl (.tmp rfl) ?_
  intro w' hs
  have hr := hs.all 0 _ rfl
  have he := keysG_of (show ys.Perm (ls.map nrm) by rw [nrmK, List.take_of_length_le (by omega)] at hperm; exact hperm) hris
  exact ⟨_, rfl, by rw [← he]; exact row_from hr.1 (fun b hb => (hr.2.1 b hb).elim id (fun h => by cases h)), hs.fin⟩
theorem pairsOf_nil (A : Option Addr) (c : Nat) (w : World) :
  Calls Try.prog 23 #[.slice A 0 c] w fun e w' => e = .returned (.slice none 0 0) ∧ Over w w' := by
 refine walk_from (m := 33) (Try.func23) rfl rfl (Nat.le_of_ble_eq_true rfl) ?_
 refine at_seq ?_
 refine at_region ?_
 refine at_q rfl rfl (by decide) (qt_assign rfl rfl) ?_
 refine at_end ?_
 refine at_seq ?_
 refine at_region ?_
 refine at_q rfl rfl (by decide) (qt_assign rfl rfl) ?_
 refine at_end ?_
 refine at_seq ?_
 refine at_seq ?_
 refine at_region ?_
 refine at_q rfl rfl (by decide) (qt_move rfl rfl) ?_
 refine at_q rfl rfl (by decide) (qt_len rfl rfl tyl_sl_impl_leg) ?_
 refine at_q rfl rfl (by decide) (qt_move rfl rfl) ?_
 refine at_end ?_
 refine at_block ?_
 refine at_loopk (X := Unit) (fun u => True) (fun u => 0) (fun u => [(3, .slice none 0 0), (8, .int .i64 0)]) (C := [(2, _), (6, _), (7, _)]) ⟨rfl, rfl, rfl, trivial⟩ () (trivial) ⟨rfl, rfl, rfl, rfl, rfl, trivial⟩ ?_
 intro u hu L hL1
 refine at_envE (by simp only [ya,yb]; rfl) ?_
 refine at_seq ?_
 refine at_region ?_
 refine at_q rfl rfl (by decide) (qt_lss rfl rfl rfl) ?_
 refine at_end ?_
 refine at_seq ?_
 refine at_cond rfl (fun c1 => ?_) (fun c1 => ?_)
 ·try simp only [za,zb,zc,zd,ze,zf,Bool.not_true,Bool.not_false,zg,zh,ne_eq,zi,zj] at c1
  omega
 ·try simp only [za,zb,zc,zd,ze,zf,Bool.not_true,Bool.not_false,zg,zh,ne_eq,zi,zj] at c1
  refine at_exit ?_
  refine pass_then (fun h => by cases h) ?_
  refine pass_then (fun h => by cases h) ?_
  refine pass_hit ?_
  refine norm_then ?_
  refine at_seq ?_
  refine at_region ?_
  refine at_q rfl rfl (by decide) (qt_move rfl rfl) ?_
  refine at_q rfl rfl (by decide) (qt_call ok_slices_SortFunc_sl_impl_leg_impl_leg rfl rfl (fun w h => sort_nilG w)) ?_
  refine at_end ?_
  refine at_seq ?_
  refine at_region ?_
  refine at_q rfl rfl (by decide) (qt_move rfl rfl) ?_
  refine at_q rfl rfl (by decide) (qt_call ok_slices_Compact_sl_impl_leg_impl_leg rfl rfl (fun w h => Compact_nilG w)) ?_
  refine at_q rfl rfl (by decide) (qt_assign rfl rfl) ?_
  refine at_end ?_
  refine at_retc ?_
  refine at_ret1 rfl (.tmp rfl) ?_
  intro w' hs
  exact ⟨rfl, hs.fin⟩
theorem pairsOf_any (A : Option Addr) (n c : Nat) (ls : List Leg) (w : World) (h : Legs w A n ls) (hok : ∀ l ∈ ls, legOk l) (hn : n ≤ 1048576) :
  Calls Try.prog 23 #[.slice A n c] w fun e w' => ∃ v, e = .returned v ∧ w'.ownsRow w.heap.size 61 4 v (keysG ls).length ((keysG ls).flatMap legCells) ∧ Over w w' := by
 by_cases h0 : 0 < n
 ·exact pairsOf_pos A n c ls w h hok hn h0
 ·obtain rfl : n = 0 := by omega
  have : ls = [] := List.eq_nil_of_length_eq_zero h.1
  subst this
  refine (pairsOf_nil A c w).mono ?_
  rintro e w' ⟨rfl, hb⟩
  exact ⟨_, rfl, ⟨rfl, .inl ⟨rfl, rfl⟩⟩, hb⟩

/-! ### One net edge -/
abbrev neV (x : Ne) : Value := .agg #[.int .i64 x.e.ax, .int .i64 x.e.ay, .int .i64 x.e.bx, .int .i64 x.e.b_y, .int .i64 x.net, .int .i64 x.left, .int .i64 x.right]
def othB (p e : Leg) : Bool := !decide (nrm e = p)
def othK (es : List Leg) (p : Leg) (k : Nat) : List Leg := (es.take k).filter (othB p)
def netK (es : List Leg) (p : Leg) (k : Nat) : Int := sm (fun e => if nrm e = p then sg e else 0) (es.take k)
theorem netK_bd {es : List Leg} {p : Leg} {k : Nat} (h : k ≤ es.length) : -(k : Int) ≤ netK es p k ∧ netK es p k ≤ k := by
 have := sm_bd (f := fun e => if nrm e = p then sg e else 0) (l := es.take k) fun e _ => by
  have := sg_bd e
  split <;> omega
 rw [List.length_take, Nat.min_eq_left h] at this
 exact this
theorem netK_succ {es : List Leg} {p : Leg} {k : Nat} (h : k < es.length) : netK es p (k + 1) = netK es p k + (if nrm (lg es k) = p then sg (lg es k) else 0) := by
 rw [netK, sm_take _ h, at_l h]
 rfl
theorem netK_all (es : List Leg) (p : Leg) : netK es p es.length = netP es p := by rw [netK, List.take_length]; rfl
theorem othK_succ {es : List Leg} {p : Leg} {k : Nat} (h : k < es.length) : othK es p (k + 1) = othK es p k ++ (if nrm (lg es k) = p then [] else [lg es k]) := by
 rw [othK, List.take_succ_eq_append_getElem h, List.filter_append, at_l h]
 congr 1
 by_cases e : nrm (lg es k) = p <;> simp [othB, e]
theorem othK_len {es : List Leg} {p : Leg} {k : Nat} (h : k ≤ es.length) : (othK es p k).length ≤ k := by
 have := List.length_filter_le (othB p) (es.take k)
 rw [List.length_take, Nat.min_eq_left h] at this
 exact this
theorem sm_filter {α : Type} (q : α → Bool) (f : α → Int) : ∀ l : List α, sm f (l.filter q) = sm (fun e => if q e = true then f e else 0) l
 | [] => rfl
 | a :: l => by
  rw [List.filter_cons]
  by_cases h : q a = true
  ·rw [if_pos h]
   simp only [sm, sm_filter q f l, if_pos h]
  ·rw [if_neg h]
   simp only [sm, sm_filter q f l, if_neg h]
   omega
theorem windTo_sm (h : Bool) (ls : List Leg) (x y : Int) : ∀ k, k ≤ ls.length → windTo h ls x y k = sm (fun e => wStep (dblL h e) x y) (ls.take k)
 | 0, _ => rfl
 | k + 1, hk => by rw [windTo, sm_take _ (by omega), at_l (by omega), windTo_sm h ls x y k (by omega)]
theorem wind_out (es : List Leg) (p : Leg) : wind true (othK es p es.length) (midX p) (midY p) = outP es p := by
 rw [wind, windTo_sm _ _ _ _ _ (Nat.le_refl _), List.take_length, othK, List.take_length, sm_filter]
 refine sm_congr fun e _ => ?_
 by_cases k : nrm e = p <;> simp [othB, k]
theorem wind_bd (h : Bool) (ls : List Leg) (x y : Int) : -(ls.length : Int) ≤ wind h ls x y ∧ wind h ls x y ≤ ls.length := windTo_bd h ls x y _
theorem rowLegsB {w : World} {B T n : Nat} {x : Option Addr × Nat} {ls : List Leg} (h : (rowR B T 4 n (ls.flatMap legCells) x).P w) (hn : ls.length = n) : Legs w x.1 n ls := by
 obtain ⟨A, c, e, h1, _⟩ := legs_of_row h hn
 injection e with e1 e2 e3
 rw [e1]
 exact h1
theorem eqLeg {e f : Leg} : (e.ax == f.ax && e.ay == f.ay && e.bx == f.bx && e.b_y == f.b_y) = decide (e = f) := by
 rw [legNe]
 exact decide_eq_decide.2 ⟨Eq.symm, Eq.symm⟩
theorem netEdge_any (A : Option Addr) (n c : Nat) (es : List Leg) (p : Leg) (w : World) (h : Legs w A n es) (hok : ∀ l ∈ es, legOk l) (hn : n ≤ 1048576) (hp : legOk p) (hne : lA p ≠ lB p) (hord : ¬ ltY (lB p) (lA p)) :
  Calls Try.prog 24 #[.slice A n c, legV p] w fun e w' => e = .returned (neV (neP es p)) ∧ Over w w' := by
 have hl := h.1
 have hb : ((-262144 ≤ p.ax ∧ p.ax ≤ 262144) ∧ -262144 ≤ p.ay ∧ p.ay ≤ 262144) ∧ (-262144 ≤ p.bx ∧ p.bx ≤ 262144) ∧ -262144 ≤ p.b_y ∧ p.b_y ≤ 262144 := ⟨⟨hp.1, hp.2.1⟩, hp.2.2.1, hp.2.2.2⟩
 refine walk_from (m := 84) (Try.func24) rfl rfl (Nat.le_of_ble_eq_true rfl) ?_
 refine at_seq ?_
 refine at_region ?_
 refine at_op rfl ?_
 refine op_box rfl rfl (rfl) rfl (by decide) (fun b1 => ?_)
 refine at_rsE (by simp only [ya,yb,yc,yd,Value.cells,ye]; rfl) ?_
 refine at_op rfl ?_
 refine op_alloc rfl tyz_impl_NetEdge rfl (by decide) (fun b2 => ?_)
 refine at_rsE (by simp only [ya,yb,yc,yd,Value.cells,ye]; rfl) ?_
 refine at_end ?_
 refine at_seq ?_
 refine at_region ?_
 refine at_q rfl rfl (by decide) (qt_fieldAddr rfl rfl tyf_impl_leg_0) ?_
 refine at_q rfl rfl (by decide) (qt_loadS rfl rfl tys_impl_Pt rfl (rd2 (k := 0) rfl rfl rfl)) ?_
 refine at_q rfl rfl (by decide) (qt_fieldAddr rfl rfl tyf_impl_leg_1) ?_
 refine at_q rfl rfl (by decide) (qt_loadS rfl rfl tys_impl_Pt rfl (rd2 (k := 0) rfl rfl rfl)) ?_
 refine at_q rfl rfl (by decide) (qt_build rfl rfl (bld_impl_NetEdge_0_1 rfl rfl)) ?_
 refine at_op rfl ?_
 refine op_alloc rfl tyz_impl_NetEdge rfl (by decide) (fun b3 => ?_)
 refine at_rsE (by simp only [ya,yb,yc,yd,Value.cells,ye]; rfl) ?_
 refine at_op rfl ?_
 refine op_storeAll' (k := 2) rfl rfl rfl rfl (rfl) (by rfl) tyz_impl_NetEdge.szx rfl rfl rfl ?_
 refine at_rsE (by simp only [ya,yb,yc,yd,Value.cells,ye]; rfl) ?_
 refine at_end ?_
 refine at_seq ?_
 refine at_region ?_
 refine at_q rfl rfl (by decide) (qt_assign rfl rfl) ?_
 refine at_row0 (T := 61) (s := 4) ?_
 refine at_rsE (by simp only [ya,yb,yc,yd,Value.cells,ye]; rfl) ?_
 refine at_end ?_
 refine at_seq ?_
 refine at_seq ?_
 refine at_region ?_
 refine at_q rfl rfl (by decide) (qt_move rfl rfl) ?_
 refine at_q rfl rfl (by decide) (qt_len rfl rfl tyl_sl_impl_leg) ?_
 refine at_q rfl rfl (by decide) (qt_move rfl rfl) ?_
 refine at_end ?_
 refine at_block ?_
 refine at_loopc (X := Nat × Option Addr × Nat) (fun x => x.1 ≤ n) (fun x => n - x.1) (fun x => [(6, .slice x.2.1 (othK es p x.1).length x.2.2), (17, .int .i64 (x.1 : Int))]) (C := [(3, _), (4, _), (5, _), (15, _), (16, _)]) ⟨rfl, rfl, rfl, rfl, rfl, trivial⟩ (fun x => [.cel b1 61 [.int .i64 p.ax, .int .i64 p.ay, .int .i64 p.bx, .int .i64 p.b_y], .cel b2 55 [.int .i64 0, .int .i64 0, .int .i64 0, .int .i64 0, .int .i64 0, .int .i64 0, .int .i64 0], .cel b3 55 [.int .i64 p.ax, .int .i64 p.ay, .int .i64 p.bx, .int .i64 p.b_y, .int .i64 (netK es p x.1), .int .i64 0, .int .i64 0], rowR (Bs.N ⟨w, []⟩) 61 4 (othK es p x.1).length ((othK es p x.1).flatMap legCells) x.2]) (0, none, 0) (Nat.zero_le _) ⟨rfl, rfl, rfl, rfl, rfl, rfl, rfl, trivial⟩ (fun _ h => h) ?_
 intro ⟨k, rA, rc⟩ hk L hL1
 refine at_envE (by simp only [ya,yb]; rfl) ?_
 refine at_rsE (by first | (dsimp only; done) | (dsimp only; rfl) | rfl) ?_
 have hk : k ≤ n := hk
 have hnb := netK_bd (p := p) (show k ≤ es.length by omega)
 have hob := othK_len (p := p) (show k ≤ es.length by omega)
 refine at_seq ?_
 refine at_region ?_
 refine at_q rfl rfl (by decide) (qt_lss rfl rfl rfl) ?_
 refine at_end ?_
 refine at_seq ?_
 refine at_cond rfl (fun c1 => ?_) (fun c1 => ?_)
 ·try simp only [za,zb,zc,zd,ze,zf,Bool.not_true,Bool.not_false,zg,zh,ne_eq,zi,zj] at c1
  have hlt : k < n := (by omega)
  obtain ⟨eb, eo, rfl, _⟩ := h.2 (by omega)
  have hN := netK_succ (p := p) (show k < es.length by omega)
  have hO := othK_succ (p := p) (show k < es.length by omega)
  refine at_skip ?_
  refine norm_then ?_
  refine at_seq ?_
  refine at_block ?_
  refine at_seq ?_
  refine at_region ?_
  refine at_q rfl rfl (by decide) (qt_index rfl rfl rfl tyl_sl_impl_leg (by omega)) ?_
  refine at_q rfl rfl (by decide) (qt_loadS rfl rfl tys_impl_leg rfl (rdLeg (fun w' hs => h.over hs.fin) hlt)) ?_
  refine at_op rfl ?_
  refine op_alloc rfl tyz_impl_leg rfl (by decide) (fun b4 => ?_)
  refine at_rsE (by simp only [ya,yb,yc,yd,Value.cells,ye]; rfl) ?_
  refine at_op rfl ?_
  refine op_storeAll' (k := 4) rfl rfl rfl rfl (rfl) (by rfl) tyz_impl_leg.szx rfl rfl rfl ?_
  refine at_rsE (by simp only [ya,yb,yc,yd,Value.cells,ye]; rfl) ?_
  refine at_end ?_
  refine at_seq ?_
  refine at_region ?_
  refine at_q rfl rfl (by decide) (qt_loadS rfl rfl tys_impl_leg rfl (rdAll (k := 4) rfl)) ?_
  refine at_end ?_
  refine at_block ?_
  refine at_seq ?_
  refine at_region ?_
  refine at_q rfl rfl (by decide) (qt_loadS rfl rfl tys_impl_leg rfl (rdAll (k := 0) rfl)) ?_
  refine at_q rfl rfl (by decide) (qt_eqlS_impl_leg rfl rfl rfl) ?_
  refine at_q rfl rfl (by decide) (qt_assign rfl rfl) ?_
  refine at_end ?_
  refine at_cond rfl (fun c2 => ?_) (fun c2 => ?_)
  ·try simp only [za,zb,zc,zd,ze,zf,Bool.not_true,Bool.not_false,zg,zh,ne_eq,zi,zj] at c2
   have he : lg es k = p := of_decide_eq_true (eqLeg ▸ c2)
   have hnp : nrm (lg es k) = p := (nrm_iff hord hne).2 (.inl he)
   rw [if_pos hnp, he, sg_self hord] at hN
   rw [if_pos hnp, List.append_nil] at hO
   refine at_region ?_
   refine at_q rfl rfl (by decide) (qt_fieldAddr rfl rfl tyf_impl_NetEdge_2) ?_
   refine at_q rfl rfl (by decide) (qt_load1 rfl rfl ty1_int64 (rd1 (k := 2) rfl rfl)) ?_
   refine at_q rfl rfl (by decide) (qt_add rfl rfl rfl (by omega) (by omega)) ?_
   refine at_q rfl rfl (by decide) (qt_fieldAddr rfl rfl tyf_impl_NetEdge_2) ?_
   refine at_op rfl ?_
   refine op_store_7_4_1 (k := 2) rfl rfl rfl rfl (rfl) (by rfl) tyz_int64.szx rfl ?_
   refine at_rsE (by simp only [ya,yb,yc,yd,Value.cells,ye]; rfl) ?_
   refine at_nil ?_
   refine norm_block ?_
   refine norm_block ?_
   refine norm_then ?_
   refine at_region ?_
   refine at_q rfl rfl (by decide) (qt_add rfl rfl rfl (by omega) (by omega)) ?_
   refine at_q rfl rfl (by decide) (qt_move rfl rfl) ?_
   refine at_end ?_
   exact at_againc hL1 ((k + 1, rA, rc)) ((show k + 1 ≤ n by omega)) (by simp only; omega) ⟨(by rw [hO]; rfl), vi (by omega), rfl, rfl, rfl, rfl, rfl, trivial⟩ (fun _ h => h.upto ⟨rfl, rfl, by rw [hN], by rw [hO], trivial⟩)
  ·try simp only [za,zb,zc,zd,ze,zf,Bool.not_true,Bool.not_false,zg,zh,ne_eq,zi,zj] at c2
   have he : ¬ lg es k = p := of_decide_eq_false (eqLeg ▸ c2)
   refine at_seq ?_
   refine at_region ?_
   refine at_q rfl rfl (by decide) (qt_fieldAddr rfl rfl tyf_impl_leg_1) ?_
   refine at_q rfl rfl (by decide) (qt_loadS rfl rfl tys_impl_Pt rfl (rd2 (k := 0) rfl rfl rfl)) ?_
   refine at_q rfl rfl (by decide) (qt_fieldAddr rfl rfl tyf_impl_leg_0) ?_
   refine at_q rfl rfl (by decide) (qt_loadS rfl rfl tys_impl_Pt rfl (rd2 (k := 0) rfl rfl rfl)) ?_
   refine at_q rfl rfl (by decide) (qt_build rfl rfl (bld_impl_leg_0_1 rfl rfl)) ?_
   refine at_q rfl rfl (by decide) (qt_eqlS_impl_leg rfl rfl rfl) ?_
   refine at_q rfl rfl (by decide) (qt_assign rfl rfl) ?_
   refine at_end ?_
   refine at_cond rfl (fun c3 => ?_) (fun c3 => ?_)
   ·try simp only [za,zb,zc,zd,ze,zf,Bool.not_true,Bool.not_false,zg,zh,ne_eq,zi,zj] at c3
    have hr : lg es k = revL p := of_decide_eq_true (eqLeg (f := revL p) ▸ c3)
    have hnp : nrm (lg es k) = p := (nrm_iff hord hne).2 (.inr hr)
    rw [if_pos hnp, hr, sg_rev hord hne] at hN
    rw [if_pos hnp, List.append_nil] at hO
    refine at_region ?_
    refine at_q rfl rfl (by decide) (qt_fieldAddr rfl rfl tyf_impl_NetEdge_2) ?_
    refine at_q rfl rfl (by decide) (qt_load1 rfl rfl ty1_int64 (rd1 (k := 2) rfl rfl)) ?_
    refine at_q rfl rfl (by decide) (qt_sub rfl rfl rfl (by omega) (by omega)) ?_
    refine at_q rfl rfl (by decide) (qt_fieldAddr rfl rfl tyf_impl_NetEdge_2) ?_
    refine at_op rfl ?_
    refine op_store_7_4_1 (k := 2) rfl rfl rfl rfl (rfl) (by rfl) tyz_int64.szx rfl ?_
    refine at_rsE (by simp only [ya,yb,yc,yd,Value.cells,ye]; rfl) ?_
    refine at_nil ?_
    refine norm_block ?_
    refine norm_block ?_
    refine norm_then ?_
    refine at_region ?_
    refine at_q rfl rfl (by decide) (qt_add rfl rfl rfl (by omega) (by omega)) ?_
    refine at_q rfl rfl (by decide) (qt_move rfl rfl) ?_
    refine at_end ?_
    exact at_againc hL1 ((k + 1, rA, rc)) ((show k + 1 ≤ n by omega)) (by simp only; omega) ⟨(by rw [hO]; rfl), vi (by omega), rfl, rfl, rfl, rfl, rfl, trivial⟩ (fun _ h => h.upto ⟨rfl, rfl, by rw [hN]; rfl, by rw [hO], trivial⟩)
   ·try simp only [za,zb,zc,zd,ze,zf,Bool.not_true,Bool.not_false,zg,zh,ne_eq,zi,zj] at c3
    have hr : ¬ lg es k = revL p := of_decide_eq_false (eqLeg (f := revL p) ▸ c3)
    have hnp : ¬ nrm (lg es k) = p := fun k => ((nrm_iff hord hne).1 k).elim he hr
    rw [if_neg hnp, Int.add_zero] at hN
    rw [if_neg hnp] at hO
    refine at_region ?_
    refine at_q rfl rfl (by decide) (qt_move rfl rfl) ?_
    refine at_q rfl rfl (by decide) (qt_loadS rfl rfl tys_impl_leg rfl (rdAll (k := 4) rfl)) ?_
    refine at_op rfl ?_
    refine op_buildSlice rfl rfl (bsl_sl_impl_leg_1_0 rfl) rfl (by decide) (fun b5 => ?_)
    refine at_rsE (by simp only [ya,yb,yc,yd,Value.cells,ye]; rfl) ?_
    refine at_op rfl ?_
    refine op_appendR (k := 3) rfl tyl_sl_impl_leg tyz_impl_leg (by decide) rfl (by decide) rfl rfl rfl (fun w' hs => src_cel hs (k := 5) rfl rfl) (by simp [Value.oneCell']) (by unfold maxLen; omega) (by omega) (Nat.le_refl _) (fun r1 => ?_)
    refine at_rsE (by simp only [ya,yb,yc,yd,Value.cells,ye]; rfl) ?_
    refine at_q rfl rfl (by decide) (qt_assign rfl rfl) ?_
    refine at_nil ?_
    refine norm_block ?_
    refine norm_block ?_
    refine norm_then ?_
    refine at_region ?_
    refine at_q rfl rfl (by decide) (qt_add rfl rfl rfl (by omega) (by omega)) ?_
    refine at_q rfl rfl (by decide) (qt_move rfl rfl) ?_
    refine at_end ?_
    exact at_againc hL1 ((k + 1, r1)) ((show k + 1 ≤ n by omega)) (by simp only; omega) ⟨(by rw [hO, List.length_append]; rfl), vi (by omega), rfl, rfl, rfl, rfl, rfl, trivial⟩ (fun _ h => h.upto ⟨rfl, rfl, by rw [hN], by rw [hO, List.length_append, List.flatMap_append]; rfl, trivial⟩)
 ·try simp only [za,zb,zc,zd,ze,zf,Bool.not_true,Bool.not_false,zg,zh,ne_eq,zi,zj] at c1
  have hin : k = n := by omega
  subst hin
  rw [show netK es p k = netP es p by rw [← hl, netK_all]] at *
  have hw1 := wind_bd true (othK es p k) (midX p) (midY p)
  have hw2 : wind true (othK es p k) (midX p) (midY p) = outP es p := by rw [← hl, wind_out]
  rw [hw2] at hw1
  have hoo : ∀ l ∈ othK es p k, legOk l := fun l hl => hok l (List.mem_of_mem_take ((List.mem_filter.1 hl).1))
  refine at_exit ?_
  refine pass_then (fun h => by cases h) ?_
  refine pass_then (fun h => by cases h) ?_
  refine pass_hit ?_
  refine norm_then ?_
  refine at_seq ?_
  refine at_region ?_
  refine at_q rfl rfl (by decide) (qt_move rfl rfl) ?_
  refine at_q rfl rfl (by decide) (qt_fieldAddr rfl rfl tyf_impl_leg_0) ?_
  refine at_q rfl rfl (by decide) (qt_fieldAddr rfl rfl tyf_impl_Pt_0) ?_
  refine at_q rfl rfl (by decide) (qt_load1 rfl rfl ty1_int64 (rd1 (k := 0) rfl rfl)) ?_
  refine at_q rfl rfl (by decide) (qt_fieldAddr rfl rfl tyf_impl_leg_1) ?_
  refine at_q rfl rfl (by decide) (qt_fieldAddr rfl rfl tyf_impl_Pt_0) ?_
  refine at_q rfl rfl (by decide) (qt_load1 rfl rfl ty1_int64 (rd1 (k := 0) rfl rfl)) ?_
  refine at_q rfl rfl (by decide) (qt_add rfl rfl rfl (by omega) (by omega)) ?_
  refine at_q rfl rfl (by decide) (qt_fieldAddr rfl rfl tyf_impl_leg_0) ?_
  refine at_q rfl rfl (by decide) (qt_fieldAddr rfl rfl tyf_impl_Pt_1) ?_
  refine at_q rfl rfl (by decide) (qt_load1 rfl rfl ty1_int64 (rd1 (k := 0) rfl rfl)) ?_
  refine at_q rfl rfl (by decide) (qt_fieldAddr rfl rfl tyf_impl_leg_1) ?_
  refine at_q rfl rfl (by decide) (qt_fieldAddr rfl rfl tyf_impl_Pt_1) ?_
  refine at_q rfl rfl (by decide) (qt_load1 rfl rfl ty1_int64 (rd1 (k := 0) rfl rfl)) ?_
  refine at_q rfl rfl (by decide) (qt_add rfl rfl rfl (by omega) (by omega)) ?_
  refine at_q rfl rfl (by decide) (qt_build rfl rfl (bld_impl_Pt_0_1 rfl rfl)) ?_
  refine at_q rfl rfl (by decide) (qt_call ok_impl_windingOf rfl rfl (fun w1 hs => hw2 ▸ windingOf_any rA _ rc (othK es p k) (midX p) (midY p) true w1 (rowLegsB (hs.all 3 _ rfl).1 rfl) (by omega) hoo (by unfold bdM midX; omega) (by unfold bdM midY; omega))) ?_
  refine at_q rfl rfl (by decide) (qt_assign rfl rfl) ?_
  refine at_end ?_
  refine at_seq ?_
  refine at_seq ?_
  refine at_region ?_
  refine at_q rfl rfl (by decide) (qt_fieldAddr rfl rfl tyf_impl_leg_0) ?_
  refine at_q rfl rfl (by decide) (qt_fieldAddr rfl rfl tyf_impl_Pt_1) ?_
  refine at_q rfl rfl (by decide) (qt_load1 rfl rfl ty1_int64 (rd1 (k := 0) rfl rfl)) ?_
  refine at_q rfl rfl (by decide) (qt_fieldAddr rfl rfl tyf_impl_leg_1) ?_
  refine at_q rfl rfl (by decide) (qt_fieldAddr rfl rfl tyf_impl_Pt_1) ?_
  refine at_q rfl rfl (by decide) (qt_load1 rfl rfl ty1_int64 (rd1 (k := 0) rfl rfl)) ?_
  refine at_q rfl rfl (by decide) (qt_eql rfl rfl rfl) ?_
  refine at_end ?_
  refine at_cond rfl (fun c4 => ?_) (fun c4 => ?_)
  ·try simp only [za,zb,zc,zd,ze,zf,Bool.not_true,Bool.not_false,zg,zh,ne_eq,zi,zj] at c4
   refine at_region ?_
   refine at_q rfl rfl (by decide) (qt_move rfl rfl) ?_
   refine at_q rfl rfl (by decide) (qt_move rfl rfl) ?_
   refine at_q rfl rfl (by decide) (qt_fieldAddr rfl rfl tyf_impl_NetEdge_2) ?_
   refine at_q rfl rfl (by decide) (qt_load1 rfl rfl ty1_int64 (rd1 (k := 2) rfl rfl)) ?_
   refine at_q rfl rfl (by decide) (qt_sub rfl rfl rfl (by omega) (by omega)) ?_
   refine at_q rfl rfl (by decide) (qt_fieldAddr rfl rfl tyf_impl_NetEdge_3) ?_
   refine at_op rfl ?_
   refine op_store_7_5_1 (k := 2) rfl rfl rfl rfl (rfl) (by rfl) tyz_int64.szx rfl ?_
   refine at_rsE (by simp only [ya,yb,yc,yd,Value.cells,ye]; rfl) ?_
   refine at_q rfl rfl (by decide) (qt_fieldAddr rfl rfl tyf_impl_NetEdge_4) ?_
   refine at_op rfl ?_
   refine op_store_7_6_1 (k := 2) rfl rfl rfl rfl (rfl) (by rfl) tyz_int64.szx rfl ?_
   refine at_rsE (by simp only [ya,yb,yc,yd,Value.cells,ye]; rfl) ?_
   refine at_end ?_
   refine at_seq ?_
   refine at_region ?_
   refine at_q rfl rfl (by decide) (qt_loadS rfl rfl tys_impl_NetEdge rfl (rdAll (k := 2) rfl)) ?_
   refine at_op rfl ?_
   refine op_storeAll' (k := 1) rfl rfl rfl rfl (rfl) (by rfl) tyz_impl_NetEdge.szx rfl rfl rfl ?_
   refine at_rsE (by simp only [ya,yb,yc,yd,Value.cells,ye]; rfl) ?_
   refine at_end ?_
   refine at_retc ?_
   refine at_ret1 rfl (rvCelS (k := 1) rfl tys_impl_NetEdge rfl rfl) ?_
   intro w' hs
   exact ⟨by rw [neP, if_pos c4], hs.fin⟩
  ·try simp only [za,zb,zc,zd,ze,zf,Bool.not_true,Bool.not_false,zg,zh,ne_eq,zi,zj] at c4
   refine at_region ?_
   refine at_q rfl rfl (by decide) (qt_move rfl rfl) ?_
   refine at_q rfl rfl (by decide) (qt_fieldAddr rfl rfl tyf_impl_NetEdge_2) ?_
   refine at_q rfl rfl (by decide) (qt_load1 rfl rfl ty1_int64 (rd1 (k := 2) rfl rfl)) ?_
   refine at_q rfl rfl (by decide) (qt_add rfl rfl rfl (by omega) (by omega)) ?_
   refine at_q rfl rfl (by decide) (qt_move rfl rfl) ?_
   refine at_q rfl rfl (by decide) (qt_fieldAddr rfl rfl tyf_impl_NetEdge_3) ?_
   refine at_op rfl ?_
   refine op_store_7_5_1 (k := 2) rfl rfl rfl rfl (rfl) (by rfl) tyz_int64.szx rfl ?_
   refine at_rsE (by simp only [ya,yb,yc,yd,Value.cells,ye]; rfl) ?_
   refine at_q rfl rfl (by decide) (qt_fieldAddr rfl rfl tyf_impl_NetEdge_4) ?_
   refine at_op rfl ?_
   refine op_store_7_6_1 (k := 2) rfl rfl rfl rfl (rfl) (by rfl) tyz_int64.szx rfl ?_
   refine at_rsE (by simp only [ya,yb,yc,yd,Value.cells,ye]; rfl) ?_
   refine at_end ?_
   refine at_seq ?_
   refine at_region ?_
   refine at_q rfl rfl (by decide) (qt_loadS rfl rfl tys_impl_NetEdge rfl (rdAll (k := 2) rfl)) ?_
   refine at_op rfl ?_
   refine op_storeAll' (k := 1) rfl rfl rfl rfl (rfl) (by rfl) tyz_impl_NetEdge.szx rfl rfl rfl ?_
   refine at_rsE (by simp only [ya,yb,yc,yd,Value.cells,ye]; rfl) ?_
   refine at_end ?_
   refine at_retc ?_
   refine at_ret1 rfl (rvCelS (k := 1) rfl tys_impl_NetEdge rfl rfl) ?_
   intro w' hs
   exact ⟨by rw [neP, if_neg c4], hs.fin⟩
end Go.Proofs.Ytcigocejgmafjaa
