/- SnapRegion, both sides; the law's walk. -/
import Derived.Test.YtakdjgldcpompaaGreatRounds
import Derived.Test.YtakdjgldcpompaaGreatHotLaw
import Derived.Test.YtakdjgldcpompaaGreatCross
import Derived.Test.YtakdjgldcpompaaGreatLawKit
namespace Go.Proofs.YtakdjgldcpompaaGreat
open Go Go.RowKit
set_option linter.unusedVariables false
set_option linter.unusedSimpArgs false
set_option maxRecDepth 100000
set_option maxHeartbeats 4000000
set_option linter.unusedVariables false
set_option linter.unusedSimpArgs false

/-! ### The hot points of a region -/
def hotE (E : List Leg) : List Pn := putAll (hpI E E.length)
theorem meet2s {a b c d : Pn} (h : meetS a b c d = 2) : strictM a b c d = true := by
 unfold meetS at h
 split at h
 ·split at h
  ·rename_i h1; exact h1
  ·omega
 ·split at h <;> omega
theorem hpI_ends {E : List Leg} : ∀ i, i ≤ E.length → ∀ k, k < i → lA (lg E k) ∈ hpI E i ∧ lB (lg E k) ∈ hpI E i
 | 0, _, k, hk => absurd hk (by omega)
 | i + 1, hi, k, hk => by
  rw [hpI]
  rcases Nat.lt_or_eq_of_le (show k ≤ i by omega) with h | rfl
  ·obtain ⟨h1, h2⟩ := hpI_ends (E := E) i (by omega) k h
   exact ⟨List.mem_append_left _ (List.mem_append_left _ h1), List.mem_append_left _ (List.mem_append_left _ h2)⟩
  ·exact ⟨List.mem_append_left _ (List.mem_append_right _ (by simp)), List.mem_append_left _ (List.mem_append_right _ (by simp))⟩
theorem cz_bd2 {E : List Leg} (hok : ∀ l ∈ E, legOk l) {i : Nat} (hi : i < E.length) : ∀ k, k ≤ i → ∀ p ∈ cz E i k, bd2 p
 | 0, _, p, hp => by simp [cz] at hp
 | k + 1, hk, p, hp => by
  rw [cz] at hp
  rcases List.mem_append.1 hp with h | h
  ·exact cz_bd2 hok hi k (by omega) p h
  ·split at h
   ·rename_i hm
    rw [List.mem_singleton.1 h]
    exact (cross_pix (lA_ok (lg_ok hok (by omega))) (lB_ok (lg_ok hok (by omega))) (meet2s hm)).1
   ·simp at h
theorem hpI_bd2 {E : List Leg} (hok : ∀ l ∈ E, legOk l) : ∀ i, i ≤ E.length → ∀ p ∈ hpI E i, bd2 p
 | 0, _, p, hp => by simp [hpI] at hp
 | i + 1, hi, p, hp => by
  rw [hpI] at hp
  rcases List.mem_append.1 hp with h | h
  ·rcases List.mem_append.1 h with h | h
   ·exact hpI_bd2 hok i (by omega) p h
   ·simp only [List.mem_cons, List.not_mem_nil, or_false] at h
    rcases h with rfl | rfl
    ·exact lA_ok (lg_ok hok (by omega))
    ·exact lB_ok (lg_ok hok (by omega))
  ·exact cz_bd2 hok (by omega) i (Nat.le_refl _) p h
theorem asc_nodup {l : List Pn} (h : Asc l) : l.Nodup := List.Pairwise.imp (fun {a b} (hab : ltY a b) (e : a = b) => ltY_irrefl a (by rw [← e] at hab; exact hab)) h
theorem lg_get {E : List Leg} {k : Nat} (hk : k < E.length) : lg E k = E[k] := by simp [lg, List.getD, hk]
theorem bareTo_cnt {rs : List Ring_} : ∀ k, k ≤ rs.length → cnt (bareTo rs k) = (allTo rs k).length
 | 0, _ => rfl
 | k + 1, hk => by
  have ih := bareTo_cnt (rs := rs) k (by omega)
  have e : (allTo rs (k + 1)).length = (allTo rs k).length + (edgesR (rg rs k)).length := List.length_append
  have e2 : (keepR (rg rs k)).length = (edgesR (rg rs k)).length := List.length_map ..
  by_cases h : 0 < (keepR (rg rs k)).length
  ·rw [bareTo_yes (by omega) h, e, ← ih]
   simp [cnt, e2]
  ·rw [bareTo_no (by omega) h, e, ← ih]
   omega
theorem bareRs_bare {rs : List Ring_} (hr : regionB rs = true) : ∀ r ∈ bareRs rs, bare r := fun r h => by
 obtain ⟨h0, q, hq, rfl⟩ := bareTo_mem h
 obtain ⟨i, hi, e⟩ := List.getElem_of_mem hq
 have := pos_of_ring (regRing hr hi)
 rw [at_r hi] at e
 rw [e] at this
 exact keep_bare this.1 h0
theorem keep_ok {xs : List Pn} (h : ringB xs = true) : ∀ p ∈ keepR xs, okB p.1 p.2 = true := fun p hp => by
 obtain ⟨l, hl, rfl⟩ := List.mem_map.1 hp
 exact bd2_ok (lA_ok (edgesTo_ok (ringB_parts h).2.2 _ (Nat.le_refl _) l hl))
theorem bareRs_reg {rs : List Ring_} (hr : regionB rs = true) : regionB (bareRs rs) = true := by
 have h40 := reg_len hr
 have hl := bareTo_len rs rs.length
 have hcnt : (edgesAll (bareRs rs)).length ≤ 400 := by
  rw [edgesAll_cnt (bareRs_bare hr)]
  have := bareTo_cnt (rs := rs) rs.length (Nat.le_refl _)
  have h4 : (edgesAll rs).length ≤ 400 := by simp [regionB] at hr; omega
  unfold edgesAll at h4
  unfold bareRs
  omega
 have hall : (bareRs rs).all ringB = true := List.all_eq_true.2 fun r h => by
  have hs := keep_small hr h
  obtain ⟨h0, q, hq, rfl⟩ := bareTo_mem h
  obtain ⟨i, hi, e⟩ := List.getElem_of_mem hq
  have hb := regRing hr hi
  rw [at_r hi] at e
  rw [e] at hb
  unfold ringB inB
  rw [decide_eq_true (show (1 : Int) ≤ ((keepR q).length : Int) by omega), decide_eq_true (show ((keepR q).length : Int) ≤ 400 by omega)]
  exact List.all_eq_true.2 fun p hp => keep_ok hb p hp
 rw [regionB_ok (by unfold bareRs; omega) hall]
 exact decide_eq_true hcnt
/-- What is to be known of a bare region and its hot points. -/
structure HotOk (hot : List Pn) (ss : List Ring_) : Prop where
 reg : regionB ss = true
 ok : ∀ p ∈ hot, okB p.1 p.2 = true
 asc : Asc hot
 nd : hot.Nodup
 len : hot.length ≤ 1048576
 bare : bareG hot ss
theorem allTo_mem {rs : List Ring_} {j : Nat} : ∀ k, j < k → ∀ l ∈ edgesR (rg rs j), l ∈ allTo rs k
 | 0, h, _, _ => absurd h (by omega)
 | k + 1, h, l, hl => by
  show l ∈ allTo rs k ++ edgesR (rg rs k)
  rcases Nat.lt_or_eq_of_le (show j ≤ k by omega) with h1 | rfl
  ·exact List.mem_append_left _ (allTo_mem k h1 l hl)
  ·exact List.mem_append_right _ hl
theorem hotOk {ss : List Ring_} (hr : regionB ss = true) (hb : ∀ r ∈ ss, bare r) : HotOk (hotE (edgesAll ss)) ss := by
 have hok := regOk hr
 have h4 : (edgesAll ss).length ≤ 400 := by simp [regionB] at hr; omega
 have hends : ∀ l ∈ edgesAll ss, lA l ∈ hotE (edgesAll ss) := fun l hl => by
  obtain ⟨k, hk, e⟩ := List.getElem_of_mem hl
  have := (hpI_ends (E := edgesAll ss) _ (Nat.le_refl _) k hk).1
  rw [lg_get hk, e] at this
  exact (putAll_mem _ _).2 this
 refine ⟨hr, fun p hp => bd2_ok (hpI_bd2 hok _ (Nat.le_refl _) p ((putAll_mem _ _).1 hp)), putAll_asc _, asc_nodup (putAll_asc _), ?_, fun r h => ⟨hb r h, fun p hp => ?_⟩⟩
 ·have h1 := putAll_len (hpI (edgesAll ss) (edgesAll ss).length)
  have h2 := hpI_len (edgesAll ss) (edgesAll ss).length
  have h3 : (edgesAll ss).length * ((edgesAll ss).length + 2) ≤ 400 * 402 := Nat.mul_le_mul h4 (by omega)
  unfold hotE
  omega
 ·obtain ⟨j, hj, e⟩ := List.getElem_of_mem h
  rw [at_r hj] at e
  have hbr := hb r h
  have hp2 : p ∈ (edgesR r).map lA := by
   rw [edges_bare hbr, List.map_map]
   have e2 : (pairs r).map (lA ∘ mkL) = (pairs r).map (·.1) := rfl
   rw [e2, pairs_fst]
   exact hp
  obtain ⟨l, hl, rfl⟩ := List.mem_map.1 hp2
  exact hends l (allTo_mem (rs := ss) _ hj l (by rw [e]; exact hl))
def sgH (rs : List Ring_) : List Pn := hotE (edgesAll (bareRs rs))
theorem sg_ok {rs : List Ring_} (hr : regionB rs = true) : HotOk (sgH rs) (bareRs rs) := hotOk (bareRs_reg hr) (bareRs_bare hr)
def sgR (rs : List Ring_) : List Ring_ := if regionB rs = true then stR (sgH rs) (bareRs rs) else []
def sgN (rs : List Ring_) : Int := if regionB rs = true then stN (sgH rs) (bareRs rs) else 0
def sgC (rs : List Ring_) : Int := if regionB rs = true then (if stOk (sgH rs) (bareRs rs) = true then 0 else 5) else 1
theorem sg_no {rs : List Ring_} (h : regionB rs = false) : sgR rs = [] ∧ sgN rs = 0 ∧ sgC rs = 1 := by simp [sgR, sgN, sgC, h]
theorem sg_yes {rs : List Ring_} (h : regionB rs = true) : sgR rs = stR (sgH rs) (bareRs rs) ∧ sgN rs = stN (sgH rs) (bareRs rs) ∧ sgC rs = (if stOk (sgH rs) (bareRs rs) = true then 0 else 5) := by simp [sgR, sgN, sgC, h]
theorem st_no {hot : List Pn} {rs : List Ring_} (h : stOk hot rs = false) : stR hot rs = [] ∧ stN hot rs = 0 := by
 cases hs : stab hot rs with
 | none => exact ⟨(st_none hs).1, (st_none hs).2.1⟩
 | some x => simp [stOk, hs] at h
/-- The region that stays is valid. -/
theorem stabN_reg {hot : List Pn} (hnd : hot.Nodup) : ∀ (f : Nat) {rs ss : List Ring_} {r q : Nat}, regionB rs = true → bareG hot rs → stabN hot f rs r = some (ss, q) → regionB ss = true
 | 0, _, _, _, _, _, _, h => by cases h
 | f + 1, rs, ss, r, q, hr, hb, h => by
  rw [stabN] at h
  split at h
  ·cases h
  ·rename_i h1
   split at h
   ·injection h with h
    injection h with h2 h3
    exact h2 ▸ hr
   ·exact stabN_reg hnd f (by simpa using h1) (hb.snap hnd) h
theorem stab_reg {hot : List Pn} (hnd : hot.Nodup) {rs ss : List Ring_} {r : Nat} (hr : regionB rs = true) (hb : bareG hot rs) (h : stab hot rs = some (ss, r)) : regionB ss = true := stabN_reg hnd _ hr hb h
theorem sgR_small (rs : List Ring_) : smallR (sgR rs) := by
 unfold sgR
 split
 ·rename_i h
  have hk := sg_ok h
  cases hs : stab (sgH rs) (bareRs rs) with
  | none => rw [(st_none hs).1]; exact smallR.nil
  | some x =>
   obtain ⟨ss, r⟩ := x
   rw [(st_some hs).1]
   exact smallR.of (stab_reg hk.nd hk.reg hk.bare hs)
 ·exact smallR.nil
/-- Behind the rounds: the region at hand, or a new one. -/
theorem geg_or {P : Program} {f : FuncId} {args : Array Value} {w1 : World} {n lo hi : Nat} {ss rs : List Ring_} {A : Option Addr} {c : Nat} {V : Option Addr → Nat → Value} (hg : (gegR n ss lo hi A).P w1) (hn : ss.length = n)
  (h : Calls P f args w1 fun e w' => ∃ A' c', e = .returned (V A' c') ∧ ((A' = A ∧ c' = c ∧ rs = ss) ∨ OwnG w1.heap.size w'.heap.size w' A' rs.length rs) ∧ Over w1 w') :
  Calls P f args w1 fun e w' => ∃ x : (Option Addr × Nat) × Nat × Nat, e = .returned (V x.1.1 x.1.2) ∧ Wrs (gegR n ss lo hi A).F w1 w' ∧ (gegR rs.length rs x.2.1 x.2.2 x.1.1).P w' ∧ (∀ b, (gegR rs.length rs x.2.1 x.2.2 x.1.1).F b → (gegR n ss lo hi A).F b ∨ w1.heap.size ≤ b) ∧ (gegR rs.length rs x.2.1 x.2.2 x.1.1).B = 0 := by
 refine h.mono ?_
 rintro e w' ⟨A', c', rfl, ho, hO⟩
 rcases ho with ⟨rfl, rfl, rfl⟩ | ho
 ·subst hn
  have hz : hi ≤ w1.heap.size := hg.1
  exact ⟨((A', c'), lo, hi), rfl, Wrs.of hO, gegP ((gegG hg).agree fun b h1 h2 => hO.out.block b (by omega)) (Nat.le_trans hz hO.size), fun b hb => .inl hb, rfl⟩
 ·exact ⟨((A', c'), w1.heap.size, w'.heap.size), rfl, Wrs.of hO, gegP ho (Nat.le_refl _), fun b hb => .inr hb.1, rfl⟩
theorem SnapRegion_any (A : Option Addr) (n c : Nat) (rs : List Ring_) (w : World) (h : Rings w A n rs) (ht : (total rs : Int) ≤ 1048577) :
  Calls Tryz.prog 7 #[regV A n c] w fun e w' => ∃ A' c', e = .returned (.tuple #[regV A' (sgR rs).length c', .int .i64 (sgN rs), .int .i64 (sgC rs)]) ∧ OwnG w.heap.size w'.heap.size w' A' (sgR rs).length (sgR rs) ∧ Over w w' := by
 have hl := h.1
 refine walk_from (m := 19) (Tryz.func7) rfl rfl (Nat.le_of_ble_eq_true rfl) ?_
 refine at_seq ?_
 refine at_region ?_
 refine at_op rfl ?_
 refine op_box rfl rfl (rfl) rfl (by decide) (fun b1 => ?_)
 refine at_rsE (by simp only [ya,yb,yc,yd,Value.cells,ye]; rfl) ?_
 refine at_op rfl ?_
 refine op_alloc rfl tyz_impl_Region rfl (by decide) (fun b2 => ?_)
 refine at_rsE (by simp only [ya,yb,yc,yd,Value.cells,ye]; rfl) ?_
 refine at_q rfl rfl (by decide) (qt_assign rfl rfl) ?_
 refine at_q rfl rfl (by decide) (qt_assign rfl rfl) ?_
 refine at_end ?_
 refine at_seq ?_
 refine at_seq ?_
 refine at_region ?_
 refine at_q rfl rfl (by decide) (qt_loadS rfl rfl tys_impl_Region rfl (rdAll (k := 0) rfl)) ?_
 refine at_q rfl rfl (by decide) (qt_call ok_impl_ValidRegion rfl rfl (fun w1 hs => ValidRegion_any A n c rs w1 (h.over hs.fin) ht)) ?_
 refine at_q rfl rfl (by decide) (qt_not rfl rfl) ?_
 refine at_end ?_
 refine at_cond rfl (fun c1 => ?_) (fun c1 => ?_)
 ·try simp only [za,zb,zc,zd,ze,zf,Bool.not_true,Bool.not_false,zg,zh,ne_eq,zi,zj] at c1
  refine at_seq ?_
  refine at_region ?_
  refine at_q rfl rfl (by decide) (qt_build rfl rfl (bld_impl_Region_)) ?_
  refine at_op rfl ?_
  refine op_storeAll' (k := 1) rfl rfl rfl rfl (rfl) (by rfl) tyz_impl_Region.szx rfl rfl rfl ?_
  refine at_rsE (by simp only [ya,yb,yc,yd,Value.cells,ye]; rfl) ?_
  refine at_q rfl rfl (by decide) (qt_assign rfl rfl) ?_
  refine at_q rfl rfl (by decide) (qt_assign rfl rfl) ?_
  refine at_end ?_
  refine at_retc ?_
  refine then_ret ?_
  refine at_ret3 rfl (rvCelS (k := 1) rfl tys_impl_Region rfl rfl) (.tmp rfl) (.tmp rfl) ?_
  intro w' hs
  obtain ⟨e1, e2, e3⟩ := sg_no c1
  exact ⟨none, 0, by rw [e1, e2, e3]; rfl, by rw [e1]; exact OwnG.nil none, hs.fin⟩
 ·try simp only [za,zb,zc,zd,ze,zf,Bool.not_true,Bool.not_false,zg,zh,ne_eq,zi,zj] at c1
  have hr : regionB rs = true := c1
  obtain ⟨e1, e2, e3⟩ := sg_yes hr
  have hk := sg_ok hr
  have hsm := smallR.of hk.reg
  have hok := regOk hk.reg
  have h4 := reg400 hk.reg
  have hst := hsm.total
  refine at_skip ?_
  refine norm_then ?_
  refine at_seq ?_
  refine at_region ?_
  refine at_q rfl rfl (by decide) (qt_loadS rfl rfl tys_impl_Region rfl (rdAll (k := 0) rfl)) ?_
  refine at_op rfl ?_
  refine op_call ok_impl_dropRepeats (X := (Option Addr × Nat) × Nat × Nat) (v := fun x => regV x.1.1 (bareRs rs).length x.1.2) (r := fun x => gegR (bareRs rs).length (bareRs rs) x.2.1 x.2.2 x.1.1) (H := fun _ => True) rfl rfl rfl (by decide) (fun w1 hs => gegNew (dropRepeats_any A n c rs w1 (h.over hs.fin) hr)) ?_
  rintro ⟨⟨gA, gc⟩, glo, ghi⟩ -
  refine at_rsE (by simp only [ya,yb,yc,yd,Value.cells,ye]; rfl) ?_
  refine at_op rfl ?_
  refine op_storeAll' (k := 0) rfl rfl rfl rfl (rfl) (by rfl) tyz_impl_Region.szx rfl rfl rfl ?_
  refine at_rsE (by simp only [ya,yb,yc,yd,Value.cells,ye]; rfl) ?_
  refine at_end ?_
  refine at_seq ?_
  refine dg_start mixed rfl ?_
  refine dg_phaseW 4 [1] ?_
  refine dg_q (i := 0) rfl (by kernel_rfl) (by kernel_rfl) (by kernel_rfl) [] (by kernel_rfl) (fun _ _ _ h => h) rfl rfl (by decide) (fun _ h => (h.wk [1]).upto ⟨rfl, rfl, rfl, trivial⟩) (qt_loadS rfl rfl tys_impl_Region rfl (rdAll (k := 0) rfl)) ?_
  refine dg_q (i := 1) rfl (by kernel_rfl) (by kernel_rfl) (by kernel_rfl) [2, 3] (by kernel_rfl) (fun _ _ _ h => h) rfl rfl (by decide) (fun _ h => (h.wk [1]).upto ⟨rfl, rfl, rfl, trivial⟩) (qt_loadS rfl rfl tys_impl_Region rfl (rdAll (k := 0) rfl)) ?_
  refine dg_one (i := 2) rfl (by decide) (by kernel_rfl) rfl ?_
  refine op_call ok_impl_edgesOf (v := fun x : Option Addr × Nat => .slice x.1 (edgesAll (bareRs rs)).length x.2) (r := fun x => rowR 0 77 4 (edgesAll (bareRs rs)).length ((edgesAll (bareRs rs)).flatMap legCells) x) (H := fun _ => True) rfl rfl rfl (by decide) (fun w1 hs => newRow' (edgesOf_any gA _ gc (bareRs rs) w1 (gegG (hs.all 2 _ rfl).1).rings (by omega))) ?_
  rintro ⟨eA, ec⟩ -
  refine at_rsE (by simp only [ya,yb,yc,yd,Value.cells,ye]; rfl) ?_
  refine dr_keep (fun _ h => (h.wk [1]).upto ⟨rfl, rfl, rfl, trivial⟩) ?_
  refine dg_one (i := 3) rfl (by decide) (by kernel_rfl) rfl ?_
  refine op_call ok_impl_hotPoints (v := fun x : Option Addr × Nat => .slice x.1 (sgH rs).length x.2) (r := fun x => rowR 0 64 2 (sgH rs).length ((sgH rs).flatMap ptCells) x) (H := fun _ => True) rfl rfl rfl (by decide) (fun w1 hs => newRow' (hotPoints_any eA _ ec (edgesAll (bareRs rs)) w1 (rowLegs (k := 3) (x := (eA, ec)) (ls := edgesAll (bareRs rs)) rfl rfl w1 hs) hok h4 (rowCap (hs.all 3 _ rfl).1))) ?_
  rintro ⟨pA, pc⟩ -
  refine at_rsE (by simp only [ya,yb,yc,yd,Value.cells,ye]; rfl) ?_
  refine dr_keep (fun _ h => (h.wk [1]).upto ⟨rfl, rfl, rfl, trivial⟩) ?_
  refine dg_bar rfl (by kernel_rfl) rfl ?_
  refine op_callP (k := 2) (X := (Option Addr × Nat) × Nat × Nat) (v := fun x => .tuple #[regV x.1.1 (stR (sgH rs) (bareRs rs)).length x.1.2, .int .i64 (stN (sgH rs) (bareRs rs)), .int .i64 (if stOk (sgH rs) (bareRs rs) = true then 0 else 5)]) (r' := fun x => gegR (stR (sgH rs) (bareRs rs)).length (stR (sgH rs) (bareRs rs)) x.2.1 x.2.2 x.1.1) ok_impl_snapRounds rfl rfl rfl (by decide) rfl (fun w1 hs => geg_or (A := gA) (c := gc) (V := fun A' c' => .tuple #[regV A' (stR (sgH rs) (bareRs rs)).length c', .int .i64 (stN (sgH rs) (bareRs rs)), .int .i64 (if stOk (sgH rs) (bareRs rs) = true then 0 else 5)]) (hs.all 2 _ rfl).1 rfl (snapRounds_any gA _ gc (bareRs rs) pA (sgH rs).length pc (sgH rs) w1 (gegG (hs.all 2 _ rfl).1).rings hk.reg (ptsRow (hs.all 4 _ rfl).1 rfl) hk.len (rowCap (hs.all 4 _ rfl).1) hk.ok hk.asc hk.nd hk.bare)) ?_
  rintro ⟨⟨hA, hc⟩, hlo, hhi⟩
  refine at_rsE (by simp only [ya,yb,yc,yd,Value.cells,ye]; rfl) ?_
  refine dg_phaseW 11 [1] ?_
  refine dg_q (i := 5) rfl (by kernel_rfl) (by kernel_rfl) (by kernel_rfl) [] (by kernel_rfl) (fun _ _ _ h => h) rfl rfl (by decide) (fun _ h => (h.wk [1]).upto ⟨rfl, rfl, rfl, rfl, rfl, trivial⟩) (qt_extract rfl rfl rfl) ?_
  refine dg_q (i := 6) rfl (by kernel_rfl) (by kernel_rfl) (by kernel_rfl) [] (by kernel_rfl) (fun _ _ _ h => h) rfl rfl (by decide) (fun _ h => (h.wk [1]).upto ⟨rfl, rfl, rfl, rfl, rfl, trivial⟩) (qt_extract rfl rfl rfl) ?_
  refine dg_q (i := 7) rfl (by kernel_rfl) (by kernel_rfl) (by kernel_rfl) [] (by kernel_rfl) (fun _ _ _ h => h) rfl rfl (by decide) (fun _ h => (h.wk [1]).upto ⟨rfl, rfl, rfl, rfl, rfl, trivial⟩) (qt_extract rfl rfl rfl) ?_
  refine dg_one (i := 8) rfl (by decide) (by kernel_rfl) rfl ?_
  refine op_storeAll' (k := 1) rfl rfl rfl rfl (rfl) (by rfl) tyz_impl_Region.szx rfl rfl rfl ?_
  refine at_rsE (by simp only [ya,yb,yc,yd,Value.cells,ye]; rfl) ?_
  refine dr_keep (fun _ h => (h.wk [1]).upto ⟨rfl, rfl, rfl, rfl, rfl, trivial⟩) ?_
  refine dg_q (i := 9) rfl (by kernel_rfl) (by kernel_rfl) (by kernel_rfl) [] (by kernel_rfl) (fun _ _ _ h => h) rfl rfl (by decide) (fun _ h => (h.wk [1]).upto ⟨rfl, rfl, rfl, rfl, rfl, trivial⟩) (qt_assign rfl rfl) ?_
  refine dg_q (i := 10) rfl (by kernel_rfl) (by kernel_rfl) (by kernel_rfl) [] (by kernel_rfl) (fun _ _ _ h => h) rfl rfl (by decide) (fun _ h => (h.wk [1]).upto ⟨rfl, rfl, rfl, rfl, rfl, trivial⟩) (qt_assign rfl rfl) ?_
  refine dg_done (by kernel_rfl) ?_
  refine norm_then ?_
  refine at_retc ?_
  refine at_ret3 rfl (rvCelS (k := 1) rfl tys_impl_Region rfl rfl) (.tmp rfl) (.tmp rfl) ?_
  intro w' hs
  have hg := hs.all 2 _ rfl
  have ho := gegTop hg.1 (fun b hb => (hg.2.1 b hb).elim id (fun h => by cases h))
  exact ⟨hA, hc, by rw [e1, e2, e3], by rw [e1]; exact ho, hs.fin⟩
theorem specSnapRegion_any (A : Option Addr) (n c : Nat) (rs : List Ring_) (w : World) (h : Rings w A n rs) (ht : (total rs : Int) ≤ 1048577) :
  Calls Tryz.prog 5 #[regV A n c] w fun e w' => ∃ A' c', e = .returned (.tuple #[regV A' (sgR rs).length c', .int .i64 (sgN rs), .int .i64 (sgC rs)]) ∧ OwnG w.heap.size w'.heap.size w' A' (sgR rs).length (sgR rs) ∧ Over w w' := by
 have hl := h.1
 refine walk_from (m := 25) (Tryz.func5) rfl rfl (Nat.le_of_ble_eq_true rfl) ?_
 refine at_seq ?_
 refine at_region ?_
 refine at_op rfl ?_
 refine op_box rfl rfl (rfl) rfl (by decide) (fun b1 => ?_)
 refine at_rsE (by simp only [ya,yb,yc,yd,Value.cells,ye]; rfl) ?_
 refine at_op rfl ?_
 refine op_alloc rfl tyz_impl_Region rfl (by decide) (fun b2 => ?_)
 refine at_rsE (by simp only [ya,yb,yc,yd,Value.cells,ye]; rfl) ?_
 refine at_q rfl rfl (by decide) (qt_assign rfl rfl) ?_
 refine at_q rfl rfl (by decide) (qt_assign rfl rfl) ?_
 refine at_end ?_
 refine at_seq ?_
 refine at_seq ?_
 refine at_region ?_
 refine at_q rfl rfl (by decide) (qt_call ok_spec_l13Ok rfl rfl (fun w1 hs => l13Ok_any _ _ A n c rs w1 (rd1 (k := 0) rfl rfl w1 hs) (lt_of_some (hs.cel (k := 0) rfl)) (h.over hs.fin) ht)) ?_
 refine at_q rfl rfl (by decide) (qt_not rfl rfl) ?_
 refine at_end ?_
 refine at_cond rfl (fun c1 => ?_) (fun c1 => ?_)
 ·try simp only [za,zb,zc,zd,ze,zf,Bool.not_true,Bool.not_false,zg,zh,ne_eq,zi,zj] at c1
  refine at_seq ?_
  refine at_region ?_
  refine at_q rfl rfl (by decide) (qt_build rfl rfl (bld_impl_Region_)) ?_
  refine at_op rfl ?_
  refine op_storeAll' (k := 1) rfl rfl rfl rfl (rfl) (by rfl) tyz_impl_Region.szx rfl rfl rfl ?_
  refine at_rsE (by simp only [ya,yb,yc,yd,Value.cells,ye]; rfl) ?_
  refine at_q rfl rfl (by decide) (qt_assign rfl rfl) ?_
  refine at_q rfl rfl (by decide) (qt_assign rfl rfl) ?_
  refine at_end ?_
  refine at_retc ?_
  refine then_ret ?_
  refine at_ret3 rfl (rvCelS (k := 1) rfl tys_impl_Region rfl rfl) (.tmp rfl) (.tmp rfl) ?_
  intro w' hs
  obtain ⟨e1, e2, e3⟩ := sg_no c1
  exact ⟨none, 0, by rw [e1, e2, e3]; rfl, by rw [e1]; exact OwnG.nil none, hs.fin⟩
 ·try simp only [za,zb,zc,zd,ze,zf,Bool.not_true,Bool.not_false,zg,zh,ne_eq,zi,zj] at c1
  have hr : regionB rs = true := c1
  obtain ⟨e1, e2, e3⟩ := sg_yes hr
  have hk := sg_ok hr
  have hsm := smallR.of hk.reg
  have hok := regOk hk.reg
  have h4 := reg400 hk.reg
  have hst := hsm.total
  refine at_skip ?_
  refine norm_then ?_
  refine at_seq ?_
  refine at_region ?_
  refine at_op rfl ?_
  refine op_call ok_spec_l13Bare (X := (Option Addr × Nat) × Nat × Nat) (v := fun x => regV x.1.1 (bareRs rs).length x.1.2) (r := fun x => gegR (bareRs rs).length (bareRs rs) x.2.1 x.2.2 x.1.1) (H := fun _ => True) rfl rfl rfl (by decide) (fun w1 hs => gegNew (l13Bare_any _ _ A n c rs w1 (rd1 (k := 0) rfl rfl w1 hs) (lt_of_some (hs.cel (k := 0) rfl)) (h.over hs.fin) hr)) ?_
  rintro ⟨⟨gA, gc⟩, glo, ghi⟩ -
  refine at_rsE (by simp only [ya,yb,yc,yd,Value.cells,ye]; rfl) ?_
  refine at_op rfl ?_
  refine op_alloc rfl tyz_impl_Region rfl (by decide) (fun b3 => ?_)
  refine at_rsE (by simp only [ya,yb,yc,yd,Value.cells,ye]; rfl) ?_
  refine at_op rfl ?_
  refine op_storeAll' (k := 3) rfl rfl rfl rfl (rfl) (by rfl) tyz_impl_Region.szx rfl rfl rfl ?_
  refine at_rsE (by simp only [ya,yb,yc,yd,Value.cells,ye]; rfl) ?_
  refine at_end ?_
  refine at_seq ?_
  refine at_region ?_
  refine at_op rfl ?_
  refine op_call ok_spec_l13All (v := fun x : Option Addr × Nat => .slice x.1 (edgesAll (bareRs rs)).length x.2) (r := fun x => rowR 0 66 4 (edgesAll (bareRs rs)).length ((edgesAll (bareRs rs)).flatMap legCells) x) (H := fun _ => True) rfl rfl rfl (by decide) (fun w1 hs => newRow' ((l13All_any _ _ gA _ gc (bareRs rs) w1 (rd1 (k := 3) rfl rfl w1 hs) (lt_of_some (hs.cel (k := 3) rfl)) (gegG (hs.all 2 _ rfl).1).rings (by omega)).mono fun e w' ⟨v, h1, _, h2, h3⟩ => ⟨v, h1, h2, h3⟩)) ?_
  rintro ⟨eA, ec⟩ -
  refine at_rsE (by simp only [ya,yb,yc,yd,Value.cells,ye]; rfl) ?_
  refine at_op rfl ?_
  refine op_call ok_spec_l13Hot (v := fun x : Option Addr × Nat => .slice x.1 (sgH rs).length x.2) (r := fun x => rowR 0 64 2 (sgH rs).length ((sgH rs).flatMap ptCells) x) (H := fun _ => True) rfl rfl rfl (by decide) (fun w1 hs => newRow' (l13Hot_any eA _ ec (edgesAll (bareRs rs)) w1 (rowLegs (k := 4) (x := (eA, ec)) (ls := edgesAll (bareRs rs)) rfl rfl w1 hs) hok h4)) ?_
  rintro ⟨pA, pc⟩ -
  refine at_rsE (by simp only [ya,yb,yc,yd,Value.cells,ye]; rfl) ?_
  refine at_op rfl ?_
  refine op_call ok_spec_l13Stable (X := (Option Addr × Nat) × Nat × Nat) (v := fun x => .tuple #[regV x.1.1 (stR (sgH rs) (bareRs rs)).length x.1.2, .int .i64 (stN (sgH rs) (bareRs rs)), .bool (stOk (sgH rs) (bareRs rs))]) (r := fun x => gegR (stR (sgH rs) (bareRs rs)).length (stR (sgH rs) (bareRs rs)) x.2.1 x.2.2 x.1.1) (H := fun _ => True) rfl rfl rfl (by decide) (fun w1 hs => gegNew (V := fun A' c' => .tuple #[regV A' (stR (sgH rs) (bareRs rs)).length c', .int .i64 (stN (sgH rs) (bareRs rs)), .bool (stOk (sgH rs) (bareRs rs))]) (l13Stable_any _ _ gA _ gc (bareRs rs) pA (sgH rs).length pc (sgH rs) w1 (rd1 (k := 3) rfl rfl w1 hs) (lt_of_some (hs.cel (k := 3) rfl)) (gegG (hs.all 2 _ rfl).1).rings hk.reg (ptsRow (hs.all 5 _ rfl).1 rfl) hk.len hk.ok hk.nd hk.bare)) ?_
  rintro ⟨⟨hA, hc⟩, hlo, hhi⟩ -
  refine at_rsE (by simp only [ya,yb,yc,yd,Value.cells,ye]; rfl) ?_
  refine at_q rfl rfl (by decide) (qt_move rfl rfl) ?_
  refine at_q rfl rfl (by decide) (qt_extract rfl rfl rfl) ?_
  refine at_q rfl rfl (by decide) (qt_extract rfl rfl rfl) ?_
  refine at_q rfl rfl (by decide) (qt_extract rfl rfl rfl) ?_
  refine at_op rfl ?_
  refine op_alloc rfl tyz_impl_Region rfl (by decide) (fun b4 => ?_)
  refine at_rsE (by simp only [ya,yb,yc,yd,Value.cells,ye]; rfl) ?_
  refine at_op rfl ?_
  refine op_storeAll' (k := 7) rfl rfl rfl rfl (rfl) (by rfl) tyz_impl_Region.szx rfl rfl rfl ?_
  refine at_rsE (by simp only [ya,yb,yc,yd,Value.cells,ye]; rfl) ?_
  refine at_q rfl rfl (by decide) (qt_assign rfl rfl) ?_
  refine at_q rfl rfl (by decide) (qt_assign rfl rfl) ?_
  refine at_end ?_
  refine at_seq ?_
  refine at_seq ?_
  refine at_region ?_
  refine at_q rfl rfl (by decide) (qt_move rfl rfl) ?_
  refine at_q rfl rfl (by decide) (qt_not rfl rfl) ?_
  refine at_end ?_
  refine at_cond rfl (fun c2 => ?_) (fun c2 => ?_)
  ·try simp only [za,zb,zc,zd,ze,zf,Bool.not_true,Bool.not_false,zg,zh,ne_eq,zi,zj] at c2
   refine at_seq ?_
   refine at_region ?_
   refine at_q rfl rfl (by decide) (qt_build rfl rfl (bld_impl_Region_)) ?_
   refine at_op rfl ?_
   refine op_storeAll' (k := 1) rfl rfl rfl rfl (rfl) (by rfl) tyz_impl_Region.szx rfl rfl rfl ?_
   refine at_rsE (by simp only [ya,yb,yc,yd,Value.cells,ye]; rfl) ?_
   refine at_q rfl rfl (by decide) (qt_assign rfl rfl) ?_
   refine at_q rfl rfl (by decide) (qt_assign rfl rfl) ?_
   refine at_end ?_
   refine at_retc ?_
   refine then_ret ?_
   refine at_ret3 rfl (rvCelS (k := 1) rfl tys_impl_Region rfl rfl) (.tmp rfl) (.tmp rfl) ?_
   intro w' hs
   have hn := st_no c2
   exact ⟨none, 0, by rw [e1, e2, e3, hn.1, hn.2, c2]; rfl, by rw [e1, hn.1]; exact OwnG.nil none, hs.fin⟩
  ·try simp only [za,zb,zc,zd,ze,zf,Bool.not_true,Bool.not_false,zg,zh,ne_eq,zi,zj] at c2
   refine at_skip ?_
   refine norm_then ?_
   refine at_seq ?_
   refine at_region ?_
   refine at_q rfl rfl (by decide) (qt_loadS rfl rfl tys_impl_Region rfl (rdAll (k := 7) rfl)) ?_
   refine at_q rfl rfl (by decide) (qt_move rfl rfl) ?_
   refine at_op rfl ?_
   refine op_storeAll' (k := 1) rfl rfl rfl rfl (rfl) (by rfl) tyz_impl_Region.szx rfl rfl rfl ?_
   refine at_rsE (by simp only [ya,yb,yc,yd,Value.cells,ye]; rfl) ?_
   refine at_q rfl rfl (by decide) (qt_assign rfl rfl) ?_
   refine at_q rfl rfl (by decide) (qt_assign rfl rfl) ?_
   refine at_end ?_
   refine at_retc ?_
   refine at_ret3 rfl (rvCelS (k := 1) rfl tys_impl_Region rfl rfl) (.tmp rfl) (.tmp rfl) ?_
   intro w' hs
   have hg := hs.all 6 _ rfl
   have ho := gegTop hg.1 (fun b hb => (hg.2.1 b hb).elim id (fun h => by cases h))
   exact ⟨hA, hc, by rw [e1, e2, e3, c2]; rfl, by rw [e1]; exact ho, hs.fin⟩
theorem law_SnapRegion (A : Option Addr) (n c : Nat) (rs : List Ring_) (w : World) (h : Rings w A n rs) (hm : (n : Int) ≤ 9223372036854775807) :
  Calls Tryz.prog 3 #[regV A n c] w fun e w' => e = .returned (.bool true) ∧ Over w w' := by
 have hl := h.1
 have hz : (total rs : Int) ≤ 1048576 → szV 1048576 (total rs) = 1048576 - total rs := szV_small
 have hz2 : ¬ (total rs : Int) ≤ 1048576 → szV 1048576 (total rs) = -1 := szV_big
 have hsm := sgR_small rs
 have hst := hsm.total
 have hss := hsm.sum rfl
 refine walk_from (m := 117) (Tryz.func3) rfl rfl (Nat.le_of_ble_eq_true rfl) ?_
 refine at_seq ?_
 refine at_region ?_
 refine at_op rfl ?_
 refine op_box rfl rfl (rfl) rfl (by decide) (fun b1 => ?_)
 refine at_rsE (by simp only [ya,yb,yc,yd,Value.cells,ye]; rfl) ?_
 refine at_q rfl rfl (by decide) (qt_assign rfl rfl) ?_
 refine at_end ?_
 refine at_seq ?_
 refine at_region ?_
 refine at_q rfl rfl (by decide) (qt_assign rfl rfl) ?_
 refine at_end ?_
 refine at_seq ?_
 refine at_region ?_
 refine at_q rfl rfl (by decide) (qt_loadS rfl rfl tys_laws_Region rfl (rdAll (k := 0) rfl)) ?_
 refine at_q rfl rfl (by decide) (qt_move rfl rfl) ?_
 refine at_q rfl rfl (by decide) (qt_call ok_laws_szRegion rfl rfl (fun w1 hs => szRegion_any A n c rs 1048576 w1 (h.over hs.fin) (by omega) (by omega) hm)) ?_
 refine at_q rfl rfl (by decide) (qt_assign rfl rfl) ?_
 refine at_end ?_
 refine at_seq ?_
 refine at_seq ?_
 refine at_region ?_
 refine at_q rfl rfl (by decide) (qt_move rfl rfl) ?_
 refine at_q rfl rfl (by decide) (qt_lss rfl rfl rfl) ?_
 refine at_end ?_
 refine at_cond rfl (fun c1 => ?_) (fun c1 => ?_)
 ·try simp only [za,zb,zc,zd,ze,zf,Bool.not_true,Bool.not_false,zg,zh,ne_eq,zi,zj] at c1
  refine at_seq ?_
  refine at_region ?_
  refine at_q rfl rfl (by decide) (qt_assign rfl rfl) ?_
  refine at_end ?_
  refine at_retc ?_
  refine then_ret ?_
  refine at_ret1 rfl (.tmp rfl) ?_
  intro w' hs
  exact ⟨rfl, hs.fin⟩
 ·try simp only [za,zb,zc,zd,ze,zf,Bool.not_true,Bool.not_false,zg,zh,ne_eq,zi,zj] at c1
  have ht : (total rs : Int) ≤ 1048576 := Decidable.byContradiction fun ht => by have := hz2 ht; omega
  clear hz hz2 hm
  have hts := total_sum ht hl
  refine at_skip ?_
  refine norm_then ?_
  refine at_seq ?_
  refine at_region ?_
  refine at_q rfl rfl (by decide) (qt_loadS rfl rfl tys_laws_Region rfl (rdAll (k := 0) rfl)) ?_
  refine at_op rfl ?_
  refine op_call ok_laws_toRegion (X := Nat × Nat × Nat) (v := fun x => regV (some ⟨x.1, 0, none⟩) n n) (r := fun x => gegR n rs x.2.1 x.2.2 (some ⟨x.1, 0, none⟩)) (H := fun _ => True) rfl rfl rfl (by decide) (fun w1 hs => gegNew1 (toRegion_new A n c rs w1 (h.over hs.fin) ht)) ?_
  rintro ⟨tg, tlo, thi⟩ -
  refine at_rsE (by simp only [ya,yb,yc,yd,Value.cells,ye]; rfl) ?_
  refine at_op rfl ?_
  refine op_call ok_spec_SnapRegion (X := (Option Addr × Nat) × Nat × Nat) (v := fun x => .tuple #[regV x.1.1 (sgR rs).length x.1.2, .int .i64 (sgN rs), .int .i64 (sgC rs)]) (r := fun x => gegR _ (sgR rs) x.2.1 x.2.2 x.1.1) (H := fun _ => True) rfl rfl rfl (by decide) (fun w1 hs => gegNew (V := fun A' c' => .tuple #[regV A' (sgR rs).length c', .int .i64 (sgN rs), .int .i64 (sgC rs)]) (specSnapRegion_any _ n n rs w1 (gegRings (k := 1) rfl w1 hs) (Int.le_trans ht (by decide)))) ?_
  rintro ⟨⟨wA, wc⟩, wlo, whi⟩ -
  refine at_rsE (by simp only [ya,yb,yc,yd,Value.cells,ye]; rfl) ?_
  refine at_q rfl rfl (by decide) (qt_move rfl rfl) ?_
  refine at_q rfl rfl (by decide) (qt_extract rfl rfl rfl) ?_
  refine at_q rfl rfl (by decide) (qt_extract rfl rfl rfl) ?_
  refine at_q rfl rfl (by decide) (qt_extract rfl rfl rfl) ?_
  refine at_op rfl ?_
  refine op_alloc rfl tyz_impl_Region rfl (by decide) (fun b2 => ?_)
  refine at_rsE (by simp only [ya,yb,yc,yd,Value.cells,ye]; rfl) ?_
  refine at_op rfl ?_
  refine op_storeAll' (k := 3) rfl rfl rfl rfl (rfl) (by rfl) tyz_impl_Region.szx rfl rfl rfl ?_
  refine at_rsE (by simp only [ya,yb,yc,yd,Value.cells,ye]; rfl) ?_
  refine at_q rfl rfl (by decide) (qt_assign rfl rfl) ?_
  refine at_q rfl rfl (by decide) (qt_assign rfl rfl) ?_
  refine at_end ?_
  refine at_seq ?_
  refine at_region ?_
  refine at_q rfl rfl (by decide) (qt_loadS rfl rfl tys_laws_Region rfl (rdAll (k := 0) rfl)) ?_
  refine at_op rfl ?_
  refine op_call ok_laws_toRegion (X := Nat × Nat × Nat) (v := fun x => regV (some ⟨x.1, 0, none⟩) n n) (r := fun x => gegR n rs x.2.1 x.2.2 (some ⟨x.1, 0, none⟩)) (H := fun _ => True) rfl rfl rfl (by decide) (fun w1 hs => gegNew1 (toRegion_new A n c rs w1 (h.over hs.fin) ht)) ?_
  rintro ⟨tg, tlo, thi⟩ -
  refine at_rsE (by simp only [ya,yb,yc,yd,Value.cells,ye]; rfl) ?_
  refine at_op rfl ?_
  refine op_alloc rfl tyz_impl_Region rfl (by decide) (fun b3 => ?_)
  refine at_rsE (by simp only [ya,yb,yc,yd,Value.cells,ye]; rfl) ?_
  refine at_op rfl ?_
  refine op_storeAll' (k := 5) rfl rfl rfl rfl (rfl) (by rfl) tyz_impl_Region.szx rfl rfl rfl ?_
  refine at_rsE (by simp only [ya,yb,yc,yd,Value.cells,ye]; rfl) ?_
  refine at_end ?_
  refine at_seq ?_
  refine at_region ?_
  refine at_q rfl rfl (by decide) (qt_loadS rfl rfl tys_impl_Region rfl (rdAll (k := 5) rfl)) ?_
  refine at_op rfl ?_
  refine op_call ok_impl_SnapRegion (X := (Option Addr × Nat) × Nat × Nat) (v := fun x => .tuple #[regV x.1.1 (sgR rs).length x.1.2, .int .i64 (sgN rs), .int .i64 (sgC rs)]) (r := fun x => gegR _ (sgR rs) x.2.1 x.2.2 x.1.1) (H := fun _ => True) rfl rfl rfl (by decide) (fun w1 hs => gegNew (V := fun A' c' => .tuple #[regV A' (sgR rs).length c', .int .i64 (sgN rs), .int .i64 (sgC rs)]) (SnapRegion_any _ n n rs w1 (gegRings (k := 4) rfl w1 hs) (Int.le_trans ht (by decide)))) ?_
  rintro ⟨⟨gA, gc⟩, glo, ghi⟩ -
  refine at_rsE (by simp only [ya,yb,yc,yd,Value.cells,ye]; rfl) ?_
  refine at_q rfl rfl (by decide) (qt_move rfl rfl) ?_
  refine at_q rfl rfl (by decide) (qt_extract rfl rfl rfl) ?_
  refine at_q rfl rfl (by decide) (qt_extract rfl rfl rfl) ?_
  refine at_q rfl rfl (by decide) (qt_extract rfl rfl rfl) ?_
  refine at_op rfl ?_
  refine op_alloc rfl tyz_impl_Region rfl (by decide) (fun b4 => ?_)
  refine at_rsE (by simp only [ya,yb,yc,yd,Value.cells,ye]; rfl) ?_
  refine at_op rfl ?_
  refine op_storeAll' (k := 7) rfl rfl rfl rfl (rfl) (by rfl) tyz_impl_Region.szx rfl rfl rfl ?_
  refine at_rsE (by simp only [ya,yb,yc,yd,Value.cells,ye]; rfl) ?_
  refine at_q rfl rfl (by decide) (qt_assign rfl rfl) ?_
  refine at_q rfl rfl (by decide) (qt_assign rfl rfl) ?_
  refine at_end ?_
  refine at_seq ?_
  refine at_seq ?_
  refine at_region ?_
  refine at_q rfl rfl (by decide) (qt_loadS rfl rfl tys_impl_Region rfl (rdAll (k := 7) rfl)) ?_
  refine at_q rfl rfl (by decide) (qt_loadS rfl rfl tys_impl_Region rfl (rdAll (k := 3) rfl)) ?_
  refine at_q rfl rfl (by decide) (qt_call ok_laws_eqRegion rfl rfl (fun w1 hs => eqRegion_same _ _ _ _ _ (sgR rs) w1 (gegRings (k := 6) rfl w1 hs) (gegRings (k := 2) rfl w1 hs) hst)) ?_
  refine at_q rfl rfl (by decide) (qt_not rfl rfl) ?_
  refine at_q rfl rfl (by decide) (qt_move rfl rfl) ?_
  refine at_as 41 (.bool false) rfl (by rw [notTrue]) ?_
  refine at_on rfl rfl rfl rfl ?_
  refine op_q rfl (by decide) (qt_move rfl rfl) ?_
  refine at_on rfl rfl rfl rfl ?_
  refine op_q rfl (by decide) (qt_move rfl rfl) ?_
  refine at_on rfl rfl rfl rfl ?_
  refine op_q rfl (by decide) (qt_neq rfl rfl rfl) ?_
  refine at_q rfl rfl (by decide) (qt_pickF rfl rfl rfl) ?_
  refine at_q rfl rfl (by decide) (qt_move rfl rfl) ?_
  refine at_as 46 (.bool false) rfl (by rw [(neSelf _)]) ?_
  refine at_on rfl rfl rfl rfl ?_
  refine op_q rfl (by decide) (qt_move rfl rfl) ?_
  refine at_on rfl rfl rfl rfl ?_
  refine op_q rfl (by decide) (qt_move rfl rfl) ?_
  refine at_on rfl rfl rfl rfl ?_
  refine op_q rfl (by decide) (qt_neq rfl rfl rfl) ?_
  refine at_q rfl rfl (by decide) (qt_pickF rfl rfl rfl) ?_
  refine at_end ?_
  refine at_no rfl (neSelf _) ?_
  refine at_skip ?_
  refine norm_then ?_
  refine at_seq ?_
  refine at_seq ?_
  refine dg_start mixed rfl ?_
  refine dg_phase 5 ?_
  refine dg_q (i := 0) rfl (by kernel_rfl) (by kernel_rfl) (by kernel_rfl) [] (by kernel_rfl) (fun _ _ _ h => h) rfl rfl (by decide) (fun _ h => h.upto ⟨rfl, rfl, rfl, rfl, rfl, rfl, rfl, rfl, trivial⟩) (qt_loadS rfl rfl tys_impl_Region rfl (rdAll (k := 5) rfl)) ?_
  refine dg_q (i := 1) rfl (by kernel_rfl) (by kernel_rfl) (by kernel_rfl) [] (by kernel_rfl) (fun _ _ _ h => h) rfl rfl (by decide) (fun _ h => h.upto ⟨rfl, rfl, rfl, rfl, rfl, rfl, rfl, rfl, trivial⟩) (qt_loadS rfl rfl tys_laws_Region rfl (rdAll (k := 0) rfl)) ?_
  refine dg_one (i := 2) rfl (by decide) (by kernel_rfl) rfl ?_
  refine op_call ok_laws_toRegion (X := Nat × Nat × Nat) (v := fun x => regV (some ⟨x.1, 0, none⟩) n n) (r := fun x => gegR n rs x.2.1 x.2.2 (some ⟨x.1, 0, none⟩)) (H := fun _ => True) rfl rfl rfl (by decide) (fun w1 hs => gegNew1 (toRegion_new A n c rs w1 (h.over hs.fin) ht)) ?_
  rintro ⟨tg, tlo, thi⟩ -
  refine at_rsE (by simp only [ya,yb,yc,yd,Value.cells,ye]; rfl) ?_
  refine dr_more (fun _ h => h.upto ⟨rfl, rfl, rfl, rfl, rfl, rfl, rfl, rfl, trivial⟩) ?_
  refine dg_q (i := 3) rfl (by kernel_rfl) (by kernel_rfl) (by kernel_rfl) [] (by kernel_rfl) (fun _ _ _ h => h) rfl rfl (by decide) (fun _ h => h.upto ⟨rfl, rfl, rfl, rfl, rfl, rfl, rfl, rfl, rfl, trivial⟩) (qt_call ok_laws_eqRegion rfl rfl (fun w1 hs => eqRegion_same _ _ _ _ _ rs w1 (gegRings (k := 4) rfl w1 hs) (gegRings (k := 8) rfl w1 hs) ht)) ?_
  refine dg_q (i := 4) rfl (by kernel_rfl) (by kernel_rfl) (by kernel_rfl) [] (by kernel_rfl) (fun _ _ _ h => h) rfl rfl (by decide) (fun _ h => h.upto ⟨rfl, rfl, rfl, rfl, rfl, rfl, rfl, rfl, rfl, trivial⟩) (qt_not rfl rfl) ?_
  refine dg_done (by kernel_rfl) ?_
  refine norm_then ?_
  refine at_no rfl (rfl) ?_
  refine at_skip ?_
  refine norm_then ?_
  refine at_seq ?_
  refine at_region ?_
  refine at_q rfl rfl (by decide) (qt_assign rfl rfl) ?_
  refine at_end ?_
  refine at_seq ?_
  refine at_region ?_
  refine at_q rfl rfl (by decide) (qt_loadS rfl rfl tys_impl_Region rfl (rdAll (k := 5) rfl)) ?_
  refine at_q rfl rfl (by decide) (qt_move rfl rfl) ?_
  refine at_op rfl ?_
  refine op_callw (k := 4) (r' := gegR n (marksR 1 rs) _ _ _) ok_laws_markRegion rfl rfl rfl (by decide) rfl (fun w1 hs => markGeg (gegS (k := 4) rfl w1 hs) (gegH (k := 4) rfl w1 hs) hts) (fun _ h => h) rfl ?_
  refine at_rsE (by simp only [ya,yb,yc,yd,Value.cells,ye]; rfl) ?_
  refine at_q rfl rfl (by decide) (qt_assign rfl rfl) ?_
  refine at_end ?_
  refine at_seq ?_
  refine at_seq ?_
  refine at_region ?_
  refine at_q rfl rfl (by decide) (qt_move rfl rfl) ?_
  refine at_q rfl rfl (by decide) (qt_lss rfl rfl rfl) ?_
  refine at_q rfl rfl (by decide) (qt_move rfl rfl) ?_
  refine at_as 61 (.bool false) rfl (by rw [(posF _)]) ?_
  refine at_on rfl rfl rfl rfl ?_
  refine op_q rfl (by decide) (qt_loadS rfl rfl tys_impl_Region rfl (rdAll (k := 7) rfl)) ?_
  refine at_on rfl rfl rfl rfl ?_
  refine op_q rfl (by decide) (qt_loadS rfl rfl tys_impl_Region rfl (rdAll (k := 3) rfl)) ?_
  refine at_on rfl rfl rfl rfl ?_
  refine op_q rfl (by decide) (qt_call ok_laws_eqRegion rfl rfl (fun w1 hs => eqRegion_same _ _ _ _ _ (sgR rs) w1 (gegRings (k := 6) rfl w1 hs) (gegRings (k := 2) rfl w1 hs) hst)) ?_
  refine at_on rfl rfl rfl rfl ?_
  refine op_q rfl (by decide) (qt_not rfl rfl) ?_
  refine at_q rfl rfl (by decide) (qt_pickF rfl rfl rfl) ?_
  refine at_q rfl rfl (by decide) (qt_move rfl rfl) ?_
  refine at_as 67 (.bool false) rfl (by rw [notTrue]) ?_
  refine at_on rfl rfl rfl rfl ?_
  refine op_q rfl (by decide) (qt_move rfl rfl) ?_
  refine at_on rfl rfl rfl rfl ?_
  refine op_q rfl (by decide) (qt_move rfl rfl) ?_
  refine at_on rfl rfl rfl rfl ?_
  refine op_q rfl (by decide) (qt_neq rfl rfl rfl) ?_
  refine at_q rfl rfl (by decide) (qt_pickF rfl rfl rfl) ?_
  refine at_q rfl rfl (by decide) (qt_move rfl rfl) ?_
  refine at_as 72 (.bool false) rfl (by rw [(neSelf _)]) ?_
  refine at_on rfl rfl rfl rfl ?_
  refine op_q rfl (by decide) (qt_move rfl rfl) ?_
  refine at_on rfl rfl rfl rfl ?_
  refine op_q rfl (by decide) (qt_move rfl rfl) ?_
  refine at_on rfl rfl rfl rfl ?_
  refine op_q rfl (by decide) (qt_neq rfl rfl rfl) ?_
  refine at_q rfl rfl (by decide) (qt_pickF rfl rfl rfl) ?_
  refine at_end ?_
  refine at_no rfl (neSelf _) ?_
  refine at_skip ?_
  refine norm_then ?_
  refine at_seq ?_
  refine at_region ?_
  refine at_q rfl rfl (by decide) (qt_assign rfl rfl) ?_
  refine at_end ?_
  refine at_seq ?_
  refine at_region ?_
  refine at_q rfl rfl (by decide) (qt_loadS rfl rfl tys_impl_Region rfl (rdAll (k := 7) rfl)) ?_
  refine at_q rfl rfl (by decide) (qt_move rfl rfl) ?_
  refine at_op rfl ?_
  refine op_callw (k := 6) (r' := gegR _ (marksR 1 (sgR rs)) _ _ _) ok_laws_markRegion rfl rfl rfl (by decide) rfl (fun w1 hs => markGeg (gegS (k := 6) rfl w1 hs) (gegH (k := 6) rfl w1 hs) hss) (fun _ h => h) rfl ?_
  refine at_rsE (by simp only [ya,yb,yc,yd,Value.cells,ye]; rfl) ?_
  refine at_q rfl rfl (by decide) (qt_assign rfl rfl) ?_
  refine at_end ?_
  refine at_seq ?_
  refine at_region ?_
  refine at_q rfl rfl (by decide) (qt_assign rfl rfl) ?_
  refine at_end ?_
  refine at_seq ?_
  refine at_region ?_
  refine at_q rfl rfl (by decide) (qt_loadS rfl rfl tys_impl_Region rfl (rdAll (k := 7) rfl)) ?_
  refine at_q rfl rfl (by decide) (qt_move rfl rfl) ?_
  refine at_q rfl rfl (by decide) (qt_call ok_laws_heldRegion rfl rfl (fun w1 hs => heldGeg (gegRings (k := 6) rfl w1 hs) hss)) ?_
  refine at_q rfl rfl (by decide) (qt_assign rfl rfl) ?_
  refine at_end ?_
  refine at_seq ?_
  refine at_seq ?_
  refine at_region ?_
  refine at_q rfl rfl (by decide) (qt_move rfl rfl) ?_
  refine at_q rfl rfl (by decide) (qt_lss rfl rfl rfl) ?_
  refine at_end ?_
  refine at_no rfl (posF _) ?_
  refine at_skip ?_
  refine norm_then ?_
  refine at_seq ?_
  refine at_seq ?_
  refine at_region ?_
  refine at_q rfl rfl (by decide) (qt_move rfl rfl) ?_
  refine at_q rfl rfl (by decide) (qt_move rfl rfl) ?_
  refine at_q rfl rfl (by decide) (qt_neq rfl rfl rfl) ?_
  refine at_end ?_
  refine at_no rfl (neSelf _) ?_
  refine at_skip ?_
  refine norm_then ?_
  refine at_seq ?_
  refine at_region ?_
  refine at_q rfl rfl (by decide) (qt_loadS rfl rfl tys_laws_Region rfl (rdAll (k := 0) rfl)) ?_
  refine at_op rfl ?_
  refine op_call ok_laws_toRegion (X := Nat × Nat × Nat) (v := fun x => regV (some ⟨x.1, 0, none⟩) n n) (r := fun x => gegR n rs x.2.1 x.2.2 (some ⟨x.1, 0, none⟩)) (H := fun _ => True) rfl rfl rfl (by decide) (fun w1 hs => gegNew1 (toRegion_new A n c rs w1 (h.over hs.fin) ht)) ?_
  rintro ⟨tg, tlo, thi⟩ -
  refine at_rsE (by simp only [ya,yb,yc,yd,Value.cells,ye]; rfl) ?_
  refine at_op rfl ?_
  refine op_call ok_impl_SnapRegion (X := (Option Addr × Nat) × Nat × Nat) (v := fun x => .tuple #[regV x.1.1 (sgR rs).length x.1.2, .int .i64 (sgN rs), .int .i64 (sgC rs)]) (r := fun x => gegR _ (sgR rs) x.2.1 x.2.2 x.1.1) (H := fun _ => True) rfl rfl rfl (by decide) (fun w1 hs => gegNew (V := fun A' c' => .tuple #[regV A' (sgR rs).length c', .int .i64 (sgN rs), .int .i64 (sgC rs)]) (SnapRegion_any _ n n rs w1 (gegRings (k := 9) rfl w1 hs) (Int.le_trans ht (by decide)))) ?_
  rintro ⟨⟨hA, hc⟩, hlo, hhi⟩ -
  refine at_rsE (by simp only [ya,yb,yc,yd,Value.cells,ye]; rfl) ?_
  refine at_q rfl rfl (by decide) (qt_move rfl rfl) ?_
  refine at_q rfl rfl (by decide) (qt_extract rfl rfl rfl) ?_
  refine at_q rfl rfl (by decide) (qt_extract rfl rfl rfl) ?_
  refine at_q rfl rfl (by decide) (qt_extract rfl rfl rfl) ?_
  refine at_op rfl ?_
  refine op_alloc rfl tyz_impl_Region rfl (by decide) (fun b5 => ?_)
  refine at_rsE (by simp only [ya,yb,yc,yd,Value.cells,ye]; rfl) ?_
  refine at_op rfl ?_
  refine op_storeAll' (k := 11) rfl rfl rfl rfl (rfl) (by rfl) tyz_impl_Region.szx rfl rfl rfl ?_
  refine at_rsE (by simp only [ya,yb,yc,yd,Value.cells,ye]; rfl) ?_
  refine at_q rfl rfl (by decide) (qt_assign rfl rfl) ?_
  refine at_q rfl rfl (by decide) (qt_assign rfl rfl) ?_
  refine at_end ?_
  refine at_seq ?_
  refine at_seq ?_
  refine at_region ?_
  refine at_q rfl rfl (by decide) (qt_loadS rfl rfl tys_impl_Region rfl (rdAll (k := 11) rfl)) ?_
  refine at_q rfl rfl (by decide) (qt_loadS rfl rfl tys_impl_Region rfl (rdAll (k := 3) rfl)) ?_
  refine at_q rfl rfl (by decide) (qt_call ok_laws_eqRegion rfl rfl (fun w1 hs => eqRegion_same _ _ _ _ _ (sgR rs) w1 (gegRings (k := 10) rfl w1 hs) (gegRings (k := 2) rfl w1 hs) hst)) ?_
  refine at_q rfl rfl (by decide) (qt_not rfl rfl) ?_
  refine at_q rfl rfl (by decide) (qt_move rfl rfl) ?_
  refine at_as 99 (.bool false) rfl (by rw [notTrue]) ?_
  refine at_on rfl rfl rfl rfl ?_
  refine op_q rfl (by decide) (qt_move rfl rfl) ?_
  refine at_on rfl rfl rfl rfl ?_
  refine op_q rfl (by decide) (qt_move rfl rfl) ?_
  refine at_on rfl rfl rfl rfl ?_
  refine op_q rfl (by decide) (qt_neq rfl rfl rfl) ?_
  refine at_q rfl rfl (by decide) (qt_pickF rfl rfl rfl) ?_
  refine at_q rfl rfl (by decide) (qt_move rfl rfl) ?_
  refine at_as 104 (.bool false) rfl (by rw [(neSelf _)]) ?_
  refine at_on rfl rfl rfl rfl ?_
  refine op_q rfl (by decide) (qt_move rfl rfl) ?_
  refine at_on rfl rfl rfl rfl ?_
  refine op_q rfl (by decide) (qt_move rfl rfl) ?_
  refine at_on rfl rfl rfl rfl ?_
  refine op_q rfl (by decide) (qt_neq rfl rfl rfl) ?_
  refine at_q rfl rfl (by decide) (qt_pickF rfl rfl rfl) ?_
  refine at_end ?_
  refine at_no rfl (neSelf _) ?_
  refine at_skip ?_
  refine norm_then ?_
  refine at_seq ?_
  refine at_region ?_
  refine at_q rfl rfl (by decide) (qt_assign rfl rfl) ?_
  refine at_end ?_
  refine at_seq ?_
  refine at_region ?_
  refine at_q rfl rfl (by decide) (qt_loadS rfl rfl tys_impl_Region rfl (rdAll (k := 7) rfl)) ?_
  refine at_q rfl rfl (by decide) (qt_move rfl rfl) ?_
  refine at_q rfl rfl (by decide) (qt_call ok_laws_heldRegion rfl rfl (fun w1 hs => heldGeg (gegRings (k := 6) rfl w1 hs) hss)) ?_
  refine at_q rfl rfl (by decide) (qt_assign rfl rfl) ?_
  refine at_end ?_
  refine at_seq ?_
  refine at_seq ?_
  refine at_region ?_
  refine at_q rfl rfl (by decide) (qt_move rfl rfl) ?_
  refine at_q rfl rfl (by decide) (qt_lss rfl rfl rfl) ?_
  refine at_end ?_
  refine at_no rfl (posF _) ?_
  refine at_skip ?_
  refine norm_then ?_
  refine at_seq ?_
  refine at_seq ?_
  refine at_region ?_
  refine at_q rfl rfl (by decide) (qt_move rfl rfl) ?_
  refine at_q rfl rfl (by decide) (qt_move rfl rfl) ?_
  refine at_q rfl rfl (by decide) (qt_neq rfl rfl rfl) ?_
  refine at_end ?_
  refine at_no rfl (neSelf _) ?_
  refine at_skip ?_
  refine norm_then ?_
  refine at_seq ?_
  refine at_region ?_
  refine at_q rfl rfl (by decide) (qt_assign rfl rfl) ?_
  refine at_end ?_
  refine at_retc ?_
  refine at_ret1 rfl (.tmp rfl) ?_
  intro w' hs
  exact ⟨rfl, hs.fin⟩
end Go.Proofs.YtakdjgldcpompaaGreat
