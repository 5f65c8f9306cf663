import Derived.Test.YtjhaakollekjeaaDoorR20
import Derived.Test.YtjhaakollekjeaaDoorR13
namespace Go.Proofs.YtjhaakollekjeaaDoor
open Go Go.RowKit
set_option linter.unusedVariables false
set_option linter.unusedSimpArgs false
set_option maxRecDepth 100000
set_option maxHeartbeats 4000000
set_option linter.unusedVariables false
set_option linter.unusedSimpArgs false
theorem rowTop {w w' : World} {Rs : List Res} (hs : St ⟨w, []⟩ Rs w') {k B T s n : Nat} {xs : List Value} {x : Option Addr × Nat} (hk : Rs[k]? = some (rowR B T s n xs x)) : w'.ownsRow w.heap.size T s (.slice x.1 n x.2) n xs := by
 have h : w'.ownsRow B T s (.slice x.1 n x.2) n xs := (hs.all k _ hk).1
 refine ⟨h.1, ?_⟩
 rcases h.2 with hn | ⟨g, cap, cur, e, hb, rest⟩
 ·exact .inl hn
 ·refine .inr ⟨g, cap, cur, e, ?_, rest⟩
  exact ((hs.all k _ hk).2.1 g (by show Value.ownBlock _ = some g; rw [e]; rfl)).elim id (fun h => by cases h)
abbrev LinG (o : Option (List (List UInt8))) (e : Ending) (w w' : World) : Prop := ∃ v, e = .returned (.tuple #[v, .bool o.isSome]) ∧ True ∧ w'.ownsRow w.heap.size 9 1 v (o.getD []).length ((o.getD []).map sV) ∧ Over w w'
theorem last_at {l : List UInt8} (h : ¬ l = []) (j : Nat) (hj : j + 1 = l.length) : l.getLast? = some (l[j]'(by omega)) := by
 rw [List.getLast?_eq_getElem?, show l.length - 1 = j by omega, List.getElem?_eq_getElem]
theorem textLines_any (l : List UInt8) (w : World) (hM : MaxL w) (hl : l.length ≤ 1048576) : Calls Tryd.prog 24 #[sV l] w fun e w' => LinG (linI l) e w w' := by
 refine walk_from (m := 18) (Tryd.func24) rfl rfl (Nat.le_of_ble_eq_true rfl) ?_
 refine at_seq ?_
 refine at_region ?_
 refine at_q rfl rfl (by decide) (qt_assign rfl rfl) ?_
 refine at_q rfl rfl (by decide) (qt_assign rfl rfl) ?_
 refine at_end ?_
 refine at_seq ?_
 refine at_seq ?_
 refine at_region ?_
 refine at_q rfl rfl (by decide) (qt_move rfl rfl) ?_
 refine at_q rfl rfl (by decide) (qt_eqlL (m := []) rfl rfl rfl) ?_
 refine at_end ?_
 refine at_cond rfl (fun c1 => ?_) (fun c1 => ?_)
 ·try simp only [za,zb,zc,zd,ze,zf,Bool.not_true,Bool.not_false,zg,zh,ne_eq,zi,zj] at c1
  refine at_seq ?_
  refine at_region ?_
  refine at_q rfl rfl (by decide) (qt_assign rfl rfl) ?_
  refine at_q rfl rfl (by decide) (qt_assign rfl rfl) ?_
  refine at_end ?_
  refine at_retc ?_
  refine then_ret ?_
  refine at_ret2 rfl (.tmp rfl) (.tmp rfl) ?_
  intro w' hs
  exact ⟨_, by rw [linI, if_pos (by simpa using c1)]; rfl, trivial, by rw [linI, if_pos (by simpa using c1)]; exact World.ownsRow_nil _ _ _ _, hs.fin⟩
 ·try simp only [za,zb,zc,zd,ze,zf,Bool.not_true,Bool.not_false,zg,zh,ne_eq,zi,zj] at c1
  have hne : ¬ l = [] := (by simpa using c1)
  have hpos : 0 < l.length := List.length_pos_iff.2 hne
  obtain ⟨j, hj⟩ : ∃ j, j + 1 = l.length := ⟨l.length - 1, by omega⟩
  have hla := last_at hne j hj
  refine at_skip ?_
  refine norm_then ?_
  refine at_seq ?_
  refine at_seq ?_
  refine at_region ?_
  refine at_q rfl rfl (by decide) (qt_move rfl rfl) ?_
  refine at_q rfl rfl (by decide) (qt_move rfl rfl) ?_
  refine at_q rfl rfl (by decide) (qt_lenL rfl rfl Tryd.underlying9) ?_
  refine at_q rfl rfl (by decide) ((qt_sub rfl rfl rfl (by omega) (by omega)).as (congrArg _ (show (l.length : Int) - 1 = (j : Int) by omega))) ?_
  refine at_q rfl rfl (by decide) (qt_idxL (j := j) rfl rfl rfl Tryd.underlying9 (by omega)) ?_
  refine at_q rfl rfl (by decide) (qt_neq8 10 rfl rfl rfl) ?_
  refine at_end ?_
  refine at_cond rfl (fun c2 => ?_) (fun c2 => ?_)
  ·try simp only [za,zb,zc,zd,ze,zf,Bool.not_true,Bool.not_false,zg,zh,ne_eq,zi,zj] at c2
   refine at_seq ?_
   refine at_region ?_
   refine at_q rfl rfl (by decide) (qt_assign rfl rfl) ?_
   refine at_q rfl rfl (by decide) (qt_assign rfl rfl) ?_
   refine at_end ?_
   refine at_retc ?_
   refine then_ret ?_
   refine at_ret2 rfl (.tmp rfl) (.tmp rfl) ?_
   intro w' hs
   have hc : ¬ l[j]'(by omega) = 10 := (by simpa using c2)
   exact ⟨_, by rw [linI, if_neg hne, hla, if_neg (fun k => hc (Option.some.inj k))]; rfl, trivial, by rw [linI, if_neg hne, hla, if_neg (fun k => hc (Option.some.inj k))]; exact World.ownsRow_nil _ _ _ _, hs.fin⟩
  ·try simp only [za,zb,zc,zd,ze,zf,Bool.not_true,Bool.not_false,zg,zh,ne_eq,zi,zj] at c2
   have hc : l[j]'(by omega) = 10 := (by simpa using c2)
   have eI : linI l = some (splL 10 l.dropLast) := (by rw [linI, if_neg hne, hla, if_pos (by rw [hc])])
   have hdl : l.take j = l.dropLast := (by rw [List.dropLast_eq_take, show l.length - 1 = j by omega])
   refine at_skip ?_
   refine norm_then ?_
   refine at_seq ?_
   refine at_region ?_
   refine at_q rfl rfl (by decide) (qt_move rfl rfl) ?_
   refine at_q rfl rfl (by decide) (qt_move rfl rfl) ?_
   refine at_q rfl rfl (by decide) (qt_lenL rfl rfl Tryd.underlying9) ?_
   refine at_q rfl rfl (by decide) ((qt_sub rfl rfl rfl (by omega) (by omega)).as (congrArg _ (show (l.length : Int) - 1 = (j : Int) by omega))) ?_
   refine at_q rfl rfl (by decide) (qt_toL (j := j) rfl rfl rfl Tryd.underlying9 (by omega)) ?_
   refine at_op rfl ?_
   refine op_call ok_strings_Split (X := Option Addr × Nat) (v := fun x => .slice x.1 (splL 10 l.dropLast).length x.2) (r := fun x => rowR 0 9 1 (splL 10 l.dropLast).length ((splL 10 l.dropLast).map sV) x) (H := fun _ => True) rfl rfl rfl (by decide) (fun w1 hs => newRow (show Calls Tryd.prog 48 #[sV (l.take j), .string ⟨#[10]⟩] w1 _ from by rw [hdl]; exact Split_any 10 l.dropLast w1 (hM.over hs.fin) (by rw [List.length_dropLast]; omega))) ?_
   rintro ⟨sA, sc⟩ -
   refine at_rsE (by simp only [ya,yb,yc,yd,Value.cells,ye]; rfl) ?_
   refine at_q rfl rfl (by decide) (qt_assign rfl rfl) ?_
   refine at_q rfl rfl (by decide) (qt_assign rfl rfl) ?_
   refine at_end ?_
   refine at_retc ?_
   refine at_ret2 rfl (.tmp rfl) (.tmp rfl) ?_
   intro w' hs
   refine ⟨_, by rw [eI]; rfl, trivial, ?_, hs.fin⟩
   rw [eI]
   exact rowTop hs (k := 0) rfl
/-! ### Regions -/
abbrev RgG (o : Option (List Ring_)) (e : Ending) (w w' : World) : Prop := ∃ A c, e = .returned (.tuple #[regV A (o.getD []).length c, .bool o.isSome]) ∧ OwnG w.heap.size w'.heap.size w' A (o.getD []).length (o.getD []) ∧ Over w w'
theorem rgg_no {o : Option (List Ring_)} {w w' : World} (h : o = none) (ho : Over w w') : RgG o (.returned (.tuple #[regV none 0 0, .bool false])) w w' := by
 subst h
 exact ⟨none, 0, rfl, OwnG.nil none, ho⟩
theorem rgg_yes {o : Option (List Ring_)} {rs : List Ring_} {w w' : World} {Rs : List Res} (hs : St ⟨w, []⟩ Rs w') {kr kp B k : Nat} {l : List Pc} {x : Option Addr × Nat} (hr : Rs[kr]? = some (rowR B 66 1 k (l.map Pc.val) x)) (hp : Rs[kp]? = some (pcsR l)) (hne : kr ≠ kp) (hl : l.length = k) (hrs : l.map (·.xs) = rs) (hm : total rs ≤ 1048577) (h : o = some rs) (ho : Over w w') : RgG o (.returned (.tuple #[regV x.1 k x.2, .bool true])) w w' := by
 subst h
 have hk : rs.length = k := by rw [← hrs, List.length_map]; exact hl
 exact ⟨x.1, x.2, by show _ = Ending.returned (.tuple #[regV x.1 rs.length x.2, .bool true]); rw [hk], by show OwnG _ _ _ _ rs.length rs; rw [hk]; exact pcs_row hs hr hp hne rfl hl hrs (fun j hj => by have := rg_le_total rs hj; omega), ho⟩
theorem rgI_no {l : List UInt8} (h : linI l = none) : txRgI l = none := by unfold txRgI; rw [h]
theorem rgI_all {l : List UInt8} {L : List (List UInt8)} (h : linI l = some L) (h2 : allO txPtsI L = none) : txRgI l = none := by unfold txRgI; rw [h]; show rgO (allO txPtsI L) = none; rw [h2]; rfl
theorem rgI_if {l : List UInt8} {L : List (List UInt8)} {rs : List Ring_} (h : linI l = some L) (h2 : allO txPtsI L = some rs) : txRgI l = if regionB rs = true then some rs else none := by unfold txRgI; rw [h]; show rgO (allO txPtsI L) = _; rw [h2]; rfl
theorem lin_facts {l : List UInt8} {L : List (List UInt8)} (hl : l.length ≤ 1048576) (h : linI l = some L) : (∀ x ∈ L, x.length ≤ 1048576) ∧ L.length ≤ 1048577 ∧ ∀ rs, allO txPtsI L = some rs → total rs ≤ 1048577 := by
 unfold linI at h
 split at h
 ·injection h with h
  subst h
  exact ⟨fun x hx => (by cases hx), (by simp), fun rs hr => by simp [allO] at hr; subst hr; simp [total, sumTo]⟩
 ·split at h
  ·injection h with h
   subst h
   have h1 := splL_sum 10 l.dropLast
   have h2 : l.dropLast.length ≤ l.length := by rw [List.length_dropLast]; omega
   exact ⟨fun x hx => Nat.le_trans (spl_word hx) (by omega), by omega, fun rs hr => by have := total_tx (f := txPtsI) (fun l ps hp => ptsI_len hp) hr; omega⟩
  ·cases h
theorem ReadRegion_any (l : List UInt8) (w : World) (hM : MaxL w) (hl : l.length ≤ 1048576) : Calls Tryd.prog 6 #[sV l] w fun e w' => RgG (txRgI l) e w w' := by
 obtain ⟨o, ho⟩ : ∃ o, o = linI l := ⟨_, rfl⟩
 refine walk_from (m := 46) (Tryd.func6) rfl rfl (Nat.le_of_ble_eq_true rfl) ?_
 refine at_seq ?_
 refine at_region ?_
 refine at_op rfl ?_
 refine op_alloc rfl tyz_impl_Region rfl (by decide) (fun b1 => ?_)
 refine at_rsE (by simp only [ya,yb,yc,yd,Value.cells,ye]; rfl) ?_
 refine at_q rfl rfl (by decide) (qt_assign rfl rfl) ?_
 refine at_end ?_
 refine at_seq ?_
 refine at_region ?_
 refine at_q rfl rfl (by decide) (qt_move rfl rfl) ?_
 refine at_op rfl ?_
 refine op_call ok_impl_textLines (X := Option Addr × Nat) (v := fun x => .tuple #[.slice x.1 (o.getD []).length x.2, .bool o.isSome]) (r := fun x => rowR 0 9 1 (o.getD []).length ((o.getD []).map sV) x) (H := fun _ => True) rfl rfl rfl (by decide) (fun w1 hs => newRowV (V := fun v => .tuple #[v, .bool o.isSome]) (ho ▸ textLines_any l w1 (hM.over hs.fin) hl)) ?_
 rintro ⟨sA, sc⟩ -
 refine at_rsE (by simp only [ya,yb,yc,yd,Value.cells,ye]; rfl) ?_
 refine at_q rfl rfl (by decide) (qt_move rfl rfl) ?_
 refine at_q rfl rfl (by decide) (qt_extract rfl rfl rfl) ?_
 refine at_q rfl rfl (by decide) (qt_extract rfl rfl rfl) ?_
 refine at_q rfl rfl (by decide) (qt_assign rfl rfl) ?_
 refine at_q rfl rfl (by decide) (qt_assign rfl rfl) ?_
 refine at_end ?_
 refine at_seq ?_
 refine at_seq ?_
 refine at_region ?_
 refine at_q rfl rfl (by decide) (qt_move rfl rfl) ?_
 refine at_q rfl rfl (by decide) (qt_not rfl rfl) ?_
 refine at_end ?_
 refine at_cond rfl (fun c1 => ?_) (fun c1 => ?_)
 ·try simp only [za,zb,zc,zd,ze,zf,Bool.not_true,Bool.not_false,zg,zh,ne_eq,zi,zj] at c1
  refine at_seq ?_
  refine at_region ?_
  refine at_q rfl rfl (by decide) (qt_build rfl rfl (bld_impl_Region_)) ?_
  refine at_op rfl ?_
  refine op_storeAll' (k := 0) rfl rfl rfl rfl (rfl) (by rfl) tyz_impl_Region.szx rfl rfl rfl ?_
  refine at_rsE (by simp only [ya,yb,yc,yd,Value.cells,ye]; rfl) ?_
  refine at_q rfl rfl (by decide) (qt_assign rfl rfl) ?_
  refine at_end ?_
  refine at_retc ?_
  refine then_ret ?_
  refine at_ret2 rfl (rvCelS (k := 0) rfl tys_impl_Region rfl rfl) (.tmp rfl) ?_
  intro w' hs
  exact rgg_no (rgI_no (by rw [← ho]; simpa using c1)) hs.fin
 ·try simp only [za,zb,zc,zd,ze,zf,Bool.not_true,Bool.not_false,zg,zh,ne_eq,zi,zj] at c1
  obtain ⟨LS, hL⟩ : ∃ LS, o = some LS := Option.isSome_iff_exists.1 (by simpa using c1)
  subst hL
  obtain ⟨hw, hLl, htot⟩ := lin_facts hl ho.symm
  rw [Option.getD_some]
  refine at_skip ?_
  refine norm_then ?_
  refine at_seq ?_
  refine at_region ?_
  refine at_op rfl ?_
  refine op_alloc rfl tyz_impl_Region rfl (by decide) (fun b2 => ?_)
  refine at_rsE (by simp only [ya,yb,yc,yd,Value.cells,ye]; rfl) ?_
  refine at_end ?_
  refine at_row0 (T := 66) (s := 1) ?_
  refine at_rsE (by simp only [List.nil_append, List.cons_append, List.set_cons_zero, List.set_cons_succ, List.eraseIdx_cons_zero, List.eraseIdx_cons_succ, Value.cells, List.toList_toArray]; rfl) ?_
  refine at_many0 ?_
  refine at_rsE (by simp only [List.nil_append, List.cons_append, List.set_cons_zero, List.set_cons_succ, List.eraseIdx_cons_zero, List.eraseIdx_cons_succ, Value.cells, List.toList_toArray]; rfl) ?_
  refine at_seq ?_
  refine at_seq ?_
  refine at_region ?_
  refine at_q rfl rfl (by decide) (qt_move rfl rfl) ?_
  refine at_q rfl rfl (by decide) (qt_len rfl rfl tyl_sl_string) ?_
  refine at_q rfl rfl (by decide) (qt_move rfl rfl) ?_
  refine at_end ?_
  refine at_block ?_
  refine at_loopc (X := Nat × (Option Addr × Nat) × List Pc) (fun x => x.1 ≤ LS.length ∧ allO txPtsI (LS.take x.1) = some (x.2.2.map (·.xs))) (fun x => LS.length - x.1) (fun x => [(21, .int .i64 (x.1 : Int))]) (C := [(2, _), (3, _), (6, _), (19, _), (20, _)]) ⟨rfl, rfl, rfl, rfl, rfl, trivial⟩ (fun x => [.cel b1 24 [.slice none 0 0], rowR 0 9 1 LS.length (LS.map sV) (sA, sc), .cel b2 24 [.slice x.2.1.1 x.1 x.2.1.2], rowR (Bs.N ⟨w, []⟩) 66 1 x.1 (x.2.2.map Pc.val) x.2.1, pcsR x.2.2]) (0, (none, 0), []) (⟨Nat.zero_le _, rfl⟩) ⟨rfl, rfl, rfl, rfl, rfl, rfl, trivial⟩ (fun _ h => h) ?_
  intro ⟨k, ⟨rA, rc⟩, pl⟩ hx L hL1
  refine at_envE (by simp only [ya,yb]; rfl) ?_
  refine at_rsE (by first | (dsimp only; done) | (dsimp only; rfl) | rfl) ?_
  obtain ⟨hk, hall⟩ : k ≤ LS.length ∧ allO txPtsI (LS.take k) = some (pl.map (·.xs)) := hx
  have hlk : pl.length = k := by have := allO_len hall; rw [List.length_map, List.length_take] at this; omega
  refine at_seq ?_
  refine at_region ?_
  refine at_q rfl rfl (by decide) (qt_lss rfl rfl rfl) ?_
  refine at_end ?_
  refine at_seq ?_
  refine at_cond rfl (fun c2 => ?_) (fun c2 => ?_)
  ·try simp only [za,zb,zc,zd,ze,zf,Bool.not_true,Bool.not_false,zg,zh,ne_eq,zi,zj] at c2
   have hlt : k < LS.length := (by omega)
   obtain ⟨q, hq⟩ : ∃ q, q = txPtsI LS[k] := ⟨_, rfl⟩
   refine at_skip ?_
   refine norm_then ?_
   refine at_seq ?_
   refine at_block ?_
   refine at_seq ?_
   refine at_region ?_
   refine at_q rfl rfl (by decide) (qt_indexR (k := 1) (j := k) rfl rfl rfl rfl tyl_sl_string hlt) ?_
   refine at_q rfl rfl (by decide) (qt_load1 rfl rfl ty1_string (rdStr (k := 1) rfl hlt)) ?_
   refine at_q rfl rfl (by decide) (qt_assign rfl rfl) ?_
   refine at_end ?_
   refine at_seq ?_
   refine at_region ?_
   refine at_q rfl rfl (by decide) (qt_move rfl rfl) ?_
   refine at_op rfl ?_
   refine op_call ok_impl_readPts (X := Option Addr × Nat) (v := fun x => .tuple #[.slice x.1 (q.getD []).length x.2, .bool q.isSome]) (r := fun x => rowR 0 50 2 (q.getD []).length ((q.getD []).flatMap ptCells) x) (H := fun _ => True) rfl rfl rfl (by decide) (fun w1 hs => newRowV (V := fun v => .tuple #[v, .bool q.isSome]) (hq ▸ readPts_any LS[k] w1 (hM.over hs.fin) (hw _ (List.getElem_mem hlt)))) ?_
   rintro ⟨pA, pc⟩ -
   refine at_rsE (by simp only [ya,yb,yc,yd,Value.cells,ye]; rfl) ?_
   refine at_q rfl rfl (by decide) (qt_move rfl rfl) ?_
   refine at_q rfl rfl (by decide) (qt_extract rfl rfl rfl) ?_
   refine at_q rfl rfl (by decide) (qt_extract rfl rfl rfl) ?_
   refine at_q rfl rfl (by decide) (qt_assign rfl rfl) ?_
   refine at_q rfl rfl (by decide) (qt_assign rfl rfl) ?_
   refine at_end ?_
   refine at_seq ?_
   refine at_seq ?_
   refine at_region ?_
   refine at_q rfl rfl (by decide) (qt_move rfl rfl) ?_
   refine at_q rfl rfl (by decide) (qt_not rfl rfl) ?_
   refine at_end ?_
   refine at_cond rfl (fun c3 => ?_) (fun c3 => ?_)
   ·try simp only [za,zb,zc,zd,ze,zf,Bool.not_true,Bool.not_false,zg,zh,ne_eq,zi,zj] at c3
    refine at_seq ?_
    refine at_region ?_
    refine at_q rfl rfl (by decide) (qt_build rfl rfl (bld_impl_Region_)) ?_
    refine at_op rfl ?_
    refine op_storeAll' (k := 0) rfl rfl rfl rfl (rfl) (by rfl) tyz_impl_Region.szx rfl rfl rfl ?_
    refine at_rsE (by simp only [ya,yb,yc,yd,Value.cells,ye]; rfl) ?_
    refine at_q rfl rfl (by decide) (qt_assign rfl rfl) ?_
    refine at_end ?_
    refine at_retc ?_
    refine then_ret ?_
    refine pass_ret ?_
    refine then_ret ?_
    refine then_ret ?_
    refine pass_ret ?_
    refine then_ret ?_
    refine at_ret2 rfl (rvCelS (k := 0) rfl tys_impl_Region rfl rfl) (.tmp rfl) ?_
    intro w' hs
    exact rgg_no (rgI_all ho.symm (allO_at hlt (by rw [← hq]; simpa using c3))) hs.fin
   ·try simp only [za,zb,zc,zd,ze,zf,Bool.not_true,Bool.not_false,zg,zh,ne_eq,zi,zj] at c3
    obtain ⟨ps, hps⟩ : ∃ ps, q = some ps := Option.isSome_iff_exists.1 (by simpa using c3)
    subst hps
    rw [Option.getD_some]
    refine at_skip ?_
    refine norm_then ?_
    refine at_region ?_
    refine at_q rfl rfl (by decide) (qt_fieldAddr rfl rfl tyf_impl_Region_0) ?_
    refine at_q rfl rfl (by decide) (qt_load1 rfl rfl ty1_sl_impl_Ring (rd1 (k := 2) rfl rfl)) ?_
    refine at_q rfl rfl (by decide) (qt_move rfl rfl) ?_
    refine at_q rfl rfl (by decide) (qt_build rfl rfl (bld_impl_Ring_0 rfl)) ?_
    refine at_op rfl ?_
    refine op_buildSlice rfl rfl (bsl_sl_impl_Ring_1_0 rfl) rfl (by decide) (fun b3 => ?_)
    refine at_rsE (by simp only [ya,yb,yc,yd,Value.cells,ye]; rfl) ?_
    refine at_op rfl ?_
    refine op_appendR (k := 3) rfl tyl_sl_impl_Ring tyz_impl_Ring (by decide) rfl (by decide) rfl rfl rfl (fun w' hs => src_cel hs (k := 6) rfl rfl) (by simp [Value.oneCell']) (by unfold maxLen; omega) (by omega) (Nat.le_refl _) (fun r1 => ?_)
    refine at_rsE (by simp only [ya,yb,yc,yd,Value.cells,ye]; rfl) ?_
    refine at_q rfl rfl (by decide) (qt_fieldAddr rfl rfl tyf_impl_Region_0) ?_
    refine at_op rfl ?_
    refine op_storeAll' (k := 2) rfl rfl rfl rfl (rfl) (by rfl) tyz_sl_impl_Ring.szx rfl rfl rfl ?_
    refine at_rsE (by simp only [ya,yb,yc,yd,Value.cells,ye]; rfl) ?_
    refine at_nil ?_
    refine at_pc 5 rfl rfl (fun clo chi => ?_)
    refine at_rsE (by simp only [List.nil_append, List.cons_append, List.set_cons_zero, List.set_cons_succ, List.eraseIdx_cons_zero, List.eraseIdx_cons_succ, Value.cells, List.toList_toArray]; rfl) ?_
    refine at_push 4 5 rfl rfl (by decide) rfl ?_
    refine at_rsE (by simp only [List.nil_append, List.cons_append, List.set_cons_zero, List.set_cons_succ, List.eraseIdx_cons_zero, List.eraseIdx_cons_succ, Value.cells, List.toList_toArray]; rfl) ?_
    refine norm_block ?_
    refine norm_then ?_
    refine at_region ?_
    refine at_q rfl rfl (by decide) (qt_add rfl rfl rfl (by omega) (by omega)) ?_
    refine at_q rfl rfl (by decide) (qt_move rfl rfl) ?_
    refine at_end ?_
    exact at_againc hL1 ((k + 1, r1, pl ++ [⟨ps, pA, pc, clo, chi⟩])) (⟨show k + 1 ≤ LS.length by omega, by rw [List.map_append]; exact allO_take hall hlt hq.symm⟩) (by simp only; omega) ⟨vi (by omega), rfl, rfl, rfl, rfl, rfl, trivial⟩ (fun _ h => h.upto ⟨rfl, rfl, rfl, by rw [List.map_append]; rfl, (pcsR_push _ _).symm, trivial⟩)
  ·try simp only [za,zb,zc,zd,ze,zf,Bool.not_true,Bool.not_false,zg,zh,ne_eq,zi,zj] at c2
   have hkn : k = LS.length := (by omega)
   have hfull := allO_full hall hkn
   have htt := htot _ hfull
   refine at_exit ?_
   refine pass_then (fun h => by cases h) ?_
   refine pass_then (fun h => by cases h) ?_
   refine pass_hit ?_
   refine norm_then ?_
   refine at_seq ?_
   refine at_seq ?_
   refine at_region ?_
   refine at_q rfl rfl (by decide) (qt_loadS rfl rfl tys_impl_Region rfl (rdAll (k := 2) rfl)) ?_
   refine at_q rfl rfl (by decide) (qt_call ok_impl_ValidRegion rfl rfl (fun w1 hs => ValidRegion_any _ _ _ (pl.map (·.xs)) w1 (pcs_row hs (kr := 3) (kp := 4) rfl rfl (by decide) rfl hlk rfl (fun i hi => by have := rg_le_total _ hi; omega)).rings (by omega))) ?_
   refine at_q rfl rfl (by decide) (qt_not rfl rfl) ?_
   refine at_end ?_
   refine at_cond rfl (fun c4 => ?_) (fun c4 => ?_)
   ·try simp only [za,zb,zc,zd,ze,zf,Bool.not_true,Bool.not_false,zg,zh,ne_eq,zi,zj] at c4
    refine at_seq ?_
    refine at_region ?_
    refine at_q rfl rfl (by decide) (qt_build rfl rfl (bld_impl_Region_)) ?_
    refine at_op rfl ?_
    refine op_storeAll' (k := 0) rfl rfl rfl rfl (rfl) (by rfl) tyz_impl_Region.szx rfl rfl rfl ?_
    refine at_rsE (by simp only [ya,yb,yc,yd,Value.cells,ye]; rfl) ?_
    refine at_q rfl rfl (by decide) (qt_assign rfl rfl) ?_
    refine at_end ?_
    refine at_retc ?_
    refine then_ret ?_
    refine at_ret2 rfl (rvCelS (k := 0) rfl tys_impl_Region rfl rfl) (.tmp rfl) ?_
    intro w' hs
    exact rgg_no (by rw [rgI_if ho.symm hfull, if_neg (by simpa using c4)]) hs.fin
   ·try simp only [za,zb,zc,zd,ze,zf,Bool.not_true,Bool.not_false,zg,zh,ne_eq,zi,zj] at c4
    refine at_skip ?_
    refine norm_then ?_
    refine at_seq ?_
    refine at_region ?_
    refine at_q rfl rfl (by decide) (qt_loadS rfl rfl tys_impl_Region rfl (rdAll (k := 2) rfl)) ?_
    refine at_op rfl ?_
    refine op_storeAll' (k := 0) rfl rfl rfl rfl (rfl) (by rfl) tyz_impl_Region.szx rfl rfl rfl ?_
    refine at_rsE (by simp only [ya,yb,yc,yd,Value.cells,ye]; rfl) ?_
    refine at_q rfl rfl (by decide) (qt_assign rfl rfl) ?_
    refine at_end ?_
    refine at_retc ?_
    refine at_ret2 rfl (rvCelS (k := 0) rfl tys_impl_Region rfl rfl) (.tmp rfl) ?_
    intro w' hs
    exact rgg_yes (x := (rA, rc)) hs (kr := 3) (kp := 4) rfl rfl (by decide) hlk rfl htt (by rw [rgI_if ho.symm hfull, if_pos (by simpa using c4)]) hs.fin
theorem rg_no {l : List UInt8} (h : ¬ ((splL 10 l).length ≤ 41 ∧ (splL 10 l).getLast? = some [])) : txRg l = none := by unfold txRg; rw [if_neg h]
theorem rg_all {l : List UInt8} (h2 : allO txPts (splL 10 l).dropLast = none) : txRg l = none := by
 unfold txRg
 rw [h2]
 split <;> rfl
theorem rg_if {l : List UInt8} {rs : List Ring_} (h : (splL 10 l).length ≤ 41 ∧ (splL 10 l).getLast? = some []) (h2 : allO txPts (splL 10 l).dropLast = some rs) : txRg l = if regionB rs = true then some rs else none := by unfold txRg; rw [if_pos h, h2]; rfl
theorem tot_drop {l : List UInt8} {rs : List Ring_} (hl : l.length ≤ 1048576) (h : allO txPts (splL 10 l).dropLast = some rs) : total rs ≤ 1048577 := by
 have h1 := all_sum (f := txPts) (fun l ps hp => pts_len hp) h
 have h2 := splL_sum 10 l
 have h3 := allO_len h
 have h4 : ((splL 10 l).dropLast.map List.length).sum ≤ ((splL 10 l).map List.length).sum := by
  have e : splL 10 l = (splL 10 l).dropLast ++ [(splL 10 l).getLast (splL_ne 10 l)] := (List.dropLast_concat_getLast (splL_ne 10 l)).symm
  conv => rhs; rw [e]
  rw [List.map_append, List.sum_append]
  omega
 rw [List.length_dropLast] at h3
 rw [total_sum']
 omega
theorem last_get {α : Type} {l : List α} {j : Nat} (hj : l.length = j + 1) : l.getLast? = some (l[j]'(by omega)) := by
 rw [List.getLast?_eq_getElem?, show l.length - 1 = j by omega, List.getElem?_eq_getElem]
theorem split10 {l : List UInt8} {LS : List (List UInt8)} (h : LS = splL 10 l) (w : World) (hl : l.length ≤ 1048576) : Calls Tryd.prog 21 #[sV l, .int .u8 10] w fun e w' => ∃ v, e = .returned v ∧ True ∧ w'.ownsRow w.heap.size 9 1 v LS.length (LS.map sV) ∧ Over w w' := by
 subst h
 exact l01Split_any 10 l w hl
theorem specReadRegion_any (l : List UInt8) (w : World) (hl : l.length ≤ 1048576) : Calls Tryd.prog 5 #[sV l] w fun e w' => RgG (txRg l) e w w' := by
 obtain ⟨LS, hLS⟩ : ∃ LS, LS = splL 10 l := ⟨_, rfl⟩
 have hsum := splL_sum 10 l
 have hpos : 1 ≤ LS.length := by rw [hLS]; exact List.length_pos_iff.2 (splL_ne 10 l)
 obtain ⟨j, hj⟩ : ∃ j, LS.length = j + 1 := ⟨LS.length - 1, by omega⟩
 have hjl : j < LS.length := by omega
 have hlast := last_get hj
 have hdl : LS.dropLast.length = j := by rw [List.length_dropLast]; omega
 have hw : ∀ x ∈ LS, x.length ≤ 1048576 := fun x hx => Nat.le_trans (spl_word (hLS ▸ hx)) hl
 rw [← hLS] at hsum
 refine walk_from (m := 54) (Tryd.func5) rfl rfl (Nat.le_of_ble_eq_true rfl) ?_
 refine at_seq ?_
 refine at_region ?_
 refine at_op rfl ?_
 refine op_alloc rfl tyz_impl_Region rfl (by decide) (fun b1 => ?_)
 refine at_rsE (by simp only [ya,yb,yc,yd,Value.cells,ye]; rfl) ?_
 refine at_q rfl rfl (by decide) (qt_assign rfl rfl) ?_
 refine at_end ?_
 refine at_seq ?_
 refine at_region ?_
 refine at_q rfl rfl (by decide) (qt_move rfl rfl) ?_
 refine at_op rfl ?_
 refine op_call ok_spec_l01Split (X := Option Addr × Nat) (v := fun x => .slice x.1 LS.length x.2) (r := fun x => rowR 0 9 1 LS.length (LS.map sV) x) (H := fun _ => True) rfl rfl rfl (by decide) (fun w1 hs => newRow (split10 hLS w1 hl)) ?_
 rintro ⟨sA, sc⟩ -
 refine at_rsE (by simp only [ya,yb,yc,yd,Value.cells,ye]; rfl) ?_
 refine at_q rfl rfl (by decide) (qt_assign rfl rfl) ?_
 refine at_end ?_
 refine at_seq ?_
 refine at_region ?_
 refine at_q rfl rfl (by decide) (qt_build rfl rfl (bld_impl_Region_)) ?_
 refine at_op rfl ?_
 refine op_alloc rfl tyz_impl_Region rfl (by decide) (fun b2 => ?_)
 refine at_rsE (by simp only [ya,yb,yc,yd,Value.cells,ye]; rfl) ?_
 refine at_op rfl ?_
 refine op_storeAll' (k := 2) rfl rfl rfl rfl (rfl) (by rfl) tyz_impl_Region.szx rfl rfl rfl ?_
 refine at_rsE (by simp only [ya,yb,yc,yd,Value.cells,ye]; rfl) ?_
 refine at_end ?_
 refine at_row0 (T := 66) (s := 1) ?_
 refine at_rsE (by simp only [List.nil_append, List.cons_append, List.set_cons_zero, List.set_cons_succ, List.eraseIdx_cons_zero, List.eraseIdx_cons_succ, Value.cells, List.toList_toArray]; rfl) ?_
 refine at_many0 ?_
 refine at_rsE (by simp only [List.nil_append, List.cons_append, List.set_cons_zero, List.set_cons_succ, List.eraseIdx_cons_zero, List.eraseIdx_cons_succ, Value.cells, List.toList_toArray]; rfl) ?_
 refine at_seq ?_
 refine at_cutE [(23, .bool (!(decide (LS.length ≤ 41 ∧ LS.getLast? = some []))))] (C := [(2, _), (3, _), (4, _), (5, _)])  ⟨rfl, rfl, rfl, rfl, trivial⟩ (fun L hC_cut_3 => ?_) ?_
 ·refine at_region ?_
  refine at_q rfl rfl (by decide) (qt_move rfl rfl) ?_
  refine at_q rfl rfl (by decide) (qt_len rfl rfl tyl_sl_string) ?_
  refine at_q rfl rfl (by decide) (qt_gtr rfl rfl rfl) ?_
  refine at_q rfl rfl (by decide) (qt_move rfl rfl) ?_
  refine at_bsplit 15 rfl (fun g1 => ?_) (fun g1 => ?_)
  ·try simp only [za,zb,zc,zd,ze,zf,Bool.not_true,Bool.not_false,zg,zh,ne_eq,zi,zj] at g1
   refine at_off rfl rfl rfl rfl (by decide) rfl (by decide) ?_
   refine at_off rfl rfl rfl rfl (by decide) rfl (by decide) ?_
   refine at_off rfl rfl rfl rfl (by decide) rfl (by decide) ?_
   refine at_off rfl rfl rfl rfl (by decide) rfl (by decide) ?_
   refine at_off rfl rfl rfl rfl (by decide) rfl (by decide) ?_
   refine at_off rfl rfl rfl rfl (by decide) rfl (by decide) ?_
   refine at_off rfl rfl rfl rfl (by decide) rfl (by decide) ?_
   refine at_q rfl rfl (by decide) (qt_pickT rfl rfl rfl) ?_
   refine at_end ?_
   exact at_meet hC_cut_3 ⟨vb (by rw [decide_eq_false (show ¬ (LS.length ≤ 41 ∧ LS.getLast? = some []) from fun k => by omega)]; rfl), rfl, rfl, rfl, rfl, trivial⟩ (fun _ h => h.upto ⟨rfl, rfl, rfl, rfl, rfl, trivial⟩)
  ·try simp only [za,zb,zc,zd,ze,zf,Bool.not_true,Bool.not_false,zg,zh,ne_eq,zi,zj] at g1
   refine at_on rfl rfl rfl rfl ?_
   refine op_q rfl (by decide) (qt_move rfl rfl) ?_
   refine at_on rfl rfl rfl rfl ?_
   refine op_q rfl (by decide) (qt_move rfl rfl) ?_
   refine at_on rfl rfl rfl rfl ?_
   refine op_q rfl (by decide) (qt_len rfl rfl tyl_sl_string) ?_
   refine at_on rfl rfl rfl rfl ?_
   refine op_q rfl (by decide) ((qt_sub rfl rfl rfl (by omega) (by omega)).as (congrArg _ (show (LS.length : Int) - 1 = (j : Int) by omega))) ?_
   refine at_on rfl rfl rfl rfl ?_
   refine op_q rfl (by decide) (qt_indexR (k := 1) (j := j) rfl rfl rfl rfl tyl_sl_string hjl) ?_
   refine at_on rfl rfl rfl rfl ?_
   refine op_q rfl (by decide) (qt_load1 rfl rfl ty1_string (rdStr (k := 1) rfl hjl)) ?_
   refine at_on rfl rfl rfl rfl ?_
   refine op_q rfl (by decide) (qt_neqL (m := []) rfl rfl rfl) ?_
   refine at_q rfl rfl (by decide) (qt_pickF rfl rfl rfl) ?_
   refine at_end ?_
   exact at_meet hC_cut_3 ⟨vb (by rw [hlast, Bool.eq_iff_iff]; simp; omega), rfl, rfl, rfl, rfl, trivial⟩ (fun _ h => h.upto ⟨rfl, rfl, rfl, rfl, rfl, trivial⟩)
 ·refine at_envE (by simp only [ya,yb]; rfl) ?_
  refine at_cond rfl (fun c1 => ?_) (fun c1 => ?_)
  ·try simp only [za,zb,zc,zd,ze,zf,Bool.not_true,Bool.not_false,zg,zh,ne_eq,zi,zj] at c1
   refine at_seq ?_
   refine at_region ?_
   refine at_q rfl rfl (by decide) (qt_build rfl rfl (bld_impl_Region_)) ?_
   refine at_op rfl ?_
   refine op_storeAll' (k := 0) rfl rfl rfl rfl (rfl) (by rfl) tyz_impl_Region.szx rfl rfl rfl ?_
   refine at_rsE (by simp only [ya,yb,yc,yd,Value.cells,ye]; rfl) ?_
   refine at_q rfl rfl (by decide) (qt_assign rfl rfl) ?_
   refine at_end ?_
   refine at_retc ?_
   refine then_ret ?_
   refine at_ret2 rfl (rvCelS (k := 0) rfl tys_impl_Region rfl rfl) (.tmp rfl) ?_
   intro w' hs
   exact rgg_no (rg_no (by rw [← hLS]; simpa using c1)) hs.fin
  ·try simp only [za,zb,zc,zd,ze,zf,Bool.not_true,Bool.not_false,zg,zh,ne_eq,zi,zj] at c1
   have hC : LS.length ≤ 41 ∧ LS.getLast? = some [] := (by simpa using c1)
   refine at_skip ?_
   refine norm_then ?_
   refine at_seq ?_
   refine at_seq ?_
   refine at_region ?_
   refine at_q rfl rfl (by decide) (qt_assign rfl rfl) ?_
   refine at_end ?_
   refine at_block ?_
   refine at_loopc (X := Nat × (Option Addr × Nat) × List Pc) (fun x => x.1 ≤ j ∧ allO txPts (LS.dropLast.take x.1) = some (x.2.2.map (·.xs))) (fun x => j - x.1) (fun x => [(6, .int .i64 (x.1 : Int))]) (C := [(2, _), (3, _), (4, _), (5, _)]) ⟨rfl, rfl, rfl, rfl, trivial⟩ (fun x => [.cel b1 24 [.slice none 0 0], rowR 0 9 1 LS.length (LS.map sV) (sA, sc), .cel b2 24 [.slice x.2.1.1 x.1 x.2.1.2], rowR (Bs.N ⟨w, []⟩) 66 1 x.1 (x.2.2.map Pc.val) x.2.1, pcsR x.2.2]) (0, (none, 0), []) (⟨Nat.zero_le _, rfl⟩) ⟨rfl, rfl, rfl, rfl, rfl, trivial⟩ (fun _ h => h) ?_
   intro ⟨k, ⟨rA, rc⟩, pl⟩ hx L hL1
   refine at_envE (by simp only [ya,yb]; rfl) ?_
   refine at_rsE (by first | (dsimp only; done) | (dsimp only; rfl) | rfl) ?_
   obtain ⟨hk, hall⟩ : k ≤ j ∧ allO txPts (LS.dropLast.take k) = some (pl.map (·.xs)) := hx
   have hlk : pl.length = k := by have := allO_len hall; rw [List.length_map, List.length_take] at this; omega
   refine at_seq ?_
   refine at_seq ?_
   refine at_region ?_
   refine at_q rfl rfl (by decide) (qt_move rfl rfl) ?_
   refine at_q rfl rfl (by decide) (qt_add rfl rfl rfl (by omega) (by omega)) ?_
   refine at_q rfl rfl (by decide) (qt_move rfl rfl) ?_
   refine at_q rfl rfl (by decide) (qt_len rfl rfl tyl_sl_string) ?_
   refine at_q rfl rfl (by decide) (qt_lss rfl rfl rfl) ?_
   refine at_end ?_
   refine at_cond rfl (fun c2 => ?_) (fun c2 => ?_)
   ·try simp only [za,zb,zc,zd,ze,zf,Bool.not_true,Bool.not_false,zg,zh,ne_eq,zi,zj] at c2
    have hlt : k < LS.length := (by omega)
    have hld : k < LS.dropLast.length := (by omega)
    have hkd : LS.dropLast[k] = LS[k] := List.getElem_dropLast hld
    obtain ⟨q, hq⟩ : ∃ q, q = txPts LS[k] := ⟨_, rfl⟩
    refine at_skip ?_
    refine norm_then ?_
    refine at_seq ?_
    refine at_block ?_
    refine at_seq ?_
    refine at_region ?_
    refine at_q rfl rfl (by decide) (qt_move rfl rfl) ?_
    refine at_q rfl rfl (by decide) (qt_move rfl rfl) ?_
    refine at_q rfl rfl (by decide) (qt_indexR (k := 1) (j := k) rfl rfl rfl rfl tyl_sl_string hlt) ?_
    refine at_q rfl rfl (by decide) (qt_load1 rfl rfl ty1_string (rdStr (k := 1) rfl hlt)) ?_
    refine at_op rfl ?_
    refine op_call ok_spec_l09Read (X := Option Addr × Nat) (v := fun x => .tuple #[.slice x.1 (q.getD []).length x.2, .bool q.isSome]) (r := fun x => rowR 0 50 2 (q.getD []).length ((q.getD []).flatMap ptCells) x) (H := fun _ => True) rfl rfl rfl (by decide) (fun w1 hs => newRowV (V := fun v => .tuple #[v, .bool q.isSome]) (hq ▸ l09Read_any LS[k] w1 (hw _ (List.getElem_mem hlt)))) ?_
    rintro ⟨pA, pc⟩ -
    refine at_rsE (by simp only [ya,yb,yc,yd,Value.cells,ye]; rfl) ?_
    refine at_q rfl rfl (by decide) (qt_move rfl rfl) ?_
    refine at_q rfl rfl (by decide) (qt_extract rfl rfl rfl) ?_
    refine at_q rfl rfl (by decide) (qt_extract rfl rfl rfl) ?_
    refine at_q rfl rfl (by decide) (qt_assign rfl rfl) ?_
    refine at_q rfl rfl (by decide) (qt_assign rfl rfl) ?_
    refine at_end ?_
    refine at_seq ?_
    refine at_seq ?_
    refine at_region ?_
    refine at_q rfl rfl (by decide) (qt_move rfl rfl) ?_
    refine at_q rfl rfl (by decide) (qt_not rfl rfl) ?_
    refine at_end ?_
    refine at_cond rfl (fun c3 => ?_) (fun c3 => ?_)
    ·try simp only [za,zb,zc,zd,ze,zf,Bool.not_true,Bool.not_false,zg,zh,ne_eq,zi,zj] at c3
     refine at_seq ?_
     refine at_region ?_
     refine at_q rfl rfl (by decide) (qt_build rfl rfl (bld_impl_Region_)) ?_
     refine at_op rfl ?_
     refine op_storeAll' (k := 0) rfl rfl rfl rfl (rfl) (by rfl) tyz_impl_Region.szx rfl rfl rfl ?_
     refine at_rsE (by simp only [ya,yb,yc,yd,Value.cells,ye]; rfl) ?_
     refine at_q rfl rfl (by decide) (qt_assign rfl rfl) ?_
     refine at_end ?_
     refine at_retc ?_
     refine then_ret ?_
     refine pass_ret ?_
     refine then_ret ?_
     refine then_ret ?_
     refine pass_ret ?_
     refine then_ret ?_
     refine at_ret2 rfl (rvCelS (k := 0) rfl tys_impl_Region rfl rfl) (.tmp rfl) ?_
     intro w' hs
     exact rgg_no (rg_all (by rw [← hLS]; exact allO_at hld (by rw [hkd, ← hq]; simpa using c3))) hs.fin
    ·try simp only [za,zb,zc,zd,ze,zf,Bool.not_true,Bool.not_false,zg,zh,ne_eq,zi,zj] at c3
     obtain ⟨ps, hps⟩ : ∃ ps, q = some ps := Option.isSome_iff_exists.1 (by simpa using c3)
     subst hps
     rw [Option.getD_some]
     refine at_skip ?_
     refine norm_then ?_
     refine at_region ?_
     refine at_q rfl rfl (by decide) (qt_fieldAddr rfl rfl tyf_impl_Region_0) ?_
     refine at_q rfl rfl (by decide) (qt_load1 rfl rfl ty1_sl_impl_Ring (rd1 (k := 2) rfl rfl)) ?_
     refine at_q rfl rfl (by decide) (qt_move rfl rfl) ?_
     refine at_q rfl rfl (by decide) (qt_build rfl rfl (bld_impl_Ring_0 rfl)) ?_
     refine at_op rfl ?_
     refine op_buildSlice rfl rfl (bsl_sl_impl_Ring_1_0 rfl) rfl (by decide) (fun b3 => ?_)
     refine at_rsE (by simp only [ya,yb,yc,yd,Value.cells,ye]; rfl) ?_
     refine at_op rfl ?_
     refine op_appendR (k := 3) rfl tyl_sl_impl_Ring tyz_impl_Ring (by decide) rfl (by decide) rfl rfl rfl (fun w' hs => src_cel hs (k := 6) rfl rfl) (by simp [Value.oneCell']) (by unfold maxLen; omega) (by omega) (Nat.le_refl _) (fun r1 => ?_)
     refine at_rsE (by simp only [ya,yb,yc,yd,Value.cells,ye]; rfl) ?_
     refine at_q rfl rfl (by decide) (qt_fieldAddr rfl rfl tyf_impl_Region_0) ?_
     refine at_op rfl ?_
     refine op_storeAll' (k := 2) rfl rfl rfl rfl (rfl) (by rfl) tyz_sl_impl_Ring.szx rfl rfl rfl ?_
     refine at_rsE (by simp only [ya,yb,yc,yd,Value.cells,ye]; rfl) ?_
     refine at_nil ?_
     refine at_pc 5 rfl rfl (fun clo chi => ?_)
     refine at_rsE (by simp only [List.nil_append, List.cons_append, List.set_cons_zero, List.set_cons_succ, List.eraseIdx_cons_zero, List.eraseIdx_cons_succ, Value.cells, List.toList_toArray]; rfl) ?_
     refine at_push 4 5 rfl rfl (by decide) rfl ?_
     refine at_rsE (by simp only [List.nil_append, List.cons_append, List.set_cons_zero, List.set_cons_succ, List.eraseIdx_cons_zero, List.eraseIdx_cons_succ, Value.cells, List.toList_toArray]; rfl) ?_
     refine norm_block ?_
     refine norm_then ?_
     refine at_region ?_
     refine at_q rfl rfl (by decide) (qt_move rfl rfl) ?_
     refine at_q rfl rfl (by decide) (qt_add rfl rfl rfl (by omega) (by omega)) ?_
     refine at_q rfl rfl (by decide) (qt_assign rfl rfl) ?_
     refine at_end ?_
     exact at_againc hL1 ((k + 1, r1, pl ++ [⟨ps, pA, pc, clo, chi⟩])) (⟨show k + 1 ≤ j by omega, by rw [List.map_append]; exact allO_take hall hld (by rw [hkd]; exact hq.symm)⟩) (by simp only; omega) ⟨vi (by omega), rfl, rfl, rfl, rfl, trivial⟩ (fun _ h => h.upto ⟨rfl, rfl, rfl, by rw [List.map_append]; rfl, (pcsR_push _ _).symm, trivial⟩)
   ·try simp only [za,zb,zc,zd,ze,zf,Bool.not_true,Bool.not_false,zg,zh,ne_eq,zi,zj] at c2
    have hkn : k = LS.dropLast.length := (by omega)
    have hfull := allO_full hall hkn
    rw [hLS] at hfull hC
    have htt := tot_drop hl hfull
    refine at_exit ?_
    refine pass_then (fun h => by cases h) ?_
    refine pass_then (fun h => by cases h) ?_
    refine pass_hit ?_
    refine norm_then ?_
    refine at_seq ?_
    refine at_seq ?_
    refine at_region ?_
    refine at_q rfl rfl (by decide) (qt_call ok_spec_l13Ok rfl rfl (fun w1 hs => l13Ok_any b2 0 _ _ _ (pl.map (·.xs)) w1 (rd1 (k := 2) rfl rfl w1 hs) (lt_of_some (hs.cel (k := 2) rfl)) (pcs_row hs (kr := 3) (kp := 4) rfl rfl (by decide) rfl hlk rfl (fun i hi => by have := rg_le_total _ hi; omega)).rings (by omega))) ?_
    refine at_q rfl rfl (by decide) (qt_not rfl rfl) ?_
    refine at_end ?_
    refine at_cond rfl (fun c4 => ?_) (fun c4 => ?_)
    ·try simp only [za,zb,zc,zd,ze,zf,Bool.not_true,Bool.not_false,zg,zh,ne_eq,zi,zj] at c4
     refine at_seq ?_
     refine at_region ?_
     refine at_q rfl rfl (by decide) (qt_build rfl rfl (bld_impl_Region_)) ?_
     refine at_op rfl ?_
     refine op_storeAll' (k := 0) rfl rfl rfl rfl (rfl) (by rfl) tyz_impl_Region.szx rfl rfl rfl ?_
     refine at_rsE (by simp only [ya,yb,yc,yd,Value.cells,ye]; rfl) ?_
     refine at_q rfl rfl (by decide) (qt_assign rfl rfl) ?_
     refine at_end ?_
     refine at_retc ?_
     refine then_ret ?_
     refine at_ret2 rfl (rvCelS (k := 0) rfl tys_impl_Region rfl rfl) (.tmp rfl) ?_
     intro w' hs
     exact rgg_no (by rw [rg_if hC hfull, if_neg (by simpa using c4)]) hs.fin
    ·try simp only [za,zb,zc,zd,ze,zf,Bool.not_true,Bool.not_false,zg,zh,ne_eq,zi,zj] at c4
     refine at_skip ?_
     refine norm_then ?_
     refine at_seq ?_
     refine at_region ?_
     refine at_q rfl rfl (by decide) (qt_loadS rfl rfl tys_impl_Region rfl (rdAll (k := 2) rfl)) ?_
     refine at_op rfl ?_
     refine op_storeAll' (k := 0) rfl rfl rfl rfl (rfl) (by rfl) tyz_impl_Region.szx rfl rfl rfl ?_
     refine at_rsE (by simp only [ya,yb,yc,yd,Value.cells,ye]; rfl) ?_
     refine at_q rfl rfl (by decide) (qt_assign rfl rfl) ?_
     refine at_end ?_
     refine at_retc ?_
     refine at_ret2 rfl (rvCelS (k := 0) rfl tys_impl_Region rfl rfl) (.tmp rfl) ?_
     intro w' hs
     exact rgg_yes (x := (rA, rc)) hs (kr := 3) (kp := 4) rfl rfl (by decide) hlk rfl htt (by rw [rg_if hC hfull, if_pos (by simpa using c4)]) hs.fin
end Go.Proofs.YtjhaakollekjeaaDoor
