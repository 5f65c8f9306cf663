import Derived.Test.YtjhaakollekjeaaDoorR19
import Derived.Test.YtjhaakollekjeaaDoorR13
namespace Go.Proofs.YtjhaakollekjeaaDoor
open Go Go.RowKit
set_option linter.unusedVariables false
set_option linter.unusedSimpArgs false
set_option maxRecDepth 100000
set_option maxHeartbeats 4000000
set_option linter.unusedVariables false
set_option linter.unusedSimpArgs false
/-! ### Plain -/
theorem allO_full {α β : Type} {f : α → Option β} {l : List α} {k : Nat} {m : List β} (h : allO f (l.take k) = some m) (hk : k = l.length) : allO f l = some m := by
 subst hk
 rwa [List.take_length] at h
theorem allO_at {α β : Type} {f : α → Option β} {l : List α} {k : Nat} (hk : k < l.length) (h : f l[k] = none) : allO f l = none := allO_no (List.getElem_mem hk) h
/-- The lines of a text. -/
def linI (l : List UInt8) : Option (List (List UInt8)) := if l = [] then some [] else if l.getLast? = some 10 then some (splL 10 l.dropLast) else none
def rgO : Option (List Ring_) → Option (List Ring_)
 | some rs => if regionB rs = true then some rs else none
 | none => none
def txRgI (l : List UInt8) : Option (List Ring_) := match linI l with
 | some L => rgO (allO txPtsI L)
 | none => none
def txRg (l : List UInt8) : Option (List Ring_) := if (splL 10 l).length ≤ 41 ∧ (splL 10 l).getLast? = some [] then rgO (allO txPts (splL 10 l).dropLast) else none
theorem ahd_last {p : List UInt8} {L : List (List UInt8)} (h : L ≠ []) (h2 : L.getLast? ≠ some []) : (ahdL p L).getLast? ≠ some [] := by
 cases L with
 | nil => exact (h rfl).elim
 | cons a t =>
  rw [ahd_cons]
  cases t with
  | nil =>
   intro k
   simp at k h2
   exact h2 k.2
  | cons b r =>
   rw [List.getLast?_cons_cons] at h2 ⊢
   exact h2
theorem spl_last {b c : UInt8} (hc : ¬ c = b) : ∀ l : List UInt8, (splL b (l ++ [c])).getLast? ≠ some []
 | [] => by simp [splL, hc]
 | d :: l => by
  have ih := spl_last hc l
  rw [List.cons_append, splL]
  split
  ·cases hs : splL b (l ++ [c]) with
   | nil => exact (splL_ne _ _ hs).elim
   | cons a t => rw [List.getLast?_cons_cons, ← hs]; exact ih
  ·cases hs : splL b (l ++ [c]) with
   | nil => exact (splL_ne _ _ hs).elim
   | cons a t =>
    rw [hs] at ih
    exact ahd_last (p := [d]) (by simp) ih
theorem reg_no {rs : List Ring_} (h : [] ∈ rs) : regionB rs = false := by
 rw [Bool.eq_false_iff]
 intro k
 obtain ⟨j, hj, e⟩ := List.getElem_of_mem h
 have := pos_of_ring (regRing k hj)
 rw [← at_r hj, e] at this
 simp at this
theorem allI_empty : ∀ {L : List (List UInt8)} {rs : List Ring_}, allO txPtsI L = some rs → [] ∈ L → [] ∈ rs
 | x :: L, rs, h, hm => by
  unfold allO at h
  split at h
  ·rename_i y r hy hr
   injection h with h
   subst h
   rcases List.mem_cons.1 hm with k | k
   ·subst k
    have : y = [] := by
     have : txPtsI [] = some [] := rfl
     rw [this] at hy
     injection hy with hy
     exact hy.symm
    subst this; simp
   ·exact List.mem_cons_of_mem _ (allI_empty hr k)
  ·cases h
theorem allI_same : ∀ {L : List (List UInt8)}, [] ∉ L → allO txPtsI L = allO txPts L
 | [], _ => rfl
 | x :: L, h => by
  have hx : ¬ x = [] := fun k => h (by rw [k]; simp)
  have ih := allI_same (L := L) fun k => h (List.mem_cons_of_mem _ k)
  unfold allO
  rw [ih, txPtsI, if_neg hx]
theorem rg_same (L : List (List UInt8)) : rgO (allO txPtsI L) = rgO (allO txPts L) := by
 by_cases h : [] ∈ L
 ·rw [allO_no h txPts_nil]
  cases hs : allO txPtsI L with
  | none => rfl
  | some rs =>
   show (if regionB rs = true then some rs else none) = none
   rw [reg_no (allI_empty hs h)]
   rfl
 ·rw [allI_same h]
theorem rg_long {L : List (List UInt8)} (h : 40 < L.length) : rgO (allO txPts L) = none := by
 cases hs : allO txPts L with
 | none => rfl
 | some rs =>
  have h1 := allO_len hs
  show (if regionB rs = true then some rs else none) = none
  by_cases k : regionB rs = true
  ·have := reg_len k
   omega
  ·rw [if_neg k]
theorem tx_same (l : List UInt8) : txRgI l = txRg l := by
 rcases List.eq_nil_or_concat l with h | ⟨m, c, h⟩
 ·subst h; rfl
 ·rw [List.concat_eq_append] at h
  subst h
  have hn : ¬ m ++ [c] = [] := by simp
  unfold txRgI linI txRg
  rw [if_neg hn]
  by_cases hc : c = 10
  ·subst hc
   have e1 : (m ++ [(10 : UInt8)]).getLast? = some 10 := by simp
   have e2 : (m ++ [(10 : UInt8)]).dropLast = m := by simp
   have e3 : (splL 10 m ++ [([] : List UInt8)]).getLast? = some [] := by simp
   have e4 : (splL 10 m ++ [([] : List UInt8)]).dropLast = splL 10 m := by simp
   rw [if_pos e1, e2, splL_end, e3, e4, List.length_append]
   show rgO (allO txPtsI (splL 10 m)) = _
   rw [rg_same]
   by_cases k : 40 < (splL 10 m).length
   ·rw [rg_long k, if_neg (by simp; omega)]
   ·rw [if_pos ⟨by simp; omega, rfl⟩]
  ·have e1 : ¬ (m ++ [c]).getLast? = some 10 := by simp [hc]
   rw [if_neg e1, if_neg fun k => spl_last hc m k.2]
theorem rdPts_pos {l : List UInt8} {p : Pn} (h : txPt l = some p) : 1 ≤ l.length := by
 cases l with
 | nil => rw [txPt_nil] at h; cases h
 | cons c t => simp
/-- Few points in a short text. -/
theorem all_pos : ∀ {L : List (List UInt8)} {ps : List Pn}, allO txPt L = some ps → ps.length ≤ (L.map List.length).sum
 | [], ps, h => by simp [allO] at h; subst h; simp
 | x :: L, ps, h => by
  unfold allO at h
  split at h
  ·rename_i y r hy hr
   injection h with h
   subst h
   have h1 := rdPts_pos hy
   have h2 := all_pos hr
   rw [List.map_cons, List.sum_cons, List.length_cons]
   omega
  ·cases h
theorem pts_len {l : List UInt8} {ps : List Pn} (h : txPts l = some ps) : ps.length ≤ l.length := by
 have h1 := all_pos h
 have h2 := splL_sum 32 l
 have h3 : 1 ≤ (splL 32 l).length := List.length_pos_iff.2 (splL_ne 32 l)
 omega
theorem ptsI_len {l : List UInt8} {ps : List Pn} (h : txPtsI l = some ps) : ps.length ≤ l.length := by
 unfold txPtsI at h
 split at h
 ·injection h with h
  subst h; simp
 ·exact pts_len h
/-- The size of what was read. -/
theorem all_sum {f : List UInt8 → Option (List Pn)} (hf : ∀ l ps, f l = some ps → ps.length ≤ l.length) : ∀ {L : List (List UInt8)} {rs : List Ring_}, allO f L = some rs → (rs.map List.length).sum ≤ (L.map List.length).sum
 | [], rs, h => by simp [allO] at h; subst h; simp
 | x :: L, rs, h => by
  unfold allO at h
  split at h
  ·rename_i y r hy hr
   injection h with h
   subst h
   have h1 := hf _ _ hy
   have h2 := all_sum hf hr
   simp only [List.map_cons, List.sum_cons]
   omega
  ·cases h
theorem sum_to (rs : List Ring_) : ∀ k, k ≤ rs.length → sumTo rs k = ((rs.take k).map List.length).sum
 | 0, _ => by simp [sumTo]
 | k + 1, hk => by
  rw [sumTo, sum_to rs k (by omega), List.take_succ_eq_append_getElem (by omega), List.map_append, List.sum_append, at_r (show k < rs.length by omega)]
  simp
theorem total_sum' (rs : List Ring_) : total rs = rs.length + (rs.map List.length).sum := by
 unfold total
 rw [sum_to rs _ (Nat.le_refl _), List.take_length]
theorem total_tx {f : List UInt8 → Option (List Pn)} (hf : ∀ l ps, f l = some ps → ps.length ≤ l.length) {b : UInt8} {l : List UInt8} {rs : List Ring_} (h : allO f (splL b l) = some rs) : total rs ≤ l.length + 1 := by
 have h1 := all_sum hf h
 have h2 := splL_sum b l
 have h3 := allO_len h
 rw [total_sum']
 omega
/-! ### Rows of points -/
abbrev PtsG (o : Option (List Pn)) (e : Ending) (w w' : World) : Prop := ∃ v, e = .returned (.tuple #[v, .bool o.isSome]) ∧ True ∧ w'.ownsRow w.heap.size 50 2 v (o.getD []).length ((o.getD []).flatMap ptCells) ∧ Over w w'
theorem ptsg_no {o : Option (List Pn)} {w w' : World} (h : o = none) (ho : Over w w') : PtsG o (.returned (.tuple #[.slice none 0 0, .bool false])) w w' := by
 subst h
 exact ⟨_, rfl, trivial, World.ownsRow_nil _ _ _ _, ho⟩
theorem ptsg_yes {o : Option (List Pn)} {xs : List Pn} {w w' : World} {Rs : List Res} (hs : St ⟨w, []⟩ Rs w') {k : Nat} {x : Option Addr × Nat} (hk : Rs[k]? = some (rowR w.heap.size 50 2 xs.length (xs.flatMap ptCells) x)) (h : o = some xs) (ho : Over w w') : PtsG o (.returned (.tuple #[.slice x.1 xs.length x.2, .bool true])) w w' := by
 subst h
 exact ⟨_, rfl, trivial, (hs.all k _ hk).1, ho⟩
theorem readPts_any (l : List UInt8) (w : World) (hM : MaxL w) (hl : l.length ≤ 1048576) : Calls Tryd.prog 25 #[sV l] w fun e w' => PtsG (txPtsI l) e w w' := by
 have hsum := splL_sum 32 l
 refine walk_from (m := 31) (Tryd.func25) rfl rfl (Nat.le_of_ble_eq_true rfl) ?_
 refine at_seq ?_
 refine at_region ?_
 refine at_q rfl rfl (by decide) (qt_assign rfl rfl) ?_
 refine at_q rfl rfl (by decide) (qt_assign rfl rfl) ?_
 refine at_end ?_
 refine at_seq ?_
 refine at_seq ?_
 refine at_region ?_
 refine at_q rfl rfl (by decide) (qt_move rfl rfl) ?_
 refine at_q rfl rfl (by decide) (qt_eqlL (m := []) rfl rfl rfl) ?_
 refine at_end ?_
 refine at_cond rfl (fun c1 => ?_) (fun c1 => ?_)
 ·try simp only [za,zb,zc,zd,ze,zf,Bool.not_true,Bool.not_false,zg,zh,ne_eq,zi,zj] at c1
  refine at_seq ?_
  refine at_region ?_
  refine at_q rfl rfl (by decide) (qt_assign rfl rfl) ?_
  refine at_q rfl rfl (by decide) (qt_assign rfl rfl) ?_
  refine at_end ?_
  refine at_retc ?_
  refine then_ret ?_
  refine at_ret2 rfl (.tmp rfl) (.tmp rfl) ?_
  intro w' hs
  exact ⟨_, by rw [txPtsI, if_pos (by simpa using c1)]; rfl, trivial, by rw [txPtsI, if_pos (by simpa using c1)]; exact World.ownsRow_nil _ _ _ _, hs.fin⟩
 ·try simp only [za,zb,zc,zd,ze,zf,Bool.not_true,Bool.not_false,zg,zh,ne_eq,zi,zj] at c1
  have hne : ¬ l = [] := (by simpa using c1)
  have eI : txPtsI l = txPts l := if_neg hne
  rw [eI]
  refine at_skip ?_
  refine norm_then ?_
  refine at_seq ?_
  refine at_region ?_
  refine at_q rfl rfl (by decide) (qt_assign rfl rfl) ?_
  refine at_row0 (T := 50) (s := 2) ?_
  refine at_rsE (by simp only [ya,yb,yc,yd,Value.cells,ye]; rfl) ?_
  refine at_end ?_
  refine at_seq ?_
  refine at_seq ?_
  refine at_region ?_
  refine at_q rfl rfl (by decide) (qt_move rfl rfl) ?_
  refine at_op rfl ?_
  refine op_call ok_strings_Split (v := fun x => .slice x.1 (splL 32 l).length x.2) (r := fun x => rowR 0 9 1 (splL 32 l).length ((splL 32 l).map sV) x) (H := fun _ => True) rfl rfl rfl (by decide) (fun w1 hs => newRow (Split_any 32 l w1 (hM.over hs.fin) hl)) ?_
  rintro ⟨sA, sc⟩ -
  refine at_rsE (by simp only [ya,yb,yc,yd,Value.cells,ye]; rfl) ?_
  refine at_q rfl rfl (by decide) (qt_len rfl rfl tyl_sl_string) ?_
  refine at_q rfl rfl (by decide) (qt_move rfl rfl) ?_
  refine at_end ?_
  refine at_block ?_
  refine at_loopc (X := Nat × List Pn × Option Addr × Nat) (fun x => x.1 ≤ (splL 32 l).length ∧ allO txPt ((splL 32 l).take x.1) = some x.2.1) (fun x => (splL 32 l).length - x.1) (fun x => [(4, .slice x.2.2.1 x.2.1.length x.2.2.2), (14, .int .i64 (x.1 : Int))]) (C := [(2, _), (3, _), (12, _), (13, _)]) ⟨rfl, rfl, rfl, rfl, trivial⟩ (fun x => [rowR (Bs.N ⟨w, []⟩) 50 2 x.2.1.length (x.2.1.flatMap ptCells) x.2.2, rowR 0 9 1 (splL 32 l).length ((splL 32 l).map sV) (sA, sc)]) (0, [], none, 0) (⟨Nat.zero_le _, rfl⟩) ⟨rfl, rfl, rfl, rfl, rfl, rfl, trivial⟩ (fun _ h => h) ?_
  intro ⟨k, xs, rA, rc⟩ hx L hL1
  refine at_envE (by simp only [ya,yb]; rfl) ?_
  refine at_rsE (by first | (dsimp only; done) | (dsimp only; rfl) | rfl) ?_
  obtain ⟨hk, hall⟩ : k ≤ (splL 32 l).length ∧ allO txPt ((splL 32 l).take k) = some xs := hx
  have hxl := allO_len hall
  rw [List.length_take] at hxl
  refine at_seq ?_
  refine at_region ?_
  refine at_q rfl rfl (by decide) (qt_lss rfl rfl rfl) ?_
  refine at_end ?_
  refine at_seq ?_
  refine at_cond rfl (fun c2 => ?_) (fun c2 => ?_)
  ·try simp only [za,zb,zc,zd,ze,zf,Bool.not_true,Bool.not_false,zg,zh,ne_eq,zi,zj] at c2
   have hlt : k < (splL 32 l).length := (by omega)
   refine at_skip ?_
   refine norm_then ?_
   refine at_seq ?_
   refine at_block ?_
   refine at_seq ?_
   refine at_region ?_
   refine at_q rfl rfl (by decide) (qt_indexR (k := 1) (j := k) rfl rfl rfl rfl tyl_sl_string hlt) ?_
   refine at_q rfl rfl (by decide) (qt_load1 rfl rfl ty1_string (rdStr (k := 1) rfl hlt)) ?_
   refine at_q rfl rfl (by decide) (qt_assign rfl rfl) ?_
   refine at_end ?_
   refine at_seq ?_
   refine at_region ?_
   refine at_q rfl rfl (by decide) (qt_move rfl rfl) ?_
   refine at_q rfl rfl (by decide) (qt_call ok_impl_ReadPt rfl rfl (fun w1 hs => ReadPt_any _ w1 (hM.over hs.fin) (Nat.le_trans (spl_word (List.getElem_mem hlt)) hl))) ?_
   refine at_q rfl rfl (by decide) (qt_move rfl rfl) ?_
   refine at_q rfl rfl (by decide) (qt_extract rfl rfl rfl) ?_
   refine at_q rfl rfl (by decide) (qt_extract rfl rfl rfl) ?_
   refine at_op rfl ?_
   refine op_alloc rfl tyz_impl_Pt rfl (by decide) (fun b1 => ?_)
   refine at_rsE (by simp only [ya,yb,yc,yd,Value.cells,ye]; rfl) ?_
   refine at_op rfl ?_
   refine op_storeAll' (k := 2) rfl rfl rfl rfl (rfl) (by rfl) tyz_impl_Pt.szx rfl rfl rfl ?_
   refine at_rsE (by simp only [ya,yb,yc,yd,Value.cells,ye]; rfl) ?_
   refine at_q rfl rfl (by decide) (qt_assign rfl rfl) ?_
   refine at_end ?_
   refine at_seq ?_
   refine at_seq ?_
   refine at_region ?_
   refine at_q rfl rfl (by decide) (qt_move rfl rfl) ?_
   refine at_q rfl rfl (by decide) (qt_not rfl rfl) ?_
   refine at_end ?_
   refine at_cond rfl (fun c3 => ?_) (fun c3 => ?_)
   ·try simp only [za,zb,zc,zd,ze,zf,Bool.not_true,Bool.not_false,zg,zh,ne_eq,zi,zj] at c3
    refine at_seq ?_
    refine at_region ?_
    refine at_q rfl rfl (by decide) (qt_assign rfl rfl) ?_
    refine at_q rfl rfl (by decide) (qt_assign rfl rfl) ?_
    refine at_end ?_
    refine at_retc ?_
    refine then_ret ?_
    refine pass_ret ?_
    refine then_ret ?_
    refine then_ret ?_
    refine pass_ret ?_
    refine then_ret ?_
    refine at_ret2 rfl (.tmp rfl) (.tmp rfl) ?_
    intro w' hs
    exact ptsg_no (allO_at hlt (by simpa using c3)) hs.fin
   ·try simp only [za,zb,zc,zd,ze,zf,Bool.not_true,Bool.not_false,zg,zh,ne_eq,zi,zj] at c3
    obtain ⟨p, hp⟩ : ∃ p, txPt (splL 32 l)[k] = some p := Option.isSome_iff_exists.1 (by simpa using c3)
    refine at_skip ?_
    refine norm_then ?_
    refine at_region ?_
    refine at_q rfl rfl (by decide) (qt_move rfl rfl) ?_
    refine at_q rfl rfl (by decide) (qt_loadS rfl rfl tys_impl_Pt rfl (rdAll (k := 2) rfl)) ?_
    refine at_op rfl ?_
    refine op_buildSlice rfl rfl (bsl_sl_impl_Pt_1_0 rfl) rfl (by decide) (fun b2 => ?_)
    refine at_rsE (by simp only [ya,yb,yc,yd,Value.cells,ye]; rfl) ?_
    refine at_op rfl ?_
    refine op_appendR (k := 0) rfl tyl_sl_impl_Pt tyz_impl_Pt (by decide) rfl (by decide) rfl rfl rfl (fun w' hs => src_cel hs (k := 3) rfl rfl) (by simp [Value.oneCell']) (by unfold maxLen; omega) (by omega) (Nat.le_refl _) (fun r1 => ?_)
    refine at_rsE (by simp only [ya,yb,yc,yd,Value.cells,ye]; rfl) ?_
    refine at_q rfl rfl (by decide) (qt_assign rfl rfl) ?_
    refine at_nil ?_
    refine norm_block ?_
    refine norm_then ?_
    refine at_region ?_
    refine at_q rfl rfl (by decide) (qt_add rfl rfl rfl (by omega) (by omega)) ?_
    refine at_q rfl rfl (by decide) (qt_move rfl rfl) ?_
    refine at_end ?_
    exact at_againc hL1 ((k + 1, xs ++ [p], r1)) (⟨show k + 1 ≤ _ by omega, allO_take hall hlt hp⟩) (by simp only; omega) ⟨(by rw [List.length_append]; rfl), vi (by omega), rfl, rfl, rfl, rfl, trivial⟩ (fun _ h => h.upto ⟨by rw [hp, List.length_append, List.flatMap_append]; rfl, rfl, trivial⟩)
  ·try simp only [za,zb,zc,zd,ze,zf,Bool.not_true,Bool.not_false,zg,zh,ne_eq,zi,zj] at c2
   have hkn : k = (splL 32 l).length := (by omega)
   refine at_exit ?_
   refine pass_then (fun h => by cases h) ?_
   refine pass_then (fun h => by cases h) ?_
   refine pass_hit ?_
   refine norm_then ?_
   refine at_seq ?_
   refine at_region ?_
   refine at_q rfl rfl (by decide) (qt_move rfl rfl) ?_
   refine at_q rfl rfl (by decide) (qt_assign rfl rfl) ?_
   refine at_q rfl rfl (by decide) (qt_assign rfl rfl) ?_
   refine at_end ?_
   refine at_retc ?_
   refine at_ret2 rfl (.tmp rfl) (.tmp rfl) ?_
   intro w' hs
   exact ptsg_yes (x := (rA, rc)) hs (k := 0) rfl (allO_full hall hkn) hs.fin
theorem l09Read_any (l : List UInt8) (w : World) (hl : l.length ≤ 1048576) : Calls Tryd.prog 22 #[sV l] w fun e w' => PtsG (txPts l) e w w' := by
 have hsum := splL_sum 32 l
 refine walk_from (m := 33) (Tryd.func22) rfl rfl (Nat.le_of_ble_eq_true rfl) ?_
 refine at_seq ?_
 refine at_region ?_
 refine at_q rfl rfl (by decide) (qt_assign rfl rfl) ?_
 refine at_q rfl rfl (by decide) (qt_assign rfl rfl) ?_
 refine at_end ?_
 refine at_seq ?_
 refine at_region ?_
 refine at_q rfl rfl (by decide) (qt_move rfl rfl) ?_
 refine at_op rfl ?_
 refine op_call ok_spec_l01Split (X := Option Addr × Nat) (v := fun x => .slice x.1 (splL 32 l).length x.2) (r := fun x => rowR 0 9 1 (splL 32 l).length ((splL 32 l).map sV) x) (H := fun _ => True) rfl rfl rfl (by decide) (fun w1 hs => newRow (show Calls Tryd.prog 21 #[sV l, u8V 32] w1 _ from l01Split_any 32 l w1 hl)) ?_
 rintro ⟨sA, sc⟩ -
 refine at_rsE (by simp only [ya,yb,yc,yd,Value.cells,ye]; rfl) ?_
 refine at_q rfl rfl (by decide) (qt_assign rfl rfl) ?_
 refine at_end ?_
 refine at_seq ?_
 refine at_region ?_
 refine at_op rfl ?_
 refine op_buildSlice rfl rfl (bsl_sl_impl_Pt_0) rfl (by decide) (fun b1 => ?_)
 refine at_rowN 1 2 rfl rfl ?_
 refine at_rsE (by simp only [ya,yb,yc,yd,Value.cells,ye]; rfl) ?_
 refine at_q rfl rfl (by decide) (qt_assign rfl rfl) ?_
 refine at_end ?_
 refine at_seq ?_
 refine at_seq ?_
 refine at_region ?_
 refine at_q rfl rfl (by decide) (qt_assign rfl rfl) ?_
 refine at_end ?_
 refine at_block ?_
 refine at_loopc (X := Nat × List Pn × Option Addr × Nat) (fun x => x.1 ≤ (splL 32 l).length ∧ allO txPt ((splL 32 l).take x.1) = some x.2.1) (fun x => (splL 32 l).length - x.1) (fun x => [(5, .slice x.2.2.1 x.2.1.length x.2.2.2), (6, .int .i64 (x.1 : Int))]) (C := [(2, _), (3, _), (4, _)]) ⟨rfl, rfl, rfl, trivial⟩ (fun x => [rowR 0 9 1 (splL 32 l).length ((splL 32 l).map sV) (sA, sc), rowR (Bs.N ⟨w, []⟩) 50 2 x.2.1.length (x.2.1.flatMap ptCells) x.2.2]) (0, [], some ⟨b1, 0, none⟩, 0) (⟨Nat.zero_le _, rfl⟩) ⟨rfl, rfl, rfl, rfl, rfl, trivial⟩ (fun _ h => h) ?_
 intro ⟨k, xs, rA, rc⟩ hx L hL1
 refine at_envE (by simp only [ya,yb]; rfl) ?_
 refine at_rsE (by first | (dsimp only; done) | (dsimp only; rfl) | rfl) ?_
 obtain ⟨hk, hall⟩ : k ≤ (splL 32 l).length ∧ allO txPt ((splL 32 l).take k) = some xs := hx
 have hxl := allO_len hall
 rw [List.length_take] at hxl
 refine at_seq ?_
 refine at_seq ?_
 refine at_region ?_
 refine at_q rfl rfl (by decide) (qt_move rfl rfl) ?_
 refine at_q rfl rfl (by decide) (qt_move rfl rfl) ?_
 refine at_q rfl rfl (by decide) (qt_len rfl rfl tyl_sl_string) ?_
 refine at_q rfl rfl (by decide) (qt_lss rfl rfl rfl) ?_
 refine at_end ?_
 refine at_cond rfl (fun c1 => ?_) (fun c1 => ?_)
 ·try simp only [za,zb,zc,zd,ze,zf,Bool.not_true,Bool.not_false,zg,zh,ne_eq,zi,zj] at c1
  have hlt : k < (splL 32 l).length := (by omega)
  refine at_skip ?_
  refine norm_then ?_
  refine at_seq ?_
  refine at_block ?_
  refine at_seq ?_
  refine at_region ?_
  refine at_q rfl rfl (by decide) (qt_move rfl rfl) ?_
  refine at_q rfl rfl (by decide) (qt_move rfl rfl) ?_
  refine at_q rfl rfl (by decide) (qt_indexR (k := 0) (j := k) rfl rfl rfl rfl tyl_sl_string hlt) ?_
  refine at_q rfl rfl (by decide) (qt_load1 rfl rfl ty1_string (rdStr (k := 0) rfl hlt)) ?_
  refine at_q rfl rfl (by decide) (qt_call ok_spec_ReadPt rfl rfl (fun w1 hs => specReadPt_any _ w1 (Nat.le_trans (spl_word (List.getElem_mem hlt)) hl))) ?_
  refine at_q rfl rfl (by decide) (qt_move rfl rfl) ?_
  refine at_q rfl rfl (by decide) (qt_extract rfl rfl rfl) ?_
  refine at_q rfl rfl (by decide) (qt_extract rfl rfl rfl) ?_
  refine at_op rfl ?_
  refine op_alloc rfl tyz_impl_Pt rfl (by decide) (fun b2 => ?_)
  refine at_rsE (by simp only [ya,yb,yc,yd,Value.cells,ye]; rfl) ?_
  refine at_op rfl ?_
  refine op_storeAll' (k := 2) rfl rfl rfl rfl (rfl) (by rfl) tyz_impl_Pt.szx rfl rfl rfl ?_
  refine at_rsE (by simp only [ya,yb,yc,yd,Value.cells,ye]; rfl) ?_
  refine at_q rfl rfl (by decide) (qt_assign rfl rfl) ?_
  refine at_end ?_
  refine at_seq ?_
  refine at_seq ?_
  refine at_region ?_
  refine at_q rfl rfl (by decide) (qt_move rfl rfl) ?_
  refine at_q rfl rfl (by decide) (qt_not rfl rfl) ?_
  refine at_end ?_
  refine at_cond rfl (fun c2 => ?_) (fun c2 => ?_)
  ·try simp only [za,zb,zc,zd,ze,zf,Bool.not_true,Bool.not_false,zg,zh,ne_eq,zi,zj] at c2
   refine at_seq ?_
   refine at_region ?_
   refine at_q rfl rfl (by decide) (qt_assign rfl rfl) ?_
   refine at_q rfl rfl (by decide) (qt_assign rfl rfl) ?_
   refine at_end ?_
   refine at_retc ?_
   refine then_ret ?_
   refine pass_ret ?_
   refine then_ret ?_
   refine then_ret ?_
   refine pass_ret ?_
   refine then_ret ?_
   refine at_ret2 rfl (.tmp rfl) (.tmp rfl) ?_
   intro w' hs
   exact ptsg_no (allO_at hlt (by simpa using c2)) hs.fin
  ·try simp only [za,zb,zc,zd,ze,zf,Bool.not_true,Bool.not_false,zg,zh,ne_eq,zi,zj] at c2
   obtain ⟨p, hp⟩ : ∃ p, txPt (splL 32 l)[k] = some p := Option.isSome_iff_exists.1 (by simpa using c2)
   refine at_skip ?_
   refine norm_then ?_
   refine at_region ?_
   refine at_q rfl rfl (by decide) (qt_move rfl rfl) ?_
   refine at_q rfl rfl (by decide) (qt_loadS rfl rfl tys_impl_Pt rfl (rdAll (k := 2) rfl)) ?_
   refine at_op rfl ?_
   refine op_buildSlice rfl rfl (bsl_sl_impl_Pt_1_0 rfl) rfl (by decide) (fun b3 => ?_)
   refine at_rsE (by simp only [ya,yb,yc,yd,Value.cells,ye]; rfl) ?_
   refine at_op rfl ?_
   refine op_appendR (k := 1) rfl tyl_sl_impl_Pt tyz_impl_Pt (by decide) rfl (by decide) rfl rfl rfl (fun w' hs => src_cel hs (k := 3) rfl rfl) (by simp [Value.oneCell']) (by unfold maxLen; omega) (by omega) (Nat.le_refl _) (fun r1 => ?_)
   refine at_rsE (by simp only [ya,yb,yc,yd,Value.cells,ye]; rfl) ?_
   refine at_q rfl rfl (by decide) (qt_assign rfl rfl) ?_
   refine at_nil ?_
   refine norm_block ?_
   refine norm_then ?_
   refine at_region ?_
   refine at_q rfl rfl (by decide) (qt_move rfl rfl) ?_
   refine at_q rfl rfl (by decide) (qt_add rfl rfl rfl (by omega) (by omega)) ?_
   refine at_q rfl rfl (by decide) (qt_assign rfl rfl) ?_
   refine at_end ?_
   exact at_againc hL1 ((k + 1, xs ++ [p], r1)) (⟨show k + 1 ≤ _ by omega, allO_take hall hlt hp⟩) (by simp only; omega) ⟨(by rw [List.length_append]; rfl), vi (by omega), rfl, rfl, rfl, trivial⟩ (fun _ h => h.upto ⟨rfl, by rw [hp, List.length_append, List.flatMap_append]; rfl, trivial⟩)
 ·try simp only [za,zb,zc,zd,ze,zf,Bool.not_true,Bool.not_false,zg,zh,ne_eq,zi,zj] at c1
  have hkn : k = (splL 32 l).length := (by omega)
  refine at_exit ?_
  refine pass_then (fun h => by cases h) ?_
  refine pass_then (fun h => by cases h) ?_
  refine pass_hit ?_
  refine norm_then ?_
  refine at_seq ?_
  refine at_region ?_
  refine at_q rfl rfl (by decide) (qt_move rfl rfl) ?_
  refine at_q rfl rfl (by decide) (qt_assign rfl rfl) ?_
  refine at_q rfl rfl (by decide) (qt_assign rfl rfl) ?_
  refine at_end ?_
  refine at_retc ?_
  refine at_ret2 rfl (.tmp rfl) (.tmp rfl) ?_
  intro w' hs
  exact ptsg_yes (x := (rA, rc)) hs (k := 1) rfl (allO_full hall hkn) hs.fin
end Go.Proofs.YtjhaakollekjeaaDoor
