import Derived.Test.YtjhaakollekjeaaDoorO21
import Derived.Test.YtjhaakollekjeaaDoorO17
import Derived.Test.YtjhaakollekjeaaDoorO18
namespace Go.Proofs.YtjhaakollekjeaaDoor
open Go Go.RowKit
set_option linter.unusedVariables false
set_option linter.unusedSimpArgs false
set_option maxRecDepth 100000
set_option maxHeartbeats 4000000
set_option linter.unusedVariables false
set_option linter.unusedSimpArgs false
theorem rdStr {w0 : Bs} {Rs : List Res} {k B T m j : Nat} {L : List (List UInt8)} {r : Option Addr × Nat} (hk : Rs[k]? = some (rowR B T 1 m (L.map sV) r)) (hj : j < L.length) : ∀ w, St w0 Rs w → w.cell? ⟨ablk r.1, 0 + j * 1, none⟩ = some (sV L[j]) := fun w hs => by
 rw [Nat.zero_add, Nat.mul_one]
 exact row_cell (hs.all k _ hk).1 (by rw [List.getElem?_map, List.getElem?_eq_getElem hj]; rfl)
/-! ### Points -/
def ptR (o : Option Pn) : Value := .tuple #[pV (o.getD (0, 0)), .bool o.isSome]
theorem pt_none {o : Option Pn} (h : o = none) : Ending.returned (.tuple #[pV (0, 0), .bool false]) = .returned (ptR o) := by rw [h]; rfl
theorem pt_some {o : Option Pn} {p : Pn} (h : o = some p) : Ending.returned (.tuple #[pV p, .bool true]) = .returned (ptR o) := by rw [h]; rfl
theorem two_no {p q : List UInt8} (hc : (44 : UInt8) ∉ p) (h : ¬ (okD p = true ∧ okD q = true ∧ okB (valL p) (valL q) = true)) : txPt (p ++ 44 :: q) = none := by
 rw [txPt_cut hc, if_neg]
 rw [Bool.and_eq_true, Bool.and_eq_true]
 exact fun k => h ⟨k.1.1, k.1.2, k.2⟩
theorem two_yes {p q : List UInt8} (hc : (44 : UInt8) ∉ p) (h1 : okD p = true) (h2 : okD q = true) (h3 : okB (valL p) (valL q) = true) : txPt (p ++ 44 :: q) = some (valL p, valL q) := by
 rw [txPt_cut hc, h1, h2, h3]
 rfl
theorem decV_yes {l : List UInt8} (h : okD l = true) : decV l = valL l := if_pos h
theorem ReadPt_no (l : List UInt8) (w : World) (hM : MaxL w) (hl : l.length ≤ 1048576) (hc : (44 : UInt8) ∉ l) : Calls Tryd.prog 49 #[sV l] w fun e w' => e = .returned (ptR (txPt l)) ∧ Over w w' := by
 have hcut := cut_no hc
 refine walk_from (m := 42) (Tryd.func49) rfl rfl (Nat.le_of_ble_eq_true rfl) ?_
 refine at_seq ?_
 refine at_region ?_
 refine at_op rfl ?_
 refine op_alloc rfl tyz_impl_Pt rfl (by decide) (fun b1 => ?_)
 refine at_rsE (by simp only [ya,yb,yc,yd,Value.cells,ye]; rfl) ?_
 refine at_q rfl rfl (by decide) (qt_assign rfl rfl) ?_
 refine at_end ?_
 refine at_seq ?_
 refine at_region ?_
 refine at_q rfl rfl (by decide) (qt_move rfl rfl) ?_
 refine at_q rfl rfl (by decide) (qt_call ok_strings_Cut rfl rfl (fun w1 hs => hcut ▸ Cut_any 44 l w1 (hM.over hs.fin) hl)) ?_
 refine at_q rfl rfl (by decide) (qt_move rfl rfl) ?_
 refine at_q rfl rfl (by decide) (qt_extract rfl rfl rfl) ?_
 refine at_q rfl rfl (by decide) (qt_extract rfl rfl rfl) ?_
 refine at_q rfl rfl (by decide) (qt_extract rfl rfl rfl) ?_
 refine at_q rfl rfl (by decide) (qt_assign rfl rfl) ?_
 refine at_q rfl rfl (by decide) (qt_assign rfl rfl) ?_
 refine at_q rfl rfl (by decide) (qt_assign rfl rfl) ?_
 refine at_end ?_
 refine at_seq ?_
 refine at_seq ?_
 refine at_region ?_
 refine at_q rfl rfl (by decide) (qt_move rfl rfl) ?_
 refine at_q rfl rfl (by decide) (qt_not rfl rfl) ?_
 refine at_end ?_
 refine at_yes rfl (rfl) ?_
 refine at_seq ?_
 refine at_region ?_
 refine at_q rfl rfl (by decide) (qt_build rfl rfl (bld_impl_Pt_)) ?_
 refine at_op rfl ?_
 refine op_storeAll' (k := 0) rfl rfl rfl rfl (rfl) (by rfl) tyz_impl_Pt.szx rfl rfl rfl ?_
 refine at_rsE (by simp only [ya,yb,yc,yd,Value.cells,ye]; rfl) ?_
 refine at_q rfl rfl (by decide) (qt_assign rfl rfl) ?_
 refine at_end ?_
 refine at_retc ?_
 refine then_ret ?_
 refine at_ret2 rfl (rvCelS (k := 0) rfl tys_impl_Pt rfl rfl) (.tmp rfl) ?_
 intro w' hs
 exact ⟨pt_none (txPt_no hc), hs.fin⟩
theorem ReadPt_two (p q : List UInt8) (w : World) (hM : MaxL w) (hl : (p ++ 44 :: q).length ≤ 1048576) (hc : (44 : UInt8) ∉ p) : Calls Tryd.prog 49 #[sV (p ++ 44 :: q)] w fun e w' => e = .returned (ptR (txPt (p ++ 44 :: q))) ∧ Over w w' := by
 have hcut := cut_two (l := q) hc
 have hlp : p.length + (q.length + 1) ≤ 1048576 := by rw [List.length_append, List.length_cons] at hl; exact hl
 refine walk_from (m := 42) (Tryd.func49) rfl rfl (Nat.le_of_ble_eq_true rfl) ?_
 refine at_seq ?_
 refine at_region ?_
 refine at_op rfl ?_
 refine op_alloc rfl tyz_impl_Pt rfl (by decide) (fun b1 => ?_)
 refine at_rsE (by simp only [ya,yb,yc,yd,Value.cells,ye]; rfl) ?_
 refine at_q rfl rfl (by decide) (qt_assign rfl rfl) ?_
 refine at_end ?_
 refine at_seq ?_
 refine at_region ?_
 refine at_q rfl rfl (by decide) (qt_move rfl rfl) ?_
 refine at_q rfl rfl (by decide) (qt_call ok_strings_Cut rfl rfl (fun w1 hs => hcut ▸ Cut_any 44 (p ++ 44 :: q) w1 (hM.over hs.fin) hl)) ?_
 refine at_q rfl rfl (by decide) (qt_move rfl rfl) ?_
 refine at_q rfl rfl (by decide) (qt_extract rfl rfl rfl) ?_
 refine at_q rfl rfl (by decide) (qt_extract rfl rfl rfl) ?_
 refine at_q rfl rfl (by decide) (qt_extract rfl rfl rfl) ?_
 refine at_q rfl rfl (by decide) (qt_assign rfl rfl) ?_
 refine at_q rfl rfl (by decide) (qt_assign rfl rfl) ?_
 refine at_q rfl rfl (by decide) (qt_assign rfl rfl) ?_
 refine at_end ?_
 refine at_seq ?_
 refine at_seq ?_
 refine at_region ?_
 refine at_q rfl rfl (by decide) (qt_move rfl rfl) ?_
 refine at_q rfl rfl (by decide) (qt_not rfl rfl) ?_
 refine at_end ?_
 refine at_no rfl (rfl) ?_
 refine at_skip ?_
 refine norm_then ?_
 refine at_seq ?_
 refine at_region ?_
 refine at_q rfl rfl (by decide) (qt_build rfl rfl (bld_impl_Pt_)) ?_
 refine at_op rfl ?_
 refine op_alloc rfl tyz_impl_Pt rfl (by decide) (fun b2 => ?_)
 refine at_rsE (by simp only [ya,yb,yc,yd,Value.cells,ye]; rfl) ?_
 refine at_op rfl ?_
 refine op_storeAll' (k := 1) rfl rfl rfl rfl (rfl) (by rfl) tyz_impl_Pt.szx rfl rfl rfl ?_
 refine at_rsE (by simp only [ya,yb,yc,yd,Value.cells,ye]; rfl) ?_
 refine at_end ?_
 refine at_seq ?_
 refine at_seq ?_
 refine at_region ?_
 refine at_q rfl rfl (by decide) (qt_move rfl rfl) ?_
 refine at_q rfl rfl (by decide) (qt_call ok_impl_ReadDecimal rfl rfl (fun w1 hs => ReadDecimal_any p w1 (by omega))) ?_
 refine at_q rfl rfl (by decide) (qt_move rfl rfl) ?_
 refine at_q rfl rfl (by decide) (qt_extract rfl rfl rfl) ?_
 refine at_q rfl rfl (by decide) (qt_extract rfl rfl rfl) ?_
 refine at_q rfl rfl (by decide) (qt_fieldAddr rfl rfl tyf_impl_Pt_0) ?_
 refine at_op rfl ?_
 refine op_store_2_0_1 (k := 1) rfl rfl rfl rfl (rfl) (by rfl) tyz_int64.szx rfl ?_
 refine at_rsE (by simp only [ya,yb,yc,yd,Value.cells,ye]; rfl) ?_
 refine at_q rfl rfl (by decide) (qt_assign rfl rfl) ?_
 refine at_end ?_
 refine at_seq ?_
 refine at_region ?_
 refine at_q rfl rfl (by decide) (qt_move rfl rfl) ?_
 refine at_q rfl rfl (by decide) (qt_not rfl rfl) ?_
 refine at_end ?_
 refine at_cond rfl (fun c1 => ?_) (fun c1 => ?_)
 ·try simp only [za,zb,zc,zd,ze,zf,Bool.not_true,Bool.not_false,zg,zh,ne_eq,zi,zj] at c1
  refine at_seq ?_
  refine at_region ?_
  refine at_q rfl rfl (by decide) (qt_build rfl rfl (bld_impl_Pt_)) ?_
  refine at_op rfl ?_
  refine op_storeAll' (k := 0) rfl rfl rfl rfl (rfl) (by rfl) tyz_impl_Pt.szx rfl rfl rfl ?_
  refine at_rsE (by simp only [ya,yb,yc,yd,Value.cells,ye]; rfl) ?_
  refine at_q rfl rfl (by decide) (qt_assign rfl rfl) ?_
  refine at_end ?_
  refine at_retc ?_
  refine then_ret ?_
  refine at_ret2 rfl (rvCelS (k := 0) rfl tys_impl_Pt rfl rfl) (.tmp rfl) ?_
  intro w' hs
  exact ⟨pt_none (two_no hc (by rw [c1]; simp)), hs.fin⟩
 ·try simp only [za,zb,zc,zd,ze,zf,Bool.not_true,Bool.not_false,zg,zh,ne_eq,zi,zj] at c1
  refine at_skip ?_
  refine norm_then ?_
  refine at_seq ?_
  refine at_seq ?_
  refine at_region ?_
  refine at_q rfl rfl (by decide) (qt_move rfl rfl) ?_
  refine at_q rfl rfl (by decide) (qt_call ok_impl_ReadDecimal rfl rfl (fun w1 hs => ReadDecimal_any q w1 (by omega))) ?_
  refine at_q rfl rfl (by decide) (qt_move rfl rfl) ?_
  refine at_q rfl rfl (by decide) (qt_extract rfl rfl rfl) ?_
  refine at_q rfl rfl (by decide) (qt_extract rfl rfl rfl) ?_
  refine at_q rfl rfl (by decide) (qt_fieldAddr rfl rfl tyf_impl_Pt_1) ?_
  refine at_op rfl ?_
  refine op_store_2_1_1 (k := 1) rfl rfl rfl rfl (rfl) (by rfl) tyz_int64.szx rfl ?_
  refine at_rsE (by simp only [ya,yb,yc,yd,Value.cells,ye]; rfl) ?_
  refine at_q rfl rfl (by decide) (qt_assign rfl rfl) ?_
  refine at_end ?_
  refine at_seq ?_
  refine at_region ?_
  refine at_q rfl rfl (by decide) (qt_move rfl rfl) ?_
  refine at_q rfl rfl (by decide) (qt_not rfl rfl) ?_
  refine at_q rfl rfl (by decide) (qt_move rfl rfl) ?_
  refine at_bsplit 35 rfl (fun g1 => ?_) (fun g1 => ?_)
  ·try simp only [za,zb,zc,zd,ze,zf,Bool.not_true,Bool.not_false,zg,zh,ne_eq,zi,zj] at g1
   refine at_off rfl rfl rfl rfl (by decide) rfl (by decide) ?_
   refine at_off rfl rfl rfl rfl (by decide) rfl (by decide) ?_
   refine at_off rfl rfl rfl rfl (by decide) rfl (by decide) ?_
   refine at_q rfl rfl (by decide) (qt_pickT rfl rfl rfl) ?_
   refine at_end ?_
   refine at_yes rfl rfl ?_
   refine at_seq ?_
   refine at_region ?_
   refine at_q rfl rfl (by decide) (qt_build rfl rfl (bld_impl_Pt_)) ?_
   refine at_op rfl ?_
   refine op_storeAll' (k := 0) rfl rfl rfl rfl (rfl) (by rfl) tyz_impl_Pt.szx rfl rfl rfl ?_
   refine at_rsE (by simp only [ya,yb,yc,yd,Value.cells,ye]; rfl) ?_
   refine at_q rfl rfl (by decide) (qt_assign rfl rfl) ?_
   refine at_end ?_
   refine at_retc ?_
   refine then_ret ?_
   refine at_ret2 rfl (rvCelS (k := 0) rfl tys_impl_Pt rfl rfl) (.tmp rfl) ?_
   intro w' hs
   exact ⟨pt_none (two_no hc (by rw [g1]; simp)), hs.fin⟩
  ·try simp only [za,zb,zc,zd,ze,zf,Bool.not_true,Bool.not_false,zg,zh,ne_eq,zi,zj] at g1
   refine at_on rfl rfl rfl rfl ?_
   refine op_q rfl (by decide) (qt_loadS rfl rfl tys_impl_Pt rfl (rdAll (k := 1) rfl)) ?_
   refine at_on rfl rfl rfl rfl ?_
   refine op_q rfl (by decide) (qt_call ok_impl_ValidPt rfl rfl (fun w1 hs => ValidPt_any (decV p) (decV q) w1)) ?_
   refine at_on rfl rfl rfl rfl ?_
   refine op_q rfl (by decide) (qt_not rfl rfl) ?_
   refine at_q rfl rfl (by decide) (qt_pickF rfl rfl rfl) ?_
   refine at_end ?_
   refine at_cond rfl (fun c2 => ?_) (fun c2 => ?_)
   ·try simp only [za,zb,zc,zd,ze,zf,Bool.not_true,Bool.not_false,zg,zh,ne_eq,zi,zj] at c2
    refine at_seq ?_
    refine at_region ?_
    refine at_q rfl rfl (by decide) (qt_build rfl rfl (bld_impl_Pt_)) ?_
    refine at_op rfl ?_
    refine op_storeAll' (k := 0) rfl rfl rfl rfl (rfl) (by rfl) tyz_impl_Pt.szx rfl rfl rfl ?_
    refine at_rsE (by simp only [ya,yb,yc,yd,Value.cells,ye]; rfl) ?_
    refine at_q rfl rfl (by decide) (qt_assign rfl rfl) ?_
    refine at_end ?_
    refine at_retc ?_
    refine then_ret ?_
    refine at_ret2 rfl (rvCelS (k := 0) rfl tys_impl_Pt rfl rfl) (.tmp rfl) ?_
    intro w' hs
    exact ⟨pt_none (two_no hc (by rintro ⟨h1, h2, h3⟩; rw [← decV_yes h1, ← decV_yes h2, c2] at h3; cases h3)), hs.fin⟩
   ·try simp only [za,zb,zc,zd,ze,zf,Bool.not_true,Bool.not_false,zg,zh,ne_eq,zi,zj] at c2
    refine at_skip ?_
    refine norm_then ?_
    refine at_seq ?_
    refine at_region ?_
    refine at_q rfl rfl (by decide) (qt_loadS rfl rfl tys_impl_Pt rfl (rdAll (k := 1) rfl)) ?_
    refine at_op rfl ?_
    refine op_storeAll' (k := 0) rfl rfl rfl rfl (rfl) (by rfl) tyz_impl_Pt.szx rfl rfl rfl ?_
    refine at_rsE (by simp only [ya,yb,yc,yd,Value.cells,ye]; rfl) ?_
    refine at_q rfl rfl (by decide) (qt_assign rfl rfl) ?_
    refine at_end ?_
    refine at_retc ?_
    refine at_ret2 rfl (rvCelS (k := 0) rfl tys_impl_Pt rfl rfl) (.tmp rfl) ?_
    intro w' hs
    exact ⟨by have e1 := decV_yes c1; have e2 := decV_yes g1; rw [e1, e2] at c2 ⊢; exact pt_some (two_yes hc c1 g1 c2), hs.fin⟩
theorem ReadPt_any (l : List UInt8) (w : World) (hM : MaxL w) (hl : l.length ≤ 1048576) : Calls Tryd.prog 49 #[sV l] w fun e w' => e = .returned (ptR (txPt l)) ∧ Over w w' := by
 rcases cut_or 44 l with hc | ⟨p, q, hc, rfl⟩
 ·exact ReadPt_no l w hM hl hc
 ·exact ReadPt_two p q w hM hl hc
theorem spl_word {b : UInt8} {l x : List UInt8} (h : x ∈ splL b l) : x.length ≤ l.length := by
 have h1 := splL_sum b l
 have key : ∀ L : List (List UInt8), x ∈ L → x.length + L.length ≤ (L.map List.length).sum + L.length := fun L => by
  induction L with
  | nil => intro k; cases k
  | cons a t ih =>
   intro k
   rw [List.map_cons, List.sum_cons, List.length_cons]
   rcases List.mem_cons.1 k with q | q
   ·subst q; omega
   ·have := ih q; omega
 have h2 := key _ h
 have h3 : 1 ≤ (splL b l).length := List.length_pos_iff.2 (splL_ne b l)
 omega
theorem newRowV {P : Program} {f : FuncId} {args : Array Value} {w1 : World} {T s n : Nat} {xs : List Value} {V : Value → Value} (h : Calls P f args w1 fun e w' => ∃ v, e = .returned (V v) ∧ True ∧ w'.ownsRow w1.heap.size T s v n xs ∧ Over w1 w') :
  Calls P f args w1 fun e w' => ∃ x : Option Addr × Nat, e = .returned (V (.slice x.1 n x.2)) ∧ Over w1 w' ∧ (rowR 0 T s n xs x).P w' ∧ (∀ b, (rowR 0 T s n xs x).F b → w1.heap.size ≤ b) ∧ (rowR 0 T s n xs x).B = 0 ∧ True := by
 refine h.mono ?_
 rintro e w' ⟨v, rfl, _, hr, hO⟩
 obtain ⟨x, rfl⟩ := row_slice hr
 exact ⟨x, rfl, hO, row_low hr (Nat.zero_le _), fun b hb => (hr.lt b hb).1, rfl, trivial⟩
end Go.Proofs.YtjhaakollekjeaaDoor

namespace Go.Proofs.YtjhaakollekjeaaDoor
open Go Go.RowKit
set_option linter.unusedVariables false
set_option linter.unusedSimpArgs false
set_option maxRecDepth 100000
set_option maxHeartbeats 4000000
set_option linter.unusedVariables false
set_option linter.unusedSimpArgs false
/-! ### Plain -/
/-- The lines of a text. -/
def linI (l : List UInt8) : Option (List (List UInt8)) := if l = [] then some [] else if l.getLast? = some 10 then some (splL 10 l.dropLast) else none
theorem rdPts_pos {l : List UInt8} {p : Pn} (h : txPt l = some p) : 1 ≤ l.length := by
 cases l with
 | nil => rw [txPt_nil] at h; cases h
 | cons c t => simp
/-- Few points in a short text. -/
theorem all_pos : ∀ {L : List (List UInt8)} {ps : List Pn}, allO txPt L = some ps → ps.length ≤ (L.map List.length).sum
 | [], ps, h => by simp [allO] at h; subst h; simp
 | x :: L, ps, h => by
  unfold allO at h
  split at h
  ·rename_i y r hy hr
   injection h with h
   subst h
   have h1 := rdPts_pos hy
   have h2 := all_pos hr
   rw [List.map_cons, List.sum_cons, List.length_cons]
   omega
  ·cases h
theorem pts_len {l : List UInt8} {ps : List Pn} (h : txPts l = some ps) : ps.length ≤ l.length := by
 have h1 := all_pos h
 have h2 := splL_sum 32 l
 have h3 : 1 ≤ (splL 32 l).length := List.length_pos_iff.2 (splL_ne 32 l)
 omega
theorem ptsI_len {l : List UInt8} {ps : List Pn} (h : txPtsI l = some ps) : ps.length ≤ l.length := by
 unfold txPtsI at h
 split at h
 ·injection h with h
  subst h; simp
 ·exact pts_len h
/-- The size of what was read. -/
theorem all_sum {f : List UInt8 → Option (List Pn)} (hf : ∀ l ps, f l = some ps → ps.length ≤ l.length) : ∀ {L : List (List UInt8)} {rs : List Ring_}, allO f L = some rs → (rs.map List.length).sum ≤ (L.map List.length).sum
 | [], rs, h => by simp [allO] at h; subst h; simp
 | x :: L, rs, h => by
  unfold allO at h
  split at h
  ·rename_i y r hy hr
   injection h with h
   subst h
   have h1 := hf _ _ hy
   have h2 := all_sum hf hr
   simp only [List.map_cons, List.sum_cons]
   omega
  ·cases h
theorem sum_to (rs : List Ring_) : ∀ k, k ≤ rs.length → sumTo rs k = ((rs.take k).map List.length).sum
 | 0, _ => by simp [sumTo]
 | k + 1, hk => by
  rw [sumTo, sum_to rs k (by omega), List.take_succ_eq_append_getElem (by omega), List.map_append, List.sum_append, at_r (show k < rs.length by omega)]
  simp
theorem total_sum' (rs : List Ring_) : total rs = rs.length + (rs.map List.length).sum := by
 unfold total
 rw [sum_to rs _ (Nat.le_refl _), List.take_length]
theorem total_tx {f : List UInt8 → Option (List Pn)} (hf : ∀ l ps, f l = some ps → ps.length ≤ l.length) {b : UInt8} {l : List UInt8} {rs : List Ring_} (h : allO f (splL b l) = some rs) : total rs ≤ l.length + 1 := by
 have h1 := all_sum hf h
 have h2 := splL_sum b l
 have h3 := allO_len h
 rw [total_sum']
 omega
/-! ### Rows of points -/
end Go.Proofs.YtjhaakollekjeaaDoor

namespace Go.Proofs.YtjhaakollekjeaaDoor
open Go Go.RowKit
set_option linter.unusedVariables false
set_option linter.unusedSimpArgs false
/-- A slice that reads as the list l; each element takes m cells. -/
def Els {α : Type} (f : α → List Value) (m : Nat) (w : World) (A : Option Addr) (n : Nat) (l : List α) : Prop :=
 l.length = n ∧ (0 < n → ∃ b o, A = some ⟨b, o, none⟩ ∧ b < w.heap.size ∧ ∀ k x, l[k]? = some x → ∀ q v, (f x)[q]? = some v → w.cell? ⟨b, o + k * m + q, none⟩ = some v)
section
variable {α : Type} {f : α → List Value} {m n : Nat} {A : Option Addr} {l : List α}
theorem Els.over {w w' : World} (h : Els f m w A n l) (ho : Over w w') : Els f m w' A n l := by
 refine ⟨h.1, fun hn => ?_⟩
 obtain ⟨b, o, hA, hlt, hc⟩ := h.2 hn
 exact ⟨b, o, hA, Nat.lt_of_lt_of_le hlt ho.size, fun k x hk q v hv => ((ocell ho).1 b _ hlt).trans (hc k x hk q v hv)⟩
theorem Els.at_ {w : World} (h : Els f m w A n l) (hn : 0 < n) : ∃ b o, A = some ⟨b, o, none⟩ ∧ b < w.heap.size := by
 obtain ⟨b, o, hA, hlt, _⟩ := h.2 hn
 exact ⟨b, o, hA, hlt⟩
theorem Els.cell {w : World} {b o k q : Nat} {x : α} {v : Value} (h : Els f m w (some ⟨b, o, none⟩) n l) (hk : l[k]? = some x) (hv : (f x)[q]? = some v) : b < w.heap.size ∧ w.cell? ⟨b, o + k * m + q, none⟩ = some v := by
 have hlt := (List.getElem?_eq_some_iff.1 hk).1
 obtain ⟨b', o', e, hb, hc⟩ := h.2 (by have := h.1; omega)
 injection e with e
 injection e with e1 e2 _
 subst e1 e2
 exact ⟨hb, hc k x hk q v hv⟩
/-- Some cells of an element. -/
theorem rdES {w : World} {Rs : List Res} {b o k off : Nat} {x : α} (vs : List Value) (i : Nat) (h : Els f m w (some ⟨b, o, none⟩) n l) (hk : l[k]? = some x) (hv : ∀ q v, vs[q]? = some v → (f x)[i + q]? = some v) (he : off = o + k * m + i) : ∀ w', St ⟨w, []⟩ Rs w' → ∀ q v, vs[q]? = some v → w'.cell? ⟨b, off + q, none⟩ = some v := fun w' hs q v hq => by
 subst he
 have := ((h.over hs.fin).cell hk (hv q v hq)).2
 rwa [← Nat.add_assoc] at this
theorem Els.nil (A : Option Addr) (w : World) : Els f m w A 0 [] := ⟨rfl, fun h => absurd h (by omega)⟩
/-- A row reads so. -/
theorem Els.row {w : World} {B T : Nat} {x : Option Addr × Nat} (h : (rowR B T m n (l.flatMap f) x).P w) (hf : ∀ a, (f a).length = m) (hl : l.length = n) : Els f m w x.1 n l := by
 refine ⟨hl, fun hn => ⟨ablk x.1, 0, row_adr h hn, ?_, fun k a hk q v hv => ?_⟩⟩
 ·have h' : w.ownsRow B T m (.slice x.1 n x.2) n (l.flatMap f) := h
  rcases h'.2 with ⟨_, e⟩ | ⟨g, cap, cur, e, hb, hg, _⟩
  ·omega
  ·injection e with e1
   rw [e1]
   exact lt_of_some hg
 ·obtain ⟨hj, e⟩ := List.getElem?_eq_some_iff.1 hk
  refine row_cell h ?_
  have hi := (List.getElem?_eq_some_iff.1 hv).1
  rw [Nat.zero_add, flat_at f m hf l k q hj (by rw [hf] at hi; exact hi), e]
  exact hv
/-- A block just made reads so. -/
theorem Els.cel {w : World} {b T : Nat} (h : (Res.cel b T (l.flatMap f)).P w) (hf : ∀ a, (f a).length = m) (hl : l.length = n) : Els f m w (some ⟨b, 0, none⟩) n l := by
 have hh : w.heap[b]? = some (.cells (l.flatMap f).toArray T (0, 0)) := h
 refine ⟨hl, fun hn => ⟨b, 0, rfl, lt_of_some hh, fun k a hk q v hv => ?_⟩⟩
 obtain ⟨hj, e⟩ := List.getElem?_eq_some_iff.1 hk
 have hi := (List.getElem?_eq_some_iff.1 hv).1
 rw [cell_of_row w b _ _ T (0, 0) hh, List.getElem?_toArray, Nat.zero_add, flat_at f m hf l k q hj (by rw [hf] at hi; exact hi), e]
 exact hv
end
end Go.Proofs.YtjhaakollekjeaaDoor
