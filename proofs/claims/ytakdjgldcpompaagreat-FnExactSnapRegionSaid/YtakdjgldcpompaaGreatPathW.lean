/- The way of a segment through hot points: the program's walk. -/
import Derived.Test.YtakdjgldcpompaaGreatPathP
import Derived.Test.YtakdjgldcpompaaGreatOrd
import Derived.Test.YtakdjgldcpompaaGreatBounds
import Derived.Test.YtakdjgldcpompaaGreatSnapped
namespace Go.Proofs.YtakdjgldcpompaaGreat
open Go Go.RowKit
set_option linter.unusedVariables false
set_option linter.unusedSimpArgs false
set_option maxRecDepth 100000
set_option maxHeartbeats 4000000
set_option linter.unusedVariables false
set_option linter.unusedSimpArgs false

theorem snapEdge2_any (x y : Wy) (w : World) (hx : bd1 x.num x.den) (hy : bd1 y.num y.den) : Calls Tryz.prog 68 #[x.val, y.val] w fun e w' => e = .returned (.int .i64 (cmpWy x y)) ∧ Over w w' := by
 refine walk_from (m := 34) (Tryz.func68) rfl rfl (Nat.le_of_ble_eq_true rfl) ?_
 refine at_seq ?_
 refine at_region ?_
 refine at_op rfl ?_
 refine op_box rfl rfl (rfl) rfl (by decide) (fun b1 => ?_)
 refine at_rsE (by simp only [ya,yb,yc,yd,Value.cells,ye]; rfl) ?_
 refine at_op rfl ?_
 refine op_box rfl rfl (rfl) rfl (by decide) (fun b2 => ?_)
 refine at_rsE (by simp only [ya,yb,yc,yd,Value.cells,ye]; rfl) ?_
 refine at_q rfl rfl (by decide) (qt_assign rfl rfl) ?_
 refine at_end ?_
 refine at_seq ?_
 refine at_seq ?_
 refine at_region ?_
 refine at_q rfl rfl (by decide) (qt_fieldAddr rfl rfl tyf_impl_wayPoint_1) ?_
 refine at_q rfl rfl (by decide) (qt_loadS rfl rfl tys_impl_bound rfl (rd3 (k := 0) rfl rfl rfl rfl)) ?_
 refine at_q rfl rfl (by decide) (qt_fieldAddr rfl rfl tyf_impl_wayPoint_1) ?_
 refine at_q rfl rfl (by decide) (qt_loadS rfl rfl tys_impl_bound rfl (rd3 (k := 1) rfl rfl rfl rfl)) ?_
 refine at_q rfl rfl (by decide) (qt_call ok_impl_compareBound rfl rfl (fun w1 hs => compareBound_any _ _ _ _ _ _ w1 hx hy)) ?_
 refine at_q rfl rfl (by decide) (qt_assign rfl rfl) ?_
 refine at_end ?_
 refine at_seq ?_
 refine at_region ?_
 refine at_q rfl rfl (by decide) (qt_move rfl rfl) ?_
 refine at_q rfl rfl (by decide) (qt_neq rfl rfl rfl) ?_
 refine at_end ?_
 refine at_cond rfl (fun c1 => ?_) (fun c1 => ?_)
 ·try simp only [za,zb,zc,zd,ze,zf,Bool.not_true,Bool.not_false,zg,zh,ne_eq,zi,zj] at c1
  refine at_seq ?_
  refine at_region ?_
  refine at_q rfl rfl (by decide) (qt_move rfl rfl) ?_
  refine at_q rfl rfl (by decide) (qt_assign rfl rfl) ?_
  refine at_end ?_
  refine at_retc ?_
  refine then_ret ?_
  refine at_ret1 rfl (.tmp rfl) ?_
  intro w' hs
  exact ⟨by rw [cmpWy, if_pos c1], hs.fin⟩
 ·try simp only [za,zb,zc,zd,ze,zf,Bool.not_true,Bool.not_false,zg,zh,ne_eq,zi,zj] at c1
  refine at_skip ?_
  refine norm_then ?_
  refine at_seq ?_
  refine at_block ?_
  refine at_seq ?_
  refine at_region ?_
  refine at_q rfl rfl (by decide) (qt_fieldAddr rfl rfl tyf_impl_wayPoint_1) ?_
  refine at_q rfl rfl (by decide) (qt_fieldAddr rfl rfl tyf_impl_bound_2) ?_
  refine at_q rfl rfl (by decide) (qt_load1 rfl rfl ty1_bool (rd1 (k := 0) rfl rfl)) ?_
  refine at_q rfl rfl (by decide) (qt_move rfl rfl) ?_
  refine at_bsplit 18 rfl (fun g1 => ?_) (fun g1 => ?_)
  ·try simp only [za,zb,zc,zd,ze,zf,Bool.not_true,Bool.not_false,zg,zh,ne_eq,zi,zj] at g1
   refine at_on rfl rfl rfl rfl ?_
   refine op_q rfl (by decide) (qt_fieldAddr rfl rfl tyf_impl_wayPoint_1) ?_
   refine at_on rfl rfl rfl rfl ?_
   refine op_q rfl (by decide) (qt_fieldAddr rfl rfl tyf_impl_bound_2) ?_
   refine at_on rfl rfl rfl rfl ?_
   refine op_q rfl (by decide) (qt_load1 rfl rfl ty1_bool (rd1 (k := 1) rfl rfl)) ?_
   refine at_on rfl rfl rfl rfl ?_
   refine op_q rfl (by decide) (qt_not rfl rfl) ?_
   refine at_q rfl rfl (by decide) (qt_pickT rfl rfl rfl) ?_
   refine at_q rfl rfl (by decide) (qt_assign rfl rfl) ?_
   refine at_end ?_
   refine at_cond rfl (fun c2 => ?_) (fun c2 => ?_)
   ·try simp only [za,zb,zc,zd,ze,zf,Bool.not_true,Bool.not_false,zg,zh,ne_eq,zi,zj] at c2
    refine at_seq ?_
    refine at_region ?_
    refine at_q rfl rfl (by decide) (qt_assign rfl rfl) ?_
    refine at_end ?_
    refine at_retc ?_
    refine pass_ret ?_
    refine then_ret ?_
    refine at_ret1 rfl (.tmp rfl) ?_
    intro w' hs
    exact ⟨by unfold cmpWy; rw [if_neg (fun h => h c1)]; simp_all, hs.fin⟩
   ·try simp only [za,zb,zc,zd,ze,zf,Bool.not_true,Bool.not_false,zg,zh,ne_eq,zi,zj] at c2
    refine at_seq ?_
    refine at_region ?_
    refine at_q rfl rfl (by decide) (qt_fieldAddr rfl rfl tyf_impl_wayPoint_1) ?_
    refine at_q rfl rfl (by decide) (qt_fieldAddr rfl rfl tyf_impl_bound_2) ?_
    refine at_q rfl rfl (by decide) (qt_load1 rfl rfl ty1_bool (rd1 (k := 0) rfl rfl)) ?_
    refine at_q rfl rfl (by decide) (qt_not rfl rfl) ?_
    refine at_q rfl rfl (by decide) (qt_move rfl rfl) ?_
    refine at_bsplit 29 rfl (fun g2 => ?_) (fun g2 => ?_)
    ·try simp only [za,zb,zc,zd,ze,zf,Bool.not_true,Bool.not_false,zg,zh,ne_eq,zi,zj] at g2
     refine at_on rfl rfl rfl rfl ?_
     refine op_q rfl (by decide) (qt_fieldAddr rfl rfl tyf_impl_wayPoint_1) ?_
     refine at_on rfl rfl rfl rfl ?_
     refine op_q rfl (by decide) (qt_fieldAddr rfl rfl tyf_impl_bound_2) ?_
     refine at_on rfl rfl rfl rfl ?_
     refine op_q rfl (by decide) (qt_load1 rfl rfl ty1_bool (rd1 (k := 1) rfl rfl)) ?_
     refine at_q rfl rfl (by decide) (qt_pickT rfl rfl rfl) ?_
     refine at_q rfl rfl (by decide) (qt_assign rfl rfl) ?_
     refine at_end ?_
     refine at_cond rfl (fun c3 => ?_) (fun c3 => ?_)
     ·try simp only [za,zb,zc,zd,ze,zf,Bool.not_true,Bool.not_false,zg,zh,ne_eq,zi,zj] at c3
      refine at_seq ?_
      refine at_region ?_
      refine at_q rfl rfl (by decide) (qt_assign rfl rfl) ?_
      refine at_end ?_
      refine at_retc ?_
      refine pass_ret ?_
      refine then_ret ?_
      refine at_ret1 rfl (.tmp rfl) ?_
      intro w' hs
      exact ⟨by unfold cmpWy; rw [if_neg (fun h => h c1)]; simp_all, hs.fin⟩
     ·try simp only [za,zb,zc,zd,ze,zf,Bool.not_true,Bool.not_false,zg,zh,ne_eq,zi,zj] at c3
      refine at_skip ?_
      refine norm_block ?_
      refine norm_then ?_
      refine at_seq ?_
      refine at_region ?_
      refine at_q rfl rfl (by decide) (qt_assign rfl rfl) ?_
      refine at_end ?_
      refine at_retc ?_
      refine at_ret1 rfl (.tmp rfl) ?_
      intro w' hs
      exact ⟨by unfold cmpWy; rw [if_neg (fun h => h c1)]; simp_all, hs.fin⟩
    ·try simp only [za,zb,zc,zd,ze,zf,Bool.not_true,Bool.not_false,zg,zh,ne_eq,zi,zj] at g2
     refine at_off rfl rfl rfl rfl (by decide) rfl (by decide) ?_
     refine at_off rfl rfl rfl rfl (by decide) rfl (by decide) ?_
     refine at_off rfl rfl rfl rfl (by decide) rfl (by decide) ?_
     refine at_q rfl rfl (by decide) (qt_pickF rfl rfl rfl) ?_
     refine at_q rfl rfl (by decide) (qt_assign rfl rfl) ?_
     refine at_end ?_
     refine at_no rfl rfl ?_
     refine at_skip ?_
     refine norm_block ?_
     refine norm_then ?_
     refine at_seq ?_
     refine at_region ?_
     refine at_q rfl rfl (by decide) (qt_assign rfl rfl) ?_
     refine at_end ?_
     refine at_retc ?_
     refine at_ret1 rfl (.tmp rfl) ?_
     intro w' hs
     exact ⟨by unfold cmpWy; rw [if_neg (fun h => h c1)]; simp_all, hs.fin⟩
  ·try simp only [za,zb,zc,zd,ze,zf,Bool.not_true,Bool.not_false,zg,zh,ne_eq,zi,zj] at g1
   refine at_off rfl rfl rfl rfl (by decide) rfl (by decide) ?_
   refine at_off rfl rfl rfl rfl (by decide) rfl (by decide) ?_
   refine at_off rfl rfl rfl rfl (by decide) rfl (by decide) ?_
   refine at_off rfl rfl rfl rfl (by decide) rfl (by decide) ?_
   refine at_q rfl rfl (by decide) (qt_pickF rfl rfl rfl) ?_
   refine at_q rfl rfl (by decide) (qt_assign rfl rfl) ?_
   refine at_end ?_
   refine at_no rfl rfl ?_
   refine at_seq ?_
   refine at_region ?_
   refine at_q rfl rfl (by decide) (qt_fieldAddr rfl rfl tyf_impl_wayPoint_1) ?_
   refine at_q rfl rfl (by decide) (qt_fieldAddr rfl rfl tyf_impl_bound_2) ?_
   refine at_q rfl rfl (by decide) (qt_load1 rfl rfl ty1_bool (rd1 (k := 0) rfl rfl)) ?_
   refine at_q rfl rfl (by decide) (qt_not rfl rfl) ?_
   refine at_q rfl rfl (by decide) (qt_move rfl rfl) ?_
   refine at_bsplit 29 rfl (fun g3 => ?_) (fun g3 => ?_)
   ·try simp only [za,zb,zc,zd,ze,zf,Bool.not_true,Bool.not_false,zg,zh,ne_eq,zi,zj] at g3
    refine at_on rfl rfl rfl rfl ?_
    refine op_q rfl (by decide) (qt_fieldAddr rfl rfl tyf_impl_wayPoint_1) ?_
    refine at_on rfl rfl rfl rfl ?_
    refine op_q rfl (by decide) (qt_fieldAddr rfl rfl tyf_impl_bound_2) ?_
    refine at_on rfl rfl rfl rfl ?_
    refine op_q rfl (by decide) (qt_load1 rfl rfl ty1_bool (rd1 (k := 1) rfl rfl)) ?_
    refine at_q rfl rfl (by decide) (qt_pickT rfl rfl rfl) ?_
    refine at_q rfl rfl (by decide) (qt_assign rfl rfl) ?_
    refine at_end ?_
    refine at_cond rfl (fun c4 => ?_) (fun c4 => ?_)
    ·try simp only [za,zb,zc,zd,ze,zf,Bool.not_true,Bool.not_false,zg,zh,ne_eq,zi,zj] at c4
     refine at_seq ?_
     refine at_region ?_
     refine at_q rfl rfl (by decide) (qt_assign rfl rfl) ?_
     refine at_end ?_
     refine at_retc ?_
     refine pass_ret ?_
     refine then_ret ?_
     refine at_ret1 rfl (.tmp rfl) ?_
     intro w' hs
     exact ⟨by unfold cmpWy; rw [if_neg (fun h => h c1)]; simp_all, hs.fin⟩
    ·try simp only [za,zb,zc,zd,ze,zf,Bool.not_true,Bool.not_false,zg,zh,ne_eq,zi,zj] at c4
     refine at_skip ?_
     refine norm_block ?_
     refine norm_then ?_
     refine at_seq ?_
     refine at_region ?_
     refine at_q rfl rfl (by decide) (qt_assign rfl rfl) ?_
     refine at_end ?_
     refine at_retc ?_
     refine at_ret1 rfl (.tmp rfl) ?_
     intro w' hs
     exact ⟨by unfold cmpWy; rw [if_neg (fun h => h c1)]; simp_all, hs.fin⟩
   ·try simp only [za,zb,zc,zd,ze,zf,Bool.not_true,Bool.not_false,zg,zh,ne_eq,zi,zj] at g3
    refine at_off rfl rfl rfl rfl (by decide) rfl (by decide) ?_
    refine at_off rfl rfl rfl rfl (by decide) rfl (by decide) ?_
    refine at_off rfl rfl rfl rfl (by decide) rfl (by decide) ?_
    refine at_q rfl rfl (by decide) (qt_pickF rfl rfl rfl) ?_
    refine at_q rfl rfl (by decide) (qt_assign rfl rfl) ?_
    refine at_end ?_
    refine at_no rfl rfl ?_
    refine at_skip ?_
    refine norm_block ?_
    refine norm_then ?_
    refine at_seq ?_
    refine at_region ?_
    refine at_q rfl rfl (by decide) (qt_assign rfl rfl) ?_
    refine at_end ?_
    refine at_retc ?_
    refine at_ret1 rfl (.tmp rfl) ?_
    intro w' hs
    exact ⟨by unfold cmpWy; rw [if_neg (fun h => h c1)]; simp_all, hs.fin⟩
/-- Way points of a row, put in order. -/
theorem sortWy_row {w : World} {B n : Nat} {l : List Wy} {x : Option Addr × Nat} (hrow : (rowR B 111 5 n (l.flatMap Wy.cells) x).P w) (hl : l.length = n) (hb : ∀ e ∈ l, bd1 e.num e.den) (hn : n ≤ 1099511627776) :
  Calls Tryz.prog 67 #[.slice x.1 n x.2, .func (.func 68) #[] #[]] w fun e w' => e = .returned (.tuple #[]) ∧ Wrs (rowR B 111 5 n (l.flatMap Wy.cells) x).F w w' ∧ (rowR 0 111 5 n ((srt (ltC cmpWy) l).flatMap Wy.cells) x).P w' := by
 have hrow' : w.ownsRow B 111 5 (.slice x.1 n x.2) n (l.flatMap Wy.cells) := hrow
 rcases hrow'.2 with ⟨e, e2⟩ | ⟨g, cap, cur, e, hbg, hg, hcap, hmax, hsz, htk⟩
 ·subst e2
  obtain rfl : l = [] := List.eq_nil_of_length_eq_zero hl
  refine (sort_noneW x.1 x.2 _ w).mono ?_
  rintro e' w' ⟨rfl, hO⟩
  refine ⟨rfl, Wrs.of hO, ?_⟩
  show w'.ownsRow 0 111 5 (.slice x.1 0 x.2) 0 _
  rw [e]
  exact World.ownsRow_nil _ _ _ _
 ·injection e with e1 e3 e4
  have hF : ∀ b, b = g → (rowR B 111 5 n (l.flatMap Wy.cells) x).F b := by
   rintro b rfl
   show Value.ownBlock (.slice x.1 n x.2) = some _
   rw [e1]
   rfl
  have hcl : cur.toList.length = cap * 5 := by simp [hsz]
  have hcur : cur = (wyF (l ++ []) (cur.toList.drop (n * 5))).toArray := by
   rw [List.append_nil, wyF, ← htk, List.take_append_drop, Array.toArray_toList]
  have hC : CmpW w g (· ∈ l) cmpWy := ⟨fun u hu v hv w' ho => snapEdge2_any u v w' (hb u hu) (hb v hv), wy_weak⟩
  have := sort_wy g 111 (cur.toList.drop (n * 5)) l [] n x.2 _ _ w hC (by rw [← hcur]; exact hg) hl hn (fun u hu => hu)
  rw [e1]
  refine this.mono ?_
  rintro e' w' ⟨rfl, hw, hh⟩
  refine ⟨rfl, ⟨hw.os, hw.tape, hw.output, hw.size, fun c hc hnc => hw.block c hc (fun ec => hnc (hF c ec))⟩, ?_⟩
  rw [List.append_nil] at hh
  have hml : ((srt (ltC cmpWy) l).flatMap Wy.cells).length = n * 5 := by rw [wyC_len, srt_len, hl]
  refine ⟨hml, .inr ⟨g, x.2, _, by rw [e1], Nat.zero_le _, hh, by rw [e4]; exact hcap, by rw [e4]; exact hmax, ?_, ?_⟩⟩
  ·rw [List.size_toArray, wyF, List.length_append, hml, List.length_drop, hcl, e4]
   omega
  ·rw [List.toList_toArray, wyF, List.take_append_of_le_length (by omega), List.take_of_length_le (by omega)]

/-! ### The first point from a height on -/
theorem snapEdge1_any (p : Pn) (t : Int) (w : World) (hp : bdW p) (ht : -1152921504606846976 ≤ t ∧ t ≤ 1152921504606846976) : Calls Tryz.prog 64 #[pV p, .int .i64 t] w fun e w' => e = .returned (.int .i64 (sgn (p.2 - t))) ∧ Over w w' := by
 obtain ⟨⟨p1, p2⟩, p3, p4⟩ := hp
 refine walk_from (m := 10) (Tryz.func64) rfl rfl (Nat.le_of_ble_eq_true rfl) ?_
 refine at_seq ?_
 refine at_region ?_
 refine at_op rfl ?_
 refine op_box rfl rfl (rfl) rfl (by decide) (fun b1 => ?_)
 refine at_rsE (by simp only [ya,yb,yc,yd,Value.cells,ye]; rfl) ?_
 refine at_q rfl rfl (by decide) (qt_assign rfl rfl) ?_
 refine at_end ?_
 refine at_seq ?_
 refine at_region ?_
 refine at_q rfl rfl (by decide) (qt_fieldAddr rfl rfl tyf_impl_Pt_1) ?_
 refine at_q rfl rfl (by decide) (qt_load1 rfl rfl ty1_int64 (rd1 (k := 0) rfl rfl)) ?_
 refine at_q rfl rfl (by decide) (qt_move rfl rfl) ?_
 refine at_q rfl rfl (by decide) (qt_sub rfl rfl rfl (by omega) (by omega)) ?_
 refine at_q rfl rfl (by decide) (qt_call ok_impl_sign64 rfl rfl (fun w h => Calls.still (sign64_any _ w))) ?_
 refine at_q rfl rfl (by decide) (qt_assign rfl rfl) ?_
 refine at_end ?_
 refine at_retc ?_
 refine at_ret1 rfl (.tmp rfl) ?_
 intro w' hs
 exact ⟨rfl, hs.fin⟩
def bsI (xs : List Pn) (t : Int) : Nat := (xs.takeWhile fun p => decide (p.2 < t)).length
theorem bsI_eq : ∀ {xs : List Pn} {t : Int} {i : Nat}, i ≤ xs.length → (∀ k, k < i → py xs k < t) → (i < xs.length → t ≤ py xs i) → bsI xs t = i
 | [], _, i, h, _, _ => by simp at h; subst h; rfl
 | p :: xs, t, 0, _, _, h3 => by
  have := h3 (by simp)
  have e : py (p :: xs) 0 = p.2 := rfl
  unfold bsI
  rw [List.takeWhile_cons_of_neg (by simp; omega)]
  rfl
 | p :: xs, t, i + 1, h1, h2, h3 => by
  have e : py (p :: xs) 0 = p.2 := rfl
  have h0 := h2 0 (by omega)
  have ek : ∀ k, py (p :: xs) (k + 1) = py xs k := fun k => by simp [py]
  unfold bsI
  rw [List.takeWhile_cons_of_pos (by simp; omega), List.length_cons]
  have := bsI_eq (xs := xs) (t := t) (i := i) (by simpa using h1) (fun k hk => by have := h2 (k + 1) (by omega); rwa [ek] at this) (fun hi => by have := h3 (by simpa using hi); rwa [ek] at this)
  unfold bsI at this
  omega
def pt2 (xs : List Pn) (k : Nat) : Int := py xs k
def MonoY (xs : List Pn) : Prop := ∀ k j, k ≤ j → j < xs.length → py xs k ≤ py xs j
theorem asc_mono {xs : List Pn} (h : Asc xs) : MonoY xs := fun k j hkj hj => by
 rcases Nat.lt_or_eq_of_le hkj with h1 | rfl
 ·have := List.pairwise_iff_getElem.1 h k j (by omega) hj h1
  rw [pt_at, pt_at] at this
  unfold ltY pt at this
  simp only at this
  omega
 ·exact Int.le_refl _
theorem BinarySearch_any (A : Option Addr) (n c : Nat) (xs : List Pn) (t : Int) (w : World) (h : Pts w A n xs) (hx : ∀ p ∈ xs, bdW p) (ht : -1152921504606846976 ≤ t ∧ t ≤ 1152921504606846976) (hm : MonoY xs) (hn : n ≤ 1099511627776) :
  Calls Tryz.prog 63 #[.slice A n c, .int .i64 t, .func (.func 64) #[] #[]] w fun e w' => e = .returned (.tuple #[.int .i64 ((bsI xs t : Nat) : Int), .bool (decide (bsI xs t < n) && decide (sgn (py xs (bsI xs t) - t) = 0))]) ∧ Over w w' := by
 have hl := h.1
 have hbd : ∀ k, k < n → bdW (pt xs k) := fun k hk => hx _ (by rw [← pt_at (by omega)]; exact List.getElem_mem _)
 refine walk_from (m := 49) (Tryz.func63) rfl rfl (Nat.le_of_ble_eq_true rfl) ?_
 refine at_seq ?_
 refine at_region ?_
 refine at_q rfl rfl (by decide) (qt_assign rfl rfl) ?_
 refine at_q rfl rfl (by decide) (qt_assign rfl rfl) ?_
 refine at_end ?_
 refine at_seq ?_
 refine at_region ?_
 refine at_q rfl rfl (by decide) (qt_move rfl rfl) ?_
 refine at_q rfl rfl (by decide) (qt_len rfl rfl tyl_sl_impl_Pt) ?_
 refine at_q rfl rfl (by decide) (qt_assign rfl rfl) ?_
 refine at_end ?_
 refine at_seq ?_
 refine at_region ?_
 refine at_q rfl rfl (by decide) (qt_move rfl rfl) ?_
 refine at_q rfl rfl (by decide) (qt_assign rfl rfl) ?_
 refine at_q rfl rfl (by decide) (qt_assign rfl rfl) ?_
 refine at_end ?_
 refine at_seq ?_
 refine at_block ?_
 refine at_loopk (X := Nat × Nat) (fun q => q.1 ≤ q.2 ∧ q.2 ≤ n ∧ (∀ k, k < q.1 → py xs k < t) ∧ (∀ k, q.2 ≤ k → k < n → t ≤ py xs k)) (fun q => q.2 - q.1) (fun q => [(9, .int .i64 (q.1 : Int)), (10, .int .i64 (q.2 : Int))]) (C := [(0, _), (1, _), (2, _), (6, _), (7, _), (8, _)]) ⟨rfl, rfl, rfl, rfl, rfl, rfl, trivial⟩ (0, n) (⟨Nat.zero_le _, Nat.le_refl _, fun k hk => absurd hk (by simp), fun k h1 h2 => absurd (Nat.lt_of_lt_of_le h2 h1) (Nat.lt_irrefl _)⟩) ⟨rfl, rfl, rfl, rfl, rfl, rfl, rfl, rfl, trivial⟩ ?_
 intro ⟨i, j⟩ hq L hL1
 refine at_envE (by simp only [ya,yb]; rfl) ?_
 obtain ⟨q1, q2, q3, q4⟩ : i ≤ j ∧ j ≤ n ∧ (∀ k, k < i → py xs k < t) ∧ (∀ k, j ≤ k → k < n → t ≤ py xs k) := hq
 refine at_seq ?_
 refine at_seq ?_
 refine at_region ?_
 refine at_q rfl rfl (by decide) (qt_move rfl rfl) ?_
 refine at_q rfl rfl (by decide) (qt_move rfl rfl) ?_
 refine at_q rfl rfl (by decide) (qt_lss rfl rfl rfl) ?_
 refine at_end ?_
 refine at_cond rfl (fun c1 => ?_) (fun c1 => ?_)
 ·try simp only [za,zb,zc,zd,ze,zf,Bool.not_true,Bool.not_false,zg,zh,ne_eq,zi,zj] at c1
  have hij : i < j := (by omega)
  obtain ⟨eb, eo, rfl, _⟩ := h.2 (by omega)
  refine at_skip ?_
  refine norm_then ?_
  refine at_block ?_
  refine at_seq ?_
  refine at_region ?_
  refine at_q rfl rfl (by decide) (qt_move rfl rfl) ?_
  refine at_q rfl rfl (by decide) (qt_move rfl rfl) ?_
  refine at_q rfl rfl (by decide) (qt_add rfl rfl rfl (by omega) (by omega)) ?_
  refine at_q rfl rfl (by decide) (qt_convI rfl Tryz.underlying3 Tryz.underlying121 rfl (u64_in _ (by omega) (by omega))) ?_
  refine at_q rfl rfl (by decide) (qt_shrU (q := 1) rfl rfl rfl (by decide) (by decide)) ?_
  refine at_q rfl rfl (by decide) ((qt_convI rfl Tryz.underlying121 Tryz.underlying3 rfl (wrapI64 _ (by simp; omega) (by simp; omega))).as (congrArg _ (show (((i : Int) + (j : Int)) / 2 ^ (Int.toNat 1)) = (((i + j) / 2 : Nat) : Int) by simp))) ?_
  refine at_q rfl rfl (by decide) (qt_assign rfl rfl) ?_
  refine at_end ?_
  refine at_seq ?_
  refine at_region ?_
  refine at_q rfl rfl (by decide) (qt_move rfl rfl) ?_
  refine at_q rfl rfl (by decide) (qt_move rfl rfl) ?_
  refine at_q rfl rfl (by decide) (qt_move rfl rfl) ?_
  refine at_q rfl rfl (by decide) (qt_index (j := (i + j) / 2) rfl rfl rfl tyl_sl_impl_Pt (by omega)) ?_
  refine at_q rfl rfl (by decide) (qt_loadS rfl rfl tys_impl_Pt rfl (rdPts (b := eb) (o := eo) h (by omega))) ?_
  refine at_q rfl rfl (by decide) (qt_move rfl rfl) ?_
  refine at_q rfl rfl (by decide) (qt_callk ok_impl_snapEdge_1 rfl rfl rfl (fun w1 hs => snapEdge1_any (pt xs ((i + j) / 2)) t w1 (hbd _ (by omega)) ht)) ?_
  refine at_q rfl rfl (by decide) (qt_lss rfl rfl rfl) ?_
  refine at_end ?_
  refine at_cond rfl (fun c2 => ?_) (fun c2 => ?_)
  ·try simp only [za,zb,zc,zd,ze,zf,Bool.not_true,Bool.not_false,zg,zh,ne_eq,zi,zj] at c2
   have hlow : py xs ((i + j) / 2) < t := (by have := sgn_neg.1 c2; simp only [pt] at this; omega)
   refine at_region ?_
   refine at_q rfl rfl (by decide) (qt_move rfl rfl) ?_
   refine at_q rfl rfl (by decide) (qt_add rfl rfl rfl (by omega) (by omega)) ?_
   refine at_q rfl rfl (by decide) (qt_assign rfl rfl) ?_
   refine at_nil ?_
   refine norm_block ?_
   refine norm_then ?_
   exact at_againk hL1 (((i + j) / 2 + 1, j)) (⟨show (i + j) / 2 + 1 ≤ j by omega, q2, fun k hk => by have := hm k ((i + j) / 2) (by simp only at hk; omega) (by omega); omega, q4⟩) (by simp only; omega) ⟨vi (by omega), rfl, rfl, rfl, rfl, rfl, rfl, rfl, trivial⟩ (fun _ h => h.upto trivial)
  ·try simp only [za,zb,zc,zd,ze,zf,Bool.not_true,Bool.not_false,zg,zh,ne_eq,zi,zj] at c2
   have hlow : t ≤ py xs ((i + j) / 2) := Int.not_lt.1 fun hh => by have := sgn_neg.2 (show pt2 xs ((i + j) / 2) - t < 0 by unfold pt2; omega); unfold pt2 at this; simp only [pt] at c2; omega
   refine at_region ?_
   refine at_q rfl rfl (by decide) (qt_move rfl rfl) ?_
   refine at_q rfl rfl (by decide) (qt_assign rfl rfl) ?_
   refine at_nil ?_
   refine norm_block ?_
   refine norm_then ?_
   exact at_againk hL1 ((i, (i + j) / 2)) (⟨show i ≤ (i + j) / 2 by omega, show (i + j) / 2 ≤ n by omega, q3, fun k h1 h2 => by have := hm ((i + j) / 2) k h1 (by omega); omega⟩) (by simp only; omega) ⟨rfl, rfl, rfl, rfl, rfl, rfl, rfl, rfl, trivial⟩ (fun _ h => h.upto trivial)
 ·try simp only [za,zb,zc,zd,ze,zf,Bool.not_true,Bool.not_false,zg,zh,ne_eq,zi,zj] at c1
  have hij : i = j := (by omega)
  subst hij
  have hbs : bsI xs t = i := bsI_eq (by omega) q3 (fun hi => q4 i (Nat.le_refl _) (by omega))
  refine at_exit ?_
  refine pass_then (fun h => by cases h) ?_
  refine pass_then (fun h => by cases h) ?_
  refine pass_hit ?_
  refine norm_then ?_
  refine at_seq ?_
  refine at_region ?_
  refine at_q rfl rfl (by decide) (qt_move rfl rfl) ?_
  refine at_q rfl rfl (by decide) (qt_move rfl rfl) ?_
  refine at_q rfl rfl (by decide) (qt_move rfl rfl) ?_
  refine at_q rfl rfl (by decide) (qt_lss rfl rfl rfl) ?_
  refine at_q rfl rfl (by decide) (qt_move rfl rfl) ?_
  refine at_bsplit 39 rfl (fun g1 => ?_) (fun g1 => ?_)
  ·try simp only [za,zb,zc,zd,ze,zf,Bool.not_true,Bool.not_false,zg,zh,ne_eq,zi,zj] at g1
   have hin : i < n := (by omega)
   obtain ⟨eb, eo, rfl, _⟩ := h.2 (by omega)
   refine at_on rfl rfl rfl rfl ?_
   refine op_q rfl (by decide) (qt_move rfl rfl) ?_
   refine at_on rfl rfl rfl rfl ?_
   refine op_q rfl (by decide) (qt_move rfl rfl) ?_
   refine at_on rfl rfl rfl rfl ?_
   refine op_q rfl (by decide) (qt_move rfl rfl) ?_
   refine at_on rfl rfl rfl rfl ?_
   refine op_q rfl (by decide) (qt_index (j := i) rfl rfl rfl tyl_sl_impl_Pt (by omega)) ?_
   refine at_on rfl rfl rfl rfl ?_
   refine op_q rfl (by decide) (qt_loadS rfl rfl tys_impl_Pt rfl (rdPts (b := eb) (o := eo) h hin)) ?_
   refine at_on rfl rfl rfl rfl ?_
   refine op_q rfl (by decide) (qt_move rfl rfl) ?_
   refine at_on rfl rfl rfl rfl ?_
   refine op_q rfl (by decide) (qt_callk ok_impl_snapEdge_1 rfl rfl rfl (fun w1 hs => snapEdge1_any (pt xs i) t w1 (hbd _ hin) ht)) ?_
   refine at_on rfl rfl rfl rfl ?_
   refine op_q rfl (by decide) (qt_eql rfl rfl rfl) ?_
   refine at_q rfl rfl (by decide) (qt_pickT rfl rfl rfl) ?_
   refine at_q rfl rfl (by decide) (qt_assign rfl rfl) ?_
   refine at_q rfl rfl (by decide) (qt_assign rfl rfl) ?_
   refine at_end ?_
   refine at_retc ?_
   refine at_ret2 rfl (.tmp rfl) (.tmp rfl) ?_
   intro w' hs
   exact ⟨by rw [hbs, show decide (i < n) = true from decide_eq_true hin, Bool.true_and]; rfl, hs.fin⟩
  ·try simp only [za,zb,zc,zd,ze,zf,Bool.not_true,Bool.not_false,zg,zh,ne_eq,zi,zj] at g1
   refine at_off rfl rfl rfl rfl (by decide) rfl (by decide) ?_
   refine at_off rfl rfl rfl rfl (by decide) rfl (by decide) ?_
   refine at_off rfl rfl rfl rfl (by decide) rfl (by decide) ?_
   refine at_off rfl rfl rfl rfl (by decide) rfl (by decide) ?_
   refine at_off rfl rfl rfl rfl (by decide) rfl (by decide) ?_
   refine at_off rfl rfl rfl rfl (by decide) rfl (by decide) ?_
   refine at_off rfl rfl rfl rfl (by decide) rfl (by decide) ?_
   refine at_off rfl rfl rfl rfl (by decide) rfl (by decide) ?_
   refine at_q rfl rfl (by decide) (qt_pickF rfl rfl rfl) ?_
   refine at_q rfl rfl (by decide) (qt_assign rfl rfl) ?_
   refine at_q rfl rfl (by decide) (qt_assign rfl rfl) ?_
   refine at_end ?_
   refine at_retc ?_
   refine at_ret2 rfl (.tmp rfl) (.tmp rfl) ?_
   intro w' hs
   exact ⟨by rw [hbs, show decide (i < n) = false from decide_eq_false (by omega), Bool.false_and], hs.fin⟩
theorem bounds2 (b3 : Nat) (a b : Pn) (w : World) (h : Pts w (some ⟨b3, 0, none⟩) 2 [a, b]) : Calls Tryz.prog 62 #[.slice (some ⟨b3, 0, none⟩) 2 2] w fun e w' => e = .returned (.tuple #[ptV (min a.1 b.1) (min a.2 b.2), ptV (max a.1 b.1) (max a.2 b.2)]) ∧ Over w w' := by
 have := boundsOf_any _ 2 2 [a, b] w h (by decide) (by decide) (by decide)
 exact this
/-- Whether a segment meets the pixel of a point, and where. -/
def wkS (a b p : Pn) : Sp := if clipB sp0 (2 * a.1) (2 * (b.1 - a.1)) (2 * p.1 - 1) = true then clipS (clipS sp0 (2 * a.1) (2 * (b.1 - a.1)) (2 * p.1 - 1)) (2 * a.2) (2 * (b.2 - a.2)) (2 * p.2 - 1) else clipS sp0 (2 * a.1) (2 * (b.1 - a.1)) (2 * p.1 - 1)
theorem wkS_eq {a b p : Pn} (h : insP a b p = true) : wkS a b p = pathSp a b p := by
 obtain ⟨h1, h2⟩ := clip_path a b p h
 rw [wkS, if_pos h1, h2]
theorem walkPixel_p (a b p : Pn) (w : World) (ha : okB a.1 a.2 = true) (hb : okB b.1 b.2 = true) (hp : okB p.1 p.2 = true) :
  Calls Tryz.prog 66 #[pV a, pV b, pV p] w fun e w' => e = .returned (.tuple #[walkV (wkS a b p), .bool (insP a b p)]) ∧ Over w w' := by
 have := walkPixel_any a.1 a.2 b.1 b.2 p.1 p.2 w ha hb hp
 rw [← clip_law] at this
 exact this
theorem okB_bd2 {p : Pn} (h : okB p.1 p.2 = true) : bd2 p := by
 simp [okB, inB] at h
 exact ⟨⟨by omega, by omega⟩, by omega, by omega⟩
theorem boxX_low {a b p : Pn} (h : p.1 < min a.1 b.1 - 1) : boxX a b p = false := by unfold boxX; rw [decide_eq_true h]; rfl
theorem boxX_rest {a b p : Pn} (h : min a.1 b.1 - 1 ≤ p.1) : decide (p.1 > max a.1 b.1 + 1) = !boxX a b p := by unfold boxX; rw [decide_eq_false (Int.not_lt.2 h), Bool.false_or, Bool.not_not]
theorem boxY_yes {a b p : Pn} (h1 : min a.2 b.2 - 1 ≤ p.2) (h2 : p.2 ≤ max a.2 b.2 + 1) : boxY a b p = true := by unfold boxY; rw [decide_eq_false (Int.not_lt.2 h1), decide_eq_false (Int.not_lt.2 h2)]; rfl
theorem onWay_b1 {a b p : Pn} (h : boxX a b p = false) : onWay a b p = false := by simp [onWay, h]
theorem onWay_b2 {a b p : Pn} (h : boxY a b p = false) : onWay a b p = false := by simp [onWay, h]
theorem onWay_b3 {a b p : Pn} (h : insP a b p = false) : onWay a b p = false := by simp [onWay, h]
theorem onWay_yes {a b p : Pn} (h1 : boxX a b p = true) (h2 : boxY a b p = true) (h3 : insP a b p = true) : onWay a b p = true := by simp [onWay, h1, h2, h3]
theorem way_no {a b : Pn} {ys : List Pn} {k : Nat} (hk : k < ys.length) (h : onWay a b (pt ys k) = false) : wayL a b (ys.take (k + 1)) = wayL a b (ys.take k) := by
 rw [take_pt hk, wayL_app, wayL_none (l := [pt ys k]) (fun p hp => by rw [List.mem_singleton.1 hp]; exact h), List.append_nil]
theorem way_yes {a b : Pn} {ys : List Pn} {k : Nat} (hk : k < ys.length) (h : onWay a b (pt ys k) = true) : wayL a b (ys.take (k + 1)) = wayL a b (ys.take k) ++ [wyOf a b (pt ys k)] := by
 rw [take_pt hk, wayL_app, wayL_one h]
theorem mem_pt {xs : List Pn} {p : Pn} (h : p ∈ xs) : ∃ k, k < xs.length ∧ pt xs k = p := by
 obtain ⟨k, hk, e⟩ := List.getElem_of_mem h
 exact ⟨k, hk, by rw [← e, pt_at hk]⟩
theorem pt_drop (xs : List Pn) (i k : Nat) : pt (xs.drop i) k = pt xs (i + k) := by
 simp only [pt, px, py, List.getD_eq_getElem?_getD, List.getElem?_drop]
/-- All that the search leaves out lies below. -/
theorem bs_low : ∀ (xs : List Pn) (t : Int), bsI xs t ≤ xs.length ∧ (∀ p ∈ xs.take (bsI xs t), p.2 < t) ∧ (bsI xs t < xs.length → t ≤ py xs (bsI xs t))
 | [], t => ⟨Nat.le_refl _, fun p hp => by simp at hp, fun h => absurd h (by simp [bsI])⟩
 | p :: xs, t => by
  obtain ⟨h1, h2, h3⟩ := bs_low xs t
  by_cases hp : p.2 < t
  ·have e : bsI (p :: xs) t = bsI xs t + 1 := by
    unfold bsI
    rw [List.takeWhile_cons_of_pos (by simpa using hp), List.length_cons]
   rw [e]
   refine ⟨by simpa using h1, fun q hq => ?_, fun h => ?_⟩
   ·rw [List.take_succ_cons] at hq
    rcases List.mem_cons.1 hq with rfl | hq
    ·exact hp
    ·exact h2 q hq
   ·have := h3 (by simpa using h)
    have ek : py (p :: xs) (bsI xs t + 1) = py xs (bsI xs t) := by simp [py]
    rw [ek]
    exact this
  ·have e : bsI (p :: xs) t = 0 := by
    unfold bsI
    rw [List.takeWhile_cons_of_neg (by simpa using hp)]
    rfl
   rw [e]
   exact ⟨Nat.zero_le _, fun q hq => by simp at hq, fun _ => by have : py (p :: xs) 0 = p.2 := rfl; omega⟩
theorem way_low {a b : Pn} {xs : List Pn} : wayL a b (xs.drop (bsI xs (min a.2 b.2 - 1))) = wayL a b xs := by
 obtain ⟨h1, h2, h3⟩ := bs_low xs (min a.2 b.2 - 1)
 conv => rhs; rw [← List.take_append_drop (bsI xs (min a.2 b.2 - 1)) xs]
 rw [wayL_app, wayL_none (l := xs.take _) (fun p hp => onWay_b2 (by have := h2 p hp; simp [boxY, this])), List.nil_append]
theorem way_high {a b : Pn} {ys : List Pn} {k : Nat} (hm : MonoY ys) (hk : k < ys.length) (h : py ys k > max a.2 b.2 + 1) : wayL a b (ys.take k) = wayL a b ys := by
 conv => rhs; rw [← List.take_append_drop k ys]
 rw [wayL_app, wayL_none (l := ys.drop k) (fun p hp => onWay_b2 ?_), List.append_nil]
 obtain ⟨j, hj, rfl⟩ := mem_pt hp
 rw [List.length_drop] at hj
 rw [pt_drop]
 have := hm k (k + j) (by omega) (by omega)
 have e : (pt ys (k + j)).2 = py ys (k + j) := rfl
 simp [boxY, e]
 omega
theorem mono_drop {xs : List Pn} (h : MonoY xs) (i : Nat) : MonoY (xs.drop i) := fun k j hkj hj => by
 rw [List.length_drop] at hj
 have e : ∀ k, py (xs.drop i) k = py xs (i + k) := fun k => by have := pt_drop xs i k; simp only [pt] at this; injection this
 rw [e, e]
 exact h _ _ (by omega) (by omega)
theorem low_at {a b : Pn} {xs : List Pn} (hm : MonoY xs) {k : Nat} (hk : k < (xs.drop (bsI xs (min a.2 b.2 - 1))).length) : min a.2 b.2 - 1 ≤ py (xs.drop (bsI xs (min a.2 b.2 - 1))) k := by
 obtain ⟨h1, h2, h3⟩ := bs_low xs (min a.2 b.2 - 1)
 rw [List.length_drop] at hk
 have e : py (xs.drop (bsI xs (min a.2 b.2 - 1))) k = py xs (bsI xs (min a.2 b.2 - 1) + k) := by have := pt_drop xs (bsI xs (min a.2 b.2 - 1)) k; simp only [pt] at this; injection this
 rw [e]
 have := hm (bsI xs (min a.2 b.2 - 1)) (bsI xs (min a.2 b.2 - 1) + k) (by omega) (by omega)
 have := h3 (by omega)
 omega
/-- The rest of a slice. -/
theorem slice_rest {A : Option Addr} {n c i : Nat} (hi : i ≤ n) (hc : n ≤ c) : ∃ A', sliced A i n c 2 = .slice A' (n - i) (c - i) ∧ ∀ {w : World} {xs : List Pn}, Pts w A n xs → Pts w A' (n - i) (xs.drop i) := by
 by_cases h0 : i < n
 ·cases A with
  | none => exact ⟨none, by simp [sliced], fun h => absurd (h.2 (by omega)) (by rintro ⟨b, o, e, _⟩; cases e)⟩
  | some p =>
   by_cases hp : p.spot = none
   ·obtain ⟨b, o, v⟩ := p
    cases hp
    exact ⟨_, slicedL hc hi, fun h => h.dropT hi hc⟩
   ·refine ⟨_, rfl, fun {w xs} h => ?_⟩
    obtain ⟨b, o, e, _⟩ := h.2 (by omega)
    injection e with e
    subst e
    exact absurd rfl hp
 ·obtain rfl : i = n := by omega
  refine ⟨_, rfl, fun {w xs} h => ⟨by rw [List.length_drop, h.1], fun h => absurd h (by omega)⟩⟩
theorem rdRowWy {w0 : Bs} {Rs : List Res} {k B T m g c j : Nat} {l : List Wy} {e : Wy} (hk : Rs[k]? = some (rowR B T 5 m (l.flatMap Wy.cells) (some ⟨g, 0, none⟩, c))) (he : l[j]? = some e) : ∀ w', St w0 Rs w' → ∀ q v, e.cells[q]? = some v → w'.cell? ⟨g, 0 + j * 5 + q, none⟩ = some v := fun w' hs q v hv => by
 have h : w'.ownsRow B T 5 (.slice (some ⟨g, 0, none⟩) m c) m (l.flatMap Wy.cells) := (hs.all k _ hk).1
 have := wyF_at (tl := []) he hv
 rw [wyF, List.append_nil] at this
 have := h.cells rfl _ v this
 rw [add_none] at this
 rw [Nat.zero_add] at this ⊢
 exact this
theorem path_step {L : List Wy} {k : Nat} {e : Wy} (h : L[k]? = some e) : ((L.map fun e => (e.x, e.y)).take k).flatMap ptCells ++ [.int .i64 e.x, .int .i64 e.y] = ((L.map fun e => (e.x, e.y)).take (k + 1)).flatMap ptCells := by
 obtain ⟨hk, rfl⟩ := List.getElem?_eq_some_iff.1 h
 rw [List.take_succ_eq_append_getElem (by simpa using hk), List.flatMap_append]
 simp [ptCells]
theorem snapEdge_any (a b : Pn) (A : Option Addr) (n c : Nat) (hot : List Pn) (w : World) (h : Pts w A n hot) (ha : okB a.1 a.2 = true) (hb : okB b.1 b.2 = true) (hh : ∀ p ∈ hot, okB p.1 p.2 = true) (hasc : Asc hot) (hc : n ≤ c) (hn : n ≤ 1048576) :
  Calls Tryz.prog 38 #[pV a, pV b, .slice A n c] w fun e w' => ∃ v, e = .returned v ∧ w'.ownsRow w.heap.size 64 2 v (pathP a b hot).length ((pathP a b hot).flatMap ptCells) ∧ Over w w' := by
 have hl := h.1
 have hmono := asc_mono hasc
 obtain ⟨hi1, hi2, hi3⟩ := bs_low hot (min a.2 b.2 - 1)
 have ha2 : bd2 a := okB_bd2 ha
 have hb2 : bd2 b := okB_bd2 hb
 have hp2 : ∀ p ∈ hot, bd2 p := fun p hp => okB_bd2 (hh p hp)
 obtain ⟨⟨a1, a2⟩, a3, a4⟩ := id ha2
 obtain ⟨⟨b1', b2'⟩, b3', b4'⟩ := id hb2
 obtain ⟨i, hi⟩ : ∃ i, i = bsI hot (min a.2 b.2 - 1) := ⟨_, rfl⟩
 obtain ⟨A', eA, hA'⟩ := slice_rest (A := A) (n := n) (c := c) (i := i) (by omega) hc
 obtain ⟨ys, hys⟩ : ∃ ys, ys = hot.drop i := ⟨_, rfl⟩
 have hyl : ys.length = n - i := by rw [hys, List.length_drop, hl]
 have hyp : Pts w A' (n - i) ys := hys ▸ hA' h
 have hym : MonoY ys := hys ▸ mono_drop hmono i
 have hylow : ∀ k, k < ys.length → min a.2 b.2 - 1 ≤ py ys k := fun k hk => by subst hys hi; exact low_at hmono hk
 have hway : wayL a b ys = wayL a b hot := by subst hys hi; exact way_low
 have hymem : ∀ k, k < ys.length → pt ys k ∈ hot := fun k hk => by rw [hys] at hk ⊢; rw [pt_drop, ← pt_at (by rw [List.length_drop] at hk; omega)]; exact List.getElem_mem _
 have hwl := wayL_len a b hot
 have hwl2 : ∀ k, (wayL a b (ys.take k)).length ≤ 1048576 := fun k => by have := wayL_len a b (ys.take k); rw [List.length_take] at this; omega
 have hwb : ∀ e ∈ wayL a b hot, bd1 e.num e.den := fun e he => by
  obtain ⟨p, hp, rfl⟩ := wayL_mem he
  exact (pathSp_bd ha2 hb2 (hp2 p hp)).low
 have hpl : (pathP a b hot).length = (wayL a b hot).length := by rw [pathP, List.length_map, srt_len]
 have hsl : (srt (ltC cmpWy) (wayL a b hot)).length = (wayL a b hot).length := srt_len _
 refine walk_from (m := 93) (Tryz.func38) rfl rfl (Nat.le_of_ble_eq_true rfl) ?_
 refine at_seq ?_
 refine at_region ?_
 refine at_op rfl ?_
 refine op_box rfl rfl (rfl) rfl (by decide) (fun b1 => ?_)
 refine at_rsE (by simp only [ya,yb,yc,yd,Value.cells,ye]; rfl) ?_
 refine at_op rfl ?_
 refine op_box rfl rfl (rfl) rfl (by decide) (fun b2 => ?_)
 refine at_rsE (by simp only [ya,yb,yc,yd,Value.cells,ye]; rfl) ?_
 refine at_q rfl rfl (by decide) (qt_assign rfl rfl) ?_
 refine at_end ?_
 refine at_seq ?_
 refine at_region ?_
 refine at_q rfl rfl (by decide) (qt_loadS rfl rfl tys_impl_Pt rfl (rdAll (k := 0) rfl)) ?_
 refine at_q rfl rfl (by decide) (qt_loadS rfl rfl tys_impl_Pt rfl (rdAll (k := 1) rfl)) ?_
 refine at_op rfl ?_
 refine op_buildSlice rfl rfl (bsl_sl_impl_Pt_2_0_1 rfl rfl) rfl (by decide) (fun b3 => ?_)
 refine at_rsE (by simp only [ya,yb,yc,yd,Value.cells,ye]; rfl) ?_
 refine at_q rfl rfl (by decide) (qt_call ok_impl_boundsOf rfl rfl (fun w1 hs => bounds2 _ a b w1 (ptsCel (k := 2) _ rfl rfl w1 hs))) ?_
 refine at_q rfl rfl (by decide) (qt_move rfl rfl) ?_
 refine at_q rfl rfl (by decide) (qt_extract rfl rfl rfl) ?_
 refine at_q rfl rfl (by decide) (qt_extract rfl rfl rfl) ?_
 refine at_op rfl ?_
 refine op_alloc rfl tyz_impl_Pt rfl (by decide) (fun b4 => ?_)
 refine at_rsE (by simp only [ya,yb,yc,yd,Value.cells,ye]; rfl) ?_
 refine at_op rfl ?_
 refine op_alloc rfl tyz_impl_Pt rfl (by decide) (fun b5 => ?_)
 refine at_rsE (by simp only [ya,yb,yc,yd,Value.cells,ye]; rfl) ?_
 refine at_op rfl ?_
 refine op_storeAll' (k := 3) rfl rfl rfl rfl (rfl) (by rfl) tyz_impl_Pt.szx rfl rfl rfl ?_
 refine at_rsE (by simp only [ya,yb,yc,yd,Value.cells,ye]; rfl) ?_
 refine at_op rfl ?_
 refine op_storeAll' (k := 4) rfl rfl rfl rfl (rfl) (by rfl) tyz_impl_Pt.szx rfl rfl rfl ?_
 refine at_rsE (by simp only [ya,yb,yc,yd,Value.cells,ye]; rfl) ?_
 refine at_end ?_
 refine at_seq ?_
 refine at_region ?_
 refine at_q rfl rfl (by decide) (qt_move rfl rfl) ?_
 refine at_q rfl rfl (by decide) (qt_fieldAddr rfl rfl tyf_impl_Pt_1) ?_
 refine at_q rfl rfl (by decide) (qt_load1 rfl rfl ty1_int64 (rd1 (k := 3) rfl rfl)) ?_
 refine at_q rfl rfl (by decide) (qt_sub rfl rfl rfl (by omega) (by omega)) ?_
 refine at_q rfl rfl (by decide) (qt_call ok_slices_BinarySearchFunc_sl_impl_Pt_impl_Pt_int64 rfl rfl (fun w1 hs => BinarySearch_any A n c hot (min a.2 b.2 - 1) w1 (h.over hs.fin) (fun p hp => (hp2 p hp).wide) (by omega) hmono (by omega))) ?_
 refine at_q rfl rfl (by decide) (qt_move rfl rfl) ?_
 refine at_q rfl rfl (by decide) (qt_extract rfl rfl rfl) ?_
 refine at_q rfl rfl (by decide) (qt_extract rfl rfl rfl) ?_
 refine at_q rfl rfl (by decide) (qt_assign rfl rfl) ?_
 refine at_q rfl rfl (by decide) (qt_assign rfl rfl) ?_
 refine at_end ?_
 refine at_seq ?_
 refine at_region ?_
 refine at_q rfl rfl (by decide) (qt_assign rfl rfl) ?_
 refine at_row0 (T := 111) (s := 5) ?_
 refine at_rsE (by simp only [ya,yb,yc,yd,Value.cells,ye]; rfl) ?_
 refine at_end ?_
 refine at_cutX (X := Option Addr × Nat) (fun x => True) (fun x => [(11, .slice x.1 (wayL a b hot).length x.2)]) (C := [(6, _)]) ⟨rfl, trivial⟩ (fun x => [.cel b1 64 [.int .i64 a.1, .int .i64 a.2], .cel b2 64 [.int .i64 b.1, .int .i64 b.2], .cel b3 64 [.int .i64 a.1, .int .i64 a.2, .int .i64 b.1, .int .i64 b.2], .cel b4 64 [.int .i64 (min a.1 b.1), .int .i64 (min a.2 b.2)], .cel b5 64 [.int .i64 (max a.1 b.1), .int .i64 (max a.2 b.2)], rowR (Bs.N ⟨w, []⟩) 111 5 (wayL a b hot).length ((wayL a b hot).flatMap Wy.cells) x]) (fun L hC_cutblock_0 => ?_) ?_
 ·refine at_seq ?_
  rw [← hi]
  refine at_region ?_
  refine at_q rfl rfl (by decide) (qt_move rfl rfl) ?_
  refine at_q rfl rfl (by decide) (qt_move rfl rfl) ?_
  refine at_q rfl rfl (by decide) ((qt_sliceL rfl rfl rfl tyl_sl_impl_Pt (by omega)).as (eA)) ?_
  refine at_q rfl rfl (by decide) (qt_len rfl rfl tyl_sl_impl_Pt) ?_
  refine at_q rfl rfl (by decide) (qt_move rfl rfl) ?_
  refine at_end ?_
  refine at_block ?_
  refine at_loopc (X := Nat × Option Addr × Nat) (fun x => x.1 ≤ n - i) (fun x => n - i - x.1) (fun x => [(11, .slice x.2.1 (wayL a b (ys.take x.1)).length x.2.2), (38, .int .i64 (x.1 : Int))]) (C := [(3, _), (4, _), (6, _), (7, _), (8, _), (36, _), (37, _)]) ⟨rfl, rfl, rfl, rfl, rfl, rfl, rfl, trivial⟩ (fun x => [.cel b1 64 [.int .i64 a.1, .int .i64 a.2], .cel b2 64 [.int .i64 b.1, .int .i64 b.2], .cel b3 64 [.int .i64 a.1, .int .i64 a.2, .int .i64 b.1, .int .i64 b.2], .cel b4 64 [.int .i64 (min a.1 b.1), .int .i64 (min a.2 b.2)], .cel b5 64 [.int .i64 (max a.1 b.1), .int .i64 (max a.2 b.2)], rowR (Bs.N ⟨w, []⟩) 111 5 (wayL a b (ys.take x.1)).length ((wayL a b (ys.take x.1)).flatMap Wy.cells) x.2]) (0, none, 0) (Nat.zero_le _) ⟨rfl, rfl, rfl, rfl, rfl, rfl, rfl, rfl, rfl, trivial⟩ (fun _ h => h) ?_
  intro ⟨k, rA, rc⟩ hx L hL1
  refine at_envE (by simp only [ya,yb]; rfl) ?_
  refine at_rsE (by first | (dsimp only; done) | (dsimp only; rfl) | rfl) ?_
  have hk : k ≤ n - i := hx
  refine at_seq ?_
  refine at_region ?_
  refine at_q rfl rfl (by decide) (qt_lss rfl rfl rfl) ?_
  refine at_end ?_
  refine at_seq ?_
  refine at_cond rfl (fun c1 => ?_) (fun c1 => ?_)
  ·try simp only [za,zb,zc,zd,ze,zf,Bool.not_true,Bool.not_false,zg,zh,ne_eq,zi,zj] at c1
   have hlt : k < n - i := (by omega)
   obtain ⟨eb, eo, rfl, _⟩ := hyp.2 (by omega)
   have hpm := hymem k (by omega)
   have hlo := hylow k (by omega)
   obtain ⟨⟨p1, p2⟩, p3, p4⟩ := hp2 _ hpm
   have hwk := hwl2 k
   refine at_skip ?_
   refine norm_then ?_
   refine at_seq ?_
   refine at_block ?_
   refine at_seq ?_
   refine at_region ?_
   refine at_q rfl rfl (by decide) (qt_index rfl rfl rfl tyl_sl_impl_Pt (by omega)) ?_
   refine at_q rfl rfl (by decide) (qt_loadS rfl rfl tys_impl_Pt rfl (rdPts (b := eb) (o := eo) hyp hlt)) ?_
   refine at_op rfl ?_
   refine op_alloc rfl tyz_impl_Pt rfl (by decide) (fun b6 => ?_)
   refine at_rsE (by simp only [ya,yb,yc,yd,Value.cells,ye]; rfl) ?_
   refine at_op rfl ?_
   refine op_storeAll' (k := 6) rfl rfl rfl rfl (rfl) (by rfl) tyz_impl_Pt.szx rfl rfl rfl ?_
   refine at_rsE (by simp only [ya,yb,yc,yd,Value.cells,ye]; rfl) ?_
   refine at_end ?_
   refine at_seq ?_
   refine at_seq ?_
   refine at_region ?_
   refine at_q rfl rfl (by decide) (qt_fieldAddr rfl rfl tyf_impl_Pt_1) ?_
   refine at_q rfl rfl (by decide) (qt_load1 rfl rfl ty1_int64 (rd1 (k := 6) rfl rfl)) ?_
   refine at_q rfl rfl (by decide) (qt_fieldAddr rfl rfl tyf_impl_Pt_1) ?_
   refine at_q rfl rfl (by decide) (qt_load1 rfl rfl ty1_int64 (rd1 (k := 4) rfl rfl)) ?_
   refine at_q rfl rfl (by decide) (qt_add rfl rfl rfl (by omega) (by omega)) ?_
   refine at_q rfl rfl (by decide) (qt_gtr rfl rfl rfl) ?_
   refine at_end ?_
   refine at_cond rfl (fun c2 => ?_) (fun c2 => ?_)
   ·try simp only [za,zb,zc,zd,ze,zf,Bool.not_true,Bool.not_false,zg,zh,ne_eq,zi,zj] at c2
    rw [way_high (a := a) (b := b) hym (by omega) (by omega), hway]
    refine at_exit ?_
    refine pass_then (fun h => by cases h) ?_
    refine pass_miss (by decide) ?_
    refine pass_then (fun h => by cases h) ?_
    refine pass_then (fun h => by cases h) ?_
    refine pass_hit ?_
    refine norm_then ?_
    exact at_meetX hC_cutblock_0 ((rA, rc)) (trivial) ⟨rfl, rfl, trivial⟩ (fun _ h => h.picks [0, 1, 2, 3, 4, 5] (by decide))
   ·try simp only [za,zb,zc,zd,ze,zf,Bool.not_true,Bool.not_false,zg,zh,ne_eq,zi,zj] at c2
    refine at_skip ?_
    refine norm_then ?_
    refine at_seq ?_
    refine at_cutE [(61, .bool (!boxX a b (pt ys k)))] (C := [(3, _), (4, _), (6, _), (7, _), (8, _), (36, _), (37, _), (11, _), (38, _), (39, _), (40, _), (41, _), (13, _), (42, _), (43, _), (44, _), (45, _), (46, _), (47, _)])  ⟨rfl, rfl, rfl, rfl, rfl, rfl, rfl, rfl, rfl, rfl, rfl, rfl, rfl, rfl, rfl, rfl, rfl, rfl, rfl, trivial⟩ (fun L hC_cut_8 => ?_) ?_
    ·refine at_region ?_
     refine at_q rfl rfl (by decide) (qt_fieldAddr rfl rfl tyf_impl_Pt_0) ?_
     refine at_q rfl rfl (by decide) (qt_load1 rfl rfl ty1_int64 (rd1 (k := 6) rfl rfl)) ?_
     refine at_q rfl rfl (by decide) (qt_fieldAddr rfl rfl tyf_impl_Pt_0) ?_
     refine at_q rfl rfl (by decide) (qt_load1 rfl rfl ty1_int64 (rd1 (k := 3) rfl rfl)) ?_
     refine at_q rfl rfl (by decide) (qt_sub rfl rfl rfl (by omega) (by omega)) ?_
     refine at_q rfl rfl (by decide) (qt_lss rfl rfl rfl) ?_
     refine at_q rfl rfl (by decide) (qt_move rfl rfl) ?_
     refine at_bsplit 54 rfl (fun g1 => ?_) (fun g1 => ?_)
     ·try simp only [za,zb,zc,zd,ze,zf,Bool.not_true,Bool.not_false,zg,zh,ne_eq,zi,zj] at g1
      refine at_off rfl rfl rfl rfl (by decide) rfl (by decide) ?_
      refine at_off rfl rfl rfl rfl (by decide) rfl (by decide) ?_
      refine at_off rfl rfl rfl rfl (by decide) rfl (by decide) ?_
      refine at_off rfl rfl rfl rfl (by decide) rfl (by decide) ?_
      refine at_off rfl rfl rfl rfl (by decide) rfl (by decide) ?_
      refine at_off rfl rfl rfl rfl (by decide) rfl (by decide) ?_
      refine at_q rfl rfl (by decide) (qt_pickT rfl rfl rfl) ?_
      refine at_end ?_
      exact at_meet hC_cut_8 ⟨vb (by rw [boxX_low (p := pt ys k) (by show px ys k < _; omega)]; rfl), rfl, rfl, rfl, rfl, rfl, rfl, rfl, rfl, rfl, rfl, rfl, rfl, rfl, rfl, rfl, rfl, rfl, rfl, rfl, trivial⟩ (fun _ h => h.upto ⟨rfl, rfl, rfl, rfl, rfl, rfl, rfl, trivial⟩)
     ·try simp only [za,zb,zc,zd,ze,zf,Bool.not_true,Bool.not_false,zg,zh,ne_eq,zi,zj] at g1
      refine at_on rfl rfl rfl rfl ?_
      refine op_q rfl (by decide) (qt_fieldAddr rfl rfl tyf_impl_Pt_0) ?_
      refine at_on rfl rfl rfl rfl ?_
      refine op_q rfl (by decide) (qt_load1 rfl rfl ty1_int64 (rd1 (k := 6) rfl rfl)) ?_
      refine at_on rfl rfl rfl rfl ?_
      refine op_q rfl (by decide) (qt_fieldAddr rfl rfl tyf_impl_Pt_0) ?_
      refine at_on rfl rfl rfl rfl ?_
      refine op_q rfl (by decide) (qt_load1 rfl rfl ty1_int64 (rd1 (k := 4) rfl rfl)) ?_
      refine at_on rfl rfl rfl rfl ?_
      refine op_q rfl (by decide) (qt_add rfl rfl rfl (by omega) (by omega)) ?_
      refine at_on rfl rfl rfl rfl ?_
      refine op_q rfl (by decide) (qt_gtr rfl rfl rfl) ?_
      refine at_q rfl rfl (by decide) (qt_pickF rfl rfl rfl) ?_
      refine at_end ?_
      exact at_meet hC_cut_8 ⟨vb (boxX_rest (p := pt ys k) (by show _ ≤ px ys k; omega)), rfl, rfl, rfl, rfl, rfl, rfl, rfl, rfl, rfl, rfl, rfl, rfl, rfl, rfl, rfl, rfl, rfl, rfl, rfl, trivial⟩ (fun _ h => h.upto ⟨rfl, rfl, rfl, rfl, rfl, rfl, rfl, trivial⟩)
    ·refine at_envE (by simp only [ya,yb]; rfl) ?_
     refine at_cond rfl (fun c3 => ?_) (fun c3 => ?_)
     ·try simp only [za,zb,zc,zd,ze,zf,Bool.not_true,Bool.not_false,zg,zh,ne_eq,zi,zj] at c3
      refine at_exit ?_
      refine pass_then (fun h => by cases h) ?_
      refine pass_hit ?_
      refine norm_then ?_
      refine at_region ?_
      refine at_q rfl rfl (by decide) (qt_add rfl rfl rfl (by omega) (by omega)) ?_
      refine at_q rfl rfl (by decide) (qt_move rfl rfl) ?_
      refine at_end ?_
      exact at_againc hL1 ((k + 1, rA, rc)) ((show k + 1 ≤ n - i by omega)) (by simp only; omega) ⟨(by rw [way_no (by omega) (onWay_b1 (by simpa using c3))]; rfl), vi (by omega), rfl, rfl, rfl, rfl, rfl, rfl, rfl, trivial⟩ (fun _ h => h.upto ⟨rfl, rfl, rfl, rfl, rfl, by rw [way_no (by omega) (onWay_b1 (by simpa using c3))], trivial⟩)
     ·try simp only [za,zb,zc,zd,ze,zf,Bool.not_true,Bool.not_false,zg,zh,ne_eq,zi,zj] at c3
      refine at_skip ?_
      refine norm_then ?_
      refine at_seq ?_
      refine at_region ?_
      refine at_q rfl rfl (by decide) (qt_loadS rfl rfl tys_impl_Pt rfl (rdAll (k := 0) rfl)) ?_
      refine at_q rfl rfl (by decide) (qt_loadS rfl rfl tys_impl_Pt rfl (rdAll (k := 1) rfl)) ?_
      refine at_q rfl rfl (by decide) (qt_loadS rfl rfl tys_impl_Pt rfl (rdAll (k := 6) rfl)) ?_
      refine at_q rfl rfl (by decide) (qt_call ok_impl_walkPixel rfl rfl (fun w1 hs => walkPixel_p a b (pt ys k) w1 ha hb (hh _ hpm))) ?_
      refine at_q rfl rfl (by decide) (qt_move rfl rfl) ?_
      refine at_q rfl rfl (by decide) (qt_extract rfl rfl rfl) ?_
      refine at_q rfl rfl (by decide) (qt_extract rfl rfl rfl) ?_
      refine at_op rfl ?_
      refine op_alloc rfl tyz_impl_pixelWalk rfl (by decide) (fun b7 => ?_)
      refine at_rsE (by simp only [ya,yb,yc,yd,Value.cells,ye]; rfl) ?_
      refine at_op rfl ?_
      refine op_storeAll' (k := 7) rfl rfl rfl rfl (rfl) (by rfl) tyz_impl_pixelWalk.szx rfl rfl rfl ?_
      refine at_rsE (by simp only [ya,yb,yc,yd,Value.cells,ye]; rfl) ?_
      refine at_q rfl rfl (by decide) (qt_assign rfl rfl) ?_
      refine at_end ?_
      refine at_seq ?_
      refine at_region ?_
      refine at_q rfl rfl (by decide) (qt_move rfl rfl) ?_
      refine at_end ?_
      refine at_cond rfl (fun c4 => ?_) (fun c4 => ?_)
      ·try simp only [za,zb,zc,zd,ze,zf,Bool.not_true,Bool.not_false,zg,zh,ne_eq,zi,zj] at c4
       rw [wkS_eq c4]
       refine at_region ?_
       refine at_q rfl rfl (by decide) (qt_move rfl rfl) ?_
       refine at_q rfl rfl (by decide) (qt_loadS rfl rfl tys_impl_Pt rfl (rdAll (k := 6) rfl)) ?_
       refine at_q rfl rfl (by decide) (qt_fieldAddr rfl rfl tyf_impl_pixelWalk_0) ?_
       refine at_q rfl rfl (by decide) (qt_loadS rfl rfl tys_impl_bound rfl (rd3 (k := 7) rfl rfl rfl rfl)) ?_
       refine at_q rfl rfl (by decide) (qt_build rfl rfl (bld_impl_wayPoint_0_1 rfl rfl)) ?_
       refine at_op rfl ?_
       refine op_buildSlice rfl rfl (bsl_sl_impl_wayPoint_1_0 rfl) rfl (by decide) (fun b8 => ?_)
       refine at_rsE (by simp only [ya,yb,yc,yd,Value.cells,ye]; rfl) ?_
       refine at_op rfl ?_
       refine op_appendR (k := 5) rfl tyl_sl_impl_wayPoint tyz_impl_wayPoint (by decide) rfl (by decide) rfl rfl rfl (fun w' hs => src_cel hs (k := 8) rfl rfl) (by simp [Value.oneCell']) (by unfold maxLen; omega) (by omega) (Nat.le_refl _) (fun r1 => ?_)
       refine at_rsE (by simp only [ya,yb,yc,yd,Value.cells,ye]; rfl) ?_
       refine at_q rfl rfl (by decide) (qt_assign rfl rfl) ?_
       refine at_nil ?_
       refine norm_block ?_
       refine norm_then ?_
       refine at_region ?_
       refine at_q rfl rfl (by decide) (qt_add rfl rfl rfl (by omega) (by omega)) ?_
       refine at_q rfl rfl (by decide) (qt_move rfl rfl) ?_
       refine at_end ?_
       exact at_againc hL1 ((k + 1, r1)) ((show k + 1 ≤ n - i by omega)) (by simp only; omega) ⟨(by rw [way_yes (by omega) (onWay_yes (by simpa using c3) (boxY_yes hlo (by show py ys k ≤ _; omega)) c4), List.length_append]; rfl), vi (by omega), rfl, rfl, rfl, rfl, rfl, rfl, rfl, trivial⟩ (fun _ h => h.upto ⟨rfl, rfl, rfl, rfl, rfl, by rw [way_yes (by omega) (onWay_yes (by simpa using c3) (boxY_yes hlo (by show py ys k ≤ _; omega)) c4), List.length_append, List.flatMap_append]; rfl, trivial⟩)
      ·try simp only [za,zb,zc,zd,ze,zf,Bool.not_true,Bool.not_false,zg,zh,ne_eq,zi,zj] at c4
       refine at_skip ?_
       refine norm_block ?_
       refine norm_then ?_
       refine at_region ?_
       refine at_q rfl rfl (by decide) (qt_add rfl rfl rfl (by omega) (by omega)) ?_
       refine at_q rfl rfl (by decide) (qt_move rfl rfl) ?_
       refine at_end ?_
       exact at_againc hL1 ((k + 1, rA, rc)) ((show k + 1 ≤ n - i by omega)) (by simp only; omega) ⟨(by rw [way_no (by omega) (onWay_b3 c4)]; rfl), vi (by omega), rfl, rfl, rfl, rfl, rfl, rfl, rfl, trivial⟩ (fun _ h => h.upto ⟨rfl, rfl, rfl, rfl, rfl, by rw [way_no (by omega) (onWay_b3 c4)], trivial⟩)
  ·try simp only [za,zb,zc,zd,ze,zf,Bool.not_true,Bool.not_false,zg,zh,ne_eq,zi,zj] at c1
   rw [List.take_of_length_le (by omega), hway]
   refine at_exit ?_
   refine pass_then (fun h => by cases h) ?_
   refine pass_then (fun h => by cases h) ?_
   refine pass_hit ?_
   refine norm_then ?_
   exact at_meetX hC_cutblock_0 ((rA, rc)) (trivial) ⟨rfl, rfl, trivial⟩ (fun _ h => h.picks [0, 1, 2, 3, 4, 5] (by decide))
 ·rintro ⟨sA, sc⟩ -
  refine at_envE (by simp only [ya,yb]; rfl) ?_
  refine at_rsE (by first | (dsimp only; done) | (dsimp only; rfl) | rfl) ?_
  refine at_seq ?_
  refine at_region ?_
  refine at_q rfl rfl (by decide) (qt_move rfl rfl) ?_
  refine at_op rfl ?_
  refine op_callw (k := 5) (r' := rowR 0 111 5 (wayL a b hot).length ((srt (ltC cmpWy) (wayL a b hot)).flatMap Wy.cells) (sA, sc)) ok_slices_SortStableFunc_sl_impl_wayPoint_impl_wayPoint rfl rfl rfl (by decide) rfl (fun w1 hs => sortWy_row (hs.all 5 _ rfl).1 rfl hwb (by omega)) (fun _ h => h) rfl ?_
  refine at_rsE (by simp only [ya,yb,yc,yd,Value.cells,ye]; rfl) ?_
  refine at_end ?_
  refine at_seq ?_
  refine at_region ?_
  refine at_q rfl rfl (by decide) (qt_assign rfl rfl) ?_
  refine at_row0 (T := 64) (s := 2) ?_
  refine at_rsE (by simp only [ya,yb,yc,yd,Value.cells,ye]; rfl) ?_
  refine at_end ?_
  refine at_seq ?_
  refine at_seq ?_
  refine at_region ?_
  refine at_q rfl rfl (by decide) (qt_move rfl rfl) ?_
  refine at_q rfl rfl (by decide) (qt_len rfl rfl tyl_sl_impl_wayPoint) ?_
  refine at_q rfl rfl (by decide) (qt_move rfl rfl) ?_
  refine at_end ?_
  refine at_block ?_
  refine at_loopc (X := Nat × Option Addr × Nat) (fun y => y.1 ≤ (wayL a b hot).length) (fun y => (wayL a b hot).length - y.1) (fun y => [(16, .slice y.2.1 y.1 y.2.2), (82, .int .i64 (y.1 : Int))]) (C := [(6, _), (80, _), (81, _)]) ⟨rfl, rfl, rfl, trivial⟩ (fun y => [.cel b1 64 [.int .i64 a.1, .int .i64 a.2], .cel b2 64 [.int .i64 b.1, .int .i64 b.2], .cel b3 64 [.int .i64 a.1, .int .i64 a.2, .int .i64 b.1, .int .i64 b.2], .cel b4 64 [.int .i64 (min a.1 b.1), .int .i64 (min a.2 b.2)], .cel b5 64 [.int .i64 (max a.1 b.1), .int .i64 (max a.2 b.2)], rowR 0 111 5 (wayL a b hot).length ((srt (ltC cmpWy) (wayL a b hot)).flatMap Wy.cells) (sA, sc), rowR (Bs.N ⟨w, []⟩) 64 2 y.1 (((pathP a b hot).take y.1).flatMap ptCells) y.2]) (0, none, 0) (Nat.zero_le _) ⟨rfl, rfl, rfl, rfl, rfl, trivial⟩ (fun _ h => h) ?_
  intro ⟨j, qA, qc⟩ hy L hL2
  refine at_envE (by simp only [ya,yb]; rfl) ?_
  refine at_rsE (by first | (dsimp only; done) | (dsimp only; rfl) | rfl) ?_
  have hj : j ≤ (wayL a b hot).length := hy
  refine at_seq ?_
  refine at_region ?_
  refine at_q rfl rfl (by decide) (qt_lss rfl rfl rfl) ?_
  refine at_end ?_
  refine at_seq ?_
  refine at_cond rfl (fun c5 => ?_) (fun c5 => ?_)
  ·try simp only [za,zb,zc,zd,ze,zf,Bool.not_true,Bool.not_false,zg,zh,ne_eq,zi,zj] at c5
   have hlt : j < (wayL a b hot).length := (by omega)
   refine at_fact (fun w hs => rowSome (k := 5) rfl hs (by omega)) ?_
   rintro ⟨eg, rfl⟩
   obtain ⟨e, he⟩ : ∃ e, (srt (ltC cmpWy) (wayL a b hot))[j]? = some e := ⟨_, List.getElem?_eq_getElem (by omega)⟩
   refine at_skip ?_
   refine norm_then ?_
   refine at_seq ?_
   refine at_block ?_
   refine at_seq ?_
   refine at_region ?_
   refine at_q rfl rfl (by decide) (qt_index (j := j) rfl rfl rfl tyl_sl_impl_wayPoint (by omega)) ?_
   refine at_q rfl rfl (by decide) (qt_loadS rfl rfl tys_impl_wayPoint rfl (rdRowWy (k := 5) rfl he)) ?_
   refine at_op rfl ?_
   refine op_alloc rfl tyz_impl_wayPoint rfl (by decide) (fun b9 => ?_)
   refine at_rsE (by simp only [ya,yb,yc,yd,Value.cells,ye]; rfl) ?_
   refine at_op rfl ?_
   refine op_storeAll' (k := 7) rfl rfl rfl rfl (rfl) (by rfl) tyz_impl_wayPoint.szx rfl rfl rfl ?_
   refine at_rsE (by simp only [ya,yb,yc,yd,Value.cells,ye]; rfl) ?_
   refine at_end ?_
   refine at_region ?_
   refine at_q rfl rfl (by decide) (qt_move rfl rfl) ?_
   refine at_q rfl rfl (by decide) (qt_fieldAddr rfl rfl tyf_impl_wayPoint_0) ?_
   refine at_q rfl rfl (by decide) (qt_loadS rfl rfl tys_impl_Pt rfl (rd2 (k := 7) rfl rfl rfl)) ?_
   refine at_op rfl ?_
   refine op_buildSlice rfl rfl (bsl_sl_impl_Pt_1_0 rfl) rfl (by decide) (fun b10 => ?_)
   refine at_rsE (by simp only [ya,yb,yc,yd,Value.cells,ye]; rfl) ?_
   refine at_op rfl ?_
   refine op_appendR (k := 6) rfl tyl_sl_impl_Pt tyz_impl_Pt (by decide) rfl (by decide) rfl rfl rfl (fun w' hs => src_cel hs (k := 8) rfl rfl) (by simp [Value.oneCell']) (by unfold maxLen; omega) (by omega) (Nat.le_refl _) (fun r2 => ?_)
   refine at_rsE (by simp only [ya,yb,yc,yd,Value.cells,ye]; rfl) ?_
   refine at_q rfl rfl (by decide) (qt_assign rfl rfl) ?_
   refine at_nil ?_
   refine norm_block ?_
   refine norm_then ?_
   refine at_region ?_
   refine at_q rfl rfl (by decide) (qt_add rfl rfl rfl (by omega) (by omega)) ?_
   refine at_q rfl rfl (by decide) (qt_move rfl rfl) ?_
   refine at_end ?_
   exact at_againc hL2 ((j + 1, r2)) ((show j + 1 ≤ (wayL a b hot).length by omega)) (by simp only; omega) ⟨rfl, vi (by omega), rfl, rfl, rfl, trivial⟩ (fun _ h => h.upto ⟨rfl, rfl, rfl, rfl, rfl, rfl, by rw [pathP, ← path_step he], trivial⟩)
  ·try simp only [za,zb,zc,zd,ze,zf,Bool.not_true,Bool.not_false,zg,zh,ne_eq,zi,zj] at c5
   have hje : j = (wayL a b hot).length := (by omega)
   subst hje
   rw [List.take_of_length_le (by omega)]
   refine at_exit ?_
   refine pass_then (fun h => by cases h) ?_
   refine pass_then (fun h => by cases h) ?_
   refine pass_hit ?_
   refine norm_then ?_
   refine at_seq ?_
   refine at_region ?_
   refine at_q rfl rfl (by decide) (qt_move rfl rfl) ?_
   refine at_q rfl rfl (by decide) (qt_assign rfl rfl) ?_
   refine at_end ?_
   refine at_retc ?_
   refine at_ret1 rfl (.tmp rfl) ?_
   intro w' hs
   have hr := hs.all 6 _ rfl
   exact ⟨_, rfl, row_from (by rw [hpl]; exact hr.1) (fun b hb => (hr.2.1 b hb).elim id (fun h => by cases h)), hs.fin⟩
 -- NOT USED: meetxblock 0.1
end Go.Proofs.YtakdjgldcpompaaGreat
