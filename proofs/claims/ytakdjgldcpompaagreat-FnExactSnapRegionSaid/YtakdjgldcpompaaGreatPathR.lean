/- The way of a segment through hot points: the reference's walk. -/
import Derived.Test.YtakdjgldcpompaaGreatPathW
namespace Go.Proofs.YtakdjgldcpompaaGreat
open Go Go.RowKit
set_option linter.unusedVariables false
set_option linter.unusedSimpArgs false
set_option maxRecDepth 100000
set_option maxHeartbeats 4000000
set_option linter.unusedVariables false
set_option linter.unusedSimpArgs false

/-! ### Rows of elements of s cells -/
section
variable {α : Type} {f : α → List Value} {s : Nat}
theorem fm_len (hf : ∀ e, (f e).length = s) (l : List α) : (l.flatMap f).length = l.length * s := by
 induction l with
 | nil => simp
 | cons e l ih => rw [List.flatMap_cons, List.length_append, ih, hf, List.length_cons, Nat.succ_mul, Nat.add_comm]
theorem fm_take (hf : ∀ e, (f e).length = s) (l : List α) (k : Nat) (hk : k ≤ l.length) : (l.flatMap f).take (k * s) = (l.take k).flatMap f := by
 conv => lhs; rw [← List.take_append_drop k l]
 rw [List.flatMap_append, List.take_append_of_le_length (by rw [fm_len hf, List.length_take, Nat.min_eq_left hk]; exact Nat.le_refl _), List.take_of_length_le (by rw [fm_len hf, List.length_take, Nat.min_eq_left hk]; exact Nat.le_refl _)]
theorem fm_drop (hf : ∀ e, (f e).length = s) (l : List α) (k : Nat) (hk : k ≤ l.length) : (l.flatMap f).drop (k * s) = (l.drop k).flatMap f := by
 conv => lhs; rw [← List.take_append_drop k l]
 have hl : ((l.take k).flatMap f).length = k * s := by rw [fm_len hf, List.length_take, Nat.min_eq_left hk]
 rw [List.flatMap_append, ← hl, List.drop_left]
theorem fm_at (hf : ∀ e, (f e).length = s) {l : List α} {i : Nat} {e : α} (h : l[i]? = some e) {j : Nat} {v : Value} (hv : (f e)[j]? = some v) : (l.flatMap f)[i * s + j]? = some v := by
 obtain ⟨hi, rfl⟩ := List.getElem?_eq_some_iff.1 h
 have hj := (List.getElem?_eq_some_iff.1 hv).1
 have e1 : l = l.take i ++ (l[i] :: l.drop (i + 1)) := by rw [← List.drop_eq_getElem_cons hi, List.take_append_drop]
 have hl : ((l.take i).flatMap f).length = i * s := by rw [fm_len hf, List.length_take, Nat.min_eq_left (by omega)]
 have e2 : l.flatMap f = (l.take i).flatMap f ++ (f l[i] ++ (l.drop (i + 1)).flatMap f) := by
  conv => lhs; rw [e1]
  rw [List.flatMap_append, List.flatMap_cons]
 rw [e2, List.getElem?_append_right (by rw [hl]; omega), hl, Nat.add_sub_cancel_left, List.getElem?_append_left hj]
 exact hv
end
theorem srcRowHs {w : World} {B U s m k : Nat} {A : Option Addr} {c : Nat} {xs : List Value} (h : w.ownsRow B U s (.slice A m c) m xs) (hk : k ≤ m) : Src s (sliced A 0 k c s) k (xs.take (k * s)) w := by
 have hlen := h.1
 refine ⟨by rw [List.length_take, hlen, Nat.min_eq_left (Nat.mul_le_mul_right _ hk)], ?_⟩
 rcases h.2 with ⟨e, e2⟩ | ⟨g, cap, cur, e, hb, hg, hcap, _⟩
 ·injection e with e1 e3 e4
  subst e1 e2 e4
  obtain rfl : k = 0 := by omega
  exact .inl ⟨rfl, rfl⟩
 ·injection e with e1 e3 e4
  subst e1 e4
  rw [slicedH]
  refine .inr ⟨_, _, rfl, fun j u hu => h.cells rfl j u ?_⟩
  rw [List.getElem?_take] at hu
  split at hu
  ·exact hu
  ·cases hu
theorem srcRowLs {w : World} {B U s m k : Nat} {A : Option Addr} {c : Nat} {xs : List Value} (h : w.ownsRow B U s (.slice A m c) m xs) (hk : k ≤ m) : Src s (sliced A k m c s) (m - k) (xs.drop (k * s)) w := by
 have hlen := h.1
 refine ⟨by rw [List.length_drop, hlen, Nat.mul_sub_right_distrib], ?_⟩
 rcases h.2 with ⟨e, e2⟩ | ⟨g, cap, cur, e, hb, hg, hcap, _⟩
 ·injection e with e1 e3 e4
  subst e1 e2 e4
  obtain rfl : k = 0 := by omega
  exact .inl ⟨rfl, rfl⟩
 ·injection e with e1 e3 e4
  subst e1 e4
  rw [slicedL hcap hk]
  refine .inr ⟨_, _, rfl, fun j u hu => ?_⟩
  rw [List.getElem?_drop] at hu
  have := h.cells rfl _ u hu
  rw [add_none] at this ⊢
  rw [← this]
  congr 2
  unfold offL
  have hj := (List.getElem?_eq_some_iff.1 hu).1
  have hks : k * s + j < m * s := by omega
  have hkc : ¬ c = k := fun e => by
   subst e
   have : m = c := by omega
   subst this
   omega
  rw [if_neg hkc]
  omega

/-! ### Stops compared -/
def soonB (s x : Sp) : Bool := decide (s.ln * x.ld - x.ln * s.ld < 0) || (decide (s.ln * x.ld - x.ln * s.ld = 0) && s.lc && !x.lc)
theorem soon_wy (a b p q : Pn) : ltC cmpWy (wyOf a b p) (wyOf a b q) = soonB (pathSp a b p) (pathSp a b q) := by
 rw [Bool.eq_iff_iff, ltC, decide_eq_true_eq, cmpWy_neg]
 unfold ltWy soonB wyOf
 simp only [Bool.or_eq_true, Bool.and_eq_true, decide_eq_true_eq, Bool.not_eq_true']
 constructor
 ·rintro (h | ⟨h1, h2, h3⟩)
  ·exact .inl (by omega)
  ·exact .inr ⟨⟨by omega, h2⟩, h3⟩
 ·rintro (h | ⟨⟨h1, h2⟩, h3⟩)
  ·exact .inl (by omega)
  ·exact .inr ⟨by omega, h2, h3⟩
def soonP (a b p q : Pn) : Bool := soonB (pathSp a b p) (pathSp a b q)
theorem soonP_weak (a b : Pn) : Weak (soonP a b) := by
 have := wy_weak.by (wyOf a b)
 have e : (fun x y => ltC cmpWy (wyOf a b x) (wyOf a b y)) = soonP a b := by funext p q; exact soon_wy a b p q
 rwa [e] at this
def stopL (a b : Pn) (l : List Pn) : List Pn := srt (soonP a b) (l.filter (onWay a b))
theorem pathP_eq (a b : Pn) (hot : List Pn) : pathP a b hot = stopL a b hot := by
 unfold pathP stopL wayL
 rw [srt_map (lt := soonP a b) (fun p _ q _ => soon_wy a b p q), List.map_map]
 exact List.map_id' _
theorem stop_no {a b : Pn} {ys : List Pn} {k : Nat} (hk : k < ys.length) (h : onWay a b (pt ys k) = false) : stopL a b (ys.take (k + 1)) = stopL a b (ys.take k) := by
 unfold stopL
 rw [take_pt hk, List.filter_append]
 simp [h]
theorem stop_yes {a b : Pn} {ys : List Pn} {k : Nat} (hk : k < ys.length) (h : onWay a b (pt ys k) = true) : stopL a b (ys.take (k + 1)) = insS (soonP a b) (pt ys k) (stopL a b (ys.take k)) := by
 unfold stopL
 rw [take_pt hk, List.filter_append, show [pt ys k].filter (onWay a b) = [pt ys k] by simp [h], srt_snoc]
theorem stop_len (a b : Pn) (l : List Pn) : (stopL a b l).length ≤ l.length := by
 unfold stopL
 rw [srt_len]
 exact List.length_filter_le _ _
theorem stop_mem {a b : Pn} {l : List Pn} {p : Pn} (h : p ∈ stopL a b l) : p ∈ l := by
 unfold stopL at h
 rw [srt_mem] at h
 exact (List.mem_filter.1 h).1
def stC (a b p : Pn) : List Value := [.int .i64 p.1, .int .i64 p.2, .int .i64 (pathSp a b p).ln, .int .i64 (pathSp a b p).ld, .int .i64 (pathSp a b p).hn, .int .i64 (pathSp a b p).hd, .bool (pathSp a b p).lc, .bool (pathSp a b p).hc]
theorem stC_len (a b p : Pn) : (stC a b p).length = 8 := rfl
theorem stC_one (a b : Pn) (l : List Pn) : ∀ u ∈ l.flatMap (stC a b), u.oneCell' = true := fun u hu => by
 obtain ⟨p, _, hu⟩ := List.mem_flatMap.1 hu
 simp only [stC, List.mem_cons, List.not_mem_nil, or_false] at hu
 rcases hu with rfl | rfl | rfl | rfl | rfl | rfl | rfl | rfl <;> rfl
theorem l13Sooner_any (b1 o1 b2 o2 : Nat) (s x : Sp) (w : World) (h1 : ∀ q v, (spC s)[q]? = some v → w.cell? ⟨b1, o1 + q, none⟩ = some v) (hb1 : b1 < w.heap.size) (h2 : ∀ q v, (spC x)[q]? = some v → w.cell? ⟨b2, o2 + q, none⟩ = some v) (hb2 : b2 < w.heap.size) (hs : bdP s) (hx : bdP x) :
  Calls Tryz.prog 103 #[.pointer (some ⟨b1, o1, none⟩), .pointer (some ⟨b2, o2, none⟩)] w fun e w' => e = .returned (.bool (soonB s x)) ∧ Over w w' := by
 obtain ⟨m1, m2⟩ := bd_mul hs.low hx.low
 refine walk_from (m := 44) (Tryz.func103) rfl rfl (Nat.le_of_ble_eq_true rfl) ?_
 refine at_seq ?_
 refine at_region ?_
 refine at_q rfl rfl (by decide) (qt_assign rfl rfl) ?_
 refine at_end ?_
 refine at_seq ?_
 refine dg_start mixed rfl ?_
 refine dg_phase 20 ?_
 refine dg_q (i := 0) rfl (by kernel_rfl) (by kernel_rfl) (by kernel_rfl) [] (by kernel_rfl) (fun _ _ _ h => h) rfl rfl (by decide) (fun _ h => h.upto trivial) (qt_move rfl rfl) ?_
 refine dg_q (i := 1) rfl (by kernel_rfl) (by kernel_rfl) (by kernel_rfl) [] (by kernel_rfl) (fun _ _ _ h => h) rfl rfl (by decide) (fun _ h => h.upto trivial) (qt_nilCheck rfl rfl) ?_
 refine dg_q (i := 2) rfl (by kernel_rfl) (by kernel_rfl) (by kernel_rfl) [] (by kernel_rfl) (fun _ _ _ h => h) rfl rfl (by decide) (fun _ h => h.upto trivial) (qt_fieldAddr rfl rfl tyf_spec_l13Span_0) ?_
 refine dg_q (i := 3) rfl (by kernel_rfl) (by kernel_rfl) (by kernel_rfl) [] (by kernel_rfl) (fun _ _ _ h => h) rfl rfl (by decide) (fun _ h => h.upto trivial) (qt_load1 rfl rfl ty1_int64 (by first | exact rdOld (h1 0 _ rfl) hb1 | exact rdOld (h1 1 _ rfl) hb1 | exact rdOld (h1 4 _ rfl) hb1 | exact rdOld (h2 0 _ rfl) hb2 | exact rdOld (h2 1 _ rfl) hb2 | exact rdOld (h2 4 _ rfl) hb2)) ?_
 refine dg_q (i := 4) rfl (by kernel_rfl) (by kernel_rfl) (by kernel_rfl) [] (by kernel_rfl) (fun _ _ _ h => h) rfl rfl (by decide) (fun _ h => h.upto trivial) (qt_move rfl rfl) ?_
 refine dg_q (i := 5) rfl (by kernel_rfl) (by kernel_rfl) (by kernel_rfl) [] (by kernel_rfl) (fun _ _ _ h => h) rfl rfl (by decide) (fun _ h => h.upto trivial) (qt_nilCheck rfl rfl) ?_
 refine dg_q (i := 6) rfl (by kernel_rfl) (by kernel_rfl) (by kernel_rfl) [] (by kernel_rfl) (fun _ _ _ h => h) rfl rfl (by decide) (fun _ h => h.upto trivial) (qt_fieldAddr rfl rfl tyf_spec_l13Span_1) ?_
 refine dg_q (i := 7) rfl (by kernel_rfl) (by kernel_rfl) (by kernel_rfl) [] (by kernel_rfl) (fun _ _ _ h => h) rfl rfl (by decide) (fun _ h => h.upto trivial) (qt_load1 rfl rfl ty1_int64 (by first | exact rdOld (h1 0 _ rfl) hb1 | exact rdOld (h1 1 _ rfl) hb1 | exact rdOld (h1 4 _ rfl) hb1 | exact rdOld (h2 0 _ rfl) hb2 | exact rdOld (h2 1 _ rfl) hb2 | exact rdOld (h2 4 _ rfl) hb2)) ?_
 refine dg_q (i := 8) rfl (by kernel_rfl) (by kernel_rfl) (by kernel_rfl) [] (by kernel_rfl) (fun _ _ _ h => h) rfl rfl (by decide) (fun _ h => h.upto trivial) (qt_mul rfl rfl rfl (by omega) (by omega)) ?_
 refine dg_q (i := 9) rfl (by kernel_rfl) (by kernel_rfl) (by kernel_rfl) [] (by kernel_rfl) (fun _ _ _ h => h) rfl rfl (by decide) (fun _ h => h.upto trivial) (qt_move rfl rfl) ?_
 refine dg_q (i := 10) rfl (by kernel_rfl) (by kernel_rfl) (by kernel_rfl) [] (by kernel_rfl) (fun _ _ _ h => h) rfl rfl (by decide) (fun _ h => h.upto trivial) (qt_nilCheck rfl rfl) ?_
 refine dg_q (i := 11) rfl (by kernel_rfl) (by kernel_rfl) (by kernel_rfl) [] (by kernel_rfl) (fun _ _ _ h => h) rfl rfl (by decide) (fun _ h => h.upto trivial) (qt_fieldAddr rfl rfl tyf_spec_l13Span_0) ?_
 refine dg_q (i := 12) rfl (by kernel_rfl) (by kernel_rfl) (by kernel_rfl) [] (by kernel_rfl) (fun _ _ _ h => h) rfl rfl (by decide) (fun _ h => h.upto trivial) (qt_load1 rfl rfl ty1_int64 (by first | exact rdOld (h1 0 _ rfl) hb1 | exact rdOld (h1 1 _ rfl) hb1 | exact rdOld (h1 4 _ rfl) hb1 | exact rdOld (h2 0 _ rfl) hb2 | exact rdOld (h2 1 _ rfl) hb2 | exact rdOld (h2 4 _ rfl) hb2)) ?_
 refine dg_q (i := 13) rfl (by kernel_rfl) (by kernel_rfl) (by kernel_rfl) [] (by kernel_rfl) (fun _ _ _ h => h) rfl rfl (by decide) (fun _ h => h.upto trivial) (qt_move rfl rfl) ?_
 refine dg_q (i := 14) rfl (by kernel_rfl) (by kernel_rfl) (by kernel_rfl) [] (by kernel_rfl) (fun _ _ _ h => h) rfl rfl (by decide) (fun _ h => h.upto trivial) (qt_nilCheck rfl rfl) ?_
 refine dg_q (i := 15) rfl (by kernel_rfl) (by kernel_rfl) (by kernel_rfl) [] (by kernel_rfl) (fun _ _ _ h => h) rfl rfl (by decide) (fun _ h => h.upto trivial) (qt_fieldAddr rfl rfl tyf_spec_l13Span_1) ?_
 refine dg_q (i := 16) rfl (by kernel_rfl) (by kernel_rfl) (by kernel_rfl) [] (by kernel_rfl) (fun _ _ _ h => h) rfl rfl (by decide) (fun _ h => h.upto trivial) (qt_load1 rfl rfl ty1_int64 (by first | exact rdOld (h1 0 _ rfl) hb1 | exact rdOld (h1 1 _ rfl) hb1 | exact rdOld (h1 4 _ rfl) hb1 | exact rdOld (h2 0 _ rfl) hb2 | exact rdOld (h2 1 _ rfl) hb2 | exact rdOld (h2 4 _ rfl) hb2)) ?_
 refine dg_q (i := 17) rfl (by kernel_rfl) (by kernel_rfl) (by kernel_rfl) [] (by kernel_rfl) (fun _ _ _ h => h) rfl rfl (by decide) (fun _ h => h.upto trivial) (qt_mul rfl rfl rfl (by omega) (by omega)) ?_
 refine dg_q (i := 18) rfl (by kernel_rfl) (by kernel_rfl) (by kernel_rfl) [] (by kernel_rfl) (fun _ _ _ h => h) rfl rfl (by decide) (fun _ h => h.upto trivial) (qt_sub rfl rfl rfl (by omega) (by omega)) ?_
 refine dg_q (i := 19) rfl (by kernel_rfl) (by kernel_rfl) (by kernel_rfl) [] (by kernel_rfl) (fun _ _ _ h => h) rfl rfl (by decide) (fun _ h => h.upto trivial) (qt_assign rfl rfl) ?_
 refine dg_done (by kernel_rfl) ?_
 refine norm_then ?_
 refine at_seq ?_
 refine at_region ?_
 refine at_q rfl rfl (by decide) (qt_move rfl rfl) ?_
 refine at_q rfl rfl (by decide) (qt_lss rfl rfl rfl) ?_
 refine at_q rfl rfl (by decide) (qt_move rfl rfl) ?_
 refine at_bsplit 27 rfl (fun g1 => ?_) (fun g1 => ?_)
 ·try simp only [za,zb,zc,zd,ze,zf,Bool.not_true,Bool.not_false,zg,zh,ne_eq,zi,zj] at g1
  refine at_off rfl rfl rfl rfl (by decide) rfl (by decide) ?_
  refine at_off rfl rfl rfl rfl (by decide) rfl (by decide) ?_
  refine at_off rfl rfl rfl rfl (by decide) rfl (by decide) ?_
  refine at_offu rfl rfl rfl rfl rfl (by decide) ?_
  refine at_offu rfl rfl rfl rfl rfl (by decide) ?_
  refine at_offu rfl rfl rfl rfl rfl (by decide) ?_
  refine at_offu rfl rfl rfl rfl rfl (by decide) ?_
  refine at_off rfl rfl rfl rfl (by decide) rfl (by decide) ?_
  refine at_off rfl rfl rfl rfl (by decide) rfl (by decide) ?_
  refine at_offu rfl rfl rfl rfl rfl (by decide) ?_
  refine at_offu rfl rfl rfl rfl rfl (by decide) ?_
  refine at_offu rfl rfl rfl rfl rfl (by decide) ?_
  refine at_offu rfl rfl rfl rfl rfl (by decide) ?_
  refine at_offu rfl rfl rfl rfl rfl (by decide) ?_
  refine at_off rfl rfl rfl rfl (by decide) rfl (by decide) ?_
  refine at_q rfl rfl (by decide) (qt_pickT rfl rfl rfl) ?_
  refine at_q rfl rfl (by decide) (qt_assign rfl rfl) ?_
  refine at_end ?_
  refine at_retc ?_
  refine at_ret1 rfl (.tmp rfl) ?_
  intro w' hs
  exact ⟨retB (by unfold soonB; simp_all), hs.fin⟩
 ·try simp only [za,zb,zc,zd,ze,zf,Bool.not_true,Bool.not_false,zg,zh,ne_eq,zi,zj] at g1
  refine at_on rfl rfl rfl rfl ?_
  refine op_q rfl (by decide) (qt_move rfl rfl) ?_
  refine at_on rfl rfl rfl rfl ?_
  refine op_q rfl (by decide) (qt_eql rfl rfl rfl) ?_
  refine at_on rfl rfl rfl rfl ?_
  refine op_q rfl (by decide) (qt_move rfl rfl) ?_
  refine at_bsplit 30 rfl (fun g2 => ?_) (fun g2 => ?_)
  ·try simp only [za,zb,zc,zd,ze,zf,Bool.not_true,Bool.not_false,zg,zh,ne_eq,zi,zj] at g2
   refine at_on rfl rfl rfl rfl ?_
   refine op_q rfl (by decide) (qt_move rfl rfl) ?_
   refine at_on rfl rfl rfl rfl ?_
   refine op_q rfl (by decide) (qt_nilCheck rfl rfl) ?_
   refine at_on rfl rfl rfl rfl ?_
   refine op_q rfl (by decide) (qt_fieldAddr rfl rfl tyf_spec_l13Span_4) ?_
   refine at_on rfl rfl rfl rfl ?_
   refine op_q rfl (by decide) (qt_load1 rfl rfl ty1_bool (by first | exact rdOld (h1 0 _ rfl) hb1 | exact rdOld (h1 1 _ rfl) hb1 | exact rdOld (h1 4 _ rfl) hb1 | exact rdOld (h2 0 _ rfl) hb2 | exact rdOld (h2 1 _ rfl) hb2 | exact rdOld (h2 4 _ rfl) hb2)) ?_
   refine at_on rfl rfl rfl rfl ?_
   refine op_q rfl (by decide) (qt_pickT rfl rfl rfl) ?_
   refine at_on rfl rfl rfl rfl ?_
   refine op_q rfl (by decide) (qt_move rfl rfl) ?_
   refine at_bsplit 36 rfl (fun g3 => ?_) (fun g3 => ?_)
   ·try simp only [za,zb,zc,zd,ze,zf,Bool.not_true,Bool.not_false,zg,zh,ne_eq,zi,zj] at g3
    refine at_on rfl rfl rfl rfl ?_
    refine op_q rfl (by decide) (qt_move rfl rfl) ?_
    refine at_on rfl rfl rfl rfl ?_
    refine op_q rfl (by decide) (qt_nilCheck rfl rfl) ?_
    refine at_on rfl rfl rfl rfl ?_
    refine op_q rfl (by decide) (qt_fieldAddr rfl rfl tyf_spec_l13Span_4) ?_
    refine at_on rfl rfl rfl rfl ?_
    refine op_q rfl (by decide) (qt_load1 rfl rfl ty1_bool (by first | exact rdOld (h1 0 _ rfl) hb1 | exact rdOld (h1 1 _ rfl) hb1 | exact rdOld (h1 4 _ rfl) hb1 | exact rdOld (h2 0 _ rfl) hb2 | exact rdOld (h2 1 _ rfl) hb2 | exact rdOld (h2 4 _ rfl) hb2)) ?_
    refine at_on rfl rfl rfl rfl ?_
    refine op_q rfl (by decide) (qt_not rfl rfl) ?_
    refine at_on rfl rfl rfl rfl ?_
    refine op_q rfl (by decide) (qt_pickT rfl rfl rfl) ?_
    refine at_q rfl rfl (by decide) (qt_pickF rfl rfl rfl) ?_
    refine at_q rfl rfl (by decide) (qt_assign rfl rfl) ?_
    refine at_end ?_
    refine at_retc ?_
    refine at_ret1 rfl (.tmp rfl) ?_
    intro w' hs
    exact ⟨retB (by unfold soonB; simp_all), hs.fin⟩
   ·try simp only [za,zb,zc,zd,ze,zf,Bool.not_true,Bool.not_false,zg,zh,ne_eq,zi,zj] at g3
    refine at_off rfl rfl rfl rfl (by decide) rfl (by decide) ?_
    refine at_off rfl rfl rfl rfl (by decide) rfl (by decide) ?_
    refine at_off rfl rfl rfl rfl (by decide) rfl (by decide) ?_
    refine at_off rfl rfl rfl rfl (by decide) rfl (by decide) ?_
    refine at_off rfl rfl rfl rfl (by decide) rfl (by decide) ?_
    refine at_on rfl rfl rfl rfl ?_
    refine op_q rfl (by decide) (qt_pickF rfl rfl rfl) ?_
    refine at_q rfl rfl (by decide) (qt_pickF rfl rfl rfl) ?_
    refine at_q rfl rfl (by decide) (qt_assign rfl rfl) ?_
    refine at_end ?_
    refine at_retc ?_
    refine at_ret1 rfl (.tmp rfl) ?_
    intro w' hs
    exact ⟨retB (by unfold soonB; simp_all), hs.fin⟩
  ·try simp only [za,zb,zc,zd,ze,zf,Bool.not_true,Bool.not_false,zg,zh,ne_eq,zi,zj] at g2
   refine at_off rfl rfl rfl rfl (by decide) rfl (by decide) ?_
   refine at_off rfl rfl rfl rfl (by decide) rfl (by decide) ?_
   refine at_off rfl rfl rfl rfl (by decide) rfl (by decide) ?_
   refine at_off rfl rfl rfl rfl (by decide) rfl (by decide) ?_
   refine at_on rfl rfl rfl rfl ?_
   refine op_q rfl (by decide) (qt_pickF rfl rfl rfl) ?_
   refine at_on rfl rfl rfl rfl ?_
   refine op_q rfl (by decide) (qt_move rfl rfl) ?_
   refine at_off rfl rfl rfl rfl (by decide) rfl (by decide) ?_
   refine at_off rfl rfl rfl rfl (by decide) rfl (by decide) ?_
   refine at_off rfl rfl rfl rfl (by decide) rfl (by decide) ?_
   refine at_off rfl rfl rfl rfl (by decide) rfl (by decide) ?_
   refine at_off rfl rfl rfl rfl (by decide) rfl (by decide) ?_
   refine at_on rfl rfl rfl rfl ?_
   refine op_q rfl (by decide) (qt_pickF rfl rfl rfl) ?_
   refine at_q rfl rfl (by decide) (qt_pickF rfl rfl rfl) ?_
   refine at_q rfl rfl (by decide) (qt_assign rfl rfl) ?_
   refine at_end ?_
   refine at_retc ?_
   refine at_ret1 rfl (.tmp rfl) ?_
   intro w' hs
   exact ⟨retB (by unfold soonB; simp_all), hs.fin⟩
theorem corners2 (b3 : Nat) (a b : Pn) (w : World) (h : Pts w (some ⟨b3, 0, none⟩) 2 [a, b]) : Calls Tryz.prog 101 #[.slice (some ⟨b3, 0, none⟩) 2 2] w fun e w' => e = .returned (.tuple #[ptV (min a.1 b.1) (min a.2 b.2), ptV (max a.1 b.1) (max a.2 b.2)]) ∧ Over w w' := by
 have := l09Corners_any _ 2 2 [a, b] w h (by decide) (by decide)
 exact this
def inS (a b p : Pn) : Sp := if (pixIn (2 * a.1) (2 * (b.1 - a.1)) (2 * p.1 - 1) && pixIn (2 * a.2) (2 * (b.2 - a.2)) (2 * p.2 - 1)) = true then pathSp a b p else sp0
theorem inS_eq {a b p : Pn} (h : insP a b p = true) : inS a b p = pathSp a b p := by
 unfold insP insB at h
 rw [Bool.and_eq_true] at h
 exact if_pos h.1
theorem l13Inside_p (a b p : Pn) (w : World) (ha : okB a.1 a.2 = true) (hb : okB b.1 b.2 = true) (hp : okB p.1 p.2 = true) :
  Calls Tryz.prog 102 #[pV a, pV b, pV p] w fun e w' => e = .returned (.tuple #[spV (inS a b p), .bool (insP a b p)]) ∧ Over w w' :=
 l13Inside_any a.1 a.2 b.1 b.2 p.1 p.2 w ha hb hp
theorem boxP_1 {a b p : Pn} (h : boxX a b p = false) : (!(boxX a b p && boxY a b p)) = true := by rw [h]; rfl
theorem boxP_3 {a b p : Pn} (h : boxY a b p = false) : (!(boxX a b p && boxY a b p)) = true := by rw [h, Bool.and_false]; rfl
theorem boxX_yes {a b p : Pn} (h1 : min a.1 b.1 - 1 ≤ p.1) (h2 : p.1 ≤ max a.1 b.1 + 1) : boxX a b p = true := by unfold boxX; rw [decide_eq_false (Int.not_lt.2 h1), decide_eq_false (Int.not_lt.2 h2)]; rfl
theorem boxX_high {a b p : Pn} (h : p.1 > max a.1 b.1 + 1) : boxX a b p = false := by unfold boxX; rw [decide_eq_true h, Bool.or_true]; rfl
theorem boxY_low {a b p : Pn} (h : p.2 < min a.2 b.2 - 1) : boxY a b p = false := by unfold boxY; rw [decide_eq_true h]; rfl
theorem boxY_rest {a b p : Pn} (hx : boxX a b p = true) (h : min a.2 b.2 - 1 ≤ p.2) : decide (p.2 > max a.2 b.2 + 1) = !(boxX a b p && boxY a b p) := by rw [hx, Bool.true_and]; unfold boxY; rw [decide_eq_false (Int.not_lt.2 h), Bool.false_or, Bool.not_not]
theorem onWay_bno {a b p : Pn} (h : (boxX a b p && boxY a b p) = false) : onWay a b p = false := by
 unfold onWay
 rw [h, Bool.false_and]
theorem onWay_byes {a b p : Pn} (h : (boxX a b p && boxY a b p) = true) (hi : insP a b p = true) : onWay a b p = true := by
 unfold onWay
 rw [h, hi]
 rfl
def lessS (a b : Pn) (p : Pn) (l : List Pn) (j : Nat) : Bool := match l[j - 1]? with
 | some q => soonP a b p q
 | none => false
theorem lessS_step {a b p : Pn} {l : List Pn} {j : Nat} (hj : j ≤ l.length) (hj0 : 0 < j) (hle : lessS a b p l j = true) (h : ∀ q ∈ l.drop j, soonP a b p q = true) : ∀ q ∈ l.drop (j - 1), soonP a b p q = true := fun q hq => by
 rw [List.drop_eq_getElem_cons (by omega), show j - 1 + 1 = j by omega] at hq
 rcases List.mem_cons.1 hq with rfl | hq
 ·unfold lessS at hle
  rw [List.getElem?_eq_getElem (by omega)] at hle
  exact hle
 ·exact h q hq
theorem lessS_stop {a b p : Pn} {l : List Pn} {j : Nat} (hj : j ≤ l.length) (h : (decide (0 < j) && lessS a b p l j) = false) : j = 0 ∨ ∃ q, l[j - 1]? = some q ∧ soonP a b p q = false := by
 by_cases h0 : 0 < j
 ·rw [decide_eq_true h0, Bool.true_and] at h
  refine .inr ⟨l[j - 1]'(by omega), List.getElem?_eq_getElem (by omega), ?_⟩
  unfold lessS at h
  rw [List.getElem?_eq_getElem (by omega)] at h
  exact h
 ·exact .inl (by omega)
theorem stop_srt (a b : Pn) (l : List Pn) : Srt (soonP a b) (stopL a b l) := srt_srt (soonP_weak a b) _
theorem rdRow8 {w : World} {B T m g c j : Nat} {a b : Pn} {l : List Pn} {p : Pn} (h : w.ownsRow B T 8 (.slice (some ⟨g, 0, none⟩) m c) m (l.flatMap (stC a b))) (hp : l[j]? = some p) {q : Nat} {v : Value} (hv : (stC a b p)[q]? = some v) : w.cell? ⟨g, 0 + j * 8 + q, none⟩ = some v := by
 have := h.cells rfl _ v (fm_at (stC_len a b) hp hv)
 rw [add_none] at this
 rw [Nat.zero_add] at this ⊢
 exact this
theorem rdRow8P {w0 : Bs} {Rs : List Res} {k B T m g c j : Nat} {a b : Pn} {l : List Pn} (hk : Rs[k]? = some (rowR B T 8 m (l.flatMap (stC a b)) (some ⟨g, 0, none⟩, c))) (hj : j < l.length) : ∀ w', St w0 Rs w' → ∀ q v, [Value.int .i64 (px l j), Value.int .i64 (py l j)][q]? = some v → w'.cell? ⟨g, 0 + j * 8 + 0 + q, none⟩ = some v := fun w' hs q v hv => by
 have hp : l[j]? = some (pt l j) := by rw [List.getElem?_eq_getElem hj, pt_at]
 rw [Nat.add_zero]
 refine rdRow8 (hs.all k _ hk).1 hp ?_
 match q, hv with
 | 0, hv => exact hv
 | 1, hv => exact hv
theorem rowLt8 {w : World} {B U m g : Nat} {c : Nat} {xs : List Value} (h : w.ownsRow B U 8 (.slice (some ⟨g, 0, none⟩) m c) m xs) : g < w.heap.size := (h.lt g rfl).2
theorem l13Path_any (a b : Pn) (A : Option Addr) (n c : Nat) (hot : List Pn) (w : World) (h : Pts w A n hot) (ha : okB a.1 a.2 = true) (hb : okB b.1 b.2 = true) (hh : ∀ p ∈ hot, okB p.1 p.2 = true) (hn : n ≤ 1048576) :
  Calls Tryz.prog 83 #[pV a, pV b, .slice A n c] w fun e w' => ∃ v, e = .returned v ∧ w'.ownsRow w.heap.size 64 2 v (pathP a b hot).length ((pathP a b hot).flatMap ptCells) ∧ Over w w' := by
 have hl := h.1
 have ha2 : bd2 a := okB_bd2 ha
 have hb2 : bd2 b := okB_bd2 hb
 have hp2 : ∀ p ∈ hot, bd2 p := fun p hp => okB_bd2 (hh p hp)
 obtain ⟨⟨a1, a2⟩, a3, a4⟩ := id ha2
 obtain ⟨⟨b1', b2'⟩, b3', b4'⟩ := id hb2
 have hsl2 : ∀ k, (stopL a b (hot.take k)).length ≤ 1048576 := fun k => by have := stop_len a b (hot.take k); rw [List.length_take] at this; omega
 have hsp : ∀ p ∈ hot, bdP (pathSp a b p) := fun p hp => pathSp_bd ha2 hb2 (hp2 p hp)
 rw [pathP_eq]
 refine walk_from (m := 121) (Tryz.func83) rfl rfl (Nat.le_of_ble_eq_true rfl) ?_
 refine at_seq ?_
 refine at_region ?_
 refine at_op rfl ?_
 refine op_box rfl rfl (rfl) rfl (by decide) (fun b1 => ?_)
 refine at_rsE (by simp only [ya,yb,yc,yd,Value.cells,ye]; rfl) ?_
 refine at_op rfl ?_
 refine op_box rfl rfl (rfl) rfl (by decide) (fun b2 => ?_)
 refine at_rsE (by simp only [ya,yb,yc,yd,Value.cells,ye]; rfl) ?_
 refine at_q rfl rfl (by decide) (qt_assign rfl rfl) ?_
 refine at_end ?_
 refine at_seq ?_
 refine at_region ?_
 refine at_op rfl ?_
 refine op_buildSlice rfl rfl (bsl_sl_spec_l13Stop_0) rfl (by decide) (fun b3 => ?_)
 refine at_rowN 2 8 rfl rfl ?_
 refine at_rsE (by simp only [ya,yb,yc,yd,Value.cells,ye]; rfl) ?_
 refine at_q rfl rfl (by decide) (qt_assign rfl rfl) ?_
 refine at_end ?_
 refine at_seq ?_
 refine at_region ?_
 refine at_q rfl rfl (by decide) (qt_loadS rfl rfl tys_impl_Pt rfl (rdAll (k := 0) rfl)) ?_
 refine at_q rfl rfl (by decide) (qt_loadS rfl rfl tys_impl_Pt rfl (rdAll (k := 1) rfl)) ?_
 refine at_op rfl ?_
 refine op_buildSlice rfl rfl (bsl_sl_impl_Pt_2_0_1 rfl rfl) rfl (by decide) (fun b4 => ?_)
 refine at_rsE (by simp only [ya,yb,yc,yd,Value.cells,ye]; rfl) ?_
 refine at_q rfl rfl (by decide) (qt_call ok_spec_l09Corners rfl rfl (fun w1 hs => corners2 _ a b w1 (ptsCel (k := 3) _ rfl rfl w1 hs))) ?_
 refine at_q rfl rfl (by decide) (qt_move rfl rfl) ?_
 refine at_q rfl rfl (by decide) (qt_extract rfl rfl rfl) ?_
 refine at_q rfl rfl (by decide) (qt_extract rfl rfl rfl) ?_
 refine at_op rfl ?_
 refine op_alloc rfl tyz_impl_Pt rfl (by decide) (fun b5 => ?_)
 refine at_rsE (by simp only [ya,yb,yc,yd,Value.cells,ye]; rfl) ?_
 refine at_op rfl ?_
 refine op_alloc rfl tyz_impl_Pt rfl (by decide) (fun b6 => ?_)
 refine at_rsE (by simp only [ya,yb,yc,yd,Value.cells,ye]; rfl) ?_
 refine at_op rfl ?_
 refine op_storeAll' (k := 4) rfl rfl rfl rfl (rfl) (by rfl) tyz_impl_Pt.szx rfl rfl rfl ?_
 refine at_rsE (by simp only [ya,yb,yc,yd,Value.cells,ye]; rfl) ?_
 refine at_op rfl ?_
 refine op_storeAll' (k := 5) rfl rfl rfl rfl (rfl) (by rfl) tyz_impl_Pt.szx rfl rfl rfl ?_
 refine at_rsE (by simp only [ya,yb,yc,yd,Value.cells,ye]; rfl) ?_
 refine at_end ?_
 refine at_seq ?_
 refine at_seq ?_
 refine at_region ?_
 refine at_q rfl rfl (by decide) (qt_assign rfl rfl) ?_
 refine at_end ?_
 refine at_block ?_
 refine at_loopc (X := Nat × Option Addr × Nat) (fun x => x.1 ≤ n) (fun x => n - x.1) (fun x => [(7, .slice x.2.1 (stopL a b (hot.take x.1)).length x.2.2), (10, .int .i64 (x.1 : Int))]) (C := [(2, _), (3, _), (4, _), (6, _), (8, _), (9, _)]) ⟨rfl, rfl, rfl, rfl, rfl, rfl, trivial⟩ (fun x => [.cel b1 64 [.int .i64 a.1, .int .i64 a.2], .cel b2 64 [.int .i64 b.1, .int .i64 b.2], rowR (Bs.N ⟨w, []⟩) 146 8 (stopL a b (hot.take x.1)).length ((stopL a b (hot.take x.1)).flatMap (stC a b)) x.2, .cel b4 64 [.int .i64 a.1, .int .i64 a.2, .int .i64 b.1, .int .i64 b.2], .cel b5 64 [.int .i64 (min a.1 b.1), .int .i64 (min a.2 b.2)], .cel b6 64 [.int .i64 (max a.1 b.1), .int .i64 (max a.2 b.2)]]) (0, some ⟨b3, 0, none⟩, 0) (Nat.zero_le _) ⟨rfl, rfl, rfl, rfl, rfl, rfl, rfl, rfl, trivial⟩ (fun _ h => h) ?_
 intro ⟨i, rA, rc⟩ hx L hL1
 refine at_envE (by simp only [ya,yb]; rfl) ?_
 refine at_rsE (by first | (dsimp only; done) | (dsimp only; rfl) | rfl) ?_
 have hi : i ≤ n := hx
 obtain ⟨S, hS⟩ : ∃ S, S = stopL a b (hot.take i) := ⟨_, rfl⟩
 obtain ⟨k, hk⟩ : ∃ k, k = S.length := ⟨_, rfl⟩
 have hk20 : k ≤ 1048576 := (by rw [hk, hS]; exact hsl2 i)
 have hsrt : Srt (soonP a b) S := (by rw [hS]; exact stop_srt a b _)
 have hSm : ∀ q ∈ S, q ∈ hot := (fun q hq => List.mem_of_mem_take (stop_mem (hS ▸ hq)))
 rw [← hS, ← hk]
 refine at_seq ?_
 refine at_seq ?_
 refine at_region ?_
 refine at_q rfl rfl (by decide) (qt_move rfl rfl) ?_
 refine at_q rfl rfl (by decide) (qt_move rfl rfl) ?_
 refine at_q rfl rfl (by decide) (qt_len rfl rfl tyl_sl_impl_Pt) ?_
 refine at_q rfl rfl (by decide) (qt_lss rfl rfl rfl) ?_
 refine at_end ?_
 refine at_cond rfl (fun c1 => ?_) (fun c1 => ?_)
 ·try simp only [za,zb,zc,zd,ze,zf,Bool.not_true,Bool.not_false,zg,zh,ne_eq,zi,zj] at c1
  have hlt : i < n := (by omega)
  obtain ⟨eb, eo, rfl, _⟩ := h.2 (by omega)
  have hpm : pt hot i ∈ hot := (by rw [← pt_at (by omega)]; exact List.getElem_mem _)
  obtain ⟨⟨p1, p2⟩, p3, p4⟩ := hp2 _ hpm
  refine at_fact (fun w hs => rowCap (hs.all 2 _ rfl).1) ?_
  intro hcap
  refine at_skip ?_
  refine norm_then ?_
  refine at_seq ?_
  refine at_block ?_
  refine at_seq ?_
  refine at_region ?_
  refine at_q rfl rfl (by decide) (qt_move rfl rfl) ?_
  refine at_q rfl rfl (by decide) (qt_move rfl rfl) ?_
  refine at_q rfl rfl (by decide) (qt_index rfl rfl rfl tyl_sl_impl_Pt (by omega)) ?_
  refine at_q rfl rfl (by decide) (qt_loadS rfl rfl tys_impl_Pt rfl (rdPts (b := eb) (o := eo) h hlt)) ?_
  refine at_op rfl ?_
  refine op_alloc rfl tyz_impl_Pt rfl (by decide) (fun b7 => ?_)
  refine at_rsE (by simp only [ya,yb,yc,yd,Value.cells,ye]; rfl) ?_
  refine at_op rfl ?_
  refine op_storeAll' (k := 6) rfl rfl rfl rfl (rfl) (by rfl) tyz_impl_Pt.szx rfl rfl rfl ?_
  refine at_rsE (by simp only [ya,yb,yc,yd,Value.cells,ye]; rfl) ?_
  refine at_end ?_
  refine at_seq ?_
  refine at_cutE [(65, .bool (!(boxX a b (pt hot i) && boxY a b (pt hot i))))] (C := [(2, _), (3, _), (4, _), (6, _), (8, _), (9, _), (7, _), (10, _), (26, _), (27, _), (28, _), (29, _), (32, _), (33, _), (34, _), (35, _), (11, _)])  ⟨rfl, rfl, rfl, rfl, rfl, rfl, rfl, rfl, rfl, rfl, rfl, rfl, rfl, rfl, rfl, rfl, rfl, trivial⟩ (fun L hC_cut_7 => ?_) ?_
  ·refine at_region ?_
   refine at_q rfl rfl (by decide) (qt_fieldAddr rfl rfl tyf_impl_Pt_0) ?_
   refine at_q rfl rfl (by decide) (qt_load1 rfl rfl ty1_int64 (rd1 (k := 6) rfl rfl)) ?_
   refine at_q rfl rfl (by decide) (qt_fieldAddr rfl rfl tyf_impl_Pt_0) ?_
   refine at_q rfl rfl (by decide) (qt_load1 rfl rfl ty1_int64 (rd1 (k := 4) rfl rfl)) ?_
   refine at_q rfl rfl (by decide) (qt_sub rfl rfl rfl (by omega) (by omega)) ?_
   refine at_q rfl rfl (by decide) (qt_lss rfl rfl rfl) ?_
   refine at_q rfl rfl (by decide) (qt_move rfl rfl) ?_
   refine at_bsplit 42 rfl (fun g1 => ?_) (fun g1 => ?_)
   ·try simp only [za,zb,zc,zd,ze,zf,Bool.not_true,Bool.not_false,zg,zh,ne_eq,zi,zj] at g1
    refine at_off rfl rfl rfl rfl (by decide) rfl (by decide) ?_
    refine at_off rfl rfl rfl rfl (by decide) rfl (by decide) ?_
    refine at_off rfl rfl rfl rfl (by decide) rfl (by decide) ?_
    refine at_off rfl rfl rfl rfl (by decide) rfl (by decide) ?_
    refine at_off rfl rfl rfl rfl (by decide) rfl (by decide) ?_
    refine at_off rfl rfl rfl rfl (by decide) rfl (by decide) ?_
    refine at_q rfl rfl (by decide) (qt_pickT rfl rfl rfl) ?_
    refine at_q rfl rfl (by decide) (qt_move rfl rfl) ?_
    refine at_off rfl rfl rfl rfl (by decide) rfl (by decide) ?_
    refine at_off rfl rfl rfl rfl (by decide) rfl (by decide) ?_
    refine at_off rfl rfl rfl rfl (by decide) rfl (by decide) ?_
    refine at_off rfl rfl rfl rfl (by decide) rfl (by decide) ?_
    refine at_off rfl rfl rfl rfl (by decide) rfl (by decide) ?_
    refine at_off rfl rfl rfl rfl (by decide) rfl (by decide) ?_
    refine at_q rfl rfl (by decide) (qt_pickT rfl rfl rfl) ?_
    refine at_q rfl rfl (by decide) (qt_move rfl rfl) ?_
    refine at_off rfl rfl rfl rfl (by decide) rfl (by decide) ?_
    refine at_off rfl rfl rfl rfl (by decide) rfl (by decide) ?_
    refine at_off rfl rfl rfl rfl (by decide) rfl (by decide) ?_
    refine at_off rfl rfl rfl rfl (by decide) rfl (by decide) ?_
    refine at_off rfl rfl rfl rfl (by decide) rfl (by decide) ?_
    refine at_off rfl rfl rfl rfl (by decide) rfl (by decide) ?_
    refine at_q rfl rfl (by decide) (qt_pickT rfl rfl rfl) ?_
    refine at_end ?_
    exact at_meet hC_cut_7 ⟨vb (boxP_1 (boxX_low (p := pt hot i) g1)).symm, rfl, rfl, rfl, rfl, rfl, rfl, rfl, rfl, rfl, rfl, rfl, rfl, rfl, rfl, rfl, rfl, rfl, trivial⟩ (fun _ h => h.upto ⟨rfl, rfl, rfl, rfl, rfl, rfl, rfl, trivial⟩)
   ·try simp only [za,zb,zc,zd,ze,zf,Bool.not_true,Bool.not_false,zg,zh,ne_eq,zi,zj] at g1
    refine at_on rfl rfl rfl rfl ?_
    refine op_q rfl (by decide) (qt_fieldAddr rfl rfl tyf_impl_Pt_0) ?_
    refine at_on rfl rfl rfl rfl ?_
    refine op_q rfl (by decide) (qt_load1 rfl rfl ty1_int64 (rd1 (k := 6) rfl rfl)) ?_
    refine at_on rfl rfl rfl rfl ?_
    refine op_q rfl (by decide) (qt_fieldAddr rfl rfl tyf_impl_Pt_0) ?_
    refine at_on rfl rfl rfl rfl ?_
    refine op_q rfl (by decide) (qt_load1 rfl rfl ty1_int64 (rd1 (k := 5) rfl rfl)) ?_
    refine at_on rfl rfl rfl rfl ?_
    refine op_q rfl (by decide) (qt_add rfl rfl rfl (by omega) (by omega)) ?_
    refine at_on rfl rfl rfl rfl ?_
    refine op_q rfl (by decide) (qt_gtr rfl rfl rfl) ?_
    refine at_q rfl rfl (by decide) (qt_pickF rfl rfl rfl) ?_
    refine at_q rfl rfl (by decide) (qt_move rfl rfl) ?_
    refine at_bsplit 50 rfl (fun g2 => ?_) (fun g2 => ?_)
    ·try simp only [za,zb,zc,zd,ze,zf,Bool.not_true,Bool.not_false,zg,zh,ne_eq,zi,zj] at g2
     refine at_off rfl rfl rfl rfl (by decide) rfl (by decide) ?_
     refine at_off rfl rfl rfl rfl (by decide) rfl (by decide) ?_
     refine at_off rfl rfl rfl rfl (by decide) rfl (by decide) ?_
     refine at_off rfl rfl rfl rfl (by decide) rfl (by decide) ?_
     refine at_off rfl rfl rfl rfl (by decide) rfl (by decide) ?_
     refine at_off rfl rfl rfl rfl (by decide) rfl (by decide) ?_
     refine at_q rfl rfl (by decide) (qt_pickT rfl rfl rfl) ?_
     refine at_q rfl rfl (by decide) (qt_move rfl rfl) ?_
     refine at_off rfl rfl rfl rfl (by decide) rfl (by decide) ?_
     refine at_off rfl rfl rfl rfl (by decide) rfl (by decide) ?_
     refine at_off rfl rfl rfl rfl (by decide) rfl (by decide) ?_
     refine at_off rfl rfl rfl rfl (by decide) rfl (by decide) ?_
     refine at_off rfl rfl rfl rfl (by decide) rfl (by decide) ?_
     refine at_off rfl rfl rfl rfl (by decide) rfl (by decide) ?_
     refine at_q rfl rfl (by decide) (qt_pickT rfl rfl rfl) ?_
     refine at_end ?_
     exact at_meet hC_cut_7 ⟨vb (boxP_1 (boxX_high (p := pt hot i) g2)).symm, rfl, rfl, rfl, rfl, rfl, rfl, rfl, rfl, rfl, rfl, rfl, rfl, rfl, rfl, rfl, rfl, rfl, trivial⟩ (fun _ h => h.upto ⟨rfl, rfl, rfl, rfl, rfl, rfl, rfl, trivial⟩)
    ·try simp only [za,zb,zc,zd,ze,zf,Bool.not_true,Bool.not_false,zg,zh,ne_eq,zi,zj] at g2
     refine at_on rfl rfl rfl rfl ?_
     refine op_q rfl (by decide) (qt_fieldAddr rfl rfl tyf_impl_Pt_1) ?_
     refine at_on rfl rfl rfl rfl ?_
     refine op_q rfl (by decide) (qt_load1 rfl rfl ty1_int64 (rd1 (k := 6) rfl rfl)) ?_
     refine at_on rfl rfl rfl rfl ?_
     refine op_q rfl (by decide) (qt_fieldAddr rfl rfl tyf_impl_Pt_1) ?_
     refine at_on rfl rfl rfl rfl ?_
     refine op_q rfl (by decide) (qt_load1 rfl rfl ty1_int64 (rd1 (k := 4) rfl rfl)) ?_
     refine at_on rfl rfl rfl rfl ?_
     refine op_q rfl (by decide) (qt_sub rfl rfl rfl (by omega) (by omega)) ?_
     refine at_on rfl rfl rfl rfl ?_
     refine op_q rfl (by decide) (qt_lss rfl rfl rfl) ?_
     refine at_q rfl rfl (by decide) (qt_pickF rfl rfl rfl) ?_
     refine at_q rfl rfl (by decide) (qt_move rfl rfl) ?_
     refine at_bsplit 58 rfl (fun g3 => ?_) (fun g3 => ?_)
     ·try simp only [za,zb,zc,zd,ze,zf,Bool.not_true,Bool.not_false,zg,zh,ne_eq,zi,zj] at g3
      refine at_off rfl rfl rfl rfl (by decide) rfl (by decide) ?_
      refine at_off rfl rfl rfl rfl (by decide) rfl (by decide) ?_
      refine at_off rfl rfl rfl rfl (by decide) rfl (by decide) ?_
      refine at_off rfl rfl rfl rfl (by decide) rfl (by decide) ?_
      refine at_off rfl rfl rfl rfl (by decide) rfl (by decide) ?_
      refine at_off rfl rfl rfl rfl (by decide) rfl (by decide) ?_
      refine at_q rfl rfl (by decide) (qt_pickT rfl rfl rfl) ?_
      refine at_end ?_
      exact at_meet hC_cut_7 ⟨vb (boxP_3 (boxY_low (p := pt hot i) g3)).symm, rfl, rfl, rfl, rfl, rfl, rfl, rfl, rfl, rfl, rfl, rfl, rfl, rfl, rfl, rfl, rfl, rfl, trivial⟩ (fun _ h => h.upto ⟨rfl, rfl, rfl, rfl, rfl, rfl, rfl, trivial⟩)
     ·try simp only [za,zb,zc,zd,ze,zf,Bool.not_true,Bool.not_false,zg,zh,ne_eq,zi,zj] at g3
      refine at_on rfl rfl rfl rfl ?_
      refine op_q rfl (by decide) (qt_fieldAddr rfl rfl tyf_impl_Pt_1) ?_
      refine at_on rfl rfl rfl rfl ?_
      refine op_q rfl (by decide) (qt_load1 rfl rfl ty1_int64 (rd1 (k := 6) rfl rfl)) ?_
      refine at_on rfl rfl rfl rfl ?_
      refine op_q rfl (by decide) (qt_fieldAddr rfl rfl tyf_impl_Pt_1) ?_
      refine at_on rfl rfl rfl rfl ?_
      refine op_q rfl (by decide) (qt_load1 rfl rfl ty1_int64 (rd1 (k := 5) rfl rfl)) ?_
      refine at_on rfl rfl rfl rfl ?_
      refine op_q rfl (by decide) (qt_add rfl rfl rfl (by omega) (by omega)) ?_
      refine at_on rfl rfl rfl rfl ?_
      refine op_q rfl (by decide) (qt_gtr rfl rfl rfl) ?_
      refine at_q rfl rfl (by decide) (qt_pickF rfl rfl rfl) ?_
      refine at_end ?_
      exact at_meet hC_cut_7 ⟨vb (boxY_rest (p := pt hot i) (boxX_yes g1 g2) g3), rfl, rfl, rfl, rfl, rfl, rfl, rfl, rfl, rfl, rfl, rfl, rfl, rfl, rfl, rfl, rfl, rfl, trivial⟩ (fun _ h => h.upto ⟨rfl, rfl, rfl, rfl, rfl, rfl, rfl, trivial⟩)
  ·refine at_envE (by simp only [ya,yb]; rfl) ?_
   refine at_cond rfl (fun c2 => ?_) (fun c2 => ?_)
   ·try simp only [za,zb,zc,zd,ze,zf,Bool.not_true,Bool.not_false,zg,zh,ne_eq,zi,zj] at c2
    refine at_exit ?_
    refine pass_then (fun h => by cases h) ?_
    refine pass_hit ?_
    refine norm_then ?_
    refine at_region ?_
    refine at_q rfl rfl (by decide) (qt_move rfl rfl) ?_
    refine at_q rfl rfl (by decide) (qt_add rfl rfl rfl (by omega) (by omega)) ?_
    refine at_q rfl rfl (by decide) (qt_assign rfl rfl) ?_
    refine at_end ?_
    exact at_againc hL1 ((i + 1, rA, rc)) ((show i + 1 ≤ n by omega)) (by simp only; omega) ⟨(by rw [stop_no (by omega) (onWay_bno c2), ← hS, ← hk]; rfl), vi (by omega), rfl, rfl, rfl, rfl, rfl, rfl, trivial⟩ (fun _ h => h.upto ⟨rfl, rfl, by rw [stop_no (by omega) (onWay_bno c2), ← hS, ← hk], rfl, rfl, rfl, trivial⟩)
   ·try simp only [za,zb,zc,zd,ze,zf,Bool.not_true,Bool.not_false,zg,zh,ne_eq,zi,zj] at c2
    refine at_skip ?_
    refine norm_then ?_
    refine at_seq ?_
    refine at_region ?_
    refine at_q rfl rfl (by decide) (qt_loadS rfl rfl tys_impl_Pt rfl (rdAll (k := 0) rfl)) ?_
    refine at_q rfl rfl (by decide) (qt_loadS rfl rfl tys_impl_Pt rfl (rdAll (k := 1) rfl)) ?_
    refine at_q rfl rfl (by decide) (qt_loadS rfl rfl tys_impl_Pt rfl (rdAll (k := 6) rfl)) ?_
    refine at_q rfl rfl (by decide) (qt_call ok_spec_l13Inside rfl rfl (fun w1 hs => l13Inside_p a b (pt hot i) w1 ha hb (hh _ hpm))) ?_
    refine at_q rfl rfl (by decide) (qt_move rfl rfl) ?_
    refine at_q rfl rfl (by decide) (qt_extract rfl rfl rfl) ?_
    refine at_q rfl rfl (by decide) (qt_extract rfl rfl rfl) ?_
    refine at_op rfl ?_
    refine op_alloc rfl tyz_spec_l13Span rfl (by decide) (fun b8 => ?_)
    refine at_rsE (by simp only [ya,yb,yc,yd,Value.cells,ye]; rfl) ?_
    refine at_op rfl ?_
    refine op_storeAll' (k := 7) rfl rfl rfl rfl (rfl) (by rfl) tyz_spec_l13Span.szx rfl rfl rfl ?_
    refine at_rsE (by simp only [ya,yb,yc,yd,Value.cells,ye]; rfl) ?_
    refine at_q rfl rfl (by decide) (qt_assign rfl rfl) ?_
    refine at_end ?_
    refine at_seq ?_
    refine at_seq ?_
    refine at_region ?_
    refine at_q rfl rfl (by decide) (qt_move rfl rfl) ?_
    refine at_q rfl rfl (by decide) (qt_not rfl rfl) ?_
    refine at_end ?_
    refine at_cond rfl (fun c3 => ?_) (fun c3 => ?_)
    ·try simp only [za,zb,zc,zd,ze,zf,Bool.not_true,Bool.not_false,zg,zh,ne_eq,zi,zj] at c3
     refine at_exit ?_
     refine pass_then (fun h => by cases h) ?_
     refine pass_hit ?_
     refine norm_then ?_
     refine at_region ?_
     refine at_q rfl rfl (by decide) (qt_move rfl rfl) ?_
     refine at_q rfl rfl (by decide) (qt_add rfl rfl rfl (by omega) (by omega)) ?_
     refine at_q rfl rfl (by decide) (qt_assign rfl rfl) ?_
     refine at_end ?_
     exact at_againc hL1 ((i + 1, rA, rc)) ((show i + 1 ≤ n by omega)) (by simp only; omega) ⟨(by rw [stop_no (by omega) (onWay_b3 c3), ← hS, ← hk]; rfl), vi (by omega), rfl, rfl, rfl, rfl, rfl, rfl, trivial⟩ (fun _ h => h.upto ⟨rfl, rfl, by rw [stop_no (by omega) (onWay_b3 c3), ← hS, ← hk], rfl, rfl, rfl, trivial⟩)
    ·try simp only [za,zb,zc,zd,ze,zf,Bool.not_true,Bool.not_false,zg,zh,ne_eq,zi,zj] at c3
     rw [inS_eq c3]
     refine at_skip ?_
     refine norm_then ?_
     refine at_seq ?_
     refine at_region ?_
     refine at_q rfl rfl (by decide) (qt_move rfl rfl) ?_
     refine at_q rfl rfl (by decide) (qt_len rfl rfl tyl_sl_spec_l13Stop) ?_
     refine at_q rfl rfl (by decide) (qt_assign rfl rfl) ?_
     refine at_end ?_
     refine at_seq ?_
     refine at_block ?_
     refine at_loopk (X := Nat) (fun j => j ≤ k ∧ ∀ q ∈ S.drop j, soonP a b (pt hot i) q = true) (fun j => j) (fun j => [(14, .int .i64 (j : Int))]) (C := [(2, _), (3, _), (4, _), (6, _), (8, _), (9, _), (7, _), (10, _), (26, _), (27, _), (28, _), (29, _), (32, _), (33, _), (34, _), (35, _), (11, _), (65, _), (67, _), (68, _), (69, _), (70, _), (66, _), (71, _), (72, _), (12, _), (13, _), (73, _), (74, _), (75, _), (76, _)]) ⟨rfl, rfl, rfl, rfl, rfl, rfl, rfl, rfl, rfl, rfl, rfl, rfl, rfl, rfl, rfl, rfl, rfl, rfl, rfl, rfl, rfl, rfl, rfl, rfl, rfl, rfl, rfl, rfl, rfl, rfl, rfl, trivial⟩ k (⟨Nat.le_refl _, fun q hq => by rw [List.drop_of_length_le (by omega)] at hq; cases hq⟩) ⟨rfl, rfl, rfl, rfl, rfl, rfl, rfl, rfl, rfl, rfl, rfl, rfl, rfl, rfl, rfl, rfl, rfl, rfl, rfl, rfl, rfl, rfl, rfl, rfl, rfl, rfl, rfl, rfl, rfl, rfl, rfl, rfl, trivial⟩ ?_
     intro j hj L hL2
     refine at_envE (by simp only [ya,yb]; rfl) ?_
     obtain ⟨hjk, hjq⟩ := hj
     refine at_seq ?_
     refine at_cutE [(86, .bool (decide (0 < j) && lessS a b (pt hot i) S j))] (C := [(2, _), (3, _), (4, _), (6, _), (8, _), (9, _), (7, _), (10, _), (26, _), (27, _), (28, _), (29, _), (32, _), (33, _), (34, _), (35, _), (11, _), (65, _), (67, _), (68, _), (69, _), (70, _), (66, _), (71, _), (72, _), (12, _), (13, _), (73, _), (74, _), (75, _), (76, _), (14, _)])  ⟨rfl, rfl, rfl, rfl, rfl, rfl, rfl, rfl, rfl, rfl, rfl, rfl, rfl, rfl, rfl, rfl, rfl, rfl, rfl, rfl, rfl, rfl, rfl, rfl, rfl, rfl, rfl, rfl, rfl, rfl, rfl, rfl, trivial⟩ (fun L hC_cut_11 => ?_) ?_
     ·refine at_region ?_
      refine at_q rfl rfl (by decide) (qt_move rfl rfl) ?_
      refine at_q rfl rfl (by decide) (qt_gtr rfl rfl rfl) ?_
      refine at_q rfl rfl (by decide) (qt_move rfl rfl) ?_
      refine at_bsplit 79 rfl (fun g4 => ?_) (fun g4 => ?_)
      ·try simp only [za,zb,zc,zd,ze,zf,Bool.not_true,Bool.not_false,zg,zh,ne_eq,zi,zj] at g4
       have hj0 : 0 < j := (by omega)
       refine at_fact (fun w hs => rowSome (k := 2) rfl hs (by omega)) ?_
       rintro ⟨eg, rfl⟩
       obtain ⟨q, hq⟩ : ∃ q, S[j - 1]? = some q := ⟨_, List.getElem?_eq_getElem (by omega)⟩
       have hqm : q ∈ S := List.mem_of_getElem? hq
       refine at_on rfl rfl rfl rfl ?_
       refine op_q rfl (by decide) (qt_move rfl rfl) ?_
       refine at_on rfl rfl rfl rfl ?_
       refine op_q rfl (by decide) (qt_move rfl rfl) ?_
       refine at_on rfl rfl rfl rfl ?_
       refine op_q rfl (by decide) ((qt_sub rfl rfl rfl (by omega) (by omega)).as (congrArg _ (show ((j : Int) - 1) = ((j - 1 : Nat) : Int) by omega))) ?_
       refine at_on rfl rfl rfl rfl ?_
       refine op_q rfl (by decide) (qt_index (j := j - 1) rfl rfl rfl tyl_sl_spec_l13Stop (by omega)) ?_
       refine at_on rfl rfl rfl rfl ?_
       refine op_q rfl (by decide) (qt_fieldAddr rfl rfl tyf_spec_l13Stop_1) ?_
       refine at_on rfl rfl rfl rfl ?_
       refine op_q rfl (by decide) (qt_call ok_spec_l13Sooner rfl rfl (fun w1 hs => l13Sooner_any _ 0 eg (0 + (j - 1) * 8 + 2) (pathSp a b (pt hot i)) (pathSp a b q) w1 (fun r v hv => rdAll (k := 7) rfl w1 hs r v hv) (lt_of_some (hs.cel (k := 7) rfl)) (fun r v hv => by rw [show 0 + (j - 1) * 8 + 2 + r = 0 + (j - 1) * 8 + (2 + r) by omega]; exact rdRow8 (hs.all 2 _ rfl).1 hq (by rw [Nat.add_comm]; exact hv)) (rowLt8 (hs.all 2 _ rfl).1) (hsp _ hpm) (hsp q (hSm q hqm)))) ?_
       refine at_q rfl rfl (by decide) (qt_pickT rfl rfl rfl) ?_
       refine at_end ?_
       exact at_meet hC_cut_11 ⟨vb (by rw [show decide (0 < j) = true from decide_eq_true hj0, Bool.true_and, lessS, hq]; rfl), rfl, rfl, rfl, rfl, rfl, rfl, rfl, rfl, rfl, rfl, rfl, rfl, rfl, rfl, rfl, rfl, rfl, rfl, rfl, rfl, rfl, rfl, rfl, rfl, rfl, rfl, rfl, rfl, rfl, rfl, rfl, rfl, trivial⟩ (fun _ h => h.upto ⟨rfl, rfl, rfl, rfl, rfl, rfl, rfl, rfl, trivial⟩)
      ·try simp only [za,zb,zc,zd,ze,zf,Bool.not_true,Bool.not_false,zg,zh,ne_eq,zi,zj] at g4
       refine at_off rfl rfl rfl rfl (by decide) rfl (by decide) ?_
       refine at_off rfl rfl rfl rfl (by decide) rfl (by decide) ?_
       refine at_off rfl rfl rfl rfl (by decide) rfl (by decide) ?_
       refine at_off rfl rfl rfl rfl (by decide) rfl (by decide) ?_
       refine at_off rfl rfl rfl rfl (by decide) rfl (by decide) ?_
       refine at_off rfl rfl rfl rfl (by decide) rfl (by decide) ?_
       refine at_q rfl rfl (by decide) (qt_pickF rfl rfl rfl) ?_
       refine at_end ?_
       exact at_meet hC_cut_11 ⟨vb (by rw [show decide (0 < j) = false from decide_eq_false (by omega), Bool.false_and]), rfl, rfl, rfl, rfl, rfl, rfl, rfl, rfl, rfl, rfl, rfl, rfl, rfl, rfl, rfl, rfl, rfl, rfl, rfl, rfl, rfl, rfl, rfl, rfl, rfl, rfl, rfl, rfl, rfl, rfl, rfl, rfl, trivial⟩ (fun _ h => h.upto ⟨rfl, rfl, rfl, rfl, rfl, rfl, rfl, rfl, trivial⟩)
     ·refine at_envE (by simp only [ya,yb]; rfl) ?_
      refine at_cond rfl (fun c4 => ?_) (fun c4 => ?_)
      ·try simp only [za,zb,zc,zd,ze,zf,Bool.not_true,Bool.not_false,zg,zh,ne_eq,zi,zj] at c4
       simp only [Bool.and_eq_true, decide_eq_true_eq] at c4
       obtain ⟨hj0, hle⟩ := c4
       refine at_skip ?_
       refine norm_then ?_
       refine at_block ?_
       refine at_region ?_
       refine at_q rfl rfl (by decide) (qt_move rfl rfl) ?_
       refine at_q rfl rfl (by decide) (qt_sub rfl rfl rfl (by omega) (by omega)) ?_
       refine at_q rfl rfl (by decide) (qt_assign rfl rfl) ?_
       refine at_nil ?_
       refine norm_block ?_
       refine norm_then ?_
       exact at_againk hL2 (j - 1) (⟨by omega, fun q hq => lessS_step (by omega) hj0 hle hjq q hq⟩) (by omega) ⟨vi (by omega), rfl, rfl, rfl, rfl, rfl, rfl, rfl, rfl, rfl, rfl, rfl, rfl, rfl, rfl, rfl, rfl, rfl, rfl, rfl, rfl, rfl, rfl, rfl, rfl, rfl, rfl, rfl, rfl, rfl, rfl, rfl, trivial⟩ (fun _ h => h.upto ⟨rfl, rfl, rfl, rfl, rfl, rfl, rfl, rfl, trivial⟩)
      ·try simp only [za,zb,zc,zd,ze,zf,Bool.not_true,Bool.not_false,zg,zh,ne_eq,zi,zj] at c4
       have hins : insS (soonP a b) (pt hot i) S = S.take j ++ pt hot i :: S.drop j := insS_at (soonP_weak a b) hsrt (by omega) hjq (lessS_stop (by omega) c4)
       have hnew : stopL a b (hot.take (i + 1)) = S.take j ++ pt hot i :: S.drop j := (by rw [stop_yes (by omega) (onWay_byes c2 c3), ← hS, hins])
       have hnl : (stopL a b (hot.take (i + 1))).length = 0 + j + 1 + (k - j) := (by rw [hnew]; simp; omega)
       refine at_exit ?_
       refine pass_then (fun h => by cases h) ?_
       refine pass_then (fun h => by cases h) ?_
       refine pass_hit ?_
       refine norm_then ?_
       refine at_seq ?_
       refine at_region ?_
       refine at_op rfl ?_
       refine op_buildSlice rfl rfl (bsl_sl_spec_l13Stop_0) rfl (by decide) (fun b9 => ?_)
       refine at_rowN 8 8 rfl rfl ?_
       refine at_rsE (by simp only [ya,yb,yc,yd,Value.cells,ye]; rfl) ?_
       refine at_q rfl rfl (by decide) (qt_move rfl rfl) ?_
       refine at_q rfl rfl (by decide) (qt_move rfl rfl) ?_
       refine at_q rfl rfl (by decide) (qt_sliceH rfl rfl rfl tyl_sl_spec_l13Stop (by omega)) ?_
       refine at_op rfl ?_
       refine op_appendR (k := 8) rfl tyl_sl_spec_l13Stop tyz_spec_l13Stop (by decide) rfl (by decide) rfl rfl rfl (fun w' hs => srcRowHs (hs.all 2 _ rfl).1 hjk) ((fun u hu => stC_one a b S u (List.mem_of_mem_take hu))) (by unfold maxLen; omega) (by omega) (Nat.le_refl _) (fun r1 => ?_)
       refine at_rsE (by simp only [ya,yb,yc,yd,Value.cells,ye]; rfl) ?_
       refine at_q rfl rfl (by decide) (qt_assign rfl rfl) ?_
       refine at_end ?_
       refine at_seq ?_
       refine at_region ?_
       refine at_q rfl rfl (by decide) (qt_move rfl rfl) ?_
       refine at_q rfl rfl (by decide) (qt_loadS rfl rfl tys_impl_Pt rfl (rdAll (k := 6) rfl)) ?_
       refine at_q rfl rfl (by decide) (qt_loadS rfl rfl tys_spec_l13Span rfl (rdAll (k := 7) rfl)) ?_
       refine at_q rfl rfl (by decide) (qt_build rfl rfl (bld_spec_l13Stop_0_1 rfl rfl)) ?_
       refine at_op rfl ?_
       refine op_buildSlice rfl rfl (bsl_sl_spec_l13Stop_1_0 rfl) rfl (by decide) (fun b10 => ?_)
       refine at_rsE (by simp only [ya,yb,yc,yd,Value.cells,ye]; rfl) ?_
       refine at_op rfl ?_
       refine op_appendR (k := 8) rfl tyl_sl_spec_l13Stop tyz_spec_l13Stop (by decide) rfl (by decide) rfl rfl rfl (fun w' hs => src_cel hs (k := 9) rfl rfl) (by simp [Value.oneCell']) (by unfold maxLen; omega) (by omega) (Nat.le_refl _) (fun r2 => ?_)
       refine at_rsE (by simp only [ya,yb,yc,yd,Value.cells,ye]; rfl) ?_
       refine at_q rfl rfl (by decide) (qt_assign rfl rfl) ?_
       refine at_end ?_
       refine at_region ?_
       refine at_q rfl rfl (by decide) (qt_move rfl rfl) ?_
       refine at_q rfl rfl (by decide) (qt_move rfl rfl) ?_
       refine at_q rfl rfl (by decide) (qt_move rfl rfl) ?_
       refine at_q rfl rfl (by decide) (qt_sliceL rfl rfl rfl tyl_sl_spec_l13Stop (by omega)) ?_
       refine at_op rfl ?_
       refine op_appendR (k := 8) rfl tyl_sl_spec_l13Stop tyz_spec_l13Stop (by decide) rfl (by decide) rfl rfl rfl (fun w' hs => srcRowLs (hs.all 2 _ rfl).1 hjk) ((fun u hu => stC_one a b S u (List.mem_of_mem_drop hu))) (by unfold maxLen; omega) (by omega) (Nat.le_refl _) (fun r3 => ?_)
       refine at_rsE (by simp only [ya,yb,yc,yd,Value.cells,ye]; rfl) ?_
       refine at_q rfl rfl (by decide) (qt_assign rfl rfl) ?_
       refine at_nil ?_
       refine norm_block ?_
       refine norm_then ?_
       refine at_region ?_
       refine at_q rfl rfl (by decide) (qt_move rfl rfl) ?_
       refine at_q rfl rfl (by decide) (qt_add rfl rfl rfl (by omega) (by omega)) ?_
       refine at_q rfl rfl (by decide) (qt_assign rfl rfl) ?_
       refine at_end ?_
       exact at_againc hL1 ((i + 1, r3)) ((show i + 1 ≤ n by omega)) (by simp only; omega) ⟨(by rw [hnl]; rfl), vi (by omega), rfl, rfl, rfl, rfl, rfl, rfl, trivial⟩ (fun _ h => (h.picks [0, 1, 8, 3, 4, 5] (by decide)).upto ⟨rfl, rfl, by rw [hnl, hnew, fm_take (stC_len a b) S j (by omega), fm_drop (stC_len a b) S j (by omega), List.flatMap_append, List.flatMap_cons, ← List.append_assoc]; rfl, rfl, rfl, rfl, trivial⟩)
 ·try simp only [za,zb,zc,zd,ze,zf,Bool.not_true,Bool.not_false,zg,zh,ne_eq,zi,zj] at c1
  have hin : i = n := (by omega)
  subst hin
  have hSa : S = stopL a b hot := (by rw [hS, List.take_of_length_le (by omega)])
  rw [← hSa]
  refine at_exit ?_
  refine pass_then (fun h => by cases h) ?_
  refine pass_then (fun h => by cases h) ?_
  refine pass_hit ?_
  refine norm_then ?_
  refine at_seq ?_
  refine at_region ?_
  refine at_op rfl ?_
  refine op_buildSlice rfl rfl (bsl_sl_impl_Pt_0) rfl (by decide) (fun b11 => ?_)
  refine at_rowN 6 2 rfl rfl ?_
  refine at_rsE (by simp only [ya,yb,yc,yd,Value.cells,ye]; rfl) ?_
  refine at_q rfl rfl (by decide) (qt_assign rfl rfl) ?_
  refine at_end ?_
  refine at_seq ?_
  refine at_seq ?_
  refine at_region ?_
  refine at_q rfl rfl (by decide) (qt_assign rfl rfl) ?_
  refine at_end ?_
  refine at_block ?_
  refine at_loopc (X := Nat × Option Addr × Nat) (fun y => y.1 ≤ k) (fun y => k - y.1) (fun y => [(16, .slice y.2.1 y.1 y.2.2), (17, .int .i64 (y.1 : Int))]) (C := [(6, _), (7, _)]) ⟨rfl, rfl, trivial⟩ (fun y => [.cel b1 64 [.int .i64 a.1, .int .i64 a.2], .cel b2 64 [.int .i64 b.1, .int .i64 b.2], rowR (Bs.N ⟨w, []⟩) 146 8 k (S.flatMap (stC a b)) (rA, rc), .cel b4 64 [.int .i64 a.1, .int .i64 a.2, .int .i64 b.1, .int .i64 b.2], .cel b5 64 [.int .i64 (min a.1 b.1), .int .i64 (min a.2 b.2)], .cel b6 64 [.int .i64 (max a.1 b.1), .int .i64 (max a.2 b.2)], rowR (Bs.N ⟨w, []⟩) 64 2 y.1 ((S.take y.1).flatMap ptCells) y.2]) (0, some ⟨b11, 0, none⟩, 0) (Nat.zero_le _) ⟨rfl, rfl, rfl, rfl, trivial⟩ (fun _ h => h) ?_
  intro ⟨j, qA, qc⟩ hy L hL3
  refine at_envE (by simp only [ya,yb]; rfl) ?_
  refine at_rsE (by first | (dsimp only; done) | (dsimp only; rfl) | rfl) ?_
  have hj : j ≤ k := hy
  refine at_seq ?_
  refine at_seq ?_
  refine at_region ?_
  refine at_q rfl rfl (by decide) (qt_move rfl rfl) ?_
  refine at_q rfl rfl (by decide) (qt_move rfl rfl) ?_
  refine at_q rfl rfl (by decide) (qt_len rfl rfl tyl_sl_spec_l13Stop) ?_
  refine at_q rfl rfl (by decide) (qt_lss rfl rfl rfl) ?_
  refine at_end ?_
  refine at_cond rfl (fun c5 => ?_) (fun c5 => ?_)
  ·try simp only [za,zb,zc,zd,ze,zf,Bool.not_true,Bool.not_false,zg,zh,ne_eq,zi,zj] at c5
   have hlt : j < k := (by omega)
   refine at_fact (fun w hs => rowSome (k := 2) rfl hs (by omega)) ?_
   rintro ⟨eg, rfl⟩
   have hpj : S[j]? = some (pt S j) := (by rw [List.getElem?_eq_getElem (by omega), pt_at])
   refine at_skip ?_
   refine norm_then ?_
   refine at_seq ?_
   refine at_block ?_
   refine at_region ?_
   refine at_q rfl rfl (by decide) (qt_move rfl rfl) ?_
   refine at_q rfl rfl (by decide) (qt_move rfl rfl) ?_
   refine at_q rfl rfl (by decide) (qt_move rfl rfl) ?_
   refine at_q rfl rfl (by decide) (qt_index (j := j) rfl rfl rfl tyl_sl_spec_l13Stop (by omega)) ?_
   refine at_q rfl rfl (by decide) (qt_fieldAddr rfl rfl tyf_spec_l13Stop_0) ?_
   refine at_q rfl rfl (by decide) (qt_loadS rfl rfl tys_impl_Pt rfl (rdRow8P (k := 2) rfl (by omega))) ?_
   refine at_op rfl ?_
   refine op_buildSlice rfl rfl (bsl_sl_impl_Pt_1_0 rfl) rfl (by decide) (fun b12 => ?_)
   refine at_rsE (by simp only [ya,yb,yc,yd,Value.cells,ye]; rfl) ?_
   refine at_op rfl ?_
   refine op_appendR (k := 6) rfl tyl_sl_impl_Pt tyz_impl_Pt (by decide) rfl (by decide) rfl rfl rfl (fun w' hs => src_cel hs (k := 7) rfl rfl) (by simp [Value.oneCell']) (by unfold maxLen; omega) (by omega) (Nat.le_refl _) (fun r4 => ?_)
   refine at_rsE (by simp only [ya,yb,yc,yd,Value.cells,ye]; rfl) ?_
   refine at_q rfl rfl (by decide) (qt_assign rfl rfl) ?_
   refine at_nil ?_
   refine norm_block ?_
   refine norm_then ?_
   refine at_region ?_
   refine at_q rfl rfl (by decide) (qt_move rfl rfl) ?_
   refine at_q rfl rfl (by decide) (qt_add rfl rfl rfl (by omega) (by omega)) ?_
   refine at_q rfl rfl (by decide) (qt_assign rfl rfl) ?_
   refine at_end ?_
   exact at_againc hL3 ((j + 1, r4)) ((show j + 1 ≤ k by omega)) (by simp only; omega) ⟨rfl, vi (by omega), rfl, rfl, trivial⟩ (fun _ h => h.upto ⟨rfl, rfl, rfl, rfl, rfl, rfl, by rw [take_pt (by omega), List.flatMap_append]; rfl, trivial⟩)
  ·try simp only [za,zb,zc,zd,ze,zf,Bool.not_true,Bool.not_false,zg,zh,ne_eq,zi,zj] at c5
   have hje : j = k := (by omega)
   subst hje
   rw [List.take_of_length_le (by omega)]
   refine at_exit ?_
   refine pass_then (fun h => by cases h) ?_
   refine pass_then (fun h => by cases h) ?_
   refine pass_hit ?_
   refine norm_then ?_
   refine at_seq ?_
   refine at_region ?_
   refine at_q rfl rfl (by decide) (qt_move rfl rfl) ?_
   refine at_q rfl rfl (by decide) (qt_assign rfl rfl) ?_
   refine at_end ?_
   refine at_retc ?_
   refine at_ret1 rfl (.tmp rfl) ?_
   intro w' hs
   have hr := hs.all 6 _ rfl
   exact ⟨_, rfl, row_from (by rw [← hk]; exact hr.1) (fun b hb => (hr.2.1 b hb).elim id (fun h => by cases h)), hs.fin⟩
end Go.Proofs.YtakdjgldcpompaaGreat
