/- The way of a segment through hot points: the reference's walk. -/
import Derived.Test.YtakdjgldcpompaaPathS
namespace Go.Proofs.Ytakdjgldcpompaa
open Go Go.RowKit
set_option linter.unusedVariables false
set_option linter.unusedSimpArgs false
set_option maxRecDepth 100000
set_option maxHeartbeats 4000000
set_option linter.unusedVariables false
set_option linter.unusedSimpArgs false

/-! ### Rows of elements of s cells -/
section
variable {α : Type} {f : α → List Value} {s : Nat}
theorem fm_len (hf : ∀ e, (f e).length = s) (l : List α) : (l.flatMap f).length = l.length * s := by
  induction l with
  | nil => simp
  | cons e l ih => rw [List.flatMap_cons, List.length_append, ih, hf, List.length_cons, Nat.succ_mul, Nat.add_comm]
theorem fm_take (hf : ∀ e, (f e).length = s) (l : List α) (k : Nat) (hk : k ≤ l.length) : (l.flatMap f).take (k * s) = (l.take k).flatMap f := by
  conv => lhs; rw [← List.take_append_drop k l]
  rw [List.flatMap_append, List.take_append_of_le_length (by rw [fm_len hf, List.length_take, Nat.min_eq_left hk]; exact Nat.le_refl _), List.take_of_length_le (by rw [fm_len hf, List.length_take, Nat.min_eq_left hk]; exact Nat.le_refl _)]
theorem fm_drop (hf : ∀ e, (f e).length = s) (l : List α) (k : Nat) (hk : k ≤ l.length) : (l.flatMap f).drop (k * s) = (l.drop k).flatMap f := by
  conv => lhs; rw [← List.take_append_drop k l]
  have hl : ((l.take k).flatMap f).length = k * s := by rw [fm_len hf, List.length_take, Nat.min_eq_left hk]
  rw [List.flatMap_append, ← hl, List.drop_left]
theorem fm_at (hf : ∀ e, (f e).length = s) {l : List α} {i : Nat} {e : α} (h : l[i]? = some e) {j : Nat} {v : Value} (hv : (f e)[j]? = some v) : (l.flatMap f)[i * s + j]? = some v := by
  obtain ⟨hi, rfl⟩ := List.getElem?_eq_some_iff.1 h
  have hj := (List.getElem?_eq_some_iff.1 hv).1
  have e1 : l = l.take i ++ (l[i] :: l.drop (i + 1)) := by rw [← List.drop_eq_getElem_cons hi, List.take_append_drop]
  have hl : ((l.take i).flatMap f).length = i * s := by rw [fm_len hf, List.length_take, Nat.min_eq_left (by omega)]
  have e2 : l.flatMap f = (l.take i).flatMap f ++ (f l[i] ++ (l.drop (i + 1)).flatMap f) := by
    conv => lhs; rw [e1]
    rw [List.flatMap_append, List.flatMap_cons]
  rw [e2, List.getElem?_append_right (by rw [hl]; omega), hl, Nat.add_sub_cancel_left, List.getElem?_append_left hj]
  exact hv
end
theorem srcRowHs {w : World} {B U s m k : Nat} {A : Option Addr} {c : Nat} {xs : List Value} (h : w.ownsRow B U s (.slice A m c) m xs) (hk : k ≤ m) : Src s (sliced A 0 k c s) k (xs.take (k * s)) w := by
  have hlen := h.1
  refine ⟨by rw [List.length_take, hlen, Nat.min_eq_left (Nat.mul_le_mul_right _ hk)], ?_⟩
  rcases h.2 with ⟨e, e2⟩ | ⟨g, cap, cur, e, hb, hg, hcap, _⟩
  · injection e with e1 e3 e4
    subst e1 e2 e4
    obtain rfl : k = 0 := by omega
    exact .inl ⟨rfl, rfl⟩
  · injection e with e1 e3 e4
    subst e1 e4
    rw [slicedH]
    refine .inr ⟨_, _, rfl, fun j u hu => h.cells rfl j u ?_⟩
    rw [List.getElem?_take] at hu
    split at hu
    · exact hu
    · cases hu
theorem srcRowLs {w : World} {B U s m k : Nat} {A : Option Addr} {c : Nat} {xs : List Value} (h : w.ownsRow B U s (.slice A m c) m xs) (hk : k ≤ m) : Src s (sliced A k m c s) (m - k) (xs.drop (k * s)) w := by
  have hlen := h.1
  refine ⟨by rw [List.length_drop, hlen, Nat.mul_sub_right_distrib], ?_⟩
  rcases h.2 with ⟨e, e2⟩ | ⟨g, cap, cur, e, hb, hg, hcap, _⟩
  · injection e with e1 e3 e4
    subst e1 e2 e4
    obtain rfl : k = 0 := by omega
    exact .inl ⟨rfl, rfl⟩
  · injection e with e1 e3 e4
    subst e1 e4
    rw [slicedL hcap hk]
    refine .inr ⟨_, _, rfl, fun j u hu => ?_⟩
    rw [List.getElem?_drop] at hu
    have := h.cells rfl _ u hu
    rw [add_none] at this ⊢
    rw [← this]
    congr 2
    unfold offL
    have hj := (List.getElem?_eq_some_iff.1 hu).1
    have hks : k * s + j < m * s := by omega
    have hkc : ¬ c = k := fun e => by
      subst e
      have : m = c := by omega
      subst this
      omega
    rw [if_neg hkc]
    omega

/-! ### Stops compared -/
def soonB (s x : Sp) : Bool := decide (s.ln * x.ld - x.ln * s.ld < 0) || (decide (s.ln * x.ld - x.ln * s.ld = 0) && s.lc && !x.lc)
theorem soon_wy (a b p q : Pn) : ltC cmpWy (wyOf a b p) (wyOf a b q) = soonB (pathSp a b p) (pathSp a b q) := by
  rw [Bool.eq_iff_iff, ltC, decide_eq_true_eq, cmpWy_neg]
  unfold ltWy soonB wyOf
  simp only [Bool.or_eq_true, Bool.and_eq_true, decide_eq_true_eq, Bool.not_eq_true']
  constructor
  · rintro (h | ⟨h1, h2, h3⟩)
    · exact .inl (by omega)
    · exact .inr ⟨⟨by omega, h2⟩, h3⟩
  · rintro (h | ⟨⟨h1, h2⟩, h3⟩)
    · exact .inl (by omega)
    · exact .inr ⟨by omega, h2, h3⟩
def soonP (a b p q : Pn) : Bool := soonB (pathSp a b p) (pathSp a b q)
theorem soonP_weak (a b : Pn) : Weak (soonP a b) := by
  have := wy_weak.by (wyOf a b)
  have e : (fun x y => ltC cmpWy (wyOf a b x) (wyOf a b y)) = soonP a b := by funext p q; exact soon_wy a b p q
  rwa [e] at this
def stopL (a b : Pn) (l : List Pn) : List Pn := srt (soonP a b) (l.filter (onWay a b))
theorem pathP_eq (a b : Pn) (hot : List Pn) : pathP a b hot = stopL a b hot := by
  unfold pathP stopL wayL
  rw [srt_map (lt := soonP a b) (fun p _ q _ => soon_wy a b p q), List.map_map]
  exact List.map_id' _
theorem stop_no {a b : Pn} {ys : List Pn} {k : Nat} (hk : k < ys.length) (h : onWay a b (pt ys k) = false) : stopL a b (ys.take (k + 1)) = stopL a b (ys.take k) := by
  unfold stopL
  rw [take_pt hk, List.filter_append]
  simp [h]
theorem stop_yes {a b : Pn} {ys : List Pn} {k : Nat} (hk : k < ys.length) (h : onWay a b (pt ys k) = true) : stopL a b (ys.take (k + 1)) = insS (soonP a b) (pt ys k) (stopL a b (ys.take k)) := by
  unfold stopL
  rw [take_pt hk, List.filter_append, show [pt ys k].filter (onWay a b) = [pt ys k] by simp [h], srt_snoc]
theorem stop_len (a b : Pn) (l : List Pn) : (stopL a b l).length ≤ l.length := by
  unfold stopL
  rw [srt_len]
  exact List.length_filter_le _ _
theorem stop_mem {a b : Pn} {l : List Pn} {p : Pn} (h : p ∈ stopL a b l) : p ∈ l := by
  unfold stopL at h
  rw [srt_mem] at h
  exact (List.mem_filter.1 h).1
def stC (a b p : Pn) : List Value := [.int .i64 p.1, .int .i64 p.2, .int .i64 (pathSp a b p).ln, .int .i64 (pathSp a b p).ld, .int .i64 (pathSp a b p).hn, .int .i64 (pathSp a b p).hd, .bool (pathSp a b p).lc, .bool (pathSp a b p).hc]
theorem stC_len (a b p : Pn) : (stC a b p).length = 8 := rfl
theorem stC_one (a b : Pn) (l : List Pn) : ∀ u ∈ l.flatMap (stC a b), u.oneCell' = true := fun u hu => by
  obtain ⟨p, _, hu⟩ := List.mem_flatMap.1 hu
  simp only [stC, List.mem_cons, List.not_mem_nil, or_false] at hu
  rcases hu with rfl | rfl | rfl | rfl | rfl | rfl | rfl | rfl <;> rfl
theorem l13Sooner_any (b1 o1 b2 o2 : Nat) (s x : Sp) (w : World) (h1 : ∀ q v, (spC s)[q]? = some v → w.cell? ⟨b1, o1 + q, none⟩ = some v) (hb1 : b1 < w.heap.size) (h2 : ∀ q v, (spC x)[q]? = some v → w.cell? ⟨b2, o2 + q, none⟩ = some v) (hb2 : b2 < w.heap.size) (hs : bdP s) (hx : bdP x) :
    Calls Try.prog 49 #[.pointer (some ⟨b1, o1, none⟩), .pointer (some ⟨b2, o2, none⟩)] w fun e w' => e = .returned (.bool (soonB s x)) ∧ Over w w' := by
  obtain ⟨m1, m2⟩ := bd_mul hs.low hx.low
  refine walk_from (m := 44) (Try.func49) rfl rfl (Nat.le_of_ble_eq_true rfl) ?_
  refine at_seq ?_
  refine at_region ?_
  refine at_q rfl rfl (by decide) (qt_assign rfl rfl) ?_
  refine at_end ?_
  refine at_seq ?_
  refine dg_start mixed rfl ?_
  refine dg_phase 20 ?_
  refine dg_q (i := 0) rfl (by kernel_rfl) (by kernel_rfl) (by kernel_rfl) [] (by kernel_rfl) (fun _ _ _ h => h) rfl rfl (by decide) (fun _ h => h.upto trivial) (qt_move rfl rfl) ?_
  refine dg_q (i := 1) rfl (by kernel_rfl) (by kernel_rfl) (by kernel_rfl) [] (by kernel_rfl) (fun _ _ _ h => h) rfl rfl (by decide) (fun _ h => h.upto trivial) (qt_nilCheck rfl rfl) ?_
  refine dg_q (i := 2) rfl (by kernel_rfl) (by kernel_rfl) (by kernel_rfl) [] (by kernel_rfl) (fun _ _ _ h => h) rfl rfl (by decide) (fun _ h => h.upto trivial) (qt_fieldAddr rfl rfl tyf_spec_l13Span_0) ?_
  refine dg_q (i := 3) rfl (by kernel_rfl) (by kernel_rfl) (by kernel_rfl) [] (by kernel_rfl) (fun _ _ _ h => h) rfl rfl (by decide) (fun _ h => h.upto trivial) (qt_load1 rfl rfl ty1_int64 (by first | exact rdOld (h1 0 _ rfl) hb1 | exact rdOld (h1 1 _ rfl) hb1 | exact rdOld (h1 4 _ rfl) hb1 | exact rdOld (h2 0 _ rfl) hb2 | exact rdOld (h2 1 _ rfl) hb2 | exact rdOld (h2 4 _ rfl) hb2)) ?_
  refine dg_q (i := 4) rfl (by kernel_rfl) (by kernel_rfl) (by kernel_rfl) [] (by kernel_rfl) (fun _ _ _ h => h) rfl rfl (by decide) (fun _ h => h.upto trivial) (qt_move rfl rfl) ?_
  refine dg_q (i := 5) rfl (by kernel_rfl) (by kernel_rfl) (by kernel_rfl) [] (by kernel_rfl) (fun _ _ _ h => h) rfl rfl (by decide) (fun _ h => h.upto trivial) (qt_nilCheck rfl rfl) ?_
  refine dg_q (i := 6) rfl (by kernel_rfl) (by kernel_rfl) (by kernel_rfl) [] (by kernel_rfl) (fun _ _ _ h => h) rfl rfl (by decide) (fun _ h => h.upto trivial) (qt_fieldAddr rfl rfl tyf_spec_l13Span_1) ?_
  refine dg_q (i := 7) rfl (by kernel_rfl) (by kernel_rfl) (by kernel_rfl) [] (by kernel_rfl) (fun _ _ _ h => h) rfl rfl (by decide) (fun _ h => h.upto trivial) (qt_load1 rfl rfl ty1_int64 (by first | exact rdOld (h1 0 _ rfl) hb1 | exact rdOld (h1 1 _ rfl) hb1 | exact rdOld (h1 4 _ rfl) hb1 | exact rdOld (h2 0 _ rfl) hb2 | exact rdOld (h2 1 _ rfl) hb2 | exact rdOld (h2 4 _ rfl) hb2)) ?_
  refine dg_q (i := 8) rfl (by kernel_rfl) (by kernel_rfl) (by kernel_rfl) [] (by kernel_rfl) (fun _ _ _ h => h) rfl rfl (by decide) (fun _ h => h.upto trivial) (qt_mul rfl rfl rfl (by omega) (by omega)) ?_
  refine dg_q (i := 9) rfl (by kernel_rfl) (by kernel_rfl) (by kernel_rfl) [] (by kernel_rfl) (fun _ _ _ h => h) rfl rfl (by decide) (fun _ h => h.upto trivial) (qt_move rfl rfl) ?_
  refine dg_q (i := 10) rfl (by kernel_rfl) (by kernel_rfl) (by kernel_rfl) [] (by kernel_rfl) (fun _ _ _ h => h) rfl rfl (by decide) (fun _ h => h.upto trivial) (qt_nilCheck rfl rfl) ?_
  refine dg_q (i := 11) rfl (by kernel_rfl) (by kernel_rfl) (by kernel_rfl) [] (by kernel_rfl) (fun _ _ _ h => h) rfl rfl (by decide) (fun _ h => h.upto trivial) (qt_fieldAddr rfl rfl tyf_spec_l13Span_0) ?_
  refine dg_q (i := 12) rfl (by kernel_rfl) (by kernel_rfl) (by kernel_rfl) [] (by kernel_rfl) (fun _ _ _ h => h) rfl rfl (by decide) (fun _ h => h.upto trivial) (qt_load1 rfl rfl ty1_int64 (by first | exact rdOld (h1 0 _ rfl) hb1 | exact rdOld (h1 1 _ rfl) hb1 | exact rdOld (h1 4 _ rfl) hb1 | exact rdOld (h2 0 _ rfl) hb2 | exact rdOld (h2 1 _ rfl) hb2 | exact rdOld (h2 4 _ rfl) hb2)) ?_
  refine dg_q (i := 13) rfl (by kernel_rfl) (by kernel_rfl) (by kernel_rfl) [] (by kernel_rfl) (fun _ _ _ h => h) rfl rfl (by decide) (fun _ h => h.upto trivial) (qt_move rfl rfl) ?_
  refine dg_q (i := 14) rfl (by kernel_rfl) (by kernel_rfl) (by kernel_rfl) [] (by kernel_rfl) (fun _ _ _ h => h) rfl rfl (by decide) (fun _ h => h.upto trivial) (qt_nilCheck rfl rfl) ?_
  refine dg_q (i := 15) rfl (by kernel_rfl) (by kernel_rfl) (by kernel_rfl) [] (by kernel_rfl) (fun _ _ _ h => h) rfl rfl (by decide) (fun _ h => h.upto trivial) (qt_fieldAddr rfl rfl tyf_spec_l13Span_1) ?_
  refine dg_q (i := 16) rfl (by kernel_rfl) (by kernel_rfl) (by kernel_rfl) [] (by kernel_rfl) (fun _ _ _ h => h) rfl rfl (by decide) (fun _ h => h.upto trivial) (qt_load1 rfl rfl ty1_int64 (by first | exact rdOld (h1 0 _ rfl) hb1 | exact rdOld (h1 1 _ rfl) hb1 | exact rdOld (h1 4 _ rfl) hb1 | exact rdOld (h2 0 _ rfl) hb2 | exact rdOld (h2 1 _ rfl) hb2 | exact rdOld (h2 4 _ rfl) hb2)) ?_
  refine dg_q (i := 17) rfl (by kernel_rfl) (by kernel_rfl) (by kernel_rfl) [] (by kernel_rfl) (fun _ _ _ h => h) rfl rfl (by decide) (fun _ h => h.upto trivial) (qt_mul rfl rfl rfl (by omega) (by omega)) ?_
  refine dg_q (i := 18) rfl (by kernel_rfl) (by kernel_rfl) (by kernel_rfl) [] (by kernel_rfl) (fun _ _ _ h => h) rfl rfl (by decide) (fun _ h => h.upto trivial) (qt_sub rfl rfl rfl (by omega) (by omega)) ?_
  refine dg_q (i := 19) rfl (by kernel_rfl) (by kernel_rfl) (by kernel_rfl) [] (by kernel_rfl) (fun _ _ _ h => h) rfl rfl (by decide) (fun _ h => h.upto trivial) (qt_assign rfl rfl) ?_
  refine dg_done (by kernel_rfl) ?_
  refine norm_then ?_
  refine at_seq ?_
  refine at_region ?_
  refine at_q rfl rfl (by decide) (qt_move rfl rfl) ?_
  refine at_q rfl rfl (by decide) (qt_lss rfl rfl rfl) ?_
  refine at_q rfl rfl (by decide) (qt_move rfl rfl) ?_
  refine at_bsplit 27 rfl (fun g1 => ?_) (fun g1 => ?_)
  · try simp only [decide_eq_true_eq, decide_eq_false_iff_not, beq_iff_eq, beq_eq_false_iff_ne, Bool.not_eq_true', Bool.not_eq_false', Bool.not_true, Bool.not_false, Int.not_lt, Int.not_le, ne_eq, Nat.not_lt, Nat.not_le] at g1
    refine at_off rfl rfl rfl rfl (by decide) rfl (by decide) ?_
    refine at_off rfl rfl rfl rfl (by decide) rfl (by decide) ?_
    refine at_off rfl rfl rfl rfl (by decide) rfl (by decide) ?_
    refine at_offu rfl rfl rfl rfl rfl (by decide) ?_
    refine at_offu rfl rfl rfl rfl rfl (by decide) ?_
    refine at_offu rfl rfl rfl rfl rfl (by decide) ?_
    refine at_offu rfl rfl rfl rfl rfl (by decide) ?_
    refine at_off rfl rfl rfl rfl (by decide) rfl (by decide) ?_
    refine at_off rfl rfl rfl rfl (by decide) rfl (by decide) ?_
    refine at_offu rfl rfl rfl rfl rfl (by decide) ?_
    refine at_offu rfl rfl rfl rfl rfl (by decide) ?_
    refine at_offu rfl rfl rfl rfl rfl (by decide) ?_
    refine at_offu rfl rfl rfl rfl rfl (by decide) ?_
    refine at_offu rfl rfl rfl rfl rfl (by decide) ?_
    refine at_off rfl rfl rfl rfl (by decide) rfl (by decide) ?_
    refine at_q rfl rfl (by decide) (qt_pickT rfl rfl rfl) ?_
    refine at_q rfl rfl (by decide) (qt_assign rfl rfl) ?_
    refine at_end ?_
    refine at_retc ?_
    refine at_ret1 rfl (.tmp rfl) ?_
    intro w' hs
    exact ⟨retB (by unfold soonB; simp_all), hs.fin⟩
  · try simp only [decide_eq_true_eq, decide_eq_false_iff_not, beq_iff_eq, beq_eq_false_iff_ne, Bool.not_eq_true', Bool.not_eq_false', Bool.not_true, Bool.not_false, Int.not_lt, Int.not_le, ne_eq, Nat.not_lt, Nat.not_le] at g1
    refine at_on rfl rfl rfl rfl ?_
    refine op_q rfl (by decide) (qt_move rfl rfl) ?_
    refine at_on rfl rfl rfl rfl ?_
    refine op_q rfl (by decide) (qt_eql rfl rfl rfl) ?_
    refine at_on rfl rfl rfl rfl ?_
    refine op_q rfl (by decide) (qt_move rfl rfl) ?_
    refine at_bsplit 30 rfl (fun g2 => ?_) (fun g2 => ?_)
    · try simp only [decide_eq_true_eq, decide_eq_false_iff_not, beq_iff_eq, beq_eq_false_iff_ne, Bool.not_eq_true', Bool.not_eq_false', Bool.not_true, Bool.not_false, Int.not_lt, Int.not_le, ne_eq, Nat.not_lt, Nat.not_le] at g2
      refine at_on rfl rfl rfl rfl ?_
      refine op_q rfl (by decide) (qt_move rfl rfl) ?_
      refine at_on rfl rfl rfl rfl ?_
      refine op_q rfl (by decide) (qt_nilCheck rfl rfl) ?_
      refine at_on rfl rfl rfl rfl ?_
      refine op_q rfl (by decide) (qt_fieldAddr rfl rfl tyf_spec_l13Span_4) ?_
      refine at_on rfl rfl rfl rfl ?_
      refine op_q rfl (by decide) (qt_load1 rfl rfl ty1_bool (by first | exact rdOld (h1 0 _ rfl) hb1 | exact rdOld (h1 1 _ rfl) hb1 | exact rdOld (h1 4 _ rfl) hb1 | exact rdOld (h2 0 _ rfl) hb2 | exact rdOld (h2 1 _ rfl) hb2 | exact rdOld (h2 4 _ rfl) hb2)) ?_
      refine at_on rfl rfl rfl rfl ?_
      refine op_q rfl (by decide) (qt_pickT rfl rfl rfl) ?_
      refine at_on rfl rfl rfl rfl ?_
      refine op_q rfl (by decide) (qt_move rfl rfl) ?_
      refine at_bsplit 36 rfl (fun g3 => ?_) (fun g3 => ?_)
      · try simp only [decide_eq_true_eq, decide_eq_false_iff_not, beq_iff_eq, beq_eq_false_iff_ne, Bool.not_eq_true', Bool.not_eq_false', Bool.not_true, Bool.not_false, Int.not_lt, Int.not_le, ne_eq, Nat.not_lt, Nat.not_le] at g3
        refine at_on rfl rfl rfl rfl ?_
        refine op_q rfl (by decide) (qt_move rfl rfl) ?_
        refine at_on rfl rfl rfl rfl ?_
        refine op_q rfl (by decide) (qt_nilCheck rfl rfl) ?_
        refine at_on rfl rfl rfl rfl ?_
        refine op_q rfl (by decide) (qt_fieldAddr rfl rfl tyf_spec_l13Span_4) ?_
        refine at_on rfl rfl rfl rfl ?_
        refine op_q rfl (by decide) (qt_load1 rfl rfl ty1_bool (by first | exact rdOld (h1 0 _ rfl) hb1 | exact rdOld (h1 1 _ rfl) hb1 | exact rdOld (h1 4 _ rfl) hb1 | exact rdOld (h2 0 _ rfl) hb2 | exact rdOld (h2 1 _ rfl) hb2 | exact rdOld (h2 4 _ rfl) hb2)) ?_
        refine at_on rfl rfl rfl rfl ?_
        refine op_q rfl (by decide) (qt_not rfl rfl) ?_
        refine at_on rfl rfl rfl rfl ?_
        refine op_q rfl (by decide) (qt_pickT rfl rfl rfl) ?_
        refine at_q rfl rfl (by decide) (qt_pickF rfl rfl rfl) ?_
        refine at_q rfl rfl (by decide) (qt_assign rfl rfl) ?_
        refine at_end ?_
        refine at_retc ?_
        refine at_ret1 rfl (.tmp rfl) ?_
        intro w' hs
        exact ⟨retB (by unfold soonB; simp_all), hs.fin⟩
      · try simp only [decide_eq_true_eq, decide_eq_false_iff_not, beq_iff_eq, beq_eq_false_iff_ne, Bool.not_eq_true', Bool.not_eq_false', Bool.not_true, Bool.not_false, Int.not_lt, Int.not_le, ne_eq, Nat.not_lt, Nat.not_le] at g3
        refine at_off rfl rfl rfl rfl (by decide) rfl (by decide) ?_
        refine at_off rfl rfl rfl rfl (by decide) rfl (by decide) ?_
        refine at_off rfl rfl rfl rfl (by decide) rfl (by decide) ?_
        refine at_off rfl rfl rfl rfl (by decide) rfl (by decide) ?_
        refine at_off rfl rfl rfl rfl (by decide) rfl (by decide) ?_
        refine at_on rfl rfl rfl rfl ?_
        refine op_q rfl (by decide) (qt_pickF rfl rfl rfl) ?_
        refine at_q rfl rfl (by decide) (qt_pickF rfl rfl rfl) ?_
        refine at_q rfl rfl (by decide) (qt_assign rfl rfl) ?_
        refine at_end ?_
        refine at_retc ?_
        refine at_ret1 rfl (.tmp rfl) ?_
        intro w' hs
        exact ⟨retB (by unfold soonB; simp_all), hs.fin⟩
    · try simp only [decide_eq_true_eq, decide_eq_false_iff_not, beq_iff_eq, beq_eq_false_iff_ne, Bool.not_eq_true', Bool.not_eq_false', Bool.not_true, Bool.not_false, Int.not_lt, Int.not_le, ne_eq, Nat.not_lt, Nat.not_le] at g2
      refine at_off rfl rfl rfl rfl (by decide) rfl (by decide) ?_
      refine at_off rfl rfl rfl rfl (by decide) rfl (by decide) ?_
      refine at_off rfl rfl rfl rfl (by decide) rfl (by decide) ?_
      refine at_off rfl rfl rfl rfl (by decide) rfl (by decide) ?_
      refine at_on rfl rfl rfl rfl ?_
      refine op_q rfl (by decide) (qt_pickF rfl rfl rfl) ?_
      refine at_on rfl rfl rfl rfl ?_
      refine op_q rfl (by decide) (qt_move rfl rfl) ?_
      refine at_off rfl rfl rfl rfl (by decide) rfl (by decide) ?_
      refine at_off rfl rfl rfl rfl (by decide) rfl (by decide) ?_
      refine at_off rfl rfl rfl rfl (by decide) rfl (by decide) ?_
      refine at_off rfl rfl rfl rfl (by decide) rfl (by decide) ?_
      refine at_off rfl rfl rfl rfl (by decide) rfl (by decide) ?_
      refine at_on rfl rfl rfl rfl ?_
      refine op_q rfl (by decide) (qt_pickF rfl rfl rfl) ?_
      refine at_q rfl rfl (by decide) (qt_pickF rfl rfl rfl) ?_
      refine at_q rfl rfl (by decide) (qt_assign rfl rfl) ?_
      refine at_end ?_
      refine at_retc ?_
      refine at_ret1 rfl (.tmp rfl) ?_
      intro w' hs
      exact ⟨retB (by unfold soonB; simp_all), hs.fin⟩
end Go.Proofs.Ytakdjgldcpompaa
