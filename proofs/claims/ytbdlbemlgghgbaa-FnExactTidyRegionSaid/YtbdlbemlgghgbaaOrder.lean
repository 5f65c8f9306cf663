/- Rings put in order: both sides. -/
import Derived.Test.YtbdlbemlgghgbaaTurn
import Derived.Test.YtbdlbemlgghgbaaSimp3
namespace Go.Proofs.Ytbdlbemlgghgbaa
open Go Go.RowKit
set_option linter.unusedVariables false
set_option linter.unusedSimpArgs false
set_option maxRecDepth 100000
set_option maxHeartbeats 4000000
set_option linter.unusedVariables false
set_option linter.unusedSimpArgs false

/-- Rings made, compared. -/
def lexP (e f : Pc) : Bool := lexL e.xs f.xs
theorem lexP_weak : Weak lexP := lexL_weak.by (fun e : Pc => e.xs)
theorem lexP_xs (l : List Pc) : (srt lexP l).map (·.xs) = srt lexL (l.map (·.xs)) := (srt_map (fun x _ y _ => rfl)).symm
theorem pc_len_map (l : List Pc) : (srt lexP l).length = l.length := srt_len l
/-- The pieces, in another order. -/
theorem many_perm {l l' : List Res} (hp : l.Perm l') {w : World} (h : (Res.many l).P w) : (Res.many l').P w :=
  ⟨fun r hr => h.1 r (hp.mem_iff.2 hr), h.2.perm hp (fun hxy b h1 h2 => hxy b h2 h1)⟩
theorem at_perm {n : Nat} {env : List (Nat × Value)} {w0 : Bs} {Rs : List Res} {K : Act → World → Prop} (k : Nat) {l l' : List Pc} (hk : Rs[k]? = some (pcsR l)) (hp : l.Perm l') (h : At n env w0 (Rs.set k (pcsR l')) K) : At n env w0 Rs K :=
  fun a w hf hs => h a w hf (hs.chg hk (fun hP => many_perm (hp.map Pc.res) hP) (fun b ⟨r, hr, hb⟩ => ⟨r, (hp.map Pc.res).mem_iff.2 hr, hb⟩) rfl)
theorem newRowA {P : Program} {f : FuncId} {args : Array Value} {w1 : World} {T s n : Nat} {xs : List Value} (h : Calls P f args w1 fun e w' => ∃ v, e = .returned (.agg #[v]) ∧ w'.ownsRow w1.heap.size T s v n xs ∧ Over w1 w') :
    Calls P f args w1 fun e w' => ∃ x : Option Addr × Nat, e = .returned (.agg #[.slice x.1 n x.2]) ∧ Over w1 w' ∧ (rowR 0 T s n xs x).P w' ∧ (∀ b, (rowR 0 T s n xs x).F b → w1.heap.size ≤ b) ∧ (rowR 0 T s n xs x).B = 0 ∧ True := by
  refine h.mono ?_
  rintro e w' ⟨v, rfl, hr, hO⟩
  obtain ⟨x, rfl⟩ := row_slice hr
  exact ⟨x, rfl, hO, row_low hr (Nat.zero_le _), fun b hb => (hr.lt b hb).1, rfl, trivial⟩
theorem srcRowH {w : World} {B U m k : Nat} {A : Option Addr} {c : Nat} {xs : List Value} (h : w.ownsRow B U 1 (.slice A m c) m xs) (hk : k ≤ m) : Src 1 (sliced A 0 k c 1) k (xs.take k) w := by
  have hlen := h.1
  refine ⟨by rw [List.length_take]; omega, ?_⟩
  rcases h.2 with ⟨e, e2⟩ | ⟨g, cap, cur, e, hb, hg, hcap, _⟩
  · injection e with e1 e3 e4
    subst e1 e2 e4
    obtain rfl : k = 0 := by omega
    exact .inl ⟨rfl, rfl⟩
  · injection e with e1 e3 e4
    subst e1 e4
    rw [slicedH]
    refine .inr ⟨_, _, rfl, fun j u hu => h.cells rfl j u ?_⟩
    rw [List.getElem?_take] at hu
    split at hu
    · exact hu
    · cases hu
theorem srcRowL {w : World} {B U m k : Nat} {A : Option Addr} {c : Nat} {xs : List Value} (h : w.ownsRow B U 1 (.slice A m c) m xs) (hk : k ≤ m) : Src 1 (sliced A k m c 1) (m - k) (xs.drop k) w := by
  have hlen := h.1
  refine ⟨by rw [List.length_drop]; omega, ?_⟩
  rcases h.2 with ⟨e, e2⟩ | ⟨g, cap, cur, e, hb, hg, hcap, _⟩
  · injection e with e1 e3 e4
    subst e1 e2 e4
    obtain rfl : k = 0 := by omega
    exact .inl ⟨rfl, rfl⟩
  · injection e with e1 e3 e4
    subst e1 e4
    rw [slicedL hcap hk]
    refine .inr ⟨_, _, rfl, fun j u hu => ?_⟩
    rw [List.getElem?_drop] at hu
    have := h.cells rfl _ u hu
    have hj := (List.getElem?_eq_some_iff.1 hu).1
    rw [add_none] at this ⊢
    rw [← this]
    congr 2
    unfold offL
    rw [if_neg (by omega)]
    omega
/-- A piece among those made reads as points. -/
theorem pcsPts {w : World} {l : List Pc} (h : (pcsR l).P w) {e : Pc} (he : e ∈ l) : Pts w e.A e.xs.length e.xs := by
  have h1 := (h.1 e.res (List.mem_map.2 ⟨e, he, rfl⟩)).1
  exact (ptsG h1).pts
/-- What is asked of rings that are put in order. -/
def okRs (rs : List Ring_) : Prop := rs.length ≤ 1048576 ∧ ∀ r ∈ rs, 0 < r.length ∧ r.length ≤ 1048577 ∧ ∀ p ∈ r, bdW p
theorem okRs.at_ {rs : List Ring_} (h : okRs rs) {k : Nat} (hk : k < rs.length) : 0 < (rg rs k).length ∧ (rg rs k).length ≤ 1048577 ∧ ∀ p ∈ rg rs k, bdW p := by
  have := h.2 rs[k] (List.getElem_mem hk)
  rwa [at_r hk] at this
/-- The rings in order. -/
def ordR (rs : List Ring_) : List Ring_ := srt lexL (rs.map turnP)
theorem ordR_len (rs : List Ring_) : (ordR rs).length = rs.length := by rw [ordR, srt_len, List.length_map]
theorem ordR_mem {rs : List Ring_} {r : Ring_} (h : r ∈ ordR rs) : ∃ q ∈ rs, turnP q = r := by
  rw [ordR, srt_mem] at h
  exact List.mem_map.1 h
theorem ordR_small {rs : List Ring_} (h : okRs rs) {j : Nat} (hj : j < (ordR rs).length) : (rg (ordR rs) j).length ≤ 1048577 := by
  obtain ⟨q, hq, e⟩ := ordR_mem (List.getElem_mem hj)
  rw [at_r hj] at e
  rw [← e, turnP_len]
  exact (h.2 q hq).2.1
theorem rg_mapT {rs : List Ring_} {k : Nat} (h : k < rs.length) : rg (rs.map turnP) k = turnP (rg rs k) := by simp [rg, List.getD, h]
/-- The place of e among the sorted pieces l. -/
def lessAt (e : Pc) (l : List Pc) (j : Nat) : Bool := match (srt lexP l)[j - 1]? with
  | some q => lexP e q
  | none => false
theorem lessAt_step {e : Pc} {l : List Pc} {j : Nat} (hj : j ≤ (srt lexP l).length) (hj0 : 0 < j) (hle : lessAt e l j = true) (h : ∀ q ∈ (srt lexP l).drop j, lexP e q = true) : ∀ q ∈ (srt lexP l).drop (j - 1), lexP e q = true := fun q hq => by
  rw [List.drop_eq_getElem_cons (by omega), show j - 1 + 1 = j by omega] at hq
  rcases List.mem_cons.1 hq with rfl | hq
  · unfold lessAt at hle
    rw [List.getElem?_eq_getElem (by omega)] at hle
    exact hle
  · exact h q hq
theorem lessAt_stop {e : Pc} {l : List Pc} {j : Nat} (hj : j ≤ (srt lexP l).length) (h : (decide (0 < j) && lessAt e l j) = false) : j = 0 ∨ ∃ p, (srt lexP l)[j - 1]? = some p ∧ lexP e p = false := by
  by_cases h0 : 0 < j
  · rw [decide_eq_true h0, Bool.true_and] at h
    refine .inr ⟨(srt lexP l)[j - 1]'(by omega), List.getElem?_eq_getElem (by omega), ?_⟩
    unfold lessAt at h
    rw [List.getElem?_eq_getElem (by omega)] at h
    exact h
  · exact .inl (by omega)
theorem rowCell {w : World} {B U s m j g : Nat} {c : Nat} {xs : List Value} {v : Value} (h : w.ownsRow B U s (.slice (some ⟨g, 0, none⟩) m c) m xs) (hv : xs[j]? = some v) : w.cell? ⟨g, 0 + j * 1, none⟩ = some v := by
  have := h.cells rfl j v hv
  rw [add_none] at this
  rw [Nat.mul_one]
  exact this
theorem rowLtP {w : World} {B U s m g : Nat} {c : Nat} {xs : List Value} (h : w.ownsRow B U s (.slice (some ⟨g, 0, none⟩) m c) m xs) : g < w.heap.size := (h.lt g rfl).2
theorem l14Order_any (A : Option Addr) (n c : Nat) (rs : List Ring_) (w : World) (h : Rings w A n rs) (hok : okRs rs) :
    Calls Try.prog 50 #[.slice A n c] w fun e w' => ∃ A' c', e = .returned (regV A' n c') ∧ OwnG w.heap.size w'.heap.size w' A' n (ordR rs) ∧ Over w w' := by
  have hl := h.1
  have hn40 := hok.1
  refine walk_from (m := 48) (Try.func50) rfl rfl (Nat.le_of_ble_eq_true rfl) ?_
  refine at_seq ?_
  refine at_region ?_
  refine at_op rfl ?_
  refine op_alloc rfl tyz_impl_Region rfl (by decide) (fun b1 => ?_)
  refine at_rsE (by simp only [List.nil_append, List.cons_append, List.set_cons_zero, List.set_cons_succ, Value.cells, List.toList_toArray]; rfl) ?_
  refine at_end ?_
  refine at_seq ?_
  refine at_region ?_
  refine at_op rfl ?_
  refine op_buildSlice rfl rfl (bsl_sl_impl_Ring_0) rfl (by decide) (fun b2 => ?_)
  refine at_rowN 1 1 rfl rfl ?_
  refine at_rsE (by simp only [List.nil_append, List.cons_append, List.set_cons_zero, List.set_cons_succ, Value.cells, List.toList_toArray]; rfl) ?_
  refine at_q rfl rfl (by decide) (qt_assign rfl rfl) ?_
  refine at_end ?_
  refine at_many0 ?_
  refine at_rsE (by simp only [List.nil_append, List.cons_append, List.set_cons_zero, List.set_cons_succ, List.eraseIdx_cons_zero, List.eraseIdx_cons_succ, Value.cells, List.toList_toArray]; rfl) ?_
  refine at_seq ?_
  refine at_seq ?_
  refine at_region ?_
  refine at_q rfl rfl (by decide) (qt_assign rfl rfl) ?_
  refine at_end ?_
  refine at_block ?_
  refine at_loopc (X := Nat × (Option Addr × Nat) × List Pc) (fun x => x.1 ≤ n ∧ x.2.2.map (·.xs) = (rs.map turnP).take x.1) (fun x => n - x.1) (fun x => [(3, .slice x.2.1.1 x.1 x.2.1.2), (4, .int .i64 (x.1 : Int))]) (C := [(0, _), (2, _)]) ⟨rfl, rfl, trivial⟩ (fun x => [.cel b1 38 [.slice none 0 0], rowR (Bs.N ⟨w, []⟩) 88 1 x.1 ((srt lexP x.2.2).map Pc.val) x.2.1, pcsR x.2.2]) (0, (some ⟨b2, 0, none⟩, 0), []) (⟨Nat.zero_le _, rfl⟩) ⟨rfl, rfl, rfl, rfl, trivial⟩ (fun _ h => h) ?_
  intro ⟨k, ⟨rA, rc⟩, l⟩ hx L hL1
  refine at_envE (by simp only [List.nil_append, List.cons_append]; rfl) ?_
  refine at_rsE (by first | (dsimp only; done) | (dsimp only; rfl) | rfl) ?_
  have hk : k ≤ n := hx.1
  have hmp : l.map (·.xs) = (rs.map turnP).take k := hx.2
  have hlk : l.length = k := (by have := congrArg List.length hmp; rw [List.length_map, List.length_take, List.length_map] at this; omega)
  have hsl : (srt lexP l).length = k := (srt_len l).trans hlk
  have hmem : ∀ q ∈ l, q.xs.length ≤ 1048577 := (fun q hq => by obtain ⟨r, hr, e⟩ := List.mem_map.1 (List.mem_of_mem_take (hmp ▸ List.mem_map.2 ⟨q, hq, rfl⟩)); rw [← e, turnP_len]; exact (hok.2 r hr).2.1)
  refine at_fact (fun w hs => rowCap (hs.all 1 _ rfl).1) ?_
  intro hcap
  refine at_seq ?_
  refine at_seq ?_
  refine at_region ?_
  refine at_q rfl rfl (by decide) (qt_move rfl rfl) ?_
  refine at_q rfl rfl (by decide) (qt_move rfl rfl) ?_
  refine at_q rfl rfl (by decide) (qt_len rfl rfl tyl_sl_impl_Ring) ?_
  refine at_q rfl rfl (by decide) (qt_lss rfl rfl rfl) ?_
  refine at_end ?_
  refine at_cond rfl (fun c1 => ?_) (fun c1 => ?_)
  · try simp only [decide_eq_true_eq, decide_eq_false_iff_not, beq_iff_eq, beq_eq_false_iff_ne, Bool.not_eq_true', Bool.not_eq_false', Bool.not_true, Bool.not_false, Int.not_lt, Int.not_le, ne_eq, Nat.not_lt, Nat.not_le] at c1
    have hlt : k < n := (by omega)
    obtain ⟨bb, oo, Ak, ck, rfl, hbB, hcell, hpts, hmax⟩ := h.at_ hlt
    obtain ⟨hr0, hr1, hr2⟩ := hok.at_ (show k < rs.length by omega)
    refine at_skip ?_
    refine norm_then ?_
    refine at_seq ?_
    refine at_block ?_
    refine at_seq ?_
    refine at_region ?_
    refine at_q rfl rfl (by decide) (qt_move rfl rfl) ?_
    refine at_q rfl rfl (by decide) (qt_move rfl rfl) ?_
    refine at_q rfl rfl (by decide) (qt_index rfl rfl rfl tyl_sl_impl_Ring (by omega)) ?_
    refine at_op rfl ?_
    refine op_call ok_spec_l14Turned (v := fun x => .agg #[.slice x.1 _ x.2]) (r := fun x => rowR 0 24 2 _ _ x) (H := fun _ => True) rfl rfl rfl (by decide) (fun w1 hs => newRowA (l14Turned_any bb (oo + k * 1) Ak _ ck (rg rs k) w1 (by rw [Nat.mul_one]; exact rdOld hcell hbB w1 hs) (Nat.lt_of_lt_of_le hbB hs.fin.size) (hpts.over hs.fin) hr0 hr1)) ?_
    rintro ⟨tA, tc⟩ -
    refine at_rsE (by simp only [List.nil_append, List.cons_append, List.set_cons_zero, List.set_cons_succ, Value.cells, List.toList_toArray]; rfl) ?_
    refine at_op rfl ?_
    refine op_alloc rfl tyz_impl_Ring rfl (by decide) (fun b3 => ?_)
    refine at_rsE (by simp only [List.nil_append, List.cons_append, List.set_cons_zero, List.set_cons_succ, Value.cells, List.toList_toArray]; rfl) ?_
    refine at_op rfl ?_
    refine op_storeAll' (k := 4) rfl rfl rfl rfl (rfl) (by rfl) tyz_impl_Ring.szx rfl rfl rfl ?_
    refine at_rsE (by simp only [List.nil_append, List.cons_append, List.set_cons_zero, List.set_cons_succ, Value.cells, List.toList_toArray]; rfl) ?_
    refine at_end ?_
    refine at_pc 3 rfl turnP_len (fun clo chi => ?_)
    refine at_rsE (by simp only [List.nil_append, List.cons_append, List.set_cons_zero, List.set_cons_succ, List.eraseIdx_cons_zero, List.eraseIdx_cons_succ, Value.cells, List.toList_toArray]; rfl) ?_
    obtain ⟨e, he⟩ : ∃ e : Pc, e = ⟨turnP (rg rs k), tA, tc, clo, chi⟩ := ⟨_, rfl⟩
    have hexs : e.xs.length = (rg rs k).length := (by rw [he]; exact turnP_len)
    refine at_seq ?_
    refine at_region ?_
    refine at_q rfl rfl (by decide) (qt_move rfl rfl) ?_
    refine at_q rfl rfl (by decide) (qt_len rfl rfl tyl_sl_impl_Ring) ?_
    refine at_q rfl rfl (by decide) (qt_assign rfl rfl) ?_
    refine at_end ?_
    refine at_seq ?_
    refine at_block ?_
    refine at_loopk (X := Nat) (fun j => j ≤ k ∧ ∀ q ∈ (srt lexP l).drop j, lexP e q = true) (fun j => j) (fun j => [(6, .int .i64 (j : Int))]) (C := [(0, _), (2, _), (3, _), (4, _), (9, _), (10, _), (11, _), (12, _), (15, _), (16, _), (17, _), (18, _), (5, _), (19, _), (20, _)]) ⟨rfl, rfl, rfl, rfl, rfl, rfl, rfl, rfl, rfl, rfl, rfl, rfl, rfl, rfl, rfl, trivial⟩ k (⟨Nat.le_refl _, fun q hq => by rw [List.drop_of_length_le (by omega)] at hq; cases hq⟩) ⟨rfl, rfl, rfl, rfl, rfl, rfl, rfl, rfl, rfl, rfl, rfl, rfl, rfl, rfl, rfl, rfl, trivial⟩ ?_
    intro j hj L hL2
    refine at_envE (by simp only [List.nil_append, List.cons_append]; rfl) ?_
    obtain ⟨hjk, hjq⟩ := hj
    refine at_seq ?_
    refine at_cutE [(29, .bool (decide (0 < j) && lessAt e l j))] (C := [(0, _), (2, _), (3, _), (4, _), (9, _), (10, _), (11, _), (12, _), (15, _), (16, _), (17, _), (18, _), (5, _), (19, _), (20, _), (6, _)])  ⟨rfl, rfl, rfl, rfl, rfl, rfl, rfl, rfl, rfl, rfl, rfl, rfl, rfl, rfl, rfl, rfl, trivial⟩ (fun L hC_cut_7 => ?_) ?_
    · refine at_region ?_
      refine at_q rfl rfl (by decide) (qt_move rfl rfl) ?_
      refine at_q rfl rfl (by decide) (qt_gtr rfl rfl rfl) ?_
      refine at_q rfl rfl (by decide) (qt_move rfl rfl) ?_
      refine at_bsplit 23 rfl (fun g1 => ?_) (fun g1 => ?_)
      · try simp only [decide_eq_true_eq, decide_eq_false_iff_not, beq_iff_eq, beq_eq_false_iff_ne, Bool.not_eq_true', Bool.not_eq_false', Bool.not_true, Bool.not_false, Int.not_lt, Int.not_le, ne_eq, Nat.not_lt, Nat.not_le] at g1
        have hj0 : 0 < j := (by omega)
        refine at_fact (fun w hs => rowSome (k := 1) rfl hs (by omega)) ?_
        rintro ⟨eg, rfl⟩
        obtain ⟨q, hq⟩ : ∃ q, (srt lexP l)[j - 1]? = some q := ⟨_, List.getElem?_eq_getElem (by omega)⟩
        have hqm : q ∈ l := (srt_mem l q).1 (List.mem_of_getElem? hq)
        refine at_on rfl rfl rfl rfl ?_
        refine op_q rfl (by decide) (qt_move rfl rfl) ?_
        refine at_on rfl rfl rfl rfl ?_
        refine op_q rfl (by decide) (qt_move rfl rfl) ?_
        refine at_on rfl rfl rfl rfl ?_
        refine op_q rfl (by decide) ((qt_sub rfl rfl rfl (by omega) (by omega)).as (congrArg _ (show ((j : Int) - 1) = ((j - 1 : Nat) : Int) by omega))) ?_
        refine at_on rfl rfl rfl rfl ?_
        refine op_q rfl (by decide) (qt_index (j := j - 1) rfl rfl rfl tyl_sl_impl_Ring (by omega)) ?_
        refine at_on rfl rfl rfl rfl ?_
        refine op_q rfl (by decide) (qt_call ok_spec_l14Less rfl rfl (fun w1 hs => l14Less_any _ 0 eg (0 + (j - 1) * 1) tA q.A _ tc q.xs.length q.c (turnP (rg rs k)) q.xs w1 (cell_of_row w1 _ _ _ _ (0, 0) (hs.cel (k := 4) rfl)) (lt_of_some (hs.cel (k := 4) rfl)) (rowCell (hs.all 1 _ rfl).1 (by rw [List.getElem?_map, hq]; rfl)) (rowLtP (hs.all 1 _ rfl).1) (by have := (ptsG (hs.all 3 _ rfl).1).pts; rw [turnP_len] at this; exact this) (pcsPts (hs.all 2 _ rfl).1 hqm) (by omega) (by have := hmem q hqm; omega))) ?_
        refine at_q rfl rfl (by decide) (qt_pickT rfl rfl rfl) ?_
        refine at_end ?_
        exact at_meet hC_cut_7 ⟨vb (by rw [show decide (0 < j) = true from decide_eq_true hj0, Bool.true_and, lessAt, hq, he]; rfl), rfl, rfl, rfl, rfl, rfl, rfl, rfl, rfl, rfl, rfl, rfl, rfl, rfl, rfl, rfl, rfl, trivial⟩ (fun _ h => h.upto ⟨rfl, rfl, rfl, rfl, rfl, trivial⟩)
      · try simp only [decide_eq_true_eq, decide_eq_false_iff_not, beq_iff_eq, beq_eq_false_iff_ne, Bool.not_eq_true', Bool.not_eq_false', Bool.not_true, Bool.not_false, Int.not_lt, Int.not_le, ne_eq, Nat.not_lt, Nat.not_le] at g1
        refine at_off rfl rfl rfl rfl (by decide) rfl (by decide) ?_
        refine at_off rfl rfl rfl rfl (by decide) rfl (by decide) ?_
        refine at_off rfl rfl rfl rfl (by decide) rfl (by decide) ?_
        refine at_off rfl rfl rfl rfl (by decide) rfl (by decide) ?_
        refine at_off rfl rfl rfl rfl (by decide) rfl (by decide) ?_
        refine at_q rfl rfl (by decide) (qt_pickF rfl rfl rfl) ?_
        refine at_end ?_
        exact at_meet hC_cut_7 ⟨vb (by rw [show decide (0 < j) = false from decide_eq_false (by omega), Bool.false_and]), rfl, rfl, rfl, rfl, rfl, rfl, rfl, rfl, rfl, rfl, rfl, rfl, rfl, rfl, rfl, rfl, trivial⟩ (fun _ h => h.upto ⟨rfl, rfl, rfl, rfl, rfl, trivial⟩)
    · refine at_envE (by simp only [List.nil_append, List.cons_append]; rfl) ?_
      refine at_cond rfl (fun c2 => ?_) (fun c2 => ?_)
      · try simp only [decide_eq_true_eq, decide_eq_false_iff_not, beq_iff_eq, beq_eq_false_iff_ne, Bool.not_eq_true', Bool.not_eq_false', Bool.not_true, Bool.not_false, Int.not_lt, Int.not_le, ne_eq, Nat.not_lt, Nat.not_le] at c2
        simp only [Bool.and_eq_true, decide_eq_true_eq] at c2
        obtain ⟨hj0, hle⟩ := c2
        refine at_skip ?_
        refine norm_then ?_
        refine at_block ?_
        refine at_region ?_
        refine at_q rfl rfl (by decide) (qt_move rfl rfl) ?_
        refine at_q rfl rfl (by decide) (qt_sub rfl rfl rfl (by omega) (by omega)) ?_
        refine at_q rfl rfl (by decide) (qt_assign rfl rfl) ?_
        refine at_nil ?_
        refine norm_block ?_
        refine norm_then ?_
        exact at_againk hL2 (j - 1) (⟨by omega, fun q hq => lessAt_step (by omega) hj0 hle hjq q hq⟩) (by omega) ⟨vi (by omega), rfl, rfl, rfl, rfl, rfl, rfl, rfl, rfl, rfl, rfl, rfl, rfl, rfl, rfl, rfl, trivial⟩ (fun _ h => h.upto ⟨rfl, rfl, rfl, rfl, rfl, trivial⟩)
      · try simp only [decide_eq_true_eq, decide_eq_false_iff_not, beq_iff_eq, beq_eq_false_iff_ne, Bool.not_eq_true', Bool.not_eq_false', Bool.not_true, Bool.not_false, Int.not_lt, Int.not_le, ne_eq, Nat.not_lt, Nat.not_le] at c2
        have hins : insS lexP e (srt lexP l) = (srt lexP l).take j ++ e :: (srt lexP l).drop j := insS_at lexP_weak (srt_srt lexP_weak l) (by omega) hjq (lessAt_stop (by omega) c2)
        refine at_exit ?_
        refine pass_then (fun h => by cases h) ?_
        refine pass_then (fun h => by cases h) ?_
        refine pass_hit ?_
        refine norm_then ?_
        refine at_seq ?_
        refine at_region ?_
        refine at_op rfl ?_
        refine op_buildSlice rfl rfl (bsl_sl_impl_Ring_0) rfl (by decide) (fun b4 => ?_)
        refine at_rowN 5 1 rfl rfl ?_
        refine at_rsE (by simp only [List.nil_append, List.cons_append, List.set_cons_zero, List.set_cons_succ, Value.cells, List.toList_toArray]; rfl) ?_
        refine at_q rfl rfl (by decide) (qt_move rfl rfl) ?_
        refine at_q rfl rfl (by decide) (qt_move rfl rfl) ?_
        refine at_q rfl rfl (by decide) (qt_sliceH rfl rfl rfl tyl_sl_impl_Ring (by omega)) ?_
        refine at_op rfl ?_
        refine op_appendR (k := 5) rfl tyl_sl_impl_Ring tyz_impl_Ring (by decide) rfl (by decide) rfl rfl rfl (fun w' hs => srcRowH (hs.all 1 _ rfl).1 hjk) ((fun u hu => by obtain ⟨q, _, rfl⟩ := List.mem_map.1 (List.mem_of_mem_take hu); rfl)) (by unfold maxLen; omega) (by omega) (Nat.le_refl _) (fun r1 => ?_)
        refine at_rsE (by simp only [List.nil_append, List.cons_append, List.set_cons_zero, List.set_cons_succ, Value.cells, List.toList_toArray]; rfl) ?_
        refine at_q rfl rfl (by decide) (qt_assign rfl rfl) ?_
        refine at_end ?_
        refine at_seq ?_
        refine at_region ?_
        refine at_q rfl rfl (by decide) (qt_move rfl rfl) ?_
        refine at_q rfl rfl (by decide) (qt_loadS rfl rfl tys_impl_Ring rfl (rdAll (k := 4) rfl)) ?_
        refine at_op rfl ?_
        refine op_buildSlice rfl rfl (bsl_sl_impl_Ring_1_0 rfl) rfl (by decide) (fun b5 => ?_)
        refine at_rsE (by simp only [List.nil_append, List.cons_append, List.set_cons_zero, List.set_cons_succ, Value.cells, List.toList_toArray]; rfl) ?_
        refine at_op rfl ?_
        refine op_appendR (k := 5) rfl tyl_sl_impl_Ring tyz_impl_Ring (by decide) rfl (by decide) rfl rfl rfl (fun w' hs => src_cel hs (k := 6) rfl rfl) (by simp [Value.oneCell']) (by unfold maxLen; omega) (by omega) (Nat.le_refl _) (fun r2 => ?_)
        refine at_rsE (by simp only [List.nil_append, List.cons_append, List.set_cons_zero, List.set_cons_succ, Value.cells, List.toList_toArray]; rfl) ?_
        refine at_q rfl rfl (by decide) (qt_assign rfl rfl) ?_
        refine at_end ?_
        refine at_region ?_
        refine at_q rfl rfl (by decide) (qt_move rfl rfl) ?_
        refine at_q rfl rfl (by decide) (qt_move rfl rfl) ?_
        refine at_q rfl rfl (by decide) (qt_move rfl rfl) ?_
        refine at_q rfl rfl (by decide) (qt_sliceL rfl rfl rfl tyl_sl_impl_Ring (by omega)) ?_
        refine at_op rfl ?_
        refine op_appendR (k := 5) rfl tyl_sl_impl_Ring tyz_impl_Ring (by decide) rfl (by decide) rfl rfl rfl (fun w' hs => srcRowL (hs.all 1 _ rfl).1 hjk) ((fun u hu => by obtain ⟨q, _, rfl⟩ := List.mem_map.1 (List.mem_of_mem_drop hu); rfl)) (by unfold maxLen; omega) (by omega) (Nat.le_refl _) (fun r3 => ?_)
        refine at_rsE (by simp only [List.nil_append, List.cons_append, List.set_cons_zero, List.set_cons_succ, Value.cells, List.toList_toArray]; rfl) ?_
        refine at_q rfl rfl (by decide) (qt_assign rfl rfl) ?_
        refine at_nil ?_
        refine at_push 2 3 rfl rfl (by decide) rfl ?_
        refine at_rsE (by simp only [List.nil_append, List.cons_append, List.set_cons_zero, List.set_cons_succ, List.eraseIdx_cons_zero, List.eraseIdx_cons_succ, Value.cells, List.toList_toArray]; rfl) ?_
        refine norm_block ?_
        refine norm_then ?_
        refine at_region ?_
        refine at_q rfl rfl (by decide) (qt_move rfl rfl) ?_
        refine at_q rfl rfl (by decide) (qt_add rfl rfl rfl (by omega) (by omega)) ?_
        refine at_q rfl rfl (by decide) (qt_assign rfl rfl) ?_
        refine at_end ?_
        exact at_againc hL1 ((k + 1, r3, l ++ [e])) (⟨show k + 1 ≤ n by omega, by rw [List.map_append, hmp, take_step (by rw [List.length_map]; omega), rg_mapT (by omega), he]; rfl⟩) (by simp only; omega) ⟨(by rw [show 0 + j + 1 + (k - j) = k + 1 by omega]; rfl), vi (by omega), rfl, rfl, trivial⟩ (fun _ h => (h.picks [0, 4, 2] (by decide)).upto ⟨rfl, by rw [srt_snoc, hins, show 0 + j + 1 + (k - j) = k + 1 by omega, List.map_append, List.map_cons, List.map_take, List.map_drop, he]; simp [Pc.val, turnP_len], by rw [he]; exact (pcsR_push _ _).symm, trivial⟩)
  · try simp only [decide_eq_true_eq, decide_eq_false_iff_not, beq_iff_eq, beq_eq_false_iff_ne, Bool.not_eq_true', Bool.not_eq_false', Bool.not_true, Bool.not_false, Int.not_lt, Int.not_le, ne_eq, Nat.not_lt, Nat.not_le] at c1
    have hkn : k = n := (by omega)
    subst hkn
    refine at_perm 2 rfl (srt_perm (lt := lexP) (l := l)).symm ?_
    refine at_rsE (by simp only [List.nil_append, List.cons_append, List.set_cons_zero, List.set_cons_succ, List.eraseIdx_cons_zero, List.eraseIdx_cons_succ, Value.cells, List.toList_toArray]; rfl) ?_
    refine at_exit ?_
    refine pass_then (fun h => by cases h) ?_
    refine pass_then (fun h => by cases h) ?_
    refine pass_hit ?_
    refine norm_then ?_
    refine at_seq ?_
    refine at_region ?_
    refine at_q rfl rfl (by decide) (qt_move rfl rfl) ?_
    refine at_q rfl rfl (by decide) (qt_build rfl rfl (bld_impl_Region_0 rfl)) ?_
    refine at_op rfl ?_
    refine op_storeAll' (k := 0) rfl rfl rfl rfl (rfl) (by rfl) tyz_impl_Region.szx rfl rfl rfl ?_
    refine at_rsE (by simp only [List.nil_append, List.cons_append, List.set_cons_zero, List.set_cons_succ, Value.cells, List.toList_toArray]; rfl) ?_
    refine at_end ?_
    refine at_retc ?_
    refine at_ret1 rfl (rvCelS (k := 0) rfl tys_impl_Region rfl rfl) ?_
    intro w' hs
    have hrs : (srt lexP l).map (·.xs) = ordR rs := (by rw [lexP_xs, hmp, List.take_of_length_le (by rw [List.length_map]; omega)]; rfl)
    exact ⟨rA, rc, rfl, pcs_row hs (kr := 1) (kp := 2) rfl rfl (by decide) rfl hsl hrs (fun j hj => by have := ordR_small hok hj; omega), hs.fin⟩
/-! ### The comparison as a number, at all values -/
def intOf : Option Value → Int
  | some (.int _ x) => x
  | _ => 0
def keyW (w : World) : Value → List Pn
  | .slice (some p) n _ => (List.range n).map fun k => (intOf (w.cell? ⟨p.block, p.off + k * 2, none⟩), intOf (w.cell? ⟨p.block, p.off + k * 2 + 1, none⟩))
  | _ => []
theorem keyW_pts {w : World} {A : Option Addr} {n c : Nat} {xs : List Pn} (h : Pts w A n xs) : keyW w (.slice A n c) = xs := by
  have hl := h.1
  by_cases h0 : 0 < n
  · obtain ⟨b, o, rfl, _, hc⟩ := h.2 h0
    apply List.ext_getElem
    · simp [keyW, hl]
    · intro k h1 h2
      simp only [keyW, List.getElem_map, List.getElem_range]
      rw [(hc k (by omega)).1, (hc k (by omega)).2, at_p h2]
      rfl
  · obtain rfl : n = 0 := by omega
    obtain rfl : xs = [] := List.eq_nil_of_length_eq_zero hl
    cases A <;> rfl
theorem pts_keep {w w' : World} {A : Option Addr} {n : Nat} {xs : List Pn} {X : List Nat} (h : Pts w A n xs) (ho : Ovx ⟨w, X⟩ w') (hA : 0 < n → ablk A ∉ X) : Pts w' A n xs := ⟨h.1, fun h0 => by
  obtain ⟨b, o, rfl, hb, hc⟩ := h.2 h0
  have e : w'.heap[b]? = w.heap[b]? := ho.block b hb (hA h0)
  refine ⟨b, o, rfl, Nat.lt_of_lt_of_le hb ho.size, fun k hk => ?_⟩
  rw [World.cell?_of_block (a := ⟨b, o + k * 2, none⟩) e, World.cell?_of_block (a := ⟨b, o + k * 2 + 1, none⟩) e]
  exact hc k hk⟩
theorem lexP_val {w : World} {l : List Pc} (hP : (pcsR l).P w) : ∀ x ∈ l, ∀ y ∈ l, ltC (fun u v => lexC (keyW w u) (keyW w v)) x.val y.val = lexP x y := fun x hx y hy => by
  have e : lexC (keyW w x.val) (keyW w y.val) = lexC x.xs y.xs := by rw [Pc.val, Pc.val, keyW_pts (pcsPts hP hx), keyW_pts (pcsPts hP hy)]
  exact decide_eq_decide.2 (by show lexC (keyW w x.val) (keyW w y.val) < 0 ↔ _; rw [e])
/-- A slice of rings put in order. -/
theorem sortRings_row {w : World} {w0 : Bs} {Rs : List Res} (hs : St w0 Rs w) {kr kp B n : Nat} {l : List Pc} {x : Option Addr × Nat} (hr : Rs[kr]? = some (rowR B 88 1 n (l.map Pc.val) x)) (hp : Rs[kp]? = some (pcsR l)) (hne : kr ≠ kp) (hl : l.length = n)
    (hb : ∀ e ∈ l, e.xs.length ≤ 1048577 ∧ ∀ p ∈ e.xs, bdW p) (hn : n ≤ 1099511627776) :
    Calls Try.prog 73 #[.slice x.1 n x.2, .func (.func 74) #[] #[]] w fun e w' => e = .returned (.tuple #[]) ∧ Wrs (rowR B 88 1 n (l.map Pc.val) x).F w w' ∧ (rowR 0 88 1 n ((srt lexP l).map Pc.val) x).P w' := by
  have hrow : w.ownsRow B 88 1 (.slice x.1 n x.2) n (l.map Pc.val) := (hs.all kr _ hr).1
  have hP : (pcsR l).P w := (hs.all kp _ hp).1
  rcases hrow.2 with ⟨e, e2⟩ | ⟨g, cap, cur, e, hbg, hg, hcap, hmax, hsz, htk⟩
  · subst e2
    obtain rfl : l = [] := List.eq_nil_of_length_eq_zero hl
    refine (sort_none x.1 x.2 _ w).mono ?_
    rintro e' w' ⟨rfl, hO⟩
    refine ⟨rfl, Wrs.of hO, ?_⟩
    show w'.ownsRow 0 88 1 (.slice x.1 0 x.2) 0 _
    rw [e]
    exact World.ownsRow_nil _ _ _ _
  · injection e with e1 e3 e4
    have hF : ∀ b, b = g → (rowR B 88 1 n (l.map Pc.val) x).F b := by
      rintro b rfl
      show Value.ownBlock (.slice x.1 n x.2) = some _
      rw [e1]
      rfl
    have hcl : cur.toList.length = cap := by simp [hsz]
    rw [Nat.mul_one] at htk
    have hcur : cur = (l.map Pc.val ++ cur.toList.drop n).toArray := by
      rw [← htk, List.take_append_drop, Array.toArray_toList]
    have hap : ∀ e ∈ l, 0 < e.xs.length → ablk e.A ∉ [g] := fun e he h0 hm => by
      have hm' : ablk e.A = g := by simpa using hm
      have h1 := (hP.1 e.res (List.mem_map.2 ⟨e, he, rfl⟩)).1
      obtain ⟨b, o, T', cs, hA, hlo, hhi, _⟩ := (ptsG h1).2 h0
      refine hs.apart kr kp _ _ hne hr hp g (hF g rfl) ⟨e.res, List.mem_map.2 ⟨e, he, rfl⟩, ?_⟩
      rw [hA] at hm'
      exact ⟨hm' ▸ hlo, hm' ▸ hhi⟩
    have hC : CmpOk w g (· ∈ l.map Pc.val) (fun u v => lexC (keyW w u) (keyW w v)) := by
      refine ⟨fun u hu v hv w' ho => ?_, lexL_weak.by (keyW w), fun u hu => ?_⟩
      · obtain ⟨e, he, rfl⟩ := List.mem_map.1 hu
        obtain ⟨f, hf, rfl⟩ := List.mem_map.1 hv
        have := hb e he
        have := hb f hf
        rw [Pc.val, Pc.val, keyW_pts (pcsPts hP he), keyW_pts (pcsPts hP hf)]
        exact orderRings1_any _ _ _ _ _ _ e.xs f.xs w' (pts_keep (pcsPts hP he) ho (hap e he)) (pts_keep (pcsPts hP hf) ho (hap f hf)) (hb e he).2 (hb f hf).2 (by omega) (by omega)
      · obtain ⟨e, he, rfl⟩ := List.mem_map.1 hu
        rfl
    have := sort_cells g 88 (l.map Pc.val) (cur.toList.drop n) n x.2 _ _ w hC (by rw [← hcur]; exact hg) (by rw [List.length_map, hl]) hn (fun u hu => hu)
    rw [e1]
    refine this.mono ?_
    rintro e' w' ⟨rfl, hw, hh⟩
    refine ⟨rfl, ⟨hw.os, hw.tape, hw.output, hw.size, fun c hc hnc => hw.block c hc (fun ec => hnc (hF c ec))⟩, ?_⟩
    have em : srt (ltC fun u v => lexC (keyW w u) (keyW w v)) (l.map Pc.val) = (srt lexP l).map Pc.val := srt_map (lexP_val hP)
    rw [em] at hh
    have hml : ((srt lexP l).map Pc.val).length = n := by rw [List.length_map, srt_len, hl]
    refine ⟨by rw [hml, Nat.mul_one], .inr ⟨g, x.2, _, by rw [e1], Nat.zero_le _, hh, by rw [e4]; exact hcap, by rw [e4]; exact hmax, ?_, ?_⟩⟩
    · rw [List.size_toArray, List.length_append, hml, List.length_drop, hcl, e4]
      omega
    · rw [Nat.mul_one, List.toList_toArray, List.take_append_of_le_length (by omega), List.take_of_length_le (by omega)]

/-- A slice of rings, with room for each. -/
def RingsC (w : World) (A : Option Addr) (n : Nat) (rs : List Ring_) : Prop :=
  rs.length = n ∧ (0 < n → ∃ b o, A = some ⟨b, o, none⟩ ∧ b < w.heap.size ∧ ∀ k, k < n → ∃ Ak ck, w.cell? ⟨b, o + k, none⟩ = some (.slice Ak (rg rs k).length ck) ∧ Pts w Ak (rg rs k).length (rg rs k) ∧ (rg rs k).length ≤ ck)
theorem RingsC.over {w w' : World} {A : Option Addr} {n : Nat} {rs : List Ring_} (h : RingsC w A n rs) (hb : Over w w') : RingsC w' A n rs := by
  refine ⟨h.1, fun hn => ?_⟩
  obtain ⟨b, o, hA, hlt, hc⟩ := h.2 hn
  refine ⟨b, o, hA, Nat.lt_of_lt_of_le hlt hb.size, fun k hk => ?_⟩
  obtain ⟨Ak, ck, h1, h2, h3⟩ := hc k hk
  exact ⟨Ak, ck, ((ocell hb).1 b _ hlt).trans h1, h2.over hb, h3⟩
theorem RingsC.at_ {w : World} {A : Option Addr} {n k : Nat} {rs : List Ring_} (h : RingsC w A n rs) (hk : k < n) :
    ∃ b o Ak ck, A = some ⟨b, o, none⟩ ∧ b < w.heap.size ∧ w.cell? ⟨b, o + k, none⟩ = some (.slice Ak (rg rs k).length ck) ∧ Pts w Ak (rg rs k).length (rg rs k) ∧ (rg rs k).length ≤ ck := by
  obtain ⟨b, o, hA, hb, hc⟩ := h.2 (by omega)
  obtain ⟨Ak, ck, h1, h2, h3⟩ := hc k hk
  exact ⟨b, o, Ak, ck, hA, hb, h1, h2, h3⟩
theorem pcs_ringsC {w : World} {w0 : Bs} {Rs : List Res} (hs : St w0 Rs w) {kr kp B T n : Nat} {l : List Pc} {x : Option Addr × Nat} (hr : Rs[kr]? = some (rowR B T 1 n (l.map Pc.val) x)) (hp : Rs[kp]? = some (pcsR l)) (hl : l.length = n) (hc : ∀ e ∈ l, e.xs.length ≤ e.c) : RingsC w x.1 n (l.map (·.xs)) := by
  have hrow : w.ownsRow B T 1 (.slice x.1 n x.2) n (l.map Pc.val) := (hs.all kr _ hr).1
  have hP : (pcsR l).P w := (hs.all kp _ hp).1
  refine ⟨by rw [List.length_map, hl], fun h0 => ?_⟩
  obtain ⟨g, hg⟩ := rowSome hr hs h0
  rw [hg] at hrow ⊢
  refine ⟨g, 0, rfl, rowLtP hrow, fun k hk => ?_⟩
  have hkl : k < l.length := by omega
  have hm := List.getElem_mem hkl
  rw [rg_map hkl]
  refine ⟨l[k].A, l[k].c, ?_, pcsPts hP hm, hc _ hm⟩
  have := rowCell hrow (j := k) (v := l[k].val) (by rw [List.getElem?_map, List.getElem?_eq_getElem hkl]; rfl)
  rw [Nat.mul_one] at this
  exact this
theorem orderRings_any (A : Option Addr) (n c : Nat) (rs : List Ring_) (w : World) (h : RingsC w A n rs) (hok : okRs rs) :
    Calls Try.prog 55 #[regV A n c] w fun e w' => ∃ A' c', e = .returned (regV A' n c') ∧ OwnG w.heap.size w'.heap.size w' A' n (ordR rs) ∧ Over w w' := by
  have hl := h.1
  have hn40 := hok.1
  refine walk_from (m := 25) (Try.func55) rfl rfl (Nat.le_of_ble_eq_true rfl) ?_
  refine at_seq ?_
  refine at_region ?_
  refine at_op rfl ?_
  refine op_box rfl rfl (rfl) rfl (by decide) (fun b1 => ?_)
  refine at_rsE (by simp only [List.nil_append, List.cons_append, List.set_cons_zero, List.set_cons_succ, Value.cells, List.toList_toArray]; rfl) ?_
  refine at_op rfl ?_
  refine op_alloc rfl tyz_impl_Region rfl (by decide) (fun b2 => ?_)
  refine at_rsE (by simp only [List.nil_append, List.cons_append, List.set_cons_zero, List.set_cons_succ, Value.cells, List.toList_toArray]; rfl) ?_
  refine at_end ?_
  refine at_seq ?_
  refine at_region ?_
  refine at_op rfl ?_
  refine op_alloc rfl tyz_impl_Region rfl (by decide) (fun b3 => ?_)
  refine at_rsE (by simp only [List.nil_append, List.cons_append, List.set_cons_zero, List.set_cons_succ, Value.cells, List.toList_toArray]; rfl) ?_
  refine at_end ?_
  refine at_row0 (T := 88) (s := 1) ?_
  refine at_rsE (by simp only [List.nil_append, List.cons_append, List.set_cons_zero, List.set_cons_succ, List.eraseIdx_cons_zero, List.eraseIdx_cons_succ, Value.cells, List.toList_toArray]; rfl) ?_
  refine at_many0 ?_
  refine at_rsE (by simp only [List.nil_append, List.cons_append, List.set_cons_zero, List.set_cons_succ, List.eraseIdx_cons_zero, List.eraseIdx_cons_succ, Value.cells, List.toList_toArray]; rfl) ?_
  refine at_seq ?_
  refine at_seq ?_
  refine at_region ?_
  refine at_q rfl rfl (by decide) (qt_fieldAddr rfl rfl tyf_impl_Region_0) ?_
  refine at_q rfl rfl (by decide) (qt_load1 rfl rfl ty1_sl_impl_Ring (rd1 (k := 0) rfl rfl)) ?_
  refine at_q rfl rfl (by decide) (qt_len rfl rfl tyl_sl_impl_Ring) ?_
  refine at_q rfl rfl (by decide) (qt_move rfl rfl) ?_
  refine at_end ?_
  refine at_block ?_
  refine at_loopc (X := Nat × (Option Addr × Nat) × List Pc) (fun x => x.1 ≤ n ∧ x.2.2.map (·.xs) = (rs.map turnP).take x.1) (fun x => n - x.1) (fun x => [(9, .int .i64 (x.1 : Int))]) (C := [(2, _), (3, _), (7, _), (8, _)]) ⟨rfl, rfl, rfl, rfl, trivial⟩ (fun x => [.cel b1 38 [.slice A n c], .cel b2 38 [.slice none 0 0], .cel b3 38 [.slice x.2.1.1 x.1 x.2.1.2], rowR (Bs.N ⟨w, []⟩) 88 1 x.1 (x.2.2.map Pc.val) x.2.1, pcsR x.2.2]) (0, (none, 0), []) (⟨Nat.zero_le _, rfl⟩) ⟨rfl, rfl, rfl, rfl, rfl, trivial⟩ (fun _ h => h) ?_
  intro ⟨k, ⟨rA, rc⟩, l⟩ hx L hL1
  refine at_envE (by simp only [List.nil_append, List.cons_append]; rfl) ?_
  refine at_rsE (by first | (dsimp only; done) | (dsimp only; rfl) | rfl) ?_
  have hk : k ≤ n := hx.1
  have hmp : l.map (·.xs) = (rs.map turnP).take k := hx.2
  have hlk : l.length = k := (by have := congrArg List.length hmp; rw [List.length_map, List.length_take, List.length_map] at this; omega)
  refine at_seq ?_
  refine at_region ?_
  refine at_q rfl rfl (by decide) (qt_lss rfl rfl rfl) ?_
  refine at_end ?_
  refine at_seq ?_
  refine at_cond rfl (fun c1 => ?_) (fun c1 => ?_)
  · try simp only [decide_eq_true_eq, decide_eq_false_iff_not, beq_iff_eq, beq_eq_false_iff_ne, Bool.not_eq_true', Bool.not_eq_false', Bool.not_true, Bool.not_false, Int.not_lt, Int.not_le, ne_eq, Nat.not_lt, Nat.not_le] at c1
    have hlt : k < n := (by omega)
    obtain ⟨bb, oo, Ak, ck, rfl, hbB, hcell, hpts, hck⟩ := h.at_ hlt
    obtain ⟨hr0, hr1, hr2⟩ := hok.at_ (show k < rs.length by omega)
    refine at_skip ?_
    refine norm_then ?_
    refine at_seq ?_
    refine at_block ?_
    refine at_seq ?_
    refine at_region ?_
    refine at_q rfl rfl (by decide) (qt_index rfl rfl rfl tyl_sl_impl_Ring (by omega)) ?_
    refine at_q rfl rfl (by decide) (qt_loadS rfl rfl tys_impl_Ring rfl (rdOld1 hcell hbB)) ?_
    refine at_op rfl ?_
    refine op_alloc rfl tyz_impl_Ring rfl (by decide) (fun b4 => ?_)
    refine at_rsE (by simp only [List.nil_append, List.cons_append, List.set_cons_zero, List.set_cons_succ, Value.cells, List.toList_toArray]; rfl) ?_
    refine at_op rfl ?_
    refine op_storeAll' (k := 5) rfl rfl rfl rfl (rfl) (by rfl) tyz_impl_Ring.szx rfl rfl rfl ?_
    refine at_rsE (by simp only [List.nil_append, List.cons_append, List.set_cons_zero, List.set_cons_succ, Value.cells, List.toList_toArray]; rfl) ?_
    refine at_end ?_
    refine dg_start mixed rfl ?_
    refine dg_phase 5 ?_
    refine dg_q (i := 0) rfl (by kernel_rfl) (by kernel_rfl) (by kernel_rfl) [1] (by kernel_rfl) (fun _ _ _ h => h) rfl rfl (by decide) (fun _ h => h.upto ⟨rfl, rfl, rfl, rfl, rfl, rfl, trivial⟩) (qt_fieldAddr rfl rfl tyf_impl_Region_0) ?_
    refine dg_q (i := 1) rfl (by kernel_rfl) (by kernel_rfl) (by kernel_rfl) [] (by kernel_rfl) (fun _ _ _ h => h) rfl rfl (by decide) (fun _ h => h.upto ⟨rfl, rfl, rfl, rfl, rfl, rfl, trivial⟩) (qt_load1 rfl rfl ty1_sl_impl_Ring (rd1 (k := 2) rfl rfl)) ?_
    refine dg_q (i := 2) rfl (by kernel_rfl) (by kernel_rfl) (by kernel_rfl) [3] (by kernel_rfl) (fun _ _ _ h => h) rfl rfl (by decide) (fun _ h => h.upto ⟨rfl, rfl, rfl, rfl, rfl, rfl, trivial⟩) (qt_loadS rfl rfl tys_impl_Ring rfl (rdAll (k := 5) rfl)) ?_
    refine dg_one (i := 3) rfl (by decide) (by kernel_rfl) rfl ?_
    refine op_call ok_impl_turnRing (v := fun x => .agg #[.slice x.1 _ x.2]) (r := fun x => rowR 0 24 2 _ _ x) (H := fun _ => True) rfl rfl rfl (by decide) (fun w1 hs => newRowA (turnRing_any Ak _ ck (rg rs k) w1 (hpts.over hs.fin) hr0 hck hr2 hr1)) ?_
    rintro ⟨cA, cc⟩ -
    refine at_rsE (by simp only [List.nil_append, List.cons_append, List.set_cons_zero, List.set_cons_succ, Value.cells, List.toList_toArray]; rfl) ?_
    refine dr_more (fun _ h => h.upto ⟨rfl, rfl, rfl, rfl, rfl, rfl, trivial⟩) ?_
    refine dg_one (i := 4) rfl (by decide) (by kernel_rfl) rfl ?_
    refine op_buildSlice rfl rfl (bsl_sl_impl_Ring_1_0 rfl) rfl (by decide) (fun b5 => ?_)
    refine at_rsE (by simp only [List.nil_append, List.cons_append, List.set_cons_zero, List.set_cons_succ, Value.cells, List.toList_toArray]; rfl) ?_
    refine dr_keep (fun _ h => h.upto ⟨rfl, rfl, rfl, rfl, rfl, rfl, rfl, trivial⟩) ?_
    refine dg_bar rfl (by kernel_rfl) rfl ?_
    refine op_appendR (k := 3) rfl tyl_sl_impl_Ring tyz_impl_Ring (by decide) rfl (by decide) rfl rfl rfl (fun w' hs => src_cel hs (k := 7) rfl rfl) (by simp [Value.oneCell']) (by unfold maxLen; omega) (by omega) (Nat.le_refl _) (fun r1 => ?_)
    refine at_rsE (by simp only [List.nil_append, List.cons_append, List.set_cons_zero, List.set_cons_succ, Value.cells, List.toList_toArray]; rfl) ?_
    refine dg_phaseW 8 [2] ?_
    refine dg_q (i := 6) rfl (by kernel_rfl) (by kernel_rfl) (by kernel_rfl) [] (by kernel_rfl) (fun _ _ _ h => h) rfl rfl (by decide) (fun _ h => (h.wk [2]).upto ⟨rfl, rfl, rfl, rfl, rfl, rfl, rfl, rfl, trivial⟩) (qt_fieldAddr rfl rfl tyf_impl_Region_0) ?_
    refine dg_one (i := 7) rfl (by decide) (by kernel_rfl) rfl ?_
    refine op_storeAll' (k := 2) rfl rfl rfl rfl (rfl) (by rfl) tyz_sl_impl_Ring.szx rfl rfl rfl ?_
    refine at_rsE (by simp only [List.nil_append, List.cons_append, List.set_cons_zero, List.set_cons_succ, Value.cells, List.toList_toArray]; rfl) ?_
    refine dr_keep (fun _ h => (h.wk [2]).upto ⟨rfl, rfl, rfl, rfl, rfl, rfl, rfl, rfl, trivial⟩) ?_
    refine dg_done (by kernel_rfl) ?_
    refine at_pc 6 rfl turnP_len (fun clo chi => ?_)
    refine at_rsE (by simp only [List.nil_append, List.cons_append, List.set_cons_zero, List.set_cons_succ, List.eraseIdx_cons_zero, List.eraseIdx_cons_succ, Value.cells, List.toList_toArray]; rfl) ?_
    refine at_push 4 6 rfl rfl (by decide) rfl ?_
    refine at_rsE (by simp only [List.nil_append, List.cons_append, List.set_cons_zero, List.set_cons_succ, List.eraseIdx_cons_zero, List.eraseIdx_cons_succ, Value.cells, List.toList_toArray]; rfl) ?_
    refine norm_block ?_
    refine norm_then ?_
    refine at_region ?_
    refine at_q rfl rfl (by decide) (qt_add rfl rfl rfl (by omega) (by omega)) ?_
    refine at_q rfl rfl (by decide) (qt_move rfl rfl) ?_
    refine at_end ?_
    exact at_againc hL1 ((k + 1, r1, l ++ [⟨turnP (rg rs k), cA, cc, clo, chi⟩])) (⟨show k + 1 ≤ n by omega, by rw [List.map_append, hmp, take_step (by rw [List.length_map]; omega), rg_mapT (by omega)]; rfl⟩) (by simp only; omega) ⟨vi (by omega), rfl, rfl, rfl, rfl, trivial⟩ (fun _ h => h.upto ⟨rfl, rfl, rfl, by rw [List.map_append]; simp [Pc.val, turnP_len], (pcsR_push _ _).symm, trivial⟩)
  · try simp only [decide_eq_true_eq, decide_eq_false_iff_not, beq_iff_eq, beq_eq_false_iff_ne, Bool.not_eq_true', Bool.not_eq_false', Bool.not_true, Bool.not_false, Int.not_lt, Int.not_le, ne_eq, Nat.not_lt, Nat.not_le] at c1
    have hkn : k = n := (by omega)
    subst hkn
    have hall : l.map (·.xs) = rs.map turnP := (by rw [hmp, List.take_of_length_le (by rw [List.length_map]; omega)])
    have hbd : ∀ e ∈ l, e.xs.length ≤ 1048577 ∧ ∀ p ∈ e.xs, bdW p := (fun e he => by obtain ⟨r, hr, e2⟩ := List.mem_map.1 (hall ▸ List.mem_map.2 ⟨e, he, rfl⟩ : e.xs ∈ rs.map turnP); rw [← e2]; exact ⟨by rw [turnP_len]; exact (hok.2 r hr).2.1, fun p hp => (hok.2 r hr).2.2 p (turnP_mem.1 hp)⟩)
    refine at_exit ?_
    refine pass_then (fun h => by cases h) ?_
    refine pass_then (fun h => by cases h) ?_
    refine pass_hit ?_
    refine norm_then ?_
    refine at_seq ?_
    refine at_region ?_
    refine at_q rfl rfl (by decide) (qt_fieldAddr rfl rfl tyf_impl_Region_0) ?_
    refine at_q rfl rfl (by decide) (qt_load1 rfl rfl ty1_sl_impl_Ring (rd1 (k := 2) rfl rfl)) ?_
    refine at_op rfl ?_
    refine op_callw (k := 3) (r' := rowR 0 88 1 k ((srt lexP l).map Pc.val) (rA, rc)) ok_slices_SortStableFunc_sl_impl_Ring_impl_Ring rfl rfl rfl (by decide) rfl (fun w1 hs => sortRings_row hs (kr := 3) (kp := 4) rfl rfl (by decide) hlk hbd (by omega)) (fun _ h => h) rfl ?_
    refine at_rsE (by simp only [List.nil_append, List.cons_append, List.set_cons_zero, List.set_cons_succ, Value.cells, List.toList_toArray]; rfl) ?_
    refine at_end ?_
    refine at_perm 4 rfl (srt_perm (lt := lexP) (l := l)).symm ?_
    refine at_rsE (by simp only [List.nil_append, List.cons_append, List.set_cons_zero, List.set_cons_succ, List.eraseIdx_cons_zero, List.eraseIdx_cons_succ, Value.cells, List.toList_toArray]; rfl) ?_
    refine at_seq ?_
    refine at_region ?_
    refine at_q rfl rfl (by decide) (qt_loadS rfl rfl tys_impl_Region rfl (rdAll (k := 2) rfl)) ?_
    refine at_op rfl ?_
    refine op_storeAll' (k := 1) rfl rfl rfl rfl (rfl) (by rfl) tyz_impl_Region.szx rfl rfl rfl ?_
    refine at_rsE (by simp only [List.nil_append, List.cons_append, List.set_cons_zero, List.set_cons_succ, Value.cells, List.toList_toArray]; rfl) ?_
    refine at_end ?_
    refine at_retc ?_
    refine at_ret1 rfl (rvCelS (k := 1) rfl tys_impl_Region rfl rfl) ?_
    intro w' hs
    have hrs : (srt lexP l).map (·.xs) = ordR rs := (by rw [lexP_xs, hall]; rfl)
    exact ⟨rA, rc, rfl, pcs_row hs (kr := 3) (kp := 4) rfl rfl (by decide) rfl ((srt_len l).trans hlk) hrs (fun j hj => by have := ordR_small hok hj; omega), hs.fin⟩
end Go.Proofs.Ytbdlbemlgghgbaa
