/- Rings of two regions: both sides of JoinRegions. -/
import Derived.Test.YtcplmmoeglembaaLawKit
import Derived.Test.YtcplmmoeglembaaRev
namespace Go.Proofs.Ytcplmmoeglembaa
open Go Go.RowKit
set_option linter.unusedVariables false
set_option linter.unusedSimpArgs false
set_option maxRecDepth 100000
set_option maxHeartbeats 4000000
set_option linter.unusedVariables false

/-- A region, if it is not too large. -/
def fitR (rs : List Ring_) : List Ring_ := if regionB rs = true then rs else []
def fitC (rs : List Ring_) : Int := if regionB rs = true then 0 else 5
theorem fitR_small (rs : List Ring_) : smallR (fitR rs) := by
  unfold fitR
  split
  · exact smallR.of (by assumption)
  · exact smallR.nil
theorem rdC {w : World} {Rs : List Res} {b o k : Nat} {v : Value} (hc : w.cell? ⟨b, o + k, none⟩ = some v) (hb : b < w.heap.size) (w' : World) (hs : St ⟨w, []⟩ Rs w') : w'.cell? ⟨b, o + k * 1, none⟩ = some v := by rw [Nat.mul_one]; exact rdOld hc hb w' hs
theorem rg_app1 {rs ss : List Ring_} {j : Nat} (h : j < rs.length) : rg (rs ++ ss) j = rg rs j := by simp [rg, List.getD, List.getElem?_append_left h]
theorem rg_app2 {rs ss : List Ring_} {j : Nat} (h : rs.length ≤ j) : rg (rs ++ ss) j = rg ss (j - rs.length) := by simp [rg, List.getD, List.getElem?_append_right h]
theorem join_lens {rs ss : List Ring_} (hr : regionB rs = true) (hr2 : regionB ss = true) (j : Nat) (hj : j < (rs ++ ss).length) : 0 < (rg (rs ++ ss) j).length ∧ (rg (rs ++ ss) j).length ≤ 400 := by
  rw [List.length_append] at hj
  by_cases h : j < rs.length
  · rw [rg_app1 h]; exact pos_of_ring (regRing hr h)
  · rw [rg_app2 (by omega)]; exact pos_of_ring (regRing hr2 (by omega))
/-! ### A region made, as a row and its rings -/
theorem many2 {w : World} {r s : Res} (h1 : r.P w) (h2 : s.P w) (b1 : r.B = 0) (b2 : s.B = 0) (hap : ∀ b, r.F b → ¬ s.F b) : (Res.many [r, s]).P w :=
  ⟨fun q hq => by simp only [List.mem_cons, List.not_mem_nil, or_false] at hq; rcases hq with rfl | rfl <;> exact ⟨by assumption, by assumption⟩, by simpa using hap⟩
section
variable {n : Nat} {env : List (Nat × Value)} {w0 : Bs} {Rs : List Res} {K : Act → World → Prop}
/-- Two pieces that came as one. -/
theorem at_two (k : Nat) {r s : Res} (hk : Rs[k]? = some (.many [r, s])) (h : At n env w0 (Rs.set k r ++ [s]) K) : At n env w0 Rs K := fun a w hf hs => by
  refine h a w hf ?_
  have hm := hs.all k _ hk
  have hr := hm.1.1 r (by simp)
  have hss := hm.1.1 s (by simp)
  have hap : ∀ b, r.F b → ¬ s.F b := by have := hm.1.2; simpa using this
  have h1 : St w0 (Rs.set k r) w := hs.chg hk (fun _ => hr.1) (fun b hb => ⟨r, by simp, hb⟩) hr.2
  refine h1.add' hss.1 (fun b hb => hm.2.1 b ⟨s, by simp, hb⟩) (fun i q hq b hb hqb => ?_) hss.2
  rw [List.getElem?_set] at hq
  by_cases hik : k = i
  · subst hik
    rw [if_pos rfl] at hq
    split at hq
    · injection hq with hq; subst hq; exact hap b hqb hb
    · cases hq
  · rw [if_neg hik] at hq
    exact hs.apart k i _ q hik hk hq b ⟨s, by simp, hb⟩ hqb
/-- Pieces beside pieces. -/
theorem at_flat (k : Nat) {l m : List Res} (hk : Rs[k]? = some (.many (l ++ [.many m]))) (h : At n env w0 (Rs.set k (.many (l ++ m))) K) : At n env w0 Rs K := fun a w hf hs => by
  refine h a w hf (hs.chg hk (fun hP => ?_) (fun b hb => ?_) rfl)
  · have hl := List.pairwise_append.1 hP.2
    have hmm := (hP.1 (.many m) (by simp)).1
    refine ⟨fun r hr => ?_, ?_⟩
    · rcases List.mem_append.1 hr with h1 | h1
      · exact hP.1 r (by simp [h1])
      · exact hmm.1 r h1
    · rw [List.pairwise_append]
      exact ⟨hl.1, hmm.2, fun a ha b hb c hc hcb => hl.2.2 a ha _ (List.mem_singleton.2 rfl) c hc ⟨b, hb, hcb⟩⟩
  · obtain ⟨r, hr, hb⟩ := hb
    rcases List.mem_append.1 hr with h1 | h1
    · exact ⟨r, by simp [h1], hb⟩
    · exact ⟨.many m, by simp, r, h1, hb⟩
end
abbrev rpR (T n : Nat) (x : (Option Addr × Nat) × List Pc) : Res := .many [rowR 0 T 1 n (x.2.map Pc.val) x.1, pcsR x.2]
theorem rp_new {w w' : World} {Rs : List Res} (hs : St ⟨w, []⟩ Rs w') {kr kp B T n : Nat} {l : List Pc} {x : Option Addr × Nat} (hr : Rs[kr]? = some (rowR B T 1 n (l.map Pc.val) x)) (hp : Rs[kp]? = some (pcsR l)) (hne : kr ≠ kp) :
    (rpR T n (x, l)).P w' ∧ (∀ b, (rpR T n (x, l)).F b → w.heap.size ≤ b) := by
  have h1 := hs.all kr _ hr
  have h2 := hs.all kp _ hp
  refine ⟨many2 (row_low (h1.1 : w'.ownsRow B T 1 (.slice x.1 n x.2) n (l.map Pc.val)) (Nat.zero_le _)) h2.1 rfl rfl (fun b hb => hs.apart kr kp _ _ hne hr hp b hb), fun b hb => ?_⟩
  obtain ⟨r, hr', hb⟩ := hb
  simp only [List.mem_cons, List.not_mem_nil, or_false] at hr'
  rcases hr' with rfl | rfl
  · exact (h1.2.1 b hb).elim id (fun h => by cases h)
  · exact (h2.2.1 b hb).elim id (fun h => by cases h)
theorem rpSrc {w : World} {T n : Nat} {x : (Option Addr × Nat) × List Pc} (h : (rpR T n x).P w) : Src 1 (.slice x.1.1 n x.1.2) n (x.2.map Pc.val) w := by
  have h1 : w.ownsRow 0 T 1 (.slice x.1.1 n x.1.2) n (x.2.map Pc.val) := (h.1 (rowR 0 T 1 n (x.2.map Pc.val) x.1) (by simp)).1
  refine ⟨h1.1, ?_⟩
  rcases h1.2 with ⟨e, rfl⟩ | ⟨g, cap, cur, e, hb, hg, hcap, hrest⟩
  · exact .inl ⟨e, rfl⟩
  · injection e with e1 e2 e3
    refine .inr ⟨_, _, by rw [e1], ?_⟩
    have h2 := h1
    rw [e1, e3] at h2
    exact h2.cells rfl
theorem val_one (l : List Pc) : ∀ u ∈ l.map Pc.val, u.oneCell' = true := by
  intro u hu
  obtain ⟨e, _, rfl⟩ := List.mem_map.1 hu
  rfl
def jnR (rs ss : List Ring_) : List Ring_ := if (regionB rs && regionB ss) = true then fitR (rs ++ ss) else []
def jnC (rs ss : List Ring_) : Int := if (regionB rs && regionB ss) = true then fitC (rs ++ ss) else 1
theorem join_total {rs ss : List Ring_} (hr : regionB rs = true) (hr2 : regionB ss = true) : (total (rs ++ ss) : Int) ≤ 1048577 := by
  have : smallR (rs ++ ss) := ⟨by have := reg_len hr; have := reg_len hr2; rw [List.length_append]; omega, fun j hj => by have := join_lens hr hr2 j hj; omega⟩
  have := this.total
  omega
theorem l13Fit_any (A : Option Addr) (n c : Nat) (rs : List Ring_) (w : World) (h : Rings w A n rs) (ht : (total rs : Int) ≤ 1048577) :
    Calls Try.prog 107 #[regV A n c] w fun e w' => e = .returned (.tuple #[regV (if regionB rs = true then A else none) (if regionB rs = true then n else 0) (if regionB rs = true then c else 0), .int .i64 (fitC rs)]) ∧ Over w w' := by
  refine walk_from (m := 8) (Try.func107) rfl rfl (Nat.le_of_ble_eq_true rfl) ?_
  refine at_seq ?_
  refine at_region ?_
  refine at_op rfl ?_
  refine op_box rfl rfl (rfl) rfl (by decide) (fun b1 => ?_)
  refine at_rsE (by simp only [List.nil_append, List.cons_append, List.set_cons_zero, List.set_cons_succ, Value.cells, List.toList_toArray]; rfl) ?_
  refine at_op rfl ?_
  refine op_alloc rfl tyz_impl_Region rfl (by decide) (fun b2 => ?_)
  refine at_rsE (by simp only [List.nil_append, List.cons_append, List.set_cons_zero, List.set_cons_succ, Value.cells, List.toList_toArray]; rfl) ?_
  refine at_q rfl rfl (by decide) (qt_assign rfl rfl) ?_
  refine at_end ?_
  refine at_seq ?_
  refine at_seq ?_
  refine at_region ?_
  refine at_q rfl rfl (by decide) (qt_call ok_spec_l13Ok rfl rfl (fun w1 hs => l13Ok_any _ _ A n c rs w1 (rd1 (k := 0) rfl rfl w1 hs) (lt_of_some (hs.cel (k := 0) rfl)) (h.over hs.fin) ht)) ?_
  refine at_q rfl rfl (by decide) (qt_not rfl rfl) ?_
  refine at_end ?_
  refine at_cond rfl (fun c1 => ?_) (fun c1 => ?_)
  · try simp only [decide_eq_true_eq, decide_eq_false_iff_not, beq_iff_eq, beq_eq_false_iff_ne, Bool.not_eq_true', Bool.not_eq_false', Bool.not_true, Bool.not_false, Int.not_lt, Int.not_le, ne_eq, Nat.not_lt, Nat.not_le] at c1
    refine at_seq ?_
    refine at_region ?_
    refine at_q rfl rfl (by decide) (qt_build rfl rfl (bld_impl_Region_)) ?_
    refine at_op rfl ?_
    refine op_storeAll' (k := 1) rfl rfl rfl rfl (rfl) (by rfl) tyz_impl_Region.szx rfl rfl rfl ?_
    refine at_rsE (by simp only [List.nil_append, List.cons_append, List.set_cons_zero, List.set_cons_succ, Value.cells, List.toList_toArray]; rfl) ?_
    refine at_q rfl rfl (by decide) (qt_assign rfl rfl) ?_
    refine at_end ?_
    refine at_retc ?_
    refine then_ret ?_
    refine at_ret2 rfl (rvCelS (k := 1) rfl tys_impl_Region rfl rfl) (.tmp rfl) ?_
    intro w' hs
    exact ⟨by simp [fitC, c1], hs.fin⟩
  · try simp only [decide_eq_true_eq, decide_eq_false_iff_not, beq_iff_eq, beq_eq_false_iff_ne, Bool.not_eq_true', Bool.not_eq_false', Bool.not_true, Bool.not_false, Int.not_lt, Int.not_le, ne_eq, Nat.not_lt, Nat.not_le] at c1
    refine at_skip ?_
    refine norm_then ?_
    refine at_seq ?_
    refine at_region ?_
    refine at_q rfl rfl (by decide) (qt_loadS rfl rfl tys_impl_Region rfl (rdAll (k := 0) rfl)) ?_
    refine at_op rfl ?_
    refine op_storeAll' (k := 1) rfl rfl rfl rfl (rfl) (by rfl) tyz_impl_Region.szx rfl rfl rfl ?_
    refine at_rsE (by simp only [List.nil_append, List.cons_append, List.set_cons_zero, List.set_cons_succ, Value.cells, List.toList_toArray]; rfl) ?_
    refine at_q rfl rfl (by decide) (qt_assign rfl rfl) ?_
    refine at_end ?_
    refine at_retc ?_
    refine at_ret2 rfl (rvCelS (k := 1) rfl tys_impl_Region rfl rfl) (.tmp rfl) ?_
    intro w' hs
    exact ⟨by simp [fitC, c1], hs.fin⟩
end Go.Proofs.Ytcplmmoeglembaa
