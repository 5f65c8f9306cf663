/- Hot points of edges: plain law, crossings, the reference's walk. -/
import Derived.Test.YtjhaakollekjeaaSnapped
import Derived.Test.YtjhaakollekjeaaSimp
namespace Go.Proofs.Ytjhaakollekjeaa
open Go Go.RowKit
set_option linter.unusedVariables false
set_option linter.unusedSimpArgs false
set_option maxRecDepth 100000
set_option maxHeartbeats 4000000
set_option linter.unusedVariables false
set_option linter.unusedSimpArgs false

/-! ### Ascending lists -/
/-- By Y, then X. -/
def ltY (p q : Pn) : Prop := p.2 < q.2 ∨ (p.2 = q.2 ∧ p.1 < q.1)
instance (p q : Pn) : Decidable (ltY p q) := by unfold ltY; exact inferInstance
theorem ltY_trans {p q r : Pn} (h : ltY p q) (h' : ltY q r) : ltY p r := by unfold ltY at *; omega
theorem ltY_irrefl (p : Pn) : ¬ ltY p p := by unfold ltY; omega
theorem ltY_tri (p q : Pn) : ltY p q ∨ p = q ∨ ltY q p := by
 rcases p with ⟨x, y⟩
 rcases q with ⟨x', y'⟩
 simp only [ltY, Prod.mk.injEq]
 omega
def Asc (l : List Pn) : Prop := l.Pairwise ltY
theorem Asc.head {p : Pn} {l : List Pn} (h : Asc (p :: l)) : ∀ q ∈ l, ltY p q := (List.pairwise_cons.1 h).1
theorem Asc.tail {p : Pn} {l : List Pn} (h : Asc (p :: l)) : Asc l := (List.pairwise_cons.1 h).2
/-- Ascending lists with the same points are the same. -/
theorem asc_ext : ∀ {l m : List Pn}, Asc l → Asc m → (∀ p, p ∈ l ↔ p ∈ m) → l = m
 | [], [], _, _, _ => rfl
 | [], q :: m, _, _, h => absurd ((h q).2 (by simp)) (by simp)
 | p :: l, [], _, _, h => absurd ((h p).1 (by simp)) (by simp)
 | p :: l, q :: m, hl, hm, h => by
  have e : p = q := by
   rcases List.mem_cons.1 ((h p).1 (by simp)) with e | h1
   ·exact e
   ·rcases List.mem_cons.1 ((h q).2 (by simp)) with e | h2
    ·exact e.symm
    ·exact absurd (ltY_trans (hl.head q h2) (hm.head p h1)) (ltY_irrefl p)
  subst e
  congr 1
  refine asc_ext hl.tail hm.tail fun r => ?_
  constructor
  ·intro hr
   rcases List.mem_cons.1 ((h r).1 (List.mem_cons_of_mem _ hr)) with e | h1
   ·exact absurd (e ▸ hl.head r hr) (ltY_irrefl _)
   ·exact h1
  ·intro hr
   rcases List.mem_cons.1 ((h r).2 (List.mem_cons_of_mem _ hr)) with e | h1
   ·exact absurd (e ▸ hm.head r hr) (ltY_irrefl _)
   ·exact h1
/-- Where a point goes, among the first k. -/
def posP (xs : List Pn) (p : Pn) : Nat → Nat
 | 0 => 0
 | k + 1 => if ltY p (pt xs k) then posP xs p k else k + 1
theorem posP_le (xs : List Pn) (p : Pn) : ∀ k, posP xs p k ≤ k
 | 0 => Nat.le_refl _
 | k + 1 => by
  unfold posP
  split
  ·have := posP_le xs p k; omega
  ·exact Nat.le_refl _
theorem posP_up (xs : List Pn) (p : Pn) : ∀ k j, posP xs p k ≤ j → j < k → ltY p (pt xs j)
 | 0, j, _, h => absurd h (by omega)
 | k + 1, j, h, h' => by
  unfold posP at h
  split at h
  ·rename_i hp
   by_cases e : j = k
   ·rw [e]; exact hp
   ·exact posP_up xs p k j h (by omega)
  ·omega
theorem posP_dn (xs : List Pn) (p : Pn) : ∀ k, 0 < posP xs p k → ¬ ltY p (pt xs (posP xs p k - 1))
 | 0, h => absurd h (by simp [posP])
 | k + 1, h => by
  unfold posP at h ⊢
  split at h
  ·rename_i hp
   rw [if_pos hp]
   exact posP_dn xs p k h
  ·rename_i hp
   rw [if_neg hp]
   exact hp
/-- A point put into an ascending list. -/
def putP (xs : List Pn) (p : Pn) : List Pn := if 0 < posP xs p xs.length ∧ pt xs (posP xs p xs.length - 1) = p then xs else xs.take (posP xs p xs.length) ++ p :: xs.drop (posP xs p xs.length)
theorem pt_at {xs : List Pn} {k : Nat} (h : k < xs.length) : xs[k] = pt xs k := at_p h
theorem putP_mem {xs : List Pn} {p q : Pn} : q ∈ putP xs p ↔ q ∈ xs ∨ q = p := by
 unfold putP
 split
 ·rename_i h
  have hle := posP_le xs p xs.length
  constructor
  ·exact .inl
  ·rintro (h1 | rfl)
   ·exact h1
   ·rw [← h.2, ← pt_at (by omega)]
    exact List.getElem_mem _
 ·have := List.take_append_drop (posP xs p xs.length) xs
  constructor
  ·intro h1
   rcases List.mem_append.1 h1 with h1 | h1
   ·exact .inl (List.mem_of_mem_take h1)
   ·rcases List.mem_cons.1 h1 with h1 | h1
    ·exact .inr h1
    ·exact .inl (List.mem_of_mem_drop h1)
  ·rintro (h1 | h1)
   ·rw [← this] at h1
    rcases List.mem_append.1 h1 with h2 | h2
    ·exact List.mem_append.2 (.inl h2)
    ·exact List.mem_append.2 (.inr (List.mem_cons_of_mem _ h2))
   ·rw [h1]; simp
theorem putP_asc {xs : List Pn} {p : Pn} (h : Asc xs) : Asc (putP xs p) := by
 unfold putP
 split
 ·exact h
 ·rename_i hn
  have hle := posP_le xs p xs.length
  have hs := List.pairwise_append.1 ((List.take_append_drop (posP xs p xs.length) xs).symm ▸ h : Asc (xs.take (posP xs p xs.length) ++ xs.drop (posP xs p xs.length)))
  refine List.pairwise_append.2 ⟨hs.1, List.pairwise_cons.2 ⟨fun q hq => ?_, hs.2.1⟩, fun a ha b hb => ?_⟩
  ·obtain ⟨j, hj, rfl⟩ := List.getElem_of_mem hq
   rw [List.length_drop] at hj
   rw [List.getElem_drop, pt_at (by omega)]
   exact posP_up xs p xs.length _ (by omega) (by omega)
  ·rcases List.mem_cons.1 hb with e | hb
   ·subst e
    obtain ⟨j, hj, rfl⟩ := List.getElem_of_mem ha
    rw [List.length_take] at hj
    rw [List.getElem_take, pt_at (by omega)]
    have hd := posP_dn xs b xs.length (by omega)
    have h1 : ltY (pt xs (posP xs b xs.length - 1)) b := by
     rcases ltY_tri (pt xs (posP xs b xs.length - 1)) b with h1 | h1 | h1
     ·exact h1
     ·exact absurd ⟨by omega, h1⟩ hn
     ·exact absurd h1 hd
    by_cases e : j = posP xs b xs.length - 1
    ·rw [e]; exact h1
    ·have := List.pairwise_iff_getElem.1 h j (posP xs b xs.length - 1) (by omega) (by omega) (by omega)
     rw [pt_at (by omega), pt_at (by omega)] at this
     exact ltY_trans this h1
   ·exact hs.2.2 a ha b hb
/-- Points put in one by one. -/
def putAll (l : List Pn) : List Pn := l.foldl putP []
theorem foldl_put (l : List Pn) : ∀ xs, Asc xs → Asc (l.foldl putP xs) ∧ ∀ q, q ∈ l.foldl putP xs ↔ q ∈ xs ∨ q ∈ l := by
 induction l with
 | nil => intro xs h; exact ⟨h, fun q => by simp⟩
 | cons p l ih =>
  intro xs h
  obtain ⟨h1, h2⟩ := ih (putP xs p) (putP_asc h)
  refine ⟨h1, fun q => ?_⟩
  rw [List.foldl_cons, h2 q, putP_mem, List.mem_cons]
  constructor
  ·rintro ((h | h) | h)
   ·exact .inl h
   ·exact .inr (.inl h)
   ·exact .inr (.inr h)
  ·rintro (h | h | h)
   ·exact .inl (.inl h)
   ·exact .inl (.inr h)
   ·exact .inr h
theorem putAll_asc (l : List Pn) : Asc (putAll l) := (foldl_put l [] List.Pairwise.nil).1
theorem putAll_mem (l : List Pn) (q : Pn) : q ∈ putAll l ↔ q ∈ l := by rw [putAll, (foldl_put l [] List.Pairwise.nil).2 q]; simp
/-- The list without neighbours that are the same. -/
def compP : List Pn → List Pn
 | [] => []
 | [p] => [p]
 | p :: q :: l => if p = q then compP (q :: l) else p :: compP (q :: l)
theorem compP_mem : ∀ (l : List Pn) (r : Pn), r ∈ compP l ↔ r ∈ l
 | [], _ => Iff.rfl
 | [_], _ => Iff.rfl
 | p :: q :: l, r => by
  unfold compP
  split
  ·rename_i e
   rw [compP_mem (q :: l) r, e]
   simp
  ·rw [List.mem_cons, compP_mem (q :: l) r]
   simp
/-- A list that does not fall. -/
def Ris (l : List Pn) : Prop := l.Pairwise fun p q => ¬ ltY q p
theorem compP_asc : ∀ {l : List Pn}, Ris l → Asc (compP l)
 | [], _ => List.Pairwise.nil
 | [p], _ => List.pairwise_singleton _ _
 | p :: q :: l, h => by
  have h1 := List.pairwise_cons.1 h
  have ih := compP_asc (l := q :: l) h1.2
  unfold compP
  split
  ·exact ih
  ·rename_i hne
   refine List.pairwise_cons.2 ⟨fun r hr => ?_, ih⟩
   rw [compP_mem] at hr
   have hpq : ltY p q := by
    rcases ltY_tri p q with h2 | h2 | h2
    ·exact h2
    ·exact absurd h2 hne
    ·exact absurd h2 (h1.1 q (by simp))
   rcases List.mem_cons.1 hr with e | hr
   ·rw [e]; exact hpq
   ·have h3 := (List.pairwise_cons.1 h1.2).1 r hr
    unfold ltY at *
    omega
/-- Sorted and without repeats: as put in one by one. -/
theorem comp_put {l m : List Pn} (hs : Ris m) (hp : ∀ q, q ∈ m ↔ q ∈ l) : compP m = putAll l :=
 asc_ext (compP_asc hs) (putAll_asc l) fun q => by rw [compP_mem, hp, putAll_mem]

/-! ### Crossings -/
/-- A point whose coordinates are far from the words' bounds. -/
def bdW (p : Pn) : Prop := (-1152921504606846976 ≤ p.1 ∧ p.1 ≤ 1152921504606846976) ∧ -1152921504606846976 ≤ p.2 ∧ p.2 ≤ 1152921504606846976
theorem bd2.wide {p : Pn} (h : bd2 p) : bdW p := by
 obtain ⟨⟨h1, h2⟩, h3, h4⟩ := h
 exact ⟨⟨by omega, by omega⟩, by omega, by omega⟩
section
variable {P : Program} {n : Nat} {env : List (Nat × Value)} {w0 : Bs} {Rs : List Res} {ops : Array Oper} {Q : Exit → Act → World → Prop} {K : Act → World → Prop} {o : Oper}
/-- A call that turns a piece into what comes back. -/
theorem op_callP {f k d : Nat} (hfn : FnOk P f) {xs : List Operand} {vs : List Value} {ts : Array TypeId} {X : Type} {v : X → Value} {r : Res} {r' : X → Res} (ho : o.op = .call { callee := .value (.func f), args := xs.toArray, argTypes := ts }) (hx : evs env xs = some vs) (hd : o.dst = some d) (hn : d < n)
  (hk : Rs[k]? = some r) (hc : ∀ w, St w0 Rs w → Calls P f vs.toArray w fun e w' => ∃ x, e = .returned (v x) ∧ Wrs r.F w w' ∧ (r' x).P w' ∧ (∀ b, (r' x).F b → r.F b ∨ w.heap.size ≤ b) ∧ (r' x).B = 0)
  (h : ∀ x, At n ((d, v x) :: env) w0 (Rs.set k (r' x)) K) : At n env w0 Rs (fun a w => o.wp P a w K Q) := fun a w hF' hs => by
 show o.upon P a K Q ((execOp a.eval o).run P w)
 rw [run_call hfn ho hx hF']
 refine Calls.mono (hc w hs) ?_
 rintro e w' ⟨x, rfl, hw, hp, hF, hB⟩
 have hlow := (hs.all k _ hk).2.1
 show K (a.put o.dst (v x)) w'
 rw [hd]
 refine h x _ _ (hF'.put hn _) (hs.upd hk ⟨hw.os.trans hs.over.os, hw.tape.trans hs.over.tape, hw.output.trans hs.over.output, Nat.le_trans hs.over.size hw.size, fun c hc' hx' => ?_⟩ hw.size (fun c hc' hne => hw.block c hc' hne) hp (fun c hc' => hF c hc') hB)
 rw [hw.block c (Nat.lt_of_lt_of_le hc' hs.over.size) (fun e => (hlow c e).elim (fun h1 => by omega) (fun h1 => hx' h1))]
 exact hs.over.block c hc' hx'
/-- A row, wherever it begins. -/
theorem at_rowB0 (k : Nat) {B T s m : Nat} {v : Value} {xs : List Value} (hk : Rs[k]? = some (.row B T s v m xs)) (h : At n env w0 (Rs.set k (.row 0 T s v m xs)) K) : At n env w0 Rs K := fun a w hf hs =>
 h a w hf (hs.chg hk (fun hP => row_low hP (Nat.zero_le _)) (fun c hc => hc) rfl)
end
abbrev hotR (xs : List Pn) (x : Nat × Nat) : Res := rowR 0 103 2 xs.length (xs.flatMap ptCells) (some ⟨x.1, 0, none⟩, x.2)
theorem l13Before_p (p q : Pn) (w : World) : Calls Try.prog 133 #[pV p, pV q] w fun e w' => e = .returned (.bool (decide (ltY p q))) ∧ Over w w' := by
 refine walk_from (m := 24) (Try.func133) rfl rfl (Nat.le_of_ble_eq_true rfl) ?_
 refine at_seq ?_
 refine at_region ?_
 refine at_op rfl ?_
 refine op_box rfl rfl (rfl) rfl (by decide) (fun b1 => ?_)
 refine at_rsE (by simp only [ya,yb,yc,yd,Value.cells,ye]; rfl) ?_
 refine at_op rfl ?_
 refine op_box rfl rfl (rfl) rfl (by decide) (fun b2 => ?_)
 refine at_rsE (by simp only [ya,yb,yc,yd,Value.cells,ye]; rfl) ?_
 refine at_q rfl rfl (by decide) (qt_assign rfl rfl) ?_
 refine at_end ?_
 refine at_seq ?_
 refine at_region ?_
 refine at_q rfl rfl (by decide) (qt_fieldAddr rfl rfl tyf_impl_Pt_1) ?_
 refine at_q rfl rfl (by decide) (qt_load1 rfl rfl ty1_int64 (rd1 (k := 0) rfl rfl)) ?_
 refine at_q rfl rfl (by decide) (qt_fieldAddr rfl rfl tyf_impl_Pt_1) ?_
 refine at_q rfl rfl (by decide) (qt_load1 rfl rfl ty1_int64 (rd1 (k := 1) rfl rfl)) ?_
 refine at_q rfl rfl (by decide) (qt_lss rfl rfl rfl) ?_
 refine at_q rfl rfl (by decide) (qt_move rfl rfl) ?_
 refine at_bsplit 10 rfl (fun g1 => ?_) (fun g1 => ?_)
 ·try simp only [za,zb,zc,zd,ze,zf,Bool.not_true,Bool.not_false,zg,zh,ne_eq,zi,zj] at g1
  refine at_off rfl rfl rfl rfl (by decide) rfl (by decide) ?_
  refine at_off rfl rfl rfl rfl (by decide) rfl (by decide) ?_
  refine at_off rfl rfl rfl rfl (by decide) rfl (by decide) ?_
  refine at_off rfl rfl rfl rfl (by decide) rfl (by decide) ?_
  refine at_off rfl rfl rfl rfl (by decide) rfl (by decide) ?_
  refine at_off rfl rfl rfl rfl (by decide) rfl (by decide) ?_
  refine at_offu rfl rfl rfl rfl rfl (by decide) ?_
  refine at_offu rfl rfl rfl rfl rfl (by decide) ?_
  refine at_offu rfl rfl rfl rfl rfl (by decide) ?_
  refine at_offu rfl rfl rfl rfl rfl (by decide) ?_
  refine at_offu rfl rfl rfl rfl rfl (by decide) ?_
  refine at_off rfl rfl rfl rfl (by decide) rfl (by decide) ?_
  refine at_q rfl rfl (by decide) (qt_pickT rfl rfl rfl) ?_
  refine at_q rfl rfl (by decide) (qt_assign rfl rfl) ?_
  refine at_end ?_
  refine at_retc ?_
  refine at_ret1 rfl (.tmp rfl) ?_
  intro w' hs
  exact ⟨congrArg Ending.returned (congrArg Value.bool (Bool.eq_iff_iff.2 (Iff.trans (b := ltY p q) (by simp [ltY]; omega) decide_eq_true_iff.symm))), hs.fin⟩
 ·try simp only [za,zb,zc,zd,ze,zf,Bool.not_true,Bool.not_false,zg,zh,ne_eq,zi,zj] at g1
  refine at_on rfl rfl rfl rfl ?_
  refine op_q rfl (by decide) (qt_fieldAddr rfl rfl tyf_impl_Pt_1) ?_
  refine at_on rfl rfl rfl rfl ?_
  refine op_q rfl (by decide) (qt_load1 rfl rfl ty1_int64 (rd1 (k := 0) rfl rfl)) ?_
  refine at_on rfl rfl rfl rfl ?_
  refine op_q rfl (by decide) (qt_fieldAddr rfl rfl tyf_impl_Pt_1) ?_
  refine at_on rfl rfl rfl rfl ?_
  refine op_q rfl (by decide) (qt_load1 rfl rfl ty1_int64 (rd1 (k := 1) rfl rfl)) ?_
  refine at_on rfl rfl rfl rfl ?_
  refine op_q rfl (by decide) (qt_eql rfl rfl rfl) ?_
  refine at_on rfl rfl rfl rfl ?_
  refine op_q rfl (by decide) (qt_move rfl rfl) ?_
  refine at_bsplit 16 rfl (fun g2 => ?_) (fun g2 => ?_)
  ·try simp only [za,zb,zc,zd,ze,zf,Bool.not_true,Bool.not_false,zg,zh,ne_eq,zi,zj] at g2
   refine at_on rfl rfl rfl rfl ?_
   refine op_q rfl (by decide) (qt_fieldAddr rfl rfl tyf_impl_Pt_0) ?_
   refine at_on rfl rfl rfl rfl ?_
   refine op_q rfl (by decide) (qt_load1 rfl rfl ty1_int64 (rd1 (k := 0) rfl rfl)) ?_
   refine at_on rfl rfl rfl rfl ?_
   refine op_q rfl (by decide) (qt_fieldAddr rfl rfl tyf_impl_Pt_0) ?_
   refine at_on rfl rfl rfl rfl ?_
   refine op_q rfl (by decide) (qt_load1 rfl rfl ty1_int64 (rd1 (k := 1) rfl rfl)) ?_
   refine at_on rfl rfl rfl rfl ?_
   refine op_q rfl (by decide) (qt_lss rfl rfl rfl) ?_
   refine at_on rfl rfl rfl rfl ?_
   refine op_q rfl (by decide) (qt_pickT rfl rfl rfl) ?_
   refine at_q rfl rfl (by decide) (qt_pickF rfl rfl rfl) ?_
   refine at_q rfl rfl (by decide) (qt_assign rfl rfl) ?_
   refine at_end ?_
   refine at_retc ?_
   refine at_ret1 rfl (.tmp rfl) ?_
   intro w' hs
   exact ⟨congrArg Ending.returned (congrArg Value.bool (Bool.eq_iff_iff.2 (Iff.trans (b := ltY p q) (by simp [ltY]; omega) decide_eq_true_iff.symm))), hs.fin⟩
  ·try simp only [za,zb,zc,zd,ze,zf,Bool.not_true,Bool.not_false,zg,zh,ne_eq,zi,zj] at g2
   refine at_off rfl rfl rfl rfl (by decide) rfl (by decide) ?_
   refine at_off rfl rfl rfl rfl (by decide) rfl (by decide) ?_
   refine at_off rfl rfl rfl rfl (by decide) rfl (by decide) ?_
   refine at_off rfl rfl rfl rfl (by decide) rfl (by decide) ?_
   refine at_off rfl rfl rfl rfl (by decide) rfl (by decide) ?_
   refine at_on rfl rfl rfl rfl ?_
   refine op_q rfl (by decide) (qt_pickF rfl rfl rfl) ?_
   refine at_q rfl rfl (by decide) (qt_pickF rfl rfl rfl) ?_
   refine at_q rfl rfl (by decide) (qt_assign rfl rfl) ?_
   refine at_end ?_
   refine at_retc ?_
   refine at_ret1 rfl (.tmp rfl) ?_
   intro w' hs
   exact ⟨congrArg Ending.returned (congrArg Value.bool (Bool.eq_iff_iff.2 (Iff.trans (b := ltY p q) (by simp [ltY]; omega) decide_eq_true_iff.symm))), hs.fin⟩
theorem posP_stop {xs : List Pn} {p : Pn} {k : Nat} (h : ¬ (0 < k ∧ ltY p (pt xs (k - 1)))) : posP xs p k = k := by
 cases k with
 | zero => rfl
 | succ k =>
  rw [posP, if_neg]
  intro h1
  exact h ⟨by omega, h1⟩
theorem posP_more {xs : List Pn} {p : Pn} {k : Nat} (h : 0 < k ∧ ltY p (pt xs (k - 1))) : posP xs p (k - 1) = posP xs p k := by
 cases k with
 | zero => rfl
 | succ k =>
  show posP xs p k = posP xs p (k + 1)
  rw [posP, if_pos (show ltY p (pt xs k) from h.2)]
theorem ptEq {xs : List Pn} {j : Nat} {p : Pn} : ((px xs j == p.1) && (py xs j == p.2)) = decide (pt xs j = p) := by
 rw [Bool.eq_iff_iff]
 simp [pt, Prod.ext_iff]
theorem putP_old {xs : List Pn} {p : Pn} {k : Nat} (h : k = posP xs p xs.length) (hk : 0 < k ∧ pt xs (k - 1) = p) : putP xs p = xs := by
 subst h
 rw [putP, if_pos hk]
theorem putP_new {xs : List Pn} {p : Pn} {k : Nat} (h : k = posP xs p xs.length) (hk : ¬ (0 < k ∧ pt xs (k - 1) = p)) : putP xs p = xs.take k ++ p :: xs.drop k := by
 subst h
 rw [putP, if_neg hk]
theorem l13Put_any (g c n : Nat) (xs : List Pn) (p : Pn) (w : World) (h : Pts w (some ⟨g, 0, none⟩) n xs) (hc : n ≤ c) (hn : n ≤ 1048576) :
  Calls Try.prog 88 #[.slice (some ⟨g, 0, none⟩) n c, pV p] w fun e w' => (e = .returned (.slice (some ⟨g, 0, none⟩) n c) ∧ putP xs p = xs ∧ Over w w') ∨ ∃ v, e = .returned v ∧ w'.ownsRow w.heap.size 103 2 v (putP xs p).length ((putP xs p).flatMap ptCells) ∧ Over w w' := by
 have hl := h.1
 refine walk_from (m := 48) (Try.func88) rfl rfl (Nat.le_of_ble_eq_true rfl) ?_
 refine at_seq ?_
 refine at_region ?_
 refine at_op rfl ?_
 refine op_box rfl rfl (rfl) rfl (by decide) (fun b1 => ?_)
 refine at_rsE (by simp only [ya,yb,yc,yd,Value.cells,ye]; rfl) ?_
 refine at_q rfl rfl (by decide) (qt_assign rfl rfl) ?_
 refine at_end ?_
 refine at_seq ?_
 refine at_region ?_
 refine at_q rfl rfl (by decide) (qt_move rfl rfl) ?_
 refine at_q rfl rfl (by decide) (qt_len rfl rfl tyl_sl_impl_Pt) ?_
 refine at_q rfl rfl (by decide) (qt_assign rfl rfl) ?_
 refine at_end ?_
 refine at_seq ?_
 refine at_block ?_
 refine at_loopk (X := Nat) (fun k => k ≤ n ∧ posP xs p k = posP xs p n) (fun k => k) (fun k => [(5, .int .i64 (k : Int))]) (C := [(0, _), (3, _), (4, _)]) ⟨rfl, rfl, rfl, trivial⟩ n (⟨Nat.le_refl _, rfl⟩) ⟨rfl, rfl, rfl, rfl, trivial⟩ ?_
 intro k hk L hL1
 refine at_envE (by simp only [ya,yb]; rfl) ?_
 refine at_seq ?_
 refine at_cutE [(19, .bool (decide (0 < k ∧ ltY p (pt xs (k - 1)))))] (C := [(0, _), (3, _), (4, _), (5, _)])  ⟨rfl, rfl, rfl, rfl, trivial⟩ (fun L hC_cut_2 => ?_) ?_
 ·refine dg_start mixed rfl ?_
  refine dg_phase 11 ?_
  refine dg_q (i := 0) rfl (by kernel_rfl) (by kernel_rfl) (by kernel_rfl) [] (by kernel_rfl) (fun _ _ _ h => h) rfl rfl (by decide) (fun _ h => h.upto ⟨rfl, trivial⟩) (qt_move rfl rfl) ?_
  refine dg_q (i := 1) rfl (by kernel_rfl) (by kernel_rfl) (by kernel_rfl) [] (by kernel_rfl) (fun _ _ _ h => h) rfl rfl (by decide) (fun _ h => h.upto ⟨rfl, trivial⟩) (qt_gtr rfl rfl rfl) ?_
  refine dg_q (i := 2) rfl (by kernel_rfl) (by kernel_rfl) (by kernel_rfl) [] (by kernel_rfl) (fun _ _ _ h => h) rfl rfl (by decide) (fun _ h => h.upto ⟨rfl, trivial⟩) (qt_move rfl rfl) ?_
  refine at_bsplit 11 rfl (fun g1 => ?_) (fun g1 => ?_)
  ·try simp only [za,zb,zc,zd,ze,zf,Bool.not_true,Bool.not_false,zg,zh,ne_eq,zi,zj] at g1
   refine dg_qg (i := 3) rfl (by kernel_rfl) (by kernel_rfl) (by kernel_rfl) [] (by kernel_rfl) (fun _ _ _ h => h) rfl rfl rfl rfl rfl (by decide) (fun _ h => h.upto ⟨rfl, trivial⟩) (qt_loadS rfl rfl tys_impl_Pt rfl (rdAll (k := 0) rfl)) ?_
   refine dg_qg (i := 4) rfl (by kernel_rfl) (by kernel_rfl) (by kernel_rfl) [] (by kernel_rfl) (fun _ _ _ h => h) rfl rfl rfl rfl rfl (by decide) (fun _ h => h.upto ⟨rfl, trivial⟩) (qt_move rfl rfl) ?_
   refine dg_qg (i := 5) rfl (by kernel_rfl) (by kernel_rfl) (by kernel_rfl) [] (by kernel_rfl) (fun _ _ _ h => h) rfl rfl rfl rfl rfl (by decide) (fun _ h => h.upto ⟨rfl, trivial⟩) (qt_move rfl rfl) ?_
   refine dg_qg (i := 6) rfl (by kernel_rfl) (by kernel_rfl) (by kernel_rfl) [] (by kernel_rfl) (fun _ _ _ h => h) rfl rfl rfl rfl rfl (by decide) (fun _ h => h.upto ⟨rfl, trivial⟩) ((qt_sub rfl rfl rfl (by omega) (by omega)).as (congrArg _ (show ((k : Int) - 1) = ((k - 1 : Nat) : Int) by omega))) ?_
   refine dg_qg (i := 7) rfl (by kernel_rfl) (by kernel_rfl) (by kernel_rfl) [] (by kernel_rfl) (fun _ _ _ h => h) rfl rfl rfl rfl rfl (by decide) (fun _ h => h.upto ⟨rfl, trivial⟩) (qt_index rfl rfl rfl tyl_sl_impl_Pt (by omega)) ?_
   refine dg_qg (i := 8) rfl (by kernel_rfl) (by kernel_rfl) (by kernel_rfl) [] (by kernel_rfl) (fun _ _ _ h => h) rfl rfl rfl rfl rfl (by decide) (fun _ h => h.upto ⟨rfl, trivial⟩) (qt_loadS rfl rfl tys_impl_Pt rfl (rdPts h (by omega))) ?_
   refine dg_qg (i := 9) rfl (by kernel_rfl) (by kernel_rfl) (by kernel_rfl) [] (by kernel_rfl) (fun _ _ _ h => h) rfl rfl rfl rfl rfl (by decide) (fun _ h => h.upto ⟨rfl, trivial⟩) (qt_call ok_spec_l13Before rfl rfl (fun w _ => l13Before_p p (pt xs (k - 1)) w)) ?_
   refine dg_q (i := 10) rfl (by kernel_rfl) (by kernel_rfl) (by kernel_rfl) [] (by kernel_rfl) (fun _ _ _ h => h) rfl rfl (by decide) (fun _ h => h.upto ⟨rfl, trivial⟩) (qt_pickT rfl rfl rfl) ?_
   refine dg_done (by kernel_rfl) ?_
   refine norm_then ?_
   exact at_meet hC_cut_2 ⟨vb (by simp; omega), rfl, rfl, rfl, rfl, trivial⟩ (fun _ h => h.upto ⟨rfl, trivial⟩)
  ·try simp only [za,zb,zc,zd,ze,zf,Bool.not_true,Bool.not_false,zg,zh,ne_eq,zi,zj] at g1
   refine dg_off (i := 3) rfl (by kernel_rfl) (by kernel_rfl) (by kernel_rfl) [] (by kernel_rfl) (fun _ _ _ h => h) rfl rfl rfl rfl (by decide) rfl (by decide) (fun _ h => h.upto ⟨rfl, trivial⟩) ?_
   refine dg_off (i := 4) rfl (by kernel_rfl) (by kernel_rfl) (by kernel_rfl) [] (by kernel_rfl) (fun _ _ _ h => h) rfl rfl rfl rfl (by decide) rfl (by decide) (fun _ h => h.upto ⟨rfl, trivial⟩) ?_
   refine dg_off (i := 5) rfl (by kernel_rfl) (by kernel_rfl) (by kernel_rfl) [] (by kernel_rfl) (fun _ _ _ h => h) rfl rfl rfl rfl (by decide) rfl (by decide) (fun _ h => h.upto ⟨rfl, trivial⟩) ?_
   refine dg_off (i := 6) rfl (by kernel_rfl) (by kernel_rfl) (by kernel_rfl) [] (by kernel_rfl) (fun _ _ _ h => h) rfl rfl rfl rfl (by decide) rfl (by decide) (fun _ h => h.upto ⟨rfl, trivial⟩) ?_
   refine dg_off (i := 7) rfl (by kernel_rfl) (by kernel_rfl) (by kernel_rfl) [] (by kernel_rfl) (fun _ _ _ h => h) rfl rfl rfl rfl (by decide) rfl (by decide) (fun _ h => h.upto ⟨rfl, trivial⟩) ?_
   refine dg_off (i := 8) rfl (by kernel_rfl) (by kernel_rfl) (by kernel_rfl) [] (by kernel_rfl) (fun _ _ _ h => h) rfl rfl rfl rfl (by decide) rfl (by decide) (fun _ h => h.upto ⟨rfl, trivial⟩) ?_
   refine dg_off (i := 9) rfl (by kernel_rfl) (by kernel_rfl) (by kernel_rfl) [] (by kernel_rfl) (fun _ _ _ h => h) rfl rfl rfl rfl (by decide) rfl (by decide) (fun _ h => h.upto ⟨rfl, trivial⟩) ?_
   refine dg_q (i := 10) rfl (by kernel_rfl) (by kernel_rfl) (by kernel_rfl) [] (by kernel_rfl) (fun _ _ _ h => h) rfl rfl (by decide) (fun _ h => h.upto ⟨rfl, trivial⟩) (qt_pickF rfl rfl rfl) ?_
   refine dg_done (by kernel_rfl) ?_
   refine norm_then ?_
   exact at_meet hC_cut_2 ⟨vb (by simp; omega), rfl, rfl, rfl, rfl, trivial⟩ (fun _ h => h.upto ⟨rfl, trivial⟩)
 ·refine at_envE (by simp only [ya,yb]; rfl) ?_
  refine at_cond rfl (fun c1 => ?_) (fun c1 => ?_)
  ·try simp only [za,zb,zc,zd,ze,zf,Bool.not_true,Bool.not_false,zg,zh,ne_eq,zi,zj] at c1
   refine at_skip ?_
   refine norm_then ?_
   refine at_block ?_
   refine at_region ?_
   refine at_q rfl rfl (by decide) (qt_move rfl rfl) ?_
   refine at_q rfl rfl (by decide) (qt_sub rfl rfl rfl (by omega) (by omega)) ?_
   refine at_q rfl rfl (by decide) (qt_assign rfl rfl) ?_
   refine at_nil ?_
   refine norm_block ?_
   refine norm_then ?_
   exact at_againk hL1 (k - 1) (⟨by omega, (posP_more c1).trans hk.2⟩) (by omega) ⟨vi (by omega), rfl, rfl, rfl, trivial⟩ (fun _ h => h.upto ⟨rfl, trivial⟩)
  ·try simp only [za,zb,zc,zd,ze,zf,Bool.not_true,Bool.not_false,zg,zh,ne_eq,zi,zj] at c1
   have hpos : k = posP xs p xs.length := by rw [hl, ← hk.2, posP_stop c1]
   refine at_exit ?_
   refine pass_then (fun h => by cases h) ?_
   refine pass_then (fun h => by cases h) ?_
   refine pass_hit ?_
   refine norm_then ?_
   refine at_seq ?_
   refine at_cutE [(32, .bool (decide (0 < k ∧ pt xs (k - 1) = p)))] (C := [(0, _), (3, _), (4, _), (5, _)])  ⟨rfl, rfl, rfl, rfl, trivial⟩ (fun L hC_cut_4 => ?_) ?_
   ·refine dg_start mixed rfl ?_
    refine dg_phase 11 ?_
    refine dg_q (i := 0) rfl (by kernel_rfl) (by kernel_rfl) (by kernel_rfl) [] (by kernel_rfl) (fun _ _ _ h => h) rfl rfl (by decide) (fun _ h => h.upto ⟨rfl, trivial⟩) (qt_move rfl rfl) ?_
    refine dg_q (i := 1) rfl (by kernel_rfl) (by kernel_rfl) (by kernel_rfl) [] (by kernel_rfl) (fun _ _ _ h => h) rfl rfl (by decide) (fun _ h => h.upto ⟨rfl, trivial⟩) (qt_gtr rfl rfl rfl) ?_
    refine dg_q (i := 2) rfl (by kernel_rfl) (by kernel_rfl) (by kernel_rfl) [] (by kernel_rfl) (fun _ _ _ h => h) rfl rfl (by decide) (fun _ h => h.upto ⟨rfl, trivial⟩) (qt_move rfl rfl) ?_
    refine at_bsplit 24 rfl (fun g2 => ?_) (fun g2 => ?_)
    ·try simp only [za,zb,zc,zd,ze,zf,Bool.not_true,Bool.not_false,zg,zh,ne_eq,zi,zj] at g2
     refine dg_qg (i := 3) rfl (by kernel_rfl) (by kernel_rfl) (by kernel_rfl) [] (by kernel_rfl) (fun _ _ _ h => h) rfl rfl rfl rfl rfl (by decide) (fun _ h => h.upto ⟨rfl, trivial⟩) (qt_move rfl rfl) ?_
     refine dg_qg (i := 4) rfl (by kernel_rfl) (by kernel_rfl) (by kernel_rfl) [] (by kernel_rfl) (fun _ _ _ h => h) rfl rfl rfl rfl rfl (by decide) (fun _ h => h.upto ⟨rfl, trivial⟩) (qt_move rfl rfl) ?_
     refine dg_qg (i := 5) rfl (by kernel_rfl) (by kernel_rfl) (by kernel_rfl) [] (by kernel_rfl) (fun _ _ _ h => h) rfl rfl rfl rfl rfl (by decide) (fun _ h => h.upto ⟨rfl, trivial⟩) ((qt_sub rfl rfl rfl (by omega) (by omega)).as (congrArg _ (show ((k : Int) - 1) = ((k - 1 : Nat) : Int) by omega))) ?_
     refine dg_qg (i := 6) rfl (by kernel_rfl) (by kernel_rfl) (by kernel_rfl) [] (by kernel_rfl) (fun _ _ _ h => h) rfl rfl rfl rfl rfl (by decide) (fun _ h => h.upto ⟨rfl, trivial⟩) (qt_index rfl rfl rfl tyl_sl_impl_Pt (by omega)) ?_
     refine dg_qg (i := 7) rfl (by kernel_rfl) (by kernel_rfl) (by kernel_rfl) [] (by kernel_rfl) (fun _ _ _ h => h) rfl rfl rfl rfl rfl (by decide) (fun _ h => h.upto ⟨rfl, trivial⟩) (qt_loadS rfl rfl tys_impl_Pt rfl (rdPts h (by omega))) ?_
     refine dg_qg (i := 8) rfl (by kernel_rfl) (by kernel_rfl) (by kernel_rfl) [] (by kernel_rfl) (fun _ _ _ h => h) rfl rfl rfl rfl rfl (by decide) (fun _ h => h.upto ⟨rfl, trivial⟩) (qt_loadS rfl rfl tys_impl_Pt rfl (rdAll (k := 0) rfl)) ?_
     refine dg_qg (i := 9) rfl (by kernel_rfl) (by kernel_rfl) (by kernel_rfl) [] (by kernel_rfl) (fun _ _ _ h => h) rfl rfl rfl rfl rfl (by decide) (fun _ h => h.upto ⟨rfl, trivial⟩) (qt_eqlS_impl_Pt rfl rfl rfl) ?_
     refine dg_q (i := 10) rfl (by kernel_rfl) (by kernel_rfl) (by kernel_rfl) [] (by kernel_rfl) (fun _ _ _ h => h) rfl rfl (by decide) (fun _ h => h.upto ⟨rfl, trivial⟩) (qt_pickT rfl rfl rfl) ?_
     refine dg_done (by kernel_rfl) ?_
     refine norm_then ?_
     exact at_meet hC_cut_4 ⟨vb (by rw [ptEq]; simp; omega), rfl, rfl, rfl, rfl, trivial⟩ (fun _ h => h.upto ⟨rfl, trivial⟩)
    ·try simp only [za,zb,zc,zd,ze,zf,Bool.not_true,Bool.not_false,zg,zh,ne_eq,zi,zj] at g2
     refine dg_off (i := 3) rfl (by kernel_rfl) (by kernel_rfl) (by kernel_rfl) [] (by kernel_rfl) (fun _ _ _ h => h) rfl rfl rfl rfl (by decide) rfl (by decide) (fun _ h => h.upto ⟨rfl, trivial⟩) ?_
     refine dg_off (i := 4) rfl (by kernel_rfl) (by kernel_rfl) (by kernel_rfl) [] (by kernel_rfl) (fun _ _ _ h => h) rfl rfl rfl rfl (by decide) rfl (by decide) (fun _ h => h.upto ⟨rfl, trivial⟩) ?_
     refine dg_off (i := 5) rfl (by kernel_rfl) (by kernel_rfl) (by kernel_rfl) [] (by kernel_rfl) (fun _ _ _ h => h) rfl rfl rfl rfl (by decide) rfl (by decide) (fun _ h => h.upto ⟨rfl, trivial⟩) ?_
     refine dg_off (i := 6) rfl (by kernel_rfl) (by kernel_rfl) (by kernel_rfl) [] (by kernel_rfl) (fun _ _ _ h => h) rfl rfl rfl rfl (by decide) rfl (by decide) (fun _ h => h.upto ⟨rfl, trivial⟩) ?_
     refine dg_off (i := 7) rfl (by kernel_rfl) (by kernel_rfl) (by kernel_rfl) [] (by kernel_rfl) (fun _ _ _ h => h) rfl rfl rfl rfl (by decide) rfl (by decide) (fun _ h => h.upto ⟨rfl, trivial⟩) ?_
     refine dg_off (i := 8) rfl (by kernel_rfl) (by kernel_rfl) (by kernel_rfl) [] (by kernel_rfl) (fun _ _ _ h => h) rfl rfl rfl rfl (by decide) rfl (by decide) (fun _ h => h.upto ⟨rfl, trivial⟩) ?_
     refine dg_off (i := 9) rfl (by kernel_rfl) (by kernel_rfl) (by kernel_rfl) [] (by kernel_rfl) (fun _ _ _ h => h) rfl rfl rfl rfl (by decide) rfl (by decide) (fun _ h => h.upto ⟨rfl, trivial⟩) ?_
     refine dg_q (i := 10) rfl (by kernel_rfl) (by kernel_rfl) (by kernel_rfl) [] (by kernel_rfl) (fun _ _ _ h => h) rfl rfl (by decide) (fun _ h => h.upto ⟨rfl, trivial⟩) (qt_pickF rfl rfl rfl) ?_
     refine dg_done (by kernel_rfl) ?_
     refine norm_then ?_
     exact at_meet hC_cut_4 ⟨vb (by rw [decide_eq_false (fun h => absurd h.1 (by omega))]), rfl, rfl, rfl, rfl, trivial⟩ (fun _ h => h.upto ⟨rfl, trivial⟩)
   ·refine at_envE (by simp only [ya,yb]; rfl) ?_
    refine at_cond rfl (fun c2 => ?_) (fun c2 => ?_)
    ·try simp only [za,zb,zc,zd,ze,zf,Bool.not_true,Bool.not_false,zg,zh,ne_eq,zi,zj] at c2
     refine at_seq ?_
     refine at_region ?_
     refine at_q rfl rfl (by decide) (qt_move rfl rfl) ?_
     refine at_q rfl rfl (by decide) (qt_assign rfl rfl) ?_
     refine at_end ?_
     refine at_retc ?_
     refine then_ret ?_
     refine at_ret1 rfl (.tmp rfl) ?_
     intro w' hs
     exact .inl ⟨rfl, putP_old hpos c2, hs.fin⟩
    ·try simp only [za,zb,zc,zd,ze,zf,Bool.not_true,Bool.not_false,zg,zh,ne_eq,zi,zj] at c2
     have hput := putP_new hpos c2
     have hpl : (putP xs p).length = 0 + k + 1 + (n - k) := by rw [hput, List.length_append, List.length_cons, List.length_take, List.length_drop]; omega
     refine at_skip ?_
     refine norm_then ?_
     refine at_seq ?_
     refine at_region ?_
     refine at_op rfl ?_
     refine op_buildSlice rfl rfl (bsl_sl_impl_Pt_0) rfl (by decide) (fun b2 => ?_)
     refine at_rowN 1 2 rfl rfl ?_
     refine at_rsE (by simp only [ya,yb,yc,yd,Value.cells,ye]; rfl) ?_
     refine at_q rfl rfl (by decide) (qt_move rfl rfl) ?_
     refine at_q rfl rfl (by decide) (qt_move rfl rfl) ?_
     refine at_q rfl rfl (by decide) ((qt_sliceH rfl rfl rfl tyl_sl_impl_Pt (by omega)).as (slicedH _ _ _ _ _)) ?_
     refine at_op rfl ?_
     refine op_appendR (k := 1) rfl tyl_sl_impl_Pt tyz_impl_Pt (by decide) rfl (by decide) rfl rfl rfl (fun w' hs => srcTake (h.over hs.fin) (by omega)) (ptCells_one _) (by unfold maxLen; omega) (by omega) (Nat.le_refl _) (fun r1 => ?_)
     refine at_rsE (by simp only [ya,yb,yc,yd,Value.cells,ye]; rfl) ?_
     refine at_q rfl rfl (by decide) (qt_assign rfl rfl) ?_
     refine at_end ?_
     refine at_seq ?_
     refine at_region ?_
     refine at_q rfl rfl (by decide) (qt_move rfl rfl) ?_
     refine at_q rfl rfl (by decide) (qt_loadS rfl rfl tys_impl_Pt rfl (rdAll (k := 0) rfl)) ?_
     refine at_op rfl ?_
     refine op_buildSlice rfl rfl (bsl_sl_impl_Pt_1_0 rfl) rfl (by decide) (fun b3 => ?_)
     refine at_rsE (by simp only [ya,yb,yc,yd,Value.cells,ye]; rfl) ?_
     refine at_op rfl ?_
     refine op_appendR (k := 1) rfl tyl_sl_impl_Pt tyz_impl_Pt (by decide) rfl (by decide) rfl rfl rfl (fun w' hs => src_cel hs (k := 2) rfl rfl) (by simp [Value.oneCell']) (by unfold maxLen; omega) (by omega) (Nat.le_refl _) (fun r2 => ?_)
     refine at_rsE (by simp only [ya,yb,yc,yd,Value.cells,ye]; rfl) ?_
     refine at_q rfl rfl (by decide) (qt_assign rfl rfl) ?_
     refine at_end ?_
     refine at_seq ?_
     refine at_region ?_
     refine at_q rfl rfl (by decide) (qt_move rfl rfl) ?_
     refine at_q rfl rfl (by decide) (qt_move rfl rfl) ?_
     refine at_q rfl rfl (by decide) (qt_move rfl rfl) ?_
     refine at_q rfl rfl (by decide) ((qt_sliceL rfl rfl rfl tyl_sl_impl_Pt (by omega)).as (slicedL (b := g) (o := 0) (l := k) (h := n) (m := c) (s := 2) hc (by omega))) ?_
     refine at_op rfl ?_
     refine op_appendR (k := 1) rfl tyl_sl_impl_Pt tyz_impl_Pt (by decide) rfl (by decide) rfl rfl rfl (fun w' hs => srcDrop (h.over hs.fin) (by omega) hc) (ptCells_one _) (by unfold maxLen; omega) (by omega) (Nat.le_refl _) (fun r3 => ?_)
     refine at_rsE (by simp only [ya,yb,yc,yd,Value.cells,ye]; rfl) ?_
     refine at_q rfl rfl (by decide) (qt_assign rfl rfl) ?_
     refine at_end ?_
     refine at_retc ?_
     refine at_ret1 rfl (.tmp rfl) ?_
     intro w' hs
     have hr := (hs.all 1 _ rfl).1
     exact .inr ⟨_, rfl, by rw [hpl, hput, List.flatMap_append, List.flatMap_cons, ← List.append_assoc]; exact hr, hs.fin⟩
/-- A point put into a row, as what the row has become. -/
theorem put_row {g c : Nat} {xs : List Pn} {p : Pn} {w : World} (h : (hotR xs (g, c)).P w) (hn : xs.length ≤ 1048576) :
  Calls Try.prog 88 #[.slice (some ⟨g, 0, none⟩) xs.length c, pV p] w fun e w' => ∃ x : Nat × Nat, e = .returned (.slice (some ⟨x.1, 0, none⟩) (putP xs p).length x.2) ∧ Wrs (hotR xs (g, c)).F w w' ∧ (hotR (putP xs p) x).P w' ∧ (∀ b, (hotR (putP xs p) x).F b → (hotR xs (g, c)).F b ∨ w.heap.size ≤ b) ∧ (hotR (putP xs p) x).B = 0 := by
 refine (l13Put_any g c xs.length xs p w (ptsRow h rfl) (rowCap h) hn).mono ?_
 rintro e w' (⟨rfl, hp, hO⟩ | ⟨v, rfl, hr, hO⟩)
 ·refine ⟨(g, c), by rw [hp], Wrs.of hO, ?_, fun b hb => .inl (by rw [hp] at hb; exact hb), rfl⟩
  rw [hp]
  exact (hotR xs (g, c)).dep w w' h hO.size fun b hb _ => hO.out.block b hb
 ·obtain ⟨x, rfl⟩ := row_slice hr
  have h0 : 0 < (putP xs p).length := List.length_pos_of_mem (putP_mem.2 (.inr rfl))
  have hs : ∃ g2, x.1 = some ⟨g2, 0, none⟩ := by
   rcases hr.2 with ⟨_, e⟩ | ⟨g2, cap, cur, e, _⟩
   ·omega
   ·injection e with e1
    exact ⟨g2, e1⟩
  obtain ⟨g2, hg2⟩ := hs
  obtain ⟨xA, xc⟩ := x
  simp only at hg2
  subst hg2
  exact ⟨(g2, xc), rfl, Wrs.of hO, row_low hr (Nat.zero_le _), fun b hb => .inr (hr.lt b hb).1, rfl⟩
/-! ### The points of edges, in the order in which they are found -/
theorem putP_len (xs : List Pn) (p : Pn) : (putP xs p).length ≤ xs.length + 1 := by
 have := posP_le xs p xs.length
 unfold putP
 split
 ·omega
 ·rw [List.length_append, List.length_cons, List.length_take, List.length_drop]; omega
theorem foldl_len (l : List Pn) : ∀ xs, (l.foldl putP xs).length ≤ xs.length + l.length := by
 induction l with
 | nil => intro xs; exact Nat.le_refl _
 | cons p l ih =>
  intro xs
  have h1 := ih (putP xs p)
  have h2 := putP_len xs p
  rw [List.foldl_cons, List.length_cons]
  omega
theorem putAll_len (l : List Pn) : (putAll l).length ≤ l.length := by have := foldl_len l []; simpa [putAll] using this
theorem putAll_app (l : List Pn) (p : Pn) : putAll (l ++ [p]) = putP (putAll l) p := by simp [putAll, List.foldl_append]
theorem row_from {w : World} {B N T s n : Nat} {v : Value} {xs : List Value} (h : w.ownsRow B T s v n xs) (hN : ∀ b, v.ownBlock = some b → N ≤ b) : w.ownsRow N T s v n xs := by
 refine ⟨h.1, ?_⟩
 rcases h.2 with e | ⟨g, cap, cur, rfl, hb, rest⟩
 ·exact .inl e
 ·exact .inr ⟨g, cap, cur, rfl, hN g rfl, rest⟩
end Go.Proofs.Ytjhaakollekjeaa
