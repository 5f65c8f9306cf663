/- Rings in order: points compared by rows, rings compared point by point, a ring with its least turn first (plain law). -/
import Derived.Test.YtakdjgldcpompaaStabP
import Derived.Test.YtakdjgldcpompaaHot
namespace Go.Proofs.Ytakdjgldcpompaa
open Go Go.RowKit
set_option linter.unusedVariables false
set_option linter.unusedSimpArgs false
set_option maxRecDepth 100000
set_option maxHeartbeats 4000000
set_option linter.unusedVariables false
set_option linter.unusedSimpArgs false

def yxC (p q : Pn) : Int := if p.2 = q.2 then sgn (p.1 - q.1) else sgn (p.2 - q.2)
theorem sgn_ltz {n : Int} : sgn n < 0 ↔ n < 0 := by unfold sgn; split <;> (try split) <;> omega
theorem sgn_eqz {n : Int} : sgn n = 0 ↔ n = 0 := by unfold sgn; split <;> (try split) <;> omega
theorem yxC_neg {p q : Pn} : yxC p q < 0 ↔ ltY p q := by
  unfold yxC ltY
  split
  · rw [sgn_ltz]; omega
  · rw [sgn_ltz]; omega
theorem yxC_zero {p q : Pn} : yxC p q = 0 ↔ p = q := by
  obtain ⟨a, b⟩ := p
  obtain ⟨c, d⟩ := q
  simp only [yxC, Prod.mk.injEq]
  split
  · rw [sgn_eqz]; omega
  · rw [sgn_eqz]; omega
/-- Two rings compared: point by point, then by length. -/
def lexC : List Pn → List Pn → Int
  | [], [] => 0
  | [], _ :: _ => -1
  | _ :: _, [] => 1
  | p :: a, q :: b => if yxC p q = 0 then lexC a b else yxC p q
def lexL (a b : List Pn) : Bool := decide (lexC a b < 0)
theorem lexL_nil {a : List Pn} : lexL a [] = false := by cases a <;> rfl
theorem lexL_nc {q : Pn} {b : List Pn} : lexL [] (q :: b) = true := rfl
theorem lexL_cons {p q : Pn} {a b : List Pn} : lexL (p :: a) (q :: b) = true ↔ ltY p q ∨ (p = q ∧ lexL a b = true) := by
  unfold lexL
  rw [decide_eq_true_eq, decide_eq_true_eq, lexC]
  split
  · rename_i h
    have := yxC_zero.1 h
    subst this
    exact ⟨fun h => .inr ⟨rfl, h⟩, fun h => h.elim (fun h => absurd h (ltY_irrefl p)) (·.2)⟩
  · rename_i h
    rw [yxC_neg]
    exact ⟨.inl, fun h' => h'.elim id fun h' => absurd (yxC_zero.2 h'.1) h⟩
theorem lexL_asym : ∀ a b : List Pn, lexL a b = true → lexL b a = false
  | _, [], h => by rw [lexL_nil] at h; cases h
  | [], q :: b, _ => lexL_nil
  | p :: a, q :: b, h => by
    rw [Bool.eq_false_iff, Ne, lexL_cons]
    intro h2
    rcases lexL_cons.1 h with h1 | ⟨rfl, h1⟩
    · rcases h2 with h2 | ⟨rfl, _⟩
      · exact ltY_irrefl p (ltY_trans h1 h2)
      · exact ltY_irrefl _ h1
    · rcases h2 with h2 | ⟨_, h2⟩
      · exact ltY_irrefl _ h2
      · rw [lexL_asym a b h1] at h2; cases h2
/-- Strictly ahead of one, so ahead of all or behind it. -/
theorem lexL_co : ∀ a b c : List Pn, lexL a c = true → lexL a b = true ∨ lexL b c = true
  | _, _, [], h => by rw [lexL_nil] at h; cases h
  | [], [], _ :: _, _ => .inr lexL_nc
  | _ :: _, [], _ :: _, _ => .inr lexL_nc
  | [], _ :: _, _ :: _, _ => .inl lexL_nc
  | p :: a, q :: b, r :: c, h => by
    rw [lexL_cons, lexL_cons]
    rcases ltY_tri p q with h1 | rfl | h1
    · exact .inl (.inl h1)
    · rcases lexL_cons.1 h with h2 | ⟨rfl, h2⟩
      · exact .inr (.inl h2)
      · rcases lexL_co a b c h2 with h3 | h3
        · exact .inl (.inr ⟨rfl, h3⟩)
        · exact .inr (.inr ⟨rfl, h3⟩)
    · rcases lexL_cons.1 h with h2 | ⟨rfl, h2⟩
      · exact .inr (.inl (ltY_trans h1 h2))
      · exact .inr (.inl h1)
theorem lexL_weak : Weak lexL := ⟨lexL_asym, fun a b c h1 h2 => by
  rw [Bool.eq_false_iff]
  intro h
  rcases lexL_co a b c h with h3 | h3
  · rw [h1] at h3; cases h3
  · rw [h2] at h3; cases h3⟩
theorem Weak.by {α β : Type} {lt : β → β → Bool} (W : Weak lt) (f : α → β) : Weak fun x y => lt (f x) (f y) := ⟨fun a b h => W.asym _ _ h, fun a b c h1 h2 => W.neg _ _ _ h1 h2⟩

/-! ### Step by step -/
theorem drop_pt {xs : List Pn} {k : Nat} (h : k < xs.length) : xs.drop k = pt xs k :: xs.drop (k + 1) := by
  rw [List.drop_eq_getElem_cons h, at_p h]
  rfl
theorem lexC_eq {xs ys : List Pn} {k : Nat} (h1 : k < xs.length) (h2 : k < ys.length) (h : pt xs k = pt ys k) : lexC (xs.drop k) (ys.drop k) = lexC (xs.drop (k + 1)) (ys.drop (k + 1)) := by
  rw [drop_pt h1, drop_pt h2, lexC, if_pos (yxC_zero.2 h)]
theorem lexC_ne {xs ys : List Pn} {k : Nat} (h1 : k < xs.length) (h2 : k < ys.length) (h : pt xs k ≠ pt ys k) : lexC (xs.drop k) (ys.drop k) = yxC (pt xs k) (pt ys k) := by
  rw [drop_pt h1, drop_pt h2, lexC, if_neg (fun h' => h (yxC_zero.1 h'))]
theorem lexC_end {xs ys : List Pn} {k : Nat} (h1 : k = xs.length) (h2 : k ≤ ys.length) : lexC (xs.drop k) (ys.drop k) = if k < ys.length then -1 else 0 := by
  rw [List.drop_of_length_le (by omega)]
  split
  · rename_i h; rw [drop_pt h]; rfl
  · rw [List.drop_of_length_le (by omega)]; rfl
theorem lexC_out {xs ys : List Pn} {k : Nat} (h1 : k < xs.length) (h2 : ys.length ≤ k) : lexC (xs.drop k) (ys.drop k) = 1 := by
  rw [drop_pt h1, List.drop_of_length_le h2]; rfl

/-! ### A ring with its least turn first -/
def rot (xs : List Pn) (k : Nat) : List Pn := xs.drop k ++ xs.take k
def turnK (xs : List Pn) : Nat → Nat
  | 0 => 0
  | k + 1 => if lexL (rot xs k) (rot xs (turnK xs k)) = true then k else turnK xs k
def turnP (xs : List Pn) : List Pn := rot xs (turnK xs xs.length)
theorem rot_len {xs : List Pn} {k : Nat} : (rot xs k).length = xs.length := by simp [rot]; omega
theorem rot_mem {xs : List Pn} {k : Nat} {p : Pn} : p ∈ rot xs k ↔ p ∈ xs := by
  unfold rot
  rw [List.mem_append, or_comm, ← List.mem_append, List.take_append_drop]
theorem rot_zero (xs : List Pn) : rot xs 0 = xs := by simp [rot]
theorem turnP_len {xs : List Pn} : (turnP xs).length = xs.length := rot_len
theorem turnP_mem {xs : List Pn} {p : Pn} : p ∈ turnP xs ↔ p ∈ xs := rot_mem
theorem lexL_self (a : List Pn) : lexL a a = false := by
  cases h : lexL a a
  · rfl
  · rw [lexL_asym a a h] at h; cases h
theorem turnK_one (xs : List Pn) : turnK xs 1 = 0 := by simp [turnK, lexL_self]
theorem turnK_lt (xs : List Pn) : ∀ k, 0 < k → turnK xs k < k
  | 0, h => absurd h (by omega)
  | 1, _ => by rw [turnK_one]; omega
  | k + 2, _ => by
    rw [turnK]
    split
    · omega
    · have := turnK_lt xs (k + 1) (by omega); omega
theorem pt_rot {xs : List Pn} {k j : Nat} (hk : k < xs.length) (hj : j < xs.length) : pt (rot xs k) j = pt xs ((k + j) % xs.length) := by
  have e : (rot xs k)[j]? = xs[(k + j) % xs.length]? := by
    unfold rot
    by_cases h : j < xs.length - k
    · rw [List.getElem?_append_left (by simpa using h), List.getElem?_drop, Nat.mod_eq_of_lt (by omega)]
    · rw [List.getElem?_append_right (by simpa using h), List.length_drop, List.getElem?_take, if_pos (by omega)]
      congr 1
      rw [Nat.mod_eq_sub_mod (by omega), Nat.mod_eq_of_lt (by omega)]
      omega
  simp only [pt, px, py, List.getD_eq_getElem?_getD, e]
/-- A turn whose first point comes behind is not ahead. -/
theorem lexL_head {xs ys : List Pn} (h1 : 0 < xs.length) (h2 : 0 < ys.length) (h : 0 < yxC (pt xs 0) (pt ys 0)) : lexL xs ys = false := by
  have := lexC_ne (k := 0) h1 h2 (fun e => by rw [yxC_zero.2 e] at h; omega)
  rw [List.drop_zero, List.drop_zero] at this
  unfold lexL
  rw [this, decide_eq_false_iff_not]
  omega
theorem pt_rot0 {xs : List Pn} {k : Nat} (hk : k < xs.length) : pt (rot xs k) 0 = pt xs k := by rw [pt_rot hk (by omega), Nat.add_zero, Nat.mod_eq_of_lt hk]
theorem turnK_yes {xs : List Pn} {k : Nat} (h : lexL (rot xs k) (rot xs (turnK xs k)) = true) : turnK xs (k + 1) = k := by rw [turnK, if_pos h]
theorem turnK_no {xs : List Pn} {k : Nat} (h : lexL (rot xs k) (rot xs (turnK xs k)) = false) : turnK xs (k + 1) = turnK xs k := by rw [turnK, if_neg (by rw [h]; decide)]
theorem rot_take_step {xs : List Pn} {k j : Nat} (hk : k < xs.length) (hj : j < xs.length) : ((rot xs k).take j).flatMap ptCells ++ ptCells (pt xs ((k + j) % xs.length)) = ((rot xs k).take (j + 1)).flatMap ptCells := by
  rw [List.take_succ_eq_append_getElem (by rw [rot_len]; exact hj), List.flatMap_append, at_p (by rw [rot_len]; exact hj)]
  have := pt_rot hk hj
  unfold pt at this
  rw [this]
  simp [pt]
/-- Where a ring is put among rings in order. -/
theorem insS_at {α : Type} {lt : α → α → Bool} (W : Weak lt) {l : List α} (hs : Srt lt l) {x : α} {k : Nat} (hk : k ≤ l.length) (hi : ∀ q ∈ l.drop k, lt x q = true) (hlo : k = 0 ∨ ∃ p, l[k - 1]? = some p ∧ lt x p = false) : insS lt x l = l.take k ++ x :: l.drop k := by
  have := insS_cut (lt := lt) x (l.take k) (l.drop k) (fun p hp => ?_) (fun q hq => hi q (List.mem_of_mem_head? hq))
  · rwa [List.take_append_drop] at this
  · rcases hlo with rfl | ⟨r, hr, hx⟩
    · simp at hp
    · obtain ⟨i, hi', e⟩ := List.getElem_of_mem hp
      rw [List.length_take] at hi'
      rw [List.getElem_take] at e
      obtain ⟨hr1, rfl⟩ := List.getElem?_eq_some_iff.1 hr
      subst e
      rcases Nat.lt_or_eq_of_le (show i ≤ k - 1 by omega) with h1 | rfl
      · exact W.neg _ _ _ hx (List.pairwise_iff_getElem.1 hs i (k - 1) (by omega) hr1 h1)
      · exact hx
theorem compareYX_p (p q : Pn) (w : World) (hp : bdW p) (hq : bdW q) : Calls Try.prog 27 #[pV p, pV q] w fun e w' => e = .returned (.int .i64 (yxC p q)) ∧ Over w w' := by
  obtain ⟨⟨p1, p2⟩, p3, p4⟩ := hp
  obtain ⟨⟨q1, q2⟩, q3, q4⟩ := hq
  refine walk_from (m := 22) (Try.func27) rfl rfl (Nat.le_of_ble_eq_true rfl) ?_
  refine at_seq ?_
  refine at_region ?_
  refine at_op rfl ?_
  refine op_box rfl rfl (rfl) rfl (by decide) (fun b1 => ?_)
  refine at_rsE (by simp only [List.nil_append, List.cons_append, List.set_cons_zero, List.set_cons_succ, Value.cells, List.toList_toArray]; rfl) ?_
  refine at_op rfl ?_
  refine op_box rfl rfl (rfl) rfl (by decide) (fun b2 => ?_)
  refine at_rsE (by simp only [List.nil_append, List.cons_append, List.set_cons_zero, List.set_cons_succ, Value.cells, List.toList_toArray]; rfl) ?_
  refine at_q rfl rfl (by decide) (qt_assign rfl rfl) ?_
  refine at_end ?_
  refine at_seq ?_
  refine at_seq ?_
  refine at_region ?_
  refine at_q rfl rfl (by decide) (qt_fieldAddr rfl rfl tyf_impl_Pt_1) ?_
  refine at_q rfl rfl (by decide) (qt_load1 rfl rfl ty1_int64 (rd1 (k := 0) rfl rfl)) ?_
  refine at_q rfl rfl (by decide) (qt_fieldAddr rfl rfl tyf_impl_Pt_1) ?_
  refine at_q rfl rfl (by decide) (qt_load1 rfl rfl ty1_int64 (rd1 (k := 1) rfl rfl)) ?_
  refine at_q rfl rfl (by decide) (qt_neq rfl rfl rfl) ?_
  refine at_end ?_
  refine at_cond rfl (fun c1 => ?_) (fun c1 => ?_)
  · try simp only [decide_eq_true_eq, decide_eq_false_iff_not, beq_iff_eq, beq_eq_false_iff_ne, Bool.not_eq_true', Bool.not_eq_false', Bool.not_true, Bool.not_false, Int.not_lt, Int.not_le, ne_eq, Nat.not_lt, Nat.not_le] at c1
    refine at_seq ?_
    refine at_region ?_
    refine at_q rfl rfl (by decide) (qt_fieldAddr rfl rfl tyf_impl_Pt_1) ?_
    refine at_q rfl rfl (by decide) (qt_load1 rfl rfl ty1_int64 (rd1 (k := 0) rfl rfl)) ?_
    refine at_q rfl rfl (by decide) (qt_fieldAddr rfl rfl tyf_impl_Pt_1) ?_
    refine at_q rfl rfl (by decide) (qt_load1 rfl rfl ty1_int64 (rd1 (k := 1) rfl rfl)) ?_
    refine at_q rfl rfl (by decide) (qt_sub rfl rfl rfl (by omega) (by omega)) ?_
    refine at_q rfl rfl (by decide) (qt_call ok_impl_sign64 rfl rfl (fun w h => Calls.still (sign64_any _ w))) ?_
    refine at_q rfl rfl (by decide) (qt_assign rfl rfl) ?_
    refine at_end ?_
    refine at_retc ?_
    refine then_ret ?_
    refine at_ret1 rfl (.tmp rfl) ?_
    intro w' hs
    exact ⟨by rw [yxC, if_neg c1], hs.fin⟩
  · try simp only [decide_eq_true_eq, decide_eq_false_iff_not, beq_iff_eq, beq_eq_false_iff_ne, Bool.not_eq_true', Bool.not_eq_false', Bool.not_true, Bool.not_false, Int.not_lt, Int.not_le, ne_eq, Nat.not_lt, Nat.not_le] at c1
    refine at_skip ?_
    refine norm_then ?_
    refine at_seq ?_
    refine at_region ?_
    refine at_q rfl rfl (by decide) (qt_fieldAddr rfl rfl tyf_impl_Pt_0) ?_
    refine at_q rfl rfl (by decide) (qt_load1 rfl rfl ty1_int64 (rd1 (k := 0) rfl rfl)) ?_
    refine at_q rfl rfl (by decide) (qt_fieldAddr rfl rfl tyf_impl_Pt_0) ?_
    refine at_q rfl rfl (by decide) (qt_load1 rfl rfl ty1_int64 (rd1 (k := 1) rfl rfl)) ?_
    refine at_q rfl rfl (by decide) (qt_sub rfl rfl rfl (by omega) (by omega)) ?_
    refine at_q rfl rfl (by decide) (qt_call ok_impl_sign64 rfl rfl (fun w h => Calls.still (sign64_any _ w))) ?_
    refine at_q rfl rfl (by decide) (qt_assign rfl rfl) ?_
    refine at_end ?_
    refine at_retc ?_
    refine at_ret1 rfl (.tmp rfl) ?_
    intro w' hs
    exact ⟨by rw [yxC, if_pos (by omega)], hs.fin⟩
theorem Pts.dropT {w : World} {b o n c k : Nat} {xs : List Pn} (h : Pts w (some ⟨b, o, none⟩) n xs) (hk : k ≤ n) (hc : n ≤ c) : Pts w (some ⟨b, offL o k c 2, none⟩) (n - k) (xs.drop k) := by
  have hl := h.1
  refine ⟨by rw [List.length_drop, hl], fun h0 => ?_⟩
  obtain ⟨b', o', e, hlt, hx⟩ := h.2 (by omega)
  injection e with e
  injection e with e1 e2
  subst e1 e2
  refine ⟨_, _, rfl, hlt, fun j hj => ?_⟩
  have hd : ∀ j, px (xs.drop k) j = px xs (k + j) ∧ py (xs.drop k) j = py xs (k + j) := fun j => by
    simp only [px, py, List.getD_eq_getElem?_getD, List.getElem?_drop]
    exact ⟨trivial, trivial⟩
  rw [offL, if_neg (by omega), (hd j).1, (hd j).2, show o + k * 2 + j * 2 = o + (k + j) * 2 by omega]
  exact hx (k + j) (by omega)
theorem Pts.takeT {w : World} {A : Option Addr} {n k : Nat} {xs : List Pn} (h : Pts w A n xs) (hk : k ≤ n) : Pts w A k (xs.take k) := by
  have hl := h.1
  refine ⟨by rw [List.length_take]; omega, fun h0 => ?_⟩
  obtain ⟨b, o, e, hlt, hx⟩ := h.2 (by omega)
  refine ⟨b, o, e, hlt, fun j hj => ?_⟩
  have hd : px (xs.take k) j = px xs j ∧ py (xs.take k) j = py xs j := by
    simp only [px, py, List.getD_eq_getElem?_getD, List.getElem?_take, if_pos hj]
    exact ⟨trivial, trivial⟩
  rw [hd.1, hd.2]
  exact hx j (by omega)
end Go.Proofs.Ytakdjgldcpompaa
