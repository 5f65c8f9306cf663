/- How two segments meet, the reference's way; snapped regions. -/
import Derived.Test.YtbdlbemlgghgbaaMeet
import Derived.Test.YtbdlbemlgghgbaaSnapped
import Derived.Test.YtbdlbemlgghgbaaLex
namespace Go.Proofs.Ytbdlbemlgghgbaa
open Go Go.RowKit
set_option linter.unusedVariables false

theorem l03Turn_p (a b c : Pn) (w : World) (ha : bd2 a) (hb : bd2 b) (hc : bd2 c) : Calls Try.prog 77 #[pV a, pV b, pV c] w fun e w' => e = .returned (.int .i64 (tn a b c)) ∧ Over w w' := by
  obtain ⟨a1, a2⟩ := bd2_wide ha; obtain ⟨b1, b2⟩ := bd2_wide hb; obtain ⟨c1, c2⟩ := bd2_wide hc
  exact l03Turn_any a.1 a.2 b.1 b.2 c.1 c.2 w a1.1 a1.2 a2.1 a2.2 b1.1 b1.2 b2.1 b2.2 c1.1 c1.2 c2.1 c2.2
section
variable {w0 : Bs} {Rs : List Res}
/-- A point of a slice of points, in all worlds in which it reads so. -/
theorem rdPtsR {b o m j : Nat} {xs : List (Int × Int)} (h : ∀ w, St w0 Rs w → Pts w (some ⟨b, o, none⟩) m xs) (hj : j < m) : ∀ w', St w0 Rs w' → ∀ q v, [Value.int .i64 (px xs j), Value.int .i64 (py xs j)][q]? = some v → w'.cell? ⟨b, o + j * 2 + q, none⟩ = some v := fun w' hs q v hv => by
  obtain ⟨b', o', e, _, h1, h2⟩ := (h w' hs).at_ hj
  injection e with e
  injection e with e1 e2 _
  subst e1 e2
  match q, hv with
  | 0, hv => simp at hv; subst hv; exact h1
  | 1, hv => simp at hv; subst hv; exact h2
end
def four (a b c d : Pn) (i : Nat) : Pn := [a, b, c, d].getD i (0, 0)
theorem four_bd {a b c d : Pn} (ha : bd2 a) (hb : bd2 b) (hc : bd2 c) (hd : bd2 d) {i : Nat} (hi : i < 4) : bd2 (four a b c d i) := by
  match i, hi with
  | 0, _ => exact ha
  | 1, _ => exact hb
  | 2, _ => exact hc
  | 3, _ => exact hd
theorem four_cells_ (a b c d : Pn) {i : Nat} (hi : i < 4) : [Value.int .i64 a.1, .int .i64 a.2, .int .i64 b.1, .int .i64 b.2, .int .i64 c.1, .int .i64 c.2, .int .i64 d.1, .int .i64 d.2][0 + i * 2]? = some (.int .i64 (four a b c d i).1) ∧
    [Value.int .i64 a.1, .int .i64 a.2, .int .i64 b.1, .int .i64 b.2, .int .i64 c.1, .int .i64 c.2, .int .i64 d.1, .int .i64 d.2][0 + i * 2 + 1]? = some (.int .i64 (four a b c d i).2) := by
  match i, hi with
  | 0, _ => exact ⟨rfl, rfl⟩
  | 1, _ => exact ⟨rfl, rfl⟩
  | 2, _ => exact ⟨rfl, rfl⟩
  | 3, _ => exact ⟨rfl, rfl⟩
/-- The ends found among the first i. -/
def endsK (a b c d : Pn) : Nat → List Pn
  | 0 => []
  | i + 1 => addE a b c d (endsK a b c d i) (four a b c d i)
theorem endsK_all (a b c d : Pn) : endsK a b c d 4 = endsM a b c d := rfl
theorem endsK_len (a b c d : Pn) : ∀ i, (endsK a b c d i).length ≤ i
  | 0 => by simp [endsK]
  | i + 1 => by
    have := endsK_len a b c d i
    simp only [endsK, addE]
    split
    · simp; omega
    · omega
theorem contains_step {es : List Pn} {k : Nat} (hk : k < es.length) (p : Pn) : (es.take (k + 1)).contains p = ((es.take k).contains p || (px es k == p.1 && py es k == p.2)) := by
  rw [List.take_succ_eq_append_getElem hk]
  rw [Bool.eq_iff_iff]
  simp only [List.contains_eq_mem, List.mem_append, List.mem_singleton, decide_eq_true_eq, Bool.or_eq_true, Bool.and_eq_true, beq_iff_eq]
  rw [at_p hk]
  obtain ⟨x, y⟩ := p
  simp only [Prod.mk.injEq]
  constructor
  · rintro (h | h)
    · exact .inl h
    · exact .inr ⟨h.1.symm, h.2.symm⟩
  · rintro (h | h)
    · exact .inl h
    · exact .inr ⟨h.1.symm, h.2.symm⟩
theorem endsK_step {a b c d : Pn} {i : Nat} {t : Bool} (h : t = (!((endsK a b c d i).contains (four a b c d i)) && bothM a b c d (four a b c d i))) : endsK a b c d (i + 1) = if t = true then endsK a b c d i ++ [four a b c d i] else endsK a b c d i := by rw [h]; rfl
theorem meetS_len {a b c d : Pn} : ((endsM a b c d).length = 0 → meetS a b c d = if strictM a b c d = true then 2 else 0) ∧ ((endsM a b c d).length = 1 → meetS a b c d = 1) ∧ (¬ (endsM a b c d).length = 0 → ¬ (endsM a b c d).length = 1 → meetS a b c d = 3) := by
  unfold meetS
  refine ⟨fun h => by rw [if_pos h], fun h => by rw [if_neg (by omega), if_pos h], fun h h' => by rw [if_neg h, if_neg h']⟩
section
variable {w : World} {Rs : List Res}
/-- The four cells of an edge that came in. -/
theorem rdL4 {b o : Nat} {l : Leg} (h : ∀ q v, (legCells l)[q]? = some v → w.cell? ⟨b, o + q, none⟩ = some v) (hb : b < w.heap.size) :
    (∀ w', St ⟨w, []⟩ Rs w' → w'.cell? ⟨b, o + 0 + 0, none⟩ = some (.int .i64 l.ax)) ∧ (∀ w', St ⟨w, []⟩ Rs w' → w'.cell? ⟨b, o + 0 + 1, none⟩ = some (.int .i64 l.ay)) ∧
    (∀ w', St ⟨w, []⟩ Rs w' → w'.cell? ⟨b, o + 2 + 0, none⟩ = some (.int .i64 l.bx)) ∧ (∀ w', St ⟨w, []⟩ Rs w' → w'.cell? ⟨b, o + 2 + 1, none⟩ = some (.int .i64 l.b_y)) :=
  ⟨rdOld (h 0 _ rfl) hb, rdOld (h 1 _ rfl) hb, rdOld (h 2 _ rfl) hb, rdOld (h 3 _ rfl) hb⟩
end
def psL (e f : Leg) : Bool := pairS (lA e) (lB e) (lA f) (lB f)
theorem psL_pairL {e f : Leg} (he : legOk e) (hf : legOk f) (ne : lA e ≠ lB e) (nf : lA f ≠ lB f) : psL e f = pairL e f := (pair_same (lA_ok he) (lB_ok he) (lA_ok hf) (lB_ok hf) ne nf).symm
def touchNo (e f : Leg) : Bool := !(e.ax == f.ax && e.ay == f.ay) && !(e.ax == f.bx && e.ay == f.b_y) && !(e.bx == f.ax && e.b_y == f.ay) && !(e.bx == f.bx && e.b_y == f.b_y)
def lapNo (e f : Leg) : Bool := !((e.ax == f.ax && e.ay == f.ay) && (e.bx == f.bx && e.b_y == f.b_y)) && !((e.ax == f.bx && e.ay == f.b_y) && (e.bx == f.ax && e.b_y == f.ay))
theorem ps_apart {e f : Leg} (h : apartM (lA e) (lB e) (lA f) (lB f) = true) : psL e f = true := by rw [psL, pairS, if_pos h]
theorem ps_cross {e f : Leg} (h : apartM (lA e) (lB e) (lA f) (lB f) = false) (m : meetS (lA e) (lB e) (lA f) (lB f) = 2) : psL e f = false := by rw [psL, pairS, if_neg (by rw [h]; simp), if_pos m]
theorem ps_touch {e f : Leg} (h : apartM (lA e) (lB e) (lA f) (lB f) = false) (m : meetS (lA e) (lB e) (lA f) (lB f) = 1) : psL e f = !touchNo e f := by
  rw [psL, pairS, if_neg (by rw [h]; simp), if_neg (by rw [m]; decide), if_pos m]
  congr 1
  rw [Bool.eq_iff_iff]
  simp only [touchNo, Bool.and_eq_true, decide_eq_true_eq, Bool.not_eq_true', Bool.and_eq_false_iff, beq_eq_false_iff_ne, ne_eq]
  simp only [lA, lB, Prod.mk.injEq]
  omega
theorem ps_lap {e f : Leg} (h : apartM (lA e) (lB e) (lA f) (lB f) = false) (m : meetS (lA e) (lB e) (lA f) (lB f) = 3) : psL e f = !lapNo e f := by
  rw [psL, pairS, if_neg (by rw [h]; simp), if_neg (by rw [m]; decide), if_neg (by rw [m]; decide), if_pos m]
  rw [Bool.eq_iff_iff]
  have hb : ∀ P Q : Bool, (!(!P && !Q)) = (P || Q) := by decide
  simp only [lapNo, hb, Bool.or_eq_true, Bool.and_eq_true, decide_eq_true_eq, beq_iff_eq]
  simp only [lA, lB, Prod.mk.injEq]
theorem ps_none {e f : Leg} (h : apartM (lA e) (lB e) (lA f) (lB f) = false) (m2 : ¬ meetS (lA e) (lB e) (lA f) (lB f) = 2) (m1 : ¬ meetS (lA e) (lB e) (lA f) (lB f) = 1) (m3 : ¬ meetS (lA e) (lB e) (lA f) (lB f) = 3) : psL e f = true := by rw [psL, pairS, if_neg (by rw [h]; simp), if_neg m2, if_neg m1, if_neg m3]
theorem lg_ne {ls : List Leg} (h : ∀ l ∈ ls, lA l ≠ lB l) {k : Nat} (hk : k < ls.length) : lA (lg ls k) ≠ lB (lg ls k) := by
  rw [← at_l hk]
  exact h _ (List.getElem_mem hk)
theorem rowLt {w : World} {w0 : Bs} {Rs : List Res} {k B T s n g c : Nat} {xs : List Value} (hk : Rs[k]? = some (rowR B T s n xs (some ⟨g, 0, none⟩, c))) (hs : St w0 Rs w) (_hn : 0 < n) : g < w.heap.size := by
  have h : w.ownsRow B T s (.slice (some ⟨g, 0, none⟩) n c) n xs := (hs.all k _ hk).1
  exact (h.lt g rfl).2
end Go.Proofs.Ytbdlbemlgghgbaa
