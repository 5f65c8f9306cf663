/- The points of all rings; the bounds of a region: both sides. -/
import Derived.Test.YtnalgllmdpcjcaaReg3
namespace Go.Proofs.Ytnalgllmdpcjcaa
open Go Go.RowKit
set_option linter.unusedVariables false
set_option linter.unusedSimpArgs false
set_option maxRecDepth 100000
set_option maxHeartbeats 4000000

def ptsTo (rs : List Ring_) : Nat → List (Int × Int)
  | 0 => []
  | k + 1 => ptsTo rs k ++ rg rs k
def ptsAll (rs : List Ring_) : List (Int × Int) := ptsTo rs rs.length
theorem ptsTo_len (rs : List Ring_) : ∀ k, (ptsTo rs k).length = sumTo rs k
  | 0 => rfl
  | k + 1 => by simp [ptsTo, sumTo, ptsTo_len rs k]
theorem ptCells_len (xs : List (Int × Int)) : (xs.flatMap ptCells).length = xs.length * 2 := by
  induction xs with
  | nil => rfl
  | cons a r ih => rw [List.flatMap_cons, List.length_append, ih]; simp [ptCells]; omega
theorem ptCells_one (xs : List (Int × Int)) : ∀ u ∈ xs.flatMap ptCells, u.oneCell' = true := by
  intro u hu
  obtain ⟨p, _, hp⟩ := List.mem_flatMap.1 hu
  simp [ptCells] at hp
  rcases hp with rfl | rfl <;> rfl
theorem ptFlat : ∀ (xs : List (Int × Int)) (k j : Nat) (hk : k < xs.length), j < 2 → (xs.flatMap ptCells)[k * 2 + j]? = (ptCells xs[k])[j]?
  | [], _, _, h, _ => absurd h (by simp)
  | a :: r, 0, j, _, hj => by
    rw [List.flatMap_cons, Nat.zero_mul, Nat.zero_add, List.getElem?_append_left (by simpa [ptCells] using hj)]
    rfl
  | a :: r, k + 1, j, h, hj => by
    have hl : (ptCells a).length = 2 := rfl
    rw [List.flatMap_cons, List.getElem?_append_right (by rw [hl]; omega), hl]
    have := ptFlat r k j (by simpa using h) hj
    rw [show (k + 1) * 2 + j - 2 = k * 2 + j by omega, this]
    rfl
/-- Points that came in, as what is appended. -/
theorem srcPts {w : World} {A : Option Addr} {n c : Nat} {xs : List (Int × Int)} (h : Pts w A n xs) (hn : 0 < n) : Src 2 (.slice A n c) n (xs.flatMap ptCells) w := by
  refine ⟨by rw [ptCells_len, h.1], .inr ?_⟩
  obtain ⟨b, o, rfl, hb, hc⟩ := h.2 hn
  refine ⟨_, c, rfl, fun j u hu => ?_⟩
  have hj : j < xs.length * 2 := by have := (List.getElem?_eq_some_iff.1 hu).1; rwa [ptCells_len] at this
  have hl := h.1
  have e : j = j / 2 * 2 + j % 2 := by omega
  have hf := ptFlat xs (j / 2) (j % 2) (by omega) (by omega)
  rw [← e, hu, at_p (by omega)] at hf
  obtain ⟨h1, h2⟩ := hc (j / 2) (by omega)
  rw [add_none]
  rcases (show j % 2 = 0 ∨ j % 2 = 1 by omega) with e2 | e2
  · rw [e2] at hf
    rw [show o + j = o + j / 2 * 2 by omega, h1]
    simpa [ptCells] using hf.symm
  · rw [e2] at hf
    rw [show o + j = o + j / 2 * 2 + 1 by omega, h2]
    simpa [ptCells] using hf.symm
/-- A row of points, as points. -/
theorem ptsRow {w : World} {B T n : Nat} {A : Option Addr} {c : Nat} {xs : List (Int × Int)} (h : w.ownsRow B T 2 (.slice A n c) n (xs.flatMap ptCells)) (hn : xs.length = n) : Pts w A n xs := by
  refine ⟨hn, fun h0 => ?_⟩
  rcases h.2 with ⟨_, e⟩ | ⟨g, cap, cur, e, hb, hg, hcap, hmax, hsz, htk⟩
  · omega
  · injection e with e1 e2 e3
    subst e1
    refine ⟨g, 0, rfl, lt_of_some hg, fun k hk => ?_⟩
    have hf := fun q hq => ptFlat xs k q (by omega) hq
    have hc : ∀ j, j < n * 2 → cur[j]? = (xs.flatMap ptCells)[j]? := fun j hj => by
      rw [← htk, List.getElem?_take, if_pos hj]
      simp
    rw [cell_of_row w g _ _ T (0, 0) hg, cell_of_row w g _ _ T (0, 0) hg, Nat.zero_add, hc _ (by omega), hc _ (by omega)]
    have h0 := hf 0 (by omega)
    have h1 := hf 1 (by omega)
    rw [at_p (by omega)] at h0 h1
    exact ⟨by simpa [ptCells] using h0, by simpa [ptCells] using h1⟩
theorem rowCap {w : World} {B T s n : Nat} {A : Option Addr} {c : Nat} {xs : List Value} (h : w.ownsRow B T s (.slice A n c) n xs) : n ≤ c := by
  rcases h.2 with ⟨e, _⟩ | ⟨g, cap, cur, e, hb, hg, hcap, hmax, hsz, htk⟩
  · injection e; omega
  · injection e; omega
theorem rowForm {w : World} {w0 : Bs} {Rs : List Res} {k B T s n : Nat} {v : Value} {xs : List Value} (hk : Rs[k]? = some (.row B T s v n xs)) (hs : St w0 Rs w) : ∃ A c, v = .slice A n c := by
  obtain ⟨x, e⟩ := row_slice (hs.all k _ hk).1
  exact ⟨x.1, x.2, e⟩
/-- A ring of a slice of rings, where it lies. -/
theorem Rings.form {w : World} {A : Option Addr} {n : Nat} {rs : List Ring_} (h : Rings w A n rs) (hn : 0 < n) : ∃ b o, A = some ⟨b, o, none⟩ := by
  obtain ⟨b, o, hA, _⟩ := h.2 hn
  exact ⟨b, o, hA⟩
theorem reg_len {rs : List Ring_} (h : regionB rs = true) : rs.length ≤ 40 := by
  simp [regionB] at h
  omega
theorem sumTo_le {rs : List Ring_} (h : regionB rs = true) : ∀ k, k ≤ rs.length → sumTo rs k ≤ 400 * k
  | 0, _ => by simp [sumTo]
  | k + 1, hk => by
    have := sumTo_le h k (by omega)
    have h2 := regRing h (show k < rs.length by omega)
    simp only [sumTo]
    simp [ringB, inB] at h2
    omega

def rgbV (rs : List Ring_) : Value :=
  if regionB rs = true then (if rs.length = 0 then .tuple #[ptV 0 0, ptV 0 0, .int .i64 6] else .tuple #[ptV (loX (ptsAll rs) (ptsAll rs).length) (loY (ptsAll rs) (ptsAll rs).length), ptV (hiX (ptsAll rs) (ptsAll rs).length) (hiY (ptsAll rs) (ptsAll rs).length), .int .i64 0])
  else .tuple #[ptV 0 0, ptV 0 0, .int .i64 1]

section
variable {w : World} {Rs : List Res}
/-- A cell that was there, in later worlds: by itself, as a struct of one cell. -/
theorem rdOld {b o : Nat} {v : Value} (hc : w.cell? ⟨b, o, none⟩ = some v) (hb : b < w.heap.size) : ∀ w', St ⟨w, []⟩ Rs w' → w'.cell? ⟨b, o, none⟩ = some v := fun w' hs => ((ocell hs.fin).1 b o hb).trans hc
theorem rdOld1 {b o k : Nat} {v : Value} (hc : w.cell? ⟨b, o + k, none⟩ = some v) (hb : b < w.heap.size) : ∀ w', St ⟨w, []⟩ Rs w' → ∀ q u, [v][q]? = some u → w'.cell? ⟨b, o + k * 1 + q, none⟩ = some u := fun w' hs q u hq => by
  match q, hq with
  | 0, hq => simp at hq; subst hq; rw [Nat.mul_one, Nat.add_zero]; exact rdOld hc hb w' hs
theorem rdOld0 {b o : Nat} {v : Value} (hc : w.cell? ⟨b, o, none⟩ = some v) (hb : b < w.heap.size) : ∀ w', St ⟨w, []⟩ Rs w' → w'.cell? ⟨b, o + 0, none⟩ = some v := fun w' hs => rdOld hc hb w' hs
theorem rdOldF {b o k : Nat} {v : Value} (hc : w.cell? ⟨b, o + k, none⟩ = some v) (hb : b < w.heap.size) : ∀ w', St ⟨w, []⟩ Rs w' → w'.cell? ⟨b, o + k * 1 + 0, none⟩ = some v := fun w' hs => by rw [Nat.mul_one, Nat.add_zero]; exact rdOld hc hb w' hs
end
theorem ptsTo_cells (rs : List Ring_) (k : Nat) : (ptsTo rs k).flatMap ptCells ++ (rg rs k).flatMap ptCells = (ptsTo rs (k + 1)).flatMap ptCells := by simp [ptsTo]
theorem pos_of_ring {xs : List (Int × Int)} (h : ringB xs = true) : 0 < xs.length ∧ xs.length ≤ 400 := by simp [ringB, inB] at h; omega

theorem sumTo_ge {rs : List Ring_} (h : regionB rs = true) : ∀ k, k ≤ rs.length → k ≤ sumTo rs k
  | 0, _ => by simp
  | k + 1, hk => by
    have := sumTo_ge h k (by omega)
    have h2 := pos_of_ring (regRing h (show k < rs.length by omega))
    simp only [sumTo]
    omega
theorem rgb_none {rs : List Ring_} (h : regionB rs = true) (h0 : rs.length = 0) : Ending.returned (.tuple #[ptV 0 0, ptV 0 0, .int .i64 6]) = Ending.returned (rgbV rs) := by simp [rgbV, h, h0]
theorem rgb_some {rs : List Ring_} (h : regionB rs = true) (h0 : ¬ rs.length = 0) : Ending.returned (.tuple #[ptV (loX (ptsAll rs) (ptsAll rs).length) (loY (ptsAll rs) (ptsAll rs).length), ptV (hiX (ptsAll rs) (ptsAll rs).length) (hiY (ptsAll rs) (ptsAll rs).length), .int .i64 0]) = Ending.returned (rgbV rs) := by rw [rgbV, if_pos h, if_neg h0]
theorem RegionBounds_any (A : Option Addr) (n c : Nat) (rs : List Ring_) (w : World) (h : Rings w A n rs) (ht : (total rs : Int) ≤ 1048577) :
    Calls Try.prog 28 #[regV A n c] w fun e w' => e = .returned (rgbV rs) ∧ Over w w' := by
  have hl := h.1
  refine walk_from (m := 39) (Try.func28) rfl rfl (Nat.le_of_ble_eq_true rfl) ?_
  refine at_seq ?_
  refine at_region ?_
  refine at_op rfl ?_
  refine op_box rfl rfl (rfl) rfl (by decide) (fun b1 => ?_)
  refine at_rsE (by simp only [List.nil_append, List.cons_append, List.set_cons_zero, List.set_cons_succ, Value.cells, List.toList_toArray]; rfl) ?_
  refine at_op rfl ?_
  refine op_alloc rfl tyz_impl_Pt rfl (by decide) (fun b2 => ?_)
  refine at_rsE (by simp only [List.nil_append, List.cons_append, List.set_cons_zero, List.set_cons_succ, Value.cells, List.toList_toArray]; rfl) ?_
  refine at_op rfl ?_
  refine op_alloc rfl tyz_impl_Pt rfl (by decide) (fun b3 => ?_)
  refine at_rsE (by simp only [List.nil_append, List.cons_append, List.set_cons_zero, List.set_cons_succ, Value.cells, List.toList_toArray]; rfl) ?_
  refine at_q rfl rfl (by decide) (qt_assign rfl rfl) ?_
  refine at_end ?_
  refine at_seq ?_
  refine at_seq ?_
  refine at_region ?_
  refine at_q rfl rfl (by decide) (qt_loadS rfl rfl tys_impl_Region rfl (rdAll (k := 0) rfl)) ?_
  refine at_q rfl rfl (by decide) (qt_call ok_impl_ValidRegion rfl rfl (fun w1 hs => ValidRegion_any A n c rs w1 (h.over hs.fin) ht)) ?_
  refine at_q rfl rfl (by decide) (qt_not rfl rfl) ?_
  refine at_end ?_
  refine at_cond rfl (fun c1 => ?_) (fun c1 => ?_)
  · try simp only [decide_eq_true_eq, decide_eq_false_iff_not, beq_iff_eq, beq_eq_false_iff_ne, Bool.not_eq_true', Bool.not_eq_false', Bool.not_true, Bool.not_false, Int.not_lt, Int.not_le, ne_eq, Nat.not_lt, Nat.not_le] at c1
    refine at_seq ?_
    refine at_region ?_
    refine at_q rfl rfl (by decide) (qt_build rfl rfl (bld_impl_Pt_)) ?_
    refine at_q rfl rfl (by decide) (qt_build rfl rfl (bld_impl_Pt_)) ?_
    refine at_op rfl ?_
    refine op_storeAll' (k := 1) rfl rfl rfl rfl (rfl) (by rfl) tyz_impl_Pt.szx rfl rfl rfl ?_
    refine at_rsE (by simp only [List.nil_append, List.cons_append, List.set_cons_zero, List.set_cons_succ, Value.cells, List.toList_toArray]; rfl) ?_
    refine at_op rfl ?_
    refine op_storeAll' (k := 2) rfl rfl rfl rfl (rfl) (by rfl) tyz_impl_Pt.szx rfl rfl rfl ?_
    refine at_rsE (by simp only [List.nil_append, List.cons_append, List.set_cons_zero, List.set_cons_succ, Value.cells, List.toList_toArray]; rfl) ?_
    refine at_q rfl rfl (by decide) (qt_assign rfl rfl) ?_
    refine at_end ?_
    refine at_retc ?_
    refine then_ret ?_
    refine at_ret3 rfl (rvCelS (k := 1) rfl tys_impl_Pt rfl rfl) (rvCelS (k := 2) rfl tys_impl_Pt rfl rfl) (.tmp rfl) ?_
    intro w' hs
    exact ⟨by simp [rgbV, c1], hs.fin⟩
  · try simp only [decide_eq_true_eq, decide_eq_false_iff_not, beq_iff_eq, beq_eq_false_iff_ne, Bool.not_eq_true', Bool.not_eq_false', Bool.not_true, Bool.not_false, Int.not_lt, Int.not_le, ne_eq, Nat.not_lt, Nat.not_le] at c1
    have hr : regionB rs = true := by simpa using c1
    have hn40 := reg_len hr
    refine at_skip ?_
    refine norm_then ?_
    refine at_seq ?_
    refine at_region ?_
    refine at_q rfl rfl (by decide) (qt_assign rfl rfl) ?_
    refine at_row0 (T := 24) (s := 2) ?_
    refine at_rsE (by simp only [List.nil_append, List.cons_append, List.set_cons_zero, List.set_cons_succ, Value.cells, List.toList_toArray]; rfl) ?_
    refine at_end ?_
    refine at_seq ?_
    refine at_seq ?_
    refine at_region ?_
    refine at_q rfl rfl (by decide) (qt_fieldAddr rfl rfl tyf_impl_Region_0) ?_
    refine at_q rfl rfl (by decide) (qt_load1 rfl rfl ty1_sl_impl_Ring (rd1 (k := 0) rfl rfl)) ?_
    refine at_q rfl rfl (by decide) (qt_len rfl rfl tyl_sl_impl_Ring) ?_
    refine at_q rfl rfl (by decide) (qt_move rfl rfl) ?_
    refine at_end ?_
    refine at_block ?_
    refine at_loopc (X := Nat × Option Addr × Nat) (fun x => x.1 ≤ n) (fun x => n - x.1) (fun x => [(18, .int .i64 (x.1 : Int)), (5, .slice x.2.1 (sumTo rs x.1) x.2.2)]) (C := [(2, _), (3, _), (4, _), (16, _), (17, _)]) ⟨rfl, rfl, rfl, rfl, rfl, trivial⟩ (fun x => [.cel b1 53 [.slice A n c], .cel b2 24 [.int .i64 0, .int .i64 0], .cel b3 24 [.int .i64 0, .int .i64 0], rowR (Bs.N ⟨w, []⟩) 24 2 (sumTo rs x.1) ((ptsTo rs x.1).flatMap ptCells) x.2]) (0, none, 0) (Nat.zero_le _) ⟨rfl, rfl, rfl, rfl, rfl, rfl, rfl, trivial⟩ (fun _ h => h) ?_
    intro ⟨k, rA, rc⟩ hx L hL
    refine at_envE (by simp only [List.nil_append, List.cons_append]; rfl) ?_
    refine at_rsE (by first | (dsimp only; done) | (dsimp only; rfl) | rfl) ?_
    have hx : k ≤ n := hx
    have hsz := sumTo_le hr k (by omega)
    refine at_seq ?_
    refine at_region ?_
    refine at_q rfl rfl (by decide) (qt_lss rfl rfl rfl) ?_
    refine at_end ?_
    refine at_seq ?_
    refine at_cond rfl (fun c2 => ?_) (fun c2 => ?_)
    · try simp only [decide_eq_true_eq, decide_eq_false_iff_not, beq_iff_eq, beq_eq_false_iff_ne, Bool.not_eq_true', Bool.not_eq_false', Bool.not_true, Bool.not_false, Int.not_lt, Int.not_le, ne_eq, Nat.not_lt, Nat.not_le] at c2
      have hlt : k < n := (by omega)
      obtain ⟨bb, oo, Ak, ck, rfl, hbB, hcell, hpts, hmax⟩ := h.at_ hlt
      have hpos := pos_of_ring (regRing hr (show k < rs.length by omega))
      refine at_skip ?_
      refine norm_then ?_
      refine at_seq ?_
      refine at_block ?_
      refine at_seq ?_
      refine at_region ?_
      refine at_q rfl rfl (by decide) (qt_index rfl rfl rfl tyl_sl_impl_Ring (by omega)) ?_
      refine at_q rfl rfl (by decide) (qt_loadS rfl rfl tys_impl_Ring rfl (rdOld1 hcell hbB)) ?_
      refine at_op rfl ?_
      refine op_alloc rfl tyz_impl_Ring rfl (by decide) (fun b4 => ?_)
      refine at_rsE (by simp only [List.nil_append, List.cons_append, List.set_cons_zero, List.set_cons_succ, Value.cells, List.toList_toArray]; rfl) ?_
      refine at_op rfl ?_
      refine op_storeAll' (k := 4) rfl rfl rfl rfl (rfl) (by rfl) tyz_impl_Ring.szx rfl rfl rfl ?_
      refine at_rsE (by simp only [List.nil_append, List.cons_append, List.set_cons_zero, List.set_cons_succ, Value.cells, List.toList_toArray]; rfl) ?_
      refine at_end ?_
      refine at_region ?_
      refine at_q rfl rfl (by decide) (qt_move rfl rfl) ?_
      refine at_q rfl rfl (by decide) (qt_fieldAddr rfl rfl tyf_impl_Ring_0) ?_
      refine at_q rfl rfl (by decide) (qt_load1 rfl rfl ty1_sl_impl_Pt (rd1 (k := 4) rfl rfl)) ?_
      refine at_op rfl ?_
      refine op_appendR (k := 3) rfl tyl_sl_impl_Pt tyz_impl_Pt (by decide) rfl (by decide) rfl rfl rfl (fun w' hs => srcPts (hpts.over hs.fin) hpos.1) (ptCells_one _) (by unfold maxLen; omega) (by omega) (Nat.le_refl _) (fun r1 => ?_)
      refine at_rsE (by simp only [List.nil_append, List.cons_append, List.set_cons_zero, List.set_cons_succ, Value.cells, List.toList_toArray]; rfl) ?_
      refine at_q rfl rfl (by decide) (qt_assign rfl rfl) ?_
      refine at_nil ?_
      refine norm_block ?_
      refine norm_then ?_
      refine at_region ?_
      refine at_q rfl rfl (by decide) (qt_add rfl rfl rfl (by omega) (by omega)) ?_
      refine at_q rfl rfl (by decide) (qt_move rfl rfl) ?_
      refine at_end ?_
      exact at_againc hL ((k + 1, r1)) ((show k + 1 ≤ n by omega)) (by simp only; omega) ⟨vi (by omega), rfl, rfl, rfl, rfl, rfl, rfl, trivial⟩ (fun _ h => h.upto ⟨rfl, rfl, rfl, by rw [← ptsTo_cells]; rfl, trivial⟩)
    · try simp only [decide_eq_true_eq, decide_eq_false_iff_not, beq_iff_eq, beq_eq_false_iff_ne, Bool.not_eq_true', Bool.not_eq_false', Bool.not_true, Bool.not_false, Int.not_lt, Int.not_le, ne_eq, Nat.not_lt, Nat.not_le] at c2
      have hk : k = n := (by omega)
      subst hk
      have hall : ptsTo rs k = ptsAll rs := by rw [ptsAll, hl]
      have hlen : (ptsAll rs).length = sumTo rs k := by rw [← hall, ptsTo_len]
      refine at_exit ?_
      refine pass_then (fun h => by cases h) ?_
      refine pass_then (fun h => by cases h) ?_
      refine pass_hit ?_
      refine norm_then ?_
      refine at_seq ?_
      refine at_seq ?_
      refine at_region ?_
      refine at_q rfl rfl (by decide) (qt_move rfl rfl) ?_
      refine at_q rfl rfl (by decide) (qt_len rfl rfl tyl_sl_impl_Pt) ?_
      refine at_q rfl rfl (by decide) (qt_eql rfl rfl rfl) ?_
      refine at_end ?_
      refine at_cond rfl (fun c3 => ?_) (fun c3 => ?_)
      · try simp only [decide_eq_true_eq, decide_eq_false_iff_not, beq_iff_eq, beq_eq_false_iff_ne, Bool.not_eq_true', Bool.not_eq_false', Bool.not_true, Bool.not_false, Int.not_lt, Int.not_le, ne_eq, Nat.not_lt, Nat.not_le] at c3
        refine at_seq ?_
        refine at_region ?_
        refine at_q rfl rfl (by decide) (qt_build rfl rfl (bld_impl_Pt_)) ?_
        refine at_q rfl rfl (by decide) (qt_build rfl rfl (bld_impl_Pt_)) ?_
        refine at_op rfl ?_
        refine op_storeAll' (k := 1) rfl rfl rfl rfl (rfl) (by rfl) tyz_impl_Pt.szx rfl rfl rfl ?_
        refine at_rsE (by simp only [List.nil_append, List.cons_append, List.set_cons_zero, List.set_cons_succ, Value.cells, List.toList_toArray]; rfl) ?_
        refine at_op rfl ?_
        refine op_storeAll' (k := 2) rfl rfl rfl rfl (rfl) (by rfl) tyz_impl_Pt.szx rfl rfl rfl ?_
        refine at_rsE (by simp only [List.nil_append, List.cons_append, List.set_cons_zero, List.set_cons_succ, Value.cells, List.toList_toArray]; rfl) ?_
        refine at_q rfl rfl (by decide) (qt_assign rfl rfl) ?_
        refine at_end ?_
        refine at_retc ?_
        refine then_ret ?_
        refine at_ret3 rfl (rvCelS (k := 1) rfl tys_impl_Pt rfl rfl) (rvCelS (k := 2) rfl tys_impl_Pt rfl rfl) (.tmp rfl) ?_
        intro w' hs
        exact ⟨rgb_none hr (by have := sumTo_ge hr k (by omega); omega), hs.fin⟩
      · try simp only [decide_eq_true_eq, decide_eq_false_iff_not, beq_iff_eq, beq_eq_false_iff_ne, Bool.not_eq_true', Bool.not_eq_false', Bool.not_true, Bool.not_false, Int.not_lt, Int.not_le, ne_eq, Nat.not_lt, Nat.not_le] at c3
        refine at_skip ?_
        refine norm_then ?_
        refine at_seq ?_
        refine at_region ?_
        refine at_q rfl rfl (by decide) (qt_move rfl rfl) ?_
        refine at_q rfl rfl (by decide) (qt_call ok_impl_boundsOf rfl rfl (fun w1 hs => boundsOf_any rA _ rc (ptsAll rs) w1 (ptsRow (hall ▸ (hs.all 3 _ rfl).1) hlen) (by omega) (by omega) (rowCap (hs.all 3 _ rfl).1))) ?_
        refine at_q rfl rfl (by decide) (qt_move rfl rfl) ?_
        refine at_q rfl rfl (by decide) (qt_extract rfl rfl rfl) ?_
        refine at_q rfl rfl (by decide) (qt_extract rfl rfl rfl) ?_
        refine at_op rfl ?_
        refine op_alloc rfl tyz_impl_Pt rfl (by decide) (fun b5 => ?_)
        refine at_rsE (by simp only [List.nil_append, List.cons_append, List.set_cons_zero, List.set_cons_succ, Value.cells, List.toList_toArray]; rfl) ?_
        refine at_op rfl ?_
        refine op_alloc rfl tyz_impl_Pt rfl (by decide) (fun b6 => ?_)
        refine at_rsE (by simp only [List.nil_append, List.cons_append, List.set_cons_zero, List.set_cons_succ, Value.cells, List.toList_toArray]; rfl) ?_
        refine at_op rfl ?_
        refine op_storeAll' (k := 4) rfl rfl rfl rfl (rfl) (by rfl) tyz_impl_Pt.szx rfl rfl rfl ?_
        refine at_rsE (by simp only [List.nil_append, List.cons_append, List.set_cons_zero, List.set_cons_succ, Value.cells, List.toList_toArray]; rfl) ?_
        refine at_op rfl ?_
        refine op_storeAll' (k := 5) rfl rfl rfl rfl (rfl) (by rfl) tyz_impl_Pt.szx rfl rfl rfl ?_
        refine at_rsE (by simp only [List.nil_append, List.cons_append, List.set_cons_zero, List.set_cons_succ, Value.cells, List.toList_toArray]; rfl) ?_
        refine at_end ?_
        refine at_seq ?_
        refine dg_start mixed rfl ?_
        refine dg_phaseW 5 [1, 2] ?_
        refine dg_q (i := 0) rfl (by kernel_rfl) (by kernel_rfl) (by kernel_rfl) [] (by kernel_rfl) (fun _ _ _ h => h) rfl rfl (by decide) (fun _ h => (h.wk [1, 2]).upto ⟨rfl, rfl, rfl, rfl, rfl, rfl, trivial⟩) (qt_loadS rfl rfl tys_impl_Pt rfl (rdAll (k := 4) rfl)) ?_
        refine dg_q (i := 1) rfl (by kernel_rfl) (by kernel_rfl) (by kernel_rfl) [] (by kernel_rfl) (fun _ _ _ h => h) rfl rfl (by decide) (fun _ h => (h.wk [1, 2]).upto ⟨rfl, rfl, rfl, rfl, rfl, rfl, trivial⟩) (qt_loadS rfl rfl tys_impl_Pt rfl (rdAll (k := 5) rfl)) ?_
        refine dg_one (i := 2) rfl (by decide) (by kernel_rfl) rfl ?_
        refine op_storeAll' (k := 1) rfl rfl rfl rfl (rfl) (by rfl) tyz_impl_Pt.szx rfl rfl rfl ?_
        refine at_rsE (by simp only [List.nil_append, List.cons_append, List.set_cons_zero, List.set_cons_succ, Value.cells, List.toList_toArray]; rfl) ?_
        refine dr_keep (fun _ h => (h.wk [1, 2]).upto ⟨rfl, rfl, rfl, rfl, rfl, rfl, trivial⟩) ?_
        refine dg_one (i := 3) rfl (by decide) (by kernel_rfl) rfl ?_
        refine op_storeAll' (k := 2) rfl rfl rfl rfl (rfl) (by rfl) tyz_impl_Pt.szx rfl rfl rfl ?_
        refine at_rsE (by simp only [List.nil_append, List.cons_append, List.set_cons_zero, List.set_cons_succ, Value.cells, List.toList_toArray]; rfl) ?_
        refine dr_keep (fun _ h => (h.wk [1, 2]).upto ⟨rfl, rfl, rfl, rfl, rfl, rfl, trivial⟩) ?_
        refine dg_q (i := 4) rfl (by kernel_rfl) (by kernel_rfl) (by kernel_rfl) [] (by kernel_rfl) (fun _ _ _ h => h) rfl rfl (by decide) (fun _ h => (h.wk [1, 2]).upto ⟨rfl, rfl, rfl, rfl, rfl, rfl, trivial⟩) (qt_assign rfl rfl) ?_
        refine dg_done (by kernel_rfl) ?_
        refine norm_then ?_
        refine at_retc ?_
        refine at_ret3 rfl (rvCelS (k := 1) rfl tys_impl_Pt rfl rfl) (rvCelS (k := 2) rfl tys_impl_Pt rfl rfl) (.tmp rfl) ?_
        intro w' hs
        exact ⟨by rw [← hlen]; exact rgb_some hr (fun e => by rw [hl] at e; subst e; exact c3 (by simp [sumTo])), hs.fin⟩

theorem l15All_any (b1_ o1 : Nat) (A : Option Addr) (n c : Nat) (rs : List Ring_) (w : World) (hcell1 : w.cell? ⟨b1_, o1, none⟩ = some (.slice A n c)) (hb1 : b1_ < w.heap.size) (h : Rings w A n rs) (hr : regionB rs = true) :
    Calls Try.prog 73 #[.pointer (some ⟨b1_, o1, none⟩)] w fun e w' => ∃ v, e = .returned v ∧ w'.ownsRow w.heap.size 24 2 v (ptsAll rs).length ((ptsAll rs).flatMap ptCells) ∧ Over w w' := by
  have hl := h.1
  have hn40 := reg_len hr
  refine walk_from (m := 26) (Try.func73) rfl rfl (Nat.le_of_ble_eq_true rfl) ?_
  refine at_seq ?_
  refine at_region ?_
  refine at_q rfl rfl (by decide) (qt_assign rfl rfl) ?_
  refine at_end ?_
  refine at_seq ?_
  refine at_region ?_
  refine at_op rfl ?_
  refine op_buildSlice rfl rfl (bsl_sl_impl_Pt_0) rfl (by decide) (fun b1 => ?_)
  refine at_rowN 0 2 rfl rfl ?_
  refine at_rsE (by simp only [List.nil_append, List.cons_append, List.set_cons_zero, List.set_cons_succ, Value.cells, List.toList_toArray]; rfl) ?_
  refine at_q rfl rfl (by decide) (qt_assign rfl rfl) ?_
  refine at_end ?_
  refine at_seq ?_
  refine at_seq ?_
  refine at_region ?_
  refine at_q rfl rfl (by decide) (qt_assign rfl rfl) ?_
  refine at_end ?_
  refine at_block ?_
  refine at_loopc (X := Nat × Option Addr × Nat) (fun x => x.1 ≤ n) (fun x => n - x.1) (fun x => [(4, .int .i64 (x.1 : Int)), (3, .slice x.2.1 (sumTo rs x.1) x.2.2)]) (C := [(0, _), (2, _)]) ⟨rfl, rfl, trivial⟩ (fun x => [rowR (Bs.N ⟨w, []⟩) 24 2 (sumTo rs x.1) ((ptsTo rs x.1).flatMap ptCells) x.2]) (0, some ⟨b1, 0, none⟩, 0) (Nat.zero_le _) ⟨rfl, rfl, rfl, rfl, trivial⟩ (fun _ h => h) ?_
  intro ⟨k, rA, rc⟩ hx L hL
  refine at_envE (by simp only [List.nil_append, List.cons_append]; rfl) ?_
  refine at_rsE (by first | (dsimp only; done) | (dsimp only; rfl) | rfl) ?_
  have hx : k ≤ n := hx
  have hsz := sumTo_le hr k (by omega)
  refine at_seq ?_
  refine at_seq ?_
  refine at_region ?_
  refine at_q rfl rfl (by decide) (qt_move rfl rfl) ?_
  refine at_q rfl rfl (by decide) (qt_move rfl rfl) ?_
  refine at_q rfl rfl (by decide) (qt_nilCheck rfl rfl) ?_
  refine at_q rfl rfl (by decide) (qt_fieldAddr rfl rfl tyf_impl_Region_0) ?_
  refine at_q rfl rfl (by decide) (qt_load1 rfl rfl ty1_sl_impl_Ring (rdOld0 hcell1 hb1)) ?_
  refine at_q rfl rfl (by decide) (qt_len rfl rfl tyl_sl_impl_Ring) ?_
  refine at_q rfl rfl (by decide) (qt_lss rfl rfl rfl) ?_
  refine at_end ?_
  refine at_cond rfl (fun c1 => ?_) (fun c1 => ?_)
  · try simp only [decide_eq_true_eq, decide_eq_false_iff_not, beq_iff_eq, beq_eq_false_iff_ne, Bool.not_eq_true', Bool.not_eq_false', Bool.not_true, Bool.not_false, Int.not_lt, Int.not_le, ne_eq, Nat.not_lt, Nat.not_le] at c1
    have hlt : k < n := (by omega)
    obtain ⟨bb, oo, Ak, ck, rfl, hbB, hcell, hpts, hmax⟩ := h.at_ hlt
    have hpos := pos_of_ring (regRing hr (show k < rs.length by omega))
    refine at_skip ?_
    refine norm_then ?_
    refine at_seq ?_
    refine at_block ?_
    refine at_region ?_
    refine at_q rfl rfl (by decide) (qt_move rfl rfl) ?_
    refine at_q rfl rfl (by decide) (qt_move rfl rfl) ?_
    refine at_q rfl rfl (by decide) (qt_nilCheck rfl rfl) ?_
    refine at_q rfl rfl (by decide) (qt_fieldAddr rfl rfl tyf_impl_Region_0) ?_
    refine at_q rfl rfl (by decide) (qt_load1 rfl rfl ty1_sl_impl_Ring (rdOld0 hcell1 hb1)) ?_
    refine at_q rfl rfl (by decide) (qt_move rfl rfl) ?_
    refine at_q rfl rfl (by decide) (qt_index rfl rfl rfl tyl_sl_impl_Ring (by omega)) ?_
    refine at_q rfl rfl (by decide) (qt_fieldAddr rfl rfl tyf_impl_Ring_0) ?_
    refine at_q rfl rfl (by decide) (qt_load1 rfl rfl ty1_sl_impl_Pt (rdOldF hcell hbB)) ?_
    refine at_op rfl ?_
    refine op_appendR (k := 0) rfl tyl_sl_impl_Pt tyz_impl_Pt (by decide) rfl (by decide) rfl rfl rfl (fun w' hs => srcPts (hpts.over hs.fin) hpos.1) (ptCells_one _) (by unfold maxLen; omega) (by omega) (Nat.le_refl _) (fun r1 => ?_)
    refine at_rsE (by simp only [List.nil_append, List.cons_append, List.set_cons_zero, List.set_cons_succ, Value.cells, List.toList_toArray]; rfl) ?_
    refine at_q rfl rfl (by decide) (qt_assign rfl rfl) ?_
    refine at_nil ?_
    refine norm_block ?_
    refine norm_then ?_
    refine at_region ?_
    refine at_q rfl rfl (by decide) (qt_move rfl rfl) ?_
    refine at_q rfl rfl (by decide) (qt_add rfl rfl rfl (by omega) (by omega)) ?_
    refine at_q rfl rfl (by decide) (qt_assign rfl rfl) ?_
    refine at_end ?_
    exact at_againc hL ((k + 1, r1)) ((show k + 1 ≤ n by omega)) (by simp only; omega) ⟨vi (by omega), rfl, rfl, rfl, trivial⟩ (fun _ h => h.upto ⟨by rw [← ptsTo_cells]; rfl, trivial⟩)
  · try simp only [decide_eq_true_eq, decide_eq_false_iff_not, beq_iff_eq, beq_eq_false_iff_ne, Bool.not_eq_true', Bool.not_eq_false', Bool.not_true, Bool.not_false, Int.not_lt, Int.not_le, ne_eq, Nat.not_lt, Nat.not_le] at c1
    have hk : k = n := (by omega)
    subst hk
    have hall : ptsTo rs k = ptsAll rs := by rw [ptsAll, hl]
    have hlen : (ptsAll rs).length = sumTo rs k := by rw [← hall, ptsTo_len]
    refine at_exit ?_
    refine pass_then (fun h => by cases h) ?_
    refine pass_then (fun h => by cases h) ?_
    refine pass_hit ?_
    refine norm_then ?_
    refine at_seq ?_
    refine at_region ?_
    refine at_q rfl rfl (by decide) (qt_move rfl rfl) ?_
    refine at_q rfl rfl (by decide) (qt_assign rfl rfl) ?_
    refine at_end ?_
    refine at_retc ?_
    refine at_ret1 rfl (.tmp rfl) ?_
    intro w' hs
    exact ⟨_, rfl, by rw [hlen, ← hall]; exact (hs.all 0 _ rfl).1, hs.fin⟩
theorem specRegionBounds_any (A : Option Addr) (n c : Nat) (rs : List Ring_) (w : World) (h : Rings w A n rs) (ht : (total rs : Int) ≤ 1048577) :
    Calls Try.prog 26 #[regV A n c] w fun e w' => e = .returned (rgbV rs) ∧ Over w w' := by
  have hl := h.1
  refine walk_from (m := 24) (Try.func26) rfl rfl (Nat.le_of_ble_eq_true rfl) ?_
  refine at_seq ?_
  refine at_region ?_
  refine at_op rfl ?_
  refine op_box rfl rfl (rfl) rfl (by decide) (fun b1 => ?_)
  refine at_rsE (by simp only [List.nil_append, List.cons_append, List.set_cons_zero, List.set_cons_succ, Value.cells, List.toList_toArray]; rfl) ?_
  refine at_op rfl ?_
  refine op_alloc rfl tyz_impl_Pt rfl (by decide) (fun b2 => ?_)
  refine at_rsE (by simp only [List.nil_append, List.cons_append, List.set_cons_zero, List.set_cons_succ, Value.cells, List.toList_toArray]; rfl) ?_
  refine at_op rfl ?_
  refine op_alloc rfl tyz_impl_Pt rfl (by decide) (fun b3 => ?_)
  refine at_rsE (by simp only [List.nil_append, List.cons_append, List.set_cons_zero, List.set_cons_succ, Value.cells, List.toList_toArray]; rfl) ?_
  refine at_q rfl rfl (by decide) (qt_assign rfl rfl) ?_
  refine at_end ?_
  refine at_seq ?_
  refine at_seq ?_
  refine at_region ?_
  refine at_q rfl rfl (by decide) (qt_call ok_spec_l13Ok rfl rfl (fun w1 hs => l13Ok_any _ _ A n c rs w1 (rd1 (k := 0) rfl rfl w1 hs) (lt_of_some (hs.cel (k := 0) rfl)) (h.over hs.fin) ht)) ?_
  refine at_q rfl rfl (by decide) (qt_not rfl rfl) ?_
  refine at_end ?_
  refine at_cond rfl (fun c1 => ?_) (fun c1 => ?_)
  · try simp only [decide_eq_true_eq, decide_eq_false_iff_not, beq_iff_eq, beq_eq_false_iff_ne, Bool.not_eq_true', Bool.not_eq_false', Bool.not_true, Bool.not_false, Int.not_lt, Int.not_le, ne_eq, Nat.not_lt, Nat.not_le] at c1
    refine at_seq ?_
    refine at_region ?_
    refine at_q rfl rfl (by decide) (qt_build rfl rfl (bld_impl_Pt_)) ?_
    refine at_q rfl rfl (by decide) (qt_build rfl rfl (bld_impl_Pt_)) ?_
    refine at_op rfl ?_
    refine op_storeAll' (k := 1) rfl rfl rfl rfl (rfl) (by rfl) tyz_impl_Pt.szx rfl rfl rfl ?_
    refine at_rsE (by simp only [List.nil_append, List.cons_append, List.set_cons_zero, List.set_cons_succ, Value.cells, List.toList_toArray]; rfl) ?_
    refine at_op rfl ?_
    refine op_storeAll' (k := 2) rfl rfl rfl rfl (rfl) (by rfl) tyz_impl_Pt.szx rfl rfl rfl ?_
    refine at_rsE (by simp only [List.nil_append, List.cons_append, List.set_cons_zero, List.set_cons_succ, Value.cells, List.toList_toArray]; rfl) ?_
    refine at_q rfl rfl (by decide) (qt_assign rfl rfl) ?_
    refine at_end ?_
    refine at_retc ?_
    refine then_ret ?_
    refine at_ret3 rfl (rvCelS (k := 1) rfl tys_impl_Pt rfl rfl) (rvCelS (k := 2) rfl tys_impl_Pt rfl rfl) (.tmp rfl) ?_
    intro w' hs
    exact ⟨by simp [rgbV, c1], hs.fin⟩
  · try simp only [decide_eq_true_eq, decide_eq_false_iff_not, beq_iff_eq, beq_eq_false_iff_ne, Bool.not_eq_true', Bool.not_eq_false', Bool.not_true, Bool.not_false, Int.not_lt, Int.not_le, ne_eq, Nat.not_lt, Nat.not_le] at c1
    have hr : regionB rs = true := by simpa using c1
    refine at_skip ?_
    refine norm_then ?_
    refine at_seq ?_
    refine at_seq ?_
    refine at_region ?_
    refine at_q rfl rfl (by decide) (qt_fieldAddr rfl rfl tyf_impl_Region_0) ?_
    refine at_q rfl rfl (by decide) (qt_load1 rfl rfl ty1_sl_impl_Ring (rd1 (k := 0) rfl rfl)) ?_
    refine at_q rfl rfl (by decide) (qt_len rfl rfl tyl_sl_impl_Ring) ?_
    refine at_q rfl rfl (by decide) (qt_eql rfl rfl rfl) ?_
    refine at_end ?_
    refine at_cond rfl (fun c2 => ?_) (fun c2 => ?_)
    · try simp only [decide_eq_true_eq, decide_eq_false_iff_not, beq_iff_eq, beq_eq_false_iff_ne, Bool.not_eq_true', Bool.not_eq_false', Bool.not_true, Bool.not_false, Int.not_lt, Int.not_le, ne_eq, Nat.not_lt, Nat.not_le] at c2
      refine at_seq ?_
      refine at_region ?_
      refine at_q rfl rfl (by decide) (qt_build rfl rfl (bld_impl_Pt_)) ?_
      refine at_q rfl rfl (by decide) (qt_build rfl rfl (bld_impl_Pt_)) ?_
      refine at_op rfl ?_
      refine op_storeAll' (k := 1) rfl rfl rfl rfl (rfl) (by rfl) tyz_impl_Pt.szx rfl rfl rfl ?_
      refine at_rsE (by simp only [List.nil_append, List.cons_append, List.set_cons_zero, List.set_cons_succ, Value.cells, List.toList_toArray]; rfl) ?_
      refine at_op rfl ?_
      refine op_storeAll' (k := 2) rfl rfl rfl rfl (rfl) (by rfl) tyz_impl_Pt.szx rfl rfl rfl ?_
      refine at_rsE (by simp only [List.nil_append, List.cons_append, List.set_cons_zero, List.set_cons_succ, Value.cells, List.toList_toArray]; rfl) ?_
      refine at_q rfl rfl (by decide) (qt_assign rfl rfl) ?_
      refine at_end ?_
      refine at_retc ?_
      refine then_ret ?_
      refine at_ret3 rfl (rvCelS (k := 1) rfl tys_impl_Pt rfl rfl) (rvCelS (k := 2) rfl tys_impl_Pt rfl rfl) (.tmp rfl) ?_
      intro w' hs
      exact ⟨rgb_none hr (by omega), hs.fin⟩
    · try simp only [decide_eq_true_eq, decide_eq_false_iff_not, beq_iff_eq, beq_eq_false_iff_ne, Bool.not_eq_true', Bool.not_eq_false', Bool.not_true, Bool.not_false, Int.not_lt, Int.not_le, ne_eq, Nat.not_lt, Nat.not_le] at c2
      have h0 : ¬ rs.length = 0 := (by omega)
      have hb1 := sumTo_le hr rs.length (Nat.le_refl _)
      have hb2 := sumTo_ge hr rs.length (Nat.le_refl _)
      have hb3 := reg_len hr
      have hlen : (ptsAll rs).length = sumTo rs rs.length := ptsTo_len _ _
      refine at_skip ?_
      refine norm_then ?_
      refine at_seq ?_
      refine at_region ?_
      refine at_op rfl ?_
      refine op_call ok_spec_l15All (v := fun x => .slice x.1 _ x.2) (r := fun x => rowR 0 24 2 _ _ x) (H := fun _ => True) rfl rfl rfl (by decide) (fun w1 hs => newRow' (l15All_any _ _ A n c rs w1 (rd1 (k := 0) rfl rfl w1 hs) (lt_of_some (hs.cel (k := 0) rfl)) (h.over hs.fin) hr)) ?_
      rintro ⟨rA, rc⟩ -
      refine at_rsE (by simp only [List.nil_append, List.cons_append, List.set_cons_zero, List.set_cons_succ, Value.cells, List.toList_toArray]; rfl) ?_
      refine at_q rfl rfl (by decide) (qt_call ok_spec_l09Corners rfl rfl (fun w1 hs => l09Corners_any rA _ rc (ptsAll rs) w1 (ptsRow (hs.all 3 _ rfl).1 rfl) (by omega) (by omega))) ?_
      refine at_q rfl rfl (by decide) (qt_move rfl rfl) ?_
      refine at_q rfl rfl (by decide) (qt_extract rfl rfl rfl) ?_
      refine at_q rfl rfl (by decide) (qt_extract rfl rfl rfl) ?_
      refine at_op rfl ?_
      refine op_alloc rfl tyz_impl_Pt rfl (by decide) (fun b4 => ?_)
      refine at_rsE (by simp only [List.nil_append, List.cons_append, List.set_cons_zero, List.set_cons_succ, Value.cells, List.toList_toArray]; rfl) ?_
      refine at_op rfl ?_
      refine op_alloc rfl tyz_impl_Pt rfl (by decide) (fun b5 => ?_)
      refine at_rsE (by simp only [List.nil_append, List.cons_append, List.set_cons_zero, List.set_cons_succ, Value.cells, List.toList_toArray]; rfl) ?_
      refine at_op rfl ?_
      refine op_storeAll' (k := 4) rfl rfl rfl rfl (rfl) (by rfl) tyz_impl_Pt.szx rfl rfl rfl ?_
      refine at_rsE (by simp only [List.nil_append, List.cons_append, List.set_cons_zero, List.set_cons_succ, Value.cells, List.toList_toArray]; rfl) ?_
      refine at_op rfl ?_
      refine op_storeAll' (k := 5) rfl rfl rfl rfl (rfl) (by rfl) tyz_impl_Pt.szx rfl rfl rfl ?_
      refine at_rsE (by simp only [List.nil_append, List.cons_append, List.set_cons_zero, List.set_cons_succ, Value.cells, List.toList_toArray]; rfl) ?_
      refine at_end ?_
      refine at_seq ?_
      refine dg_start mixed rfl ?_
      refine dg_phaseW 5 [1, 2] ?_
      refine dg_q (i := 0) rfl (by kernel_rfl) (by kernel_rfl) (by kernel_rfl) [] (by kernel_rfl) (fun _ _ _ h => h) rfl rfl (by decide) (fun _ h => (h.wk [1, 2]).upto ⟨rfl, rfl, rfl, rfl, rfl, rfl, trivial⟩) (qt_loadS rfl rfl tys_impl_Pt rfl (rdAll (k := 4) rfl)) ?_
      refine dg_q (i := 1) rfl (by kernel_rfl) (by kernel_rfl) (by kernel_rfl) [] (by kernel_rfl) (fun _ _ _ h => h) rfl rfl (by decide) (fun _ h => (h.wk [1, 2]).upto ⟨rfl, rfl, rfl, rfl, rfl, rfl, trivial⟩) (qt_loadS rfl rfl tys_impl_Pt rfl (rdAll (k := 5) rfl)) ?_
      refine dg_one (i := 2) rfl (by decide) (by kernel_rfl) rfl ?_
      refine op_storeAll' (k := 1) rfl rfl rfl rfl (rfl) (by rfl) tyz_impl_Pt.szx rfl rfl rfl ?_
      refine at_rsE (by simp only [List.nil_append, List.cons_append, List.set_cons_zero, List.set_cons_succ, Value.cells, List.toList_toArray]; rfl) ?_
      refine dr_keep (fun _ h => (h.wk [1, 2]).upto ⟨rfl, rfl, rfl, rfl, rfl, rfl, trivial⟩) ?_
      refine dg_one (i := 3) rfl (by decide) (by kernel_rfl) rfl ?_
      refine op_storeAll' (k := 2) rfl rfl rfl rfl (rfl) (by rfl) tyz_impl_Pt.szx rfl rfl rfl ?_
      refine at_rsE (by simp only [List.nil_append, List.cons_append, List.set_cons_zero, List.set_cons_succ, Value.cells, List.toList_toArray]; rfl) ?_
      refine dr_keep (fun _ h => (h.wk [1, 2]).upto ⟨rfl, rfl, rfl, rfl, rfl, rfl, trivial⟩) ?_
      refine dg_q (i := 4) rfl (by kernel_rfl) (by kernel_rfl) (by kernel_rfl) [] (by kernel_rfl) (fun _ _ _ h => h) rfl rfl (by decide) (fun _ h => (h.wk [1, 2]).upto ⟨rfl, rfl, rfl, rfl, rfl, rfl, trivial⟩) (qt_assign rfl rfl) ?_
      refine dg_done (by kernel_rfl) ?_
      refine norm_then ?_
      refine at_retc ?_
      refine at_ret3 rfl (rvCelS (k := 1) rfl tys_impl_Pt rfl rfl) (rvCelS (k := 2) rfl tys_impl_Pt rfl rfl) (.tmp rfl) ?_
      intro w' hs
      exact ⟨rgb_some hr h0, hs.fin⟩
end Go.Proofs.Ytnalgllmdpcjcaa
