/- The winding of a region, a point in a region: both sides. -/
import Derived.Test.YtadkfbkompamcaaIn
namespace Go.Proofs.Ytadkfbkompamcaa
open Go Go.RowKit
set_option linter.unusedVariables false
set_option linter.unusedSimpArgs false
set_option maxRecDepth 100000
set_option maxHeartbeats 4000000

theorem regRing {rs : List Ring_} (h : regionB rs = true) {k : Nat} (hk : k < rs.length) : ringB (rg rs k) = true := by
  simp [regionB] at h
  have := h.1.2 rs[k] (List.getElem_mem hk)
  rwa [at_r hk] at this
theorem regOkTo {rs : List Ring_} (h : regionB rs = true) : ∀ k, k ≤ rs.length → ∀ l ∈ allTo rs k, legOk l
  | 0, _, l, hl => by simp [allTo] at hl
  | k + 1, hk, l, hl => by
    simp only [allTo, List.mem_append] at hl
    rcases hl with h1 | h1
    · exact regOkTo h k (by omega) l h1
    · exact edgesTo_ok (ringB_parts (regRing h (show k < rs.length by omega))).2.2 _ (Nat.le_refl _) l h1
theorem regOk {rs : List Ring_} (h : regionB rs = true) : ∀ l ∈ edgesAll rs, legOk l := regOkTo h _ (Nat.le_refl _)
theorem allLen {rs : List Ring_} (h : regionB rs = true) : (edgesAll rs).length ≤ 1048576 := by
  simp [regionB] at h
  omega
theorem okB_bd {x y : Int} (h : okB x y = true) : bdM x ∧ bdM y := by
  simp [okB, inB] at h
  refine ⟨⟨?_, ?_⟩, ?_, ?_⟩ <;> omega

def wofB (rs : List Ring_) (x y : Int) : Bool := regionB rs && okB x y && !anyOn false (edgesAll rs) x y
def wofV (rs : List Ring_) (x y : Int) : Value := .tuple #[.int .i64 (if wofB rs x y = true then wind false (edgesAll rs) x y else 0), .bool (wofB rs x y)]
theorem wof_no {rs : List Ring_} {x y : Int} (h : wofB rs x y = false) : Ending.returned (.tuple #[.int .i64 0, .bool false]) = Ending.returned (wofV rs x y) := by simp [wofV, h]
theorem wof_yes {rs : List Ring_} {x y : Int} (h : wofB rs x y = true) : Ending.returned (.tuple #[.int .i64 (wind false (edgesAll rs) x y), .bool true]) = Ending.returned (wofV rs x y) := by simp [wofV, h]

theorem WindingOf_any (A : Option Addr) (n c : Nat) (rs : List Ring_) (x y : Int) (w : World) (h : Rings w A n rs) (ht : (total rs : Int) ≤ 1048577) :
    Calls Try.prog 38 #[regV A n c, ptV x y] w fun e w' => e = .returned (wofV rs x y) ∧ Over w w' := by
  refine walk_from (m := 23) (Try.func38) rfl rfl (Nat.le_of_ble_eq_true rfl) ?_
  refine at_seq ?_
  refine at_region ?_
  refine at_op rfl ?_
  refine op_box rfl rfl (rfl) rfl (by decide) (fun b1 => ?_)
  refine at_rsE (by simp only [List.nil_append, List.cons_append, List.set_cons_zero, List.set_cons_succ, Value.cells, List.toList_toArray]; rfl) ?_
  refine at_op rfl ?_
  refine op_box rfl rfl (rfl) rfl (by decide) (fun b2 => ?_)
  refine at_rsE (by simp only [List.nil_append, List.cons_append, List.set_cons_zero, List.set_cons_succ, Value.cells, List.toList_toArray]; rfl) ?_
  refine at_q rfl rfl (by decide) (qt_assign rfl rfl) ?_
  refine at_q rfl rfl (by decide) (qt_assign rfl rfl) ?_
  refine at_end ?_
  refine at_seq ?_
  refine at_seq ?_
  refine at_region ?_
  refine at_q rfl rfl (by decide) (qt_loadS rfl rfl tys_impl_Region rfl (rdAll (k := 0) rfl)) ?_
  refine at_q rfl rfl (by decide) (qt_call ok_impl_ValidRegion rfl rfl (fun w1 hs => ValidRegion_any A n c rs w1 (h.over hs.fin) ht)) ?_
  refine at_q rfl rfl (by decide) (qt_not rfl rfl) ?_
  refine at_q rfl rfl (by decide) (qt_move rfl rfl) ?_
  refine at_bsplit 10 rfl (fun g1 => ?_) (fun g1 => ?_)
  · try simp only [decide_eq_true_eq, decide_eq_false_iff_not, beq_iff_eq, beq_eq_false_iff_ne, Bool.not_eq_true', Bool.not_eq_false', Bool.not_true, Bool.not_false, Int.not_lt, Int.not_le, ne_eq, Nat.not_lt, Nat.not_le] at g1
    refine at_off rfl rfl rfl rfl (by decide) rfl (by decide) ?_
    refine at_off rfl rfl rfl rfl (by decide) rfl (by decide) ?_
    refine at_off rfl rfl rfl rfl (by decide) rfl (by decide) ?_
    refine at_q rfl rfl (by decide) (qt_pickT rfl rfl rfl) ?_
    refine at_end ?_
    refine at_yes rfl rfl ?_
    refine at_seq ?_
    refine at_region ?_
    refine at_q rfl rfl (by decide) (qt_assign rfl rfl) ?_
    refine at_q rfl rfl (by decide) (qt_assign rfl rfl) ?_
    refine at_end ?_
    refine at_retc ?_
    refine then_ret ?_
    refine at_ret2 rfl (.tmp rfl) (.tmp rfl) ?_
    intro w' hs
    exact ⟨wof_no (by simp [wofB, g1]), hs.fin⟩
  · try simp only [decide_eq_true_eq, decide_eq_false_iff_not, beq_iff_eq, beq_eq_false_iff_ne, Bool.not_eq_true', Bool.not_eq_false', Bool.not_true, Bool.not_false, Int.not_lt, Int.not_le, ne_eq, Nat.not_lt, Nat.not_le] at g1
    refine at_on rfl rfl rfl rfl ?_
    refine op_q rfl (by decide) (qt_loadS rfl rfl tys_impl_Pt rfl (rdAll (k := 1) rfl)) ?_
    refine at_on rfl rfl rfl rfl ?_
    refine op_q rfl (by decide) (qt_call ok_impl_ValidPt rfl rfl (fun w1 hs => ValidPt_any x y w1)) ?_
    refine at_on rfl rfl rfl rfl ?_
    refine op_q rfl (by decide) (qt_not rfl rfl) ?_
    refine at_q rfl rfl (by decide) (qt_pickF rfl rfl rfl) ?_
    refine at_end ?_
    refine at_cond rfl (fun c1 => ?_) (fun c1 => ?_)
    · try simp only [decide_eq_true_eq, decide_eq_false_iff_not, beq_iff_eq, beq_eq_false_iff_ne, Bool.not_eq_true', Bool.not_eq_false', Bool.not_true, Bool.not_false, Int.not_lt, Int.not_le, ne_eq, Nat.not_lt, Nat.not_le] at c1
      refine at_seq ?_
      refine at_region ?_
      refine at_q rfl rfl (by decide) (qt_assign rfl rfl) ?_
      refine at_q rfl rfl (by decide) (qt_assign rfl rfl) ?_
      refine at_end ?_
      refine at_retc ?_
      refine then_ret ?_
      refine at_ret2 rfl (.tmp rfl) (.tmp rfl) ?_
      intro w' hs
      exact ⟨wof_no (by simp [wofB, c1]), hs.fin⟩
    · try simp only [decide_eq_true_eq, decide_eq_false_iff_not, beq_iff_eq, beq_eq_false_iff_ne, Bool.not_eq_true', Bool.not_eq_false', Bool.not_true, Bool.not_false, Int.not_lt, Int.not_le, ne_eq, Nat.not_lt, Nat.not_le] at c1
      have hr := g1
      have hp := c1
      obtain ⟨hx, hy⟩ := okB_bd hp
      refine at_skip ?_
      refine norm_then ?_
      refine at_seq ?_
      refine at_region ?_
      refine at_q rfl rfl (by decide) (qt_loadS rfl rfl tys_impl_Region rfl (rdAll (k := 0) rfl)) ?_
      refine at_op rfl ?_
      refine op_call ok_impl_edgesOf (v := fun x => .slice x.1 _ x.2) (r := fun x => rowR 0 131 4 _ _ x) (H := fun _ => True) rfl rfl rfl (by decide) (fun w1 hs => newRow' (edgesOf_any A n c rs w1 (h.over hs.fin) ht)) ?_
      rintro ⟨eA, ec⟩ -
      refine at_rsE (by simp only [List.nil_append, List.cons_append, List.set_cons_zero, List.set_cons_succ, Value.cells, List.toList_toArray]; rfl) ?_
      refine at_q rfl rfl (by decide) (qt_assign rfl rfl) ?_
      refine at_end ?_
      refine at_seq ?_
      refine at_seq ?_
      refine at_region ?_
      refine at_q rfl rfl (by decide) (qt_move rfl rfl) ?_
      refine at_q rfl rfl (by decide) (qt_loadS rfl rfl tys_impl_Pt rfl (rdAll (k := 1) rfl)) ?_
      refine at_q rfl rfl (by decide) (qt_call ok_impl_onEdges rfl rfl (fun w1 hs => onEdges_any eA _ ec (edgesAll rs) x y false w1 (rowLegs (k := 2) rfl rfl w1 hs) (allLen hr) (regOk hr) hx hy)) ?_
      refine at_end ?_
      refine at_cond rfl (fun c2 => ?_) (fun c2 => ?_)
      · try simp only [decide_eq_true_eq, decide_eq_false_iff_not, beq_iff_eq, beq_eq_false_iff_ne, Bool.not_eq_true', Bool.not_eq_false', Bool.not_true, Bool.not_false, Int.not_lt, Int.not_le, ne_eq, Nat.not_lt, Nat.not_le] at c2
        refine at_seq ?_
        refine at_region ?_
        refine at_q rfl rfl (by decide) (qt_assign rfl rfl) ?_
        refine at_q rfl rfl (by decide) (qt_assign rfl rfl) ?_
        refine at_end ?_
        refine at_retc ?_
        refine then_ret ?_
        refine at_ret2 rfl (.tmp rfl) (.tmp rfl) ?_
        intro w' hs
        exact ⟨wof_no (by simp [wofB, c2]), hs.fin⟩
      · try simp only [decide_eq_true_eq, decide_eq_false_iff_not, beq_iff_eq, beq_eq_false_iff_ne, Bool.not_eq_true', Bool.not_eq_false', Bool.not_true, Bool.not_false, Int.not_lt, Int.not_le, ne_eq, Nat.not_lt, Nat.not_le] at c2
        refine at_skip ?_
        refine norm_then ?_
        refine at_seq ?_
        refine at_region ?_
        refine at_q rfl rfl (by decide) (qt_move rfl rfl) ?_
        refine at_q rfl rfl (by decide) (qt_loadS rfl rfl tys_impl_Pt rfl (rdAll (k := 1) rfl)) ?_
        refine at_q rfl rfl (by decide) (qt_call ok_impl_windingOf rfl rfl (fun w1 hs => windingOf_any eA _ ec (edgesAll rs) x y false w1 (rowLegs (k := 2) rfl rfl w1 hs) (allLen hr) (regOk hr) hx hy)) ?_
        refine at_q rfl rfl (by decide) (qt_assign rfl rfl) ?_
        refine at_q rfl rfl (by decide) (qt_assign rfl rfl) ?_
        refine at_end ?_
        refine at_retc ?_
        refine at_ret2 rfl (.tmp rfl) (.tmp rfl) ?_
        intro w' hs
        exact ⟨wof_yes (by simp [wofB, hr, hp, c2]), hs.fin⟩
theorem specWindingOf_any (A : Option Addr) (n c : Nat) (rs : List Ring_) (x y : Int) (w : World) (h : Rings w A n rs) (ht : (total rs : Int) ≤ 1048577) :
    Calls Try.prog 37 #[regV A n c, ptV x y] w fun e w' => e = .returned (wofV rs x y) ∧ Over w w' := by
  refine walk_from (m := 23) (Try.func37) rfl rfl (Nat.le_of_ble_eq_true rfl) ?_
  refine at_seq ?_
  refine at_region ?_
  refine at_op rfl ?_
  refine op_box rfl rfl (rfl) rfl (by decide) (fun b1 => ?_)
  refine at_rsE (by simp only [List.nil_append, List.cons_append, List.set_cons_zero, List.set_cons_succ, Value.cells, List.toList_toArray]; rfl) ?_
  refine at_op rfl ?_
  refine op_box rfl rfl (rfl) rfl (by decide) (fun b2 => ?_)
  refine at_rsE (by simp only [List.nil_append, List.cons_append, List.set_cons_zero, List.set_cons_succ, Value.cells, List.toList_toArray]; rfl) ?_
  refine at_q rfl rfl (by decide) (qt_assign rfl rfl) ?_
  refine at_q rfl rfl (by decide) (qt_assign rfl rfl) ?_
  refine at_end ?_
  refine at_seq ?_
  refine at_region ?_
  refine at_op rfl ?_
  refine op_call ok_spec_l13All (v := fun x => .slice x.1 _ x.2) (r := fun x => rowR 0 127 4 _ _ x) (H := fun _ => True) rfl rfl rfl (by decide) (fun w1 hs => newRow' ((l13All_any _ _ A n c rs w1 (rd1 (k := 0) rfl rfl w1 hs) (lt_of_some (hs.cel (k := 0) rfl)) (h.over hs.fin) ht).mono fun e w' ⟨v, h1, _, h2, h3⟩ => ⟨v, h1, h2, h3⟩)) ?_
  rintro ⟨eA, ec⟩ -
  refine at_rsE (by simp only [List.nil_append, List.cons_append, List.set_cons_zero, List.set_cons_succ, Value.cells, List.toList_toArray]; rfl) ?_
  refine at_q rfl rfl (by decide) (qt_assign rfl rfl) ?_
  refine at_end ?_
  refine at_seq ?_
  refine at_seq ?_
  refine at_region ?_
  refine at_q rfl rfl (by decide) (qt_call ok_spec_l13Ok rfl rfl (fun w1 hs => l13Ok_any _ _ A n c rs w1 (rd1 (k := 0) rfl rfl w1 hs) (lt_of_some (hs.cel (k := 0) rfl)) (h.over hs.fin) ht)) ?_
  refine at_q rfl rfl (by decide) (qt_not rfl rfl) ?_
  refine at_q rfl rfl (by decide) (qt_move rfl rfl) ?_
  refine at_bsplit 10 rfl (fun g1 => ?_) (fun g1 => ?_)
  · try simp only [decide_eq_true_eq, decide_eq_false_iff_not, beq_iff_eq, beq_eq_false_iff_ne, Bool.not_eq_true', Bool.not_eq_false', Bool.not_true, Bool.not_false, Int.not_lt, Int.not_le, ne_eq, Nat.not_lt, Nat.not_le] at g1
    refine at_off rfl rfl rfl rfl (by decide) rfl (by decide) ?_
    refine at_off rfl rfl rfl rfl (by decide) rfl (by decide) ?_
    refine at_off rfl rfl rfl rfl (by decide) rfl (by decide) ?_
    refine at_q rfl rfl (by decide) (qt_pickT rfl rfl rfl) ?_
    refine at_q rfl rfl (by decide) (qt_move rfl rfl) ?_
    refine at_off rfl rfl rfl rfl (by decide) rfl (by decide) ?_
    refine at_off rfl rfl rfl rfl (by decide) rfl (by decide) ?_
    refine at_off rfl rfl rfl rfl (by decide) rfl (by decide) ?_
    refine at_q rfl rfl (by decide) (qt_pickT rfl rfl rfl) ?_
    refine at_end ?_
    refine at_yes rfl rfl ?_
    refine at_seq ?_
    refine at_region ?_
    refine at_q rfl rfl (by decide) (qt_assign rfl rfl) ?_
    refine at_q rfl rfl (by decide) (qt_assign rfl rfl) ?_
    refine at_end ?_
    refine at_retc ?_
    refine then_ret ?_
    refine at_ret2 rfl (.tmp rfl) (.tmp rfl) ?_
    intro w' hs
    exact ⟨wof_no (by simp [wofB, g1]), hs.fin⟩
  · try simp only [decide_eq_true_eq, decide_eq_false_iff_not, beq_iff_eq, beq_eq_false_iff_ne, Bool.not_eq_true', Bool.not_eq_false', Bool.not_true, Bool.not_false, Int.not_lt, Int.not_le, ne_eq, Nat.not_lt, Nat.not_le] at g1
    refine at_on rfl rfl rfl rfl ?_
    refine op_q rfl (by decide) (qt_loadS rfl rfl tys_impl_Pt rfl (rdAll (k := 1) rfl)) ?_
    refine at_on rfl rfl rfl rfl ?_
    refine op_q rfl (by decide) (qt_call ok_spec_l03Ok rfl rfl (fun w1 hs => l03Ok_any x y w1)) ?_
    refine at_on rfl rfl rfl rfl ?_
    refine op_q rfl (by decide) (qt_not rfl rfl) ?_
    refine at_q rfl rfl (by decide) (qt_pickF rfl rfl rfl) ?_
    refine at_q rfl rfl (by decide) (qt_move rfl rfl) ?_
    refine at_bsplit 15 rfl (fun g2 => ?_) (fun g2 => ?_)
    · try simp only [decide_eq_true_eq, decide_eq_false_iff_not, beq_iff_eq, beq_eq_false_iff_ne, Bool.not_eq_true', Bool.not_eq_false', Bool.not_true, Bool.not_false, Int.not_lt, Int.not_le, ne_eq, Nat.not_lt, Nat.not_le] at g2
      refine at_off rfl rfl rfl rfl (by decide) rfl (by decide) ?_
      refine at_off rfl rfl rfl rfl (by decide) rfl (by decide) ?_
      refine at_off rfl rfl rfl rfl (by decide) rfl (by decide) ?_
      refine at_q rfl rfl (by decide) (qt_pickT rfl rfl rfl) ?_
      refine at_end ?_
      refine at_yes rfl rfl ?_
      refine at_seq ?_
      refine at_region ?_
      refine at_q rfl rfl (by decide) (qt_assign rfl rfl) ?_
      refine at_q rfl rfl (by decide) (qt_assign rfl rfl) ?_
      refine at_end ?_
      refine at_retc ?_
      refine then_ret ?_
      refine at_ret2 rfl (.tmp rfl) (.tmp rfl) ?_
      intro w' hs
      exact ⟨wof_no (by simp [wofB, g2]), hs.fin⟩
    · try simp only [decide_eq_true_eq, decide_eq_false_iff_not, beq_iff_eq, beq_eq_false_iff_ne, Bool.not_eq_true', Bool.not_eq_false', Bool.not_true, Bool.not_false, Int.not_lt, Int.not_le, ne_eq, Nat.not_lt, Nat.not_le] at g2
      have hr := g1
      have hp := g2
      obtain ⟨hx, hy⟩ := okB_bd hp
      refine at_on rfl rfl rfl rfl ?_
      refine op_q rfl (by decide) (qt_move rfl rfl) ?_
      refine at_on rfl rfl rfl rfl ?_
      refine op_q rfl (by decide) (qt_loadS rfl rfl tys_impl_Pt rfl (rdAll (k := 1) rfl)) ?_
      refine at_on rfl rfl rfl rfl ?_
      refine op_q rfl (by decide) (qt_call ok_spec_l14OnAny rfl rfl (fun w1 hs => l14OnAny_any eA _ ec (edgesAll rs) x y w1 (rowLegs (k := 2) rfl rfl w1 hs) (allLen hr) (regOk hr) hx hy)) ?_
      refine at_q rfl rfl (by decide) (qt_pickF rfl rfl rfl) ?_
      refine at_end ?_
      refine at_cond rfl (fun c1 => ?_) (fun c1 => ?_)
      · try simp only [decide_eq_true_eq, decide_eq_false_iff_not, beq_iff_eq, beq_eq_false_iff_ne, Bool.not_eq_true', Bool.not_eq_false', Bool.not_true, Bool.not_false, Int.not_lt, Int.not_le, ne_eq, Nat.not_lt, Nat.not_le] at c1
        refine at_seq ?_
        refine at_region ?_
        refine at_q rfl rfl (by decide) (qt_assign rfl rfl) ?_
        refine at_q rfl rfl (by decide) (qt_assign rfl rfl) ?_
        refine at_end ?_
        refine at_retc ?_
        refine then_ret ?_
        refine at_ret2 rfl (.tmp rfl) (.tmp rfl) ?_
        intro w' hs
        exact ⟨wof_no (by simp [wofB, c1]), hs.fin⟩
      · try simp only [decide_eq_true_eq, decide_eq_false_iff_not, beq_iff_eq, beq_eq_false_iff_ne, Bool.not_eq_true', Bool.not_eq_false', Bool.not_true, Bool.not_false, Int.not_lt, Int.not_le, ne_eq, Nat.not_lt, Nat.not_le] at c1
        refine at_skip ?_
        refine norm_then ?_
        refine at_seq ?_
        refine at_region ?_
        refine at_q rfl rfl (by decide) (qt_move rfl rfl) ?_
        refine at_q rfl rfl (by decide) (qt_loadS rfl rfl tys_impl_Pt rfl (rdAll (k := 1) rfl)) ?_
        refine at_q rfl rfl (by decide) (qt_call ok_spec_l14Winding rfl rfl (fun w1 hs => l14Winding_any eA _ ec (edgesAll rs) x y w1 (rowLegs (k := 2) rfl rfl w1 hs) (allLen hr) (regOk hr) hx hy)) ?_
        refine at_q rfl rfl (by decide) (qt_assign rfl rfl) ?_
        refine at_q rfl rfl (by decide) (qt_assign rfl rfl) ?_
        refine at_end ?_
        refine at_retc ?_
        refine at_ret2 rfl (.tmp rfl) (.tmp rfl) ?_
        intro w' hs
        exact ⟨wof_yes (by simp [wofB, hr, hp, c1]), hs.fin⟩

/-- How a point lies. -/
def pinA (rs : List Ring_) (x y : Int) : Int := if (regionB rs && okB x y) = true then (if anyOn false (edgesAll rs) x y = true then 2 else if wind false (edgesAll rs) x y ≠ 0 then 1 else 0) else 0
def pinC (rs : List Ring_) (x y : Int) : Int := if (regionB rs && okB x y) = true then 0 else 1
def pinV (rs : List Ring_) (x y : Int) : Value := .tuple #[.int .i64 (pinA rs x y), .int .i64 (pinC rs x y)]
theorem PointIn_any (A : Option Addr) (n c : Nat) (rs : List Ring_) (x y : Int) (w : World) (h : Rings w A n rs) (ht : (total rs : Int) ≤ 1048577) :
    Calls Try.prog 40 #[regV A n c, ptV x y] w fun e w' => e = .returned (pinV rs x y) ∧ Over w w' := by
  refine walk_from (m := 26) (Try.func40) rfl rfl (Nat.le_of_ble_eq_true rfl) ?_
  refine at_seq ?_
  refine at_region ?_
  refine at_op rfl ?_
  refine op_box rfl rfl (rfl) rfl (by decide) (fun b1 => ?_)
  refine at_rsE (by simp only [List.nil_append, List.cons_append, List.set_cons_zero, List.set_cons_succ, Value.cells, List.toList_toArray]; rfl) ?_
  refine at_op rfl ?_
  refine op_box rfl rfl (rfl) rfl (by decide) (fun b2 => ?_)
  refine at_rsE (by simp only [List.nil_append, List.cons_append, List.set_cons_zero, List.set_cons_succ, Value.cells, List.toList_toArray]; rfl) ?_
  refine at_q rfl rfl (by decide) (qt_assign rfl rfl) ?_
  refine at_q rfl rfl (by decide) (qt_assign rfl rfl) ?_
  refine at_end ?_
  refine at_seq ?_
  refine at_seq ?_
  refine at_region ?_
  refine at_q rfl rfl (by decide) (qt_loadS rfl rfl tys_impl_Region rfl (rdAll (k := 0) rfl)) ?_
  refine at_q rfl rfl (by decide) (qt_call ok_impl_ValidRegion rfl rfl (fun w1 hs => ValidRegion_any A n c rs w1 (h.over hs.fin) ht)) ?_
  refine at_q rfl rfl (by decide) (qt_not rfl rfl) ?_
  refine at_q rfl rfl (by decide) (qt_move rfl rfl) ?_
  refine at_bsplit 10 rfl (fun g1 => ?_) (fun g1 => ?_)
  · try simp only [decide_eq_true_eq, decide_eq_false_iff_not, beq_iff_eq, beq_eq_false_iff_ne, Bool.not_eq_true', Bool.not_eq_false', Bool.not_true, Bool.not_false, Int.not_lt, Int.not_le, ne_eq, Nat.not_lt, Nat.not_le] at g1
    refine at_off rfl rfl rfl rfl (by decide) rfl (by decide) ?_
    refine at_off rfl rfl rfl rfl (by decide) rfl (by decide) ?_
    refine at_off rfl rfl rfl rfl (by decide) rfl (by decide) ?_
    refine at_q rfl rfl (by decide) (qt_pickT rfl rfl rfl) ?_
    refine at_end ?_
    refine at_yes rfl rfl ?_
    refine at_seq ?_
    refine at_region ?_
    refine at_q rfl rfl (by decide) (qt_assign rfl rfl) ?_
    refine at_q rfl rfl (by decide) (qt_assign rfl rfl) ?_
    refine at_end ?_
    refine at_retc ?_
    refine then_ret ?_
    refine at_ret2 rfl (.tmp rfl) (.tmp rfl) ?_
    intro w' hs
    exact ⟨by simp [pinV, pinA, pinC, g1], hs.fin⟩
  · try simp only [decide_eq_true_eq, decide_eq_false_iff_not, beq_iff_eq, beq_eq_false_iff_ne, Bool.not_eq_true', Bool.not_eq_false', Bool.not_true, Bool.not_false, Int.not_lt, Int.not_le, ne_eq, Nat.not_lt, Nat.not_le] at g1
    refine at_on rfl rfl rfl rfl ?_
    refine op_q rfl (by decide) (qt_loadS rfl rfl tys_impl_Pt rfl (rdAll (k := 1) rfl)) ?_
    refine at_on rfl rfl rfl rfl ?_
    refine op_q rfl (by decide) (qt_call ok_impl_ValidPt rfl rfl (fun w1 hs => ValidPt_any x y w1)) ?_
    refine at_on rfl rfl rfl rfl ?_
    refine op_q rfl (by decide) (qt_not rfl rfl) ?_
    refine at_q rfl rfl (by decide) (qt_pickF rfl rfl rfl) ?_
    refine at_end ?_
    refine at_cond rfl (fun c1 => ?_) (fun c1 => ?_)
    · try simp only [decide_eq_true_eq, decide_eq_false_iff_not, beq_iff_eq, beq_eq_false_iff_ne, Bool.not_eq_true', Bool.not_eq_false', Bool.not_true, Bool.not_false, Int.not_lt, Int.not_le, ne_eq, Nat.not_lt, Nat.not_le] at c1
      refine at_seq ?_
      refine at_region ?_
      refine at_q rfl rfl (by decide) (qt_assign rfl rfl) ?_
      refine at_q rfl rfl (by decide) (qt_assign rfl rfl) ?_
      refine at_end ?_
      refine at_retc ?_
      refine then_ret ?_
      refine at_ret2 rfl (.tmp rfl) (.tmp rfl) ?_
      intro w' hs
      exact ⟨by simp [pinV, pinA, pinC, c1], hs.fin⟩
    · try simp only [decide_eq_true_eq, decide_eq_false_iff_not, beq_iff_eq, beq_eq_false_iff_ne, Bool.not_eq_true', Bool.not_eq_false', Bool.not_true, Bool.not_false, Int.not_lt, Int.not_le, ne_eq, Nat.not_lt, Nat.not_le] at c1
      have hr := g1
      have hp := c1
      obtain ⟨hx, hy⟩ := okB_bd hp
      refine at_skip ?_
      refine norm_then ?_
      refine at_seq ?_
      refine at_region ?_
      refine at_q rfl rfl (by decide) (qt_loadS rfl rfl tys_impl_Region rfl (rdAll (k := 0) rfl)) ?_
      refine at_op rfl ?_
      refine op_call ok_impl_edgesOf (v := fun x => .slice x.1 _ x.2) (r := fun x => rowR 0 131 4 _ _ x) (H := fun _ => True) rfl rfl rfl (by decide) (fun w1 hs => newRow' (edgesOf_any A n c rs w1 (h.over hs.fin) ht)) ?_
      rintro ⟨eA, ec⟩ -
      refine at_rsE (by simp only [List.nil_append, List.cons_append, List.set_cons_zero, List.set_cons_succ, Value.cells, List.toList_toArray]; rfl) ?_
      refine at_q rfl rfl (by decide) (qt_assign rfl rfl) ?_
      refine at_end ?_
      refine at_seq ?_
      refine at_block ?_
      refine at_seq ?_
      refine at_region ?_
      refine at_q rfl rfl (by decide) (qt_move rfl rfl) ?_
      refine at_q rfl rfl (by decide) (qt_loadS rfl rfl tys_impl_Pt rfl (rdAll (k := 1) rfl)) ?_
      refine at_q rfl rfl (by decide) (qt_call ok_impl_onEdges rfl rfl (fun w1 hs => onEdges_any eA _ ec (edgesAll rs) x y false w1 (rowLegs (k := 2) rfl rfl w1 hs) (allLen hr) (regOk hr) hx hy)) ?_
      refine at_q rfl rfl (by decide) (qt_assign rfl rfl) ?_
      refine at_end ?_
      refine at_cond rfl (fun c2 => ?_) (fun c2 => ?_)
      · try simp only [decide_eq_true_eq, decide_eq_false_iff_not, beq_iff_eq, beq_eq_false_iff_ne, Bool.not_eq_true', Bool.not_eq_false', Bool.not_true, Bool.not_false, Int.not_lt, Int.not_le, ne_eq, Nat.not_lt, Nat.not_le] at c2
        refine at_seq ?_
        refine at_region ?_
        refine at_q rfl rfl (by decide) (qt_assign rfl rfl) ?_
        refine at_q rfl rfl (by decide) (qt_assign rfl rfl) ?_
        refine at_end ?_
        refine at_retc ?_
        refine pass_ret ?_
        refine then_ret ?_
        refine at_ret2 rfl (.tmp rfl) (.tmp rfl) ?_
        intro w' hs
        exact ⟨by simp [pinV, pinA, pinC, hr, hp, c2], hs.fin⟩
      · try simp only [decide_eq_true_eq, decide_eq_false_iff_not, beq_iff_eq, beq_eq_false_iff_ne, Bool.not_eq_true', Bool.not_eq_false', Bool.not_true, Bool.not_false, Int.not_lt, Int.not_le, ne_eq, Nat.not_lt, Nat.not_le] at c2
        refine at_seq ?_
        refine at_region ?_
        refine at_q rfl rfl (by decide) (qt_move rfl rfl) ?_
        refine at_q rfl rfl (by decide) (qt_loadS rfl rfl tys_impl_Pt rfl (rdAll (k := 1) rfl)) ?_
        refine at_q rfl rfl (by decide) (qt_call ok_impl_windingOf rfl rfl (fun w1 hs => windingOf_any eA _ ec (edgesAll rs) x y false w1 (rowLegs (k := 2) rfl rfl w1 hs) (allLen hr) (regOk hr) hx hy)) ?_
        refine at_q rfl rfl (by decide) (qt_neq rfl rfl rfl) ?_
        refine at_q rfl rfl (by decide) (qt_assign rfl rfl) ?_
        refine at_end ?_
        refine at_cond rfl (fun c3 => ?_) (fun c3 => ?_)
        · try simp only [decide_eq_true_eq, decide_eq_false_iff_not, beq_iff_eq, beq_eq_false_iff_ne, Bool.not_eq_true', Bool.not_eq_false', Bool.not_true, Bool.not_false, Int.not_lt, Int.not_le, ne_eq, Nat.not_lt, Nat.not_le] at c3
          refine at_seq ?_
          refine at_region ?_
          refine at_q rfl rfl (by decide) (qt_assign rfl rfl) ?_
          refine at_q rfl rfl (by decide) (qt_assign rfl rfl) ?_
          refine at_end ?_
          refine at_retc ?_
          refine pass_ret ?_
          refine then_ret ?_
          refine at_ret2 rfl (.tmp rfl) (.tmp rfl) ?_
          intro w' hs
          exact ⟨by simp [pinV, pinA, pinC, hr, hp, c2, c3], hs.fin⟩
        · try simp only [decide_eq_true_eq, decide_eq_false_iff_not, beq_iff_eq, beq_eq_false_iff_ne, Bool.not_eq_true', Bool.not_eq_false', Bool.not_true, Bool.not_false, Int.not_lt, Int.not_le, ne_eq, Nat.not_lt, Nat.not_le] at c3
          refine at_skip ?_
          refine norm_block ?_
          refine norm_then ?_
          refine at_seq ?_
          refine at_region ?_
          refine at_q rfl rfl (by decide) (qt_assign rfl rfl) ?_
          refine at_q rfl rfl (by decide) (qt_assign rfl rfl) ?_
          refine at_end ?_
          refine at_retc ?_
          refine at_ret2 rfl (.tmp rfl) (.tmp rfl) ?_
          intro w' hs
          exact ⟨by simp [pinV, pinA, pinC, hr, hp, c2, c3], hs.fin⟩
theorem specPointIn_any (A : Option Addr) (n c : Nat) (rs : List Ring_) (x y : Int) (w : World) (h : Rings w A n rs) (ht : (total rs : Int) ≤ 1048577) :
    Calls Try.prog 39 #[regV A n c, ptV x y] w fun e w' => e = .returned (pinV rs x y) ∧ Over w w' := by
  refine walk_from (m := 22) (Try.func39) rfl rfl (Nat.le_of_ble_eq_true rfl) ?_
  refine at_seq ?_
  refine at_region ?_
  refine at_op rfl ?_
  refine op_box rfl rfl (rfl) rfl (by decide) (fun b1 => ?_)
  refine at_rsE (by simp only [List.nil_append, List.cons_append, List.set_cons_zero, List.set_cons_succ, Value.cells, List.toList_toArray]; rfl) ?_
  refine at_op rfl ?_
  refine op_box rfl rfl (rfl) rfl (by decide) (fun b2 => ?_)
  refine at_rsE (by simp only [List.nil_append, List.cons_append, List.set_cons_zero, List.set_cons_succ, Value.cells, List.toList_toArray]; rfl) ?_
  refine at_q rfl rfl (by decide) (qt_assign rfl rfl) ?_
  refine at_q rfl rfl (by decide) (qt_assign rfl rfl) ?_
  refine at_end ?_
  refine at_seq ?_
  refine at_seq ?_
  refine at_region ?_
  refine at_q rfl rfl (by decide) (qt_call ok_spec_l13Ok rfl rfl (fun w1 hs => l13Ok_any _ _ A n c rs w1 (rd1 (k := 0) rfl rfl w1 hs) (lt_of_some (hs.cel (k := 0) rfl)) (h.over hs.fin) ht)) ?_
  refine at_q rfl rfl (by decide) (qt_not rfl rfl) ?_
  refine at_q rfl rfl (by decide) (qt_move rfl rfl) ?_
  refine at_bsplit 9 rfl (fun g1 => ?_) (fun g1 => ?_)
  · try simp only [decide_eq_true_eq, decide_eq_false_iff_not, beq_iff_eq, beq_eq_false_iff_ne, Bool.not_eq_true', Bool.not_eq_false', Bool.not_true, Bool.not_false, Int.not_lt, Int.not_le, ne_eq, Nat.not_lt, Nat.not_le] at g1
    refine at_off rfl rfl rfl rfl (by decide) rfl (by decide) ?_
    refine at_off rfl rfl rfl rfl (by decide) rfl (by decide) ?_
    refine at_off rfl rfl rfl rfl (by decide) rfl (by decide) ?_
    refine at_q rfl rfl (by decide) (qt_pickT rfl rfl rfl) ?_
    refine at_end ?_
    refine at_yes rfl rfl ?_
    refine at_seq ?_
    refine at_region ?_
    refine at_q rfl rfl (by decide) (qt_assign rfl rfl) ?_
    refine at_q rfl rfl (by decide) (qt_assign rfl rfl) ?_
    refine at_end ?_
    refine at_retc ?_
    refine then_ret ?_
    refine at_ret2 rfl (.tmp rfl) (.tmp rfl) ?_
    intro w' hs
    exact ⟨by simp [pinV, pinA, pinC, g1], hs.fin⟩
  · try simp only [decide_eq_true_eq, decide_eq_false_iff_not, beq_iff_eq, beq_eq_false_iff_ne, Bool.not_eq_true', Bool.not_eq_false', Bool.not_true, Bool.not_false, Int.not_lt, Int.not_le, ne_eq, Nat.not_lt, Nat.not_le] at g1
    refine at_on rfl rfl rfl rfl ?_
    refine op_q rfl (by decide) (qt_loadS rfl rfl tys_impl_Pt rfl (rdAll (k := 1) rfl)) ?_
    refine at_on rfl rfl rfl rfl ?_
    refine op_q rfl (by decide) (qt_call ok_spec_l03Ok rfl rfl (fun w1 hs => l03Ok_any x y w1)) ?_
    refine at_on rfl rfl rfl rfl ?_
    refine op_q rfl (by decide) (qt_not rfl rfl) ?_
    refine at_q rfl rfl (by decide) (qt_pickF rfl rfl rfl) ?_
    refine at_end ?_
    refine at_cond rfl (fun c1 => ?_) (fun c1 => ?_)
    · try simp only [decide_eq_true_eq, decide_eq_false_iff_not, beq_iff_eq, beq_eq_false_iff_ne, Bool.not_eq_true', Bool.not_eq_false', Bool.not_true, Bool.not_false, Int.not_lt, Int.not_le, ne_eq, Nat.not_lt, Nat.not_le] at c1
      refine at_seq ?_
      refine at_region ?_
      refine at_q rfl rfl (by decide) (qt_assign rfl rfl) ?_
      refine at_q rfl rfl (by decide) (qt_assign rfl rfl) ?_
      refine at_end ?_
      refine at_retc ?_
      refine then_ret ?_
      refine at_ret2 rfl (.tmp rfl) (.tmp rfl) ?_
      intro w' hs
      exact ⟨by simp [pinV, pinA, pinC, c1], hs.fin⟩
    · try simp only [decide_eq_true_eq, decide_eq_false_iff_not, beq_iff_eq, beq_eq_false_iff_ne, Bool.not_eq_true', Bool.not_eq_false', Bool.not_true, Bool.not_false, Int.not_lt, Int.not_le, ne_eq, Nat.not_lt, Nat.not_le] at c1
      have hr := g1
      have hp := c1
      obtain ⟨hx, hy⟩ := okB_bd hp
      refine at_skip ?_
      refine norm_then ?_
      refine at_seq ?_
      refine at_region ?_
      refine at_op rfl ?_
      refine op_call ok_spec_l13All (v := fun x => .slice x.1 _ x.2) (r := fun x => rowR 0 127 4 _ _ x) (H := fun _ => True) rfl rfl rfl (by decide) (fun w1 hs => newRow' ((l13All_any _ _ A n c rs w1 (rd1 (k := 0) rfl rfl w1 hs) (lt_of_some (hs.cel (k := 0) rfl)) (h.over hs.fin) ht).mono fun e w' ⟨v, h1, _, h2, h3⟩ => ⟨v, h1, h2, h3⟩)) ?_
      rintro ⟨eA, ec⟩ -
      refine at_rsE (by simp only [List.nil_append, List.cons_append, List.set_cons_zero, List.set_cons_succ, Value.cells, List.toList_toArray]; rfl) ?_
      refine at_q rfl rfl (by decide) (qt_assign rfl rfl) ?_
      refine at_end ?_
      refine at_seq ?_
      refine at_seq ?_
      refine at_region ?_
      refine at_q rfl rfl (by decide) (qt_move rfl rfl) ?_
      refine at_q rfl rfl (by decide) (qt_loadS rfl rfl tys_impl_Pt rfl (rdAll (k := 1) rfl)) ?_
      refine at_q rfl rfl (by decide) (qt_call ok_spec_l14OnAny rfl rfl (fun w1 hs => l14OnAny_any eA _ ec (edgesAll rs) x y w1 (rowLegs (k := 2) rfl rfl w1 hs) (allLen hr) (regOk hr) hx hy)) ?_
      refine at_end ?_
      refine at_cond rfl (fun c2 => ?_) (fun c2 => ?_)
      · try simp only [decide_eq_true_eq, decide_eq_false_iff_not, beq_iff_eq, beq_eq_false_iff_ne, Bool.not_eq_true', Bool.not_eq_false', Bool.not_true, Bool.not_false, Int.not_lt, Int.not_le, ne_eq, Nat.not_lt, Nat.not_le] at c2
        refine at_seq ?_
        refine at_region ?_
        refine at_q rfl rfl (by decide) (qt_assign rfl rfl) ?_
        refine at_q rfl rfl (by decide) (qt_assign rfl rfl) ?_
        refine at_end ?_
        refine at_retc ?_
        refine then_ret ?_
        refine at_ret2 rfl (.tmp rfl) (.tmp rfl) ?_
        intro w' hs
        exact ⟨by simp [pinV, pinA, pinC, hr, hp, c2], hs.fin⟩
      · try simp only [decide_eq_true_eq, decide_eq_false_iff_not, beq_iff_eq, beq_eq_false_iff_ne, Bool.not_eq_true', Bool.not_eq_false', Bool.not_true, Bool.not_false, Int.not_lt, Int.not_le, ne_eq, Nat.not_lt, Nat.not_le] at c2
        refine at_skip ?_
        refine norm_then ?_
        refine at_seq ?_
        refine at_seq ?_
        refine at_region ?_
        refine at_q rfl rfl (by decide) (qt_move rfl rfl) ?_
        refine at_q rfl rfl (by decide) (qt_loadS rfl rfl tys_impl_Pt rfl (rdAll (k := 1) rfl)) ?_
        refine at_q rfl rfl (by decide) (qt_call ok_spec_l14Winding rfl rfl (fun w1 hs => l14Winding_any eA _ ec (edgesAll rs) x y w1 (rowLegs (k := 2) rfl rfl w1 hs) (allLen hr) (regOk hr) hx hy)) ?_
        refine at_q rfl rfl (by decide) (qt_neq rfl rfl rfl) ?_
        refine at_end ?_
        refine at_cond rfl (fun c3 => ?_) (fun c3 => ?_)
        · try simp only [decide_eq_true_eq, decide_eq_false_iff_not, beq_iff_eq, beq_eq_false_iff_ne, Bool.not_eq_true', Bool.not_eq_false', Bool.not_true, Bool.not_false, Int.not_lt, Int.not_le, ne_eq, Nat.not_lt, Nat.not_le] at c3
          refine at_seq ?_
          refine at_region ?_
          refine at_q rfl rfl (by decide) (qt_assign rfl rfl) ?_
          refine at_q rfl rfl (by decide) (qt_assign rfl rfl) ?_
          refine at_end ?_
          refine at_retc ?_
          refine then_ret ?_
          refine at_ret2 rfl (.tmp rfl) (.tmp rfl) ?_
          intro w' hs
          exact ⟨by simp [pinV, pinA, pinC, hr, hp, c2, c3], hs.fin⟩
        · try simp only [decide_eq_true_eq, decide_eq_false_iff_not, beq_iff_eq, beq_eq_false_iff_ne, Bool.not_eq_true', Bool.not_eq_false', Bool.not_true, Bool.not_false, Int.not_lt, Int.not_le, ne_eq, Nat.not_lt, Nat.not_le] at c3
          refine at_skip ?_
          refine norm_then ?_
          refine at_seq ?_
          refine at_region ?_
          refine at_q rfl rfl (by decide) (qt_assign rfl rfl) ?_
          refine at_q rfl rfl (by decide) (qt_assign rfl rfl) ?_
          refine at_end ?_
          refine at_retc ?_
          refine at_ret2 rfl (.tmp rfl) (.tmp rfl) ?_
          intro w' hs
          exact ⟨by simp [pinV, pinA, pinC, hr, hp, c2, c3], hs.fin⟩
end Go.Proofs.Ytadkfbkompamcaa
