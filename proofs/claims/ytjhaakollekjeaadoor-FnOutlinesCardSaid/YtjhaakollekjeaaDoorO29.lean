import Derived.Test.YtjhaakollekjeaaDoorO28
namespace Go.Proofs.YtjhaakollekjeaaDoor
open Go Go.RowKit
set_option linter.unusedVariables false
set_option linter.unusedSimpArgs false
set_option maxRecDepth 100000
set_option maxHeartbeats 4000000
set_option linter.unusedVariables false
set_option linter.unusedSimpArgs false

section
variable {w : World} {Rs : List Res} {b o n k off : Nat} {l : List Kn}
theorem rdKn (h : Kns w (some ⟨b, o, none⟩) n l) (hk : k < n) (he : off = o + k * 3) : ∀ w', St ⟨w, []⟩ Rs w' → ∀ q v, (knCells (kn l k))[q]? = some v → w'.cell? ⟨b, off + q, none⟩ = some v := rdES (knCells (kn l k)) 0 h (kn_get (by rw [h.1]; exact hk)) (fun q v hv => by rw [Nat.zero_add]; exact hv) (by omega)
theorem rdKnA (h : Kns w (some ⟨b, o, none⟩) n l) (hk : k < n) (he : off = o + k * 3) : ∀ w', St ⟨w, []⟩ Rs w' → ∀ q v, [Value.int .i64 (kn l k).1.1, Value.int .i64 (kn l k).1.2][q]? = some v → w'.cell? ⟨b, off + q, none⟩ = some v := rdES _ 0 h (kn_get (by rw [h.1]; exact hk)) (fun q v hv => by match q, hv with | 0, hv => exact hv | 1, hv => exact hv) (by omega)
theorem rdKnB (h : Kns w (some ⟨b, o, none⟩) n l) (hk : k < n) (he : off = o + k * 3 + 2) : ∀ w', St ⟨w, []⟩ Rs w' → w'.cell? ⟨b, off, none⟩ = some (.bool (kn l k).2) := fun w' hs => by
 have := rdKn h hk rfl w' hs 2 _ rfl
 rw [he]
 exact this
end
/-! ### The first one that fails -/
def fiI {α : Type} (f : α → Bool) (l : List α) : Int := match l.findIdx? (fun a => !f a) with
 | some i => (i : Int)
 | none => -1
section
variable {α : Type} {f : α → Bool} {l : List α} {k : Nat} {x : α}
theorem fi_at (hk : l[k]? = some x) (hx : f x = false) (hn : ∀ j y, j < k → l[j]? = some y → f y = true) : (k : Int) = fiI f l := by
 obtain ⟨h1, h2⟩ := List.getElem?_eq_some_iff.1 hk
 have : l.findIdx? (fun a => !f a) = some k := List.findIdx?_eq_some_iff_getElem.2 ⟨h1, by rw [h2, hx]; rfl, fun j hj => by rw [hn j _ hj (List.getElem?_eq_getElem (by omega))]; simp⟩
 rw [fiI, this]
theorem fi_all (hn : ∀ j y, j < l.length → l[j]? = some y → f y = true) : l.all f = true := List.all_eq_true.2 fun x hx => by
 obtain ⟨j, hj, rfl⟩ := List.getElem_of_mem hx
 exact hn j _ hj (List.getElem?_eq_getElem hj)
theorem fi_none (hn : ∀ j y, j < l.length → l[j]? = some y → f y = true) : -1 = fiI f l := by
 have : l.findIdx? (fun a => !f a) = none := List.findIdx?_eq_none_iff.2 fun x hx => by rw [List.all_eq_true.1 (fi_all hn) x hx]; rfl
 rw [fiI, this]
theorem fi_ge (f : α → Bool) (l : List α) : decide (0 ≤ fiI f l) = !l.all f := by
 unfold fiI
 split
 ·rename_i i hi
  obtain ⟨h1, h2, _⟩ := List.findIdx?_eq_some_iff_getElem.1 hi
  have : l.all f = false := List.all_eq_false.2 ⟨_, List.getElem_mem h1, by simpa using h2⟩
  rw [this]
  exact decide_eq_true (by omega)
 ·rename_i hi
  have := List.findIdx?_eq_none_iff.1 hi
  have : l.all f = true := List.all_eq_true.2 fun x hx => by simpa using this x hx
  rw [this]
  rfl
theorem fi_step (hk : l[k]? = some x) (hx : f x = true) (hn : ∀ j y, j < k → l[j]? = some y → f y = true) : ∀ j y, j < k + 1 → l[j]? = some y → f y = true := fun j y hj hy => by
 by_cases e : j = k
 ·subst e
  rw [hk] at hy
  injection hy with hy
  rw [← hy]
  exact hx
 ·exact hn j y (by omega) hy
end
theorem loop_no1 {l : List Kn} (h : ¬ (1 ≤ l.length ∧ l.length ≤ 60)) : false = loopB l := by unfold loopB; rw [decide_eq_false h]; rfl
theorem loop_no2 {l : List Kn} (h : (kn l 0).2 = false) : false = loopB l := by unfold loopB; rw [h, Bool.and_false]; rfl
theorem loop_all {l : List Kn} (h1 : 1 ≤ l.length ∧ l.length ≤ 60) (h2 : (kn l 0).2 = true) : l.all knB = loopB l := by unfold loopB; rw [decide_eq_true h1, h2]; rfl
theorem out_no {ls : List (List Kn)} (h : ¬ ls.length ≤ 12) : false = outB ls := by unfold outB; rw [decide_eq_false h]; rfl
theorem out_yes {ls : List (List Kn)} (h : ls.length ≤ 12) : ls.all loopB = outB ls := by unfold outB; rw [decide_eq_true h]; rfl
theorem lp_get {ls : List (List Kn)} {k : Nat} (h : k < ls.length) : ls[k]? = some (lp ls k) := by simp [lp, List.getD, h]

/-! ### The program -/
theorem validKn1_any (k : Kn) (w : World) : Calls Tryd.prog 66 #[knV k] w fun e w' => e = .returned (.bool (!knB k)) ∧ Over w w' := by
 refine walk_from (m := 7) (Tryd.func66) rfl rfl (Nat.le_of_ble_eq_true rfl) ?_
 refine at_seq ?_
 refine at_region ?_
 refine at_op rfl ?_
 refine op_box rfl rfl (rfl) rfl (by decide) (fun b1 => ?_)
 refine at_rsE (by simp only [ya,yb,yc,yd,Value.cells,ye]; rfl) ?_
 refine at_q rfl rfl (by decide) (qt_assign rfl rfl) ?_
 refine at_end ?_
 refine at_seq ?_
 refine at_region ?_
 refine at_q rfl rfl (by decide) (qt_fieldAddr rfl rfl tyf_impl_Knot_0) ?_
 refine at_q rfl rfl (by decide) (qt_loadS rfl rfl tys_impl_Pt rfl (rd2 (k := 0) rfl rfl rfl)) ?_
 refine at_q rfl rfl (by decide) (qt_call ok_impl_ValidPt rfl rfl (fun w1 hs => ValidPt_any k.1.1 k.1.2 w1)) ?_
 refine at_q rfl rfl (by decide) (qt_not rfl rfl) ?_
 refine at_q rfl rfl (by decide) (qt_assign rfl rfl) ?_
 refine at_end ?_
 refine at_retc ?_
 refine at_ret1 rfl (.tmp rfl) ?_
 intro w' hs
 exact ⟨rfl, hs.fin⟩
theorem IndexKn_any (A : Option Addr) (n c : Nat) (l : List Kn) (w : World) (h : Kns w A n l) (hn : (n : Int) ≤ 9223372036854775807) : Calls Tryd.prog 87 #[.slice A n c, .func (.func 66) #[] #[]] w fun e w' => e = .returned (.int .i64 (fiI knB l)) ∧ Over w w' := by
 have hl := h.1
 refine walk_from (m := 19) (Tryd.func87) rfl rfl (Nat.le_of_ble_eq_true rfl) ?_
 refine at_seq ?_
 refine at_region ?_
 refine at_q rfl rfl (by decide) (qt_assign rfl rfl) ?_
 refine at_end ?_
 refine at_seq ?_
 refine at_seq ?_
 refine at_region ?_
 refine at_q rfl rfl (by decide) (qt_move rfl rfl) ?_
 refine at_q rfl rfl (by decide) (qt_len rfl rfl tyl_sl_impl_Knot) ?_
 refine at_q rfl rfl (by decide) (qt_move rfl rfl) ?_
 refine at_end ?_
 refine at_block ?_
 refine at_loopk (X := Nat) (fun k => k ≤ n ∧ ∀ j y, j < k → l[j]? = some y → knB y = true) (fun k => n - k) (fun k => [(8, .int .i64 (k : Int))]) (C := [(0, _), (1, _), (4, _), (7, _)]) ⟨rfl, rfl, rfl, rfl, trivial⟩ 0 (⟨Nat.zero_le _, fun j y hj => absurd hj (Nat.not_lt_zero j)⟩) ⟨rfl, rfl, rfl, rfl, rfl, trivial⟩ ?_
 intro k hk L hL1
 refine at_envE (by simp only [ya,yb]; rfl) ?_
 refine at_seq ?_
 refine at_region ?_
 refine at_q rfl rfl (by decide) (qt_lss rfl rfl rfl) ?_
 refine at_end ?_
 refine at_seq ?_
 refine at_cond rfl (fun c1 => ?_) (fun c1 => ?_)
 ·try simp only [za,zb,zc,zd,ze,zf,Bool.not_true,Bool.not_false,zg,zh,ne_eq,zi,zj] at c1
  have hlt : k < n := (by omega)
  obtain ⟨eb, eo, rfl, _⟩ := h.at_ (by omega)
  refine at_skip ?_
  refine norm_then ?_
  refine at_seq ?_
  refine at_block ?_
  refine at_seq ?_
  refine at_region ?_
  refine at_q rfl rfl (by decide) (qt_move rfl rfl) ?_
  refine at_q rfl rfl (by decide) (qt_assign rfl rfl) ?_
  refine at_end ?_
  refine at_seq ?_
  refine at_region ?_
  refine at_q rfl rfl (by decide) (qt_move rfl rfl) ?_
  refine at_q rfl rfl (by decide) (qt_move rfl rfl) ?_
  refine at_q rfl rfl (by decide) (qt_move rfl rfl) ?_
  refine at_q rfl rfl (by decide) (qt_index rfl rfl rfl tyl_sl_impl_Knot (by omega)) ?_
  refine at_q rfl rfl (by decide) (qt_loadS rfl rfl tys_impl_Knot rfl (rdKn h hlt rfl)) ?_
  refine at_q rfl rfl (by decide) (qt_callk ok_impl_ValidLoop_1 rfl rfl rfl (fun w1 hs => validKn1_any (kn l k) w1)) ?_
  refine at_end ?_
  refine at_cond rfl (fun c2 => ?_) (fun c2 => ?_)
  ·try simp only [za,zb,zc,zd,ze,zf,Bool.not_true,Bool.not_false,zg,zh,ne_eq,zi,zj] at c2
   refine at_seq ?_
   refine at_region ?_
   refine at_q rfl rfl (by decide) (qt_move rfl rfl) ?_
   refine at_q rfl rfl (by decide) (qt_assign rfl rfl) ?_
   refine at_end ?_
   refine at_retc ?_
   refine pass_ret ?_
   refine then_ret ?_
   refine then_ret ?_
   refine pass_ret ?_
   refine then_ret ?_
   refine at_ret1 rfl (.tmp rfl) ?_
   intro w' hs
   exact ⟨retI (fi_at (kn_get (by omega)) (by simpa using c2) hk.2), hs.fin⟩
  ·try simp only [za,zb,zc,zd,ze,zf,Bool.not_true,Bool.not_false,zg,zh,ne_eq,zi,zj] at c2
   refine at_skip ?_
   refine norm_block ?_
   refine norm_then ?_
   refine at_region ?_
   refine at_q rfl rfl (by decide) (qt_add rfl rfl rfl (by omega) (by omega)) ?_
   refine at_q rfl rfl (by decide) (qt_move rfl rfl) ?_
   refine at_end ?_
   exact at_againk hL1 (k + 1) (⟨by omega, fi_step (kn_get (by omega)) (by simpa using c2) hk.2⟩) (by omega) ⟨vi (by omega), rfl, rfl, rfl, rfl, trivial⟩ (fun _ h => h.upto trivial)
 ·try simp only [za,zb,zc,zd,ze,zf,Bool.not_true,Bool.not_false,zg,zh,ne_eq,zi,zj] at c1
  refine at_exit ?_
  refine pass_then (fun h => by cases h) ?_
  refine pass_then (fun h => by cases h) ?_
  refine pass_hit ?_
  refine norm_then ?_
  refine at_seq ?_
  refine at_region ?_
  refine at_q rfl rfl (by decide) (qt_assign rfl rfl) ?_
  refine at_end ?_
  refine at_retc ?_
  refine at_ret1 rfl (.tmp rfl) ?_
  intro w' hs
  exact ⟨retI (fi_none (by rw [hl, show n = k by omega]; exact hk.2)), hs.fin⟩
theorem ContainsKn_any (A : Option Addr) (n c : Nat) (l : List Kn) (w : World) (h : Kns w A n l) (hn : (n : Int) ≤ 9223372036854775807) : Calls Tryd.prog 65 #[.slice A n c, .func (.func 66) #[] #[]] w fun e w' => e = .returned (.bool (!l.all knB)) ∧ Over w w' := by
 refine walk_from (m := 9) (Tryd.func65) rfl rfl (Nat.le_of_ble_eq_true rfl) ?_
 refine at_seq ?_
 refine at_region ?_
 refine at_q rfl rfl (by decide) (qt_assign rfl rfl) ?_
 refine at_end ?_
 refine at_seq ?_
 refine at_region ?_
 refine at_q rfl rfl (by decide) (qt_move rfl rfl) ?_
 refine at_q rfl rfl (by decide) (qt_move rfl rfl) ?_
 refine at_q rfl rfl (by decide) (qt_call ok_slices_IndexFunc_sl_impl_Knot_impl_Knot rfl rfl (fun w1 hs => IndexKn_any A n _ l w1 (h.over hs.fin) hn)) ?_
 refine at_q rfl rfl (by decide) (qt_geq rfl rfl rfl) ?_
 refine at_q rfl rfl (by decide) (qt_assign rfl rfl) ?_
 refine at_end ?_
 refine at_retc ?_
 refine at_ret1 rfl (.tmp rfl) ?_
 intro w' hs
 exact ⟨retB (fi_ge _ _), hs.fin⟩
theorem ValidLoop_any (A : Option Addr) (n c : Nat) (l : List Kn) (w : World) (h : Kns w A n l) (hn : (n : Int) ≤ 9223372036854775807) : Calls Tryd.prog 40 #[outV A n c] w fun e w' => e = .returned (.bool (loopB l)) ∧ Over w w' := by
 have hl := h.1
 refine walk_from (m := 25) (Tryd.func40) rfl rfl (Nat.le_of_ble_eq_true rfl) ?_
 refine at_seq ?_
 refine at_region ?_
 refine at_op rfl ?_
 refine op_box rfl rfl (rfl) rfl (by decide) (fun b1 => ?_)
 refine at_rsE (by simp only [ya,yb,yc,yd,Value.cells,ye]; rfl) ?_
 refine at_q rfl rfl (by decide) (qt_assign rfl rfl) ?_
 refine at_end ?_
 refine at_seq ?_
 refine at_seq ?_
 refine at_region ?_
 refine at_q rfl rfl (by decide) (qt_fieldAddr rfl rfl tyf_impl_Loop_0) ?_
 refine at_q rfl rfl (by decide) (qt_load1 rfl rfl ty1_sl_impl_Knot (rd1 (k := 0) rfl rfl)) ?_
 refine at_q rfl rfl (by decide) (qt_len rfl rfl tyl_sl_impl_Knot) ?_
 refine at_q rfl rfl (by decide) (qt_lss rfl rfl rfl) ?_
 refine at_q rfl rfl (by decide) (qt_move rfl rfl) ?_
 refine at_bsplit 7 rfl (fun g1 => ?_) (fun g1 => ?_)
 ·try simp only [za,zb,zc,zd,ze,zf,Bool.not_true,Bool.not_false,zg,zh,ne_eq,zi,zj] at g1
  refine at_off rfl rfl rfl rfl (by decide) rfl (by decide) ?_
  refine at_off rfl rfl rfl rfl (by decide) rfl (by decide) ?_
  refine at_off rfl rfl rfl rfl (by decide) rfl (by decide) ?_
  refine at_off rfl rfl rfl rfl (by decide) rfl (by decide) ?_
  refine at_q rfl rfl (by decide) (qt_pickT rfl rfl rfl) ?_
  refine at_q rfl rfl (by decide) (qt_move rfl rfl) ?_
  refine at_off rfl rfl rfl rfl (by decide) rfl (by decide) ?_
  refine at_off rfl rfl rfl rfl (by decide) rfl (by decide) ?_
  refine at_off rfl rfl rfl rfl (by decide) rfl (by decide) ?_
  refine at_off rfl rfl rfl rfl (by decide) rfl (by decide) ?_
  refine at_off rfl rfl rfl rfl (by decide) rfl (by decide) ?_
  refine at_off rfl rfl rfl rfl (by decide) rfl (by decide) ?_
  refine at_q rfl rfl (by decide) (qt_pickT rfl rfl rfl) ?_
  refine at_end ?_
  refine at_yes rfl rfl ?_
  refine at_seq ?_
  refine at_region ?_
  refine at_q rfl rfl (by decide) (qt_assign rfl rfl) ?_
  refine at_end ?_
  refine at_retc ?_
  refine then_ret ?_
  refine at_ret1 rfl (.tmp rfl) ?_
  intro w' hs
  exact ⟨retB (loop_no1 (by omega)), hs.fin⟩
 ·try simp only [za,zb,zc,zd,ze,zf,Bool.not_true,Bool.not_false,zg,zh,ne_eq,zi,zj] at g1
  refine at_on rfl rfl rfl rfl ?_
  refine op_q rfl (by decide) (qt_fieldAddr rfl rfl tyf_impl_Loop_0) ?_
  refine at_on rfl rfl rfl rfl ?_
  refine op_q rfl (by decide) (qt_load1 rfl rfl ty1_sl_impl_Knot (rd1 (k := 0) rfl rfl)) ?_
  refine at_on rfl rfl rfl rfl ?_
  refine op_q rfl (by decide) (qt_len rfl rfl tyl_sl_impl_Knot) ?_
  refine at_on rfl rfl rfl rfl ?_
  refine op_q rfl (by decide) (qt_gtr rfl rfl rfl) ?_
  refine at_q rfl rfl (by decide) (qt_pickF rfl rfl rfl) ?_
  refine at_q rfl rfl (by decide) (qt_move rfl rfl) ?_
  refine at_bsplit 13 rfl (fun g2 => ?_) (fun g2 => ?_)
  ·try simp only [za,zb,zc,zd,ze,zf,Bool.not_true,Bool.not_false,zg,zh,ne_eq,zi,zj] at g2
   refine at_off rfl rfl rfl rfl (by decide) rfl (by decide) ?_
   refine at_off rfl rfl rfl rfl (by decide) rfl (by decide) ?_
   refine at_off rfl rfl rfl rfl (by decide) rfl (by decide) ?_
   refine at_off rfl rfl rfl rfl (by decide) rfl (by decide) ?_
   refine at_off rfl rfl rfl rfl (by decide) rfl (by decide) ?_
   refine at_off rfl rfl rfl rfl (by decide) rfl (by decide) ?_
   refine at_q rfl rfl (by decide) (qt_pickT rfl rfl rfl) ?_
   refine at_end ?_
   refine at_yes rfl rfl ?_
   refine at_seq ?_
   refine at_region ?_
   refine at_q rfl rfl (by decide) (qt_assign rfl rfl) ?_
   refine at_end ?_
   refine at_retc ?_
   refine then_ret ?_
   refine at_ret1 rfl (.tmp rfl) ?_
   intro w' hs
   exact ⟨retB (loop_no1 (by omega)), hs.fin⟩
  ·try simp only [za,zb,zc,zd,ze,zf,Bool.not_true,Bool.not_false,zg,zh,ne_eq,zi,zj] at g2
   obtain ⟨eb, eo, rfl, _⟩ := h.at_ (by omega)
   refine at_on rfl rfl rfl rfl ?_
   refine op_q rfl (by decide) (qt_fieldAddr rfl rfl tyf_impl_Loop_0) ?_
   refine at_on rfl rfl rfl rfl ?_
   refine op_q rfl (by decide) (qt_load1 rfl rfl ty1_sl_impl_Knot (rd1 (k := 0) rfl rfl)) ?_
   refine at_on rfl rfl rfl rfl ?_
   refine op_q rfl (by decide) (qt_index (j := 0) rfl rfl rfl tyl_sl_impl_Knot (by omega)) ?_
   refine at_on rfl rfl rfl rfl ?_
   refine op_q rfl (by decide) (qt_fieldAddr rfl rfl tyf_impl_Knot_1) ?_
   refine at_on rfl rfl rfl rfl ?_
   refine op_q rfl (by decide) (qt_load1 rfl rfl ty1_bool (rdKnB h (k := 0) (by omega) rfl)) ?_
   refine at_on rfl rfl rfl rfl ?_
   refine op_q rfl (by decide) (qt_not rfl rfl) ?_
   refine at_q rfl rfl (by decide) (qt_pickF rfl rfl rfl) ?_
   refine at_end ?_
   refine at_cond rfl (fun c1 => ?_) (fun c1 => ?_)
   ·try simp only [za,zb,zc,zd,ze,zf,Bool.not_true,Bool.not_false,zg,zh,ne_eq,zi,zj] at c1
    refine at_seq ?_
    refine at_region ?_
    refine at_q rfl rfl (by decide) (qt_assign rfl rfl) ?_
    refine at_end ?_
    refine at_retc ?_
    refine then_ret ?_
    refine at_ret1 rfl (.tmp rfl) ?_
    intro w' hs
    exact ⟨retB (loop_no2 (by simpa using c1)), hs.fin⟩
   ·try simp only [za,zb,zc,zd,ze,zf,Bool.not_true,Bool.not_false,zg,zh,ne_eq,zi,zj] at c1
    refine at_skip ?_
    refine norm_then ?_
    refine at_seq ?_
    refine at_region ?_
    refine at_q rfl rfl (by decide) (qt_fieldAddr rfl rfl tyf_impl_Loop_0) ?_
    refine at_q rfl rfl (by decide) (qt_load1 rfl rfl ty1_sl_impl_Knot (rd1 (k := 0) rfl rfl)) ?_
    refine at_q rfl rfl (by decide) (qt_call ok_slices_ContainsFunc_sl_impl_Knot_impl_Knot rfl rfl (fun w1 hs => ContainsKn_any _ n _ l w1 (h.over hs.fin) hn)) ?_
    refine at_q rfl rfl (by decide) (qt_not rfl rfl) ?_
    refine at_q rfl rfl (by decide) (qt_assign rfl rfl) ?_
    refine at_end ?_
    refine at_retc ?_
    refine at_ret1 rfl (.tmp rfl) ?_
    intro w' hs
    exact ⟨retB (by rw [Bool.not_not]; exact loop_all (by omega) (by simpa using c1)), hs.fin⟩
theorem validLp1_any (A : Option Addr) (n c : Nat) (l : List Kn) (w : World) (h : Kns w A n l) (hn : (n : Int) ≤ 9223372036854775807) : Calls Tryd.prog 59 #[outV A n c] w fun e w' => e = .returned (.bool (!loopB l)) ∧ Over w w' := by
 refine walk_from (m := 6) (Tryd.func59) rfl rfl (Nat.le_of_ble_eq_true rfl) ?_
 refine at_seq ?_
 refine at_region ?_
 refine at_op rfl ?_
 refine op_box rfl rfl (rfl) rfl (by decide) (fun b1 => ?_)
 refine at_rsE (by simp only [ya,yb,yc,yd,Value.cells,ye]; rfl) ?_
 refine at_q rfl rfl (by decide) (qt_assign rfl rfl) ?_
 refine at_end ?_
 refine at_seq ?_
 refine at_region ?_
 refine at_q rfl rfl (by decide) (qt_loadS rfl rfl tys_impl_Loop rfl (rdAll (k := 0) rfl)) ?_
 refine at_q rfl rfl (by decide) (qt_call ok_impl_ValidLoop rfl rfl (fun w1 hs => ValidLoop_any A n _ l w1 (h.over hs.fin) hn)) ?_
 refine at_q rfl rfl (by decide) (qt_not rfl rfl) ?_
 refine at_q rfl rfl (by decide) (qt_assign rfl rfl) ?_
 refine at_end ?_
 refine at_retc ?_
 refine at_ret1 rfl (.tmp rfl) ?_
 intro w' hs
 exact ⟨rfl, hs.fin⟩
theorem IndexLp_any (A : Option Addr) (n c : Nat) (ls : List (List Kn)) (w : World) (h : Loops w A n ls) (hn : (n : Int) ≤ 9223372036854775807) : Calls Tryd.prog 82 #[.slice A n c, .func (.func 59) #[] #[]] w fun e w' => e = .returned (.int .i64 (fiI loopB ls)) ∧ Over w w' := by
 have hl := h.1
 refine walk_from (m := 19) (Tryd.func82) rfl rfl (Nat.le_of_ble_eq_true rfl) ?_
 refine at_seq ?_
 refine at_region ?_
 refine at_q rfl rfl (by decide) (qt_assign rfl rfl) ?_
 refine at_end ?_
 refine at_seq ?_
 refine at_seq ?_
 refine at_region ?_
 refine at_q rfl rfl (by decide) (qt_move rfl rfl) ?_
 refine at_q rfl rfl (by decide) (qt_len rfl rfl tyl_sl_impl_Loop) ?_
 refine at_q rfl rfl (by decide) (qt_move rfl rfl) ?_
 refine at_end ?_
 refine at_block ?_
 refine at_loopk (X := Nat) (fun k => k ≤ n ∧ ∀ j y, j < k → ls[j]? = some y → loopB y = true) (fun k => n - k) (fun k => [(8, .int .i64 (k : Int))]) (C := [(0, _), (1, _), (4, _), (7, _)]) ⟨rfl, rfl, rfl, rfl, trivial⟩ 0 (⟨Nat.zero_le _, fun j y hj => absurd hj (Nat.not_lt_zero j)⟩) ⟨rfl, rfl, rfl, rfl, rfl, trivial⟩ ?_
 intro k hk L hL1
 refine at_envE (by simp only [ya,yb]; rfl) ?_
 refine at_seq ?_
 refine at_region ?_
 refine at_q rfl rfl (by decide) (qt_lss rfl rfl rfl) ?_
 refine at_end ?_
 refine at_seq ?_
 refine at_cond rfl (fun c1 => ?_) (fun c1 => ?_)
 ·try simp only [za,zb,zc,zd,ze,zf,Bool.not_true,Bool.not_false,zg,zh,ne_eq,zi,zj] at c1
  have hlt : k < n := (by omega)
  obtain ⟨eb, eo, Ak, ck, rfl, hbB, hcell, hkns, hmax⟩ := h.at_ hlt
  refine at_skip ?_
  refine norm_then ?_
  refine at_seq ?_
  refine at_block ?_
  refine at_seq ?_
  refine at_region ?_
  refine at_q rfl rfl (by decide) (qt_move rfl rfl) ?_
  refine at_q rfl rfl (by decide) (qt_assign rfl rfl) ?_
  refine at_end ?_
  refine at_seq ?_
  refine at_region ?_
  refine at_q rfl rfl (by decide) (qt_move rfl rfl) ?_
  refine at_q rfl rfl (by decide) (qt_move rfl rfl) ?_
  refine at_q rfl rfl (by decide) (qt_move rfl rfl) ?_
  refine at_q rfl rfl (by decide) (qt_index rfl rfl rfl tyl_sl_impl_Loop (by omega)) ?_
  refine at_q rfl rfl (by decide) (qt_loadS rfl rfl tys_impl_Loop rfl (rdOld1 hcell hbB)) ?_
  refine at_q rfl rfl (by decide) (qt_callk ok_impl_ValidOutline_1 rfl rfl rfl (fun w1 hs => validLp1_any Ak _ ck (lp ls k) w1 (hkns.over hs.fin) hmax)) ?_
  refine at_end ?_
  refine at_cond rfl (fun c2 => ?_) (fun c2 => ?_)
  ·try simp only [za,zb,zc,zd,ze,zf,Bool.not_true,Bool.not_false,zg,zh,ne_eq,zi,zj] at c2
   refine at_seq ?_
   refine at_region ?_
   refine at_q rfl rfl (by decide) (qt_move rfl rfl) ?_
   refine at_q rfl rfl (by decide) (qt_assign rfl rfl) ?_
   refine at_end ?_
   refine at_retc ?_
   refine pass_ret ?_
   refine then_ret ?_
   refine then_ret ?_
   refine pass_ret ?_
   refine then_ret ?_
   refine at_ret1 rfl (.tmp rfl) ?_
   intro w' hs
   exact ⟨retI (fi_at (lp_get (by omega)) (by simpa using c2) hk.2), hs.fin⟩
  ·try simp only [za,zb,zc,zd,ze,zf,Bool.not_true,Bool.not_false,zg,zh,ne_eq,zi,zj] at c2
   refine at_skip ?_
   refine norm_block ?_
   refine norm_then ?_
   refine at_region ?_
   refine at_q rfl rfl (by decide) (qt_add rfl rfl rfl (by omega) (by omega)) ?_
   refine at_q rfl rfl (by decide) (qt_move rfl rfl) ?_
   refine at_end ?_
   exact at_againk hL1 (k + 1) (⟨by omega, fi_step (lp_get (by omega)) (by simpa using c2) hk.2⟩) (by omega) ⟨vi (by omega), rfl, rfl, rfl, rfl, trivial⟩ (fun _ h => h.upto trivial)
 ·try simp only [za,zb,zc,zd,ze,zf,Bool.not_true,Bool.not_false,zg,zh,ne_eq,zi,zj] at c1
  refine at_exit ?_
  refine pass_then (fun h => by cases h) ?_
  refine pass_then (fun h => by cases h) ?_
  refine pass_hit ?_
  refine norm_then ?_
  refine at_seq ?_
  refine at_region ?_
  refine at_q rfl rfl (by decide) (qt_assign rfl rfl) ?_
  refine at_end ?_
  refine at_retc ?_
  refine at_ret1 rfl (.tmp rfl) ?_
  intro w' hs
  exact ⟨retI (fi_none (by rw [hl, show n = k by omega]; exact hk.2)), hs.fin⟩
theorem ContainsLp_any (A : Option Addr) (n c : Nat) (ls : List (List Kn)) (w : World) (h : Loops w A n ls) (hn : (n : Int) ≤ 9223372036854775807) : Calls Tryd.prog 58 #[.slice A n c, .func (.func 59) #[] #[]] w fun e w' => e = .returned (.bool (!ls.all loopB)) ∧ Over w w' := by
 refine walk_from (m := 9) (Tryd.func58) rfl rfl (Nat.le_of_ble_eq_true rfl) ?_
 refine at_seq ?_
 refine at_region ?_
 refine at_q rfl rfl (by decide) (qt_assign rfl rfl) ?_
 refine at_end ?_
 refine at_seq ?_
 refine at_region ?_
 refine at_q rfl rfl (by decide) (qt_move rfl rfl) ?_
 refine at_q rfl rfl (by decide) (qt_move rfl rfl) ?_
 refine at_q rfl rfl (by decide) (qt_call ok_slices_IndexFunc_sl_impl_Loop_impl_Loop rfl rfl (fun w1 hs => IndexLp_any A n _ ls w1 (h.over hs.fin) hn)) ?_
 refine at_q rfl rfl (by decide) (qt_geq rfl rfl rfl) ?_
 refine at_q rfl rfl (by decide) (qt_assign rfl rfl) ?_
 refine at_end ?_
 refine at_retc ?_
 refine at_ret1 rfl (.tmp rfl) ?_
 intro w' hs
 exact ⟨retB (fi_ge _ _), hs.fin⟩
theorem ValidOutline_any (A : Option Addr) (n c : Nat) (ls : List (List Kn)) (w : World) (h : Loops w A n ls) (hn : (n : Int) ≤ 9223372036854775807) : Calls Tryd.prog 32 #[outV A n c] w fun e w' => e = .returned (.bool (outB ls)) ∧ Over w w' := by
 have hl := h.1
 refine walk_from (m := 13) (Tryd.func32) rfl rfl (Nat.le_of_ble_eq_true rfl) ?_
 refine at_seq ?_
 refine at_region ?_
 refine at_op rfl ?_
 refine op_box rfl rfl (rfl) rfl (by decide) (fun b1 => ?_)
 refine at_rsE (by simp only [ya,yb,yc,yd,Value.cells,ye]; rfl) ?_
 refine at_q rfl rfl (by decide) (qt_assign rfl rfl) ?_
 refine at_end ?_
 refine at_seq ?_
 refine at_region ?_
 refine at_q rfl rfl (by decide) (qt_fieldAddr rfl rfl tyf_impl_Outline_0) ?_
 refine at_q rfl rfl (by decide) (qt_load1 rfl rfl ty1_sl_impl_Loop (rd1 (k := 0) rfl rfl)) ?_
 refine at_q rfl rfl (by decide) (qt_len rfl rfl tyl_sl_impl_Loop) ?_
 refine at_q rfl rfl (by decide) (qt_leq rfl rfl rfl) ?_
 refine at_q rfl rfl (by decide) (qt_move rfl rfl) ?_
 refine at_bsplit 7 rfl (fun g1 => ?_) (fun g1 => ?_)
 ·try simp only [za,zb,zc,zd,ze,zf,Bool.not_true,Bool.not_false,zg,zh,ne_eq,zi,zj] at g1
  refine at_on rfl rfl rfl rfl ?_
  refine op_q rfl (by decide) (qt_fieldAddr rfl rfl tyf_impl_Outline_0) ?_
  refine at_on rfl rfl rfl rfl ?_
  refine op_q rfl (by decide) (qt_load1 rfl rfl ty1_sl_impl_Loop (rd1 (k := 0) rfl rfl)) ?_
  refine at_on rfl rfl rfl rfl ?_
  refine op_q rfl (by decide) (qt_call ok_slices_ContainsFunc_sl_impl_Loop_impl_Loop rfl rfl (fun w1 hs => ContainsLp_any _ n _ ls w1 (h.over hs.fin) hn)) ?_
  refine at_on rfl rfl rfl rfl ?_
  refine op_q rfl (by decide) (qt_not rfl rfl) ?_
  refine at_q rfl rfl (by decide) (qt_pickT rfl rfl rfl) ?_
  refine at_q rfl rfl (by decide) (qt_assign rfl rfl) ?_
  refine at_end ?_
  refine at_retc ?_
  refine at_ret1 rfl (.tmp rfl) ?_
  intro w' hs
  exact ⟨retB (by rw [Bool.not_not]; exact out_yes (by omega)), hs.fin⟩
 ·try simp only [za,zb,zc,zd,ze,zf,Bool.not_true,Bool.not_false,zg,zh,ne_eq,zi,zj] at g1
  refine at_off rfl rfl rfl rfl (by decide) rfl (by decide) ?_
  refine at_off rfl rfl rfl rfl (by decide) rfl (by decide) ?_
  refine at_off rfl rfl rfl rfl (by decide) rfl (by decide) ?_
  refine at_off rfl rfl rfl rfl (by decide) rfl (by decide) ?_
  refine at_q rfl rfl (by decide) (qt_pickF rfl rfl rfl) ?_
  refine at_q rfl rfl (by decide) (qt_assign rfl rfl) ?_
  refine at_end ?_
  refine at_retc ?_
  refine at_ret1 rfl (.tmp rfl) ?_
  intro w' hs
  exact ⟨retB (out_no (by omega)), hs.fin⟩
/-! ### The reference -/
end Go.Proofs.YtjhaakollekjeaaDoor
