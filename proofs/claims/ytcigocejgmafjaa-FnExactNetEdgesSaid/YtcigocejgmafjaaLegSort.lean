/- slices.SortFunc and slices.Compact at edges, on rows. -/
import Derived.Test.YtcigocejgmafjaaSortLg
import Derived.Test.YtcigocejgmafjaaCmp
import Derived.Test.YtcigocejgmafjaaNetP
import Derived.Test.YtcigocejgmafjaaSd2
import Derived.Test.YtcigocejgmafjaaSimp
namespace Go.Proofs.Ytcigocejgmafjaa
open Go Go.Shelf Go.RowKit Go.Lib Go.Sort
set_option linter.unusedVariables false
set_option linter.unusedSimpArgs false
set_option maxRecDepth 100000
set_option maxHeartbeats 4000000
set_option linter.unusedVariables false
set_option linter.unusedSimpArgs false

structure Gw where
 val : Leg
 ok : legOk val
instance : Inhabited Gw := ⟨⟨⟨0, 0, 0, 0⟩, ⟨by decide, by decide⟩, ⟨by decide, by decide⟩, ⟨by decide, by decide⟩, by decide, by decide⟩⟩
def encG (x : Gw) : List Value := legCells x.val
def cmpG (e f : Leg) : Int := if cmpYX (lA e) (lA f) = 0 then cmpYX (lB e) (lB f) else cmpYX (lA e) (lA f)
theorem cmpYX_zero (p q : Pn) : cmpYX p q = 0 ↔ p = q := by
 have h1 := sgn3 (p.1 - q.1)
 have h2 := sgn3 (p.2 - q.2)
 obtain ⟨x, y⟩ := p
 obtain ⟨x', y'⟩ := q
 unfold cmpYX
 simp only [Prod.mk.injEq] at *
 split <;> omega
theorem cmpG_lt (e f : Leg) : cmpG e f < 0 ↔ ltG e f := by
 have h1 := cmpYX_zero (lA e) (lA f)
 have h2 := cmpYX_lt (lA e) (lA f)
 have h3 := cmpYX_lt (lB e) (lB f)
 unfold cmpG ltG
 split
 ·rename_i h
  rw [h3]
  constructor
  ·exact fun k => .inr ⟨h1.1 h, k⟩
  ·rintro (k | ⟨_, k⟩)
   ·rw [h1.1 h] at k
    exact absurd k (ltY_irrefl _)
   ·exact k
 ·rename_i h
  rw [h2]
  constructor
  ·exact .inl
  ·rintro (k | ⟨k, _⟩)
   ·exact k
   ·exact absurd (h1.2 k) h
theorem ltOfG (x y : Gw) : ltOf (fun x y : Gw => cmpG x.val y.val) x y = decide (ltG x.val y.val) := by
 unfold ltOf
 rw [Bool.eq_iff_iff, decide_eq_true_iff, decide_eq_true_iff]
 exact cmpG_lt _ _
theorem swoG : SWO (ltOf fun x y : Gw => cmpG x.val y.val) where
 irrefl x := by rw [ltOfG]; exact decide_eq_false (ltG_irrefl _)
 trans x y z h1 h2 := by rw [ltOfG, decide_eq_true_iff] at *; exact ltG_trans h1 h2
 ntrans x y z h1 h2 := by
  rw [ltOfG] at *
  simp only [decide_eq_false_iff_not] at *
  exact ltG_ntrans h1 h2
theorem legFlat (xs : List Leg) (k j : Nat) (hk : k < xs.length) (hj : j < 4) : (xs.flatMap legCells)[k * 4 + j]? = (legCells xs[k])[j]? := flat_at legCells 4 (fun _ => rfl) xs k j hk hj
theorem legCells_len (xs : List Leg) : (xs.flatMap legCells).length = xs.length * 4 := flat_len legCells 4 (fun _ => rfl) xs
theorem legCells_get (xs : List Leg) (j : Nat) (h : j < xs.length * 4) : (xs.flatMap legCells)[j]? = (legCells (xs[j / 4]'(by omega)))[j % 4]? := by
 have := legFlat xs (j / 4) (j % 4) (by omega) (by omega)
 rwa [show j / 4 * 4 + j % 4 = j by omega] at this
theorem over_grow (w : World) (q : Nat) (os : Array Obj) : Over w (grow (w.drewN q) os) := ⟨rfl, rfl, rfl, by simp [World.drewN], fun k hk => heap_grow_old (w.drewN q) os hk⟩
theorem over_of_grow {W w' : World} {q : Nat} {os : Array Obj} (h : w' = grow (W.drewN q) os) : Over W w' := by rw [h]; exact over_grow _ _ _
theorem bdW_leg {l : Leg} (h : legOk l) : bdW (lA l) ∧ bdW (lB l) := ⟨(lA_ok h).wide, (lB_ok h).wide⟩
theorem grow2 (W : World) (a b : Array Obj) (p : Nat) : grow ((grow W a).drewN p) b = grow (W.drewN p) (a ++ b) := by simp [grow, World.drewN, Array.append_assoc]
theorem grow4 (W : World) (a b c : Array Obj) (p q : Nat) : grow ((grow ((grow W a).drewN p) b).drewN q) c = grow (W.drewN (p + q)) (a ++ b ++ c) := by simp [grow, World.drewN, Array.append_assoc, Nat.add_assoc]
set_option maxRecDepth 100000 in
set_option maxHeartbeats 2000000 in
theorem pairCmp_w (e f : Leg) (he : legOk e) (hf0 : legOk f) (W : World) : Calls Try.prog 41 #[.agg #[.int .i64 e.ax, .int .i64 e.ay, .int .i64 e.bx, .int .i64 e.b_y], .agg #[.int .i64 f.ax, .int .i64 f.ay, .int .i64 f.bx, .int .i64 f.b_y]] W fun r w' => r = .returned (.int .i64 (cmpG e f)) ∧ ∃ q' os', w' = grow (W.drewN q') os' := by
 have c1 := compareYX_w (lA e) (lA f) (bdW_leg he).1 (bdW_leg hf0).1
 have c2 := compareYX_w (lB e) (lB f) (bdW_leg he).2 (bdW_leg hf0).2
 unfold cmpG
 generalize cmpYX (lA e) (lA f) = r1 at *
 generalize cmpYX (lB e) (lB f) = r2 at *
 simp only [lA, lB] at c1 c2
 obtain ⟨a1, a2, a3, a4⟩ := e
 obtain ⟨b1, b2, b3, b4⟩ := f
 simp only at c1 c2 ⊢
 clear he hf0
 by_cases h0 : r1 = 0
 ·subst h0
  rw [if_pos rfl]
  go_enter Try.func41, Try.ntmps41
  go_wp2_with fail
  refine (c1 _).mono ?_
  rintro e w1 ⟨rfl, q1, os1, hw1⟩
  have hb := over_of_grow hw1
  replace hw1 := Lib.hid hw1
  obtain ⟨hc, hf⟩ := ocell hb
  clear hb
  go_wp2_with fail
  refine (c2 _).mono ?_
  rintro e w2 ⟨rfl, q2, os2, hw2⟩
  replace hw2 := Lib.hid hw2
  go_wp2_with fail
  go_ret
  exact ⟨rfl, _, _, by rw [hw2.out, hw1.out, alloc_eq_grow, alloc_eq_grow, grow_grow, grow4]⟩
 ·rw [if_neg h0]
  go_enter Try.func41, Try.ntmps41
  go_wp2_with fail
  refine (c1 _).mono ?_
  rintro e w1 ⟨rfl, q1, os1, hw1⟩
  replace hw1 := Lib.hid hw1
  go_wp2_with fail
  go_ret
  exact ⟨rfl, _, _, by rw [hw1.out, alloc_eq_grow, alloc_eq_grow, grow_grow, grow2]⟩
theorem cmpLaysG (blk off size : Nat) (w : World) : CmpLays Try.prog 41 #[] encG 4 (fun x y : Gw => cmpG x.val y.val) blk off size w :=
 fun _ _ _ _ x y => pairCmp_w x.val y.val x.ok y.ok _
/-! ### A row sorted -/
theorem aggG (w : World) : (isAgg (sortLg_ren.t 24)).run Try.prog w = .ok true w := Try.isAgg61 w
theorem sizG (w : World) : (Go.sizeOf (sortLg_ren.t 24)).run Try.prog w = .ok 4 w := Try.sizeOf61 w
def wrapGw (xs : List Leg) (hx : ∀ p ∈ xs, legOk p) : List Gw := xs.attach.map fun p => Gw.mk p.1 (hx p.1 p.2)
theorem wrapGw_len (xs : List Leg) (hx : ∀ p ∈ xs, legOk p) : (wrapGw xs hx).length = xs.length := by simp [wrapGw]
theorem wrapGw_val (xs : List Leg) (hx : ∀ p ∈ xs, legOk p) : (wrapGw xs hx).map (·.val) = xs := by
 rw [wrapGw, List.map_map]
 exact List.attach_map_subtype_val xs
theorem flatG_at (d : Array Gw) (j : Nat) (h : j < d.size * 4) : ((d.toList.map (·.val)).flatMap legCells)[j]? = some (flatK encG 4 d)[j]! := by
 rw [get_flatK _ _ _ _ h, legCells_get _ _ (by simpa using h)]
 have hj : j / 4 < d.size := by omega
 rw [getElem!_pos d (j / 4) hj]
 simp only [List.getElem_map, Array.getElem_toList]
 have h2 : j % 4 < (encG d[j / 4]).length := by simp [encG, legCells]; omega
 rw [getElem!_pos (encG d[j / 4]) (j % 4) h2]
 exact List.getElem?_eq_getElem h2
theorem sort_heapG {w : World} {g m T : Nat} {cur : Array Value} {d' : Array Gw} {os : Array Obj} (hg : w.heap[g]? = some (.cells cur T (0, 0))) (b : Nat) (hb : b < w.heap.size) :
  (sortWorldK encG 4 w g 0 m d' os).heap[b]? = if g = b then some (.cells (Sort.putCells id 0 (flatK encG 4 d') cur) T (0, 0)) else w.heap[b]? := by
 show ((w.heap.modify g (Sort.onCells (Sort.putCells id 0 (flatK encG 4 d')))) ++ os)[b]? = _
 rw [Array.getElem?_append_left (by simpa using hb), Array.getElem?_modify]
 split
 ·rename_i e
  subst e
  rw [hg]
  rfl
 ·rfl
theorem sort_rowG {B g c n : Nat} {xs : List Leg} {w : World} (h : w.ownsRow B 61 4 (.slice (some ⟨g, 0, none⟩) n c) n (xs.flatMap legCells)) (hl : xs.length = n) (hx : ∀ p ∈ xs, legOk p) (hn : n ≤ 1048576) (h0 : 0 < n) :
  Calls Try.prog 40 #[.slice (some ⟨g, 0, none⟩) n c, .func (.func 41) #[] #[]] w fun e w' => e = .returned (.tuple #[]) ∧ ∃ ys, ys.Perm xs ∧ RisG ys ∧ Wrs (· = g) w w' ∧ w'.ownsRow 0 61 4 (.slice (some ⟨g, 0, none⟩) n c) n (ys.flatMap legCells) := by
 rcases h.2 with ⟨_, e⟩ | ⟨g', cap, cur, e, hb, hg, hcap, hmax, hsz, htk⟩
 ·omega
 ·injection e with e1 e2 e3
  injection e1 with e1
  injection e1 with e1
  subst e1 e3
  have hds : (wrapGw xs hx).toArray.size = n := by simp [wrapGw_len, hl]
  have hval : ((wrapGw xs hx).toArray.toList.map (·.val)) = xs := by rw [List.toList_toArray]; exact wrapGw_val xs hx
  have hH : HoldsK encG 4 w g 0 (wrapGw xs hx).toArray := by
   intro j hj
   rw [size_flatK, hds] at hj
   refine ⟨?_, ?_⟩
   ·rw [Nat.zero_add, cell_of_row w g j cur _ (0, 0) hg]
    have := flatG_at (wrapGw xs hx).toArray j (by rw [hds]; exact hj)
    rw [hval, ← htk, List.getElem?_take, if_pos hj] at this
    simpa using this
   ·unfold World.frozen?
    simp only [hg]
    simp
  have eg : ∀ args w, (callFunc 41 args).run Try.prog w = .ok (.enter 41 args) w := enters_of Try.func41 (by kernel_rfl) rfl
  have hcon := AnyQ.slices_SortFunc sortLg 4 aggG sizG encG (fun _ => rfl) (fun x v hv => by simp [encG, legCells] at hv; rcases hv with rfl | rfl | rfl | rfl <;> rfl) (fun x y : Gw => cmpG x.val y.val) swoG 41 #[] g 0 c (wrapGw xs hx).toArray w eg (cmpLaysG g 0 _ w) hH (lt_of_some hg) (by omega)
  rw [hds] at hcon
  refine hcon.mono ?_
  rintro e w' ⟨rfl, d', m, os, hp, hs, rfl⟩
  have hd' : d'.size = n := hp.1.trans hds
  refine ⟨rfl, d'.toList.map (·.val), ?_, ?_, ?_, ?_⟩
  ·have := hp.2.2.map (·.val)
   rw [← hd', Array.extract_size, hd', ← hds, Array.extract_size, hval] at this
   exact this
  ·refine List.pairwise_iff_getElem.2 fun i j hi hj hij => ?_
   simp only [List.length_map, Array.length_toList] at hi hj
   have := hs i j (Nat.zero_le _) hij (by omega)
   rw [ltOfG, decide_eq_false_iff_not, getElem!_pos d' j hj, getElem!_pos d' i hi] at this
   simpa using this
  ·refine ⟨rfl, rfl, rfl, by exact size_sortWorldK_c _ _ _ _ _ _ _ _, fun b hb hne => ?_⟩
   rw [sort_heapG hg b hb, if_neg (fun e => hne e.symm)]
  ·refine ⟨by rw [legCells_len]; simp [hd'], .inr ⟨g, c, Sort.putCells id 0 (flatK encG 4 d') cur, rfl, Nat.zero_le _, ?_, hcap, hmax, by simp [Sort.putCells, hsz], ?_⟩⟩
   ·rw [sort_heapG hg g (lt_of_some hg), if_pos rfl]
   ·apply List.ext_getElem?
    intro j
    rw [List.getElem?_take]
    by_cases hj : j < n * 4
    ·rw [if_pos hj, flatG_at d' j (by rw [hd']; exact hj), Array.getElem?_toList]
     have hjc : j < cur.size := by omega
     simp only [Sort.putCells, Array.getElem?_mapIdx, Array.getElem?_eq_getElem hjc, Option.map_some, size_flatK, hd']
     rw [if_pos ⟨Nat.zero_le _, by omega⟩, Nat.sub_zero]
     rfl
    ·rw [if_neg hj, List.getElem?_eq_none (by rw [legCells_len]; simp [hd']; omega)]
theorem compG_snoc : ∀ (l : List Leg) (q p : Leg), compG (l ++ [q] ++ [p]) = compG (l ++ [q]) ++ (if q = p then [] else [p])
 | [], q, p => by
  simp only [List.nil_append, List.singleton_append, compG]
  split
  ·rename_i h; rw [h]
  ·rfl
 | [a], q, p => by
  have h := compG_snoc [] q p
  simp only [List.nil_append, List.singleton_append, List.cons_append] at h ⊢
  rw [compG, h]
  conv => rhs; rw [compG]
  split <;> rfl
 | a :: b :: l, q, p => by
  have h := compG_snoc (b :: l) q p
  simp only [List.cons_append] at h ⊢
  rw [compG, h]
  conv => rhs; rw [compG]
  split <;> rfl
theorem compG_take {xs : List Leg} {i : Nat} (h1 : 1 ≤ i) (h : i < xs.length) : compG (xs.take (i + 1)) = compG (xs.take i) ++ (if lg xs (i - 1) = lg xs i then [] else [lg xs i]) := by
 obtain ⟨j, rfl⟩ : ∃ j, i = j + 1 := ⟨i - 1, by omega⟩
 rw [List.take_succ_eq_append_getElem h, List.take_succ_eq_append_getElem (show j < xs.length by omega), compG_snoc, at_l h, at_l (show j < xs.length by omega)]
 rfl
theorem compG_len : ∀ l : List Leg, (compG l).length ≤ l.length
 | [] => Nat.le_refl _
 | [_] => Nat.le_refl _
 | p :: q :: l => by
  have := compG_len (q :: l)
  unfold compG
  simp only [List.length_cons] at *
  split
  ·omega
  ·rw [List.length_cons]; omega
/-- No two neighbours among the first i are the same. -/
theorem compG_same {xs : List Leg} : ∀ i, i ≤ xs.length → (∀ j, 1 ≤ j → j < i → ¬ lg xs (j - 1) = lg xs j) → compG (xs.take i) = xs.take i
 | 0, _, _ => rfl
 | 1, h, _ => by
  match xs, h with
  | p :: l, _ => rfl
 | i + 2, h, hj => by
  rw [compG_take (by omega) (by omega), compG_same (i + 1) (by omega) (fun j h1 h2 => hj j h1 (by omega)), if_neg (hj (i + 1) (by omega) (by omega)), ← at_l (by omega)]
  exact (List.take_succ_eq_append_getElem (by omega)).symm
/-- The points of a slice that is being closed up. -/
def cloG (xs : List Leg) (i : Nat) : List Leg := compG (xs.take i) ++ xs.drop (compG (xs.take i)).length
theorem cloG_len {xs : List Leg} {i : Nat} (h : i ≤ xs.length) : (cloG xs i).length = xs.length := by
 have := compG_len (xs.take i)
 rw [List.length_take] at this
 rw [cloG, List.length_append, List.length_drop]
 omega
theorem cloG_at {xs : List Leg} {i j : Nat} (h : (compG (xs.take i)).length ≤ j) : lg (cloG xs i) j = lg xs j := by
 simp only [lg, List.getD, cloG, List.getElem?_append_right h, List.getElem?_drop]
 rw [show (compG (xs.take i)).length + (j - (compG (xs.take i)).length) = j by omega]
theorem cloG_no {xs : List Leg} {i : Nat} (h1 : 1 ≤ i) (h : i < xs.length) (he : lg xs (i - 1) = lg xs i) : cloG xs (i + 1) = cloG xs i := by rw [cloG, compG_take h1 h, if_pos he, List.append_nil]; rfl
theorem cloG_yes {xs : List Leg} {i : Nat} (h1 : 1 ≤ i) (h : i < xs.length) (he : ¬ lg xs (i - 1) = lg xs i) (hk : (compG (xs.take i)).length < xs.length) : (cloG xs (i + 1)).flatMap legCells = splice ((cloG xs i).flatMap legCells) ((compG (xs.take i)).length * 4) (legCells (lg xs i)) := by
 rw [cloG, cloG, compG_take h1 h, if_neg he]
 generalize compG (xs.take i) = C at *
 rw [List.drop_eq_getElem_cons hk, List.length_append, List.length_singleton, List.flatMap_append, List.flatMap_append, List.flatMap_append, List.flatMap_cons]
 have hC : C.length * 4 = (C.flatMap legCells).length := (legCells_len C).symm
 rw [hC, List.flatMap_cons (xs := List.drop _ _), ← List.append_assoc (C.flatMap legCells) (legCells xs[C.length]), splice_app (legCells (lg xs i)) (C.flatMap legCells) (legCells xs[C.length]) _ rfl]
 simp
def zerosG (m : Nat) : List Value := (Builtin.zeroCells (Value.agg #[.int .i64 0, .int .i64 0, .int .i64 0, .int .i64 0]).cells m).toList
theorem zerosG_len (m : Nat) : (zerosG m).length = m * 4 := by
 rw [zerosG, Array.length_toList, size_zeroCells]
 rfl
theorem zerosG_one (m : Nat) : (zerosG m).all (·.oneCell') = true := by
 rw [List.all_eq_true]
 intro v hv
 rw [zerosG, Array.mem_toList_iff, Builtin.zeroCells] at hv
 obtain ⟨i, hi, rfl⟩ := Array.mem_map.1 hv
 have : i % 4 < 4 := Nat.mod_lt _ (by decide)
 show (#[Value.int .i64 0, Value.int .i64 0, Value.int .i64 0, Value.int .i64 0][i % 4]!).oneCell' = true
 rcases (show i % 4 = 0 ∨ i % 4 = 1 ∨ i % 4 = 2 ∨ i % 4 = 3 by omega) with e | e | e | e <;> rw [e] <;> rfl
/-- How many points stay of the first i. -/
def kcG (xs : List Leg) (i : Nat) : Nat := (compG (xs.take i)).length
theorem kc_sameG {xs : List Leg} {i : Nat} (h1 : 1 ≤ i) (h : i < xs.length) (he : lg xs (i - 1) = lg xs i) : kcG xs (i + 1) = kcG xs i := by rw [kcG, compG_take h1 h, if_pos he, List.append_nil]; rfl
theorem kc_moreG {xs : List Leg} {i : Nat} (h1 : 1 ≤ i) (h : i < xs.length) (he : ¬ lg xs (i - 1) = lg xs i) : kcG xs (i + 1) = kcG xs i + 1 := by rw [kcG, compG_take h1 h, if_neg he, List.length_append]; rfl
theorem legNe {e f : Leg} : (e.ax == f.ax && e.ay == f.ay && e.bx == f.bx && e.b_y == f.b_y) = decide (f = e) := by
 rcases e with ⟨a1, a2, a3, a4⟩
 rcases f with ⟨b1, b2, b3, b4⟩
 rw [Bool.eq_iff_iff]
 simp only [Bool.and_eq_true, beq_iff_eq, decide_eq_true_eq, Leg.mk.injEq]
 omega
theorem compG_whole {xs : List Leg} (h : ∀ j, 1 ≤ j → j < xs.length → ¬ lg xs (j - 1) = lg xs j) : compG xs = xs := by
 have := compG_same xs.length (Nat.le_refl _) h
 rwa [List.take_length] at this
theorem take_wholeG {xs : List Leg} {rest : List Value} : (xs.flatMap legCells ++ rest).take (xs.length * 4) = xs.flatMap legCells := List.take_left' (legCells_len xs)
theorem take_clearG {xs : List Leg} {rest zs : List Value} {n c : Nat} (hn : xs.length = n) (hl : ((cloG xs n).flatMap legCells ++ rest).length = c * 4) (hK : kcG xs n * 4 + zs.length ≤ c * 4) :
  (splice ((cloG xs n).flatMap legCells ++ rest) (0 + kcG xs n * 4) zs).take ((compG xs).length * 4) = (compG xs).flatMap legCells := by
 have e : (compG xs).length = kcG xs n := by rw [kcG, ← hn, List.take_length]
 have ec : compG (xs.take n) = compG xs := by rw [← hn, List.take_length]
 apply List.ext_getElem?
 intro i
 rw [List.getElem?_take, e, Nat.zero_add]
 by_cases hi : i < kcG xs n * 4
 ·rw [if_pos hi, splice_get i (by omega), if_neg (by omega), cloG, List.flatMap_append, List.append_assoc, List.getElem?_append_left (by rw [legCells_len]; exact hi), ec]
 ·rw [if_neg hi, List.getElem?_eq_none (by rw [legCells_len, e]; omega)]
theorem Compact_celG (b T c n : Nat) (xs : List Leg) (rest : List Value) (w : World) (hh : w.heap[b]? = some (.cells (xs.flatMap legCells ++ rest).toArray T (0, 0))) (hc : n ≤ c) (hl : ((xs.flatMap legCells) ++ rest).length = c * 4) (hn : xs.length = n) (hn2 : n ≤ 1048577) :
  Calls Try.prog 42 #[.slice (some ⟨b, 0, none⟩) n c] w fun e w' => e = .returned (.slice (some ⟨b, 0, none⟩) (compG xs).length c) ∧ Wr b w w' ∧ ∃ cs : List Value, w'.heap[b]? = some (.cells cs.toArray T (0, 0)) ∧ cs.length = c * 4 ∧ cs.take ((compG xs).length * 4) = (compG xs).flatMap legCells := by
 have hr2 : ∀ (zs : List Leg), zs.length = n → ∀ k, k < n → ∀ w' : World, w'.heap[b]? = some (.cells (zs.flatMap legCells ++ rest).toArray T (0, 0)) → ∀ (q : Nat) (v : Value), [Value.int .i64 (lg zs k).ax, Value.int .i64 (lg zs k).ay, Value.int .i64 (lg zs k).bx, Value.int .i64 (lg zs k).b_y][q]? = some v → w'.cell? ⟨b, 0 + k * 4 + q, none⟩ = some v := fun zs hz k hk w' hw q v hv => by
  have hq : q < 4 := by have := (List.getElem?_eq_some_iff.1 hv).1; simpa using this
  rw [cell_of_row w' b _ _ T (0, 0) hw, Nat.zero_add]
  have hf := legFlat zs k q (by omega) hq
  rw [at_l (by omega)] at hf
  have : (zs.flatMap legCells ++ rest).toArray[k * 4 + q]? = (zs.flatMap legCells)[k * 4 + q]? := by
   rw [List.getElem?_toArray, List.getElem?_append_left (by rw [legCells_len]; omega)]
  rw [this, hf]
  exact hv
 refine walk_from1 (m := 61) (Try.func42) rfl rfl (Nat.le_of_ble_eq_true rfl) (hh) ?_
 refine at_seq ?_
 refine at_region ?_
 refine at_q rfl rfl (by decide) (qt_assign rfl rfl) ?_
 refine at_end ?_
 refine at_seq ?_
 refine at_seq ?_
 refine at_region ?_
 refine at_q rfl rfl (by decide) (qt_move rfl rfl) ?_
 refine at_q rfl rfl (by decide) (qt_len rfl rfl tyl_sl_impl_leg) ?_
 refine at_q rfl rfl (by decide) (qt_lss rfl rfl rfl) ?_
 refine at_end ?_
 refine at_cond rfl (fun c1 => ?_) (fun c1 => ?_)
 ·try simp only [za,zb,zc,zd,ze,zf,Bool.not_true,Bool.not_false,zg,zh,ne_eq,zi,zj] at c1
  refine at_seq ?_
  refine at_region ?_
  refine at_q rfl rfl (by decide) (qt_move rfl rfl) ?_
  refine at_q rfl rfl (by decide) (qt_assign rfl rfl) ?_
  refine at_end ?_
  refine at_retc ?_
  refine then_ret ?_
  refine at_ret1 rfl (.tmp rfl) ?_
  intro w' hs
  exact ⟨by rw [compG_whole fun j h1 h2 => absurd h2 (by omega), hn], hs.over.wr, _, hs.cel (k := 0) rfl, hl, by rw [compG_whole fun j h1 h2 => absurd h2 (by omega)]; exact take_wholeG⟩
 ·try simp only [za,zb,zc,zd,ze,zf,Bool.not_true,Bool.not_false,zg,zh,ne_eq,zi,zj] at c1
  refine at_skip ?_
  refine norm_then ?_
  refine at_seq ?_
  refine at_seq ?_
  refine at_region ?_
  refine at_q rfl rfl (by decide) (qt_assign rfl rfl) ?_
  refine at_end ?_
  refine at_block ?_
  refine at_loopk (X := Nat) (fun k => 1 ≤ k ∧ k ≤ n ∧ (∀ j, 1 ≤ j → j < k → ¬ lg xs (j - 1) = lg xs j)) (fun k => n - k) (fun k => [(3, .int .i64 (k : Int))]) (C := [(0, _), (2, _)]) ⟨rfl, rfl, trivial⟩ 1 (⟨Nat.le_refl _, by omega, fun j h1 h2 => absurd h2 (by omega)⟩) ⟨rfl, rfl, rfl, trivial⟩ ?_
  intro k hk L hL1
  refine at_envE (by simp only [ya,yb]; rfl) ?_
  refine at_seq ?_
  refine at_seq ?_
  refine at_region ?_
  refine at_q rfl rfl (by decide) (qt_move rfl rfl) ?_
  refine at_q rfl rfl (by decide) (qt_move rfl rfl) ?_
  refine at_q rfl rfl (by decide) (qt_len rfl rfl tyl_sl_impl_leg) ?_
  refine at_q rfl rfl (by decide) (qt_lss rfl rfl rfl) ?_
  refine at_end ?_
  refine at_cond rfl (fun c2 => ?_) (fun c2 => ?_)
  ·try simp only [za,zb,zc,zd,ze,zf,Bool.not_true,Bool.not_false,zg,zh,ne_eq,zi,zj] at c2
   refine at_skip ?_
   refine norm_then ?_
   refine at_seq ?_
   refine at_block ?_
   refine at_seq ?_
   refine dg_start mixed rfl ?_
   refine dg_phase 10 ?_
   refine dg_q (i := 0) rfl (by kernel_rfl) (by kernel_rfl) (by kernel_rfl) [] (by kernel_rfl) (fun _ _ _ h => h) rfl rfl (by decide) (fun _ h => h.upto ⟨rfl, trivial⟩) (qt_move rfl rfl) ?_
   refine dg_q (i := 1) rfl (by kernel_rfl) (by kernel_rfl) (by kernel_rfl) [] (by kernel_rfl) (fun _ _ _ h => h) rfl rfl (by decide) (fun _ h => h.upto ⟨rfl, trivial⟩) (qt_move rfl rfl) ?_
   refine dg_q (i := 2) rfl (by kernel_rfl) (by kernel_rfl) (by kernel_rfl) [] (by kernel_rfl) (fun _ _ _ h => h) rfl rfl (by decide) (fun _ h => h.upto ⟨rfl, trivial⟩) (qt_index rfl rfl rfl tyl_sl_impl_leg (by omega)) ?_
   refine dg_q (i := 3) rfl (by kernel_rfl) (by kernel_rfl) (by kernel_rfl) [] (by kernel_rfl) (fun _ _ _ h => h) rfl rfl (by decide) (fun _ h => h.upto ⟨rfl, trivial⟩) (qt_loadS rfl rfl tys_impl_leg rfl (fun w' hs => hr2 xs hn k (by omega) w' (hs.cel (k := 0) rfl))) ?_
   refine dg_q (i := 4) rfl (by kernel_rfl) (by kernel_rfl) (by kernel_rfl) [] (by kernel_rfl) (fun _ _ _ h => h) rfl rfl (by decide) (fun _ h => h.upto ⟨rfl, trivial⟩) (qt_move rfl rfl) ?_
   refine dg_q (i := 5) rfl (by kernel_rfl) (by kernel_rfl) (by kernel_rfl) [] (by kernel_rfl) (fun _ _ _ h => h) rfl rfl (by decide) (fun _ h => h.upto ⟨rfl, trivial⟩) (qt_move rfl rfl) ?_
   refine dg_q (i := 6) rfl (by kernel_rfl) (by kernel_rfl) (by kernel_rfl) [] (by kernel_rfl) (fun _ _ _ h => h) rfl rfl (by decide) (fun _ h => h.upto ⟨rfl, trivial⟩) ((qt_sub rfl rfl rfl (by omega) (by omega)).as (congrArg _ (show ((k : Int) - 1) = ((k - 1 : Nat) : Int) by omega))) ?_
   refine dg_q (i := 7) rfl (by kernel_rfl) (by kernel_rfl) (by kernel_rfl) [] (by kernel_rfl) (fun _ _ _ h => h) rfl rfl (by decide) (fun _ h => h.upto ⟨rfl, trivial⟩) (qt_index rfl rfl rfl tyl_sl_impl_leg (by omega)) ?_
   refine dg_q (i := 8) rfl (by kernel_rfl) (by kernel_rfl) (by kernel_rfl) [] (by kernel_rfl) (fun _ _ _ h => h) rfl rfl (by decide) (fun _ h => h.upto ⟨rfl, trivial⟩) (qt_loadS rfl rfl tys_impl_leg rfl (fun w' hs => hr2 xs hn (k - 1) (by omega) w' (hs.cel (k := 0) rfl))) ?_
   refine dg_q (i := 9) rfl (by kernel_rfl) (by kernel_rfl) (by kernel_rfl) [] (by kernel_rfl) (fun _ _ _ h => h) rfl rfl (by decide) (fun _ h => h.upto ⟨rfl, trivial⟩) (qt_eqlS_impl_leg rfl rfl rfl) ?_
   refine dg_done (by kernel_rfl) ?_
   refine norm_then ?_
   refine at_cond rfl (fun c3 => ?_) (fun c3 => ?_)
   ·try simp only [za,zb,zc,zd,ze,zf,Bool.not_true,Bool.not_false,zg,zh,ne_eq,zi,zj] at c3
    have hkn : k < n := (by omega)
    have hdup : lg xs (k - 1) = lg xs k := of_decide_eq_true (legNe ▸ c3)
    have hoff : offL 0 k c 4 = 0 + k * 4 := by rw [offL, if_neg (by omega)]
    have hcs : compG (xs.take k) = xs.take k := compG_same k (by omega) hk.2.2
    have hck : kcG xs k = k := by rw [kcG, hcs, List.length_take]; omega
    have hck1 : kcG xs (k + 1) = k := by rw [kc_sameG hk.1 (by omega) hdup, hck]
    have hclo : cloG xs (k + 1) = xs := by rw [cloG, compG_take hk.1 (by omega), if_pos hdup, List.append_nil, hcs, List.length_take, Nat.min_eq_left (by omega), List.take_append_drop]
    refine at_seq ?_
    refine at_region ?_
    refine at_q rfl rfl (by decide) (qt_move rfl rfl) ?_
    refine at_q rfl rfl (by decide) (qt_move rfl rfl) ?_
    refine at_q rfl rfl (by decide) ((qt_sliceL rfl rfl rfl tyl_sl_impl_leg (by omega)).as ((slicedL (b := b) (o := 0) (l := k) (h := n) (m := c) (s := 4) hc (by omega)).trans (by rw [hoff]))) ?_
    refine at_q rfl rfl (by decide) (qt_assign rfl rfl) ?_
    refine at_end ?_
    refine at_seq ?_
    refine at_seq ?_
    refine at_region ?_
    refine at_q rfl rfl (by decide) (qt_assign rfl rfl) ?_
    refine at_end ?_
    refine at_block ?_
    refine at_loopc (X := Nat) (fun j => 1 ≤ j ∧ k + j ≤ n ∧ kcG xs (k + j) + 1 ≤ k + j) (fun j => n - j) (fun j => [(3, .int .i64 (kcG xs (k + j) : Int)), (5, .int .i64 (j : Int))]) (C := [(0, _), (2, _), (10, _), (11, _), (12, _), (13, _), (16, _), (17, _), (18, _), (19, _), (20, _), (21, _), (22, _), (23, _), (24, _), (25, _), (26, _), (27, _), (28, _), (4, _)]) ⟨rfl, rfl, rfl, rfl, rfl, rfl, rfl, rfl, rfl, rfl, rfl, rfl, rfl, rfl, rfl, rfl, rfl, rfl, rfl, rfl, trivial⟩ (fun j => [.cel b T ((cloG xs (k + j)).flatMap legCells ++ rest)]) 1 (⟨Nat.le_refl _, by omega, by omega⟩) ⟨(by rw [hck1]; rfl), rfl, rfl, rfl, rfl, rfl, rfl, rfl, rfl, rfl, rfl, rfl, rfl, rfl, rfl, rfl, rfl, rfl, rfl, rfl, rfl, rfl, trivial⟩ (fun _ h => h.upto ⟨by rw [hclo], trivial⟩) ?_
    intro j hj L hL2
    refine at_envE (by simp only [ya,yb]; rfl) ?_
    refine at_rsE (by first | (dsimp only; done) | (dsimp only; rfl) | rfl) ?_
    have hcl : (cloG xs (k + j)).length = n := (cloG_len (by omega)).trans hn
    refine at_seq ?_
    refine at_seq ?_
    refine at_region ?_
    refine at_q rfl rfl (by decide) (qt_move rfl rfl) ?_
    refine at_q rfl rfl (by decide) (qt_move rfl rfl) ?_
    refine at_q rfl rfl (by decide) (qt_len rfl rfl tyl_sl_impl_leg) ?_
    refine at_q rfl rfl (by decide) (qt_lss rfl rfl rfl) ?_
    refine at_end ?_
    refine at_cond rfl (fun c4 => ?_) (fun c4 => ?_)
    ·try simp only [za,zb,zc,zd,ze,zf,Bool.not_true,Bool.not_false,zg,zh,ne_eq,zi,zj] at c4
     have hjl : k + j < n := (by omega)
     have hrd : ∀ i, kcG xs (k + j) ≤ i → i < n → ∀ w' : World, w'.heap[b]? = some (.cells ((cloG xs (k + j)).flatMap legCells ++ rest).toArray T (0, 0)) → ∀ (q : Nat) (v : Value), [Value.int .i64 (lg xs i).ax, Value.int .i64 (lg xs i).ay, Value.int .i64 (lg xs i).bx, Value.int .i64 (lg xs i).b_y][q]? = some v → w'.cell? ⟨b, 0 + i * 4 + q, none⟩ = some v := fun i h1 h2 w' hw q v hv => hr2 (cloG xs (k + j)) hcl i h2 w' hw q v (by rw [cloG_at h1]; exact hv)
     refine at_skip ?_
     refine norm_then ?_
     refine at_seq ?_
     refine at_block ?_
     refine at_seq ?_
     refine dg_start mixed rfl ?_
     refine dg_phase 10 ?_
     refine dg_q (i := 0) rfl (by kernel_rfl) (by kernel_rfl) (by kernel_rfl) [] (by kernel_rfl) (fun _ _ _ h => h) rfl rfl (by decide) (fun _ h => h.upto ⟨rfl, trivial⟩) (qt_move rfl rfl) ?_
     refine dg_q (i := 1) rfl (by kernel_rfl) (by kernel_rfl) (by kernel_rfl) [] (by kernel_rfl) (fun _ _ _ h => h) rfl rfl (by decide) (fun _ h => h.upto ⟨rfl, trivial⟩) (qt_move rfl rfl) ?_
     refine dg_q (i := 2) rfl (by kernel_rfl) (by kernel_rfl) (by kernel_rfl) [] (by kernel_rfl) (fun _ _ _ h => h) rfl rfl (by decide) (fun _ h => h.upto ⟨rfl, trivial⟩) (qt_index rfl rfl rfl tyl_sl_impl_leg (by omega)) ?_
     refine dg_q (i := 3) rfl (by kernel_rfl) (by kernel_rfl) (by kernel_rfl) [] (by kernel_rfl) (fun _ _ _ h => h) rfl rfl (by decide) (fun _ h => h.upto ⟨rfl, trivial⟩) (qt_loadS rfl rfl tys_impl_leg rfl (fun w' hs q v hv => by rw [show 0 + k * 4 + j * 4 + q = 0 + (k + j) * 4 + q by omega]; exact hrd (k + j) (by omega) hjl w' (hs.cel (k := 0) rfl) q v hv)) ?_
     refine dg_q (i := 4) rfl (by kernel_rfl) (by kernel_rfl) (by kernel_rfl) [] (by kernel_rfl) (fun _ _ _ h => h) rfl rfl (by decide) (fun _ h => h.upto ⟨rfl, trivial⟩) (qt_move rfl rfl) ?_
     refine dg_q (i := 5) rfl (by kernel_rfl) (by kernel_rfl) (by kernel_rfl) [] (by kernel_rfl) (fun _ _ _ h => h) rfl rfl (by decide) (fun _ h => h.upto ⟨rfl, trivial⟩) (qt_move rfl rfl) ?_
     refine dg_q (i := 6) rfl (by kernel_rfl) (by kernel_rfl) (by kernel_rfl) [] (by kernel_rfl) (fun _ _ _ h => h) rfl rfl (by decide) (fun _ h => h.upto ⟨rfl, trivial⟩) ((qt_sub rfl rfl rfl (by omega) (by omega)).as (congrArg _ (show ((j : Int) - 1) = ((j - 1 : Nat) : Int) by omega))) ?_
     refine dg_q (i := 7) rfl (by kernel_rfl) (by kernel_rfl) (by kernel_rfl) [] (by kernel_rfl) (fun _ _ _ h => h) rfl rfl (by decide) (fun _ h => h.upto ⟨rfl, trivial⟩) (qt_index rfl rfl rfl tyl_sl_impl_leg (by omega)) ?_
     refine dg_q (i := 8) rfl (by kernel_rfl) (by kernel_rfl) (by kernel_rfl) [] (by kernel_rfl) (fun _ _ _ h => h) rfl rfl (by decide) (fun _ h => h.upto ⟨rfl, trivial⟩) (qt_loadS rfl rfl tys_impl_leg rfl (fun w' hs q v hv => by rw [show 0 + k * 4 + (j - 1) * 4 + q = 0 + (k + j - 1) * 4 + q by omega]; exact hrd (k + j - 1) (by omega) (by omega) w' (hs.cel (k := 0) rfl) q v hv)) ?_
     refine dg_q (i := 9) rfl (by kernel_rfl) (by kernel_rfl) (by kernel_rfl) [] (by kernel_rfl) (fun _ _ _ h => h) rfl rfl (by decide) (fun _ h => h.upto ⟨rfl, trivial⟩) (qt_neqS_impl_leg rfl rfl rfl) ?_
     refine dg_done (by kernel_rfl) ?_
     refine norm_then ?_
     refine at_cond rfl (fun c5 => ?_) (fun c5 => ?_)
     ·try simp only [za,zb,zc,zd,ze,zf,Bool.not_true,Bool.not_false,zg,zh,ne_eq,zi,zj] at c5
      refine at_seq ?_
      refine at_region ?_
      refine at_q rfl rfl (by decide) (qt_move rfl rfl) ?_
      refine at_q rfl rfl (by decide) (qt_move rfl rfl) ?_
      refine at_q rfl rfl (by decide) (qt_move rfl rfl) ?_
      refine at_q rfl rfl (by decide) (qt_move rfl rfl) ?_
      refine at_q rfl rfl (by decide) (qt_index rfl rfl rfl tyl_sl_impl_leg (by omega)) ?_
      refine at_q rfl rfl (by decide) (qt_loadS rfl rfl tys_impl_leg rfl (fun w' hs q v hv => by rw [show 0 + k * 4 + j * 4 + q = 0 + (k + j) * 4 + q by omega]; exact hrd (k + j) (by omega) hjl w' (hs.cel (k := 0) rfl) q v hv)) ?_
      refine at_q rfl rfl (by decide) (qt_index rfl rfl rfl tyl_sl_impl_leg (by omega)) ?_
      refine at_op rfl ?_
      refine op_store (k := 0) rfl rfl rfl rfl rfl (by rfl) tyz_impl_leg.szx rfl rfl (by rw [List.length_append, legCells_len, hcl]; simp only [List.length_cons, List.length_nil]; omega) ?_
      refine at_end ?_
      refine at_region ?_
      refine at_q rfl rfl (by decide) (qt_move rfl rfl) ?_
      refine at_q rfl rfl (by decide) (qt_add rfl rfl rfl (by omega) (by omega)) ?_
      refine at_q rfl rfl (by decide) (qt_assign rfl rfl) ?_
      refine at_nil ?_
      refine norm_block ?_
      refine norm_then ?_
      refine at_region ?_
      refine at_q rfl rfl (by decide) (qt_move rfl rfl) ?_
      refine at_q rfl rfl (by decide) (qt_add rfl rfl rfl (by omega) (by omega)) ?_
      refine at_q rfl rfl (by decide) (qt_assign rfl rfl) ?_
      refine at_end ?_
      exact at_againc hL2 (j + 1) (⟨by omega, by omega, by rw [← Nat.add_assoc, kc_moreG (by omega) (by omega) (of_decide_eq_false (legNe ▸ c5))]; omega⟩) (by omega) ⟨vi (by rw [← Nat.add_assoc, kc_moreG (by omega) (by omega) (of_decide_eq_false (legNe ▸ c5))]; omega), vi (by omega), rfl, rfl, rfl, rfl, rfl, rfl, rfl, rfl, rfl, rfl, rfl, rfl, rfl, rfl, rfl, rfl, rfl, rfl, rfl, rfl, trivial⟩ (fun _ h => h.upto ⟨by rw [← Nat.add_assoc, cloG_yes (by omega) (by omega) (of_decide_eq_false (legNe ▸ c5)) (by show kcG xs (k + j) < xs.length; omega), splice_left (by rw [legCells_len, hcl]; exact (show 0 + kcG xs (k + j) * 4 + 4 ≤ n * 4 by omega)), Nat.zero_add]; rfl, trivial⟩)
     ·try simp only [za,zb,zc,zd,ze,zf,Bool.not_true,Bool.not_false,zg,zh,ne_eq,zi,zj] at c5
      refine at_skip ?_
      refine norm_block ?_
      refine norm_then ?_
      refine at_region ?_
      refine at_q rfl rfl (by decide) (qt_move rfl rfl) ?_
      refine at_q rfl rfl (by decide) (qt_add rfl rfl rfl (by omega) (by omega)) ?_
      refine at_q rfl rfl (by decide) (qt_assign rfl rfl) ?_
      refine at_end ?_
      exact at_againc hL2 (j + 1) (⟨by omega, by omega, by rw [← Nat.add_assoc, kc_sameG (by omega) (by omega) (of_decide_eq_true (legNe ▸ c5))]; omega⟩) (by omega) ⟨vi (by rw [← Nat.add_assoc, kc_sameG (by omega) (by omega) (of_decide_eq_true (legNe ▸ c5))]), vi (by omega), rfl, rfl, rfl, rfl, rfl, rfl, rfl, rfl, rfl, rfl, rfl, rfl, rfl, rfl, rfl, rfl, rfl, rfl, rfl, rfl, trivial⟩ (fun _ h => h.upto ⟨by rw [← Nat.add_assoc, cloG_no (by omega) (by omega) (of_decide_eq_true (legNe ▸ c5))], trivial⟩)
    ·try simp only [za,zb,zc,zd,ze,zf,Bool.not_true,Bool.not_false,zg,zh,ne_eq,zi,zj] at c4
     refine at_exit ?_
     refine pass_then (fun h => by cases h) ?_
     refine pass_then (fun h => by cases h) ?_
     refine pass_hit ?_
     refine norm_then ?_
     refine at_seq ?_
     refine at_region ?_
     refine at_q rfl rfl (by decide) (qt_move rfl rfl) ?_
     refine at_q rfl rfl (by decide) (qt_move rfl rfl) ?_
     refine at_q rfl rfl (by decide) ((qt_sliceL rfl rfl rfl tyl_sl_impl_leg (by omega)).as (slicedL (b := b) (o := 0) (l := kcG xs (k + j)) (h := n) (m := c) (s := 4) hc (by omega))) ?_
     refine at_op rfl ?_
     refine op_clear (k := 0) (zs := zerosG (n - kcG xs (k + j))) rfl tyl_sl_impl_leg tyz_impl_leg rfl rfl (by omega) rfl rfl (zerosG_one _) (by rw [List.length_append, legCells_len, hcl, zerosG_len, offL, if_neg (by omega)]; omega) ?_
     refine at_rsE (by simp only [ya,yb,yc,yd,Value.cells,ye]; rfl) ?_
     refine at_end ?_
     refine at_seq ?_
     refine at_region ?_
     refine at_q rfl rfl (by decide) (qt_move rfl rfl) ?_
     refine at_q rfl rfl (by decide) (qt_move rfl rfl) ?_
     refine at_q rfl rfl (by decide) ((qt_sliceH rfl rfl rfl tyl_sl_impl_leg (by omega)).as (slicedH _ _ _ _ _)) ?_
     refine at_q rfl rfl (by decide) (qt_assign rfl rfl) ?_
     refine at_end ?_
     refine at_retc ?_
     refine pass_ret ?_
     refine then_ret ?_
     refine then_ret ?_
     refine pass_ret ?_
     refine then_ret ?_
     refine at_ret1 rfl (.tmp rfl) ?_
     intro w' hs
     have hkj : k + j = n := by omega
     have hK : (compG xs).length = kcG xs n := by rw [kcG, ← hn, List.take_length]
     have hlc : ((cloG xs n).flatMap legCells ++ rest).length = c * 4 := by rw [← hl, List.length_append, List.length_append, legCells_len, legCells_len, cloG_len (by omega)]
     have hoK : offL 0 (kcG xs n) c 4 = 0 + kcG xs n * 4 := by rw [offL, if_neg (by rw [← hkj]; omega)]
     rw [hkj, hoK] at hs
     rw [hkj] at hj
     exact ⟨by rw [hK, hkj], hs.over.wr, _, hs.cel (k := 0) rfl, by rw [splice_len]; exact hlc, take_clearG hn hlc (by rw [zerosG_len]; omega)⟩
   ·try simp only [za,zb,zc,zd,ze,zf,Bool.not_true,Bool.not_false,zg,zh,ne_eq,zi,zj] at c3
    have hne : ¬ lg xs (k - 1) = lg xs k := of_decide_eq_false (legNe ▸ c3)
    refine at_skip ?_
    refine norm_block ?_
    refine norm_then ?_
    refine at_region ?_
    refine at_q rfl rfl (by decide) (qt_move rfl rfl) ?_
    refine at_q rfl rfl (by decide) (qt_add rfl rfl rfl (by omega) (by omega)) ?_
    refine at_q rfl rfl (by decide) (qt_assign rfl rfl) ?_
    refine at_end ?_
    exact at_againk hL1 (k + 1) (⟨by omega, by omega, fun j h1 h2 => (Nat.lt_or_ge j k).elim (fun h3 => hk.2.2 j h1 h3) (fun h3 => (show k = j by omega) ▸ hne)⟩) (by omega) ⟨vi (by omega), rfl, rfl, trivial⟩ (fun _ h => h.upto ⟨rfl, trivial⟩)
  ·try simp only [za,zb,zc,zd,ze,zf,Bool.not_true,Bool.not_false,zg,zh,ne_eq,zi,zj] at c2
   refine at_exit ?_
   refine pass_then (fun h => by cases h) ?_
   refine pass_then (fun h => by cases h) ?_
   refine pass_hit ?_
   refine norm_then ?_
   refine at_seq ?_
   refine at_region ?_
   refine at_q rfl rfl (by decide) (qt_move rfl rfl) ?_
   refine at_q rfl rfl (by decide) (qt_assign rfl rfl) ?_
   refine at_end ?_
   refine at_retc ?_
   refine at_ret1 rfl (.tmp rfl) ?_
   intro w' hs
   have hkn : k = n := by omega
   have hw := compG_whole (xs := xs) fun j h1 h2 => hk.2.2 j h1 (by omega)
   exact ⟨by rw [hw, hn], hs.over.wr, _, hs.cel (k := 0) rfl, hl, by rw [hw]; exact take_wholeG⟩
/-- A row without neighbours that are the same. -/
theorem Compact_rowG {N c n : Nat} {A : Option Addr} {xs : List Leg} {w : World} (h : w.ownsRow N 61 4 (.slice A n c) n (xs.flatMap legCells)) (hn : xs.length = n) (h0 : 0 < n) (hn2 : n ≤ 1048577) :
  Calls Try.prog 42 #[.slice A n c] w fun e w' => e = .returned (.slice A (compG xs).length c) ∧ Wrs (rowR N 61 4 n (xs.flatMap legCells) (A, c)).F w w' ∧ (rowR N 61 4 (compG xs).length ((compG xs).flatMap legCells) (A, c)).P w' := by
 rcases h.2 with ⟨_, e⟩ | ⟨g, cap, cur, e, hb, hg, hcap, hmax, hsz, htk⟩
 ·omega
 ·injection e with e1 e2 e3
  subst e1 e3
  have hcur : cur.toList = xs.flatMap legCells ++ cur.toList.drop (n * 4) := by rw [← htk, List.take_append_drop]
  have hg' : w.heap[g]? = some (.cells (xs.flatMap legCells ++ cur.toList.drop (n * 4)).toArray 61 (0, 0)) := by rw [← hcur, Array.toArray_toList]; exact hg
  have hle := compG_len xs
  refine (Compact_celG g _ c n xs (cur.toList.drop (n * 4)) w hg' hcap (by rw [← hcur]; simpa using hsz) hn hn2).mono ?_
  rintro e w' ⟨rfl, hw, cs, hh, hcl, htk'⟩
  refine ⟨rfl, ⟨hw.os, hw.tape, hw.output, hw.size, fun q hq hne => hw.block q hq (fun e => hne (by subst e; rfl))⟩, ?_⟩
  exact ⟨legCells_len _, .inr ⟨g, c, _, rfl, hb, hh, by omega, hmax, by simpa using hcl, by rw [List.toList_toArray]; exact htk'⟩⟩
theorem ins_nilG (v : Value) (w : World) : Calls Try.prog 75 #[.slice none 0 0, .int .i64 0, .int .i64 0, v] w fun e w' => e = .returned (.tuple #[]) ∧ Over w w' := by
 refine walk_from (m := 53) (Try.func75) rfl rfl (Nat.le_of_ble_eq_true rfl) ?_
 refine at_seq ?_
 refine at_region ?_
 refine at_q rfl rfl (by decide) (qt_move rfl rfl) ?_
 refine at_q rfl rfl (by decide) (qt_add rfl rfl rfl (by omega) (by omega)) ?_
 refine at_q rfl rfl (by decide) (qt_assign rfl rfl) ?_
 refine at_end ?_
 refine at_block ?_
 refine at_loopk (X := Unit) (fun u => True) (fun u => 0) (fun u => [(8, .int .i64 1)]) (C := [(0, _), (1, _), (2, _), (3, _)]) ⟨rfl, rfl, rfl, rfl, trivial⟩ () (trivial) ⟨rfl, rfl, rfl, rfl, rfl, trivial⟩ ?_
 intro u hu L hL1
 refine at_envE (by simp only [ya,yb]; rfl) ?_
 refine at_seq ?_
 refine at_seq ?_
 refine at_region ?_
 refine at_q rfl rfl (by decide) (qt_move rfl rfl) ?_
 refine at_q rfl rfl (by decide) (qt_move rfl rfl) ?_
 refine at_q rfl rfl (by decide) (qt_lss rfl rfl rfl) ?_
 refine at_end ?_
 refine at_cond rfl (fun c1 => ?_) (fun c1 => ?_)
 ·try simp only [za,zb,zc,zd,ze,zf,Bool.not_true,Bool.not_false,zg,zh,ne_eq,zi,zj] at c1
  omega
 ·try simp only [za,zb,zc,zd,ze,zf,Bool.not_true,Bool.not_false,zg,zh,ne_eq,zi,zj] at c1
  refine at_exit ?_
  refine pass_then (fun h => by cases h) ?_
  refine pass_then (fun h => by cases h) ?_
  refine pass_hit ?_
  refine at_end0 rfl ?_
  intro w' hs
  exact ⟨rfl, hs.fin⟩
theorem pdq_nilG (l : Int) (v : Value) (w : World) : Calls Try.prog 62 #[.slice none 0 0, .int .i64 0, .int .i64 0, .int .i64 l, v] w fun e w' => e = .returned (.tuple #[]) ∧ Over w w' := by
 refine walk_from (m := 148) (Try.func62) rfl rfl (Nat.le_of_ble_eq_true rfl) ?_
 refine at_seq ?_
 refine at_region ?_
 refine at_q rfl rfl (by decide) (qt_assign rfl rfl) ?_
 refine at_end ?_
 refine at_seq ?_
 refine at_region ?_
 refine at_q rfl rfl (by decide) (qt_assign rfl rfl) ?_
 refine at_end ?_
 refine at_block ?_
 refine at_loopk (X := Unit) (fun u => True) (fun u => 0) (fun u => []) (C := [(0, _), (1, _), (2, _), (3, _), (4, _), (10, _), (11, _)]) ⟨rfl, rfl, rfl, rfl, rfl, rfl, rfl, trivial⟩ () (trivial) ⟨rfl, rfl, rfl, rfl, rfl, rfl, rfl, trivial⟩ ?_
 intro u hu L hL1
 refine at_envE (by simp only [ya,yb]; rfl) ?_
 refine at_block ?_
 refine at_seq ?_
 refine at_region ?_
 refine at_q rfl rfl (by decide) (qt_move rfl rfl) ?_
 refine at_q rfl rfl (by decide) (qt_move rfl rfl) ?_
 refine at_q rfl rfl (by decide) (qt_sub rfl rfl rfl (by omega) (by omega)) ?_
 refine at_q rfl rfl (by decide) (qt_assign rfl rfl) ?_
 refine at_end ?_
 refine at_seq ?_
 refine at_seq ?_
 refine at_region ?_
 refine at_q rfl rfl (by decide) (qt_move rfl rfl) ?_
 refine at_q rfl rfl (by decide) (qt_leq rfl rfl rfl) ?_
 refine at_end ?_
 refine at_cond rfl (fun c1 => ?_) (fun c1 => ?_)
 ·try simp only [za,zb,zc,zd,ze,zf,Bool.not_true,Bool.not_false,zg,zh,ne_eq,zi,zj] at c1
  refine at_seq ?_
  refine at_region ?_
  refine at_q rfl rfl (by decide) (qt_move rfl rfl) ?_
  refine at_q rfl rfl (by decide) (qt_move rfl rfl) ?_
  refine at_q rfl rfl (by decide) (qt_move rfl rfl) ?_
  refine at_q rfl rfl (by decide) (qt_move rfl rfl) ?_
  refine at_q rfl rfl (by decide) (qt_call ok_slices_insertionSortCmpFunc_impl_leg rfl rfl (fun w h => ins_nilG v w)) ?_
  refine at_end ?_
  refine at_retc ?_
  refine then_ret ?_
  refine pass_ret ?_
  refine then_ret ?_
  refine pass_ret ?_
  refine at_ret0 rfl ?_
  intro w' hs
  exact ⟨rfl, hs.fin⟩
 ·try simp only [za,zb,zc,zd,ze,zf,Bool.not_true,Bool.not_false,zg,zh,ne_eq,zi,zj] at c1
  omega
theorem len_nilG (w : World) : Calls Try.prog 63 #[.int .u64 0] w fun e w' => (∃ l : Int, e = .returned (.int .i64 l)) ∧ w = w' :=
 (Any.bits_Len (SlLaysF0.n15.bits (P := Try.prog) (ρ := sortLg_ren) { sortLg with }) 0 w (by omega) (by omega)).mono fun _ _ ⟨he, hw⟩ => ⟨⟨_, he⟩, hw.symm⟩
theorem sort_nilG (w : World) : Calls Try.prog 40 #[.slice none 0 0, .func (.func 41) #[] #[]] w fun e w' => e = .returned (.tuple #[]) ∧ Over w w' := by
 go_enter Try.func40, Try.ntmps40
 go_wp2_with fail
 go_at_call 63
 refine (len_nilG _).mono ?_
 rintro e w1 ⟨⟨l, rfl⟩, rfl⟩
 go_wp2_with fail
 go_at_call 62
 refine (pdq_nilG _ _ _).mono ?_
 rintro e w1 ⟨rfl, hb⟩
 go_wp2_with fail
 go_end0
 exact ⟨rfl, hb⟩
theorem Compact_nilG (w : World) : Calls Try.prog 42 #[.slice none 0 0] w fun e w' => e = .returned (.slice none 0 0) ∧ Over w w' := by
 refine walk_from (m := 61) (Try.func42) rfl rfl (Nat.le_of_ble_eq_true rfl) ?_
 refine at_seq ?_
 refine at_region ?_
 refine at_q rfl rfl (by decide) (qt_assign rfl rfl) ?_
 refine at_end ?_
 refine at_seq ?_
 refine at_seq ?_
 refine at_region ?_
 refine at_q rfl rfl (by decide) (qt_move rfl rfl) ?_
 refine at_q rfl rfl (by decide) (qt_len rfl rfl tyl_sl_impl_leg) ?_
 refine at_q rfl rfl (by decide) (qt_lss rfl rfl rfl) ?_
 refine at_end ?_
 refine at_cond rfl (fun c1 => ?_) (fun c1 => ?_)
 ·try simp only [za,zb,zc,zd,ze,zf,Bool.not_true,Bool.not_false,zg,zh,ne_eq,zi,zj] at c1
  refine at_seq ?_
  refine at_region ?_
  refine at_q rfl rfl (by decide) (qt_move rfl rfl) ?_
  refine at_q rfl rfl (by decide) (qt_assign rfl rfl) ?_
  refine at_end ?_
  refine at_retc ?_
  refine then_ret ?_
  refine at_ret1 rfl (.tmp rfl) ?_
  intro w' hs
  exact ⟨rfl, hs.fin⟩
 ·try simp only [za,zb,zc,zd,ze,zf,Bool.not_true,Bool.not_false,zg,zh,ne_eq,zi,zj] at c1
  omega
end Go.Proofs.Ytcigocejgmafjaa
