/- slices.SortFunc at points on rows; HotPoints, both sides. -/
import Derived.Test.YtjhaakollekjeaaSortLay
import Derived.Test.YtjhaakollekjeaaSlc
import Derived.Test.YtjhaakollekjeaaCmp
namespace Go.Proofs.Ytjhaakollekjeaa
open Go Go.RowKit
set_option linter.unusedVariables false
set_option linter.unusedSimpArgs false
set_option maxRecDepth 100000
set_option maxHeartbeats 4000000
open Go Go.Shelf Go.RowKit
open Go Go.Shelf
open Go Go.Shelf Go.RowKit Go.Lib Go.Sort
set_option linter.unusedVariables false
set_option linter.unusedSimpArgs false

/-- Points far from the words' bounds. -/
structure Pw where
 val : Pn
 ok : bdW val
instance : Inhabited Pw := ⟨⟨(0, 0), ⟨⟨by decide, by decide⟩, by decide, by decide⟩⟩⟩
def encP (x : Pw) : List Value := ptCells x.val
theorem ltOfP (x y : Pw) : ltOf (fun x y : Pw => cmpYX x.val y.val) x y = decide (ltY x.val y.val) := by
 unfold ltOf
 rw [Bool.eq_iff_iff, decide_eq_true_iff, decide_eq_true_iff]
 exact cmpYX_lt _ _
theorem swoP : SWO (ltOf fun x y : Pw => cmpYX x.val y.val) where
 irrefl x := by rw [ltOfP]; exact decide_eq_false (ltY_irrefl _)
 trans x y z h1 h2 := by rw [ltOfP, decide_eq_true_iff] at *; exact ltY_trans h1 h2
 ntrans x y z h1 h2 := by
  rw [ltOfP] at *
  simp only [decide_eq_false_iff_not] at *
  unfold ltY at *
  omega
theorem cmpLaysP (blk off size : Nat) (w : World) : CmpLays Try.prog 102 #[] encP 2 (fun x y : Pw => cmpYX x.val y.val) blk off size w :=
 fun _ _ _ _ x y => compareYX_w x.val y.val x.ok y.ok _
/-! ### A row sorted -/
theorem aggP (w : World) : (isAgg (sortPt_ren.t 24)).run Try.prog w = .ok true w := Try.isAgg103 w
theorem sizP (w : World) : (Go.sizeOf (sortPt_ren.t 24)).run Try.prog w = .ok 2 w := Try.sizeOf103 w
def wrapPw (xs : List Pn) (hx : ∀ p ∈ xs, bdW p) : List Pw := xs.attach.map fun p => Pw.mk p.1 (hx p.1 p.2)
theorem wrapPw_len (xs : List Pn) (hx : ∀ p ∈ xs, bdW p) : (wrapPw xs hx).length = xs.length := by simp [wrapPw]
theorem wrapPw_val (xs : List Pn) (hx : ∀ p ∈ xs, bdW p) : (wrapPw xs hx).map (·.val) = xs := by
 rw [wrapPw, List.map_map]
 exact List.attach_map_subtype_val xs
theorem flatP_at (d : Array Pw) (j : Nat) (h : j < d.size * 2) : ((d.toList.map (·.val)).flatMap ptCells)[j]? = some (flatK encP 2 d)[j]! := by
 rw [get_flatK _ _ _ _ h, ptCells_get _ _ (by simpa using h)]
 have hj : j / 2 < d.size := by omega
 rw [getElem!_pos d (j / 2) hj]
 simp only [List.getElem_map, Array.getElem_toList]
 have h2 : j % 2 < (encP d[j / 2]).length := by simp [encP, ptCells]; omega
 rw [getElem!_pos (encP d[j / 2]) (j % 2) h2]
 exact List.getElem?_eq_getElem h2
theorem sort_heap {w : World} {g m T : Nat} {cur : Array Value} {d' : Array Pw} {os : Array Obj} (hg : w.heap[g]? = some (.cells cur T (0, 0))) (b : Nat) (hb : b < w.heap.size) :
  (sortWorldK encP 2 w g 0 m d' os).heap[b]? = if g = b then some (.cells (Sort.putCells id 0 (flatK encP 2 d') cur) T (0, 0)) else w.heap[b]? := by
 show ((w.heap.modify g (Sort.onCells (Sort.putCells id 0 (flatK encP 2 d')))) ++ os)[b]? = _
 rw [Array.getElem?_append_left (by simpa using hb), Array.getElem?_modify]
 split
 ·rename_i e
  subst e
  rw [hg]
  rfl
 ·rfl
theorem sort_row {B g c n : Nat} {xs : List Pn} {w : World} (h : w.ownsRow B 103 2 (.slice (some ⟨g, 0, none⟩) n c) n (xs.flatMap ptCells)) (hl : xs.length = n) (hx : ∀ p ∈ xs, bdW p) (hn : n ≤ 1048576) (h0 : 0 < n) :
  Calls Try.prog 101 #[.slice (some ⟨g, 0, none⟩) n c, .func (.func 102) #[] #[]] w fun e w' => e = .returned (.tuple #[]) ∧ ∃ ys, ys.Perm xs ∧ Ris ys ∧ Wrs (· = g) w w' ∧ w'.ownsRow 0 103 2 (.slice (some ⟨g, 0, none⟩) n c) n (ys.flatMap ptCells) := by
 rcases h.2 with ⟨_, e⟩ | ⟨g', cap, cur, e, hb, hg, hcap, hmax, hsz, htk⟩
 ·omega
 ·injection e with e1 e2 e3
  injection e1 with e1
  injection e1 with e1
  subst e1 e3
  have hds : (wrapPw xs hx).toArray.size = n := by simp [wrapPw_len, hl]
  have hval : ((wrapPw xs hx).toArray.toList.map (·.val)) = xs := by rw [List.toList_toArray]; exact wrapPw_val xs hx
  have hH : HoldsK encP 2 w g 0 (wrapPw xs hx).toArray := by
   intro j hj
   rw [size_flatK, hds] at hj
   refine ⟨?_, ?_⟩
   ·rw [Nat.zero_add, cell_of_row w g j cur _ (0, 0) hg]
    have := flatP_at (wrapPw xs hx).toArray j (by rw [hds]; exact hj)
    rw [hval, ← htk, List.getElem?_take, if_pos hj] at this
    simpa using this
   ·unfold World.frozen?
    simp only [hg]
    simp
  have eg : ∀ args w, (callFunc 102 args).run Try.prog w = .ok (.enter 102 args) w := enters_of Try.func102 (by kernel_rfl) rfl
  have hcon := AnyQ.slices_SortFunc sortPt 2 aggP sizP encP (fun _ => rfl) (fun x v hv => by simp [encP, ptCells] at hv; rcases hv with rfl | rfl <;> rfl) (fun x y : Pw => cmpYX x.val y.val) swoP 102 #[] g 0 c (wrapPw xs hx).toArray w eg (cmpLaysP g 0 _ w) hH (lt_of_some hg) (by omega)
  rw [hds] at hcon
  refine hcon.mono ?_
  rintro e w' ⟨rfl, d', m, os, hp, hs, rfl⟩
  have hd' : d'.size = n := hp.1.trans hds
  refine ⟨rfl, d'.toList.map (·.val), ?_, ?_, ?_, ?_⟩
  ·have := hp.2.2.map (·.val)
   rw [← hd', Array.extract_size, hd', ← hds, Array.extract_size, hval] at this
   exact this
  ·refine List.pairwise_iff_getElem.2 fun i j hi hj hij => ?_
   simp only [List.length_map, Array.length_toList] at hi hj
   have := hs i j (Nat.zero_le _) hij (by omega)
   rw [ltOfP, decide_eq_false_iff_not, getElem!_pos d' j hj, getElem!_pos d' i hi] at this
   simpa using this
  ·refine ⟨rfl, rfl, rfl, by exact size_sortWorldK_c _ _ _ _ _ _ _ _, fun b hb hne => ?_⟩
   rw [sort_heap hg b hb, if_neg (fun e => hne e.symm)]
  ·refine ⟨by rw [ptCells_len]; simp [hd'], .inr ⟨g, c, Sort.putCells id 0 (flatK encP 2 d') cur, rfl, Nat.zero_le _, ?_, hcap, hmax, by simp [Sort.putCells, hsz], ?_⟩⟩
   ·rw [sort_heap hg g (lt_of_some hg), if_pos rfl]
   ·apply List.ext_getElem?
    intro j
    rw [List.getElem?_take]
    by_cases hj : j < n * 2
    ·rw [if_pos hj, flatP_at d' j (by rw [hd']; exact hj), Array.getElem?_toList]
     have hjc : j < cur.size := by omega
     simp only [Sort.putCells, Array.getElem?_mapIdx, Array.getElem?_eq_getElem hjc, Option.map_some, size_flatK, hd']
     rw [if_pos ⟨Nat.zero_le _, by omega⟩, Nat.sub_zero]
     rfl
    ·rw [if_neg hj, List.getElem?_eq_none (by rw [ptCells_len]; simp [hd']; omega)]
theorem compP_snoc : ∀ (l : List Pn) (q p : Pn), compP (l ++ [q] ++ [p]) = compP (l ++ [q]) ++ (if q = p then [] else [p])
 | [], q, p => by
  simp only [List.nil_append, List.singleton_append, compP]
  split
  ·rename_i h; rw [h]
  ·rfl
 | [a], q, p => by
  have h := compP_snoc [] q p
  simp only [List.nil_append, List.singleton_append, List.cons_append] at h ⊢
  rw [compP, h]
  conv => rhs; rw [compP]
  split <;> rfl
 | a :: b :: l, q, p => by
  have h := compP_snoc (b :: l) q p
  simp only [List.cons_append] at h ⊢
  rw [compP, h]
  conv => rhs; rw [compP]
  split <;> rfl
theorem compP_take {xs : List Pn} {i : Nat} (h1 : 1 ≤ i) (h : i < xs.length) : compP (xs.take (i + 1)) = compP (xs.take i) ++ (if pt xs (i - 1) = pt xs i then [] else [pt xs i]) := by
 obtain ⟨j, rfl⟩ : ∃ j, i = j + 1 := ⟨i - 1, by omega⟩
 rw [List.take_succ_eq_append_getElem h, List.take_succ_eq_append_getElem (show j < xs.length by omega), compP_snoc, pt_at h, pt_at (show j < xs.length by omega)]
 rfl
theorem compP_len : ∀ l : List Pn, (compP l).length ≤ l.length
 | [] => Nat.le_refl _
 | [_] => Nat.le_refl _
 | p :: q :: l => by
  have := compP_len (q :: l)
  unfold compP
  simp only [List.length_cons] at *
  split
  ·omega
  ·rw [List.length_cons]; omega
/-- No two neighbours among the first i are the same. -/
theorem compP_same {xs : List Pn} : ∀ i, i ≤ xs.length → (∀ j, 1 ≤ j → j < i → ¬ pt xs (j - 1) = pt xs j) → compP (xs.take i) = xs.take i
 | 0, _, _ => rfl
 | 1, h, _ => by
  match xs, h with
  | p :: l, _ => rfl
 | i + 2, h, hj => by
  rw [compP_take (by omega) (by omega), compP_same (i + 1) (by omega) (fun j h1 h2 => hj j h1 (by omega)), if_neg (hj (i + 1) (by omega) (by omega)), ← pt_at (by omega)]
  exact (List.take_succ_eq_append_getElem (by omega)).symm
/-- The points of a slice that is being closed up. -/
def clo (xs : List Pn) (i : Nat) : List Pn := compP (xs.take i) ++ xs.drop (compP (xs.take i)).length
theorem clo_len {xs : List Pn} {i : Nat} (h : i ≤ xs.length) : (clo xs i).length = xs.length := by
 have := compP_len (xs.take i)
 rw [List.length_take] at this
 rw [clo, List.length_append, List.length_drop]
 omega
theorem clo_at {xs : List Pn} {i j : Nat} (h : (compP (xs.take i)).length ≤ j) : pt (clo xs i) j = pt xs j := by
 simp only [pt, px, py, List.getD, clo, List.getElem?_append_right h, List.getElem?_drop]
 rw [show (compP (xs.take i)).length + (j - (compP (xs.take i)).length) = j by omega]
theorem clo_no {xs : List Pn} {i : Nat} (h1 : 1 ≤ i) (h : i < xs.length) (he : pt xs (i - 1) = pt xs i) : clo xs (i + 1) = clo xs i := by rw [clo, compP_take h1 h, if_pos he, List.append_nil]; rfl
theorem clo_yes {xs : List Pn} {i : Nat} (h1 : 1 ≤ i) (h : i < xs.length) (he : ¬ pt xs (i - 1) = pt xs i) (hk : (compP (xs.take i)).length < xs.length) : (clo xs (i + 1)).flatMap ptCells = splice ((clo xs i).flatMap ptCells) ((compP (xs.take i)).length * 2) (ptCells (pt xs i)) := by
 rw [clo, clo, compP_take h1 h, if_neg he]
 generalize compP (xs.take i) = C at *
 rw [List.drop_eq_getElem_cons hk, List.length_append, List.length_singleton, List.flatMap_append, List.flatMap_append, List.flatMap_append, List.flatMap_cons]
 have hC : C.length * 2 = (C.flatMap ptCells).length := (ptCells_len C).symm
 rw [hC]
 simp only [ptCells, splice, List.flatMap_cons, List.flatMap_nil, List.append_nil, List.cons_append, List.nil_append]
 rw [List.set_append_right _ _ (Nat.le_refl _), Nat.sub_self, List.set_cons_zero, List.set_append_right _ _ (by omega), show (C.flatMap ptCells).length + 1 - (C.flatMap ptCells).length = 1 by omega]
 simp [ptCells]
def zerosP (m : Nat) : List Value := (Builtin.zeroCells (Value.agg #[.int .i64 0, .int .i64 0]).cells m).toList
theorem zerosP_len (m : Nat) : (zerosP m).length = m * 2 := by
 rw [zerosP, Array.length_toList, size_zeroCells]
 rfl
theorem zerosP_one (m : Nat) : (zerosP m).all (·.oneCell') = true := by
 rw [List.all_eq_true]
 intro v hv
 rw [zerosP, Array.mem_toList_iff, Builtin.zeroCells] at hv
 obtain ⟨i, hi, rfl⟩ := Array.mem_map.1 hv
 have : i % 2 < 2 := Nat.mod_lt _ (by decide)
 show (#[Value.int .i64 0, Value.int .i64 0][i % 2]!).oneCell' = true
 rcases (show i % 2 = 0 ∨ i % 2 = 1 by omega) with e | e <;> rw [e] <;> rfl
/-- How many points stay of the first i. -/
def kc (xs : List Pn) (i : Nat) : Nat := (compP (xs.take i)).length
theorem kc_same {xs : List Pn} {i : Nat} (h1 : 1 ≤ i) (h : i < xs.length) (he : pt xs (i - 1) = pt xs i) : kc xs (i + 1) = kc xs i := by rw [kc, compP_take h1 h, if_pos he, List.append_nil]; rfl
theorem kc_more {xs : List Pn} {i : Nat} (h1 : 1 ≤ i) (h : i < xs.length) (he : ¬ pt xs (i - 1) = pt xs i) : kc xs (i + 1) = kc xs i + 1 := by rw [kc, compP_take h1 h, if_neg he, List.length_append]; rfl
theorem ptNe {xs : List Pn} {j i : Nat} : ((px xs j == px xs i) && (py xs j == py xs i)) = decide (pt xs i = pt xs j) := by
 rw [Bool.eq_iff_iff]
 simp [pt, Prod.ext_iff]
 constructor <;> (rintro ⟨h1, h2⟩; exact ⟨h1.symm, h2.symm⟩)
theorem compP_whole {xs : List Pn} (h : ∀ j, 1 ≤ j → j < xs.length → ¬ pt xs (j - 1) = pt xs j) : compP xs = xs := by
 have := compP_same xs.length (Nat.le_refl _) h
 rwa [List.take_length] at this
theorem take_whole {xs : List Pn} {rest : List Value} : (xs.flatMap ptCells ++ rest).take (xs.length * 2) = xs.flatMap ptCells := List.take_left' (ptCells_len xs)
theorem take_clear {xs : List Pn} {rest zs : List Value} {n c : Nat} (hn : xs.length = n) (hl : ((clo xs n).flatMap ptCells ++ rest).length = c * 2) (hK : kc xs n * 2 + zs.length ≤ c * 2) :
  (splice ((clo xs n).flatMap ptCells ++ rest) (0 + kc xs n * 2) zs).take ((compP xs).length * 2) = (compP xs).flatMap ptCells := by
 have e : (compP xs).length = kc xs n := by rw [kc, ← hn, List.take_length]
 have ec : compP (xs.take n) = compP xs := by rw [← hn, List.take_length]
 apply List.ext_getElem?
 intro i
 rw [List.getElem?_take, e, Nat.zero_add]
 by_cases hi : i < kc xs n * 2
 ·rw [if_pos hi, splice_get i (by omega), if_neg (by omega), clo, List.flatMap_append, List.append_assoc, List.getElem?_append_left (by rw [ptCells_len]; exact hi), ec]
 ·rw [if_neg hi, List.getElem?_eq_none (by rw [ptCells_len, e]; omega)]
theorem Compact_cel (b T c n : Nat) (xs : List Pn) (rest : List Value) (w : World) (hh : w.heap[b]? = some (.cells (xs.flatMap ptCells ++ rest).toArray T (0, 0))) (hc : n ≤ c) (hl : ((xs.flatMap ptCells) ++ rest).length = c * 2) (hn : xs.length = n) (hn2 : n ≤ 1048577) :
  Calls Try.prog 103 #[.slice (some ⟨b, 0, none⟩) n c] w fun e w' => e = .returned (.slice (some ⟨b, 0, none⟩) (compP xs).length c) ∧ Wr b w w' ∧ ∃ cs : List Value, w'.heap[b]? = some (.cells cs.toArray T (0, 0)) ∧ cs.length = c * 2 ∧ cs.take ((compP xs).length * 2) = (compP xs).flatMap ptCells := by
 have hr2 : ∀ (zs : List Pn), zs.length = n → ∀ k, k < n → ∀ w' : World, w'.heap[b]? = some (.cells (zs.flatMap ptCells ++ rest).toArray T (0, 0)) → ∀ (q : Nat) (v : Value), [Value.int .i64 (px zs k), Value.int .i64 (py zs k)][q]? = some v → w'.cell? ⟨b, 0 + k * 2 + q, none⟩ = some v := fun zs hz k hk w' hw q v hv => by
  have hq : q < 2 := by have := (List.getElem?_eq_some_iff.1 hv).1; simpa using this
  rw [cell_of_row w' b _ _ T (0, 0) hw, Nat.zero_add]
  have hf := ptFlat zs k q (by omega) hq
  rw [at_p (by omega)] at hf
  have : (zs.flatMap ptCells ++ rest).toArray[k * 2 + q]? = (zs.flatMap ptCells)[k * 2 + q]? := by
   rw [List.getElem?_toArray, List.getElem?_append_left (by rw [ptCells_len]; omega)]
  rw [this, hf]
  exact hv
 refine walk_from1 (m := 61) (Try.func103) rfl rfl (Nat.le_of_ble_eq_true rfl) (hh) ?_
 refine at_seq ?_
 refine at_region ?_
 refine at_q rfl rfl (by decide) (qt_assign rfl rfl) ?_
 refine at_end ?_
 refine at_seq ?_
 refine at_seq ?_
 refine at_region ?_
 refine at_q rfl rfl (by decide) (qt_move rfl rfl) ?_
 refine at_q rfl rfl (by decide) (qt_len rfl rfl tyl_sl_impl_Pt) ?_
 refine at_q rfl rfl (by decide) (qt_lss rfl rfl rfl) ?_
 refine at_end ?_
 refine at_cond rfl (fun c1 => ?_) (fun c1 => ?_)
 ·try simp only [za,zb,zc,zd,ze,zf,Bool.not_true,Bool.not_false,zg,zh,ne_eq,zi,zj] at c1
  refine at_seq ?_
  refine at_region ?_
  refine at_q rfl rfl (by decide) (qt_move rfl rfl) ?_
  refine at_q rfl rfl (by decide) (qt_assign rfl rfl) ?_
  refine at_end ?_
  refine at_retc ?_
  refine then_ret ?_
  refine at_ret1 rfl (.tmp rfl) ?_
  intro w' hs
  exact ⟨by rw [compP_whole fun j h1 h2 => absurd h2 (by omega), hn], hs.over.wr, _, hs.cel (k := 0) rfl, hl, by rw [compP_whole fun j h1 h2 => absurd h2 (by omega)]; exact take_whole⟩
 ·try simp only [za,zb,zc,zd,ze,zf,Bool.not_true,Bool.not_false,zg,zh,ne_eq,zi,zj] at c1
  refine at_skip ?_
  refine norm_then ?_
  refine at_seq ?_
  refine at_seq ?_
  refine at_region ?_
  refine at_q rfl rfl (by decide) (qt_assign rfl rfl) ?_
  refine at_end ?_
  refine at_block ?_
  refine at_loopk (X := Nat) (fun k => 1 ≤ k ∧ k ≤ n ∧ (∀ j, 1 ≤ j → j < k → ¬ pt xs (j - 1) = pt xs j)) (fun k => n - k) (fun k => [(3, .int .i64 (k : Int))]) (C := [(0, _), (2, _)]) ⟨rfl, rfl, trivial⟩ 1 (⟨Nat.le_refl _, by omega, fun j h1 h2 => absurd h2 (by omega)⟩) ⟨rfl, rfl, rfl, trivial⟩ ?_
  intro k hk L hL1
  refine at_envE (by simp only [ya,yb]; rfl) ?_
  refine at_seq ?_
  refine at_seq ?_
  refine at_region ?_
  refine at_q rfl rfl (by decide) (qt_move rfl rfl) ?_
  refine at_q rfl rfl (by decide) (qt_move rfl rfl) ?_
  refine at_q rfl rfl (by decide) (qt_len rfl rfl tyl_sl_impl_Pt) ?_
  refine at_q rfl rfl (by decide) (qt_lss rfl rfl rfl) ?_
  refine at_end ?_
  refine at_cond rfl (fun c2 => ?_) (fun c2 => ?_)
  ·try simp only [za,zb,zc,zd,ze,zf,Bool.not_true,Bool.not_false,zg,zh,ne_eq,zi,zj] at c2
   refine at_skip ?_
   refine norm_then ?_
   refine at_seq ?_
   refine at_block ?_
   refine at_seq ?_
   refine dg_start mixed rfl ?_
   refine dg_phase 10 ?_
   refine dg_q (i := 0) rfl (by kernel_rfl) (by kernel_rfl) (by kernel_rfl) [] (by kernel_rfl) (fun _ _ _ h => h) rfl rfl (by decide) (fun _ h => h.upto ⟨rfl, trivial⟩) (qt_move rfl rfl) ?_
   refine dg_q (i := 1) rfl (by kernel_rfl) (by kernel_rfl) (by kernel_rfl) [] (by kernel_rfl) (fun _ _ _ h => h) rfl rfl (by decide) (fun _ h => h.upto ⟨rfl, trivial⟩) (qt_move rfl rfl) ?_
   refine dg_q (i := 2) rfl (by kernel_rfl) (by kernel_rfl) (by kernel_rfl) [] (by kernel_rfl) (fun _ _ _ h => h) rfl rfl (by decide) (fun _ h => h.upto ⟨rfl, trivial⟩) (qt_index rfl rfl rfl tyl_sl_impl_Pt (by omega)) ?_
   refine dg_q (i := 3) rfl (by kernel_rfl) (by kernel_rfl) (by kernel_rfl) [] (by kernel_rfl) (fun _ _ _ h => h) rfl rfl (by decide) (fun _ h => h.upto ⟨rfl, trivial⟩) (qt_loadS rfl rfl tys_impl_Pt rfl (fun w' hs => hr2 xs hn k (by omega) w' (hs.cel (k := 0) rfl))) ?_
   refine dg_q (i := 4) rfl (by kernel_rfl) (by kernel_rfl) (by kernel_rfl) [] (by kernel_rfl) (fun _ _ _ h => h) rfl rfl (by decide) (fun _ h => h.upto ⟨rfl, trivial⟩) (qt_move rfl rfl) ?_
   refine dg_q (i := 5) rfl (by kernel_rfl) (by kernel_rfl) (by kernel_rfl) [] (by kernel_rfl) (fun _ _ _ h => h) rfl rfl (by decide) (fun _ h => h.upto ⟨rfl, trivial⟩) (qt_move rfl rfl) ?_
   refine dg_q (i := 6) rfl (by kernel_rfl) (by kernel_rfl) (by kernel_rfl) [] (by kernel_rfl) (fun _ _ _ h => h) rfl rfl (by decide) (fun _ h => h.upto ⟨rfl, trivial⟩) ((qt_sub rfl rfl rfl (by omega) (by omega)).as (congrArg _ (show ((k : Int) - 1) = ((k - 1 : Nat) : Int) by omega))) ?_
   refine dg_q (i := 7) rfl (by kernel_rfl) (by kernel_rfl) (by kernel_rfl) [] (by kernel_rfl) (fun _ _ _ h => h) rfl rfl (by decide) (fun _ h => h.upto ⟨rfl, trivial⟩) (qt_index rfl rfl rfl tyl_sl_impl_Pt (by omega)) ?_
   refine dg_q (i := 8) rfl (by kernel_rfl) (by kernel_rfl) (by kernel_rfl) [] (by kernel_rfl) (fun _ _ _ h => h) rfl rfl (by decide) (fun _ h => h.upto ⟨rfl, trivial⟩) (qt_loadS rfl rfl tys_impl_Pt rfl (fun w' hs => hr2 xs hn (k - 1) (by omega) w' (hs.cel (k := 0) rfl))) ?_
   refine dg_q (i := 9) rfl (by kernel_rfl) (by kernel_rfl) (by kernel_rfl) [] (by kernel_rfl) (fun _ _ _ h => h) rfl rfl (by decide) (fun _ h => h.upto ⟨rfl, trivial⟩) (qt_eqlS_impl_Pt rfl rfl rfl) ?_
   refine dg_done (by kernel_rfl) ?_
   refine norm_then ?_
   refine at_cond rfl (fun c3 => ?_) (fun c3 => ?_)
   ·try simp only [za,zb,zc,zd,ze,zf,Bool.not_true,Bool.not_false,zg,zh,ne_eq,zi,zj] at c3
    have hkn : k < n := (by omega)
    have hdup : pt xs (k - 1) = pt xs k := of_decide_eq_true (ptNe ▸ c3)
    have hoff : offL 0 k c 2 = 0 + k * 2 := by rw [offL, if_neg (by omega)]
    have hcs : compP (xs.take k) = xs.take k := compP_same k (by omega) hk.2.2
    have hck : kc xs k = k := by rw [kc, hcs, List.length_take]; omega
    have hck1 : kc xs (k + 1) = k := by rw [kc_same hk.1 (by omega) hdup, hck]
    have hclo : clo xs (k + 1) = xs := by rw [clo, compP_take hk.1 (by omega), if_pos hdup, List.append_nil, hcs, List.length_take, Nat.min_eq_left (by omega), List.take_append_drop]
    refine at_seq ?_
    refine at_region ?_
    refine at_q rfl rfl (by decide) (qt_move rfl rfl) ?_
    refine at_q rfl rfl (by decide) (qt_move rfl rfl) ?_
    refine at_q rfl rfl (by decide) ((qt_sliceL rfl rfl rfl tyl_sl_impl_Pt (by omega)).as ((slicedL (b := b) (o := 0) (l := k) (h := n) (m := c) (s := 2) hc (by omega)).trans (by rw [hoff]))) ?_
    refine at_q rfl rfl (by decide) (qt_assign rfl rfl) ?_
    refine at_end ?_
    refine at_seq ?_
    refine at_seq ?_
    refine at_region ?_
    refine at_q rfl rfl (by decide) (qt_assign rfl rfl) ?_
    refine at_end ?_
    refine at_block ?_
    refine at_loopc (X := Nat) (fun j => 1 ≤ j ∧ k + j ≤ n ∧ kc xs (k + j) + 1 ≤ k + j) (fun j => n - j) (fun j => [(3, .int .i64 (kc xs (k + j) : Int)), (5, .int .i64 (j : Int))]) (C := [(0, _), (2, _), (10, _), (11, _), (12, _), (13, _), (16, _), (17, _), (18, _), (19, _), (20, _), (21, _), (22, _), (23, _), (24, _), (25, _), (26, _), (27, _), (28, _), (4, _)]) ⟨rfl, rfl, rfl, rfl, rfl, rfl, rfl, rfl, rfl, rfl, rfl, rfl, rfl, rfl, rfl, rfl, rfl, rfl, rfl, rfl, trivial⟩ (fun j => [.cel b T ((clo xs (k + j)).flatMap ptCells ++ rest)]) 1 (⟨Nat.le_refl _, by omega, by omega⟩) ⟨(by rw [hck1]; rfl), rfl, rfl, rfl, rfl, rfl, rfl, rfl, rfl, rfl, rfl, rfl, rfl, rfl, rfl, rfl, rfl, rfl, rfl, rfl, rfl, rfl, trivial⟩ (fun _ h => h.upto ⟨by rw [hclo], trivial⟩) ?_
    intro j hj L hL2
    refine at_envE (by simp only [ya,yb]; rfl) ?_
    refine at_rsE (by first | (dsimp only; done) | (dsimp only; rfl) | rfl) ?_
    have hcl : (clo xs (k + j)).length = n := (clo_len (by omega)).trans hn
    refine at_seq ?_
    refine at_seq ?_
    refine at_region ?_
    refine at_q rfl rfl (by decide) (qt_move rfl rfl) ?_
    refine at_q rfl rfl (by decide) (qt_move rfl rfl) ?_
    refine at_q rfl rfl (by decide) (qt_len rfl rfl tyl_sl_impl_Pt) ?_
    refine at_q rfl rfl (by decide) (qt_lss rfl rfl rfl) ?_
    refine at_end ?_
    refine at_cond rfl (fun c4 => ?_) (fun c4 => ?_)
    ·try simp only [za,zb,zc,zd,ze,zf,Bool.not_true,Bool.not_false,zg,zh,ne_eq,zi,zj] at c4
     have hjl : k + j < n := (by omega)
     have hrd : ∀ i, kc xs (k + j) ≤ i → i < n → ∀ w' : World, w'.heap[b]? = some (.cells ((clo xs (k + j)).flatMap ptCells ++ rest).toArray T (0, 0)) → ∀ (q : Nat) (v : Value), [Value.int .i64 (px xs i), Value.int .i64 (py xs i)][q]? = some v → w'.cell? ⟨b, 0 + i * 2 + q, none⟩ = some v := fun i h1 h2 w' hw q v hv => hr2 (clo xs (k + j)) hcl i h2 w' hw q v (by rw [show px (clo xs (k + j)) i = px xs i from congrArg Prod.fst (clo_at h1), show py (clo xs (k + j)) i = py xs i from congrArg Prod.snd (clo_at h1)]; exact hv)
     refine at_skip ?_
     refine norm_then ?_
     refine at_seq ?_
     refine at_block ?_
     refine at_seq ?_
     refine dg_start mixed rfl ?_
     refine dg_phase 10 ?_
     refine dg_q (i := 0) rfl (by kernel_rfl) (by kernel_rfl) (by kernel_rfl) [] (by kernel_rfl) (fun _ _ _ h => h) rfl rfl (by decide) (fun _ h => h.upto ⟨rfl, trivial⟩) (qt_move rfl rfl) ?_
     refine dg_q (i := 1) rfl (by kernel_rfl) (by kernel_rfl) (by kernel_rfl) [] (by kernel_rfl) (fun _ _ _ h => h) rfl rfl (by decide) (fun _ h => h.upto ⟨rfl, trivial⟩) (qt_move rfl rfl) ?_
     refine dg_q (i := 2) rfl (by kernel_rfl) (by kernel_rfl) (by kernel_rfl) [] (by kernel_rfl) (fun _ _ _ h => h) rfl rfl (by decide) (fun _ h => h.upto ⟨rfl, trivial⟩) (qt_index rfl rfl rfl tyl_sl_impl_Pt (by omega)) ?_
     refine dg_q (i := 3) rfl (by kernel_rfl) (by kernel_rfl) (by kernel_rfl) [] (by kernel_rfl) (fun _ _ _ h => h) rfl rfl (by decide) (fun _ h => h.upto ⟨rfl, trivial⟩) (qt_loadS rfl rfl tys_impl_Pt rfl (fun w' hs q v hv => by rw [show 0 + k * 2 + j * 2 + q = 0 + (k + j) * 2 + q by omega]; exact hrd (k + j) (by omega) hjl w' (hs.cel (k := 0) rfl) q v hv)) ?_
     refine dg_q (i := 4) rfl (by kernel_rfl) (by kernel_rfl) (by kernel_rfl) [] (by kernel_rfl) (fun _ _ _ h => h) rfl rfl (by decide) (fun _ h => h.upto ⟨rfl, trivial⟩) (qt_move rfl rfl) ?_
     refine dg_q (i := 5) rfl (by kernel_rfl) (by kernel_rfl) (by kernel_rfl) [] (by kernel_rfl) (fun _ _ _ h => h) rfl rfl (by decide) (fun _ h => h.upto ⟨rfl, trivial⟩) (qt_move rfl rfl) ?_
     refine dg_q (i := 6) rfl (by kernel_rfl) (by kernel_rfl) (by kernel_rfl) [] (by kernel_rfl) (fun _ _ _ h => h) rfl rfl (by decide) (fun _ h => h.upto ⟨rfl, trivial⟩) ((qt_sub rfl rfl rfl (by omega) (by omega)).as (congrArg _ (show ((j : Int) - 1) = ((j - 1 : Nat) : Int) by omega))) ?_
     refine dg_q (i := 7) rfl (by kernel_rfl) (by kernel_rfl) (by kernel_rfl) [] (by kernel_rfl) (fun _ _ _ h => h) rfl rfl (by decide) (fun _ h => h.upto ⟨rfl, trivial⟩) (qt_index rfl rfl rfl tyl_sl_impl_Pt (by omega)) ?_
     refine dg_q (i := 8) rfl (by kernel_rfl) (by kernel_rfl) (by kernel_rfl) [] (by kernel_rfl) (fun _ _ _ h => h) rfl rfl (by decide) (fun _ h => h.upto ⟨rfl, trivial⟩) (qt_loadS rfl rfl tys_impl_Pt rfl (fun w' hs q v hv => by rw [show 0 + k * 2 + (j - 1) * 2 + q = 0 + (k + j - 1) * 2 + q by omega]; exact hrd (k + j - 1) (by omega) (by omega) w' (hs.cel (k := 0) rfl) q v hv)) ?_
     refine dg_q (i := 9) rfl (by kernel_rfl) (by kernel_rfl) (by kernel_rfl) [] (by kernel_rfl) (fun _ _ _ h => h) rfl rfl (by decide) (fun _ h => h.upto ⟨rfl, trivial⟩) (qt_neqS_impl_Pt rfl rfl rfl) ?_
     refine dg_done (by kernel_rfl) ?_
     refine norm_then ?_
     refine at_cond rfl (fun c5 => ?_) (fun c5 => ?_)
     ·try simp only [za,zb,zc,zd,ze,zf,Bool.not_true,Bool.not_false,zg,zh,ne_eq,zi,zj] at c5
      refine at_seq ?_
      refine at_region ?_
      refine at_q rfl rfl (by decide) (qt_move rfl rfl) ?_
      refine at_q rfl rfl (by decide) (qt_move rfl rfl) ?_
      refine at_q rfl rfl (by decide) (qt_move rfl rfl) ?_
      refine at_q rfl rfl (by decide) (qt_move rfl rfl) ?_
      refine at_q rfl rfl (by decide) (qt_index rfl rfl rfl tyl_sl_impl_Pt (by omega)) ?_
      refine at_q rfl rfl (by decide) (qt_loadS rfl rfl tys_impl_Pt rfl (fun w' hs q v hv => by rw [show 0 + k * 2 + j * 2 + q = 0 + (k + j) * 2 + q by omega]; exact hrd (k + j) (by omega) hjl w' (hs.cel (k := 0) rfl) q v hv)) ?_
      refine at_q rfl rfl (by decide) (qt_index rfl rfl rfl tyl_sl_impl_Pt (by omega)) ?_
      refine at_op rfl ?_
      refine op_store (k := 0) rfl rfl rfl rfl rfl (by rfl) tyz_impl_Pt.szx rfl rfl (by rw [List.length_append, ptCells_len, hcl]; simp only [List.length_cons, List.length_nil]; omega) ?_
      refine at_end ?_
      refine at_region ?_
      refine at_q rfl rfl (by decide) (qt_move rfl rfl) ?_
      refine at_q rfl rfl (by decide) (qt_add rfl rfl rfl (by omega) (by omega)) ?_
      refine at_q rfl rfl (by decide) (qt_assign rfl rfl) ?_
      refine at_nil ?_
      refine norm_block ?_
      refine norm_then ?_
      refine at_region ?_
      refine at_q rfl rfl (by decide) (qt_move rfl rfl) ?_
      refine at_q rfl rfl (by decide) (qt_add rfl rfl rfl (by omega) (by omega)) ?_
      refine at_q rfl rfl (by decide) (qt_assign rfl rfl) ?_
      refine at_end ?_
      exact at_againc hL2 (j + 1) (⟨by omega, by omega, by rw [← Nat.add_assoc, kc_more (by omega) (by omega) (of_decide_eq_false (ptNe ▸ c5))]; omega⟩) (by omega) ⟨vi (by rw [← Nat.add_assoc, kc_more (by omega) (by omega) (of_decide_eq_false (ptNe ▸ c5))]; omega), vi (by omega), rfl, rfl, rfl, rfl, rfl, rfl, rfl, rfl, rfl, rfl, rfl, rfl, rfl, rfl, rfl, rfl, rfl, rfl, rfl, rfl, trivial⟩ (fun _ h => h.upto ⟨by rw [← Nat.add_assoc, clo_yes (by omega) (by omega) (of_decide_eq_false (ptNe ▸ c5)) (by show kc xs (k + j) < xs.length; omega), splice_left (by rw [ptCells_len, hcl]; exact (show 0 + kc xs (k + j) * 2 + 2 ≤ n * 2 by omega)), Nat.zero_add]; rfl, trivial⟩)
     ·try simp only [za,zb,zc,zd,ze,zf,Bool.not_true,Bool.not_false,zg,zh,ne_eq,zi,zj] at c5
      refine at_skip ?_
      refine norm_block ?_
      refine norm_then ?_
      refine at_region ?_
      refine at_q rfl rfl (by decide) (qt_move rfl rfl) ?_
      refine at_q rfl rfl (by decide) (qt_add rfl rfl rfl (by omega) (by omega)) ?_
      refine at_q rfl rfl (by decide) (qt_assign rfl rfl) ?_
      refine at_end ?_
      exact at_againc hL2 (j + 1) (⟨by omega, by omega, by rw [← Nat.add_assoc, kc_same (by omega) (by omega) (of_decide_eq_true (ptNe ▸ c5))]; omega⟩) (by omega) ⟨vi (by rw [← Nat.add_assoc, kc_same (by omega) (by omega) (of_decide_eq_true (ptNe ▸ c5))]), vi (by omega), rfl, rfl, rfl, rfl, rfl, rfl, rfl, rfl, rfl, rfl, rfl, rfl, rfl, rfl, rfl, rfl, rfl, rfl, rfl, rfl, trivial⟩ (fun _ h => h.upto ⟨by rw [← Nat.add_assoc, clo_no (by omega) (by omega) (of_decide_eq_true (ptNe ▸ c5))], trivial⟩)
    ·try simp only [za,zb,zc,zd,ze,zf,Bool.not_true,Bool.not_false,zg,zh,ne_eq,zi,zj] at c4
     refine at_exit ?_
     refine pass_then (fun h => by cases h) ?_
     refine pass_then (fun h => by cases h) ?_
     refine pass_hit ?_
     refine norm_then ?_
     refine at_seq ?_
     refine at_region ?_
     refine at_q rfl rfl (by decide) (qt_move rfl rfl) ?_
     refine at_q rfl rfl (by decide) (qt_move rfl rfl) ?_
     refine at_q rfl rfl (by decide) ((qt_sliceL rfl rfl rfl tyl_sl_impl_Pt (by omega)).as (slicedL (b := b) (o := 0) (l := kc xs (k + j)) (h := n) (m := c) (s := 2) hc (by omega))) ?_
     refine at_op rfl ?_
     refine op_clear (k := 0) (zs := zerosP (n - kc xs (k + j))) rfl tyl_sl_impl_Pt tyz_impl_Pt rfl rfl (by omega) rfl rfl (zerosP_one _) (by rw [List.length_append, ptCells_len, hcl, zerosP_len, offL, if_neg (by omega)]; omega) ?_
     refine at_rsE (by simp only [ya,yb,yc,yd,Value.cells,ye]; rfl) ?_
     refine at_end ?_
     refine at_seq ?_
     refine at_region ?_
     refine at_q rfl rfl (by decide) (qt_move rfl rfl) ?_
     refine at_q rfl rfl (by decide) (qt_move rfl rfl) ?_
     refine at_q rfl rfl (by decide) ((qt_sliceH rfl rfl rfl tyl_sl_impl_Pt (by omega)).as (slicedH _ _ _ _ _)) ?_
     refine at_q rfl rfl (by decide) (qt_assign rfl rfl) ?_
     refine at_end ?_
     refine at_retc ?_
     refine pass_ret ?_
     refine then_ret ?_
     refine then_ret ?_
     refine pass_ret ?_
     refine then_ret ?_
     refine at_ret1 rfl (.tmp rfl) ?_
     intro w' hs
     have hkj : k + j = n := by omega
     have hK : (compP xs).length = kc xs n := by rw [kc, ← hn, List.take_length]
     have hlc : ((clo xs n).flatMap ptCells ++ rest).length = c * 2 := by rw [← hl, List.length_append, List.length_append, ptCells_len, ptCells_len, clo_len (by omega)]
     have hoK : offL 0 (kc xs n) c 2 = 0 + kc xs n * 2 := by rw [offL, if_neg (by rw [← hkj]; omega)]
     rw [hkj, hoK] at hs
     rw [hkj] at hj
     exact ⟨by rw [hK, hkj], hs.over.wr, _, hs.cel (k := 0) rfl, by rw [splice_len]; exact hlc, take_clear hn hlc (by rw [zerosP_len]; omega)⟩
   ·try simp only [za,zb,zc,zd,ze,zf,Bool.not_true,Bool.not_false,zg,zh,ne_eq,zi,zj] at c3
    have hne : ¬ pt xs (k - 1) = pt xs k := of_decide_eq_false (ptNe ▸ c3)
    refine at_skip ?_
    refine norm_block ?_
    refine norm_then ?_
    refine at_region ?_
    refine at_q rfl rfl (by decide) (qt_move rfl rfl) ?_
    refine at_q rfl rfl (by decide) (qt_add rfl rfl rfl (by omega) (by omega)) ?_
    refine at_q rfl rfl (by decide) (qt_assign rfl rfl) ?_
    refine at_end ?_
    exact at_againk hL1 (k + 1) (⟨by omega, by omega, fun j h1 h2 => (Nat.lt_or_ge j k).elim (fun h3 => hk.2.2 j h1 h3) (fun h3 => (show k = j by omega) ▸ hne)⟩) (by omega) ⟨vi (by omega), rfl, rfl, trivial⟩ (fun _ h => h.upto ⟨rfl, trivial⟩)
  ·try simp only [za,zb,zc,zd,ze,zf,Bool.not_true,Bool.not_false,zg,zh,ne_eq,zi,zj] at c2
   refine at_exit ?_
   refine pass_then (fun h => by cases h) ?_
   refine pass_then (fun h => by cases h) ?_
   refine pass_hit ?_
   refine norm_then ?_
   refine at_seq ?_
   refine at_region ?_
   refine at_q rfl rfl (by decide) (qt_move rfl rfl) ?_
   refine at_q rfl rfl (by decide) (qt_assign rfl rfl) ?_
   refine at_end ?_
   refine at_retc ?_
   refine at_ret1 rfl (.tmp rfl) ?_
   intro w' hs
   have hkn : k = n := by omega
   have hw := compP_whole (xs := xs) fun j h1 h2 => hk.2.2 j h1 (by omega)
   exact ⟨by rw [hw, hn], hs.over.wr, _, hs.cel (k := 0) rfl, hl, by rw [hw]; exact take_whole⟩
/-- A row without neighbours that are the same. -/
theorem Compact_row {N c n : Nat} {A : Option Addr} {xs : List Pn} {w : World} (h : w.ownsRow N 103 2 (.slice A n c) n (xs.flatMap ptCells)) (hn : xs.length = n) (h0 : 0 < n) (hn2 : n ≤ 1048577) :
  Calls Try.prog 103 #[.slice A n c] w fun e w' => e = .returned (.slice A (compP xs).length c) ∧ Wrs (rowR N 103 2 n (xs.flatMap ptCells) (A, c)).F w w' ∧ (rowR N 103 2 (compP xs).length ((compP xs).flatMap ptCells) (A, c)).P w' := by
 rcases h.2 with ⟨_, e⟩ | ⟨g, cap, cur, e, hb, hg, hcap, hmax, hsz, htk⟩
 ·omega
 ·injection e with e1 e2 e3
  subst e1 e3
  have hcur : cur.toList = xs.flatMap ptCells ++ cur.toList.drop (n * 2) := by rw [← htk, List.take_append_drop]
  have hg' : w.heap[g]? = some (.cells (xs.flatMap ptCells ++ cur.toList.drop (n * 2)).toArray 103 (0, 0)) := by rw [← hcur, Array.toArray_toList]; exact hg
  have hle := compP_len xs
  refine (Compact_cel g _ c n xs (cur.toList.drop (n * 2)) w hg' hcap (by rw [← hcur]; simpa using hsz) hn hn2).mono ?_
  rintro e w' ⟨rfl, hw, cs, hh, hcl, htk'⟩
  refine ⟨rfl, ⟨hw.os, hw.tape, hw.output, hw.size, fun q hq hne => hw.block q hq (fun e => hne (by subst e; rfl))⟩, ?_⟩
  exact ⟨ptCells_len _, .inr ⟨g, c, _, rfl, hb, hh, by omega, hmax, by simpa using hcl, by rw [List.toList_toArray]; exact htk'⟩⟩
theorem sort_put {B g c n : Nat} {xs : List Pn} {w : World} (h : (rowR B 103 2 n (xs.flatMap ptCells) (some ⟨g, 0, none⟩, c)).P w) (hl : xs.length = n) (hx : ∀ p ∈ xs, bdW p) (hn : n ≤ 1048576) (h0 : 0 < n) :
  Calls Try.prog 101 #[.slice (some ⟨g, 0, none⟩) n c, .func (.func 102) #[] #[]] w fun e w' => ∃ x : { ys : List Pn // ys.Perm xs ∧ Ris ys }, e = .returned (.tuple #[]) ∧ Wrs (rowR B 103 2 n (xs.flatMap ptCells) (some ⟨g, 0, none⟩, c)).F w w' ∧ (rowR 0 103 2 n (x.1.flatMap ptCells) (some ⟨g, 0, none⟩, c)).P w' ∧ (∀ b, (rowR 0 103 2 n (x.1.flatMap ptCells) (some ⟨g, 0, none⟩, c)).F b → (rowR B 103 2 n (xs.flatMap ptCells) (some ⟨g, 0, none⟩, c)).F b ∨ w.heap.size ≤ b) ∧ (rowR 0 103 2 n (x.1.flatMap ptCells) (some ⟨g, 0, none⟩, c)).B = 0 := by
 refine (sort_row h hl hx hn h0).mono ?_
 rintro e w' ⟨rfl, ys, hp, hr, hw, ho⟩
 exact ⟨⟨ys, hp, hr⟩, rfl, hw.mono fun b hb => by subst hb; rfl, ho, fun b hb => .inl hb, rfl⟩
end Go.Proofs.Ytjhaakollekjeaa
