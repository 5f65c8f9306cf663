/- slices.SortFunc at points: the contract on rows. -/
import Derived.Test.YtcplmmoeglembaaSortLay
namespace Go.Proofs.Ytcplmmoeglembaa
open Go Go.Shelf Go.RowKit Go.Lib Go.Sort
open Go Go.Shelf
set_option linter.unusedVariables false
set_option linter.unusedSimpArgs false

/-- Points far from the words' bounds. -/
structure Pw where
  val : Pn
  ok : bdW val
instance : Inhabited Pw := ⟨⟨(0, 0), ⟨⟨by decide, by decide⟩, by decide, by decide⟩⟩⟩
def encP (x : Pw) : List Value := ptCells x.val
def cmpYX (p q : Pn) : Int := if p.2 = q.2 then sgn (p.1 - q.1) else sgn (p.2 - q.2)
theorem cmpYX_lt (p q : Pn) : cmpYX p q < 0 ↔ ltY p q := by
  have h1 := sgn3 (p.1 - q.1)
  have h2 := sgn3 (p.2 - q.2)
  unfold cmpYX ltY
  split <;> omega
theorem ltOfP (x y : Pw) : ltOf (fun x y : Pw => cmpYX x.val y.val) x y = decide (ltY x.val y.val) := by
  unfold ltOf
  rw [Bool.eq_iff_iff, decide_eq_true_iff, decide_eq_true_iff]
  exact cmpYX_lt _ _
theorem swoP : SWO (ltOf fun x y : Pw => cmpYX x.val y.val) where
  irrefl x := by rw [ltOfP]; exact decide_eq_false (ltY_irrefl _)
  trans x y z h1 h2 := by rw [ltOfP, decide_eq_true_iff] at *; exact ltY_trans h1 h2
  ntrans x y z h1 h2 := by
    rw [ltOfP] at *
    simp only [decide_eq_false_iff_not] at *
    unfold ltY at *
    omega
set_option maxHeartbeats 1000000 in
theorem compareYX_w (p q : Pn) (hp : bdW p) (hq : bdW q) (W : World) : Calls Try.prog 93 #[.agg #[.int .i64 p.1, .int .i64 p.2], .agg #[.int .i64 q.1, .int .i64 q.2]] W fun e w' => e = .returned (.int .i64 (cmpYX p q)) ∧ ∃ q' os', w' = grow (W.drewN q') os' := by
  obtain ⟨⟨p1, p2⟩, p3, p4⟩ := hp
  obtain ⟨⟨q1, q2⟩, q3, q4⟩ := hq
  by_cases h : p.2 = q.2
  · have e : cmpYX p q = sgn (p.1 - q.1) := if_pos h
    have hc := sign64_any (p.1 - q.1)
    rw [e]
    generalize sgn (p.1 - q.1) = r at hc ⊢
    go_enter Try.func93, Try.ntmps93
    go_wp2_with (go_at_call 113; refine (hc _).mono ?_; rintro e w' ⟨rfl, rfl⟩)
    go_ret
    exact ⟨rfl, 0, _, by rw [alloc_eq_grow, alloc_eq_grow, grow_grow]; rfl⟩
  · have e : cmpYX p q = sgn (p.2 - q.2) := if_neg h
    have hc := sign64_any (p.2 - q.2)
    rw [e]
    generalize sgn (p.2 - q.2) = r at hc ⊢
    go_enter Try.func93, Try.ntmps93
    go_wp2_with (go_at_call 113; refine (hc _).mono ?_; rintro e w' ⟨rfl, rfl⟩)
    go_ret
    exact ⟨rfl, 0, _, by rw [alloc_eq_grow, alloc_eq_grow, grow_grow]; rfl⟩
theorem cmpLaysP (blk off size : Nat) (w : World) : CmpLays Try.prog 93 #[] encP 2 (fun x y : Pw => cmpYX x.val y.val) blk off size w :=
  fun _ _ _ _ x y => compareYX_w x.val y.val x.ok y.ok _
/-! ### A row sorted -/
theorem aggP (w : World) : (isAgg (sortPt_ren.t 24)).run Try.prog w = .ok true w := Try.isAgg34 w
theorem sizP (w : World) : (Go.sizeOf (sortPt_ren.t 24)).run Try.prog w = .ok 2 w := Try.sizeOf34 w
def wrapPw (xs : List Pn) (hx : ∀ p ∈ xs, bdW p) : List Pw := xs.attach.map fun p => Pw.mk p.1 (hx p.1 p.2)
theorem wrapPw_len (xs : List Pn) (hx : ∀ p ∈ xs, bdW p) : (wrapPw xs hx).length = xs.length := by simp [wrapPw]
theorem wrapPw_val (xs : List Pn) (hx : ∀ p ∈ xs, bdW p) : (wrapPw xs hx).map (·.val) = xs := by
  rw [wrapPw, List.map_map]
  exact List.attach_map_subtype_val xs
theorem flatP_at (d : Array Pw) (j : Nat) (h : j < d.size * 2) : ((d.toList.map (·.val)).flatMap ptCells)[j]? = some (flatK encP 2 d)[j]! := by
  rw [get_flatK _ _ _ _ h, ptCells_get _ _ (by simpa using h)]
  have hj : j / 2 < d.size := by omega
  rw [getElem!_pos d (j / 2) hj]
  simp only [List.getElem_map, Array.getElem_toList]
  have h2 : j % 2 < (encP d[j / 2]).length := by simp [encP, ptCells]; omega
  rw [getElem!_pos (encP d[j / 2]) (j % 2) h2]
  exact List.getElem?_eq_getElem h2
theorem sort_heap {w : World} {g m T : Nat} {cur : Array Value} {d' : Array Pw} {os : Array Obj} (hg : w.heap[g]? = some (.cells cur T (0, 0))) (b : Nat) (hb : b < w.heap.size) :
    (sortWorldK encP 2 w g 0 m d' os).heap[b]? = if g = b then some (.cells (Sort.putCells id 0 (flatK encP 2 d') cur) T (0, 0)) else w.heap[b]? := by
  show ((w.heap.modify g (Sort.onCells (Sort.putCells id 0 (flatK encP 2 d')))) ++ os)[b]? = _
  rw [Array.getElem?_append_left (by simpa using hb), Array.getElem?_modify]
  split
  · rename_i e
    subst e
    rw [hg]
    rfl
  · rfl
theorem sort_row {B g c n : Nat} {xs : List Pn} {w : World} (h : w.ownsRow B 34 2 (.slice (some ⟨g, 0, none⟩) n c) n (xs.flatMap ptCells)) (hl : xs.length = n) (hx : ∀ p ∈ xs, bdW p) (hn : n ≤ 1048576) (h0 : 0 < n) :
    Calls Try.prog 92 #[.slice (some ⟨g, 0, none⟩) n c, .func (.func 93) #[] #[]] w fun e w' => e = .returned (.tuple #[]) ∧ ∃ ys, ys.Perm xs ∧ Ris ys ∧ Wrs (· = g) w w' ∧ w'.ownsRow 0 34 2 (.slice (some ⟨g, 0, none⟩) n c) n (ys.flatMap ptCells) := by
  rcases h.2 with ⟨_, e⟩ | ⟨g', cap, cur, e, hb, hg, hcap, hmax, hsz, htk⟩
  · omega
  · injection e with e1 e2 e3
    injection e1 with e1
    injection e1 with e1
    subst e1 e3
    have hds : (wrapPw xs hx).toArray.size = n := by simp [wrapPw_len, hl]
    have hval : ((wrapPw xs hx).toArray.toList.map (·.val)) = xs := by rw [List.toList_toArray]; exact wrapPw_val xs hx
    have hH : HoldsK encP 2 w g 0 (wrapPw xs hx).toArray := by
      intro j hj
      rw [size_flatK, hds] at hj
      refine ⟨?_, ?_⟩
      · rw [Nat.zero_add, cell_of_row w g j cur _ (0, 0) hg]
        have := flatP_at (wrapPw xs hx).toArray j (by rw [hds]; exact hj)
        rw [hval, ← htk, List.getElem?_take, if_pos hj] at this
        simpa using this
      · unfold World.frozen?
        simp only [hg]
        simp
    have eg : ∀ args w, (callFunc 93 args).run Try.prog w = .ok (.enter 93 args) w := enters_of Try.func93 (by kernel_rfl) rfl
    have hcon := AnyQ.slices_SortFunc sortPt 2 aggP sizP encP (fun _ => rfl) (fun x v hv => by simp [encP, ptCells] at hv; rcases hv with rfl | rfl <;> rfl) (fun x y : Pw => cmpYX x.val y.val) swoP 93 #[] g 0 c (wrapPw xs hx).toArray w eg (cmpLaysP g 0 _ w) hH (lt_of_some hg) (by omega)
    rw [hds] at hcon
    refine hcon.mono ?_
    rintro e w' ⟨rfl, d', m, os, hp, hs, rfl⟩
    have hd' : d'.size = n := hp.1.trans hds
    refine ⟨rfl, d'.toList.map (·.val), ?_, ?_, ?_, ?_⟩
    · have := hp.2.2.map (·.val)
      rw [← hd', Array.extract_size, hd', ← hds, Array.extract_size, hval] at this
      exact this
    · refine List.pairwise_iff_getElem.2 fun i j hi hj hij => ?_
      simp only [List.length_map, Array.length_toList] at hi hj
      have := hs i j (Nat.zero_le _) hij (by omega)
      rw [ltOfP, decide_eq_false_iff_not, getElem!_pos d' j hj, getElem!_pos d' i hi] at this
      simpa using this
    · refine ⟨rfl, rfl, rfl, by exact size_sortWorldK_c _ _ _ _ _ _ _ _, fun b hb hne => ?_⟩
      rw [sort_heap hg b hb, if_neg (fun e => hne e.symm)]
    · refine ⟨by rw [ptCells_len]; simp [hd'], .inr ⟨g, c, Sort.putCells id 0 (flatK encP 2 d') cur, rfl, Nat.zero_le _, ?_, hcap, hmax, by simp [Sort.putCells, hsz], ?_⟩⟩
      · rw [sort_heap hg g (lt_of_some hg), if_pos rfl]
      · apply List.ext_getElem?
        intro j
        rw [List.getElem?_take]
        by_cases hj : j < n * 2
        · rw [if_pos hj, flatP_at d' j (by rw [hd']; exact hj), Array.getElem?_toList]
          have hjc : j < cur.size := by omega
          simp only [Sort.putCells, Array.getElem?_mapIdx, Array.getElem?_eq_getElem hjc, Option.map_some, size_flatK, hd']
          rw [if_pos ⟨Nat.zero_le _, by omega⟩, Nat.sub_zero]
          rfl
        · rw [if_neg hj, List.getElem?_eq_none (by rw [ptCells_len]; simp [hd']; omega)]
end Go.Proofs.Ytcplmmoeglembaa
