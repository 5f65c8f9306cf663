/- Rings copied and turned around. -/
import Derived.Test.YtbdlbemlgghgbaaTo
namespace Go.Proofs.Ytbdlbemlgghgbaa
open Go Go.RowKit
set_option linter.unusedVariables false
set_option linter.unusedSimpArgs false
set_option maxRecDepth 100000
set_option maxHeartbeats 4000000
set_option linter.unusedVariables false

theorem ClonePt_any (A : Option Addr) (n c : Nat) (xs : List (Int × Int)) (w : World) (h : Pts w A n xs) (hn : 0 < n) (hn2 : n ≤ 1048577) :
    Calls Try.prog 70 #[.slice A n c] w fun e w' => ∃ v, e = .returned v ∧ w'.ownsRow w.heap.size 24 2 v n (xs.flatMap ptCells) ∧ Over w w' := by
  obtain ⟨b, o, rfl, _⟩ := h.2 hn
  refine walk_from (m := 8) (Try.func70) rfl rfl (Nat.le_of_ble_eq_true rfl) ?_
  refine at_seq ?_
  refine at_region ?_
  refine at_q rfl rfl (by decide) (qt_assign rfl rfl) ?_
  refine at_end ?_
  refine at_seq ?_
  refine at_seq ?_
  refine at_region ?_
  refine at_q rfl rfl (by decide) (qt_move rfl rfl) ?_
  refine at_q rfl rfl (by decide) (qt_eqlNil tyl_sl_impl_Pt rfl rfl) ?_
  refine at_end ?_
  refine at_no rfl (rfl) ?_
  refine at_skip ?_
  refine norm_then ?_
  refine at_seq ?_
  refine at_region ?_
  refine at_op rfl ?_
  refine op_buildSlice rfl rfl (bsl_sl_impl_Pt_0) rfl (by decide) (fun b1 => ?_)
  refine at_rowN 0 2 rfl rfl ?_
  refine at_rsE (by simp only [List.nil_append, List.cons_append, List.set_cons_zero, List.set_cons_succ, Value.cells, List.toList_toArray]; rfl) ?_
  refine at_q rfl rfl (by decide) (qt_move rfl rfl) ?_
  refine at_op rfl ?_
  refine op_appendR (k := 0) rfl tyl_sl_impl_Pt tyz_impl_Pt (by decide) rfl (by decide) rfl rfl rfl (fun w' hs => srcPts (h.over hs.fin) hn) (ptCells_one _) (by unfold maxLen; omega) (by omega) (Nat.le_refl _) (fun r1 => ?_)
  refine at_rsE (by simp only [List.nil_append, List.cons_append, List.set_cons_zero, List.set_cons_succ, Value.cells, List.toList_toArray]; rfl) ?_
  refine at_q rfl rfl (by decide) (qt_assign rfl rfl) ?_
  refine at_end ?_
  refine at_retc ?_
  refine at_ret1 rfl (.tmp rfl) ?_
  intro w' hs
  have hr0 : w'.ownsRow w.heap.size 24 2 (.slice r1.1 (0 + n) r1.2) (0 + n) (xs.flatMap ptCells) := (hs.all 0 _ rfl).1
  exact ⟨_, rfl, by rw [Nat.zero_add] at hr0 ⊢; exact hr0, hs.fin⟩

/-- A row of slices, the rings made: a region of the call's own. -/
theorem pcs_row {w w' : World} {Rs : List Res} (hs : St ⟨w, []⟩ Rs w') {kr kp B T n : Nat} {l : List Pc} {x : Option Addr × Nat} {rs : List Ring_} (hr : Rs[kr]? = some (rowR B T 1 n (l.map Pc.val) x)) (hp : Rs[kp]? = some (pcsR l)) (hne : kr ≠ kp) (_e : w = w) (hl : l.length = n) (hrs : l.map (·.xs) = rs)
    (hm : ∀ j, j < rs.length → (rg rs j).length ≤ 1099511627776) : OwnG w.heap.size w'.heap.size w' x.1 n rs := by
  have hrow : w'.ownsRow B T 1 (.slice x.1 n x.2) n (l.map Pc.val) := (hs.all kr _ hr).1
  have hX := hs.all kp _ hp
  rcases hrow.2 with ⟨_, e⟩ | ⟨g, cap, cur, e, hb, hg, hcap, hmax, hsz, htk⟩
  · subst e
    obtain rfl : l = [] := List.eq_nil_of_length_eq_zero hl
    subst hrs
    exact OwnG.nil _
  · injection e with e1 e2 e3
    rw [e1]
    have hF : (rowR B T 1 n (l.map Pc.val) x).F g := by show Value.ownBlock (.slice x.1 n x.2) = some g; rw [e1]; rfl
    have hown := pcs_own (lo := w.heap.size) (o := 0) hg (((hs.all kr _ hr).2.1 g hF).elim id (fun h => by cases h)) (fun j hj => ?_) hX.1 (fun h => hs.apart kr kp _ _ hne hr hp g hF h) (fun q hq => (hX.2.1 q hq).elim id (fun h => by cases h)) (fun e he => ?_)
    · rw [hrs, hl] at hown
      exact hown
    · have hc : cur[j]? = (l.map Pc.val)[j]? := by rw [← htk, List.getElem?_take, if_pos (by omega)]; simp
      rw [Nat.zero_add, hc]
      simp [hj]
    · have : e.xs ∈ rs := hrs ▸ List.mem_map.2 ⟨e, he, rfl⟩
      obtain ⟨j, hj, e2⟩ := List.getElem_of_mem this
      have := hm j hj
      rw [← at_r hj, e2] at this
      omega
theorem px_rev {xs : List (Int × Int)} {k : Nat} (h : k < xs.length) : px xs.reverse k = px xs (xs.length - 1 - k) ∧ py xs.reverse k = py xs (xs.length - 1 - k) := by
  have e : xs.reverse[k]? = xs[xs.length - 1 - k]? := List.getElem?_reverse h
  simp only [px, py, List.getD_eq_getElem?_getD, e]
  exact ⟨trivial, trivial⟩
/-- The cells of points of which the first i and the last i are exchanged. -/
def RevTo (cs : List Value) (o n i : Nat) (xs : List (Int × Int)) : Prop := ∀ q, q < n → cs[o + q * 2]? = some (.int .i64 (px xs (if q < i ∨ n - 1 - i < q then n - 1 - q else q))) ∧ cs[o + q * 2 + 1]? = some (.int .i64 (py xs (if q < i ∨ n - 1 - i < q then n - 1 - q else q)))
theorem RevTo.step {cs : List Value} {o n i : Nat} {xs : List (Int × Int)} (h : RevTo cs o n i xs) (hi : 2 * i + 1 < n) (hl : ∀ q, q < n → o + q * 2 + 1 < cs.length) :
    RevTo (splice (splice cs (o + i * 2) [.int .i64 (px xs (n - 1 - i)), .int .i64 (py xs (n - 1 - i))]) (o + (n - 1 - i) * 2) [.int .i64 (px xs i), .int .i64 (py xs i)]) o n (i + 1) xs := by
  intro q hq
  have h1 := hl i (by omega)
  have h2 := hl (n - 1 - i) (by omega)
  simp only [splice]
  by_cases e1 : q = i
  · subst e1
    rw [if_pos (by omega), List.getElem?_set_ne (by omega), List.getElem?_set_ne (by omega), List.getElem?_set_ne (by omega), List.getElem?_set_self (by omega), List.getElem?_set_ne (by omega), List.getElem?_set_ne (by omega), List.getElem?_set_self (by simp; omega)]
    exact ⟨rfl, rfl⟩
  · by_cases e2 : q = n - 1 - i
    · subst e2
      rw [if_pos (by omega), List.getElem?_set_ne (by omega), List.getElem?_set_self (by simp; omega), List.getElem?_set_self (by simp; omega), show n - 1 - (n - 1 - i) = i by omega]
      exact ⟨rfl, rfl⟩
    · have := h q hq
      have hif : (q < i + 1 ∨ n - 1 - (i + 1) < q) ↔ (q < i ∨ n - 1 - i < q) := by omega
      simp only [hif]
      rw [List.getElem?_set_ne (by omega), List.getElem?_set_ne (by omega), List.getElem?_set_ne (by omega), List.getElem?_set_ne (by omega), List.getElem?_set_ne (by omega), List.getElem?_set_ne (by omega), List.getElem?_set_ne (by omega), List.getElem?_set_ne (by omega)]
      exact this
theorem RevTo.at_ {cs : List Value} {o n i q : Nat} {xs : List (Int × Int)} (h : RevTo cs o n i xs) (h1 : i ≤ q) (h2 : q ≤ n - 1 - i) (hq : q < n) : cs[o + q * 2]? = some (.int .i64 (px xs q)) ∧ cs[o + q * 2 + 1]? = some (.int .i64 (py xs q)) := by
  have := h q hq
  rwa [if_neg (by omega)] at this
theorem rdX1 {w0 : Bs} {Rs : List Res} {b o k : Nat} {v : Value} (h : ∀ w', St w0 Rs w' → w'.cell? ⟨b, o + k, none⟩ = some v) : ∀ w', St w0 Rs w' → ∀ q u, [v][q]? = some u → w'.cell? ⟨b, o + k * 1 + q, none⟩ = some u := fun w' hs q u hq => by
  match q, hq with
  | 0, hq => simp at hq; subst hq; rw [Nat.mul_one, Nat.add_zero]; exact h w' hs
/-- One ring is written. -/
theorem OwnGd.put {lo hi : Nat} {w w' : World} {b o T : Nat} {cs : Array Value} {pl : Nat → Option Addr × Nat} {n k : Nat} {rs : List Ring_} (ys : Ring_) (h : OwnGd lo hi w b o T cs pl n rs) (hl : rs.length = n) (hk : k < n) (hy : ys.length = (rg rs k).length)
    (hw : Wrs (fun q => 0 < (rg rs k).length ∧ q = ablk (pl k).1 ∧ span lo hi q) w w') (hp : OwnP lo hi w' (pl k).1 (rg rs k).length ys) : OwnGd lo hi w' b o T cs pl n (rs.set k ys) := by
  have hse : ∀ j, j < n → rg (rs.set k ys) j = if j = k then ys else rg rs j := fun j hj => by
    simp only [rg, List.getD_eq_getElem?_getD]
    by_cases e : j = k
    · subst e; rw [if_pos rfl, List.getElem?_set_self (by omega)]; rfl
    · rw [if_neg e, List.getElem?_set_ne (fun e' => e e'.symm)]
  have hlen : ∀ j, j < n → (rg (rs.set k ys) j).length = (rg rs j).length := fun j hj => by
    rw [hse j hj]
    by_cases e : j = k
    · subst e; rw [if_pos rfl, hy]
    · rw [if_neg e]
  refine ⟨h.low, h.high, (hw.block b (lt_of_some h.blk) fun hq => ?_).trans h.blk, fun j hj => ?_, fun j hj => ?_, fun j hj => ?_, fun i j hi hj hij => ?_⟩
  · exact h.off k hk hq.1 hq.2.1.symm
  · rw [hlen _ hj]; exact h.cell j hj
  · rw [hse j hj]
    by_cases hjk : j = k
    · subst hjk
      rw [if_pos rfl, hy]
      exact hp
    · rw [if_neg hjk]
      by_cases h0 : 0 < (rg rs j).length
      · refine (h.pts j hj).agree fun p hp' h1 h2 => ?_
        obtain ⟨b', o', T', cs', e', _, _, hh', _⟩ := (h.pts j hj).2 h0
        rw [e'] at hp'
        injection hp' with hp'
        subst hp'
        refine hw.block b' (lt_of_some hh') fun hq => ?_
        refine h.apart j k hj hk hjk h0 hq.1 ?_
        rw [e']
        exact hq.2.1
      · exact ⟨(h.pts j hj).1, fun h1 => absurd h1 h0⟩
  · rw [hlen _ hj]; exact h.off j hj
  · rw [hlen _ hi, hlen _ hj]; exact h.apart i j hi hj hij
/-- A region of the call's own, with the place of its slices. -/
theorem at_gd {n : Nat} {env : List (Nat × Value)} {w0 : Bs} {Rs : List Res} {K : Act → World → Prop} (k : Nat) {lo hi m : Nat} {A : Option Addr} {rs : List Ring_} (hk : Rs[k]? = some (gegR m rs lo hi A)) (hm : 0 < m)
    (h : ∀ b o T cs pl, A = some ⟨b, o, none⟩ → At n env w0 (Rs.set k (gdR lo hi b o T cs pl m rs)) K) : At n env w0 Rs K := fun a w hf hs => by
  obtain ⟨b, o, T, cs, pl, hA, hd⟩ := (gegG (hs.all k _ hk).1).2.2 hm
  exact h b o T cs pl hA a w hf (hs.chg hk (fun hP => gdP hd hP.1) (fun b hb => hb) rfl)
theorem gdOwn {lo hi b o T : Nat} {cs : Array Value} {pl : Nat → Option Addr × Nat} {n : Nat} {rs : List Ring_} {w : World} (h : OwnGd lo hi w b o T cs pl n rs) (hl : rs.length = n) (hm : ∀ k, k < n → ((rg rs k).length : Int) ≤ 1099511627776) : OwnG lo hi w (some ⟨b, o, none⟩) n rs := ⟨hl, hm, fun _ => ⟨b, o, T, cs, pl, rfl, h⟩⟩

theorem at_gdBack {n : Nat} {env : List (Nat × Value)} {w0 : Bs} {Rs : List Res} {K : Act → World → Prop} (k : Nat) {lo hi m b o T : Nat} {cs : Array Value} {pl : Nat → Option Addr × Nat} {rs : List Ring_} (hk : Rs[k]? = some (gdR lo hi b o T cs pl m rs)) (hl : rs.length = m) (hm : ∀ k, k < m → ((rg rs k).length : Int) ≤ 1099511627776)
    (h : At n env w0 (Rs.set k (gegR m rs lo hi (some ⟨b, o, none⟩))) K) : At n env w0 Rs K := fun a w hf hs =>
  h a w hf (hs.chg hk (fun hP => gegP (gdOwn (gdG hP) hl hm) hP.1) (fun b hb => hb) rfl)
/-- The first k rings are turned around. -/
def revTo (rs : List Ring_) : Nat → List Ring_
  | 0 => rs
  | k + 1 => (revTo rs k).set k (rg rs k).reverse
theorem revTo_len (rs : List Ring_) : ∀ k, (revTo rs k).length = rs.length
  | 0 => rfl
  | k + 1 => by rw [revTo, List.length_set, revTo_len rs k]
theorem rg_set {rs : List Ring_} {k j : Nat} {ys : Ring_} (hk : k < rs.length) : rg (rs.set k ys) j = if j = k then ys else rg rs j := by
  simp only [rg, List.getD_eq_getElem?_getD]
  by_cases e : j = k
  · subst e; rw [if_pos rfl, List.getElem?_set_self hk]; rfl
  · rw [if_neg e, List.getElem?_set_ne (fun e' => e e'.symm)]
theorem rg_revTo (rs : List Ring_) : ∀ k, k ≤ rs.length → ∀ j, rg (revTo rs k) j = if j < k then (rg rs j).reverse else rg rs j
  | 0, _, j => by simp [revTo]
  | k + 1, hk, j => by
    rw [revTo, rg_set (by rw [revTo_len]; omega), rg_revTo rs k (by omega) j]
    by_cases e : j = k
    · subst e; rw [if_pos rfl, if_pos (by omega)]
    · rw [if_neg e]
      by_cases h : j < k
      · rw [if_pos h, if_pos (by omega)]
      · rw [if_neg h, if_neg (by omega)]
theorem rev_lens {rs : List Ring_} (h : regionB rs = true) (k : Nat) (hk : k ≤ rs.length) (j : Nat) (hj : j < rs.length) : ((rg (revTo rs k) j).length : Int) ≤ 1099511627776 := by
  have := pos_of_ring (regRing h hj)
  rw [rg_revTo rs k hk]
  split
  · rw [List.length_reverse]; omega
  · omega
theorem revTo_all (rs : List Ring_) : revTo rs rs.length = rs.map List.reverse := rg_ext (by rw [revTo_len]; simp) fun j hj => by
  rw [revTo_len] at hj
  rw [rg_revTo rs _ (Nat.le_refl _), if_pos hj]
  simp [rg, List.getD, hj]
def rvR (rs : List Ring_) : List Ring_ := if regionB rs = true then rs.map List.reverse else []
def rvC (rs : List Ring_) : Int := if regionB rs = true then 0 else 1
def revPre (xs : List (Int × Int)) (j : Nat) : List (Int × Int) := xs.reverse.take j
theorem revPre_step {xs : List (Int × Int)} {j : Nat} (h : j < xs.length) : (revPre xs j).flatMap ptCells ++ [.int .i64 (px xs (xs.length - 1 - j)), .int .i64 (py xs (xs.length - 1 - j))] = (revPre xs (j + 1)).flatMap ptCells := by
  unfold revPre
  rw [List.take_succ_eq_append_getElem (by simpa using h), List.flatMap_append]
  congr 1
  rw [at_p (by simpa using h), (px_rev h).1, (px_rev h).2]
  rfl
theorem revPre_all (xs : List (Int × Int)) : revPre xs xs.length = xs.reverse := List.take_of_length_le (by simp)
theorem revPre_len {xs : List (Int × Int)} {j : Nat} (h : j ≤ xs.length) : (revPre xs j).length = j := by simp [revPre]; omega
theorem rg_mapRev {rs : List Ring_} {k : Nat} (h : k < rs.length) : rg (rs.map List.reverse) k = (rg rs k).reverse := by simp [rg, List.getD, h]

end Go.Proofs.Ytbdlbemlgghgbaa
