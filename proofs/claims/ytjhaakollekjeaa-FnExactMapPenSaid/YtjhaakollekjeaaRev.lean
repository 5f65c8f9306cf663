/- Rings copied and turned around. -/
import Derived.Test.YtjhaakollekjeaaTo
namespace Go.Proofs.Ytjhaakollekjeaa
open Go Go.RowKit
set_option linter.unusedVariables false
set_option linter.unusedSimpArgs false
set_option maxRecDepth 100000
set_option maxHeartbeats 4000000
set_option linter.unusedVariables false

theorem ClonePt_any (A : Option Addr) (n c : Nat) (xs : List (Int × Int)) (w : World) (h : Pts w A n xs) (hn : 0 < n) (hn2 : n ≤ 1048577) :
  Calls Try.prog 100 #[.slice A n c] w fun e w' => ∃ v, e = .returned v ∧ w'.ownsRow w.heap.size 103 2 v n (xs.flatMap ptCells) ∧ Over w w' := by
 obtain ⟨b, o, rfl, _⟩ := h.2 hn
 refine walk_from (m := 8) (Try.func100) rfl rfl (Nat.le_of_ble_eq_true rfl) ?_
 refine at_seq ?_
 refine at_region ?_
 refine at_q rfl rfl (by decide) (qt_assign rfl rfl) ?_
 refine at_end ?_
 refine at_seq ?_
 refine at_seq ?_
 refine at_region ?_
 refine at_q rfl rfl (by decide) (qt_move rfl rfl) ?_
 refine at_q rfl rfl (by decide) (qt_eqlNil tyl_sl_impl_Pt rfl rfl) ?_
 refine at_end ?_
 refine at_no rfl (rfl) ?_
 refine at_skip ?_
 refine norm_then ?_
 refine at_seq ?_
 refine at_region ?_
 refine at_op rfl ?_
 refine op_buildSlice rfl rfl (bsl_sl_impl_Pt_0) rfl (by decide) (fun b1 => ?_)
 refine at_rowN 0 2 rfl rfl ?_
 refine at_rsE (by simp only [ya,yb,yc,yd,Value.cells,ye]; rfl) ?_
 refine at_q rfl rfl (by decide) (qt_move rfl rfl) ?_
 refine at_op rfl ?_
 refine op_appendR (k := 0) rfl tyl_sl_impl_Pt tyz_impl_Pt (by decide) rfl (by decide) rfl rfl rfl (fun w' hs => srcPts (h.over hs.fin) hn) (ptCells_one _) (by unfold maxLen; omega) (by omega) (Nat.le_refl _) (fun r1 => ?_)
 refine at_rsE (by simp only [ya,yb,yc,yd,Value.cells,ye]; rfl) ?_
 refine at_q rfl rfl (by decide) (qt_assign rfl rfl) ?_
 refine at_end ?_
 refine at_retc ?_
 refine at_ret1 rfl (.tmp rfl) ?_
 intro w' hs
 have hr0 : w'.ownsRow w.heap.size 103 2 (.slice r1.1 (0 + n) r1.2) (0 + n) (xs.flatMap ptCells) := (hs.all 0 _ rfl).1
 exact ⟨_, rfl, by rw [Nat.zero_add] at hr0 ⊢; exact hr0, hs.fin⟩

theorem px_rev {xs : List (Int × Int)} {k : Nat} (h : k < xs.length) : px xs.reverse k = px xs (xs.length - 1 - k) ∧ py xs.reverse k = py xs (xs.length - 1 - k) := by
 have e : xs.reverse[k]? = xs[xs.length - 1 - k]? := List.getElem?_reverse h
 simp only [px, py, List.getD_eq_getElem?_getD, e]
 exact ⟨trivial, trivial⟩
/-- The cells of points of which the first i and the last i are exchanged. -/
def RevTo (cs : List Value) (o n i : Nat) (xs : List (Int × Int)) : Prop := ∀ q, q < n → cs[o + q * 2]? = some (.int .i64 (px xs (if q < i ∨ n - 1 - i < q then n - 1 - q else q))) ∧ cs[o + q * 2 + 1]? = some (.int .i64 (py xs (if q < i ∨ n - 1 - i < q then n - 1 - q else q)))
theorem RevTo.step {cs : List Value} {o n i : Nat} {xs : List (Int × Int)} (h : RevTo cs o n i xs) (hi : 2 * i + 1 < n) (hl : ∀ q, q < n → o + q * 2 + 1 < cs.length) :
  RevTo (splice (splice cs (o + i * 2) [.int .i64 (px xs (n - 1 - i)), .int .i64 (py xs (n - 1 - i))]) (o + (n - 1 - i) * 2) [.int .i64 (px xs i), .int .i64 (py xs i)]) o n (i + 1) xs := by
 intro q hq
 have h1 := hl i (by omega)
 have h2 := hl (n - 1 - i) (by omega)
 simp only [splice]
 by_cases e1 : q = i
 ·subst e1
  rw [if_pos (by omega), List.getElem?_set_ne (by omega), List.getElem?_set_ne (by omega), List.getElem?_set_ne (by omega), List.getElem?_set_self (by omega), List.getElem?_set_ne (by omega), List.getElem?_set_ne (by omega), List.getElem?_set_self (by simp; omega)]
  exact ⟨rfl, rfl⟩
 ·by_cases e2 : q = n - 1 - i
  ·subst e2
   rw [if_pos (by omega), List.getElem?_set_ne (by omega), List.getElem?_set_self (by simp; omega), List.getElem?_set_self (by simp; omega), show n - 1 - (n - 1 - i) = i by omega]
   exact ⟨rfl, rfl⟩
  ·have := h q hq
   have hif : (q < i + 1 ∨ n - 1 - (i + 1) < q) ↔ (q < i ∨ n - 1 - i < q) := by omega
   simp only [hif]
   rw [List.getElem?_set_ne (by omega), List.getElem?_set_ne (by omega), List.getElem?_set_ne (by omega), List.getElem?_set_ne (by omega), List.getElem?_set_ne (by omega), List.getElem?_set_ne (by omega), List.getElem?_set_ne (by omega), List.getElem?_set_ne (by omega)]
   exact this
theorem RevTo.at_ {cs : List Value} {o n i q : Nat} {xs : List (Int × Int)} (h : RevTo cs o n i xs) (h1 : i ≤ q) (h2 : q ≤ n - 1 - i) (hq : q < n) : cs[o + q * 2]? = some (.int .i64 (px xs q)) ∧ cs[o + q * 2 + 1]? = some (.int .i64 (py xs q)) := by
 have := h q hq
 rwa [if_neg (by omega)] at this
theorem ReversePt_some (b o T : Nat) (cs : List Value) (n c : Nat) (xs : List (Int × Int)) (w : World) (hh : w.heap[b]? = some (.cells cs.toArray T (0, 0))) (hl : ∀ k, k < n → o + k * 2 + 1 < cs.length) (h0 : RevTo cs o n 0 xs) (hn : n ≤ 4611686018427387904) :
  Calls Try.prog 106 #[.slice (some ⟨b, o, none⟩) n c] w fun e w' => e = .returned (.tuple #[]) ∧ Wr b w w' ∧ ∃ (cs' : List Value) (i : Nat), w'.heap[b]? = some (.cells cs'.toArray T (0, 0)) ∧ RevTo cs' o n i xs ∧ n ≤ 2 * i + 1 := by
 refine walk_from1 (m := 28) (Try.func106) rfl rfl (Nat.le_of_ble_eq_true rfl) (hh) ?_
 refine at_seq ?_
 refine at_region ?_
 refine at_q rfl rfl (by decide) (qt_move rfl rfl) ?_
 refine at_q rfl rfl (by decide) (qt_len rfl rfl tyl_sl_impl_Pt) ?_
 refine at_q rfl rfl (by decide) (qt_sub rfl rfl rfl (by omega) (by omega)) ?_
 refine at_q rfl rfl (by decide) (qt_assign rfl rfl) ?_
 refine at_q rfl rfl (by decide) (qt_assign rfl rfl) ?_
 refine at_end ?_
 refine at_block ?_
 refine at_loopc (X := Nat × List Value) (fun x => 2 * x.1 ≤ n ∧ x.2.length = cs.length ∧ RevTo x.2 o n x.1 xs) (fun x => n - x.1) (fun x => [(2, .int .i64 (x.1 : Int)), (3, .int .i64 ((n : Int) - 1 - (x.1 : Int)))]) (C := [(0, _)]) ⟨rfl, trivial⟩ (fun x => [.cel b T x.2]) (0, cs) (⟨Nat.zero_le _, rfl, h0⟩) ⟨rfl, vi (by omega), rfl, trivial⟩ (fun _ h => h) ?_
 intro ⟨k, ds⟩ hx L hL1
 refine at_envE (by simp only [ya,yb]; rfl) ?_
 refine at_rsE (by first | (dsimp only; done) | (dsimp only; rfl) | rfl) ?_
 have hk : 2 * k ≤ n := hx.1
 have hlen : ds.length = cs.length := hx.2.1
 have hrv : RevTo ds o n k xs := hx.2.2
 refine at_seq ?_
 refine at_seq ?_
 refine at_region ?_
 refine at_q rfl rfl (by decide) (qt_move rfl rfl) ?_
 refine at_q rfl rfl (by decide) (qt_move rfl rfl) ?_
 refine at_q rfl rfl (by decide) (qt_lss rfl rfl rfl) ?_
 refine at_end ?_
 refine at_cond rfl (fun c1 => ?_) (fun c1 => ?_)
 ·try simp only [za,zb,zc,zd,ze,zf,Bool.not_true,Bool.not_false,zg,zh,ne_eq,zi,zj] at c1
  have hlt : 2 * k + 1 < n := (by omega)
  have hl2 := hl k (by omega)
  have hl3 := hl (n - 1 - k) (by omega)
  obtain ⟨r1, r2⟩ := hrv.at_ (q := k) (by omega) (by omega) (by omega)
  obtain ⟨r3, r4⟩ := hrv.at_ (q := n - 1 - k) (by omega) (by omega) (by omega)
  refine at_as 3 (.int .i64 ((n - 1 - k : Nat) : Int)) rfl (congrArg _ (by omega)) ?_
  refine at_skip ?_
  refine norm_then ?_
  refine at_seq ?_
  refine at_block ?_
  refine dg_start mixed rfl ?_
  refine dp_q (i := 2) rfl (by kernel_rfl) (by kernel_rfl) (by kernel_rfl) (fun _ _ _ h => h) rfl rfl (by decide) (qp_move rfl rfl) ?_
  refine dp_q (i := 3) rfl (by kernel_rfl) (by kernel_rfl) (by kernel_rfl) (fun _ _ _ h => h) rfl rfl (by decide) (qp_move rfl rfl) ?_
  refine dg_phase 13 ?_
  refine dg_q (i := 0) rfl (by kernel_rfl) (by kernel_rfl) (by kernel_rfl) [] (by kernel_rfl) (fun _ _ _ h => h) rfl rfl (by decide) (fun _ h => h.upto ⟨rfl, trivial⟩) (qt_move rfl rfl) ?_
  refine dg_q (i := 1) rfl (by kernel_rfl) (by kernel_rfl) (by kernel_rfl) [] (by kernel_rfl) (fun _ _ _ h => h) rfl rfl (by decide) (fun _ h => h.upto ⟨rfl, trivial⟩) (qt_move rfl rfl) ?_
  refine dg_q (i := 4) rfl (by kernel_rfl) (by kernel_rfl) (by kernel_rfl) [] (by kernel_rfl) (fun _ _ _ h => h) rfl rfl (by decide) (fun _ h => h.upto ⟨rfl, trivial⟩) (qt_move rfl rfl) ?_
  refine dg_q (i := 5) rfl (by kernel_rfl) (by kernel_rfl) (by kernel_rfl) [] (by kernel_rfl) (fun _ _ _ h => h) rfl rfl (by decide) (fun _ h => h.upto ⟨rfl, trivial⟩) (qt_move rfl rfl) ?_
  refine dg_q (i := 6) rfl (by kernel_rfl) (by kernel_rfl) (by kernel_rfl) [] (by kernel_rfl) (fun _ _ _ h => h) rfl rfl (by decide) (fun _ h => h.upto ⟨rfl, trivial⟩) (qt_index rfl rfl rfl tyl_sl_impl_Pt (by omega)) ?_
  refine dg_q (i := 7) rfl (by kernel_rfl) (by kernel_rfl) (by kernel_rfl) [] (by kernel_rfl) (fun _ _ _ h => h) rfl rfl (by decide) (fun _ h => h.upto ⟨rfl, trivial⟩) (qt_loadS rfl rfl tys_impl_Pt rfl (rd2 (k := 0) rfl r3 r4)) ?_
  refine dg_q (i := 8) rfl (by kernel_rfl) (by kernel_rfl) (by kernel_rfl) [10, 11] (by kernel_rfl) (fun _ _ _ h => h) rfl rfl (by decide) (fun _ h => h.upto ⟨rfl, trivial⟩) (qt_move rfl rfl) ?_
  refine dg_q (i := 9) rfl (by kernel_rfl) (by kernel_rfl) (by kernel_rfl) [10, 11] (by kernel_rfl) (fun _ _ _ h => h) rfl rfl (by decide) (fun _ h => h.upto ⟨rfl, trivial⟩) (qt_move rfl rfl) ?_
  refine dg_q (i := 10) rfl (by kernel_rfl) (by kernel_rfl) (by kernel_rfl) [11] (by kernel_rfl) (fun _ _ _ h => h) rfl rfl (by decide) (fun _ h => h.upto ⟨rfl, trivial⟩) (qt_index rfl rfl rfl tyl_sl_impl_Pt (by omega)) ?_
  refine dg_q (i := 11) rfl (by kernel_rfl) (by kernel_rfl) (by kernel_rfl) [] (by kernel_rfl) (fun _ _ _ h => h) rfl rfl (by decide) (fun _ h => h.upto ⟨rfl, trivial⟩) (qt_loadS rfl rfl tys_impl_Pt rfl (rd2 (k := 0) rfl r1 r2)) ?_
  refine dg_q (i := 12) rfl (by kernel_rfl) (by kernel_rfl) (by kernel_rfl) [] (by kernel_rfl) (fun _ _ _ h => h) rfl rfl (by decide) (fun _ h => h.upto ⟨rfl, trivial⟩) (qt_index rfl rfl rfl tyl_sl_impl_Pt (by omega)) ?_
  refine dg_bar rfl (by kernel_rfl) rfl ?_
  refine op_store (k := 0) rfl rfl rfl rfl rfl (by rfl) tyz_impl_Pt.szx rfl rfl (by simp; omega) ?_
  refine dg_phase 15 ?_
  refine dg_q (i := 14) rfl (by kernel_rfl) (by kernel_rfl) (by kernel_rfl) [] (by kernel_rfl) (fun _ _ _ h => h) rfl rfl (by decide) (fun _ h => h.upto ⟨rfl, trivial⟩) (qt_index rfl rfl rfl tyl_sl_impl_Pt (by omega)) ?_
  refine dg_bar rfl (by kernel_rfl) rfl ?_
  refine op_store (k := 0) rfl rfl rfl rfl rfl (by rfl) tyz_impl_Pt.szx rfl rfl (by rw [splice_len]; simp; omega) ?_
  refine dg_end (by kernel_rfl) ?_
  refine norm_block ?_
  refine norm_then ?_
  refine at_region ?_
  refine at_q rfl rfl (by decide) (qt_move rfl rfl) ?_
  refine at_q rfl rfl (by decide) (qt_add rfl rfl rfl (by omega) (by omega)) ?_
  refine at_q rfl rfl (by decide) (qt_move rfl rfl) ?_
  refine at_q rfl rfl (by decide) (qt_sub rfl rfl rfl (by omega) (by omega)) ?_
  refine at_q rfl rfl (by decide) (qt_assign rfl rfl) ?_
  refine at_q rfl rfl (by decide) (qt_assign rfl rfl) ?_
  refine at_end ?_
  exact at_againc hL1 ((k + 1, _)) (⟨show 2 * (k + 1) ≤ n by omega, (by show (List.set (List.set _ _ _) _ _).length = _; rw [List.length_set, List.length_set, splice_len]; exact hlen), hrv.step hlt (fun q hq => by rw [hlen]; exact hl q hq)⟩) (by simp only; omega) ⟨vi (by omega), vi (by omega), rfl, trivial⟩ (fun _ h => h.upto ⟨rfl, trivial⟩)
 ·try simp only [za,zb,zc,zd,ze,zf,Bool.not_true,Bool.not_false,zg,zh,ne_eq,zi,zj] at c1
  refine at_exit ?_
  refine pass_then (fun h => by cases h) ?_
  refine pass_then (fun h => by cases h) ?_
  refine pass_hit ?_
  refine at_end0 rfl ?_
  intro w' hs
  exact ⟨rfl, hs.over.wr, ds, k, hs.cel (k := 0) rfl, hrv, by omega⟩

theorem ReversePt_none (A : Option Addr) (c : Nat) (w : World) : Calls Try.prog 106 #[.slice A 0 c] w fun e w' => e = .returned (.tuple #[]) ∧ Over w w' := by
 refine walk_from (m := 28) (Try.func106) rfl rfl (Nat.le_of_ble_eq_true rfl) ?_
 refine at_seq ?_
 refine at_region ?_
 refine at_q rfl rfl (by decide) (qt_move rfl rfl) ?_
 refine at_q rfl rfl (by decide) (qt_len rfl rfl tyl_sl_impl_Pt) ?_
 refine at_q rfl rfl (by decide) (qt_sub rfl rfl rfl (by omega) (by omega)) ?_
 refine at_q rfl rfl (by decide) (qt_assign rfl rfl) ?_
 refine at_q rfl rfl (by decide) (qt_assign rfl rfl) ?_
 refine at_end ?_
 refine at_block ?_
 refine at_loopk (X := Nat) (fun k => k = 0) (fun k => k) (fun k => [(2, .int .i64 (k : Int)), (3, .int .i64 (-1))]) (C := [(0, _)]) ⟨rfl, trivial⟩ 0 (rfl) ⟨rfl, rfl, rfl, trivial⟩ ?_
 intro k hk L hL1
 refine at_envE (by simp only [ya,yb]; rfl) ?_
 refine at_seq ?_
 refine at_seq ?_
 refine at_region ?_
 refine at_q rfl rfl (by decide) (qt_move rfl rfl) ?_
 refine at_q rfl rfl (by decide) (qt_move rfl rfl) ?_
 refine at_q rfl rfl (by decide) (qt_lss rfl rfl rfl) ?_
 refine at_end ?_
 refine at_cond rfl (fun c1 => ?_) (fun c1 => ?_)
 ·try simp only [za,zb,zc,zd,ze,zf,Bool.not_true,Bool.not_false,zg,zh,ne_eq,zi,zj] at c1
  omega
 ·try simp only [za,zb,zc,zd,ze,zf,Bool.not_true,Bool.not_false,zg,zh,ne_eq,zi,zj] at c1
  refine at_exit ?_
  refine pass_then (fun h => by cases h) ?_
  refine pass_then (fun h => by cases h) ?_
  refine pass_hit ?_
  refine at_end0 rfl ?_
  intro w' hs
  exact ⟨rfl, hs.fin⟩
theorem ReversePt_any (lo hi : Nat) (A : Option Addr) (n c : Nat) (xs : List (Int × Int)) (w : World) (h : OwnP lo hi w A n xs) (hn2 : n ≤ 4611686018427387904) :
  Calls Try.prog 106 #[.slice A n c] w fun e w' => e = .returned (.tuple #[]) ∧ Wrs (fun b => 0 < n ∧ b = ablk A ∧ span lo hi b) w w' ∧ OwnP lo hi w' A n xs.reverse := by
 have hl := h.1
 by_cases hn : 0 < n
 ·obtain ⟨b, o, T, cs, rfl, h1, h2, hh, hc⟩ := h.2 hn
  have hh' : w.heap[b]? = some (.cells cs.toList.toArray T (0, 0)) := by rw [hh, Array.toArray_toList]
  refine (ReversePt_some b o T cs.toList n c xs w hh' (fun k hk => ?_) (fun q hq => ?_) hn2).mono ?_
  ·have := (hc k hk).2
   have := (Array.getElem?_eq_some_iff.1 this).1
   simpa using this
  ·have := hc q hq
   rw [if_neg (by omega)]
   simpa using this
  ·rintro e w' ⟨rfl, hw, cs', i, hh2, hrv, hi2⟩
   refine ⟨rfl, ⟨hw.os, hw.tape, hw.output, hw.size, fun q hq hne => hw.block q hq (fun e => hne ⟨hn, e, by subst e; exact ⟨h1, h2⟩⟩)⟩, by simpa using hl, fun _ => ⟨b, o, T, cs'.toArray, rfl, h1, h2, hh2, fun k hk => ?_⟩⟩
   obtain ⟨e1, e2⟩ := px_rev (xs := xs) (k := k) (by omega)
   have := hrv k hk
   rw [e1, e2, hl]
   by_cases hm : k < i ∨ n - 1 - i < k
   ·rw [if_pos hm] at this; simpa using this
   ·rw [if_neg hm] at this
    rw [show n - 1 - k = k by omega]
    simpa using this
 ·obtain rfl : n = 0 := by omega
  obtain rfl : xs = [] := List.eq_nil_of_length_eq_zero hl
  refine (ReversePt_none A c w).mono ?_
  rintro e w' ⟨rfl, hO⟩
  exact ⟨rfl, Wrs.of hO, OwnP.nil A⟩

/-- One ring is written. -/
theorem OwnGd.put {lo hi : Nat} {w w' : World} {b o T : Nat} {cs : Array Value} {pl : Nat → Option Addr × Nat} {n k : Nat} {rs : List Ring_} (ys : Ring_) (h : OwnGd lo hi w b o T cs pl n rs) (hl : rs.length = n) (hk : k < n) (hy : ys.length = (rg rs k).length)
  (hw : Wrs (fun q => 0 < (rg rs k).length ∧ q = ablk (pl k).1 ∧ span lo hi q) w w') (hp : OwnP lo hi w' (pl k).1 (rg rs k).length ys) : OwnGd lo hi w' b o T cs pl n (rs.set k ys) := by
 have hse : ∀ j, j < n → rg (rs.set k ys) j = if j = k then ys else rg rs j := fun j hj => by
  simp only [rg, List.getD_eq_getElem?_getD]
  by_cases e : j = k
  ·subst e; rw [if_pos rfl, List.getElem?_set_self (by omega)]; rfl
  ·rw [if_neg e, List.getElem?_set_ne (fun e' => e e'.symm)]
 have hlen : ∀ j, j < n → (rg (rs.set k ys) j).length = (rg rs j).length := fun j hj => by
  rw [hse j hj]
  by_cases e : j = k
  ·subst e; rw [if_pos rfl, hy]
  ·rw [if_neg e]
 refine ⟨h.low, h.high, (hw.block b (lt_of_some h.blk) fun hq => ?_).trans h.blk, fun j hj => ?_, fun j hj => ?_, fun j hj => ?_, fun i j hi hj hij => ?_⟩
 ·exact h.off k hk hq.1 hq.2.1.symm
 ·rw [hlen _ hj]; exact h.cell j hj
 ·rw [hse j hj]
  by_cases hjk : j = k
  ·subst hjk
   rw [if_pos rfl, hy]
   exact hp
  ·rw [if_neg hjk]
   by_cases h0 : 0 < (rg rs j).length
   ·refine (h.pts j hj).agree fun p hp' h1 h2 => ?_
    obtain ⟨b', o', T', cs', e', _, _, hh', _⟩ := (h.pts j hj).2 h0
    rw [e'] at hp'
    injection hp' with hp'
    subst hp'
    refine hw.block b' (lt_of_some hh') fun hq => ?_
    refine h.apart j k hj hk hjk h0 hq.1 ?_
    rw [e']
    exact hq.2.1
   ·exact ⟨(h.pts j hj).1, fun h1 => absurd h1 h0⟩
 ·rw [hlen _ hj]; exact h.off j hj
 ·rw [hlen _ hi, hlen _ hj]; exact h.apart i j hi hj hij
def revPre (xs : List (Int × Int)) (j : Nat) : List (Int × Int) := xs.reverse.take j
theorem revPre_step {xs : List (Int × Int)} {j : Nat} (h : j < xs.length) : (revPre xs j).flatMap ptCells ++ [.int .i64 (px xs (xs.length - 1 - j)), .int .i64 (py xs (xs.length - 1 - j))] = (revPre xs (j + 1)).flatMap ptCells := by
 unfold revPre
 rw [List.take_succ_eq_append_getElem (by simpa using h), List.flatMap_append]
 congr 1
 rw [at_p (by simpa using h), (px_rev h).1, (px_rev h).2]
 rfl
theorem revPre_all (xs : List (Int × Int)) : revPre xs xs.length = xs.reverse := List.take_of_length_le (by simp)
end Go.Proofs.Ytjhaakollekjeaa
