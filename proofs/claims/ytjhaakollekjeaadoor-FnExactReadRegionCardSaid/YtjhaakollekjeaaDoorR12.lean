import Derived.Test.YtjhaakollekjeaaDoorR11
import Derived.Lib.SliceRun
namespace Go.Proofs.YtjhaakollekjeaaDoor
open Go Go.RowKit
set_option linter.unusedVariables false
set_option linter.unusedSimpArgs false
set_option maxRecDepth 100000
set_option maxHeartbeats 4000000
set_option linter.unusedVariables false

/-- The first k points of a row of cells are marks. -/
def MarkTo (cs : List Value) (o : Nat) (m : Int) (k : Nat) : Prop := ∀ j, j < k → cs[o + j * 2]? = some (.int .i64 (m + 2 * j)) ∧ cs[o + j * 2 + 1]? = some (.int .i64 (m + 2 * j + 1))
theorem MarkTo.step {cs : List Value} {o : Nat} {m : Int} {k : Nat} (h : MarkTo cs o m k) (hl : o + k * 2 + 1 < cs.length) :
  MarkTo (splice (splice cs (o + k * 2 + 0) [.int .i64 (m + 2 * k)]) (o + k * 2 + 1) [.int .i64 (m + 2 * k + 1)]) o m (k + 1) := by
 intro j hj
 simp only [splice, Nat.add_zero]
 by_cases hjk : j = k
 ·subst hjk
  rw [List.getElem?_set_ne (by omega), List.getElem?_set_self (by omega), List.getElem?_set_self (by simpa using hl)]
  exact ⟨rfl, rfl⟩
 ·have := h j (by omega)
  rw [List.getElem?_set_ne (by omega), List.getElem?_set_ne (by omega), List.getElem?_set_ne (by omega), List.getElem?_set_ne (by omega)]
  exact this

theorem markPtS_some (b o T : Nat) (cs : List Value) (n c : Nat) (m : Int) (w : World) (hh : w.heap[b]? = some (.cells cs.toArray T (0, 0))) (hl : ∀ k, k < n → o + k * 2 + 1 < cs.length) (hm : 0 ≤ m) (hb : m + 2 * n ≤ 4611686018427387904) :
  Calls Tryd.prog 53 #[.slice (some ⟨b, o, none⟩) n c, .int .i64 m] w fun e w' => e = .returned (.int .i64 (m + 2 * (n : Int))) ∧ Wr b w w' ∧ ∃ cs' : List Value, w'.heap[b]? = some (.cells cs'.toArray T (0, 0)) ∧ MarkTo cs' o m n := by
 refine walk_from1 (m := 27) (Tryd.func53) rfl rfl (Nat.le_of_ble_eq_true rfl) (hh) ?_
 refine at_seq ?_
 refine at_region ?_
 refine at_q rfl rfl (by decide) (qt_assign rfl rfl) ?_
 refine at_end ?_
 refine at_seq ?_
 refine at_seq ?_
 refine at_region ?_
 refine at_q rfl rfl (by decide) (qt_assign rfl rfl) ?_
 refine at_end ?_
 refine at_block ?_
 refine at_loopc (X := Nat × List Value) (fun x => x.1 ≤ n ∧ x.2.length = cs.length ∧ MarkTo x.2 o m x.1) (fun x => n - x.1) (fun x => [(1, .int .i64 (m + 2 * (x.1 : Int))), (5, .int .i64 (x.1 : Int))]) (C := [(0, _), (4, _)]) ⟨rfl, rfl, trivial⟩ (fun x => [.cel b T x.2]) (0, cs) (⟨Nat.zero_le _, rfl, fun j hj => absurd hj (by omega)⟩) ⟨vi (by simp), rfl, rfl, rfl, trivial⟩ (fun _ h => h) ?_
 intro ⟨k, ds⟩ hx L hL1
 refine at_envE (by simp only [ya,yb]; rfl) ?_
 refine at_rsE (by first | (dsimp only; done) | (dsimp only; rfl) | rfl) ?_
 have hk : k ≤ n := hx.1
 have hlen : ds.length = cs.length := hx.2.1
 have hmk : MarkTo ds o m k := hx.2.2
 refine at_seq ?_
 refine at_seq ?_
 refine at_region ?_
 refine at_q rfl rfl (by decide) (qt_move rfl rfl) ?_
 refine at_q rfl rfl (by decide) (qt_move rfl rfl) ?_
 refine at_q rfl rfl (by decide) (qt_len rfl rfl tyl_sl_impl_Pt) ?_
 refine at_q rfl rfl (by decide) (qt_lss rfl rfl rfl) ?_
 refine at_end ?_
 refine at_cond rfl (fun c1 => ?_) (fun c1 => ?_)
 ·try simp only [za,zb,zc,zd,ze,zf,Bool.not_true,Bool.not_false,zg,zh,ne_eq,zi,zj] at c1
  have hlt : k < n := (by omega)
  have hl2 := hl k hlt
  refine at_skip ?_
  refine norm_then ?_
  refine at_seq ?_
  refine at_block ?_
  refine at_seq ?_
  refine at_region ?_
  refine at_q rfl rfl (by decide) (qt_move rfl rfl) ?_
  refine at_q rfl rfl (by decide) (qt_move rfl rfl) ?_
  refine at_q rfl rfl (by decide) (qt_move rfl rfl) ?_
  refine at_q rfl rfl (by decide) (qt_index rfl rfl rfl tyl_sl_impl_Pt (by omega)) ?_
  refine at_q rfl rfl (by decide) (qt_fieldAddr rfl rfl tyf_impl_Pt_0) ?_
  refine at_op rfl ?_
  refine op_store (k := 0) rfl rfl rfl rfl rfl (by rfl) tyz_int64.szx rfl rfl (by simp; omega) ?_
  refine at_end ?_
  refine at_seq ?_
  refine at_region ?_
  refine at_q rfl rfl (by decide) (qt_move rfl rfl) ?_
  refine at_q rfl rfl (by decide) (qt_add rfl rfl rfl (by omega) (by omega)) ?_
  refine at_q rfl rfl (by decide) (qt_assign rfl rfl) ?_
  refine at_end ?_
  refine at_seq ?_
  refine at_region ?_
  refine at_q rfl rfl (by decide) (qt_move rfl rfl) ?_
  refine at_q rfl rfl (by decide) (qt_move rfl rfl) ?_
  refine at_q rfl rfl (by decide) (qt_move rfl rfl) ?_
  refine at_q rfl rfl (by decide) (qt_index rfl rfl rfl tyl_sl_impl_Pt (by omega)) ?_
  refine at_q rfl rfl (by decide) (qt_fieldAddr rfl rfl tyf_impl_Pt_1) ?_
  refine at_op rfl ?_
  refine op_store (k := 0) rfl rfl rfl rfl rfl (by rfl) tyz_int64.szx rfl rfl (by rw [splice_len]; simp; omega) ?_
  refine at_end ?_
  refine at_region ?_
  refine at_q rfl rfl (by decide) (qt_move rfl rfl) ?_
  refine at_q rfl rfl (by decide) (qt_add rfl rfl rfl (by omega) (by omega)) ?_
  refine at_q rfl rfl (by decide) (qt_assign rfl rfl) ?_
  refine at_nil ?_
  refine norm_block ?_
  refine norm_then ?_
  refine at_region ?_
  refine at_q rfl rfl (by decide) (qt_move rfl rfl) ?_
  refine at_q rfl rfl (by decide) (qt_add rfl rfl rfl (by omega) (by omega)) ?_
  refine at_q rfl rfl (by decide) (qt_assign rfl rfl) ?_
  refine at_end ?_
  exact at_againc hL1 ((k + 1, _)) (⟨show k + 1 ≤ n by omega, (by show (List.set _ _ _).length = _; rw [List.length_set, splice_len]; exact hlen), hmk.step (by omega)⟩) (by simp only; omega) ⟨vi (by omega), vi (by omega), rfl, rfl, trivial⟩ (fun _ h => h.upto ⟨rfl, trivial⟩)
 ·try simp only [za,zb,zc,zd,ze,zf,Bool.not_true,Bool.not_false,zg,zh,ne_eq,zi,zj] at c1
  have hkn : k = n := (by omega)
  refine at_exit ?_
  refine pass_then (fun h => by cases h) ?_
  refine pass_then (fun h => by cases h) ?_
  refine pass_hit ?_
  refine norm_then ?_
  refine at_seq ?_
  refine at_region ?_
  refine at_q rfl rfl (by decide) (qt_move rfl rfl) ?_
  refine at_q rfl rfl (by decide) (qt_assign rfl rfl) ?_
  refine at_end ?_
  refine at_retc ?_
  refine at_ret1 rfl (.tmp rfl) ?_
  intro w' hs
  exact ⟨retI (by rw [hkn]), hs.over.wr, ds, hs.cel (k := 0) rfl, hkn ▸ hmk⟩

theorem markPtS_none (A : Option Addr) (c : Nat) (m : Int) (w : World) : Calls Tryd.prog 53 #[.slice A 0 c, .int .i64 m] w fun e w' => e = .returned (.int .i64 m) ∧ Over w w' := by
 refine walk_from (m := 27) (Tryd.func53) rfl rfl (Nat.le_of_ble_eq_true rfl) ?_
 refine at_seq ?_
 refine at_region ?_
 refine at_q rfl rfl (by decide) (qt_assign rfl rfl) ?_
 refine at_end ?_
 refine at_seq ?_
 refine at_seq ?_
 refine at_region ?_
 refine at_q rfl rfl (by decide) (qt_assign rfl rfl) ?_
 refine at_end ?_
 refine at_block ?_
 refine at_loopk (X := Nat) (fun k => k = 0) (fun k => k) (fun k => [(5, .int .i64 (k : Int))]) (C := [(0, _), (1, _), (4, _)]) ⟨rfl, rfl, rfl, trivial⟩ 0 (rfl) ⟨rfl, rfl, rfl, rfl, trivial⟩ ?_
 intro k hk L hL1
 refine at_envE (by simp only [ya,yb]; rfl) ?_
 refine at_seq ?_
 refine at_seq ?_
 refine at_region ?_
 refine at_q rfl rfl (by decide) (qt_move rfl rfl) ?_
 refine at_q rfl rfl (by decide) (qt_move rfl rfl) ?_
 refine at_q rfl rfl (by decide) (qt_len rfl rfl tyl_sl_impl_Pt) ?_
 refine at_q rfl rfl (by decide) (qt_lss rfl rfl rfl) ?_
 refine at_end ?_
 refine at_cond rfl (fun c1 => ?_) (fun c1 => ?_)
 ·try simp only [za,zb,zc,zd,ze,zf,Bool.not_true,Bool.not_false,zg,zh,ne_eq,zi,zj] at c1
  omega
 ·try simp only [za,zb,zc,zd,ze,zf,Bool.not_true,Bool.not_false,zg,zh,ne_eq,zi,zj] at c1
  refine at_exit ?_
  refine pass_then (fun h => by cases h) ?_
  refine pass_then (fun h => by cases h) ?_
  refine pass_hit ?_
  refine norm_then ?_
  refine at_seq ?_
  refine at_region ?_
  refine at_q rfl rfl (by decide) (qt_move rfl rfl) ?_
  refine at_q rfl rfl (by decide) (qt_assign rfl rfl) ?_
  refine at_end ?_
  refine at_retc ?_
  refine at_ret1 rfl (.tmp rfl) ?_
  intro w' hs
  exact ⟨rfl, hs.fin⟩
/-- Only the blocks from lo on, below hi. -/
def span (lo hi : Nat) (b : Nat) : Prop := lo ≤ b ∧ b < hi
theorem markPtS_any (lo hi : Nat) (A : Option Addr) (n c : Nat) (xs : List (Int × Int)) (m : Int) (w : World) (h : OwnP lo hi w A n xs) (hm : 0 ≤ m) (hb : m + 2 * n ≤ 4611686018427387904) :
  Calls Tryd.prog 53 #[.slice A n c, .int .i64 m] w fun e w' => e = .returned (.int .i64 (m + 2 * (n : Int))) ∧ Wrs (fun b => 0 < n ∧ b = ablk A ∧ span lo hi b) w w' ∧ OwnP lo hi w' A n (marks m n) := by
 by_cases hn : 0 < n
 ·obtain ⟨b, o, T, cs, rfl, h1, h2, hh, hc⟩ := h.2 hn
  have hh' : w.heap[b]? = some (.cells cs.toList.toArray T (0, 0)) := by rw [hh, Array.toArray_toList]
  refine (markPtS_some b o T cs.toList n c m w hh' (fun k hk => ?_) hm hb).mono ?_
  ·have := (hc k hk).2
   have := (Array.getElem?_eq_some_iff.1 this).1
   simpa using this
  ·rintro e w' ⟨rfl, hw, cs', hh2, hmk⟩
   refine ⟨rfl, ⟨hw.os, hw.tape, hw.output, hw.size, fun q hq hne => hw.block q hq (fun e => hne ⟨hn, e, by subst e; exact ⟨h1, h2⟩⟩)⟩, marks_len m n, fun _ => ⟨b, o, T, cs'.toArray, rfl, h1, h2, hh2, fun k hk => ?_⟩⟩
   rw [px_marks hk, py_marks hk]
   simpa using hmk k hk
 ·obtain rfl : n = 0 := by omega
  refine Calls.mono (?_ : Calls Tryd.prog 53 #[.slice A 0 c, .int .i64 m] w fun e w' => e = .returned (.int .i64 m) ∧ Over w w') ?_
  ·exact markPtS_none A c m w
  ·rintro e w' ⟨rfl, hO⟩
   exact ⟨by simp, Wrs.of hO, by simpa [marks] using OwnP.nil A⟩

theorem heldPtS_any (A : Option Addr) (n c : Nat) (m : Int) (w : World) (h : Pts w A n (marks m n)) (hm : 0 ≤ m) (hb : m + 2 * n ≤ 4611686018427387904) :
  Calls Tryd.prog 54 #[.slice A n c, .int .i64 m] w fun e w' => e = .returned (.int .i64 (m + 2 * (n : Int))) ∧ Over w w' := by
 refine walk_from (m := 31) (Tryd.func54) rfl rfl (Nat.le_of_ble_eq_true rfl) ?_
 refine at_seq ?_
 refine at_region ?_
 refine at_q rfl rfl (by decide) (qt_assign rfl rfl) ?_
 refine at_end ?_
 refine at_seq ?_
 refine at_seq ?_
 refine at_region ?_
 refine at_q rfl rfl (by decide) (qt_assign rfl rfl) ?_
 refine at_end ?_
 refine at_block ?_
 refine at_loopk (X := Nat) (fun k => k ≤ n) (fun k => n - k) (fun k => [(1, .int .i64 (m + 2 * (k : Int))), (5, .int .i64 (k : Int))]) (C := [(0, _), (4, _)]) ⟨rfl, rfl, trivial⟩ 0 (Nat.zero_le _) ⟨vi (by simp), rfl, rfl, rfl, trivial⟩ ?_
 intro k hk L hL1
 refine at_envE (by simp only [ya,yb]; rfl) ?_
 refine at_seq ?_
 refine at_seq ?_
 refine at_region ?_
 refine at_q rfl rfl (by decide) (qt_move rfl rfl) ?_
 refine at_q rfl rfl (by decide) (qt_move rfl rfl) ?_
 refine at_q rfl rfl (by decide) (qt_len rfl rfl tyl_sl_impl_Pt) ?_
 refine at_q rfl rfl (by decide) (qt_lss rfl rfl rfl) ?_
 refine at_end ?_
 refine at_cond rfl (fun c1 => ?_) (fun c1 => ?_)
 ·try simp only [za,zb,zc,zd,ze,zf,Bool.not_true,Bool.not_false,zg,zh,ne_eq,zi,zj] at c1
  have hlt : k < n := (by omega)
  obtain ⟨bb, oo, rfl, hbb, hc1, hc2⟩ := h.at_ hlt
  rw [px_marks hlt] at hc1
  rw [py_marks hlt] at hc2
  refine at_skip ?_
  refine norm_then ?_
  refine at_seq ?_
  refine at_block ?_
  refine at_seq ?_
  refine at_seq ?_
  refine at_region ?_
  refine at_q rfl rfl (by decide) (qt_move rfl rfl) ?_
  refine at_q rfl rfl (by decide) (qt_move rfl rfl) ?_
  refine at_q rfl rfl (by decide) (qt_index rfl rfl rfl tyl_sl_impl_Pt (by omega)) ?_
  refine at_q rfl rfl (by decide) (qt_fieldAddr rfl rfl tyf_impl_Pt_0) ?_
  refine at_q rfl rfl (by decide) (qt_load1 rfl rfl ty1_int64 (rdOld0 hc1 hbb)) ?_
  refine at_q rfl rfl (by decide) (qt_move rfl rfl) ?_
  refine at_q rfl rfl (by decide) (qt_neq rfl rfl rfl) ?_
  refine at_end ?_
  refine at_no rfl ((by simp)) ?_
  refine at_skip ?_
  refine norm_then ?_
  refine at_seq ?_
  refine at_region ?_
  refine at_q rfl rfl (by decide) (qt_move rfl rfl) ?_
  refine at_q rfl rfl (by decide) (qt_add rfl rfl rfl (by omega) (by omega)) ?_
  refine at_q rfl rfl (by decide) (qt_assign rfl rfl) ?_
  refine at_end ?_
  refine at_seq ?_
  refine at_seq ?_
  refine at_region ?_
  refine at_q rfl rfl (by decide) (qt_move rfl rfl) ?_
  refine at_q rfl rfl (by decide) (qt_move rfl rfl) ?_
  refine at_q rfl rfl (by decide) (qt_index rfl rfl rfl tyl_sl_impl_Pt (by omega)) ?_
  refine at_q rfl rfl (by decide) (qt_fieldAddr rfl rfl tyf_impl_Pt_1) ?_
  refine at_q rfl rfl (by decide) (qt_load1 rfl rfl ty1_int64 (rdOld hc2 hbb)) ?_
  refine at_q rfl rfl (by decide) (qt_move rfl rfl) ?_
  refine at_q rfl rfl (by decide) (qt_neq rfl rfl rfl) ?_
  refine at_end ?_
  refine at_no rfl ((by simp)) ?_
  refine at_skip ?_
  refine norm_then ?_
  refine at_region ?_
  refine at_q rfl rfl (by decide) (qt_move rfl rfl) ?_
  refine at_q rfl rfl (by decide) (qt_add rfl rfl rfl (by omega) (by omega)) ?_
  refine at_q rfl rfl (by decide) (qt_assign rfl rfl) ?_
  refine at_nil ?_
  refine norm_block ?_
  refine norm_then ?_
  refine at_region ?_
  refine at_q rfl rfl (by decide) (qt_move rfl rfl) ?_
  refine at_q rfl rfl (by decide) (qt_add rfl rfl rfl (by omega) (by omega)) ?_
  refine at_q rfl rfl (by decide) (qt_assign rfl rfl) ?_
  refine at_end ?_
  exact at_againk hL1 (k + 1) (by omega) (by omega) ⟨vi (by omega), vi (by omega), rfl, rfl, trivial⟩ (fun _ h => h.upto trivial)
 ·try simp only [za,zb,zc,zd,ze,zf,Bool.not_true,Bool.not_false,zg,zh,ne_eq,zi,zj] at c1
  refine at_exit ?_
  refine pass_then (fun h => by cases h) ?_
  refine pass_then (fun h => by cases h) ?_
  refine pass_hit ?_
  refine norm_then ?_
  refine at_seq ?_
  refine at_region ?_
  refine at_q rfl rfl (by decide) (qt_move rfl rfl) ?_
  refine at_q rfl rfl (by decide) (qt_assign rfl rfl) ?_
  refine at_end ?_
  refine at_retc ?_
  refine at_ret1 rfl (.tmp rfl) ?_
  intro w' hs
  exact ⟨retI (by rw [show k = n by omega]), hs.fin⟩
/-- The first k rings are marks, the others as they were. -/
def mixR (m : Int) (rs : List Ring_) (k : Nat) : List Ring_ := (List.range rs.length).map fun j => if j < k then rg (marksR m rs) j else rg rs j
theorem mixR_len (m : Int) (rs : List Ring_) (k : Nat) : (mixR m rs k).length = rs.length := by simp [mixR]
theorem rg_mixR {m : Int} {rs : List Ring_} {k j : Nat} (h : j < rs.length) : rg (mixR m rs k) j = if j < k then rg (marksR m rs) j else rg rs j := by simp [rg, mixR, List.getD, h]
theorem rg_mixR_len {m : Int} {rs : List Ring_} {k j : Nat} (h : j < rs.length) : (rg (mixR m rs k) j).length = (rg rs j).length := by
 rw [rg_mixR h]
 split
 ·rw [rg_marksR _ _ _ h, marks_len]
 ·rfl
theorem rg_ext {rs ss : List Ring_} (h : rs.length = ss.length) (hp : ∀ j, j < rs.length → rg rs j = rg ss j) : rs = ss := by
 refine List.ext_getElem h fun j h1 h2 => ?_
 rw [at_r h1, at_r h2, hp j h1]
theorem mixR_zero (m : Int) (rs : List Ring_) : mixR m rs 0 = rs := rg_ext (mixR_len _ _ _) fun j hj => by rw [mixR_len] at hj; rw [rg_mixR hj, if_neg (by omega)]
theorem mixR_all (m : Int) (rs : List Ring_) : mixR m rs rs.length = marksR m rs := rg_ext (by rw [mixR_len, marksR_len]) fun j hj => by rw [mixR_len] at hj; rw [rg_mixR hj, if_pos hj]
theorem OwnGd.mark {lo hi : Nat} {w w' : World} {b o T : Nat} {cs : Array Value} {pl : Nat → Option Addr × Nat} {n k : Nat} {rs : List Ring_} {m : Int} (h : OwnGd lo hi w b o T cs pl n (mixR m rs k)) (hl : rs.length = n) (hk : k < n)
  (hw : Wrs (fun q => 0 < (rg rs k).length ∧ q = ablk (pl k).1 ∧ span lo hi q) w w') (hp : OwnP lo hi w' (pl k).1 (rg rs k).length (marks (m + 2 * (sumTo rs k : Nat)) (rg rs k).length)) : OwnGd lo hi w' b o T cs pl n (mixR m rs (k + 1)) := by
 have hlen : ∀ i j, j < n → (rg (mixR m rs i) j).length = (rg rs j).length := fun i j hj => rg_mixR_len (by omega)
 refine ⟨h.low, h.high, (hw.block b (lt_of_some h.blk) fun hq => ?_).trans h.blk, fun j hj => ?_, fun j hj => ?_, fun j hj => ?_, fun i j hi hj hij => ?_⟩
 ·exact h.off k hk (by rw [hlen _ _ hk]; exact hq.1) hq.2.1.symm
 ·rw [hlen _ _ hj, ← hlen k j hj]; exact h.cell j hj
 ·by_cases hjk : j = k
  ·subst hjk
   have e : rg (mixR m rs (j + 1)) j = marks (m + 2 * (sumTo rs j : Nat)) (rg rs j).length := by rw [rg_mixR (by omega), if_pos (by omega), rg_marksR _ _ _ (by omega)]
   rw [e, marks_len]
   exact hp
  ·have e : rg (mixR m rs (k + 1)) j = rg (mixR m rs k) j := by
    rw [rg_mixR (by omega), rg_mixR (by omega)]
    by_cases hlt : j < k
    ·rw [if_pos (by omega), if_pos hlt]
    ·rw [if_neg (by omega), if_neg hlt]
   rw [e]
   by_cases h0 : 0 < (rg rs j).length
   ·refine (h.pts j hj).agree fun p hp' h1 h2 => ?_
    have hpt := h.pts j hj
    obtain ⟨b', o', T', cs', e', _, _, hh', _⟩ := hpt.2 (by rw [hlen _ _ hj]; exact h0)
    rw [e'] at hp'
    injection hp' with hp'
    subst hp'
    refine hw.block b' (lt_of_some hh') fun hq => ?_
    refine h.apart j k hj hk hjk (by rw [hlen _ _ hj]; exact h0) (by rw [hlen _ _ hk]; exact hq.1) ?_
    rw [e']
    exact hq.2.1
   ·exact ⟨(h.pts j hj).1, fun h1 => by rw [hlen _ _ hj] at h1; exact absurd h1 h0⟩
 ·rw [hlen _ _ hj, ← hlen k j hj]; exact h.off j hj
 ·rw [hlen _ _ hi, hlen _ _ hj, ← hlen k i hi, ← hlen k j hj]; exact h.apart i j hi hj hij

theorem markRingS_none (A : Option Addr) (c : Nat) (m : Int) (w : World) : Calls Tryd.prog 28 #[.slice A 0 c, .int .i64 m] w fun e w' => e = .returned (.int .i64 m) ∧ Over w w' := by
 refine walk_from (m := 20) (Tryd.func28) rfl rfl (Nat.le_of_ble_eq_true rfl) ?_
 refine at_seq ?_
 refine at_region ?_
 refine at_q rfl rfl (by decide) (qt_assign rfl rfl) ?_
 refine at_end ?_
 refine at_seq ?_
 refine at_seq ?_
 refine at_region ?_
 refine at_q rfl rfl (by decide) (qt_assign rfl rfl) ?_
 refine at_end ?_
 refine at_block ?_
 refine at_loopk (X := Nat) (fun k => k = 0) (fun k => k) (fun k => [(5, .int .i64 (k : Int))]) (C := [(0, _), (1, _), (4, _)]) ⟨rfl, rfl, rfl, trivial⟩ 0 (rfl) ⟨rfl, rfl, rfl, rfl, trivial⟩ ?_
 intro k hk L hL1
 refine at_envE (by simp only [ya,yb]; rfl) ?_
 refine at_seq ?_
 refine at_seq ?_
 refine at_region ?_
 refine at_q rfl rfl (by decide) (qt_move rfl rfl) ?_
 refine at_q rfl rfl (by decide) (qt_move rfl rfl) ?_
 refine at_q rfl rfl (by decide) (qt_len rfl rfl tyl_sl_impl_Ring) ?_
 refine at_q rfl rfl (by decide) (qt_lss rfl rfl rfl) ?_
 refine at_end ?_
 refine at_cond rfl (fun c1 => ?_) (fun c1 => ?_)
 ·try simp only [za,zb,zc,zd,ze,zf,Bool.not_true,Bool.not_false,zg,zh,ne_eq,zi,zj] at c1
  omega
 ·try simp only [za,zb,zc,zd,ze,zf,Bool.not_true,Bool.not_false,zg,zh,ne_eq,zi,zj] at c1
  refine at_exit ?_
  refine pass_then (fun h => by cases h) ?_
  refine pass_then (fun h => by cases h) ?_
  refine pass_hit ?_
  refine norm_then ?_
  refine at_seq ?_
  refine at_region ?_
  refine at_q rfl rfl (by decide) (qt_move rfl rfl) ?_
  refine at_q rfl rfl (by decide) (qt_assign rfl rfl) ?_
  refine at_end ?_
  refine at_retc ?_
  refine at_ret1 rfl (.tmp rfl) ?_
  intro w' hs
  exact ⟨rfl, hs.fin⟩
abbrev gdR (lo hi b o T : Nat) (cs : Array Value) (pl : Nat → Option Addr × Nat) (n : Nat) (rs : List Ring_) : Res := .clo lo hi (fun w => OwnGd lo hi w b o T cs pl n rs)
theorem gdP {lo hi b o T : Nat} {cs : Array Value} {pl : Nat → Option Addr × Nat} {n : Nat} {rs : List Ring_} {w : World} (h : OwnGd lo hi w b o T cs pl n rs) (hz : hi ≤ w.heap.size) : (gdR lo hi b o T cs pl n rs).P w := ⟨hz, fun w' _ ha => h.agree ha⟩
theorem gdG {lo hi b o T : Nat} {cs : Array Value} {pl : Nat → Option Addr × Nat} {n : Nat} {rs : List Ring_} {w : World} (h : (gdR lo hi b o T cs pl n rs).P w) : OwnGd lo hi w b o T cs pl n rs := h.2 w h.1 fun _ _ _ => rfl
theorem span_mem {lo hi b : Nat} : b ∈ List.range' lo (hi - lo) ↔ span lo hi b := by
 rw [List.mem_range'_1]
 unfold span
 omega
theorem markRingS_some (lo hi b o T : Nat) (cs : Array Value) (pl : Nat → Option Addr × Nat) (n c : Nat) (rs : List Ring_) (m : Int) (w : World) (h : OwnGd lo hi w b o T cs pl n rs) (hl : rs.length = n) (hz : hi ≤ w.heap.size) (hm : 0 ≤ m) (hb : m + 2 * (sumTo rs n : Nat) ≤ 4611686018427387904) (hn : n ≤ 4611686018427387904) :
  Calls Tryd.prog 28 #[.slice (some ⟨b, o, none⟩) n c, .int .i64 m] w fun e w' => e = .returned (.int .i64 (m + 2 * (sumTo rs n : Nat))) ∧ Wrs (span lo hi) w w' ∧ OwnGd lo hi w' b o T cs pl n (marksR m rs) := by
 refine walk_fromR (m := 20) (List.range' lo (hi - lo)) (gdR lo hi b o T cs pl n rs) (gdP h hz) (fun _ h => span_mem.2 h) rfl (Tryd.func28) rfl rfl (Nat.le_of_ble_eq_true rfl) ?_
 refine at_seq ?_
 refine at_region ?_
 refine at_q rfl rfl (by decide) (qt_assign rfl rfl) ?_
 refine at_end ?_
 refine at_seq ?_
 refine at_seq ?_
 refine at_region ?_
 refine at_q rfl rfl (by decide) (qt_assign rfl rfl) ?_
 refine at_end ?_
 refine at_block ?_
 refine at_loopc (X := Nat) (fun k => k ≤ n) (fun k => n - k) (fun k => [(1, .int .i64 (m + 2 * (sumTo rs k : Nat))), (5, .int .i64 (k : Int))]) (C := [(0, _), (4, _)]) ⟨rfl, rfl, trivial⟩ (fun k => [gdR lo hi b o T cs pl n (mixR m rs k)]) 0 (Nat.zero_le _) ⟨vi (by simp [sumTo]), rfl, rfl, rfl, trivial⟩ (fun _ h => (mixR_zero m rs).symm ▸ h) ?_
 intro k hk L hL1
 refine at_envE (by simp only [ya,yb]; rfl) ?_
 refine at_rsE (by first | (dsimp only; done) | (dsimp only; rfl) | rfl) ?_
 refine at_seq ?_
 refine at_seq ?_
 refine at_region ?_
 refine at_q rfl rfl (by decide) (qt_move rfl rfl) ?_
 refine at_q rfl rfl (by decide) (qt_move rfl rfl) ?_
 refine at_q rfl rfl (by decide) (qt_len rfl rfl tyl_sl_impl_Ring) ?_
 refine at_q rfl rfl (by decide) (qt_lss rfl rfl rfl) ?_
 refine at_end ?_
 refine at_cond rfl (fun c1 => ?_) (fun c1 => ?_)
 ·try simp only [za,zb,zc,zd,ze,zf,Bool.not_true,Bool.not_false,zg,zh,ne_eq,zi,zj] at c1
  have hlt : k < n := (by omega)
  have hmo := sumTo_mono rs (show k + 1 ≤ n by omega)
  have hse : sumTo rs (k + 1) = sumTo rs k + (rg rs k).length := rfl
  refine at_skip ?_
  refine norm_then ?_
  refine at_seq ?_
  refine at_block ?_
  refine at_region ?_
  refine at_q rfl rfl (by decide) (qt_move rfl rfl) ?_
  refine at_q rfl rfl (by decide) (qt_move rfl rfl) ?_
  refine at_q rfl rfl (by decide) (qt_index rfl rfl rfl tyl_sl_impl_Ring (by omega)) ?_
  refine at_q rfl rfl (by decide) (qt_fieldAddr rfl rfl tyf_impl_Ring_0) ?_
  refine at_q rfl rfl (by decide) (qt_load1 rfl rfl ty1_sl_impl_Pt (fun w' hs => (by have hg := gdG (hs.all 0 _ rfl).1; rw [Nat.mul_one, Nat.add_zero, cell_of_row w' b _ _ T (0, 0) hg.blk, hg.cell k hlt, rg_mixR_len (by omega)]))) ?_
  refine at_q rfl rfl (by decide) (qt_move rfl rfl) ?_
  refine at_op rfl ?_
  refine op_callw (k := 0) (r' := gdR lo hi b o T cs pl n (mixR m rs (k + 1))) ok_laws_markPtS rfl rfl rfl (by decide) rfl (fun w' hs => (markPtS_any lo hi _ _ _ _ _ w' (by have := (gdG (hs.all 0 _ rfl).1).pts k hlt; rw [rg_mixR_len (by omega)] at this; exact this) (by omega) (by omega)).mono (by rintro e w2 ⟨rfl, hw, hp⟩; exact ⟨rfl, hw.mono fun _ h => h.2.2, gdP ((gdG (hs.all 0 _ rfl).1).mark hl hlt hw hp) (Nat.le_trans (hs.all 0 _ rfl).1.1 hw.size)⟩)) (fun _ h => h) rfl ?_
  refine at_rsE (by simp only [ya,yb,yc,yd,Value.cells,ye]; rfl) ?_
  refine at_q rfl rfl (by decide) (qt_assign rfl rfl) ?_
  refine at_nil ?_
  refine norm_block ?_
  refine norm_then ?_
  refine at_region ?_
  refine at_q rfl rfl (by decide) (qt_move rfl rfl) ?_
  refine at_q rfl rfl (by decide) (qt_add rfl rfl rfl (by omega) (by omega)) ?_
  refine at_q rfl rfl (by decide) (qt_assign rfl rfl) ?_
  refine at_end ?_
  exact at_againc hL1 (k + 1) (by omega) (by omega) ⟨vi (by omega), vi (by omega), rfl, rfl, trivial⟩ (fun _ h => h.upto ⟨rfl, trivial⟩)
 ·try simp only [za,zb,zc,zd,ze,zf,Bool.not_true,Bool.not_false,zg,zh,ne_eq,zi,zj] at c1
  have hkn : k = n := (by omega)
  refine at_exit ?_
  refine pass_then (fun h => by cases h) ?_
  refine pass_then (fun h => by cases h) ?_
  refine pass_hit ?_
  refine norm_then ?_
  refine at_seq ?_
  refine at_region ?_
  refine at_q rfl rfl (by decide) (qt_move rfl rfl) ?_
  refine at_q rfl rfl (by decide) (qt_assign rfl rfl) ?_
  refine at_end ?_
  refine at_retc ?_
  refine at_ret1 rfl (.tmp rfl) ?_
  intro w' hs
  exact ⟨retI (by rw [hkn]), hs.over.wrs.mono fun _ h => span_mem.1 h, by have := gdG (hs.all 0 _ rfl).1; rw [hkn, ← hl, mixR_all, hl] at this; exact this⟩
theorem markRingS_any (lo hi : Nat) (A : Option Addr) (n c : Nat) (rs : List Ring_) (m : Int) (w : World) (h : OwnG lo hi w A n rs) (hz : hi ≤ w.heap.size) (hm : 0 ≤ m) (hb : m + 2 * (sumTo rs n : Nat) ≤ 4611686018427387904) (hn : n ≤ 4611686018427387904) :
  Calls Tryd.prog 28 #[.slice A n c, .int .i64 m] w fun e w' => e = .returned (.int .i64 (m + 2 * (sumTo rs n : Nat))) ∧ Wrs (span lo hi) w w' ∧ OwnG lo hi w' A n (marksR m rs) := by
 have hl := h.1
 by_cases h0 : 0 < n
 ·obtain ⟨b, o, T, cs, pl, rfl, hd⟩ := h.2.2 h0
  refine (markRingS_some lo hi b o T cs pl n c rs m w hd hl hz hm hb hn).mono ?_
  rintro e w' ⟨rfl, hw, hg⟩
  exact ⟨rfl, hw, by rw [marksR_len, hl], fun k hk => by rw [rg_marksR _ _ _ (by omega), marks_len]; exact h.2.1 k hk, fun _ => ⟨b, o, T, cs, pl, rfl, hg⟩⟩
 ·obtain rfl : n = 0 := by omega
  refine (markRingS_none A c m w).mono ?_
  rintro e w' ⟨rfl, hO⟩
  obtain rfl : rs = [] := List.eq_nil_of_length_eq_zero hl
  exact ⟨by simp [sumTo], Wrs.of hO, OwnG.nil A⟩

/-! ### The laws' own words -/
theorem markRegion_any (lo hi : Nat) (A : Option Addr) (n c : Nat) (rs : List Ring_) (m : Int) (w : World) (h : OwnG lo hi w A n rs) (hz : hi ≤ w.heap.size) (hm : 0 ≤ m) (hb : m + 2 * (sumTo rs n : Nat) ≤ 4611686018427387904) (hn : n ≤ 4611686018427387904) :
  Calls Tryd.prog 8 #[regV A n c, .int .i64 m] w fun e w' => e = .returned (.int .i64 (m + 2 * (sumTo rs n : Nat))) ∧ Wrs (span lo hi) w w' ∧ OwnG lo hi w' A n (marksR m rs) := by
 refine walk_fromR (m := 10) (List.range' lo (hi - lo)) (gegR n rs lo hi A) (gegP h hz) (fun _ h => span_mem.2 h) rfl (Tryd.func8) rfl rfl (Nat.le_of_ble_eq_true rfl) ?_
 refine at_seq ?_
 refine at_region ?_
 refine at_op rfl ?_
 refine op_box rfl rfl (rfl) rfl (by decide) (fun b1 => ?_)
 refine at_rsE (by simp only [ya,yb,yc,yd,Value.cells,ye]; rfl) ?_
 refine at_q rfl rfl (by decide) (qt_assign rfl rfl) ?_
 refine at_end ?_
 refine at_seq ?_
 refine at_region ?_
 refine at_q rfl rfl (by decide) (qt_fieldAddr rfl rfl tyf_impl_Region_0) ?_
 refine at_q rfl rfl (by decide) (qt_load1 rfl rfl ty1_sl_impl_Ring (rd1 (k := 1) rfl rfl)) ?_
 refine at_q rfl rfl (by decide) (qt_move rfl rfl) ?_
 refine at_op rfl ?_
 refine op_callw (k := 0) (r' := gegR n (marksR m rs) lo hi A) ok_laws_markRingS rfl rfl rfl (by decide) rfl (fun w' hs => (markRingS_any lo hi A n c rs m w' (gegG (hs.all 0 _ rfl).1) (hs.all 0 _ rfl).1.1 hm hb hn).mono (by rintro e w2 ⟨rfl, hw, hp⟩; exact ⟨rfl, hw, gegP hp (Nat.le_trans (hs.all 0 _ rfl).1.1 hw.size)⟩)) (fun _ h => h) rfl ?_
 refine at_rsE (by simp only [ya,yb,yc,yd,Value.cells,ye]; rfl) ?_
 refine at_q rfl rfl (by decide) (qt_assign rfl rfl) ?_
 refine at_end ?_
 refine at_seq ?_
 refine at_region ?_
 refine at_q rfl rfl (by decide) (qt_move rfl rfl) ?_
 refine at_q rfl rfl (by decide) (qt_assign rfl rfl) ?_
 refine at_end ?_
 refine at_retc ?_
 refine at_ret1 rfl (.tmp rfl) ?_
 intro w' hs
 exact ⟨rfl, hs.over.wrs.mono fun _ h => span_mem.1 h, gegG (hs.all 0 _ rfl).1⟩
theorem heldRingS_any (A : Option Addr) (n c : Nat) (rs : List Ring_) (m : Int) (w : World) (h : Rings w A n (marksR m rs)) (hm : 0 ≤ m) (hb : m + 2 * (sumTo rs n : Nat) ≤ 4611686018427387904) (hn : n ≤ 4611686018427387904) :
  Calls Tryd.prog 29 #[.slice A n c, .int .i64 m] w fun e w' => e = .returned (.int .i64 (m + 2 * (sumTo rs n : Nat))) ∧ Over w w' := by
 have hl := h.1
 rw [marksR_len] at hl
 refine walk_from (m := 22) (Tryd.func29) rfl rfl (Nat.le_of_ble_eq_true rfl) ?_
 refine at_seq ?_
 refine at_region ?_
 refine at_q rfl rfl (by decide) (qt_assign rfl rfl) ?_
 refine at_end ?_
 refine at_seq ?_
 refine at_seq ?_
 refine at_region ?_
 refine at_q rfl rfl (by decide) (qt_assign rfl rfl) ?_
 refine at_end ?_
 refine at_block ?_
 refine at_loopk (X := Nat) (fun k => k ≤ n) (fun k => n - k) (fun k => [(1, .int .i64 (m + 2 * (sumTo rs k : Nat))), (5, .int .i64 (k : Int))]) (C := [(0, _), (4, _)]) ⟨rfl, rfl, trivial⟩ 0 (Nat.zero_le _) ⟨vi (by simp [sumTo]), rfl, rfl, rfl, trivial⟩ ?_
 intro k hk L hL1
 refine at_envE (by simp only [ya,yb]; rfl) ?_
 refine at_seq ?_
 refine at_seq ?_
 refine at_region ?_
 refine at_q rfl rfl (by decide) (qt_move rfl rfl) ?_
 refine at_q rfl rfl (by decide) (qt_move rfl rfl) ?_
 refine at_q rfl rfl (by decide) (qt_len rfl rfl tyl_sl_impl_Ring) ?_
 refine at_q rfl rfl (by decide) (qt_lss rfl rfl rfl) ?_
 refine at_end ?_
 refine at_cond rfl (fun c1 => ?_) (fun c1 => ?_)
 ·try simp only [za,zb,zc,zd,ze,zf,Bool.not_true,Bool.not_false,zg,zh,ne_eq,zi,zj] at c1
  have hlt : k < n := (by omega)
  have hmo := sumTo_mono rs (show k + 1 ≤ n by omega)
  have hse : sumTo rs (k + 1) = sumTo rs k + (rg rs k).length := rfl
  obtain ⟨bb, oo, Ak, ck, rfl, hbB, hcell, hpts, hmax⟩ := h.at_ hlt
  rw [rg_marksR _ _ _ (by omega), marks_len] at hcell hpts
  refine at_skip ?_
  refine norm_then ?_
  refine at_seq ?_
  refine at_block ?_
  refine at_seq ?_
  refine at_region ?_
  refine at_q rfl rfl (by decide) (qt_move rfl rfl) ?_
  refine at_q rfl rfl (by decide) (qt_move rfl rfl) ?_
  refine at_q rfl rfl (by decide) (qt_index rfl rfl rfl tyl_sl_impl_Ring (by omega)) ?_
  refine at_q rfl rfl (by decide) (qt_fieldAddr rfl rfl tyf_impl_Ring_0) ?_
  refine at_q rfl rfl (by decide) (qt_load1 rfl rfl ty1_sl_impl_Pt (rdOldF hcell hbB)) ?_
  refine at_q rfl rfl (by decide) (qt_move rfl rfl) ?_
  refine at_q rfl rfl (by decide) (qt_call ok_laws_heldPtS rfl rfl (fun w1 hs => heldPtS_any _ _ _ _ w1 (hpts.over hs.fin) (by omega) (by omega))) ?_
  refine at_q rfl rfl (by decide) (qt_assign rfl rfl) ?_
  refine at_end ?_
  refine at_seq ?_
  refine at_region ?_
  refine at_q rfl rfl (by decide) (qt_move rfl rfl) ?_
  refine at_q rfl rfl (by decide) (qt_lss rfl rfl rfl) ?_
  refine at_end ?_
  refine at_no rfl (decide_eq_false (by omega)) ?_
  refine at_skip ?_
  refine norm_block ?_
  refine norm_then ?_
  refine at_region ?_
  refine at_q rfl rfl (by decide) (qt_move rfl rfl) ?_
  refine at_q rfl rfl (by decide) (qt_add rfl rfl rfl (by omega) (by omega)) ?_
  refine at_q rfl rfl (by decide) (qt_assign rfl rfl) ?_
  refine at_end ?_
  exact at_againk hL1 (k + 1) (by omega) (by omega) ⟨vi (by omega), vi (by omega), rfl, rfl, trivial⟩ (fun _ h => h.upto trivial)
 ·try simp only [za,zb,zc,zd,ze,zf,Bool.not_true,Bool.not_false,zg,zh,ne_eq,zi,zj] at c1
  refine at_exit ?_
  refine pass_then (fun h => by cases h) ?_
  refine pass_then (fun h => by cases h) ?_
  refine pass_hit ?_
  refine norm_then ?_
  refine at_seq ?_
  refine at_region ?_
  refine at_q rfl rfl (by decide) (qt_move rfl rfl) ?_
  refine at_q rfl rfl (by decide) (qt_assign rfl rfl) ?_
  refine at_end ?_
  refine at_retc ?_
  refine at_ret1 rfl (.tmp rfl) ?_
  intro w' hs
  exact ⟨retI (by rw [show k = n by omega]), hs.fin⟩
theorem heldRegion_any (A : Option Addr) (n c : Nat) (rs : List Ring_) (m : Int) (w : World) (h : Rings w A n (marksR m rs)) (hm : 0 ≤ m) (hb : m + 2 * (sumTo rs n : Nat) ≤ 4611686018427387904) (hn : n ≤ 4611686018427387904) :
  Calls Tryd.prog 9 #[regV A n c, .int .i64 m] w fun e w' => e = .returned (.int .i64 (m + 2 * (sumTo rs n : Nat))) ∧ Over w w' := by
 refine walk_from (m := 12) (Tryd.func9) rfl rfl (Nat.le_of_ble_eq_true rfl) ?_
 refine at_seq ?_
 refine at_region ?_
 refine at_op rfl ?_
 refine op_box rfl rfl (rfl) rfl (by decide) (fun b1 => ?_)
 refine at_rsE (by simp only [ya,yb,yc,yd,Value.cells,ye]; rfl) ?_
 refine at_q rfl rfl (by decide) (qt_assign rfl rfl) ?_
 refine at_end ?_
 refine at_seq ?_
 refine at_region ?_
 refine at_q rfl rfl (by decide) (qt_fieldAddr rfl rfl tyf_impl_Region_0) ?_
 refine at_q rfl rfl (by decide) (qt_load1 rfl rfl ty1_sl_impl_Ring (rd1 (k := 0) rfl rfl)) ?_
 refine at_q rfl rfl (by decide) (qt_move rfl rfl) ?_
 refine at_q rfl rfl (by decide) (qt_call ok_laws_heldRingS rfl rfl (fun w1 hs => heldRingS_any A n c rs m w1 (h.over hs.fin) hm hb hn)) ?_
 refine at_q rfl rfl (by decide) (qt_assign rfl rfl) ?_
 refine at_end ?_
 refine at_seq ?_
 refine at_seq ?_
 refine at_region ?_
 refine at_q rfl rfl (by decide) (qt_move rfl rfl) ?_
 refine at_q rfl rfl (by decide) (qt_lss rfl rfl rfl) ?_
 refine at_end ?_
 refine at_no rfl (decide_eq_false (by omega)) ?_
 refine at_skip ?_
 refine norm_then ?_
 refine at_seq ?_
 refine at_region ?_
 refine at_q rfl rfl (by decide) (qt_move rfl rfl) ?_
 refine at_q rfl rfl (by decide) (qt_assign rfl rfl) ?_
 refine at_end ?_
 refine at_retc ?_
 refine at_ret1 rfl (.tmp rfl) ?_
 intro w' hs
 exact ⟨rfl, hs.fin⟩
section
variable {P : Program} {n : Nat} {env : List (Nat × Value)} {w0 : Bs} {Rs : List Res} {ops : Array Oper} {Q : Exit → Act → World → Prop} {K : Act → World → Prop} {o : Oper}
end

/-- A ring made: its points, where its slice lies, in which blocks. -/
structure Pc where
 xs : Ring_
 A : Option Addr
 c : Nat
 lo : Nat
 hi : Nat
def Pc.val (e : Pc) : Value := .slice e.A e.xs.length e.c
def Pc.res (e : Pc) : Res := ptsR e.xs.length e.xs e.lo e.hi e.A
abbrev pcsR (l : List Pc) : Res := .many (l.map Pc.res)
theorem pcsR_push (l : List Pc) (e : Pc) : Res.many (l.map Pc.res ++ [e.res]) = pcsR (l ++ [e]) := by simp [pcsR]

theorem ownP_row {w : World} {B T n : Nat} {x : Option Addr × Nat} {xs : List (Int × Int)} (h : w.ownsRow B T 2 (.slice x.1 n x.2) n (xs.flatMap ptCells)) (hn : xs.length = n) : OwnP (ablk x.1) (ablk x.1 + 1) w x.1 n xs := by
 refine ⟨hn, fun h0 => ?_⟩
 rcases h.2 with ⟨_, e⟩ | ⟨g, cap, cur, e, hb, hg, hcap, hmax, hsz, htk⟩
 ·omega
 ·injection e with e1 e2 e3
  rw [e1]
  refine ⟨g, 0, T, cur, rfl, Nat.le_refl _, Nat.lt_succ_self _, hg, fun k hk => ?_⟩
  have hf := fun q hq => ptFlat xs k q (by omega) hq
  have hc : ∀ j, j < n * 2 → cur[j]? = (xs.flatMap ptCells)[j]? := fun j hj => by
   rw [← htk, List.getElem?_take, if_pos hj]
   simp
  rw [Nat.zero_add, hc _ (by omega), hc _ (by omega)]
  have h0 := hf 0 (by omega)
  have h1 := hf 1 (by omega)
  rw [at_p (by omega)] at h0 h1
  exact ⟨by simpa [ptCells] using h0, by simpa [ptCells] using h1⟩
section
variable {n : Nat} {env : List (Nat × Value)} {w0 : Bs} {Rs : List Res} {K : Act → World → Prop}
/-- A row of points, as a ring made. -/
theorem at_pc (k : Nat) {B T m : Nat} {x : Option Addr × Nat} {xs : List (Int × Int)} (hk : Rs[k]? = some (rowR B T 2 m (xs.flatMap ptCells) x)) (hm : xs.length = m) (h : ∀ lo hi, At n env w0 (Rs.set k (Pc.res ⟨xs, x.1, x.2, lo, hi⟩)) K) : At n env w0 Rs K := by
 subst hm
 by_cases h0 : 0 < xs.length
 ·refine fun a w hf hs => h (ablk x.1) (ablk x.1 + 1) a w hf (hs.chg hk (fun hP => ?_) (fun b hb => ?_) rfl)
  ·have hP' : w.ownsRow B T 2 (.slice x.1 xs.length x.2) xs.length (xs.flatMap ptCells) := hP
   refine ptsP (ownP_row hP' rfl) ?_
   rcases hP'.2 with ⟨_, e⟩ | ⟨g, cap, cur, e, hb, hg, _⟩
   ·omega
   ·injection e with e1
    rw [e1]
    exact lt_of_some hg
  ·have hP' : w.ownsRow B T 2 (.slice x.1 xs.length x.2) xs.length (xs.flatMap ptCells) := (hs.all k _ hk).1
   have hb' : ablk x.1 ≤ b ∧ b < ablk x.1 + 1 := hb
   rcases hP'.2 with ⟨_, e⟩ | ⟨g, cap, cur, e, hb2, hg, _⟩
   ·omega
   ·injection e with e1
    show Value.ownBlock (.slice x.1 xs.length x.2) = some b
    rw [e1] at hb' ⊢
    have e3 : g = b := by have h1 : g ≤ b := hb'.1; have h2 : b < g + 1 := hb'.2; omega
    subst e3
    rfl
 ·refine fun a w hf hs => h 0 0 a w hf (hs.chg hk (fun hP => ?_) (fun b hb => by have : 0 ≤ b ∧ b < 0 := hb; omega) rfl)
  refine ptsP ⟨rfl, fun h1 => absurd h1 h0⟩ (Nat.zero_le _)
end
theorem rg_map {l : List Pc} {k : Nat} (h : k < l.length) : rg (l.map (·.xs)) k = (l[k]).xs := by simp [rg, List.getD, h]
/-- The slices of the rings made in one block, the rings beside it: a region of the call's own. -/
theorem pcs_own {w : World} {lo b o T : Nat} {cs : Array Value} {l : List Pc} (hb : w.heap[b]? = some (.cells cs T (0, 0))) (hlo : lo ≤ b) (hc : ∀ k (h : k < l.length), cs[o + k]? = some (l[k]).val) (hP : (pcsR l).P w) (hne : ¬ (pcsR l).F b) (hF : ∀ q, (pcsR l).F q → lo ≤ q)
  (hm : ∀ e ∈ l, (e.xs.length : Int) ≤ 1099511627776) : OwnG lo w.heap.size w (some ⟨b, o, none⟩) l.length (l.map (·.xs)) := by
 have own : ∀ k (h : k < l.length), OwnP (l[k]).lo (l[k]).hi w (l[k]).A (l[k]).xs.length (l[k]).xs := fun k h => ptsG (hP.1 _ (List.mem_map.2 ⟨l[k], List.getElem_mem h, rfl⟩)).1
 have fp : ∀ k (h : k < l.length), 0 < (l[k]).xs.length → (l[k]).res.F (ablk (l[k]).A) := fun k h h0 => by
  obtain ⟨b', o', T', cs', e, h1, h2, _⟩ := (own k h).2 h0
  rw [e]
  exact ⟨h1, h2⟩
 have inF : ∀ k (h : k < l.length) q, (l[k]).res.F q → (pcsR l).F q := fun k h q hq => ⟨_, List.mem_map.2 ⟨l[k], List.getElem_mem h, rfl⟩, hq⟩
 refine ⟨by simp, fun k hk => by rw [rg_map hk]; exact hm _ (List.getElem_mem hk), fun _ => ⟨b, o, T, cs, fun k => if h : k < l.length then ((l[k]).A, (l[k]).c) else (none, 0), rfl, hlo, lt_of_some hb, hb, fun k hk => ?_, fun k hk => ?_, fun k hk h0 => ?_, fun i j hi hj hij h1 h2 => ?_⟩⟩
 ·rw [hc k hk, rg_map hk]
  simp only [hk, dite_true]
  rfl
 ·rw [rg_map hk]
  simp only [hk, dite_true]
  refine ⟨rfl, fun h0 => ?_⟩
  obtain ⟨b', o', T', cs', e, h1, h2, hh, hcc⟩ := (own k hk).2 h0
  exact ⟨b', o', T', cs', e, hF b' (inF k hk b' ⟨h1, h2⟩), lt_of_some hh, hh, hcc⟩
 ·rw [rg_map hk] at h0
  simp only [hk, dite_true]
  exact fun e => hne (e ▸ inF k hk _ (fp k hk h0))
 ·rw [rg_map hi] at h1
  rw [rg_map hj] at h2
  simp only [hi, hj, dite_true]
  intro e
  have hp := List.pairwise_iff_getElem.1 hP.2
  rcases Nat.lt_or_ge i j with hlt | hge
  ·have := hp i j (by simpa using hi) (by simpa using hj) hlt (ablk (l[i]).A)
   simp only [List.getElem_map] at this
   exact this (fp i hi h1) (e ▸ fp j hj h2)
  ·have := hp j i (by simpa using hj) (by simpa using hi) (by omega) (ablk (l[i]).A)
   simp only [List.getElem_map] at this
   exact this (e ▸ fp j hj h2) (fp i hi h1)
theorem gegNew {P : Program} {f : FuncId} {args : Array Value} {w1 : World} {n : Nat} {rs : List Ring_} {V : Option Addr → Nat → Value} (h : Calls P f args w1 fun e w' => ∃ A c, e = .returned (V A c) ∧ OwnG w1.heap.size w'.heap.size w' A n rs ∧ Over w1 w') :
  Calls P f args w1 fun e w' => ∃ x : (Option Addr × Nat) × Nat × Nat, e = .returned (V x.1.1 x.1.2) ∧ Over w1 w' ∧ (gegR n rs x.2.1 x.2.2 x.1.1).P w' ∧ (∀ b, (gegR n rs x.2.1 x.2.2 x.1.1).F b → w1.heap.size ≤ b) ∧ (gegR n rs x.2.1 x.2.2 x.1.1).B = 0 ∧ True := by
 refine h.mono ?_
 rintro e w' ⟨A, c, rfl, ho, hO⟩
 exact ⟨((A, c), w1.heap.size, w'.heap.size), rfl, hO, gegP ho (Nat.le_refl _), fun b hb => hb.1, rfl, trivial⟩
end Go.Proofs.YtjhaakollekjeaaDoor
