/- Marks in points, rings and regions; rings made one by one; the laws' copies of regions. -/
import Derived.Test.YtjhaakollekjeaaOwn
import Derived.Test.YtjhaakollekjeaaRegBounds
import Derived.Lib.SliceRun
namespace Go.Proofs.Ytjhaakollekjeaa
open Go Go.RowKit
set_option linter.unusedVariables false
set_option linter.unusedSimpArgs false
set_option maxRecDepth 100000
set_option maxHeartbeats 4000000
set_option linter.unusedVariables false

/-- The first k points of a row of cells are marks. -/
def MarkTo (cs : List Value) (o : Nat) (m : Int) (k : Nat) : Prop := ∀ j, j < k → cs[o + j * 2]? = some (.int .i64 (m + 2 * j)) ∧ cs[o + j * 2 + 1]? = some (.int .i64 (m + 2 * j + 1))
theorem MarkTo.step {cs : List Value} {o : Nat} {m : Int} {k : Nat} (h : MarkTo cs o m k) (hl : o + k * 2 + 1 < cs.length) :
  MarkTo (splice (splice cs (o + k * 2 + 0) [.int .i64 (m + 2 * k)]) (o + k * 2 + 1) [.int .i64 (m + 2 * k + 1)]) o m (k + 1) := by
 intro j hj
 simp only [splice, Nat.add_zero]
 by_cases hjk : j = k
 ·subst hjk
  rw [List.getElem?_set_ne (by omega), List.getElem?_set_self (by omega), List.getElem?_set_self (by simpa using hl)]
  exact ⟨rfl, rfl⟩
 ·have := h j (by omega)
  rw [List.getElem?_set_ne (by omega), List.getElem?_set_ne (by omega), List.getElem?_set_ne (by omega), List.getElem?_set_ne (by omega)]
  exact this

theorem markPtS_some (b o T : Nat) (cs : List Value) (n c : Nat) (m : Int) (w : World) (hh : w.heap[b]? = some (.cells cs.toArray T (0, 0))) (hl : ∀ k, k < n → o + k * 2 + 1 < cs.length) (hm : 0 ≤ m) (hb : m + 2 * n ≤ 4611686018427387904) :
  Calls Try.prog 25 #[.slice (some ⟨b, o, none⟩) n c, .int .i64 m] w fun e w' => e = .returned (.int .i64 (m + 2 * (n : Int))) ∧ Wr b w w' ∧ ∃ cs' : List Value, w'.heap[b]? = some (.cells cs'.toArray T (0, 0)) ∧ MarkTo cs' o m n := by
 refine walk_from1 (m := 27) (Try.func25) rfl rfl (Nat.le_of_ble_eq_true rfl) (hh) ?_
 refine at_seq ?_
 refine at_region ?_
 refine at_q rfl rfl (by decide) (qt_assign rfl rfl) ?_
 refine at_end ?_
 refine at_seq ?_
 refine at_seq ?_
 refine at_region ?_
 refine at_q rfl rfl (by decide) (qt_assign rfl rfl) ?_
 refine at_end ?_
 refine at_block ?_
 refine at_loopc (X := Nat × List Value) (fun x => x.1 ≤ n ∧ x.2.length = cs.length ∧ MarkTo x.2 o m x.1) (fun x => n - x.1) (fun x => [(1, .int .i64 (m + 2 * (x.1 : Int))), (5, .int .i64 (x.1 : Int))]) (C := [(0, _), (4, _)]) ⟨rfl, rfl, trivial⟩ (fun x => [.cel b T x.2]) (0, cs) (⟨Nat.zero_le _, rfl, fun j hj => absurd hj (by omega)⟩) ⟨vi (by simp), rfl, rfl, rfl, trivial⟩ (fun _ h => h) ?_
 intro ⟨k, ds⟩ hx L hL1
 refine at_envE (by simp only [ya,yb]; rfl) ?_
 refine at_rsE (by first | (dsimp only; done) | (dsimp only; rfl) | rfl) ?_
 have hk : k ≤ n := hx.1
 have hlen : ds.length = cs.length := hx.2.1
 have hmk : MarkTo ds o m k := hx.2.2
 refine at_seq ?_
 refine at_seq ?_
 refine at_region ?_
 refine at_q rfl rfl (by decide) (qt_move rfl rfl) ?_
 refine at_q rfl rfl (by decide) (qt_move rfl rfl) ?_
 refine at_q rfl rfl (by decide) (qt_len rfl rfl tyl_sl_impl_Pt) ?_
 refine at_q rfl rfl (by decide) (qt_lss rfl rfl rfl) ?_
 refine at_end ?_
 refine at_cond rfl (fun c1 => ?_) (fun c1 => ?_)
 ·try simp only [za,zb,zc,zd,ze,zf,Bool.not_true,Bool.not_false,zg,zh,ne_eq,zi,zj] at c1
  have hlt : k < n := (by omega)
  have hl2 := hl k hlt
  refine at_skip ?_
  refine norm_then ?_
  refine at_seq ?_
  refine at_block ?_
  refine at_seq ?_
  refine at_region ?_
  refine at_q rfl rfl (by decide) (qt_move rfl rfl) ?_
  refine at_q rfl rfl (by decide) (qt_move rfl rfl) ?_
  refine at_q rfl rfl (by decide) (qt_move rfl rfl) ?_
  refine at_q rfl rfl (by decide) (qt_index rfl rfl rfl tyl_sl_impl_Pt (by omega)) ?_
  refine at_q rfl rfl (by decide) (qt_fieldAddr rfl rfl tyf_impl_Pt_0) ?_
  refine at_op rfl ?_
  refine op_store (k := 0) rfl rfl rfl rfl rfl (by rfl) tyz_int64.szx rfl rfl (by simp; omega) ?_
  refine at_end ?_
  refine at_seq ?_
  refine at_region ?_
  refine at_q rfl rfl (by decide) (qt_move rfl rfl) ?_
  refine at_q rfl rfl (by decide) (qt_add rfl rfl rfl (by omega) (by omega)) ?_
  refine at_q rfl rfl (by decide) (qt_assign rfl rfl) ?_
  refine at_end ?_
  refine at_seq ?_
  refine at_region ?_
  refine at_q rfl rfl (by decide) (qt_move rfl rfl) ?_
  refine at_q rfl rfl (by decide) (qt_move rfl rfl) ?_
  refine at_q rfl rfl (by decide) (qt_move rfl rfl) ?_
  refine at_q rfl rfl (by decide) (qt_index rfl rfl rfl tyl_sl_impl_Pt (by omega)) ?_
  refine at_q rfl rfl (by decide) (qt_fieldAddr rfl rfl tyf_impl_Pt_1) ?_
  refine at_op rfl ?_
  refine op_store (k := 0) rfl rfl rfl rfl rfl (by rfl) tyz_int64.szx rfl rfl (by rw [splice_len]; simp; omega) ?_
  refine at_end ?_
  refine at_region ?_
  refine at_q rfl rfl (by decide) (qt_move rfl rfl) ?_
  refine at_q rfl rfl (by decide) (qt_add rfl rfl rfl (by omega) (by omega)) ?_
  refine at_q rfl rfl (by decide) (qt_assign rfl rfl) ?_
  refine at_nil ?_
  refine norm_block ?_
  refine norm_then ?_
  refine at_region ?_
  refine at_q rfl rfl (by decide) (qt_move rfl rfl) ?_
  refine at_q rfl rfl (by decide) (qt_add rfl rfl rfl (by omega) (by omega)) ?_
  refine at_q rfl rfl (by decide) (qt_assign rfl rfl) ?_
  refine at_end ?_
  exact at_againc hL1 ((k + 1, _)) (⟨show k + 1 ≤ n by omega, (by show (List.set _ _ _).length = _; rw [List.length_set, splice_len]; exact hlen), hmk.step (by omega)⟩) (by simp only; omega) ⟨vi (by omega), vi (by omega), rfl, rfl, trivial⟩ (fun _ h => h.upto ⟨rfl, trivial⟩)
 ·try simp only [za,zb,zc,zd,ze,zf,Bool.not_true,Bool.not_false,zg,zh,ne_eq,zi,zj] at c1
  have hkn : k = n := (by omega)
  refine at_exit ?_
  refine pass_then (fun h => by cases h) ?_
  refine pass_then (fun h => by cases h) ?_
  refine pass_hit ?_
  refine norm_then ?_
  refine at_seq ?_
  refine at_region ?_
  refine at_q rfl rfl (by decide) (qt_move rfl rfl) ?_
  refine at_q rfl rfl (by decide) (qt_assign rfl rfl) ?_
  refine at_end ?_
  refine at_retc ?_
  refine at_ret1 rfl (.tmp rfl) ?_
  intro w' hs
  exact ⟨retI (by rw [hkn]), hs.over.wr, ds, hs.cel (k := 0) rfl, hkn ▸ hmk⟩

theorem markPtS_none (A : Option Addr) (c : Nat) (m : Int) (w : World) : Calls Try.prog 25 #[.slice A 0 c, .int .i64 m] w fun e w' => e = .returned (.int .i64 m) ∧ Over w w' := by
 refine walk_from (m := 27) (Try.func25) rfl rfl (Nat.le_of_ble_eq_true rfl) ?_
 refine at_seq ?_
 refine at_region ?_
 refine at_q rfl rfl (by decide) (qt_assign rfl rfl) ?_
 refine at_end ?_
 refine at_seq ?_
 refine at_seq ?_
 refine at_region ?_
 refine at_q rfl rfl (by decide) (qt_assign rfl rfl) ?_
 refine at_end ?_
 refine at_block ?_
 refine at_loopk (X := Nat) (fun k => k = 0) (fun k => k) (fun k => [(5, .int .i64 (k : Int))]) (C := [(0, _), (1, _), (4, _)]) ⟨rfl, rfl, rfl, trivial⟩ 0 (rfl) ⟨rfl, rfl, rfl, rfl, trivial⟩ ?_
 intro k hk L hL1
 refine at_envE (by simp only [ya,yb]; rfl) ?_
 refine at_seq ?_
 refine at_seq ?_
 refine at_region ?_
 refine at_q rfl rfl (by decide) (qt_move rfl rfl) ?_
 refine at_q rfl rfl (by decide) (qt_move rfl rfl) ?_
 refine at_q rfl rfl (by decide) (qt_len rfl rfl tyl_sl_impl_Pt) ?_
 refine at_q rfl rfl (by decide) (qt_lss rfl rfl rfl) ?_
 refine at_end ?_
 refine at_cond rfl (fun c1 => ?_) (fun c1 => ?_)
 ·try simp only [za,zb,zc,zd,ze,zf,Bool.not_true,Bool.not_false,zg,zh,ne_eq,zi,zj] at c1
  omega
 ·try simp only [za,zb,zc,zd,ze,zf,Bool.not_true,Bool.not_false,zg,zh,ne_eq,zi,zj] at c1
  refine at_exit ?_
  refine pass_then (fun h => by cases h) ?_
  refine pass_then (fun h => by cases h) ?_
  refine pass_hit ?_
  refine norm_then ?_
  refine at_seq ?_
  refine at_region ?_
  refine at_q rfl rfl (by decide) (qt_move rfl rfl) ?_
  refine at_q rfl rfl (by decide) (qt_assign rfl rfl) ?_
  refine at_end ?_
  refine at_retc ?_
  refine at_ret1 rfl (.tmp rfl) ?_
  intro w' hs
  exact ⟨rfl, hs.fin⟩
/-- Only the blocks from lo on, below hi. -/
def span (lo hi : Nat) (b : Nat) : Prop := lo ≤ b ∧ b < hi
theorem markPtS_any (lo hi : Nat) (A : Option Addr) (n c : Nat) (xs : List (Int × Int)) (m : Int) (w : World) (h : OwnP lo hi w A n xs) (hm : 0 ≤ m) (hb : m + 2 * n ≤ 4611686018427387904) :
  Calls Try.prog 25 #[.slice A n c, .int .i64 m] w fun e w' => e = .returned (.int .i64 (m + 2 * (n : Int))) ∧ Wrs (fun b => 0 < n ∧ b = ablk A ∧ span lo hi b) w w' ∧ OwnP lo hi w' A n (marks m n) := by
 by_cases hn : 0 < n
 ·obtain ⟨b, o, T, cs, rfl, h1, h2, hh, hc⟩ := h.2 hn
  have hh' : w.heap[b]? = some (.cells cs.toList.toArray T (0, 0)) := by rw [hh, Array.toArray_toList]
  refine (markPtS_some b o T cs.toList n c m w hh' (fun k hk => ?_) hm hb).mono ?_
  ·have := (hc k hk).2
   have := (Array.getElem?_eq_some_iff.1 this).1
   simpa using this
  ·rintro e w' ⟨rfl, hw, cs', hh2, hmk⟩
   refine ⟨rfl, ⟨hw.os, hw.tape, hw.output, hw.size, fun q hq hne => hw.block q hq (fun e => hne ⟨hn, e, by subst e; exact ⟨h1, h2⟩⟩)⟩, marks_len m n, fun _ => ⟨b, o, T, cs'.toArray, rfl, h1, h2, hh2, fun k hk => ?_⟩⟩
   rw [px_marks hk, py_marks hk]
   simpa using hmk k hk
 ·obtain rfl : n = 0 := by omega
  refine Calls.mono (?_ : Calls Try.prog 25 #[.slice A 0 c, .int .i64 m] w fun e w' => e = .returned (.int .i64 m) ∧ Over w w') ?_
  ·exact markPtS_none A c m w
  ·rintro e w' ⟨rfl, hO⟩
   exact ⟨by simp, Wrs.of hO, by simpa [marks] using OwnP.nil A⟩

theorem heldPtS_any (A : Option Addr) (n c : Nat) (m : Int) (w : World) (h : Pts w A n (marks m n)) (hm : 0 ≤ m) (hb : m + 2 * n ≤ 4611686018427387904) :
  Calls Try.prog 26 #[.slice A n c, .int .i64 m] w fun e w' => e = .returned (.int .i64 (m + 2 * (n : Int))) ∧ Over w w' := by
 refine walk_from (m := 31) (Try.func26) rfl rfl (Nat.le_of_ble_eq_true rfl) ?_
 refine at_seq ?_
 refine at_region ?_
 refine at_q rfl rfl (by decide) (qt_assign rfl rfl) ?_
 refine at_end ?_
 refine at_seq ?_
 refine at_seq ?_
 refine at_region ?_
 refine at_q rfl rfl (by decide) (qt_assign rfl rfl) ?_
 refine at_end ?_
 refine at_block ?_
 refine at_loopk (X := Nat) (fun k => k ≤ n) (fun k => n - k) (fun k => [(1, .int .i64 (m + 2 * (k : Int))), (5, .int .i64 (k : Int))]) (C := [(0, _), (4, _)]) ⟨rfl, rfl, trivial⟩ 0 (Nat.zero_le _) ⟨vi (by simp), rfl, rfl, rfl, trivial⟩ ?_
 intro k hk L hL1
 refine at_envE (by simp only [ya,yb]; rfl) ?_
 refine at_seq ?_
 refine at_seq ?_
 refine at_region ?_
 refine at_q rfl rfl (by decide) (qt_move rfl rfl) ?_
 refine at_q rfl rfl (by decide) (qt_move rfl rfl) ?_
 refine at_q rfl rfl (by decide) (qt_len rfl rfl tyl_sl_impl_Pt) ?_
 refine at_q rfl rfl (by decide) (qt_lss rfl rfl rfl) ?_
 refine at_end ?_
 refine at_cond rfl (fun c1 => ?_) (fun c1 => ?_)
 ·try simp only [za,zb,zc,zd,ze,zf,Bool.not_true,Bool.not_false,zg,zh,ne_eq,zi,zj] at c1
  have hlt : k < n := (by omega)
  obtain ⟨bb, oo, rfl, hbb, hc1, hc2⟩ := h.at_ hlt
  rw [px_marks hlt] at hc1
  rw [py_marks hlt] at hc2
  refine at_skip ?_
  refine norm_then ?_
  refine at_seq ?_
  refine at_block ?_
  refine at_seq ?_
  refine at_seq ?_
  refine at_region ?_
  refine at_q rfl rfl (by decide) (qt_move rfl rfl) ?_
  refine at_q rfl rfl (by decide) (qt_move rfl rfl) ?_
  refine at_q rfl rfl (by decide) (qt_index rfl rfl rfl tyl_sl_impl_Pt (by omega)) ?_
  refine at_q rfl rfl (by decide) (qt_fieldAddr rfl rfl tyf_impl_Pt_0) ?_
  refine at_q rfl rfl (by decide) (qt_load1 rfl rfl ty1_int64 (rdOld0 hc1 hbb)) ?_
  refine at_q rfl rfl (by decide) (qt_move rfl rfl) ?_
  refine at_q rfl rfl (by decide) (qt_neq rfl rfl rfl) ?_
  refine at_end ?_
  refine at_no rfl ((by simp)) ?_
  refine at_skip ?_
  refine norm_then ?_
  refine at_seq ?_
  refine at_region ?_
  refine at_q rfl rfl (by decide) (qt_move rfl rfl) ?_
  refine at_q rfl rfl (by decide) (qt_add rfl rfl rfl (by omega) (by omega)) ?_
  refine at_q rfl rfl (by decide) (qt_assign rfl rfl) ?_
  refine at_end ?_
  refine at_seq ?_
  refine at_seq ?_
  refine at_region ?_
  refine at_q rfl rfl (by decide) (qt_move rfl rfl) ?_
  refine at_q rfl rfl (by decide) (qt_move rfl rfl) ?_
  refine at_q rfl rfl (by decide) (qt_index rfl rfl rfl tyl_sl_impl_Pt (by omega)) ?_
  refine at_q rfl rfl (by decide) (qt_fieldAddr rfl rfl tyf_impl_Pt_1) ?_
  refine at_q rfl rfl (by decide) (qt_load1 rfl rfl ty1_int64 (rdOld hc2 hbb)) ?_
  refine at_q rfl rfl (by decide) (qt_move rfl rfl) ?_
  refine at_q rfl rfl (by decide) (qt_neq rfl rfl rfl) ?_
  refine at_end ?_
  refine at_no rfl ((by simp)) ?_
  refine at_skip ?_
  refine norm_then ?_
  refine at_region ?_
  refine at_q rfl rfl (by decide) (qt_move rfl rfl) ?_
  refine at_q rfl rfl (by decide) (qt_add rfl rfl rfl (by omega) (by omega)) ?_
  refine at_q rfl rfl (by decide) (qt_assign rfl rfl) ?_
  refine at_nil ?_
  refine norm_block ?_
  refine norm_then ?_
  refine at_region ?_
  refine at_q rfl rfl (by decide) (qt_move rfl rfl) ?_
  refine at_q rfl rfl (by decide) (qt_add rfl rfl rfl (by omega) (by omega)) ?_
  refine at_q rfl rfl (by decide) (qt_assign rfl rfl) ?_
  refine at_end ?_
  exact at_againk hL1 (k + 1) (by omega) (by omega) ⟨vi (by omega), vi (by omega), rfl, rfl, trivial⟩ (fun _ h => h.upto trivial)
 ·try simp only [za,zb,zc,zd,ze,zf,Bool.not_true,Bool.not_false,zg,zh,ne_eq,zi,zj] at c1
  refine at_exit ?_
  refine pass_then (fun h => by cases h) ?_
  refine pass_then (fun h => by cases h) ?_
  refine pass_hit ?_
  refine norm_then ?_
  refine at_seq ?_
  refine at_region ?_
  refine at_q rfl rfl (by decide) (qt_move rfl rfl) ?_
  refine at_q rfl rfl (by decide) (qt_assign rfl rfl) ?_
  refine at_end ?_
  refine at_retc ?_
  refine at_ret1 rfl (.tmp rfl) ?_
  intro w' hs
  exact ⟨retI (by rw [show k = n by omega]), hs.fin⟩
/-! ### The laws' own words -/
section
variable {P : Program} {n : Nat} {env : List (Nat × Value)} {w0 : Bs} {Rs : List Res} {ops : Array Oper} {Q : Exit → Act → World → Prop} {K : Act → World → Prop} {o : Oper}
theorem qt_eqlNil {T U s : Nat} {x : Operand} {T' : TypeId} {A : Option Addr} {m c m' c' : Nat} (hT : TyL P T U s) (ho : o.op = .binOp .eql T x (.const (.slice none m' c')) T') (hx : ev env x = some (.slice A m c)) : Qt P o n env w0 Rs (.bool A.isNone) :=
 qt_of fun a w hf _ => by
  have e1 : a.eval (.const (.slice none m' c')) = .slice none m' c' := rfl
  have e2 : ∀ y z : Operand, eqGuard .eql T y z (.slice A m c) (.slice none m' c') = pure () := fun _ _ => rfl
  unfold execOp; simp only [ho, hf.ev hx, e1, e2]; simp [Lib.run_eql_slice_nil w T U A m c m' c' hT.desc]
end

/-- A ring made: its points, where its slice lies, in which blocks. -/
structure Pc where
 xs : Ring_
 A : Option Addr
 c : Nat
 lo : Nat
 hi : Nat
def Pc.val (e : Pc) : Value := .slice e.A e.xs.length e.c
theorem ownP_row {w : World} {B T n : Nat} {x : Option Addr × Nat} {xs : List (Int × Int)} (h : w.ownsRow B T 2 (.slice x.1 n x.2) n (xs.flatMap ptCells)) (hn : xs.length = n) : OwnP (ablk x.1) (ablk x.1 + 1) w x.1 n xs := by
 refine ⟨hn, fun h0 => ?_⟩
 rcases h.2 with ⟨_, e⟩ | ⟨g, cap, cur, e, hb, hg, hcap, hmax, hsz, htk⟩
 ·omega
 ·injection e with e1 e2 e3
  rw [e1]
  refine ⟨g, 0, T, cur, rfl, Nat.le_refl _, Nat.lt_succ_self _, hg, fun k hk => ?_⟩
  have hf := fun q hq => ptFlat xs k q (by omega) hq
  have hc : ∀ j, j < n * 2 → cur[j]? = (xs.flatMap ptCells)[j]? := fun j hj => by
   rw [← htk, List.getElem?_take, if_pos hj]
   simp
  rw [Nat.zero_add, hc _ (by omega), hc _ (by omega)]
  have h0 := hf 0 (by omega)
  have h1 := hf 1 (by omega)
  rw [at_p (by omega)] at h0 h1
  exact ⟨by simpa [ptCells] using h0, by simpa [ptCells] using h1⟩
section
variable {n : Nat} {env : List (Nat × Value)} {w0 : Bs} {Rs : List Res} {K : Act → World → Prop}
end
end Go.Proofs.Ytjhaakollekjeaa
