import Derived.Test.YtjhaakollekjeaaDoorO29
import Derived.Test.YtjhaakollekjeaaDoorO25
import Derived.Test.YtjhaakollekjeaaDoorO33
namespace Go.Proofs.YtjhaakollekjeaaDoor
open Go Go.RowKit
set_option linter.unusedVariables false
set_option linter.unusedSimpArgs false
set_option maxRecDepth 100000
set_option maxHeartbeats 4000000
set_option linter.unusedVariables false
set_option linter.unusedSimpArgs false
/-- A loop that was made: its knots lie in a row. -/
structure Kq where
 l : List Kn
 A : Option Addr
 c : Nat
def Kq.val (e : Kq) : Value := .slice e.A e.l.length e.c
def Kq.res (e : Kq) : Res := rowR 0 54 3 e.l.length (e.l.flatMap knCells) (e.A, e.c)
abbrev kqsR (L : List Kq) : Res := .many (L.map Kq.res)
theorem kqsR_push (L : List Kq) (e : Kq) : Res.many (L.map Kq.res ++ [e.res]) = kqsR (L ++ [e]) := by simp [kqsR]
theorem kq_kns {e : Kq} {w : World} (h : e.res.P w) : Kns w e.A e.l.length e.l := Els.row (x := (e.A, e.c)) h knCells_len rfl
/-- A row of such loops reads as an outline. -/
theorem kq_loops {w : World} {B T n : Nat} {x : Option Addr × Nat} {L : List Kq} (hr : (rowR B T 1 n (L.map Kq.val) x).P w) (hk : (kqsR L).P w) (hl : L.length = n) (hm : ∀ e ∈ L, e.l.length ≤ 1099511627776) : Loops w x.1 n (L.map (·.l)) := by
 refine ⟨by rw [List.length_map]; exact hl, fun hn => ⟨ablk x.1, 0, row_adr hr hn, ?_, fun k hkn => ?_⟩⟩
 ·have h' : w.ownsRow B T 1 (.slice x.1 n x.2) n (L.map Kq.val) := hr
  rcases h'.2 with ⟨_, e⟩ | ⟨g, cap, cur, e, hb, hg, _⟩
  ·omega
  ·injection e with e1
   rw [e1]
   exact lt_of_some hg
 ·have hkl : k < L.length := by omega
  have e : lp (L.map (·.l)) k = (L[k]).l := by simp [lp, List.getD, hkl]
  have hp : (L[k]).res.P w := (hk.1 _ (List.mem_map.2 ⟨_, List.getElem_mem hkl, rfl⟩)).1
  refine ⟨(L[k]).A, (L[k]).c, ?_, ?_, ?_⟩
  ·rw [e, Nat.zero_add]
   exact row_cell hr (by rw [List.getElem?_map, List.getElem?_eq_getElem hkl]; rfl)
  ·rw [e]; exact kq_kns hp
  ·rw [e]; have := hm _ (List.getElem_mem hkl); omega
/-- An outline that was made. -/
abbrev oqR (ls : List (List Kn)) (A : Option Addr) (lo hi : Nat) : Res := .clo lo hi (fun w => Loops w A ls.length ls)
theorem oqLoops {w0 : Bs} {Rs : List Res} {k lo hi : Nat} {A : Option Addr} {ls : List (List Kn)} (hk : Rs[k]? = some (oqR ls A lo hi)) : ∀ w, St w0 Rs w → Loops w A ls.length ls := fun w hs => (hs.all k _ hk).1.2 w (hs.all k _ hk).1.1 fun _ _ _ => rfl
theorem kq_out {w w' : World} {X : List Nat} {Rs : List Res} (hs : St ⟨w, X⟩ Rs w') {kr kp B T n : Nat} {x : Option Addr × Nat} {L : List Kq} (hr : Rs[kr]? = some (rowR B T 1 n (L.map Kq.val) x)) (hp : Rs[kp]? = some (kqsR L)) (hX : ∀ q, (rowR B T 1 n (L.map Kq.val) x).F q ∨ (kqsR L).F q → q ∉ X) (hl : L.length = n) (hm : ∀ e ∈ L, e.l.length ≤ 1099511627776) :
  (oqR (L.map (·.l)) x.1 w.heap.size w'.heap.size).P w' := by
 have h1 := hs.all kr _ hr
 have h2 := hs.all kp _ hp
 have low : ∀ q, (rowR B T 1 n (L.map Kq.val) x).F q ∨ (kqsR L).F q → w.heap.size ≤ q := fun q hq => (hq.elim (fun h => h1.2.1 q h) (fun h => h2.2.1 q h)).elim id (fun h => absurd h (hX q hq))
 refine ⟨Nat.le_refl _, fun w'' hz ha => ?_⟩
 have hr' := (rowR B T 1 n (L.map Kq.val) x).dep w' w'' h1.1 hz fun b hb hor => ha b (hor.elim (fun h => absurd h (Nat.not_lt_zero b)) (fun h => low b (.inl h))) hb
 have hp' := (kqsR L).dep w' w'' h2.1 hz fun b hb hor => ha b (hor.elim (fun h => absurd h (Nat.not_lt_zero b)) (fun h => low b (.inr h))) hb
 have := kq_loops hr' hp' hl hm
 rw [List.length_map, hl]
 exact this
abbrev OqP (ls : List (List Kn)) (V : Value → Value) (e : Ending) (w w' : World) : Prop := ∃ x : (Option Addr × Nat) × Nat × Nat, e = .returned (V (outV x.1.1 ls.length x.1.2)) ∧ Over w w' ∧ (oqR ls x.1.1 x.2.1 x.2.2).P w' ∧ (∀ b, (oqR ls x.1.1 x.2.1 x.2.2).F b → w.heap.size ≤ b) ∧ (oqR ls x.1.1 x.2.1 x.2.2).B = 0 ∧ True
theorem oqp_ok {ls : List (List Kn)} {V : Value → Value} {w w' : World} {Rs : List Res} (hs : St ⟨w, []⟩ Rs w') {kr kp B n : Nat} {x : Option Addr × Nat} {L : List Kq} (hr : Rs[kr]? = some (rowR B 48 1 n (L.map Kq.val) x)) (hp : Rs[kp]? = some (kqsR L)) (hl : L.length = n) (hL : L.map (·.l) = ls) (hm : ∀ e ∈ L, e.l.length ≤ 1099511627776) : OqP ls V (.returned (V (outV x.1 n x.2))) w w' := by
 subst hL
 exact ⟨(x, w.heap.size, w'.heap.size), by simp only [List.length_map, hl], hs.fin, kq_out hs hr hp (fun _ _ h => by cases h) hl hm, fun b hb => hb.1, rfl, trivial⟩
/-! ### Copied -/
theorem kn_ones (l : List Kn) : ∀ u ∈ l.flatMap knCells, u.oneCell' = true := fun u hu => by
 obtain ⟨k, _, hk⟩ := List.mem_flatMap.1 hu
 simp only [List.mem_cons, List.not_mem_nil, or_false] at hk
 rcases hk with rfl | rfl | rfl <;> rfl
theorem srcKns {w : World} {A : Option Addr} {n c : Nat} {l : List Kn} (h : Kns w A n l) (hn : 0 < n) : Src 3 (.slice A n c) n (l.flatMap knCells) w := by
 refine ⟨by rw [flat_len knCells 3 knCells_len, h.1], .inr ?_⟩
 obtain ⟨b, o, rfl, hb, hc⟩ := h.2 hn
 refine ⟨_, c, rfl, fun j u hu => ?_⟩
 have hj : j < l.length * 3 := by have := (List.getElem?_eq_some_iff.1 hu).1; rwa [flat_len knCells 3 knCells_len] at this
 have hq : j / 3 < l.length := by omega
 have hr : j % 3 < 3 := by omega
 have e : (l.flatMap knCells)[j / 3 * 3 + j % 3]? = (knCells l[j / 3])[j % 3]? := flat_at knCells 3 knCells_len l (j / 3) (j % 3) hq hr
 have ej : j / 3 * 3 + j % 3 = j := by omega
 rw [ej] at e
 rw [hu] at e
 have := hc (j / 3) l[j / 3] (List.getElem?_eq_getElem hq) (j % 3) u e.symm
 rw [add_none, ← this]
 congr 2
 omega
theorem CloneKn_any (A : Option Addr) (n c : Nat) (l : List Kn) (w : World) (h : Kns w A n l) (hn : 0 < n) (hn2 : n ≤ 1048577) :
  Calls Tryd.prog 60 #[.slice A n c] w fun e w' => ∃ v, e = .returned v ∧ True ∧ w'.ownsRow w.heap.size 54 3 v n (l.flatMap knCells) ∧ Over w w' := by
 obtain ⟨b, o, rfl, _⟩ := h.2 hn
 refine walk_from (m := 8) (Tryd.func60) rfl rfl (Nat.le_of_ble_eq_true rfl) ?_
 refine at_seq ?_
 refine at_region ?_
 refine at_q rfl rfl (by decide) (qt_assign rfl rfl) ?_
 refine at_end ?_
 refine at_seq ?_
 refine at_seq ?_
 refine at_region ?_
 refine at_q rfl rfl (by decide) (qt_move rfl rfl) ?_
 refine at_q rfl rfl (by decide) (qt_eqlNil tyl_sl_impl_Knot rfl rfl) ?_
 refine at_end ?_
 refine at_no rfl (rfl) ?_
 refine at_skip ?_
 refine norm_then ?_
 refine at_seq ?_
 refine at_region ?_
 refine at_op rfl ?_
 refine op_buildSlice rfl rfl (bsl_sl_impl_Knot_0) rfl (by decide) (fun b1 => ?_)
 refine at_rowN 0 3 rfl rfl ?_
 refine at_rsE (by simp only [ya,yb,yc,yd,Value.cells,ye]; rfl) ?_
 refine at_q rfl rfl (by decide) (qt_move rfl rfl) ?_
 refine at_op rfl ?_
 refine op_appendR (k := 0) rfl tyl_sl_impl_Knot tyz_impl_Knot (by decide) rfl (by decide) rfl rfl rfl (fun w' hs => srcKns (h.over hs.fin) hn) (kn_ones _) (by unfold maxLen; omega) (by omega) (Nat.le_refl _) (fun r1 => ?_)
 refine at_rsE (by simp only [ya,yb,yc,yd,Value.cells,ye]; rfl) ?_
 refine at_q rfl rfl (by decide) (qt_assign rfl rfl) ?_
 refine at_end ?_
 refine at_retc ?_
 refine at_ret1 rfl (.tmp rfl) ?_
 intro w' hs
 have hr0 : w'.ownsRow w.heap.size 54 3 (.slice r1.1 (0 + n) r1.2) (0 + n) (l.flatMap knCells) := (hs.all 0 _ rfl).1
 exact ⟨_, rfl, trivial, by rw [Nat.zero_add] at hr0 ⊢; exact hr0, hs.fin⟩
/-! ### Turned around -/
def rvI (n i q : Nat) : Nat := if q < i ∨ n - 1 - i < q then n - 1 - q else q
/-- The cells of knots of which the first i and the last i are exchanged; what stands ahead stays. -/
def RvK (cs ds : List Value) (o n i : Nat) (l : List Kn) : Prop := ds.length = cs.length ∧ (∀ j, j < o ∨ o + n * 3 ≤ j → ds[j]? = cs[j]?) ∧ ∀ q, q < n → ∀ j v, (knCells (kn l (rvI n i q)))[j]? = some v → ds[o + q * 3 + j]? = some v
theorem kn_cases {k : Kn} {j : Nat} {v : Value} (h : (knCells k)[j]? = some v) : j < 3 := (List.getElem?_eq_some_iff.1 h).1
theorem spl_in {vs : List Value} : ∀ {cs : List Value} {o j : Nat}, j < vs.length → o + vs.length ≤ cs.length → (splice cs o vs)[o + j]? = vs[j]? := fun {cs o j} hj hl => by
 have s := splice_app vs (cs.take o) ((cs.drop o).take vs.length) (cs.drop (o + vs.length)) (by rw [List.length_take, List.length_drop]; omega)
 have e : cs.take o ++ (cs.drop o).take vs.length ++ cs.drop (o + vs.length) = cs := by
  rw [List.append_assoc, ← List.drop_drop, List.take_append_drop, List.take_append_drop]
 have hto : (cs.take o).length = o := by rw [List.length_take]; omega
 rw [e, hto] at s
 rw [s, List.append_assoc, List.getElem?_append_right (by omega), hto, List.getElem?_append_left (by omega)]
 congr 1
 omega
theorem spl_out {vs : List Value} : ∀ {cs : List Value} {o j : Nat}, (j < o ∨ o + vs.length ≤ j) → o + vs.length ≤ cs.length → (splice cs o vs)[j]? = cs[j]? := fun {cs o j} hj hl => by
 have s := splice_app vs (cs.take o) ((cs.drop o).take vs.length) (cs.drop (o + vs.length)) (by rw [List.length_take, List.length_drop]; omega)
 have e : cs.take o ++ (cs.drop o).take vs.length ++ cs.drop (o + vs.length) = cs := by
  rw [List.append_assoc, ← List.drop_drop, List.take_append_drop, List.take_append_drop]
 have hto : (cs.take o).length = o := by rw [List.length_take]; omega
 rw [e, hto] at s
 rw [s, List.append_assoc]
 rcases hj with h | h
 ·rw [List.getElem?_append_left (by omega), List.getElem?_take, if_pos h]
 ·rw [List.getElem?_append_right (by omega), hto, List.getElem?_append_right (by omega), List.getElem?_drop]
  congr 1
  omega
theorem RvK.step {cs ds : List Value} {o n i : Nat} {l : List Kn} (h : RvK cs ds o n i l) (hi : 2 * i + 1 < n) (hl : o + n * 3 ≤ cs.length) :
  RvK cs (splice (splice ds (o + i * 3) (knCells (kn l (n - 1 - i)))) (o + (n - 1 - i) * 3) (knCells (kn l i))) o n (i + 1) l := by
 obtain ⟨h1, h2, h3⟩ := h
 have l1 : (splice ds (o + i * 3) (knCells (kn l (n - 1 - i)))).length = cs.length := by rw [splice_len]; exact h1
 refine ⟨by rw [splice_len]; exact l1, fun j hj => ?_, fun q hq j v hv => ?_⟩
 ·rw [spl_out (by simp only [knCells_len]; omega) (by simp only [knCells_len]; omega), spl_out (by simp only [knCells_len]; omega) (by simp only [knCells_len]; omega)]
  exact h2 j hj
 ·have hj := kn_cases hv
  by_cases e2 : q = n - 1 - i
  ·subst e2
   rw [spl_in (by simp only [knCells_len]; omega) (by simp only [knCells_len]; omega)]
   have : rvI n (i + 1) (n - 1 - i) = i := by unfold rvI; rw [if_pos (by omega)]; omega
   rwa [this] at hv
  ·rw [spl_out (by simp only [knCells_len]; omega) (by simp only [knCells_len]; omega)]
   by_cases e1 : q = i
   ·subst e1
    rw [spl_in (by simp only [knCells_len]; omega) (by simp only [knCells_len]; omega)]
    have : rvI n (q + 1) q = n - 1 - q := by unfold rvI; rw [if_pos (by omega)]
    rwa [this] at hv
   ·rw [spl_out (by simp only [knCells_len]; omega) (by simp only [knCells_len]; omega)]
    have : rvI n (i + 1) q = rvI n i q := by unfold rvI; split <;> split <;> omega
    rw [this] at hv
    exact h3 q hq j v hv
theorem RvK.at_ {cs ds : List Value} {o n i q : Nat} {l : List Kn} (h : RvK cs ds o n i l) (h1 : i ≤ q) (h2 : q ≤ n - 1 - i) (hq : q < n) : ∀ j v, (knCells (kn l q))[j]? = some v → ds[o + q * 3 + j]? = some v := fun j v hv => by
 have : rvI n i q = q := by unfold rvI; rw [if_neg (by omega)]
 exact h.2.2 q hq j v (by rwa [this])
theorem rd3c {w0 : Bs} {Rs : List Res} {k b T off : Nat} {cs : List Value} {q : Kn} (hk : Rs[k]? = some (.cel b T cs)) (h : ∀ j v, (knCells q)[j]? = some v → cs[off + j]? = some v) : ∀ w, St w0 Rs w → ∀ j v, (knCells q)[j]? = some v → w.cell? ⟨b, off + j, none⟩ = some v := fun w hs j v hv => by
 rw [cell_of_row w b _ _ T (0, 0) (hs.cel hk), List.getElem?_toArray]
 exact h j v hv
theorem ReverseKn_some (b o T : Nat) (cs : List Value) (n c : Nat) (l : List Kn) (w : World) (hh : w.heap[b]? = some (.cells cs.toArray T (0, 0))) (hl : o + n * 3 ≤ cs.length) (h0 : RvK cs cs o n 0 l) (hn : n ≤ 4611686018427387904) :
  Calls Tryd.prog 34 #[.slice (some ⟨b, o, none⟩) n c] w fun e w' => e = .returned (.tuple #[]) ∧ Wr b w w' ∧ ∃ (ds : List Value) (i : Nat), w'.heap[b]? = some (.cells ds.toArray T (0, 0)) ∧ RvK cs ds o n i l ∧ n ≤ 2 * i + 1 := by
 refine walk_from1 (m := 28) (Tryd.func34) rfl rfl (Nat.le_of_ble_eq_true rfl) (hh) ?_
 refine at_seq ?_
 refine at_region ?_
 refine at_q rfl rfl (by decide) (qt_move rfl rfl) ?_
 refine at_q rfl rfl (by decide) (qt_len rfl rfl tyl_sl_impl_Knot) ?_
 refine at_q rfl rfl (by decide) (qt_sub rfl rfl rfl (by omega) (by omega)) ?_
 refine at_q rfl rfl (by decide) (qt_assign rfl rfl) ?_
 refine at_q rfl rfl (by decide) (qt_assign rfl rfl) ?_
 refine at_end ?_
 refine at_block ?_
 refine at_loopc (X := Nat × List Value) (fun x => 2 * x.1 ≤ n ∧ RvK cs x.2 o n x.1 l) (fun x => n - x.1) (fun x => [(2, .int .i64 (x.1 : Int)), (3, .int .i64 ((n : Int) - 1 - (x.1 : Int)))]) (C := [(0, _)]) ⟨rfl, trivial⟩ (fun x => [.cel b T x.2]) (0, cs) (⟨Nat.zero_le _, h0⟩) ⟨rfl, vi (by omega), rfl, trivial⟩ (fun _ h => h) ?_
 intro ⟨k, ds⟩ hx L hL1
 refine at_envE (by simp only [ya,yb]; rfl) ?_
 refine at_rsE (by first | (dsimp only; done) | (dsimp only; rfl) | rfl) ?_
 have hk : 2 * k ≤ n := hx.1
 have hrv : RvK cs ds o n k l := hx.2
 have hlen := hrv.1
 refine at_seq ?_
 refine at_seq ?_
 refine at_region ?_
 refine at_q rfl rfl (by decide) (qt_move rfl rfl) ?_
 refine at_q rfl rfl (by decide) (qt_move rfl rfl) ?_
 refine at_q rfl rfl (by decide) (qt_lss rfl rfl rfl) ?_
 refine at_end ?_
 refine at_cond rfl (fun c1 => ?_) (fun c1 => ?_)
 ·try simp only [za,zb,zc,zd,ze,zf,Bool.not_true,Bool.not_false,zg,zh,ne_eq,zi,zj] at c1
  have hlt : 2 * k + 1 < n := (by omega)
  have r1 := hrv.at_ (q := k) (by omega) (by omega) (by omega)
  have r2 := hrv.at_ (q := n - 1 - k) (by omega) (by omega) (by omega)
  refine at_as 3 (.int .i64 ((n - 1 - k : Nat) : Int)) rfl (congrArg _ (by omega)) ?_
  refine at_skip ?_
  refine norm_then ?_
  refine at_seq ?_
  refine at_block ?_
  refine dg_start mixed rfl ?_
  refine dp_q (i := 2) rfl (by kernel_rfl) (by kernel_rfl) (by kernel_rfl) (fun _ _ _ h => h) rfl rfl (by decide) (qp_move rfl rfl) ?_
  refine dp_q (i := 3) rfl (by kernel_rfl) (by kernel_rfl) (by kernel_rfl) (fun _ _ _ h => h) rfl rfl (by decide) (qp_move rfl rfl) ?_
  refine dg_phase 13 ?_
  refine dg_q (i := 0) rfl (by kernel_rfl) (by kernel_rfl) (by kernel_rfl) [] (by kernel_rfl) (fun _ _ _ h => h) rfl rfl (by decide) (fun _ h => h.upto ⟨rfl, trivial⟩) (qt_move rfl rfl) ?_
  refine dg_q (i := 1) rfl (by kernel_rfl) (by kernel_rfl) (by kernel_rfl) [] (by kernel_rfl) (fun _ _ _ h => h) rfl rfl (by decide) (fun _ h => h.upto ⟨rfl, trivial⟩) (qt_move rfl rfl) ?_
  refine dg_q (i := 4) rfl (by kernel_rfl) (by kernel_rfl) (by kernel_rfl) [] (by kernel_rfl) (fun _ _ _ h => h) rfl rfl (by decide) (fun _ h => h.upto ⟨rfl, trivial⟩) (qt_move rfl rfl) ?_
  refine dg_q (i := 5) rfl (by kernel_rfl) (by kernel_rfl) (by kernel_rfl) [] (by kernel_rfl) (fun _ _ _ h => h) rfl rfl (by decide) (fun _ h => h.upto ⟨rfl, trivial⟩) (qt_move rfl rfl) ?_
  refine dg_q (i := 6) rfl (by kernel_rfl) (by kernel_rfl) (by kernel_rfl) [] (by kernel_rfl) (fun _ _ _ h => h) rfl rfl (by decide) (fun _ h => h.upto ⟨rfl, trivial⟩) (qt_index rfl rfl rfl tyl_sl_impl_Knot (by omega)) ?_
  refine dg_q (i := 7) rfl (by kernel_rfl) (by kernel_rfl) (by kernel_rfl) [] (by kernel_rfl) (fun _ _ _ h => h) rfl rfl (by decide) (fun _ h => h.upto ⟨rfl, trivial⟩) (qt_loadS rfl rfl tys_impl_Knot rfl (rd3c (k := 0) rfl r2)) ?_
  refine dg_q (i := 8) rfl (by kernel_rfl) (by kernel_rfl) (by kernel_rfl) [10, 11] (by kernel_rfl) (fun _ _ _ h => h) rfl rfl (by decide) (fun _ h => h.upto ⟨rfl, trivial⟩) (qt_move rfl rfl) ?_
  refine dg_q (i := 9) rfl (by kernel_rfl) (by kernel_rfl) (by kernel_rfl) [10, 11] (by kernel_rfl) (fun _ _ _ h => h) rfl rfl (by decide) (fun _ h => h.upto ⟨rfl, trivial⟩) (qt_move rfl rfl) ?_
  refine dg_q (i := 10) rfl (by kernel_rfl) (by kernel_rfl) (by kernel_rfl) [11] (by kernel_rfl) (fun _ _ _ h => h) rfl rfl (by decide) (fun _ h => h.upto ⟨rfl, trivial⟩) (qt_index rfl rfl rfl tyl_sl_impl_Knot (by omega)) ?_
  refine dg_q (i := 11) rfl (by kernel_rfl) (by kernel_rfl) (by kernel_rfl) [] (by kernel_rfl) (fun _ _ _ h => h) rfl rfl (by decide) (fun _ h => h.upto ⟨rfl, trivial⟩) (qt_loadS rfl rfl tys_impl_Knot rfl (rd3c (k := 0) rfl r1)) ?_
  refine dg_q (i := 12) rfl (by kernel_rfl) (by kernel_rfl) (by kernel_rfl) [] (by kernel_rfl) (fun _ _ _ h => h) rfl rfl (by decide) (fun _ h => h.upto ⟨rfl, trivial⟩) (qt_index rfl rfl rfl tyl_sl_impl_Knot (by omega)) ?_
  refine dg_bar rfl (by kernel_rfl) rfl ?_
  refine op_store (k := 0) (vs := knCells (kn l (n - 1 - k))) rfl rfl rfl rfl rfl (by rfl) tyz_impl_Knot.szx rfl rfl (by simp only [knCells_len]; omega) ?_
  refine dg_phase 15 ?_
  refine dg_q (i := 14) rfl (by kernel_rfl) (by kernel_rfl) (by kernel_rfl) [] (by kernel_rfl) (fun _ _ _ h => h) rfl rfl (by decide) (fun _ h => h.upto ⟨rfl, trivial⟩) (qt_index rfl rfl rfl tyl_sl_impl_Knot (by omega)) ?_
  refine dg_bar rfl (by kernel_rfl) rfl ?_
  refine op_store (k := 0) (vs := knCells (kn l k)) rfl rfl rfl rfl rfl (by rfl) tyz_impl_Knot.szx rfl rfl (by rw [splice_len]; simp only [knCells_len]; omega) ?_
  refine dg_end (by kernel_rfl) ?_
  refine norm_block ?_
  refine norm_then ?_
  refine at_region ?_
  refine at_q rfl rfl (by decide) (qt_move rfl rfl) ?_
  refine at_q rfl rfl (by decide) (qt_add rfl rfl rfl (by omega) (by omega)) ?_
  refine at_q rfl rfl (by decide) (qt_move rfl rfl) ?_
  refine at_q rfl rfl (by decide) (qt_sub rfl rfl rfl (by omega) (by omega)) ?_
  refine at_q rfl rfl (by decide) (qt_assign rfl rfl) ?_
  refine at_q rfl rfl (by decide) (qt_assign rfl rfl) ?_
  refine at_end ?_
  exact at_againc hL1 ((k + 1, _)) (⟨show 2 * (k + 1) ≤ n by omega, hrv.step hlt hl⟩) (by simp only; omega) ⟨vi (by omega), vi (by omega), rfl, trivial⟩ (fun _ h => h.upto ⟨rfl, trivial⟩)
 ·try simp only [za,zb,zc,zd,ze,zf,Bool.not_true,Bool.not_false,zg,zh,ne_eq,zi,zj] at c1
  refine at_exit ?_
  refine pass_then (fun h => by cases h) ?_
  refine pass_then (fun h => by cases h) ?_
  refine pass_hit ?_
  refine at_end0 rfl ?_
  intro w' hs
  exact ⟨rfl, hs.over.wr, ds, k, hs.cel (k := 0) rfl, hrv, by omega⟩
theorem ReverseKn_none (A : Option Addr) (c : Nat) (w : World) : Calls Tryd.prog 34 #[.slice A 0 c] w fun e w' => e = .returned (.tuple #[]) ∧ Over w w' := by
 refine walk_from (m := 28) (Tryd.func34) rfl rfl (Nat.le_of_ble_eq_true rfl) ?_
 refine at_seq ?_
 refine at_region ?_
 refine at_q rfl rfl (by decide) (qt_move rfl rfl) ?_
 refine at_q rfl rfl (by decide) (qt_len rfl rfl tyl_sl_impl_Knot) ?_
 refine at_q rfl rfl (by decide) (qt_sub rfl rfl rfl (by omega) (by omega)) ?_
 refine at_q rfl rfl (by decide) (qt_assign rfl rfl) ?_
 refine at_q rfl rfl (by decide) (qt_assign rfl rfl) ?_
 refine at_end ?_
 refine at_block ?_
 refine at_loopk (X := Nat) (fun k => k = 0) (fun k => k) (fun k => [(2, .int .i64 (k : Int)), (3, .int .i64 (-1))]) (C := [(0, _)]) ⟨rfl, trivial⟩ 0 (rfl) ⟨rfl, rfl, rfl, trivial⟩ ?_
 intro k hk L hL1
 refine at_envE (by simp only [ya,yb]; rfl) ?_
 refine at_seq ?_
 refine at_seq ?_
 refine at_region ?_
 refine at_q rfl rfl (by decide) (qt_move rfl rfl) ?_
 refine at_q rfl rfl (by decide) (qt_move rfl rfl) ?_
 refine at_q rfl rfl (by decide) (qt_lss rfl rfl rfl) ?_
 refine at_end ?_
 refine at_cond rfl (fun c1 => ?_) (fun c1 => ?_)
 ·try simp only [za,zb,zc,zd,ze,zf,Bool.not_true,Bool.not_false,zg,zh,ne_eq,zi,zj] at c1
  omega
 ·try simp only [za,zb,zc,zd,ze,zf,Bool.not_true,Bool.not_false,zg,zh,ne_eq,zi,zj] at c1
  refine at_exit ?_
  refine pass_then (fun h => by cases h) ?_
  refine pass_then (fun h => by cases h) ?_
  refine pass_hit ?_
  refine at_end0 rfl ?_
  intro w' hs
  exact ⟨rfl, hs.fin⟩
theorem kn_tail (l : List Kn) (a : Kn) (q : Nat) : kn (a :: l) (q + 1) = kn l q := by simp [kn]
theorem rv_full {n i q : Nat} (h : n ≤ 2 * i + 1) (hq : q < n) : rvI n i q = n - 1 - q := by unfold rvI; split <;> omega
/-- The row of a loop, its knots but the first turned around. -/
theorem ReverseKn_row {B n c : Nat} {A : Option Addr} {l : List Kn} {w : World} (hr : (rowR B 54 3 n (l.flatMap knCells) (A, c)).P w) (h1 : 1 ≤ n) (hl : l.length = n) (hn : n ≤ 1048577) :
  Calls Tryd.prog 34 #[sliced A 1 n c 3] w fun e w' => e = .returned (.tuple #[]) ∧ Wrs (rowR B 54 3 n (l.flatMap knCells) (A, c)).F w w' ∧ (rowR B 54 3 n ((revK l).flatMap knCells) (A, c)).P w' := by
 obtain ⟨a, t, rfl⟩ : ∃ a t, l = a :: t := by
  cases l with
  | nil => simp at hl; omega
  | cons a t => exact ⟨a, t, rfl⟩
 have htl : t.length + 1 = n := hl
 by_cases h0 : n = 1
 ·have ht : t = [] := List.eq_nil_of_length_eq_zero (by omega)
  subst ht h0
  have e : sliced A 1 1 c 3 = .slice (if c = 1 then A else A.map (·.add (1 * 3))) 0 (c - 1) := rfl
  rw [e]
  refine (ReverseKn_none _ _ w).mono ?_
  rintro e w' ⟨rfl, ho⟩
  exact ⟨rfl, Wrs.of ho, (rowR B 54 3 1 ([a].flatMap knCells) (A, c)).dep w w' hr ho.size fun b hb _ => ho.out.block b hb⟩
 ·have hP : w.ownsRow B 54 3 (.slice A n c) n ((a :: t).flatMap knCells) := hr
  rcases hP.2 with ⟨_, e⟩ | ⟨g, cap, cur, e, hb, hg, hcap, hmax, hsz, htk⟩
  ·omega
  ·injection e with e1 e2 e3
   subst e1 e3
   have hcur : cur.toList.length = cur.size := Array.length_toList
   have e : sliced (some ⟨g, 0, none⟩) 1 n c 3 = .slice (some ⟨g, 3, none⟩) (n - 1) (c - 1) := by
    unfold sliced
    rw [if_neg (by omega)]
    simp [add_none]
   rw [e]
   have hg' : w.heap[g]? = some (.cells cur.toList.toArray 54 (0, 0)) := by rw [hg, Array.toArray_toList]
   have h3 : 3 + (n - 1) * 3 ≤ cur.toList.length := by rw [hcur]; omega
   have hat : ∀ q, q < n → ∀ j v, (knCells (kn (a :: t) q))[j]? = some v → cur.toList[q * 3 + j]? = some v := fun q hq j v hv => by
    have hj := kn_cases hv
    have hql : q < (a :: t).length := by rw [hl]; exact hq
    have e1 := flat_at knCells 3 knCells_len (a :: t) q j hql hj
    rw [kn_at hql] at e1
    rw [← htk, List.getElem?_take, if_pos (by omega)] at e1
    rw [e1]; exact hv
   refine (ReverseKn_some g 3 54 cur.toList (n - 1) (c - 1) t w hg' h3 ⟨rfl, fun _ _ => rfl, fun q hq j v hv => ?_⟩ (by omega)).mono ?_
   ·have : rvI (n - 1) 0 q = q := by unfold rvI; rw [if_neg (by omega)]
    rw [this, ← kn_tail t a q] at hv
    have := hat (q + 1) (by omega) j v hv
    rw [← this]
    congr 1
    omega
   ·rintro e w' ⟨rfl, hw, ds, i, hd, ⟨d1, d2, d3⟩, hi⟩
    refine ⟨rfl, ⟨hw.os, hw.tape, hw.output, hw.size, fun c' hc' hn' => hw.block c' hc' fun k => hn' (by rw [k]; rfl)⟩, ?_⟩
    refine ⟨by rw [flat_len knCells 3 knCells_len, revK_len, hl], .inr ⟨g, c, ds.toArray, rfl, hb, hd, hcap, hmax, by simp [d1, hcur, hsz], ?_⟩⟩
    have hrl : (revK (a :: t)).length = n := by rw [revK_len, hl]
    have hfl : ((revK (a :: t)).flatMap knCells).length = n * 3 := by rw [flat_len knCells 3 knCells_len, hrl]
    have hds : n * 3 ≤ ds.length := by rw [d1, hcur]; omega
    refine List.ext_getElem? fun m => ?_
    show (ds.toArray.toList.take (n * 3))[m]? = _
    by_cases hm : m < n * 3
    ·rw [List.getElem?_take, if_pos hm]
     have hq : m / 3 < (revK (a :: t)).length := by rw [hrl]; omega
     have e2 := flat_at knCells 3 knCells_len (revK (a :: t)) (m / 3) (m % 3) hq (by omega)
     rw [show m / 3 * 3 + m % 3 = m by omega] at e2
     rw [e2]
     have hv : (knCells (revK (a :: t))[m / 3])[m % 3]? = some ((knCells (revK (a :: t))[m / 3])[m % 3]'(by show m % 3 < 3; omega)) := List.getElem?_eq_getElem _
     rw [hv]
     by_cases hz : m / 3 = 0
     ·have hh : (revK (a :: t))[m / 3] = kn (a :: t) 0 := by rw [kn_at hq, hz, revK_zero]
      have := hat 0 (by omega) (m % 3) _ (by rw [← hh]; exact hv)
      rw [← this]
      show ds[m]? = _
      rw [d2 m (.inl (by omega))]
      congr 1
      omega
     ·obtain ⟨q, hq'⟩ : ∃ q, m / 3 = q + 1 := ⟨m / 3 - 1, by omega⟩
      have hqn : q < n - 1 := by omega
      have hh : (revK (a :: t))[m / 3] = kn t (n - 1 - 1 - q) := by
       rw [kn_at hq, hq']
       show kn (a :: t.reverse) (q + 1) = _
       rw [kn_tail]
       have hqt : q < t.reverse.length := by rw [List.length_reverse]; omega
       rw [← kn_at hqt, List.getElem_reverse, kn_at]
       congr 1
       omega
      have := d3 q hqn (m % 3) _ (by rw [rv_full hi hqn, ← hh]; exact hv)
      rw [← this]
      show ds[m]? = _
      congr 1
      omega
    ·rw [List.getElem?_eq_none (by rw [List.length_take]; omega), List.getElem?_eq_none (by rw [hfl]; omega)]
end Go.Proofs.YtjhaakollekjeaaDoor
