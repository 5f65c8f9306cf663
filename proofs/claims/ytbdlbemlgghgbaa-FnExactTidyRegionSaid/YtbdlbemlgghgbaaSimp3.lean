/- Rings without points at which they do not turn: the program's side; SimplifyRing, both; the law's walk. -/
import Derived.Test.YtbdlbemlgghgbaaSimp
import Derived.Test.YtbdlbemlgghgbaaRev
namespace Go.Proofs.Ytbdlbemlgghgbaa
open Go Go.RowKit
set_option linter.unusedVariables false
set_option linter.unusedSimpArgs false
set_option maxRecDepth 100000
set_option maxHeartbeats 4000000
set_option linter.unusedVariables false

/-- A row whose block lies from N on. -/
theorem row_up {w : World} {B N T s n : Nat} {v : Value} {xs : List Value} (h : w.ownsRow B T s v n xs) (hN : ∀ b, v.ownBlock = some b → N ≤ b) : w.ownsRow N T s v n xs := by
  refine ⟨h.1, ?_⟩
  rcases h.2 with e | ⟨g, cap, cur, rfl, hb, rest⟩
  · exact .inl e
  · exact .inr ⟨g, cap, cur, rfl, hN g rfl, rest⟩
theorem rowF {B T s n B' T' s' n' : Nat} {xs xs' : List Value} {A : Option Addr} {c b : Nat} (h : (rowR B T s n xs (A, c)).F b) : (rowR B' T' s' n' xs' (A, c)).F b := by
  cases A <;> exact h
theorem simplifyRing_any (A : Option Addr) (n c : Nat) (xs : List (Int × Int)) (w : World) (h : Pts w A n xs) (hx : okPts xs) (h0 : 0 < n) :
    Calls Try.prog 54 #[.slice A n c] w fun e w' => ∃ v, e = .returned v ∧ w'.ownsRow w.heap.size 24 2 v (simple xs).length ((simple xs).flatMap ptCells) ∧ Over w w' := by
  have hl := h.1
  have hn := hx.1
  refine walk_from (m := 48) (Try.func54) rfl rfl (Nat.le_of_ble_eq_true rfl) ?_
  refine at_seq ?_
  refine at_region ?_
  refine at_q rfl rfl (by decide) (qt_assign rfl rfl) ?_
  refine at_end ?_
  refine at_seq ?_
  refine at_region ?_
  refine at_q rfl rfl (by decide) (qt_move rfl rfl) ?_
  refine at_op rfl ?_
  refine op_call ok_slices_Clone_sl_impl_Pt_impl_Pt (v := fun x => .slice x.1 _ x.2) (r := fun x => rowR 0 24 2 _ _ x) (H := fun _ => True) rfl rfl rfl (by decide) (fun w1 hs => newRow' (ClonePt_any A _ c xs w1 (h.over hs.fin) h0 (by omega))) ?_
  rintro ⟨cA, cc⟩ -
  refine at_rsE (by simp only [List.nil_append, List.cons_append, List.set_cons_zero, List.set_cons_succ, Value.cells, List.toList_toArray]; rfl) ?_
  refine at_q rfl rfl (by decide) (qt_assign rfl rfl) ?_
  refine at_end ?_
  refine at_block ?_
  refine at_loopc (X := List (Int × Int) × Option Addr × Nat) (fun x => simple x.1 = simple xs ∧ okPts x.1) (fun x => x.1.length) (fun x => [(3, .slice x.2.1 x.1.length x.2.2)]) (C := [(2, _)]) ⟨rfl, trivial⟩ (fun x => [rowR 0 24 2 x.1.length (x.1.flatMap ptCells) x.2]) (xs, (cA, cc)) (⟨rfl, hx⟩) ⟨by rw [← hl]; rfl, rfl, trivial⟩ (fun _ h => h.upto ⟨by rw [← hl], trivial⟩) ?_
  intro ⟨ys, yA, yc⟩ hy L hL1
  refine at_envE (by simp only [List.nil_append, List.cons_append]; rfl) ?_
  refine at_rsE (by first | (dsimp only; done) | (dsimp only; rfl) | rfl) ?_
  obtain ⟨hse, hok⟩ : simple ys = simple xs ∧ okPts ys := hy
  have hyl := hok.1
  refine at_block ?_
  refine at_seq ?_
  refine at_region ?_
  refine at_q rfl rfl (by decide) (qt_move rfl rfl) ?_
  refine at_q rfl rfl (by decide) (qt_len rfl rfl tyl_sl_impl_Pt) ?_
  refine at_q rfl rfl (by decide) (qt_assign rfl rfl) ?_
  refine at_end ?_
  refine at_seq ?_
  refine at_region ?_
  refine at_q rfl rfl (by decide) (qt_assign rfl rfl) ?_
  refine at_end ?_
  refine at_cutE [(5, .int .i64 (idleV ys))] (C := [(2, _), (3, _), (9, _), (10, _), (4, _)])  ⟨rfl, rfl, rfl, rfl, rfl, trivial⟩ (fun L hC_cutblock_2 => ?_) ?_
  · refine at_seq ?_
    refine at_region ?_
    refine at_q rfl rfl (by decide) (qt_move rfl rfl) ?_
    refine at_q rfl rfl (by decide) (qt_len rfl rfl tyl_sl_impl_Pt) ?_
    refine at_q rfl rfl (by decide) (qt_move rfl rfl) ?_
    refine at_end ?_
    refine at_block ?_
    refine at_loopk (X := Nat) (fun k => k ≤ ys.length ∧ ∀ j, j < k → ¬ turnAt ys j = 0) (fun k => ys.length - k) (fun k => [(13, .int .i64 (k : Int))]) (C := [(2, _), (3, _), (9, _), (10, _), (4, _), (5, _), (11, _), (12, _)]) ⟨rfl, rfl, rfl, rfl, rfl, rfl, rfl, rfl, trivial⟩ 0 (⟨Nat.zero_le _, fun j hj => absurd hj (by omega)⟩) ⟨rfl, rfl, rfl, rfl, rfl, rfl, rfl, rfl, rfl, trivial⟩ ?_
    intro k hk L hL2
    refine at_envE (by simp only [List.nil_append, List.cons_append]; rfl) ?_
    refine at_seq ?_
    refine at_region ?_
    refine at_q rfl rfl (by decide) (qt_lss rfl rfl rfl) ?_
    refine at_end ?_
    refine at_seq ?_
    refine at_cond rfl (fun c1 => ?_) (fun c1 => ?_)
    · try simp only [decide_eq_true_eq, decide_eq_false_iff_not, beq_iff_eq, beq_eq_false_iff_ne, Bool.not_eq_true', Bool.not_eq_false', Bool.not_true, Bool.not_false, Int.not_lt, Int.not_le, ne_eq, Nat.not_lt, Nat.not_le] at c1
      have hlt : k < ys.length := (by omega)
      have hp1 := pv_lt (xs := ys) k (by omega)
      have hp2 := nx_lt (xs := ys) k (by omega)
      refine at_fact (fun w hs => rowSome (k := 0) rfl hs (by omega)) ?_
      rintro ⟨eg, rfl⟩
      refine at_skip ?_
      refine norm_then ?_
      refine at_seq ?_
      refine at_block ?_
      refine at_seq ?_
      refine at_region ?_
      refine at_q rfl rfl (by decide) (qt_move rfl rfl) ?_
      refine at_q rfl rfl (by decide) (qt_assign rfl rfl) ?_
      refine at_end ?_
      refine at_seq ?_
      refine lx_start mixed (by kernel_rfl) (fun _ _ d _ _ h => by cases d <;> exact h) ?_
      refine lx_q rfl rfl (by decide) (qt_move rfl rfl) ?_
      refine lx_q rfl rfl (by decide) (qt_move rfl rfl) ?_
      refine lx_q rfl rfl (by decide) (qt_move rfl rfl) ?_
      refine lx_q rfl rfl (by decide) (qt_add rfl rfl rfl (by omega) (by omega)) ?_
      refine lx_q rfl rfl (by decide) (qt_sub rfl rfl rfl (by omega) (by omega)) ?_
      refine lx_q rfl rfl (by decide) (qt_move rfl rfl) ?_
      refine lx_q rfl rfl (by decide) ((qt_rem rfl rfl rfl (by omega) (by omega) (by omega)).as (congrArg _ (pv_int rfl (by omega) k))) ?_
      refine lx_q rfl rfl (by decide) (qt_index rfl rfl rfl tyl_sl_impl_Pt (by omega)) ?_
      refine lx_q rfl rfl (by decide) (qt_loadS rfl rfl tys_impl_Pt rfl (rdPtsR (fun w' hs => ptsRow (hs.all 0 _ rfl).1 rfl) hp1)) ?_
      refine lx_q rfl rfl (by decide) (qt_move rfl rfl) ?_
      refine lx_q rfl rfl (by decide) (qt_move rfl rfl) ?_
      refine lx_q rfl rfl (by decide) (qt_index rfl rfl rfl tyl_sl_impl_Pt (by omega)) ?_
      refine lx_q rfl rfl (by decide) (qt_loadS rfl rfl tys_impl_Pt rfl (rdPtsR (fun w' hs => ptsRow (hs.all 0 _ rfl).1 rfl) hlt)) ?_
      refine lx_q rfl rfl (by decide) (qt_move rfl rfl) ?_
      refine lx_q rfl rfl (by decide) (qt_move rfl rfl) ?_
      refine lx_q rfl rfl (by decide) (qt_add rfl rfl rfl (by omega) (by omega)) ?_
      refine lx_q rfl rfl (by decide) (qt_move rfl rfl) ?_
      refine lx_q rfl rfl (by decide) ((qt_rem rfl rfl rfl (by omega) (by omega) (by omega)).as (congrArg _ (nx_int' rfl k))) ?_
      refine lx_q rfl rfl (by decide) (qt_index rfl rfl rfl tyl_sl_impl_Pt (by omega)) ?_
      refine lx_q rfl rfl (by decide) (qt_loadS rfl rfl tys_impl_Pt rfl (rdPtsR (fun w' hs => ptsRow (hs.all 0 _ rfl).1 rfl) hp2)) ?_
      refine lx_q rfl rfl (by decide) (qt_call ok_impl_turn rfl rfl (fun w h => turn_p (pt ys (pv ys k)) (pt ys k) (pt ys (nx ys k)) w (hok.at_ hp1) (hok.at_ (by omega)) (hok.at_ hp2))) ?_
      refine lx_q rfl rfl (by decide) (qt_eql rfl rfl rfl) ?_
      refine lx_end ?_
      refine norm_then ?_
      refine at_cond rfl (fun c2 => ?_) (fun c2 => ?_)
      · try simp only [decide_eq_true_eq, decide_eq_false_iff_not, beq_iff_eq, beq_eq_false_iff_ne, Bool.not_eq_true', Bool.not_eq_false', Bool.not_true, Bool.not_false, Int.not_lt, Int.not_le, ne_eq, Nat.not_lt, Nat.not_le] at c2
        refine at_seq ?_
        refine at_region ?_
        refine at_q rfl rfl (by decide) (qt_move rfl rfl) ?_
        refine at_q rfl rfl (by decide) (qt_assign rfl rfl) ?_
        refine at_end ?_
        refine at_exit ?_
        refine pass_miss (by decide) ?_
        refine pass_then (fun h => by cases h) ?_
        refine pass_then (fun h => by cases h) ?_
        refine pass_hit ?_
        refine norm_then ?_
        exact at_meet hC_cutblock_2 ⟨vi (by rw [idleV, idle_some (by omega) c2 hk.2]), rfl, rfl, rfl, rfl, rfl, trivial⟩ (fun _ h => h.upto ⟨rfl, trivial⟩)
      · try simp only [decide_eq_true_eq, decide_eq_false_iff_not, beq_iff_eq, beq_eq_false_iff_ne, Bool.not_eq_true', Bool.not_eq_false', Bool.not_true, Bool.not_false, Int.not_lt, Int.not_le, ne_eq, Nat.not_lt, Nat.not_le] at c2
        refine at_skip ?_
        refine norm_block ?_
        refine norm_then ?_
        refine at_region ?_
        refine at_q rfl rfl (by decide) (qt_add rfl rfl rfl (by omega) (by omega)) ?_
        refine at_q rfl rfl (by decide) (qt_move rfl rfl) ?_
        refine at_end ?_
        exact at_againk hL2 (k + 1) (⟨by omega, lt_succ_all hk.2 c2⟩) (by omega) ⟨vi (by omega), rfl, rfl, rfl, rfl, rfl, rfl, rfl, rfl, trivial⟩ (fun _ h => h.upto ⟨rfl, trivial⟩)
    · try simp only [decide_eq_true_eq, decide_eq_false_iff_not, beq_iff_eq, beq_eq_false_iff_ne, Bool.not_eq_true', Bool.not_eq_false', Bool.not_true, Bool.not_false, Int.not_lt, Int.not_le, ne_eq, Nat.not_lt, Nat.not_le] at c1
      refine at_exit ?_
      refine pass_then (fun h => by cases h) ?_
      refine pass_then (fun h => by cases h) ?_
      refine pass_hit ?_
      refine norm_then ?_
      exact at_meet hC_cutblock_2 ⟨vi (by rw [idleV, idle_none fun j hj => hk.2 j (by omega)]), rfl, rfl, rfl, rfl, rfl, trivial⟩ (fun _ h => h.upto ⟨rfl, trivial⟩)
  · refine at_envE (by simp only [List.nil_append, List.cons_append]; rfl) ?_
    refine at_seq ?_
    refine at_seq ?_
    refine at_region ?_
    refine at_q rfl rfl (by decide) (qt_move rfl rfl) ?_
    refine at_q rfl rfl (by decide) (qt_lss rfl rfl rfl) ?_
    refine at_end ?_
    refine at_cond rfl (fun c3 => ?_) (fun c3 => ?_)
    · try simp only [decide_eq_true_eq, decide_eq_false_iff_not, beq_iff_eq, beq_eq_false_iff_ne, Bool.not_eq_true', Bool.not_eq_false', Bool.not_true, Bool.not_false, Int.not_lt, Int.not_le, ne_eq, Nat.not_lt, Nat.not_le] at c3
      refine at_seq ?_
      refine at_region ?_
      refine at_q rfl rfl (by decide) (qt_move rfl rfl) ?_
      refine at_q rfl rfl (by decide) (qt_assign rfl rfl) ?_
      refine at_end ?_
      refine at_retc ?_
      refine then_ret ?_
      refine pass_ret ?_
      refine then_ret ?_
      refine pass_ret ?_
      refine at_ret1 rfl (.tmp rfl) ?_
      intro w' hs
      have he : ys = simple xs := (simple_none (idle_no c3)).symm.trans hse
      have hr := hs.all 0 _ rfl
      exact ⟨_, rfl, he ▸ row_up hr.1 (fun b hb => (hr.2.1 b hb).elim id (fun h => by cases h)), hs.fin⟩
    · try simp only [decide_eq_true_eq, decide_eq_false_iff_not, beq_iff_eq, beq_eq_false_iff_ne, Bool.not_eq_true', Bool.not_eq_false', Bool.not_true, Bool.not_false, Int.not_lt, Int.not_le, ne_eq, Nat.not_lt, Nat.not_le] at c3
      obtain ⟨k, hik, hkv⟩ := idle_of (Int.not_lt.2 c3)
      have hkl := idle_lt hik
      refine at_as 5 (.int .i64 (k : Int)) rfl (congrArg _ hkv) ?_
      refine at_skip ?_
      refine norm_then ?_
      refine at_region ?_
      refine at_q rfl rfl (by decide) (qt_move rfl rfl) ?_
      refine at_q rfl rfl (by decide) (qt_move rfl rfl) ?_
      refine at_q rfl rfl (by decide) (qt_move rfl rfl) ?_
      refine at_q rfl rfl (by decide) (qt_add rfl rfl rfl (by omega) (by omega)) ?_
      refine at_op rfl ?_
      refine op_callw (k := 0) (r' := rowR 0 24 2 (ys.length - 1) ((ys.eraseIdx k).flatMap ptCells) (yA, yc)) ok_slices_Delete_sl_impl_Pt_impl_Pt rfl rfl rfl (by decide) rfl (fun w1 hs => Delete_row (hs.all 0 _ rfl).1 rfl hkl (by omega)) (fun _ h => rowF h) rfl ?_
      refine at_rsE (by simp only [List.nil_append, List.cons_append, List.set_cons_zero, List.set_cons_succ, Value.cells, List.toList_toArray]; rfl) ?_
      refine at_q rfl rfl (by decide) (qt_assign rfl rfl) ?_
      refine at_nil ?_
      refine norm_block ?_
      refine norm_then ?_
      exact at_againc hL1 ((ys.eraseIdx k, (yA, yc))) (⟨(simple_some hik).symm.trans hse, hok.erase k⟩) (by show (ys.eraseIdx k).length < ys.length; rw [erase_len hkl]; omega) ⟨by rw [erase_len hkl]; rfl, rfl, trivial⟩ (fun _ h => h.upto ⟨by rw [erase_len hkl], trivial⟩)

def smR (xs : List (Int × Int)) : List (Int × Int) := if ringB xs = true then simple xs else []
def smC (xs : List (Int × Int)) : Int := if ringB xs = true then (if (simple xs).length = 0 then 6 else 0) else 1
theorem sm_no {xs : List (Int × Int)} (h : ringB xs = false) : smR xs = [] ∧ smC xs = 1 := by simp [smR, smC, h]
theorem sm_nil {xs : List (Int × Int)} (h : ringB xs = true) (h0 : (simple xs).length = 0) : smR xs = [] ∧ smC xs = 6 := by
  have := List.eq_nil_of_length_eq_zero h0
  simp [smR, smC, h, this]
theorem sm_some {xs : List (Int × Int)} (h : ringB xs = true) (h0 : ¬ (simple xs).length = 0) : smR xs = simple xs ∧ smC xs = 0 := by
  rw [smR, smC, if_pos h, if_pos h, if_neg h0]
  exact ⟨rfl, rfl⟩
/-- A row that is the call's result: points that may be written. -/
theorem rowOwn {w w' : World} {Rs : List Res} (hs : St ⟨w, []⟩ Rs w') {k B T n : Nat} {x : Option Addr × Nat} {xs : List (Int × Int)} (hk : Rs[k]? = some (rowR B T 2 n (xs.flatMap ptCells) x)) (hn : xs.length = n) : OwnP w.heap.size w'.heap.size w' x.1 n xs := by
  have hr := hs.all k _ hk
  have h := ownP_row (x := x) hr.1 hn
  refine ⟨h.1, fun h0 => ?_⟩
  obtain ⟨b, o, T', cs, e, _, _, hh, hc⟩ := h.2 h0
  refine ⟨b, o, T', cs, e, ?_, lt_of_some hh, hh, hc⟩
  exact (hr.2.1 b (by show Value.ownBlock (.slice x.1 n x.2) = some b; rw [e]; rfl)).elim id (fun h => by cases h)
end Go.Proofs.Ytbdlbemlgghgbaa
