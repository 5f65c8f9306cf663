/- Hot points of edges: plain law, crossings, the reference's walk. -/
import Derived.Test.YtcigocejgmafjaaSnapped
import Derived.Test.YtcigocejgmafjaaSimp
namespace Go.Proofs.Ytcigocejgmafjaa
open Go Go.RowKit
set_option linter.unusedVariables false
set_option linter.unusedSimpArgs false
set_option maxRecDepth 100000
set_option maxHeartbeats 4000000
set_option linter.unusedVariables false
set_option linter.unusedSimpArgs false

/-! ### Ascending lists -/
/-- By Y, then X. -/
def ltY (p q : Pn) : Prop := p.2 < q.2 ∨ (p.2 = q.2 ∧ p.1 < q.1)
instance (p q : Pn) : Decidable (ltY p q) := by unfold ltY; exact inferInstance
theorem ltY_trans {p q r : Pn} (h : ltY p q) (h' : ltY q r) : ltY p r := by unfold ltY at *; omega
theorem ltY_irrefl (p : Pn) : ¬ ltY p p := by unfold ltY; omega
theorem ltY_tri (p q : Pn) : ltY p q ∨ p = q ∨ ltY q p := by
 rcases p with ⟨x, y⟩
 rcases q with ⟨x', y'⟩
 simp only [ltY, Prod.mk.injEq]
 omega
/-! ### Crossings -/
/-- A point whose coordinates are far from the words' bounds. -/
def bdW (p : Pn) : Prop := (-1152921504606846976 ≤ p.1 ∧ p.1 ≤ 1152921504606846976) ∧ -1152921504606846976 ≤ p.2 ∧ p.2 ≤ 1152921504606846976
theorem bd2.wide {p : Pn} (h : bd2 p) : bdW p := by
 obtain ⟨⟨h1, h2⟩, h3, h4⟩ := h
 exact ⟨⟨by omega, by omega⟩, by omega, by omega⟩
section
variable {P : Program} {n : Nat} {env : List (Nat × Value)} {w0 : Bs} {Rs : List Res} {ops : Array Oper} {Q : Exit → Act → World → Prop} {K : Act → World → Prop} {o : Oper}
/-- A call that turns a piece into what comes back. -/
theorem op_callP {f k d : Nat} (hfn : FnOk P f) {xs : List Operand} {vs : List Value} {ts : Array TypeId} {X : Type} {v : X → Value} {r : Res} {r' : X → Res} (ho : o.op = .call { callee := .value (.func f), args := xs.toArray, argTypes := ts }) (hx : evs env xs = some vs) (hd : o.dst = some d) (hn : d < n)
  (hk : Rs[k]? = some r) (hc : ∀ w, St w0 Rs w → Calls P f vs.toArray w fun e w' => ∃ x, e = .returned (v x) ∧ Wrs r.F w w' ∧ (r' x).P w' ∧ (∀ b, (r' x).F b → r.F b ∨ w.heap.size ≤ b) ∧ (r' x).B = 0)
  (h : ∀ x, At n ((d, v x) :: env) w0 (Rs.set k (r' x)) K) : At n env w0 Rs (fun a w => o.wp P a w K Q) := fun a w hF' hs => by
 show o.upon P a K Q ((execOp a.eval o).run P w)
 rw [run_call hfn ho hx hF']
 refine Calls.mono (hc w hs) ?_
 rintro e w' ⟨x, rfl, hw, hp, hF, hB⟩
 have hlow := (hs.all k _ hk).2.1
 show K (a.put o.dst (v x)) w'
 rw [hd]
 refine h x _ _ (hF'.put hn _) (hs.upd hk ⟨hw.os.trans hs.over.os, hw.tape.trans hs.over.tape, hw.output.trans hs.over.output, Nat.le_trans hs.over.size hw.size, fun c hc' hx' => ?_⟩ hw.size (fun c hc' hne => hw.block c hc' hne) hp (fun c hc' => hF c hc') hB)
 rw [hw.block c (Nat.lt_of_lt_of_le hc' hs.over.size) (fun e => (hlow c e).elim (fun h1 => by omega) (fun h1 => hx' h1))]
 exact hs.over.block c hc' hx'
end
theorem l13Before_p (p q : Pn) (w : World) : Calls Try.prog 32 #[pV p, pV q] w fun e w' => e = .returned (.bool (decide (ltY p q))) ∧ Over w w' := by
 refine walk_from (m := 24) (Try.func32) rfl rfl (Nat.le_of_ble_eq_true rfl) ?_
 refine at_seq ?_
 refine at_region ?_
 refine at_op rfl ?_
 refine op_box rfl rfl (rfl) rfl (by decide) (fun b1 => ?_)
 refine at_rsE (by simp only [ya,yb,yc,yd,Value.cells,ye]; rfl) ?_
 refine at_op rfl ?_
 refine op_box rfl rfl (rfl) rfl (by decide) (fun b2 => ?_)
 refine at_rsE (by simp only [ya,yb,yc,yd,Value.cells,ye]; rfl) ?_
 refine at_q rfl rfl (by decide) (qt_assign rfl rfl) ?_
 refine at_end ?_
 refine at_seq ?_
 refine at_region ?_
 refine at_q rfl rfl (by decide) (qt_fieldAddr rfl rfl tyf_impl_Pt_1) ?_
 refine at_q rfl rfl (by decide) (qt_load1 rfl rfl ty1_int64 (rd1 (k := 0) rfl rfl)) ?_
 refine at_q rfl rfl (by decide) (qt_fieldAddr rfl rfl tyf_impl_Pt_1) ?_
 refine at_q rfl rfl (by decide) (qt_load1 rfl rfl ty1_int64 (rd1 (k := 1) rfl rfl)) ?_
 refine at_q rfl rfl (by decide) (qt_lss rfl rfl rfl) ?_
 refine at_q rfl rfl (by decide) (qt_move rfl rfl) ?_
 refine at_bsplit 10 rfl (fun g1 => ?_) (fun g1 => ?_)
 ·try simp only [za,zb,zc,zd,ze,zf,Bool.not_true,Bool.not_false,zg,zh,ne_eq,zi,zj] at g1
  refine at_off rfl rfl rfl rfl (by decide) rfl (by decide) ?_
  refine at_off rfl rfl rfl rfl (by decide) rfl (by decide) ?_
  refine at_off rfl rfl rfl rfl (by decide) rfl (by decide) ?_
  refine at_off rfl rfl rfl rfl (by decide) rfl (by decide) ?_
  refine at_off rfl rfl rfl rfl (by decide) rfl (by decide) ?_
  refine at_off rfl rfl rfl rfl (by decide) rfl (by decide) ?_
  refine at_offu rfl rfl rfl rfl rfl (by decide) ?_
  refine at_offu rfl rfl rfl rfl rfl (by decide) ?_
  refine at_offu rfl rfl rfl rfl rfl (by decide) ?_
  refine at_offu rfl rfl rfl rfl rfl (by decide) ?_
  refine at_offu rfl rfl rfl rfl rfl (by decide) ?_
  refine at_off rfl rfl rfl rfl (by decide) rfl (by decide) ?_
  refine at_q rfl rfl (by decide) (qt_pickT rfl rfl rfl) ?_
  refine at_q rfl rfl (by decide) (qt_assign rfl rfl) ?_
  refine at_end ?_
  refine at_retc ?_
  refine at_ret1 rfl (.tmp rfl) ?_
  intro w' hs
  exact ⟨congrArg Ending.returned (congrArg Value.bool (Bool.eq_iff_iff.2 (Iff.trans (b := ltY p q) (by simp [ltY]; omega) decide_eq_true_iff.symm))), hs.fin⟩
 ·try simp only [za,zb,zc,zd,ze,zf,Bool.not_true,Bool.not_false,zg,zh,ne_eq,zi,zj] at g1
  refine at_on rfl rfl rfl rfl ?_
  refine op_q rfl (by decide) (qt_fieldAddr rfl rfl tyf_impl_Pt_1) ?_
  refine at_on rfl rfl rfl rfl ?_
  refine op_q rfl (by decide) (qt_load1 rfl rfl ty1_int64 (rd1 (k := 0) rfl rfl)) ?_
  refine at_on rfl rfl rfl rfl ?_
  refine op_q rfl (by decide) (qt_fieldAddr rfl rfl tyf_impl_Pt_1) ?_
  refine at_on rfl rfl rfl rfl ?_
  refine op_q rfl (by decide) (qt_load1 rfl rfl ty1_int64 (rd1 (k := 1) rfl rfl)) ?_
  refine at_on rfl rfl rfl rfl ?_
  refine op_q rfl (by decide) (qt_eql rfl rfl rfl) ?_
  refine at_on rfl rfl rfl rfl ?_
  refine op_q rfl (by decide) (qt_move rfl rfl) ?_
  refine at_bsplit 16 rfl (fun g2 => ?_) (fun g2 => ?_)
  ·try simp only [za,zb,zc,zd,ze,zf,Bool.not_true,Bool.not_false,zg,zh,ne_eq,zi,zj] at g2
   refine at_on rfl rfl rfl rfl ?_
   refine op_q rfl (by decide) (qt_fieldAddr rfl rfl tyf_impl_Pt_0) ?_
   refine at_on rfl rfl rfl rfl ?_
   refine op_q rfl (by decide) (qt_load1 rfl rfl ty1_int64 (rd1 (k := 0) rfl rfl)) ?_
   refine at_on rfl rfl rfl rfl ?_
   refine op_q rfl (by decide) (qt_fieldAddr rfl rfl tyf_impl_Pt_0) ?_
   refine at_on rfl rfl rfl rfl ?_
   refine op_q rfl (by decide) (qt_load1 rfl rfl ty1_int64 (rd1 (k := 1) rfl rfl)) ?_
   refine at_on rfl rfl rfl rfl ?_
   refine op_q rfl (by decide) (qt_lss rfl rfl rfl) ?_
   refine at_on rfl rfl rfl rfl ?_
   refine op_q rfl (by decide) (qt_pickT rfl rfl rfl) ?_
   refine at_q rfl rfl (by decide) (qt_pickF rfl rfl rfl) ?_
   refine at_q rfl rfl (by decide) (qt_assign rfl rfl) ?_
   refine at_end ?_
   refine at_retc ?_
   refine at_ret1 rfl (.tmp rfl) ?_
   intro w' hs
   exact ⟨congrArg Ending.returned (congrArg Value.bool (Bool.eq_iff_iff.2 (Iff.trans (b := ltY p q) (by simp [ltY]; omega) decide_eq_true_iff.symm))), hs.fin⟩
  ·try simp only [za,zb,zc,zd,ze,zf,Bool.not_true,Bool.not_false,zg,zh,ne_eq,zi,zj] at g2
   refine at_off rfl rfl rfl rfl (by decide) rfl (by decide) ?_
   refine at_off rfl rfl rfl rfl (by decide) rfl (by decide) ?_
   refine at_off rfl rfl rfl rfl (by decide) rfl (by decide) ?_
   refine at_off rfl rfl rfl rfl (by decide) rfl (by decide) ?_
   refine at_off rfl rfl rfl rfl (by decide) rfl (by decide) ?_
   refine at_on rfl rfl rfl rfl ?_
   refine op_q rfl (by decide) (qt_pickF rfl rfl rfl) ?_
   refine at_q rfl rfl (by decide) (qt_pickF rfl rfl rfl) ?_
   refine at_q rfl rfl (by decide) (qt_assign rfl rfl) ?_
   refine at_end ?_
   refine at_retc ?_
   refine at_ret1 rfl (.tmp rfl) ?_
   intro w' hs
   exact ⟨congrArg Ending.returned (congrArg Value.bool (Bool.eq_iff_iff.2 (Iff.trans (b := ltY p q) (by simp [ltY]; omega) decide_eq_true_iff.symm))), hs.fin⟩
/-! ### The points of edges, in the order in which they are found -/
theorem row_from {w : World} {B N T s n : Nat} {v : Value} {xs : List Value} (h : w.ownsRow B T s v n xs) (hN : ∀ b, v.ownBlock = some b → N ≤ b) : w.ownsRow N T s v n xs := by
 refine ⟨h.1, ?_⟩
 rcases h.2 with e | ⟨g, cap, cur, rfl, hb, rest⟩
 ·exact .inl e
 ·exact .inr ⟨g, cap, cur, rfl, hN g rfl, rest⟩
end Go.Proofs.Ytcigocejgmafjaa
