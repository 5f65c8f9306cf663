/- Drawn regions in which a store may come ahead of what does not read its piece: two bases, one up to the store and one behind it. -/
import Derived.Test.YtjhaakollekjeaaSv
namespace Go.Proofs.Ytjhaakollekjeaa
open Go Go.RowKit
set_option linter.unusedVariables false

section
variable {P : Program} {ops : Array Oper} {Q : Exit → Act → World → Prop} {md : Region.Mode} {B B' S : Base}

end
section
variable {P : Program} {n : Nat} {env : List (Nat × Value)} {w0 : Bs} {Rs : List Res} {ops : Array Oper} {Q : Exit → Act → World → Prop} {K : Act → World → Prop} {o : Oper}
variable {Rs0 Rs1 : List Res} {fuel g f : Nat} {listed : Array Bool}
end
section
variable {P : Program} {n : Nat} {env : List (Nat × Value)} {w0 : Bs} {Rs : List Res} {ops : Array Oper} {Q : Exit → Act → World → Prop} {K : Act → World → Prop} {o : Oper}
/-- A call by a value that is known. -/
theorem run_callk {f : FuncId} (hfn : FnOk P f) {y : Operand} {xs : List Operand} {vs : List Value} {ts : Array TypeId} (ho : o.op = .call { callee := .value y, args := xs.toArray, argTypes := ts }) (hy : ev env y = some (.func (.func f) #[] #[])) (hx : evs env xs = some vs) {a : Act} {w : World} (hF : Frm n env a) : (execOp a.eval o).run P w = .ok (.enter f vs.toArray) w := by
 have he : xs.map a.eval = vs := hF.evs hx
 unfold execOp
 simp only [ho]
 simp only [resolve, hF.ev hy, Deferred.ofValue]
 simp [invoke, hfn.run, he]
theorem qt_callk {f : FuncId} (hfn : FnOk P f) {y : Operand} {xs : List Operand} {vs : List Value} {ts : Array TypeId} {v : Value} (ho : o.op = .call { callee := .value y, args := xs.toArray, argTypes := ts }) (hy : ev env y = some (.func (.func f) #[] #[])) (hx : evs env xs = some vs)
  (hc : ∀ w, St w0 Rs w → Calls P f vs.toArray w fun e w' => e = .returned v ∧ Over w w') : Qt P o n env w0 Rs v := fun a w hF hs => by
 rw [run_callk hfn ho hy hx hF]
 exact hc w hs
theorem op_callk {f : FuncId} (hfn : FnOk P f) {y : Operand} {xs : List Operand} {vs : List Value} {ts : Array TypeId} {d : Nat} {X : Type} {v : X → Value} {r : X → Res} {H : X → Prop} (ho : o.op = .call { callee := .value y, args := xs.toArray, argTypes := ts }) (hy : ev env y = some (.func (.func f) #[] #[])) (hx : evs env xs = some vs) (hd : o.dst = some d) (hn : d < n)
  (hc : ∀ w, St w0 Rs w → Calls P f vs.toArray w fun e w' => ∃ x, e = .returned (v x) ∧ Over w w' ∧ (r x).P w' ∧ (∀ b, (r x).F b → w.heap.size ≤ b) ∧ (r x).B = 0 ∧ H x)
  (h : ∀ x, H x → At n ((d, v x) :: env) w0 (Rs ++ [r x]) K) : At n env w0 Rs (fun a w => o.wp P a w K Q) := fun a w hF hs => by
 show o.upon P a K Q ((execOp a.eval o).run P w)
 rw [run_callk hfn ho hy hx hF]
 refine Calls.mono (hc w hs) ?_
 rintro e w' ⟨x, rfl, hO, hP, hF', hB, hH⟩
 exact hd ▸ h x hH _ _ (hF.put hn _) (hs.add hO hP hF' ⟨by rw [hB]; exact Nat.zero_le _, fun _ _ => by rw [hB]; exact Nat.zero_le _⟩)
end
end Go.Proofs.Ytjhaakollekjeaa
