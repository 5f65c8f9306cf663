import Derived.Test.YtjhaakollekjeaaDoorO4
namespace Go.Proofs.YtjhaakollekjeaaDoor
open Go Go.RowKit
set_option linter.unusedVariables false
theorem splice_app : ∀ (vs a cs c : List Value), cs.length = vs.length → splice (a ++ cs ++ c) a.length vs = a ++ vs ++ c
 | [], a, cs, c, h => by
  have : cs = [] := List.eq_nil_of_length_eq_zero (by simpa using h)
  subst this
  rfl
 | v :: r, a, [], c, h => by simp at h
 | v :: r, a, x :: cs, c, h => by
  have e : (a ++ x :: cs ++ c).set a.length v = (a ++ [v]) ++ cs ++ c := by
   rw [List.append_assoc, List.set_append_right _ _ (Nat.le_refl _), Nat.sub_self]
   simp
  rw [splice, e]
  have := splice_app r (a ++ [v]) cs c (by simpa using h)
  rw [List.length_append] at this
  rw [show a.length + 1 = a.length + [v].length from rfl, this]
  simp
theorem splice_all (vs cs : List Value) (h : cs.length = vs.length) : splice cs 0 vs = vs := by
 have := splice_app vs [] cs [] h
 simpa using this

section
variable {P : Program} {n : Nat} {env : List (Nat × Value)} {w0 : Bs} {Rs : List Res} {ops : Array Oper} {Q : Exit → Act → World → Prop} {K : Act → World → Prop} {o : Oper}
theorem op_storeAll' {T U m : Nat} {x y : Operand} {k b : Nat} {cs vs : List Value} {v : Value} (ho : o.op = .store T x y) (hd : o.dst = none) (hx : ev env x = some (.pointer (some ⟨b, 0, none⟩))) (hy : ev env y = some v) (hv : v.cells = vs.toArray) (h1 : vs.all (·.oneCell') = true)
  (hz : (P.info? T).map (·.size) = some m) (hm : vs.length = m) (hk : Rs[k]? = some (.cel b U cs)) (hl : cs.length = m) (h : At n env w0 (Rs.set k (.cel b U vs)) K) : At n env w0 Rs (fun a w => o.wp P a w K Q) :=
 op_store ho hd hx hy hv h1 hz hm hk (by omega) (by rw [splice_all vs cs (by omega)]; exact h)
theorem op_store_2_0_1 {T U : Nat} {x y : Operand} {k b : Nat} {c0 c1 v0 v : Value} (ho : o.op = .store T x y) (hd : o.dst = none) (hx : ev env x = some (.pointer (some ⟨b, 0, none⟩))) (hy : ev env y = some v) (hv : v.cells = #[v0]) (h1 : [v0].all (·.oneCell') = true) (hz : (P.info? T).map (·.size) = some 1) (hk : Rs[k]? = some (.cel b U [c0, c1])) (h : At n env w0 (Rs.set k (.cel b U [v0, c1])) K) : At n env w0 Rs (fun a w => o.wp P a w K Q) := op_store (off := 0) (vs := [v0]) ho hd hx hy hv h1 hz rfl hk (Nat.le_of_ble_eq_true rfl) h
theorem op_store_2_1_1 {T U : Nat} {x y : Operand} {k b : Nat} {c0 c1 v0 v : Value} (ho : o.op = .store T x y) (hd : o.dst = none) (hx : ev env x = some (.pointer (some ⟨b, 1, none⟩))) (hy : ev env y = some v) (hv : v.cells = #[v0]) (h1 : [v0].all (·.oneCell') = true) (hz : (P.info? T).map (·.size) = some 1) (hk : Rs[k]? = some (.cel b U [c0, c1])) (h : At n env w0 (Rs.set k (.cel b U [c0, v0])) K) : At n env w0 Rs (fun a w => o.wp P a w K Q) := op_store (off := 1) (vs := [v0]) ho hd hx hy hv h1 hz rfl hk (Nat.le_of_ble_eq_true rfl) h
theorem op_store_3_1_1 {T U : Nat} {x y : Operand} {k b : Nat} {c0 c1 c2 v0 v : Value} (ho : o.op = .store T x y) (hd : o.dst = none) (hx : ev env x = some (.pointer (some ⟨b, 1, none⟩))) (hy : ev env y = some v) (hv : v.cells = #[v0]) (h1 : [v0].all (·.oneCell') = true) (hz : (P.info? T).map (·.size) = some 1) (hk : Rs[k]? = some (.cel b U [c0, c1, c2])) (h : At n env w0 (Rs.set k (.cel b U [c0, v0, c2])) K) : At n env w0 Rs (fun a w => o.wp P a w K Q) := op_store (off := 1) (vs := [v0]) ho hd hx hy hv h1 hz rfl hk (Nat.le_of_ble_eq_true rfl) h
theorem op_store_3_2_1 {T U : Nat} {x y : Operand} {k b : Nat} {c0 c1 c2 v0 v : Value} (ho : o.op = .store T x y) (hd : o.dst = none) (hx : ev env x = some (.pointer (some ⟨b, 2, none⟩))) (hy : ev env y = some v) (hv : v.cells = #[v0]) (h1 : [v0].all (·.oneCell') = true) (hz : (P.info? T).map (·.size) = some 1) (hk : Rs[k]? = some (.cel b U [c0, c1, c2])) (h : At n env w0 (Rs.set k (.cel b U [c0, c1, v0])) K) : At n env w0 Rs (fun a w => o.wp P a w K Q) := op_store (off := 2) (vs := [v0]) ho hd hx hy hv h1 hz rfl hk (Nat.le_of_ble_eq_true rfl) h
end
end Go.Proofs.YtjhaakollekjeaaDoor
