/- The calculus of walks: what is appended within the room there is; what is cleared; slices of points shortened in place. -/
import Derived.Test.YtnalgllmdpcjcaaSnapped
import Derived.Test.YtnalgllmdpcjcaaLex
import Derived.ArgAppend
namespace Go.Proofs.Ytnalgllmdpcjcaa
open Go Go.RowKit
set_option linter.unusedVariables false

theorem setCells_splice {w : World} {b U : Nat} {cs vs : List Value} {off : Nat} (hh : w.heap[b]? = some (.cells cs.toArray U (0, 0))) (hl : off + vs.length ≤ cs.length) (h1 : vs.all (·.oneCell') = true) : w.setCells b off vs = w.setRow b (splice cs off vs).toArray := by
  have hcell : ∀ j, j < vs.length → (w.cell? ⟨b, off + 0 + j, none⟩).isSome = true := fun j hj => by
    rw [cell_of_row w b _ _ U (0, 0) hh]
    simp; omega
  have hfz : ∀ j, j < vs.length → w.frozen? ⟨b, off + 0 + j, none⟩ = false := fun j hj => by simp [World.frozen?, hh]
  have e1 := run_storeCells_cells (P := default) b off vs 0 w hcell hfz (fun v hv => by simpa using List.all_eq_true.1 h1 v hv)
  have e2 := run_storeCells (P := default) vs off 0 cs w hh (by omega) h1
  rw [e1] at e2
  injection e2
section
variable {P : Program} {n : Nat} {env : List (Nat × Value)} {w0 : Bs} {Rs : List Res} {ops : Array Oper} {Q : Exit → Act → World → Prop} {K : Act → World → Prop} {o : Oper}
theorem op_appendIn {x y : Operand} {T U s bytes k b b2 off2 m c cap d nn U' : Nat} {z : Value} {cs news : List Value} (ho : o.op = .call { callee := .builtin .append, args := #[x, y], argTypes := #[T, T] }) (hT : TyL P T U s) (hZ : TyZ P U s bytes z) (hd : o.dst = some d) (hn : d < n)
    (hx : ev env x = some (.slice (some ⟨b, 0, none⟩) nn cap)) (hy : ev env y = some (.slice (some ⟨b2, off2, none⟩) m c)) (hk : Rs[k]? = some (.cel b U' cs)) (hl : news.length = m * s) (hnews : ∀ w, St w0 Rs w → ∀ j u, news[j]? = some u → w.cell? ⟨b2, off2 + j, none⟩ = some u) (h1 : news.all (·.oneCell') = true)
    (hroom : nn + m ≤ cap) (hfit : nn * s + news.length ≤ cs.length)
    (h : At n ((d, .slice (some ⟨b, 0, none⟩) (nn + m) cap) :: env) w0 (Rs.set k (.cel b U' (splice cs (nn * s) news))) K) : At n env w0 Rs (fun a w => o.wp P a w K Q) := fun a w hf hs => by
  obtain ⟨i, hi, hz0, hz1, hz2⟩ := hZ.info
  have hh := hs.cel hk
  have hr := run_append_room_cells (P := P) w T o.type U i hT.desc hi b 0 nn cap ⟨b2, off2, none⟩ m c news (by rw [hz1]; exact hl) (fun j u hj => by rw [add_none]; exact hnews w hs j u hj) (fun u hu => by simpa using List.all_eq_true.1 h1 u hu) hroom
    (fun j hj => by rw [cell_of_row w b _ _ U' (0, 0) hh, hz1]; simp; omega) (fun j hj => by simp [World.frozen?, hh])
  rw [hz1, Nat.zero_add, setCells_splice hh hfit h1] at hr
  have hrun : (execOp a.eval o).run P w = .ok (.value (.slice (some ⟨b, 0, none⟩) (nn + m) cap)) (w.setRow b (splice cs (nn * s) news).toArray) := by
    unfold execOp
    simp only [ho, resolve, invoke, builtin, Sem.run_bind, Sem.run_pure, Result.andThen_ok, List.map_toArray, List.map_cons, List.map_nil, hf.ev hx, hf.ev hy, hr]
  show o.upon P a K Q ((execOp a.eval o).run P w)
  rw [hrun, Oper.upon_value, hd]
  exact h _ _ (hf.put hn _) (hs.store hk)
theorem op_clear {x : Operand} {T U s bytes k b off m c U' : Nat} {z : Value} {cs zs : List Value} (ho : o.op = .call { callee := .builtin .clear, args := #[x], argTypes := #[T] }) (hT : TyL P T U s) (hZ : TyZ P U s bytes z) (hd : o.dst = none)
    (hx : ev env x = some (.slice (some ⟨b, off, none⟩) m c)) (hm : 0 < m) (hk : Rs[k]? = some (.cel b U' cs)) (hzs : (Builtin.zeroCells z.cells m).toList = zs) (h1 : zs.all (·.oneCell') = true) (hfit : off + zs.length ≤ cs.length)
    (h : At n env w0 (Rs.set k (.cel b U' (splice cs off zs))) K) : At n env w0 Rs (fun a w => o.wp P a w K Q) := fun a w hf hs => by
  have hh := hs.cel hk
  have hst := run_storeCells (P := P) zs off 0 cs w hh (by omega) h1
  obtain ⟨m', rfl⟩ : ∃ m', m = m' + 1 := ⟨m - 1, by omega⟩
  have hcl : (Builtin.clear_ #[T] o.type #[.slice (some ⟨b, off, none⟩) (m' + 1) c]).run P w = .ok (.tuple #[]) (w.setRow b (splice cs off zs).toArray) := by
    simp [Builtin.clear_, run_underlying hT.desc, hZ.run, hzs, hst]
  have hrun : (execOp a.eval o).run P w = .ok (.value (.tuple #[])) (w.setRow b (splice cs off zs).toArray) := by
    unfold execOp
    simp only [ho, resolve, invoke, builtin, Sem.run_bind, Sem.run_pure, Result.andThen_ok, List.map_toArray, List.map_cons, List.map_nil, hf.ev hx, hcl]
  show o.upon P a K Q ((execOp a.eval o).run P w)
  rw [hrun, Oper.upon_value, hd]
  exact h _ _ hf (hs.store hk)
end
end Go.Proofs.Ytnalgllmdpcjcaa
