import Derived.Test.YtjhaakollekjeaaF3
import Derived.Maps.AppendAt
namespace Go.Proofs.Ytjhaakollekjeaa
set_option linter.unusedSimpArgs false
set_option linter.unusedVariables false
open Go Go.RowKit

section
variable {P : Program} {n : Nat} {env : List (Nat × Value)} {w0 : Bs} {Rs : List Res} {ops : Array Oper} {Q : Exit → Act → World → Prop} {K : Act → World → Prop} {o : Oper}

theorem qt_of {v : Value} (h : ∀ a w, Frm n env a → St w0 Rs w → (execOp a.eval o).run P w = .ok (.value v) w) : Qt P o n env w0 Rs v := fun a w hf hs => by rw [h a w hf hs]; exact ⟨rfl, Over.refl _⟩
theorem Qt.as {v v' : Value} (h : Qt P o n env w0 Rs v) (e : v = v') : Qt P o n env w0 Rs v' := e ▸ h

theorem qt_move {x : Operand} {v : Value} (ho : o.op = .move x) (hx : ev env x = some v) : Qt P o n env w0 Rs v := qt_of fun a w hf _ => by unfold execOp; simp only [ho, hf.ev hx]; simp []
theorem qt_assign {x : Operand} {v : Value} (ho : o.op = .assign x) (hx : ev env x = some v) : Qt P o n env w0 Rs v := qt_of fun a w hf _ => by unfold execOp; simp only [ho, hf.ev hx]; simp []
section ints
variable {x y : Operand} {T T' : TypeId} {p q : Int}
theorem qt_add (ho : o.op = .binOp .add T x y T') (hx : ev env x = some (.int .i64 p)) (hy : ev env y = some (.int .i64 q)) (h1 : -9223372036854775808 ≤ p + q) (h2 : p + q ≤ 9223372036854775807) : Qt P o n env w0 Rs (.int .i64 (p + q)) :=
 qt_of fun a w hf _ => by unfold execOp; simp only [ho, hf.ev hx, hf.ev hy]; simp [go_sem, IntWalk.i64_in _ ⟨h1, h2⟩]
theorem qt_sub (ho : o.op = .binOp .sub T x y T') (hx : ev env x = some (.int .i64 p)) (hy : ev env y = some (.int .i64 q)) (h1 : -9223372036854775808 ≤ p - q) (h2 : p - q ≤ 9223372036854775807) : Qt P o n env w0 Rs (.int .i64 (p - q)) :=
 qt_of fun a w hf _ => by unfold execOp; simp only [ho, hf.ev hx, hf.ev hy]; simp [go_sem, IntWalk.i64_in _ ⟨h1, h2⟩]
theorem qt_mul (ho : o.op = .binOp .mul T x y T') (hx : ev env x = some (.int .i64 p)) (hy : ev env y = some (.int .i64 q)) (h1 : -9223372036854775808 ≤ p * q) (h2 : p * q ≤ 9223372036854775807) : Qt P o n env w0 Rs (.int .i64 (p * q)) :=
 qt_of fun a w hf _ => by unfold execOp; simp only [ho, hf.ev hx, hf.ev hy]; simp [go_sem, IntWalk.i64_in _ ⟨h1, h2⟩]
theorem qt_neg (ho : o.op = .unOp .neg T x) (hx : ev env x = some (.int .i64 p)) (h1 : -9223372036854775807 ≤ p) (h2 : p ≤ 9223372036854775807) : Qt P o n env w0 Rs (.int .i64 (-p)) :=
 qt_of fun a w hf _ => by unfold execOp; simp only [ho, hf.ev hx]; simp [go_sem, IntWalk.i64_in (-p) ⟨by omega, by omega⟩]
theorem qt_rem (ho : o.op = .binOp .rem T x y T') (hx : ev env x = some (.int .i64 p)) (hy : ev env y = some (.int .i64 q)) (hq : 0 < q) (h1 : -9223372036854775807 ≤ p) (h2 : p ≤ 9223372036854775807) : Qt P o n env w0 Rs (.int .i64 (p.tmod q)) :=
 qt_of fun a w hf _ => by
  have hq0 : ¬ q = 0 := by omega
  have hb : -9223372036854775808 ≤ p.tmod q ∧ p.tmod q ≤ 9223372036854775807 := by
   have h3 := Int.natAbs_tmod p q
   have h4 := Nat.mod_le p.natAbs q.natAbs
   omega
  unfold execOp; simp only [ho, hf.ev hx, hf.ev hy]; simp [go_sem, hq0, IntWalk.i64_in _ hb]
theorem qt_eql (ho : o.op = .binOp .eql T x y T') (hx : ev env x = some (.int .i64 p)) (hy : ev env y = some (.int .i64 q)) : Qt P o n env w0 Rs (.bool (p == q)) := qt_of fun a w hf _ => by unfold execOp; simp only [ho, hf.ev hx, hf.ev hy]; simp [go_sem]
theorem qt_neq (ho : o.op = .binOp .neq T x y T') (hx : ev env x = some (.int .i64 p)) (hy : ev env y = some (.int .i64 q)) : Qt P o n env w0 Rs (.bool (!(p == q))) := qt_of fun a w hf _ => by
 have : (p != q) = !(p == q) := rfl
 unfold execOp; simp only [ho, hf.ev hx, hf.ev hy]; simp [binOp_neq, this, go_sem]
theorem qt_lss (ho : o.op = .binOp .lss T x y T') (hx : ev env x = some (.int .i64 p)) (hy : ev env y = some (.int .i64 q)) : Qt P o n env w0 Rs (.bool (decide (p < q))) := qt_of fun a w hf _ => by unfold execOp; simp only [ho, hf.ev hx, hf.ev hy]; simp [go_sem]
theorem qt_leq (ho : o.op = .binOp .leq T x y T') (hx : ev env x = some (.int .i64 p)) (hy : ev env y = some (.int .i64 q)) : Qt P o n env w0 Rs (.bool (decide (p ≤ q))) := qt_of fun a w hf _ => by unfold execOp; simp only [ho, hf.ev hx, hf.ev hy]; simp [go_sem]
theorem qt_gtr (ho : o.op = .binOp .gtr T x y T') (hx : ev env x = some (.int .i64 p)) (hy : ev env y = some (.int .i64 q)) : Qt P o n env w0 Rs (.bool (decide (q < p))) := qt_of fun a w hf _ => by unfold execOp; simp only [ho, hf.ev hx, hf.ev hy]; simp [go_sem]
theorem qt_geq (ho : o.op = .binOp .geq T x y T') (hx : ev env x = some (.int .i64 p)) (hy : ev env y = some (.int .i64 q)) : Qt P o n env w0 Rs (.bool (decide (q ≤ p))) := qt_of fun a w hf _ => by unfold execOp; simp only [ho, hf.ev hx, hf.ev hy]; simp [go_sem]
end ints
section bools
variable {x y : Operand} {T T' : TypeId} {p q : Bool}
theorem qt_not (ho : o.op = .unOp .not T x) (hx : ev env x = some (.bool p)) : Qt P o n env w0 Rs (.bool (!p)) := qt_of fun a w hf _ => by unfold execOp; simp only [ho, hf.ev hx]; simp [go_sem]
theorem qt_neqB (hT : P.underlying T = some .bool) (ho : o.op = .binOp .neq T x y T') (hx : ev env x = some (.bool p)) (hy : ev env y = some (.bool q)) : Qt P o n env w0 Rs (.bool (!(p == q))) :=
 qt_of fun a w hf _ => by unfold execOp; simp only [ho, hf.ev hx, hf.ev hy]; simp [run_neq_bool w T p q hT, go_sem]
end bools

/-! ### Loads, places -/
def flatD : TypeDesc → Bool
 | .struct _ | .array _ _ => false
 | _ => true
/-- The type's size, and what its zero value is; the element of a slice's type; where a field lies. -/
structure Ty1 (P : Program) (T : TypeId) : Prop where
 flat : ∃ d, P.underlying T = some d ∧ flatD d = true
 size : (P.info? T).map (·.size) = some 1
structure TyS (P : Program) (T : TypeId) (m : Nat) : Prop where
 flat : ∃ d, P.underlying T = some d ∧ flatD d = false
 size : (P.info? T).map (·.size) = some m
structure TyZ (P : Program) (T : TypeId) (m k : Nat) (z : Value) : Prop where
 info : ∃ i, P.info? T = some i ∧ i.zero = some z ∧ i.size = m ∧ i.bytes = k
 cells : z.cells.size = m
structure TyL (P : Program) (T U : TypeId) (m : Nat) : Prop where
 desc : P.underlying T = some (.slice U)
 size : (P.info? U).map (·.size) = some m
structure TyF (P : Program) (T : TypeId) (i c : Nat) : Prop where
 fld : ∃ fs f, P.underlying T = some (.struct fs) ∧ fs[i]? = some f ∧ f.offset = c ∧ ∃ m, (P.info? f.type).map (·.size) = some (m + 1)
theorem TyZ.run {T : TypeId} {m k : Nat} {z : Value} (h : TyZ P T m k z) (w : World) : (zeroValue T).run P w = .ok z w := by
 obtain ⟨i, hi, hz, _⟩ := h.info
 simp [zeroValue, typeInfo, hi, hz]
theorem run_isAgg {T : TypeId} {d : TypeDesc} (hT : P.underlying T = some d) (w : World) : (isAgg T).run P w = .ok (!flatD d) w := by
 unfold isAgg
 rw [Sem.run_bind, run_underlying hT]
 simp only [Result.andThen_ok]
 cases d <;> rfl
theorem add_none (b o j : Nat) : (⟨b, o, none⟩ : Addr).add j = ⟨b, o + j, none⟩ := by unfold Addr.add; split <;> simp_all
theorem run_load1 {T : TypeId} {d : TypeDesc} (hT : P.underlying T = some d) (hd : flatD d = true) {p : Addr} {v : Value} {w : World} (hc : w.cell? p = some v) : (loadVar T p).run P w = .ok v w := by
 unfold loadVar
 rw [Sem.run_bind, run_isAgg hT, hd]
 simp [hc]
theorem run_loadS {T : TypeId} {d : TypeDesc} (hT : P.underlying T = some d) (hd : flatD d = false) {m : Nat} (hz : (P.info? T).map (·.size) = some m) {b o : Nat} {cs : List Value} (hl : cs.length = m) {w : World}
  (hc : ∀ j v, cs[j]? = some v → w.cell? ⟨b, o + j, none⟩ = some v) : (loadVar T ⟨b, o, none⟩).run P w = .ok (.agg cs.toArray) w := by
 unfold loadVar
 rw [Sem.run_bind, run_isAgg hT, hd]
 obtain ⟨i, hi, hs⟩ := Option.map_eq_some_iff.1 hz
 have hso : (sizeOf T).run P w = .ok m w := by simp [sizeOf, typeInfo, hi, hs]
 have hl' := run_loadCells (P := P) w ⟨b, o, none⟩ m (fun j => cs.getD j undef) (fun j hj => by
  rw [add_none]
  refine hc j _ ?_
  rw [List.getD_eq_getElem?_getD]
  have : j < cs.length := by omega
  simp [this])
 simp only [Bool.not_false, Result.andThen_ok, if_true, Sem.run_bind, hso, hl']
 simp only [Sem.run_pure]
 congr 2
 apply Array.ext'
 simp only [List.toList_toArray]
 apply List.ext_getElem
 ·simp; omega
 ·intro j h1 h2
  simp [List.getD_eq_getElem?_getD, h2]
theorem qt_load1 {T : TypeId} {x : Operand} {p : Addr} {v : Value} (ho : o.op = .load T x) (hx : ev env x = some (.pointer (some p))) (hT : Ty1 P T) (hc : ∀ w, St w0 Rs w → w.cell? p = some v) : Qt P o n env w0 Rs v :=
 qt_of fun a w hf hs => by
  obtain ⟨d, h1, h2⟩ := hT.flat
  unfold execOp; simp only [ho, hf.ev hx]; simp [Instr.loadAt, Instr.sureAddr, run_load1 h1 h2 (hc w hs)]
theorem qt_loadS {T : TypeId} {m : Nat} {x : Operand} {b off : Nat} {cs : List Value} (ho : o.op = .load T x) (hx : ev env x = some (.pointer (some ⟨b, off, none⟩))) (hT : TyS P T m) (hl : cs.length = m)
  (hc : ∀ w, St w0 Rs w → ∀ j v, cs[j]? = some v → w.cell? ⟨b, off + j, none⟩ = some v) : Qt P o n env w0 Rs (.agg cs.toArray) :=
 qt_of fun a w hf hs => by
  obtain ⟨d, h1, h2⟩ := hT.flat
  unfold execOp; simp only [ho, hf.ev hx]; simp [Instr.loadAt, Instr.sureAddr, run_loadS h1 h2 hT.size hl (hc w hs)]

theorem St.cel {w : World} (h : St w0 Rs w) {k b : Nat} {T : TypeId} {cs : List Value} (hk : Rs[k]? = some (.cel b T cs)) : w.heap[b]? = some (.cells cs.toArray T (0, 0)) := (h.all k _ hk).1
/-- The cells of a block of the call's own. -/
theorem rd1 {k b T off : Nat} {cs : List Value} {v : Value} (hk : Rs[k]? = some (.cel b T cs)) (hv : cs[off]? = some v) : ∀ w, St w0 Rs w → w.cell? ⟨b, off, none⟩ = some v := fun w h => by
 rw [cell_of_row w b off _ T (0, 0) (h.cel hk)]
 simpa using hv
theorem rdAll {k b T : Nat} {cs : List Value} (hk : Rs[k]? = some (.cel b T cs)) : ∀ w, St w0 Rs w → ∀ j v, cs[j]? = some v → w.cell? ⟨b, 0 + j, none⟩ = some v := fun w h j v hv => by
 rw [cell_of_row w b _ _ T (0, 0) (h.cel hk), Nat.zero_add]
 simpa using hv
theorem rd2 {k b T off : Nat} {cs : List Value} {u v : Value} (hk : Rs[k]? = some (.cel b T cs)) (hu : cs[off]? = some u) (hv : cs[off + 1]? = some v) : ∀ w, St w0 Rs w → ∀ j x, [u, v][j]? = some x → w.cell? ⟨b, off + j, none⟩ = some x := fun w h j x hx => by
 match j, hx with
 | 0, hx => rw [cell_of_row w b _ _ T (0, 0) (h.cel hk)]; simp at hx; subst hx; simpa using hu
 | 1, hx => rw [cell_of_row w b _ _ T (0, 0) (h.cel hk)]; simp at hx; subst hx; simpa using hv
theorem qt_fieldAddr {T : TypeId} {x : Operand} {i c b off : Nat} (ho : o.op = .fieldAddr T x i) (hx : ev env x = some (.pointer (some ⟨b, off, none⟩))) (hT : TyF P T i c) :
  Qt P o n env w0 Rs (.pointer (some ⟨b, off + c, none⟩)) :=
 qt_of fun a w hF _ => by
  obtain ⟨fs, f, h1, h2, h3, m, h4⟩ := hT.fld
  obtain ⟨i0, hi, hs⟩ := Option.map_eq_some_iff.1 h4
  have hso : (sizeOf f.type).run P w = .ok (m + 1) w := by simp [sizeOf, typeInfo, hi, hs]
  unfold execOp; simp only [ho, hF.ev hx]; simp [Instr.fieldAt, Instr.sureAddr, run_underlying h1, h2, h3, hso, fieldPlace, add_none]
theorem qt_extract {x : Operand} {i : Nat} {vs : List Value} {v : Value} (ho : o.op = .extract x i) (hx : ev env x = some (.tuple vs.toArray)) (hv : vs[i]? = some v) : Qt P o n env w0 Rs v :=
 qt_of fun a w hF _ => by unfold execOp; simp only [ho, hF.ev hx]; simp [Instr.extract, hv]
theorem qt_len {x : Operand} {T U : TypeId} {A : Option Addr} {m c s : Nat} (ho : o.op = .call { callee := .builtin .len, args := #[x], argTypes := #[T] }) (hx : ev env x = some (.slice A m c)) (hT : TyL P T U s) : Qt P o n env w0 Rs (.int .i64 (m : Int)) :=
 qt_of fun a w hF _ => by
  have hT := hT.desc
  have hE : P.elem T = U := by simp [Program.elem, hT]
  have := run_len_slice (P := P) w T o.type A m c (by rw [hE]; exact hT)
  unfold execOp; simp only [ho]; simp [resolve, invoke, builtin, hF.ev hx, this, goInt]
theorem qt_index {T U : TypeId} {x y : Operand} {b off m c j s : Nat} (ho : o.op = .indexAddr T x y) (hx : ev env x = some (.slice (some ⟨b, off, none⟩) m c)) (hy : ev env y = some (.int .i64 (j : Int))) (hT : TyL P T U s) (hj : j < m) :
  Qt P o n env w0 Rs (.pointer (some ⟨b, off + j * s, none⟩)) :=
 qt_of fun a w hF _ => by
  have hs := hT.size
  have hT := hT.desc
  have hE : P.elem T = U := by simp [Program.elem, hT]
  have := run_indexAt_slice (P := P) w T ⟨b, off, none⟩ m c .i64 j (by rw [hE]; exact hT)
  obtain ⟨i, hi, hs'⟩ := Option.map_eq_some_iff.1 hs
  have hso : (sizeOf U).run P w = .ok s w := by simp [sizeOf, typeInfo, hi, hs']
  rw [if_pos (by omega), hE, hso] at this
  unfold execOp; simp only [ho, hF.ev hx, hF.ev hy]; simp [this, add_none]

/-! ### Calls -/
/-- The program has the function, and its text. -/
structure FnOk (P : Program) (f : FuncId) : Prop where
 fn : ∃ fn, P.funcs[f]? = some fn ∧ (fn.name == "runtime.NumGoroutine") = false ∧ fn.body.isNone = false
theorem FnOk.run {f : FuncId} (h : FnOk P f) (vs : Array Value) (w : World) : (callFunc f vs).run P w = .ok (.enter f vs) w := by
 obtain ⟨fn, h1, h2, h3⟩ := h.fn
 unfold callFunc
 simp only [Sem.run_bind, run_program, Result.andThen_ok, h1, h2, h3, Bool.false_eq_true, if_false, Sem.run_pure]
theorem run_call {f : FuncId} (hfn : FnOk P f) {xs : List Operand} {vs : List Value} {ts : Array TypeId} (ho : o.op = .call { callee := .value (.func f), args := xs.toArray, argTypes := ts }) (hx : evs env xs = some vs) {a : Act} {w : World} (hF : Frm n env a) : (execOp a.eval o).run P w = .ok (.enter f vs.toArray) w := by
 have he : xs.map a.eval = vs := hF.evs hx
 unfold execOp
 simp only [ho]
 simp only [resolve, Deferred.ofValue, Act.eval]
 simp [invoke, hfn.run, he]
theorem qt_call {f : FuncId} (hfn : FnOk P f) {xs : List Operand} {vs : List Value} {ts : Array TypeId} {v : Value} (ho : o.op = .call { callee := .value (.func f), args := xs.toArray, argTypes := ts }) (hx : evs env xs = some vs)
  (hc : ∀ w, St w0 Rs w → Calls P f vs.toArray w fun e w' => e = .returned v ∧ Over w w') : Qt P o n env w0 Rs v := fun a w hF hs => by
 rw [run_call hfn ho hx hF]
 exact hc w hs
/-- A call that makes something. -/
theorem op_call {f : FuncId} (hfn : FnOk P f) {xs : List Operand} {vs : List Value} {ts : Array TypeId} {d : Nat} {X : Type} {v : X → Value} {r : X → Res} {H : X → Prop} (ho : o.op = .call { callee := .value (.func f), args := xs.toArray, argTypes := ts }) (hx : evs env xs = some vs) (hd : o.dst = some d) (hn : d < n)
  (hc : ∀ w, St w0 Rs w → Calls P f vs.toArray w fun e w' => ∃ x, e = .returned (v x) ∧ Over w w' ∧ (r x).P w' ∧ (∀ b, (r x).F b → w.heap.size ≤ b) ∧ (r x).B = 0 ∧ H x)
  (h : ∀ x, H x → At n ((d, v x) :: env) w0 (Rs ++ [r x]) K) : At n env w0 Rs (fun a w => o.wp P a w K Q) := fun a w hF hs => by
 show o.upon P a K Q ((execOp a.eval o).run P w)
 rw [run_call hfn ho hx hF]
 refine Calls.mono (hc w hs) ?_
 rintro e w' ⟨x, rfl, hO, hP, hF', hB, hH⟩
 exact hd ▸ h x hH _ _ (hF.put hn _) (hs.add hO hP hF' ⟨by rw [hB]; exact Nat.zero_le _, fun _ _ => by rw [hB]; exact Nat.zero_le _⟩)

/-! ### New blocks, stores -/
theorem op_alloc {T : TypeId} {d m k : Nat} {z : Value} (ho : o.op = .alloc T) (hT : TyZ P T m k z) (hd : o.dst = some d) (hn : d < n)
  (h : ∀ b, At n ((d, .pointer (some ⟨b, 0, none⟩)) :: env) w0 (Rs ++ [.cel b T z.cells.toList]) K) : At n env w0 Rs (fun a w => o.wp P a w K Q) := fun a w hF hs => by
 have : (execOp a.eval o).run P w = .ok (.value (.pointer (some ⟨w.heap.size, 0, none⟩))) (w.alloc (.cells z.cells T)) := by
  unfold execOp
  simp only [ho, Instr.alloc]
  simp [hT.run, go_sem]
 show o.upon P a K Q ((execOp a.eval o).run P w)
 rw [this, Oper.upon_value, hd]
 exact h _ _ _ (hF.put hn _) (hs.add (Over.alloc _ _) (by show (w.alloc (.cells z.cells T)).heap[w.heap.size]? = some (.cells z.cells.toList.toArray T (0, 0)); rw [heap_alloc_new, Array.toArray_toList]) (fun b hb => Nat.le_of_eq hb.symm) ⟨Nat.zero_le _, fun _ _ => Nat.zero_le _⟩)
theorem op_box {T : TypeId} {x : Operand} {d : Nat} {v : Value} {cs : List Value} (ho : o.op = .box T x) (hx : ev env x = some v) (hv : v.cells = cs.toArray) (hd : o.dst = some d) (hn : d < n)
  (h : ∀ b, At n ((d, .pointer (some ⟨b, 0, none⟩)) :: env) w0 (Rs ++ [.cel b T cs]) K) : At n env w0 Rs (fun a w => o.wp P a w K Q) := fun a w hF hs => by
 have : (execOp a.eval o).run P w = .ok (.value (.pointer (some ⟨w.heap.size, 0, none⟩))) (w.alloc (.cells cs.toArray T)) := by
  unfold execOp
  simp only [ho, Instr.box, hF.ev hx]
  simp [newVar, newRow, hv]
 show o.upon P a K Q ((execOp a.eval o).run P w)
 rw [this, Oper.upon_value, hd]
 exact h _ _ _ (hF.put hn _) (hs.add (Over.alloc _ _) (heap_alloc_new w _) (fun b hb => Nat.le_of_eq hb.symm) ⟨Nat.zero_le _, fun _ _ => Nat.zero_le _⟩)

theorem St.store {w : World} (h : St w0 Rs w) {k b T : Nat} {cs cs' : List Value} (hk : Rs[k]? = some (.cel b T cs)) : St w0 (Rs.set k (.cel b T cs')) (w.setRow b cs'.toArray) := by
 have hh := h.cel hk
 have hlow := (h.all k _ hk).2.1 b rfl
 refine h.upd hk ⟨by simpa using h.over.os, by simpa using h.over.tape, by simpa using h.over.output, by simpa using h.over.size, fun c hc hx => ?_⟩ (by simp) (fun c _ hne => setRow_other w b c _ hne) (setRow_heap w b _ _ T (0, 0) hh) (fun c hc => .inl hc) rfl
 rw [setRow_other w b c _ (fun e => hlow.elim (fun h1 => by omega) (fun h1 => hx (e ▸ h1)))]
 exact h.over.block c hc hx
end
end Go.Proofs.Ytjhaakollekjeaa

namespace Go.Proofs.Ytjhaakollekjeaa
set_option linter.unusedSimpArgs false
set_option linter.unusedVariables false
open Go Go.RowKit

theorem TyZ.szx {P : Program} {T : TypeId} {m k : Nat} {z : Value} (h : TyZ P T m k z) : (P.info? T).map (·.size) = some m := by
 obtain ⟨i, hi, _, hs, _⟩ := h.info
 simp [hi, hs]
theorem fill_agg (place : Nat → Option (Nat × Nat)) : ∀ (l : List (Nat × Value)) (cells : Array Value), Instr.fill place cells l = Instr.fill place cells (l.map fun p => (p.1, Value.agg p.2.cells))
 | [], _ => rfl
 | (i, v) :: r, cells => by
  simp only [List.map_cons, Instr.fill]
  have e : (Value.agg v.cells).cells = v.cells := rfl
  rw [e]
  split
  ·rfl
  ·split
   ·rfl
   ·exact fill_agg place r _
theorem build_agg (t : TypeId) (parts : Array (Nat × Value)) : Instr.build t parts = Instr.build t (parts.map fun p => (p.1, Value.agg p.2.cells)) := by
 unfold Instr.build
 simp only [fill_agg _ parts.toList, Array.toList_map]
theorem buildSlice_agg (t : TypeId) (m : Nat) (parts : Array (Nat × Value)) : Instr.buildSlice t m parts = Instr.buildSlice t m (parts.map fun p => (p.1, Value.agg p.2.cells)) := by
 unfold Instr.buildSlice
 simp only [fill_agg _ parts.toList, Array.toList_map]

section
variable {P : Program} {n : Nat} {env : List (Nat × Value)} {w0 : Bs} {Rs : List Res} {ops : Array Oper} {Q : Exit → Act → World → Prop} {K : Act → World → Prop} {o : Oper}

/-! ### Returns -/
theorem pass_ret {id : Nat} (h : At n env w0 Rs (fun a w => Q .ret a w)) : At n env w0 Rs (fun a w => Exit.inBlock id Q .ret a w) := h
theorem then_ret {K' : Act → World → Prop} (h : At n env w0 Rs (fun a w => Q .ret a w)) : At n env w0 Rs (fun a w => Exit.then K' Q .ret a w) := h
/-- What a result variable gives. -/
inductive RV (P : Program) (env : List (Nat × Value)) (w0 : Bs) (Rs : List Res) : ResultVar → Value → Prop
 | tmp {t : Nat} {v : Value} : look env t = some v → RV P env w0 Rs (.tmp t) v
 | cell {t : Nat} {T : TypeId} {p : Addr} {v : Value} : look env t = some (.pointer (some p)) → (∀ w, St w0 Rs w → (loadVar T p).run P w = .ok v w) → RV P env w0 Rs (.cell t T) v
def rvRun (ts : Array Value) : ResultVar → Sem Value
 | .tmp t => pure (ts.getD t undef)
 | .cell p T => do loadVar T (← asAddr (ts.getD p undef))
theorem results_rv (fn : Func) (ts : Array Value) : results fn ts = (do let vs ← fn.results.mapM (rvRun ts); pure (if h : vs.size = 1 then vs[0] else .tuple vs)) := rfl
theorem RV.run {rv : ResultVar} {v : Value} (h : RV P env w0 Rs rv v) {a : Act} {w : World} (hf : Frm n env a) (hs : St w0 Rs w) : (rvRun a.tmps rv).run P w = .ok v w := by
 cases h with
 | tmp h1 => simp only [rvRun, hf.get _ _ h1, Sem.run_pure]
 | cell h1 h2 => simp only [rvRun, hf.get _ _ h1, asAddr, Sem.run_bind, Sem.run_pure, Result.andThen_ok, h2 w hs]
theorem rvCelS {t k b T U m : Nat} {cs : List Value} (hp : look env t = some (.pointer (some ⟨b, 0, none⟩))) (hT : TyS P T m) (hk : Rs[k]? = some (.cel b U cs)) (hl : cs.length = m) : RV P env w0 Rs (.cell t T) (.agg cs.toArray) :=
 .cell hp fun w hs => by
  obtain ⟨d, h1, h2⟩ := hT.flat
  exact run_loadS h1 h2 hT.size hl (rdAll hk w hs)
theorem at_ret1 {fn : Func} {R : Ending → World → Prop} {r1 : ResultVar} {v1 : Value} (hr : fn.results = #[r1]) (h1 : RV P env w0 Rs r1 v1) (h : ∀ w, St w0 Rs w → R (.returned v1) w) : At n env w0 Rs (fun a w => bodyPost P fn R .ret a w) := fun a w hf hs => by
 refine bodyPost_ret (v := v1) ?_ hf.defers (h w hs)
 rw [results_rv, hr]
 have e1 := h1.run hf hs
 simp [List.mapM_toArray, Sem.run_bind, e1]
theorem at_ret2 {fn : Func} {R : Ending → World → Prop} {r1 r2 : ResultVar} {v1 v2 : Value} (hr : fn.results = #[r1, r2]) (h1 : RV P env w0 Rs r1 v1) (h2 : RV P env w0 Rs r2 v2) (h : ∀ w, St w0 Rs w → R (.returned (.tuple #[v1, v2])) w) : At n env w0 Rs (fun a w => bodyPost P fn R .ret a w) := fun a w hf hs => by
 refine bodyPost_ret (v := .tuple #[v1, v2]) ?_ hf.defers (h w hs)
 rw [results_rv, hr]
 have e1 := h1.run hf hs
 have e2 := h2.run hf hs
 simp [e1, e2]
/-! ### Regions that draw their order -/
variable {Rs0 : List Res} {fuel : Nat} {listed : Array Bool}
theorem yields {j dj : Nat} {b : Bool} {oj : Oper} {a : Act} (hf : Frm n env a) (hj : ops[j]? = some oj) (hdj : oj.dst = some dj) (hb : look env dj = some (.bool b)) : yielded ops a.tmps j = some b := by
 have := hf.get _ _ hb
 simp only [yielded, hj, hdj, Option.bind_some]
 rw [Array.getD_eq_getD_getElem?] at this
 cases h' : a.tmps[dj]? with
 | none => rw [h'] at this; simp [undef] at this
 | some u => rw [h'] at this; simp at this; subst this; simp
theorem dr_keep (hsub : ∀ w, St w0 Rs w → St w0 Rs0 w) (h : At n env w0 Rs K) : At n env w0 Rs (fun a w => St w0 Rs0 w ∧ K a w) := fun a w hf hs => ⟨hsub w hs, h a w hf hs⟩
/-- A further piece, in the same world. -/
theorem St.add' {w : World} {r : Res} (h : St w0 Rs w) (hP : r.P w) (hlow : ∀ b, r.F b → w0.mine b) (hap : ∀ (i : Nat) (s : Res), Rs[i]? = some s → ∀ b, r.F b → ¬ s.F b) (hB : r.B = 0) : St w0 (Rs ++ [r]) w := by
 have hget : ∀ (i : Nat) (s : Res), (Rs ++ [r])[i]? = some s → (i = Rs.length ∧ s = r) ∨ (i ≠ Rs.length ∧ Rs[i]? = some s) := by
  intro i s hi
  rcases Nat.lt_or_ge i Rs.length with hlt | hge
  ·rw [List.getElem?_append_left hlt] at hi
   exact .inr ⟨by omega, hi⟩
  ·rw [List.getElem?_append_right hge] at hi
   have : i - Rs.length = 0 := by
    rcases Nat.lt_or_ge 0 (i - Rs.length) with h0 | h0
    ·rw [List.getElem?_eq_none (by simp only [List.length_singleton]; omega)] at hi; cases hi
    ·omega
   rw [this] at hi
   exact .inl ⟨by omega, by simpa using hi.symm⟩
 refine ⟨h.over, fun i s hi => ?_, fun i j s t hij hi hj b hs ht => ?_⟩
 ·rcases hget i s hi with ⟨_, rfl⟩ | ⟨_, hi'⟩
  ·exact ⟨hP, hlow, by rw [hB]; exact Nat.zero_le _, fun _ _ => by rw [hB]; exact Nat.zero_le _⟩
  ·exact h.all i s hi'
 ·rcases hget i s hi with ⟨e1, rfl⟩ | ⟨_, hi'⟩
  ·rcases hget j t hj with ⟨e2, rfl⟩ | ⟨_, hj'⟩
   ·exact hij (e1.trans e2.symm)
   ·exact hap j t hj' b hs ht
  ·rcases hget j t hj with ⟨_, rfl⟩ | ⟨_, hj'⟩
   ·exact hap i s hi' b ht hs
   ·exact h.apart i j s t hij hi' hj' b hs ht
/-! ### Rows that grow -/
theorem at_row0 {T s : Nat} (h : At n env w0 (Rs ++ [.row w0.N T s (.slice none 0 0) 0 []]) K) : At n env w0 Rs K := fun a w hf hs =>
 h a w hf (hs.add (Over.refl _) (World.ownsRow_nil _ _ _ _) (fun b hb => by simp [Res.row, Value.ownBlock] at hb) ⟨Nat.zero_le _, fun _ _ => Nat.zero_le _⟩)
theorem op_append {x y : Operand} {T U s bytes k B0 m c d nn : Nat} {z v : Value} {ad : Addr} {xs news : List Value} (ho : o.op = .call { callee := .builtin .append, args := #[x, y], argTypes := #[T, T] }) (hT : TyL P T U s) (hZ : TyZ P U s bytes z) (hs0 : 0 < s) (hd : o.dst = some d) (hn : d < n)
  (hx : ev env x = some v) (hy : ev env y = some (.slice (some ad) m c)) (hk : Rs[k]? = some (.row B0 U s v nn xs)) (hl : news.length = m * s) (hnews : ∀ w, St w0 Rs w → ∀ j u, news[j]? = some u → w.cell? (ad.add j) = some u) (h1 : ∀ u ∈ news, u.oneCell' = true)
  (h63 : nn + m ≤ maxLen) (hbytes : (nn + m) * bytes ≤ 140737488355328) (hB : B0 ≤ w0.N)
  (h : ∀ v', At n ((d, v') :: env) w0 (Rs.set k (.row B0 U s v' (nn + m) (xs ++ news))) K) : At n env w0 Rs (fun a w => o.wp P a w K Q) := fun a w hf hs => by
 obtain ⟨i, hi, hz0, hz1, hz2⟩ := hZ.info
 have hown : w.ownsRow B0 U s v nn xs := (hs.all k _ hk).1
 obtain ⟨v', w', hr, h2, h3, _, h5⟩ := run_append_own_at (P := P) w B0 T o.type U i z s bytes hT.desc hi hz0 hz1 hz2 hZ.cells hs0 v nn xs hown ad m c news hl (hnews w hs) h1 h63 hbytes (Nat.le_trans hB hs.over.size)
 have hrun : (execOp a.eval o).run P w = .ok (.value v') w' := by
  unfold execOp
  simp only [ho, resolve, invoke, builtin, Sem.run_bind, Sem.run_pure, Result.andThen_ok, List.map_toArray, List.map_cons, List.map_nil, hf.ev hx, hf.ev hy, hr]
 show o.upon P a K Q ((execOp a.eval o).run P w)
 rw [hrun, Oper.upon_value, hd]
 refine h v' _ w' (hf.put hn v') ?_
 have hlow := (hs.all k _ hk).2.1
 refine hs.upd hk ⟨h3.os.trans hs.over.os, h3.tape.trans hs.over.tape, h3.output.trans hs.over.output, Nat.le_trans hs.over.size h3.size, fun c hc hx => ?_⟩ h3.size (fun b hb hne => h3.block b hb (fun e => hne e.symm)) h2 (fun b hb => ?_) rfl
 ·rw [h3.block c (Nat.lt_of_lt_of_le hc hs.over.size) (fun e => (hlow c e.symm).elim (fun h1 => by omega) (fun h1 => hx h1))]
  exact hs.over.block c hc hx
 rcases h5 with h5 | h5
 ·left
  have hb' : v'.ownBlock = some b := hb
  rw [h5] at hb'
  exact hb'
 ·right
  have hb' : v'.ownBlock = some b := hb
  rw [h5] at hb'
  injection hb' with hb'
  omega
end
end Go.Proofs.Ytjhaakollekjeaa

namespace Go.Proofs.Ytjhaakollekjeaa
open Go Go.RowKit
set_option linter.unusedSimpArgs false
set_option linter.unusedVariables false

section
variable {P : Program} {n : Nat} {env : List (Nat × Value)} {w0 : Bs} {Rs : List Res} {ops : Array Oper} {Q : Exit → Act → World → Prop} {K : Act → World → Prop} {o : Oper}

/-! ### Tests that are decided on two ways -/
theorem at_bsplit (t : Nat) {b : Bool} (hb : look env t = some (.bool b)) (h1 : b = true → At n ((t, .bool true) :: env) w0 Rs K) (h0 : b = false → At n ((t, .bool false) :: env) w0 Rs K) : At n env w0 Rs K := by
 intro a w hf hs
 have hg := hf.get _ _ hb
 have key : ∀ c : Bool, b = c → Frm n ((t, .bool c) :: env) a := fun c hc => ⟨hf.size, fun k v hk => by
  unfold look at hk
  split at hk
  ·rename_i hkt
   have : t = k := Nat.eq_of_beq_eq_true hkt
   subst this
   injection hk with hk
   rw [hg, hc, hk]
  ·exact hf.get k v hk, hf.defers⟩
 cases hc : b
 ·exact h0 hc a w (key false hc) hs
 ·exact h1 hc a w (key true hc) hs
/-- The value of a temporary, written otherwise. -/
theorem at_as (t : Nat) (v' : Value) {v : Value} (hv : look env t = some v) (e : v = v') (h : At n ((t, v') :: env) w0 Rs K) : At n env w0 Rs K := fun a w hf hs => by
 refine h a w ⟨hf.size, fun k u hk => ?_, hf.defers⟩ hs
 unfold look at hk
 split at hk
 ·rename_i hkt
  have : t = k := Nat.eq_of_beq_eq_true hkt
  subst this
  injection hk with hk
  rw [hf.get _ _ hv, e, hk]
 ·exact hf.get k u hk
theorem at_rsE {Rs' : List Res} (e : Rs = Rs') (h : At n env w0 Rs' K) : At n env w0 Rs K := e ▸ h
theorem at_envE {env' : List (Nat × Value)} (e : env = env') (h : At n env' w0 Rs K) : At n env w0 Rs K := e ▸ h
theorem yields_not {j dj : Nat} {oj : Oper} {a : Act} (hf : Frm n env a) (hj : ops[j]? = some oj) (hdj : oj.dst = some dj) (hb : look env dj = some undef) : yielded ops a.tmps j = none := by
 have := hf.get _ _ hb
 simp only [yielded, hj, hdj, Option.bind_some]
 rw [Array.getD_eq_getD_getElem?] at this
 cases h' : a.tmps[dj]? with
 | none => rfl
 | some u => rw [h'] at this; simp at this; subst this; rfl
def pfx : List Res → List Res → Prop
 | [], _ => True
 | _ :: _, [] => False
 | a :: l, b :: r => a = b ∧ pfx l r
theorem pfx.get : ∀ {l r : List Res}, pfx l r → ∀ i, i < l.length → r[i]? = l[i]?
 | [], _, _, i, h => absurd h (by simp)
 | _ :: _, [], h, _, _ => h.elim
 | a :: l, b :: r, h, 0, _ => by obtain ⟨rfl, _⟩ := h; rfl
 | a :: l, b :: r, h, i + 1, hi => by simpa using pfx.get h.2 i (by simpa using hi)
theorem St.upto {w : World} {Rs' : List Res} (h : St w0 Rs w) (hp : pfx Rs' Rs) : St w0 Rs' w := h.sel id (fun _ _ _ _ e => e) (fun i hi => hp.get i hi)
/-- One piece, seen otherwise. -/
theorem St.chg {w : World} {k : Nat} {r r' : Res} (h : St w0 Rs w) (hk : Rs[k]? = some r) (hP : r.P w → r'.P w) (hF : ∀ b, r'.F b → r.F b) (hB : r'.B = 0) : St w0 (Rs.set k r') w :=
 h.upd hk h.over (Nat.le_refl _) (fun _ _ _ => rfl) (hP (h.all k r hk).1) (fun b hb => .inl (hF b hb)) hB

theorem at_loopc {X : Type} {c : Code} (H : X → Prop) (m : X → Nat) (U : X → List (Nat × Value)) {C : List (Nat × Value)} (hC : sub env C) (Rs' : X → List Res) (x0 : X) (h0 : H x0) (he : sub env (U x0 ++ C)) (hr : ∀ w, St w0 Rs w → St w0 (Rs' x0) w)
  (round : ∀ x, H x → ∀ L : Act → World → Prop, (∀ y, H y → m y < m x → At n (U y ++ C) w0 (Rs' y) L) → At n (U x ++ C) w0 (Rs' x) (fun a w => c.wp P (Exit.then L Q) a w)) :
  At n env w0 Rs (fun a w => (Code.loop c).wp P Q a w) := at_loop H m (fun x => U x ++ C) Rs' x0 h0 he hr round
theorem at_loopk {X : Type} {c : Code} (H : X → Prop) (m : X → Nat) (U : X → List (Nat × Value)) {C : List (Nat × Value)} (hC : sub env C) (x0 : X) (h0 : H x0) (he : sub env (U x0 ++ C))
  (round : ∀ x, H x → ∀ L : Act → World → Prop, (∀ y, H y → m y < m x → At n (U y ++ C) w0 Rs L) → At n (U x ++ C) w0 Rs (fun a w => c.wp P (Exit.then L Q) a w)) :
  At n env w0 Rs (fun a w => (Code.loop c).wp P Q a w) := at_loop H m (fun x => U x ++ C) (fun _ => Rs) x0 h0 he (fun _ h => h) round
theorem at_againk {X : Type} {H : X → Prop} {m : X → Nat} {x : X} {U : X → List (Nat × Value)} {C : List (Nat × Value)} {Rs' : List Res} {L : Act → World → Prop} (hL : ∀ y, H y → m y < m x → At n (U y ++ C) w0 Rs' L) (y : X) (hy : H y) (hm : m y < m x)
  (he : sub env (U y ++ C)) (hr : ∀ w, St w0 Rs w → St w0 Rs' w) : At n env w0 Rs L := fun a w hf hs => hL y hy hm a w (hf.sub he) (hr w hs)
theorem at_againc {X : Type} {H : X → Prop} {m : X → Nat} {x : X} {U : X → List (Nat × Value)} {C : List (Nat × Value)} {Rs' : X → List Res} {L : Act → World → Prop} (hL : ∀ y, H y → m y < m x → At n (U y ++ C) w0 (Rs' y) L) (y : X) (hy : H y) (hm : m y < m x)
  (he : sub env (U y ++ C)) (hr : ∀ w, St w0 Rs w → St w0 (Rs' y) w) : At n env w0 Rs L := fun a w hf hs => hL y hy hm a w (hf.sub he) (hr w hs)

/-! ### More operations -/
theorem qt_pickT {c x y : Operand} {v : Value} (ho : o.op = .pick c x y) (hc : ev env c = some (.bool true)) (hx : ev env x = some v) : Qt P o n env w0 Rs v :=
 qt_of fun a w hf _ => by unfold execOp; simp only [ho, hf.ev hx, hf.ev hc]; simp [asBool]
theorem qt_pickF {c x y : Operand} {v : Value} (ho : o.op = .pick c x y) (hc : ev env c = some (.bool false)) (hy : ev env y = some v) : Qt P o n env w0 Rs v :=
 qt_of fun a w hf _ => by unfold execOp; simp only [ho, hf.ev hy, hf.ev hc]; simp [asBool]
theorem qt_nilCheck {x : Operand} {p : Addr} (ho : o.op = .nilCheck x) (hx : ev env x = some (.pointer (some p))) : Qt P o n env w0 Rs (.pointer (some p)) :=
 qt_of fun a w hf _ => by unfold execOp; simp only [ho, hf.ev hx]; simp
def evp (env : List (Nat × Value)) : List (Nat × Operand) → Option (List (Nat × Value))
 | [] => some []
 | (i, x) :: r => match ev env x with
  | none => none
  | some v => match evp env r with
   | none => none
   | some vs => some ((i, v) :: vs)
theorem Frm.evp {a : Act} (h : Frm n env a) : ∀ {xs : List (Nat × Operand)} {vs : List (Nat × Value)}, evp env xs = some vs → xs.map (fun p => (p.1, a.eval p.2)) = vs
 | [], vs, hx => by simpa [Go.Proofs.Ytjhaakollekjeaa.evp] using hx
 | (i, x) :: r, vs, hx => by
  unfold Go.Proofs.Ytjhaakollekjeaa.evp at hx
  split at hx
  ·cases hx
  ·rename_i v hv
   split at hx
   ·cases hx
   ·rename_i us hus
    injection hx with hx
    subst hx
    rw [List.map_cons, h.ev hv, h.evp hus]
theorem qt_build {T : TypeId} {ps : List (Nat × Operand)} {vs : List (Nat × Value)} {r : Value} (ho : o.op = .build T ps.toArray) (hx : evp env ps = some vs) (hb : ∀ w, (Instr.build T vs.toArray).run P w = .ok r w) : Qt P o n env w0 Rs r :=
 qt_of fun a w hf _ => by
  have he := hf.evp hx
  unfold execOp
  simp only [ho]
  have e2 : (ps.toArray.map fun x => match x with | (i, x) => (i, a.eval x)) = vs.toArray := by rw [← he]; simp
  simp only [e2, Sem.run_bind, hb, Result.andThen_ok, Sem.run_pure]
theorem op_buildSlice {T U m d : Nat} {ps : List (Nat × Operand)} {vs : List (Nat × Value)} {cs : List Value} (ho : o.op = .buildSlice T m ps.toArray) (hx : evp env ps = some vs) (hb : ∀ w, (Instr.buildSlice T m vs.toArray).run P w = .ok (.slice (some ⟨w.heap.size, 0, none⟩) m m) (w.alloc (.cells cs.toArray U))) (hd : o.dst = some d) (hn : d < n)
  (h : ∀ b, At n ((d, .slice (some ⟨b, 0, none⟩) m m) :: env) w0 (Rs ++ [.cel b U cs]) K) : At n env w0 Rs (fun a w => o.wp P a w K Q) := fun a w hf hs => by
 have he := hf.evp hx
 have e2 : (ps.toArray.map fun x => match x with | (i, x) => (i, a.eval x)) = vs.toArray := by rw [← he]; simp
 have hrun : (execOp a.eval o).run P w = .ok (.value (.slice (some ⟨w.heap.size, 0, none⟩) m m)) (w.alloc (.cells cs.toArray U)) := by
  unfold execOp
  simp only [ho, e2, Sem.run_bind, hb, Result.andThen_ok, Sem.run_pure]
 show o.upon P a K Q ((execOp a.eval o).run P w)
 rw [hrun, Oper.upon_value, hd]
 exact h _ _ _ (hf.put hn _) (hs.add (Over.alloc _ _) (heap_alloc_new w _) (fun b hb => Nat.le_of_eq hb.symm) ⟨Nat.zero_le _, fun _ _ => Nat.zero_le _⟩)
/-- A made slice without elements, as a row. -/
theorem at_rowE (k : Nat) (hX : w0.X = []) {b U s m : Nat} (hk : Rs[k]? = some (.cel b U [])) (h : At n env w0 (Rs.set k (.row w0.N U s (.slice (some ⟨b, 0, none⟩) 0 0) 0 [])) K) : At n env w0 Rs K := fun a w hf hs => by
 have hlow : w0.N ≤ b := ((hs.all k _ hk).2.1 b rfl).elim id (fun h => by rw [hX] at h; cases h)
 refine h a w hf (hs.chg hk (fun hP => ?_) (fun c hc => ?_) rfl)
 ·exact ⟨by simp, .inr ⟨b, 0, #[], rfl, hlow, hP, Nat.le_refl _, by unfold maxLen; omega, by simp, by simp⟩⟩
 ·have : some b = some c := hc
  injection this with this
  exact this.symm
/-- Nothing has turned but block b, and new blocks. -/
structure Wr (b : Nat) (w w' : World) : Prop where
 os : w'.os = w.os
 tape : w'.tape = w.tape
 output : w'.output = w.output
 size : w.heap.size ≤ w'.heap.size
 block : ∀ c, c < w.heap.size → c ≠ b → w'.heap[c]? = w.heap[c]?
theorem Ovx.wr {w w' : World} {b : Nat} (h : Ovx ⟨w, [b]⟩ w') : Wr b w w' := ⟨h.os, h.tape, h.output, h.size, fun c hc hne => h.block c hc (by simpa using hne)⟩
def splice (cs : List Value) : Nat → List Value → List Value
 | _, [] => cs
 | o, v :: r => splice (cs.set o v) (o + 1) r
theorem splice_len : ∀ (vs : List Value) (cs : List Value) (o : Nat), (splice cs o vs).length = cs.length
 | [], _, _ => rfl
 | v :: r, cs, o => by rw [splice, splice_len r]; simp
theorem setRow_setRow (w : World) (b : Nat) (c d : Array Value) : (w.setRow b c).setRow b d = w.setRow b d := by
 simp only [World.setRow]
 congr 1
 apply Array.ext_getElem?
 intro i
 simp only [Array.getElem?_modify]
 split
 ·cases w.heap[i]? with
  | none => rfl
  | some o => cases o <;> rfl
 ·rfl
theorem setRow_same (w : World) (b : Nat) (c : Array Value) (T : TypeId) (h : w.heap[b]? = some (.cells c T (0, 0))) : w.setRow b c = w := by
 have : (w.setRow b c).heap = w.heap := by
  apply Array.ext_getElem?
  intro i
  by_cases hi : i = b
  ·subst hi; rw [setRow_heap w i _ _ T (0, 0) h, h]
  ·exact setRow_other w b i c hi
 cases w
 simp only [World.setRow] at this ⊢
 congr 1
theorem run_storeCells {b U : Nat} : ∀ (vs : List Value) (off i : Nat) (cs : List Value) (w : World), w.heap[b]? = some (.cells cs.toArray U (0, 0)) → off + i + vs.length ≤ cs.length → vs.all (·.oneCell') = true →
  (storeCells ⟨b, off, none⟩ vs i).run P w = .ok () (w.setRow b (splice cs (off + i) vs).toArray)
 | [], off, i, cs, w, hh, _, _ => by
  simp only [storeCells, Sem.run_pure, splice]
  rw [setRow_same w b _ U hh]
 | v :: r, off, i, cs, w, hh, hl, h1 => by
  simp only [List.all_cons, Bool.and_eq_true] at h1
  simp only [List.length_cons] at hl
  have hc : w.cell? ⟨b, off + i, none⟩ = some cs[off + i] := by rw [cell_of_row w b _ _ U (0, 0) hh]; simp <;> omega
  have hfz : w.frozen? ⟨b, off + i, none⟩ = false := by simp [World.frozen?, hh]
  have hset : w.setCell ⟨b, off + i, none⟩ v = w.setRow b (cs.set (off + i) v).toArray := by
   simp only [World.setCell, World.setRow]
   congr 1
   apply Array.ext_getElem?
   intro j
   simp only [Array.getElem?_modify]
   split
   ·rename_i hj
    subst hj
    rw [hh]
    simp
   ·rfl
  have hst := run_store P w ⟨b, off + i, none⟩ v .plain h1.1
  rw [hc] at hst
  simp only [hfz, Bool.false_eq_true, if_false, hset] at hst
  have hh2 := setRow_heap w b _ (cs.set (off + i) v).toArray U (0, 0) hh
  have ih := run_storeCells r off (i + 1) (cs.set (off + i) v) _ hh2 (by simp; omega) h1.2
  simp only [storeCells, Sem.run_bind, add_none]
  have hst' : (store ⟨b, off + i, none⟩ v).run P w = .ok () (w.setRow b (cs.set (off + i) v).toArray) := hst
  rw [hst']
  simp only [Result.andThen_ok]
  rw [ih, setRow_setRow]
  rfl
theorem op_store {T U m : Nat} {x y : Operand} {k b off : Nat} {cs vs : List Value} {v : Value} (ho : o.op = .store T x y) (hd : o.dst = none) (hx : ev env x = some (.pointer (some ⟨b, off, none⟩))) (hy : ev env y = some v) (hv : v.cells = vs.toArray) (h1 : vs.all (·.oneCell') = true)
  (hz : (P.info? T).map (·.size) = some m) (hm : vs.length = m) (hk : Rs[k]? = some (.cel b U cs)) (hlt : off + vs.length ≤ cs.length) (h : At n env w0 (Rs.set k (.cel b U (splice cs off vs))) K) : At n env w0 Rs (fun a w => o.wp P a w K Q) := fun a w hf hs => by
 have hh := hs.cel hk
 have hso : (sizeOf T).run P w = .ok m w := by
  obtain ⟨i, hi, hs'⟩ := Option.map_eq_some_iff.1 hz
  simp [sizeOf, typeInfo, hi, hs']
 have hst := run_storeCells (P := P) vs off 0 cs w hh (by omega) h1
 have hrun : (execOp a.eval o).run P w = .ok .skip (w.setRow b (splice cs off vs).toArray) := by
  unfold execOp
  simp only [ho, hf.ev hx, hf.ev hy, Instr.storeAt, Instr.sureAddr, storeVar, hv]
  simp only [Sem.run_bind, Sem.run_pure, Result.andThen_ok, hso]
  have : ¬ (vs.toArray.size ≠ m) := by simp [hm]
  simp only [this, if_false, hst, Result.andThen_ok]
  rfl
 show o.upon P a K Q ((execOp a.eval o).run P w)
 rw [hrun, Oper.upon_skip, hd]
 exact h _ _ hf (hs.store hk)
end
end Go.Proofs.Ytjhaakollekjeaa
