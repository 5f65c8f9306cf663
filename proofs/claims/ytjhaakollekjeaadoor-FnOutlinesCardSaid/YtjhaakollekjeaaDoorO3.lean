import Derived.Test.YtjhaakollekjeaaDoorO2
namespace Go.Proofs.YtjhaakollekjeaaDoor
set_option linter.unusedSimpArgs false
set_option linter.unusedVariables false
open Go Go.RowKit

section
variable {P : Program} {n : Nat} {env : List (Nat × Value)} {w0 : Bs} {Rs : List Res} {ops : Array Oper} {Q : Exit → Act → World → Prop} {K : Act → World → Prop} {o : Oper}

theorem qt_of {v : Value} (h : ∀ a w, Frm n env a → St w0 Rs w → (execOp a.eval o).run P w = .ok (.value v) w) : Qt P o n env w0 Rs v := fun a w hf hs => by rw [h a w hf hs]; exact ⟨rfl, Over.refl _⟩
theorem Qt.as {v v' : Value} (h : Qt P o n env w0 Rs v) (e : v = v') : Qt P o n env w0 Rs v' := e ▸ h

theorem qt_move {x : Operand} {v : Value} (ho : o.op = .move x) (hx : ev env x = some v) : Qt P o n env w0 Rs v := qt_of fun a w hf _ => by unfold execOp; simp only [ho, hf.ev hx]; simp []
theorem qt_assign {x : Operand} {v : Value} (ho : o.op = .assign x) (hx : ev env x = some v) : Qt P o n env w0 Rs v := qt_of fun a w hf _ => by unfold execOp; simp only [ho, hf.ev hx]; simp []
section ints
variable {x y : Operand} {T T' : TypeId} {p q : Int}
theorem qt_add (ho : o.op = .binOp .add T x y T') (hx : ev env x = some (.int .i64 p)) (hy : ev env y = some (.int .i64 q)) (h1 : -9223372036854775808 ≤ p + q) (h2 : p + q ≤ 9223372036854775807) : Qt P o n env w0 Rs (.int .i64 (p + q)) :=
 qt_of fun a w hf _ => by unfold execOp; simp only [ho, hf.ev hx, hf.ev hy]; simp [go_sem, IntWalk.i64_in _ ⟨h1, h2⟩]
theorem qt_sub (ho : o.op = .binOp .sub T x y T') (hx : ev env x = some (.int .i64 p)) (hy : ev env y = some (.int .i64 q)) (h1 : -9223372036854775808 ≤ p - q) (h2 : p - q ≤ 9223372036854775807) : Qt P o n env w0 Rs (.int .i64 (p - q)) :=
 qt_of fun a w hf _ => by unfold execOp; simp only [ho, hf.ev hx, hf.ev hy]; simp [go_sem, IntWalk.i64_in _ ⟨h1, h2⟩]
theorem qt_mul (ho : o.op = .binOp .mul T x y T') (hx : ev env x = some (.int .i64 p)) (hy : ev env y = some (.int .i64 q)) (h1 : -9223372036854775808 ≤ p * q) (h2 : p * q ≤ 9223372036854775807) : Qt P o n env w0 Rs (.int .i64 (p * q)) :=
 qt_of fun a w hf _ => by unfold execOp; simp only [ho, hf.ev hx, hf.ev hy]; simp [go_sem, IntWalk.i64_in _ ⟨h1, h2⟩]
theorem qt_neg (ho : o.op = .unOp .neg T x) (hx : ev env x = some (.int .i64 p)) (h1 : -9223372036854775807 ≤ p) (h2 : p ≤ 9223372036854775807) : Qt P o n env w0 Rs (.int .i64 (-p)) :=
 qt_of fun a w hf _ => by unfold execOp; simp only [ho, hf.ev hx]; simp [go_sem, IntWalk.i64_in (-p) ⟨by omega, by omega⟩]
theorem qt_rem (ho : o.op = .binOp .rem T x y T') (hx : ev env x = some (.int .i64 p)) (hy : ev env y = some (.int .i64 q)) (hq : 0 < q) (h1 : -9223372036854775807 ≤ p) (h2 : p ≤ 9223372036854775807) : Qt P o n env w0 Rs (.int .i64 (p.tmod q)) :=
 qt_of fun a w hf _ => by
  have hq0 : ¬ q = 0 := by omega
  have hb : -9223372036854775808 ≤ p.tmod q ∧ p.tmod q ≤ 9223372036854775807 := by
   have h3 := Int.natAbs_tmod p q
   have h4 := Nat.mod_le p.natAbs q.natAbs
   omega
  unfold execOp; simp only [ho, hf.ev hx, hf.ev hy]; simp [go_sem, hq0, IntWalk.i64_in _ hb]
theorem qt_eql (ho : o.op = .binOp .eql T x y T') (hx : ev env x = some (.int .i64 p)) (hy : ev env y = some (.int .i64 q)) : Qt P o n env w0 Rs (.bool (p == q)) := qt_of fun a w hf _ => by unfold execOp; simp only [ho, hf.ev hx, hf.ev hy]; simp [go_sem]
theorem qt_neq (ho : o.op = .binOp .neq T x y T') (hx : ev env x = some (.int .i64 p)) (hy : ev env y = some (.int .i64 q)) : Qt P o n env w0 Rs (.bool (!(p == q))) := qt_of fun a w hf _ => by
 have : (p != q) = !(p == q) := rfl
 unfold execOp; simp only [ho, hf.ev hx, hf.ev hy]; simp [binOp_neq, this, go_sem]
theorem qt_lss (ho : o.op = .binOp .lss T x y T') (hx : ev env x = some (.int .i64 p)) (hy : ev env y = some (.int .i64 q)) : Qt P o n env w0 Rs (.bool (decide (p < q))) := qt_of fun a w hf _ => by unfold execOp; simp only [ho, hf.ev hx, hf.ev hy]; simp [go_sem]
theorem qt_leq (ho : o.op = .binOp .leq T x y T') (hx : ev env x = some (.int .i64 p)) (hy : ev env y = some (.int .i64 q)) : Qt P o n env w0 Rs (.bool (decide (p ≤ q))) := qt_of fun a w hf _ => by unfold execOp; simp only [ho, hf.ev hx, hf.ev hy]; simp [go_sem]
theorem qt_gtr (ho : o.op = .binOp .gtr T x y T') (hx : ev env x = some (.int .i64 p)) (hy : ev env y = some (.int .i64 q)) : Qt P o n env w0 Rs (.bool (decide (q < p))) := qt_of fun a w hf _ => by unfold execOp; simp only [ho, hf.ev hx, hf.ev hy]; simp [go_sem]
theorem qt_geq (ho : o.op = .binOp .geq T x y T') (hx : ev env x = some (.int .i64 p)) (hy : ev env y = some (.int .i64 q)) : Qt P o n env w0 Rs (.bool (decide (q ≤ p))) := qt_of fun a w hf _ => by unfold execOp; simp only [ho, hf.ev hx, hf.ev hy]; simp [go_sem]
end ints
section bools
variable {x y : Operand} {T T' : TypeId} {p q : Bool}
theorem qt_not (ho : o.op = .unOp .not T x) (hx : ev env x = some (.bool p)) : Qt P o n env w0 Rs (.bool (!p)) := qt_of fun a w hf _ => by unfold execOp; simp only [ho, hf.ev hx]; simp [go_sem]
end bools

/-! ### Loads, places -/
def flatD : TypeDesc → Bool
 | .struct _ | .array _ _ => false
 | _ => true
/-- The type's size, and what its zero value is; the element of a slice's type; where a field lies. -/
structure Ty1 (P : Program) (T : TypeId) : Prop where
 flat : ∃ d, P.underlying T = some d ∧ flatD d = true
 size : (P.info? T).map (·.size) = some 1
structure TyS (P : Program) (T : TypeId) (m : Nat) : Prop where
 flat : ∃ d, P.underlying T = some d ∧ flatD d = false
 size : (P.info? T).map (·.size) = some m
structure TyZ (P : Program) (T : TypeId) (m k : Nat) (z : Value) : Prop where
 info : ∃ i, P.info? T = some i ∧ i.zero = some z ∧ i.size = m ∧ i.bytes = k
 cells : z.cells.size = m
structure TyL (P : Program) (T U : TypeId) (m : Nat) : Prop where
 desc : P.underlying T = some (.slice U)
 size : (P.info? U).map (·.size) = some m
structure TyF (P : Program) (T : TypeId) (i c : Nat) : Prop where
 fld : ∃ fs f, P.underlying T = some (.struct fs) ∧ fs[i]? = some f ∧ f.offset = c ∧ ∃ m, (P.info? f.type).map (·.size) = some (m + 1)
theorem TyZ.run {T : TypeId} {m k : Nat} {z : Value} (h : TyZ P T m k z) (w : World) : (zeroValue T).run P w = .ok z w := by
 obtain ⟨i, hi, hz, _⟩ := h.info
 simp [zeroValue, typeInfo, hi, hz]
theorem run_isAgg {T : TypeId} {d : TypeDesc} (hT : P.underlying T = some d) (w : World) : (isAgg T).run P w = .ok (!flatD d) w := by
 unfold isAgg
 rw [Sem.run_bind, run_underlying hT]
 simp only [Result.andThen_ok]
 cases d <;> rfl
theorem add_none (b o j : Nat) : (⟨b, o, none⟩ : Addr).add j = ⟨b, o + j, none⟩ := by unfold Addr.add; split <;> simp_all
theorem run_load1 {T : TypeId} {d : TypeDesc} (hT : P.underlying T = some d) (hd : flatD d = true) {p : Addr} {v : Value} {w : World} (hc : w.cell? p = some v) : (loadVar T p).run P w = .ok v w := by
 unfold loadVar
 rw [Sem.run_bind, run_isAgg hT, hd]
 simp [hc]
theorem run_loadS {T : TypeId} {d : TypeDesc} (hT : P.underlying T = some d) (hd : flatD d = false) {m : Nat} (hz : (P.info? T).map (·.size) = some m) {b o : Nat} {cs : List Value} (hl : cs.length = m) {w : World}
  (hc : ∀ j v, cs[j]? = some v → w.cell? ⟨b, o + j, none⟩ = some v) : (loadVar T ⟨b, o, none⟩).run P w = .ok (.agg cs.toArray) w := by
 unfold loadVar
 rw [Sem.run_bind, run_isAgg hT, hd]
 obtain ⟨i, hi, hs⟩ := Option.map_eq_some_iff.1 hz
 have hso : (sizeOf T).run P w = .ok m w := by simp [sizeOf, typeInfo, hi, hs]
 have hl' := run_loadCells (P := P) w ⟨b, o, none⟩ m (fun j => cs.getD j undef) (fun j hj => by
  rw [add_none]
  refine hc j _ ?_
  rw [List.getD_eq_getElem?_getD]
  have : j < cs.length := by omega
  simp [this])
 simp only [Bool.not_false, Result.andThen_ok, if_true, Sem.run_bind, hso, hl']
 simp only [Sem.run_pure]
 congr 2
 apply Array.ext'
 simp only [List.toList_toArray]
 apply List.ext_getElem
 ·simp; omega
 ·intro j h1 h2
  simp [List.getD_eq_getElem?_getD, h2]
theorem qt_load1 {T : TypeId} {x : Operand} {p : Addr} {v : Value} (ho : o.op = .load T x) (hx : ev env x = some (.pointer (some p))) (hT : Ty1 P T) (hc : ∀ w, St w0 Rs w → w.cell? p = some v) : Qt P o n env w0 Rs v :=
 qt_of fun a w hf hs => by
  obtain ⟨d, h1, h2⟩ := hT.flat
  unfold execOp; simp only [ho, hf.ev hx]; simp [Instr.loadAt, Instr.sureAddr, run_load1 h1 h2 (hc w hs)]
theorem qt_loadS {T : TypeId} {m : Nat} {x : Operand} {b off : Nat} {cs : List Value} (ho : o.op = .load T x) (hx : ev env x = some (.pointer (some ⟨b, off, none⟩))) (hT : TyS P T m) (hl : cs.length = m)
  (hc : ∀ w, St w0 Rs w → ∀ j v, cs[j]? = some v → w.cell? ⟨b, off + j, none⟩ = some v) : Qt P o n env w0 Rs (.agg cs.toArray) :=
 qt_of fun a w hf hs => by
  obtain ⟨d, h1, h2⟩ := hT.flat
  unfold execOp; simp only [ho, hf.ev hx]; simp [Instr.loadAt, Instr.sureAddr, run_loadS h1 h2 hT.size hl (hc w hs)]

theorem St.cel {w : World} (h : St w0 Rs w) {k b : Nat} {T : TypeId} {cs : List Value} (hk : Rs[k]? = some (.cel b T cs)) : w.heap[b]? = some (.cells cs.toArray T (0, 0)) := (h.all k _ hk).1
/-- The cells of a block of the call's own. -/
theorem rd1 {k b T off : Nat} {cs : List Value} {v : Value} (hk : Rs[k]? = some (.cel b T cs)) (hv : cs[off]? = some v) : ∀ w, St w0 Rs w → w.cell? ⟨b, off, none⟩ = some v := fun w h => by
 rw [cell_of_row w b off _ T (0, 0) (h.cel hk)]
 simpa using hv
theorem rdAll {k b T : Nat} {cs : List Value} (hk : Rs[k]? = some (.cel b T cs)) : ∀ w, St w0 Rs w → ∀ j v, cs[j]? = some v → w.cell? ⟨b, 0 + j, none⟩ = some v := fun w h j v hv => by
 rw [cell_of_row w b _ _ T (0, 0) (h.cel hk), Nat.zero_add]
 simpa using hv
theorem rd2 {k b T off : Nat} {cs : List Value} {u v : Value} (hk : Rs[k]? = some (.cel b T cs)) (hu : cs[off]? = some u) (hv : cs[off + 1]? = some v) : ∀ w, St w0 Rs w → ∀ j x, [u, v][j]? = some x → w.cell? ⟨b, off + j, none⟩ = some x := fun w h j x hx => by
 match j, hx with
 | 0, hx => rw [cell_of_row w b _ _ T (0, 0) (h.cel hk)]; simp at hx; subst hx; simpa using hu
 | 1, hx => rw [cell_of_row w b _ _ T (0, 0) (h.cel hk)]; simp at hx; subst hx; simpa using hv
theorem qt_fieldAddr {T : TypeId} {x : Operand} {i c b off : Nat} (ho : o.op = .fieldAddr T x i) (hx : ev env x = some (.pointer (some ⟨b, off, none⟩))) (hT : TyF P T i c) :
  Qt P o n env w0 Rs (.pointer (some ⟨b, off + c, none⟩)) :=
 qt_of fun a w hF _ => by
  obtain ⟨fs, f, h1, h2, h3, m, h4⟩ := hT.fld
  obtain ⟨i0, hi, hs⟩ := Option.map_eq_some_iff.1 h4
  have hso : (sizeOf f.type).run P w = .ok (m + 1) w := by simp [sizeOf, typeInfo, hi, hs]
  unfold execOp; simp only [ho, hF.ev hx]; simp [Instr.fieldAt, Instr.sureAddr, run_underlying h1, h2, h3, hso, fieldPlace, add_none]
theorem qt_extract {x : Operand} {i : Nat} {vs : List Value} {v : Value} (ho : o.op = .extract x i) (hx : ev env x = some (.tuple vs.toArray)) (hv : vs[i]? = some v) : Qt P o n env w0 Rs v :=
 qt_of fun a w hF _ => by unfold execOp; simp only [ho, hF.ev hx]; simp [Instr.extract, hv]
theorem qt_len {x : Operand} {T U : TypeId} {A : Option Addr} {m c s : Nat} (ho : o.op = .call { callee := .builtin .len, args := #[x], argTypes := #[T] }) (hx : ev env x = some (.slice A m c)) (hT : TyL P T U s) : Qt P o n env w0 Rs (.int .i64 (m : Int)) :=
 qt_of fun a w hF _ => by
  have hT := hT.desc
  have hE : P.elem T = U := by simp [Program.elem, hT]
  have := run_len_slice (P := P) w T o.type A m c (by rw [hE]; exact hT)
  unfold execOp; simp only [ho]; simp [resolve, invoke, builtin, hF.ev hx, this, goInt]
theorem qt_index {T U : TypeId} {x y : Operand} {b off m c j s : Nat} (ho : o.op = .indexAddr T x y) (hx : ev env x = some (.slice (some ⟨b, off, none⟩) m c)) (hy : ev env y = some (.int .i64 (j : Int))) (hT : TyL P T U s) (hj : j < m) :
  Qt P o n env w0 Rs (.pointer (some ⟨b, off + j * s, none⟩)) :=
 qt_of fun a w hF _ => by
  have hs := hT.size
  have hT := hT.desc
  have hE : P.elem T = U := by simp [Program.elem, hT]
  have := run_indexAt_slice (P := P) w T ⟨b, off, none⟩ m c .i64 j (by rw [hE]; exact hT)
  obtain ⟨i, hi, hs'⟩ := Option.map_eq_some_iff.1 hs
  have hso : (sizeOf U).run P w = .ok s w := by simp [sizeOf, typeInfo, hi, hs']
  rw [if_pos (by omega), hE, hso] at this
  unfold execOp; simp only [ho, hF.ev hx, hF.ev hy]; simp [this, add_none]

/-! ### Calls -/
/-- The program has the function, and its text. -/
structure FnOk (P : Program) (f : FuncId) : Prop where
 fn : ∃ fn, P.funcs[f]? = some fn ∧ (fn.name == "runtime.NumGoroutine") = false ∧ fn.body.isNone = false
theorem FnOk.run {f : FuncId} (h : FnOk P f) (vs : Array Value) (w : World) : (callFunc f vs).run P w = .ok (.enter f vs) w := by
 obtain ⟨fn, h1, h2, h3⟩ := h.fn
 unfold callFunc
 simp only [Sem.run_bind, run_program, Result.andThen_ok, h1, h2, h3, Bool.false_eq_true, if_false, Sem.run_pure]
theorem run_call {f : FuncId} (hfn : FnOk P f) {xs : List Operand} {vs : List Value} {ts : Array TypeId} (ho : o.op = .call { callee := .value (.func f), args := xs.toArray, argTypes := ts }) (hx : evs env xs = some vs) {a : Act} {w : World} (hF : Frm n env a) : (execOp a.eval o).run P w = .ok (.enter f vs.toArray) w := by
 have he : xs.map a.eval = vs := hF.evs hx
 unfold execOp
 simp only [ho]
 simp only [resolve, Deferred.ofValue, Act.eval]
 simp [invoke, hfn.run, he]
theorem qt_call {f : FuncId} (hfn : FnOk P f) {xs : List Operand} {vs : List Value} {ts : Array TypeId} {v : Value} (ho : o.op = .call { callee := .value (.func f), args := xs.toArray, argTypes := ts }) (hx : evs env xs = some vs)
  (hc : ∀ w, St w0 Rs w → Calls P f vs.toArray w fun e w' => e = .returned v ∧ Over w w') : Qt P o n env w0 Rs v := fun a w hF hs => by
 rw [run_call hfn ho hx hF]
 exact hc w hs
/-- A call that makes something. -/
theorem op_call {f : FuncId} (hfn : FnOk P f) {xs : List Operand} {vs : List Value} {ts : Array TypeId} {d : Nat} {X : Type} {v : X → Value} {r : X → Res} {H : X → Prop} (ho : o.op = .call { callee := .value (.func f), args := xs.toArray, argTypes := ts }) (hx : evs env xs = some vs) (hd : o.dst = some d) (hn : d < n)
  (hc : ∀ w, St w0 Rs w → Calls P f vs.toArray w fun e w' => ∃ x, e = .returned (v x) ∧ Over w w' ∧ (r x).P w' ∧ (∀ b, (r x).F b → w.heap.size ≤ b) ∧ (r x).B = 0 ∧ H x)
  (h : ∀ x, H x → At n ((d, v x) :: env) w0 (Rs ++ [r x]) K) : At n env w0 Rs (fun a w => o.wp P a w K Q) := fun a w hF hs => by
 show o.upon P a K Q ((execOp a.eval o).run P w)
 rw [run_call hfn ho hx hF]
 refine Calls.mono (hc w hs) ?_
 rintro e w' ⟨x, rfl, hO, hP, hF', hB, hH⟩
 exact hd ▸ h x hH _ _ (hF.put hn _) (hs.add hO hP hF' ⟨by rw [hB]; exact Nat.zero_le _, fun _ _ => by rw [hB]; exact Nat.zero_le _⟩)

/-! ### New blocks, stores -/
theorem op_alloc {T : TypeId} {d m k : Nat} {z : Value} (ho : o.op = .alloc T) (hT : TyZ P T m k z) (hd : o.dst = some d) (hn : d < n)
  (h : ∀ b, At n ((d, .pointer (some ⟨b, 0, none⟩)) :: env) w0 (Rs ++ [.cel b T z.cells.toList]) K) : At n env w0 Rs (fun a w => o.wp P a w K Q) := fun a w hF hs => by
 have : (execOp a.eval o).run P w = .ok (.value (.pointer (some ⟨w.heap.size, 0, none⟩))) (w.alloc (.cells z.cells T)) := by
  unfold execOp
  simp only [ho, Instr.alloc]
  simp [hT.run, go_sem]
 show o.upon P a K Q ((execOp a.eval o).run P w)
 rw [this, Oper.upon_value, hd]
 exact h _ _ _ (hF.put hn _) (hs.add (Over.alloc _ _) (by show (w.alloc (.cells z.cells T)).heap[w.heap.size]? = some (.cells z.cells.toList.toArray T (0, 0)); rw [heap_alloc_new, Array.toArray_toList]) (fun b hb => Nat.le_of_eq hb.symm) ⟨Nat.zero_le _, fun _ _ => Nat.zero_le _⟩)
theorem op_box {T : TypeId} {x : Operand} {d : Nat} {v : Value} {cs : List Value} (ho : o.op = .box T x) (hx : ev env x = some v) (hv : v.cells = cs.toArray) (hd : o.dst = some d) (hn : d < n)
  (h : ∀ b, At n ((d, .pointer (some ⟨b, 0, none⟩)) :: env) w0 (Rs ++ [.cel b T cs]) K) : At n env w0 Rs (fun a w => o.wp P a w K Q) := fun a w hF hs => by
 have : (execOp a.eval o).run P w = .ok (.value (.pointer (some ⟨w.heap.size, 0, none⟩))) (w.alloc (.cells cs.toArray T)) := by
  unfold execOp
  simp only [ho, Instr.box, hF.ev hx]
  simp [newVar, newRow, hv]
 show o.upon P a K Q ((execOp a.eval o).run P w)
 rw [this, Oper.upon_value, hd]
 exact h _ _ _ (hF.put hn _) (hs.add (Over.alloc _ _) (heap_alloc_new w _) (fun b hb => Nat.le_of_eq hb.symm) ⟨Nat.zero_le _, fun _ _ => Nat.zero_le _⟩)

theorem St.store {w : World} (h : St w0 Rs w) {k b T : Nat} {cs cs' : List Value} (hk : Rs[k]? = some (.cel b T cs)) : St w0 (Rs.set k (.cel b T cs')) (w.setRow b cs'.toArray) := by
 have hh := h.cel hk
 have hlow := (h.all k _ hk).2.1 b rfl
 refine h.upd hk ⟨by simpa using h.over.os, by simpa using h.over.tape, by simpa using h.over.output, by simpa using h.over.size, fun c hc hx => ?_⟩ (by simp) (fun c _ hne => setRow_other w b c _ hne) (setRow_heap w b _ _ T (0, 0) hh) (fun c hc => .inl hc) rfl
 rw [setRow_other w b c _ (fun e => hlow.elim (fun h1 => by omega) (fun h1 => hx (e ▸ h1)))]
 exact h.over.block c hc hx
end
end Go.Proofs.YtjhaakollekjeaaDoor
