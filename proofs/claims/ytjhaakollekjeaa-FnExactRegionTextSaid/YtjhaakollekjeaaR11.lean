import Derived.Test.YtjhaakollekjeaaR10
import Derived.Maps.AppendAt
namespace Go.Proofs.Ytjhaakollekjeaa
set_option linter.unusedSimpArgs false
set_option linter.unusedVariables false
open Go Go.RowKit

theorem TyZ.szx {P : Program} {T : TypeId} {m k : Nat} {z : Value} (h : TyZ P T m k z) : (P.info? T).map (·.size) = some m := by
 obtain ⟨i, hi, _, hs, _⟩ := h.info
 simp [hi, hs]
theorem fill_agg (place : Nat → Option (Nat × Nat)) : ∀ (l : List (Nat × Value)) (cells : Array Value), Instr.fill place cells l = Instr.fill place cells (l.map fun p => (p.1, Value.agg p.2.cells))
 | [], _ => rfl
 | (i, v) :: r, cells => by
  simp only [List.map_cons, Instr.fill]
  have e : (Value.agg v.cells).cells = v.cells := rfl
  rw [e]
  split
  ·rfl
  ·split
   ·rfl
   ·exact fill_agg place r _
theorem buildSlice_agg (t : TypeId) (m : Nat) (parts : Array (Nat × Value)) : Instr.buildSlice t m parts = Instr.buildSlice t m (parts.map fun p => (p.1, Value.agg p.2.cells)) := by
 unfold Instr.buildSlice
 simp only [fill_agg _ parts.toList, Array.toList_map]

section
variable {P : Program} {n : Nat} {env : List (Nat × Value)} {w0 : Bs} {Rs : List Res} {ops : Array Oper} {Q : Exit → Act → World → Prop} {K : Act → World → Prop} {o : Oper}

/-! ### Returns -/
theorem then_ret {K' : Act → World → Prop} (h : At n env w0 Rs (fun a w => Q .ret a w)) : At n env w0 Rs (fun a w => Exit.then K' Q .ret a w) := h
/-- What a result variable gives. -/
inductive RV (P : Program) (env : List (Nat × Value)) (w0 : Bs) (Rs : List Res) : ResultVar → Value → Prop
 | tmp {t : Nat} {v : Value} : look env t = some v → RV P env w0 Rs (.tmp t) v
 | cell {t : Nat} {T : TypeId} {p : Addr} {v : Value} : look env t = some (.pointer (some p)) → (∀ w, St w0 Rs w → (loadVar T p).run P w = .ok v w) → RV P env w0 Rs (.cell t T) v
def rvRun (ts : Array Value) : ResultVar → Sem Value
 | .tmp t => pure (ts.getD t undef)
 | .cell p T => do loadVar T (← asAddr (ts.getD p undef))
theorem results_rv (fn : Func) (ts : Array Value) : results fn ts = (do let vs ← fn.results.mapM (rvRun ts); pure (if h : vs.size = 1 then vs[0] else .tuple vs)) := rfl
theorem RV.run {rv : ResultVar} {v : Value} (h : RV P env w0 Rs rv v) {a : Act} {w : World} (hf : Frm n env a) (hs : St w0 Rs w) : (rvRun a.tmps rv).run P w = .ok v w := by
 cases h with
 | tmp h1 => simp only [rvRun, hf.get _ _ h1, Sem.run_pure]
 | cell h1 h2 => simp only [rvRun, hf.get _ _ h1, asAddr, Sem.run_bind, Sem.run_pure, Result.andThen_ok, h2 w hs]
theorem at_ret1 {fn : Func} {R : Ending → World → Prop} {r1 : ResultVar} {v1 : Value} (hr : fn.results = #[r1]) (h1 : RV P env w0 Rs r1 v1) (h : ∀ w, St w0 Rs w → R (.returned v1) w) : At n env w0 Rs (fun a w => bodyPost P fn R .ret a w) := fun a w hf hs => by
 refine bodyPost_ret (v := v1) ?_ hf.defers (h w hs)
 rw [results_rv, hr]
 have e1 := h1.run hf hs
 simp [List.mapM_toArray, Sem.run_bind, e1]
/-! ### Regions that draw their order -/
variable {Rs0 : List Res} {fuel : Nat} {listed : Array Bool}
theorem yields {j dj : Nat} {b : Bool} {oj : Oper} {a : Act} (hf : Frm n env a) (hj : ops[j]? = some oj) (hdj : oj.dst = some dj) (hb : look env dj = some (.bool b)) : yielded ops a.tmps j = some b := by
 have := hf.get _ _ hb
 simp only [yielded, hj, hdj, Option.bind_some]
 rw [Array.getD_eq_getD_getElem?] at this
 cases h' : a.tmps[dj]? with
 | none => rw [h'] at this; simp [undef] at this
 | some u => rw [h'] at this; simp at this; subst this; simp
/-! ### Rows that grow -/
theorem op_append {x y : Operand} {T U s bytes k B0 m c d nn : Nat} {z v : Value} {ad : Addr} {xs news : List Value} (ho : o.op = .call { callee := .builtin .append, args := #[x, y], argTypes := #[T, T] }) (hT : TyL P T U s) (hZ : TyZ P U s bytes z) (hs0 : 0 < s) (hd : o.dst = some d) (hn : d < n)
  (hx : ev env x = some v) (hy : ev env y = some (.slice (some ad) m c)) (hk : Rs[k]? = some (.row B0 U s v nn xs)) (hl : news.length = m * s) (hnews : ∀ w, St w0 Rs w → ∀ j u, news[j]? = some u → w.cell? (ad.add j) = some u) (h1 : ∀ u ∈ news, u.oneCell' = true)
  (h63 : nn + m ≤ maxLen) (hbytes : (nn + m) * bytes ≤ 140737488355328) (hB : B0 ≤ w0.N)
  (h : ∀ v', At n ((d, v') :: env) w0 (Rs.set k (.row B0 U s v' (nn + m) (xs ++ news))) K) : At n env w0 Rs (fun a w => o.wp P a w K Q) := fun a w hf hs => by
 obtain ⟨i, hi, hz0, hz1, hz2⟩ := hZ.info
 have hown : w.ownsRow B0 U s v nn xs := (hs.all k _ hk).1
 obtain ⟨v', w', hr, h2, h3, _, h5⟩ := run_append_own_at (P := P) w B0 T o.type U i z s bytes hT.desc hi hz0 hz1 hz2 hZ.cells hs0 v nn xs hown ad m c news hl (hnews w hs) h1 h63 hbytes (Nat.le_trans hB hs.over.size)
 have hrun : (execOp a.eval o).run P w = .ok (.value v') w' := by
  unfold execOp
  simp only [ho, resolve, invoke, builtin, Sem.run_bind, Sem.run_pure, Result.andThen_ok, List.map_toArray, List.map_cons, List.map_nil, hf.ev hx, hf.ev hy, hr]
 show o.upon P a K Q ((execOp a.eval o).run P w)
 rw [hrun, Oper.upon_value, hd]
 refine h v' _ w' (hf.put hn v') ?_
 have hlow := (hs.all k _ hk).2.1
 refine hs.upd hk ⟨h3.os.trans hs.over.os, h3.tape.trans hs.over.tape, h3.output.trans hs.over.output, Nat.le_trans hs.over.size h3.size, fun c hc hx => ?_⟩ h3.size (fun b hb hne => h3.block b hb (fun e => hne e.symm)) h2 (fun b hb => ?_) rfl
 ·rw [h3.block c (Nat.lt_of_lt_of_le hc hs.over.size) (fun e => (hlow c e.symm).elim (fun h1 => by omega) (fun h1 => hx h1))]
  exact hs.over.block c hc hx
 rcases h5 with h5 | h5
 ·left
  have hb' : v'.ownBlock = some b := hb
  rw [h5] at hb'
  exact hb'
 ·right
  have hb' : v'.ownBlock = some b := hb
  rw [h5] at hb'
  injection hb' with hb'
  omega
end
end Go.Proofs.Ytjhaakollekjeaa
