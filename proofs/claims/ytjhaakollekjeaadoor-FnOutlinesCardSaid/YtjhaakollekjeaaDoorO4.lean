import Derived.Test.YtjhaakollekjeaaDoorO3
import Derived.Maps.AppendAt
namespace Go.Proofs.YtjhaakollekjeaaDoor
set_option linter.unusedSimpArgs false
set_option linter.unusedVariables false
open Go Go.RowKit

theorem TyZ.szx {P : Program} {T : TypeId} {m k : Nat} {z : Value} (h : TyZ P T m k z) : (P.info? T).map (·.size) = some m := by
 obtain ⟨i, hi, _, hs, _⟩ := h.info
 simp [hi, hs]
theorem fill_agg (place : Nat → Option (Nat × Nat)) : ∀ (l : List (Nat × Value)) (cells : Array Value), Instr.fill place cells l = Instr.fill place cells (l.map fun p => (p.1, Value.agg p.2.cells))
 | [], _ => rfl
 | (i, v) :: r, cells => by
  simp only [List.map_cons, Instr.fill]
  have e : (Value.agg v.cells).cells = v.cells := rfl
  rw [e]
  split
  ·rfl
  ·split
   ·rfl
   ·exact fill_agg place r _
theorem build_agg (t : TypeId) (parts : Array (Nat × Value)) : Instr.build t parts = Instr.build t (parts.map fun p => (p.1, Value.agg p.2.cells)) := by
 unfold Instr.build
 simp only [fill_agg _ parts.toList, Array.toList_map]
theorem buildSlice_agg (t : TypeId) (m : Nat) (parts : Array (Nat × Value)) : Instr.buildSlice t m parts = Instr.buildSlice t m (parts.map fun p => (p.1, Value.agg p.2.cells)) := by
 unfold Instr.buildSlice
 simp only [fill_agg _ parts.toList, Array.toList_map]

section
variable {P : Program} {n : Nat} {env : List (Nat × Value)} {w0 : Bs} {Rs : List Res} {ops : Array Oper} {Q : Exit → Act → World → Prop} {K : Act → World → Prop} {o : Oper}

/-! ### Returns -/
theorem pass_ret {id : Nat} (h : At n env w0 Rs (fun a w => Q .ret a w)) : At n env w0 Rs (fun a w => Exit.inBlock id Q .ret a w) := h
theorem then_ret {K' : Act → World → Prop} (h : At n env w0 Rs (fun a w => Q .ret a w)) : At n env w0 Rs (fun a w => Exit.then K' Q .ret a w) := h
/-- What a result variable gives. -/
inductive RV (P : Program) (env : List (Nat × Value)) (w0 : Bs) (Rs : List Res) : ResultVar → Value → Prop
 | tmp {t : Nat} {v : Value} : look env t = some v → RV P env w0 Rs (.tmp t) v
 | cell {t : Nat} {T : TypeId} {p : Addr} {v : Value} : look env t = some (.pointer (some p)) → (∀ w, St w0 Rs w → (loadVar T p).run P w = .ok v w) → RV P env w0 Rs (.cell t T) v
def rvRun (ts : Array Value) : ResultVar → Sem Value
 | .tmp t => pure (ts.getD t undef)
 | .cell p T => do loadVar T (← asAddr (ts.getD p undef))
theorem results_rv (fn : Func) (ts : Array Value) : results fn ts = (do let vs ← fn.results.mapM (rvRun ts); pure (if h : vs.size = 1 then vs[0] else .tuple vs)) := rfl
theorem RV.run {rv : ResultVar} {v : Value} (h : RV P env w0 Rs rv v) {a : Act} {w : World} (hf : Frm n env a) (hs : St w0 Rs w) : (rvRun a.tmps rv).run P w = .ok v w := by
 cases h with
 | tmp h1 => simp only [rvRun, hf.get _ _ h1, Sem.run_pure]
 | cell h1 h2 => simp only [rvRun, hf.get _ _ h1, asAddr, Sem.run_bind, Sem.run_pure, Result.andThen_ok, h2 w hs]
theorem rvCelS {t k b T U m : Nat} {cs : List Value} (hp : look env t = some (.pointer (some ⟨b, 0, none⟩))) (hT : TyS P T m) (hk : Rs[k]? = some (.cel b U cs)) (hl : cs.length = m) : RV P env w0 Rs (.cell t T) (.agg cs.toArray) :=
 .cell hp fun w hs => by
  obtain ⟨d, h1, h2⟩ := hT.flat
  exact run_loadS h1 h2 hT.size hl (rdAll hk w hs)
theorem at_ret1 {fn : Func} {R : Ending → World → Prop} {r1 : ResultVar} {v1 : Value} (hr : fn.results = #[r1]) (h1 : RV P env w0 Rs r1 v1) (h : ∀ w, St w0 Rs w → R (.returned v1) w) : At n env w0 Rs (fun a w => bodyPost P fn R .ret a w) := fun a w hf hs => by
 refine bodyPost_ret (v := v1) ?_ hf.defers (h w hs)
 rw [results_rv, hr]
 have e1 := h1.run hf hs
 simp [List.mapM_toArray, Sem.run_bind, e1]
theorem at_ret2 {fn : Func} {R : Ending → World → Prop} {r1 r2 : ResultVar} {v1 v2 : Value} (hr : fn.results = #[r1, r2]) (h1 : RV P env w0 Rs r1 v1) (h2 : RV P env w0 Rs r2 v2) (h : ∀ w, St w0 Rs w → R (.returned (.tuple #[v1, v2])) w) : At n env w0 Rs (fun a w => bodyPost P fn R .ret a w) := fun a w hf hs => by
 refine bodyPost_ret (v := .tuple #[v1, v2]) ?_ hf.defers (h w hs)
 rw [results_rv, hr]
 have e1 := h1.run hf hs
 have e2 := h2.run hf hs
 simp [e1, e2]
theorem at_end0 {fn : Func} {R : Ending → World → Prop} (hr : fn.results = #[]) (h : ∀ w, St w0 Rs w → R (.returned (.tuple #[])) w) : At n env w0 Rs (fun a w => bodyPost P fn R .normal a w) := fun a w hf hs =>
 bodyPost_end (results_none hr _ _ _) hf.defers (h w hs)

/-! ### Regions that draw their order -/
variable {Rs0 : List Res} {fuel : Nat} {listed : Array Bool}
theorem yields {j dj : Nat} {b : Bool} {oj : Oper} {a : Act} (hf : Frm n env a) (hj : ops[j]? = some oj) (hdj : oj.dst = some dj) (hb : look env dj = some (.bool b)) : yielded ops a.tmps j = some b := by
 have := hf.get _ _ hb
 simp only [yielded, hj, hdj, Option.bind_some]
 rw [Array.getD_eq_getD_getElem?] at this
 cases h' : a.tmps[dj]? with
 | none => rw [h'] at this; simp [undef] at this
 | some u => rw [h'] at this; simp at this; subst this; simp
theorem dr_keep (hsub : ∀ w, St w0 Rs w → St w0 Rs0 w) (h : At n env w0 Rs K) : At n env w0 Rs (fun a w => St w0 Rs0 w ∧ K a w) := fun a w hf hs => ⟨hsub w hs, h a w hf hs⟩
/-- A further piece, in the same world. -/
theorem St.add' {w : World} {r : Res} (h : St w0 Rs w) (hP : r.P w) (hlow : ∀ b, r.F b → w0.mine b) (hap : ∀ (i : Nat) (s : Res), Rs[i]? = some s → ∀ b, r.F b → ¬ s.F b) (hB : r.B = 0) : St w0 (Rs ++ [r]) w := by
 have hget : ∀ (i : Nat) (s : Res), (Rs ++ [r])[i]? = some s → (i = Rs.length ∧ s = r) ∨ (i ≠ Rs.length ∧ Rs[i]? = some s) := by
  intro i s hi
  rcases Nat.lt_or_ge i Rs.length with hlt | hge
  ·rw [List.getElem?_append_left hlt] at hi
   exact .inr ⟨by omega, hi⟩
  ·rw [List.getElem?_append_right hge] at hi
   have : i - Rs.length = 0 := by
    rcases Nat.lt_or_ge 0 (i - Rs.length) with h0 | h0
    ·rw [List.getElem?_eq_none (by simp only [List.length_singleton]; omega)] at hi; cases hi
    ·omega
   rw [this] at hi
   exact .inl ⟨by omega, by simpa using hi.symm⟩
 refine ⟨h.over, fun i s hi => ?_, fun i j s t hij hi hj b hs ht => ?_⟩
 ·rcases hget i s hi with ⟨_, rfl⟩ | ⟨_, hi'⟩
  ·exact ⟨hP, hlow, by rw [hB]; exact Nat.zero_le _, fun _ _ => by rw [hB]; exact Nat.zero_le _⟩
  ·exact h.all i s hi'
 ·rcases hget i s hi with ⟨e1, rfl⟩ | ⟨_, hi'⟩
  ·rcases hget j t hj with ⟨e2, rfl⟩ | ⟨_, hj'⟩
   ·exact hij (e1.trans e2.symm)
   ·exact hap j t hj' b hs ht
  ·rcases hget j t hj with ⟨_, rfl⟩ | ⟨_, hj'⟩
   ·exact hap i s hi' b ht hs
   ·exact h.apart i j s t hij hi' hj' b hs ht
/-! ### Rows that grow -/
theorem at_row0 {T s : Nat} (h : At n env w0 (Rs ++ [.row w0.N T s (.slice none 0 0) 0 []]) K) : At n env w0 Rs K := fun a w hf hs =>
 h a w hf (hs.add (Over.refl _) (World.ownsRow_nil _ _ _ _) (fun b hb => by simp [Res.row, Value.ownBlock] at hb) ⟨Nat.zero_le _, fun _ _ => Nat.zero_le _⟩)
theorem op_append {x y : Operand} {T U s bytes k B0 m c d nn : Nat} {z v : Value} {ad : Addr} {xs news : List Value} (ho : o.op = .call { callee := .builtin .append, args := #[x, y], argTypes := #[T, T] }) (hT : TyL P T U s) (hZ : TyZ P U s bytes z) (hs0 : 0 < s) (hd : o.dst = some d) (hn : d < n)
  (hx : ev env x = some v) (hy : ev env y = some (.slice (some ad) m c)) (hk : Rs[k]? = some (.row B0 U s v nn xs)) (hl : news.length = m * s) (hnews : ∀ w, St w0 Rs w → ∀ j u, news[j]? = some u → w.cell? (ad.add j) = some u) (h1 : ∀ u ∈ news, u.oneCell' = true)
  (h63 : nn + m ≤ maxLen) (hbytes : (nn + m) * bytes ≤ 140737488355328) (hB : B0 ≤ w0.N)
  (h : ∀ v', At n ((d, v') :: env) w0 (Rs.set k (.row B0 U s v' (nn + m) (xs ++ news))) K) : At n env w0 Rs (fun a w => o.wp P a w K Q) := fun a w hf hs => by
 obtain ⟨i, hi, hz0, hz1, hz2⟩ := hZ.info
 have hown : w.ownsRow B0 U s v nn xs := (hs.all k _ hk).1
 obtain ⟨v', w', hr, h2, h3, _, h5⟩ := run_append_own_at (P := P) w B0 T o.type U i z s bytes hT.desc hi hz0 hz1 hz2 hZ.cells hs0 v nn xs hown ad m c news hl (hnews w hs) h1 h63 hbytes (Nat.le_trans hB hs.over.size)
 have hrun : (execOp a.eval o).run P w = .ok (.value v') w' := by
  unfold execOp
  simp only [ho, resolve, invoke, builtin, Sem.run_bind, Sem.run_pure, Result.andThen_ok, List.map_toArray, List.map_cons, List.map_nil, hf.ev hx, hf.ev hy, hr]
 show o.upon P a K Q ((execOp a.eval o).run P w)
 rw [hrun, Oper.upon_value, hd]
 refine h v' _ w' (hf.put hn v') ?_
 have hlow := (hs.all k _ hk).2.1
 refine hs.upd hk ⟨h3.os.trans hs.over.os, h3.tape.trans hs.over.tape, h3.output.trans hs.over.output, Nat.le_trans hs.over.size h3.size, fun c hc hx => ?_⟩ h3.size (fun b hb hne => h3.block b hb (fun e => hne e.symm)) h2 (fun b hb => ?_) rfl
 ·rw [h3.block c (Nat.lt_of_lt_of_le hc hs.over.size) (fun e => (hlow c e.symm).elim (fun h1 => by omega) (fun h1 => hx h1))]
  exact hs.over.block c hc hx
 rcases h5 with h5 | h5
 ·left
  have hb' : v'.ownBlock = some b := hb
  rw [h5] at hb'
  exact hb'
 ·right
  have hb' : v'.ownBlock = some b := hb
  rw [h5] at hb'
  injection hb' with hb'
  omega
end
end Go.Proofs.YtjhaakollekjeaaDoor

namespace Go.Proofs.YtjhaakollekjeaaDoor
open Go Go.RowKit
set_option linter.unusedSimpArgs false
set_option linter.unusedVariables false

section
variable {P : Program} {n : Nat} {env : List (Nat × Value)} {w0 : Bs} {Rs : List Res} {ops : Array Oper} {Q : Exit → Act → World → Prop} {K : Act → World → Prop} {o : Oper}

/-! ### Tests that are decided on two ways -/
theorem at_bsplit (t : Nat) {b : Bool} (hb : look env t = some (.bool b)) (h1 : b = true → At n ((t, .bool true) :: env) w0 Rs K) (h0 : b = false → At n ((t, .bool false) :: env) w0 Rs K) : At n env w0 Rs K := by
 intro a w hf hs
 have hg := hf.get _ _ hb
 have key : ∀ c : Bool, b = c → Frm n ((t, .bool c) :: env) a := fun c hc => ⟨hf.size, fun k v hk => by
  unfold look at hk
  split at hk
  ·rename_i hkt
   have : t = k := Nat.eq_of_beq_eq_true hkt
   subst this
   injection hk with hk
   rw [hg, hc, hk]
  ·exact hf.get k v hk, hf.defers⟩
 cases hc : b
 ·exact h0 hc a w (key false hc) hs
 ·exact h1 hc a w (key true hc) hs
/-- The value of a temporary, written otherwise. -/
theorem at_as (t : Nat) (v' : Value) {v : Value} (hv : look env t = some v) (e : v = v') (h : At n ((t, v') :: env) w0 Rs K) : At n env w0 Rs K := fun a w hf hs => by
 refine h a w ⟨hf.size, fun k u hk => ?_, hf.defers⟩ hs
 unfold look at hk
 split at hk
 ·rename_i hkt
  have : t = k := Nat.eq_of_beq_eq_true hkt
  subst this
  injection hk with hk
  rw [hf.get _ _ hv, e, hk]
 ·exact hf.get k u hk
theorem at_cutE {x y : Code} (E : List (Nat × Value)) {C : List (Nat × Value)} (hC : sub env C) (h1 : ∀ L : Act → World → Prop, At n (E ++ C) w0 Rs L → At n env w0 Rs (fun a w => x.wp P (Exit.then L Q) a w))
  (h2 : At n (E ++ C) w0 Rs (fun a w => y.wp P Q a w)) : At n env w0 Rs (fun a w => (Code.seq x y).wp P Q a w) := at_seq (h1 _ h2)
theorem at_rsE {Rs' : List Res} (e : Rs = Rs') (h : At n env w0 Rs' K) : At n env w0 Rs K := e ▸ h
theorem at_envE {env' : List (Nat × Value)} (e : env = env') (h : At n env' w0 Rs K) : At n env w0 Rs K := e ▸ h
theorem at_meet {env' : List (Nat × Value)} {Rs' : List Res} (hL : At n env' w0 Rs' K) (he : sub env env') (hr : ∀ w, St w0 Rs w → St w0 Rs' w) : At n env w0 Rs K := at_conv he hr hL
theorem yields_not {j dj : Nat} {oj : Oper} {a : Act} (hf : Frm n env a) (hj : ops[j]? = some oj) (hdj : oj.dst = some dj) (hb : look env dj = some undef) : yielded ops a.tmps j = none := by
 have := hf.get _ _ hb
 simp only [yielded, hj, hdj, Option.bind_some]
 rw [Array.getD_eq_getD_getElem?] at this
 cases h' : a.tmps[dj]? with
 | none => rfl
 | some u => rw [h'] at this; simp at this; subst this; rfl
def pfx : List Res → List Res → Prop
 | [], _ => True
 | _ :: _, [] => False
 | a :: l, b :: r => a = b ∧ pfx l r
theorem pfx.get : ∀ {l r : List Res}, pfx l r → ∀ i, i < l.length → r[i]? = l[i]?
 | [], _, _, i, h => absurd h (by simp)
 | _ :: _, [], h, _, _ => h.elim
 | a :: l, b :: r, h, 0, _ => by obtain ⟨rfl, _⟩ := h; rfl
 | a :: l, b :: r, h, i + 1, hi => by simpa using pfx.get h.2 i (by simpa using hi)
theorem St.upto {w : World} {Rs' : List Res} (h : St w0 Rs w) (hp : pfx Rs' Rs) : St w0 Rs' w := h.sel id (fun _ _ _ _ e => e) (fun i hi => hp.get i hi)
/-- One piece, seen otherwise. -/
theorem St.chg {w : World} {k : Nat} {r r' : Res} (h : St w0 Rs w) (hk : Rs[k]? = some r) (hP : r.P w → r'.P w) (hF : ∀ b, r'.F b → r.F b) (hB : r'.B = 0) : St w0 (Rs.set k r') w :=
 h.upd hk h.over (Nat.le_refl _) (fun _ _ _ => rfl) (hP (h.all k r hk).1) (fun b hb => .inl (hF b hb)) hB

theorem at_loopc {X : Type} {c : Code} (H : X → Prop) (m : X → Nat) (U : X → List (Nat × Value)) {C : List (Nat × Value)} (hC : sub env C) (Rs' : X → List Res) (x0 : X) (h0 : H x0) (he : sub env (U x0 ++ C)) (hr : ∀ w, St w0 Rs w → St w0 (Rs' x0) w)
  (round : ∀ x, H x → ∀ L : Act → World → Prop, (∀ y, H y → m y < m x → At n (U y ++ C) w0 (Rs' y) L) → At n (U x ++ C) w0 (Rs' x) (fun a w => c.wp P (Exit.then L Q) a w)) :
  At n env w0 Rs (fun a w => (Code.loop c).wp P Q a w) := at_loop H m (fun x => U x ++ C) Rs' x0 h0 he hr round
theorem at_loopk {X : Type} {c : Code} (H : X → Prop) (m : X → Nat) (U : X → List (Nat × Value)) {C : List (Nat × Value)} (hC : sub env C) (x0 : X) (h0 : H x0) (he : sub env (U x0 ++ C))
  (round : ∀ x, H x → ∀ L : Act → World → Prop, (∀ y, H y → m y < m x → At n (U y ++ C) w0 Rs L) → At n (U x ++ C) w0 Rs (fun a w => c.wp P (Exit.then L Q) a w)) :
  At n env w0 Rs (fun a w => (Code.loop c).wp P Q a w) := at_loop H m (fun x => U x ++ C) (fun _ => Rs) x0 h0 he (fun _ h => h) round
theorem at_againk {X : Type} {H : X → Prop} {m : X → Nat} {x : X} {U : X → List (Nat × Value)} {C : List (Nat × Value)} {Rs' : List Res} {L : Act → World → Prop} (hL : ∀ y, H y → m y < m x → At n (U y ++ C) w0 Rs' L) (y : X) (hy : H y) (hm : m y < m x)
  (he : sub env (U y ++ C)) (hr : ∀ w, St w0 Rs w → St w0 Rs' w) : At n env w0 Rs L := fun a w hf hs => hL y hy hm a w (hf.sub he) (hr w hs)
theorem at_againc {X : Type} {H : X → Prop} {m : X → Nat} {x : X} {U : X → List (Nat × Value)} {C : List (Nat × Value)} {Rs' : X → List Res} {L : Act → World → Prop} (hL : ∀ y, H y → m y < m x → At n (U y ++ C) w0 (Rs' y) L) (y : X) (hy : H y) (hm : m y < m x)
  (he : sub env (U y ++ C)) (hr : ∀ w, St w0 Rs w → St w0 (Rs' y) w) : At n env w0 Rs L := fun a w hf hs => hL y hy hm a w (hf.sub he) (hr w hs)

/-! ### More operations -/
theorem qt_pickT {c x y : Operand} {v : Value} (ho : o.op = .pick c x y) (hc : ev env c = some (.bool true)) (hx : ev env x = some v) : Qt P o n env w0 Rs v :=
 qt_of fun a w hf _ => by unfold execOp; simp only [ho, hf.ev hx, hf.ev hc]; simp [asBool]
theorem qt_pickF {c x y : Operand} {v : Value} (ho : o.op = .pick c x y) (hc : ev env c = some (.bool false)) (hy : ev env y = some v) : Qt P o n env w0 Rs v :=
 qt_of fun a w hf _ => by unfold execOp; simp only [ho, hf.ev hy, hf.ev hc]; simp [asBool]
theorem qt_nilCheck {x : Operand} {p : Addr} (ho : o.op = .nilCheck x) (hx : ev env x = some (.pointer (some p))) : Qt P o n env w0 Rs (.pointer (some p)) :=
 qt_of fun a w hf _ => by unfold execOp; simp only [ho, hf.ev hx]; simp
def evp (env : List (Nat × Value)) : List (Nat × Operand) → Option (List (Nat × Value))
 | [] => some []
 | (i, x) :: r => match ev env x with
  | none => none
  | some v => match evp env r with
   | none => none
   | some vs => some ((i, v) :: vs)
theorem Frm.evp {a : Act} (h : Frm n env a) : ∀ {xs : List (Nat × Operand)} {vs : List (Nat × Value)}, evp env xs = some vs → xs.map (fun p => (p.1, a.eval p.2)) = vs
 | [], vs, hx => by simpa [Go.Proofs.YtjhaakollekjeaaDoor.evp] using hx
 | (i, x) :: r, vs, hx => by
  unfold Go.Proofs.YtjhaakollekjeaaDoor.evp at hx
  split at hx
  ·cases hx
  ·rename_i v hv
   split at hx
   ·cases hx
   ·rename_i us hus
    injection hx with hx
    subst hx
    rw [List.map_cons, h.ev hv, h.evp hus]
theorem qt_build {T : TypeId} {ps : List (Nat × Operand)} {vs : List (Nat × Value)} {r : Value} (ho : o.op = .build T ps.toArray) (hx : evp env ps = some vs) (hb : ∀ w, (Instr.build T vs.toArray).run P w = .ok r w) : Qt P o n env w0 Rs r :=
 qt_of fun a w hf _ => by
  have he := hf.evp hx
  unfold execOp
  simp only [ho]
  have e2 : (ps.toArray.map fun x => match x with | (i, x) => (i, a.eval x)) = vs.toArray := by rw [← he]; simp
  simp only [e2, Sem.run_bind, hb, Result.andThen_ok, Sem.run_pure]
theorem op_buildSlice {T U m d : Nat} {ps : List (Nat × Operand)} {vs : List (Nat × Value)} {cs : List Value} (ho : o.op = .buildSlice T m ps.toArray) (hx : evp env ps = some vs) (hb : ∀ w, (Instr.buildSlice T m vs.toArray).run P w = .ok (.slice (some ⟨w.heap.size, 0, none⟩) m m) (w.alloc (.cells cs.toArray U))) (hd : o.dst = some d) (hn : d < n)
  (h : ∀ b, At n ((d, .slice (some ⟨b, 0, none⟩) m m) :: env) w0 (Rs ++ [.cel b U cs]) K) : At n env w0 Rs (fun a w => o.wp P a w K Q) := fun a w hf hs => by
 have he := hf.evp hx
 have e2 : (ps.toArray.map fun x => match x with | (i, x) => (i, a.eval x)) = vs.toArray := by rw [← he]; simp
 have hrun : (execOp a.eval o).run P w = .ok (.value (.slice (some ⟨w.heap.size, 0, none⟩) m m)) (w.alloc (.cells cs.toArray U)) := by
  unfold execOp
  simp only [ho, e2, Sem.run_bind, hb, Result.andThen_ok, Sem.run_pure]
 show o.upon P a K Q ((execOp a.eval o).run P w)
 rw [hrun, Oper.upon_value, hd]
 exact h _ _ _ (hf.put hn _) (hs.add (Over.alloc _ _) (heap_alloc_new w _) (fun b hb => Nat.le_of_eq hb.symm) ⟨Nat.zero_le _, fun _ _ => Nat.zero_le _⟩)
/-- A made slice without elements, as a row. -/
theorem at_rowE (k : Nat) (hX : w0.X = []) {b U s m : Nat} (hk : Rs[k]? = some (.cel b U [])) (h : At n env w0 (Rs.set k (.row w0.N U s (.slice (some ⟨b, 0, none⟩) 0 0) 0 [])) K) : At n env w0 Rs K := fun a w hf hs => by
 have hlow : w0.N ≤ b := ((hs.all k _ hk).2.1 b rfl).elim id (fun h => by rw [hX] at h; cases h)
 refine h a w hf (hs.chg hk (fun hP => ?_) (fun c hc => ?_) rfl)
 ·exact ⟨by simp, .inr ⟨b, 0, #[], rfl, hlow, hP, Nat.le_refl _, by unfold maxLen; omega, by simp, by simp⟩⟩
 ·have : some b = some c := hc
  injection this with this
  exact this.symm
/-- Nothing has turned but block b, and new blocks. -/
structure Wr (b : Nat) (w w' : World) : Prop where
 os : w'.os = w.os
 tape : w'.tape = w.tape
 output : w'.output = w.output
 size : w.heap.size ≤ w'.heap.size
 block : ∀ c, c < w.heap.size → c ≠ b → w'.heap[c]? = w.heap[c]?
theorem Ovx.wr {w w' : World} {b : Nat} (h : Ovx ⟨w, [b]⟩ w') : Wr b w w' := ⟨h.os, h.tape, h.output, h.size, fun c hc hne => h.block c hc (by simpa using hne)⟩
def splice (cs : List Value) : Nat → List Value → List Value
 | _, [] => cs
 | o, v :: r => splice (cs.set o v) (o + 1) r
theorem splice_len : ∀ (vs : List Value) (cs : List Value) (o : Nat), (splice cs o vs).length = cs.length
 | [], _, _ => rfl
 | v :: r, cs, o => by rw [splice, splice_len r]; simp
theorem setRow_setRow (w : World) (b : Nat) (c d : Array Value) : (w.setRow b c).setRow b d = w.setRow b d := by
 simp only [World.setRow]
 congr 1
 apply Array.ext_getElem?
 intro i
 simp only [Array.getElem?_modify]
 split
 ·cases w.heap[i]? with
  | none => rfl
  | some o => cases o <;> rfl
 ·rfl
theorem setRow_same (w : World) (b : Nat) (c : Array Value) (T : TypeId) (h : w.heap[b]? = some (.cells c T (0, 0))) : w.setRow b c = w := by
 have : (w.setRow b c).heap = w.heap := by
  apply Array.ext_getElem?
  intro i
  by_cases hi : i = b
  ·subst hi; rw [setRow_heap w i _ _ T (0, 0) h, h]
  ·exact setRow_other w b i c hi
 cases w
 simp only [World.setRow] at this ⊢
 congr 1
theorem run_storeCells {b U : Nat} : ∀ (vs : List Value) (off i : Nat) (cs : List Value) (w : World), w.heap[b]? = some (.cells cs.toArray U (0, 0)) → off + i + vs.length ≤ cs.length → vs.all (·.oneCell') = true →
  (storeCells ⟨b, off, none⟩ vs i).run P w = .ok () (w.setRow b (splice cs (off + i) vs).toArray)
 | [], off, i, cs, w, hh, _, _ => by
  simp only [storeCells, Sem.run_pure, splice]
  rw [setRow_same w b _ U hh]
 | v :: r, off, i, cs, w, hh, hl, h1 => by
  simp only [List.all_cons, Bool.and_eq_true] at h1
  simp only [List.length_cons] at hl
  have hc : w.cell? ⟨b, off + i, none⟩ = some cs[off + i] := by rw [cell_of_row w b _ _ U (0, 0) hh]; simp <;> omega
  have hfz : w.frozen? ⟨b, off + i, none⟩ = false := by simp [World.frozen?, hh]
  have hset : w.setCell ⟨b, off + i, none⟩ v = w.setRow b (cs.set (off + i) v).toArray := by
   simp only [World.setCell, World.setRow]
   congr 1
   apply Array.ext_getElem?
   intro j
   simp only [Array.getElem?_modify]
   split
   ·rename_i hj
    subst hj
    rw [hh]
    simp
   ·rfl
  have hst := run_store P w ⟨b, off + i, none⟩ v .plain h1.1
  rw [hc] at hst
  simp only [hfz, Bool.false_eq_true, if_false, hset] at hst
  have hh2 := setRow_heap w b _ (cs.set (off + i) v).toArray U (0, 0) hh
  have ih := run_storeCells r off (i + 1) (cs.set (off + i) v) _ hh2 (by simp; omega) h1.2
  simp only [storeCells, Sem.run_bind, add_none]
  have hst' : (store ⟨b, off + i, none⟩ v).run P w = .ok () (w.setRow b (cs.set (off + i) v).toArray) := hst
  rw [hst']
  simp only [Result.andThen_ok]
  rw [ih, setRow_setRow]
  rfl
theorem op_store {T U m : Nat} {x y : Operand} {k b off : Nat} {cs vs : List Value} {v : Value} (ho : o.op = .store T x y) (hd : o.dst = none) (hx : ev env x = some (.pointer (some ⟨b, off, none⟩))) (hy : ev env y = some v) (hv : v.cells = vs.toArray) (h1 : vs.all (·.oneCell') = true)
  (hz : (P.info? T).map (·.size) = some m) (hm : vs.length = m) (hk : Rs[k]? = some (.cel b U cs)) (hlt : off + vs.length ≤ cs.length) (h : At n env w0 (Rs.set k (.cel b U (splice cs off vs))) K) : At n env w0 Rs (fun a w => o.wp P a w K Q) := fun a w hf hs => by
 have hh := hs.cel hk
 have hso : (sizeOf T).run P w = .ok m w := by
  obtain ⟨i, hi, hs'⟩ := Option.map_eq_some_iff.1 hz
  simp [sizeOf, typeInfo, hi, hs']
 have hst := run_storeCells (P := P) vs off 0 cs w hh (by omega) h1
 have hrun : (execOp a.eval o).run P w = .ok .skip (w.setRow b (splice cs off vs).toArray) := by
  unfold execOp
  simp only [ho, hf.ev hx, hf.ev hy, Instr.storeAt, Instr.sureAddr, storeVar, hv]
  simp only [Sem.run_bind, Sem.run_pure, Result.andThen_ok, hso]
  have : ¬ (vs.toArray.size ≠ m) := by simp [hm]
  simp only [this, if_false, hst, Result.andThen_ok]
  rfl
 show o.upon P a K Q ((execOp a.eval o).run P w)
 rw [hrun, Oper.upon_skip, hd]
 exact h _ _ hf (hs.store hk)
end
end Go.Proofs.YtjhaakollekjeaaDoor
