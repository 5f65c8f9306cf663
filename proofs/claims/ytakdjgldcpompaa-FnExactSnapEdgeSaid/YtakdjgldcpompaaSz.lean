/- The calculus of walks: returns, drawn regions, rows that grow, slices made. -/
import Derived.Test.YtakdjgldcpompaaSy
import Derived.Maps.AppendAt
namespace Go.Proofs.Ytakdjgldcpompaa
set_option linter.unusedSimpArgs false
set_option linter.unusedVariables false
open Go Go.RowKit

theorem TyZ.szx {P : Program} {T : TypeId} {m k : Nat} {z : Value} (h : TyZ P T m k z) : (P.info? T).map (·.size) = some m := by
  obtain ⟨i, hi, _, hs, _⟩ := h.info
  simp [hi, hs]
theorem fill_agg (place : Nat → Option (Nat × Nat)) : ∀ (l : List (Nat × Value)) (cells : Array Value), Instr.fill place cells l = Instr.fill place cells (l.map fun p => (p.1, Value.agg p.2.cells))
  | [], _ => rfl
  | (i, v) :: r, cells => by
    simp only [List.map_cons, Instr.fill]
    have e : (Value.agg v.cells).cells = v.cells := rfl
    rw [e]
    split
    · rfl
    · split
      · rfl
      · exact fill_agg place r _
theorem build_agg (t : TypeId) (parts : Array (Nat × Value)) : Instr.build t parts = Instr.build t (parts.map fun p => (p.1, Value.agg p.2.cells)) := by
  unfold Instr.build
  simp only [fill_agg _ parts.toList, Array.toList_map]
theorem buildSlice_agg (t : TypeId) (m : Nat) (parts : Array (Nat × Value)) : Instr.buildSlice t m parts = Instr.buildSlice t m (parts.map fun p => (p.1, Value.agg p.2.cells)) := by
  unfold Instr.buildSlice
  simp only [fill_agg _ parts.toList, Array.toList_map]

section
variable {P : Program} {n : Nat} {env : List (Nat × Value)} {w0 : Bs} {Rs : List Res} {ops : Array Oper} {Q : Exit → Act → World → Prop} {K : Act → World → Prop} {o : Oper}

/-! ### Returns -/
theorem pass_ret {id : Nat} (h : At n env w0 Rs (fun a w => Q .ret a w)) : At n env w0 Rs (fun a w => Exit.inBlock id Q .ret a w) := h
theorem then_ret {K' : Act → World → Prop} (h : At n env w0 Rs (fun a w => Q .ret a w)) : At n env w0 Rs (fun a w => Exit.then K' Q .ret a w) := h
/-- What a result variable gives. -/
inductive RV (P : Program) (env : List (Nat × Value)) (w0 : Bs) (Rs : List Res) : ResultVar → Value → Prop
  | tmp {t : Nat} {v : Value} : look env t = some v → RV P env w0 Rs (.tmp t) v
  | cell {t : Nat} {T : TypeId} {p : Addr} {v : Value} : look env t = some (.pointer (some p)) → (∀ w, St w0 Rs w → (loadVar T p).run P w = .ok v w) → RV P env w0 Rs (.cell t T) v
def rvRun (ts : Array Value) : ResultVar → Sem Value
  | .tmp t => pure (ts.getD t undef)
  | .cell p T => do loadVar T (← asAddr (ts.getD p undef))
theorem results_rv (fn : Func) (ts : Array Value) : results fn ts = (do let vs ← fn.results.mapM (rvRun ts); pure (if h : vs.size = 1 then vs[0] else .tuple vs)) := rfl
theorem RV.run {rv : ResultVar} {v : Value} (h : RV P env w0 Rs rv v) {a : Act} {w : World} (hf : Frm n env a) (hs : St w0 Rs w) : (rvRun a.tmps rv).run P w = .ok v w := by
  cases h with
  | tmp h1 => simp only [rvRun, hf.get _ _ h1, Sem.run_pure]
  | cell h1 h2 => simp only [rvRun, hf.get _ _ h1, asAddr, Sem.run_bind, Sem.run_pure, Result.andThen_ok, h2 w hs]
theorem rvCel1 {t k b T U off : Nat} {cs : List Value} {v : Value} (hp : look env t = some (.pointer (some ⟨b, off, none⟩))) (hT : Ty1 P T) (hk : Rs[k]? = some (.cel b U cs)) (hv : cs[off]? = some v) : RV P env w0 Rs (.cell t T) v :=
  .cell hp fun w hs => by
    obtain ⟨d, h1, h2⟩ := hT.flat
    exact run_load1 h1 h2 (rd1 hk hv w hs)
theorem rvCelS {t k b T U m : Nat} {cs : List Value} (hp : look env t = some (.pointer (some ⟨b, 0, none⟩))) (hT : TyS P T m) (hk : Rs[k]? = some (.cel b U cs)) (hl : cs.length = m) : RV P env w0 Rs (.cell t T) (.agg cs.toArray) :=
  .cell hp fun w hs => by
    obtain ⟨d, h1, h2⟩ := hT.flat
    exact run_loadS h1 h2 hT.size hl (rdAll hk w hs)
theorem at_ret1 {fn : Func} {R : Ending → World → Prop} {r1 : ResultVar} {v1 : Value} (hr : fn.results = #[r1]) (h1 : RV P env w0 Rs r1 v1) (h : ∀ w, St w0 Rs w → R (.returned v1) w) : At n env w0 Rs (fun a w => bodyPost P fn R .ret a w) := fun a w hf hs => by
  refine bodyPost_ret (v := v1) ?_ hf.defers (h w hs)
  rw [results_rv, hr]
  have e1 := h1.run hf hs
  simp [List.mapM_toArray, Sem.run_bind, e1]
theorem at_ret2 {fn : Func} {R : Ending → World → Prop} {r1 r2 : ResultVar} {v1 v2 : Value} (hr : fn.results = #[r1, r2]) (h1 : RV P env w0 Rs r1 v1) (h2 : RV P env w0 Rs r2 v2) (h : ∀ w, St w0 Rs w → R (.returned (.tuple #[v1, v2])) w) : At n env w0 Rs (fun a w => bodyPost P fn R .ret a w) := fun a w hf hs => by
  refine bodyPost_ret (v := .tuple #[v1, v2]) ?_ hf.defers (h w hs)
  rw [results_rv, hr]
  have e1 := h1.run hf hs
  have e2 := h2.run hf hs
  simp [e1, e2]
theorem at_ret3 {fn : Func} {R : Ending → World → Prop} {r1 r2 r3 : ResultVar} {v1 v2 v3 : Value} (hr : fn.results = #[r1, r2, r3]) (h1 : RV P env w0 Rs r1 v1) (h2 : RV P env w0 Rs r2 v2) (h3 : RV P env w0 Rs r3 v3) (h : ∀ w, St w0 Rs w → R (.returned (.tuple #[v1, v2, v3])) w) :
    At n env w0 Rs (fun a w => bodyPost P fn R .ret a w) := fun a w hf hs => by
  refine bodyPost_ret (v := .tuple #[v1, v2, v3]) ?_ hf.defers (h w hs)
  rw [results_rv, hr]
  have e1 := h1.run hf hs
  have e2 := h2.run hf hs
  have e3 := h3.run hf hs
  simp [e1, e2, e3]
theorem at_ret0 {fn : Func} {R : Ending → World → Prop} (hr : fn.results = #[]) (h : ∀ w, St w0 Rs w → R (.returned (.tuple #[])) w) : At n env w0 Rs (fun a w => bodyPost P fn R .ret a w) := fun a w hf hs =>
  bodyPost_ret (results_none hr _ _ _) hf.defers (h w hs)
theorem at_end0 {fn : Func} {R : Ending → World → Prop} (hr : fn.results = #[]) (h : ∀ w, St w0 Rs w → R (.returned (.tuple #[])) w) : At n env w0 Rs (fun a w => bodyPost P fn R .normal a w) := fun a w hf hs =>
  bodyPost_end (results_none hr _ _ _) hf.defers (h w hs)

/-! ### Regions that draw their order -/
theorem at_draw {id m : Nat} (hm : P.follows .mixedOrders = true) (hz : ops.size = m) (h : At n env w0 Rs (fun a w => wpAnyO P .any ops Q (stB w0 Rs) m (Array.replicate m false) a w)) : At n env w0 Rs (fun a w => (Code.region id ops true).wp P Q a w) :=
  fun a w hf hs => wp_region_O (B := stB w0 Rs) hs hm hz (fun _ => h a w hf hs)
variable {Rs0 : List Res} {fuel : Nat} {listed : Array Bool}
theorem dr_q {i d : Nat} {v : Value} (hi : ops[i]? = some o) (hS : Region.noSelect ops = true) (hfr : Region.free .any ops listed i = true) (hrd : (Region.ready .any ops listed).contains i = true) (hQ : ∀ c a w, Q (.panic c) (a.put o.dst v) w → Q (.panic c) a w)
    (hg : o.guard = none) (hd : o.dst = some d) (hn : d < n) (hsub : ∀ w, St w0 Rs w → St w0 Rs0 w) (hq : Qt P o n env w0 Rs0 v)
    (h : At n ((d, v) :: env) w0 Rs (fun a w => wpAnyO P .any ops Q (stB w0 Rs0) fuel (listed.setIfInBounds i true) a w)) : At n env w0 Rs (fun a w => wpAnyO P .any ops Q (stB w0 Rs0) (fuel + 1) listed a w) :=
  fun a w hf hs => wpAnyO_take (B := stB w0 Rs0) (hsub w hs) hi hS hfr hrd hQ (by simp [Region.wanted, hg]) (fun w' hs' => hq a w' hf hs') (hd ▸ h _ w (hf.put hn v) hs)
theorem yields {j dj : Nat} {b : Bool} {oj : Oper} {a : Act} (hf : Frm n env a) (hj : ops[j]? = some oj) (hdj : oj.dst = some dj) (hb : look env dj = some (.bool b)) : yielded ops a.tmps j = some b := by
  have := hf.get _ _ hb
  simp only [yielded, hj, hdj, Option.bind_some]
  rw [Array.getD_eq_getD_getElem?] at this
  cases h' : a.tmps[dj]? with
  | none => rw [h'] at this; simp [undef] at this
  | some u => rw [h'] at this; simp at this; subst this; simp
theorem dr_qg {i d j dj : Nat} {v : Value} {oj : Oper} {c : Bool} (hi : ops[i]? = some o) (hS : Region.noSelect ops = true) (hfr : Region.free .any ops listed i = true) (hrd : (Region.ready .any ops listed).contains i = true) (hQ : ∀ c a w, Q (.panic c) (a.put o.dst v) w → Q (.panic c) a w)
    (hg : o.guard = some (j, c)) (hj : ops[j]? = some oj) (hdj : oj.dst = some dj) (hb : look env dj = some (.bool c)) (hd : o.dst = some d) (hn : d < n) (hsub : ∀ w, St w0 Rs w → St w0 Rs0 w) (hq : Qt P o n env w0 Rs0 v)
    (h : At n ((d, v) :: env) w0 Rs (fun a w => wpAnyO P .any ops Q (stB w0 Rs0) fuel (listed.setIfInBounds i true) a w)) : At n env w0 Rs (fun a w => wpAnyO P .any ops Q (stB w0 Rs0) (fuel + 1) listed a w) :=
  fun a w hf hs => wpAnyO_take (B := stB w0 Rs0) (hsub w hs) hi hS hfr hrd hQ (by simp [Region.wanted, hg, yields hf hj hdj hb]) (fun w' hs' => hq a w' hf hs') (hd ▸ h _ w (hf.put hn v) hs)
theorem dr_off {i d j dj : Nat} {oj : Oper} {b c : Bool} (hi : ops[i]? = some o) (hS : Region.noSelect ops = true) (hfr : Region.free .any ops listed i = true) (hrd : (Region.ready .any ops listed).contains i = true) (hQ : ∀ c a w, Q (.panic c) (a.put o.dst undef) w → Q (.panic c) a w)
    (hg : o.guard = some (j, c)) (hj : ops[j]? = some oj) (hdj : oj.dst = some dj) (hb : look env dj = some (.bool b)) (hne : b ≠ c) (hd : o.dst = some d) (hn : d < n) (hsub : ∀ w, St w0 Rs w → St w0 Rs0 w)
    (h : At n ((d, undef) :: env) w0 Rs (fun a w => wpAnyO P .any ops Q (stB w0 Rs0) fuel (listed.setIfInBounds i true) a w)) : At n env w0 Rs (fun a w => wpAnyO P .any ops Q (stB w0 Rs0) (fuel + 1) listed a w) :=
  fun a w hf hs => wpAnyO_off (B := stB w0 Rs0) (hsub w hs) hi hS hfr hrd hQ (by simp [Region.wanted, hg, yields hf hj hdj hb, hne]) (hd ▸ h _ w (hf.put hn undef) hs)
/-- One operation alone may come up. -/
theorem dr_one {i : Nat} (hi : ops[i]? = some o) (hr : Region.ready .any ops listed = [i]) (hg : o.guard = none)
    (h : At n env w0 Rs (fun a w => o.wp P a w (fun a' w' => St w0 Rs0 w' ∧ wpAnyO P .any ops Q (stB w0 Rs0) fuel (listed.setIfInBounds i true) a' w') Q)) : At n env w0 Rs (fun a w => wpAnyO P .any ops Q (stB w0 Rs0) (fuel + 1) listed a w) :=
  fun a w hf hs => wpAnyO_one (B := stB w0 Rs0) hi hr (by simp [Region.wanted, hg]) (fun w' hw' _ hK => Oper.wp_mono (fun a' w' hk' => hK.out a' w' hk'.1 (fun _ => hk'.2)) (h a w' hf (hs.over_ hw')))
theorem dr_oneg {i j dj : Nat} {oj : Oper} {c : Bool} (hi : ops[i]? = some o) (hr : Region.ready .any ops listed = [i]) (hg : o.guard = some (j, c)) (hj : ops[j]? = some oj) (hdj : oj.dst = some dj) (hb : look env dj = some (.bool c))
    (h : At n env w0 Rs (fun a w => o.wp P a w (fun a' w' => St w0 Rs0 w' ∧ wpAnyO P .any ops Q (stB w0 Rs0) fuel (listed.setIfInBounds i true) a' w') Q)) : At n env w0 Rs (fun a w => wpAnyO P .any ops Q (stB w0 Rs0) (fuel + 1) listed a w) :=
  fun a w hf hs => wpAnyO_one (B := stB w0 Rs0) hi hr (by simp [Region.wanted, hg, yields hf hj hdj hb]) (fun w' hw' _ hK => Oper.wp_mono (fun a' w' hk' => hK.out a' w' hk'.1 (fun _ => hk'.2)) (h a w' hf (hs.over_ hw')))
theorem dr_keep (hsub : ∀ w, St w0 Rs w → St w0 Rs0 w) (h : At n env w0 Rs K) : At n env w0 Rs (fun a w => St w0 Rs0 w ∧ K a w) := fun a w hf hs => ⟨hsub w hs, h a w hf hs⟩
theorem dr_done {B : Base} (hr : Region.ready .any ops listed = []) (h : At n env w0 Rs (fun a w => Q .normal a w)) : At n env w0 Rs (fun a w => wpAnyO P .any ops Q B fuel listed a w) :=
  fun a w hf hs => wpAnyO_done hr (fun w' hw' => h a w' hf (hs.over_ hw')) _

/-- A further piece, in the same world. -/
theorem St.add' {w : World} {r : Res} (h : St w0 Rs w) (hP : r.P w) (hlow : ∀ b, r.F b → w0.mine b) (hap : ∀ (i : Nat) (s : Res), Rs[i]? = some s → ∀ b, r.F b → ¬ s.F b) (hB : r.B = 0) : St w0 (Rs ++ [r]) w := by
  have hget : ∀ (i : Nat) (s : Res), (Rs ++ [r])[i]? = some s → (i = Rs.length ∧ s = r) ∨ (i ≠ Rs.length ∧ Rs[i]? = some s) := by
    intro i s hi
    rcases Nat.lt_or_ge i Rs.length with hlt | hge
    · rw [List.getElem?_append_left hlt] at hi
      exact .inr ⟨by omega, hi⟩
    · rw [List.getElem?_append_right hge] at hi
      have : i - Rs.length = 0 := by
        rcases Nat.lt_or_ge 0 (i - Rs.length) with h0 | h0
        · rw [List.getElem?_eq_none (by simp only [List.length_singleton]; omega)] at hi; cases hi
        · omega
      rw [this] at hi
      exact .inl ⟨by omega, by simpa using hi.symm⟩
  refine ⟨h.over, fun i s hi => ?_, fun i j s t hij hi hj b hs ht => ?_⟩
  · rcases hget i s hi with ⟨_, rfl⟩ | ⟨_, hi'⟩
    · exact ⟨hP, hlow, by rw [hB]; exact Nat.zero_le _, fun _ _ => by rw [hB]; exact Nat.zero_le _⟩
    · exact h.all i s hi'
  · rcases hget i s hi with ⟨e1, rfl⟩ | ⟨_, hi'⟩
    · rcases hget j t hj with ⟨e2, rfl⟩ | ⟨_, hj'⟩
      · exact hij (e1.trans e2.symm)
      · exact hap j t hj' b hs ht
    · rcases hget j t hj with ⟨_, rfl⟩ | ⟨_, hj'⟩
      · exact hap i s hi' b ht hs
      · exact h.apart i j s t hij hi' hj' b hs ht
theorem dr_new2 {i j : Nat} {oi oj : Oper} {ti tj : TypeId} {di dj mi mj ki kj : Nat} {zi zj : Value} (hi : ops[i]? = some oi) (hj : ops[j]? = some oj) (hij : i ≠ j)
    (hoi : oi.op = .alloc ti) (hoj : oj.op = .alloc tj) (hdi : oi.dst = some di) (hdj : oj.dst = some dj) (hdd : di ≠ dj) (hni : di < n) (hnj : dj < n) (hgi : oi.guard = none) (hgj : oj.guard = none) (hzi : TyZ P ti mi ki zi) (hzj : TyZ P tj mj kj zj)
    (hr : Region.ready .any ops listed = [i, j]) (hri : Region.ready .any ops (listed.setIfInBounds i true) = [j]) (hrj : Region.ready .any ops (listed.setIfInBounds j true) = [i]) (hsub : ∀ w, St w0 Rs w → St w0 Rs0 w)
    (h : ∀ b c, At n ((dj, .pointer (some ⟨c, 0, none⟩)) :: (di, .pointer (some ⟨b, 0, none⟩)) :: env) w0 (Rs ++ [.cel b ti zi.cells.toList] ++ [.cel c tj zj.cells.toList]) (fun a w => wpAnyO P .any ops Q (stB w0 Rs0) fuel ((listed.setIfInBounds i true).setIfInBounds j true) a w)) :
    At n env w0 Rs (fun a w => wpAnyO P .any ops Q (stB w0 Rs0) (fuel + 1 + 1) listed a w) := fun a w hf hs =>
  wpAnyO_alloc2 (B := stB w0 Rs0) (hsub w hs) hi hj hij hoi hoj hdi hdj hdd hgi hgj hzi.run hzj.run hr hri hrj fun w' b c hO hb hc hbc hbl hcl hhb hhc => by
    refine h b c _ w' ((hf.put hni _).put hnj _) ?_
    have s1 : St w0 (Rs ++ [.cel b ti zi.cells.toList]) w' := hs.add hO (by show w'.heap[b]? = some (.cells zi.cells.toList.toArray ti (0, 0)); rw [hhb, Array.toArray_toList]) (fun k hk => by cases hk; exact hb) ⟨Nat.zero_le _, fun _ _ => Nat.zero_le _⟩
    refine s1.add' (by show w'.heap[c]? = some (.cells zj.cells.toList.toArray tj (0, 0)); rw [hhc, Array.toArray_toList]) (fun k hk => by cases hk; exact .inl (Nat.le_trans hs.over.size hc)) (fun q s hq k hk hsk => ?_) rfl
    cases hk
    rcases Nat.lt_or_ge q Rs.length with hlt | hge
    · rw [List.getElem?_append_left hlt] at hq
      have := hs.lt hq hsk
      omega
    · rw [List.getElem?_append_right hge] at hq
      have : q - Rs.length = 0 := by
        rcases Nat.lt_or_ge 0 (q - Rs.length) with h0 | h0
        · rw [List.getElem?_eq_none (by simp only [List.length_singleton]; omega)] at hq; cases hq
        · omega
      rw [this] at hq
      simp at hq
      subst hq
      exact hbc hsk.symm

/-! ### Rows that grow -/
theorem at_row0 {T s : Nat} (h : At n env w0 (Rs ++ [.row w0.N T s (.slice none 0 0) 0 []]) K) : At n env w0 Rs K := fun a w hf hs =>
  h a w hf (hs.add (Over.refl _) (World.ownsRow_nil _ _ _ _) (fun b hb => by simp [Res.row, Value.ownBlock] at hb) ⟨Nat.zero_le _, fun _ _ => Nat.zero_le _⟩)
theorem op_append {x y : Operand} {T U s bytes k B0 m c d nn : Nat} {z v : Value} {ad : Addr} {xs news : List Value} (ho : o.op = .call { callee := .builtin .append, args := #[x, y], argTypes := #[T, T] }) (hT : TyL P T U s) (hZ : TyZ P U s bytes z) (hs0 : 0 < s) (hd : o.dst = some d) (hn : d < n)
    (hx : ev env x = some v) (hy : ev env y = some (.slice (some ad) m c)) (hk : Rs[k]? = some (.row B0 U s v nn xs)) (hl : news.length = m * s) (hnews : ∀ w, St w0 Rs w → ∀ j u, news[j]? = some u → w.cell? (ad.add j) = some u) (h1 : ∀ u ∈ news, u.oneCell' = true)
    (h63 : nn + m ≤ maxLen) (hbytes : (nn + m) * bytes ≤ 140737488355328) (hB : B0 ≤ w0.N)
    (h : ∀ v', At n ((d, v') :: env) w0 (Rs.set k (.row B0 U s v' (nn + m) (xs ++ news))) K) : At n env w0 Rs (fun a w => o.wp P a w K Q) := fun a w hf hs => by
  obtain ⟨i, hi, hz0, hz1, hz2⟩ := hZ.info
  have hown : w.ownsRow B0 U s v nn xs := (hs.all k _ hk).1
  obtain ⟨v', w', hr, h2, h3, _, h5⟩ := run_append_own_at (P := P) w B0 T o.type U i z s bytes hT.desc hi hz0 hz1 hz2 hZ.cells hs0 v nn xs hown ad m c news hl (hnews w hs) h1 h63 hbytes (Nat.le_trans hB hs.over.size)
  have hrun : (execOp a.eval o).run P w = .ok (.value v') w' := by
    unfold execOp
    simp only [ho, resolve, invoke, builtin, Sem.run_bind, Sem.run_pure, Result.andThen_ok, List.map_toArray, List.map_cons, List.map_nil, hf.ev hx, hf.ev hy, hr]
  show o.upon P a K Q ((execOp a.eval o).run P w)
  rw [hrun, Oper.upon_value, hd]
  refine h v' _ w' (hf.put hn v') ?_
  have hlow := (hs.all k _ hk).2.1
  refine hs.upd hk ⟨h3.os.trans hs.over.os, h3.tape.trans hs.over.tape, h3.output.trans hs.over.output, Nat.le_trans hs.over.size h3.size, fun c hc hx => ?_⟩ h3.size (fun b hb hne => h3.block b hb (fun e => hne e.symm)) h2 (fun b hb => ?_) rfl
  · rw [h3.block c (Nat.lt_of_lt_of_le hc hs.over.size) (fun e => (hlow c e.symm).elim (fun h1 => by omega) (fun h1 => hx h1))]
    exact hs.over.block c hc hx
  rcases h5 with h5 | h5
  · left
    have hb' : v'.ownBlock = some b := hb
    rw [h5] at hb'
    exact hb'
  · right
    have hb' : v'.ownBlock = some b := hb
    rw [h5] at hb'
    injection hb' with hb'
    omega
end
end Go.Proofs.Ytakdjgldcpompaa
