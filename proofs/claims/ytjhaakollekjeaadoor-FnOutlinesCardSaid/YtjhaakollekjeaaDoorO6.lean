import Derived.Test.YtjhaakollekjeaaDoorO5
namespace Go.Proofs.YtjhaakollekjeaaDoor
open Go Go.RowKit
set_option linter.unusedVariables false

section
variable {P : Program} {ops : Array Oper} {Q : Exit → Act → World → Prop} {md : Region.Mode} {B : Base}

/-- Whatever order is picked, in whatever world over W; behind each operation but f the world is one of the class B. -/
def wpAnyG (P : Program) (md : Region.Mode) (ops : Array Oper) (Q : Exit → Act → World → Prop) (B : Base) (f : Nat) : Nat → Array Bool → Act → World → Prop
 | 0, listed, a, W => Region.ready md ops listed = [] ∧ ∀ w, Over W w → Q .normal a w
 | fuel + 1, listed, a, W =>
  (Region.ready md ops listed = [] → ∀ w, Over W w → Q .normal a w) ∧
  ∀ i ∈ Region.ready md ops listed, ∀ w, Over W w → (i ≠ f → wpOp P ops Q i (fun a' w' => B.holds w' ∧ wpAnyG P md ops Q B f fuel (listed.setIfInBounds i true) a' w') a w) ∧
   (i = f → wpOp P ops Q f (fun a' w' => wpAny P md ops Q fuel (listed.setIfInBounds f true) a' w') a w)

theorem wpAnyG_mono {f : Nat} : ∀ (fuel : Nat) (listed : Array Bool) (a : Act) (W W' : World), Over W W' → wpAnyG P md ops Q B f fuel listed a W → wpAnyG P md ops Q B f fuel listed a W'
 | 0, _, _, _, _, ho, h => ⟨h.1, fun w hw => h.2 w (ho.trans hw)⟩
 | _ + 1, _, _, _, _, ho, h => ⟨fun h0 w hw => h.1 h0 w (ho.trans hw), fun i hi w hw => h.2 i hi w (ho.trans hw)⟩

theorem wpAny_nilG {listed : Array Bool} {a : Act} {w : World} (hr : Region.ready md ops listed = []) (h : Q .normal a w) : ∀ fuel, wpAny P md ops Q fuel listed a w
 | 0 => ⟨hr, h⟩
 | _ + 1 => ⟨fun _ => h, by rw [hr]; simp⟩

theorem wpAny_of_G {f : Nat} : ∀ (fuel : Nat) (listed : Array Bool) (a : Act) (W : World), wpAnyG P md ops Q B f fuel listed a W → ∀ w, Over W w → wpAny P md ops Q fuel listed a w
 | 0, _, _, _, h, w, hS => ⟨h.1, h.2 w hS⟩
 | fuel + 1, listed, a, _, h, w, hS => ⟨fun h0 => h.1 h0 w hS, fun i hi => by
   by_cases hif : i = f
   ·subst hif
    exact (h.2 i hi w hS).2 rfl
   ·exact wpOp_mono (fun a' w' h' => wpAny_of_G fuel _ a' w' h'.2 w' (Over.refl _)) ((h.2 i hi w hS).1 hif)⟩

/-- Number f stands behind number i. -/
def ahead (md : Region.Mode) (ops : Array Oper) (f i : Nat) : Bool := match ops[f]? with | some o => o.after.any (fun e => Region.binds md e && e.on == i) | none => true
theorem ahead_spec {f i : Nat} {listed : Array Bool} (h : ahead md ops f i = true) (hl : listed.getD i true = false) : f ∉ Region.ready md ops listed := by
 intro hm
 obtain ⟨_, o, ho, hall⟩ := mem_ready.1 hm
 unfold ahead at h
 rw [ho] at h
 obtain ⟨e, he, h2⟩ := Array.any_eq_true'.1 h
 rw [Bool.and_eq_true] at h2
 have h3 : e.on = i := by simpa using h2.2
 have h4 := hall e he h2.1
 rw [h3] at h4
 rcases Nat.lt_or_ge i listed.size with h' | h'
 ·simp [h'] at h4 hl; rw [hl] at h4; cases h4
 ·simp [Array.getElem?_eq_none h'] at h4

/-- Number f stands behind number i by way of others that are still to come. -/
def chainOk (md : Region.Mode) (ops : Array Oper) (listed : Array Bool) : Nat → List Nat → Nat → Bool
 | i, [], f => ahead md ops f i
 | i, m :: ms, f => ahead md ops m i && !listed.getD m true && chainOk md ops listed m ms f
theorem chain_not_ready {f : Nat} {listed : Array Bool} : ∀ (ms : List Nat) (i : Nat), listed.getD i true = false → chainOk md ops listed i ms f = true → f ∉ Region.ready md ops listed
 | [], i, hl, h => ahead_spec h hl
 | m :: ms, i, hl, h => by
  simp only [chainOk, Bool.and_eq_true, Bool.not_eq_true'] at h
  exact chain_not_ready ms m h.1.2 h.2
theorem chain_step {f j : Nat} {listed : Array Bool} (hj : j ∈ Region.ready md ops listed) : ∀ (ms : List Nat) (i : Nat), listed.getD i true = false → chainOk md ops listed i ms f = true → chainOk md ops (listed.setIfInBounds j true) i ms f = true
 | [], i, hl, h => h
 | m :: ms, i, hl, h => by
  simp only [chainOk, Bool.and_eq_true, Bool.not_eq_true'] at h ⊢
  have hjm : j ≠ m := fun e => absurd (e ▸ hj) (ahead_spec h.1.1 hl)
  exact ⟨⟨h.1.1, by rw [getD_set_ne true hjm]; exact h.1.2⟩, chain_step hj ms m h.1.2 h.2⟩

theorem wpAnyG_first {f i : Nat} {oi : Oper} {v : Value} (hi : ops[i]? = some oi) (hsel : ∀ (j : Nat) (o : Oper) cs b, ops[j]? = some o → o.op ≠ .select cs b)
  (hQ : ∀ c a w, Q (.panic c) (a.put oi.dst v) w → Q (.panic c) a w) (ms : List Nat) (hne : i ≠ f) :
  ∀ (fuel : Nat) (listed : Array Bool) (a : Act) (W : World), B.holds W →
   (∀ j oj, ops[j]? = some oj → j ≠ i → listed.getD j true = false → (∀ e ∈ oj.after, Region.binds md e = true → e.on ≠ i) → oi.apart ops oj = true) →
   i ∈ Region.ready md ops listed → chainOk md ops listed i ms f = true → Settles P ops B oi v a →
   wpAnyG P md ops Q B f fuel (listed.setIfInBounds i true) (a.put oi.dst v) W → wpAnyG P md ops Q B f (fuel + 1) listed a W := by
 intro fuel
 induction fuel with
 | zero =>
  intro listed a W hBW _ hr hfi hy H
  refine ⟨fun h => (by rw [h] at hr; cases hr), fun j hj w hS => ⟨fun _ => ?_, fun hjf => absurd hj (hjf ▸ chain_not_ready ms i (mem_ready.1 hr).1 hfi)⟩⟩
  by_cases hji : j = i
  ·subst hji; exact hy.wpOp hi (B.keep _ _ hBW hS) fun w' hw' => ⟨B.keep _ _ (B.keep _ _ hBW hS) hw', wpAnyG_mono _ _ _ _ _ (hS.trans hw') H⟩
  ·have := ready_mono hj hji
   rw [H.1] at this
   cases this
 | succ fuel ih =>
  intro listed a W hBW hfree hr hfi hy H
  refine ⟨fun h => (by rw [h] at hr; cases hr), fun j hj w hS => ⟨fun hjf => ?_, fun hjf => absurd hj (hjf ▸ chain_not_ready ms i (mem_ready.1 hr).1 hfi)⟩⟩
  by_cases hji : j = i
  ·subst hji; exact hy.wpOp hi (B.keep _ _ hBW hS) fun w' hw' => ⟨B.keep _ _ (B.keep _ _ hBW hS) hw', wpAnyG_mono _ _ _ _ _ (hS.trans hw') H⟩
  ·have h1 := (H.2 j (ready_mono hj hji) w hS).1 hjf
   obtain ⟨hjun, oj, hoj, hall⟩ := mem_ready.1 hj
   have hnot : ∀ e ∈ oj.after, Region.binds md e = true → e.on ≠ i := fun e he hb heq => by
    have h1 := hall e he hb
    have h0 := (mem_ready.1 hr).1
    rw [heq] at h1
    rcases Nat.lt_or_ge i listed.size with h' | h'
    ·simp [h'] at h0 h1; rw [h0] at h1; cases h1
    ·simp [Array.getElem?_eq_none h'] at h1
   have h2 := wpOp_putS hoj (hfree j oj hoj hji hjun hnot) (fun cs b => hsel i oi cs b hi) (fun cs b => hsel j oj cs b hoj) hQ hy h1
   have hfree' : ∀ k ok, ops[k]? = some ok → k ≠ i → (listed.setIfInBounds j true).getD k true = false →
     (∀ e ∈ ok.after, Region.binds md e = true → e.on ≠ i) → oi.apart ops ok = true := fun k ok hk hki hun hno => by
    refine hfree k ok hk hki ?_ hno
    by_cases hjk : j = k
    ·subst hjk; exact hjun
    ·rw [getD_set_ne true hjk] at hun; exact hun
   refine wpOp_mono (fun a' w' h3 => ⟨h3.2.1, ih (listed.setIfInBounds j true) a' w' h3.2.1 hfree' (ready_mono hr (Ne.symm hji)) (chain_step hj ms i (mem_ready.1 hr).1 hfi) h3.1 ?_⟩) h2
   rw [Array.setIfInBounds_comm _ _ hji]
   exact h3.2.2

theorem wpAnyG_take {f i : Nat} {oi : Oper} {v : Value} {fuel : Nat} {listed : Array Bool} {a : Act} {W : World} (hBW : B.holds W) (hi : ops[i]? = some oi)
  (hs : Region.noSelect ops = true) (hf : Region.free md ops listed i = true) (hr : (Region.ready md ops listed).contains i = true)
  (hQ : ∀ c a w, Q (.panic c) (a.put oi.dst v) w → Q (.panic c) a w) {ms : List Nat} (hfi : (chainOk md ops listed i ms f && i != f) = true)
  (hy : Settles P ops B oi v a) (h : wpAnyG P md ops Q B f fuel (listed.setIfInBounds i true) (a.put oi.dst v) W) : wpAnyG P md ops Q B f (fuel + 1) listed a W := by
 rw [Bool.and_eq_true] at hfi
 exact wpAnyG_first hi (Region.noSelect_spec hs) hQ ms (by simpa using hfi.2) fuel listed a W hBW (Region.free_spec hi hf) (by simpa using hr) hfi.1 hy h
theorem wpAnyG_one {f i : Nat} {oi : Oper} {fuel : Nat} {listed : Array Bool} {a : Act} {W : World} (hi : ops[i]? = some oi) (hne : (i != f) = true)
  (hr : Region.ready md ops listed = [i]) (hw : Region.wanted oi (yielded ops a.tmps) = true)
  (h : ∀ w, Over W w → Oper.wp P oi a w (fun a' w' => B.holds w' ∧ wpAnyG P md ops Q B f fuel (listed.setIfInBounds i true) a' w') Q) :
  wpAnyG P md ops Q B f (fuel + 1) listed a W := by
 refine ⟨fun h0 => (by rw [h0] at hr; cases hr), fun j hj w hS => ?_⟩
 rw [hr] at hj
 simp only [List.mem_singleton] at hj
 subst hj
 refine ⟨fun _ => ?_, fun e => absurd e (by simpa using hne)⟩
 unfold Go.wpOp
 simp only [hi, hw, if_true]
 exact .inl (h w hS)
/-- The one that all others stand before. -/
theorem wpAnyG_bar {f : Nat} {oi : Oper} {fuel : Nat} {listed : Array Bool} {a : Act} {W : World} (hi : ops[f]? = some oi)
  (hr : Region.ready md ops listed = [f]) (hw : Region.wanted oi (yielded ops a.tmps) = true)
  (h : ∀ w, Over W w → Oper.wp P oi a w (fun a' w' => wpAny P md ops Q fuel (listed.setIfInBounds f true) a' w') Q) : wpAnyG P md ops Q B f (fuel + 1) listed a W := by
 refine ⟨fun h0 => (by rw [h0] at hr; cases hr), fun j hj w hS => ?_⟩
 rw [hr] at hj
 simp only [List.mem_singleton] at hj
 subst hj
 refine ⟨fun hne => absurd rfl hne, fun _ => ?_⟩
 unfold Go.wpOp
 simp only [hi, hw, if_true]
 exact .inl (h w hS)
theorem wpAnyG_done {f : Nat} {listed : Array Bool} {a : Act} {W : World} (hr : Region.ready md ops listed = []) (h : ∀ w, Over W w → Q .normal a w) : ∀ fuel, wpAnyG P md ops Q B f fuel listed a W
 | 0 => ⟨hr, h⟩
 | _ + 1 => ⟨fun _ => h, by rw [hr]; simp⟩
/-- Two new variables. -/
theorem wpAnyG_alloc2 {f i j : Nat} {oi oj : Oper} {ti tj : TypeId} {di dj : Tmp} {zi zj : Value} {fuel : Nat} {listed : Array Bool} {a : Act} {W : World} (hBW : B.holds W)
  (hi : ops[i]? = some oi) (hj : ops[j]? = some oj) (hij : i ≠ j) (hfi : (i != f) = true) (hfj : (j != f) = true)
  (hoi : oi.op = .alloc ti) (hoj : oj.op = .alloc tj) (hdi : oi.dst = some di) (hdj : oj.dst = some dj) (hdd : di ≠ dj) (hgi : oi.guard = none) (hgj : oj.guard = none)
  (hzi : ∀ w, (zeroValue ti).run P w = .ok zi w) (hzj : ∀ w, (zeroValue tj).run P w = .ok zj w)
  (hr : Region.ready md ops listed = [i, j]) (hri : Region.ready md ops (listed.setIfInBounds i true) = [j]) (hrj : Region.ready md ops (listed.setIfInBounds j true) = [i])
  (h : ∀ w b c, Over W w → W.heap.size ≤ b → W.heap.size ≤ c → b ≠ c → b < w.heap.size → c < w.heap.size → w.heap[b]? = some (.cells zi.cells ti (0, 0)) → w.heap[c]? = some (.cells zj.cells tj (0, 0)) →
   wpAnyG P md ops Q B f fuel ((listed.setIfInBounds i true).setIfInBounds j true) ((a.put (some di) (.pointer (some ⟨b, 0, none⟩))).put (some dj) (.pointer (some ⟨c, 0, none⟩))) w) :
  wpAnyG P md ops Q B f (fuel + 1 + 1) listed a W := by
 have run : ∀ (o : Oper) (t : TypeId) (z : Value) (a : Act) (w : World), o.op = .alloc t → (∀ w, (zeroValue t).run P w = .ok z w) →
   (execOp a.eval o).run P w = .ok (.value (.pointer (some ⟨w.heap.size, 0, none⟩))) (w.alloc (.cells z.cells t)) := by
  intro o t z a w ho hz
  unfold execOp
  simp only [ho, Instr.alloc]
  simp [hz, go_sem]
 have wnt : ∀ (o : Oper) (t : Array Value), o.guard = none → Region.wanted o (yielded ops t) = true := by
  intro o t ho; simp [Region.wanted, ho]
 have hnew : ∀ (w : World) (o : Obj), (w.alloc o).heap[w.heap.size]? = some o := fun w o => heap_alloc_new w o
 have hfi' : i ≠ f := by simpa using hfi
 have hfj' : j ≠ f := by simpa using hfj
 refine ⟨fun h0 => (by rw [h0] at hr; cases hr), fun k hk w hS => ⟨fun hkf => ?_, fun hkf => ?_⟩⟩
 ·rw [hr] at hk
  rcases List.mem_cons.1 hk with rfl | hk
  ·unfold Go.wpOp
   simp only [hi, wnt oi _ hgi, if_true]
   refine .inl ?_
   unfold Oper.wp
   rw [run oi ti zi a w hoi hzi]
   refine ⟨B.keep _ _ (B.keep _ _ hBW hS) (Over.alloc _ _), ⟨fun h0 => (by rw [h0] at hri; cases hri), fun k2 hk2 w2 hS2 => ⟨fun _ => ?_, fun e => ?_⟩⟩⟩
   ·rw [hri] at hk2
    simp only [List.mem_singleton] at hk2
    subst hk2
    unfold Go.wpOp
    simp only [hj, wnt oj _ hgj, if_true]
    refine .inl ?_
    unfold Oper.wp
    rw [run oj tj zj _ w2 hoj hzj]
    have h12 : Over w w2 := (Over.alloc _ _).trans hS2
    have hlt : w.heap.size < w2.heap.size := by have := hS2.out.size; simp at this; omega
    have hle : W.heap.size ≤ w.heap.size := hS.out.size
    refine ⟨B.keep _ _ (B.keep _ _ (B.keep _ _ hBW hS) h12) (Over.alloc _ _), ?_⟩
    rw [hdi, hdj]
    refine h _ w.heap.size w2.heap.size ((hS.trans h12).trans (Over.alloc _ _)) hle (by omega) (by omega) (by simp; omega) (by simp) ?_ (hnew _ _)
    rw [Below.heap_alloc _ _ _ hlt, hS2.out.block _ (by simp), hnew]
   ·rw [hri] at hk2
    simp only [List.mem_singleton] at hk2
    exact absurd (hk2.symm.trans e) hfj'
  ·simp only [List.mem_singleton] at hk
   subst hk
   unfold Go.wpOp
   simp only [hj, wnt oj _ hgj, if_true]
   refine .inl ?_
   unfold Oper.wp
   rw [run oj tj zj a w hoj hzj]
   refine ⟨B.keep _ _ (B.keep _ _ hBW hS) (Over.alloc _ _), ⟨fun h0 => (by rw [h0] at hrj; cases hrj), fun k2 hk2 w2 hS2 => ⟨fun _ => ?_, fun e => ?_⟩⟩⟩
   ·rw [hrj] at hk2
    simp only [List.mem_singleton] at hk2
    subst hk2
    unfold Go.wpOp
    simp only [hi, wnt oi _ hgi, if_true]
    refine .inl ?_
    unfold Oper.wp
    rw [run oi ti zi _ w2 hoi hzi]
    have h12 : Over w w2 := (Over.alloc _ _).trans hS2
    have hlt : w.heap.size < w2.heap.size := by have := hS2.out.size; simp at this; omega
    have hle : W.heap.size ≤ w.heap.size := hS.out.size
    refine ⟨B.keep _ _ (B.keep _ _ (B.keep _ _ hBW hS) h12) (Over.alloc _ _), ?_⟩
    rw [hdi, hdj, Array.setIfInBounds_comm _ _ (Ne.symm hij), Act.put_comm _ _ _ (by intro d hd; cases hd; intro e; cases e; exact hdd rfl)]
    refine h _ w2.heap.size w.heap.size ((hS.trans h12).trans (Over.alloc _ _)) (by omega) hle (by omega) (by simp) (by simp; omega) (hnew _ _) ?_
    rw [Below.heap_alloc _ _ _ hlt, hS2.out.block _ (by simp), hnew]
   ·rw [hrj] at hk2
    simp only [List.mem_singleton] at hk2
    exact absurd (hk2.symm.trans e) hfi'
 ·rw [hr] at hk
  rcases List.mem_cons.1 hk with rfl | hk
  ·exact absurd hkf hfi'
  ·simp only [List.mem_singleton] at hk
   exact absurd (hk.symm.trans hkf) hfj'
end

section
variable {P : Program} {n : Nat} {env : List (Nat × Value)} {w0 : Bs} {Rs : List Res} {ops : Array Oper} {Q : Exit → Act → World → Prop} {K : Act → World → Prop} {o : Oper}
variable {Rs0 : List Res} {fuel f : Nat} {listed : Array Bool}
theorem dg_start {id m : Nat} (hm : P.follows .mixedOrders = true) (hz : ops.size = m) (h : At n env w0 Rs (fun a w => wpAny P .any ops Q m (Array.replicate m false) a w)) : At n env w0 Rs (fun a w => (Code.region id ops true).wp P Q a w) := by
 intro a w hf hs
 subst hz
 exact wp_region_any hm (h a _ hf (hs.over_ (Below.refl _ _).drew))
/-- A phase begins: up to number f. -/
theorem dg_phase (f : Nat) (h : At n env w0 Rs (fun a w => wpAnyG P .any ops Q (stB w0 Rs) f fuel listed a w)) : At n env w0 Rs (fun a w => wpAny P .any ops Q fuel listed a w) :=
 fun a w hf hs => wpAny_of_G _ _ _ _ (h a w hf hs) w (Over.refl _)
/-- A piece of which the blocks alone are spoken of. -/
def Res.wk (r : Res) : Res where
 F := r.F
 P := fun w => ∀ b, r.F b → b < w.heap.size
 low := fun _ h b hb => h b hb
 B := 0
 dep := fun _ _ h hz _ b hb => Nat.lt_of_lt_of_le (h b hb) hz
def wks : List Nat → List Res → List Res
 | [], R => R
 | k :: ks, R => wks ks (R.modify k Res.wk)
theorem St.wk1 {w : World} (k : Nat) (h : St w0 Rs w) : St w0 (Rs.modify k Res.wk) w := by
 have hget : ∀ (i : Nat) (r : Res), (Rs.modify k Res.wk)[i]? = some r → ∃ s, Rs[i]? = some s ∧ (r = s ∨ r = s.wk) := by
  intro i r hi
  rw [List.getElem?_modify] at hi
  cases hs : Rs[i]? with
  | none => rw [hs] at hi; simp at hi
  | some s =>
   rw [hs] at hi
   refine ⟨s, rfl, ?_⟩
   by_cases hki : k = i
   ·simp [hki] at hi; exact .inr hi.symm
   ·simp [hki] at hi; exact .inl hi.symm
 refine ⟨h.over, fun i r hi => ?_, fun i j r s hij hi hj b hb hsb => ?_⟩
 ·obtain ⟨s, hs, rfl | rfl⟩ := hget i r hi
  ·exact h.all i r hs
  ·have := h.all i s hs
   exact ⟨fun b hb => s.low w this.1 b hb, this.2.1, Nat.zero_le _, fun _ _ => Nat.zero_le _⟩
 ·obtain ⟨r', hr', er⟩ := hget i r hi
  obtain ⟨s', hs', es⟩ := hget j s hj
  have e1 : r'.F b := by rcases er with rfl | rfl <;> exact hb
  have e2 : s'.F b := by rcases es with rfl | rfl <;> exact hsb
  exact h.apart i j r' s' hij hr' hs' b e1 e2
theorem St.wk {w : World} : ∀ (ks : List Nat) {Rs : List Res}, St w0 Rs w → St w0 (wks ks Rs) w
 | [], _, h => h
 | k :: ks, _, h => St.wk ks (h.wk1 k)
theorem dg_phaseW (f : Nat) (ks : List Nat) (h : At n env w0 Rs (fun a w => wpAnyG P .any ops Q (stB w0 (wks ks Rs)) f fuel listed a w)) : At n env w0 Rs (fun a w => wpAny P .any ops Q fuel listed a w) :=
 fun a w hf hs => wpAny_of_G _ _ _ _ (h a w hf hs) w (Over.refl _)
theorem dg_end (hr : Region.ready .any ops listed = []) (h : At n env w0 Rs (fun a w => Q .normal a w)) : At n env w0 Rs (fun a w => wpAny P .any ops Q fuel listed a w) := fun a w hf hs => wpAny_nilG hr (h a w hf hs) _
theorem dg_done {B : Base} (hr : Region.ready .any ops listed = []) (h : At n env w0 Rs (fun a w => Q .normal a w)) : At n env w0 Rs (fun a w => wpAnyG P .any ops Q B f fuel listed a w) :=
 fun a w hf hs => wpAnyG_done hr (fun w' hw' => h a w' hf (hs.over_ hw')) _
theorem dg_q {i d : Nat} {v : Value} (hi : ops[i]? = some o) (hS : Region.noSelect ops = true) (hfr : Region.free .any ops listed i = true) (hrd : (Region.ready .any ops listed).contains i = true) (ms : List Nat) (hfi : (chainOk .any ops listed i ms f && i != f) = true) (hQ : ∀ c a w, Q (.panic c) (a.put o.dst v) w → Q (.panic c) a w)
  (hg : o.guard = none) (hd : o.dst = some d) (hn : d < n) (hsub : ∀ w, St w0 Rs w → St w0 Rs0 w) (hq : Qt P o n env w0 Rs0 v)
  (h : At n ((d, v) :: env) w0 Rs (fun a w => wpAnyG P .any ops Q (stB w0 Rs0) f fuel (listed.setIfInBounds i true) a w)) : At n env w0 Rs (fun a w => wpAnyG P .any ops Q (stB w0 Rs0) f (fuel + 1) listed a w) :=
 fun a w hf hs => wpAnyG_take (B := stB w0 Rs0) (hsub w hs) hi hS hfr hrd hQ hfi (.inl ⟨by simp [Region.wanted, hg], fun w' hs' => (hq a w' hf hs').gives⟩) (hd ▸ h _ w (hf.put hn v) hs)
theorem dg_qg {i d j dj : Nat} {v : Value} {oj : Oper} {c : Bool} (hi : ops[i]? = some o) (hS : Region.noSelect ops = true) (hfr : Region.free .any ops listed i = true) (hrd : (Region.ready .any ops listed).contains i = true) (ms : List Nat) (hfi : (chainOk .any ops listed i ms f && i != f) = true) (hQ : ∀ c a w, Q (.panic c) (a.put o.dst v) w → Q (.panic c) a w)
  (hg : o.guard = some (j, c)) (hj : ops[j]? = some oj) (hdj : oj.dst = some dj) (hb : look env dj = some (.bool c)) (hd : o.dst = some d) (hn : d < n) (hsub : ∀ w, St w0 Rs w → St w0 Rs0 w) (hq : Qt P o n env w0 Rs0 v)
  (h : At n ((d, v) :: env) w0 Rs (fun a w => wpAnyG P .any ops Q (stB w0 Rs0) f fuel (listed.setIfInBounds i true) a w)) : At n env w0 Rs (fun a w => wpAnyG P .any ops Q (stB w0 Rs0) f (fuel + 1) listed a w) :=
 fun a w hf hs => wpAnyG_take (B := stB w0 Rs0) (hsub w hs) hi hS hfr hrd hQ hfi (.inl ⟨by simp [Region.wanted, hg, yields hf hj hdj hb], fun w' hs' => (hq a w' hf hs').gives⟩) (hd ▸ h _ w (hf.put hn v) hs)
theorem dg_one {i : Nat} (hi : ops[i]? = some o) (hne : (i != f) = true) (hr : Region.ready .any ops listed = [i]) (hg : o.guard = none)
  (h : At n env w0 Rs (fun a w => o.wp P a w (fun a' w' => St w0 Rs0 w' ∧ wpAnyG P .any ops Q (stB w0 Rs0) f fuel (listed.setIfInBounds i true) a' w') Q)) : At n env w0 Rs (fun a w => wpAnyG P .any ops Q (stB w0 Rs0) f (fuel + 1) listed a w) :=
 fun a w hf hs => wpAnyG_one (B := stB w0 Rs0) hi hne hr (by simp [Region.wanted, hg]) (fun w' hw' => h a w' hf (hs.over_ hw'))
theorem dg_bar {B : Base} (hi : ops[f]? = some o) (hr : Region.ready .any ops listed = [f]) (hg : o.guard = none)
  (h : At n env w0 Rs (fun a w => o.wp P a w (fun a' w' => wpAny P .any ops Q fuel (listed.setIfInBounds f true) a' w') Q)) : At n env w0 Rs (fun a w => wpAnyG P .any ops Q B f (fuel + 1) listed a w) :=
 fun a w hf hs => wpAnyG_bar hi hr (by simp [Region.wanted, hg]) (fun w' hw' => h a w' hf (hs.over_ hw'))
theorem dg_new2 {i j : Nat} {oi oj : Oper} {ti tj : TypeId} {di dj mi mj ki kj : Nat} {zi zj : Value} (hi : ops[i]? = some oi) (hj : ops[j]? = some oj) (hij : i ≠ j) (hfi : (i != f) = true) (hfj : (j != f) = true)
  (hoi : oi.op = .alloc ti) (hoj : oj.op = .alloc tj) (hdi : oi.dst = some di) (hdj : oj.dst = some dj) (hdd : di ≠ dj) (hni : di < n) (hnj : dj < n) (hgi : oi.guard = none) (hgj : oj.guard = none) (hzi : TyZ P ti mi ki zi) (hzj : TyZ P tj mj kj zj)
  (hr : Region.ready .any ops listed = [i, j]) (hri : Region.ready .any ops (listed.setIfInBounds i true) = [j]) (hrj : Region.ready .any ops (listed.setIfInBounds j true) = [i]) (hsub : ∀ w, St w0 Rs w → St w0 Rs0 w)
  (h : ∀ b c, At n ((dj, .pointer (some ⟨c, 0, none⟩)) :: (di, .pointer (some ⟨b, 0, none⟩)) :: env) w0 (Rs ++ [.cel b ti zi.cells.toList] ++ [.cel c tj zj.cells.toList]) (fun a w => wpAnyG P .any ops Q (stB w0 Rs0) f fuel ((listed.setIfInBounds i true).setIfInBounds j true) a w)) :
  At n env w0 Rs (fun a w => wpAnyG P .any ops Q (stB w0 Rs0) f (fuel + 1 + 1) listed a w) := fun a w hf hs =>
 wpAnyG_alloc2 (B := stB w0 Rs0) (hsub w hs) hi hj hij hfi hfj hoi hoj hdi hdj hdd hgi hgj hzi.run hzj.run hr hri hrj fun w' b c hO hb hc hbc hbl hcl hhb hhc => by
  refine h b c _ w' ((hf.put hni _).put hnj _) ?_
  have s1 : St w0 (Rs ++ [.cel b ti zi.cells.toList]) w' := hs.add hO (by show w'.heap[b]? = some (.cells zi.cells.toList.toArray ti (0, 0)); rw [hhb, Array.toArray_toList]) (fun k hk => by cases hk; exact hb) ⟨Nat.zero_le _, fun _ _ => Nat.zero_le _⟩
  refine s1.add' (by show w'.heap[c]? = some (.cells zj.cells.toList.toArray tj (0, 0)); rw [hhc, Array.toArray_toList]) (fun k hk => by cases hk; exact .inl (Nat.le_trans hs.over.size hc)) (fun q s hq k hk hsk => ?_) rfl
  cases hk
  rcases Nat.lt_or_ge q Rs.length with hlt | hge
  ·rw [List.getElem?_append_left hlt] at hq
   have := hs.lt hq hsk
   omega
  ·rw [List.getElem?_append_right hge] at hq
   have : q - Rs.length = 0 := by
    rcases Nat.lt_or_ge 0 (q - Rs.length) with h0 | h0
    ·rw [List.getElem?_eq_none (by simp only [List.length_singleton]; omega)] at hq; cases hq
    ·omega
   rw [this] at hq
   simp at hq
   subst hq
   exact hbc hsk.symm
end
end Go.Proofs.YtjhaakollekjeaaDoor
