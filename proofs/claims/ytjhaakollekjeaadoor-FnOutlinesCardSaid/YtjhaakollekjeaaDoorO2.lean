import Derived.Test.YtjhaakollekjeaaDoorO1
import Derived.Deep.AppendLies
namespace Go.Proofs.YtjhaakollekjeaaDoor
set_option linter.unusedSimpArgs false
set_option linter.unusedVariables false
open Go Go.RowKit

/-! ## What is owned -/
/-- A piece of memory of the call's own: its blocks, and what holds of it. -/
structure Res where
 F : Nat → Prop
 P : World → Prop
 low : ∀ w, P w → ∀ b, F b → b < w.heap.size
 B : Nat
 dep : ∀ w w', P w → w.heap.size ≤ w'.heap.size → (∀ b, b < w.heap.size → b < B ∨ F b → w'.heap[b]? = w.heap[b]?) → P w'

theorem lt_of_some {w : World} {b : Nat} {o : Obj} (h : w.heap[b]? = some o) : b < w.heap.size := (Array.getElem?_eq_some_iff.1 h).1

/-- A block of cells. -/
def Res.cel (b : Nat) (T : TypeId) (cs : List Value) : Res where
 F := (· = b)
 P := fun w => w.heap[b]? = some (.cells cs.toArray T (0, 0))
 low := fun _ h _ hk => hk ▸ lt_of_some h
 B := 0
 dep := fun _ _ h _ hb => (hb b (lt_of_some h) (.inr rfl)).trans h

/-- A row that grows. -/
def Res.row (B0 : Nat) (T : TypeId) (s : Nat) (v : Value) (n : Nat) (xs : List Value) : Res where
 F := fun k => v.ownBlock = some k
 P := fun w => w.ownsRow B0 T s v n xs
 low := fun _ h k hk => (h.lt k hk).2
 B := 0
 dep := fun w w' h _ hb => by
  refine ⟨h.1, ?_⟩
  rcases h.2 with hn | ⟨g, cap, cur, rfl, hB, hgg, rest⟩
  ·exact .inl hn
  ·exact .inr ⟨g, cap, cur, rfl, hB, (hb g (lt_of_some hgg) (.inr rfl)).trans hgg, rest⟩

/-- The world in which the call began, and the blocks of it that the call may turn. -/
structure Bs where
 w : World
 X : List Nat
def Bs.N (w0 : Bs) : Nat := w0.w.heap.size
/-- w lies over the beginning, but for the blocks that may turn. -/
structure Ovx (w0 : Bs) (w : World) : Prop where
 os : w.os = w0.w.os
 tape : w.tape = w0.w.tape
 output : w.output = w0.w.output
 size : w0.N ≤ w.heap.size
 block : ∀ b, b < w0.N → b ∉ w0.X → w.heap[b]? = w0.w.heap[b]?
theorem Ovx.trans {w0 : Bs} {a b : World} (h : Ovx w0 a) (k : Over a b) : Ovx w0 b :=
 ⟨k.out.os.trans h.os, k.out.tape.trans h.tape, k.out.output.trans h.output, Nat.le_trans h.size k.size, fun c hc hx => (k.out.block c (Nat.lt_of_lt_of_le hc h.size)).trans (h.block c hc hx)⟩
theorem Ovx.fin {w0 w : World} (h : Ovx ⟨w0, []⟩ w) : Over w0 w := ⟨h.os, h.tape, h.output, h.size, fun c hc => h.block c hc (by simp)⟩
theorem Ovx.of {w0 w : World} (h : Over w0 w) : Ovx ⟨w0, []⟩ w := ⟨h.out.os, h.out.tape, h.out.output, h.size, fun c hc _ => h.out.block c hc⟩
/-- The block may be turned. -/
def Bs.mine (w0 : Bs) (b : Nat) : Prop := w0.N ≤ b ∨ b ∈ w0.X

/-- What is owned over w0 in w. -/
structure St (w0 : Bs) (Rs : List Res) (w : World) : Prop where
 over : Ovx w0 w
 all : ∀ (i : Nat) (r : Res), Rs[i]? = some r → r.P w ∧ (∀ b, r.F b → w0.mine b) ∧ r.B ≤ w0.N ∧ ∀ b ∈ w0.X, r.B ≤ b
 apart : ∀ (i j : Nat) (r s : Res), i ≠ j → Rs[i]? = some r → Rs[j]? = some s → ∀ b, r.F b → ¬ s.F b

theorem St.start (w : World) : St ⟨w, []⟩ [] w := ⟨Ovx.of (Over.refl _), fun i r h => by simp at h, fun i j r s _ h => by simp at h⟩
theorem St.fin {w w' : World} {Rs : List Res} (h : St ⟨w, []⟩ Rs w') : Over w w' := h.over.fin
/-- One block that came in may be turned. -/
theorem St.start1 (w : World) (b T : Nat) (cs : List Value) (h : w.heap[b]? = some (.cells cs.toArray T (0, 0))) : St ⟨w, [b]⟩ [.cel b T cs] w := by
 refine ⟨⟨rfl, rfl, rfl, Nat.le_refl _, fun _ _ _ => rfl⟩, fun i r hi => ?_, fun i j r s hij hi hj => ?_⟩
 ·match i, hi with
  | 0, hi =>
   simp at hi
   subst hi
   exact ⟨h, fun c hc => .inr (by cases hc; simp), Nat.zero_le _, fun _ _ => Nat.zero_le _⟩
 ·match i, j, hi, hj with
  | 0, 0, _, _ => exact absurd rfl hij

theorem St.over_ {w0 : Bs} {w w' : World} {Rs : List Res} (h : St w0 Rs w) (ho : Over w w') : St w0 Rs w' :=
 ⟨h.over.trans ho, fun i r hi => ⟨r.dep w w' (h.all i r hi).1 ho.size (fun b hb _ => ho.out.block b hb), (h.all i r hi).2⟩, h.apart⟩

theorem St.lt {w0 : Bs} {w : World} {Rs : List Res} (h : St w0 Rs w) {i : Nat} {r : Res} (hi : Rs[i]? = some r) {b : Nat} (hb : r.F b) : b < w.heap.size := r.low w (h.all i r hi).1 b hb

/-- The k-th piece has turned. -/
theorem St.upd {w0 : Bs} {w w' : World} {Rs : List Res} {k : Nat} {r r' : Res} (h : St w0 Rs w) (hk : Rs[k]? = some r) (ho : Ovx w0 w') (hz : w.heap.size ≤ w'.heap.size)
  (hb : ∀ b, b < w.heap.size → ¬ r.F b → w'.heap[b]? = w.heap[b]?) (hP : r'.P w') (hF : ∀ b, r'.F b → r.F b ∨ w.heap.size ≤ b) (hB : r'.B = 0) : St w0 (Rs.set k r') w' := by
 have hkl : k < Rs.length := (List.getElem?_eq_some_iff.1 hk).1
 have hset : ∀ (i : Nat) (s : Res), (Rs.set k r')[i]? = some s → (i = k ∧ s = r') ∨ (i ≠ k ∧ Rs[i]? = some s) := by
  intro i s hi
  rw [List.getElem?_set] at hi
  by_cases hik : k = i
  ·subst hik
   rw [if_pos rfl, if_pos hkl] at hi
   exact .inl ⟨rfl, by simpa using hi.symm⟩
  ·rw [if_neg hik] at hi
   exact .inr ⟨fun e => hik e.symm, hi⟩
 have hlow : ∀ b, r'.F b → w0.mine b := fun b hb' => (hF b hb').elim (fun h' => (h.all k r hk).2.1 b h') (fun h' => .inl (Nat.le_trans h.over.size h'))
 refine ⟨ho, fun i s hi => ?_, fun i j s t hij hi hj b hs ht => ?_⟩
 ·rcases hset i s hi with ⟨rfl, rfl⟩ | ⟨hne, hi'⟩
  ·exact ⟨hP, hlow, by rw [hB]; exact Nat.zero_le _, fun _ _ => by rw [hB]; exact Nat.zero_le _⟩
  ·have hs := h.all i s hi'
   refine ⟨s.dep w w' hs.1 hz (fun b hlt hor => ?_), hs.2⟩
   rcases hor with hor | hor
   ·exact hb b hlt (fun hr => ((h.all k r hk).2.1 b hr).elim (fun h1 => by have := hs.2.2.1; omega) (fun h1 => by have := hs.2.2.2 b h1; omega))
   ·exact hb b hlt (fun hr => h.apart i k s r hne hi' hk b hor hr)
 ·rcases hset i s hi with ⟨rfl, rfl⟩ | ⟨hne, hi'⟩
  ·rcases hset j t hj with ⟨rfl, rfl⟩ | ⟨hne', hj'⟩
   ·exact hij rfl
   ·rcases hF b hs with h1 | h1
    ·exact h.apart i j r t hij hk hj' b h1 ht
    ·have := h.lt hj' ht; omega
  ·rcases hset j t hj with ⟨rfl, rfl⟩ | ⟨hne', hj'⟩
   ·rcases hF b ht with h1 | h1
    ·exact h.apart i j s r hij hi' hk b hs h1
    ·have := h.lt hi' hs; omega
   ·exact h.apart i j s t hij hi' hj' b hs ht

/-- A further piece. -/
theorem St.add {w0 : Bs} {w w' : World} {Rs : List Res} {r : Res} (h : St w0 Rs w) (ho : Over w w') (hP : r.P w') (hF : ∀ b, r.F b → w.heap.size ≤ b) (hB : r.B ≤ w0.N ∧ ∀ b ∈ w0.X, r.B ≤ b) : St w0 (Rs ++ [r]) w' := by
 have hget : ∀ (i : Nat) (s : Res), (Rs ++ [r])[i]? = some s → (i = Rs.length ∧ s = r) ∨ (i ≠ Rs.length ∧ Rs[i]? = some s) := by
  intro i s hi
  rcases Nat.lt_or_ge i Rs.length with hlt | hge
  ·rw [List.getElem?_append_left hlt] at hi
   exact .inr ⟨by omega, hi⟩
  ·rw [List.getElem?_append_right hge] at hi
   have : i - Rs.length = 0 := by
    rcases Nat.lt_or_ge 0 (i - Rs.length) with h0 | h0
    ·rw [List.getElem?_eq_none (by simp only [List.length_singleton]; omega)] at hi; cases hi
    ·omega
   rw [this] at hi
   exact .inl ⟨by omega, by simpa using hi.symm⟩
 have h2 := h.over_ ho
 refine ⟨h2.over, fun i s hi => ?_, fun i j s t hij hi hj b hs ht => ?_⟩
 ·rcases hget i s hi with ⟨_, rfl⟩ | ⟨_, hi'⟩
  ·exact ⟨hP, fun b hb => .inl (Nat.le_trans h.over.size (hF b hb)), hB⟩
  ·exact h2.all i s hi'
 ·rcases hget i s hi with ⟨e1, rfl⟩ | ⟨_, hi'⟩
  ·rcases hget j t hj with ⟨e2, rfl⟩ | ⟨_, hj'⟩
   ·exact hij (e1.trans e2.symm)
   ·have := h.lt hj' ht; have := hF b hs; omega
  ·rcases hget j t hj with ⟨_, rfl⟩ | ⟨_, hj'⟩
   ·have := h.lt hi' hs; have := hF b ht; omega
   ·exact h.apart i j s t hij hi' hj' b hs ht

/-- Some of the pieces. -/
theorem St.sel {w0 : Bs} {w : World} {Rs Rs' : List Res} (h : St w0 Rs w) (f : Nat → Nat) (hf : ∀ i j, i < Rs'.length → j < Rs'.length → f i = f j → i = j) (hg : ∀ i, i < Rs'.length → Rs[f i]? = Rs'[i]?) : St w0 Rs' w := by
 have key : ∀ (i : Nat) (r : Res), Rs'[i]? = some r → i < Rs'.length ∧ Rs[f i]? = some r := fun i r hi =>
  have hlt := (List.getElem?_eq_some_iff.1 hi).1
  ⟨hlt, (hg i hlt).trans hi⟩
 exact ⟨h.over, fun i r hi => h.all _ r (key i r hi).2, fun i j r s hij hi hj => h.apart _ _ r s (fun e => hij (hf i j (key i r hi).1 (key j s hj).1 e)) (key i r hi).2 (key j s hj).2⟩
theorem St.pre {w0 : Bs} {w : World} {Rs Rs' : List Res} (h : St w0 (Rs ++ Rs') w) : St w0 Rs w :=
 h.sel id (fun _ _ _ _ e => e) (fun i hi => by simp only [id]; rw [List.getElem?_append_left hi])

def stB (w0 : Bs) (Rs : List Res) : Base := ⟨St w0 Rs, fun _ _ h k => h.over_ k⟩

/-! ## The frame -/
def look : List (Nat × Value) → Nat → Option Value
 | [], _ => none
 | (k, v) :: r, t => match Nat.beq k t with
  | true => some v
  | false => look r t
def ev (env : List (Nat × Value)) : Operand → Option Value
 | .tmp t => look env t
 | .const v => some v
 | .global g => some (.pointer (some ⟨g, 0, none⟩))
 | .func f => some (.func (.func f) #[] #[])
def evs (env : List (Nat × Value)) : List Operand → Option (List Value)
 | [] => some []
 | x :: r => match ev env x with
  | none => none
  | some v => match evs env r with
   | none => none
   | some vs => some (v :: vs)

structure Frm (n : Nat) (env : List (Nat × Value)) (a : Act) : Prop where
 size : a.tmps.size = n
 get : ∀ t v, look env t = some v → a.tmps.getD t undef = v
 defers : a.defers = []

theorem Frm.ev {n : Nat} {env : List (Nat × Value)} {a : Act} (h : Frm n env a) {x : Operand} {v : Value} (hx : ev env x = some v) : a.eval x = v := by
 cases x with
 | tmp t => exact h.get t v hx
 | const c => simpa [Go.Proofs.YtjhaakollekjeaaDoor.ev, Act.eval] using hx
 | global g => simpa [Go.Proofs.YtjhaakollekjeaaDoor.ev, Act.eval] using hx
 | func f => simpa [Go.Proofs.YtjhaakollekjeaaDoor.ev, Act.eval] using hx
theorem Frm.evs {n : Nat} {env : List (Nat × Value)} {a : Act} (h : Frm n env a) : ∀ {xs : List Operand} {vs : List Value}, evs env xs = some vs → xs.map a.eval = vs
 | [], vs, hx => by simpa [Go.Proofs.YtjhaakollekjeaaDoor.evs] using hx
 | x :: r, vs, hx => by
  unfold Go.Proofs.YtjhaakollekjeaaDoor.evs at hx
  split at hx
  ·cases hx
  ·rename_i v hv
   split at hx
   ·cases hx
   ·rename_i us hus
    injection hx with hx
    subst hx
    rw [List.map_cons, h.ev hv, h.evs hus]
theorem Frm.put {n : Nat} {env : List (Nat × Value)} {a : Act} (h : Frm n env a) {d : Nat} (hd : d < n) (v : Value) : Frm n ((d, v) :: env) (a.put (some d) v) := by
 refine ⟨by simp [Act.put, h.size], fun t u hu => ?_, h.defers⟩
 unfold look at hu
 split at hu
 ·rename_i hb
  have : d = t := Nat.eq_of_beq_eq_true hb
  subst this
  injection hu with hu
  subst hu
  simp [Act.put, h.size, hd]
 ·rename_i hb
  have hne : d ≠ t := fun e => by subst e; simp at hb
  simp only [Act.put]
  have := h.get t u hu
  simpa [Array.getElem?_setIfInBounds_ne hne] using this
/-- What env' says stands in env, too. -/
def sub (env : List (Nat × Value)) : List (Nat × Value) → Prop
 | [] => True
 | (k, v) :: r => look env k = some v ∧ sub env r
theorem sub.get {env : List (Nat × Value)} : ∀ {e : List (Nat × Value)}, sub env e → ∀ {t v}, look e t = some v → look env t = some v
 | [], _, t, v, h => by simp [look] at h
 | (k, u) :: r, hs, t, v, h => by
  unfold look at h
  split at h
  ·rename_i hb
   have : k = t := Nat.eq_of_beq_eq_true hb
   subst this
   injection h with h
   subst h
   exact hs.1
  ·exact hs.2.get h
theorem Frm.sub {n : Nat} {env e : List (Nat × Value)} {a : Act} (h : Frm n env a) (hs : sub env e) : Frm n e a := ⟨h.size, fun t v hv => h.get t v (hs.get hv), h.defers⟩

/-! ## The state -/
def At (n : Nat) (env : List (Nat × Value)) (w0 : Bs) (Rs : List Res) (K : Act → World → Prop) : Prop := ∀ a w, Frm n env a → St w0 Rs w → K a w

section
variable {P : Program} {n : Nat} {env : List (Nat × Value)} {w0 : Bs} {Rs : List Res} {ops : Array Oper} {Q : Exit → Act → World → Prop} {K : Act → World → Prop}

/-- Another list of what is owned, and of what the temporaries hold. -/
theorem at_conv {env' : List (Nat × Value)} {Rs' : List Res} (he : sub env env') (hr : ∀ w, St w0 Rs w → St w0 Rs' w) (h : At n env' w0 Rs' K) : At n env w0 Rs K := fun a w hf hs => h a w (hf.sub he) (hr w hs)
/-- A plain fact of what is owned. -/
theorem at_fact {X : Prop} (hx : ∀ w, St w0 Rs w → X) (h : X → At n env w0 Rs K) : At n env w0 Rs K := fun a w hf hs => h (hx w hs) a w hf hs

theorem at_calls {f : FuncId} {fn : Func} {c : Code} {vs : List Value} {w : World} {R : Ending → World → Prop} {env : List (Nat × Value)} (hf : P.funcs[f]? = some fn) (hb : fn.body = some c) (hl : vs.length ≤ fn.ntmps)
  (he : ∀ t v, look env t = some v → vs[t]? = some v) (h : At fn.ntmps env w0 Rs (fun a w => c.wp P (bodyPost P fn R) a w)) (hS : St w0 Rs w) : Calls P f vs.toArray w R := by
 refine calls_of_wp hf hb (h _ _ ⟨by simp; omega, fun t v hv => ?_, rfl⟩ hS)
 have := he t v hv
 have hlt := (List.getElem?_eq_some_iff.1 this).1
 simp only [List.size_toArray]
 rw [Array.getD_eq_getD_getElem?, Array.getElem?_append_left (by simpa using hlt)]
 simp [this]

def envOf : Nat → List Value → List (Nat × Value)
 | _, [] => []
 | k, v :: r => (k, v) :: envOf (k + 1) r
theorem look_envOf : ∀ (vs : List Value) (k t : Nat) (v : Value), look (envOf k vs) t = some v → k ≤ t ∧ vs[t - k]? = some v
 | [], k, t, v, h => by simp [envOf, look] at h
 | u :: r, k, t, v, h => by
  unfold envOf look at h
  split at h
  ·rename_i hb
   have : k = t := Nat.eq_of_beq_eq_true hb
   subst this
   injection h with h
   subst h
   simp
  ·obtain ⟨h1, h2⟩ := look_envOf r (k + 1) t v h
   refine ⟨by omega, ?_⟩
   rw [show t - k = (t - (k + 1)) + 1 by omega]
   simpa using h2
/-- A call's walk begins. -/
theorem walk_from {f m : Nat} {fn : Func} {c : Code} {vs : List Value} {w : World} {R : Ending → World → Prop} (hf : P.funcs[f]? = some fn) (hb : fn.body = some c) (hm : fn.ntmps = m) (hl : vs.length ≤ m) (h : At m (envOf 0 vs) ⟨w, []⟩ [] (fun a w => c.wp P (bodyPost P fn R) a w)) : Calls P f vs.toArray w R := by
 subst hm
 exact at_calls hf hb hl (fun t v hv => by simpa using (look_envOf vs 0 t v hv).2) h (St.start w)
theorem walk_from1 {f m b T : Nat} {cs : List Value} {fn : Func} {c : Code} {vs : List Value} {w : World} {R : Ending → World → Prop} (hf : P.funcs[f]? = some fn) (hb : fn.body = some c) (hm : fn.ntmps = m) (hl : vs.length ≤ m) (hh : w.heap[b]? = some (.cells cs.toArray T (0, 0)))
  (h : At m (envOf 0 vs) ⟨w, [b]⟩ [.cel b T cs] (fun a w => c.wp P (bodyPost P fn R) a w)) : Calls P f vs.toArray w R := by
 subst hm
 exact at_calls hf hb hl (fun t v hv => by simpa using (look_envOf vs 0 t v hv).2) h (St.start1 w b T cs hh)

/-! ### Control -/
theorem at_seq {x y : Code} (h : At n env w0 Rs (fun a w => x.wp P (Exit.then (y.wp P Q) Q) a w)) : At n env w0 Rs (fun a w => (Code.seq x y).wp P Q a w) := fun a w hf hs => wp_seq (h a w hf hs)
theorem at_block {id : Nat} {c : Code} (h : At n env w0 Rs (fun a w => c.wp P (Exit.inBlock id Q) a w)) : At n env w0 Rs (fun a w => (Code.block id c).wp P Q a w) := fun a w hf hs => wp_block (h a w hf hs)
theorem at_skip (h : At n env w0 Rs (fun a w => Q .normal a w)) : At n env w0 Rs (fun a w => Code.skip.wp P Q a w) := fun a w hf hs => wp_skip (h a w hf hs)
theorem at_exit {id : Nat} (h : At n env w0 Rs (fun a w => Q (.exit id) a w)) : At n env w0 Rs (fun a w => (Code.exit id).wp P Q a w) := fun a w hf hs => wp_exit (h a w hf hs)
theorem at_retc (h : At n env w0 Rs (fun a w => Q .ret a w)) : At n env w0 Rs (fun a w => Code.ret.wp P Q a w) := fun a w hf hs => wp_ret (h a w hf hs)
theorem at_cond {c : Operand} {x y : Code} {t : Bool} (hc : ev env c = some (.bool t)) (h1 : t = true → At n env w0 Rs (fun a w => x.wp P Q a w)) (h2 : t = false → At n env w0 Rs (fun a w => y.wp P Q a w)) : At n env w0 Rs (fun a w => (Code.cond c x y).wp P Q a w) :=
 fun a w hf hs => wp_cond_split (hf.ev hc) (fun e => h1 e a w hf hs) (fun e => h2 e a w hf hs)
theorem at_yes {c : Operand} {x y : Code} {t : Bool} (hc : ev env c = some (.bool t)) (ht : t = true) (h1 : At n env w0 Rs (fun a w => x.wp P Q a w)) : At n env w0 Rs (fun a w => (Code.cond c x y).wp P Q a w) :=
 fun a w hf hs => wp_cond_true (ht ▸ hf.ev hc) (h1 a w hf hs)
theorem at_no {c : Operand} {x y : Code} {t : Bool} (hc : ev env c = some (.bool t)) (ht : t = false) (h1 : At n env w0 Rs (fun a w => y.wp P Q a w)) : At n env w0 Rs (fun a w => (Code.cond c x y).wp P Q a w) :=
 fun a w hf hs => wp_cond_false (ht ▸ hf.ev hc) (h1 a w hf hs)
theorem pass_then {K' : Act → World → Prop} {e : Exit} (hne : e ≠ .normal) (h : At n env w0 Rs (fun a w => Q e a w)) : At n env w0 Rs (fun a w => Exit.then K' Q e a w) := by
 intro a w hf hs
 have := h a w hf hs
 cases e <;> first | exact this | exact absurd rfl hne
theorem pass_hit {id : Nat} (h : At n env w0 Rs (fun a w => Q .normal a w)) : At n env w0 Rs (fun a w => Exit.inBlock id Q (.exit id) a w) := by
 intro a w hf hs
 have := h a w hf hs
 simpa [Exit.inBlock] using this
theorem pass_miss {id id' : Nat} (hne : id' ≠ id) (h : At n env w0 Rs (fun a w => Q (.exit id') a w)) : At n env w0 Rs (fun a w => Exit.inBlock id Q (.exit id') a w) := by
 intro a w hf hs
 have := h a w hf hs
 simpa [Exit.inBlock, hne] using this
theorem norm_then (h : At n env w0 Rs K) : At n env w0 Rs (fun a w => Exit.then K Q .normal a w) := h
theorem norm_block {id : Nat} (h : At n env w0 Rs (fun a w => Q .normal a w)) : At n env w0 Rs (fun a w => Exit.inBlock id Q .normal a w) := h

/-! ### Loops -/
theorem at_loop {X : Type} {c : Code} (H : X → Prop) (m : X → Nat) (env' : X → List (Nat × Value)) (Rs' : X → List Res) (x0 : X) (h0 : H x0) (he : sub env (env' x0)) (hr : ∀ w, St w0 Rs w → St w0 (Rs' x0) w)
  (round : ∀ x, H x → ∀ L : Act → World → Prop, (∀ y, H y → m y < m x → At n (env' y) w0 (Rs' y) L) → At n (env' x) w0 (Rs' x) (fun a w => c.wp P (Exit.then L Q) a w)) :
  At n env w0 Rs (fun a w => (Code.loop c).wp P Q a w) := by
 intro a w hf hs b k cs
 have key : ∀ N x a w, m x = N → H x → Frm n (env' x) a → St w0 (Rs' x) w →
   ∃ e a' w', Q e a' w' ∧ Arrives P (lone (b.at a (.code c :: .inLoop c :: k)) cs w) b k cs e a' w' := by
  intro N
  induction N using Nat.strongRecOn with
  | _ N ih =>
   intro x a w hN hH hf hs
   obtain ⟨e, a1, w1, hq, harr⟩ := round x hH (fun a' w' => ∃ y, H y ∧ m y < m x ∧ Frm n (env' y) a' ∧ St w0 (Rs' y) w') (fun y hy hlt a' w' hf' hs' => ⟨y, hy, hlt, hf', hs'⟩) a w hf hs b (.inLoop c :: k) cs
   cases e with
   | normal =>
    obtain ⟨y, hy, hlt, hf1, hs1⟩ := hq
    obtain ⟨e2, a2, w2, hq2, harr2⟩ := ih (m y) (hN ▸ hlt) y a1 w1 rfl hy hf1 hs1
    exact ⟨e2, a2, w2, hq2, .of_steps (Steps.trans harr (.one step_inLoop)) harr2⟩
   | exit id => exact ⟨_, a1, w1, hq, .pass (x := .inLoop c) rfl (fun _ _ => .inl (by simp)) harr⟩
   | goto l => exact ⟨_, a1, w1, hq, .pass (x := .inLoop c) rfl (fun _ _ => .inl (by simp)) harr⟩
   | ret => exact ⟨_, a1, w1, hq, .pass (x := .inLoop c) rfl (fun _ _ => .inl (by simp)) harr⟩
   | panic ch => exact ⟨_, a1, w1, hq, .pass (x := .inLoop c) rfl (fun _ _ => .inl (by simp)) harr⟩
   | outgrown => exact ⟨_, a1, w1, hq, .pass (x := .inLoop c) rfl (fun _ _ => .inl (by simp)) harr⟩
 obtain ⟨e, a', w', hq, harr⟩ := key _ x0 a w rfl h0 (hf.sub he) (hr w hs)
 exact ⟨e, a', w', hq, .of_steps (.one step_loop) harr⟩
/-! ### Regions -/
theorem at_region {id : Nat} {l : List Oper} (h : At n env w0 Rs (fun a w => wpList P l.toArray Q l a w)) : At n env w0 Rs (fun a w => (Code.region id l.toArray false).wp P Q a w) := fun a w hf hs => wp_region_lit (h a w hf hs)
theorem at_nil (h : At n env w0 Rs (fun a w => Q .normal a w)) : At n env w0 Rs (fun a w => wpList P ops Q [] a w) := h
theorem at_end (h : At n env w0 Rs K) : At n env w0 Rs (fun a w => wpList P ops (Exit.then K Q) [] a w) := h
theorem at_op {o : Oper} {rest : List Oper} (hg : o.guard = none) (h : At n env w0 Rs (fun a w => o.wp P a w (wpList P ops Q rest) Q)) : At n env w0 Rs (fun a w => wpList P ops Q (o :: rest) a w) :=
 fun a w hf hs => wpList_plain hg fun _ hK => Oper.wp_mono hK (h a w hf hs)

/-- The operation gives the value v, in a world over this one. -/
def Qt (P : Program) (o : Oper) (n : Nat) (env : List (Nat × Value)) (w0 : Bs) (Rs : List Res) (v : Value) : Prop := ∀ a w, Frm n env a → St w0 Rs w → Gv P v w ((execOp a.eval o).run P w)

theorem Gv.wp {o : Oper} {a : Act} {w : World} {v : Value} {K : Act → World → Prop} (h : Gv P v w ((execOp a.eval o).run P w)) (hk : ∀ w', Over w w' → K (a.put o.dst v) w') : o.wp P a w K Q := by
 unfold Oper.wp
 generalize (execOp a.eval o).run P w = r at *
 cases r with
 | ok x w' =>
  cases x <;> simp only [Gv] at h <;> simp only [Oper.upon]
  case value u => obtain ⟨rfl, h⟩ := h; exact hk _ h
  case skip => obtain ⟨rfl, h⟩ := h; exact hk _ h
  case enter f args =>
   refine Calls.mono h fun e w'' he => ?_
   obtain ⟨rfl, he⟩ := he
   exact hk _ he
 | halt x w' => exact absurd h (by simp [Gv])

theorem at_q {o : Oper} {rest : List Oper} {v : Value} {d : Nat} (hg : o.guard = none) (hd : o.dst = some d) (hn : d < n) (hq : Qt P o n env w0 Rs v) (h : At n ((d, v) :: env) w0 Rs (fun a w => wpList P ops Q rest a w)) :
  At n env w0 Rs (fun a w => wpList P ops Q (o :: rest) a w) :=
 at_op hg fun a w hf hs => Gv.wp (hq a w hf hs) fun w' hw' => hd ▸ h _ w' (hf.put hn v) (hs.over_ hw')
/-- A guard that says no, or yes. -/
theorem at_off {o : Oper} {rest : List Oper} {j d : Nat} {b c : Bool} {oj : Oper} {dj : Nat} (hg : o.guard = some (j, c)) (hj : ops[j]? = some oj) (hdj : oj.dst = some dj) (hb : look env dj = some (.bool b)) (hne : b ≠ c) (hd : o.dst = some d) (hn : d < n)
  (h : At n ((d, undef) :: env) w0 Rs (fun a w => wpList P ops Q rest a w)) : At n env w0 Rs (fun a w => wpList P ops Q (o :: rest) a w) := by
 intro a w hf hs
 have hy : yielded ops a.tmps j = some b := by
  have := hf.get _ _ hb
  simp only [yielded, hj, hdj, Option.bind_some]
  rw [Array.getD_eq_getD_getElem?] at this
  cases h' : a.tmps[dj]? with
  | none => rw [h'] at this; simp [undef] at this
  | some u => rw [h'] at this; simp at this; subst this; simp
 have hw : Region.wanted o (yielded ops a.tmps) = false := by simp [Region.wanted, hg, hy, hne]
 unfold wpList
 simp only [hw]
 exact hd ▸ h _ w (hf.put hn undef) hs
theorem at_on {o : Oper} {rest : List Oper} {j : Nat} {c : Bool} {oj : Oper} {dj : Nat} (hg : o.guard = some (j, c)) (hj : ops[j]? = some oj) (hdj : oj.dst = some dj) (hb : look env dj = some (.bool c))
  (h : At n env w0 Rs (fun a w => o.wp P a w (wpList P ops Q rest) Q)) : At n env w0 Rs (fun a w => wpList P ops Q (o :: rest) a w) := by
 intro a w hf hs
 have hy : yielded ops a.tmps j = some c := by
  have := hf.get _ _ hb
  simp only [yielded, hj, hdj, Option.bind_some]
  rw [Array.getD_eq_getD_getElem?] at this
  cases h' : a.tmps[dj]? with
  | none => rw [h'] at this; simp [undef] at this
  | some u => rw [h'] at this; simp at this; subst this; simp
 have hw : Region.wanted o (yielded ops a.tmps) = true := by simp [Region.wanted, hg, hy]
 unfold wpList
 simp only [hw, if_true]
 exact .inl (h a w hf hs)
theorem op_q {o : Oper} {v : Value} {d : Nat} (hd : o.dst = some d) (hn : d < n) (hq : Qt P o n env w0 Rs v) (h : At n ((d, v) :: env) w0 Rs K) : At n env w0 Rs (fun a w => o.wp P a w K Q) :=
 fun a w hf hs => Gv.wp (hq a w hf hs) fun w' hw' => hd ▸ h _ w' (hf.put hn v) (hs.over_ hw')
end
end Go.Proofs.YtjhaakollekjeaaDoor
