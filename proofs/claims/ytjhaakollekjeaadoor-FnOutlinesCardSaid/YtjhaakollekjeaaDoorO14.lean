import Derived.Test.YtjhaakollekjeaaDoorO12
import Derived.Test.YtjhaakollekjeaaDoorO13
namespace Go.Proofs.YtjhaakollekjeaaDoor
open Go Go.RowKit
set_option linter.unusedVariables false
set_option linter.unusedSimpArgs false

/-! ### New rows -/
theorem row_slice {w : World} {B T s n : Nat} {v : Value} {xs : List Value} (h : w.ownsRow B T s v n xs) : ∃ x : Option Addr × Nat, v = .slice x.1 n x.2 := by
 rcases h.2 with ⟨rfl, rfl⟩ | ⟨g, cap, cur, rfl, _⟩
 ·exact ⟨(none, 0), rfl⟩
 ·exact ⟨(some ⟨g, 0, none⟩, cap), rfl⟩
abbrev rowR (B T s n : Nat) (xs : List Value) (x : Option Addr × Nat) : Res := .row B T s (.slice x.1 n x.2) n xs
theorem newRow {P : Program} {f : FuncId} {args : Array Value} {w1 : World} {T s n : Nat} {xs : List Value} {X : Value → Prop} (h : Calls P f args w1 fun e w' => ∃ v, e = .returned v ∧ X v ∧ w'.ownsRow w1.heap.size T s v n xs ∧ Over w1 w') :
  Calls P f args w1 fun e w' => ∃ x : Option Addr × Nat, e = .returned (.slice x.1 n x.2) ∧ Over w1 w' ∧ (rowR 0 T s n xs x).P w' ∧ (∀ b, (rowR 0 T s n xs x).F b → w1.heap.size ≤ b) ∧ (rowR 0 T s n xs x).B = 0 ∧ X (.slice x.1 n x.2) := by
 refine h.mono ?_
 rintro e w' ⟨v, rfl, hX, hr, hO⟩
 obtain ⟨x, rfl⟩ := row_slice hr
 exact ⟨x, rfl, hO, row_low hr (Nat.zero_le _), fun b hb => (hr.lt b hb).1, rfl, hX⟩
section
variable {w : World} {w0 : Bs} {Rs : List Res}
end

theorem regRing {rs : List Ring_} (h : regionB rs = true) {k : Nat} (hk : k < rs.length) : ringB (rg rs k) = true := by
 simp [regionB] at h
 have := h.1.2 rs[k] (List.getElem_mem hk)
 rwa [at_r hk] at this
/-! ### Operations that ask nothing of memory -/
def Qp (P : Program) (o : Oper) (n : Nat) (env : List (Nat × Value)) (v : Value) : Prop := ∀ a w, Frm n env a → (execOp a.eval o).run P w = .ok (.value v) w
section
variable {P : Program} {n : Nat} {env : List (Nat × Value)} {w0 : Bs} {Rs : List Res} {ops : Array Oper} {Q : Exit → Act → World → Prop} {o : Oper} {fuel : Nat} {listed : Array Bool}
theorem qp_move {x : Operand} {v : Value} (ho : o.op = .move x) (hx : ev env x = some v) : Qp P o n env v := fun a w hf => by unfold execOp; simp only [ho, hf.ev hx]; simp []
/-- Such an operation may be taken first, whatever may stand ahead of it. -/
theorem dp_q {i d : Nat} {v : Value} (hi : ops[i]? = some o) (hS : Region.noSelect ops = true) (hfr : Region.free .any ops listed i = true) (hrd : (Region.ready .any ops listed).contains i = true) (hQ : ∀ c a w, Q (.panic c) (a.put o.dst v) w → Q (.panic c) a w)
  (hg : o.guard = none) (hd : o.dst = some d) (hn : d < n) (hq : Qp P o n env v)
  (h : At n ((d, v) :: env) w0 Rs (fun a w => wpAny P .any ops Q fuel (listed.setIfInBounds i true) a w)) : At n env w0 Rs (fun a w => wpAny P .any ops Q (fuel + 1) listed a w) :=
 fun a w hf hs => wpAny_take hi hS hfr hrd hQ (.inl ⟨by simp [Region.wanted, hg], fun w' => hq a w' hf⟩) (hd ▸ h _ w (hf.put hn v) hs)
end

/-- A made slice without elements, as a row. -/
theorem at_rowN {n : Nat} {env : List (Nat × Value)} {w0 : Bs} {Rs : List Res} {K : Act → World → Prop} (k s : Nat) (hX : w0.X = []) {b U : Nat} (hk : Rs[k]? = some (.cel b U [])) (h : At n env w0 (Rs.set k (.row w0.N U s (.slice (some ⟨b, 0, none⟩) 0 0) 0 [])) K) : At n env w0 Rs K := at_rowE (m := 0) k hX hk h
/-- What is appended to a row: the slice that comes back. -/
theorem op_appendR {P : Program} {n : Nat} {env : List (Nat × Value)} {w0 : Bs} {Rs : List Res} {Q : Exit → Act → World → Prop} {K : Act → World → Prop} {o : Oper} {x y : Operand} {T U s bytes k B0 m d nn : Nat} {z v v2 : Value} {xs news : List Value} (ho : o.op = .call { callee := .builtin .append, args := #[x, y], argTypes := #[T, T] }) (hT : TyL P T U s) (hZ : TyZ P U s bytes z) (hs0 : 0 < s) (hd : o.dst = some d) (hn : d < n)
  (hx : ev env x = some v) (hy : ev env y = some v2) (hk : Rs[k]? = some (.row B0 U s v nn xs)) (hsrc : ∀ w, St w0 Rs w → Src s v2 m news w) (h1 : ∀ u ∈ news, u.oneCell' = true)
  (h63 : nn + m ≤ maxLen) (hbytes : (nn + m) * bytes ≤ 140737488355328) (hB : B0 ≤ w0.N)
  (h : ∀ r : Option Addr × Nat, At n ((d, .slice r.1 (nn + m) r.2) :: env) w0 (Rs.set k (.row B0 U s (.slice r.1 (nn + m) r.2) (nn + m) (xs ++ news))) K) : At n env w0 Rs (fun a w => o.wp P a w K Q) :=
 op_appendS ho hT hZ hs0 hd hn hx hy hk hsrc h1 h63 hbytes hB fun v' => at_fact (X := ∃ r : Option Addr × Nat, v' = .slice r.1 (nn + m) r.2) (fun w hs => by
  have hkl : k < Rs.length := (List.getElem?_eq_some_iff.1 hk).1
  exact row_slice (hs.all k _ (by rw [List.getElem?_set, if_pos rfl, if_pos hkl])).1) (by rintro ⟨r, rfl⟩; exact h r)
section
variable {P : Program} {n : Nat} {env : List (Nat × Value)} {w0 : Bs} {Rs : List Res} {ops : Array Oper} {Q : Exit → Act → World → Prop} {K : Act → World → Prop}
/-- Some of the pieces, in another order. -/
theorem St.picks {w : World} (l : List Nat) (h : St w0 Rs w) (hn : l.Nodup) : St w0 (l.filterMap (Rs[·]?)) w := by
 have key : ∀ (l : List Nat), l.Nodup → ∃ f : Nat → Nat, (∀ i j, i < (l.filterMap (Rs[·]?)).length → j < (l.filterMap (Rs[·]?)).length → f i = f j → i = j) ∧ (∀ i, i < (l.filterMap (Rs[·]?)).length → Rs[f i]? = (l.filterMap (Rs[·]?))[i]?) ∧ ∀ i, i < (l.filterMap (Rs[·]?)).length → f i ∈ l := by
  intro l
  induction l with
  | nil => exact fun _ => ⟨id, fun i j hi => absurd hi (by simp), fun i hi => absurd hi (by simp), fun i hi => absurd hi (by simp)⟩
  | cons a l ih =>
   intro hn
   obtain ⟨hna, hnl⟩ := List.nodup_cons.1 hn
   obtain ⟨f, h1, h2, h3⟩ := ih hnl
   cases ha : Rs[a]? with
   | none =>
    have e : (a :: l).filterMap (Rs[·]?) = l.filterMap (Rs[·]?) := by simp [List.filterMap_cons, ha]
    rw [e]
    exact ⟨f, h1, h2, fun i hi => List.mem_cons_of_mem _ (h3 i hi)⟩
   | some r =>
    have e : (a :: l).filterMap (Rs[·]?) = r :: l.filterMap (Rs[·]?) := by simp [List.filterMap_cons, ha]
    rw [e]
    refine ⟨fun i => match i with | 0 => a | i + 1 => f i, fun i j hi hj hij => ?_, fun i hi => ?_, fun i hi => ?_⟩
    ·match i, j with
     | 0, 0 => rfl
     | 0, j + 1 => have e : a = f j := hij; exact absurd (e.symm ▸ h3 j (by simpa using hj)) hna
     | i + 1, 0 => have e : f i = a := hij; exact absurd (e ▸ h3 i (by simpa using hi)) hna
     | i + 1, j + 1 => rw [h1 i j (by simpa using hi) (by simpa using hj) hij]
    ·match i with
     | 0 => simpa using ha
     | i + 1 => simpa using h2 i (by simpa using hi)
    ·match i with
     | 0 => exact List.mem_cons_self
     | i + 1 => exact List.mem_cons_of_mem _ (h3 i (by simpa using hi))
 obtain ⟨f, h1, h2, _⟩ := key l hn
 exact h.sel f h1 h2
end
end Go.Proofs.YtjhaakollekjeaaDoor

namespace Go.Proofs.YtjhaakollekjeaaDoor
open Go Go.RowKit
open Go.RowKit
set_option linter.unusedVariables false
set_option linter.unusedSimpArgs false

abbrev Pn := Int × Int
def tn (a b c : Pn) : Int := trn a.1 a.2 b.1 b.2 c.1 c.2
/-- A point that is valid; the order of points by X, then Y, as one number. -/
def bd2 (p : Pn) : Prop := (-262144 ≤ p.1 ∧ p.1 ≤ 262144) ∧ -262144 ≤ p.2 ∧ p.2 ≤ 262144
theorem okB_bd2 {p : Pn} (h : okB p.1 p.2 = true) : bd2 p := by
 simp [okB, inB] at h
 exact ⟨⟨by omega, by omega⟩, by omega, by omega⟩
def key (p : Pn) : Int := p.1 * 1048576 + p.2
abbrev pV (p : Pn) : Value := .agg #[.int .i64 p.1, .int .i64 p.2]
end Go.Proofs.YtjhaakollekjeaaDoor

namespace Go.Proofs.YtjhaakollekjeaaDoor
open Go Go.RowKit
set_option linter.unusedVariables false
set_option linter.unusedSimpArgs false

/-- Nothing has turned but the blocks of F, and new blocks. -/
structure Wrs (F : Nat → Prop) (w w' : World) : Prop where
 os : w'.os = w.os
 tape : w'.tape = w.tape
 output : w'.output = w.output
 size : w.heap.size ≤ w'.heap.size
 block : ∀ c, c < w.heap.size → ¬ F c → w'.heap[c]? = w.heap[c]?
theorem Wrs.refl (F : Nat → Prop) (w : World) : Wrs F w w := ⟨rfl, rfl, rfl, Nat.le_refl _, fun _ _ _ => rfl⟩
theorem Wrs.mono {F G : Nat → Prop} {w w' : World} (h : Wrs F w w') (hF : ∀ b, F b → G b) : Wrs G w w' := ⟨h.os, h.tape, h.output, h.size, fun c hc hn => h.block c hc (fun hf => hn (hF c hf))⟩
theorem Wrs.of {F : Nat → Prop} {w w' : World} (h : Over w w') : Wrs F w w' := ⟨h.out.os, h.out.tape, h.out.output, h.size, fun c hc _ => h.out.block c hc⟩
theorem Ovx.wrs {w w' : World} {X : List Nat} (h : Ovx ⟨w, X⟩ w') : Wrs (· ∈ X) w w' := ⟨h.os, h.tape, h.output, h.size, fun c hc hne => h.block c hc hne⟩
theorem Wrs.over {F : Nat → Prop} {w w' : World} (h : Wrs F w w') (hF : ∀ b, ¬ F b) : Over w w' := ⟨h.os, h.tape, h.output, h.size, fun c hc => h.block c hc (hF c)⟩

/-- A piece that came in may be turned. -/
theorem St.startR (w : World) (X : List Nat) (r : Res) (hP : r.P w) (hF : ∀ b, r.F b → b ∈ X) (hB : r.B = 0) : St ⟨w, X⟩ [r] w := by
 refine ⟨⟨rfl, rfl, rfl, Nat.le_refl _, fun _ _ _ => rfl⟩, fun i s hi => ?_, fun i j s t hij hi hj => ?_⟩
 ·match i, hi with
  | 0, hi =>
   simp at hi
   subst hi
   exact ⟨hP, fun b hb => .inr (hF b hb), by rw [hB]; exact Nat.zero_le _, fun _ _ => by rw [hB]; exact Nat.zero_le _⟩
 ·match i, j, hi, hj with
  | 0, 0, _, _ => exact absurd rfl hij

section
variable {P : Program} {n : Nat} {env : List (Nat × Value)} {w0 : Bs} {Rs : List Res} {ops : Array Oper} {Q : Exit → Act → World → Prop} {K : Act → World → Prop} {o : Oper}

theorem walk_fromR {f m : Nat} {fn : Func} {c : Code} {vs : List Value} {w : World} {R : Ending → World → Prop} (X : List Nat) (r : Res) (hP : r.P w) (hF : ∀ b, r.F b → b ∈ X) (hB : r.B = 0) (hf : P.funcs[f]? = some fn) (hb : fn.body = some c) (hm : fn.ntmps = m) (hl : vs.length ≤ m)
  (h : At m (envOf 0 vs) ⟨w, X⟩ [r] (fun a w => c.wp P (bodyPost P fn R) a w)) : Calls P f vs.toArray w R := by
 subst hm
 exact at_calls hf hb hl (fun t v hv => by simpa using (look_envOf vs 0 t v hv).2) h (St.startR w X r hP hF hB)

/-- A call that turns a piece of the call's own. -/
theorem op_callw {f k d : Nat} (hfn : FnOk P f) {xs : List Operand} {vs : List Value} {ts : Array TypeId} {v : Value} {r : Res} (r' : Res) (ho : o.op = .call { callee := .value (.func f), args := xs.toArray, argTypes := ts }) (hx : evs env xs = some vs) (hd : o.dst = some d) (hn : d < n)
  (hk : Rs[k]? = some r) (hc : ∀ w, St w0 Rs w → Calls P f vs.toArray w fun e w' => e = .returned v ∧ Wrs r.F w w' ∧ r'.P w') (hF : ∀ b, r'.F b → r.F b) (hB : r'.B = 0)
  (h : At n ((d, v) :: env) w0 (Rs.set k r') K) : At n env w0 Rs (fun a w => o.wp P a w K Q) := fun a w hF' hs => by
 show o.upon P a K Q ((execOp a.eval o).run P w)
 rw [run_call hfn ho hx hF']
 refine Calls.mono (hc w hs) ?_
 rintro e w' ⟨rfl, hw, hp⟩
 have hlow := (hs.all k _ hk).2.1
 show K (a.put o.dst v) w'
 rw [hd]
 refine h _ _ (hF'.put hn _) (hs.upd hk ⟨hw.os.trans hs.over.os, hw.tape.trans hs.over.tape, hw.output.trans hs.over.output, Nat.le_trans hs.over.size hw.size, fun c hc' hx' => ?_⟩ hw.size (fun c hc' hne => hw.block c hc' hne) hp (fun c hc' => .inl (hF c hc')) hB)
 rw [hw.block c (Nat.lt_of_lt_of_le hc' hs.over.size) (fun e => (hlow c e).elim (fun h1 => by omega) (fun h1 => hx' h1))]
 exact hs.over.block c hc' hx'

/-- Several pieces as one. -/
def Res.many (l : List Res) : Res where
 F b := ∃ r ∈ l, r.F b
 P w := (∀ r ∈ l, r.P w ∧ r.B = 0) ∧ l.Pairwise (fun (r s : Res) => ∀ b : Nat, r.F b → ¬ s.F b)
 low w h b hb := by obtain ⟨r, hr, hb⟩ := hb; exact r.low w (h.1 r hr).1 b hb
 B := 0
 dep w w' h hz hb := ⟨fun r hr => ⟨r.dep w w' (h.1 r hr).1 hz fun b h1 h2 => hb b h1 (.inr (h2.elim (fun h3 => by rw [(h.1 r hr).2] at h3; omega) (fun h3 => ⟨r, hr, h3⟩))), (h.1 r hr).2⟩, h.2⟩

/-- No piece at all. -/
theorem at_many0 (h : At n env w0 (Rs ++ [.many []]) K) : At n env w0 Rs K := fun a w hf hs =>
 h a w hf (hs.add (Over.refl _) ⟨fun r hr => absurd hr (by simp), List.Pairwise.nil⟩ (fun b hb => by obtain ⟨r, hr, _⟩ := hb; simp at hr) ⟨Nat.zero_le _, fun _ _ => Nat.zero_le _⟩)
theorem St.drop {w : World} {j : Nat} (h : St w0 Rs w) : St w0 (Rs.eraseIdx j) w :=
 h.sel (fun i => if i < j then i else i + 1) (fun a b _ _ e => by split at e <;> split at e <;> omega) (fun i hi => by
  rw [List.getElem?_eraseIdx]
  split
  ·rfl
  ·rfl)
/-- A piece goes to the others. -/
theorem at_push (k j : Nat) {l : List Res} {r : Res} (hk : Rs[k]? = some (.many l)) (hj : Rs[j]? = some r) (hkj : k ≠ j) (hB : r.B = 0) (h : At n env w0 ((Rs.set k (.many (l ++ [r]))).eraseIdx j) K) : At n env w0 Rs K := fun a w hf hs => by
 refine h a w hf ?_
 have hm := hs.all k _ hk
 have hr := hs.all j _ hj
 have hap := hs.apart k j _ _ hkj hk hj
 have hset : ∀ (i : Nat) (s : Res), i ≠ k → (Rs.set k (.many (l ++ [r])))[i]? = some s → Rs[i]? = some s := by
  intro i s hi h'
  rw [List.getElem?_set, if_neg (Ne.symm hi)] at h'
  exact h'
 have hkl : k < Rs.length := (List.getElem?_eq_some_iff.1 hk).1
 have hek : (Rs.set k (.many (l ++ [r])))[k]? = some (.many (l ++ [r])) := by rw [List.getElem?_set, if_pos rfl, if_pos hkl]
 have hP : (Res.many (l ++ [r])).P w := by
  refine ⟨fun s hs' => ?_, ?_⟩
  ·rcases List.mem_append.1 hs' with h1 | h1
   ·exact hm.1.1 s h1
   ·rw [List.mem_singleton.1 h1]; exact ⟨hr.1, hB⟩
  ·rw [List.pairwise_append]
   refine ⟨hm.1.2, List.pairwise_singleton _ _, fun a ha b hb c hc => ?_⟩
   rw [List.mem_singleton.1 hb]
   exact hap c ⟨a, ha, hc⟩
 have hFm : ∀ b, (Res.many (l ++ [r])).F b → (Res.many l).F b ∨ r.F b := by
  rintro b ⟨s, hs', hb⟩
  rcases List.mem_append.1 hs' with h1 | h1
  ·exact .inl ⟨s, h1, hb⟩
  ·rw [List.mem_singleton.1 h1] at hb; exact .inr hb
 have idx : ∀ (i : Nat) (s : Res), ((Rs.set k (.many (l ++ [r]))).eraseIdx j)[i]? = some s → ∃ i', i' ≠ j ∧ (Rs.set k (.many (l ++ [r])))[i']? = some s ∧ (i' = if i < j then i else i + 1) := by
  intro i s hi
  rw [List.getElem?_eraseIdx] at hi
  by_cases hij : i < j
  ·rw [if_pos hij] at hi; exact ⟨i, by omega, hi, by rw [if_pos hij]⟩
  ·rw [if_neg hij] at hi; exact ⟨i + 1, by omega, hi, by rw [if_neg hij]⟩
 refine ⟨hs.over, fun i s hi => ?_, fun i i2 s t hii hi hi2 b hb hb2 => ?_⟩
 ·obtain ⟨i', hne, hi', _⟩ := idx i s hi
  by_cases hik : i' = k
  ·subst hik
   rw [hek] at hi'
   injection hi' with hi'
   subst hi'
   exact ⟨hP, fun b hb => (hFm b hb).elim (hm.2.1 b) (hr.2.1 b), Nat.zero_le _, fun _ _ => Nat.zero_le _⟩
  ·exact hs.all i' s (hset i' s hik hi')
 ·obtain ⟨a, ha1, ha2, ha3⟩ := idx i s hi
  obtain ⟨c, hc1, hc2, hc3⟩ := idx i2 t hi2
  have hac : a ≠ c := by
   intro e
   rw [ha3, hc3] at e
   split at e <;> split at e <;> omega
  by_cases hak : a = k
  ·subst hak
   rw [hek] at ha2
   injection ha2 with ha2
   subst ha2
   have ht := hset c t (Ne.symm hac) hc2
   rcases hFm b hb with h1 | h1
   ·exact hs.apart a c _ t hac hk ht b h1 hb2
   ·exact hs.apart j c r t (Ne.symm hc1) hj ht b h1 hb2
  ·have hs' := hset a s hak ha2
   by_cases hck : c = k
   ·subst hck
    rw [hek] at hc2
    injection hc2 with hc2
    subst hc2
    rcases hFm b hb2 with h1 | h1
    ·exact hs.apart a c s _ hac hs' hk b hb h1
    ·exact hs.apart a j s r ha1 hs' hj b hb h1
   ·exact hs.apart a c s t hac hs' (hset c t hck hc2) b hb hb2
end

/-! ### Points that may be written -/
/-- A slice of points in an unfrozen block from lo on, below hi. -/
def OwnP (lo hi : Nat) (w : World) (A : Option Addr) (n : Nat) (xs : List (Int × Int)) : Prop :=
 xs.length = n ∧ (0 < n → ∃ b o T cs, A = some ⟨b, o, none⟩ ∧ lo ≤ b ∧ b < hi ∧ w.heap[b]? = some (.cells cs T (0, 0)) ∧ ∀ k, k < n → cs[o + k * 2]? = some (.int .i64 (px xs k)) ∧ cs[o + k * 2 + 1]? = some (.int .i64 (py xs k)))
section
variable {lo hi lo' hi' n : Nat} {w w' : World} {A : Option Addr} {xs : List (Int × Int)}
theorem OwnP.pts (h : OwnP lo hi w A n xs) : Pts w A n xs := ⟨h.1, fun hn => by
 obtain ⟨b, o, T, cs, rfl, h1, h2, hh, hc⟩ := h.2 hn
 refine ⟨b, o, rfl, lt_of_some hh, fun k hk => ?_⟩
 rw [cell_of_row w b _ _ T (0, 0) hh, cell_of_row w b _ _ T (0, 0) hh]
 exact hc k hk⟩
theorem OwnP.agree (h : OwnP lo hi w A n xs) (ha : ∀ p, A = some p → lo ≤ p.block → p.block < hi → w'.heap[p.block]? = w.heap[p.block]?) : OwnP lo hi w' A n xs := ⟨h.1, fun hn => by
 obtain ⟨b, o, T, cs, rfl, h1, h2, hh, hc⟩ := h.2 hn
 exact ⟨b, o, T, cs, rfl, h1, h2, (ha _ rfl h1 h2).trans hh, hc⟩⟩
theorem OwnP.nil (A : Option Addr) : OwnP lo hi w A 0 [] := ⟨rfl, fun h => absurd h (by omega)⟩
end
/-! ### Rings that may be written -/
/-- The block of a slice's address. -/
def ablk : Option Addr → Nat
 | some p => p.block
 | none => 0
/-- A slice of rings: an unfrozen block with the slices of the rings, each with points that may be written; no two of them in one block. -/
structure OwnGd (lo hi : Nat) (w : World) (b o T : Nat) (cs : Array Value) (pl : Nat → Option Addr × Nat) (n : Nat) (rs : List Ring_) : Prop where
 low : lo ≤ b
 high : b < hi
 blk : w.heap[b]? = some (.cells cs T (0, 0))
 cell : ∀ k, k < n → cs[o + k]? = some (.slice (pl k).1 (rg rs k).length (pl k).2)
 pts : ∀ k, k < n → OwnP lo hi w (pl k).1 (rg rs k).length (rg rs k)
 off : ∀ k, k < n → 0 < (rg rs k).length → ablk (pl k).1 ≠ b
 apart : ∀ j k, j < n → k < n → j ≠ k → 0 < (rg rs j).length → 0 < (rg rs k).length → ablk (pl j).1 ≠ ablk (pl k).1
def OwnG (lo hi : Nat) (w : World) (A : Option Addr) (n : Nat) (rs : List Ring_) : Prop :=
 rs.length = n ∧ (∀ k, k < n → ((rg rs k).length : Int) ≤ 1099511627776) ∧ (0 < n → ∃ b o T cs pl, A = some ⟨b, o, none⟩ ∧ OwnGd lo hi w b o T cs pl n rs)
section
variable {lo hi lo' hi' n : Nat} {w w' : World} {A : Option Addr} {rs : List Ring_}
theorem OwnGd.agree {b o T : Nat} {cs : Array Value} {pl : Nat → Option Addr × Nat} (h : OwnGd lo hi w b o T cs pl n rs) (ha : ∀ b, lo ≤ b → b < hi → w'.heap[b]? = w.heap[b]?) : OwnGd lo hi w' b o T cs pl n rs :=
 ⟨h.low, h.high, (ha b h.low h.high).trans h.blk, h.cell, fun k hk => (h.pts k hk).agree fun p _ h1 h2 => ha _ h1 h2, h.off, h.apart⟩
theorem OwnG.agree (h : OwnG lo hi w A n rs) (ha : ∀ b, lo ≤ b → b < hi → w'.heap[b]? = w.heap[b]?) : OwnG lo hi w' A n rs := ⟨h.1, h.2.1, fun hn => by
 obtain ⟨b, o, T, cs, pl, hA, hd⟩ := h.2.2 hn
 exact ⟨b, o, T, cs, pl, hA, hd.agree ha⟩⟩
theorem OwnG.nil (A : Option Addr) : OwnG lo hi w A 0 [] := ⟨rfl, fun k hk => absurd hk (by omega), fun h => absurd h (by omega)⟩
theorem OwnG.rings (h : OwnG lo hi w A n rs) : Rings w A n rs := ⟨h.1, fun hn => by
 obtain ⟨b, o, T, cs, pl, hA, hd⟩ := h.2.2 hn
 refine ⟨b, o, hA, lt_of_some hd.blk, fun k hk => ⟨(pl k).1, (pl k).2, ?_, (hd.pts k hk).pts, by have := h.2.1 k hk; omega⟩⟩
 rw [cell_of_row w b _ _ T (0, 0) hd.blk]
 exact hd.cell k hk⟩
end
/-! ### Results in memory -/
/-- A region that a call has made: its address, its capacity, where its blocks lie. -/
abbrev gegR (n : Nat) (rs : List Ring_) (lo hi : Nat) (A : Option Addr) : Res := .clo lo hi (fun w => OwnG lo hi w A n rs)
theorem gegP {lo hi n : Nat} {w : World} {A : Option Addr} {rs : List Ring_} (h : OwnG lo hi w A n rs) (hz : hi ≤ w.heap.size) : (gegR n rs lo hi A).P w := ⟨hz, fun w' _ ha => h.agree ha⟩
theorem gegG {lo hi n : Nat} {w : World} {A : Option Addr} {rs : List Ring_} (h : (gegR n rs lo hi A).P w) : OwnG lo hi w A n rs := h.2 w h.1 fun _ _ _ => rfl
abbrev ptsR (n : Nat) (xs : List (Int × Int)) (lo hi : Nat) (A : Option Addr) : Res := .clo lo hi (fun w => OwnP lo hi w A n xs)
theorem ptsP {lo hi n : Nat} {w : World} {A : Option Addr} {xs : List (Int × Int)} (h : OwnP lo hi w A n xs) (hz : hi ≤ w.heap.size) : (ptsR n xs lo hi A).P w := ⟨hz, fun w' _ ha => h.agree fun p _ h1 h2 => ha _ h1 h2⟩
theorem ptsG {lo hi n : Nat} {w : World} {A : Option Addr} {xs : List (Int × Int)} (h : (ptsR n xs lo hi A).P w) : OwnP lo hi w A n xs := h.2 w h.1 fun _ _ _ => rfl
theorem many2 {w : World} {r s : Res} (h1 : r.P w) (h2 : s.P w) (b1 : r.B = 0) (b2 : s.B = 0) (hap : ∀ b, r.F b → ¬ s.F b) : (Res.many [r, s]).P w :=
 ⟨fun q hq => by simp only [List.mem_cons, List.not_mem_nil, or_false] at hq; rcases hq with rfl | rfl <;> exact ⟨by assumption, by assumption⟩, by simpa using hap⟩
section
variable {n : Nat} {env : List (Nat × Value)} {w0 : Bs} {Rs : List Res} {K : Act → World → Prop}
/-- Two pieces that came as one. -/
theorem at_two (k : Nat) {r s : Res} (hk : Rs[k]? = some (.many [r, s])) (h : At n env w0 (Rs.set k r ++ [s]) K) : At n env w0 Rs K := fun a w hf hs => by
 refine h a w hf ?_
 have hm := hs.all k _ hk
 have hr := hm.1.1 r (by simp)
 have hss := hm.1.1 s (by simp)
 have hap : ∀ b, r.F b → ¬ s.F b := by have := hm.1.2; simpa using this
 have h1 : St w0 (Rs.set k r) w := hs.chg hk (fun _ => hr.1) (fun b hb => ⟨r, by simp, hb⟩) hr.2
 refine h1.add' hss.1 (fun b hb => hm.2.1 b ⟨s, by simp, hb⟩) (fun i q hq b hb hqb => ?_) hss.2
 rw [List.getElem?_set] at hq
 by_cases hik : k = i
 ·subst hik
  rw [if_pos rfl] at hq
  split at hq
  ·injection hq with hq; subst hq; exact hap b hqb hb
  ·cases hq
 ·rw [if_neg hik] at hq
  exact hs.apart k i _ q hik hk hq b ⟨s, by simp, hb⟩ hqb
end
end Go.Proofs.YtjhaakollekjeaaDoor
