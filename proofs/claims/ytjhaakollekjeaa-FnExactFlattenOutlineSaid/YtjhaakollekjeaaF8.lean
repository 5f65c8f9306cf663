import Derived.Test.YtjhaakollekjeaaF6
import Derived.Test.YtjhaakollekjeaaF7
namespace Go.Proofs.Ytjhaakollekjeaa
open Go Go.RowKit
set_option linter.unusedVariables false
set_option linter.unusedSimpArgs false

/-- Nothing has turned but the blocks of F, and new blocks. -/
structure Wrs (F : Nat → Prop) (w w' : World) : Prop where
 os : w'.os = w.os
 tape : w'.tape = w.tape
 output : w'.output = w.output
 size : w.heap.size ≤ w'.heap.size
 block : ∀ c, c < w.heap.size → ¬ F c → w'.heap[c]? = w.heap[c]?
theorem Wrs.refl (F : Nat → Prop) (w : World) : Wrs F w w := ⟨rfl, rfl, rfl, Nat.le_refl _, fun _ _ _ => rfl⟩
theorem Wrs.mono {F G : Nat → Prop} {w w' : World} (h : Wrs F w w') (hF : ∀ b, F b → G b) : Wrs G w w' := ⟨h.os, h.tape, h.output, h.size, fun c hc hn => h.block c hc (fun hf => hn (hF c hf))⟩
theorem Wrs.of {F : Nat → Prop} {w w' : World} (h : Over w w') : Wrs F w w' := ⟨h.out.os, h.out.tape, h.out.output, h.size, fun c hc _ => h.out.block c hc⟩
theorem Ovx.wrs {w w' : World} {X : List Nat} (h : Ovx ⟨w, X⟩ w') : Wrs (· ∈ X) w w' := ⟨h.os, h.tape, h.output, h.size, fun c hc hne => h.block c hc hne⟩
theorem Wrs.over {F : Nat → Prop} {w w' : World} (h : Wrs F w w') (hF : ∀ b, ¬ F b) : Over w w' := ⟨h.os, h.tape, h.output, h.size, fun c hc => h.block c hc (hF c)⟩

/-- A piece that came in may be turned. -/
theorem St.startR (w : World) (X : List Nat) (r : Res) (hP : r.P w) (hF : ∀ b, r.F b → b ∈ X) (hB : r.B = 0) : St ⟨w, X⟩ [r] w := by
 refine ⟨⟨rfl, rfl, rfl, Nat.le_refl _, fun _ _ _ => rfl⟩, fun i s hi => ?_, fun i j s t hij hi hj => ?_⟩
 ·match i, hi with
  | 0, hi =>
   simp at hi
   subst hi
   exact ⟨hP, fun b hb => .inr (hF b hb), by rw [hB]; exact Nat.zero_le _, fun _ _ => by rw [hB]; exact Nat.zero_le _⟩
 ·match i, j, hi, hj with
  | 0, 0, _, _ => exact absurd rfl hij

section
variable {P : Program} {n : Nat} {env : List (Nat × Value)} {w0 : Bs} {Rs : List Res} {ops : Array Oper} {Q : Exit → Act → World → Prop} {K : Act → World → Prop} {o : Oper}

theorem walk_fromR {f m : Nat} {fn : Func} {c : Code} {vs : List Value} {w : World} {R : Ending → World → Prop} (X : List Nat) (r : Res) (hP : r.P w) (hF : ∀ b, r.F b → b ∈ X) (hB : r.B = 0) (hf : P.funcs[f]? = some fn) (hb : fn.body = some c) (hm : fn.ntmps = m) (hl : vs.length ≤ m)
  (h : At m (envOf 0 vs) ⟨w, X⟩ [r] (fun a w => c.wp P (bodyPost P fn R) a w)) : Calls P f vs.toArray w R := by
 subst hm
 exact at_calls hf hb hl (fun t v hv => by simpa using (look_envOf vs 0 t v hv).2) h (St.startR w X r hP hF hB)

/-- A call that turns a piece of the call's own. -/
theorem op_callw {f k d : Nat} (hfn : FnOk P f) {xs : List Operand} {vs : List Value} {ts : Array TypeId} {v : Value} {r : Res} (r' : Res) (ho : o.op = .call { callee := .value (.func f), args := xs.toArray, argTypes := ts }) (hx : evs env xs = some vs) (hd : o.dst = some d) (hn : d < n)
  (hk : Rs[k]? = some r) (hc : ∀ w, St w0 Rs w → Calls P f vs.toArray w fun e w' => e = .returned v ∧ Wrs r.F w w' ∧ r'.P w') (hF : ∀ b, r'.F b → r.F b) (hB : r'.B = 0)
  (h : At n ((d, v) :: env) w0 (Rs.set k r') K) : At n env w0 Rs (fun a w => o.wp P a w K Q) := fun a w hF' hs => by
 show o.upon P a K Q ((execOp a.eval o).run P w)
 rw [run_call hfn ho hx hF']
 refine Calls.mono (hc w hs) ?_
 rintro e w' ⟨rfl, hw, hp⟩
 have hlow := (hs.all k _ hk).2.1
 show K (a.put o.dst v) w'
 rw [hd]
 refine h _ _ (hF'.put hn _) (hs.upd hk ⟨hw.os.trans hs.over.os, hw.tape.trans hs.over.tape, hw.output.trans hs.over.output, Nat.le_trans hs.over.size hw.size, fun c hc' hx' => ?_⟩ hw.size (fun c hc' hne => hw.block c hc' hne) hp (fun c hc' => .inl (hF c hc')) hB)
 rw [hw.block c (Nat.lt_of_lt_of_le hc' hs.over.size) (fun e => (hlow c e).elim (fun h1 => by omega) (fun h1 => hx' h1))]
 exact hs.over.block c hc' hx'

/-- Several pieces as one. -/
def Res.many (l : List Res) : Res where
 F b := ∃ r ∈ l, r.F b
 P w := (∀ r ∈ l, r.P w ∧ r.B = 0) ∧ l.Pairwise (fun (r s : Res) => ∀ b : Nat, r.F b → ¬ s.F b)
 low w h b hb := by obtain ⟨r, hr, hb⟩ := hb; exact r.low w (h.1 r hr).1 b hb
 B := 0
 dep w w' h hz hb := ⟨fun r hr => ⟨r.dep w w' (h.1 r hr).1 hz fun b h1 h2 => hb b h1 (.inr (h2.elim (fun h3 => by rw [(h.1 r hr).2] at h3; omega) (fun h3 => ⟨r, hr, h3⟩))), (h.1 r hr).2⟩, h.2⟩

/-- No piece at all. -/
theorem at_many0 (h : At n env w0 (Rs ++ [.many []]) K) : At n env w0 Rs K := fun a w hf hs =>
 h a w hf (hs.add (Over.refl _) ⟨fun r hr => absurd hr (by simp), List.Pairwise.nil⟩ (fun b hb => by obtain ⟨r, hr, _⟩ := hb; simp at hr) ⟨Nat.zero_le _, fun _ _ => Nat.zero_le _⟩)
theorem St.drop {w : World} {j : Nat} (h : St w0 Rs w) : St w0 (Rs.eraseIdx j) w :=
 h.sel (fun i => if i < j then i else i + 1) (fun a b _ _ e => by split at e <;> split at e <;> omega) (fun i hi => by
  rw [List.getElem?_eraseIdx]
  split
  ·rfl
  ·rfl)
/-- A piece goes to the others. -/
theorem at_push (k j : Nat) {l : List Res} {r : Res} (hk : Rs[k]? = some (.many l)) (hj : Rs[j]? = some r) (hkj : k ≠ j) (hB : r.B = 0) (h : At n env w0 ((Rs.set k (.many (l ++ [r]))).eraseIdx j) K) : At n env w0 Rs K := fun a w hf hs => by
 refine h a w hf ?_
 have hm := hs.all k _ hk
 have hr := hs.all j _ hj
 have hap := hs.apart k j _ _ hkj hk hj
 have hset : ∀ (i : Nat) (s : Res), i ≠ k → (Rs.set k (.many (l ++ [r])))[i]? = some s → Rs[i]? = some s := by
  intro i s hi h'
  rw [List.getElem?_set, if_neg (Ne.symm hi)] at h'
  exact h'
 have hkl : k < Rs.length := (List.getElem?_eq_some_iff.1 hk).1
 have hek : (Rs.set k (.many (l ++ [r])))[k]? = some (.many (l ++ [r])) := by rw [List.getElem?_set, if_pos rfl, if_pos hkl]
 have hP : (Res.many (l ++ [r])).P w := by
  refine ⟨fun s hs' => ?_, ?_⟩
  ·rcases List.mem_append.1 hs' with h1 | h1
   ·exact hm.1.1 s h1
   ·rw [List.mem_singleton.1 h1]; exact ⟨hr.1, hB⟩
  ·rw [List.pairwise_append]
   refine ⟨hm.1.2, List.pairwise_singleton _ _, fun a ha b hb c hc => ?_⟩
   rw [List.mem_singleton.1 hb]
   exact hap c ⟨a, ha, hc⟩
 have hFm : ∀ b, (Res.many (l ++ [r])).F b → (Res.many l).F b ∨ r.F b := by
  rintro b ⟨s, hs', hb⟩
  rcases List.mem_append.1 hs' with h1 | h1
  ·exact .inl ⟨s, h1, hb⟩
  ·rw [List.mem_singleton.1 h1] at hb; exact .inr hb
 have idx : ∀ (i : Nat) (s : Res), ((Rs.set k (.many (l ++ [r]))).eraseIdx j)[i]? = some s → ∃ i', i' ≠ j ∧ (Rs.set k (.many (l ++ [r])))[i']? = some s ∧ (i' = if i < j then i else i + 1) := by
  intro i s hi
  rw [List.getElem?_eraseIdx] at hi
  by_cases hij : i < j
  ·rw [if_pos hij] at hi; exact ⟨i, by omega, hi, by rw [if_pos hij]⟩
  ·rw [if_neg hij] at hi; exact ⟨i + 1, by omega, hi, by rw [if_neg hij]⟩
 refine ⟨hs.over, fun i s hi => ?_, fun i i2 s t hii hi hi2 b hb hb2 => ?_⟩
 ·obtain ⟨i', hne, hi', _⟩ := idx i s hi
  by_cases hik : i' = k
  ·subst hik
   rw [hek] at hi'
   injection hi' with hi'
   subst hi'
   exact ⟨hP, fun b hb => (hFm b hb).elim (hm.2.1 b) (hr.2.1 b), Nat.zero_le _, fun _ _ => Nat.zero_le _⟩
  ·exact hs.all i' s (hset i' s hik hi')
 ·obtain ⟨a, ha1, ha2, ha3⟩ := idx i s hi
  obtain ⟨c, hc1, hc2, hc3⟩ := idx i2 t hi2
  have hac : a ≠ c := by
   intro e
   rw [ha3, hc3] at e
   split at e <;> split at e <;> omega
  by_cases hak : a = k
  ·subst hak
   rw [hek] at ha2
   injection ha2 with ha2
   subst ha2
   have ht := hset c t (Ne.symm hac) hc2
   rcases hFm b hb with h1 | h1
   ·exact hs.apart a c _ t hac hk ht b h1 hb2
   ·exact hs.apart j c r t (Ne.symm hc1) hj ht b h1 hb2
  ·have hs' := hset a s hak ha2
   by_cases hck : c = k
   ·subst hck
    rw [hek] at hc2
    injection hc2 with hc2
    subst hc2
    rcases hFm b hb2 with h1 | h1
    ·exact hs.apart a c s _ hac hs' hk b hb h1
    ·exact hs.apart a j s r ha1 hs' hj b hb h1
   ·exact hs.apart a c s t hac hs' (hset c t hck hc2) b hb hb2
end

/-! ### Points that may be written -/
/-- A slice of points in an unfrozen block from lo on, below hi. -/
def OwnP (lo hi : Nat) (w : World) (A : Option Addr) (n : Nat) (xs : List (Int × Int)) : Prop :=
 xs.length = n ∧ (0 < n → ∃ b o T cs, A = some ⟨b, o, none⟩ ∧ lo ≤ b ∧ b < hi ∧ w.heap[b]? = some (.cells cs T (0, 0)) ∧ ∀ k, k < n → cs[o + k * 2]? = some (.int .i64 (px xs k)) ∧ cs[o + k * 2 + 1]? = some (.int .i64 (py xs k)))
section
variable {lo hi lo' hi' n : Nat} {w w' : World} {A : Option Addr} {xs : List (Int × Int)}
theorem OwnP.pts (h : OwnP lo hi w A n xs) : Pts w A n xs := ⟨h.1, fun hn => by
 obtain ⟨b, o, T, cs, rfl, h1, h2, hh, hc⟩ := h.2 hn
 refine ⟨b, o, rfl, lt_of_some hh, fun k hk => ?_⟩
 rw [cell_of_row w b _ _ T (0, 0) hh, cell_of_row w b _ _ T (0, 0) hh]
 exact hc k hk⟩
theorem OwnP.agree (h : OwnP lo hi w A n xs) (ha : ∀ p, A = some p → lo ≤ p.block → p.block < hi → w'.heap[p.block]? = w.heap[p.block]?) : OwnP lo hi w' A n xs := ⟨h.1, fun hn => by
 obtain ⟨b, o, T, cs, rfl, h1, h2, hh, hc⟩ := h.2 hn
 exact ⟨b, o, T, cs, rfl, h1, h2, (ha _ rfl h1 h2).trans hh, hc⟩⟩
theorem OwnP.nil (A : Option Addr) : OwnP lo hi w A 0 [] := ⟨rfl, fun h => absurd h (by omega)⟩
end
/-- The points k, k + 1; k + 2, k + 3; .. -/
def marks (k : Int) (n : Nat) : List (Int × Int) := (List.range n).map fun (j : Nat) => (k + 2 * (j : Int), k + 2 * (j : Int) + 1)
theorem marks_len (k : Int) (n : Nat) : (marks k n).length = n := by simp [marks]
theorem px_marks {k : Int} {n j : Nat} (h : j < n) : px (marks k n) j = k + 2 * j := by simp [px, marks, List.getD, h]
theorem py_marks {k : Int} {n j : Nat} (h : j < n) : py (marks k n) j = k + 2 * j + 1 := by simp [py, marks, List.getD, h]

/-! ### Rings that may be written -/
/-- The block of a slice's address. -/
def ablk : Option Addr → Nat
 | some p => p.block
 | none => 0
/-- A slice of rings: an unfrozen block with the slices of the rings, each with points that may be written; no two of them in one block. -/
structure OwnGd (lo hi : Nat) (w : World) (b o T : Nat) (cs : Array Value) (pl : Nat → Option Addr × Nat) (n : Nat) (rs : List Ring_) : Prop where
 low : lo ≤ b
 high : b < hi
 blk : w.heap[b]? = some (.cells cs T (0, 0))
 cell : ∀ k, k < n → cs[o + k]? = some (.slice (pl k).1 (rg rs k).length (pl k).2)
 pts : ∀ k, k < n → OwnP lo hi w (pl k).1 (rg rs k).length (rg rs k)
 off : ∀ k, k < n → 0 < (rg rs k).length → ablk (pl k).1 ≠ b
 apart : ∀ j k, j < n → k < n → j ≠ k → 0 < (rg rs j).length → 0 < (rg rs k).length → ablk (pl j).1 ≠ ablk (pl k).1
def OwnG (lo hi : Nat) (w : World) (A : Option Addr) (n : Nat) (rs : List Ring_) : Prop :=
 rs.length = n ∧ (∀ k, k < n → ((rg rs k).length : Int) ≤ 1099511627776) ∧ (0 < n → ∃ b o T cs pl, A = some ⟨b, o, none⟩ ∧ OwnGd lo hi w b o T cs pl n rs)
section
variable {lo hi lo' hi' n : Nat} {w w' : World} {A : Option Addr} {rs : List Ring_}
theorem OwnGd.agree {b o T : Nat} {cs : Array Value} {pl : Nat → Option Addr × Nat} (h : OwnGd lo hi w b o T cs pl n rs) (ha : ∀ b, lo ≤ b → b < hi → w'.heap[b]? = w.heap[b]?) : OwnGd lo hi w' b o T cs pl n rs :=
 ⟨h.low, h.high, (ha b h.low h.high).trans h.blk, h.cell, fun k hk => (h.pts k hk).agree fun p _ h1 h2 => ha _ h1 h2, h.off, h.apart⟩
theorem OwnG.agree (h : OwnG lo hi w A n rs) (ha : ∀ b, lo ≤ b → b < hi → w'.heap[b]? = w.heap[b]?) : OwnG lo hi w' A n rs := ⟨h.1, h.2.1, fun hn => by
 obtain ⟨b, o, T, cs, pl, hA, hd⟩ := h.2.2 hn
 exact ⟨b, o, T, cs, pl, hA, hd.agree ha⟩⟩
theorem OwnG.nil (A : Option Addr) : OwnG lo hi w A 0 [] := ⟨rfl, fun k hk => absurd hk (by omega), fun h => absurd h (by omega)⟩
theorem OwnG.rings (h : OwnG lo hi w A n rs) : Rings w A n rs := ⟨h.1, fun hn => by
 obtain ⟨b, o, T, cs, pl, hA, hd⟩ := h.2.2 hn
 refine ⟨b, o, hA, lt_of_some hd.blk, fun k hk => ⟨(pl k).1, (pl k).2, ?_, (hd.pts k hk).pts, by have := h.2.1 k hk; omega⟩⟩
 rw [cell_of_row w b _ _ T (0, 0) hd.blk]
 exact hd.cell k hk⟩
end
/-- The marks of rings one behind the other. -/
def marksR : Int → List Ring_ → List Ring_
 | _, [] => []
 | k, r :: l => marks k r.length :: marksR (k + 2 * r.length) l
theorem marksR_len : ∀ (k : Int) (l : List Ring_), (marksR k l).length = l.length
 | _, [] => rfl
 | k, r :: l => by simp [marksR, marksR_len]
theorem rg_marksR : ∀ (l : List Ring_) (k : Int) (j : Nat), j < l.length → rg (marksR k l) j = marks (k + 2 * (sumTo l j : Nat)) (rg l j).length
 | [], _, _, h => absurd h (by simp)
 | r :: l, k, 0, _ => by simp [marksR, rg, sumTo]
 | r :: l, k, j + 1, h => by
  have := rg_marksR l (k + 2 * r.length) j (by simpa using h)
  have e1 : rg (marksR k (r :: l)) (j + 1) = rg (marksR (k + 2 * r.length) l) j := by simp [marksR, rg]
  have e2 : rg (r :: l) (j + 1) = rg l j := by simp [rg]
  have e3 : ∀ j, sumTo (r :: l) (j + 1) = r.length + sumTo l j := by
   intro j
   induction j with
   | zero => simp [sumTo, rg]
   | succ j ih =>
    rw [sumTo, ih, sumTo]
    have : rg (r :: l) (j + 1) = rg l j := by simp [rg]
    rw [this]; omega
  rw [e1, this, e2, e3]
  congr 1
  omega

/-! ### Results in memory -/
/-- A region that a call has made: its address, its capacity, where its blocks lie. -/
abbrev gegR (n : Nat) (rs : List Ring_) (lo hi : Nat) (A : Option Addr) : Res := .clo lo hi (fun w => OwnG lo hi w A n rs)
theorem gegP {lo hi n : Nat} {w : World} {A : Option Addr} {rs : List Ring_} (h : OwnG lo hi w A n rs) (hz : hi ≤ w.heap.size) : (gegR n rs lo hi A).P w := ⟨hz, fun w' _ ha => h.agree ha⟩
theorem gegG {lo hi n : Nat} {w : World} {A : Option Addr} {rs : List Ring_} (h : (gegR n rs lo hi A).P w) : OwnG lo hi w A n rs := h.2 w h.1 fun _ _ _ => rfl
abbrev ptsR (n : Nat) (xs : List (Int × Int)) (lo hi : Nat) (A : Option Addr) : Res := .clo lo hi (fun w => OwnP lo hi w A n xs)
theorem ptsP {lo hi n : Nat} {w : World} {A : Option Addr} {xs : List (Int × Int)} (h : OwnP lo hi w A n xs) (hz : hi ≤ w.heap.size) : (ptsR n xs lo hi A).P w := ⟨hz, fun w' _ ha => h.agree fun p _ h1 h2 => ha _ h1 h2⟩
theorem ptsG {lo hi n : Nat} {w : World} {A : Option Addr} {xs : List (Int × Int)} (h : (ptsR n xs lo hi A).P w) : OwnP lo hi w A n xs := h.2 w h.1 fun _ _ _ => rfl
theorem many2 {w : World} {r s : Res} (h1 : r.P w) (h2 : s.P w) (b1 : r.B = 0) (b2 : s.B = 0) (hap : ∀ b, r.F b → ¬ s.F b) : (Res.many [r, s]).P w :=
 ⟨fun q hq => by simp only [List.mem_cons, List.not_mem_nil, or_false] at hq; rcases hq with rfl | rfl <;> exact ⟨by assumption, by assumption⟩, by simpa using hap⟩
section
variable {n : Nat} {env : List (Nat × Value)} {w0 : Bs} {Rs : List Res} {K : Act → World → Prop}
end
end Go.Proofs.Ytjhaakollekjeaa

namespace Go.Proofs.Ytjhaakollekjeaa
open Go Go.RowKit
open Go.RowKit
set_option linter.unusedVariables false
set_option linter.unusedSimpArgs false

abbrev Pn := Int × Int
def tn (a b c : Pn) : Int := trn a.1 a.2 b.1 b.2 c.1 c.2
/-- A point that is valid; the order of points by X, then Y, as one number. -/
def bd2 (p : Pn) : Prop := (-262144 ≤ p.1 ∧ p.1 ≤ 262144) ∧ -262144 ≤ p.2 ∧ p.2 ≤ 262144
theorem okB_bd2 {p : Pn} (h : okB p.1 p.2 = true) : bd2 p := by
 simp [okB, inB] at h
 exact ⟨⟨by omega, by omega⟩, by omega, by omega⟩
def key (p : Pn) : Int := p.1 * 1048576 + p.2
abbrev pV (p : Pn) : Value := .agg #[.int .i64 p.1, .int .i64 p.2]
end Go.Proofs.Ytjhaakollekjeaa

namespace Go.Proofs.Ytjhaakollekjeaa
open Go Go.RowKit
set_option linter.unusedVariables false
set_option linter.unusedSimpArgs false

theorem ptFlat : ∀ (xs : List (Int × Int)) (k j : Nat) (hk : k < xs.length), j < 2 → (xs.flatMap ptCells)[k * 2 + j]? = (ptCells xs[k])[j]?
 | [], _, _, h, _ => absurd h (by simp)
 | a :: r, 0, j, _, hj => by
  rw [List.flatMap_cons, Nat.zero_mul, Nat.zero_add, List.getElem?_append_left (by simpa [ptCells] using hj)]
  rfl
 | a :: r, k + 1, j, h, hj => by
  have hl : (ptCells a).length = 2 := rfl
  rw [List.flatMap_cons, List.getElem?_append_right (by rw [hl]; omega), hl]
  have := ptFlat r k j (by simpa using h) hj
  rw [show (k + 1) * 2 + j - 2 = k * 2 + j by omega, this]
  rfl
theorem rowCap {w : World} {B T s n : Nat} {A : Option Addr} {c : Nat} {xs : List Value} (h : w.ownsRow B T s (.slice A n c) n xs) : n ≤ c := by
 rcases h.2 with ⟨e, _⟩ | ⟨g, cap, cur, e, hb, hg, hcap, hmax, hsz, htk⟩
 ·injection e; omega
 ·injection e; omega
theorem reg_len {rs : List Ring_} (h : regionB rs = true) : rs.length ≤ 40 := by
 simp [regionB] at h
 omega
section
variable {w : World} {Rs : List Res}
/-- A cell that was there, in later worlds: by itself, as a struct of one cell. -/
theorem rdOld {b o : Nat} {v : Value} (hc : w.cell? ⟨b, o, none⟩ = some v) (hb : b < w.heap.size) : ∀ w', St ⟨w, []⟩ Rs w' → w'.cell? ⟨b, o, none⟩ = some v := fun w' hs => ((ocell hs.fin).1 b o hb).trans hc
theorem rdOld1 {b o k : Nat} {v : Value} (hc : w.cell? ⟨b, o + k, none⟩ = some v) (hb : b < w.heap.size) : ∀ w', St ⟨w, []⟩ Rs w' → ∀ q u, [v][q]? = some u → w'.cell? ⟨b, o + k * 1 + q, none⟩ = some u := fun w' hs q u hq => by
 match q, hq with
 | 0, hq => simp at hq; subst hq; rw [Nat.mul_one, Nat.add_zero]; exact rdOld hc hb w' hs
theorem rdOld0 {b o : Nat} {v : Value} (hc : w.cell? ⟨b, o, none⟩ = some v) (hb : b < w.heap.size) : ∀ w', St ⟨w, []⟩ Rs w' → w'.cell? ⟨b, o + 0, none⟩ = some v := fun w' hs => rdOld hc hb w' hs
theorem rdOldF {b o k : Nat} {v : Value} (hc : w.cell? ⟨b, o + k, none⟩ = some v) (hb : b < w.heap.size) : ∀ w', St ⟨w, []⟩ Rs w' → w'.cell? ⟨b, o + k * 1 + 0, none⟩ = some v := fun w' hs => by rw [Nat.mul_one, Nat.add_zero]; exact rdOld hc hb w' hs
end
theorem pos_of_ring {xs : List (Int × Int)} (h : ringB xs = true) : 0 < xs.length ∧ xs.length ≤ 400 := by simp [ringB, inB] at h; omega

end Go.Proofs.Ytjhaakollekjeaa
