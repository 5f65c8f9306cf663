import Derived.Test.YtjhaakollekjeaaF10
import Derived.Test.YtjhaakollekjeaaF11
import Derived.Test.YtjhaakollekjeaaF1
import Derived.Shelf.Bits.Mul64
import Derived.Laws.BitsAllLaws
namespace Go.Proofs.Ytjhaakollekjeaa
open Go Go.RowKit
set_option linter.unusedVariables false
set_option linter.unusedSimpArgs false
/-- A knot: its point, whether it is on the curve. -/
abbrev Kn := Pn × Bool
abbrev knCells (k : Kn) : List Value := [.int .i64 k.1.1, .int .i64 k.1.2, .bool k.2]
abbrev knV (k : Kn) : Value := .agg #[.int .i64 k.1.1, .int .i64 k.1.2, .bool k.2]
theorem knCells_len (k : Kn) : (knCells k).length = 3 := rfl
def kn (l : List Kn) (k : Nat) : Kn := l.getD k ((0, 0), false)
theorem kn_get {l : List Kn} {k : Nat} (h : k < l.length) : l[k]? = some (kn l k) := by simp [kn, List.getD, h]
theorem kn_at {l : List Kn} {k : Nat} (h : k < l.length) : l[k] = kn l k := by simp [kn, List.getD, h]
def lp (ls : List (List Kn)) (k : Nat) : List Kn := ls.getD k []
theorem lp_at {ls : List (List Kn)} {k : Nat} (h : k < ls.length) : ls[k] = lp ls k := by simp [lp, List.getD, h]
abbrev Kns (w : World) (A : Option Addr) (n : Nat) (l : List Kn) : Prop := Els knCells 3 w A n l
/-- A slice of loops that reads as the list ls. -/
def Loops (w : World) (A : Option Addr) (n : Nat) (ls : List (List Kn)) : Prop :=
 ls.length = n ∧ (0 < n → ∃ b o, A = some ⟨b, o, none⟩ ∧ b < w.heap.size ∧ ∀ k, k < n → ∃ Ak ck, w.cell? ⟨b, o + k, none⟩ = some (.slice Ak (lp ls k).length ck) ∧ Kns w Ak (lp ls k).length (lp ls k) ∧ ((lp ls k).length : Int) ≤ 9223372036854775807)
theorem Loops.over {w w' : World} {A : Option Addr} {n : Nat} {ls : List (List Kn)} (h : Loops w A n ls) (hb : Over w w') : Loops w' A n ls := by
 refine ⟨h.1, fun hn => ?_⟩
 obtain ⟨b, o, hA, hlt, hc⟩ := h.2 hn
 refine ⟨b, o, hA, Nat.lt_of_lt_of_le hlt hb.size, fun k hk => ?_⟩
 obtain ⟨Ak, ck, h1, h2, h3⟩ := hc k hk
 exact ⟨Ak, ck, ((ocell hb).1 b _ hlt).trans h1, h2.over hb, h3⟩
theorem Loops.at_ {w : World} {A : Option Addr} {n k : Nat} {ls : List (List Kn)} (h : Loops w A n ls) (hk : k < n) :
  ∃ b o Ak ck, A = some ⟨b, o, none⟩ ∧ b < w.heap.size ∧ w.cell? ⟨b, o + k, none⟩ = some (.slice Ak (lp ls k).length ck) ∧ Kns w Ak (lp ls k).length (lp ls k) ∧ ((lp ls k).length : Int) ≤ 9223372036854775807 := by
 obtain ⟨b, o, hA, hb, hc⟩ := h.2 (by omega)
 obtain ⟨Ak, ck, h1, h2, h3⟩ := hc k hk
 exact ⟨b, o, Ak, ck, hA, hb, h1, h2, h3⟩
abbrev outV (A : Option Addr) (n c : Nat) : Value := .agg #[.slice A n c]

/-! ### Valid -/
def knB (k : Kn) : Bool := okB k.1.1 k.1.2
def loopB (l : List Kn) : Bool := decide (1 ≤ l.length ∧ l.length ≤ 60) && (kn l 0).2 && l.all knB
def outB (ls : List (List Kn)) : Bool := decide (ls.length ≤ 12) && ls.all loopB
structure LoopOk (l : List Kn) : Prop where
 pos : 1 ≤ l.length
 len : l.length ≤ 60
 on : (kn l 0).2 = true
 bd : ∀ k ∈ l, bd2 k.1
theorem loop_ok {l : List Kn} (h : loopB l = true) : LoopOk l := by
 simp only [loopB, Bool.and_eq_true, decide_eq_true_eq] at h
 refine ⟨h.1.1.1, h.1.1.2, h.1.2, fun k hk => ?_⟩
 exact okB_bd2 (List.all_eq_true.1 h.2 k hk)
theorem out_len {ls : List (List Kn)} (h : outB ls = true) : ls.length ≤ 12 := by
 simp only [outB, Bool.and_eq_true, decide_eq_true_eq] at h
 exact h.1
theorem out_at {ls : List (List Kn)} (h : outB ls = true) {k : Nat} (hk : k < ls.length) : loopB (lp ls k) = true := by
 simp only [outB, Bool.and_eq_true, decide_eq_true_eq] at h
 rw [← lp_at hk]
 exact List.all_eq_true.1 h.2 _ (List.getElem_mem hk)
theorem LoopOk.at_ {l : List Kn} (h : LoopOk l) {k : Nat} (hk : k < l.length) : bd2 (kn l k).1 := h.bd _ (kn_at hk ▸ List.getElem_mem hk)

/-! ### All knots of a loop -/
def mdP (a b : Pn) : Pn := (rnd (a.1 + b.1) 2, rnd (a.2 + b.2) 2)
def mdK (l : List Kn) (i : Nat) : List Kn := if (kn l i).2 = false ∧ (kn l ((i + 1) % l.length)).2 = false then [(mdP (kn l i).1 (kn l ((i + 1) % l.length)).1, true)] else []
def fuTo (l : List Kn) : Nat → List Kn
 | 0 => []
 | k + 1 => fuTo l k ++ (kn l k :: mdK l k)
def fuK (l : List Kn) : List Kn := fuTo l l.length ++ [kn l 0]
theorem md_yes {l : List Kn} {i : Nat} (h : (kn l i).2 = false) (h2 : (kn l ((i + 1) % l.length)).2 = false) : fuTo l (i + 1) = fuTo l i ++ [kn l i] ++ [(mdP (kn l i).1 (kn l ((i + 1) % l.length)).1, true)] := by
 simp [fuTo, mdK, h, h2]
theorem md_no {l : List Kn} {i : Nat} (h : ¬ ((kn l i).2 = false ∧ (kn l ((i + 1) % l.length)).2 = false)) : fuTo l (i + 1) = fuTo l i ++ [kn l i] := by
 rw [fuTo, mdK, if_neg h]
theorem fuTo_len (l : List Kn) : ∀ k, k ≤ (fuTo l k).length ∧ (fuTo l k).length ≤ 2 * k
 | 0 => by simp [fuTo]
 | k + 1 => by
  have := fuTo_len l k
  rw [fuTo, mdK, List.length_append, List.length_cons]
  split <;> simp <;> omega
theorem rnd2_bd {x : Int} (h : -524288 ≤ x ∧ x ≤ 524288) : -262144 ≤ rnd x 2 ∧ rnd x 2 ≤ 262144 := by
 unfold rnd
 split <;> omega
theorem md_bd {a b : Pn} (ha : bd2 a) (hb : bd2 b) : bd2 (mdP a b) := by
 obtain ⟨⟨a1, a2⟩, a3, a4⟩ := ha
 obtain ⟨⟨b1, b2⟩, b3, b4⟩ := hb
 exact ⟨rnd2_bd ⟨by omega, by omega⟩, rnd2_bd ⟨by omega, by omega⟩⟩
theorem fu_bd {l : List Kn} (h : LoopOk l) : ∀ k, k ≤ l.length → ∀ x ∈ fuTo l k, bd2 x.1
 | 0, _, x, hx => by simp [fuTo] at hx
 | k + 1, hk, x, hx => by
  have hm : (k + 1) % l.length < l.length := Nat.mod_lt _ h.pos
  rw [fuTo] at hx
  rcases List.mem_append.1 hx with hx | hx
  ·exact fu_bd h k (by omega) x hx
  ·rcases List.mem_cons.1 hx with rfl | hx
   ·exact h.at_ (by omega)
   ·unfold mdK at hx
    split at hx
    ·rw [List.mem_singleton.1 hx]; exact md_bd (h.at_ (by omega)) (h.at_ hm)
    ·simp at hx
theorem fuK_bd {l : List Kn} (h : LoopOk l) : ∀ x ∈ fuK l, bd2 x.1 := fun x hx => by
 rcases List.mem_append.1 hx with hx | hx
 ·exact fu_bd h _ (Nat.le_refl _) x hx
 ·rw [List.mem_singleton.1 hx]; exact h.at_ h.pos
theorem fuK_len {l : List Kn} (h : LoopOk l) : 2 ≤ (fuK l).length ∧ (fuK l).length ≤ 121 := by
 have := fuTo_len l l.length
 have := h.pos
 have := h.len
 rw [fuK, List.length_append, List.length_singleton]
 omega
/-- The last one is on the curve. -/
theorem fuK_last {l : List Kn} (h : LoopOk l) {i : Nat} (hi : i + 1 = (fuK l).length) : (kn (fuK l) i).2 = true := by
 have e : kn (fuK l) i = kn l 0 := by
  unfold fuK at hi ⊢
  rw [List.length_append, List.length_singleton] at hi
  unfold kn
  rw [List.getD_eq_getElem?_getD, List.getElem?_append_right (by omega), show i - (fuTo l l.length).length = 0 by omega]
  rfl
 rw [e]
 exact h.on

/-! ### Segments -/
structure Sg where
 a : Pn
 b : Pn
 c : Pn
 st : Bool
def sgL : List Kn → List Sg
 | a :: b :: r => if b.2 = true then ⟨a.1, mdP a.1 b.1, b.1, true⟩ :: sgL (b :: r) else match r with
  | c :: r => ⟨a.1, b.1, c.1, false⟩ :: sgL (c :: r)
  | [] => []
 | _ => []
theorem sgL_on {a b : Kn} {r : List Kn} (h : b.2 = true) : sgL (a :: b :: r) = ⟨a.1, mdP a.1 b.1, b.1, true⟩ :: sgL (b :: r) := by
 conv => lhs; unfold sgL
 exact if_pos h
theorem sgL_off {a b c : Kn} {r : List Kn} (h : b.2 = false) : sgL (a :: b :: c :: r) = ⟨a.1, b.1, c.1, false⟩ :: sgL (c :: r) := by
 conv => lhs; unfold sgL
 exact if_neg (by rw [h]; decide)
theorem drop2 {l : List Kn} {i : Nat} (h : i + 1 < l.length) : l.drop i = kn l i :: kn l (i + 1) :: l.drop (i + 2) := by
 rw [List.drop_eq_getElem_cons (by omega), List.drop_eq_getElem_cons h, kn_at, kn_at]
theorem sg_on {l : List Kn} {i : Nat} (h : i + 1 < l.length) (h2 : (kn l (i + 1)).2 = true) : sgL (l.drop i) = ⟨(kn l i).1, mdP (kn l i).1 (kn l (i + 1)).1, (kn l (i + 1)).1, true⟩ :: sgL (l.drop (i + 1)) := by
 rw [drop2 h, sgL_on h2, List.drop_eq_getElem_cons h, kn_at]
theorem sg_off {l : List Kn} {i : Nat} (h : i + 2 < l.length) (h2 : (kn l (i + 1)).2 = false) : sgL (l.drop i) = ⟨(kn l i).1, (kn l (i + 1)).1, (kn l (i + 2)).1, false⟩ :: sgL (l.drop (i + 2)) := by
 rw [drop2 (by omega), List.drop_eq_getElem_cons h, kn_at, sgL_off h2]
theorem sg_end {l : List Kn} {i : Nat} (h : ¬ i + 1 < l.length) : sgL (l.drop i) = [] := by
 rcases Nat.lt_or_ge i l.length with h1 | h1
 ·rw [List.drop_eq_getElem_cons h1, List.drop_eq_nil_of_le (by omega)]
  rfl
 ·rw [List.drop_eq_nil_of_le h1]
  rfl

/-! ### Flattened -/
def mxQ (a b c k n : Int) : Int := rnd ((n - k) * (n - k) * a + 2 * (n - k) * k * b + k * k * c) (n * n)
def qdQ (a b c : Pn) (k n : Int) : Pn := (mxQ a.1 b.1 c.1 k n, mxQ a.2 b.2 c.2 k n)
def qdV (a b c : Pn) (t : Int) : Int := lvV (sizQ (secP a b c)) t
def qdC (a b c : Pn) (t : Int) : Int := lvC (sizQ (secP a b c)) t
def qdN (a b c : Pn) (t : Int) : Nat := 2 ^ (qdV a b c t).toNat
def qdTo (a b c : Pn) (m k : Nat) : List Pn := (List.range k).map fun j : Nat => qdQ a b c (j : Int) (m : Int)
def qdR (a b c : Pn) (t : Int) : List Pn := if qdC a b c t = 0 then qdTo a b c (qdN a b c t) (qdN a b c t + 1) else []
theorem qdTo_step (a b c : Pn) (m k : Nat) : qdTo a b c m (k + 1) = qdTo a b c m k ++ [qdQ a b c (k : Int) (m : Int)] := by simp [qdTo, List.range_succ]
theorem qdTo_len (a b c : Pn) (m k : Nat) : (qdTo a b c m k).length = k := by simp [qdTo]
/-- Whether a segment can be flattened; its points but for the last one. -/
def sgOk (t : Int) (s : Sg) : Bool := s.st || decide (qdC s.a s.b s.c t = 0)
def sgP (t : Int) (s : Sg) : List Pn := if s.st = true then [s.a] else qdTo s.a s.b s.c (qdN s.a s.b s.c t) (qdN s.a s.b s.c t)
def rgOk (t : Int) (l : List Kn) : Bool := (sgL (fuK l)).all (sgOk t)
def rgPt (t : Int) (l : List Kn) : List Pn := (sgL (fuK l)).flatMap (sgP t)
def foOk (t : Int) (ls : List (List Kn)) : Bool := ls.all (rgOk t)
def foRs (t : Int) (ls : List (List Kn)) : List Ring_ := ls.map (rgPt t)
/-- The region of an outline and its code. -/
def foC (ls : List (List Kn)) (t : Int) : Int := if outB ls = true then (if (1 ≤ t ∧ t ≤ 262144) then (if (foOk t ls && regionB (foRs t ls)) = true then 0 else 5) else 2) else 1
def foR (ls : List (List Kn)) (t : Int) : List Ring_ := if foC ls t = 0 then foRs t ls else []
end Go.Proofs.Ytjhaakollekjeaa

namespace Go.Proofs.Ytjhaakollekjeaa
open Go Go.ChangeShapes Go.WideShapes Go.ChangeAt Go.RowKit Go.Joins Go.Deep
set_option linter.unusedVariables false
set_option linter.unusedSimpArgs false

section
variable {H : Type} {enc : TypeId × Value → H} {w : World} {base : Nat} {spare : Nat → Bool} {held : Bool}
set_option maxRecDepth 100000 in
theorem open_two {fuel : Nat} {cs : List Value} {x : DataW H × List MemPlace} (h : DataW.trod enc Try.prog w base spare held fuel 109 cs = some x) : ∃ p : Int × Int, cs = [.int .i64 p.1, .int .i64 p.2] := by
 have hC : Try.prog.cellsOf 109 = 2 := by kernel_rfl
 have h1 : Try.prog.cellsOf 2 = 1 := by kernel_rfl
 obtain ⟨y0, y1, n', _, hl, t0, t1⟩ := trod_struct2 Try.underlying109 h
 rw [h1] at t0 t1
 rw [hC] at hl
 match cs, hl with
 | [c0, c1], _ =>
  obtain ⟨a, e0, _, _⟩ := DataW.trod_int Try.underlying2 t0
  obtain ⟨b, e1, _, _⟩ := DataW.trod_int Try.underlying2 t1
  simp at e0 e1
  subst e0 e1
  exact ⟨(a, b), rfl⟩
set_option maxRecDepth 100000 in
theorem open_kn {fuel : Nat} {cs : List Value} {x : DataW H × List MemPlace} (h : DataW.trod enc Try.prog w base spare held fuel 218 cs = some x) : ∃ k : Kn, cs = knCells k := by
 have hF : Try.prog.cellsOf 109 = 2 := by kernel_rfl
 have hB : Try.prog.cellsOf 4 = 1 := by kernel_rfl
 have hA : Try.prog.cellsOf 218 = 3 := by kernel_rfl
 obtain ⟨xs, n, _, _, hl, hlen, hfs⟩ := DataW.trod_struct Try.underlying218 h
 have h2 : xs.length = 2 := hlen
 rw [hA] at hl
 obtain ⟨q0, e0⟩ := open_two ((hfs 0 _ rfl).trans (List.getElem?_eq_getElem (show 0 < xs.length by omega)))
 obtain ⟨q1, e1, _⟩ := DataW.trod_bool Try.underlying4 ((hfs 1 _ rfl).trans (List.getElem?_eq_getElem (show 1 < xs.length by omega)))
 have k0 : (cs.drop 0).take (Try.prog.cellsOf 109) = _ := e0
 have k1 : (cs.drop 2).take (Try.prog.cellsOf 4) = _ := e1
 rw [hF] at k0
 rw [hB] at k1
 match cs, hl, k0, k1 with
 | [c0, c1, c2], _, k0, k1 =>
  simp at k0 k1
  obtain ⟨rfl, rfl⟩ := k0
  subst k1
  exact ⟨(q0, q1), rfl⟩
set_option maxRecDepth 100000 in
/-- A slice of the laws' knots that came in. -/
theorem open_kns {fuel : Nat} {cs : List Value} {x : DataW H × List MemPlace} (h : DataW.trod enc Try.prog w base spare held fuel 131 cs = some x) :
  ∃ (A : Option Addr) (n c : Nat) (l : List Kn), cs = [.slice A n c] ∧ Kns w A n l ∧ (n : Int) ≤ 9223372036854775807 := by
 rcases open_slice Try.underlying131 h with ⟨rfl, _⟩ | ⟨a, len, cap, m, n', D, Pl, rfl, _, hl, hm, hmm, _, hi⟩
 ·exact ⟨none, 0, 0, [], rfl, ⟨rfl, fun h => absurd h (by omega)⟩, by omega⟩
 have hC : Try.prog.cellsOf 218 = 3 := by kernel_rfl
 rw [hC] at hi
 have key : ∀ i, i < len → ∃ q : Kn, ∀ j v, (knCells q)[j]? = some v → w.cell? (a.add (i * 3 + j)) = some v := by
  intro i hlt
  have hlm : len ≤ m := by rw [hmm]; split <;> omega
  obtain ⟨cs', hc, ht⟩ := hi i (by omega)
  obtain ⟨_, hcl, hat⟩ := World.cells?_some hc
  obtain ⟨q, rfl⟩ := open_kn ht
  refine ⟨q, fun j v hj => ?_⟩
  have hj3 : j < 3 := (List.getElem?_eq_some_iff.1 hj).1
  have := hat j (by omega)
  rw [add_add] at this
  rw [this]
  simpa using hj
 obtain ⟨f, hf⟩ := choose_lt key
 refine ⟨some a, len, cap, (List.range len).map f, rfl, ⟨by simp, fun hn => ?_⟩, by unfold maxLen at hm; omega⟩
 obtain ⟨b, o, sp⟩ := a
 have hsp : sp = none := by
  have := World.cell?_spot (hf 0 hn 0 _ rfl)
  simpa [Addr.add] using this
 subst hsp
 have hadd : ∀ j, (⟨b, o, none⟩ : Addr).add j = ⟨b, o + j, none⟩ := fun j => by unfold Addr.add; split <;> simp_all
 have hlt := World.block_lt_of_cell? w _ (hf 0 hn 0 _ rfl)
 rw [hadd] at hlt
 refine ⟨b, o, rfl, hlt, fun k x hk q v hv => ?_⟩
 obtain ⟨hk2, e⟩ := List.getElem?_eq_some_iff.1 hk
 rw [List.length_map, List.length_range] at hk2
 rw [List.getElem_map, List.getElem_range] at e
 subst e
 have := hf k hk2 q v hv
 rw [hadd] at this
 rw [Nat.add_assoc]
 exact this
set_option maxRecDepth 100000 in
/-- A slice of the laws' loops that came in. -/
theorem open_loops {fuel : Nat} {cs : List Value} {x : DataW H × List MemPlace} (h : DataW.trod enc Try.prog w base spare held fuel 33 cs = some x) :
  ∃ (A : Option Addr) (n c : Nat) (ls : List (List Kn)), cs = [.slice A n c] ∧ Loops w A n ls ∧ (n : Int) ≤ 9223372036854775807 := by
 rcases open_slice Try.underlying33 h with ⟨rfl, _⟩ | ⟨a, len, cap, m, n, D, Pl, rfl, _, hl, hm, hmm, _, hi⟩
 ·exact ⟨none, 0, 0, [], rfl, ⟨rfl, fun h => absurd h (by omega)⟩, by omega⟩
 have hC : Try.prog.cellsOf 133 = 1 := by kernel_rfl
 have hC2 : Try.prog.cellsOf 131 = 1 := by kernel_rfl
 rw [hC] at hi
 have key : ∀ i, i < len → ∃ p : (Option Addr × Nat) × List Kn, w.cell? (a.add (i * 1)) = some (.slice p.1.1 p.2.length p.1.2) ∧ Kns w p.1.1 p.2.length p.2 ∧ (p.2.length : Int) ≤ 9223372036854775807 := by
  intro i hlt
  have hlm : len ≤ m := by rw [hmm]; split <;> omega
  obtain ⟨cs', hc, ht⟩ := hi i (by omega)
  obtain ⟨_, hcl, hat⟩ := World.cells?_some hc
  obtain ⟨xs, n', _, _, _, hlen, hg⟩ := DataW.trod_struct Try.underlying133 ht
  have h0 : DataW.trod enc Try.prog w base spare held n' 131 ((cs'.drop 0).take (Try.prog.cellsOf 131)) = xs[0]? := hg 0 _ rfl
  match cs', hcl with
  | [c0], _ =>
   match xs, hlen with
   | [y0], _ =>
    obtain ⟨A, n, c, xs, e, hp, hm⟩ := open_kns (cs := [c0]) (x := y0) (by rw [hC2] at h0; simpa using h0)
    injection e with e
    subst e
    have hn := hp.1
    subst hn
    refine ⟨((A, c), xs), ?_, hp, hm⟩
    have := hat 0 (by omega)
    rw [add_add] at this
    simpa using this
 obtain ⟨f, hf⟩ := choose_lt key
 refine ⟨some a, len, cap, (List.range len).map (fun i => (f i).2), rfl, ⟨by simp, fun hn => ?_⟩, by unfold maxLen at hm; omega⟩
 obtain ⟨b, o, sp⟩ := a
 have hsp : sp = none := by
  have := World.cell?_spot (hf 0 hn).1
  simpa [Addr.add] using this
 subst hsp
 have hadd : ∀ j, (⟨b, o, none⟩ : Addr).add j = ⟨b, o + j, none⟩ := fun j => by unfold Addr.add; split <;> simp_all
 have hlt := World.block_lt_of_cell? w _ (hf 0 hn).1
 rw [hadd] at hlt
 refine ⟨b, o, rfl, hlt, fun k hk => ?_⟩
 have hk2 := hf k hk
 rw [hadd, Nat.mul_one] at hk2
 have hx : lp ((List.range len).map (fun i => (f i).2)) k = (f k).2 := by
  simp [lp, List.getD, hk]
 rw [hx]
 exact ⟨_, _, hk2⟩
set_option maxRecDepth 100000 in
/-- An outline of the laws' that came in. -/
theorem open_outline {r : Reach} {b0 : Nat} {v : Value} {d : DataW H} {p : List MemPlace} (hv : Value.okWide Try.prog w r b0 35 v) (h : DataW.Trod enc Try.prog w base spare held 35 v d p) :
  ∃ (A : Option Addr) (n c : Nat) (ls : List (List Kn)), v = .agg #[.slice A n c] ∧ Loops w A n ls ∧ (n : Int) ≤ 9223372036854775807 := by
 have hC : Try.prog.cellsOf 35 = 1 := by kernel_rfl
 have hC2 : Try.prog.cellsOf 33 = 1 := by kernel_rfl
 obtain ⟨cs, rfl, hsz⟩ := okWide_struct Try.underlying35 hv
 obtain ⟨l⟩ := cs
 obtain ⟨fuel, hf⟩ := h
 obtain ⟨xs, n, _, _, _, hlen, hg⟩ := DataW.trod_struct Try.underlying35 hf
 have h0 : DataW.trod enc Try.prog w base spare held n 33 (((Value.agg ⟨l⟩).cells.toList.drop 0).take (Try.prog.cellsOf 33)) = xs[0]? := hg 0 _ rfl
 rw [hC2] at h0
 match l, hsz.trans hC with
 | [c0], _ =>
  match xs, hlen with
  | [y0], _ =>
   obtain ⟨A, n, c, xs, e, hp, hm⟩ := open_loops (cs := [c0]) (x := y0) (by simpa [Value.cells] using h0)
   injection e with e
   subst e
   exact ⟨A, n, c, xs, rfl, hp, hm⟩
end
end Go.Proofs.Ytjhaakollekjeaa

namespace Go.Proofs.Ytjhaakollekjeaa
open Go Go.RowKit
set_option linter.unusedVariables false
set_option linter.unusedSimpArgs false
set_option maxRecDepth 100000
set_option maxHeartbeats 4000000
set_option linter.unusedVariables false
set_option linter.unusedSimpArgs false

/-- The square of a distance; how far along. -/
def dsq (a b : Pn) : Int := (b.1 - a.1) * (b.1 - a.1) + (b.2 - a.2) * (b.2 - a.2)
def alg (a b p : Pn) : Int := (p.1 - a.1) * (b.1 - a.1) + (p.2 - a.2) * (b.2 - a.2)
def nearS (a b p : Pn) (r : Int) : Bool :=
 if dsq a p ≤ r * r ∨ dsq b p ≤ r * r then true else if alg a b p ≤ 0 ∨ dsq a b ≤ alg a b p then false else decide (tn a b p * tn a b p ≤ r * r * dsq a b)
/-! ### Sizes -/
/-! ### Products of two words -/
/-! ### The reference's words of 31 bits -/
/-! ### Near, walked -/
/-! ### Which points stay -/
/-- How far a point of a path is off. -/
def offP (a b p : Pn) : Int := if a = b then dsq a p else max (tn a b p) (-tn a b p)
/-- The farthest of the first k points behind the first one that are not near: its index, how far. -/
def scanT (a b : Pn) (r : Int) (xs : List (Int × Int)) : Nat → Int × Int
 | 0 => (-1, -1)
 | k + 1 => if nearS a b (pt xs (k + 1)) r = true then scanT a b r xs k else if (scanT a b r xs k).2 < offP a b (pt xs (k + 1)) then (((k + 1 : Nat) : Int), offP a b (pt xs (k + 1))) else scanT a b r xs k
def far (r : Int) (xs : List (Int × Int)) : Int := (scanT (pt xs 0) (pt xs (xs.length - 1)) r xs (xs.length - 2)).1
/-! ### Pieces of a path -/
/-- Points that are valid, at most 402 of them. -/
def okPath (xs : List (Int × Int)) : Prop := xs.length ≤ 402 ∧ ∀ p ∈ xs, bd2 p
theorem okPath.at_ {xs : List (Int × Int)} (h : okPath xs) {k : Nat} (hk : k < xs.length) : bd2 (pt xs k) := by
 have := h.2 xs[k] (List.getElem_mem hk)
 rwa [at_p hk] at this
theorem okPath.take {xs : List (Int × Int)} (h : okPath xs) (k : Nat) : okPath (xs.take k) := ⟨by rw [List.length_take]; have := h.1; omega, fun p hp => h.2 p (List.mem_of_mem_take hp)⟩
theorem okPath.drop {xs : List (Int × Int)} (h : okPath xs) (k : Nat) : okPath (xs.drop k) := ⟨by rw [List.length_drop]; have := h.1; omega, fun p hp => h.2 p (List.mem_of_mem_drop hp)⟩
section
variable {n : Nat} {env : List (Nat × Value)} {w0 : Bs} {Rs : List Res} {K : Act → World → Prop}
end
theorem isTolerance_any (r : Int) (w : World) : Calls Try.prog 42 #[.int .i64 r] w fun e w' => e = .returned (.bool (decide (1 ≤ r ∧ r ≤ 262144))) ∧ Over w w' := by
 refine walk_from (m := 9) (Try.func42) rfl rfl (Nat.le_of_ble_eq_true rfl) ?_
 refine at_seq ?_
 refine at_region ?_
 refine at_q rfl rfl (by decide) (qt_assign rfl rfl) ?_
 refine at_end ?_
 refine at_seq ?_
 refine at_region ?_
 refine at_q rfl rfl (by decide) (qt_move rfl rfl) ?_
 refine at_q rfl rfl (by decide) (qt_geq rfl rfl rfl) ?_
 refine at_q rfl rfl (by decide) (qt_move rfl rfl) ?_
 refine at_bsplit 5 rfl (fun g1 => ?_) (fun g1 => ?_)
 ·try simp only [za,zb,zc,zd,ze,zf,Bool.not_true,Bool.not_false,zg,zh,ne_eq,zi,zj] at g1
  refine at_on rfl rfl rfl rfl ?_
  refine op_q rfl (by decide) (qt_move rfl rfl) ?_
  refine at_on rfl rfl rfl rfl ?_
  refine op_q rfl (by decide) (qt_leq rfl rfl rfl) ?_
  refine at_q rfl rfl (by decide) (qt_pickT rfl rfl rfl) ?_
  refine at_q rfl rfl (by decide) (qt_assign rfl rfl) ?_
  refine at_end ?_
  refine at_retc ?_
  refine at_ret1 rfl (.tmp rfl) ?_
  intro w' hs
  exact ⟨congrArg Ending.returned (congrArg Value.bool (Bool.eq_iff_iff.2 (by simp; omega))), hs.fin⟩
 ·try simp only [za,zb,zc,zd,ze,zf,Bool.not_true,Bool.not_false,zg,zh,ne_eq,zi,zj] at g1
  refine at_off rfl rfl rfl rfl (by decide) rfl (by decide) ?_
  refine at_off rfl rfl rfl rfl (by decide) rfl (by decide) ?_
  refine at_q rfl rfl (by decide) (qt_pickF rfl rfl rfl) ?_
  refine at_q rfl rfl (by decide) (qt_assign rfl rfl) ?_
  refine at_end ?_
  refine at_retc ?_
  refine at_ret1 rfl (.tmp rfl) ?_
  intro w' hs
  exact ⟨congrArg Ending.returned (congrArg Value.bool (Bool.eq_iff_iff.2 (by simp; omega))), hs.fin⟩
theorem l09Tolerance_any (r : Int) (w : World) : Calls Try.prog 38 #[.int .i64 r] w fun e w' => e = .returned (.bool (decide (1 ≤ r ∧ r ≤ 262144))) ∧ Over w w' := by
 refine walk_from (m := 5) (Try.func38) rfl rfl (Nat.le_of_ble_eq_true rfl) ?_
 refine at_seq ?_
 refine at_region ?_
 refine at_q rfl rfl (by decide) (qt_assign rfl rfl) ?_
 refine at_end ?_
 refine at_seq ?_
 refine at_region ?_
 refine at_q rfl rfl (by decide) (qt_move rfl rfl) ?_
 refine at_q rfl rfl (by decide) (qt_call ok_spec_l00In rfl rfl (fun w h => Calls.still (l00In_any _ _ _ w))) ?_
 refine at_q rfl rfl (by decide) (qt_assign rfl rfl) ?_
 refine at_end ?_
 refine at_retc ?_
 refine at_ret1 rfl (.tmp rfl) ?_
 intro w' hs
 exact ⟨congrArg Ending.returned (congrArg Value.bool (Bool.eq_iff_iff.2 (by simp [inB]))), hs.fin⟩
end Go.Proofs.Ytjhaakollekjeaa

namespace Go.Proofs.Ytjhaakollekjeaa
open Go Go.RowKit
set_option linter.unusedVariables false
set_option linter.unusedSimpArgs false

section
variable {b n c K : Nat} {A : Option Addr} {zs : List Int} {w : World}
end
theorem numsCel {w0 : Bs} {Rs : List Res} {k b T m : Nat} (xs : List Int) (hk : Rs[k]? = some (.cel b T (xs.map (Value.int .i64)))) (hm : xs.length = m) : ∀ w, St w0 Rs w → Nums w (some ⟨b, 0, none⟩) m xs := fun w hs => by
 have hh := hs.cel hk
 refine ⟨hm, fun _ => ⟨b, 0, rfl, lt_of_some hh, fun j hj => ?_⟩⟩
 rw [Nat.zero_add, cell_of_row w b _ _ T (0, 0) hh, List.getElem?_toArray, List.getElem?_map, List.getElem?_eq_getElem (show j < xs.length by omega), nth_at (by omega)]
 rfl
section
variable {n c : Nat} {A : Option Addr} {zs : List Int} {w : World}
end
end Go.Proofs.Ytjhaakollekjeaa
