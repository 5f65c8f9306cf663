import Derived.Test.YtjhaakollekjeaaDoorO22
import Derived.Test.YtjhaakollekjeaaDoorO23
namespace Go.Proofs.YtjhaakollekjeaaDoor
open Go Go.RowKit
set_option linter.unusedVariables false
set_option linter.unusedSimpArgs false
/-- A knot: its point, whether it is on the curve. -/
abbrev Kn := Pn × Bool
abbrev knCells (k : Kn) : List Value := [.int .i64 k.1.1, .int .i64 k.1.2, .bool k.2]
abbrev knV (k : Kn) : Value := .agg #[.int .i64 k.1.1, .int .i64 k.1.2, .bool k.2]
theorem knCells_len (k : Kn) : (knCells k).length = 3 := rfl
def kn (l : List Kn) (k : Nat) : Kn := l.getD k ((0, 0), false)
theorem kn_get {l : List Kn} {k : Nat} (h : k < l.length) : l[k]? = some (kn l k) := by simp [kn, List.getD, h]
theorem kn_at {l : List Kn} {k : Nat} (h : k < l.length) : l[k] = kn l k := by simp [kn, List.getD, h]
def lp (ls : List (List Kn)) (k : Nat) : List Kn := ls.getD k []
theorem lp_at {ls : List (List Kn)} {k : Nat} (h : k < ls.length) : ls[k] = lp ls k := by simp [lp, List.getD, h]
abbrev Kns (w : World) (A : Option Addr) (n : Nat) (l : List Kn) : Prop := Els knCells 3 w A n l
/-- A slice of loops that reads as the list ls. -/
def Loops (w : World) (A : Option Addr) (n : Nat) (ls : List (List Kn)) : Prop :=
 ls.length = n ∧ (0 < n → ∃ b o, A = some ⟨b, o, none⟩ ∧ b < w.heap.size ∧ ∀ k, k < n → ∃ Ak ck, w.cell? ⟨b, o + k, none⟩ = some (.slice Ak (lp ls k).length ck) ∧ Kns w Ak (lp ls k).length (lp ls k) ∧ ((lp ls k).length : Int) ≤ 9223372036854775807)
theorem Loops.over {w w' : World} {A : Option Addr} {n : Nat} {ls : List (List Kn)} (h : Loops w A n ls) (hb : Over w w') : Loops w' A n ls := by
 refine ⟨h.1, fun hn => ?_⟩
 obtain ⟨b, o, hA, hlt, hc⟩ := h.2 hn
 refine ⟨b, o, hA, Nat.lt_of_lt_of_le hlt hb.size, fun k hk => ?_⟩
 obtain ⟨Ak, ck, h1, h2, h3⟩ := hc k hk
 exact ⟨Ak, ck, ((ocell hb).1 b _ hlt).trans h1, h2.over hb, h3⟩
theorem Loops.at_ {w : World} {A : Option Addr} {n k : Nat} {ls : List (List Kn)} (h : Loops w A n ls) (hk : k < n) :
  ∃ b o Ak ck, A = some ⟨b, o, none⟩ ∧ b < w.heap.size ∧ w.cell? ⟨b, o + k, none⟩ = some (.slice Ak (lp ls k).length ck) ∧ Kns w Ak (lp ls k).length (lp ls k) ∧ ((lp ls k).length : Int) ≤ 9223372036854775807 := by
 obtain ⟨b, o, hA, hb, hc⟩ := h.2 (by omega)
 obtain ⟨Ak, ck, h1, h2, h3⟩ := hc k hk
 exact ⟨b, o, Ak, ck, hA, hb, h1, h2, h3⟩
abbrev outV (A : Option Addr) (n c : Nat) : Value := .agg #[.slice A n c]

/-! ### Valid -/
def knB (k : Kn) : Bool := okB k.1.1 k.1.2
def loopB (l : List Kn) : Bool := decide (1 ≤ l.length ∧ l.length ≤ 60) && (kn l 0).2 && l.all knB
def outB (ls : List (List Kn)) : Bool := decide (ls.length ≤ 12) && ls.all loopB
structure LoopOk (l : List Kn) : Prop where
 pos : 1 ≤ l.length
 len : l.length ≤ 60
 on : (kn l 0).2 = true
 bd : ∀ k ∈ l, bd2 k.1
theorem loop_ok {l : List Kn} (h : loopB l = true) : LoopOk l := by
 simp only [loopB, Bool.and_eq_true, decide_eq_true_eq] at h
 refine ⟨h.1.1.1, h.1.1.2, h.1.2, fun k hk => ?_⟩
 exact okB_bd2 (List.all_eq_true.1 h.2 k hk)
theorem out_len {ls : List (List Kn)} (h : outB ls = true) : ls.length ≤ 12 := by
 simp only [outB, Bool.and_eq_true, decide_eq_true_eq] at h
 exact h.1
theorem out_at {ls : List (List Kn)} (h : outB ls = true) {k : Nat} (hk : k < ls.length) : loopB (lp ls k) = true := by
 simp only [outB, Bool.and_eq_true, decide_eq_true_eq] at h
 rw [← lp_at hk]
 exact List.all_eq_true.1 h.2 _ (List.getElem_mem hk)
theorem LoopOk.at_ {l : List Kn} (h : LoopOk l) {k : Nat} (hk : k < l.length) : bd2 (kn l k).1 := h.bd _ (kn_at hk ▸ List.getElem_mem hk)

/-! ### All knots of a loop -/
def mdP (a b : Pn) : Pn := (rnd (a.1 + b.1) 2, rnd (a.2 + b.2) 2)
def mdK (l : List Kn) (i : Nat) : List Kn := if (kn l i).2 = false ∧ (kn l ((i + 1) % l.length)).2 = false then [(mdP (kn l i).1 (kn l ((i + 1) % l.length)).1, true)] else []
def fuTo (l : List Kn) : Nat → List Kn
 | 0 => []
 | k + 1 => fuTo l k ++ (kn l k :: mdK l k)
def fuK (l : List Kn) : List Kn := fuTo l l.length ++ [kn l 0]
theorem md_yes {l : List Kn} {i : Nat} (h : (kn l i).2 = false) (h2 : (kn l ((i + 1) % l.length)).2 = false) : fuTo l (i + 1) = fuTo l i ++ [kn l i] ++ [(mdP (kn l i).1 (kn l ((i + 1) % l.length)).1, true)] := by
 simp [fuTo, mdK, h, h2]
theorem md_no {l : List Kn} {i : Nat} (h : ¬ ((kn l i).2 = false ∧ (kn l ((i + 1) % l.length)).2 = false)) : fuTo l (i + 1) = fuTo l i ++ [kn l i] := by
 rw [fuTo, mdK, if_neg h]
theorem fuTo_len (l : List Kn) : ∀ k, k ≤ (fuTo l k).length ∧ (fuTo l k).length ≤ 2 * k
 | 0 => by simp [fuTo]
 | k + 1 => by
  have := fuTo_len l k
  rw [fuTo, mdK, List.length_append, List.length_cons]
  split <;> simp <;> omega
theorem rnd2_bd {x : Int} (h : -524288 ≤ x ∧ x ≤ 524288) : -262144 ≤ rnd x 2 ∧ rnd x 2 ≤ 262144 := by
 unfold rnd
 split <;> omega
theorem md_bd {a b : Pn} (ha : bd2 a) (hb : bd2 b) : bd2 (mdP a b) := by
 obtain ⟨⟨a1, a2⟩, a3, a4⟩ := ha
 obtain ⟨⟨b1, b2⟩, b3, b4⟩ := hb
 exact ⟨rnd2_bd ⟨by omega, by omega⟩, rnd2_bd ⟨by omega, by omega⟩⟩
theorem fu_bd {l : List Kn} (h : LoopOk l) : ∀ k, k ≤ l.length → ∀ x ∈ fuTo l k, bd2 x.1
 | 0, _, x, hx => by simp [fuTo] at hx
 | k + 1, hk, x, hx => by
  have hm : (k + 1) % l.length < l.length := Nat.mod_lt _ h.pos
  rw [fuTo] at hx
  rcases List.mem_append.1 hx with hx | hx
  ·exact fu_bd h k (by omega) x hx
  ·rcases List.mem_cons.1 hx with rfl | hx
   ·exact h.at_ (by omega)
   ·unfold mdK at hx
    split at hx
    ·rw [List.mem_singleton.1 hx]; exact md_bd (h.at_ (by omega)) (h.at_ hm)
    ·simp at hx
theorem fuK_bd {l : List Kn} (h : LoopOk l) : ∀ x ∈ fuK l, bd2 x.1 := fun x hx => by
 rcases List.mem_append.1 hx with hx | hx
 ·exact fu_bd h _ (Nat.le_refl _) x hx
 ·rw [List.mem_singleton.1 hx]; exact h.at_ h.pos
theorem fuK_len {l : List Kn} (h : LoopOk l) : 2 ≤ (fuK l).length ∧ (fuK l).length ≤ 121 := by
 have := fuTo_len l l.length
 have := h.pos
 have := h.len
 rw [fuK, List.length_append, List.length_singleton]
 omega
/-- The last one is on the curve. -/
theorem fuK_last {l : List Kn} (h : LoopOk l) {i : Nat} (hi : i + 1 = (fuK l).length) : (kn (fuK l) i).2 = true := by
 have e : kn (fuK l) i = kn l 0 := by
  unfold fuK at hi ⊢
  rw [List.length_append, List.length_singleton] at hi
  unfold kn
  rw [List.getD_eq_getElem?_getD, List.getElem?_append_right (by omega), show i - (fuTo l l.length).length = 0 by omega]
  rfl
 rw [e]
 exact h.on

/-! ### Segments -/
structure Sg where
 a : Pn
 b : Pn
 c : Pn
 st : Bool
def sgL : List Kn → List Sg
 | a :: b :: r => if b.2 = true then ⟨a.1, mdP a.1 b.1, b.1, true⟩ :: sgL (b :: r) else match r with
  | c :: r => ⟨a.1, b.1, c.1, false⟩ :: sgL (c :: r)
  | [] => []
 | _ => []
theorem sgL_on {a b : Kn} {r : List Kn} (h : b.2 = true) : sgL (a :: b :: r) = ⟨a.1, mdP a.1 b.1, b.1, true⟩ :: sgL (b :: r) := by
 conv => lhs; unfold sgL
 exact if_pos h
theorem sgL_off {a b c : Kn} {r : List Kn} (h : b.2 = false) : sgL (a :: b :: c :: r) = ⟨a.1, b.1, c.1, false⟩ :: sgL (c :: r) := by
 conv => lhs; unfold sgL
 exact if_neg (by rw [h]; decide)
theorem drop2 {l : List Kn} {i : Nat} (h : i + 1 < l.length) : l.drop i = kn l i :: kn l (i + 1) :: l.drop (i + 2) := by
 rw [List.drop_eq_getElem_cons (by omega), List.drop_eq_getElem_cons h, kn_at, kn_at]
theorem sg_on {l : List Kn} {i : Nat} (h : i + 1 < l.length) (h2 : (kn l (i + 1)).2 = true) : sgL (l.drop i) = ⟨(kn l i).1, mdP (kn l i).1 (kn l (i + 1)).1, (kn l (i + 1)).1, true⟩ :: sgL (l.drop (i + 1)) := by
 rw [drop2 h, sgL_on h2, List.drop_eq_getElem_cons h, kn_at]
theorem sg_off {l : List Kn} {i : Nat} (h : i + 2 < l.length) (h2 : (kn l (i + 1)).2 = false) : sgL (l.drop i) = ⟨(kn l i).1, (kn l (i + 1)).1, (kn l (i + 2)).1, false⟩ :: sgL (l.drop (i + 2)) := by
 rw [drop2 (by omega), List.drop_eq_getElem_cons h, kn_at, sgL_off h2]
theorem sg_end {l : List Kn} {i : Nat} (h : ¬ i + 1 < l.length) : sgL (l.drop i) = [] := by
 rcases Nat.lt_or_ge i l.length with h1 | h1
 ·rw [List.drop_eq_getElem_cons h1, List.drop_eq_nil_of_le (by omega)]
  rfl
 ·rw [List.drop_eq_nil_of_le h1]
  rfl

/-! ### Flattened -/
def mxQ (a b c k n : Int) : Int := rnd ((n - k) * (n - k) * a + 2 * (n - k) * k * b + k * k * c) (n * n)
def qdQ (a b c : Pn) (k n : Int) : Pn := (mxQ a.1 b.1 c.1 k n, mxQ a.2 b.2 c.2 k n)
def qdV (a b c : Pn) (t : Int) : Int := lvV (sizQ (secP a b c)) t
def qdC (a b c : Pn) (t : Int) : Int := lvC (sizQ (secP a b c)) t
def qdN (a b c : Pn) (t : Int) : Nat := 2 ^ (qdV a b c t).toNat
def qdTo (a b c : Pn) (m k : Nat) : List Pn := (List.range k).map fun j : Nat => qdQ a b c (j : Int) (m : Int)
def qdR (a b c : Pn) (t : Int) : List Pn := if qdC a b c t = 0 then qdTo a b c (qdN a b c t) (qdN a b c t + 1) else []
theorem qdTo_step (a b c : Pn) (m k : Nat) : qdTo a b c m (k + 1) = qdTo a b c m k ++ [qdQ a b c (k : Int) (m : Int)] := by simp [qdTo, List.range_succ]
theorem qdTo_len (a b c : Pn) (m k : Nat) : (qdTo a b c m k).length = k := by simp [qdTo]
/-- Whether a segment can be flattened; its points but for the last one. -/
def sgOk (t : Int) (s : Sg) : Bool := s.st || decide (qdC s.a s.b s.c t = 0)
def sgP (t : Int) (s : Sg) : List Pn := if s.st = true then [s.a] else qdTo s.a s.b s.c (qdN s.a s.b s.c t) (qdN s.a s.b s.c t)
def rgOk (t : Int) (l : List Kn) : Bool := (sgL (fuK l)).all (sgOk t)
def rgPt (t : Int) (l : List Kn) : List Pn := (sgL (fuK l)).flatMap (sgP t)
def foOk (t : Int) (ls : List (List Kn)) : Bool := ls.all (rgOk t)
def foRs (t : Int) (ls : List (List Kn)) : List Ring_ := ls.map (rgPt t)
/-- The region of an outline and its code. -/
def foC (ls : List (List Kn)) (t : Int) : Int := if outB ls = true then (if (1 ≤ t ∧ t ≤ 262144) then (if (foOk t ls && regionB (foRs t ls)) = true then 0 else 5) else 2) else 1
def foR (ls : List (List Kn)) (t : Int) : List Ring_ := if foC ls t = 0 then foRs t ls else []
end Go.Proofs.YtjhaakollekjeaaDoor
