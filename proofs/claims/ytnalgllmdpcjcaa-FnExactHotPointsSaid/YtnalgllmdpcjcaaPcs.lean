/- Rings that a call makes: pieces, one a ring. -/
import Derived.Test.YtnalgllmdpcjcaaMarkR
import Derived.Lib.SliceRun
namespace Go.Proofs.Ytnalgllmdpcjcaa
open Go Go.RowKit
set_option linter.unusedVariables false

section
variable {P : Program} {n : Nat} {env : List (Nat × Value)} {w0 : Bs} {Rs : List Res} {ops : Array Oper} {Q : Exit → Act → World → Prop} {K : Act → World → Prop} {o : Oper}
theorem qt_eqlNil {T U s : Nat} {x : Operand} {T' : TypeId} {A : Option Addr} {m c m' c' : Nat} (hT : TyL P T U s) (ho : o.op = .binOp .eql T x (.const (.slice none m' c')) T') (hx : ev env x = some (.slice A m c)) : Qt P o n env w0 Rs (.bool A.isNone) :=
  qt_of fun a w hf _ => by
    have e1 : a.eval (.const (.slice none m' c')) = .slice none m' c' := rfl
    have e2 : ∀ y z : Operand, eqGuard .eql T y z (.slice A m c) (.slice none m' c') = pure () := fun _ _ => rfl
    unfold execOp; simp only [ho, hf.ev hx, e1, e2]; simp [Lib.run_eql_slice_nil w T U A m c m' c' hT.desc]
end

/-- A ring made: its points, where its slice lies, in which blocks. -/
structure Pc where
  xs : Ring_
  A : Option Addr
  c : Nat
  lo : Nat
  hi : Nat
def Pc.val (e : Pc) : Value := .slice e.A e.xs.length e.c
def Pc.res (e : Pc) : Res := ptsR e.xs.length e.xs e.lo e.hi e.A
abbrev pcsR (l : List Pc) : Res := .many (l.map Pc.res)
theorem pcsR_push (l : List Pc) (e : Pc) : Res.many (l.map Pc.res ++ [e.res]) = pcsR (l ++ [e]) := by simp [pcsR]

theorem ownP_row {w : World} {B T n : Nat} {x : Option Addr × Nat} {xs : List (Int × Int)} (h : w.ownsRow B T 2 (.slice x.1 n x.2) n (xs.flatMap ptCells)) (hn : xs.length = n) : OwnP (ablk x.1) (ablk x.1 + 1) w x.1 n xs := by
  refine ⟨hn, fun h0 => ?_⟩
  rcases h.2 with ⟨_, e⟩ | ⟨g, cap, cur, e, hb, hg, hcap, hmax, hsz, htk⟩
  · omega
  · injection e with e1 e2 e3
    rw [e1]
    refine ⟨g, 0, T, cur, rfl, Nat.le_refl _, Nat.lt_succ_self _, hg, fun k hk => ?_⟩
    have hf := fun q hq => ptFlat xs k q (by omega) hq
    have hc : ∀ j, j < n * 2 → cur[j]? = (xs.flatMap ptCells)[j]? := fun j hj => by
      rw [← htk, List.getElem?_take, if_pos hj]
      simp
    rw [Nat.zero_add, hc _ (by omega), hc _ (by omega)]
    have h0 := hf 0 (by omega)
    have h1 := hf 1 (by omega)
    rw [at_p (by omega)] at h0 h1
    exact ⟨by simpa [ptCells] using h0, by simpa [ptCells] using h1⟩
section
variable {n : Nat} {env : List (Nat × Value)} {w0 : Bs} {Rs : List Res} {K : Act → World → Prop}
/-- A row of points, as a ring made. -/
theorem at_pc (k : Nat) {B T m : Nat} {x : Option Addr × Nat} {xs : List (Int × Int)} (hk : Rs[k]? = some (rowR B T 2 m (xs.flatMap ptCells) x)) (hm : xs.length = m) (h : ∀ lo hi, At n env w0 (Rs.set k (Pc.res ⟨xs, x.1, x.2, lo, hi⟩)) K) : At n env w0 Rs K := by
  subst hm
  by_cases h0 : 0 < xs.length
  · refine fun a w hf hs => h (ablk x.1) (ablk x.1 + 1) a w hf (hs.chg hk (fun hP => ?_) (fun b hb => ?_) rfl)
    · have hP' : w.ownsRow B T 2 (.slice x.1 xs.length x.2) xs.length (xs.flatMap ptCells) := hP
      refine ptsP (ownP_row hP' rfl) ?_
      rcases hP'.2 with ⟨_, e⟩ | ⟨g, cap, cur, e, hb, hg, _⟩
      · omega
      · injection e with e1
        rw [e1]
        exact lt_of_some hg
    · have hP' : w.ownsRow B T 2 (.slice x.1 xs.length x.2) xs.length (xs.flatMap ptCells) := (hs.all k _ hk).1
      have hb' : ablk x.1 ≤ b ∧ b < ablk x.1 + 1 := hb
      rcases hP'.2 with ⟨_, e⟩ | ⟨g, cap, cur, e, hb2, hg, _⟩
      · omega
      · injection e with e1
        show Value.ownBlock (.slice x.1 xs.length x.2) = some b
        rw [e1] at hb' ⊢
        have e3 : g = b := by have h1 : g ≤ b := hb'.1; have h2 : b < g + 1 := hb'.2; omega
        subst e3
        rfl
  · refine fun a w hf hs => h 0 0 a w hf (hs.chg hk (fun hP => ?_) (fun b hb => by have : 0 ≤ b ∧ b < 0 := hb; omega) rfl)
    refine ptsP ⟨rfl, fun h1 => absurd h1 h0⟩ (Nat.zero_le _)
end
/-- A ring that the laws have copied, as a ring made. -/
theorem newPc {P : Program} {f : FuncId} {args : Array Value} {w1 : World} {n : Nat} {xs : List (Int × Int)} (hn : xs.length = n) (h : Calls P f args w1 fun e w' => ∃ g, e = .returned (ringV (some ⟨g, 0, none⟩) n n) ∧ w1.heap.size ≤ g ∧ Own w' g n xs ∧ Over w1 w') :
    Calls P f args w1 fun e w' => ∃ x : Nat × Nat × Nat, e = .returned (.agg #[(Pc.mk xs (some ⟨x.1, 0, none⟩) n x.2.1 x.2.2).val]) ∧ Over w1 w' ∧ (Pc.res ⟨xs, some ⟨x.1, 0, none⟩, n, x.2.1, x.2.2⟩).P w' ∧ (∀ b, (Pc.res ⟨xs, some ⟨x.1, 0, none⟩, n, x.2.1, x.2.2⟩).F b → w1.heap.size ≤ b) ∧ (Pc.res ⟨xs, some ⟨x.1, 0, none⟩, n, x.2.1, x.2.2⟩).B = 0 ∧ True := by
  subst hn
  refine h.mono ?_
  rintro e w' ⟨g, rfl, hg, ho, hO⟩
  refine ⟨(g, w1.heap.size, w'.heap.size), rfl, hO, ptsP ?_ (Nat.le_refl _), fun b hb => hb.1, rfl, trivial⟩
  obtain ⟨⟨cs, hs, hh⟩, hl, hx⟩ := ho
  refine ⟨rfl, fun h0 => ⟨g, 0, _, cs, rfl, hg, lt_of_some hh, hh, fun k hk => ?_⟩⟩
  obtain ⟨b, o, e, _, hc⟩ := hx h0
  injection e with e
  injection e with e1 e2
  subst e1 e2
  have := hc k hk
  rwa [cell_of_row w' _ _ _ _ (0, 0) hh, cell_of_row w' _ _ _ _ (0, 0) hh] at this

theorem rg_map {l : List Pc} {k : Nat} (h : k < l.length) : rg (l.map (·.xs)) k = (l[k]).xs := by simp [rg, List.getD, h]
/-- The slices of the rings made in one block, the rings beside it: a region of the call's own. -/
theorem pcs_own {w : World} {lo b o T : Nat} {cs : Array Value} {l : List Pc} (hb : w.heap[b]? = some (.cells cs T (0, 0))) (hlo : lo ≤ b) (hc : ∀ k (h : k < l.length), cs[o + k]? = some (l[k]).val) (hP : (pcsR l).P w) (hne : ¬ (pcsR l).F b) (hF : ∀ q, (pcsR l).F q → lo ≤ q)
    (hm : ∀ e ∈ l, (e.xs.length : Int) ≤ 1099511627776) : OwnG lo w.heap.size w (some ⟨b, o, none⟩) l.length (l.map (·.xs)) := by
  have own : ∀ k (h : k < l.length), OwnP (l[k]).lo (l[k]).hi w (l[k]).A (l[k]).xs.length (l[k]).xs := fun k h => ptsG (hP.1 _ (List.mem_map.2 ⟨l[k], List.getElem_mem h, rfl⟩)).1
  have fp : ∀ k (h : k < l.length), 0 < (l[k]).xs.length → (l[k]).res.F (ablk (l[k]).A) := fun k h h0 => by
    obtain ⟨b', o', T', cs', e, h1, h2, _⟩ := (own k h).2 h0
    rw [e]
    exact ⟨h1, h2⟩
  have inF : ∀ k (h : k < l.length) q, (l[k]).res.F q → (pcsR l).F q := fun k h q hq => ⟨_, List.mem_map.2 ⟨l[k], List.getElem_mem h, rfl⟩, hq⟩
  refine ⟨by simp, fun k hk => by rw [rg_map hk]; exact hm _ (List.getElem_mem hk), fun _ => ⟨b, o, T, cs, fun k => if h : k < l.length then ((l[k]).A, (l[k]).c) else (none, 0), rfl, hlo, lt_of_some hb, hb, fun k hk => ?_, fun k hk => ?_, fun k hk h0 => ?_, fun i j hi hj hij h1 h2 => ?_⟩⟩
  · rw [hc k hk, rg_map hk]
    simp only [hk, dite_true]
    rfl
  · rw [rg_map hk]
    simp only [hk, dite_true]
    refine ⟨rfl, fun h0 => ?_⟩
    obtain ⟨b', o', T', cs', e, h1, h2, hh, hcc⟩ := (own k hk).2 h0
    exact ⟨b', o', T', cs', e, hF b' (inF k hk b' ⟨h1, h2⟩), lt_of_some hh, hh, hcc⟩
  · rw [rg_map hk] at h0
    simp only [hk, dite_true]
    exact fun e => hne (e ▸ inF k hk _ (fp k hk h0))
  · rw [rg_map hi] at h1
    rw [rg_map hj] at h2
    simp only [hi, hj, dite_true]
    intro e
    have hp := List.pairwise_iff_getElem.1 hP.2
    rcases Nat.lt_or_ge i j with hlt | hge
    · have := hp i j (by simpa using hi) (by simpa using hj) hlt (ablk (l[i]).A)
      simp only [List.getElem_map] at this
      exact this (fp i hi h1) (e ▸ fp j hj h2)
    · have := hp j i (by simpa using hj) (by simpa using hi) (by omega) (ablk (l[i]).A)
      simp only [List.getElem_map] at this
      exact this (e ▸ fp j hj h2) (fp i hi h1)
end Go.Proofs.Ytnalgllmdpcjcaa
