import Derived.Test.YtjhaakollekjeaaDoorO14
import Derived.Lib.SliceRun
import Derived.Test.YtjhaakollekjeaaDoorO12
import Derived.Test.YtjhaakollekjeaaDoorO13
import Derived.Still
import Derived.ArgAppend
namespace Go.Proofs.YtjhaakollekjeaaDoor
open Go Go.RowKit
set_option linter.unusedVariables false
set_option linter.unusedSimpArgs false

theorem ptFlat : ∀ (xs : List (Int × Int)) (k j : Nat) (hk : k < xs.length), j < 2 → (xs.flatMap ptCells)[k * 2 + j]? = (ptCells xs[k])[j]?
 | [], _, _, h, _ => absurd h (by simp)
 | a :: r, 0, j, _, hj => by
  rw [List.flatMap_cons, Nat.zero_mul, Nat.zero_add, List.getElem?_append_left (by simpa [ptCells] using hj)]
  rfl
 | a :: r, k + 1, j, h, hj => by
  have hl : (ptCells a).length = 2 := rfl
  rw [List.flatMap_cons, List.getElem?_append_right (by rw [hl]; omega), hl]
  have := ptFlat r k j (by simpa using h) hj
  rw [show (k + 1) * 2 + j - 2 = k * 2 + j by omega, this]
  rfl
theorem rowCap {w : World} {B T s n : Nat} {A : Option Addr} {c : Nat} {xs : List Value} (h : w.ownsRow B T s (.slice A n c) n xs) : n ≤ c := by
 rcases h.2 with ⟨e, _⟩ | ⟨g, cap, cur, e, hb, hg, hcap, hmax, hsz, htk⟩
 ·injection e; omega
 ·injection e; omega
theorem reg_len {rs : List Ring_} (h : regionB rs = true) : rs.length ≤ 40 := by
 simp [regionB] at h
 omega
theorem sumTo_le {rs : List Ring_} (h : regionB rs = true) : ∀ k, k ≤ rs.length → sumTo rs k ≤ 400 * k
 | 0, _ => by simp [sumTo]
 | k + 1, hk => by
  have := sumTo_le h k (by omega)
  have h2 := regRing h (show k < rs.length by omega)
  simp only [sumTo]
  simp [ringB, inB] at h2
  omega

section
variable {w : World} {Rs : List Res}
/-- A cell that was there, in later worlds: by itself, as a struct of one cell. -/
theorem rdOld {b o : Nat} {v : Value} (hc : w.cell? ⟨b, o, none⟩ = some v) (hb : b < w.heap.size) : ∀ w', St ⟨w, []⟩ Rs w' → w'.cell? ⟨b, o, none⟩ = some v := fun w' hs => ((ocell hs.fin).1 b o hb).trans hc
theorem rdOld1 {b o k : Nat} {v : Value} (hc : w.cell? ⟨b, o + k, none⟩ = some v) (hb : b < w.heap.size) : ∀ w', St ⟨w, []⟩ Rs w' → ∀ q u, [v][q]? = some u → w'.cell? ⟨b, o + k * 1 + q, none⟩ = some u := fun w' hs q u hq => by
 match q, hq with
 | 0, hq => simp at hq; subst hq; rw [Nat.mul_one, Nat.add_zero]; exact rdOld hc hb w' hs
theorem rdOld0 {b o : Nat} {v : Value} (hc : w.cell? ⟨b, o, none⟩ = some v) (hb : b < w.heap.size) : ∀ w', St ⟨w, []⟩ Rs w' → w'.cell? ⟨b, o + 0, none⟩ = some v := fun w' hs => rdOld hc hb w' hs
theorem rdOldF {b o k : Nat} {v : Value} (hc : w.cell? ⟨b, o + k, none⟩ = some v) (hb : b < w.heap.size) : ∀ w', St ⟨w, []⟩ Rs w' → w'.cell? ⟨b, o + k * 1 + 0, none⟩ = some v := fun w' hs => by rw [Nat.mul_one, Nat.add_zero]; exact rdOld hc hb w' hs
end
theorem pos_of_ring {xs : List (Int × Int)} (h : ringB xs = true) : 0 < xs.length ∧ xs.length ≤ 400 := by simp [ringB, inB] at h; omega

end Go.Proofs.YtjhaakollekjeaaDoor

namespace Go.Proofs.YtjhaakollekjeaaDoor
open Go Go.RowKit
set_option linter.unusedVariables false
set_option linter.unusedSimpArgs false
set_option maxRecDepth 100000
set_option maxHeartbeats 4000000
set_option linter.unusedVariables false

/-- The first k points of a row of cells are marks. -/
def MarkTo (cs : List Value) (o : Nat) (m : Int) (k : Nat) : Prop := ∀ j, j < k → cs[o + j * 2]? = some (.int .i64 (m + 2 * j)) ∧ cs[o + j * 2 + 1]? = some (.int .i64 (m + 2 * j + 1))
theorem MarkTo.step {cs : List Value} {o : Nat} {m : Int} {k : Nat} (h : MarkTo cs o m k) (hl : o + k * 2 + 1 < cs.length) :
  MarkTo (splice (splice cs (o + k * 2 + 0) [.int .i64 (m + 2 * k)]) (o + k * 2 + 1) [.int .i64 (m + 2 * k + 1)]) o m (k + 1) := by
 intro j hj
 simp only [splice, Nat.add_zero]
 by_cases hjk : j = k
 ·subst hjk
  rw [List.getElem?_set_ne (by omega), List.getElem?_set_self (by omega), List.getElem?_set_self (by simpa using hl)]
  exact ⟨rfl, rfl⟩
 ·have := h j (by omega)
  rw [List.getElem?_set_ne (by omega), List.getElem?_set_ne (by omega), List.getElem?_set_ne (by omega), List.getElem?_set_ne (by omega)]
  exact this

/-- Only the blocks from lo on, below hi. -/
def span (lo hi : Nat) (b : Nat) : Prop := lo ≤ b ∧ b < hi
/-! ### The laws' own words -/
section
variable {P : Program} {n : Nat} {env : List (Nat × Value)} {w0 : Bs} {Rs : List Res} {ops : Array Oper} {Q : Exit → Act → World → Prop} {K : Act → World → Prop} {o : Oper}
theorem qt_eqlNil {T U s : Nat} {x : Operand} {T' : TypeId} {A : Option Addr} {m c m' c' : Nat} (hT : TyL P T U s) (ho : o.op = .binOp .eql T x (.const (.slice none m' c')) T') (hx : ev env x = some (.slice A m c)) : Qt P o n env w0 Rs (.bool A.isNone) :=
 qt_of fun a w hf _ => by
  have e1 : a.eval (.const (.slice none m' c')) = .slice none m' c' := rfl
  have e2 : ∀ y z : Operand, eqGuard .eql T y z (.slice A m c) (.slice none m' c') = pure () := fun _ _ => rfl
  unfold execOp; simp only [ho, hf.ev hx, e1, e2]; simp [Lib.run_eql_slice_nil w T U A m c m' c' hT.desc]
end

/-- A ring made: its points, where its slice lies, in which blocks. -/
structure Pc where
 xs : Ring_
 A : Option Addr
 c : Nat
 lo : Nat
 hi : Nat
def Pc.val (e : Pc) : Value := .slice e.A e.xs.length e.c
def Pc.res (e : Pc) : Res := ptsR e.xs.length e.xs e.lo e.hi e.A
abbrev pcsR (l : List Pc) : Res := .many (l.map Pc.res)
theorem pcsR_push (l : List Pc) (e : Pc) : Res.many (l.map Pc.res ++ [e.res]) = pcsR (l ++ [e]) := by simp [pcsR]

theorem ownP_row {w : World} {B T n : Nat} {x : Option Addr × Nat} {xs : List (Int × Int)} (h : w.ownsRow B T 2 (.slice x.1 n x.2) n (xs.flatMap ptCells)) (hn : xs.length = n) : OwnP (ablk x.1) (ablk x.1 + 1) w x.1 n xs := by
 refine ⟨hn, fun h0 => ?_⟩
 rcases h.2 with ⟨_, e⟩ | ⟨g, cap, cur, e, hb, hg, hcap, hmax, hsz, htk⟩
 ·omega
 ·injection e with e1 e2 e3
  rw [e1]
  refine ⟨g, 0, T, cur, rfl, Nat.le_refl _, Nat.lt_succ_self _, hg, fun k hk => ?_⟩
  have hf := fun q hq => ptFlat xs k q (by omega) hq
  have hc : ∀ j, j < n * 2 → cur[j]? = (xs.flatMap ptCells)[j]? := fun j hj => by
   rw [← htk, List.getElem?_take, if_pos hj]
   simp
  rw [Nat.zero_add, hc _ (by omega), hc _ (by omega)]
  have h0 := hf 0 (by omega)
  have h1 := hf 1 (by omega)
  rw [at_p (by omega)] at h0 h1
  exact ⟨by simpa [ptCells] using h0, by simpa [ptCells] using h1⟩
section
variable {n : Nat} {env : List (Nat × Value)} {w0 : Bs} {Rs : List Res} {K : Act → World → Prop}
/-- A row of points, as a ring made. -/
theorem at_pc (k : Nat) {B T m : Nat} {x : Option Addr × Nat} {xs : List (Int × Int)} (hk : Rs[k]? = some (rowR B T 2 m (xs.flatMap ptCells) x)) (hm : xs.length = m) (h : ∀ lo hi, At n env w0 (Rs.set k (Pc.res ⟨xs, x.1, x.2, lo, hi⟩)) K) : At n env w0 Rs K := by
 subst hm
 by_cases h0 : 0 < xs.length
 ·refine fun a w hf hs => h (ablk x.1) (ablk x.1 + 1) a w hf (hs.chg hk (fun hP => ?_) (fun b hb => ?_) rfl)
  ·have hP' : w.ownsRow B T 2 (.slice x.1 xs.length x.2) xs.length (xs.flatMap ptCells) := hP
   refine ptsP (ownP_row hP' rfl) ?_
   rcases hP'.2 with ⟨_, e⟩ | ⟨g, cap, cur, e, hb, hg, _⟩
   ·omega
   ·injection e with e1
    rw [e1]
    exact lt_of_some hg
  ·have hP' : w.ownsRow B T 2 (.slice x.1 xs.length x.2) xs.length (xs.flatMap ptCells) := (hs.all k _ hk).1
   have hb' : ablk x.1 ≤ b ∧ b < ablk x.1 + 1 := hb
   rcases hP'.2 with ⟨_, e⟩ | ⟨g, cap, cur, e, hb2, hg, _⟩
   ·omega
   ·injection e with e1
    show Value.ownBlock (.slice x.1 xs.length x.2) = some b
    rw [e1] at hb' ⊢
    have e3 : g = b := by have h1 : g ≤ b := hb'.1; have h2 : b < g + 1 := hb'.2; omega
    subst e3
    rfl
 ·refine fun a w hf hs => h 0 0 a w hf (hs.chg hk (fun hP => ?_) (fun b hb => by have : 0 ≤ b ∧ b < 0 := hb; omega) rfl)
  refine ptsP ⟨rfl, fun h1 => absurd h1 h0⟩ (Nat.zero_le _)
end
theorem rg_map {l : List Pc} {k : Nat} (h : k < l.length) : rg (l.map (·.xs)) k = (l[k]).xs := by simp [rg, List.getD, h]
/-- The slices of the rings made in one block, the rings beside it: a region of the call's own. -/
theorem pcs_own {w : World} {lo b o T : Nat} {cs : Array Value} {l : List Pc} (hb : w.heap[b]? = some (.cells cs T (0, 0))) (hlo : lo ≤ b) (hc : ∀ k (h : k < l.length), cs[o + k]? = some (l[k]).val) (hP : (pcsR l).P w) (hne : ¬ (pcsR l).F b) (hF : ∀ q, (pcsR l).F q → lo ≤ q)
  (hm : ∀ e ∈ l, (e.xs.length : Int) ≤ 1099511627776) : OwnG lo w.heap.size w (some ⟨b, o, none⟩) l.length (l.map (·.xs)) := by
 have own : ∀ k (h : k < l.length), OwnP (l[k]).lo (l[k]).hi w (l[k]).A (l[k]).xs.length (l[k]).xs := fun k h => ptsG (hP.1 _ (List.mem_map.2 ⟨l[k], List.getElem_mem h, rfl⟩)).1
 have fp : ∀ k (h : k < l.length), 0 < (l[k]).xs.length → (l[k]).res.F (ablk (l[k]).A) := fun k h h0 => by
  obtain ⟨b', o', T', cs', e, h1, h2, _⟩ := (own k h).2 h0
  rw [e]
  exact ⟨h1, h2⟩
 have inF : ∀ k (h : k < l.length) q, (l[k]).res.F q → (pcsR l).F q := fun k h q hq => ⟨_, List.mem_map.2 ⟨l[k], List.getElem_mem h, rfl⟩, hq⟩
 refine ⟨by simp, fun k hk => by rw [rg_map hk]; exact hm _ (List.getElem_mem hk), fun _ => ⟨b, o, T, cs, fun k => if h : k < l.length then ((l[k]).A, (l[k]).c) else (none, 0), rfl, hlo, lt_of_some hb, hb, fun k hk => ?_, fun k hk => ?_, fun k hk h0 => ?_, fun i j hi hj hij h1 h2 => ?_⟩⟩
 ·rw [hc k hk, rg_map hk]
  simp only [hk, dite_true]
  rfl
 ·rw [rg_map hk]
  simp only [hk, dite_true]
  refine ⟨rfl, fun h0 => ?_⟩
  obtain ⟨b', o', T', cs', e, h1, h2, hh, hcc⟩ := (own k hk).2 h0
  exact ⟨b', o', T', cs', e, hF b' (inF k hk b' ⟨h1, h2⟩), lt_of_some hh, hh, hcc⟩
 ·rw [rg_map hk] at h0
  simp only [hk, dite_true]
  exact fun e => hne (e ▸ inF k hk _ (fp k hk h0))
 ·rw [rg_map hi] at h1
  rw [rg_map hj] at h2
  simp only [hi, hj, dite_true]
  intro e
  have hp := List.pairwise_iff_getElem.1 hP.2
  rcases Nat.lt_or_ge i j with hlt | hge
  ·have := hp i j (by simpa using hi) (by simpa using hj) hlt (ablk (l[i]).A)
   simp only [List.getElem_map] at this
   exact this (fp i hi h1) (e ▸ fp j hj h2)
  ·have := hp j i (by simpa using hj) (by simpa using hi) (by omega) (ablk (l[i]).A)
   simp only [List.getElem_map] at this
   exact this (e ▸ fp j hj h2) (fp i hi h1)
theorem gegNew {P : Program} {f : FuncId} {args : Array Value} {w1 : World} {n : Nat} {rs : List Ring_} {V : Option Addr → Nat → Value} (h : Calls P f args w1 fun e w' => ∃ A c, e = .returned (V A c) ∧ OwnG w1.heap.size w'.heap.size w' A n rs ∧ Over w1 w') :
  Calls P f args w1 fun e w' => ∃ x : (Option Addr × Nat) × Nat × Nat, e = .returned (V x.1.1 x.1.2) ∧ Over w1 w' ∧ (gegR n rs x.2.1 x.2.2 x.1.1).P w' ∧ (∀ b, (gegR n rs x.2.1 x.2.2 x.1.1).F b → w1.heap.size ≤ b) ∧ (gegR n rs x.2.1 x.2.2 x.1.1).B = 0 ∧ True := by
 refine h.mono ?_
 rintro e w' ⟨A, c, rfl, ho, hO⟩
 exact ⟨((A, c), w1.heap.size, w'.heap.size), rfl, hO, gegP ho (Nat.le_refl _), fun b hb => hb.1, rfl, trivial⟩
end Go.Proofs.YtjhaakollekjeaaDoor

namespace Go.Proofs.YtjhaakollekjeaaDoor
open Go Go.RowKit
set_option linter.unusedVariables false

theorem neSelf (a : Int) : (!(a == a)) = false := by simp
theorem notTrue : (!true) = false := rfl
/-- A region that is not too large. -/
def smallR (rs : List Ring_) : Prop := rs.length ≤ 2000 ∧ ∀ j, j < rs.length → (rg rs j).length ≤ 500
theorem smallR_sum {rs : List Ring_} (h : smallR rs) : ∀ k, k ≤ rs.length → sumTo rs k ≤ 500 * k
 | 0, _ => by simp [sumTo]
 | k + 1, hk => by
  have := smallR_sum h k (by omega)
  have := h.2 k (by omega)
  simp only [sumTo]
  omega
theorem smallR.total {rs : List Ring_} (h : smallR rs) : (Go.Proofs.YtjhaakollekjeaaDoor.total rs : Int) ≤ 1048576 := by
 have := smallR_sum h rs.length (Nat.le_refl _)
 have := h.1
 unfold Go.Proofs.YtjhaakollekjeaaDoor.total
 omega
theorem smallR.sum {rs : List Ring_} (h : smallR rs) {n : Nat} (hn : rs.length = n) : 1 + 2 * (sumTo rs n : Nat) ≤ (4611686018427387904 : Int) ∧ n ≤ 4611686018427387904 := by
 have := smallR_sum h n (by omega)
 have := h.1
 omega
theorem smallR.nil : smallR [] := ⟨by simp, fun j hj => absurd hj (by simp)⟩
theorem smallR.of {rs : List Ring_} (h : regionB rs = true) : smallR rs := ⟨by have := reg_len h; omega, fun j hj => by have := pos_of_ring (regRing h hj); omega⟩
section
variable {w0 : Bs} {Rs : List Res}
/-- A region that a call has made, as rings to read; as one to write. -/
theorem gegS {k n lo hi : Nat} {A : Option Addr} {rs : List Ring_} (hk : Rs[k]? = some (gegR n rs lo hi A)) (w : World) (hs : St w0 Rs w) : OwnG lo hi w A n rs := gegG (hs.all k _ hk).1
theorem gegRings {k n lo hi : Nat} {A : Option Addr} {rs : List Ring_} (hk : Rs[k]? = some (gegR n rs lo hi A)) (w : World) (hs : St w0 Rs w) : Rings w A n rs := (gegS hk w hs).rings
end
/-- A region and a code, as what a call has made. -/
theorem gegCode {P : Program} {f : FuncId} {args : Array Value} {w1 : World} {rs : List Ring_} {code : Int} (h : Calls P f args w1 fun e w' => ∃ A' c', e = .returned (.tuple #[regV A' rs.length c', .int .i64 code]) ∧ OwnG w1.heap.size w'.heap.size w' A' rs.length rs ∧ Over w1 w') :
  Calls P f args w1 fun e w' => ∃ x : (Option Addr × Nat) × Nat × Nat, e = .returned (.tuple #[regV x.1.1 rs.length x.1.2, .int .i64 code]) ∧ Over w1 w' ∧ (gegR rs.length rs x.2.1 x.2.2 x.1.1).P w' ∧ (∀ b, (gegR rs.length rs x.2.1 x.2.2 x.1.1).F b → w1.heap.size ≤ b) ∧ (gegR rs.length rs x.2.1 x.2.2 x.1.1).B = 0 ∧ True :=
 gegNew (V := fun A c => .tuple #[regV A rs.length c, .int .i64 code]) h
/-! ### Rings as what a call has made -/
end Go.Proofs.YtjhaakollekjeaaDoor

namespace Go.Proofs.YtjhaakollekjeaaDoor
open Go Go.RowKit
set_option linter.unusedVariables false
set_option linter.unusedSimpArgs false

section
variable {w : World} {w0 : Bs} {Rs : List Res}
end

end Go.Proofs.YtjhaakollekjeaaDoor

namespace Go.Proofs.YtjhaakollekjeaaDoor
open Go Go.RowKit
set_option linter.unusedVariables false

def lA (l : Leg) : Pn := (l.ax, l.ay)
section
variable {P : Program} {n : Nat} {w0 : Bs} {Rs : List Res} {ops : Array Oper} {Q : Exit → Act → World → Prop} {K : Act → World → Prop}
/-- The operation is carried out; it is not. -/
def Wants (ops : Array Oper) (env : List (Nat × Value)) (o : Oper) : Prop := o.guard = none ∨ ∃ j c oj dj, o.guard = some (j, c) ∧ ops[j]? = some oj ∧ oj.dst = some dj ∧ look env dj = some (.bool c)
def Leaves (ops : Array Oper) (env : List (Nat × Value)) (o : Oper) : Prop := ∃ j c oj dj, o.guard = some (j, c) ∧ ops[j]? = some oj ∧ oj.dst = some dj ∧ (look env dj = some undef ∨ ∃ b, look env dj = some (.bool b) ∧ b ≠ c)
theorem Wants.wanted {env : List (Nat × Value)} {o : Oper} {a : Act} (h : Wants ops env o) (hf : Frm n env a) : Region.wanted o (yielded ops a.tmps) = true := by
 rcases h with h | ⟨j, c, oj, dj, hg, hj, hdj, hb⟩
 ·simp [Region.wanted, h]
 ·simp [Region.wanted, hg, yields hf hj hdj hb]
theorem Leaves.wanted {env : List (Nat × Value)} {o : Oper} {a : Act} (h : Leaves ops env o) (hf : Frm n env a) : Region.wanted o (yielded ops a.tmps) = false := by
 obtain ⟨j, c, oj, dj, hg, hj, hdj, hb | ⟨b, hb, hne⟩⟩ := h
 ·simp [Region.wanted, hg, yields_not hf hj hdj hb]
 ·simp [Region.wanted, hg, yields hf hj hdj hb, hne]
/-! ### The check, made cheap -/
theorem Frm.congr {env env' : List (Nat × Value)} {a : Act} (h : Frm n env a) (he : ∀ t, look env' t = look env t) : Frm n env' a := ⟨h.size, fun t v hv => h.get t v (by rw [← he]; exact hv), h.defers⟩
end
section
variable {w0 : Bs} {Rs : List Res}
end
section
variable {w : World} {Rs : List Res}
end
end Go.Proofs.YtjhaakollekjeaaDoor

namespace Go.Proofs.YtjhaakollekjeaaDoor
open Go Go.RowKit
set_option linter.unusedVariables false

section
variable {P : Program} {n : Nat} {env : List (Nat × Value)} {w0 : Bs} {Rs : List Res} {ops : Array Oper} {Q : Exit → Act → World → Prop} {K : Act → World → Prop} {o : Oper}
end
/-! ### A point taken out -/
def pt (xs : List (Int × Int)) (k : Nat) : Pn := (px xs k, py xs k)
/-- Points that are valid, at most 401 of them. -/
def okPts (xs : List (Int × Int)) : Prop := xs.length ≤ 401 ∧ ∀ p ∈ xs, bd2 p
theorem okPts.at_ {xs : List (Int × Int)} (h : okPts xs) {k : Nat} (hk : k < xs.length) : bd2 (pt xs k) := by
 have := h.2 xs[k] (List.getElem_mem hk)
 rwa [at_p hk] at this
theorem okPts.of {xs : List (Int × Int)} (h : ringB xs = true) : okPts xs := by
 have h1 := pos_of_ring h
 refine ⟨by omega, fun p hp => ?_⟩
 simp only [ringB, Bool.and_eq_true, allOk, List.all_eq_true] at h
 have := h.2 p hp
 simp [okB, inB] at this
 exact ⟨⟨by omega, by omega⟩, by omega, by omega⟩
end Go.Proofs.YtjhaakollekjeaaDoor

namespace Go.Proofs.YtjhaakollekjeaaDoor
open Go Go.RowKit
set_option linter.unusedVariables false
set_option linter.unusedSimpArgs false

/-! ### Ascending lists -/
/-- By Y, then X. -/
def ltY (p q : Pn) : Prop := p.2 < q.2 ∨ (p.2 = q.2 ∧ p.1 < q.1)
instance (p q : Pn) : Decidable (ltY p q) := by unfold ltY; exact inferInstance
theorem pt_at {xs : List Pn} {k : Nat} (h : k < xs.length) : xs[k] = pt xs k := at_p h
/-- The list without neighbours that are the same. -/
def compP : List Pn → List Pn
 | [] => []
 | [p] => [p]
 | p :: q :: l => if p = q then compP (q :: l) else p :: compP (q :: l)
/-! ### Crossings -/
/-- A point whose coordinates are far from the words' bounds. -/
def bdW (p : Pn) : Prop := (-1152921504606846976 ≤ p.1 ∧ p.1 ≤ 1152921504606846976) ∧ -1152921504606846976 ≤ p.2 ∧ p.2 ≤ 1152921504606846976
theorem bd2_ok {p : Pn} (h : bd2 p) : okB p.1 p.2 = true := by
 obtain ⟨⟨h1, h2⟩, h3, h4⟩ := h
 simp [okB, inB, *]
section
variable {P : Program} {n : Nat} {env : List (Nat × Value)} {w0 : Bs} {Rs : List Res} {ops : Array Oper} {Q : Exit → Act → World → Prop} {K : Act → World → Prop} {o : Oper}
/-- A call that turns a piece into what comes back. -/
theorem op_callP {f k d : Nat} (hfn : FnOk P f) {xs : List Operand} {vs : List Value} {ts : Array TypeId} {X : Type} {v : X → Value} {r : Res} {r' : X → Res} (ho : o.op = .call { callee := .value (.func f), args := xs.toArray, argTypes := ts }) (hx : evs env xs = some vs) (hd : o.dst = some d) (hn : d < n)
  (hk : Rs[k]? = some r) (hc : ∀ w, St w0 Rs w → Calls P f vs.toArray w fun e w' => ∃ x, e = .returned (v x) ∧ Wrs r.F w w' ∧ (r' x).P w' ∧ (∀ b, (r' x).F b → r.F b ∨ w.heap.size ≤ b) ∧ (r' x).B = 0)
  (h : ∀ x, At n ((d, v x) :: env) w0 (Rs.set k (r' x)) K) : At n env w0 Rs (fun a w => o.wp P a w K Q) := fun a w hF' hs => by
 show o.upon P a K Q ((execOp a.eval o).run P w)
 rw [run_call hfn ho hx hF']
 refine Calls.mono (hc w hs) ?_
 rintro e w' ⟨x, rfl, hw, hp, hF, hB⟩
 have hlow := (hs.all k _ hk).2.1
 show K (a.put o.dst (v x)) w'
 rw [hd]
 refine h x _ _ (hF'.put hn _) (hs.upd hk ⟨hw.os.trans hs.over.os, hw.tape.trans hs.over.tape, hw.output.trans hs.over.output, Nat.le_trans hs.over.size hw.size, fun c hc' hx' => ?_⟩ hw.size (fun c hc' hne => hw.block c hc' hne) hp (fun c hc' => hF c hc') hB)
 rw [hw.block c (Nat.lt_of_lt_of_le hc' hs.over.size) (fun e => (hlow c e).elim (fun h1 => by omega) (fun h1 => hx' h1))]
 exact hs.over.block c hc' hx'
end
theorem at_rebase {n : Nat} {env : List (Nat × Value)} {w0 : Bs} {Rs : List Res} {K : Act → World → Prop} (h : ∀ w1, St w0 Rs w1 → At n env ⟨w1, []⟩ [] K) : At n env w0 Rs K := fun a w hf hs => h w hs a w hf (St.start w)
/-! ### The points of edges, in the order in which they are found -/
end Go.Proofs.YtjhaakollekjeaaDoor

namespace Go.Proofs.YtjhaakollekjeaaDoor
open Go Go.RowKit
set_option linter.unusedVariables false
set_option linter.unusedSimpArgs false

/-! ### Rows of numbers -/
def nth (xs : List Int) (k : Nat) : Int := xs.getD k 0
theorem nth_at {xs : List Int} {k : Nat} (h : k < xs.length) : xs[k] = nth xs k := by simp [nth, List.getD, h]
/-- The slice with address A and length n reads as the numbers xs. -/
def Nums (w : World) (A : Option Addr) (n : Nat) (xs : List Int) : Prop := xs.length = n ∧ (0 < n → ∃ b o, A = some ⟨b, o, none⟩ ∧ b < w.heap.size ∧ ∀ k, k < n → w.cell? ⟨b, o + k, none⟩ = some (.int .i64 (nth xs k)))
theorem Nums.over {w w' : World} {A : Option Addr} {n : Nat} {xs : List Int} (h : Nums w A n xs) (hb : Over w w') : Nums w' A n xs := by
 refine ⟨h.1, fun hn => ?_⟩
 obtain ⟨b, o, hA, hlt, hc⟩ := h.2 hn
 exact ⟨b, o, hA, Nat.lt_of_lt_of_le hlt hb.size, fun k hk => ((ocell hb).1 b _ hlt).trans (hc k hk)⟩
theorem rdNums {b o m j : Nat} {xs : List Int} {w : World} {Rs : List Res} (h : Nums w (some ⟨b, o, none⟩) m xs) (hj : j < m) : ∀ w', St ⟨w, []⟩ Rs w' → w'.cell? ⟨b, o + j * 1, none⟩ = some (.int .i64 (nth xs j)) := fun w' hs => by
 obtain ⟨b', o', e, _, hc⟩ := (h.over hs.fin).2 (by omega)
 injection e with e
 injection e with e1 e2 _
 subst e1 e2
 rw [Nat.mul_one]
 exact hc j hj
end Go.Proofs.YtjhaakollekjeaaDoor
