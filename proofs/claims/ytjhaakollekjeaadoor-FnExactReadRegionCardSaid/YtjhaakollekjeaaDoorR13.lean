import Derived.Test.YtjhaakollekjeaaDoorR12
import Derived.Test.YtjhaakollekjeaaDoorR9
import Derived.Test.YtjhaakollekjeaaDoorR10
import Derived.Test.YtjhaakollekjeaaDoorR11
import Derived.Still
import Derived.ArgAppend
import Derived.Shelf.Bits.Mul64
import Derived.Laws.BitsAllLaws
import Derived.Shelf.SlSortCmp.WholeK
namespace Go.Proofs.YtjhaakollekjeaaDoor
open Go Go.RowKit
set_option linter.unusedVariables false

theorem neSelf (a : Int) : (!(a == a)) = false := by simp
theorem neSelfB (a : Bool) : (!(a == a)) = false := by simp
theorem notTrue : (!true) = false := rfl
/-- A region that is not too large. -/
def smallR (rs : List Ring_) : Prop := rs.length ≤ 2000 ∧ ∀ j, j < rs.length → (rg rs j).length ≤ 500
theorem smallR_sum {rs : List Ring_} (h : smallR rs) : ∀ k, k ≤ rs.length → sumTo rs k ≤ 500 * k
 | 0, _ => by simp [sumTo]
 | k + 1, hk => by
  have := smallR_sum h k (by omega)
  have := h.2 k (by omega)
  simp only [sumTo]
  omega
theorem smallR.total {rs : List Ring_} (h : smallR rs) : (Go.Proofs.YtjhaakollekjeaaDoor.total rs : Int) ≤ 1048576 := by
 have := smallR_sum h rs.length (Nat.le_refl _)
 have := h.1
 unfold Go.Proofs.YtjhaakollekjeaaDoor.total
 omega
theorem smallR.sum {rs : List Ring_} (h : smallR rs) {n : Nat} (hn : rs.length = n) : 1 + 2 * (sumTo rs n : Nat) ≤ (4611686018427387904 : Int) ∧ n ≤ 4611686018427387904 := by
 have := smallR_sum h n (by omega)
 have := h.1
 omega
theorem smallR.nil : smallR [] := ⟨by simp, fun j hj => absurd hj (by simp)⟩
theorem smallR.of {rs : List Ring_} (h : regionB rs = true) : smallR rs := ⟨by have := reg_len h; omega, fun j hj => by have := pos_of_ring (regRing h hj); omega⟩
section
variable {w0 : Bs} {Rs : List Res}
/-- A region that a call has made, as rings to read; as one to write. -/
theorem gegS {k n lo hi : Nat} {A : Option Addr} {rs : List Ring_} (hk : Rs[k]? = some (gegR n rs lo hi A)) (w : World) (hs : St w0 Rs w) : OwnG lo hi w A n rs := gegG (hs.all k _ hk).1
theorem gegH {k n lo hi : Nat} {A : Option Addr} {rs : List Ring_} (hk : Rs[k]? = some (gegR n rs lo hi A)) (w : World) (hs : St w0 Rs w) : hi ≤ w.heap.size := (hs.all k _ hk).1.1
theorem gegRings {k n lo hi : Nat} {A : Option Addr} {rs : List Ring_} (hk : Rs[k]? = some (gegR n rs lo hi A)) (w : World) (hs : St w0 Rs w) : Rings w A n rs := (gegS hk w hs).rings
end
/-- Marks of a region, as the law's call turns them. -/
theorem markGeg {lo hi n c : Nat} {A : Option Addr} {rs : List Ring_} {w : World} (h : OwnG lo hi w A n rs) (hz : hi ≤ w.heap.size) (hb : 1 + 2 * (sumTo rs n : Nat) ≤ (4611686018427387904 : Int) ∧ n ≤ 4611686018427387904) :
  Calls Tryd.prog 8 #[regV A n c, .int .i64 1] w fun e w' => e = .returned (.int .i64 (1 + 2 * (sumTo rs n : Nat))) ∧ Wrs (gegR n rs lo hi A).F w w' ∧ (gegR n (marksR 1 rs) lo hi A).P w' :=
 (markRegion_any lo hi A n c rs 1 w h hz (by omega) hb.1 hb.2).mono (by rintro e w' ⟨he, hw, hg⟩; exact ⟨he, hw, gegP hg (Nat.le_trans hz hw.size)⟩)
theorem heldGeg {n c : Nat} {A : Option Addr} {rs : List Ring_} {w : World} (h : Rings w A n (marksR 1 rs)) (hb : 1 + 2 * (sumTo rs n : Nat) ≤ (4611686018427387904 : Int) ∧ n ≤ 4611686018427387904) :
  Calls Tryd.prog 9 #[regV A n c, .int .i64 1] w fun e w' => e = .returned (.int .i64 (1 + 2 * (sumTo rs n : Nat))) ∧ Over w w' := heldRegion_any A n c rs 1 w h (by omega) hb.1 hb.2
theorem posF (k : Nat) : decide ((1 : Int) + 2 * (k : Int) < 0) = false := decide_eq_false (by omega)
/-! ### Rings as what a call has made -/
end Go.Proofs.YtjhaakollekjeaaDoor

namespace Go.Proofs.YtjhaakollekjeaaDoor
open Go Go.RowKit
set_option linter.unusedVariables false
set_option linter.unusedSimpArgs false

section
variable {w : World} {w0 : Bs} {Rs : List Res}
end

end Go.Proofs.YtjhaakollekjeaaDoor

namespace Go.Proofs.YtjhaakollekjeaaDoor
open Go Go.RowKit
set_option linter.unusedVariables false

theorem rowSome {w : World} {w0 : Bs} {Rs : List Res} {k B T s n : Nat} {x : Option Addr × Nat} {xs : List Value} (hk : Rs[k]? = some (rowR B T s n xs x)) (hs : St w0 Rs w) (hn : 0 < n) : ∃ g, x.1 = some ⟨g, 0, none⟩ := by
 have h : w.ownsRow B T s (.slice x.1 n x.2) n xs := (hs.all k _ hk).1
 rcases h.2 with ⟨_, e⟩ | ⟨g, cap, cur, e, _⟩
 ·omega
 ·injection e with e1
  exact ⟨g, e1⟩
section
variable {P : Program} {n : Nat} {w0 : Bs} {Rs : List Res} {ops : Array Oper} {Q : Exit → Act → World → Prop} {K : Act → World → Prop}
/-- The operation is carried out; it is not. -/
def Wants (ops : Array Oper) (env : List (Nat × Value)) (o : Oper) : Prop := o.guard = none ∨ ∃ j c oj dj, o.guard = some (j, c) ∧ ops[j]? = some oj ∧ oj.dst = some dj ∧ look env dj = some (.bool c)
def Leaves (ops : Array Oper) (env : List (Nat × Value)) (o : Oper) : Prop := ∃ j c oj dj, o.guard = some (j, c) ∧ ops[j]? = some oj ∧ oj.dst = some dj ∧ (look env dj = some undef ∨ ∃ b, look env dj = some (.bool b) ∧ b ≠ c)
theorem Wants.wanted {env : List (Nat × Value)} {o : Oper} {a : Act} (h : Wants ops env o) (hf : Frm n env a) : Region.wanted o (yielded ops a.tmps) = true := by
 rcases h with h | ⟨j, c, oj, dj, hg, hj, hdj, hb⟩
 ·simp [Region.wanted, h]
 ·simp [Region.wanted, hg, yields hf hj hdj hb]
theorem Leaves.wanted {env : List (Nat × Value)} {o : Oper} {a : Act} (h : Leaves ops env o) (hf : Frm n env a) : Region.wanted o (yielded ops a.tmps) = false := by
 obtain ⟨j, c, oj, dj, hg, hj, hdj, hb | ⟨b, hb, hne⟩⟩ := h
 ·simp [Region.wanted, hg, yields_not hf hj hdj hb]
 ·simp [Region.wanted, hg, yields hf hj hdj hb, hne]
/-! ### The check, made cheap -/
theorem Frm.congr {env env' : List (Nat × Value)} {a : Act} (h : Frm n env a) (he : ∀ t, look env' t = look env t) : Frm n env' a := ⟨h.size, fun t v hv => h.get t v (by rw [← he]; exact hv), h.defers⟩
end
section
variable {w0 : Bs} {Rs : List Res}
end
section
variable {w : World} {Rs : List Res}
end
end Go.Proofs.YtjhaakollekjeaaDoor

namespace Go.Proofs.YtjhaakollekjeaaDoor
open Go Go.RowKit
set_option linter.unusedVariables false

section
variable {P : Program} {n : Nat} {env : List (Nat × Value)} {w0 : Bs} {Rs : List Res} {ops : Array Oper} {Q : Exit → Act → World → Prop} {K : Act → World → Prop} {o : Oper}
end
/-! ### A point taken out -/
def pt (xs : List (Int × Int)) (k : Nat) : Pn := (px xs k, py xs k)
/-- Points that are valid, at most 401 of them. -/
def okPts (xs : List (Int × Int)) : Prop := xs.length ≤ 401 ∧ ∀ p ∈ xs, bd2 p
theorem okPts.at_ {xs : List (Int × Int)} (h : okPts xs) {k : Nat} (hk : k < xs.length) : bd2 (pt xs k) := by
 have := h.2 xs[k] (List.getElem_mem hk)
 rwa [at_p hk] at this
theorem okPts.of {xs : List (Int × Int)} (h : ringB xs = true) : okPts xs := by
 have h1 := pos_of_ring h
 refine ⟨by omega, fun p hp => ?_⟩
 simp only [ringB, Bool.and_eq_true, allOk, List.all_eq_true] at h
 have := h.2 p hp
 simp [okB, inB] at this
 exact ⟨⟨by omega, by omega⟩, by omega, by omega⟩
end Go.Proofs.YtjhaakollekjeaaDoor

namespace Go.Proofs.YtjhaakollekjeaaDoor
open Go Go.RowKit
set_option linter.unusedVariables false

/-- A row of slices, the rings made: a region of the call's own. -/
theorem pcs_row {w w' : World} {Rs : List Res} (hs : St ⟨w, []⟩ Rs w') {kr kp B T n : Nat} {l : List Pc} {x : Option Addr × Nat} {rs : List Ring_} (hr : Rs[kr]? = some (rowR B T 1 n (l.map Pc.val) x)) (hp : Rs[kp]? = some (pcsR l)) (hne : kr ≠ kp) (_e : w = w) (hl : l.length = n) (hrs : l.map (·.xs) = rs)
  (hm : ∀ j, j < rs.length → (rg rs j).length ≤ 1099511627776) : OwnG w.heap.size w'.heap.size w' x.1 n rs := by
 have hrow : w'.ownsRow B T 1 (.slice x.1 n x.2) n (l.map Pc.val) := (hs.all kr _ hr).1
 have hX := hs.all kp _ hp
 rcases hrow.2 with ⟨_, e⟩ | ⟨g, cap, cur, e, hb, hg, hcap, hmax, hsz, htk⟩
 ·subst e
  obtain rfl : l = [] := List.eq_nil_of_length_eq_zero hl
  subst hrs
  exact OwnG.nil _
 ·injection e with e1 e2 e3
  rw [e1]
  have hF : (rowR B T 1 n (l.map Pc.val) x).F g := by show Value.ownBlock (.slice x.1 n x.2) = some g; rw [e1]; rfl
  have hown := pcs_own (lo := w.heap.size) (o := 0) hg (((hs.all kr _ hr).2.1 g hF).elim id (fun h => by cases h)) (fun j hj => ?_) hX.1 (fun h => hs.apart kr kp _ _ hne hr hp g hF h) (fun q hq => (hX.2.1 q hq).elim id (fun h => by cases h)) (fun e he => ?_)
  ·rw [hrs, hl] at hown
   exact hown
  ·have hc : cur[j]? = (l.map Pc.val)[j]? := by rw [← htk, List.getElem?_take, if_pos (by omega)]; simp
   rw [Nat.zero_add, hc]
   simp [hj]
  ·have : e.xs ∈ rs := hrs ▸ List.mem_map.2 ⟨e, he, rfl⟩
   obtain ⟨j, hj, e2⟩ := List.getElem_of_mem this
   have := hm j hj
   rw [← at_r hj, e2] at this
   omega
/-- The cells of points of which the first i and the last i are exchanged. -/
def RevTo (cs : List Value) (o n i : Nat) (xs : List (Int × Int)) : Prop := ∀ q, q < n → cs[o + q * 2]? = some (.int .i64 (px xs (if q < i ∨ n - 1 - i < q then n - 1 - q else q))) ∧ cs[o + q * 2 + 1]? = some (.int .i64 (py xs (if q < i ∨ n - 1 - i < q then n - 1 - q else q)))
theorem RevTo.step {cs : List Value} {o n i : Nat} {xs : List (Int × Int)} (h : RevTo cs o n i xs) (hi : 2 * i + 1 < n) (hl : ∀ q, q < n → o + q * 2 + 1 < cs.length) :
  RevTo (splice (splice cs (o + i * 2) [.int .i64 (px xs (n - 1 - i)), .int .i64 (py xs (n - 1 - i))]) (o + (n - 1 - i) * 2) [.int .i64 (px xs i), .int .i64 (py xs i)]) o n (i + 1) xs := by
 intro q hq
 have h1 := hl i (by omega)
 have h2 := hl (n - 1 - i) (by omega)
 simp only [splice]
 by_cases e1 : q = i
 ·subst e1
  rw [if_pos (by omega), List.getElem?_set_ne (by omega), List.getElem?_set_ne (by omega), List.getElem?_set_ne (by omega), List.getElem?_set_self (by omega), List.getElem?_set_ne (by omega), List.getElem?_set_ne (by omega), List.getElem?_set_self (by simp; omega)]
  exact ⟨rfl, rfl⟩
 ·by_cases e2 : q = n - 1 - i
  ·subst e2
   rw [if_pos (by omega), List.getElem?_set_ne (by omega), List.getElem?_set_self (by simp; omega), List.getElem?_set_self (by simp; omega), show n - 1 - (n - 1 - i) = i by omega]
   exact ⟨rfl, rfl⟩
  ·have := h q hq
   have hif : (q < i + 1 ∨ n - 1 - (i + 1) < q) ↔ (q < i ∨ n - 1 - i < q) := by omega
   simp only [hif]
   rw [List.getElem?_set_ne (by omega), List.getElem?_set_ne (by omega), List.getElem?_set_ne (by omega), List.getElem?_set_ne (by omega), List.getElem?_set_ne (by omega), List.getElem?_set_ne (by omega), List.getElem?_set_ne (by omega), List.getElem?_set_ne (by omega)]
   exact this
theorem RevTo.at_ {cs : List Value} {o n i q : Nat} {xs : List (Int × Int)} (h : RevTo cs o n i xs) (h1 : i ≤ q) (h2 : q ≤ n - 1 - i) (hq : q < n) : cs[o + q * 2]? = some (.int .i64 (px xs q)) ∧ cs[o + q * 2 + 1]? = some (.int .i64 (py xs q)) := by
 have := h q hq
 rwa [if_neg (by omega)] at this
/-- One ring is written. -/
theorem OwnGd.put {lo hi : Nat} {w w' : World} {b o T : Nat} {cs : Array Value} {pl : Nat → Option Addr × Nat} {n k : Nat} {rs : List Ring_} (ys : Ring_) (h : OwnGd lo hi w b o T cs pl n rs) (hl : rs.length = n) (hk : k < n) (hy : ys.length = (rg rs k).length)
  (hw : Wrs (fun q => 0 < (rg rs k).length ∧ q = ablk (pl k).1 ∧ span lo hi q) w w') (hp : OwnP lo hi w' (pl k).1 (rg rs k).length ys) : OwnGd lo hi w' b o T cs pl n (rs.set k ys) := by
 have hse : ∀ j, j < n → rg (rs.set k ys) j = if j = k then ys else rg rs j := fun j hj => by
  simp only [rg, List.getD_eq_getElem?_getD]
  by_cases e : j = k
  ·subst e; rw [if_pos rfl, List.getElem?_set_self (by omega)]; rfl
  ·rw [if_neg e, List.getElem?_set_ne (fun e' => e e'.symm)]
 have hlen : ∀ j, j < n → (rg (rs.set k ys) j).length = (rg rs j).length := fun j hj => by
  rw [hse j hj]
  by_cases e : j = k
  ·subst e; rw [if_pos rfl, hy]
  ·rw [if_neg e]
 refine ⟨h.low, h.high, (hw.block b (lt_of_some h.blk) fun hq => ?_).trans h.blk, fun j hj => ?_, fun j hj => ?_, fun j hj => ?_, fun i j hi hj hij => ?_⟩
 ·exact h.off k hk hq.1 hq.2.1.symm
 ·rw [hlen _ hj]; exact h.cell j hj
 ·rw [hse j hj]
  by_cases hjk : j = k
  ·subst hjk
   rw [if_pos rfl, hy]
   exact hp
  ·rw [if_neg hjk]
   by_cases h0 : 0 < (rg rs j).length
   ·refine (h.pts j hj).agree fun p hp' h1 h2 => ?_
    obtain ⟨b', o', T', cs', e', _, _, hh', _⟩ := (h.pts j hj).2 h0
    rw [e'] at hp'
    injection hp' with hp'
    subst hp'
    refine hw.block b' (lt_of_some hh') fun hq => ?_
    refine h.apart j k hj hk hjk h0 hq.1 ?_
    rw [e']
    exact hq.2.1
   ·exact ⟨(h.pts j hj).1, fun h1 => absurd h1 h0⟩
 ·rw [hlen _ hj]; exact h.off j hj
 ·rw [hlen _ hi, hlen _ hj]; exact h.apart i j hi hj hij
end Go.Proofs.YtjhaakollekjeaaDoor

namespace Go.Proofs.YtjhaakollekjeaaDoor
open Go Go.RowKit
set_option linter.unusedVariables false
set_option linter.unusedSimpArgs false
set_option maxRecDepth 100000
set_option maxHeartbeats 4000000
set_option linter.unusedVariables false
set_option linter.unusedSimpArgs false

/-- The square of a distance; how far along. -/
def dsq (a b : Pn) : Int := (b.1 - a.1) * (b.1 - a.1) + (b.2 - a.2) * (b.2 - a.2)
def alg (a b p : Pn) : Int := (p.1 - a.1) * (b.1 - a.1) + (p.2 - a.2) * (b.2 - a.2)
def nearS (a b p : Pn) (r : Int) : Bool :=
 if dsq a p ≤ r * r ∨ dsq b p ≤ r * r then true else if alg a b p ≤ 0 ∨ dsq a b ≤ alg a b p then false else decide (tn a b p * tn a b p ≤ r * r * dsq a b)
/-! ### Sizes -/
/-! ### Products of two words -/
/-! ### The reference's words of 31 bits -/
/-! ### Near, walked -/
/-! ### Which points stay -/
/-- How far a point of a path is off. -/
def offP (a b p : Pn) : Int := if a = b then dsq a p else max (tn a b p) (-tn a b p)
/-- The farthest of the first k points behind the first one that are not near: its index, how far. -/
def scanT (a b : Pn) (r : Int) (xs : List (Int × Int)) : Nat → Int × Int
 | 0 => (-1, -1)
 | k + 1 => if nearS a b (pt xs (k + 1)) r = true then scanT a b r xs k else if (scanT a b r xs k).2 < offP a b (pt xs (k + 1)) then (((k + 1 : Nat) : Int), offP a b (pt xs (k + 1))) else scanT a b r xs k
def far (r : Int) (xs : List (Int × Int)) : Int := (scanT (pt xs 0) (pt xs (xs.length - 1)) r xs (xs.length - 2)).1
/-! ### Pieces of a path -/
/-- Points that are valid, at most 402 of them. -/
def okPath (xs : List (Int × Int)) : Prop := xs.length ≤ 402 ∧ ∀ p ∈ xs, bd2 p
theorem okPath.at_ {xs : List (Int × Int)} (h : okPath xs) {k : Nat} (hk : k < xs.length) : bd2 (pt xs k) := by
 have := h.2 xs[k] (List.getElem_mem hk)
 rwa [at_p hk] at this
theorem okPath.take {xs : List (Int × Int)} (h : okPath xs) (k : Nat) : okPath (xs.take k) := ⟨by rw [List.length_take]; have := h.1; omega, fun p hp => h.2 p (List.mem_of_mem_take hp)⟩
theorem okPath.drop {xs : List (Int × Int)} (h : okPath xs) (k : Nat) : okPath (xs.drop k) := ⟨by rw [List.length_drop]; have := h.1; omega, fun p hp => h.2 p (List.mem_of_mem_drop hp)⟩
section
variable {n : Nat} {env : List (Nat × Value)} {w0 : Bs} {Rs : List Res} {K : Act → World → Prop}
/-- A slice with its elements given, as a row. -/
theorem at_rowM (k s m : Nat) (hX : w0.X = []) {b U : Nat} {cs : List Value} (hk : Rs[k]? = some (.cel b U cs)) (hl : cs.length = m * s) (hm : m ≤ maxLen) (h : At n env w0 (Rs.set k (.row w0.N U s (.slice (some ⟨b, 0, none⟩) m m) m cs)) K) : At n env w0 Rs K := fun a w hf hs => by
 have hlow : w0.N ≤ b := ((hs.all k _ hk).2.1 b rfl).elim id (fun h => by rw [hX] at h; cases h)
 refine h a w hf (hs.chg hk (fun hP => ?_) (fun c hc => ?_) rfl)
 ·exact ⟨hl, .inr ⟨b, m, cs.toArray, rfl, hlow, hP, Nat.le_refl _, hm, by simp [hl], by simp [← hl]⟩⟩
 ·have : some b = some c := hc
  injection this with this
  exact this.symm
end
end Go.Proofs.YtjhaakollekjeaaDoor

namespace Go.Proofs.YtjhaakollekjeaaDoor
open Go Go.RowKit
set_option linter.unusedVariables false
set_option linter.unusedSimpArgs false

/-! ### Ascending lists -/
/-- By Y, then X. -/
def ltY (p q : Pn) : Prop := p.2 < q.2 ∨ (p.2 = q.2 ∧ p.1 < q.1)
instance (p q : Pn) : Decidable (ltY p q) := by unfold ltY; exact inferInstance
/-! ### Crossings -/
section
variable {P : Program} {n : Nat} {env : List (Nat × Value)} {w0 : Bs} {Rs : List Res} {ops : Array Oper} {Q : Exit → Act → World → Prop} {K : Act → World → Prop} {o : Oper}
end
/-! ### The points of edges, in the order in which they are found -/
end Go.Proofs.YtjhaakollekjeaaDoor

namespace Go.Proofs.YtjhaakollekjeaaDoor
open Go Go.Shelf Go.RowKit Go.Lib Go.Sort
set_option linter.unusedVariables false
set_option linter.unusedSimpArgs false
end Go.Proofs.YtjhaakollekjeaaDoor

namespace Go.Proofs.YtjhaakollekjeaaDoor
open Go Go.RowKit
set_option linter.unusedVariables false
set_option linter.unusedSimpArgs false
section
variable {P : Program} {n : Nat} {env : List (Nat × Value)} {w0 : Bs} {Rs : List Res} {o : Oper} {Q : Exit → Act → World → Prop} {K : Act → World → Prop}
theorem row_adr {w : World} {B T s m : Nat} {xs : List Value} {x : Option Addr × Nat} (h : (rowR B T s m xs x).P w) (h0 : 0 < m) : x.1 = some ⟨ablk x.1, 0, none⟩ := by
 have h : w.ownsRow B T s (.slice x.1 m x.2) m xs := h
 rcases h.2 with ⟨_, e⟩ | ⟨g, cap, cur, e, _⟩
 ·omega
 ·injection e with e1
  rw [e1]
  rfl
theorem row_cell {w : World} {B T s m i : Nat} {xs : List Value} {x : Option Addr × Nat} {v : Value} (h : (rowR B T s m xs x).P w) (hv : xs[i]? = some v) : w.cell? ⟨ablk x.1, i, none⟩ = some v := by
 have h : w.ownsRow B T s (.slice x.1 m x.2) m xs := h
 have hi := (List.getElem?_eq_some_iff.1 hv).1
 rcases h.2 with ⟨_, e⟩ | ⟨g, cap, cur, e, hb, hg, hcap, hmax, hsz, htk⟩
 ·have := h.1
  rw [e, Nat.zero_mul] at this
  omega
 ·injection e with e1
  rw [e1, ablk, cell_of_row w g i cur T (0, 0) hg]
  have h1 := h.1
  rw [← htk, List.getElem?_take, if_pos (by omega)] at hv
  simpa using hv
theorem qt_indexR {T U : TypeId} {x y : Operand} {k B m j s : Nat} {xs : List Value} {r : Option Addr × Nat} (hk : Rs[k]? = some (rowR B U s m xs r)) (ho : o.op = .indexAddr T x y) (hx : ev env x = some (.slice r.1 m r.2)) (hy : ev env y = some (.int .i64 (j : Int))) (hT : TyL P T U s) (hj : j < m) :
  Qt P o n env w0 Rs (.pointer (some ⟨ablk r.1, 0 + j * s, none⟩)) := fun a w hf hs => by
 have e := row_adr (hs.all k _ hk).1 (by omega)
 rw [e] at hx
 exact qt_index (j := j) ho hx hy hT hj a w hf hs
end
end Go.Proofs.YtjhaakollekjeaaDoor

namespace Go.Proofs.YtjhaakollekjeaaDoor
open Go Go.RowKit
set_option linter.unusedVariables false
set_option linter.unusedSimpArgs false

/-! ### Rows of numbers -/
def nth (xs : List Int) (k : Nat) : Int := xs.getD k 0
/-- The slice with address A and length n reads as the numbers xs. -/
def Nums (w : World) (A : Option Addr) (n : Nat) (xs : List Int) : Prop := xs.length = n ∧ (0 < n → ∃ b o, A = some ⟨b, o, none⟩ ∧ b < w.heap.size ∧ ∀ k, k < n → w.cell? ⟨b, o + k, none⟩ = some (.int .i64 (nth xs k)))
theorem Nums.over {w w' : World} {A : Option Addr} {n : Nat} {xs : List Int} (h : Nums w A n xs) (hb : Over w w') : Nums w' A n xs := by
 refine ⟨h.1, fun hn => ?_⟩
 obtain ⟨b, o, hA, hlt, hc⟩ := h.2 hn
 exact ⟨b, o, hA, Nat.lt_of_lt_of_le hlt hb.size, fun k hk => ((ocell hb).1 b _ hlt).trans (hc k hk)⟩
end Go.Proofs.YtjhaakollekjeaaDoor

namespace Go.Proofs.YtjhaakollekjeaaDoor
open Go Go.RowKit
set_option linter.unusedVariables false
set_option linter.unusedSimpArgs false
set_option maxRecDepth 100000
set_option maxHeartbeats 4000000
set_option linter.unusedVariables false
set_option linter.unusedSimpArgs false
section
variable {P : Program} {n : Nat} {env : List (Nat × Value)} {w0 : Bs} {Rs : List Res} {o : Oper}
variable {x y : Operand} {T T' : TypeId} {p q : Int}
theorem qt_addU (ho : o.op = .binOp .add T x y T') (hx : ev env x = some (.int .u64 p)) (hy : ev env y = some (.int .u64 q)) : Qt P o n env w0 Rs (.int .u64 (IntKind.u64.wrap (p + q))) :=
 qt_of fun a w hf _ => by unfold execOp; simp only [ho, hf.ev hx, hf.ev hy]; simp [go_sem]
theorem qt_convI {k k' : IntKind} {d : TypeDesc} (ho : o.op = .convert T T' x) (hs : P.underlying T = some d) (hd : P.underlying T' = some (.int k')) (hx : ev env x = some (.int k p)) (hw : k'.wrap p = p) : Qt P o n env w0 Rs (.int k' p) :=
 qt_of fun a w hf _ => by
  have h1 : (convert T T' (.int k p)).run P w = .ok (.int k' p) w := by
   unfold convert
   simp only [Sem.run_bind, run_underlying hs, run_underlying hd, Result.andThen_ok]
   simp [Conv.intToInt, hw]
  unfold execOp; simp only [ho, hf.ev hx]; simp [go_sem, h1]
end
theorem u64_in (a : Int) (h : 0 ≤ a) (h2 : a < 18446744073709551616) : IntKind.u64.wrap a = a := by simp [IntKind.wrap, IntKind.bits, IntKind.signed]; omega
/-- Bytes to read. -/
def Byts (w : World) (A : Option Addr) (n : Nat) (zs : List Int) : Prop := zs.length = n ∧ (∀ z ∈ zs, 0 ≤ z ∧ z ≤ 255) ∧ (0 < n → ∃ b o, A = some ⟨b, o, none⟩ ∧ b < w.heap.size ∧ ∀ k, k < n → w.cell? ⟨b, o + k, none⟩ = some (.int .u8 (nth zs k)))
theorem Byts.agree {w w' : World} {A : Option Addr} {n : Nat} {zs : List Int} (h : Byts w A n zs) (hz : w.heap.size ≤ w'.heap.size) (ha : ∀ p, A = some p → w'.heap[p.block]? = w.heap[p.block]?) : Byts w' A n zs := by
 refine ⟨h.1, h.2.1, fun hn => ?_⟩
 obtain ⟨b, o, rfl, hlt, hc⟩ := h.2.2 hn
 refine ⟨b, o, rfl, by omega, fun k hk => ?_⟩
 rw [← hc k hk]
 have := ha _ rfl
 simp only [World.cell?, this]
theorem Byts.over {w w' : World} {A : Option Addr} {n : Nat} {zs : List Int} (h : Byts w A n zs) (hb : Over w w') : Byts w' A n zs := by
 refine ⟨h.1, h.2.1, fun hn => ?_⟩
 obtain ⟨b, o, hA, hlt, hc⟩ := h.2.2 hn
 exact ⟨b, o, hA, Nat.lt_of_lt_of_le hlt hb.size, fun k hk => ((ocell hb).1 b _ hlt).trans (hc k hk)⟩
end Go.Proofs.YtjhaakollekjeaaDoor
