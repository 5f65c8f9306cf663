import Derived.Test.YtjhaakollekjeaaR17
import Derived.Lib.SliceRun
import Derived.Test.YtjhaakollekjeaaR15
import Derived.Test.YtjhaakollekjeaaR16
import Derived.Still
import Derived.ArgAppend
namespace Go.Proofs.Ytjhaakollekjeaa
open Go Go.RowKit
set_option linter.unusedVariables false
set_option linter.unusedSimpArgs false
set_option maxRecDepth 100000
set_option maxHeartbeats 4000000
set_option linter.unusedVariables false

/-- The first k points of a row of cells are marks. -/
def MarkTo (cs : List Value) (o : Nat) (m : Int) (k : Nat) : Prop := ∀ j, j < k → cs[o + j * 2]? = some (.int .i64 (m + 2 * j)) ∧ cs[o + j * 2 + 1]? = some (.int .i64 (m + 2 * j + 1))
theorem MarkTo.step {cs : List Value} {o : Nat} {m : Int} {k : Nat} (h : MarkTo cs o m k) (hl : o + k * 2 + 1 < cs.length) :
  MarkTo (splice (splice cs (o + k * 2 + 0) [.int .i64 (m + 2 * k)]) (o + k * 2 + 1) [.int .i64 (m + 2 * k + 1)]) o m (k + 1) := by
 intro j hj
 simp only [splice, Nat.add_zero]
 by_cases hjk : j = k
 ·subst hjk
  rw [List.getElem?_set_ne (by omega), List.getElem?_set_self (by omega), List.getElem?_set_self (by simpa using hl)]
  exact ⟨rfl, rfl⟩
 ·have := h j (by omega)
  rw [List.getElem?_set_ne (by omega), List.getElem?_set_ne (by omega), List.getElem?_set_ne (by omega), List.getElem?_set_ne (by omega)]
  exact this

/-- Only the blocks from lo on, below hi. -/
def span (lo hi : Nat) (b : Nat) : Prop := lo ≤ b ∧ b < hi
/-! ### The laws' own words -/
section
variable {P : Program} {n : Nat} {env : List (Nat × Value)} {w0 : Bs} {Rs : List Res} {ops : Array Oper} {Q : Exit → Act → World → Prop} {K : Act → World → Prop} {o : Oper}
end

section
variable {n : Nat} {env : List (Nat × Value)} {w0 : Bs} {Rs : List Res} {K : Act → World → Prop}
end
end Go.Proofs.Ytjhaakollekjeaa

namespace Go.Proofs.Ytjhaakollekjeaa
open Go Go.RowKit
set_option linter.unusedVariables false

/-- A region that is not too large. -/
def smallR (rs : List Ring_) : Prop := rs.length ≤ 2000 ∧ ∀ j, j < rs.length → (rg rs j).length ≤ 500
theorem smallR_sum {rs : List Ring_} (h : smallR rs) : ∀ k, k ≤ rs.length → sumTo rs k ≤ 500 * k
 | 0, _ => by simp [sumTo]
 | k + 1, hk => by
  have := smallR_sum h k (by omega)
  have := h.2 k (by omega)
  simp only [sumTo]
  omega
theorem smallR.total {rs : List Ring_} (h : smallR rs) : (Go.Proofs.Ytjhaakollekjeaa.total rs : Int) ≤ 1048576 := by
 have := smallR_sum h rs.length (Nat.le_refl _)
 have := h.1
 unfold Go.Proofs.Ytjhaakollekjeaa.total
 omega
theorem smallR.nil : smallR [] := ⟨by simp, fun j hj => absurd hj (by simp)⟩
theorem smallR.of {rs : List Ring_} (h : regionB rs = true) : smallR rs := ⟨by have := reg_len h; omega, fun j hj => by have := pos_of_ring (regRing h hj); omega⟩
section
variable {w0 : Bs} {Rs : List Res}
end
/-! ### Rings as what a call has made -/
end Go.Proofs.Ytjhaakollekjeaa

namespace Go.Proofs.Ytjhaakollekjeaa
open Go Go.RowKit
set_option linter.unusedVariables false
set_option linter.unusedSimpArgs false

section
variable {w : World} {w0 : Bs} {Rs : List Res}
end

end Go.Proofs.Ytjhaakollekjeaa

namespace Go.Proofs.Ytjhaakollekjeaa
open Go Go.RowKit
set_option linter.unusedVariables false

theorem rowSome {w : World} {w0 : Bs} {Rs : List Res} {k B T s n : Nat} {x : Option Addr × Nat} {xs : List Value} (hk : Rs[k]? = some (rowR B T s n xs x)) (hs : St w0 Rs w) (hn : 0 < n) : ∃ g, x.1 = some ⟨g, 0, none⟩ := by
 have h : w.ownsRow B T s (.slice x.1 n x.2) n xs := (hs.all k _ hk).1
 rcases h.2 with ⟨_, e⟩ | ⟨g, cap, cur, e, _⟩
 ·omega
 ·injection e with e1
  exact ⟨g, e1⟩
section
variable {P : Program} {n : Nat} {w0 : Bs} {Rs : List Res} {ops : Array Oper} {Q : Exit → Act → World → Prop} {K : Act → World → Prop}
/-- The operation is carried out; it is not. -/
def Wants (ops : Array Oper) (env : List (Nat × Value)) (o : Oper) : Prop := o.guard = none ∨ ∃ j c oj dj, o.guard = some (j, c) ∧ ops[j]? = some oj ∧ oj.dst = some dj ∧ look env dj = some (.bool c)
def Leaves (ops : Array Oper) (env : List (Nat × Value)) (o : Oper) : Prop := ∃ j c oj dj, o.guard = some (j, c) ∧ ops[j]? = some oj ∧ oj.dst = some dj ∧ (look env dj = some undef ∨ ∃ b, look env dj = some (.bool b) ∧ b ≠ c)
theorem Wants.wanted {env : List (Nat × Value)} {o : Oper} {a : Act} (h : Wants ops env o) (hf : Frm n env a) : Region.wanted o (yielded ops a.tmps) = true := by
 rcases h with h | ⟨j, c, oj, dj, hg, hj, hdj, hb⟩
 ·simp [Region.wanted, h]
 ·simp [Region.wanted, hg, yields hf hj hdj hb]
theorem Leaves.wanted {env : List (Nat × Value)} {o : Oper} {a : Act} (h : Leaves ops env o) (hf : Frm n env a) : Region.wanted o (yielded ops a.tmps) = false := by
 obtain ⟨j, c, oj, dj, hg, hj, hdj, hb | ⟨b, hb, hne⟩⟩ := h
 ·simp [Region.wanted, hg, yields_not hf hj hdj hb]
 ·simp [Region.wanted, hg, yields hf hj hdj hb, hne]
/-! ### The check, made cheap -/
theorem Frm.congr {env env' : List (Nat × Value)} {a : Act} (h : Frm n env a) (he : ∀ t, look env' t = look env t) : Frm n env' a := ⟨h.size, fun t v hv => h.get t v (by rw [← he]; exact hv), h.defers⟩
end
section
variable {w0 : Bs} {Rs : List Res}
end
section
variable {w : World} {Rs : List Res}
end
end Go.Proofs.Ytjhaakollekjeaa

namespace Go.Proofs.Ytjhaakollekjeaa
open Go Go.RowKit
set_option linter.unusedVariables false

section
variable {P : Program} {n : Nat} {env : List (Nat × Value)} {w0 : Bs} {Rs : List Res} {ops : Array Oper} {Q : Exit → Act → World → Prop} {K : Act → World → Prop} {o : Oper}
end
/-! ### A point taken out -/
def pt (xs : List (Int × Int)) (k : Nat) : Pn := (px xs k, py xs k)
/-- Points that are valid, at most 401 of them. -/
def okPts (xs : List (Int × Int)) : Prop := xs.length ≤ 401 ∧ ∀ p ∈ xs, bd2 p
theorem okPts.at_ {xs : List (Int × Int)} (h : okPts xs) {k : Nat} (hk : k < xs.length) : bd2 (pt xs k) := by
 have := h.2 xs[k] (List.getElem_mem hk)
 rwa [at_p hk] at this
theorem okPts.of {xs : List (Int × Int)} (h : ringB xs = true) : okPts xs := by
 have h1 := pos_of_ring h
 refine ⟨by omega, fun p hp => ?_⟩
 simp only [ringB, Bool.and_eq_true, allOk, List.all_eq_true] at h
 have := h.2 p hp
 simp [okB, inB] at this
 exact ⟨⟨by omega, by omega⟩, by omega, by omega⟩
end Go.Proofs.Ytjhaakollekjeaa

namespace Go.Proofs.Ytjhaakollekjeaa
open Go Go.RowKit
set_option linter.unusedVariables false
set_option linter.unusedSimpArgs false
set_option maxRecDepth 100000
set_option maxHeartbeats 4000000
set_option linter.unusedVariables false

/-- The cells of points of which the first i and the last i are exchanged. -/
def RevTo (cs : List Value) (o n i : Nat) (xs : List (Int × Int)) : Prop := ∀ q, q < n → cs[o + q * 2]? = some (.int .i64 (px xs (if q < i ∨ n - 1 - i < q then n - 1 - q else q))) ∧ cs[o + q * 2 + 1]? = some (.int .i64 (py xs (if q < i ∨ n - 1 - i < q then n - 1 - q else q)))
theorem RevTo.step {cs : List Value} {o n i : Nat} {xs : List (Int × Int)} (h : RevTo cs o n i xs) (hi : 2 * i + 1 < n) (hl : ∀ q, q < n → o + q * 2 + 1 < cs.length) :
  RevTo (splice (splice cs (o + i * 2) [.int .i64 (px xs (n - 1 - i)), .int .i64 (py xs (n - 1 - i))]) (o + (n - 1 - i) * 2) [.int .i64 (px xs i), .int .i64 (py xs i)]) o n (i + 1) xs := by
 intro q hq
 have h1 := hl i (by omega)
 have h2 := hl (n - 1 - i) (by omega)
 simp only [splice]
 by_cases e1 : q = i
 ·subst e1
  rw [if_pos (by omega), List.getElem?_set_ne (by omega), List.getElem?_set_ne (by omega), List.getElem?_set_ne (by omega), List.getElem?_set_self (by omega), List.getElem?_set_ne (by omega), List.getElem?_set_ne (by omega), List.getElem?_set_self (by simp; omega)]
  exact ⟨rfl, rfl⟩
 ·by_cases e2 : q = n - 1 - i
  ·subst e2
   rw [if_pos (by omega), List.getElem?_set_ne (by omega), List.getElem?_set_self (by simp; omega), List.getElem?_set_self (by simp; omega), show n - 1 - (n - 1 - i) = i by omega]
   exact ⟨rfl, rfl⟩
  ·have := h q hq
   have hif : (q < i + 1 ∨ n - 1 - (i + 1) < q) ↔ (q < i ∨ n - 1 - i < q) := by omega
   simp only [hif]
   rw [List.getElem?_set_ne (by omega), List.getElem?_set_ne (by omega), List.getElem?_set_ne (by omega), List.getElem?_set_ne (by omega), List.getElem?_set_ne (by omega), List.getElem?_set_ne (by omega), List.getElem?_set_ne (by omega), List.getElem?_set_ne (by omega)]
   exact this
theorem RevTo.at_ {cs : List Value} {o n i q : Nat} {xs : List (Int × Int)} (h : RevTo cs o n i xs) (h1 : i ≤ q) (h2 : q ≤ n - 1 - i) (hq : q < n) : cs[o + q * 2]? = some (.int .i64 (px xs q)) ∧ cs[o + q * 2 + 1]? = some (.int .i64 (py xs q)) := by
 have := h q hq
 rwa [if_neg (by omega)] at this
/-- One ring is written. -/
theorem OwnGd.put {lo hi : Nat} {w w' : World} {b o T : Nat} {cs : Array Value} {pl : Nat → Option Addr × Nat} {n k : Nat} {rs : List Ring_} (ys : Ring_) (h : OwnGd lo hi w b o T cs pl n rs) (hl : rs.length = n) (hk : k < n) (hy : ys.length = (rg rs k).length)
  (hw : Wrs (fun q => 0 < (rg rs k).length ∧ q = ablk (pl k).1 ∧ span lo hi q) w w') (hp : OwnP lo hi w' (pl k).1 (rg rs k).length ys) : OwnGd lo hi w' b o T cs pl n (rs.set k ys) := by
 have hse : ∀ j, j < n → rg (rs.set k ys) j = if j = k then ys else rg rs j := fun j hj => by
  simp only [rg, List.getD_eq_getElem?_getD]
  by_cases e : j = k
  ·subst e; rw [if_pos rfl, List.getElem?_set_self (by omega)]; rfl
  ·rw [if_neg e, List.getElem?_set_ne (fun e' => e e'.symm)]
 have hlen : ∀ j, j < n → (rg (rs.set k ys) j).length = (rg rs j).length := fun j hj => by
  rw [hse j hj]
  by_cases e : j = k
  ·subst e; rw [if_pos rfl, hy]
  ·rw [if_neg e]
 refine ⟨h.low, h.high, (hw.block b (lt_of_some h.blk) fun hq => ?_).trans h.blk, fun j hj => ?_, fun j hj => ?_, fun j hj => ?_, fun i j hi hj hij => ?_⟩
 ·exact h.off k hk hq.1 hq.2.1.symm
 ·rw [hlen _ hj]; exact h.cell j hj
 ·rw [hse j hj]
  by_cases hjk : j = k
  ·subst hjk
   rw [if_pos rfl, hy]
   exact hp
  ·rw [if_neg hjk]
   by_cases h0 : 0 < (rg rs j).length
   ·refine (h.pts j hj).agree fun p hp' h1 h2 => ?_
    obtain ⟨b', o', T', cs', e', _, _, hh', _⟩ := (h.pts j hj).2 h0
    rw [e'] at hp'
    injection hp' with hp'
    subst hp'
    refine hw.block b' (lt_of_some hh') fun hq => ?_
    refine h.apart j k hj hk hjk h0 hq.1 ?_
    rw [e']
    exact hq.2.1
   ·exact ⟨(h.pts j hj).1, fun h1 => absurd h1 h0⟩
 ·rw [hlen _ hj]; exact h.off j hj
 ·rw [hlen _ hi, hlen _ hj]; exact h.apart i j hi hj hij
end Go.Proofs.Ytjhaakollekjeaa
