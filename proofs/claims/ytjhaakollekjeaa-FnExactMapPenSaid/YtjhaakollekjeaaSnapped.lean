/- Snapped regions; drawn regions of quiet operations. -/
import Derived.Test.YtjhaakollekjeaaMeet
import Derived.Test.YtjhaakollekjeaaLawKit
import Derived.Test.YtjhaakollekjeaaWind
import Derived.Test.YtjhaakollekjeaaReg3
import Derived.Still
namespace Go.Proofs.Ytjhaakollekjeaa
open Go Go.RowKit
set_option linter.unusedVariables false

theorem slicedH (b o h cap s : Nat) : sliced (some ⟨b, o, none⟩) 0 h cap s = .slice (some ⟨b, o, none⟩) h cap := by
 unfold sliced
 simp [add_none]
theorem rowSome {w : World} {w0 : Bs} {Rs : List Res} {k B T s n : Nat} {x : Option Addr × Nat} {xs : List Value} (hk : Rs[k]? = some (rowR B T s n xs x)) (hs : St w0 Rs w) (hn : 0 < n) : ∃ g, x.1 = some ⟨g, 0, none⟩ := by
 have h : w.ownsRow B T s (.slice x.1 n x.2) n xs := (hs.all k _ hk).1
 rcases h.2 with ⟨_, e⟩ | ⟨g, cap, cur, e, _⟩
 ·omega
 ·injection e with e1
  exact ⟨g, e1⟩
section
variable {P : Program} {n : Nat} {w0 : Bs} {Rs : List Res} {ops : Array Oper} {Q : Exit → Act → World → Prop} {K : Act → World → Prop}
/-- The operation is carried out; it is not. -/
def Wants (ops : Array Oper) (env : List (Nat × Value)) (o : Oper) : Prop := o.guard = none ∨ ∃ j c oj dj, o.guard = some (j, c) ∧ ops[j]? = some oj ∧ oj.dst = some dj ∧ look env dj = some (.bool c)
def Leaves (ops : Array Oper) (env : List (Nat × Value)) (o : Oper) : Prop := ∃ j c oj dj, o.guard = some (j, c) ∧ ops[j]? = some oj ∧ oj.dst = some dj ∧ (look env dj = some undef ∨ ∃ b, look env dj = some (.bool b) ∧ b ≠ c)
theorem Wants.wanted {env : List (Nat × Value)} {o : Oper} {a : Act} (h : Wants ops env o) (hf : Frm n env a) : Region.wanted o (yielded ops a.tmps) = true := by
 rcases h with h | ⟨j, c, oj, dj, hg, hj, hdj, hb⟩
 ·simp [Region.wanted, h]
 ·simp [Region.wanted, hg, yields hf hj hdj hb]
theorem Leaves.wanted {env : List (Nat × Value)} {o : Oper} {a : Act} (h : Leaves ops env o) (hf : Frm n env a) : Region.wanted o (yielded ops a.tmps) = false := by
 obtain ⟨j, c, oj, dj, hg, hj, hdj, hb | ⟨b, hb, hne⟩⟩ := h
 ·simp [Region.wanted, hg, yields_not hf hj hdj hb]
 ·simp [Region.wanted, hg, yields hf hj hdj hb, hne]
/-! ### The check, made cheap -/
theorem Frm.congr {env env' : List (Nat × Value)} {a : Act} (h : Frm n env a) (he : ∀ t, look env' t = look env t) : Frm n env' a := ⟨h.size, fun t v hv => h.get t v (by rw [← he]; exact hv), h.defers⟩
end
section
variable {w0 : Bs} {Rs : List Res}
end
section
variable {w : World} {Rs : List Res}
end
end Go.Proofs.Ytjhaakollekjeaa
