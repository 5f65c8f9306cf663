/- The calculus of walks: what a law makes of a region. -/
import Derived.Test.YtnalgllmdpcjcaaSame
import Derived.Test.YtnalgllmdpcjcaaDat
namespace Go.Proofs.Ytnalgllmdpcjcaa
open Go Go.RowKit
set_option linter.unusedVariables false

theorem cell_congr {w w' : World} {b o : Nat} (h : w'.heap[b]? = w.heap[b]?) : w'.cell? ⟨b, o, none⟩ = w.cell? ⟨b, o, none⟩ := by
  simp only [World.cell?, h]
theorem Pts.agree {w w' : World} {A : Option Addr} {n : Nat} {xs : List (Int × Int)} (h : Pts w A n xs) (hz : w.heap.size ≤ w'.heap.size) (ha : ∀ p, A = some p → w'.heap[p.block]? = w.heap[p.block]?) : Pts w' A n xs := by
  refine ⟨h.1, fun hn => ?_⟩
  obtain ⟨b, o, rfl, hlt, hc⟩ := h.2 hn
  have hb := ha _ rfl
  refine ⟨b, o, rfl, by omega, fun k hk => ?_⟩
  rw [cell_congr hb, cell_congr hb]
  exact hc k hk
theorem OwnR.agree {B : Nat} {w w' : World} {g n : Nat} {rs : List Ring_} (h : OwnR B w g n rs) (hz : w.heap.size ≤ w'.heap.size) (ha : ∀ b, B ≤ b → b < w.heap.size → w'.heap[b]? = w.heap[b]?) : OwnR B w' g n rs := by
  have hB := h.1
  have hg := ha g h.1 h.2.2.1.lt
  refine ⟨h.1, h.2.1, ?_, fun k hk => ?_⟩
  · obtain ⟨cs, hs, hh⟩ := h.2.2.1
    exact ⟨cs, hs, hg.trans hh⟩
  · obtain ⟨gk, h1, h2, h3, h4⟩ := h.2.2.2 k hk
    have hgk := ha gk h1 h4.1.lt
    refine ⟨gk, h1, h2, (cell_congr hg).trans h3, ?_, h4.2.agree hz fun p hp => ?_⟩
    · obtain ⟨cs, hs, hh⟩ := h4.1
      exact ⟨cs, hs, hgk.trans hh⟩
    · injection hp with hp
      subst hp
      exact hgk
/-- Something that lies in the blocks from lo up to hi. -/
def Res.clo (lo hi : Nat) (P0 : World → Prop) : Res where
  F b := lo ≤ b ∧ b < hi
  P w := hi ≤ w.heap.size ∧ ∀ w', hi ≤ w'.heap.size → (∀ b, lo ≤ b → b < hi → w'.heap[b]? = w.heap[b]?) → P0 w'
  low w h b hb := Nat.lt_of_lt_of_le hb.2 h.1
  B := 0
  dep w w' h hz hb := ⟨Nat.le_trans h.1 hz, fun w'' h2 h3 => h.2 w'' h2 fun b h4 h5 => (h3 b h4 h5).trans (hb b (Nat.lt_of_lt_of_le h5 h.1) (.inr ⟨h4, h5⟩))⟩
abbrev regR (n : Nat) (rs : List Ring_) (x : Nat × Nat × Nat) : Res := .clo x.2.1 x.2.2 (fun w => OwnR x.2.1 w x.1 n rs)
abbrev regX (n : Nat) (x : Nat × Nat × Nat) : Value := regV (some ⟨x.1, 0, none⟩) n n
theorem newReg {P : Program} {f : FuncId} {args : Array Value} {w1 : World} {n : Nat} {rs : List Ring_} (h : Calls P f args w1 fun e w' => ∃ g, e = .returned (regV (some ⟨g, 0, none⟩) n n) ∧ OwnR w1.heap.size w' g n rs ∧ Over w1 w') :
    Calls P f args w1 fun e w' => ∃ x, e = .returned (regX n x) ∧ Over w1 w' ∧ (regR n rs x).P w' ∧ (∀ b, (regR n rs x).F b → w1.heap.size ≤ b) ∧ (regR n rs x).B = 0 ∧ True := by
  refine h.mono ?_
  rintro e w' ⟨g, rfl, ho, hO⟩
  exact ⟨(g, w1.heap.size, w'.heap.size), rfl, hO, ⟨Nat.le_refl _, fun w'' h2 h3 => ho.agree h2 h3⟩, fun b hb => hb.1, rfl, trivial⟩
section
variable {w : World} {w0 : Bs} {Rs : List Res}
theorem regRings {k n : Nat} {x : Nat × Nat × Nat} {rs : List Ring_} (hk : Rs[k]? = some (regR n rs x)) (hn : rs.length = n) (ht : (total rs : Int) ≤ 1048576) (w : World) (hs : St w0 Rs w) : Rings w (some ⟨x.1, 0, none⟩) n rs := by
  have h := (hs.all k _ hk).1
  exact (h.2 w h.1 fun _ _ _ => rfl).rings fun k hk => by have := rg_le_total rs (k := k) (by rw [hn]; exact hk); omega
end
end Go.Proofs.Ytnalgllmdpcjcaa
