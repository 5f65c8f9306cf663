/- A law for a region that draws its order and whose last operation stands behind all others: it alone may leave the class of worlds. -/
import Derived.Test.YtakdjgldcpompaaGreatReg
namespace Go.Proofs.YtakdjgldcpompaaGreat
open Go Go.RowKit
set_option linter.unusedVariables false
set_option linter.unusedSimpArgs false

section
variable {P : Program} {ops : Array Oper} {Q : Exit → Act → World → Prop} {md : Region.Mode} {B : Base}

/-- As wpAnyO; behind operation number f nothing is left, and its world is free. -/
def wpAnyF (P : Program) (md : Region.Mode) (ops : Array Oper) (Q : Exit → Act → World → Prop) (B : Base) (f : Nat) : Nat → Array Bool → Act → World → Prop
 | 0, listed, a, W => Region.ready md ops listed = [] ∧ ∀ w, Over W w → Q .normal a w
 | fuel + 1, listed, a, W =>
  (Region.ready md ops listed = [] → ∀ w, Over W w → Q .normal a w) ∧
  ∀ i ∈ Region.ready md ops listed, ∀ w, Over W w → (i ≠ f → wpOp P ops Q i (fun a' w' => B.holds w' ∧ wpAnyF P md ops Q B f fuel (listed.setIfInBounds i true) a' w') a w) ∧
   (i = f → Region.ready md ops (listed.setIfInBounds f true) = [] ∧ wpOp P ops Q f (fun a' w' => Q .normal a' w') a w)

theorem wpAnyF_mono {f : Nat} : ∀ (fuel : Nat) (listed : Array Bool) (a : Act) (W W' : World), Over W W' → wpAnyF P md ops Q B f fuel listed a W → wpAnyF P md ops Q B f fuel listed a W'
 | 0, _, _, _, _, ho, h => ⟨h.1, fun w hw => h.2 w (ho.trans hw)⟩
 | _ + 1, _, _, _, _, ho, h => ⟨fun h0 w hw => h.1 h0 w (ho.trans hw), fun i hi w hw => h.2 i hi w (ho.trans hw)⟩

theorem wpAny_nil {listed : Array Bool} {a : Act} {w : World} (hr : Region.ready md ops listed = []) (h : Q .normal a w) : ∀ fuel, wpAny P md ops Q fuel listed a w
 | 0 => ⟨hr, h⟩
 | _ + 1 => ⟨fun _ => h, by rw [hr]; simp⟩

theorem wpAny_of_F {f : Nat} : ∀ (fuel : Nat) (listed : Array Bool) (a : Act) (W : World), wpAnyF P md ops Q B f fuel listed a W → ∀ w, Over W w → wpAny P md ops Q fuel listed a w
 | 0, _, _, _, h, w, hS => ⟨h.1, h.2 w hS⟩
 | fuel + 1, listed, a, _, h, w, hS => ⟨fun h0 => h.1 h0 w hS, fun i hi => by
   by_cases hif : i = f
   ·subst hif
    obtain ⟨hr, hk⟩ := (h.2 i hi w hS).2 rfl
    exact wpOp_mono (fun a' w' h' => wpAny_nil hr h' _) hk
   ·exact wpOp_mono (fun a' w' h' => wpAny_of_F fuel _ a' w' h'.2 w' (Over.refl _)) ((h.2 i hi w hS).1 hif)⟩

/-- Number f stands behind number i. -/
def behind (md : Region.Mode) (ops : Array Oper) (f i : Nat) : Bool := match ops[f]? with | some o => o.after.any (fun e => Region.binds md e && e.on == i) | none => false
theorem behind_spec {f i : Nat} {listed : Array Bool} (h : behind md ops f i = true) (hl : listed.getD i true = false) : f ∉ Region.ready md ops listed := by
 intro hm
 obtain ⟨_, o, ho, hall⟩ := mem_ready.1 hm
 unfold behind at h
 rw [ho] at h
 obtain ⟨e, he, h2⟩ := Array.any_eq_true'.1 h
 rw [Bool.and_eq_true] at h2
 have h3 : e.on = i := by simpa using h2.2
 have h4 := hall e he h2.1
 rw [h3] at h4
 rcases Nat.lt_or_ge i listed.size with h' | h'
 ·simp [h'] at h4 hl; rw [hl] at h4; cases h4
 ·simp [Array.getElem?_eq_none h'] at h4

theorem wpAnyF_first {f i : Nat} {oi : Oper} {v : Value} (hi : ops[i]? = some oi) (hsel : ∀ (j : Nat) (o : Oper) cs b, ops[j]? = some o → o.op ≠ .select cs b)
  (hQ : ∀ c a w, Q (.panic c) (a.put oi.dst v) w → Q (.panic c) a w) (hfi : behind md ops f i = true) (hne : i ≠ f) :
  ∀ (fuel : Nat) (listed : Array Bool) (a : Act) (W : World), B.holds W →
   (∀ j oj, ops[j]? = some oj → j ≠ i → listed.getD j true = false → (∀ e ∈ oj.after, Region.binds md e = true → e.on ≠ i) → oi.apart ops oj = true) →
   i ∈ Region.ready md ops listed → Settles P ops B oi v a →
   wpAnyF P md ops Q B f fuel (listed.setIfInBounds i true) (a.put oi.dst v) W → wpAnyF P md ops Q B f (fuel + 1) listed a W := by
 intro fuel
 induction fuel with
 | zero =>
  intro listed a W hBW _ hr hy H
  refine ⟨fun h => (by rw [h] at hr; cases hr), fun j hj w hS => ⟨fun _ => ?_, fun hjf => absurd hj (hjf ▸ behind_spec hfi (mem_ready.1 hr).1)⟩⟩
  by_cases hji : j = i
  ·subst hji; exact hy.wpOp hi (B.keep _ _ hBW hS) fun w' hw' => ⟨B.keep _ _ (B.keep _ _ hBW hS) hw', wpAnyF_mono _ _ _ _ _ (hS.trans hw') H⟩
  ·have := ready_mono hj hji
   rw [H.1] at this
   cases this
 | succ fuel ih =>
  intro listed a W hBW hfree hr hy H
  refine ⟨fun h => (by rw [h] at hr; cases hr), fun j hj w hS => ⟨fun hjf => ?_, fun hjf => absurd hj (hjf ▸ behind_spec hfi (mem_ready.1 hr).1)⟩⟩
  by_cases hji : j = i
  ·subst hji; exact hy.wpOp hi (B.keep _ _ hBW hS) fun w' hw' => ⟨B.keep _ _ (B.keep _ _ hBW hS) hw', wpAnyF_mono _ _ _ _ _ (hS.trans hw') H⟩
  ·have h1 := (H.2 j (ready_mono hj hji) w hS).1 hjf
   obtain ⟨hjun, oj, hoj, hall⟩ := mem_ready.1 hj
   have hnot : ∀ e ∈ oj.after, Region.binds md e = true → e.on ≠ i := fun e he hb heq => by
    have h1 := hall e he hb
    have h0 := (mem_ready.1 hr).1
    rw [heq] at h1
    rcases Nat.lt_or_ge i listed.size with h' | h'
    ·simp [h'] at h0 h1; rw [h0] at h1; cases h1
    ·simp [Array.getElem?_eq_none h'] at h1
   have h2 := wpOp_putS hoj (hfree j oj hoj hji hjun hnot) (fun cs b => hsel i oi cs b hi) (fun cs b => hsel j oj cs b hoj) hQ hy h1
   have hfree' : ∀ k ok, ops[k]? = some ok → k ≠ i → (listed.setIfInBounds j true).getD k true = false →
     (∀ e ∈ ok.after, Region.binds md e = true → e.on ≠ i) → oi.apart ops ok = true := fun k ok hk hki hun hno => by
    refine hfree k ok hk hki ?_ hno
    by_cases hjk : j = k
    ·subst hjk; exact hjun
    ·rw [getD_set_ne true hjk] at hun; exact hun
   refine wpOp_mono (fun a' w' h3 => ⟨h3.2.1, ih (listed.setIfInBounds j true) a' w' h3.2.1 hfree' (ready_mono hr (Ne.symm hji)) h3.1 ?_⟩) h2
   rw [Array.setIfInBounds_comm _ _ hji]
   exact h3.2.2

theorem wpAnyF_take {f i : Nat} {oi : Oper} {v : Value} {fuel : Nat} {listed : Array Bool} {a : Act} {W : World} (hBW : B.holds W) (hi : ops[i]? = some oi)
  (hs : Region.noSelect ops = true) (hf : Region.free md ops listed i = true) (hr : (Region.ready md ops listed).contains i = true)
  (hQ : ∀ c a w, Q (.panic c) (a.put oi.dst v) w → Q (.panic c) a w) (hw : Region.wanted oi (yielded ops a.tmps) = true) (hfi : (behind md ops f i && i != f) = true)
  (hy : ∀ w, B.holds w → Gv P v w ((execOp a.eval oi).run P w)) (h : wpAnyF P md ops Q B f fuel (listed.setIfInBounds i true) (a.put oi.dst v) W) : wpAnyF P md ops Q B f (fuel + 1) listed a W := by
 rw [Bool.and_eq_true] at hfi
 exact wpAnyF_first hi (Region.noSelect_spec hs) hQ hfi.1 (by simpa using hfi.2) fuel listed a W hBW (Region.free_spec hi hf) (by simpa using hr) (.inl ⟨hw, fun w hS => (hy w hS).gives⟩) h

/-- The last operation. -/
theorem wpAnyF_last {f : Nat} {oi : Oper} {fuel : Nat} {listed : Array Bool} {a : Act} {W : World} (hBW : B.holds W) (hi : ops[f]? = some oi)
  (hr : Region.ready md ops listed = [f]) (hr' : Region.ready md ops (listed.setIfInBounds f true) = []) (hw : Region.wanted oi (yielded ops a.tmps) = true)
  (h : ∀ w, Over W w → B.holds w → Oper.wp P oi a w (fun a' w' => Q .normal a' w') Q) :
  wpAnyF P md ops Q B f (fuel + 1) listed a W := by
 refine ⟨fun h0 => (by rw [h0] at hr; cases hr), fun j hj w hS => ?_⟩
 rw [hr] at hj
 simp only [List.mem_singleton] at hj
 subst hj
 refine ⟨fun hne => absurd rfl hne, fun _ => ⟨hr', ?_⟩⟩
 unfold Go.wpOp
 simp only [hi, hw, if_true]
 exact .inl (h w hS (B.keep _ _ hBW hS))

theorem wp_region_F (f : Nat) {id n : Nat} {a : Act} {w : World} (hB : B.holds w) (hm : P.follows .mixedOrders = true) (hn : ops.size = n)
  (h : B.holds w → wpAnyF P .any ops Q B f n (Array.replicate n false) a w) : (Code.region id ops true).wp P Q a w := by
 subst hn
 exact wp_region_any hm (wpAny_of_F _ _ _ _ (h hB) _ (Below.refl _ _).drew)
end
end Go.Proofs.YtakdjgldcpompaaGreat
