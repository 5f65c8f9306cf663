import Derived.Test.YtjhaakollekjeaaDoorRows
import Derived.JoinedOf
import Derived.KernelRfl
import Derived.Test.YtjhaakollekjeaaDoorProg
import Derived.WalkKit
import Derived.Lib.Hide
import Derived.ProofKit
import Derived.OpenShut
import Derived.ChangeOld
import Derived.Below
import Derived.Lib.SmallJoins
import Derived.Deep.Slices
import Derived.Orders
namespace Go.Proofs.YtjhaakollekjeaaDoor
open Go
set_option linter.unusedVariables false
set_option linter.unusedSimpArgs false
set_option maxRecDepth 100000
theorem andB {a b : Bool} (h : a = true) (k : b = true) : (a && b) = true := by rw [h, k]; rfl
theorem once1 : laidOutB Tryd.checked.prog = true := by kernel_rfl
theorem once2 : mapsRowed Tryd.checked.prog = true := by kernel_rfl
theorem once6 : (Tryd.checked.prog.stops == []) = true := by kernel_rfl
theorem once8 : (Tryd.checked.prog.stopKnobs == []) = true := by kernel_rfl
theorem once22 : (Rows.fnExactReadRegionRow.plainKeys == Tryd.checked.prog.plainKeys) = true := by kernel_rfl
theorem once24 : Tryd.checked.prog.stopsHeard = true := by kernel_rfl
theorem once25 : Tryd.checked.prog.mayEnter = true := by kernel_rfl
theorem once26 : (Rows.fnExactReadRegionRow.lifted == Tryd.checked.prog.liftsFinal) = true := by kernel_rfl
theorem once27 : (Tryd.checked.prog.make == some Rows.fnExactReadRegionRow.make) = true := by kernel_rfl
end Go.Proofs.YtjhaakollekjeaaDoor

namespace Go.Proofs.YtjhaakollekjeaaDoor
open Go Go.RowKit
set_option linter.unusedVariables false
set_option linter.unusedSimpArgs false
theorem za {p : Prop} [Decidable p] : (decide p = true) = p := decide_eq_true_eq
theorem zb {p : Prop} [Decidable p] : decide p = false ↔ ¬p := decide_eq_false_iff_not
theorem zc {α : Type _} [BEq α] [LawfulBEq α] {a b : α} : (a == b) = true ↔ a = b := beq_iff_eq
theorem zd {α : Type _} [BEq α] [LawfulBEq α] {a b : α} : (a == b) = false ↔ a ≠ b := beq_eq_false_iff_ne
theorem ze {b : Bool} : (!b) = true ↔ b = false := by cases b <;> simp
theorem zf {b : Bool} : (!b) = false ↔ b = true := by cases b <;> simp
theorem zg {a b : Int} : ¬a < b ↔ b ≤ a := Int.not_lt
theorem zh {a b : Int} : ¬a ≤ b ↔ b < a := Int.not_le
theorem zi {a b : Nat} : ¬a < b ↔ b ≤ a := Nat.not_lt
theorem zj {a b : Nat} : ¬a ≤ b ↔ b < a := Nat.not_le
theorem ya {α : Type _} (s : List α) : [] ++ s = s := rfl
theorem yb {α : Type _} (a : α) (s t : List α) : (a :: s) ++ t = a :: (s ++ t) := rfl
theorem yc {α : Type _} (a b : α) (s : List α) : (a :: s).set 0 b = b :: s := rfl
theorem yd {α : Type _} (a b : α) (s : List α) (n : Nat) : (a :: s).set (n + 1) b = a :: s.set n b := rfl
theorem ye {α : Type _} (s : List α) : s.toArray.toList = s := rfl
theorem xa {α : Type _} (s : List α) (i : Nat) : s.toArray[i]? = s[i]? := List.getElem?_toArray
theorem xb {α : Type _} (a : α) (s : List α) : (a :: s)[0]? = some a := rfl
theorem xc {α : Type _} (a : α) (s : List α) (i : Nat) : (a :: s)[i + 1]? = s[i]? := rfl
theorem xd {α : Type _} (s : List α) (i : Nat) (a : α) : s.toArray.setIfInBounds i a = (s.set i a).toArray := List.setIfInBounds_toArray ..


/-- w' lies over w: nothing that was there has turned. -/
def Over (w w' : World) : Prop := Below w.heap.size w w'
theorem Over.out {w w' : World} (h : Over w w') : Below w.heap.size w w' := h
theorem Over.refl (w : World) : Over w w := Below.refl _ _
theorem Over.trans {w a b : World} (h : Over w a) (k : Over a b) : Over w b := Below.trans h (Below.mono k (Below.size h))
theorem Over.alloc (w : World) (o : Obj) : Over w (w.alloc o) := (Below.refl _ _).alloc (Nat.le_refl _) o
theorem Over.alloc_ {w a : World} (h : Over w a) (o : Obj) : Over w (a.alloc o) := h.trans (Over.alloc a o)
theorem Over.drew_ {w a : World} (h : Over w a) : Over w a.drew := Below.drew h
theorem Over.set_ {w a : World} (h : Over w a) {p : Addr} (hp : w.heap.size ≤ p.block) (u : Value) : Over w (a.setCell p u) := Below.setCell h hp u
theorem Over.size {w w' : World} (h : Over w w') : w.heap.size ≤ w'.heap.size := Below.size h
theorem ocell {W w1 : World} (hb : Over W w1) : (∀ b o, b < W.heap.size → w1.cell? ⟨b, o, none⟩ = W.cell? ⟨b, o, none⟩) ∧ (∀ b o, b < W.heap.size → w1.frozen? ⟨b, o, none⟩ = W.frozen? ⟨b, o, none⟩) :=
 ⟨fun b o h => Below.cell (p := ⟨b, o, none⟩) hb h, fun b o h => Below.frozen (p := ⟨b, o, none⟩) hb h⟩

/-- The value of a point. -/
abbrev ptV (x y : Int) : Value := .agg #[.int .i64 x, .int .i64 y]

/-- The coordinates of the k-th point. -/
def px (xs : List (Int × Int)) (k : Nat) : Int := (xs.getD k (0, 0)).1
def py (xs : List (Int × Int)) (k : Nat) : Int := (xs.getD k (0, 0)).2
theorem at_p {xs : List (Int × Int)} {k : Nat} (h : k < xs.length) : xs[k] = (px xs k, py xs k) := by
 simp [px, py, List.getD, List.getElem?_eq_getElem h]

/-- The slice with address A and length n reads as the points xs. -/
def Pts (w : World) (A : Option Addr) (n : Nat) (xs : List (Int × Int)) : Prop :=
 xs.length = n ∧ (0 < n → ∃ b o, A = some ⟨b, o, none⟩ ∧ b < w.heap.size ∧ ∀ k, k < n → w.cell? ⟨b, o + k * 2, none⟩ = some (.int .i64 (px xs k)) ∧ w.cell? ⟨b, o + k * 2 + 1, none⟩ = some (.int .i64 (py xs k)))

theorem Pts.over {w w' : World} {A : Option Addr} {n : Nat} {xs : List (Int × Int)} (h : Pts w A n xs) (hb : Over w w') : Pts w' A n xs := by
 refine ⟨h.1, fun hn => ?_⟩
 obtain ⟨b, o, hA, hlt, hc⟩ := h.2 hn
 exact ⟨b, o, hA, Nat.lt_of_lt_of_le hlt hb.size, fun k hk => ⟨((ocell hb).1 b _ hlt).trans (hc k hk).1, ((ocell hb).1 b _ hlt).trans (hc k hk).2⟩⟩

theorem cell_new (w : World) (cs : Array Value) (T : TypeId) (i : Nat) : (w.alloc (.cells cs T)).cell? ⟨w.heap.size, i, none⟩ = cs[i]? :=
 cell_of_row _ _ i cs T (0, 0) (heap_alloc_new w _)

end Go.Proofs.YtjhaakollekjeaaDoor

namespace Go.Proofs.YtjhaakollekjeaaDoor
open Go Go.ChangeShapes Go.WideShapes Go.ChangeAt Go.RowKit Go.Joins Go.Deep
set_option linter.unusedVariables false
set_option linter.unusedSimpArgs false

theorem ownK : ownKnob Tryd.prog.godebug = none := by kernel_rfl
theorem laidOutB_ : laidOutB Tryd.prog = true := by kernel_rfl

section
variable {H : Type} {enc : TypeId × Value → H} {w : World} {base : Nat} {spare : Nat → Bool} {held : Bool}
end
end Go.Proofs.YtjhaakollekjeaaDoor

namespace Go.Proofs.YtjhaakollekjeaaDoor
open Go Go.RowKit
set_option linter.unusedVariables false
set_option linter.unusedSimpArgs false

section
variable {P : Program} {ops : Array Oper} {Q : Exit → Act → World → Prop} {md : Region.Mode}

/-- A class of worlds that is kept by whatever lies over. -/
structure Base where
 holds : World → Prop
 keep : ∀ w w', holds w → Over w w' → holds w'
def ob (B : World) : Base := ⟨Over B, fun _ _ h k => Over.trans h k⟩
/-- Whatever order is picked from here on, in whatever world over W; behind each operation the world is one of the class B. -/
def wpAnyO (P : Program) (md : Region.Mode) (ops : Array Oper) (Q : Exit → Act → World → Prop) (B : Base) : Nat → Array Bool → Act → World → Prop
 | 0, listed, a, W => Region.ready md ops listed = [] ∧ ∀ w, Over W w → Q .normal a w
 | fuel + 1, listed, a, W =>
  (Region.ready md ops listed = [] → ∀ w, Over W w → Q .normal a w) ∧
  ∀ i ∈ Region.ready md ops listed, ∀ w, Over W w → wpOp P ops Q i (fun a' w' => B.holds w' ∧ wpAnyO P md ops Q B fuel (listed.setIfInBounds i true) a' w') a w

variable {B : Base}

theorem wpAnyO_mono : ∀ (fuel : Nat) (listed : Array Bool) (a : Act) (W W' : World), Over W W' → wpAnyO P md ops Q B fuel listed a W → wpAnyO P md ops Q B fuel listed a W'
 | 0, _, _, _, _, ho, h => ⟨h.1, fun w hw => h.2 w (ho.trans hw)⟩
 | _ + 1, _, _, _, _, ho, h => ⟨fun h0 w hw => h.1 h0 w (ho.trans hw), fun i hi w hw => h.2 i hi w (ho.trans hw)⟩

theorem wpAny_of_O : ∀ (fuel : Nat) (listed : Array Bool) (a : Act) (W : World), wpAnyO P md ops Q B fuel listed a W → ∀ w, Over W w → wpAny P md ops Q fuel listed a w
 | 0, _, _, _, h, w, hS => ⟨h.1, h.2 w hS⟩
 | fuel + 1, _, _, _, h, w, hS => ⟨fun h0 => h.1 h0 w hS, fun i hi => wpOp_mono (fun a' w' h' => wpAny_of_O fuel _ a' w' h'.2 w' (Over.refl _)) (h.2 i hi w hS)⟩

/-- The outcome of an operation in the world w is the value v, in a world over w. -/
def Gives (P : Program) (dst : Option Tmp) (n : Nat) (v : Value) (w : World) : Result Next → Prop
 | .ok (.value u) w' => (∀ a : Act, a.tmps.size = n → a.put dst u = a.put dst v) ∧ Over w w'
 | .ok .skip w' => (∀ a : Act, a.tmps.size = n → a.put dst undef = a.put dst v) ∧ Over w w'
 | .ok (.enter f args) w' => Calls P f args w' fun e w'' => ∃ u, e = .returned u ∧ (∀ a : Act, a.tmps.size = n → a.put dst u = a.put dst v) ∧ Over w w''
 | .ok (.row row args) w' => Rows P row args w' fun u w'' => (∀ a : Act, a.tmps.size = n → a.put dst u = a.put dst v) ∧ Over w w''
 | _ => False

def Settles (P : Program) (ops : Array Oper) (B : Base) (o : Oper) (v : Value) (a : Act) : Prop :=
 (Region.wanted o (yielded ops a.tmps) = true ∧ ∀ w, B.holds w → Gives P o.dst a.tmps.size v w ((execOp a.eval o).run P w)) ∨
 (Region.wanted o (yielded ops a.tmps) = false ∧ v = undef)

theorem Settles.of_same {o : Oper} {v : Value} {a a' : Act} (hy : Settles P ops B o v a) (hz : a'.tmps.size = a.tmps.size) (he : execOp a'.eval o = execOp a.eval o)
  (hw : Region.wanted o (yielded ops a'.tmps) = Region.wanted o (yielded ops a.tmps)) : Settles P ops B o v a' := by
 unfold Settles at *
 rw [he, hw, hz]
 exact hy

theorem put_size (a : Act) (d : Option Tmp) (v : Value) : (a.put d v).tmps.size = a.tmps.size := by
 cases d <;> simp [Act.put]

theorem Settles.wpOp {i : Nat} {o : Oper} {v : Value} {a : Act} (hi : ops[i]? = some o) (hy : Settles P ops B o v a)
  {K : Act → World → Prop} {w : World} (hS : B.holds w) (h : ∀ w', Over w w' → K (a.put o.dst v) w') : wpOp P ops Q i K a w := by
 unfold Go.wpOp
 simp only [hi]
 rcases hy with ⟨hw, hv⟩ | ⟨hw, rfl⟩
 ·simp only [hw, if_true]
  refine .inl ?_
  have hg := hv w hS
  unfold Oper.wp
  generalize (execOp a.eval o).run P w = r at *
  cases r with
  | ok n w' =>
   cases n <;> simp only [Gives] at hg <;> simp only [Oper.upon]
   case value u => rw [hg.1 a rfl]; exact h _ hg.2
   case skip => rw [hg.1 a rfl]; exact h _ hg.2
   case enter f args =>
    refine Calls.mono hg fun e w'' he => ?_
    obtain ⟨u, rfl, he, hs⟩ := he
    show K (a.put o.dst u) w''
    rw [he a rfl]; exact h _ hs
   case row row args =>
    refine Rows.mono hg fun u w'' he => ?_
    rw [he.1 a rfl]; exact h _ he.2
  | halt x w' => exact absurd hg (by simp [Gives])
 ·simp only [hw, Bool.false_eq_true, if_false]; exact h _ (Over.refl _)

theorem wpOp_putS {j : Nat} {oi oj : Oper} {v : Value} (hj : ops[j]? = some oj) (hap : oi.apart ops oj = true)
  (hsi : ∀ cs b, oi.op ≠ .select cs b) (hsj : ∀ cs b, oj.op ≠ .select cs b)
  (hQ : ∀ c a w, Q (.panic c) (a.put oi.dst v) w → Q (.panic c) a w) {K : Act → World → Prop} {a : Act} {w : World}
  (hy : Settles P ops B oi v a) (h : wpOp P ops Q j K (a.put oi.dst v) w) :
  wpOp P ops Q j (fun a' w' => Settles P ops B oi v a' ∧ K (a'.put oi.dst v) w') a w := by
 obtain ⟨h1, h2, h3⟩ := Oper.apart_spec hap
 have keep : ∀ (a : Act), Settles P ops B oi v a → ∀ u, Settles P ops B oi v (a.put oj.dst u) := fun a hy u =>
  hy.of_same (put_size _ _ _) (execOp_put oi hsi a oj.dst u h3) (wanted_put oi a oj.dst u h3)
 have keepD : ∀ d, Settles P ops B oi v { a with defers := d :: a.defers } := fun d => hy.of_same rfl rfl rfl
 unfold Go.wpOp at *
 simp only [hj] at *
 rw [wanted_put oj a oi.dst v h1] at h
 split
 ·rename_i hw
  simp only [hw, if_true] at h
  rcases h with h | ⟨hasks, hlets⟩
  case inr => exact .inr ⟨by unfold Oper.asks at *; rw [execOp_put oj hsj a oi.dst v h1] at hasks; exact hasks, hlets⟩
  refine .inl ?_
  unfold Oper.wp at *
  rw [execOp_put oj hsj a oi.dst v h1] at h
  generalize (execOp a.eval oj).run P w = r at *
  cases r with
  | ok n w' =>
   cases n <;> simp only [Oper.upon] at h ⊢
   case value u => exact ⟨keep a hy u, by rw [← Act.put_comm a v u h2]; exact h⟩
   case skip => exact ⟨keep a hy _, by rw [← Act.put_comm a v undef h2]; exact h⟩
   case defer d =>
    refine ⟨keep _ (keepD d) _, ?_⟩
    rw [← Act.put_comm _ v undef h2, ← Act.put_defers]
    exact h
   case enter f args =>
    refine Calls.mono h fun e w'' he => ?_
    cases e with
    | returned u => exact ⟨keep a hy u, by rw [← Act.put_comm a v u h2]; exact he⟩
    | panicked c => exact hQ _ _ _ he
    | outgrown => exact he
   case row row args => exact Rows.mono h fun u w'' he => ⟨keep a hy u, by rw [← Act.put_comm a v u h2]; exact he⟩
  | halt x w' =>
   cases x <;> simp only [Oper.upon] at h ⊢
   case panic u => exact hQ _ _ _ h
 ·rename_i hw
  simp only [hw] at h
  exact ⟨keep a hy _, by rw [← Act.put_comm a v undef h2]; exact h⟩

theorem wpAnyO_first {i : Nat} {oi : Oper} {v : Value} (hi : ops[i]? = some oi) (hsel : ∀ (j : Nat) (o : Oper) cs b, ops[j]? = some o → o.op ≠ .select cs b)
  (hQ : ∀ c a w, Q (.panic c) (a.put oi.dst v) w → Q (.panic c) a w) :
  ∀ (fuel : Nat) (listed : Array Bool) (a : Act) (W : World), B.holds W →
   (∀ j oj, ops[j]? = some oj → j ≠ i → listed.getD j true = false → (∀ e ∈ oj.after, Region.binds md e = true → e.on ≠ i) → oi.apart ops oj = true) →
   i ∈ Region.ready md ops listed → Settles P ops B oi v a →
   wpAnyO P md ops Q B fuel (listed.setIfInBounds i true) (a.put oi.dst v) W → wpAnyO P md ops Q B (fuel + 1) listed a W := by
 intro fuel
 induction fuel with
 | zero =>
  intro listed a W hBW _ hr hy H
  refine ⟨fun h => (by rw [h] at hr; cases hr), fun j hj w hS => ?_⟩
  by_cases hji : j = i
  ·subst hji; exact hy.wpOp hi (B.keep _ _ hBW hS) fun w' hw' => ⟨B.keep _ _ (B.keep _ _ hBW hS) hw', wpAnyO_mono _ _ _ _ _ (hS.trans hw') H⟩
  ·have := ready_mono hj hji
   rw [H.1] at this
   cases this
 | succ fuel ih =>
  intro listed a W hBW hfree hr hy H
  refine ⟨fun h => (by rw [h] at hr; cases hr), fun j hj w hS => ?_⟩
  by_cases hji : j = i
  ·subst hji; exact hy.wpOp hi (B.keep _ _ hBW hS) fun w' hw' => ⟨B.keep _ _ (B.keep _ _ hBW hS) hw', wpAnyO_mono _ _ _ _ _ (hS.trans hw') H⟩
  ·have h1 := H.2 j (ready_mono hj hji) w hS
   obtain ⟨hjun, oj, hoj, hall⟩ := mem_ready.1 hj
   have hnot : ∀ e ∈ oj.after, Region.binds md e = true → e.on ≠ i := fun e he hb heq => by
    have h1 := hall e he hb
    have h0 := (mem_ready.1 hr).1
    rw [heq] at h1
    rcases Nat.lt_or_ge i listed.size with h' | h'
    ·simp [h'] at h0 h1; rw [h0] at h1; cases h1
    ·simp [Array.getElem?_eq_none h'] at h1
   have h2 := wpOp_putS hoj (hfree j oj hoj hji hjun hnot) (fun cs b => hsel i oi cs b hi) (fun cs b => hsel j oj cs b hoj) hQ hy h1
   have hfree' : ∀ k ok, ops[k]? = some ok → k ≠ i → (listed.setIfInBounds j true).getD k true = false →
     (∀ e ∈ ok.after, Region.binds md e = true → e.on ≠ i) → oi.apart ops ok = true := fun k ok hk hki hun hno => by
    refine hfree k ok hk hki ?_ hno
    by_cases hjk : j = k
    ·subst hjk; exact hjun
    ·rw [getD_set_ne true hjk] at hun; exact hun
   refine wpOp_mono (fun a' w' h3 => ⟨h3.2.1, ih (listed.setIfInBounds j true) a' w' h3.2.1 hfree' (ready_mono hr (Ne.symm hji)) h3.1 ?_⟩) h2
   rw [Array.setIfInBounds_comm _ _ hji]
   exact h3.2.2

/-- What an operation's run hands on: the value v, in a world over w. -/
def Gv (P : Program) (v : Value) (w : World) : Result Next → Prop
 | .ok (.value u) w' => u = v ∧ Over w w'
 | .ok .skip w' => undef = v ∧ Over w w'
 | .ok (.enter f args) w' => Calls P f args w' fun e w'' => e = .returned v ∧ Over w w''
 | _ => False

theorem Gv.gives {dst : Option Tmp} {n : Nat} {v : Value} {w : World} {r : Result Next} (h : Gv P v w r) : Gives P dst n v w r := by
 cases r with
 | ok x w' =>
  cases x <;> simp only [Gv] at h <;> simp only [Gives]
  case value u => obtain ⟨rfl, h⟩ := h; exact ⟨fun _ _ => rfl, h⟩
  case skip => obtain ⟨rfl, h⟩ := h; exact ⟨fun _ _ => rfl, h⟩
  case enter f args => exact Calls.mono h fun e w'' he => ⟨v, he.1, fun _ _ => rfl, he.2⟩
 | halt x w' => exact absurd h (by simp [Gv])

/-- Number i is taken first: the proof that it gives v, and what follows. -/
theorem wpAnyO_take {i : Nat} {oi : Oper} {v : Value} {fuel : Nat} {listed : Array Bool} {a : Act} {W : World} (hBW : B.holds W) (hi : ops[i]? = some oi)
  (hs : Region.noSelect ops = true) (hf : Region.free md ops listed i = true) (hr : (Region.ready md ops listed).contains i = true)
  (hQ : ∀ c a w, Q (.panic c) (a.put oi.dst v) w → Q (.panic c) a w) (hw : Region.wanted oi (yielded ops a.tmps) = true)
  (hy : ∀ w, B.holds w → Gv P v w ((execOp a.eval oi).run P w)) (h : wpAnyO P md ops Q B fuel (listed.setIfInBounds i true) (a.put oi.dst v) W) : wpAnyO P md ops Q B (fuel + 1) listed a W :=
 wpAnyO_first hi (Region.noSelect_spec hs) hQ fuel listed a W hBW (Region.free_spec hi hf) (by simpa using hr) (.inl ⟨hw, fun w hS => (hy w hS).gives⟩) h

theorem two_cells {w : World} {b : Nat} {x y : Value} {t : TypeId} (h : w.heap[b]? = some (.cells (Value.agg #[x, y]).cells t (0, 0))) :
  w.cell? ⟨b, 0, none⟩ = some x ∧ w.cell? ⟨b, 1, none⟩ = some y ∧ w.frozen? ⟨b, 0, none⟩ = false ∧ w.frozen? ⟨b, 1, none⟩ = false := by
 refine ⟨(cell_of_row w b 0 _ t (0, 0) h).trans rfl, (cell_of_row w b 1 _ t (0, 0) h).trans rfl, ?_, ?_⟩ <;> simp [World.frozen?, h]

/-- The store of a struct into a block that is known whole. -/
theorem wpAnyO_store {i : Nat} {oi : Oper} {T t : TypeId} {x y : Operand} {b : Nat} {old new : Array Value} {fuel : Nat} {listed : Array Bool} {a : Act} {W : World}
  (hi : ops[i]? = some oi) (ho : oi.op = .store T x y) (hd : oi.dst = none) (hg : oi.guard = none) (hr : Region.ready md ops listed = [i])
  (hx : a.eval x = .pointer (some ⟨b, 0, none⟩)) (hy : a.eval y = .agg new) (hh : W.heap[b]? = some (.cells old t (0, 0)))
  (hinfo : (P.info? T).map (·.size) = some new.size) (hsz : old.size = new.size) (h1 : new.all (·.oneCell') = true) (hkeep : ∀ w, Over W w → B.holds (w.setRow b new))
  (h : ∀ w', (∀ k, k < W.heap.size → k ≠ b → w'.heap[k]? = W.heap[k]?) → W.heap.size ≤ w'.heap.size → w'.heap[b]? = some (.cells new t (0, 0)) → w'.os = W.os → w'.tape = W.tape → w'.output = W.output → B.holds w' →
   wpAnyO P md ops Q B fuel (listed.setIfInBounds i true) a w') : wpAnyO P md ops Q B (fuel + 1) listed a W := by
 refine ⟨fun h0 => (by rw [h0] at hr; cases hr), fun j hj w hS => ?_⟩
 rw [hr] at hj
 simp only [List.mem_singleton] at hj
 subst hj
 have hlt : b < W.heap.size := by
  rcases Nat.lt_or_ge b W.heap.size with h | h
  ·exact h
  ·rw [Array.getElem?_eq_none h] at hh; cases hh
 have hh' : w.heap[b]? = some (.cells old t (0, 0)) := (hS.out.block b hlt).trans hh
 have hrun : (execOp a.eval oi).run P w = .ok .skip (w.setRow b new) := by
  unfold execOp
  simp only [ho, hx, hy, Instr.storeAt]
  have := run_storeVar_row (P := P) w b t T old new hh' hinfo hsz h1
  simp [Instr.sureAddr, this]
 unfold Go.wpOp
 simp only [hi, Region.wanted, hg, if_true]
 refine .inl ?_
 unfold Oper.wp
 rw [hrun, Oper.upon_skip, hd]
 have hle : W.heap.size ≤ w.heap.size := hS.out.size
 have hB2 := hkeep w hS
 exact ⟨hB2, h _ (fun k hk hne => (setRow_other w b k new hne).trans (hS.out.block k hk)) (by simpa using hle) (setRow_heap w b old new t (0, 0) hh') (by simpa using hS.out.os) (by simpa using hS.out.tape) (by simpa using hS.out.output) hB2⟩

/-- A new variable and the store into it. -/
theorem wpAnyO_new1 {i k : Nat} {oi ok : Oper} {ti T : TypeId} {x y : Operand} {di : Tmp} {zi : Value} {new : Array Value} {fuel : Nat} {listed : Array Bool} {a : Act} {W : World} (hBW : B.holds W)
  (hi : ops[i]? = some oi) (hk : ops[k]? = some ok)
  (hoi : oi.op = .alloc ti) (hok : ok.op = .store T x y) (hdi : oi.dst = some di) (hdk : ok.dst = none) (hgi : oi.guard = none) (hgk : ok.guard = none)
  (hzi : ∀ w, (zeroValue ti).run P w = .ok zi w)
  (hr : Region.ready md ops listed = [i]) (hrk : Region.ready md ops (listed.setIfInBounds i true) = [k])
  (hx : ∀ v, (a.put (some di) v).eval x = v) (hy : ∀ v, (a.put (some di) v).eval y = .agg new)
  (hinfo : (P.info? T).map (·.size) = some new.size) (hsz : zi.cells.size = new.size) (h1 : new.all (·.oneCell') = true)
  (h : ∀ w b, Over W w → W.heap.size ≤ b → b < w.heap.size → w.heap[b]? = some (.cells new ti (0, 0)) → B.holds w →
   wpAnyO P md ops Q B fuel ((listed.setIfInBounds i true).setIfInBounds k true) (a.put (some di) (.pointer (some ⟨b, 0, none⟩))) w) :
  wpAnyO P md ops Q B (fuel + 1 + 1) listed a W := by
 refine ⟨fun h0 => (by rw [h0] at hr; cases hr), fun j hj w hS => ?_⟩
 rw [hr] at hj
 simp only [List.mem_singleton] at hj
 subst hj
 have hrun : (execOp a.eval oi).run P w = .ok (.value (.pointer (some ⟨w.heap.size, 0, none⟩))) (w.alloc (.cells zi.cells ti)) := by
  unfold execOp
  simp only [hoi, Instr.alloc]
  simp [hzi, go_sem]
 unfold Go.wpOp
 simp only [hi, Region.wanted, hgi, if_true]
 refine .inl ?_
 unfold Oper.wp
 rw [hrun, Oper.upon_value, hdi]
 have hBw := B.keep _ _ hBW hS
 have hle : W.heap.size ≤ w.heap.size := hS.out.size
 have hz : (w.alloc (Obj.cells zi.cells ti)).heap.size = w.heap.size + 1 := by simp
 refine ⟨B.keep _ _ hBw (Over.alloc _ _), ?_⟩
 have hrow : ∀ w3, Over (w.alloc (Obj.cells zi.cells ti)) w3 → Over w (w3.setRow w.heap.size new) := by
  intro w3 h3
  refine ⟨h3.out.os, h3.out.tape, h3.out.output, by have := h3.size; simp at this ⊢; omega, fun c hc => ?_⟩
  rw [setRow_other w3 w.heap.size c new (by omega), h3.out.block c (by omega), Below.heap_alloc _ _ _ hc]
 refine wpAnyO_store hk hok hdk hgk hrk (hx _) (hy _) (heap_alloc_new w _) hinfo hsz h1 (fun w3 h3 => B.keep _ _ hBw (hrow w3 h3)) ?_
 intro w' hother hsize hnew ho1 ho2 ho3 hB'
 rw [hz] at hother hsize
 have hB2 : Over W w' := by
  refine ⟨ho1.trans hS.out.os, ho2.trans hS.out.tape, ho3.trans hS.out.output, by omega, fun c hc => ?_⟩
  rw [hother c (by omega) (by omega), Below.heap_alloc _ _ _ (by omega)]
  exact hS.out.block c hc
 exact h w' w.heap.size hB2 hle (by omega) hnew hB'

theorem wpAnyO_done {listed : Array Bool} {a : Act} {W : World} (hr : Region.ready md ops listed = []) (h : ∀ w, Over W w → Q .normal a w) :
  ∀ fuel, wpAnyO P md ops Q B fuel listed a W
 | 0 => ⟨hr, h⟩
 | _ + 1 => ⟨fun _ => h, by rw [hr]; simp⟩

/-- The beginning. -/
theorem wp_region_O {id n : Nat} {a : Act} {w : World} (hB : B.holds w) (hm : P.follows .mixedOrders = true) (hn : ops.size = n)
  (h : B.holds w → wpAnyO P .any ops Q B n (Array.replicate n false) a w) : (Code.region id ops true).wp P Q a w := by
 subst hn
 exact wp_region_any hm (wpAny_of_O _ _ _ _ (h hB) _ (Below.refl _ _).drew)
end
end Go.Proofs.YtjhaakollekjeaaDoor
