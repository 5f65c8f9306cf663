import Derived.Test.YtjhaakollekjeaaDoorRows
import Derived.JoinedOf
import Derived.KernelRfl
import Derived.Test.YtjhaakollekjeaaDoorProg
import Derived.WalkKit
import Derived.Lib.Hide
import Derived.ProofKit
import Derived.OpenShut
import Derived.ChangeOld
import Derived.Below
import Derived.Lib.SmallJoins
import Derived.Deep.Slices
import Derived.Shelf.Strings.SplitShaped
import Derived.Shelf.Strings.Cut
import Derived.Shelf.Small.Wraps
import Derived.Lib.SplitLaws
namespace Go.Proofs.YtjhaakollekjeaaDoor
open Go
set_option linter.unusedVariables false
set_option linter.unusedSimpArgs false
set_option maxRecDepth 100000
theorem andB {a b : Bool} (h : a = true) (k : b = true) : (a && b) = true := by rw [h, k]; rfl
theorem once1 : laidOutB Tryd.checked.prog = true := by kernel_rfl
theorem once2 : mapsRowed Tryd.checked.prog = true := by kernel_rfl
theorem once6 : (Tryd.checked.prog.stops == []) = true := by kernel_rfl
theorem once8 : (Tryd.checked.prog.stopKnobs == []) = true := by kernel_rfl
theorem once22 : (Rows.fnExactReadRegionRow.plainKeys == Tryd.checked.prog.plainKeys) = true := by kernel_rfl
theorem once24 : Tryd.checked.prog.stopsHeard = true := by kernel_rfl
theorem once25 : Tryd.checked.prog.mayEnter = true := by kernel_rfl
theorem once26 : (Rows.fnExactReadRegionRow.lifted == Tryd.checked.prog.liftsFinal) = true := by kernel_rfl
theorem once27 : (Tryd.checked.prog.make == some Rows.fnExactReadRegionRow.make) = true := by kernel_rfl
end Go.Proofs.YtjhaakollekjeaaDoor

namespace Go.Proofs.YtjhaakollekjeaaDoor
open Go Go.RowKit
set_option linter.unusedVariables false
set_option linter.unusedSimpArgs false
theorem za {p : Prop} [Decidable p] : (decide p = true) = p := decide_eq_true_eq
theorem zb {p : Prop} [Decidable p] : decide p = false ↔ ¬p := decide_eq_false_iff_not
theorem zc {α : Type _} [BEq α] [LawfulBEq α] {a b : α} : (a == b) = true ↔ a = b := beq_iff_eq
theorem zd {α : Type _} [BEq α] [LawfulBEq α] {a b : α} : (a == b) = false ↔ a ≠ b := beq_eq_false_iff_ne
theorem ze {b : Bool} : (!b) = true ↔ b = false := by cases b <;> simp
theorem zf {b : Bool} : (!b) = false ↔ b = true := by cases b <;> simp
theorem zg {a b : Int} : ¬a < b ↔ b ≤ a := Int.not_lt
theorem zh {a b : Int} : ¬a ≤ b ↔ b < a := Int.not_le
theorem zi {a b : Nat} : ¬a < b ↔ b ≤ a := Nat.not_lt
theorem zj {a b : Nat} : ¬a ≤ b ↔ b < a := Nat.not_le
theorem ya {α : Type _} (s : List α) : [] ++ s = s := rfl
theorem yb {α : Type _} (a : α) (s t : List α) : (a :: s) ++ t = a :: (s ++ t) := rfl
theorem yc {α : Type _} (a b : α) (s : List α) : (a :: s).set 0 b = b :: s := rfl
theorem yd {α : Type _} (a b : α) (s : List α) (n : Nat) : (a :: s).set (n + 1) b = a :: s.set n b := rfl
theorem ye {α : Type _} (s : List α) : s.toArray.toList = s := rfl
theorem xa {α : Type _} (s : List α) (i : Nat) : s.toArray[i]? = s[i]? := List.getElem?_toArray
theorem xb {α : Type _} (a : α) (s : List α) : (a :: s)[0]? = some a := rfl
theorem xc {α : Type _} (a : α) (s : List α) (i : Nat) : (a :: s)[i + 1]? = s[i]? := rfl
theorem xd {α : Type _} (s : List α) (i : Nat) (a : α) : s.toArray.setIfInBounds i a = (s.set i a).toArray := List.setIfInBounds_toArray ..


/-- w' lies over w: nothing that was there has turned. -/
def Over (w w' : World) : Prop := Below w.heap.size w w'
theorem Over.out {w w' : World} (h : Over w w') : Below w.heap.size w w' := h
theorem Over.refl (w : World) : Over w w := Below.refl _ _
theorem Over.trans {w a b : World} (h : Over w a) (k : Over a b) : Over w b := Below.trans h (Below.mono k (Below.size h))
theorem Over.alloc (w : World) (o : Obj) : Over w (w.alloc o) := (Below.refl _ _).alloc (Nat.le_refl _) o
theorem Over.alloc_ {w a : World} (h : Over w a) (o : Obj) : Over w (a.alloc o) := h.trans (Over.alloc a o)
theorem Over.drew_ {w a : World} (h : Over w a) : Over w a.drew := Below.drew h
theorem Over.set_ {w a : World} (h : Over w a) {p : Addr} (hp : w.heap.size ≤ p.block) (u : Value) : Over w (a.setCell p u) := Below.setCell h hp u
theorem Over.size {w w' : World} (h : Over w w') : w.heap.size ≤ w'.heap.size := Below.size h
theorem ocell {W w1 : World} (hb : Over W w1) : (∀ b o, b < W.heap.size → w1.cell? ⟨b, o, none⟩ = W.cell? ⟨b, o, none⟩) ∧ (∀ b o, b < W.heap.size → w1.frozen? ⟨b, o, none⟩ = W.frozen? ⟨b, o, none⟩) :=
 ⟨fun b o h => Below.cell (p := ⟨b, o, none⟩) hb h, fun b o h => Below.frozen (p := ⟨b, o, none⟩) hb h⟩

/-- The value of a point. -/
abbrev ptV (x y : Int) : Value := .agg #[.int .i64 x, .int .i64 y]

/-- The coordinates of the k-th point. -/
def px (xs : List (Int × Int)) (k : Nat) : Int := (xs.getD k (0, 0)).1
def py (xs : List (Int × Int)) (k : Nat) : Int := (xs.getD k (0, 0)).2
theorem at_p {xs : List (Int × Int)} {k : Nat} (h : k < xs.length) : xs[k] = (px xs k, py xs k) := by
 simp [px, py, List.getD, List.getElem?_eq_getElem h]

/-- The slice with address A and length n reads as the points xs. -/
def Pts (w : World) (A : Option Addr) (n : Nat) (xs : List (Int × Int)) : Prop :=
 xs.length = n ∧ (0 < n → ∃ b o, A = some ⟨b, o, none⟩ ∧ b < w.heap.size ∧ ∀ k, k < n → w.cell? ⟨b, o + k * 2, none⟩ = some (.int .i64 (px xs k)) ∧ w.cell? ⟨b, o + k * 2 + 1, none⟩ = some (.int .i64 (py xs k)))

theorem Pts.over {w w' : World} {A : Option Addr} {n : Nat} {xs : List (Int × Int)} (h : Pts w A n xs) (hb : Over w w') : Pts w' A n xs := by
 refine ⟨h.1, fun hn => ?_⟩
 obtain ⟨b, o, hA, hlt, hc⟩ := h.2 hn
 exact ⟨b, o, hA, Nat.lt_of_lt_of_le hlt hb.size, fun k hk => ⟨((ocell hb).1 b _ hlt).trans (hc k hk).1, ((ocell hb).1 b _ hlt).trans (hc k hk).2⟩⟩

theorem cell_new (w : World) (cs : Array Value) (T : TypeId) (i : Nat) : (w.alloc (.cells cs T)).cell? ⟨w.heap.size, i, none⟩ = cs[i]? :=
 cell_of_row _ _ i cs T (0, 0) (heap_alloc_new w _)

end Go.Proofs.YtjhaakollekjeaaDoor

namespace Go.Proofs.YtjhaakollekjeaaDoor
open Go Go.ChangeShapes Go.WideShapes Go.ChangeAt Go.RowKit Go.Joins Go.Deep
set_option linter.unusedVariables false
set_option linter.unusedSimpArgs false

theorem ownK : ownKnob Tryd.prog.godebug = none := by kernel_rfl
theorem laidOutB_ : laidOutB Tryd.prog = true := by kernel_rfl

section
variable {H : Type} {enc : TypeId × Value → H} {w : World} {base : Nat} {spare : Nat → Bool} {held : Bool}
end
end Go.Proofs.YtjhaakollekjeaaDoor

namespace Go.Proofs.YtjhaakollekjeaaDoor
open Go Go.Shelf Go.Proofs Go.RowKit
set_option linter.unusedVariables false
set_option linter.unusedSimpArgs false

def laysCut_ren : Go.Shelf.Ren := ⟨fun | 145 => 76 | 220 => 98 | 219 => 112 | 217 => 116 | 225 => 117 | 224 => 118 | 267 => 119 | 266 => 120 | 314 => 121 | n => n, fun | 9 => 9 | 4 => 4 | 59 => 139 | 3 => 3 | 5 => 5 | 46 => 165 | 146 => 181 | 51 => 180 | n => n, fun | 1 => 0 | n => n⟩
theorem laysCut : Go.Proofs.LaysM.n145 Tryd.prog laysCut_ren := {
 mixed := by kernel_rfl
 f145 := Tryd.func76.trans (congrArg some (by kernel_rfl))
 f217 := Tryd.func116.trans (congrArg some (by kernel_rfl))
 f219 := Tryd.func112.trans (congrArg some (by kernel_rfl))
 f220 := Tryd.func98.trans (congrArg some (by kernel_rfl))
 f224 := Tryd.func118.trans (congrArg some (by kernel_rfl))
 f225 := Tryd.func117.trans (congrArg some (by kernel_rfl))
 f266 := Tryd.func120.trans (congrArg some (by kernel_rfl))
 f267 := Tryd.func119.trans (congrArg some (by kernel_rfl))
 f314 := Tryd.func121.trans (congrArg some (by kernel_rfl))
 t3 := Tryd.underlying3
 a3 := Tryd.isAgg3
 z3 := Tryd.sizeOf3
 v3 := Tryd.zeroValue3
 t4 := Tryd.underlying4
 a4 := Tryd.isAgg4
 z4 := Tryd.sizeOf4
 v4 := Tryd.zeroValue4
 t5 := Tryd.underlying5
 a5 := Tryd.isAgg5
 z5 := Tryd.sizeOf5
 v5 := Tryd.zeroValue5
 t9 := Tryd.underlying9
 a9 := Tryd.isAgg9
 z9 := Tryd.sizeOf9
 v9 := Tryd.zeroValue9
 t46 := Tryd.underlying165
 a46 := Tryd.isAgg165
 z46 := Tryd.sizeOf165
 v46 := Tryd.zeroValue165
 t51 := Tryd.underlying180
 a51 := Tryd.isAgg180
 z51 := Tryd.sizeOf180
 v51 := Tryd.zeroValue180
 t59 := Tryd.underlying139
 a59 := Tryd.isAgg139
 z59 := Tryd.sizeOf139
 v59 := Tryd.zeroValue139
 t146 := Tryd.underlying181
 a146 := Tryd.isAgg181
 z146 := Tryd.sizeOf181
 v146 := Tryd.zeroValue181
 g1 := by kernel_rfl
 i3 := by kernel_rfl
 i4 := by kernel_rfl
 i5 := by kernel_rfl
 i9 := by kernel_rfl
 i46 := by kernel_rfl
 i51 := by kernel_rfl
 i59 := by kernel_rfl
 i146 := by kernel_rfl
 m1 := by kernel_rfl
 s1_3 := fun w h => Go.Proofs.cell_of_shapedOpen_int (zero := #[.int .i64 0]) (t := 3) h (of_decide_eq_true (by kernel_rfl)) (by kernel_rfl) rfl (by kernel_rfl) (by kernel_rfl) Tryd.underlying3 }


def laysSplit_ren : Go.Shelf.Ren := ⟨fun | 146 => 48 | 221 => 75 | 268 => 95 | 138 => 96 | 143 => 97 | 195 => 109 | 197 => 110 | 218 => 111 | 219 => 112 | 260 => 115 | 217 => 116 | 225 => 117 | 224 => 118 | 267 => 119 | 266 => 120 | 314 => 121 | n => n, fun | 9 => 9 | 31 => 60 | 3 => 3 | 4 => 4 | 0 => 0 | 105 => 171 | 21 => 21 | 5 => 5 | 46 => 165 | 119 => 176 | 139 => 179 | 138 => 178 | 146 => 181 | 51 => 180 | n => n, fun | 1 => 0 | 3 => 1 | 4 => 2 | n => n⟩
theorem laysSplit : Go.Proofs.LaysM.n146 Tryd.prog laysSplit_ren := {
 mixed := by kernel_rfl
 f138 := Tryd.func96.trans (congrArg some (by kernel_rfl))
 f143 := Tryd.func97.trans (congrArg some (by kernel_rfl))
 f146 := Tryd.func48.trans (congrArg some (by kernel_rfl))
 f195 := Tryd.func109.trans (congrArg some (by kernel_rfl))
 f197 := Tryd.func110.trans (congrArg some (by kernel_rfl))
 f217 := Tryd.func116.trans (congrArg some (by kernel_rfl))
 f218 := Tryd.func111.trans (congrArg some (by kernel_rfl))
 f219 := Tryd.func112.trans (congrArg some (by kernel_rfl))
 f221 := Tryd.func75.trans (congrArg some (by kernel_rfl))
 f224 := Tryd.func118.trans (congrArg some (by kernel_rfl))
 f225 := Tryd.func117.trans (congrArg some (by kernel_rfl))
 f260 := Tryd.func115.trans (congrArg some (by kernel_rfl))
 f266 := Tryd.func120.trans (congrArg some (by kernel_rfl))
 f267 := Tryd.func119.trans (congrArg some (by kernel_rfl))
 f268 := Tryd.func95.trans (congrArg some (by kernel_rfl))
 f314 := Tryd.func121.trans (congrArg some (by kernel_rfl))
 t0 := Tryd.underlying0
 a0 := Tryd.isAgg0
 z0 := Tryd.sizeOf0
 v0 := Tryd.zeroValue0
 t3 := Tryd.underlying3
 a3 := Tryd.isAgg3
 z3 := Tryd.sizeOf3
 v3 := Tryd.zeroValue3
 t4 := Tryd.underlying4
 a4 := Tryd.isAgg4
 z4 := Tryd.sizeOf4
 v4 := Tryd.zeroValue4
 t5 := Tryd.underlying5
 a5 := Tryd.isAgg5
 z5 := Tryd.sizeOf5
 v5 := Tryd.zeroValue5
 t9 := Tryd.underlying9
 a9 := Tryd.isAgg9
 z9 := Tryd.sizeOf9
 v9 := Tryd.zeroValue9
 t21 := Tryd.underlying21
 a21 := Tryd.isAgg21
 z21 := Tryd.sizeOf21
 v21 := Tryd.zeroValue21
 t31 := Tryd.underlying60
 a31 := Tryd.isAgg60
 z31 := Tryd.sizeOf60
 v31 := Tryd.zeroValue60
 t46 := Tryd.underlying165
 a46 := Tryd.isAgg165
 z46 := Tryd.sizeOf165
 v46 := Tryd.zeroValue165
 t51 := Tryd.underlying180
 a51 := Tryd.isAgg180
 z51 := Tryd.sizeOf180
 v51 := Tryd.zeroValue180
 t105 := Tryd.underlying171
 a105 := Tryd.isAgg171
 z105 := Tryd.sizeOf171
 v105 := Tryd.zeroValue171
 t119 := Tryd.underlying176
 a119 := Tryd.isAgg176
 z119 := Tryd.sizeOf176
 t138 := Tryd.underlying178
 a138 := Tryd.isAgg178
 z138 := Tryd.sizeOf178
 v138 := Tryd.zeroValue178
 t139 := Tryd.underlying179
 a139 := Tryd.isAgg179
 z139 := Tryd.sizeOf179
 v139 := Tryd.zeroValue179
 t146 := Tryd.underlying181
 a146 := Tryd.isAgg181
 z146 := Tryd.sizeOf181
 v146 := Tryd.zeroValue181
 g1 := by kernel_rfl
 g3 := by kernel_rfl
 g4 := by kernel_rfl
 i0 := by kernel_rfl
 i3 := by kernel_rfl
 i4 := by kernel_rfl
 i5 := by kernel_rfl
 i9 := by kernel_rfl
 i21 := by kernel_rfl
 i31 := by kernel_rfl
 i46 := by kernel_rfl
 i51 := by kernel_rfl
 i105 := by kernel_rfl
 i138 := by kernel_rfl
 i139 := by kernel_rfl
 i146 := by kernel_rfl
 m1 := by kernel_rfl
 s1_3 := fun w h => Go.Proofs.cell_of_shapedOpen_int (zero := #[.int .i64 0]) (t := 3) h (of_decide_eq_true (by kernel_rfl)) (by kernel_rfl) rfl (by kernel_rfl) (by kernel_rfl) Tryd.underlying3
 m3 := by kernel_rfl
 m4 := by kernel_rfl }


def laysPre_ren : Go.Shelf.Ren := ⟨fun | 103 => 61 | 210 => 83 | 206 => 103 | n => n, fun | 9 => 9 | 4 => 4 | 24 => 122 | 3 => 3 | n => n, fun | n => n⟩
theorem laysPre : Go.Proofs.Lays.n103 Tryd.prog laysPre_ren := {
 mixed := by kernel_rfl
 f103 := Tryd.func61.trans (congrArg some (by kernel_rfl))
 f206 := Tryd.func103.trans (congrArg some (by kernel_rfl))
 f210 := Tryd.func83.trans (congrArg some (by kernel_rfl))
 t3 := Tryd.underlying3
 a3 := Tryd.isAgg3
 z3 := Tryd.sizeOf3
 v3 := Tryd.zeroValue3
 t4 := Tryd.underlying4
 a4 := Tryd.isAgg4
 z4 := Tryd.sizeOf4
 v4 := Tryd.zeroValue4
 t9 := Tryd.underlying9
 a9 := Tryd.isAgg9
 z9 := Tryd.sizeOf9
 v9 := Tryd.zeroValue9
 t24 := Tryd.underlying122
 a24 := Tryd.isAgg122
 z24 := Tryd.sizeOf122
 v24 := Tryd.zeroValue122 }


/-- The library's variable holds some number. -/
def MaxL (w : World) : Prop := ∃ m, w.cell? ⟨laysSplit_ren.g 1, 0, none⟩ = some (.int .i64 m)
theorem MaxL.of {w : World} (h : w.ShapedOpen Tryd.prog) : MaxL w := laysSplit.s1_3 w h
theorem MaxL.over {w w' : World} (h : MaxL w) (ho : Over w w') : MaxL w' := by
 obtain ⟨m, hm⟩ := h
 refine ⟨m, ?_⟩
 have hlt : laysSplit_ren.g 1 < w.heap.size := by
  rcases Nat.lt_or_ge (laysSplit_ren.g 1) w.heap.size with k | k
  ·exact k
  ·rw [World.cell?, Array.getElem?_eq_none k] at hm; cases hm
 rw [World.cell?, ho.out.block _ hlt]
 exact hm
theorem Cut_lay (s sep : ByteArray) (w : World) (hM : MaxL w) (hs : s.size < 4294967281) :
  Calls Tryd.prog 76 #[.string s, .string sep] w fun e w' => e = .returned (.tuple #[.string ⟨(Lib.cut s.data.toList sep.data.toList).1.toArray⟩, .string ⟨(Lib.cut s.data.toList sep.data.toList).2.1.toArray⟩, .bool (Lib.cut s.data.toList sep.data.toList).2.2]) ∧ ∃ n, w' = w.drewN n :=
 let ⟨m, hm⟩ := hM
 Any.strings_Cut { laysCut with } s sep m w hs hm
theorem Split_lay (s sep : ByteArray) (w : World) (hM : MaxL w) (hs : s.size < 4294967281) (h1 : 1 ≤ sep.size) :
  Calls Tryd.prog 48 #[.string s, .string sep] w fun e w' => e = .returned (.slice (some ⟨w.heap.size, 0, none⟩) (Lib.countB s sep + 1) (Lib.countB s sep + 1)) ∧ w' = w.alloc (.cells ((Lib.splitB sep 0 (Lib.countB s sep) s).map Value.string).toArray 9) :=
 let ⟨m, hm⟩ := hM
 Any.strings_Split { laysSplit with } laysSplit.i9 s sep m w hs hm h1
theorem CutPrefix_lay (s p : ByteArray) (w : World) :
  Calls Tryd.prog 61 #[.string s, .string p] w fun e w' => e = .returned (.tuple #[.string ⟨(Lib.trimPrefix s.data.toList p.data.toList).toArray⟩, .bool (Lib.hasPrefix s.data.toList p.data.toList)]) ∧ w' = w :=
 Any.strings_CutPrefix laysPre s p w
end Go.Proofs.YtjhaakollekjeaaDoor
