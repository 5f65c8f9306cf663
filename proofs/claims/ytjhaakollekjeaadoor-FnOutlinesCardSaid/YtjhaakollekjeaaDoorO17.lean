import Derived.Test.YtjhaakollekjeaaDoorO1
import Derived.Test.YtjhaakollekjeaaDoorO16
import Derived.ChangeSlices
import Derived.Shelf.Strings.SplitShaped
import Derived.Shelf.Strings.Cut
import Derived.Shelf.Small.Wraps
import Derived.Lib.SplitLaws
import Derived.Test.YtjhaakollekjeaaDoorO15
import Derived.Shelf.Bits.Mul64
import Derived.Laws.BitsAllLaws
import Derived.Shelf.SlSortCmp.WholeK
namespace Go.Proofs.YtjhaakollekjeaaDoor
open Go Go.ChangeShapes Go.WideShapes Go.ChangeAt Go.RowKit Go.Joins Go.Deep
set_option linter.unusedVariables false
set_option linter.unusedSimpArgs false

section
variable {H : Type} {enc : TypeId × Value → H} {w : World} {base : Nat} {spare : Nat → Bool} {held : Bool}
set_option maxRecDepth 100000 in
theorem open_bytes {r : Reach} {b0 : Nat} {v : Value} {d : DataW H} {p : List MemPlace} (hv : Value.okWide Tryd.prog w r b0 30 v) (h : DataW.Trod enc Tryd.prog w base spare held 30 v d p) :
  ∃ (A : Option Addr) (n c : Nat) (zs : List Int), v = .slice A n c ∧ Byts w A n zs ∧ (n : Int) ≤ 9223372036854775807 := by
 have hC : Tryd.prog.cellsOf 5 = 1 := by kernel_rfl
 obtain ⟨A, n, c, rfl⟩ := okWide_slice Tryd.underlying30 hv
 obtain ⟨fuel, hf⟩ := h
 rcases open_ints Tryd.underlying30 Tryd.underlying5 hC hf with ⟨e, _⟩ | ⟨a, len, cap, zs, e, _, hl, hm, hz, _, hc, hw⟩
 ·simp [Value.cells] at e
  obtain ⟨rfl, rfl, rfl⟩ := e
  exact ⟨none, 0, 0, [], rfl, ⟨rfl, fun z hz => absurd hz (by simp), fun h => absurd h (by omega)⟩, by omega⟩
 ·simp [Value.cells] at e
  obtain ⟨rfl, rfl, rfl⟩ := e
  have hlz : n ≤ zs.length := by rw [hz]; split <;> omega
  have hwf : ∀ z ∈ zs, 0 ≤ z ∧ z ≤ 255 := fun z hz => by
   have := hw z hz
   simp [Lit.wf, IntKind.min, IntKind.max, IntKind.bits, IntKind.signed] at this
   omega
  refine ⟨some a, n, c, zs.take n, rfl, ⟨by rw [List.length_take]; omega, fun z hz => hwf z (List.mem_of_mem_take hz), fun h0 => ?_⟩, by unfold maxLen at hm; omega⟩
  obtain ⟨b, o, sp⟩ := a
  have hsp : sp = none := by
   have := World.cell?_spot (hc 0 (by omega))
   simpa [Addr.add] using this
  subst hsp
  have hadd : ∀ j, (⟨b, o, none⟩ : Addr).add j = ⟨b, o + j, none⟩ := fun j => by unfold Addr.add; split <;> simp_all
  have hlt := World.block_lt_of_cell? w _ (hc 0 (by omega))
  rw [hadd] at hlt
  refine ⟨b, o, rfl, hlt, fun k hk => ?_⟩
  have h1 := hc k (by omega)
  rw [hadd] at h1
  rw [h1]
  have : nth (zs.take n) k = zs.getD k 0 := by simp [nth, List.getD, List.getElem?_take, hk]
  rw [this]
end
end Go.Proofs.YtjhaakollekjeaaDoor

namespace Go.Proofs.YtjhaakollekjeaaDoor
open Go Go.Shelf Go.Proofs Go.RowKit
set_option linter.unusedVariables false
set_option linter.unusedSimpArgs false

def laysCut_ren : Go.Shelf.Ren := ⟨fun | 145 => 76 | 220 => 98 | 219 => 112 | 217 => 116 | 225 => 117 | 224 => 118 | 267 => 119 | 266 => 120 | 314 => 121 | n => n, fun | 9 => 9 | 4 => 4 | 59 => 139 | 3 => 3 | 5 => 5 | 46 => 165 | 146 => 181 | 51 => 180 | n => n, fun | 1 => 0 | n => n⟩
theorem laysCut : Go.Proofs.LaysM.n145 Tryd.prog laysCut_ren := {
 mixed := by kernel_rfl
 f145 := Tryd.func76.trans (congrArg some (by kernel_rfl))
 f217 := Tryd.func116.trans (congrArg some (by kernel_rfl))
 f219 := Tryd.func112.trans (congrArg some (by kernel_rfl))
 f220 := Tryd.func98.trans (congrArg some (by kernel_rfl))
 f224 := Tryd.func118.trans (congrArg some (by kernel_rfl))
 f225 := Tryd.func117.trans (congrArg some (by kernel_rfl))
 f266 := Tryd.func120.trans (congrArg some (by kernel_rfl))
 f267 := Tryd.func119.trans (congrArg some (by kernel_rfl))
 f314 := Tryd.func121.trans (congrArg some (by kernel_rfl))
 t3 := Tryd.underlying3
 a3 := Tryd.isAgg3
 z3 := Tryd.sizeOf3
 v3 := Tryd.zeroValue3
 t4 := Tryd.underlying4
 a4 := Tryd.isAgg4
 z4 := Tryd.sizeOf4
 v4 := Tryd.zeroValue4
 t5 := Tryd.underlying5
 a5 := Tryd.isAgg5
 z5 := Tryd.sizeOf5
 v5 := Tryd.zeroValue5
 t9 := Tryd.underlying9
 a9 := Tryd.isAgg9
 z9 := Tryd.sizeOf9
 v9 := Tryd.zeroValue9
 t46 := Tryd.underlying165
 a46 := Tryd.isAgg165
 z46 := Tryd.sizeOf165
 v46 := Tryd.zeroValue165
 t51 := Tryd.underlying180
 a51 := Tryd.isAgg180
 z51 := Tryd.sizeOf180
 v51 := Tryd.zeroValue180
 t59 := Tryd.underlying139
 a59 := Tryd.isAgg139
 z59 := Tryd.sizeOf139
 v59 := Tryd.zeroValue139
 t146 := Tryd.underlying181
 a146 := Tryd.isAgg181
 z146 := Tryd.sizeOf181
 v146 := Tryd.zeroValue181
 g1 := by kernel_rfl
 i3 := by kernel_rfl
 i4 := by kernel_rfl
 i5 := by kernel_rfl
 i9 := by kernel_rfl
 i46 := by kernel_rfl
 i51 := by kernel_rfl
 i59 := by kernel_rfl
 i146 := by kernel_rfl
 m1 := by kernel_rfl
 s1_3 := fun w h => Go.Proofs.cell_of_shapedOpen_int (zero := #[.int .i64 0]) (t := 3) h (of_decide_eq_true (by kernel_rfl)) (by kernel_rfl) rfl (by kernel_rfl) (by kernel_rfl) Tryd.underlying3 }


def laysSplit_ren : Go.Shelf.Ren := ⟨fun | 146 => 48 | 221 => 75 | 268 => 95 | 138 => 96 | 143 => 97 | 195 => 109 | 197 => 110 | 218 => 111 | 219 => 112 | 260 => 115 | 217 => 116 | 225 => 117 | 224 => 118 | 267 => 119 | 266 => 120 | 314 => 121 | n => n, fun | 9 => 9 | 31 => 60 | 3 => 3 | 4 => 4 | 0 => 0 | 105 => 171 | 21 => 21 | 5 => 5 | 46 => 165 | 119 => 176 | 139 => 179 | 138 => 178 | 146 => 181 | 51 => 180 | n => n, fun | 1 => 0 | 3 => 1 | 4 => 2 | n => n⟩
theorem laysSplit : Go.Proofs.LaysM.n146 Tryd.prog laysSplit_ren := {
 mixed := by kernel_rfl
 f138 := Tryd.func96.trans (congrArg some (by kernel_rfl))
 f143 := Tryd.func97.trans (congrArg some (by kernel_rfl))
 f146 := Tryd.func48.trans (congrArg some (by kernel_rfl))
 f195 := Tryd.func109.trans (congrArg some (by kernel_rfl))
 f197 := Tryd.func110.trans (congrArg some (by kernel_rfl))
 f217 := Tryd.func116.trans (congrArg some (by kernel_rfl))
 f218 := Tryd.func111.trans (congrArg some (by kernel_rfl))
 f219 := Tryd.func112.trans (congrArg some (by kernel_rfl))
 f221 := Tryd.func75.trans (congrArg some (by kernel_rfl))
 f224 := Tryd.func118.trans (congrArg some (by kernel_rfl))
 f225 := Tryd.func117.trans (congrArg some (by kernel_rfl))
 f260 := Tryd.func115.trans (congrArg some (by kernel_rfl))
 f266 := Tryd.func120.trans (congrArg some (by kernel_rfl))
 f267 := Tryd.func119.trans (congrArg some (by kernel_rfl))
 f268 := Tryd.func95.trans (congrArg some (by kernel_rfl))
 f314 := Tryd.func121.trans (congrArg some (by kernel_rfl))
 t0 := Tryd.underlying0
 a0 := Tryd.isAgg0
 z0 := Tryd.sizeOf0
 v0 := Tryd.zeroValue0
 t3 := Tryd.underlying3
 a3 := Tryd.isAgg3
 z3 := Tryd.sizeOf3
 v3 := Tryd.zeroValue3
 t4 := Tryd.underlying4
 a4 := Tryd.isAgg4
 z4 := Tryd.sizeOf4
 v4 := Tryd.zeroValue4
 t5 := Tryd.underlying5
 a5 := Tryd.isAgg5
 z5 := Tryd.sizeOf5
 v5 := Tryd.zeroValue5
 t9 := Tryd.underlying9
 a9 := Tryd.isAgg9
 z9 := Tryd.sizeOf9
 v9 := Tryd.zeroValue9
 t21 := Tryd.underlying21
 a21 := Tryd.isAgg21
 z21 := Tryd.sizeOf21
 v21 := Tryd.zeroValue21
 t31 := Tryd.underlying60
 a31 := Tryd.isAgg60
 z31 := Tryd.sizeOf60
 v31 := Tryd.zeroValue60
 t46 := Tryd.underlying165
 a46 := Tryd.isAgg165
 z46 := Tryd.sizeOf165
 v46 := Tryd.zeroValue165
 t51 := Tryd.underlying180
 a51 := Tryd.isAgg180
 z51 := Tryd.sizeOf180
 v51 := Tryd.zeroValue180
 t105 := Tryd.underlying171
 a105 := Tryd.isAgg171
 z105 := Tryd.sizeOf171
 v105 := Tryd.zeroValue171
 t119 := Tryd.underlying176
 a119 := Tryd.isAgg176
 z119 := Tryd.sizeOf176
 t138 := Tryd.underlying178
 a138 := Tryd.isAgg178
 z138 := Tryd.sizeOf178
 v138 := Tryd.zeroValue178
 t139 := Tryd.underlying179
 a139 := Tryd.isAgg179
 z139 := Tryd.sizeOf179
 v139 := Tryd.zeroValue179
 t146 := Tryd.underlying181
 a146 := Tryd.isAgg181
 z146 := Tryd.sizeOf181
 v146 := Tryd.zeroValue181
 g1 := by kernel_rfl
 g3 := by kernel_rfl
 g4 := by kernel_rfl
 i0 := by kernel_rfl
 i3 := by kernel_rfl
 i4 := by kernel_rfl
 i5 := by kernel_rfl
 i9 := by kernel_rfl
 i21 := by kernel_rfl
 i31 := by kernel_rfl
 i46 := by kernel_rfl
 i51 := by kernel_rfl
 i105 := by kernel_rfl
 i138 := by kernel_rfl
 i139 := by kernel_rfl
 i146 := by kernel_rfl
 m1 := by kernel_rfl
 s1_3 := fun w h => Go.Proofs.cell_of_shapedOpen_int (zero := #[.int .i64 0]) (t := 3) h (of_decide_eq_true (by kernel_rfl)) (by kernel_rfl) rfl (by kernel_rfl) (by kernel_rfl) Tryd.underlying3
 m3 := by kernel_rfl
 m4 := by kernel_rfl }


def laysPre_ren : Go.Shelf.Ren := ⟨fun | 103 => 61 | 210 => 83 | 206 => 103 | n => n, fun | 9 => 9 | 4 => 4 | 24 => 122 | 3 => 3 | n => n, fun | n => n⟩
theorem laysPre : Go.Proofs.Lays.n103 Tryd.prog laysPre_ren := {
 mixed := by kernel_rfl
 f103 := Tryd.func61.trans (congrArg some (by kernel_rfl))
 f206 := Tryd.func103.trans (congrArg some (by kernel_rfl))
 f210 := Tryd.func83.trans (congrArg some (by kernel_rfl))
 t3 := Tryd.underlying3
 a3 := Tryd.isAgg3
 z3 := Tryd.sizeOf3
 v3 := Tryd.zeroValue3
 t4 := Tryd.underlying4
 a4 := Tryd.isAgg4
 z4 := Tryd.sizeOf4
 v4 := Tryd.zeroValue4
 t9 := Tryd.underlying9
 a9 := Tryd.isAgg9
 z9 := Tryd.sizeOf9
 v9 := Tryd.zeroValue9
 t24 := Tryd.underlying122
 a24 := Tryd.isAgg122
 z24 := Tryd.sizeOf122
 v24 := Tryd.zeroValue122 }


/-- The library's variable holds some number. -/
def MaxL (w : World) : Prop := ∃ m, w.cell? ⟨laysSplit_ren.g 1, 0, none⟩ = some (.int .i64 m)
theorem MaxL.of {w : World} (h : w.ShapedOpen Tryd.prog) : MaxL w := laysSplit.s1_3 w h
theorem MaxL.over {w w' : World} (h : MaxL w) (ho : Over w w') : MaxL w' := by
 obtain ⟨m, hm⟩ := h
 refine ⟨m, ?_⟩
 have hlt : laysSplit_ren.g 1 < w.heap.size := by
  rcases Nat.lt_or_ge (laysSplit_ren.g 1) w.heap.size with k | k
  ·exact k
  ·rw [World.cell?, Array.getElem?_eq_none k] at hm; cases hm
 rw [World.cell?, ho.out.block _ hlt]
 exact hm
theorem Cut_lay (s sep : ByteArray) (w : World) (hM : MaxL w) (hs : s.size < 4294967281) :
  Calls Tryd.prog 76 #[.string s, .string sep] w fun e w' => e = .returned (.tuple #[.string ⟨(Lib.cut s.data.toList sep.data.toList).1.toArray⟩, .string ⟨(Lib.cut s.data.toList sep.data.toList).2.1.toArray⟩, .bool (Lib.cut s.data.toList sep.data.toList).2.2]) ∧ ∃ n, w' = w.drewN n :=
 let ⟨m, hm⟩ := hM
 Any.strings_Cut { laysCut with } s sep m w hs hm
theorem Split_lay (s sep : ByteArray) (w : World) (hM : MaxL w) (hs : s.size < 4294967281) (h1 : 1 ≤ sep.size) :
  Calls Tryd.prog 48 #[.string s, .string sep] w fun e w' => e = .returned (.slice (some ⟨w.heap.size, 0, none⟩) (Lib.countB s sep + 1) (Lib.countB s sep + 1)) ∧ w' = w.alloc (.cells ((Lib.splitB sep 0 (Lib.countB s sep) s).map Value.string).toArray 9) :=
 let ⟨m, hm⟩ := hM
 Any.strings_Split { laysSplit with } laysSplit.i9 s sep m w hs hm h1
theorem CutPrefix_lay (s p : ByteArray) (w : World) :
  Calls Tryd.prog 61 #[.string s, .string p] w fun e w' => e = .returned (.tuple #[.string ⟨(Lib.trimPrefix s.data.toList p.data.toList).toArray⟩, .bool (Lib.hasPrefix s.data.toList p.data.toList)]) ∧ w' = w :=
 Any.strings_CutPrefix laysPre s p w
end Go.Proofs.YtjhaakollekjeaaDoor

namespace Go.Proofs.YtjhaakollekjeaaDoor
open Go Go.RowKit
set_option linter.unusedVariables false

/-- A row of slices, the rings made: a region of the call's own. -/
theorem pcs_row {w w' : World} {Rs : List Res} (hs : St ⟨w, []⟩ Rs w') {kr kp B T n : Nat} {l : List Pc} {x : Option Addr × Nat} {rs : List Ring_} (hr : Rs[kr]? = some (rowR B T 1 n (l.map Pc.val) x)) (hp : Rs[kp]? = some (pcsR l)) (hne : kr ≠ kp) (_e : w = w) (hl : l.length = n) (hrs : l.map (·.xs) = rs)
  (hm : ∀ j, j < rs.length → (rg rs j).length ≤ 1099511627776) : OwnG w.heap.size w'.heap.size w' x.1 n rs := by
 have hrow : w'.ownsRow B T 1 (.slice x.1 n x.2) n (l.map Pc.val) := (hs.all kr _ hr).1
 have hX := hs.all kp _ hp
 rcases hrow.2 with ⟨_, e⟩ | ⟨g, cap, cur, e, hb, hg, hcap, hmax, hsz, htk⟩
 ·subst e
  obtain rfl : l = [] := List.eq_nil_of_length_eq_zero hl
  subst hrs
  exact OwnG.nil _
 ·injection e with e1 e2 e3
  rw [e1]
  have hF : (rowR B T 1 n (l.map Pc.val) x).F g := by show Value.ownBlock (.slice x.1 n x.2) = some g; rw [e1]; rfl
  have hown := pcs_own (lo := w.heap.size) (o := 0) hg (((hs.all kr _ hr).2.1 g hF).elim id (fun h => by cases h)) (fun j hj => ?_) hX.1 (fun h => hs.apart kr kp _ _ hne hr hp g hF h) (fun q hq => (hX.2.1 q hq).elim id (fun h => by cases h)) (fun e he => ?_)
  ·rw [hrs, hl] at hown
   exact hown
  ·have hc : cur[j]? = (l.map Pc.val)[j]? := by rw [← htk, List.getElem?_take, if_pos (by omega)]; simp
   rw [Nat.zero_add, hc]
   simp [hj]
  ·have : e.xs ∈ rs := hrs ▸ List.mem_map.2 ⟨e, he, rfl⟩
   obtain ⟨j, hj, e2⟩ := List.getElem_of_mem this
   have := hm j hj
   rw [← at_r hj, e2] at this
   omega
/-- The cells of points of which the first i and the last i are exchanged. -/
def RevTo (cs : List Value) (o n i : Nat) (xs : List (Int × Int)) : Prop := ∀ q, q < n → cs[o + q * 2]? = some (.int .i64 (px xs (if q < i ∨ n - 1 - i < q then n - 1 - q else q))) ∧ cs[o + q * 2 + 1]? = some (.int .i64 (py xs (if q < i ∨ n - 1 - i < q then n - 1 - q else q)))
theorem RevTo.step {cs : List Value} {o n i : Nat} {xs : List (Int × Int)} (h : RevTo cs o n i xs) (hi : 2 * i + 1 < n) (hl : ∀ q, q < n → o + q * 2 + 1 < cs.length) :
  RevTo (splice (splice cs (o + i * 2) [.int .i64 (px xs (n - 1 - i)), .int .i64 (py xs (n - 1 - i))]) (o + (n - 1 - i) * 2) [.int .i64 (px xs i), .int .i64 (py xs i)]) o n (i + 1) xs := by
 intro q hq
 have h1 := hl i (by omega)
 have h2 := hl (n - 1 - i) (by omega)
 simp only [splice]
 by_cases e1 : q = i
 ·subst e1
  rw [if_pos (by omega), List.getElem?_set_ne (by omega), List.getElem?_set_ne (by omega), List.getElem?_set_ne (by omega), List.getElem?_set_self (by omega), List.getElem?_set_ne (by omega), List.getElem?_set_ne (by omega), List.getElem?_set_self (by simp; omega)]
  exact ⟨rfl, rfl⟩
 ·by_cases e2 : q = n - 1 - i
  ·subst e2
   rw [if_pos (by omega), List.getElem?_set_ne (by omega), List.getElem?_set_self (by simp; omega), List.getElem?_set_self (by simp; omega), show n - 1 - (n - 1 - i) = i by omega]
   exact ⟨rfl, rfl⟩
  ·have := h q hq
   have hif : (q < i + 1 ∨ n - 1 - (i + 1) < q) ↔ (q < i ∨ n - 1 - i < q) := by omega
   simp only [hif]
   rw [List.getElem?_set_ne (by omega), List.getElem?_set_ne (by omega), List.getElem?_set_ne (by omega), List.getElem?_set_ne (by omega), List.getElem?_set_ne (by omega), List.getElem?_set_ne (by omega), List.getElem?_set_ne (by omega), List.getElem?_set_ne (by omega)]
   exact this
theorem RevTo.at_ {cs : List Value} {o n i q : Nat} {xs : List (Int × Int)} (h : RevTo cs o n i xs) (h1 : i ≤ q) (h2 : q ≤ n - 1 - i) (hq : q < n) : cs[o + q * 2]? = some (.int .i64 (px xs q)) ∧ cs[o + q * 2 + 1]? = some (.int .i64 (py xs q)) := by
 have := h q hq
 rwa [if_neg (by omega)] at this
/-- One ring is written. -/
theorem OwnGd.put {lo hi : Nat} {w w' : World} {b o T : Nat} {cs : Array Value} {pl : Nat → Option Addr × Nat} {n k : Nat} {rs : List Ring_} (ys : Ring_) (h : OwnGd lo hi w b o T cs pl n rs) (hl : rs.length = n) (hk : k < n) (hy : ys.length = (rg rs k).length)
  (hw : Wrs (fun q => 0 < (rg rs k).length ∧ q = ablk (pl k).1 ∧ span lo hi q) w w') (hp : OwnP lo hi w' (pl k).1 (rg rs k).length ys) : OwnGd lo hi w' b o T cs pl n (rs.set k ys) := by
 have hse : ∀ j, j < n → rg (rs.set k ys) j = if j = k then ys else rg rs j := fun j hj => by
  simp only [rg, List.getD_eq_getElem?_getD]
  by_cases e : j = k
  ·subst e; rw [if_pos rfl, List.getElem?_set_self (by omega)]; rfl
  ·rw [if_neg e, List.getElem?_set_ne (fun e' => e e'.symm)]
 have hlen : ∀ j, j < n → (rg (rs.set k ys) j).length = (rg rs j).length := fun j hj => by
  rw [hse j hj]
  by_cases e : j = k
  ·subst e; rw [if_pos rfl, hy]
  ·rw [if_neg e]
 refine ⟨h.low, h.high, (hw.block b (lt_of_some h.blk) fun hq => ?_).trans h.blk, fun j hj => ?_, fun j hj => ?_, fun j hj => ?_, fun i j hi hj hij => ?_⟩
 ·exact h.off k hk hq.1 hq.2.1.symm
 ·rw [hlen _ hj]; exact h.cell j hj
 ·rw [hse j hj]
  by_cases hjk : j = k
  ·subst hjk
   rw [if_pos rfl, hy]
   exact hp
  ·rw [if_neg hjk]
   by_cases h0 : 0 < (rg rs j).length
   ·refine (h.pts j hj).agree fun p hp' h1 h2 => ?_
    obtain ⟨b', o', T', cs', e', _, _, hh', _⟩ := (h.pts j hj).2 h0
    rw [e'] at hp'
    injection hp' with hp'
    subst hp'
    refine hw.block b' (lt_of_some hh') fun hq => ?_
    refine h.apart j k hj hk hjk h0 hq.1 ?_
    rw [e']
    exact hq.2.1
   ·exact ⟨(h.pts j hj).1, fun h1 => absurd h1 h0⟩
 ·rw [hlen _ hj]; exact h.off j hj
 ·rw [hlen _ hi, hlen _ hj]; exact h.apart i j hi hj hij
end Go.Proofs.YtjhaakollekjeaaDoor

namespace Go.Proofs.YtjhaakollekjeaaDoor
open Go Go.RowKit
set_option linter.unusedVariables false
set_option linter.unusedSimpArgs false
set_option maxRecDepth 100000
set_option maxHeartbeats 4000000
set_option linter.unusedVariables false
set_option linter.unusedSimpArgs false

/-- The square of a distance; how far along. -/
def dsq (a b : Pn) : Int := (b.1 - a.1) * (b.1 - a.1) + (b.2 - a.2) * (b.2 - a.2)
def alg (a b p : Pn) : Int := (p.1 - a.1) * (b.1 - a.1) + (p.2 - a.2) * (b.2 - a.2)
def nearS (a b p : Pn) (r : Int) : Bool :=
 if dsq a p ≤ r * r ∨ dsq b p ≤ r * r then true else if alg a b p ≤ 0 ∨ dsq a b ≤ alg a b p then false else decide (tn a b p * tn a b p ≤ r * r * dsq a b)
/-! ### Sizes -/
/-! ### Products of two words -/
/-! ### The reference's words of 31 bits -/
/-! ### Near, walked -/
/-! ### Which points stay -/
/-- How far a point of a path is off. -/
def offP (a b p : Pn) : Int := if a = b then dsq a p else max (tn a b p) (-tn a b p)
/-- The farthest of the first k points behind the first one that are not near: its index, how far. -/
def scanT (a b : Pn) (r : Int) (xs : List (Int × Int)) : Nat → Int × Int
 | 0 => (-1, -1)
 | k + 1 => if nearS a b (pt xs (k + 1)) r = true then scanT a b r xs k else if (scanT a b r xs k).2 < offP a b (pt xs (k + 1)) then (((k + 1 : Nat) : Int), offP a b (pt xs (k + 1))) else scanT a b r xs k
def far (r : Int) (xs : List (Int × Int)) : Int := (scanT (pt xs 0) (pt xs (xs.length - 1)) r xs (xs.length - 2)).1
/-! ### Pieces of a path -/
/-- Points that are valid, at most 402 of them. -/
def okPath (xs : List (Int × Int)) : Prop := xs.length ≤ 402 ∧ ∀ p ∈ xs, bd2 p
theorem okPath.at_ {xs : List (Int × Int)} (h : okPath xs) {k : Nat} (hk : k < xs.length) : bd2 (pt xs k) := by
 have := h.2 xs[k] (List.getElem_mem hk)
 rwa [at_p hk] at this
theorem okPath.take {xs : List (Int × Int)} (h : okPath xs) (k : Nat) : okPath (xs.take k) := ⟨by rw [List.length_take]; have := h.1; omega, fun p hp => h.2 p (List.mem_of_mem_take hp)⟩
theorem okPath.drop {xs : List (Int × Int)} (h : okPath xs) (k : Nat) : okPath (xs.drop k) := ⟨by rw [List.length_drop]; have := h.1; omega, fun p hp => h.2 p (List.mem_of_mem_drop hp)⟩
section
variable {n : Nat} {env : List (Nat × Value)} {w0 : Bs} {Rs : List Res} {K : Act → World → Prop}
end
theorem isTolerance_any (r : Int) (w : World) : Calls Tryd.prog 42 #[.int .i64 r] w fun e w' => e = .returned (.bool (decide (1 ≤ r ∧ r ≤ 262144))) ∧ Over w w' := by
 refine walk_from (m := 9) (Tryd.func42) rfl rfl (Nat.le_of_ble_eq_true rfl) ?_
 refine at_seq ?_
 refine at_region ?_
 refine at_q rfl rfl (by decide) (qt_assign rfl rfl) ?_
 refine at_end ?_
 refine at_seq ?_
 refine at_region ?_
 refine at_q rfl rfl (by decide) (qt_move rfl rfl) ?_
 refine at_q rfl rfl (by decide) (qt_geq rfl rfl rfl) ?_
 refine at_q rfl rfl (by decide) (qt_move rfl rfl) ?_
 refine at_bsplit 5 rfl (fun g1 => ?_) (fun g1 => ?_)
 ·try simp only [za,zb,zc,zd,ze,zf,Bool.not_true,Bool.not_false,zg,zh,ne_eq,zi,zj] at g1
  refine at_on rfl rfl rfl rfl ?_
  refine op_q rfl (by decide) (qt_move rfl rfl) ?_
  refine at_on rfl rfl rfl rfl ?_
  refine op_q rfl (by decide) (qt_leq rfl rfl rfl) ?_
  refine at_q rfl rfl (by decide) (qt_pickT rfl rfl rfl) ?_
  refine at_q rfl rfl (by decide) (qt_assign rfl rfl) ?_
  refine at_end ?_
  refine at_retc ?_
  refine at_ret1 rfl (.tmp rfl) ?_
  intro w' hs
  exact ⟨congrArg Ending.returned (congrArg Value.bool (Bool.eq_iff_iff.2 (by simp; omega))), hs.fin⟩
 ·try simp only [za,zb,zc,zd,ze,zf,Bool.not_true,Bool.not_false,zg,zh,ne_eq,zi,zj] at g1
  refine at_off rfl rfl rfl rfl (by decide) rfl (by decide) ?_
  refine at_off rfl rfl rfl rfl (by decide) rfl (by decide) ?_
  refine at_q rfl rfl (by decide) (qt_pickF rfl rfl rfl) ?_
  refine at_q rfl rfl (by decide) (qt_assign rfl rfl) ?_
  refine at_end ?_
  refine at_retc ?_
  refine at_ret1 rfl (.tmp rfl) ?_
  intro w' hs
  exact ⟨congrArg Ending.returned (congrArg Value.bool (Bool.eq_iff_iff.2 (by simp; omega))), hs.fin⟩
end Go.Proofs.YtjhaakollekjeaaDoor

namespace Go.Proofs.YtjhaakollekjeaaDoor
open Go Go.Shelf Go.RowKit Go.Lib Go.Sort
set_option linter.unusedVariables false
set_option linter.unusedSimpArgs false
theorem splice_left {l r vs : List Value} : ∀ {off : Nat}, off + vs.length ≤ l.length → splice (l ++ r) off vs = splice l off vs ++ r := by
 induction vs generalizing l with
 | nil => intro off _; rfl
 | cons v vs ih =>
  intro off h
  simp only [List.length_cons] at h
  rw [splice, splice, List.set_append_left _ _ (by omega)]
  exact ih (by simp; omega)
end Go.Proofs.YtjhaakollekjeaaDoor
