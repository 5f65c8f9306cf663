import Derived.Test.YtjhaakollekjeaaDoorO1
import Derived.Test.YtjhaakollekjeaaDoorO8
import Derived.BigRegion
namespace Go.Proofs.YtjhaakollekjeaaDoor
open Go.RowKit
set_option linter.unusedVariables false
set_option linter.unusedSimpArgs false

def inB (n lo hi : Int) : Bool := decide (lo ≤ n) && decide (n ≤ hi)
def okB (x y : Int) : Bool := inB x (-262144) 262144 && inB y (-262144) 262144

theorem l00In_any (n lo hi : Int) (w : World) :
  Calls Tryd.prog 72 #[.int .i64 n, .int .i64 lo, .int .i64 hi] w fun e w' => e = .returned (.bool (inB n lo hi)) ∧ w = w' := by
 by_cases h1 : lo ≤ n
 ·have hv : Hid (inB n lo hi = decide (n ≤ hi)) := by simp [Hid, inB, h1]
  go_enter Tryd.func72, Tryd.ntmps72
  go_wp2
  go_ret
  exact ⟨by rw [hv.out]; rfl, rfl⟩
 ·have hv : Hid (inB n lo hi = false) := by simp [Hid, inB, h1]
  go_enter Tryd.func72, Tryd.ntmps72
  go_wp2
  go_ret
  exact ⟨by rw [hv.out]; rfl, rfl⟩
set_option maxHeartbeats 400000 in
theorem l03Ok_any (x y : Int) (w : World) :
  Calls Tryd.prog 71 #[ptV x y] w fun e w' => e = .returned (.bool (okB x y)) ∧ Over w w' := by
 by_cases h1 : inB x (-262144) 262144 = true
 ·have hv : Hid (okB x y = inB y (-262144) 262144) := by simp [Hid, okB, h1]
  go_enter Tryd.func71, Tryd.ntmps71
  go_wp2_with (go_at_call 72; refine (l00In_any _ _ _ _).mono ?_; rintro e w' ⟨rfl, rfl⟩)
  go_ret
  exact ⟨by rw [hv.out]; rfl, (by repeat (first | exact Over.refl _ | (with_reducible assumption) | refine Over.alloc_ ?_ _ | refine Over.trans ?_ (by with_reducible assumption) | refine Over.drew_ ?_ | refine Over.set_ ?_ (by simp; try omega) _))⟩
 ·have h1' : inB x (-262144) 262144 = false := by simpa using h1
  clear h1
  have hv : Hid (okB x y = false) := by simp [Hid, okB, h1']
  go_enter Tryd.func71, Tryd.ntmps71
  go_wp2_with (go_at_call 72; refine (l00In_any _ _ _ _).mono ?_; rintro e w' ⟨rfl, rfl⟩)
  go_ret
  exact ⟨by rw [hv.out]; rfl, (by repeat (first | exact Over.refl _ | (with_reducible assumption) | refine Over.alloc_ ?_ _ | refine Over.trans ?_ (by with_reducible assumption) | refine Over.drew_ ?_ | refine Over.set_ ?_ (by simp; try omega) _))⟩

set_option maxHeartbeats 400000 in
theorem ValidPt_any (x y : Int) (w : World) :
  Calls Tryd.prog 67 #[ptV x y] w fun e w' => e = .returned (.bool (okB x y)) ∧ Over w w' := by
 have hv : Hid (okB x y = (decide (-262144 ≤ x) && decide (x ≤ 262144) && (decide (-262144 ≤ y) && decide (y ≤ 262144)))) := by simp [Hid, okB, inB]
 by_cases h1 : -262144 ≤ x <;> by_cases h2 : x ≤ 262144 <;> by_cases h3 : -262144 ≤ y <;> by_cases h4 : y ≤ 262144
 all_goals try (exfalso; omega)
 all_goals
  go_enter Tryd.func67, Tryd.ntmps67
  go_wp2
  go_ret
  exact ⟨by rw [hv.out]; simp [*]; try rfl, (by repeat (first | exact Over.refl _ | (with_reducible assumption) | refine Over.alloc_ ?_ _ | refine Over.trans ?_ (by with_reducible assumption) | refine Over.drew_ ?_ | refine Over.set_ ?_ (by simp; try omega) _))⟩

set_option maxHeartbeats 400000 in
theorem validPts_any (A : Option Addr) (n c : Nat) (xs : List (Int × Int)) (w : World) (h : Pts w A n xs) (hn : (n : Int) ≤ 1048576) :
  Calls Tryd.prog 100 #[.slice A n c] w fun e w' => e = .returned (.bool (xs.all fun p => okB p.1 p.2)) ∧ Over w w' := by
 go_enter Tryd.func100, Tryd.ntmps100
 go_wp2
 go_loopw [4, 7] (fun v i wr => ∃ k : Nat, k ≤ n ∧ i = .int .i64 k ∧ Over w wr ∧ Hid ((xs.take k).all (fun p => okB p.1 p.2) = true)) (fun _ i _ => n - (intOf i).toNat)
 case atStart => exact ⟨0, Nat.zero_le _, rfl, Over.refl _, by simp [Hid]⟩
 case round =>
  rename_i wr
  obtain ⟨k, hk, rfl, hb, hall⟩ := hrel
  by_cases hlt : k < n
  ·obtain ⟨b, o, rfl, hbB, hcell⟩ := (h.over hb).2 (by omega)
   obtain ⟨hc1, hc2⟩ := hcell k hlt
   have hlen : k < xs.length := by have := h.1; omega
   by_cases hok : okB (px xs k) (py xs k) = true
   ·have hs : Hid ((xs.take (k + 1)).all (fun p => okB p.1 p.2) = true) := by
     have := hall.out
     unfold Hid
     rw [List.take_succ_eq_append_getElem hlen, List.all_append, this, at_p hlen]
     simp [hok]
    clear hall hcell h
    go_wp2_with (go_at_call 67; refine (ValidPt_any _ _ _).mono ?_; rintro e w1 ⟨rfl, hb1⟩)
    go_roundw
    case rel => exact ⟨k + 1, by omega, by go_num, (by repeat (first | exact Over.refl _ | (with_reducible assumption) | refine Over.alloc_ ?_ _ | refine Over.trans ?_ (by with_reducible assumption) | refine Over.drew_ ?_ | refine Over.set_ ?_ (by simp; try omega) _)), hs⟩
    case measure => simp [intOf]; omega
   ·have hok' : okB (px xs k) (py xs k) = false := by simpa using hok
    clear hok
    have hs : Hid (xs.all (fun p => okB p.1 p.2) = false) := by
     unfold Hid
     rw [List.all_eq_false]
     exact ⟨xs[k], List.getElem_mem hlen, by rw [at_p hlen]; simp [hok']⟩
    clear hall hcell h
    go_wp2_with (go_at_call 67; refine (ValidPt_any _ _ _).mono ?_; rintro e w1 ⟨rfl, hb1⟩)
    go_ret
    exact ⟨by rw [hs.out]; rfl, (by repeat (first | exact Over.refl _ | (with_reducible assumption) | refine Over.alloc_ ?_ _ | refine Over.trans ?_ (by with_reducible assumption) | refine Over.drew_ ?_ | refine Over.set_ ?_ (by simp; try omega) _))⟩
  ·have hs : Hid (xs.all (fun p => okB p.1 p.2) = true) := by
    have := hall.out
    rw [List.take_of_length_le (by have := h.1; omega)] at this
    exact this
   clear hall h
   go_wp2
   go_ret
   exact ⟨by rw [hs.out]; rfl, hb⟩
end Go.Proofs.YtjhaakollekjeaaDoor

namespace Go.Proofs.YtjhaakollekjeaaDoor
open Go Go.RowKit
set_option linter.unusedVariables false
set_option linter.unusedSimpArgs false

/-- Block g is m cells of type T, none frozen. -/
def Blk (w : World) (g T m : Nat) : Prop := ∃ cs : Array Value, cs.size = m ∧ w.heap[g]? = some (.cells cs T (0, 0))

theorem Blk.lt {w : World} {g T m : Nat} (h : Blk w g T m) : g < w.heap.size := by
 obtain ⟨cs, _, hh⟩ := h
 rcases Nat.lt_or_ge g w.heap.size with h | h
 ·exact h
 ·rw [Array.getElem?_eq_none h] at hh; cases hh
theorem Blk.over {w w' : World} {g T m : Nat} (h : Blk w g T m) (ho : Over w w') : Blk w' g T m := by
 have hl := h.lt
 obtain ⟨cs, hs, hh⟩ := h
 exact ⟨cs, hs, (ho.out.block g hl).trans hh⟩
theorem Blk.cell {w : World} {g T m i : Nat} (h : Blk w g T m) (hi : i < m) : ∃ u, w.cell? ⟨g, i, none⟩ = some u := by
 obtain ⟨cs, hs, hh⟩ := h
 exact ⟨_, (cell_of_row w g i cs T (0, 0) hh).trans (Array.getElem?_eq_getElem (by omega))⟩
theorem Blk.frozen {w : World} {g T m : Nat} (h : Blk w g T m) (i : Nat) : w.frozen? ⟨g, i, none⟩ = false := by
 obtain ⟨cs, hs, hh⟩ := h
 simp [World.frozen?, hh]
theorem Blk.set_ {w : World} {g T m : Nat} (h : Blk w g T m) (i : Nat) (u : Value) : Blk (w.setCell ⟨g, i, none⟩ u) g T m := by
 obtain ⟨cs, hs, hh⟩ := h
 refine ⟨cs.setIfInBounds i u, by simpa using hs, ?_⟩
 simp [World.setCell, Array.getElem?_modify, hh]
theorem Blk.new (w : World) (cs : Array Value) (T : Nat) : Blk (w.alloc (.cells cs T)) w.heap.size T cs.size := ⟨cs, rfl, heap_alloc_new w _⟩

/-- A slice of points of the call's own: block g, whole. -/
def Own (w : World) (g n : Nat) (xs : List (Int × Int)) : Prop := Blk w g 50 (n * 2) ∧ Pts w (some ⟨g, 0, none⟩) n xs
theorem Own.over {w w' : World} {g n : Nat} {xs : List (Int × Int)} (h : Own w g n xs) (ho : Over w w') : Own w' g n xs := ⟨h.1.over ho, h.2.over ho⟩

theorem Own.far {w : World} {g n : Nat} {xs : List (Int × Int)} (h : Own w g n xs) {p : Addr} (hp : p.block ≠ g) (u : Value) : Own (w.setCell p u) g n xs := by
 obtain ⟨⟨cs, hs, hh⟩, hl, hx⟩ := h
 refine ⟨⟨cs, hs, (Below.heap_setCell w p u g (Ne.symm hp)).trans hh⟩, hl, fun hn => ?_⟩
 obtain ⟨b, o, hA, hlt, hc⟩ := hx hn
 have hb : b = g := by injection hA with hA; injection hA with hA; exact hA.symm
 subst hb
 refine ⟨b, o, hA, by simpa [World.setCell] using hlt, fun k hk => ⟨?_, ?_⟩⟩
 ·rw [World.cell?_setCell_other _ _ _ _ (fun e => hp (by rw [e]))]; exact (hc k hk).1
 ·rw [World.cell?_setCell_other _ _ _ _ (fun e => hp (by rw [e]))]; exact (hc k hk).2

theorem Pts.at_ {w : World} {A : Option Addr} {n k : Nat} {xs : List (Int × Int)} (h : Pts w A n xs) (hk : k < n) :
  ∃ b o, A = some ⟨b, o, none⟩ ∧ b < w.heap.size ∧ w.cell? ⟨b, o + k * 2, none⟩ = some (.int .i64 (px xs k)) ∧ w.cell? ⟨b, o + k * 2 + 1, none⟩ = some (.int .i64 (py xs k)) := by
 obtain ⟨b, o, hA, hb, hc⟩ := h.2 (by omega)
 exact ⟨b, o, hA, hb, hc k hk⟩

theorem info_parts2 {P : Program} {e : TypeId} {z : Value} {s b : Nat} (h : (P.info? e).map (fun i => (i.zero, i.size, i.bytes)) = some (some z, s, b)) : ∃ i, P.info? e = some i ∧ i.zero = some z ∧ i.size = s ∧ i.bytes = b := by
 cases hi : P.info? e with
 | none => simp [hi] at h
 | some i =>
  simp only [hi, Option.map_some, Option.some.injEq, Prod.mk.injEq] at h
  exact ⟨i, rfl, h.1, h.2.1, h.2.2⟩

/-- The first k points of block g hold xs. -/
def Filled (w : World) (g k : Nat) (xs : List (Int × Int)) : Prop := ∀ j, j < k → w.cell? ⟨g, j * 2, none⟩ = some (.int .i64 (px xs j)) ∧ w.cell? ⟨g, j * 2 + 1, none⟩ = some (.int .i64 (py xs j))
theorem Filled.over {w w' : World} {g k : Nat} {xs : List (Int × Int)} (h : Filled w g k xs) (hg : g < w.heap.size) (ho : Over w w') : Filled w' g k xs :=
 fun j hj => ⟨((ocell ho).1 g _ hg).trans (h j hj).1, ((ocell ho).1 g _ hg).trans (h j hj).2⟩
theorem Filled.step {w : World} {g k m T : Nat} {xs : List (Int × Int)} (h : Filled w g k xs) (hb : Blk w g T m) (hk : k * 2 + 1 < m) :
  Filled ((w.setCell ⟨g, k * 2, none⟩ (.int .i64 (px xs k))).setCell ⟨g, k * 2 + 1, none⟩ (.int .i64 (py xs k))) g (k + 1) xs := by
 obtain ⟨u, hu⟩ := hb.cell (i := k * 2) (by omega)
 obtain ⟨v, hv⟩ := (hb.set_ (k * 2) (.int .i64 (px xs k))).cell (i := k * 2 + 1) hk
 intro j hj
 by_cases hjk : j = k
 ·subst hjk
  refine ⟨?_, World.cell?_setCell_same _ _ _ hv⟩
  rw [World.cell?_setCell_other _ _ _ _ (by simp)]
  exact World.cell?_setCell_same _ _ _ hu
 ·have := h j (by omega)
  refine ⟨?_, ?_⟩
  ·rw [World.cell?_setCell_other _ _ _ _ (by simp <;> omega), World.cell?_setCell_other _ _ _ _ (by simp <;> omega)]; exact this.1
  ·rw [World.cell?_setCell_other _ _ _ _ (by simp <;> omega), World.cell?_setCell_other _ _ _ _ (by simp <;> omega)]; exact this.2
theorem Filled.own {w : World} {g n : Nat} {xs : List (Int × Int)} (h : Filled w g n xs) (hb : Blk w g 50 (n * 2)) (hn : xs.length = n) : Own w g n xs :=
 ⟨hb, hn, fun _ => ⟨g, 0, rfl, hb.lt, fun k hk => by rw [Nat.zero_add]; exact h k hk⟩⟩

/-- A ring. -/
abbrev ringV (A : Option Addr) (n c : Nat) : Value := .agg #[.slice A n c]

def allOk (xs : List (Int × Int)) : Bool := xs.all fun p => okB p.1 p.2
def ringB (xs : List (Int × Int)) : Bool := inB (xs.length : Int) 1 400 && allOk xs

set_option maxHeartbeats 400000 in
theorem l13Points_any (A : Option Addr) (n c : Nat) (xs : List (Int × Int)) (w : World) (h : Pts w A n xs) (hn : (n : Int) ≤ 1048577) :
  Calls Tryd.prog 73 #[.slice A n c] w fun e w' => e = .returned (.bool (allOk xs)) ∧ Over w w' := by
 go_enter Tryd.func73, Tryd.ntmps73
 go_wp2
 go_loopw [3] (fun i wr => ∃ k : Nat, k ≤ n ∧ i = .int .i64 k ∧ Over w wr ∧ Hid ((xs.take k).all (fun p => okB p.1 p.2) = true)) (fun i _ => n - (intOf i).toNat)
 case atStart => exact ⟨0, Nat.zero_le _, rfl, Over.refl _, by simp [Hid]⟩
 case round =>
  rename_i wr
  obtain ⟨k, hk, rfl, hb, hall⟩ := hrel
  by_cases hlt : k < n
  ·obtain ⟨b, o, rfl, hbB, hc1, hc2⟩ := (h.over hb).at_ hlt
   have hlen : k < xs.length := by have := h.1; omega
   by_cases hok : okB (px xs k) (py xs k) = true
   ·have hs : Hid ((xs.take (k + 1)).all (fun p => okB p.1 p.2) = true) := by
     have := hall.out
     unfold Hid
     rw [List.take_succ_eq_append_getElem hlen, List.all_append, this, at_p hlen]
     simp [hok]
    clear hall h
    go_wp2_with (go_at_call 71; refine (l03Ok_any _ _ _).mono ?_; rintro e w1 ⟨rfl, hb1⟩)
    go_roundw
    case rel => exact ⟨k + 1, by omega, by go_num, (by repeat (first | exact Over.refl _ | (with_reducible assumption) | refine Over.alloc_ ?_ _ | refine Over.trans ?_ (by with_reducible assumption) | refine Over.drew_ ?_ | refine Over.set_ ?_ (by simp; try omega) _)), hs⟩
    case measure => simp [intOf]; omega
   ·have hok' : okB (px xs k) (py xs k) = false := by simpa using hok
    clear hok
    have hs : Hid (allOk xs = false) := by
     unfold Hid allOk
     rw [List.all_eq_false]
     exact ⟨xs[k], List.getElem_mem hlen, by rw [at_p hlen]; simp [hok']⟩
    clear hall h
    go_wp2_with (go_at_call 71; refine (l03Ok_any _ _ _).mono ?_; rintro e w1 ⟨rfl, hb1⟩)
    go_ret
    exact ⟨by rw [hs.out]; rfl, (by repeat (first | exact Over.refl _ | (with_reducible assumption) | refine Over.alloc_ ?_ _ | refine Over.trans ?_ (by with_reducible assumption) | refine Over.drew_ ?_ | refine Over.set_ ?_ (by simp; try omega) _))⟩
  ·have hs : Hid (allOk xs = true) := by
    have := hall.out
    rw [List.take_of_length_le (by have := h.1; omega)] at this
    exact this
   clear hall h
   go_wp2
   go_ret
   exact ⟨by rw [hs.out]; rfl, hb⟩

set_option maxHeartbeats 400000 in
theorem isPath_any (A : Option Addr) (n c : Nat) (xs : List (Int × Int)) (w : World) (h : Pts w A n xs) (hn : (n : Int) ≤ 1048577) :
  Calls Tryd.prog 78 #[.slice A n c] w fun e w' => e = .returned (.bool (ringB xs)) ∧ Over w w' := by
 have hl := h.1
 by_cases h1 : (1 : Int) ≤ n
 ·by_cases h2 : (n : Int) ≤ 400
  ·have hv : Hid (ringB xs = allOk xs) := by simp [Hid, ringB, inB, hl, h2]; omega
   clear hl
   go_enter Tryd.func78, Tryd.ntmps78
   go_wp2_with (go_at_call 100; refine (validPts_any _ _ _ _ _ h (Int.le_trans h2 (by decide))).mono ?_; rintro e w1 ⟨rfl, hb1⟩)
   go_ret
   exact ⟨by rw [hv.out]; rfl, (by repeat (first | exact Over.refl _ | (with_reducible assumption) | refine Over.alloc_ ?_ _ | refine Over.trans ?_ (by with_reducible assumption) | refine Over.drew_ ?_ | refine Over.set_ ?_ (by simp; try omega) _))⟩
  ·have hv : Hid (ringB xs = false) := by simp [Hid, ringB, inB, hl]; omega
   clear hl
   go_enter Tryd.func78, Tryd.ntmps78
   go_wp2
   go_ret
   exact ⟨by rw [hv.out]; rfl, (by repeat (first | exact Over.refl _ | (with_reducible assumption) | refine Over.alloc_ ?_ _ | refine Over.trans ?_ (by with_reducible assumption) | refine Over.drew_ ?_ | refine Over.set_ ?_ (by simp; try omega) _))⟩
 ·have hv : Hid (ringB xs = false) := by simp [Hid, ringB, inB, hl]; omega
  clear hl
  go_enter Tryd.func78, Tryd.ntmps78
  go_wp2
  go_ret
  exact ⟨by rw [hv.out]; rfl, (by repeat (first | exact Over.refl _ | (with_reducible assumption) | refine Over.alloc_ ?_ _ | refine Over.trans ?_ (by with_reducible assumption) | refine Over.drew_ ?_ | refine Over.set_ ?_ (by simp; try omega) _))⟩

set_option maxHeartbeats 400000 in
theorem ValidRing_any (A : Option Addr) (n c : Nat) (xs : List (Int × Int)) (w : World) (h : Pts w A n xs) (hn : (n : Int) ≤ 1048577) :
  Calls Tryd.prog 50 #[ringV A n c] w fun e w' => e = .returned (.bool (ringB xs)) ∧ Over w w' := by
 go_enter Tryd.func50, Tryd.ntmps50
 go_wp2_with (go_at_call 78; refine (isPath_any _ _ _ xs _ (h.over (by repeat (first | exact Over.refl _ | (with_reducible assumption) | refine Over.alloc_ ?_ _ | refine Over.trans ?_ (by with_reducible assumption) | refine Over.drew_ ?_ | refine Over.set_ ?_ (by simp; try omega) _))) hn).mono ?_; rintro e w1 ⟨rfl, hb1⟩)
 go_ret
 exact ⟨rfl, (by repeat (first | exact Over.refl _ | (with_reducible assumption) | refine Over.alloc_ ?_ _ | refine Over.trans ?_ (by with_reducible assumption) | refine Over.drew_ ?_ | refine Over.set_ ?_ (by simp; try omega) _))⟩

set_option maxHeartbeats 400000 in
theorem l13Ring_any (b o : Nat) (A : Option Addr) (n c : Nat) (xs : List (Int × Int)) (w : World) (hc : w.cell? ⟨b, o, none⟩ = some (.slice A n c)) (h : Pts w A n xs) (hn : (n : Int) ≤ 1048577) :
  Calls Tryd.prog 46 #[.pointer (some ⟨b, o, none⟩)] w fun e w' => e = .returned (.bool (ringB xs)) ∧ Over w w' := by
 have hl := h.1
 cases h1 : inB (n : Int) 1 400
 ·have hv : Hid (ringB xs = false) := by unfold Hid ringB; rw [hl, h1]; rfl
  clear hl
  go_enter Tryd.func46, Tryd.ntmps46
  go_wp2_with (go_at_call 72; refine (l00In_any _ _ _ _).mono ?_; rintro e w1 ⟨rfl, rfl⟩)
  go_ret
  exact ⟨by rw [hv.out]; rfl, (by repeat (first | exact Over.refl _ | (with_reducible assumption) | refine Over.alloc_ ?_ _ | refine Over.trans ?_ (by with_reducible assumption) | refine Over.drew_ ?_ | refine Over.set_ ?_ (by simp; try omega) _))⟩
 ·have hv : Hid (ringB xs = allOk xs) := by unfold Hid ringB; rw [hl, h1]; rfl
  clear hl
  go_enter Tryd.func46, Tryd.ntmps46
  go_wp2_with (first | (go_at_call 72; refine (l00In_any _ _ _ _).mono ?_; rintro e w1 ⟨rfl, rfl⟩) | (go_at_call 73; refine (l13Points_any _ _ _ _ _ h hn).mono ?_; rintro e w1 ⟨rfl, hb1⟩))
  go_ret
  exact ⟨by rw [hv.out]; rfl, (by repeat (first | exact Over.refl _ | (with_reducible assumption) | refine Over.alloc_ ?_ _ | refine Over.trans ?_ (by with_reducible assumption) | refine Over.drew_ ?_ | refine Over.set_ ?_ (by simp; try omega) _))⟩

end Go.Proofs.YtjhaakollekjeaaDoor

namespace Go.Proofs.YtjhaakollekjeaaDoor
open Go Go.RowKit
set_option linter.unusedVariables false
set_option maxRecDepth 100000

theorem vb {a b : Bool} (h : a = b) : some (Value.bool a) = some (Value.bool b) := by rw [h]
theorem vi {a b : Int} (h : a = b) : some (Value.int .i64 a) = some (Value.int .i64 b) := by rw [h]
theorem retB {a b : Bool} (h : a = b) : Ending.returned (.bool a) = Ending.returned (.bool b) := by rw [h]
theorem retI {a b : Int} (h : a = b) : Ending.returned (.int .i64 a) = Ending.returned (.int .i64 b) := by rw [h]
/-- A contract that leaves the world alone. -/
theorem Calls.still {P : Program} {f : FuncId} {args : Array Value} {w : World} {v : Value} (h : Calls P f args w fun e w' => e = .returned v ∧ w = w') : Calls P f args w fun e w' => e = .returned v ∧ Over w w' := h.mono fun e w' ⟨he, hw⟩ => ⟨he, hw ▸ Over.refl _⟩

section
variable {w : World} {w0 : Bs} {Rs : List Res}
def ptCells (p : Int × Int) : List Value := [.int .i64 p.1, .int .i64 p.2]
/-- A slice made of a literal, as points. -/
theorem ptsCel {k b T m : Nat} (xs : List (Int × Int)) (hk : Rs[k]? = some (.cel b T (xs.flatMap ptCells))) (hm : xs.length = m) : ∀ w, St w0 Rs w → Pts w (some ⟨b, 0, none⟩) m xs := fun w hs => by
 have hh := hs.cel hk
 refine ⟨hm, fun _ => ⟨b, 0, rfl, lt_of_some hh, fun j hj => ?_⟩⟩
 have hj' : j < xs.length := by omega
 have hat := fun q hq => flat2 xs j q hj' hq
 rw [Nat.zero_add, cell_of_row w b _ _ T (0, 0) hh, cell_of_row w b _ _ T (0, 0) hh]
 have h0 := hat 0 (by omega)
 have h1 := hat 1 (by omega)
 rw [at_p hj'] at h0 h1
 simp only [List.getElem?_toArray]
 exact ⟨by simpa [ptCells] using h0, by simpa [ptCells] using h1⟩
where
 flat2 : ∀ (xs : List (Int × Int)) (k j : Nat) (hk : k < xs.length), j < 2 → (xs.flatMap ptCells)[k * 2 + j]? = (ptCells xs[k])[j]?
 | [], _, _, h, _ => absurd h (by simp)
 | a :: r, 0, j, _, hj => by
  rw [List.flatMap_cons, Nat.zero_mul, Nat.zero_add, List.getElem?_append_left (by simpa [ptCells] using hj)]
  rfl
 | a :: r, k + 1, j, h, hj => by
  have hl : (ptCells a).length = 2 := rfl
  rw [List.flatMap_cons, List.getElem?_append_right (by rw [hl]; omega), hl]
  have := flat2 r k j (by simpa using h) hj
  rw [show (k + 1) * 2 + j - 2 = k * 2 + j by omega, this]
  rfl
/-- A point of a slice that came in. -/
theorem rdPts {b o m j : Nat} {xs : List (Int × Int)} (h : Pts w (some ⟨b, o, none⟩) m xs) (hj : j < m) : ∀ w', St ⟨w, []⟩ Rs w' → ∀ q v, [Value.int .i64 (px xs j), Value.int .i64 (py xs j)][q]? = some v → w'.cell? ⟨b, o + j * 2 + q, none⟩ = some v := fun w' hs q v hv => by
 obtain ⟨b', o', e, _, h1, h2⟩ := (h.over hs.fin).at_ hj
 injection e with e
 injection e with e1 e2 _
 subst e1 e2
 match q, hv with
 | 0, hv => simp at hv; subst hv; exact h1
 | 1, hv => simp at hv; subst hv; exact h2
end

/-! ### A drawn region: what an operation has made may be leaned on from here -/
theorem wpAnyG_base {P : Program} {md : Region.Mode} {ops : Array Oper} {Q : Exit → Act → World → Prop} {B B' : Base} (hB : ∀ w, B'.holds w → B.holds w) {f : Nat} :
  ∀ (fuel : Nat) (listed : Array Bool) (a : Act) (W : World), wpAnyG P md ops Q B' f fuel listed a W → wpAnyG P md ops Q B f fuel listed a W
 | 0, _, _, _, h => h
 | fuel + 1, listed, a, W, h => ⟨h.1, fun i hi w hw => ⟨fun hf => wpOp_mono (fun a' w' h' => ⟨hB _ h'.1, wpAnyG_base hB fuel _ a' w' h'.2⟩) ((h.2 i hi w hw).1 hf), (h.2 i hi w hw).2⟩⟩
theorem dr_more {P : Program} {n f fuel : Nat} {env : List (Nat × Value)} {w0 : Bs} {Rs Rs0 : List Res} {ops : Array Oper} {listed : Array Bool} {Q : Exit → Act → World → Prop} (hsub : ∀ w, St w0 Rs w → St w0 Rs0 w)
  (h : At n env w0 Rs (fun a w => wpAnyG P .any ops Q (stB w0 Rs) f fuel listed a w)) : At n env w0 Rs (fun a w => St w0 Rs0 w ∧ wpAnyG P .any ops Q (stB w0 Rs0) f fuel listed a w) :=
 fun a w hf hs => ⟨hsub w hs, wpAnyG_base (B := stB w0 Rs0) (B' := stB w0 Rs) hsub fuel listed a w (h a w hf hs)⟩
end Go.Proofs.YtjhaakollekjeaaDoor

namespace Go.Proofs.YtjhaakollekjeaaDoor
open Go.RowKit
set_option linter.unusedVariables false
set_option linter.unusedSimpArgs false

theorem mul_bd {a b A B : Int} (ha : -A ≤ a) (ha' : a ≤ A) (hb : -B ≤ b) (hb' : b ≤ B) : -(A * B) ≤ a * b ∧ a * b ≤ A * B := by
 have hA : 0 ≤ A := by omega
 have hB : 0 ≤ B := by omega
 have h1 : (a * b).natAbs ≤ (A * B).natAbs := by
  rw [Int.natAbs_mul, Int.natAbs_mul]
  exact Nat.mul_le_mul (by omega) (by omega)
 have h2 : 0 ≤ A * B := Int.mul_nonneg hA hB
 omega

end Go.Proofs.YtjhaakollekjeaaDoor
