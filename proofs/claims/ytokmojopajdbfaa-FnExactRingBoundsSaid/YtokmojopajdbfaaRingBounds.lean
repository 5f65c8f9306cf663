/- The bounds of a ring: the program's, the reference's, the law's walk. -/
import Derived.Test.YtokmojopajdbfaaBounds
namespace Go.Proofs.Ytokmojopajdbfaa
open Go Go.RowKit

def rbV (xs : List (Int × Int)) : Value :=
  if ringB xs = true then .tuple #[ptV (loX xs xs.length) (loY xs xs.length), ptV (hiX xs xs.length) (hiY xs xs.length), .int .i64 0]
  else .tuple #[ptV 0 0, ptV 0 0, .int .i64 1]
theorem rbV_form (xs : List (Int × Int)) : ∃ x y z t c : Int, rbV xs = .tuple #[ptV x y, ptV z t, .int .i64 c] := by
  unfold rbV
  split
  · exact ⟨_, _, _, _, _, rfl⟩
  · exact ⟨_, _, _, _, _, rfl⟩

set_option maxHeartbeats 1000000 in
set_option maxRecDepth 100000 in
theorem specRingBounds_any (A : Option Addr) (n c : Nat) (xs : List (Int × Int)) (w : World) (h : Pts w A n xs) (hn : (n : Int) ≤ 1048576) :
    Calls Try.prog 30 #[ringV A n c] w fun e w' => e = .returned (rbV xs) ∧ Over w w' := by
  have hl := h.1
  cases hb : ringB xs
  · have hv : Hid (rbV xs = .tuple #[ptV 0 0, ptV 0 0, .int .i64 1]) := by simp [Hid, rbV, hb]
    clear hl
    go_enter Try.func30, Try.ntmps30
    go_wp2_with (go_at_call 55; refine (l13Ring_any _ _ A n c xs _ (by go_simp) (h.over (by repeat (first | exact Over.refl _ | (with_reducible assumption) | refine Over.alloc_ ?_ _ | refine Over.trans ?_ (by with_reducible assumption) | refine Over.drew_ ?_ | refine Over.set_ ?_ (by simp; try omega) _))) hn).mono ?_; rw [hb]; rintro e wx ⟨rfl, hb⟩; (first | (replace hO := Over.trans hO hb) | (replace hO := Over.trans (Over.alloc_ hO _) hb) | (replace hO := Over.trans (Over.alloc_ (Over.alloc_ hO _) _) hb) | (have hO := hb)); (try clear hc hf); obtain ⟨hc, hf⟩ := ocell hO; (try clear hb); (try clear hz0 hz1 hz2); have hz0 : w.heap.size < wx.heap.size := Nat.lt_of_lt_of_le (by simp <;> omega) (Over.size hO); have hz1 : w.heap.size + 1 < wx.heap.size := Nat.lt_of_lt_of_le (by simp <;> omega) (Over.size hO); have hz2 : w.heap.size + 1 + 1 < wx.heap.size := Nat.lt_of_lt_of_le (by simp <;> omega) (Over.size hO))
    exact bodyPost_ret (v := .tuple #[ptV 0 0, ptV 0 0, .int .i64 1]) (by simp [results, Try.results30, go_sem, *]) rfl ⟨by rw [hv.out], (by repeat (first | exact Over.refl _ | (with_reducible assumption) | refine Over.alloc_ ?_ _ | refine Over.trans ?_ (by with_reducible assumption) | refine Over.drew_ ?_ | refine Over.set_ ?_ (by simp; try omega) _))⟩
  · have hv : Hid (rbV xs = .tuple #[ptV (loX xs n) (loY xs n), ptV (hiX xs n) (hiY xs n), .int .i64 0]) := by simp [Hid, rbV, hb, hl]
    have hp1 := (ringB_parts hb).1
    rw [hl] at hp1
    clear hl
    go_enter Try.func30, Try.ntmps30
    go_wp2_with (first | (go_at_call 55; refine (l13Ring_any _ _ A n c xs _ (by go_simp) (h.over (by repeat (first | exact Over.refl _ | (with_reducible assumption) | refine Over.alloc_ ?_ _ | refine Over.trans ?_ (by with_reducible assumption) | refine Over.drew_ ?_ | refine Over.set_ ?_ (by simp; try omega) _))) hn).mono ?_; rw [hb]; rintro e wx ⟨rfl, hb⟩; (first | (replace hO := Over.trans hO hb) | (replace hO := Over.trans (Over.alloc_ hO _) hb) | (replace hO := Over.trans (Over.alloc_ (Over.alloc_ hO _) _) hb) | (have hO := hb)); (try clear hc hf); obtain ⟨hc, hf⟩ := ocell hO; (try clear hb); (try clear hz0 hz1 hz2); have hz0 : w.heap.size < wx.heap.size := Nat.lt_of_lt_of_le (by simp <;> omega) (Over.size hO); have hz1 : w.heap.size + 1 < wx.heap.size := Nat.lt_of_lt_of_le (by simp <;> omega) (Over.size hO); have hz2 : w.heap.size + 1 + 1 < wx.heap.size := Nat.lt_of_lt_of_le (by simp <;> omega) (Over.size hO)) | (go_at_call 66; refine (l09Corners_any _ _ _ xs _ (h.over (by repeat (first | exact Over.refl _ | (with_reducible assumption) | refine Over.alloc_ ?_ _ | refine Over.trans ?_ (by with_reducible assumption) | refine Over.drew_ ?_ | refine Over.set_ ?_ (by simp; try omega) _))) hn hp1).mono ?_; rintro e wx ⟨rfl, hb⟩; (first | (replace hO := Over.trans hO hb) | (replace hO := Over.trans (Over.alloc_ hO _) hb) | (replace hO := Over.trans (Over.alloc_ (Over.alloc_ hO _) _) hb) | (have hO := hb)); (try clear hc hf); obtain ⟨hc, hf⟩ := ocell hO; (try clear hb); (try clear hz0 hz1 hz2); have hz0 : w.heap.size < wx.heap.size := Nat.lt_of_lt_of_le (by simp <;> omega) (Over.size hO); have hz1 : w.heap.size + 1 < wx.heap.size := Nat.lt_of_lt_of_le (by simp <;> omega) (Over.size hO); have hz2 : w.heap.size + 1 + 1 < wx.heap.size := Nat.lt_of_lt_of_le (by simp <;> omega) (Over.size hO)))
    go_region
    go_wp2
    exact bodyPost_ret (v := .tuple #[ptV (loX xs n) (loY xs n), ptV (hiX xs n) (hiY xs n), .int .i64 0]) (by simp [results, Try.results30, go_sem, *]) rfl ⟨by rw [hv.out], (by repeat (first | exact Over.refl _ | (with_reducible assumption) | refine Over.alloc_ ?_ _ | refine Over.trans ?_ (by with_reducible assumption) | refine Over.drew_ ?_ | refine Over.set_ ?_ (by simp; try omega) _))⟩

set_option maxHeartbeats 1000000 in
set_option maxRecDepth 100000 in
theorem RingBounds_any (A : Option Addr) (n c : Nat) (xs : List (Int × Int)) (w : World) (h : Pts w A n xs) (hn : (n : Int) ≤ 1048576) (hcn : n ≤ c) :
    Calls Try.prog 31 #[ringV A n c] w fun e w' => e = .returned (rbV xs) ∧ Over w w' := by
  have hl := h.1
  cases hb : ringB xs
  · have hv : Hid (rbV xs = .tuple #[ptV 0 0, ptV 0 0, .int .i64 1]) := by simp [Hid, rbV, hb]
    clear hl hcn
    go_enter Try.func31, Try.ntmps31
    go_wp2_with (go_at_call 21; refine (ValidRing_any _ _ _ xs _ (h.over (by repeat (first | exact Over.refl _ | (with_reducible assumption) | refine Over.alloc_ ?_ _ | refine Over.trans ?_ (by with_reducible assumption) | refine Over.drew_ ?_ | refine Over.set_ ?_ (by simp; try omega) _))) hn).mono ?_; rw [hb]; rintro e wx ⟨rfl, hb⟩; (first | (replace hO := Over.trans hO hb) | (replace hO := Over.trans (Over.alloc_ hO _) hb) | (replace hO := Over.trans (Over.alloc_ (Over.alloc_ hO _) _) hb) | (have hO := hb)); (try clear hc hf); obtain ⟨hc, hf⟩ := ocell hO; (try clear hb); (try clear hz0 hz1 hz2); have hz0 : w.heap.size < wx.heap.size := Nat.lt_of_lt_of_le (by simp <;> omega) (Over.size hO); have hz1 : w.heap.size + 1 < wx.heap.size := Nat.lt_of_lt_of_le (by simp <;> omega) (Over.size hO); have hz2 : w.heap.size + 1 + 1 < wx.heap.size := Nat.lt_of_lt_of_le (by simp <;> omega) (Over.size hO))
    exact bodyPost_ret (v := .tuple #[ptV 0 0, ptV 0 0, .int .i64 1]) (by simp [results, Try.results31, go_sem, *]) rfl ⟨by rw [hv.out], (by repeat (first | exact Over.refl _ | (with_reducible assumption) | refine Over.alloc_ ?_ _ | refine Over.trans ?_ (by with_reducible assumption) | refine Over.drew_ ?_ | refine Over.set_ ?_ (by simp; try omega) _))⟩
  · have hv : Hid (rbV xs = .tuple #[ptV (loX xs n) (loY xs n), ptV (hiX xs n) (hiY xs n), .int .i64 0]) := by simp [Hid, rbV, hb, hl]
    have hp1 := (ringB_parts hb).1
    rw [hl] at hp1
    have hq := Lib.hid (And.intro hp1 hcn)
    clear hl hcn hp1
    go_enter Try.func31, Try.ntmps31
    go_wp2_with (first | (go_at_call 21; refine (ValidRing_any _ _ _ xs _ (h.over (by repeat (first | exact Over.refl _ | (with_reducible assumption) | refine Over.alloc_ ?_ _ | refine Over.trans ?_ (by with_reducible assumption) | refine Over.drew_ ?_ | refine Over.set_ ?_ (by simp; try omega) _))) hn).mono ?_; rw [hb]; rintro e wx ⟨rfl, hb⟩; (first | (replace hO := Over.trans hO hb) | (replace hO := Over.trans (Over.alloc_ hO _) hb) | (replace hO := Over.trans (Over.alloc_ (Over.alloc_ hO _) _) hb) | (have hO := hb)); (try clear hc hf); obtain ⟨hc, hf⟩ := ocell hO; (try clear hb); (try clear hz0 hz1 hz2); have hz0 : w.heap.size < wx.heap.size := Nat.lt_of_lt_of_le (by simp <;> omega) (Over.size hO); have hz1 : w.heap.size + 1 < wx.heap.size := Nat.lt_of_lt_of_le (by simp <;> omega) (Over.size hO); have hz2 : w.heap.size + 1 + 1 < wx.heap.size := Nat.lt_of_lt_of_le (by simp <;> omega) (Over.size hO)) | (go_at_call 67; refine (boundsOf_any _ _ _ xs _ (h.over (by repeat (first | exact Over.refl _ | (with_reducible assumption) | refine Over.alloc_ ?_ _ | refine Over.trans ?_ (by with_reducible assumption) | refine Over.drew_ ?_ | refine Over.set_ ?_ (by simp; try omega) _))) hn hq.out.1 hq.out.2).mono ?_; rintro e wx ⟨rfl, hb⟩; (first | (replace hO := Over.trans hO hb) | (replace hO := Over.trans (Over.alloc_ hO _) hb) | (replace hO := Over.trans (Over.alloc_ (Over.alloc_ hO _) _) hb) | (have hO := hb)); (try clear hc hf); obtain ⟨hc, hf⟩ := ocell hO; (try clear hb); (try clear hz0 hz1 hz2); have hz0 : w.heap.size < wx.heap.size := Nat.lt_of_lt_of_le (by simp <;> omega) (Over.size hO); have hz1 : w.heap.size + 1 < wx.heap.size := Nat.lt_of_lt_of_le (by simp <;> omega) (Over.size hO); have hz2 : w.heap.size + 1 + 1 < wx.heap.size := Nat.lt_of_lt_of_le (by simp <;> omega) (Over.size hO)))
    go_region
    go_wp2
    exact bodyPost_ret (v := .tuple #[ptV (loX xs n) (loY xs n), ptV (hiX xs n) (hiY xs n), .int .i64 0]) (by simp [results, Try.results31, go_sem, *]) rfl ⟨by rw [hv.out], (by repeat (first | exact Over.refl _ | (with_reducible assumption) | refine Over.alloc_ ?_ _ | refine Over.trans ?_ (by with_reducible assumption) | refine Over.drew_ ?_ | refine Over.set_ ?_ (by simp; try omega) _))⟩

end Go.Proofs.Ytokmojopajdbfaa
