import Derived.Test.YtjhaakollekjeaaR1
import Derived.Test.YtjhaakollekjeaaR2
namespace Go.Proofs.Ytjhaakollekjeaa
open Go.RowKit
set_option linter.unusedVariables false
set_option linter.unusedSimpArgs false

def inB (n lo hi : Int) : Bool := decide (lo ≤ n) && decide (n ≤ hi)
def okB (x y : Int) : Bool := inB x (-262144) 262144 && inB y (-262144) 262144

theorem l00In_any (n lo hi : Int) (w : World) :
  Calls Try.prog 72 #[.int .i64 n, .int .i64 lo, .int .i64 hi] w fun e w' => e = .returned (.bool (inB n lo hi)) ∧ w = w' := by
 by_cases h1 : lo ≤ n
 ·have hv : Hid (inB n lo hi = decide (n ≤ hi)) := by simp [Hid, inB, h1]
  go_enter Try.func72, Try.ntmps72
  go_wp2
  go_ret
  exact ⟨by rw [hv.out]; rfl, rfl⟩
 ·have hv : Hid (inB n lo hi = false) := by simp [Hid, inB, h1]
  go_enter Try.func72, Try.ntmps72
  go_wp2
  go_ret
  exact ⟨by rw [hv.out]; rfl, rfl⟩
set_option maxHeartbeats 400000 in
theorem l03Ok_any (x y : Int) (w : World) :
  Calls Try.prog 87 #[ptV x y] w fun e w' => e = .returned (.bool (okB x y)) ∧ Over w w' := by
 by_cases h1 : inB x (-262144) 262144 = true
 ·have hv : Hid (okB x y = inB y (-262144) 262144) := by simp [Hid, okB, h1]
  go_enter Try.func87, Try.ntmps87
  go_wp2_with (go_at_call 72; refine (l00In_any _ _ _ _).mono ?_; rintro e w' ⟨rfl, rfl⟩)
  go_ret
  exact ⟨by rw [hv.out]; rfl, (by repeat (first | exact Over.refl _ | (with_reducible assumption) | refine Over.alloc_ ?_ _ | refine Over.trans ?_ (by with_reducible assumption) | refine Over.drew_ ?_ | refine Over.set_ ?_ (by simp; try omega) _))⟩
 ·have h1' : inB x (-262144) 262144 = false := by simpa using h1
  clear h1
  have hv : Hid (okB x y = false) := by simp [Hid, okB, h1']
  go_enter Try.func87, Try.ntmps87
  go_wp2_with (go_at_call 72; refine (l00In_any _ _ _ _).mono ?_; rintro e w' ⟨rfl, rfl⟩)
  go_ret
  exact ⟨by rw [hv.out]; rfl, (by repeat (first | exact Over.refl _ | (with_reducible assumption) | refine Over.alloc_ ?_ _ | refine Over.trans ?_ (by with_reducible assumption) | refine Over.drew_ ?_ | refine Over.set_ ?_ (by simp; try omega) _))⟩

set_option maxHeartbeats 400000 in
theorem toPt_any (x y : Int) (w : World) :
  Calls Try.prog 53 #[ptV x y] w fun e w' => e = .returned (ptV x y) ∧ Over w w' := by
 go_enter Try.func53, Try.ntmps53
 go_wp2
 exact bodyPost_ret (v := ptV x y) (by simp [results, Try.results53, go_sem, *]) rfl ⟨rfl, (by repeat (first | exact Over.refl _ | (with_reducible assumption) | refine Over.alloc_ ?_ _ | refine Over.trans ?_ (by with_reducible assumption) | refine Over.drew_ ?_ | refine Over.set_ ?_ (by simp; try omega) _))⟩

set_option maxHeartbeats 400000 in
theorem ValidPt_any (x y : Int) (w : World) :
  Calls Try.prog 94 #[ptV x y] w fun e w' => e = .returned (.bool (okB x y)) ∧ Over w w' := by
 have hv : Hid (okB x y = (decide (-262144 ≤ x) && decide (x ≤ 262144) && (decide (-262144 ≤ y) && decide (y ≤ 262144)))) := by simp [Hid, okB, inB]
 by_cases h1 : -262144 ≤ x <;> by_cases h2 : x ≤ 262144 <;> by_cases h3 : -262144 ≤ y <;> by_cases h4 : y ≤ 262144
 all_goals try (exfalso; omega)
 all_goals
  go_enter Try.func94, Try.ntmps94
  go_wp2
  go_ret
  exact ⟨by rw [hv.out]; simp [*]; try rfl, (by repeat (first | exact Over.refl _ | (with_reducible assumption) | refine Over.alloc_ ?_ _ | refine Over.trans ?_ (by with_reducible assumption) | refine Over.drew_ ?_ | refine Over.set_ ?_ (by simp; try omega) _))⟩

set_option maxHeartbeats 400000 in
theorem validPts_any (A : Option Addr) (n c : Nat) (xs : List (Int × Int)) (w : World) (h : Pts w A n xs) (hn : (n : Int) ≤ 1048576) :
  Calls Try.prog 92 #[.slice A n c] w fun e w' => e = .returned (.bool (xs.all fun p => okB p.1 p.2)) ∧ Over w w' := by
 go_enter Try.func92, Try.ntmps92
 go_wp2
 go_loopw [4, 7] (fun v i wr => ∃ k : Nat, k ≤ n ∧ i = .int .i64 k ∧ Over w wr ∧ Hid ((xs.take k).all (fun p => okB p.1 p.2) = true)) (fun _ i _ => n - (intOf i).toNat)
 case atStart => exact ⟨0, Nat.zero_le _, rfl, Over.refl _, by simp [Hid]⟩
 case round =>
  rename_i wr
  obtain ⟨k, hk, rfl, hb, hall⟩ := hrel
  by_cases hlt : k < n
  ·obtain ⟨b, o, rfl, hbB, hcell⟩ := (h.over hb).2 (by omega)
   obtain ⟨hc1, hc2⟩ := hcell k hlt
   have hlen : k < xs.length := by have := h.1; omega
   by_cases hok : okB (px xs k) (py xs k) = true
   ·have hs : Hid ((xs.take (k + 1)).all (fun p => okB p.1 p.2) = true) := by
     have := hall.out
     unfold Hid
     rw [List.take_succ_eq_append_getElem hlen, List.all_append, this, at_p hlen]
     simp [hok]
    clear hall hcell h
    go_wp2_with (go_at_call 94; refine (ValidPt_any _ _ _).mono ?_; rintro e w1 ⟨rfl, hb1⟩)
    go_roundw
    case rel => exact ⟨k + 1, by omega, by go_num, (by repeat (first | exact Over.refl _ | (with_reducible assumption) | refine Over.alloc_ ?_ _ | refine Over.trans ?_ (by with_reducible assumption) | refine Over.drew_ ?_ | refine Over.set_ ?_ (by simp; try omega) _)), hs⟩
    case measure => simp [intOf]; omega
   ·have hok' : okB (px xs k) (py xs k) = false := by simpa using hok
    clear hok
    have hs : Hid (xs.all (fun p => okB p.1 p.2) = false) := by
     unfold Hid
     rw [List.all_eq_false]
     exact ⟨xs[k], List.getElem_mem hlen, by rw [at_p hlen]; simp [hok']⟩
    clear hall hcell h
    go_wp2_with (go_at_call 94; refine (ValidPt_any _ _ _).mono ?_; rintro e w1 ⟨rfl, hb1⟩)
    go_ret
    exact ⟨by rw [hs.out]; rfl, (by repeat (first | exact Over.refl _ | (with_reducible assumption) | refine Over.alloc_ ?_ _ | refine Over.trans ?_ (by with_reducible assumption) | refine Over.drew_ ?_ | refine Over.set_ ?_ (by simp; try omega) _))⟩
  ·have hs : Hid (xs.all (fun p => okB p.1 p.2) = true) := by
    have := hall.out
    rw [List.take_of_length_le (by have := h.1; omega)] at this
    exact this
   clear hall h
   go_wp2
   go_ret
   exact ⟨by rw [hs.out]; rfl, hb⟩
theorem eqPt_any (ax ay bx b_y : Int) (w : World) :
  Calls Try.prog 58 #[ptV ax ay, ptV bx b_y] w fun e w' => e = .returned (.bool (ax == bx && ay == b_y)) ∧ Over w w' := by
 cases h1 : (ax == bx)
 all_goals
  have h1' : (ax != bx) = !(ax == bx) := rfl
  rw [h1] at h1'
  cases h2 : (ay == b_y)
 all_goals
  have h2' : (ay != b_y) = !(ay == b_y) := rfl
  rw [h2] at h2'
  clear h1 h2
  go_enter Try.func58, Try.ntmps58
  go_wp2
  go_ret
  exact ⟨rfl, (by repeat (first | exact Over.refl _ | (with_reducible assumption) | refine Over.alloc_ ?_ _ | refine Over.trans ?_ (by with_reducible assumption) | refine Over.drew_ ?_ | refine Over.set_ ?_ (by simp; try omega) _))⟩
end Go.Proofs.Ytjhaakollekjeaa
