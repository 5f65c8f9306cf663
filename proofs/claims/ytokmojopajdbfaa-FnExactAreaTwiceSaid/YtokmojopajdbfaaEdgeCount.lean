/- How many edges a region has: both sides; the law's walk. -/
import Derived.Test.YtokmojopajdbfaaEdgesOf
import Derived.Test.YtokmojopajdbfaaValidRegion2
namespace Go.Proofs.Ytokmojopajdbfaa
open Go Go.RowKit

def ecN (rs : List Ring_) : Int := if regionB rs = true then (edgesAll rs).length else 0
def ecC (rs : List Ring_) : Int := if regionB rs = true then 0 else 1
theorem edgesAll_len (rs : List Ring_) : (edgesAll rs).length ≤ total rs := by
  have := allTo_len rs rs.length
  unfold edgesAll total
  omega

set_option maxHeartbeats 400000 in
theorem specEdgeCount_any (A : Option Addr) (n c : Nat) (rs : List Ring_) (w : World) (h : Rings w A n rs) (ht : (total rs : Int) ≤ 1048576) :
    Calls Try.prog 46 #[regV A n c] w fun e w' => e = .returned (.tuple #[.int .i64 (ecN rs), .int .i64 (ecC rs)]) ∧ Over w w' := by
  have hlen := Lib.hid (edgesAll_len rs)
  cases hb : regionB rs
  · have hv : Hid (ecN rs = 0 ∧ ecC rs = 1) := by simp [Hid, ecN, ecC, hb]
    go_enter Try.func46, Try.ntmps46
    go_wp2_with (go_at_call 75; refine (l13Ok_any _ _ A n c rs _ (by go_simp) (by simp) (h.over (by repeat (first | exact Over.refl _ | (with_reducible assumption) | refine Over.alloc_ ?_ _ | refine Over.trans ?_ (by with_reducible assumption) | refine Over.drew_ ?_ | refine Over.set_ ?_ (by simp; try omega) _))) ht).mono ?_; rw [hb]; rintro e wx ⟨rfl, hb⟩; (first | (replace hO := Over.trans hO hb) | (replace hO := Over.trans (Over.alloc_ hO _) hb) | (replace hO := Over.trans (Over.alloc_ (Over.alloc_ hO _) _) hb) | (have hO := hb)); (try clear hc hf); obtain ⟨hc, hf⟩ := ocell hO; (try clear hb); (try clear hz0); have hz0 : w.heap.size < wx.heap.size := Nat.lt_of_lt_of_le (by simp <;> omega) (Over.size hO))
    exact bodyPost_ret (v := .tuple #[.int .i64 (0), .int .i64 (1)]) (by simp [results, Try.results46, go_sem, *]) rfl ⟨by rw [hv.out.1, hv.out.2], (by repeat (first | exact Over.refl _ | (with_reducible assumption) | refine Over.alloc_ ?_ _ | refine Over.trans ?_ (by with_reducible assumption) | refine Over.drew_ ?_ | refine Over.set_ ?_ (by simp; try omega) _))⟩
  · have hv : Hid (ecN rs = ((edgesAll rs).length : Int) ∧ ecC rs = 0) := by simp [Hid, ecN, ecC, hb]
    go_enter Try.func46, Try.ntmps46
    go_wp2_with (go_at_call 75; refine (l13Ok_any _ _ A n c rs _ (by go_simp) (by simp) (h.over (by repeat (first | exact Over.refl _ | (with_reducible assumption) | refine Over.alloc_ ?_ _ | refine Over.trans ?_ (by with_reducible assumption) | refine Over.drew_ ?_ | refine Over.set_ ?_ (by simp; try omega) _))) ht).mono ?_; rw [hb]; rintro e wx ⟨rfl, hb⟩; (first | (replace hO := Over.trans hO hb) | (replace hO := Over.trans (Over.alloc_ hO _) hb) | (replace hO := Over.trans (Over.alloc_ (Over.alloc_ hO _) _) hb) | (have hO := hb)); (try clear hc hf); obtain ⟨hc, hf⟩ := ocell hO; (try clear hb); (try clear hz0); have hz0 : w.heap.size < wx.heap.size := Nat.lt_of_lt_of_le (by simp <;> omega) (Over.size hO))
    refine (l13All_any _ _ A n c rs _ (by go_simp) (by assumption) (h.over (by repeat (first | exact Over.refl _ | (with_reducible assumption) | refine Over.alloc_ ?_ _ | refine Over.trans ?_ (by with_reducible assumption) | refine Over.drew_ ?_ | refine Over.set_ ?_ (by simp; try omega) _))) ht).mono ?_
    rintro e w2 ⟨v, rfl, hv2, hrow, h2⟩
    obtain ⟨g2, cap2, rfl, -, -⟩ := row_form hrow hv2
    clear hrow hv2
    go_wp2
    exact bodyPost_ret (v := .tuple #[.int .i64 (((edgesAll rs).length : Int)), .int .i64 (0)]) (by simp [results, Try.results46, go_sem, *]) rfl ⟨by rw [hv.out.1, hv.out.2], (by repeat (first | exact Over.refl _ | (with_reducible assumption) | refine Over.alloc_ ?_ _ | refine Over.trans ?_ (by with_reducible assumption) | refine Over.drew_ ?_ | refine Over.set_ ?_ (by simp; try omega) _))⟩

set_option maxHeartbeats 400000 in
theorem EdgeCount_any (A : Option Addr) (n c : Nat) (rs : List Ring_) (w : World) (h : Rings w A n rs) (ht : (total rs : Int) ≤ 1048576) :
    Calls Try.prog 47 #[regV A n c] w fun e w' => e = .returned (.tuple #[.int .i64 (ecN rs), .int .i64 (ecC rs)]) ∧ Over w w' := by
  have hlen := Lib.hid (edgesAll_len rs)
  cases hb : regionB rs
  · have hv : Hid (ecN rs = 0 ∧ ecC rs = 1) := by simp [Hid, ecN, ecC, hb]
    go_enter Try.func47, Try.ntmps47
    go_wp2_with (go_at_call 38; refine (ValidRegion_any _ _ _ rs _ (h.over (by repeat (first | exact Over.refl _ | (with_reducible assumption) | refine Over.alloc_ ?_ _ | refine Over.trans ?_ (by with_reducible assumption) | refine Over.drew_ ?_ | refine Over.set_ ?_ (by simp; try omega) _))) ht).mono ?_; rw [hb]; rintro e wx ⟨rfl, hb⟩; (first | (replace hO := Over.trans hO hb) | (replace hO := Over.trans (Over.alloc_ hO _) hb) | (replace hO := Over.trans (Over.alloc_ (Over.alloc_ hO _) _) hb) | (have hO := hb)); (try clear hc hf); obtain ⟨hc, hf⟩ := ocell hO; (try clear hb); (try clear hz0); have hz0 : w.heap.size < wx.heap.size := Nat.lt_of_lt_of_le (by simp <;> omega) (Over.size hO))
    exact bodyPost_ret (v := .tuple #[.int .i64 (0), .int .i64 (1)]) (by simp [results, Try.results47, go_sem, *]) rfl ⟨by rw [hv.out.1, hv.out.2], (by repeat (first | exact Over.refl _ | (with_reducible assumption) | refine Over.alloc_ ?_ _ | refine Over.trans ?_ (by with_reducible assumption) | refine Over.drew_ ?_ | refine Over.set_ ?_ (by simp; try omega) _))⟩
  · have hv : Hid (ecN rs = ((edgesAll rs).length : Int) ∧ ecC rs = 0) := by simp [Hid, ecN, ecC, hb]
    go_enter Try.func47, Try.ntmps47
    go_wp2_with (go_at_call 38; refine (ValidRegion_any _ _ _ rs _ (h.over (by repeat (first | exact Over.refl _ | (with_reducible assumption) | refine Over.alloc_ ?_ _ | refine Over.trans ?_ (by with_reducible assumption) | refine Over.drew_ ?_ | refine Over.set_ ?_ (by simp; try omega) _))) ht).mono ?_; rw [hb]; rintro e wx ⟨rfl, hb⟩; (first | (replace hO := Over.trans hO hb) | (replace hO := Over.trans (Over.alloc_ hO _) hb) | (replace hO := Over.trans (Over.alloc_ (Over.alloc_ hO _) _) hb) | (have hO := hb)); (try clear hc hf); obtain ⟨hc, hf⟩ := ocell hO; (try clear hb); (try clear hz0); have hz0 : w.heap.size < wx.heap.size := Nat.lt_of_lt_of_le (by simp <;> omega) (Over.size hO))
    refine (edgesOf_any _ _ _ rs _ (h.over (by repeat (first | exact Over.refl _ | (with_reducible assumption) | refine Over.alloc_ ?_ _ | refine Over.trans ?_ (by with_reducible assumption) | refine Over.drew_ ?_ | refine Over.set_ ?_ (by simp; try omega) _))) ht).mono ?_
    rintro e w2 ⟨v, rfl, hrow, h2⟩
    obtain ⟨A2, c2, rfl, -, -⟩ := legs_of_row hrow rfl
    clear hrow
    go_wp2
    exact bodyPost_ret (v := .tuple #[.int .i64 (((edgesAll rs).length : Int)), .int .i64 (0)]) (by simp [results, Try.results47, go_sem, *]) rfl ⟨by rw [hv.out.1, hv.out.2], (by repeat (first | exact Over.refl _ | (with_reducible assumption) | refine Over.alloc_ ?_ _ | refine Over.trans ?_ (by with_reducible assumption) | refine Over.drew_ ?_ | refine Over.set_ ?_ (by simp; try omega) _))⟩
end Go.Proofs.Ytokmojopajdbfaa
