/- The edges of a ring: twice the area, the program's list of edges. -/
import Derived.Test.YtokmojopajdbfaaRing
import Derived.Test.YtokmojopajdbfaaCorner
namespace Go.Proofs.Ytokmojopajdbfaa
open Go Go.RowKit

/-- The index of the next point. -/
def nx (xs : List (Int × Int)) (k : Nat) : Nat := (k + 1) % xs.length
theorem nx_lt {xs : List (Int × Int)} (k : Nat) (h : 0 < xs.length) : nx xs k < xs.length := Nat.mod_lt _ h

def crossAt (xs : List (Int × Int)) (k : Nat) : Int := px xs k * py xs (nx xs k) - py xs k * px xs (nx xs k)
def twiceTo (xs : List (Int × Int)) : Nat → Int
  | 0 => 0
  | k + 1 => twiceTo xs k + crossAt xs k

theorem ok_at {xs : List (Int × Int)} (h : allOk xs = true) {k : Nat} (hk : k < xs.length) : -262144 ≤ px xs k ∧ px xs k ≤ 262144 ∧ -262144 ≤ py xs k ∧ py xs k ≤ 262144 := by
  have := List.all_eq_true.1 h xs[k] (List.getElem_mem hk)
  rw [at_p hk] at this
  simp [okB, inB] at this
  omega

theorem crossAt_bd {xs : List (Int × Int)} (h : allOk xs = true) {k : Nat} (hk : k < xs.length) : -137438953472 ≤ crossAt xs k ∧ crossAt xs k ≤ 137438953472 := by
  obtain ⟨a1, a2, a3, a4⟩ := ok_at h hk
  obtain ⟨b1, b2, b3, b4⟩ := ok_at h (nx_lt k (show 0 < xs.length by omega))
  have := mul_bd a1 a2 b3 b4
  have := mul_bd a3 a4 b1 b2
  unfold crossAt
  omega
theorem twiceTo_bd {xs : List (Int × Int)} (h : allOk xs = true) : ∀ k : Nat, k ≤ xs.length → -(k * 137438953472 : Int) ≤ twiceTo xs k ∧ twiceTo xs k ≤ k * 137438953472
  | 0, _ => by simp [twiceTo]
  | k + 1, hk => by
    have h1 := twiceTo_bd h k (by omega)
    have h2 := crossAt_bd h (show k < xs.length by omega)
    simp only [twiceTo]
    have : ((k + 1 : Nat) : Int) * 137438953472 = (k : Int) * 137438953472 + 137438953472 := by rw [Int.natCast_add, Int.add_mul]; rfl
    omega

theorem nx_int {xs : List (Int × Int)} {n : Nat} (hl : xs.length = n) (k : Nat) : ((k : Int) + 1) % (n : Int) = ((nx xs k : Nat) : Int) := by
  unfold nx
  rw [hl]
  simp

set_option maxHeartbeats 1000000 in
theorem l14Twice_any (A : Option Addr) (n c : Nat) (xs : List (Int × Int)) (w : World) (h : Pts w A n xs) (hn : (n : Int) ≤ 1048576) (hok : allOk xs = true) :
    Calls Try.prog 63 #[.slice A n c] w fun e w' => e = .returned (.int .i64 (twiceTo xs n)) ∧ Over w w' := by
  go_enter Try.func63, Try.ntmps63
  go_wp2
  go_loopw [3, 4] (fun s i wr => ∃ k : Nat, k ≤ n ∧ i = .int .i64 k ∧ s = .int .i64 (twiceTo xs k) ∧ Over w wr) (fun _ i _ => n - (intOf i).toNat)
  case atStart => exact ⟨0, Nat.zero_le _, rfl, rfl, Over.refl _⟩
  case round =>
    rename_i wr
    obtain ⟨k, hk, rfl, rfl, hb⟩ := hrel
    by_cases hlt : k < n
    · have hl := h.1
      obtain ⟨b, o, rfl, hbB, hc1, hc2⟩ := (h.over hb).at_ hlt
      obtain ⟨b', o', e, hbB', hc1', hc2'⟩ := (h.over hb).at_ (k := nx xs k) (by have := nx_lt (xs := xs) k (by omega); omega)
      injection e with e
      injection e with e1 e2 _
      subst e1 e2
      obtain ⟨a1, a2, a3, a4⟩ := ok_at hok (show k < xs.length by omega)
      obtain ⟨b1, b2, b3, b4⟩ := ok_at hok (nx_lt k (show 0 < xs.length by omega))
      obtain ⟨m1, m1'⟩ := mul_bd a1 a2 b3 b4
      obtain ⟨m2, m2'⟩ := mul_bd a3 a4 b1 b2
      obtain ⟨t1, t2⟩ := twiceTo_bd hok k (by omega)
      have hnx := nx_int hl k
      have hnl := nx_lt k (show 0 < xs.length by omega)
      have hs : Hid (twiceTo xs (k + 1) = twiceTo xs k + (px xs k * py xs (nx xs k) - py xs k * px xs (nx xs k))) := rfl
      rw [hl] at hnl
      clear h hl
      go_wp2
      exact ⟨⟨k + 1, by omega, by go_num, by rw [hs.out], (by repeat (first | exact Over.refl _ | (with_reducible assumption) | refine Over.alloc_ ?_ _ | refine Over.trans ?_ (by with_reducible assumption) | refine Over.drew_ ?_ | refine Over.set_ ?_ (by simp; try omega) _))⟩, by simp [intOf]; omega⟩
    · clear h
      have hkn : k = n := by omega
      subst hkn
      go_wp2
      go_ret
      exact ⟨rfl, hb⟩
end Go.Proofs.Ytokmojopajdbfaa
