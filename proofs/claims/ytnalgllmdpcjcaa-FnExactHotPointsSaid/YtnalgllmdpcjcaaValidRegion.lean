/- What makes a region valid: both sides. -/
import Derived.Test.YtnalgllmdpcjcaaAll
namespace Go.Proofs.Ytnalgllmdpcjcaa
open Go Go.RowKit

def regionB (rs : List Ring_) : Bool := decide (rs.length ≤ 40) && rs.all ringB && decide ((edgesAll rs).length ≤ 400)
theorem regionB_long {rs : List Ring_} (h : ¬ rs.length ≤ 40) : regionB rs = false := by simp [regionB, h]
theorem regionB_bad {rs : List Ring_} {k : Nat} (hk : k < rs.length) (h : ringB (rg rs k) = false) : regionB rs = false := by
  have : rs.all ringB = false := List.all_eq_false.2 ⟨rs[k], List.getElem_mem hk, by rw [at_r hk, h]; simp⟩
  simp [regionB, this]
theorem regionB_ok {rs : List Ring_} (h : rs.length ≤ 40) (ha : rs.all ringB = true) : regionB rs = decide ((edgesAll rs).length ≤ 400) := by simp [regionB, h, ha]
theorem take_all {rs : List Ring_} {k : Nat} (hk : k < rs.length) (h : (rs.take k).all ringB = true) (h2 : ringB (rg rs k) = true) : (rs.take (k + 1)).all ringB = true := by
  rw [List.take_succ_eq_append_getElem hk, List.all_append, h, at_r hk]
  simp [h2]

set_option maxHeartbeats 1000000 in
set_option maxRecDepth 100000 in
theorem l13Ok_any (b1 o1 : Nat) (A : Option Addr) (n c : Nat) (rs : List Ring_) (w : World) (hcell : w.cell? ⟨b1, o1, none⟩ = some (.slice A n c)) (hb1 : b1 < w.heap.size) (h : Rings w A n rs) (ht : (total rs : Int) ≤ 1048577) :
    Calls Try.prog 71 #[.pointer (some ⟨b1, o1, none⟩)] w fun e w' => e = .returned (.bool (regionB rs)) ∧ Over w w' := by
  have hl := Lib.hid h.1
  have Ht := Lib.hid ht
  have hn : (n : Int) ≤ 1048577 := by have := hl.out; unfold total at ht; omega
  clear ht
  by_cases h40 : (n : Int) ≤ 40
  · go_enter Try.func71, Try.ntmps71
    go_wp2
    go_loopw [3] (fun i wr => ∃ k : Nat, k ≤ n ∧ i = .int .i64 k ∧ Over w wr ∧ Hid ((rs.take k).all ringB = true)) (fun i _ => n - (intOf i).toNat)
    case atStart => exact ⟨0, Nat.zero_le _, rfl, Over.refl _, by simp [Hid]⟩
    case round =>
      rename_i wr
      obtain ⟨k, hk, rfl, hO, hall⟩ := hrel
      have hbx : wr.cell? ⟨b1, o1, none⟩ = some (.slice A n c) := ((ocell hO).1 _ _ hb1).trans hcell
      have hbz : b1 < wr.heap.size := Nat.lt_of_lt_of_le hb1 hO.size
      by_cases hlt : k < n
      · obtain ⟨b, o, Ak, ck, rfl, hbB, hcell2, hpts, hmax⟩ := (h.over hO).at_ hlt
        have hr : ((rg rs k).length : Int) ≤ 1048577 := by have := Ht.out; have := rg_le_total rs (k := k) (by rw [hl.out]; exact hlt); omega
        have HO := Lib.hid hO
        clear h hO hmax
        cases hv : ringB (rg rs k)
        · have hq := Lib.hid (regionB_bad (by rw [hl.out]; exact hlt) hv)
          go_wp2_with fail
          refine (l13Ring_any _ _ Ak _ ck (rg rs k) _ hcell2 hpts hr).mono ?_
          rw [hv]
          rintro e w2 ⟨rfl, h2⟩
          go_wp2
          go_ret
          exact ⟨by rw [hq.out]; rfl, HO.out.trans h2⟩
        · have hs := Lib.hid (take_all (by rw [hl.out]; exact hlt) hall.out hv)
          clear hall
          go_wp2_with fail
          refine (l13Ring_any _ _ Ak _ ck (rg rs k) _ hcell2 hpts hr).mono ?_
          rw [hv]
          rintro e w2 ⟨rfl, h2⟩
          go_wp2
          go_roundw
          case rel => exact ⟨k + 1, by omega, by go_num, HO.out.trans h2, hs⟩
          case measure => simp [intOf]; omega
      · have hkn : k = n := by omega
        have ha : rs.all ringB = true := by have := hall.out; rwa [List.take_of_length_le (by rw [hl.out]; omega)] at this
        have hq := Lib.hid (regionB_ok (by rw [hl.out]; omega) ha)
        clear ha hall
        go_wp2_with fail
        refine (l13All_any _ _ A n c rs _ hbx hbz (h.over hO) Ht.out).mono ?_
        rintro e w2 ⟨v, rfl, hv, hrow, h2⟩
        obtain ⟨g2, cap2, rfl, -, -⟩ := row_form hrow hv
        clear hrow hv
        go_wp2
        go_ret
        exact ⟨by rw [hq.out]; simp; omega, hO.trans h2⟩
  · have hq := Lib.hid (regionB_long (rs := rs) (by rw [hl.out]; omega))
    clear h
    go_enter Try.func71, Try.ntmps71
    go_wp2
    go_ret
    exact ⟨by rw [hq.out]; rfl, (by repeat (first | exact Over.refl _ | (with_reducible assumption) | refine Over.alloc_ ?_ _ | refine Over.trans ?_ (by with_reducible assumption) | refine Over.drew_ ?_ | refine Over.set_ ?_ (by simp; try omega) _))⟩

set_option maxHeartbeats 1000000 in
set_option maxRecDepth 100000 in
theorem ValidRegion_any (A : Option Addr) (n c : Nat) (rs : List Ring_) (w : World) (h : Rings w A n rs) (ht : (total rs : Int) ≤ 1048577) :
    Calls Try.prog 75 #[regV A n c] w fun e w' => e = .returned (.bool (regionB rs)) ∧ Over w w' := by
  have hl := Lib.hid h.1
  have Ht := Lib.hid ht
  have hn : (n : Int) ≤ 1048577 := by have := hl.out; unfold total at ht; omega
  clear ht
  by_cases h40 : (n : Int) ≤ 40
  · go_enter Try.func75, Try.ntmps75
    go_wp2
    go_loopw [3, 13] (fun s i wr => ∃ k : Nat, k ≤ n ∧ i = .int .i64 k ∧ s = .int .i64 (allTo rs k).length ∧ Over w wr ∧ Hid ((rs.take k).all ringB = true)) (fun _ i _ => n - (intOf i).toNat)
    case atStart => exact ⟨0, Nat.zero_le _, rfl, rfl, Over.alloc _ _, by simp [Hid]⟩
    case round =>
      rename_i wr
      obtain ⟨k, hk, rfl, rfl, hO, hall⟩ := hrel
      by_cases hlt : k < n
      · obtain ⟨b, o, Ak, ck, rfl, hbB, hcell2, hpts, hmax⟩ := (h.over hO).at_ hlt
        have hr : ((rg rs k).length : Int) ≤ 1048577 := by have := Ht.out; have := rg_le_total rs (k := k) (by rw [hl.out]; exact hlt); omega
        have hs2 : Hid (allTo rs (k + 1) = allTo rs k ++ edgesR (rg rs k)) := rfl
        have hsum : (allTo rs k).length + (edgesR (rg rs k)).length ≤ 1048577 := by
          have h1 := allTo_len rs (k + 1)
          have h2 := sumTo_mono rs (show k + 1 ≤ n by omega)
          have h3 := Ht.out
          have h4 := hl.out
          unfold total at h3
          rw [h4] at h3
          simp only [allTo, List.length_append] at h1
          omega
        have HO := Lib.hid hO
        have HP := Lib.hid hpts
        clear h hO hmax hpts
        cases hv : ringB (rg rs k)
        · have hq := Lib.hid (regionB_bad (by rw [hl.out]; exact hlt) hv)
          go_wp2_with fail
          refine (ValidRing_any _ _ _ (rg rs k) _ (HP.out.over (by repeat (first | exact Over.refl _ | (with_reducible assumption) | refine Over.alloc_ ?_ _ | refine Over.trans ?_ (by with_reducible assumption) | refine Over.drew_ ?_ | refine Over.set_ ?_ (by simp; try omega) _))) hr).mono ?_
          rw [hv]
          rintro e w2 ⟨rfl, h2⟩
          have HO2 := Lib.hid (HO.out.trans ((Over.alloc _ _).trans h2))
          go_wp2
          go_ret
          exact ⟨by rw [hq.out]; rfl, HO2.out⟩
        · have hs := Lib.hid (take_all (by rw [hl.out]; exact hlt) hall.out hv)
          clear hall
          go_wp2_with fail
          refine (ValidRing_any _ _ _ (rg rs k) _ (HP.out.over (by repeat (first | exact Over.refl _ | (with_reducible assumption) | refine Over.alloc_ ?_ _ | refine Over.trans ?_ (by with_reducible assumption) | refine Over.drew_ ?_ | refine Over.set_ ?_ (by simp; try omega) _))) hr).mono ?_
          rw [hv]
          rintro e w2 ⟨rfl, h2⟩
          obtain ⟨hc, hf⟩ := ocell h2
          go_wp2_with fail
          refine (edgesOfRing_any _ _ _ (rg rs k) _ (HP.out.over ((Over.alloc _ _).trans h2)) hr).mono ?_
          rintro e w3 ⟨v, rfl, hrow, h3⟩
          obtain ⟨A2, c2, rfl, -, -⟩ := legs_of_row hrow rfl
          have HO2 := Lib.hid (HO.out.trans ((Over.alloc _ _).trans (h2.trans h3)))
          clear hrow h2 h3 hc hf
          go_wp2
          go_roundw
          case rel => exact ⟨k + 1, by omega, by go_num, by rw [hs2.out, List.length_append]; go_num, HO2.out, hs⟩
          case measure => simp [intOf]; omega
      · have hkn : k = n := by omega
        have ha : rs.all ringB = true := by have := hall.out; rwa [List.take_of_length_le (by rw [hl.out]; omega)] at this
        have hq := Lib.hid (regionB_ok (by rw [hl.out]; omega) ha)
        have he : Hid (allTo rs n = edgesAll rs) := by unfold Hid edgesAll; rw [hl.out]
        clear ha hall h
        go_wp2
        go_ret
        exact ⟨by rw [hq.out]; simp; rw [he.out]; omega, hO⟩
  · have hq := Lib.hid (regionB_long (rs := rs) (by rw [hl.out]; omega))
    clear h
    go_enter Try.func75, Try.ntmps75
    go_wp2
    go_ret
    exact ⟨by rw [hq.out]; rfl, (by repeat (first | exact Over.refl _ | (with_reducible assumption) | refine Over.alloc_ ?_ _ | refine Over.trans ?_ (by with_reducible assumption) | refine Over.drew_ ?_ | refine Over.set_ ?_ (by simp; try omega) _))⟩
end Go.Proofs.Ytnalgllmdpcjcaa
