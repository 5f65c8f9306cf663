/- Twice the area of a region: both sides; the law's walk. -/
import Derived.Test.YtokmojopajdbfaaEdgeCount
namespace Go.Proofs.Ytokmojopajdbfaa
open Go Go.RowKit

def atA (rs : List Ring_) : Int := if regionB rs = true then legSum (edgesAll rs) else 0
theorem region_rings {rs : List Ring_} (h : regionB rs = true) {k : Nat} (hk : k < rs.length) : ringB (rg rs k) = true := by
  simp [regionB] at h
  have := h.1.2 rs[k] (List.getElem_mem hk)
  rwa [at_r hk] at this
theorem allTo_ok {rs : List Ring_} (h : regionB rs = true) : ∀ k, k ≤ rs.length → ∀ l ∈ allTo rs k, legOk l
  | 0, _, l, hl => by simp [allTo] at hl
  | k + 1, hk, l, hl => by
    simp only [allTo, List.mem_append] at hl
    rcases hl with h1 | h1
    · exact allTo_ok h k (by omega) l h1
    · exact edgesTo_ok (ringB_parts (region_rings h (show k < rs.length by omega))).2.2 _ (Nat.le_refl _) l h1
theorem legSum_allTo (rs : List Ring_) (k : Nat) : legSum (allTo rs (k + 1)) = legSum (allTo rs k) + twiceTo (rg rs k) (rg rs k).length := by
  simp only [allTo]
  rw [legSum_append, edgesR_sum]

set_option maxHeartbeats 1000000 in
set_option maxRecDepth 100000 in
theorem specAreaTwice_any (A : Option Addr) (n c : Nat) (rs : List Ring_) (w : World) (h : Rings w A n rs) (ht : (total rs : Int) ≤ 1048576) :
    Calls Try.prog 48 #[regV A n c] w fun e w' => e = .returned (.tuple #[.int .i64 (atA rs), .int .i64 (ecC rs)]) ∧ Over w w' := by
  have hl := Lib.hid h.1
  have Ht := Lib.hid ht
  have hn : (n : Int) ≤ 1048576 := by have := hl.out; unfold total at ht; omega
  cases hb : regionB rs
  · have hv : Hid (atA rs = 0 ∧ ecC rs = 1) := by simp [Hid, atA, ecC, hb]
    go_enter Try.func48, Try.ntmps48
    go_wp2_with (go_at_call 75; refine (l13Ok_any _ _ A n c rs _ (by go_simp) (by simp) (h.over (by repeat (first | exact Over.refl _ | (with_reducible assumption) | refine Over.alloc_ ?_ _ | refine Over.trans ?_ (by with_reducible assumption) | refine Over.drew_ ?_ | refine Over.set_ ?_ (by simp; try omega) _))) ht).mono ?_; rw [hb]; rintro e wx ⟨rfl, hb⟩; (first | (replace hO := Over.trans hO hb) | (replace hO := Over.trans (Over.alloc_ hO _) hb) | (replace hO := Over.trans (Over.alloc_ (Over.alloc_ hO _) _) hb) | (have hO := hb)); (try clear hc hf); obtain ⟨hc, hf⟩ := ocell hO; (try clear hb); (try clear hz0); have hz0 : w.heap.size < wx.heap.size := Nat.lt_of_lt_of_le (by simp <;> omega) (Over.size hO))
    exact bodyPost_ret (v := .tuple #[.int .i64 (0), .int .i64 (1)]) (by simp [results, Try.results48, go_sem, *]) rfl ⟨by rw [hv.out.1, hv.out.2], (by repeat (first | exact Over.refl _ | (with_reducible assumption) | refine Over.alloc_ ?_ _ | refine Over.trans ?_ (by with_reducible assumption) | refine Over.drew_ ?_ | refine Over.set_ ?_ (by simp; try omega) _))⟩
  · have hv : Hid (atA rs = legSum (edgesAll rs) ∧ ecC rs = 0) := by simp [Hid, atA, ecC, hb]
    have hB := Lib.hid hb
    clear ht
    go_enter Try.func48, Try.ntmps48
    go_wp2_with (go_at_call 75; refine (l13Ok_any _ _ A n c rs _ (by go_simp) (by simp) (h.over (by repeat (first | exact Over.refl _ | (with_reducible assumption) | refine Over.alloc_ ?_ _ | refine Over.trans ?_ (by with_reducible assumption) | refine Over.drew_ ?_ | refine Over.set_ ?_ (by simp; try omega) _))) Ht.out).mono ?_; rw [hb]; rintro e w1 ⟨rfl, h1⟩; obtain ⟨hc, hf⟩ := ocell h1)
    clear hc hf
    go_loopw [4, 5] (fun s i wr => ∃ k : Nat, k ≤ n ∧ i = .int .i64 k ∧ s = .int .i64 (legSum (allTo rs k)) ∧ Over w1 wr) (fun _ i _ => n - (intOf i).toNat)
    case atStart => exact ⟨0, Nat.zero_le _, rfl, rfl, Over.refl _⟩
    case round =>
      rename_i wr
      obtain ⟨k, hk, rfl, rfl, hO1⟩ := hrel
      have hx := Lib.hid (h1.trans hO1)
      have hO : Over w wr := (Over.alloc _ _).trans hx.out
      have hbx : wr.cell? ⟨w.heap.size, 0, none⟩ = some (.slice A n c) := ((ocell hx.out).1 _ _ (by simp)).trans (cell_new _ _ _ _)
      have hbz : w.heap.size < wr.heap.size := Nat.lt_of_lt_of_le (by simp) hx.out.size
      by_cases hlt : k < n
      · obtain ⟨b, o, Ak, ck, rfl, hbB, hcell2, hpts, hmax⟩ := (h.over hO).at_ hlt
        have hr : ((rg rs k).length : Int) ≤ 1048576 := by have := Ht.out; have := rg_le_total rs (k := k) (by rw [hl.out]; exact hlt); omega
        have hok := (ringB_parts (region_rings hB.out (k := k) (by rw [hl.out]; exact hlt))).2.2
        obtain ⟨t1, t2⟩ := twiceTo_bd hok _ (Nat.le_refl _)
        obtain ⟨u1, u2⟩ := legSum_bd (allTo rs k) (allTo_ok hB.out k (by rw [hl.out]; omega))
        have hle : (allTo rs k).length ≤ 1048576 := by
          have h1 := allTo_len rs k
          have h2 := sumTo_mono rs (show k ≤ n by omega)
          have h3 := Ht.out
          have h4 := hl.out
          unfold total at h3
          rw [h4] at h3
          omega
        have hs := Lib.hid (legSum_allTo rs k)
        clear h hO hmax h1
        go_wp2_with fail
        refine (l14Twice_any Ak _ ck (rg rs k) _ hpts hr hok).mono ?_
        rintro e w2 ⟨rfl, h2⟩
        clear hpts hok
        go_wp2
        go_roundw
        case rel => exact ⟨k + 1, by omega, by go_num, by rw [hs.out], (by repeat (first | exact Over.refl _ | (with_reducible assumption) | refine Over.alloc_ ?_ _ | refine Over.trans ?_ (by with_reducible assumption) | refine Over.drew_ ?_ | refine Over.set_ ?_ (by simp; try omega) _))⟩
        case measure => simp [intOf]; omega
      · have hkn : k = n := by omega
        have he : Hid (legSum (allTo rs n) = legSum (edgesAll rs)) := by unfold Hid edgesAll; rw [hl.out]
        clear h
        go_wp2
        exact bodyPost_ret (v := .tuple #[.int .i64 (legSum (allTo rs n)), .int .i64 0]) (by simp [results, Try.results48, go_sem, *]) rfl ⟨by rw [hv.out.1, hv.out.2, he.out], hO⟩

set_option maxHeartbeats 400000 in
theorem AreaTwice_any (A : Option Addr) (n c : Nat) (rs : List Ring_) (w : World) (h : Rings w A n rs) (ht : (total rs : Int) ≤ 1048576) :
    Calls Try.prog 49 #[regV A n c] w fun e w' => e = .returned (.tuple #[.int .i64 (atA rs), .int .i64 (ecC rs)]) ∧ Over w w' := by
  have hlen := Lib.hid (edgesAll_len rs)
  have hl := Lib.hid h.1
  cases hb : regionB rs
  · have hv : Hid (atA rs = 0 ∧ ecC rs = 1) := by simp [Hid, atA, ecC, hb]
    go_enter Try.func49, Try.ntmps49
    go_wp2_with (go_at_call 38; refine (ValidRegion_any _ _ _ rs _ (h.over (by repeat (first | exact Over.refl _ | (with_reducible assumption) | refine Over.alloc_ ?_ _ | refine Over.trans ?_ (by with_reducible assumption) | refine Over.drew_ ?_ | refine Over.set_ ?_ (by simp; try omega) _))) ht).mono ?_; rw [hb]; rintro e wx ⟨rfl, hb⟩; (first | (replace hO := Over.trans hO hb) | (replace hO := Over.trans (Over.alloc_ hO _) hb) | (replace hO := Over.trans (Over.alloc_ (Over.alloc_ hO _) _) hb) | (have hO := hb)); (try clear hc hf); obtain ⟨hc, hf⟩ := ocell hO; (try clear hb); (try clear hz0); have hz0 : w.heap.size < wx.heap.size := Nat.lt_of_lt_of_le (by simp <;> omega) (Over.size hO))
    exact bodyPost_ret (v := .tuple #[.int .i64 (0), .int .i64 (1)]) (by simp [results, Try.results49, go_sem, *]) rfl ⟨by rw [hv.out.1, hv.out.2], (by repeat (first | exact Over.refl _ | (with_reducible assumption) | refine Over.alloc_ ?_ _ | refine Over.trans ?_ (by with_reducible assumption) | refine Over.drew_ ?_ | refine Over.set_ ?_ (by simp; try omega) _))⟩
  · have hv : Hid (atA rs = legSum (edgesAll rs) ∧ ecC rs = 0) := by simp [Hid, atA, ecC, hb]
    have hok : ∀ l ∈ edgesAll rs, legOk l := allTo_ok hb _ (Nat.le_refl _)
    go_enter Try.func49, Try.ntmps49
    go_wp2_with (go_at_call 38; refine (ValidRegion_any _ _ _ rs _ (h.over (by repeat (first | exact Over.refl _ | (with_reducible assumption) | refine Over.alloc_ ?_ _ | refine Over.trans ?_ (by with_reducible assumption) | refine Over.drew_ ?_ | refine Over.set_ ?_ (by simp; try omega) _))) ht).mono ?_; rw [hb]; rintro e wx ⟨rfl, hb⟩; (first | (replace hO := Over.trans hO hb) | (replace hO := Over.trans (Over.alloc_ hO _) hb) | (replace hO := Over.trans (Over.alloc_ (Over.alloc_ hO _) _) hb) | (have hO := hb)); (try clear hc hf); obtain ⟨hc, hf⟩ := ocell hO; (try clear hb); (try clear hz0); have hz0 : w.heap.size < wx.heap.size := Nat.lt_of_lt_of_le (by simp <;> omega) (Over.size hO))
    refine (edgesOf_any _ _ _ rs _ (h.over (by repeat (first | exact Over.refl _ | (with_reducible assumption) | refine Over.alloc_ ?_ _ | refine Over.trans ?_ (by with_reducible assumption) | refine Over.drew_ ?_ | refine Over.set_ ?_ (by simp; try omega) _))) ht).mono ?_
    rintro e w2 ⟨v, rfl, hrow, h2⟩
    obtain ⟨A2, c2, rfl, hlegs, -⟩ := legs_of_row hrow rfl
    clear hrow
    go_wp2_with fail
    refine (areaTwice_any _ _ _ (edgesAll rs) _ hlegs (by have := hlen.out; omega) hok).mono ?_
    rintro e w3 ⟨rfl, h3⟩
    go_wp2
    exact bodyPost_ret (v := .tuple #[.int .i64 (legSum (edgesAll rs)), .int .i64 (0)]) (by simp [results, Try.results49, go_sem, *]) rfl ⟨by rw [hv.out.1, hv.out.2], (by repeat (first | exact Over.refl _ | (with_reducible assumption) | refine Over.alloc_ ?_ _ | refine Over.trans ?_ (by with_reducible assumption) | refine Over.drew_ ?_ | refine Over.set_ ?_ (by simp; try omega) _))⟩
end Go.Proofs.Ytokmojopajdbfaa
