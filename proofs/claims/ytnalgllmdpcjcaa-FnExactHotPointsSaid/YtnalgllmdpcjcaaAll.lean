/- All edges of a region: the reference's side; what makes a region valid. -/
import Derived.Test.YtnalgllmdpcjcaaLegs2
namespace Go.Proofs.Ytnalgllmdpcjcaa
open Go Go.RowKit

def allTo (rs : List Ring_) : Nat → List Leg
  | 0 => []
  | k + 1 => allTo rs k ++ edgesR (rg rs k)
theorem edgesR_len (xs : Ring_) : (edgesR xs).length ≤ xs.length := edgesTo_len xs _
theorem allTo_len (rs : List Ring_) : ∀ k, (allTo rs k).length ≤ sumTo rs k
  | 0 => by simp [allTo]
  | k + 1 => by
    have := allTo_len rs k
    have := edgesR_len (rg rs k)
    simp only [allTo, sumTo, List.length_append]
    omega
def edgesAll (rs : List Ring_) : List Leg := allTo rs rs.length

theorem row_form {w : World} {B T s n : Nat} {v : Value} {xs : List Value} (h : w.ownsRow B T s v n xs) (hv : v ≠ .slice none 0 0) :
    ∃ g cap, v = .slice (some ⟨g, 0, none⟩) n cap ∧ xs.length = n * s ∧ ∀ j u, xs[j]? = some u → w.cell? ((⟨g, 0, none⟩ : Addr).add j) = some u := by
  rcases h.2 with ⟨e, _⟩ | ⟨g, cap, cur, e, hb, hg, hcap, _⟩
  · exact absurd e hv
  · exact ⟨g, cap, e, h.1, fun j u hj => h.cells (by rw [e]; rfl) j u hj⟩
theorem legs_one : ∀ ls : List Leg, ∀ u ∈ ls.flatMap legCells, u.oneCell' = true := by
  intro ls u hu
  obtain ⟨l, _, hl⟩ := List.mem_flatMap.1 hu
  simp [legCells] at hl
  rcases hl with rfl | rfl | rfl | rfl <;> rfl

set_option maxHeartbeats 2000000 in
set_option maxRecDepth 100000 in
theorem l13All_any (b1 o1 : Nat) (A : Option Addr) (n c : Nat) (rs : List Ring_) (w : World) (hcell : w.cell? ⟨b1, o1, none⟩ = some (.slice A n c)) (hb1 : b1 < w.heap.size) (h : Rings w A n rs) (ht : (total rs : Int) ≤ 1048577) :
    Calls Try.prog 89 #[.pointer (some ⟨b1, o1, none⟩)] w fun e w' => ∃ v, e = .returned v ∧ v ≠ .slice none 0 0 ∧ w'.ownsRow w.heap.size 117 4 v (edgesAll rs).length ((edgesAll rs).flatMap legCells) ∧ Over w w' := by
  obtain ⟨i0, hi, hz0, hz1, hz2⟩ := info_parts2 edgeInfo
  have hl0 := Lib.hid h.1
  have Ht := Lib.hid ht
  have hn : (n : Int) ≤ 1048577 := by have := hl0.out; unfold total at ht; omega
  clear ht
  go_enter Try.func89, Try.ntmps89
  go_wp2
  go_loopw [3, 4] (fun s i wr => ∃ k : Nat, k ≤ n ∧ i = .int .i64 k ∧ s ≠ .slice none 0 0 ∧ wr.ownsRow w.heap.size 117 4 s (allTo rs k).length ((allTo rs k).flatMap legCells) ∧ Over w wr) (fun _ i _ => n - (intOf i).toNat)
  case atStart => exact ⟨0, Nat.zero_le _, rfl, by simp, own_empty _ _ _, Over.alloc _ _⟩
  case round =>
    rename_i wr
    obtain ⟨k, hk, rfl, hnn, hown, hO⟩ := hrel
    have hbx : wr.cell? ⟨b1, o1, none⟩ = some (.slice A n c) := ((ocell hO).1 _ _ hb1).trans hcell
    have hbz : b1 < wr.heap.size := Nat.lt_of_lt_of_le hb1 hO.size
    by_cases hlt : k < n
    · obtain ⟨b, o, Ak, ck, rfl, hbB, hcell2, hpts, hmax⟩ := (h.over hO).at_ hlt
      have hr : ((rg rs k).length : Int) ≤ 1048577 := by have := Ht.out; have := rg_le_total rs (k := k) (by rw [hl0.out]; exact hlt); omega
      have hs : Hid (allTo rs (k + 1) = allTo rs k ++ edgesR (rg rs k)) := rfl
      have hsum : (allTo rs k).length + (edgesR (rg rs k)).length ≤ 1048577 := by
        have h1 := allTo_len rs (k + 1)
        have h2 := sumTo_mono rs (show k + 1 ≤ n by omega)
        have h3 := Ht.out
        have h4 := hl0.out
        unfold total at h3
        rw [h4] at h3
        simp only [allTo, List.length_append] at h1
        omega
      have Hown := Lib.hid hown
      have Hnn := Lib.hid hnn
      have HO := Lib.hid hO
      clear h hown hO hnn hmax
      go_wp2_with fail
      refine (l13Edges_any _ _ Ak _ ck (rg rs k) _ hcell2 hbB hpts hr).mono ?_
      rintro e w2 ⟨v, rfl, hv, hrow, h2⟩
      obtain ⟨g2, cap2, rfl, hlen2, hcells2⟩ := row_form hrow hv
      have H2 := Lib.hid h2
      clear hrow hv h2 hpts
      go_wp2_with (at_builtin; refine wpList_append_own _ rfl _ _ 113 rfl w.heap.size 117 i0 _ 4 32 Try.underlying113 hi hz0 hz1 hz2 rfl (by decide) _ _ _ rfl (row_over Hown.out H2.out) ⟨g2, 0, none⟩ (edgesR (rg rs k)).length cap2 ((edgesR (rg rs k)).flatMap legCells) rfl hlen2 hcells2 (legs_one _) (by unfold maxLen; omega) (by omega) (by have := HO.out.size; have := H2.out.size; omega) ?_)
      intro v' w5 hown5 hgrow5 hnn5
      have R0 : Hid (v' ≠ .slice none 0 0) := fun e => Hnn.out (hnn5.1 e).1
      have R1 : Hid (Over w w5) := over_grown HO.out Hown.out (Nat.le_refl _) H2.out hgrow5
      have R2 : Hid (w5.ownsRow w.heap.size 117 4 v' (allTo rs (k + 1)).length ((allTo rs (k + 1)).flatMap legCells)) := by
        unfold Hid
        rw [hs.out]
        simpa using hown5
      clear hown5 hgrow5 hnn5 hcells2
      go_wp2
      go_roundw
      case rel => exact ⟨k + 1, by omega, by go_num, R0.out, R2.out, R1.out⟩
      case measure => simp [intOf]; omega
    · clear h
      have hkn : k = n := by omega
      have hb' := Lib.hid hO
      have hr : Hid (u3 ≠ .slice none 0 0 ∧ wr.ownsRow w.heap.size 117 4 u3 (edgesAll rs).length ((edgesAll rs).flatMap legCells)) := by
        unfold Hid edgesAll
        rw [hl0.out, ← hkn]
        exact ⟨hnn, hown⟩
      clear hown hO hnn
      go_wp2
      go_ret
      exact ⟨_, rfl, hr.out.1, hr.out.2, hb'.out⟩
end Go.Proofs.Ytnalgllmdpcjcaa
