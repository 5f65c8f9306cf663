import Derived.Test.YtjhaakollekjeaaDoorO11
import Derived.Test.YtjhaakollekjeaaDoorO12
namespace Go.Proofs.YtjhaakollekjeaaDoor
open Go Go.RowKit
set_option linter.unusedVariables false
set_option linter.unusedSimpArgs false

theorem edgeInfo : (Tryd.prog.info? 159).map (fun i => (i.zero, i.size, i.bytes)) = some (some (.agg #[.int .i64 0, .int .i64 0, .int .i64 0, .int .i64 0]), 4, 32) := by kernel_rfl

theorem four_cells {w : World} {b : Nat} {x y z u : Value} {t : TypeId} (h : w.heap[b]? = some (.cells (Value.agg #[x, y, z, u]).cells t (0, 0))) :
  w.cell? ⟨b, 0, none⟩ = some x ∧ w.cell? ⟨b, 1, none⟩ = some y ∧ w.cell? ⟨b, 2, none⟩ = some z ∧ w.cell? ⟨b, 3, none⟩ = some u :=
 ⟨(cell_of_row w b 0 _ t (0, 0) h).trans rfl, (cell_of_row w b 1 _ t (0, 0) h).trans rfl, (cell_of_row w b 2 _ t (0, 0) h).trans rfl, (cell_of_row w b 3 _ t (0, 0) h).trans rfl⟩

theorem own_empty (w : World) (T s : Nat) : (w.alloc (.cells #[] T)).ownsRow w.heap.size T s (.slice (some ⟨w.heap.size, 0, none⟩) 0 0) 0 [] :=
 ⟨by simp, .inr ⟨w.heap.size, 0, #[], rfl, Nat.le_refl _, heap_alloc_new w _, Nat.le_refl _, by unfold maxLen; omega, by simp, by simp⟩⟩

set_option maxHeartbeats 2000000 in
set_option maxRecDepth 100000 in
theorem l13Edges_any (b1 o1 : Nat) (A : Option Addr) (n c : Nat) (xs : List (Int × Int)) (w : World) (hcell : w.cell? ⟨b1, o1, none⟩ = some (.slice A n c)) (hb1 : b1 < w.heap.size) (h : Pts w A n xs) (hn : (n : Int) ≤ 1048577) :
  Calls Tryd.prog 74 #[.pointer (some ⟨b1, o1, none⟩)] w fun e w' => ∃ v, e = .returned v ∧ v ≠ .slice none 0 0 ∧ w'.ownsRow w.heap.size 159 4 v (edgesR xs).length ((edgesR xs).flatMap legCells) ∧ Over w w' := by
 obtain ⟨i0, hi, hz0, hz1, hz2⟩ := info_parts2 edgeInfo
 go_enter Tryd.func74, Tryd.ntmps74
 go_wp2
 go_loopw [3, 5] (fun s i wr => ∃ k : Nat, k ≤ n ∧ i = .int .i64 k ∧ s ≠ .slice none 0 0 ∧ wr.ownsRow w.heap.size 159 4 s (edgesTo xs k).length ((edgesTo xs k).flatMap legCells) ∧ Over w wr) (fun _ i _ => n - (intOf i).toNat)
 case atStart => exact ⟨0, Nat.zero_le _, rfl, by simp, own_empty _ _ _, Over.alloc _ _⟩
 case round =>
  rename_i wr
  have hl0 := h.1
  obtain ⟨k, hk, rfl, hnn, hown, hO⟩ := hrel
  by_cases hlt : k < n
  ·have hl := h.1
   obtain ⟨b, o, rfl, hbB, hc1, hc2⟩ := (h.over hO).at_ hlt
   obtain ⟨b', o', e, hbB', hc1', hc2'⟩ := (h.over hO).at_ (k := nx xs k) (by have := nx_lt (xs := xs) k (by omega); omega)
   injection e with e
   injection e with e1 e2 _
   subst e1 e2
   have hnx : ((k : Int) + 1).tmod (n : Int) = ((nx xs k : Nat) : Int) := by rw [Int.tmod_eq_emod_of_nonneg (by omega)]; exact nx_int hl k
   have hnl := nx_lt k (show 0 < xs.length by omega)
   have hbx : wr.cell? ⟨b1, o1, none⟩ = some (.slice (some ⟨b, o, none⟩) n c) := ((ocell hO).1 _ _ hb1).trans hcell
   have hbz : b1 < wr.heap.size := Nat.lt_of_lt_of_le hb1 hO.size
   rw [hl] at hnl
   have hn0 : ¬ n = 0 := by omega
   have Hown := Lib.hid hown
   have Hnn := Lib.hid hnn
   have HO := Lib.hid hO
   have hs := Lib.hid (edgesTo_succ xs k)
   generalize px xs k = x at hc1 hs
   generalize py xs k = y at hc2 hs
   generalize px xs (nx xs k) = x' at hc1' hs
   generalize py xs (nx xs k) = y' at hc2' hs
   clear h hl hown hO hnn
   go_wp2
   refine wp_region_O (B := ob _) (Over.refl _) (by kernel_rfl) (by simp only [List.size_toArray, List.length_cons, List.length_nil, Nat.reduceAdd]; rfl) (fun hBW => ?_)
   refine wpAnyO_take (i := 0) (v := _) (by assumption) (by simp only [xa,xb]; rfl) (by kernel_rfl) (by kernel_rfl) (by kernel_rfl) (by exact fun _ _ _ h => h) (by kernel_rfl) (fun wx hS => by (obtain ⟨hc, hf⟩ := ocell hS; clear hS; go_simp; (try go_bits); exact ⟨rfl, Over.refl _⟩)) ?_
   simp only [Act.put,xd,yc,yd]
   refine wpAnyO_take (i := 1) (v := _) (by assumption) (by simp only [xa,xb,xc]; rfl) (by kernel_rfl) (by kernel_rfl) (by kernel_rfl) (by exact fun _ _ _ h => h) (by kernel_rfl) (fun wx hS => by (obtain ⟨hc, hf⟩ := ocell hS; clear hS; go_simp; (try go_bits); exact ⟨rfl, Over.refl _⟩)) ?_
   simp only [Act.put,xd,yc,yd]
   refine wpAnyO_take (i := 2) (v := _) (by assumption) (by simp only [xa,xb,xc]; rfl) (by kernel_rfl) (by kernel_rfl) (by kernel_rfl) (by exact fun _ _ _ h => h) (by kernel_rfl) (fun wx hS => by (obtain ⟨hc, hf⟩ := ocell hS; clear hS; go_simp; (try go_bits); exact ⟨rfl, Over.refl _⟩)) ?_
   simp only [Act.put,xd,yc,yd]
   refine wpAnyO_take (i := 3) (v := _) (by assumption) (by simp only [xa,xb,xc]; rfl) (by kernel_rfl) (by kernel_rfl) (by kernel_rfl) (by exact fun _ _ _ h => h) (by kernel_rfl) (fun wx hS => by (obtain ⟨hc, hf⟩ := ocell hS; clear hS; go_simp; (try go_bits); exact ⟨rfl, Over.refl _⟩)) ?_
   simp only [Act.put,xd,yc,yd]
   refine wpAnyO_take (i := 4) (v := _) (by assumption) (by simp only [xa,xb,xc]; rfl) (by kernel_rfl) (by kernel_rfl) (by kernel_rfl) (by exact fun _ _ _ h => h) (by kernel_rfl) (fun wx hS => by (obtain ⟨hc, hf⟩ := ocell hS; clear hS; go_simp; (try go_bits); exact ⟨rfl, Over.refl _⟩)) ?_
   simp only [Act.put,xd,yc,yd]
   refine wpAnyO_take (i := 5) (v := _) (by assumption) (by simp only [xa,xb,xc]; rfl) (by kernel_rfl) (by kernel_rfl) (by kernel_rfl) (by exact fun _ _ _ h => h) (by kernel_rfl) (fun wx hS => by (obtain ⟨hc, hf⟩ := ocell hS; clear hS; go_simp; (try go_bits); exact ⟨rfl, Over.refl _⟩)) ?_
   simp only [Act.put,xd,yc,yd]
   refine wpAnyO_take (i := 6) (v := _) (by assumption) (by simp only [xa,xb,xc]; rfl) (by kernel_rfl) (by kernel_rfl) (by kernel_rfl) (by exact fun _ _ _ h => h) (by kernel_rfl) (fun wx hS => by (obtain ⟨hc, hf⟩ := ocell hS; clear hS; go_simp; (try go_bits); exact ⟨rfl, Over.refl _⟩)) ?_
   simp only [Act.put,xd,yc,yd]
   refine wpAnyO_take (i := 7) (v := _) (by assumption) (by simp only [xa,xb,xc]; rfl) (by kernel_rfl) (by kernel_rfl) (by kernel_rfl) (by exact fun _ _ _ h => h) (by kernel_rfl) (fun wx hS => by (obtain ⟨hc, hf⟩ := ocell hS; clear hS; go_simp; (try go_bits); exact ⟨rfl, Over.refl _⟩)) ?_
   simp only [Act.put,xd,yc,yd]
   refine wpAnyO_take (i := 8) (v := _) (by assumption) (by simp only [xa,xb,xc]; rfl) (by kernel_rfl) (by kernel_rfl) (by kernel_rfl) (by exact fun _ _ _ h => h) (by kernel_rfl) (fun wx hS => by (obtain ⟨hc, hf⟩ := ocell hS; clear hS; go_simp; (try go_bits); exact ⟨rfl, Over.refl _⟩)) ?_
   simp only [Act.put,xd,yc,yd]
   refine wpAnyO_take (i := 9) (v := _) (by assumption) (by simp only [xa,xb,xc]; rfl) (by kernel_rfl) (by kernel_rfl) (by kernel_rfl) (by exact fun _ _ _ h => h) (by kernel_rfl) (fun wx hS => by (obtain ⟨hc, hf⟩ := ocell hS; clear hS; go_simp; (try go_bits); exact ⟨rfl, Over.refl _⟩)) ?_
   simp only [Act.put,xd,yc,yd]
   refine wpAnyO_take (i := 10) (v := _) (by assumption) (by simp only [xa,xb,xc]; rfl) (by kernel_rfl) (by kernel_rfl) (by kernel_rfl) (by exact fun _ _ _ h => h) (by kernel_rfl) (fun wx hS => by (obtain ⟨hc, hf⟩ := ocell hS; clear hS; go_simp; (try go_bits); exact ⟨rfl, Over.refl _⟩)) ?_
   simp only [Act.put,xd,yc,yd]
   refine wpAnyO_take (i := 11) (v := _) (by assumption) (by simp only [xa,xb,xc]; rfl) (by kernel_rfl) (by kernel_rfl) (by kernel_rfl) (by exact fun _ _ _ h => h) (by kernel_rfl) (fun wx hS => by (obtain ⟨hc, hf⟩ := ocell hS; clear hS; go_simp; (try go_bits); exact ⟨rfl, Over.refl _⟩)) ?_
   simp only [Act.put,xd,yc,yd]
   refine wpAnyO_take (i := 12) (v := _) (by assumption) (by simp only [xa,xb,xc]; rfl) (by kernel_rfl) (by kernel_rfl) (by kernel_rfl) (by exact fun _ _ _ h => h) (by kernel_rfl) (fun wx hS => by (obtain ⟨hc, hf⟩ := ocell hS; clear hS; go_simp; (try go_bits); exact ⟨rfl, Over.refl _⟩)) ?_
   simp only [Act.put,xd,yc,yd]
   refine wpAnyO_take (i := 13) (v := _) (by assumption) (by simp only [xa,xb,xc]; rfl) (by kernel_rfl) (by kernel_rfl) (by kernel_rfl) (by exact fun _ _ _ h => h) (by kernel_rfl) (fun wx hS => by (obtain ⟨hc, hf⟩ := ocell hS; clear hS; go_simp; (try go_bits); exact ⟨rfl, Over.refl _⟩)) ?_
   simp only [Act.put,xd,yc,yd]
   refine wpAnyO_take (i := 14) (v := _) (by assumption) (by simp only [xa,xb,xc]; rfl) (by kernel_rfl) (by kernel_rfl) (by kernel_rfl) (by exact fun _ _ _ h => h) (by kernel_rfl) (fun wx hS => by (obtain ⟨hc, hf⟩ := ocell hS; clear hS; go_simp; (try go_bits); exact ⟨rfl, Over.refl _⟩)) ?_
   simp only [Act.put,xd,yc,yd]
   refine wpAnyO_take (i := 15) (v := _) (by assumption) (by simp only [xa,xb,xc]; rfl) (by kernel_rfl) (by kernel_rfl) (by kernel_rfl) (by exact fun _ _ _ h => h) (by kernel_rfl) (fun wx hS => by (obtain ⟨hc, hf⟩ := ocell hS; clear hS; go_simp; (try go_bits); exact ⟨rfl, Over.refl _⟩)) ?_
   simp only [Act.put,xd,yc,yd]
   refine wpAnyO_take (i := 16) (v := _) (by assumption) (by simp only [xa,xb,xc]; rfl) (by kernel_rfl) (by kernel_rfl) (by kernel_rfl) (by exact fun _ _ _ h => h) (by kernel_rfl) (fun wx hS => by (obtain ⟨hc, hf⟩ := ocell hS; clear hS; go_simp; (try go_bits); exact ⟨rfl, Over.refl _⟩)) ?_
   simp only [Act.put,xd,yc,yd]
   refine wpAnyO_take (i := 17) (v := _) (by assumption) (by simp only [xa,xb,xc]; rfl) (by kernel_rfl) (by kernel_rfl) (by kernel_rfl) (by exact fun _ _ _ h => h) (by kernel_rfl) (fun wx hS => by (obtain ⟨hc, hf⟩ := ocell hS; clear hS; go_simp; (try go_bits); exact ⟨rfl, Over.refl _⟩)) ?_
   simp only [Act.put,xd,yc,yd]
   refine wpAnyO_new1 (i := 18) (k := 19) (by assumption) (by simp only [xa,xb,xc]; rfl) (by simp only [xa,xb,xc]; rfl) (by rfl) (by rfl) (by rfl) (by rfl) (by rfl) (by rfl) (fun _ => by (go_simp; rfl)) (by kernel_rfl) (by kernel_rfl) (fun _ => by rfl) (fun _ => by rfl) (by kernel_rfl) (by rfl) (by simp [Value.oneCell']) ?_
   intro w2 q1 ho hq1 hl1 hh1 hBx
   replace hBW := hBx; clear hBx
   simp only [Act.put,xd,yc,yd]
   obtain ⟨k1, k2, k3, k4⟩ := four_cells hh1
   refine wpAnyO_done (by kernel_rfl) (fun w3 h3 => ?_) _
   try clear hBW
   have H3 := Lib.hid (ho.trans h3)
   have l1 := ((ocell h3).1 q1 0 hl1).trans k1
   have l2 := ((ocell h3).1 q1 1 hl1).trans k2
   have l3 := ((ocell h3).1 q1 2 hl1).trans k3
   have l4 := ((ocell h3).1 q1 3 hl1).trans k4
   have hl3 : q1 < w3.heap.size := Nat.lt_of_lt_of_le hl1 h3.size
   have hw3 := H3.out.size
   clear k1 k2 k3 k4 ho h3 hh1
   have key : (x = x' ∧ y = y') ∨ (¬ x = x') ∨ (x = x' ∧ ¬ y = y') := by omega
   rcases key with ⟨rfl, rfl⟩ | hne | ⟨rfl, hne⟩
   ·replace hs : Hid (edgesTo xs (k + 1) = edgesTo xs k) := by have := hs.out; rw [if_pos ⟨rfl, rfl⟩] at this; exact this
    go_wp2
    go_roundw
    case rel => exact ⟨k + 1, by omega, by go_num, Hnn.out, by rw [hs.out]; exact row_over Hown.out H3.out, HO.out.trans H3.out⟩
    case measure => simp [intOf]; omega
   all_goals
    replace hs := Lib.hid (hs.out.trans (if_neg (by omega)))
    have hlen := edgesTo_len xs k
    go_wp2_with (at_builtin; refine wpList_append_own _ rfl _ _ 105 rfl w.heap.size 159 i0 _ 4 32 Tryd.underlying105 hi hz0 hz1 hz2 rfl (by decide) _ _ _ rfl ((row_over Hown.out H3.out).alloc _) ⟨w3.heap.size, 0, none⟩ 1 1 (legCells ⟨x, y, _, y'⟩) rfl rfl (one_cells rfl) (by simp [legCells, Value.oneCell']) (by unfold maxLen; omega) (by omega) (by have := HO.out.size; have := H3.out.size; simp at *; omega) ?_)
    intro v' w5 hown5 hgrow5 hnn5
    have R0 : Hid (v' ≠ .slice none 0 0) := hnn5
    have R1 : Hid (Over w w5) := over_grown HO.out Hown.out (Nat.le_refl _) (Over.alloc_ H3.out _) hgrow5
    have R2 : Hid (w5.ownsRow w.heap.size 159 4 v' (edgesTo xs (k + 1)).length ((edgesTo xs (k + 1)).flatMap legCells)) := by
     unfold Hid
     rw [hs.out]
     simpa using hown5
    clear hown5 hgrow5 hnn5
    go_wp2
    go_roundw
    case rel => exact ⟨k + 1, by omega, by go_num, R0.out, R2.out, R1.out⟩
    case measure => simp [intOf]; omega
  ·clear h
   have hkn : k = n := by omega
   have hb' := Lib.hid hO
   have hr : Hid (u3 ≠ .slice none 0 0 ∧ wr.ownsRow w.heap.size 159 4 u3 (edgesR xs).length ((edgesR xs).flatMap legCells)) := by
    unfold Hid edgesR
    rw [hl0, ← hkn]
    exact ⟨hnn, hown⟩
   clear hown hO hnn
   go_wp2
   go_ret
   exact ⟨_, rfl, hr.out.1, hr.out.2, hb'.out⟩
def allTo (rs : List Ring_) : Nat → List Leg
 | 0 => []
 | k + 1 => allTo rs k ++ edgesR (rg rs k)
theorem edgesR_len (xs : Ring_) : (edgesR xs).length ≤ xs.length := edgesTo_len xs _
theorem allTo_len (rs : List Ring_) : ∀ k, (allTo rs k).length ≤ sumTo rs k
 | 0 => by simp [allTo]
 | k + 1 => by
  have := allTo_len rs k
  have := edgesR_len (rg rs k)
  simp only [allTo, sumTo, List.length_append]
  omega
def edgesAll (rs : List Ring_) : List Leg := allTo rs rs.length

theorem row_form {w : World} {B T s n : Nat} {v : Value} {xs : List Value} (h : w.ownsRow B T s v n xs) (hv : v ≠ .slice none 0 0) :
  ∃ g cap, v = .slice (some ⟨g, 0, none⟩) n cap ∧ xs.length = n * s ∧ ∀ j u, xs[j]? = some u → w.cell? ((⟨g, 0, none⟩ : Addr).add j) = some u := by
 rcases h.2 with ⟨e, _⟩ | ⟨g, cap, cur, e, hb, hg, hcap, _⟩
 ·exact absurd e hv
 ·exact ⟨g, cap, e, h.1, fun j u hj => h.cells (by rw [e]; rfl) j u hj⟩
theorem legs_one : ∀ ls : List Leg, ∀ u ∈ ls.flatMap legCells, u.oneCell' = true := by
 intro ls u hu
 obtain ⟨l, _, hl⟩ := List.mem_flatMap.1 hu
 simp [legCells] at hl
 rcases hl with rfl | rfl | rfl | rfl <;> rfl

set_option maxHeartbeats 2000000 in
set_option maxRecDepth 100000 in
theorem l13All_any (b1 o1 : Nat) (A : Option Addr) (n c : Nat) (rs : List Ring_) (w : World) (hcell : w.cell? ⟨b1, o1, none⟩ = some (.slice A n c)) (hb1 : b1 < w.heap.size) (h : Rings w A n rs) (ht : (total rs : Int) ≤ 1048577) :
  Calls Tryd.prog 47 #[.pointer (some ⟨b1, o1, none⟩)] w fun e w' => ∃ v, e = .returned v ∧ v ≠ .slice none 0 0 ∧ w'.ownsRow w.heap.size 159 4 v (edgesAll rs).length ((edgesAll rs).flatMap legCells) ∧ Over w w' := by
 obtain ⟨i0, hi, hz0, hz1, hz2⟩ := info_parts2 edgeInfo
 have hl0 := Lib.hid h.1
 have Ht := Lib.hid ht
 have hn : (n : Int) ≤ 1048577 := by have := hl0.out; unfold total at ht; omega
 clear ht
 go_enter Tryd.func47, Tryd.ntmps47
 go_wp2
 go_loopw [3, 4] (fun s i wr => ∃ k : Nat, k ≤ n ∧ i = .int .i64 k ∧ s ≠ .slice none 0 0 ∧ wr.ownsRow w.heap.size 159 4 s (allTo rs k).length ((allTo rs k).flatMap legCells) ∧ Over w wr) (fun _ i _ => n - (intOf i).toNat)
 case atStart => exact ⟨0, Nat.zero_le _, rfl, by simp, own_empty _ _ _, Over.alloc _ _⟩
 case round =>
  rename_i wr
  obtain ⟨k, hk, rfl, hnn, hown, hO⟩ := hrel
  have hbx : wr.cell? ⟨b1, o1, none⟩ = some (.slice A n c) := ((ocell hO).1 _ _ hb1).trans hcell
  have hbz : b1 < wr.heap.size := Nat.lt_of_lt_of_le hb1 hO.size
  by_cases hlt : k < n
  ·obtain ⟨b, o, Ak, ck, rfl, hbB, hcell2, hpts, hmax⟩ := (h.over hO).at_ hlt
   have hr : ((rg rs k).length : Int) ≤ 1048577 := by have := Ht.out; have := rg_le_total rs (k := k) (by rw [hl0.out]; exact hlt); omega
   have hs : Hid (allTo rs (k + 1) = allTo rs k ++ edgesR (rg rs k)) := rfl
   have hsum : (allTo rs k).length + (edgesR (rg rs k)).length ≤ 1048577 := by
    have h1 := allTo_len rs (k + 1)
    have h2 := sumTo_mono rs (show k + 1 ≤ n by omega)
    have h3 := Ht.out
    have h4 := hl0.out
    unfold total at h3
    rw [h4] at h3
    simp only [allTo, List.length_append] at h1
    omega
   have Hown := Lib.hid hown
   have Hnn := Lib.hid hnn
   have HO := Lib.hid hO
   clear h hown hO hnn hmax
   go_wp2_with fail
   refine (l13Edges_any _ _ Ak _ ck (rg rs k) _ hcell2 hbB hpts hr).mono ?_
   rintro e w2 ⟨v, rfl, hv, hrow, h2⟩
   obtain ⟨g2, cap2, rfl, hlen2, hcells2⟩ := row_form hrow hv
   have H2 := Lib.hid h2
   clear hrow hv h2 hpts
   go_wp2_with (at_builtin; refine wpList_append_own _ rfl _ _ 105 rfl w.heap.size 159 i0 _ 4 32 Tryd.underlying105 hi hz0 hz1 hz2 rfl (by decide) _ _ _ rfl (row_over Hown.out H2.out) ⟨g2, 0, none⟩ (edgesR (rg rs k)).length cap2 ((edgesR (rg rs k)).flatMap legCells) rfl hlen2 hcells2 (legs_one _) (by unfold maxLen; omega) (by omega) (by have := HO.out.size; have := H2.out.size; omega) ?_)
   intro v' w5 hown5 hgrow5 hnn5
   have R0 : Hid (v' ≠ .slice none 0 0) := fun e => Hnn.out (hnn5.1 e).1
   have R1 : Hid (Over w w5) := over_grown HO.out Hown.out (Nat.le_refl _) H2.out hgrow5
   have R2 : Hid (w5.ownsRow w.heap.size 159 4 v' (allTo rs (k + 1)).length ((allTo rs (k + 1)).flatMap legCells)) := by
    unfold Hid
    rw [hs.out]
    simpa using hown5
   clear hown5 hgrow5 hnn5 hcells2
   go_wp2
   go_roundw
   case rel => exact ⟨k + 1, by omega, by go_num, R0.out, R2.out, R1.out⟩
   case measure => simp [intOf]; omega
  ·clear h
   have hkn : k = n := by omega
   have hb' := Lib.hid hO
   have hr : Hid (u3 ≠ .slice none 0 0 ∧ wr.ownsRow w.heap.size 159 4 u3 (edgesAll rs).length ((edgesAll rs).flatMap legCells)) := by
    unfold Hid edgesAll
    rw [hl0.out, ← hkn]
    exact ⟨hnn, hown⟩
   clear hown hO hnn
   go_wp2
   go_ret
   exact ⟨_, rfl, hr.out.1, hr.out.2, hb'.out⟩
def regionB (rs : List Ring_) : Bool := decide (rs.length ≤ 40) && rs.all ringB && decide ((edgesAll rs).length ≤ 400)
theorem regionB_long {rs : List Ring_} (h : ¬ rs.length ≤ 40) : regionB rs = false := by simp [regionB, h]
theorem regionB_bad {rs : List Ring_} {k : Nat} (hk : k < rs.length) (h : ringB (rg rs k) = false) : regionB rs = false := by
 have : rs.all ringB = false := List.all_eq_false.2 ⟨rs[k], List.getElem_mem hk, by rw [at_r hk, h]; simp⟩
 simp [regionB, this]
theorem regionB_ok {rs : List Ring_} (h : rs.length ≤ 40) (ha : rs.all ringB = true) : regionB rs = decide ((edgesAll rs).length ≤ 400) := by simp [regionB, h, ha]
theorem take_all {rs : List Ring_} {k : Nat} (hk : k < rs.length) (h : (rs.take k).all ringB = true) (h2 : ringB (rg rs k) = true) : (rs.take (k + 1)).all ringB = true := by
 rw [List.take_succ_eq_append_getElem hk, List.all_append, h, at_r hk]
 simp [h2]

set_option maxHeartbeats 1000000 in
set_option maxRecDepth 100000 in
theorem l13Ok_any (b1 o1 : Nat) (A : Option Addr) (n c : Nat) (rs : List Ring_) (w : World) (hcell : w.cell? ⟨b1, o1, none⟩ = some (.slice A n c)) (hb1 : b1 < w.heap.size) (h : Rings w A n rs) (ht : (total rs : Int) ≤ 1048577) :
  Calls Tryd.prog 23 #[.pointer (some ⟨b1, o1, none⟩)] w fun e w' => e = .returned (.bool (regionB rs)) ∧ Over w w' := by
 have hl := Lib.hid h.1
 have Ht := Lib.hid ht
 have hn : (n : Int) ≤ 1048577 := by have := hl.out; unfold total at ht; omega
 clear ht
 by_cases h40 : (n : Int) ≤ 40
 ·go_enter Tryd.func23, Tryd.ntmps23
  go_wp2
  go_loopw [3] (fun i wr => ∃ k : Nat, k ≤ n ∧ i = .int .i64 k ∧ Over w wr ∧ Hid ((rs.take k).all ringB = true)) (fun i _ => n - (intOf i).toNat)
  case atStart => exact ⟨0, Nat.zero_le _, rfl, Over.refl _, by simp [Hid]⟩
  case round =>
   rename_i wr
   obtain ⟨k, hk, rfl, hO, hall⟩ := hrel
   have hbx : wr.cell? ⟨b1, o1, none⟩ = some (.slice A n c) := ((ocell hO).1 _ _ hb1).trans hcell
   have hbz : b1 < wr.heap.size := Nat.lt_of_lt_of_le hb1 hO.size
   by_cases hlt : k < n
   ·obtain ⟨b, o, Ak, ck, rfl, hbB, hcell2, hpts, hmax⟩ := (h.over hO).at_ hlt
    have hr : ((rg rs k).length : Int) ≤ 1048577 := by have := Ht.out; have := rg_le_total rs (k := k) (by rw [hl.out]; exact hlt); omega
    have HO := Lib.hid hO
    clear h hO hmax
    cases hv : ringB (rg rs k)
    ·have hq := Lib.hid (regionB_bad (by rw [hl.out]; exact hlt) hv)
     go_wp2_with fail
     refine (l13Ring_any _ _ Ak _ ck (rg rs k) _ hcell2 hpts hr).mono ?_
     rw [hv]
     rintro e w2 ⟨rfl, h2⟩
     go_wp2
     go_ret
     exact ⟨by rw [hq.out]; rfl, HO.out.trans h2⟩
    ·have hs := Lib.hid (take_all (by rw [hl.out]; exact hlt) hall.out hv)
     clear hall
     go_wp2_with fail
     refine (l13Ring_any _ _ Ak _ ck (rg rs k) _ hcell2 hpts hr).mono ?_
     rw [hv]
     rintro e w2 ⟨rfl, h2⟩
     go_wp2
     go_roundw
     case rel => exact ⟨k + 1, by omega, by go_num, HO.out.trans h2, hs⟩
     case measure => simp [intOf]; omega
   ·have hkn : k = n := by omega
    have ha : rs.all ringB = true := by have := hall.out; rwa [List.take_of_length_le (by rw [hl.out]; omega)] at this
    have hq := Lib.hid (regionB_ok (by rw [hl.out]; omega) ha)
    clear ha hall
    go_wp2_with fail
    refine (l13All_any _ _ A n c rs _ hbx hbz (h.over hO) Ht.out).mono ?_
    rintro e w2 ⟨v, rfl, hv, hrow, h2⟩
    obtain ⟨g2, cap2, rfl, -, -⟩ := row_form hrow hv
    clear hrow hv
    go_wp2
    go_ret
    exact ⟨by rw [hq.out]; simp; omega, hO.trans h2⟩
 ·have hq := Lib.hid (regionB_long (rs := rs) (by rw [hl.out]; omega))
  clear h
  go_enter Tryd.func23, Tryd.ntmps23
  go_wp2
  go_ret
  exact ⟨by rw [hq.out]; rfl, (by repeat (first | exact Over.refl _ | (with_reducible assumption) | refine Over.alloc_ ?_ _ | refine Over.trans ?_ (by with_reducible assumption) | refine Over.drew_ ?_ | refine Over.set_ ?_ (by simp; try omega) _))⟩

set_option maxHeartbeats 400000 in
theorem specValidRegion_any (A : Option Addr) (n c : Nat) (rs : List Ring_) (w : World) (h : Rings w A n rs) (ht : (total rs : Int) ≤ 1048577) :
  Calls Tryd.prog 20 #[regV A n c] w fun e w' => e = .returned (.bool (regionB rs)) ∧ Over w w' := by
 go_enter Tryd.func20, Tryd.ntmps20
 go_wp2_with (go_at_call 23; refine (l13Ok_any _ _ A n c rs _ (by go_simp) (by simp) (h.over (by repeat (first | exact Over.refl _ | (with_reducible assumption) | refine Over.alloc_ ?_ _ | refine Over.trans ?_ (by with_reducible assumption) | refine Over.drew_ ?_ | refine Over.set_ ?_ (by simp; try omega) _))) ht).mono ?_; rintro e w1 ⟨rfl, hb1⟩)
 go_ret
 exact ⟨rfl, (by repeat (first | exact Over.refl _ | (with_reducible assumption) | refine Over.alloc_ ?_ _ | refine Over.trans ?_ (by with_reducible assumption) | refine Over.drew_ ?_ | refine Over.set_ ?_ (by simp; try omega) _))⟩

set_option maxHeartbeats 1000000 in
set_option maxRecDepth 100000 in
theorem ValidRegion_any (A : Option Addr) (n c : Nat) (rs : List Ring_) (w : World) (h : Rings w A n rs) (ht : (total rs : Int) ≤ 1048577) :
  Calls Tryd.prog 26 #[regV A n c] w fun e w' => e = .returned (.bool (regionB rs)) ∧ Over w w' := by
 have hl := Lib.hid h.1
 have Ht := Lib.hid ht
 have hn : (n : Int) ≤ 1048577 := by have := hl.out; unfold total at ht; omega
 clear ht
 by_cases h40 : (n : Int) ≤ 40
 ·go_enter Tryd.func26, Tryd.ntmps26
  go_wp2
  go_loopw [3, 13] (fun s i wr => ∃ k : Nat, k ≤ n ∧ i = .int .i64 k ∧ s = .int .i64 (allTo rs k).length ∧ Over w wr ∧ Hid ((rs.take k).all ringB = true)) (fun _ i _ => n - (intOf i).toNat)
  case atStart => exact ⟨0, Nat.zero_le _, rfl, rfl, Over.alloc _ _, by simp [Hid]⟩
  case round =>
   rename_i wr
   obtain ⟨k, hk, rfl, rfl, hO, hall⟩ := hrel
   by_cases hlt : k < n
   ·obtain ⟨b, o, Ak, ck, rfl, hbB, hcell2, hpts, hmax⟩ := (h.over hO).at_ hlt
    have hr : ((rg rs k).length : Int) ≤ 1048577 := by have := Ht.out; have := rg_le_total rs (k := k) (by rw [hl.out]; exact hlt); omega
    have hs2 : Hid (allTo rs (k + 1) = allTo rs k ++ edgesR (rg rs k)) := rfl
    have hsum : (allTo rs k).length + (edgesR (rg rs k)).length ≤ 1048577 := by
     have h1 := allTo_len rs (k + 1)
     have h2 := sumTo_mono rs (show k + 1 ≤ n by omega)
     have h3 := Ht.out
     have h4 := hl.out
     unfold total at h3
     rw [h4] at h3
     simp only [allTo, List.length_append] at h1
     omega
    have HO := Lib.hid hO
    have HP := Lib.hid hpts
    clear h hO hmax hpts
    cases hv : ringB (rg rs k)
    ·have hq := Lib.hid (regionB_bad (by rw [hl.out]; exact hlt) hv)
     go_wp2_with fail
     refine (ValidRing_any _ _ _ (rg rs k) _ (HP.out.over (by repeat (first | exact Over.refl _ | (with_reducible assumption) | refine Over.alloc_ ?_ _ | refine Over.trans ?_ (by with_reducible assumption) | refine Over.drew_ ?_ | refine Over.set_ ?_ (by simp; try omega) _))) hr).mono ?_
     rw [hv]
     rintro e w2 ⟨rfl, h2⟩
     have HO2 := Lib.hid (HO.out.trans ((Over.alloc _ _).trans h2))
     go_wp2
     go_ret
     exact ⟨by rw [hq.out]; rfl, HO2.out⟩
    ·have hs := Lib.hid (take_all (by rw [hl.out]; exact hlt) hall.out hv)
     clear hall
     go_wp2_with fail
     refine (ValidRing_any _ _ _ (rg rs k) _ (HP.out.over (by repeat (first | exact Over.refl _ | (with_reducible assumption) | refine Over.alloc_ ?_ _ | refine Over.trans ?_ (by with_reducible assumption) | refine Over.drew_ ?_ | refine Over.set_ ?_ (by simp; try omega) _))) hr).mono ?_
     rw [hv]
     rintro e w2 ⟨rfl, h2⟩
     obtain ⟨hc, hf⟩ := ocell h2
     go_wp2_with fail
     refine (edgesOfRing_any _ _ _ (rg rs k) _ (HP.out.over ((Over.alloc _ _).trans h2)) hr).mono ?_
     rintro e w3 ⟨v, rfl, hrow, h3⟩
     obtain ⟨A2, c2, rfl, -, -⟩ := legs_of_row hrow rfl
     have HO2 := Lib.hid (HO.out.trans ((Over.alloc _ _).trans (h2.trans h3)))
     clear hrow h2 h3 hc hf
     go_wp2
     go_roundw
     case rel => exact ⟨k + 1, by omega, by go_num, by rw [hs2.out, List.length_append]; go_num, HO2.out, hs⟩
     case measure => simp [intOf]; omega
   ·have hkn : k = n := by omega
    have ha : rs.all ringB = true := by have := hall.out; rwa [List.take_of_length_le (by rw [hl.out]; omega)] at this
    have hq := Lib.hid (regionB_ok (by rw [hl.out]; omega) ha)
    have he : Hid (allTo rs n = edgesAll rs) := by unfold Hid edgesAll; rw [hl.out]
    clear ha hall h
    go_wp2
    go_ret
    exact ⟨by rw [hq.out]; simp; rw [he.out]; omega, hO⟩
 ·have hq := Lib.hid (regionB_long (rs := rs) (by rw [hl.out]; omega))
  clear h
  go_enter Tryd.func26, Tryd.ntmps26
  go_wp2
  go_ret
  exact ⟨by rw [hq.out]; rfl, (by repeat (first | exact Over.refl _ | (with_reducible assumption) | refine Over.alloc_ ?_ _ | refine Over.trans ?_ (by with_reducible assumption) | refine Over.drew_ ?_ | refine Over.set_ ?_ (by simp; try omega) _))⟩
end Go.Proofs.YtjhaakollekjeaaDoor
