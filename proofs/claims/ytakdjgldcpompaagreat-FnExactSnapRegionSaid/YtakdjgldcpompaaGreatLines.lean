/- The common point of two lines. -/
import Derived.Test.YtakdjgldcpompaaGreatCorner
import Derived.Test.YtakdjgldcpompaaGreatL2
import Derived.Test.YtakdjgldcpompaaGreatDiv
namespace Go.Proofs.YtakdjgldcpompaaGreat
open Go.RowKit
set_option linter.unusedVariables false
set_option linter.unusedSimpArgs false

/-- Twice the signed area of a triangle. -/
def trn (ax ay bx b_y cx cy : Int) : Int := (bx - ax) * (cy - ay) - (b_y - ay) * (cx - ax)

set_option maxHeartbeats 400000 in
theorem turn_any (ax ay bx b_y cx cy : Int) (w : World) (a1 : -1048576 ≤ ax) (a2 : ax ≤ 1048576) (a3 : -1048576 ≤ ay) (a4 : ay ≤ 1048576) (b1 : -1048576 ≤ bx) (b2 : bx ≤ 1048576) (b3 : -1048576 ≤ b_y) (b4 : b_y ≤ 1048576)
  (c1 : -1048576 ≤ cx) (c2 : cx ≤ 1048576) (c3 : -1048576 ≤ cy) (c4 : cy ≤ 1048576) :
  Calls Tryz.prog 73 #[ptV ax ay, ptV bx b_y, ptV cx cy] w fun e w' => e = .returned (.int .i64 (trn ax ay bx b_y cx cy)) ∧ Over w w' := by
 obtain ⟨u1, u1'⟩ := mul_bd (a := bx - ax) (b := cy - ay) (A := 2097152) (B := 2097152) (by omega) (by omega) (by omega) (by omega)
 obtain ⟨u2, u2'⟩ := mul_bd (a := b_y - ay) (b := cx - ax) (A := 2097152) (B := 2097152) (by omega) (by omega) (by omega) (by omega)
 go_enter Tryz.func73, Tryz.ntmps73
 go_wp2
 go_ret
 exact ⟨by simp [trn], (by repeat (first | exact Over.refl _ | (with_reducible assumption) | refine Over.alloc_ ?_ _ | refine Over.trans ?_ (by with_reducible assumption) | refine Over.drew_ ?_ | refine Over.set_ ?_ (by simp; try omega) _))⟩

set_option maxHeartbeats 400000 in
theorem l03Turn_any (ax ay bx b_y cx cy : Int) (w : World) (a1 : -1048576 ≤ ax) (a2 : ax ≤ 1048576) (a3 : -1048576 ≤ ay) (a4 : ay ≤ 1048576) (b1 : -1048576 ≤ bx) (b2 : bx ≤ 1048576) (b3 : -1048576 ≤ b_y) (b4 : b_y ≤ 1048576)
  (c1 : -1048576 ≤ cx) (c2 : cx ≤ 1048576) (c3 : -1048576 ≤ cy) (c4 : cy ≤ 1048576) :
  Calls Tryz.prog 58 #[ptV ax ay, ptV bx b_y, ptV cx cy] w fun e w' => e = .returned (.int .i64 (trn ax ay bx b_y cx cy)) ∧ Over w w' := by
 obtain ⟨u1, u1'⟩ := mul_bd (a := bx - ax) (b := cy - ay) (A := 2097152) (B := 2097152) (by omega) (by omega) (by omega) (by omega)
 obtain ⟨u2, u2'⟩ := mul_bd (a := b_y - ay) (b := cx - ax) (A := 2097152) (B := 2097152) (by omega) (by omega) (by omega) (by omega)
 go_enter Tryz.func58, Tryz.ntmps58
 go_wp2
 go_ret
 exact ⟨by simp [trn], (by repeat (first | exact Over.refl _ | (with_reducible assumption) | refine Over.alloc_ ?_ _ | refine Over.trans ?_ (by with_reducible assumption) | refine Over.drew_ ?_ | refine Over.set_ ?_ (by simp; try omega) _))⟩

theorem trn_bd (ax ay bx b_y cx cy : Int) (a1 : -262144 ≤ ax) (a2 : ax ≤ 262144) (a3 : -262144 ≤ ay) (a4 : ay ≤ 262144) (b1 : -262144 ≤ bx) (b2 : bx ≤ 262144) (b3 : -262144 ≤ b_y) (b4 : b_y ≤ 262144)
  (c1 : -262144 ≤ cx) (c2 : cx ≤ 262144) (c3 : -262144 ≤ cy) (c4 : cy ≤ 262144) : -549755813888 ≤ trn ax ay bx b_y cx cy ∧ trn ax ay bx b_y cx cy ≤ 549755813888 := by
 have := mul_bd (a := bx - ax) (b := cy - ay) (A := 524288) (B := 524288) (by omega) (by omega) (by omega) (by omega)
 have := mul_bd (a := b_y - ay) (b := cx - ax) (A := 524288) (B := 524288) (by omega) (by omega) (by omega) (by omega)
 unfold trn
 omega

theorem rnd_shift (a x D : Int) (hD : 0 < D) : rnd (a * D + x) D = a + rnd x D := by
 have h1 : (a * D + x) / D = a + x / D := by rw [Int.add_comm, Int.add_mul_ediv_right _ _ (by omega)]; omega
 have h2 : (a * D + x) % D = x % D := by rw [Int.add_comm, Int.add_mul_emod_self_right]
 unfold rnd
 rw [h1, h2]
 split <;> omega

/-- The crossing of two lines, num over den in both directions from a. -/
def crs (ax bx num den : Int) : Int := if den < 0 then rnd (ax * -den + (bx - ax) * -num) (-den) else rnd (ax * den + (bx - ax) * num) den

theorem crs_eq (ax bx num den : Int) (h : den ≠ 0) : crs ax bx num den = ax + (if den < 0 then rnd ((bx - ax) * -num) (-den) else rnd ((bx - ax) * num) den) := by
 unfold crs
 split
 ·exact rnd_shift _ _ _ (by omega)
 ·exact rnd_shift _ _ _ (by omega)

def denOf (ax ay bx b_y cx cy dx dy : Int) : Int := (bx - ax) * (dy - cy) - (b_y - ay) * (dx - cx)
def numOf (ax ay cx cy dx dy : Int) : Int := (cx - ax) * (dy - cy) - (cy - ay) * (dx - cx)

set_option maxHeartbeats 2000000 in
set_option maxRecDepth 100000 in
theorem crossing_any (ax ay bx b_y cx cy dx dy : Int) (w : World) (ha : okB ax ay = true) (hb : okB bx b_y = true) (hc : okB cx cy = true) (hd : okB dx dy = true) (hden : denOf ax ay bx b_y cx cy dx dy ≠ 0) :
  Calls Tryz.prog 41 #[ptV ax ay, ptV bx b_y, ptV cx cy, ptV dx dy] w fun e w' =>
   e = .returned (ptV (crs ax bx (numOf ax ay cx cy dx dy) (denOf ax ay bx b_y cx cy dx dy)) (crs ay b_y (numOf ax ay cx cy dx dy) (denOf ax ay bx b_y cx cy dx dy))) ∧ Over w w' := by
 simp [okB, inB] at ha hb hc hd
 obtain ⟨⟨a1, a2⟩, a3, a4⟩ := ha
 obtain ⟨⟨b1, b2⟩, b3, b4⟩ := hb
 obtain ⟨⟨c1, c2⟩, c3, c4⟩ := hc
 obtain ⟨⟨d1, d2⟩, d3, d4⟩ := hd
 obtain ⟨u1, u1'⟩ := mul_bd (a := bx - ax) (b := dy - cy) (A := 524288) (B := 524288) (by omega) (by omega) (by omega) (by omega)
 obtain ⟨u2, u2'⟩ := mul_bd (a := b_y - ay) (b := dx - cx) (A := 524288) (B := 524288) (by omega) (by omega) (by omega) (by omega)
 obtain ⟨u3, u3'⟩ := mul_bd (a := cx - ax) (b := dy - cy) (A := 524288) (B := 524288) (by omega) (by omega) (by omega) (by omega)
 obtain ⟨u4, u4'⟩ := mul_bd (a := cy - ay) (b := dx - cx) (A := 524288) (B := 524288) (by omega) (by omega) (by omega) (by omega)
 by_cases hs : (bx - ax) * (dy - cy) - (b_y - ay) * (dx - cx) < 0
 ·have hres : ∀ x y, crs x y (numOf ax ay cx cy dx dy) (denOf ax ay bx b_y cx cy dx dy) = rnd (x * -((bx - ax) * (dy - cy) - (b_y - ay) * (dx - cx)) + (y - x) * -((cx - ax) * (dy - cy) - (cy - ay) * (dx - cx))) (-((bx - ax) * (dy - cy) - (b_y - ay) * (dx - cx))) := by
   intro x y; unfold crs denOf numOf; rw [if_pos hs]
  have HR := Lib.hid hres
  clear hres hden
  go_enter Tryz.func41, Tryz.ntmps41
  go_wp2
  have gD : 1 ≤ -((bx - ax) * (dy - cy) - (b_y - ay) * (dx - cx)) ∧ -((bx - ax) * (dy - cy) - (b_y - ay) * (dx - cx)) ≤ 549755813888 := by omega
  have gN : -549755813888 ≤ -((cx - ax) * (dy - cy) - (cy - ay) * (dx - cx)) ∧ -((cx - ax) * (dy - cy) - (cy - ay) * (dx - cx)) ≤ 549755813888 := by omega
  generalize hD : -((bx - ax) * (dy - cy) - (b_y - ay) * (dx - cx)) = D at gD ⊢
  generalize hN : -((cx - ax) * (dy - cy) - (cy - ay) * (dx - cx)) = N at gN ⊢
  have HD := Lib.hid hD
  have HN := Lib.hid hN
  clear hD hN
  obtain ⟨gD1, gD2⟩ := gD
  obtain ⟨gN1, gN2⟩ := gN
  clear u1 u1' u2 u2' u3 u3' u4 u4' hs
  try clear hs0
  obtain ⟨v1, v1'⟩ := mul_bd (a := ax) (b := D) (A := 262144) (B := 549755813888) (by omega) (by omega) (by omega) (by omega)
  obtain ⟨v2, v2'⟩ := mul_bd (a := bx - ax) (b := N) (A := 524288) (B := 549755813888) (by omega) (by omega) (by omega) (by omega)
  obtain ⟨v3, v3'⟩ := mul_bd (a := ay) (b := D) (A := 262144) (B := 549755813888) (by omega) (by omega) (by omega) (by omega)
  obtain ⟨v4, v4'⟩ := mul_bd (a := b_y - ay) (b := N) (A := 524288) (B := 549755813888) (by omega) (by omega) (by omega) (by omega)
  refine wp_region_O (B := ob _) (Over.alloc _ _) (by kernel_rfl) (by simp only [List.size_toArray, List.length_cons, List.length_nil, Nat.reduceAdd]; rfl) (fun (hBW : Over _ _) => ?_)
  refine wpAnyO_take (i := 0) (v := _) (by assumption) (by simp only [xa,xb]; rfl) (by kernel_rfl) (by kernel_rfl) (by kernel_rfl) (by exact fun _ _ _ h => h) (by kernel_rfl) (fun wx hS => by (obtain ⟨hc, hf⟩ := ocell hS; clear hS; go_simp; (try go_bits); exact ⟨rfl, Over.refl _⟩)) ?_
  simp only [Act.put,xd,yc,yd]
  refine wpAnyO_take (i := 1) (v := _) (by assumption) (by simp only [xa,xb,xc]; rfl) (by kernel_rfl) (by kernel_rfl) (by kernel_rfl) (by exact fun _ _ _ h => h) (by kernel_rfl) (fun wx hS => by (obtain ⟨hc, hf⟩ := ocell hS; clear hS; go_simp; (try go_bits); exact ⟨rfl, Over.refl _⟩)) ?_
  simp only [Act.put,xd,yc,yd]
  refine wpAnyO_take (i := 2) (v := _) (by assumption) (by simp only [xa,xb,xc]; rfl) (by kernel_rfl) (by kernel_rfl) (by kernel_rfl) (by exact fun _ _ _ h => h) (by kernel_rfl) (fun wx hS => by (obtain ⟨hc, hf⟩ := ocell hS; clear hS; go_simp; (try go_bits); exact ⟨rfl, Over.refl _⟩)) ?_
  simp only [Act.put,xd,yc,yd]
  refine wpAnyO_take (i := 3) (v := _) (by assumption) (by simp only [xa,xb,xc]; rfl) (by kernel_rfl) (by kernel_rfl) (by kernel_rfl) (by exact fun _ _ _ h => h) (by kernel_rfl) (fun wx hS => by (obtain ⟨hc, hf⟩ := ocell hS; clear hS; go_simp; (try go_bits); exact ⟨rfl, Over.refl _⟩)) ?_
  simp only [Act.put,xd,yc,yd]
  refine wpAnyO_take (i := 4) (v := _) (by assumption) (by simp only [xa,xb,xc]; rfl) (by kernel_rfl) (by kernel_rfl) (by kernel_rfl) (by exact fun _ _ _ h => h) (by kernel_rfl) (fun wx hS => by (obtain ⟨hc, hf⟩ := ocell hS; clear hS; go_simp; (try go_bits); exact ⟨rfl, Over.refl _⟩)) ?_
  simp only [Act.put,xd,yc,yd]
  refine wpAnyO_take (i := 5) (v := _) (by assumption) (by simp only [xa,xb,xc]; rfl) (by kernel_rfl) (by kernel_rfl) (by kernel_rfl) (by exact fun _ _ _ h => h) (by kernel_rfl) (fun wx hS => by (obtain ⟨hc, hf⟩ := ocell hS; clear hS; go_simp; (try go_bits); exact ⟨rfl, Over.refl _⟩)) ?_
  simp only [Act.put,xd,yc,yd]
  refine wpAnyO_take (i := 6) (v := _) (by assumption) (by simp only [xa,xb,xc]; rfl) (by kernel_rfl) (by kernel_rfl) (by kernel_rfl) (by exact fun _ _ _ h => h) (by kernel_rfl) (fun wx hS => by (obtain ⟨hc, hf⟩ := ocell hS; clear hS; go_simp; (try go_bits); exact ⟨rfl, Over.refl _⟩)) ?_
  simp only [Act.put,xd,yc,yd]
  refine wpAnyO_take (i := 7) (v := _) (by assumption) (by simp only [xa,xb,xc]; rfl) (by kernel_rfl) (by kernel_rfl) (by kernel_rfl) (by exact fun _ _ _ h => h) (by kernel_rfl) (fun wx hS => by (obtain ⟨hc, hf⟩ := ocell hS; clear hS; go_simp; (try go_bits); exact ⟨rfl, Over.refl _⟩)) ?_
  simp only [Act.put,xd,yc,yd]
  refine wpAnyO_take (i := 8) (v := _) (by assumption) (by simp only [xa,xb,xc]; rfl) (by kernel_rfl) (by kernel_rfl) (by kernel_rfl) (by exact fun _ _ _ h => h) (by kernel_rfl) (fun wx hS => by (obtain ⟨hc, hf⟩ := ocell hS; clear hS; go_simp; (try go_bits); exact ⟨rfl, Over.refl _⟩)) ?_
  simp only [Act.put,xd,yc,yd]
  refine wpAnyO_take (i := 9) (v := _) (by assumption) (by simp only [xa,xb,xc]; rfl) (by kernel_rfl) (by kernel_rfl) (by kernel_rfl) (by exact fun _ _ _ h => h) (by kernel_rfl) (fun wx hS => by (obtain ⟨hc, hf⟩ := ocell hS; clear hS; go_simp; (try go_bits); exact ⟨rfl, Over.refl _⟩)) ?_
  simp only [Act.put,xd,yc,yd]
  refine wpAnyO_take (i := 10) (v := _) (by assumption) (by simp only [xa,xb,xc]; rfl) (by kernel_rfl) (by kernel_rfl) (by kernel_rfl) (by exact fun _ _ _ h => h) (by kernel_rfl) (fun wx hS => by (obtain ⟨hc, hf⟩ := ocell hS; clear hS; go_simp; (try go_bits); exact ⟨rfl, Over.refl _⟩)) ?_
  simp only [Act.put,xd,yc,yd]
  refine wpAnyO_take (i := 11) (v := _) (by assumption) (by simp only [xa,xb,xc]; rfl) (by kernel_rfl) (by kernel_rfl) (by kernel_rfl) (by exact fun _ _ _ h => h) (by kernel_rfl) (fun wx hS => by (obtain ⟨hc, hf⟩ := ocell hS; clear hS; go_simp; (try go_bits); exact ⟨rfl, Over.refl _⟩)) ?_
  simp only [Act.put,xd,yc,yd]
  refine wpAnyO_take (i := 12) (v := _) (by assumption) (by simp only [xa,xb,xc]; rfl) (by kernel_rfl) (by kernel_rfl) (by kernel_rfl) (by exact fun _ _ _ h => h) (by kernel_rfl) (fun wx hS => by (obtain ⟨hc, hf⟩ := ocell hS; clear hS; go_simp; (try go_bits); exact ⟨rfl, Over.refl _⟩)) ?_
  simp only [Act.put,xd,yc,yd]
  refine wpAnyO_take (i := 13) (v := _) (by assumption) (by simp only [xa,xb,xc]; rfl) (by kernel_rfl) (by kernel_rfl) (by kernel_rfl) (by exact fun _ _ _ h => h) (by kernel_rfl) (fun wx hS => by (go_simp; refine (DivRound_any _ _ _ (by omega) (by omega) (by omega) (by omega)).mono ?_; rintro e w1 ⟨rfl, rfl⟩; exact ⟨rfl, Over.refl _⟩)) ?_
  simp only [Act.put,xd,yc,yd]
  refine wpAnyO_take (i := 14) (v := _) (by assumption) (by simp only [xa,xb,xc]; rfl) (by kernel_rfl) (by kernel_rfl) (by kernel_rfl) (by exact fun _ _ _ h => h) (by kernel_rfl) (fun wx hS => by (obtain ⟨hc, hf⟩ := ocell hS; clear hS; go_simp; (try go_bits); exact ⟨rfl, Over.refl _⟩)) ?_
  simp only [Act.put,xd,yc,yd]
  refine wpAnyO_take (i := 15) (v := _) (by assumption) (by simp only [xa,xb,xc]; rfl) (by kernel_rfl) (by kernel_rfl) (by kernel_rfl) (by exact fun _ _ _ h => h) (by kernel_rfl) (fun wx hS => by (obtain ⟨hc, hf⟩ := ocell hS; clear hS; go_simp; (try go_bits); exact ⟨rfl, Over.refl _⟩)) ?_
  simp only [Act.put,xd,yc,yd]
  refine wpAnyO_take (i := 16) (v := _) (by assumption) (by simp only [xa,xb,xc]; rfl) (by kernel_rfl) (by kernel_rfl) (by kernel_rfl) (by exact fun _ _ _ h => h) (by kernel_rfl) (fun wx hS => by (obtain ⟨hc, hf⟩ := ocell hS; clear hS; go_simp; (try go_bits); exact ⟨rfl, Over.refl _⟩)) ?_
  simp only [Act.put,xd,yc,yd]
  refine wpAnyO_take (i := 17) (v := _) (by assumption) (by simp only [xa,xb,xc]; rfl) (by kernel_rfl) (by kernel_rfl) (by kernel_rfl) (by exact fun _ _ _ h => h) (by kernel_rfl) (fun wx hS => by (obtain ⟨hc, hf⟩ := ocell hS; clear hS; go_simp; (try go_bits); exact ⟨rfl, Over.refl _⟩)) ?_
  simp only [Act.put,xd,yc,yd]
  refine wpAnyO_take (i := 18) (v := _) (by assumption) (by simp only [xa,xb,xc]; rfl) (by kernel_rfl) (by kernel_rfl) (by kernel_rfl) (by exact fun _ _ _ h => h) (by kernel_rfl) (fun wx hS => by (obtain ⟨hc, hf⟩ := ocell hS; clear hS; go_simp; (try go_bits); exact ⟨rfl, Over.refl _⟩)) ?_
  simp only [Act.put,xd,yc,yd]
  refine wpAnyO_take (i := 19) (v := _) (by assumption) (by simp only [xa,xb,xc]; rfl) (by kernel_rfl) (by kernel_rfl) (by kernel_rfl) (by exact fun _ _ _ h => h) (by kernel_rfl) (fun wx hS => by (obtain ⟨hc, hf⟩ := ocell hS; clear hS; go_simp; (try go_bits); exact ⟨rfl, Over.refl _⟩)) ?_
  simp only [Act.put,xd,yc,yd]
  refine wpAnyO_take (i := 20) (v := _) (by assumption) (by simp only [xa,xb,xc]; rfl) (by kernel_rfl) (by kernel_rfl) (by kernel_rfl) (by exact fun _ _ _ h => h) (by kernel_rfl) (fun wx hS => by (obtain ⟨hc, hf⟩ := ocell hS; clear hS; go_simp; (try go_bits); exact ⟨rfl, Over.refl _⟩)) ?_
  simp only [Act.put,xd,yc,yd]
  refine wpAnyO_take (i := 21) (v := _) (by assumption) (by simp only [xa,xb,xc]; rfl) (by kernel_rfl) (by kernel_rfl) (by kernel_rfl) (by exact fun _ _ _ h => h) (by kernel_rfl) (fun wx hS => by (obtain ⟨hc, hf⟩ := ocell hS; clear hS; go_simp; (try go_bits); exact ⟨rfl, Over.refl _⟩)) ?_
  simp only [Act.put,xd,yc,yd]
  refine wpAnyO_take (i := 22) (v := _) (by assumption) (by simp only [xa,xb,xc]; rfl) (by kernel_rfl) (by kernel_rfl) (by kernel_rfl) (by exact fun _ _ _ h => h) (by kernel_rfl) (fun wx hS => by (obtain ⟨hc, hf⟩ := ocell hS; clear hS; go_simp; (try go_bits); exact ⟨rfl, Over.refl _⟩)) ?_
  simp only [Act.put,xd,yc,yd]
  refine wpAnyO_take (i := 23) (v := _) (by assumption) (by simp only [xa,xb,xc]; rfl) (by kernel_rfl) (by kernel_rfl) (by kernel_rfl) (by exact fun _ _ _ h => h) (by kernel_rfl) (fun wx hS => by (obtain ⟨hc, hf⟩ := ocell hS; clear hS; go_simp; (try go_bits); exact ⟨rfl, Over.refl _⟩)) ?_
  simp only [Act.put,xd,yc,yd]
  refine wpAnyO_take (i := 24) (v := _) (by assumption) (by simp only [xa,xb,xc]; rfl) (by kernel_rfl) (by kernel_rfl) (by kernel_rfl) (by exact fun _ _ _ h => h) (by kernel_rfl) (fun wx hS => by (obtain ⟨hc, hf⟩ := ocell hS; clear hS; go_simp; (try go_bits); exact ⟨rfl, Over.refl _⟩)) ?_
  simp only [Act.put,xd,yc,yd]
  refine wpAnyO_take (i := 25) (v := _) (by assumption) (by simp only [xa,xb,xc]; rfl) (by kernel_rfl) (by kernel_rfl) (by kernel_rfl) (by exact fun _ _ _ h => h) (by kernel_rfl) (fun wx hS => by (obtain ⟨hc, hf⟩ := ocell hS; clear hS; go_simp; (try go_bits); exact ⟨rfl, Over.refl _⟩)) ?_
  simp only [Act.put,xd,yc,yd]
  refine wpAnyO_take (i := 26) (v := _) (by assumption) (by simp only [xa,xb,xc]; rfl) (by kernel_rfl) (by kernel_rfl) (by kernel_rfl) (by exact fun _ _ _ h => h) (by kernel_rfl) (fun wx hS => by (obtain ⟨hc, hf⟩ := ocell hS; clear hS; go_simp; (try go_bits); exact ⟨rfl, Over.refl _⟩)) ?_
  simp only [Act.put,xd,yc,yd]
  refine wpAnyO_take (i := 27) (v := _) (by assumption) (by simp only [xa,xb,xc]; rfl) (by kernel_rfl) (by kernel_rfl) (by kernel_rfl) (by exact fun _ _ _ h => h) (by kernel_rfl) (fun wx hS => by (go_simp; refine (DivRound_any _ _ _ (by omega) (by omega) (by omega) (by omega)).mono ?_; rintro e w1 ⟨rfl, rfl⟩; exact ⟨rfl, Over.refl _⟩)) ?_
  simp only [Act.put,xd,yc,yd]
  refine wpAnyO_take (i := 28) (v := _) (by assumption) (by simp only [xa,xb,xc]; rfl) (by kernel_rfl) (by kernel_rfl) (by kernel_rfl) (by exact fun _ _ _ h => h) (by kernel_rfl) (fun wx hS => by (obtain ⟨hc, hf⟩ := ocell hS; clear hS; go_simp; (try go_bits); exact ⟨rfl, Over.refl _⟩)) ?_
  simp only [Act.put,xd,yc,yd]
  refine wpAnyO_one (i := 29) (by simp only [xa,xb,xc]; rfl) (by kernel_rfl) (by kernel_rfl) (fun w2 h2 K hK => ?_)
  obtain ⟨hc, hf⟩ := ocell h2
  have hzw2_0 : w.heap.size < w2.heap.size := Nat.lt_of_lt_of_le (by simp <;> omega) (Over.size h2)
  have hzw2_1 : w.heap.size + 1 < w2.heap.size := Nat.lt_of_lt_of_le (by simp <;> omega) (Over.size h2)
  have hzw2_2 : w.heap.size + 1 + 1 < w2.heap.size := Nat.lt_of_lt_of_le (by simp <;> omega) (Over.size h2)
  have hzw2_3 : w.heap.size + 1 + 1 + 1 < w2.heap.size := Nat.lt_of_lt_of_le (by simp <;> omega) (Over.size h2)
  have hzw2_4 : w.heap.size + 1 + 1 + 1 + 1 < w2.heap.size := Nat.lt_of_lt_of_le (by simp <;> omega) (Over.size h2)
  go_step
  refine hK.out _ _ (by repeat (first | exact Over.refl _ | (with_reducible assumption) | refine Over.alloc_ ?_ _ | refine Over.trans ?_ (by with_reducible assumption) | refine Over.drew_ ?_ | refine Over.set_ ?_ (by simp; try omega) _)) (fun hB => ?_)
  clear hK K
  refine wpAnyO_done (by kernel_rfl) (fun w3 h3 => ?_) _
  try clear hBW
  go_wp2
  obtain ⟨hc, hf⟩ := ocell h3
  exact bodyPost_ret (v := ptV (rnd (ax * D + (bx - ax) * N) D) (rnd (ay * D + (b_y - ay) * N) D)) (by simp [results, Tryz.results41, go_sem, *]) rfl ⟨by rw [HR.out, HR.out, HD.out, HN.out], (by repeat (first | exact Over.refl _ | (with_reducible assumption) | refine Over.alloc_ ?_ _ | refine Over.trans ?_ (by with_reducible assumption) | refine Over.drew_ ?_ | refine Over.set_ ?_ (by simp; try omega) _))⟩
 ·have hres : ∀ x y, crs x y (numOf ax ay cx cy dx dy) (denOf ax ay bx b_y cx cy dx dy) = rnd (x * ((bx - ax) * (dy - cy) - (b_y - ay) * (dx - cx)) + (y - x) * ((cx - ax) * (dy - cy) - (cy - ay) * (dx - cx))) ((bx - ax) * (dy - cy) - (b_y - ay) * (dx - cx)) := by
   intro x y; unfold crs denOf numOf; rw [if_neg hs]
  have HR := Lib.hid hres
  have hs0 : 0 < (bx - ax) * (dy - cy) - (b_y - ay) * (dx - cx) := by unfold denOf at hden; omega
  clear hres hden
  go_enter Tryz.func41, Tryz.ntmps41
  go_wp2
  have gD : 1 ≤ ((bx - ax) * (dy - cy) - (b_y - ay) * (dx - cx)) ∧ ((bx - ax) * (dy - cy) - (b_y - ay) * (dx - cx)) ≤ 549755813888 := by omega
  have gN : -549755813888 ≤ ((cx - ax) * (dy - cy) - (cy - ay) * (dx - cx)) ∧ ((cx - ax) * (dy - cy) - (cy - ay) * (dx - cx)) ≤ 549755813888 := by omega
  generalize hD : ((bx - ax) * (dy - cy) - (b_y - ay) * (dx - cx)) = D at gD ⊢
  generalize hN : ((cx - ax) * (dy - cy) - (cy - ay) * (dx - cx)) = N at gN ⊢
  have HD := Lib.hid hD
  have HN := Lib.hid hN
  clear hD hN
  obtain ⟨gD1, gD2⟩ := gD
  obtain ⟨gN1, gN2⟩ := gN
  clear u1 u1' u2 u2' u3 u3' u4 u4' hs
  try clear hs0
  obtain ⟨v1, v1'⟩ := mul_bd (a := ax) (b := D) (A := 262144) (B := 549755813888) (by omega) (by omega) (by omega) (by omega)
  obtain ⟨v2, v2'⟩ := mul_bd (a := bx - ax) (b := N) (A := 524288) (B := 549755813888) (by omega) (by omega) (by omega) (by omega)
  obtain ⟨v3, v3'⟩ := mul_bd (a := ay) (b := D) (A := 262144) (B := 549755813888) (by omega) (by omega) (by omega) (by omega)
  obtain ⟨v4, v4'⟩ := mul_bd (a := b_y - ay) (b := N) (A := 524288) (B := 549755813888) (by omega) (by omega) (by omega) (by omega)
  refine wp_region_O (B := ob _) (Over.alloc _ _) (by kernel_rfl) (by simp only [List.size_toArray, List.length_cons, List.length_nil, Nat.reduceAdd]; rfl) (fun (hBW : Over _ _) => ?_)
  refine wpAnyO_take (i := 0) (v := _) (by assumption) (by simp only [xa,xb]; rfl) (by kernel_rfl) (by kernel_rfl) (by kernel_rfl) (by exact fun _ _ _ h => h) (by kernel_rfl) (fun wx hS => by (obtain ⟨hc, hf⟩ := ocell hS; clear hS; go_simp; (try go_bits); exact ⟨rfl, Over.refl _⟩)) ?_
  simp only [Act.put,xd,yc,yd]
  refine wpAnyO_take (i := 1) (v := _) (by assumption) (by simp only [xa,xb,xc]; rfl) (by kernel_rfl) (by kernel_rfl) (by kernel_rfl) (by exact fun _ _ _ h => h) (by kernel_rfl) (fun wx hS => by (obtain ⟨hc, hf⟩ := ocell hS; clear hS; go_simp; (try go_bits); exact ⟨rfl, Over.refl _⟩)) ?_
  simp only [Act.put,xd,yc,yd]
  refine wpAnyO_take (i := 2) (v := _) (by assumption) (by simp only [xa,xb,xc]; rfl) (by kernel_rfl) (by kernel_rfl) (by kernel_rfl) (by exact fun _ _ _ h => h) (by kernel_rfl) (fun wx hS => by (obtain ⟨hc, hf⟩ := ocell hS; clear hS; go_simp; (try go_bits); exact ⟨rfl, Over.refl _⟩)) ?_
  simp only [Act.put,xd,yc,yd]
  refine wpAnyO_take (i := 3) (v := _) (by assumption) (by simp only [xa,xb,xc]; rfl) (by kernel_rfl) (by kernel_rfl) (by kernel_rfl) (by exact fun _ _ _ h => h) (by kernel_rfl) (fun wx hS => by (obtain ⟨hc, hf⟩ := ocell hS; clear hS; go_simp; (try go_bits); exact ⟨rfl, Over.refl _⟩)) ?_
  simp only [Act.put,xd,yc,yd]
  refine wpAnyO_take (i := 4) (v := _) (by assumption) (by simp only [xa,xb,xc]; rfl) (by kernel_rfl) (by kernel_rfl) (by kernel_rfl) (by exact fun _ _ _ h => h) (by kernel_rfl) (fun wx hS => by (obtain ⟨hc, hf⟩ := ocell hS; clear hS; go_simp; (try go_bits); exact ⟨rfl, Over.refl _⟩)) ?_
  simp only [Act.put,xd,yc,yd]
  refine wpAnyO_take (i := 5) (v := _) (by assumption) (by simp only [xa,xb,xc]; rfl) (by kernel_rfl) (by kernel_rfl) (by kernel_rfl) (by exact fun _ _ _ h => h) (by kernel_rfl) (fun wx hS => by (obtain ⟨hc, hf⟩ := ocell hS; clear hS; go_simp; (try go_bits); exact ⟨rfl, Over.refl _⟩)) ?_
  simp only [Act.put,xd,yc,yd]
  refine wpAnyO_take (i := 6) (v := _) (by assumption) (by simp only [xa,xb,xc]; rfl) (by kernel_rfl) (by kernel_rfl) (by kernel_rfl) (by exact fun _ _ _ h => h) (by kernel_rfl) (fun wx hS => by (obtain ⟨hc, hf⟩ := ocell hS; clear hS; go_simp; (try go_bits); exact ⟨rfl, Over.refl _⟩)) ?_
  simp only [Act.put,xd,yc,yd]
  refine wpAnyO_take (i := 7) (v := _) (by assumption) (by simp only [xa,xb,xc]; rfl) (by kernel_rfl) (by kernel_rfl) (by kernel_rfl) (by exact fun _ _ _ h => h) (by kernel_rfl) (fun wx hS => by (obtain ⟨hc, hf⟩ := ocell hS; clear hS; go_simp; (try go_bits); exact ⟨rfl, Over.refl _⟩)) ?_
  simp only [Act.put,xd,yc,yd]
  refine wpAnyO_take (i := 8) (v := _) (by assumption) (by simp only [xa,xb,xc]; rfl) (by kernel_rfl) (by kernel_rfl) (by kernel_rfl) (by exact fun _ _ _ h => h) (by kernel_rfl) (fun wx hS => by (obtain ⟨hc, hf⟩ := ocell hS; clear hS; go_simp; (try go_bits); exact ⟨rfl, Over.refl _⟩)) ?_
  simp only [Act.put,xd,yc,yd]
  refine wpAnyO_take (i := 9) (v := _) (by assumption) (by simp only [xa,xb,xc]; rfl) (by kernel_rfl) (by kernel_rfl) (by kernel_rfl) (by exact fun _ _ _ h => h) (by kernel_rfl) (fun wx hS => by (obtain ⟨hc, hf⟩ := ocell hS; clear hS; go_simp; (try go_bits); exact ⟨rfl, Over.refl _⟩)) ?_
  simp only [Act.put,xd,yc,yd]
  refine wpAnyO_take (i := 10) (v := _) (by assumption) (by simp only [xa,xb,xc]; rfl) (by kernel_rfl) (by kernel_rfl) (by kernel_rfl) (by exact fun _ _ _ h => h) (by kernel_rfl) (fun wx hS => by (obtain ⟨hc, hf⟩ := ocell hS; clear hS; go_simp; (try go_bits); exact ⟨rfl, Over.refl _⟩)) ?_
  simp only [Act.put,xd,yc,yd]
  refine wpAnyO_take (i := 11) (v := _) (by assumption) (by simp only [xa,xb,xc]; rfl) (by kernel_rfl) (by kernel_rfl) (by kernel_rfl) (by exact fun _ _ _ h => h) (by kernel_rfl) (fun wx hS => by (obtain ⟨hc, hf⟩ := ocell hS; clear hS; go_simp; (try go_bits); exact ⟨rfl, Over.refl _⟩)) ?_
  simp only [Act.put,xd,yc,yd]
  refine wpAnyO_take (i := 12) (v := _) (by assumption) (by simp only [xa,xb,xc]; rfl) (by kernel_rfl) (by kernel_rfl) (by kernel_rfl) (by exact fun _ _ _ h => h) (by kernel_rfl) (fun wx hS => by (obtain ⟨hc, hf⟩ := ocell hS; clear hS; go_simp; (try go_bits); exact ⟨rfl, Over.refl _⟩)) ?_
  simp only [Act.put,xd,yc,yd]
  refine wpAnyO_take (i := 13) (v := _) (by assumption) (by simp only [xa,xb,xc]; rfl) (by kernel_rfl) (by kernel_rfl) (by kernel_rfl) (by exact fun _ _ _ h => h) (by kernel_rfl) (fun wx hS => by (go_simp; refine (DivRound_any _ _ _ (by omega) (by omega) (by omega) (by omega)).mono ?_; rintro e w1 ⟨rfl, rfl⟩; exact ⟨rfl, Over.refl _⟩)) ?_
  simp only [Act.put,xd,yc,yd]
  refine wpAnyO_take (i := 14) (v := _) (by assumption) (by simp only [xa,xb,xc]; rfl) (by kernel_rfl) (by kernel_rfl) (by kernel_rfl) (by exact fun _ _ _ h => h) (by kernel_rfl) (fun wx hS => by (obtain ⟨hc, hf⟩ := ocell hS; clear hS; go_simp; (try go_bits); exact ⟨rfl, Over.refl _⟩)) ?_
  simp only [Act.put,xd,yc,yd]
  refine wpAnyO_take (i := 15) (v := _) (by assumption) (by simp only [xa,xb,xc]; rfl) (by kernel_rfl) (by kernel_rfl) (by kernel_rfl) (by exact fun _ _ _ h => h) (by kernel_rfl) (fun wx hS => by (obtain ⟨hc, hf⟩ := ocell hS; clear hS; go_simp; (try go_bits); exact ⟨rfl, Over.refl _⟩)) ?_
  simp only [Act.put,xd,yc,yd]
  refine wpAnyO_take (i := 16) (v := _) (by assumption) (by simp only [xa,xb,xc]; rfl) (by kernel_rfl) (by kernel_rfl) (by kernel_rfl) (by exact fun _ _ _ h => h) (by kernel_rfl) (fun wx hS => by (obtain ⟨hc, hf⟩ := ocell hS; clear hS; go_simp; (try go_bits); exact ⟨rfl, Over.refl _⟩)) ?_
  simp only [Act.put,xd,yc,yd]
  refine wpAnyO_take (i := 17) (v := _) (by assumption) (by simp only [xa,xb,xc]; rfl) (by kernel_rfl) (by kernel_rfl) (by kernel_rfl) (by exact fun _ _ _ h => h) (by kernel_rfl) (fun wx hS => by (obtain ⟨hc, hf⟩ := ocell hS; clear hS; go_simp; (try go_bits); exact ⟨rfl, Over.refl _⟩)) ?_
  simp only [Act.put,xd,yc,yd]
  refine wpAnyO_take (i := 18) (v := _) (by assumption) (by simp only [xa,xb,xc]; rfl) (by kernel_rfl) (by kernel_rfl) (by kernel_rfl) (by exact fun _ _ _ h => h) (by kernel_rfl) (fun wx hS => by (obtain ⟨hc, hf⟩ := ocell hS; clear hS; go_simp; (try go_bits); exact ⟨rfl, Over.refl _⟩)) ?_
  simp only [Act.put,xd,yc,yd]
  refine wpAnyO_take (i := 19) (v := _) (by assumption) (by simp only [xa,xb,xc]; rfl) (by kernel_rfl) (by kernel_rfl) (by kernel_rfl) (by exact fun _ _ _ h => h) (by kernel_rfl) (fun wx hS => by (obtain ⟨hc, hf⟩ := ocell hS; clear hS; go_simp; (try go_bits); exact ⟨rfl, Over.refl _⟩)) ?_
  simp only [Act.put,xd,yc,yd]
  refine wpAnyO_take (i := 20) (v := _) (by assumption) (by simp only [xa,xb,xc]; rfl) (by kernel_rfl) (by kernel_rfl) (by kernel_rfl) (by exact fun _ _ _ h => h) (by kernel_rfl) (fun wx hS => by (obtain ⟨hc, hf⟩ := ocell hS; clear hS; go_simp; (try go_bits); exact ⟨rfl, Over.refl _⟩)) ?_
  simp only [Act.put,xd,yc,yd]
  refine wpAnyO_take (i := 21) (v := _) (by assumption) (by simp only [xa,xb,xc]; rfl) (by kernel_rfl) (by kernel_rfl) (by kernel_rfl) (by exact fun _ _ _ h => h) (by kernel_rfl) (fun wx hS => by (obtain ⟨hc, hf⟩ := ocell hS; clear hS; go_simp; (try go_bits); exact ⟨rfl, Over.refl _⟩)) ?_
  simp only [Act.put,xd,yc,yd]
  refine wpAnyO_take (i := 22) (v := _) (by assumption) (by simp only [xa,xb,xc]; rfl) (by kernel_rfl) (by kernel_rfl) (by kernel_rfl) (by exact fun _ _ _ h => h) (by kernel_rfl) (fun wx hS => by (obtain ⟨hc, hf⟩ := ocell hS; clear hS; go_simp; (try go_bits); exact ⟨rfl, Over.refl _⟩)) ?_
  simp only [Act.put,xd,yc,yd]
  refine wpAnyO_take (i := 23) (v := _) (by assumption) (by simp only [xa,xb,xc]; rfl) (by kernel_rfl) (by kernel_rfl) (by kernel_rfl) (by exact fun _ _ _ h => h) (by kernel_rfl) (fun wx hS => by (obtain ⟨hc, hf⟩ := ocell hS; clear hS; go_simp; (try go_bits); exact ⟨rfl, Over.refl _⟩)) ?_
  simp only [Act.put,xd,yc,yd]
  refine wpAnyO_take (i := 24) (v := _) (by assumption) (by simp only [xa,xb,xc]; rfl) (by kernel_rfl) (by kernel_rfl) (by kernel_rfl) (by exact fun _ _ _ h => h) (by kernel_rfl) (fun wx hS => by (obtain ⟨hc, hf⟩ := ocell hS; clear hS; go_simp; (try go_bits); exact ⟨rfl, Over.refl _⟩)) ?_
  simp only [Act.put,xd,yc,yd]
  refine wpAnyO_take (i := 25) (v := _) (by assumption) (by simp only [xa,xb,xc]; rfl) (by kernel_rfl) (by kernel_rfl) (by kernel_rfl) (by exact fun _ _ _ h => h) (by kernel_rfl) (fun wx hS => by (obtain ⟨hc, hf⟩ := ocell hS; clear hS; go_simp; (try go_bits); exact ⟨rfl, Over.refl _⟩)) ?_
  simp only [Act.put,xd,yc,yd]
  refine wpAnyO_take (i := 26) (v := _) (by assumption) (by simp only [xa,xb,xc]; rfl) (by kernel_rfl) (by kernel_rfl) (by kernel_rfl) (by exact fun _ _ _ h => h) (by kernel_rfl) (fun wx hS => by (obtain ⟨hc, hf⟩ := ocell hS; clear hS; go_simp; (try go_bits); exact ⟨rfl, Over.refl _⟩)) ?_
  simp only [Act.put,xd,yc,yd]
  refine wpAnyO_take (i := 27) (v := _) (by assumption) (by simp only [xa,xb,xc]; rfl) (by kernel_rfl) (by kernel_rfl) (by kernel_rfl) (by exact fun _ _ _ h => h) (by kernel_rfl) (fun wx hS => by (go_simp; refine (DivRound_any _ _ _ (by omega) (by omega) (by omega) (by omega)).mono ?_; rintro e w1 ⟨rfl, rfl⟩; exact ⟨rfl, Over.refl _⟩)) ?_
  simp only [Act.put,xd,yc,yd]
  refine wpAnyO_take (i := 28) (v := _) (by assumption) (by simp only [xa,xb,xc]; rfl) (by kernel_rfl) (by kernel_rfl) (by kernel_rfl) (by exact fun _ _ _ h => h) (by kernel_rfl) (fun wx hS => by (obtain ⟨hc, hf⟩ := ocell hS; clear hS; go_simp; (try go_bits); exact ⟨rfl, Over.refl _⟩)) ?_
  simp only [Act.put,xd,yc,yd]
  refine wpAnyO_one (i := 29) (by simp only [xa,xb,xc]; rfl) (by kernel_rfl) (by kernel_rfl) (fun w2 h2 K hK => ?_)
  obtain ⟨hc, hf⟩ := ocell h2
  have hzw2_0 : w.heap.size < w2.heap.size := Nat.lt_of_lt_of_le (by simp <;> omega) (Over.size h2)
  have hzw2_1 : w.heap.size + 1 < w2.heap.size := Nat.lt_of_lt_of_le (by simp <;> omega) (Over.size h2)
  have hzw2_2 : w.heap.size + 1 + 1 < w2.heap.size := Nat.lt_of_lt_of_le (by simp <;> omega) (Over.size h2)
  have hzw2_3 : w.heap.size + 1 + 1 + 1 < w2.heap.size := Nat.lt_of_lt_of_le (by simp <;> omega) (Over.size h2)
  have hzw2_4 : w.heap.size + 1 + 1 + 1 + 1 < w2.heap.size := Nat.lt_of_lt_of_le (by simp <;> omega) (Over.size h2)
  go_step
  refine hK.out _ _ (by repeat (first | exact Over.refl _ | (with_reducible assumption) | refine Over.alloc_ ?_ _ | refine Over.trans ?_ (by with_reducible assumption) | refine Over.drew_ ?_ | refine Over.set_ ?_ (by simp; try omega) _)) (fun hB => ?_)
  clear hK K
  refine wpAnyO_done (by kernel_rfl) (fun w3 h3 => ?_) _
  try clear hBW
  go_wp2
  obtain ⟨hc, hf⟩ := ocell h3
  exact bodyPost_ret (v := ptV (rnd (ax * D + (bx - ax) * N) D) (rnd (ay * D + (b_y - ay) * N) D)) (by simp [results, Tryz.results41, go_sem, *]) rfl ⟨by rw [HR.out, HR.out, HD.out, HN.out], (by repeat (first | exact Over.refl _ | (with_reducible assumption) | refine Over.alloc_ ?_ _ | refine Over.trans ?_ (by with_reducible assumption) | refine Over.drew_ ?_ | refine Over.set_ ?_ (by simp; try omega) _))⟩
end Go.Proofs.YtakdjgldcpompaaGreat
