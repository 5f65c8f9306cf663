/- The common point of two lines: the program's and the reference's. -/
import Derived.Test.YtokmojopajdbfaaLines
namespace Go.Proofs.Ytokmojopajdbfaa
open Go.RowKit

def cX (ax ay bx b_y cx cy dx dy : Int) : Int := crs ax bx (numOf ax ay cx cy dx dy) (denOf ax ay bx b_y cx cy dx dy)
def cY (ax ay bx b_y cx cy dx dy : Int) : Int := crs ay b_y (numOf ax ay cx cy dx dy) (denOf ax ay bx b_y cx cy dx dy)

/-- What both give: the point, and whether there is one. -/
def lmV (ax ay bx b_y cx cy dx dy : Int) : Value :=
  if denOf ax ay bx b_y cx cy dx dy = 0 then .tuple #[ptV 0 0, .bool false]
  else .tuple #[ptV (cX ax ay bx b_y cx cy dx dy) (cY ax ay bx b_y cx cy dx dy), .bool (okB (cX ax ay bx b_y cx cy dx dy) (cY ax ay bx b_y cx cy dx dy))]

theorem crossing_c (ax ay bx b_y cx cy dx dy : Int) (w : World) (ha : okB ax ay = true) (hb : okB bx b_y = true) (hc : okB cx cy = true) (hd : okB dx dy = true) (hden : denOf ax ay bx b_y cx cy dx dy ≠ 0) :
    Calls Try.prog 80 #[ptV ax ay, ptV bx b_y, ptV cx cy, ptV dx dy] w fun e w' => e = .returned (ptV (cX ax ay bx b_y cx cy dx dy) (cY ax ay bx b_y cx cy dx dy)) ∧ Over w w' :=
  crossing_any ax ay bx b_y cx cy dx dy w ha hb hc hd hden

set_option maxHeartbeats 2000000 in
set_option maxRecDepth 100000 in
theorem linesMeet_any (ax ay bx b_y cx cy dx dy : Int) (w : World) (ha : okB ax ay = true) (hb : okB bx b_y = true) (hc : okB cx cy = true) (hd : okB dx dy = true) :
    Calls Try.prog 62 #[ptV ax ay, ptV bx b_y, ptV cx cy, ptV dx dy] w fun e w' => e = .returned (lmV ax ay bx b_y cx cy dx dy) ∧ Over w w' := by
  have Ha := Lib.hid ha
  have Hb := Lib.hid hb
  have Hc := Lib.hid hc
  have Hd := Lib.hid hd
  simp [okB, inB] at ha hb hc hd
  obtain ⟨⟨a1, a2⟩, a3, a4⟩ := ha
  obtain ⟨⟨b1, b2⟩, b3, b4⟩ := hb
  obtain ⟨⟨c1, c2⟩, c3, c4⟩ := hc
  obtain ⟨⟨d1, d2⟩, d3, d4⟩ := hd
  obtain ⟨u1, u1'⟩ := mul_bd (a := bx - ax) (b := dy - cy) (A := 524288) (B := 524288) (by omega) (by omega) (by omega) (by omega)
  obtain ⟨u2, u2'⟩ := mul_bd (a := b_y - ay) (b := dx - cx) (A := 524288) (B := 524288) (by omega) (by omega) (by omega) (by omega)
  by_cases hden : denOf ax ay bx b_y cx cy dx dy = 0
  · have hv : Hid (lmV ax ay bx b_y cx cy dx dy = .tuple #[ptV 0 0, .bool false]) := by unfold Hid lmV; rw [if_pos hden]
    have hq : ((bx - ax) * (dy - cy) == (b_y - ay) * (dx - cx)) = true := by rw [beq_iff_eq]; unfold denOf at hden; omega
    clear hden
    go_enter Try.func62, Try.ntmps62
    go_wp2
    exact bodyPost_ret (v := .tuple #[ptV 0 0, .bool false]) (by simp [results, Try.results62, go_sem, *]) rfl ⟨by rw [hv.out], (by repeat (first | exact Over.refl _ | assumption | refine Over.alloc_ ?_ _ | refine Over.trans ?_ (by assumption) | refine Over.drew_ ?_ | refine Over.set_ ?_ (by simp; try omega) _))⟩
  · have hv : Hid (lmV ax ay bx b_y cx cy dx dy = .tuple #[ptV (cX ax ay bx b_y cx cy dx dy) (cY ax ay bx b_y cx cy dx dy), .bool (okB (cX ax ay bx b_y cx cy dx dy) (cY ax ay bx b_y cx cy dx dy))]) := by unfold Hid lmV; rw [if_neg hden]
    have hq : ((bx - ax) * (dy - cy) == (b_y - ay) * (dx - cx)) = false := by rw [beq_eq_false_iff_ne]; unfold denOf at hden; omega
    have Hden := Lib.hid hden
    clear hden
    go_enter Try.func62, Try.ntmps62
    go_wp2_with (go_at_call 80; refine (crossing_c _ _ _ _ _ _ _ _ _ Ha.out Hb.out Hc.out Hd.out Hden.out).mono ?_; rintro e wx ⟨rfl, hb⟩; (first | (replace hO := Over.trans hO hb) | (replace hO := Over.trans (Over.alloc_ hO _) hb) | (replace hO := Over.trans (Over.alloc_ (Over.alloc_ hO _) _) hb) | (have hO := hb)); (try clear hc hf); obtain ⟨hc, hf⟩ := ocell hO; (try clear hb))
    refine wp_region_O (B := pb w wx.heap.size (.int .i64 (cX ax ay bx b_y cx cy dx dy)) (.int .i64 (cY ax ay bx b_y cx cy dx dy))) ?_ (by kernel_rfl) (by simp only [List.size_toArray, List.length_cons, List.length_nil, Nat.reduceAdd]; rfl) (fun hBW => ?_)
    · exact ⟨(by repeat (first | exact Over.refl _ | assumption | refine Over.alloc_ ?_ _ | refine Over.trans ?_ (by assumption) | refine Over.drew_ ?_ | refine Over.set_ ?_ (by simp; try omega) _)), (by first | assumption | simp), (by first | assumption | (simp [go_sem]; done)), (by first | assumption | (simp [go_sem]; done))⟩
    refine wpAnyO_take (i := 0) (v := _) (by assumption) (by simp only [List.getElem?_toArray, List.getElem?_cons_zero]; rfl) (by kernel_rfl) (by kernel_rfl) (by kernel_rfl) (by exact fun _ _ _ h => h) (by kernel_rfl) (fun wx hS => by (obtain ⟨_, _, hx, hy⟩ := hS; go_simp; (try go_bits); exact ⟨rfl, Over.refl _⟩)) ?_
    simp only [Act.put, List.setIfInBounds_toArray, List.set_cons_zero, List.set_cons_succ]
    refine wpAnyO_take (i := 1) (v := _) (by assumption) (by simp only [List.getElem?_toArray, List.getElem?_cons_zero, List.getElem?_cons_succ]; rfl) (by kernel_rfl) (by kernel_rfl) (by kernel_rfl) (by exact fun _ _ _ h => h) (by kernel_rfl) (fun wx hS => by (obtain ⟨_, _, hx, hy⟩ := hS; go_simp; (try go_bits); exact ⟨rfl, Over.refl _⟩)) ?_
    simp only [Act.put, List.setIfInBounds_toArray, List.set_cons_zero, List.set_cons_succ]
    refine wpAnyO_take (i := 2) (v := _) (by assumption) (by simp only [List.getElem?_toArray, List.getElem?_cons_zero, List.getElem?_cons_succ]; rfl) (by kernel_rfl) (by kernel_rfl) (by kernel_rfl) (by exact fun _ _ _ h => h) (by kernel_rfl) (fun wx hS => by (go_simp; refine (ValidPt_any _ _ _).mono ?_; rintro e w1 ⟨rfl, hb1⟩; exact ⟨rfl, hb1⟩)) ?_
    simp only [Act.put, List.setIfInBounds_toArray, List.set_cons_zero, List.set_cons_succ]
    refine wpAnyO_one (i := 3) (by simp only [List.getElem?_toArray, List.getElem?_cons_zero, List.getElem?_cons_succ]; rfl) (by kernel_rfl) (by kernel_rfl) (fun w2 h2 K hK => ?_)
    have hzwx_0 : w.heap.size < wx.heap.size := by have := hO.size; simp at this; omega
    have hzwx_1 : w.heap.size + 1 < wx.heap.size := by have := hO.size; simp at this; omega
    have hzwx_2 : w.heap.size + 1 + 1 < wx.heap.size := by have := hO.size; simp at this; omega
    have hzwx_3 : w.heap.size + 1 + 1 + 1 < wx.heap.size := by have := hO.size; simp at this; omega
    have hzwx_4 : w.heap.size + 1 + 1 + 1 + 1 < wx.heap.size := by have := hO.size; simp at this; omega
    obtain ⟨hc2, hf2⟩ := ocell h2
    go_step
    have hne : w.heap.size + 1 + 1 + 1 + 1 ≠ wx.heap.size := by omega
    have hz5 : w.heap.size + 1 + 1 + 1 + 1 < w2.heap.size := by have := h2.size; simp at this; omega
    refine hK.out _ _ ⟨(by repeat (first | exact Over.refl _ | assumption | refine Over.alloc_ ?_ _ | refine Over.trans ?_ (by assumption) | refine Over.drew_ ?_ | refine Over.set_ ?_ (by simp; try omega) _)), by have := h2.size; simp at this; simp; omega, by go_simp, by go_simp⟩ (fun hB => ?_)
    have hO3 : Over w _ := hB.1
    clear hK K hBW
    refine wpAnyO_take (i := 4) (v := _) (by assumption) (by simp only [List.getElem?_toArray, List.getElem?_cons_zero, List.getElem?_cons_succ]; rfl) (by kernel_rfl) (by kernel_rfl) (by kernel_rfl) (by exact fun _ _ _ h => h) (by kernel_rfl) (fun wx hS => by (go_simp; exact ⟨rfl, Over.refl _⟩)) ?_
    simp only [Act.put, List.setIfInBounds_toArray, List.set_cons_zero, List.set_cons_succ]
    refine wpAnyO_done (by kernel_rfl) (fun w3 h3 => ?_) _
    try clear hBW
    go_wp2
    obtain ⟨hc, hf⟩ := ocell h3
    exact bodyPost_ret (v := .tuple #[ptV (cX ax ay bx b_y cx cy dx dy) (cY ax ay bx b_y cx cy dx dy), .bool (okB (cX ax ay bx b_y cx cy dx dy) (cY ax ay bx b_y cx cy dx dy))]) (by simp [results, Try.results62, go_sem, *]) rfl ⟨by rw [hv.out], (by repeat (first | exact Over.refl _ | assumption | refine Over.alloc_ ?_ _ | refine Over.trans ?_ (by assumption) | refine Over.drew_ ?_ | refine Over.set_ ?_ (by simp; try omega) _))⟩

theorem den_turn (ax ay bx b_y cx cy dx dy : Int) : trn cx cy dx dy ax ay - trn cx cy dx dy bx b_y = denOf ax ay bx b_y cx cy dx dy := by
  unfold trn denOf
  have e1 : (dx - cx) * (ay - cy) = dx * ay - dx * cy - (cx * ay - cx * cy) := by rw [Int.sub_mul, Int.mul_sub, Int.mul_sub]
  have e2 : (dy - cy) * (ax - cx) = dy * ax - dy * cx - (cy * ax - cy * cx) := by rw [Int.sub_mul, Int.mul_sub, Int.mul_sub]
  have e3 : (dx - cx) * (b_y - cy) = dx * b_y - dx * cy - (cx * b_y - cx * cy) := by rw [Int.sub_mul, Int.mul_sub, Int.mul_sub]
  have e4 : (dy - cy) * (bx - cx) = dy * bx - dy * cx - (cy * bx - cy * cx) := by rw [Int.sub_mul, Int.mul_sub, Int.mul_sub]
  have e5 : (bx - ax) * (dy - cy) = dy * bx - cy * bx - (dy * ax - cy * ax) := by rw [Int.sub_mul, Int.mul_sub, Int.mul_sub, Int.mul_comm bx, Int.mul_comm bx, Int.mul_comm ax, Int.mul_comm ax]
  have e6 : (b_y - ay) * (dx - cx) = dx * b_y - cx * b_y - (dx * ay - cx * ay) := by rw [Int.sub_mul, Int.mul_sub, Int.mul_sub, Int.mul_comm b_y, Int.mul_comm b_y, Int.mul_comm ay, Int.mul_comm ay]
  omega
theorem num_turn (ax ay cx cy dx dy : Int) : trn cx cy dx dy ax ay = numOf ax ay cx cy dx dy := by
  unfold trn numOf
  have e1 : (dx - cx) * (ay - cy) = dx * ay - dx * cy - (cx * ay - cx * cy) := by rw [Int.sub_mul, Int.mul_sub, Int.mul_sub]
  have e2 : (dy - cy) * (ax - cx) = dy * ax - dy * cx - (cy * ax - cy * cx) := by rw [Int.sub_mul, Int.mul_sub, Int.mul_sub]
  have e5 : (cx - ax) * (dy - cy) = dy * cx - cy * cx - (dy * ax - cy * ax) := by rw [Int.sub_mul, Int.mul_sub, Int.mul_sub, Int.mul_comm cx, Int.mul_comm cx, Int.mul_comm ax, Int.mul_comm ax]
  have e6 : (cy - ay) * (dx - cx) = dx * cy - cx * cy - (dx * ay - cx * ay) := by rw [Int.sub_mul, Int.mul_sub, Int.mul_sub, Int.mul_comm cy, Int.mul_comm cy, Int.mul_comm ay, Int.mul_comm ay]
  have e7 : cx * cy = cy * cx := Int.mul_comm _ _
  omega

set_option maxHeartbeats 2000000 in
set_option maxRecDepth 100000 in
theorem l16Lines_any (ax ay bx b_y cx cy dx dy : Int) (w : World) (ha : okB ax ay = true) (hb : okB bx b_y = true) (hc : okB cx cy = true) (hd : okB dx dy = true) :
    Calls Try.prog 61 #[ptV ax ay, ptV bx b_y, ptV cx cy, ptV dx dy] w fun e w' => e = .returned (lmV ax ay bx b_y cx cy dx dy) ∧ Over w w' := by
  simp [okB, inB] at ha hb hc hd
  obtain ⟨⟨a1, a2⟩, a3, a4⟩ := ha
  obtain ⟨⟨b1, b2⟩, b3, b4⟩ := hb
  obtain ⟨⟨c1, c2⟩, c3, c4⟩ := hc
  obtain ⟨⟨d1, d2⟩, d3, d4⟩ := hd
  have en := num_turn ax ay cx cy dx dy
  have ed := den_turn ax ay bx b_y cx cy dx dy
  obtain ⟨t1, t2⟩ := trn_bd cx cy dx dy ax ay (by omega) (by omega) (by omega) (by omega) (by omega) (by omega) (by omega) (by omega) (by omega) (by omega) (by omega) (by omega)
  obtain ⟨t3, t4⟩ := trn_bd cx cy dx dy bx b_y (by omega) (by omega) (by omega) (by omega) (by omega) (by omega) (by omega) (by omega) (by omega) (by omega) (by omega) (by omega)
  have e2 : trn cx cy dx dy bx b_y = numOf ax ay cx cy dx dy - denOf ax ay bx b_y cx cy dx dy := by omega
  rw [en] at t1 t2 ed
  rw [e2] at t3 t4
  clear ed
  have e3 : numOf ax ay cx cy dx dy - (numOf ax ay cx cy dx dy - denOf ax ay bx b_y cx cy dx dy) = denOf ax ay bx b_y cx cy dx dy := by omega
  have hX : Hid (∀ x y, denOf ax ay bx b_y cx cy dx dy ≠ 0 → crs x y (numOf ax ay cx cy dx dy) (denOf ax ay bx b_y cx cy dx dy) = x + (if denOf ax ay bx b_y cx cy dx dy < 0 then rnd ((y - x) * -numOf ax ay cx cy dx dy) (-denOf ax ay bx b_y cx cy dx dy) else rnd ((y - x) * numOf ax ay cx cy dx dy) (denOf ax ay bx b_y cx cy dx dy))) :=
    fun x y h => crs_eq x y _ _ h
  rcases Int.lt_trichotomy (denOf ax ay bx b_y cx cy dx dy) 0 with hden | hden | hden
  · have gD : 1 ≤ -denOf ax ay bx b_y cx cy dx dy ∧ -denOf ax ay bx b_y cx cy dx dy ≤ 1099511627776 := by omega
    have gN : -549755813888 ≤ -numOf ax ay cx cy dx dy ∧ -numOf ax ay cx cy dx dy ≤ 549755813888 := by omega
    have hq : (denOf ax ay bx b_y cx cy dx dy == 0) = false := by rw [beq_eq_false_iff_ne]; omega
    have hq' : (-denOf ax ay bx b_y cx cy dx dy == 0) = false := by rw [beq_eq_false_iff_ne]; omega
    go_enter Try.func61, Try.ntmps61
    go_wp2_with fail
    refine (l03Turn_any _ _ _ _ _ _ _ (by omega) (by omega) (by omega) (by omega) (by omega) (by omega) (by omega) (by omega) (by omega) (by omega) (by omega) (by omega)).mono ?_
    rintro e wx ⟨rfl, hb⟩; (first | (replace hO := Over.trans hO hb) | (replace hO := Over.trans (Over.alloc_ hO _) hb) | (replace hO := Over.trans (Over.alloc_ (Over.alloc_ hO _) _) hb) | (have hO := hb)); (try clear hc hf); obtain ⟨hc, hf⟩ := ocell hO; (try clear hb)
    go_wp2_with fail
    refine (l03Turn_any _ _ _ _ _ _ _ (by omega) (by omega) (by omega) (by omega) (by omega) (by omega) (by omega) (by omega) (by omega) (by omega) (by omega) (by omega)).mono ?_
    rintro e wx ⟨rfl, hb⟩; (first | (replace hO := Over.trans hO hb) | (replace hO := Over.trans (Over.alloc_ hO _) hb) | (replace hO := Over.trans (Over.alloc_ (Over.alloc_ hO _) _) hb) | (have hO := hb)); (try clear hc hf); obtain ⟨hc, hf⟩ := ocell hO; (try clear hb)
    have hzwx_0 : w.heap.size < wx.heap.size := by have := hO.size; simp at this; omega
    have hzwx_1 : w.heap.size + 1 < wx.heap.size := by have := hO.size; simp at this; omega
    have hzwx_2 : w.heap.size + 1 + 1 < wx.heap.size := by have := hO.size; simp at this; omega
    have hzwx_3 : w.heap.size + 1 + 1 + 1 < wx.heap.size := by have := hO.size; simp at this; omega
    have hzwx_4 : w.heap.size + 1 + 1 + 1 + 1 < wx.heap.size := by have := hO.size; simp at this; omega
    go_wp2
    obtain ⟨gD1, gD2⟩ := gD
    obtain ⟨gN1, gN2⟩ := gN
    clear hq hq'
    generalize hD : -denOf ax ay bx b_y cx cy dx dy = D at gD1 gD2 ⊢
    generalize hN : -numOf ax ay cx cy dx dy = N at gN1 gN2 ⊢
    have HD := Lib.hid hD
    have HN := Lib.hid hN
    have HH := Lib.hid hden
    clear hD hN t1 t2 t3 t4 en e2 e3 hden
    obtain ⟨v2, v2'⟩ := mul_bd (a := bx - ax) (b := N) (A := 524288) (B := 549755813888) (by omega) (by omega) (by omega) (by omega)
    obtain ⟨v4, v4'⟩ := mul_bd (a := b_y - ay) (b := N) (A := 524288) (B := 549755813888) (by omega) (by omega) (by omega) (by omega)
    have hrx := rnd_bd ((bx - ax) * N) D 288230376151711744 (by omega) (by omega) (by omega)
    have hry := rnd_bd ((b_y - ay) * N) D 288230376151711744 (by omega) (by omega) (by omega)
    obtain ⟨rx1, rx2⟩ := hrx
    obtain ⟨ry1, ry2⟩ := hry
    refine wp_region_O (B := ob _) (by first | assumption | exact Over.refl _) (by kernel_rfl) (by simp only [List.size_toArray, List.length_cons, List.length_nil, Nat.reduceAdd]; rfl) (fun (hBW : Over _ _) => ?_)
    refine wpAnyO_take (i := 0) (v := _) (by assumption) (by simp only [List.getElem?_toArray, List.getElem?_cons_zero]; rfl) (by kernel_rfl) (by kernel_rfl) (by kernel_rfl) (by exact fun _ _ _ h => h) (by kernel_rfl) (fun wx hS => by (obtain ⟨hc, hf⟩ := ocell hS; clear hS; go_simp; (try go_bits); exact ⟨rfl, Over.refl _⟩)) ?_
    simp only [Act.put, List.setIfInBounds_toArray, List.set_cons_zero, List.set_cons_succ]
    refine wpAnyO_take (i := 1) (v := _) (by assumption) (by simp only [List.getElem?_toArray, List.getElem?_cons_zero, List.getElem?_cons_succ]; rfl) (by kernel_rfl) (by kernel_rfl) (by kernel_rfl) (by exact fun _ _ _ h => h) (by kernel_rfl) (fun wx hS => by (obtain ⟨hc, hf⟩ := ocell hS; clear hS; go_simp; (try go_bits); exact ⟨rfl, Over.refl _⟩)) ?_
    simp only [Act.put, List.setIfInBounds_toArray, List.set_cons_zero, List.set_cons_succ]
    refine wpAnyO_take (i := 2) (v := _) (by assumption) (by simp only [List.getElem?_toArray, List.getElem?_cons_zero, List.getElem?_cons_succ]; rfl) (by kernel_rfl) (by kernel_rfl) (by kernel_rfl) (by exact fun _ _ _ h => h) (by kernel_rfl) (fun wx hS => by (obtain ⟨hc, hf⟩ := ocell hS; clear hS; go_simp; (try go_bits); exact ⟨rfl, Over.refl _⟩)) ?_
    simp only [Act.put, List.setIfInBounds_toArray, List.set_cons_zero, List.set_cons_succ]
    refine wpAnyO_take (i := 3) (v := _) (by assumption) (by simp only [List.getElem?_toArray, List.getElem?_cons_zero, List.getElem?_cons_succ]; rfl) (by kernel_rfl) (by kernel_rfl) (by kernel_rfl) (by exact fun _ _ _ h => h) (by kernel_rfl) (fun wx hS => by (obtain ⟨hc, hf⟩ := ocell hS; clear hS; go_simp; (try go_bits); exact ⟨rfl, Over.refl _⟩)) ?_
    simp only [Act.put, List.setIfInBounds_toArray, List.set_cons_zero, List.set_cons_succ]
    refine wpAnyO_take (i := 4) (v := _) (by assumption) (by simp only [List.getElem?_toArray, List.getElem?_cons_zero, List.getElem?_cons_succ]; rfl) (by kernel_rfl) (by kernel_rfl) (by kernel_rfl) (by exact fun _ _ _ h => h) (by kernel_rfl) (fun wx hS => by (obtain ⟨hc, hf⟩ := ocell hS; clear hS; go_simp; (try go_bits); exact ⟨rfl, Over.refl _⟩)) ?_
    simp only [Act.put, List.setIfInBounds_toArray, List.set_cons_zero, List.set_cons_succ]
    refine wpAnyO_take (i := 5) (v := _) (by assumption) (by simp only [List.getElem?_toArray, List.getElem?_cons_zero, List.getElem?_cons_succ]; rfl) (by kernel_rfl) (by kernel_rfl) (by kernel_rfl) (by exact fun _ _ _ h => h) (by kernel_rfl) (fun wx hS => by (obtain ⟨hc, hf⟩ := ocell hS; clear hS; go_simp; (try go_bits); exact ⟨rfl, Over.refl _⟩)) ?_
    simp only [Act.put, List.setIfInBounds_toArray, List.set_cons_zero, List.set_cons_succ]
    refine wpAnyO_take (i := 6) (v := _) (by assumption) (by simp only [List.getElem?_toArray, List.getElem?_cons_zero, List.getElem?_cons_succ]; rfl) (by kernel_rfl) (by kernel_rfl) (by kernel_rfl) (by exact fun _ _ _ h => h) (by kernel_rfl) (fun wx hS => by (obtain ⟨hc, hf⟩ := ocell hS; clear hS; go_simp; (try go_bits); exact ⟨rfl, Over.refl _⟩)) ?_
    simp only [Act.put, List.setIfInBounds_toArray, List.set_cons_zero, List.set_cons_succ]
    refine wpAnyO_take (i := 7) (v := _) (by assumption) (by simp only [List.getElem?_toArray, List.getElem?_cons_zero, List.getElem?_cons_succ]; rfl) (by kernel_rfl) (by kernel_rfl) (by kernel_rfl) (by exact fun _ _ _ h => h) (by kernel_rfl) (fun wx hS => by (obtain ⟨hc, hf⟩ := ocell hS; clear hS; go_simp; (try go_bits); exact ⟨rfl, Over.refl _⟩)) ?_
    simp only [Act.put, List.setIfInBounds_toArray, List.set_cons_zero, List.set_cons_succ]
    refine wpAnyO_take (i := 8) (v := _) (by assumption) (by simp only [List.getElem?_toArray, List.getElem?_cons_zero, List.getElem?_cons_succ]; rfl) (by kernel_rfl) (by kernel_rfl) (by kernel_rfl) (by exact fun _ _ _ h => h) (by kernel_rfl) (fun wx hS => by (obtain ⟨hc, hf⟩ := ocell hS; clear hS; go_simp; (try go_bits); exact ⟨rfl, Over.refl _⟩)) ?_
    simp only [Act.put, List.setIfInBounds_toArray, List.set_cons_zero, List.set_cons_succ]
    refine wpAnyO_take (i := 9) (v := _) (by assumption) (by simp only [List.getElem?_toArray, List.getElem?_cons_zero, List.getElem?_cons_succ]; rfl) (by kernel_rfl) (by kernel_rfl) (by kernel_rfl) (by exact fun _ _ _ h => h) (by kernel_rfl) (fun wx hS => by (obtain ⟨hc, hf⟩ := ocell hS; clear hS; go_simp; (try go_bits); exact ⟨rfl, Over.refl _⟩)) ?_
    simp only [Act.put, List.setIfInBounds_toArray, List.set_cons_zero, List.set_cons_succ]
    refine wpAnyO_take (i := 10) (v := _) (by assumption) (by simp only [List.getElem?_toArray, List.getElem?_cons_zero, List.getElem?_cons_succ]; rfl) (by kernel_rfl) (by kernel_rfl) (by kernel_rfl) (by exact fun _ _ _ h => h) (by kernel_rfl) (fun wx hS => by (go_simp; refine (l03Round_any _ _ _ (by omega) (by omega) (by omega) (by omega)).mono ?_; rintro e w1 ⟨rfl, rfl⟩; exact ⟨rfl, Over.refl _⟩)) ?_
    simp only [Act.put, List.setIfInBounds_toArray, List.set_cons_zero, List.set_cons_succ]
    refine wpAnyO_take (i := 11) (v := _) (by assumption) (by simp only [List.getElem?_toArray, List.getElem?_cons_zero, List.getElem?_cons_succ]; rfl) (by kernel_rfl) (by kernel_rfl) (by kernel_rfl) (by exact fun _ _ _ h => h) (by kernel_rfl) (fun wx hS => by (obtain ⟨hc, hf⟩ := ocell hS; clear hS; go_simp; (try go_bits); exact ⟨rfl, Over.refl _⟩)) ?_
    simp only [Act.put, List.setIfInBounds_toArray, List.set_cons_zero, List.set_cons_succ]
    refine wpAnyO_take (i := 12) (v := _) (by assumption) (by simp only [List.getElem?_toArray, List.getElem?_cons_zero, List.getElem?_cons_succ]; rfl) (by kernel_rfl) (by kernel_rfl) (by kernel_rfl) (by exact fun _ _ _ h => h) (by kernel_rfl) (fun wx hS => by (obtain ⟨hc, hf⟩ := ocell hS; clear hS; go_simp; (try go_bits); exact ⟨rfl, Over.refl _⟩)) ?_
    simp only [Act.put, List.setIfInBounds_toArray, List.set_cons_zero, List.set_cons_succ]
    refine wpAnyO_take (i := 13) (v := _) (by assumption) (by simp only [List.getElem?_toArray, List.getElem?_cons_zero, List.getElem?_cons_succ]; rfl) (by kernel_rfl) (by kernel_rfl) (by kernel_rfl) (by exact fun _ _ _ h => h) (by kernel_rfl) (fun wx hS => by (obtain ⟨hc, hf⟩ := ocell hS; clear hS; go_simp; (try go_bits); exact ⟨rfl, Over.refl _⟩)) ?_
    simp only [Act.put, List.setIfInBounds_toArray, List.set_cons_zero, List.set_cons_succ]
    refine wpAnyO_take (i := 14) (v := _) (by assumption) (by simp only [List.getElem?_toArray, List.getElem?_cons_zero, List.getElem?_cons_succ]; rfl) (by kernel_rfl) (by kernel_rfl) (by kernel_rfl) (by exact fun _ _ _ h => h) (by kernel_rfl) (fun wx hS => by (obtain ⟨hc, hf⟩ := ocell hS; clear hS; go_simp; (try go_bits); exact ⟨rfl, Over.refl _⟩)) ?_
    simp only [Act.put, List.setIfInBounds_toArray, List.set_cons_zero, List.set_cons_succ]
    refine wpAnyO_take (i := 15) (v := _) (by assumption) (by simp only [List.getElem?_toArray, List.getElem?_cons_zero, List.getElem?_cons_succ]; rfl) (by kernel_rfl) (by kernel_rfl) (by kernel_rfl) (by exact fun _ _ _ h => h) (by kernel_rfl) (fun wx hS => by (obtain ⟨hc, hf⟩ := ocell hS; clear hS; go_simp; (try go_bits); exact ⟨rfl, Over.refl _⟩)) ?_
    simp only [Act.put, List.setIfInBounds_toArray, List.set_cons_zero, List.set_cons_succ]
    refine wpAnyO_take (i := 16) (v := _) (by assumption) (by simp only [List.getElem?_toArray, List.getElem?_cons_zero, List.getElem?_cons_succ]; rfl) (by kernel_rfl) (by kernel_rfl) (by kernel_rfl) (by exact fun _ _ _ h => h) (by kernel_rfl) (fun wx hS => by (obtain ⟨hc, hf⟩ := ocell hS; clear hS; go_simp; (try go_bits); exact ⟨rfl, Over.refl _⟩)) ?_
    simp only [Act.put, List.setIfInBounds_toArray, List.set_cons_zero, List.set_cons_succ]
    refine wpAnyO_take (i := 17) (v := _) (by assumption) (by simp only [List.getElem?_toArray, List.getElem?_cons_zero, List.getElem?_cons_succ]; rfl) (by kernel_rfl) (by kernel_rfl) (by kernel_rfl) (by exact fun _ _ _ h => h) (by kernel_rfl) (fun wx hS => by (obtain ⟨hc, hf⟩ := ocell hS; clear hS; go_simp; (try go_bits); exact ⟨rfl, Over.refl _⟩)) ?_
    simp only [Act.put, List.setIfInBounds_toArray, List.set_cons_zero, List.set_cons_succ]
    refine wpAnyO_take (i := 18) (v := _) (by assumption) (by simp only [List.getElem?_toArray, List.getElem?_cons_zero, List.getElem?_cons_succ]; rfl) (by kernel_rfl) (by kernel_rfl) (by kernel_rfl) (by exact fun _ _ _ h => h) (by kernel_rfl) (fun wx hS => by (obtain ⟨hc, hf⟩ := ocell hS; clear hS; go_simp; (try go_bits); exact ⟨rfl, Over.refl _⟩)) ?_
    simp only [Act.put, List.setIfInBounds_toArray, List.set_cons_zero, List.set_cons_succ]
    refine wpAnyO_take (i := 19) (v := _) (by assumption) (by simp only [List.getElem?_toArray, List.getElem?_cons_zero, List.getElem?_cons_succ]; rfl) (by kernel_rfl) (by kernel_rfl) (by kernel_rfl) (by exact fun _ _ _ h => h) (by kernel_rfl) (fun wx hS => by (obtain ⟨hc, hf⟩ := ocell hS; clear hS; go_simp; (try go_bits); exact ⟨rfl, Over.refl _⟩)) ?_
    simp only [Act.put, List.setIfInBounds_toArray, List.set_cons_zero, List.set_cons_succ]
    refine wpAnyO_take (i := 20) (v := _) (by assumption) (by simp only [List.getElem?_toArray, List.getElem?_cons_zero, List.getElem?_cons_succ]; rfl) (by kernel_rfl) (by kernel_rfl) (by kernel_rfl) (by exact fun _ _ _ h => h) (by kernel_rfl) (fun wx hS => by (obtain ⟨hc, hf⟩ := ocell hS; clear hS; go_simp; (try go_bits); exact ⟨rfl, Over.refl _⟩)) ?_
    simp only [Act.put, List.setIfInBounds_toArray, List.set_cons_zero, List.set_cons_succ]
    refine wpAnyO_take (i := 21) (v := _) (by assumption) (by simp only [List.getElem?_toArray, List.getElem?_cons_zero, List.getElem?_cons_succ]; rfl) (by kernel_rfl) (by kernel_rfl) (by kernel_rfl) (by exact fun _ _ _ h => h) (by kernel_rfl) (fun wx hS => by (obtain ⟨hc, hf⟩ := ocell hS; clear hS; go_simp; (try go_bits); exact ⟨rfl, Over.refl _⟩)) ?_
    simp only [Act.put, List.setIfInBounds_toArray, List.set_cons_zero, List.set_cons_succ]
    refine wpAnyO_take (i := 22) (v := _) (by assumption) (by simp only [List.getElem?_toArray, List.getElem?_cons_zero, List.getElem?_cons_succ]; rfl) (by kernel_rfl) (by kernel_rfl) (by kernel_rfl) (by exact fun _ _ _ h => h) (by kernel_rfl) (fun wx hS => by (go_simp; refine (l03Round_any _ _ _ (by omega) (by omega) (by omega) (by omega)).mono ?_; rintro e w1 ⟨rfl, rfl⟩; exact ⟨rfl, Over.refl _⟩)) ?_
    simp only [Act.put, List.setIfInBounds_toArray, List.set_cons_zero, List.set_cons_succ]
    refine wpAnyO_take (i := 23) (v := _) (by assumption) (by simp only [List.getElem?_toArray, List.getElem?_cons_zero, List.getElem?_cons_succ]; rfl) (by kernel_rfl) (by kernel_rfl) (by kernel_rfl) (by exact fun _ _ _ h => h) (by kernel_rfl) (fun wx hS => by (obtain ⟨hc, hf⟩ := ocell hS; clear hS; go_simp; (try go_bits); exact ⟨rfl, Over.refl _⟩)) ?_
    simp only [Act.put, List.setIfInBounds_toArray, List.set_cons_zero, List.set_cons_succ]
    refine wpAnyO_take (i := 24) (v := _) (by assumption) (by simp only [List.getElem?_toArray, List.getElem?_cons_zero, List.getElem?_cons_succ]; rfl) (by kernel_rfl) (by kernel_rfl) (by kernel_rfl) (by exact fun _ _ _ h => h) (by kernel_rfl) (fun wx hS => by (obtain ⟨hc, hf⟩ := ocell hS; clear hS; go_simp; (try go_bits); exact ⟨rfl, Over.refl _⟩)) ?_
    simp only [Act.put, List.setIfInBounds_toArray, List.set_cons_zero, List.set_cons_succ]
    refine wpAnyO_new1 (i := 25) (k := 26) (by assumption) (by simp only [List.getElem?_toArray, List.getElem?_cons_zero, List.getElem?_cons_succ]; rfl) (by simp only [List.getElem?_toArray, List.getElem?_cons_zero, List.getElem?_cons_succ]; rfl) (by rfl) (by rfl) (by rfl) (by rfl) (by rfl) (by rfl) (fun _ => by (go_simp; rfl)) (by kernel_rfl) (by kernel_rfl) (fun _ => by rfl) (fun _ => by rfl) (by kernel_rfl) (by rfl) (by simp [Value.oneCell']) ?_
    intro w3 q1 ho hq1 hl1 hh1 hBx
    replace hBW := hBx; clear hBx
    simp only [Act.put, List.setIfInBounds_toArray, List.set_cons_zero, List.set_cons_succ]
    obtain ⟨k1, k2, k3, k4⟩ := two_cells hh1
    have hz5 : w.heap.size + 1 + 1 + 1 + 1 < w3.heap.size := by have := ho.size; omega
    have hne : w.heap.size + 1 + 1 + 1 + 1 ≠ q1 := by omega
    refine wpAnyO_done (by kernel_rfl) (fun w4 h4 => ?_) _
    try clear hBW
    have k1' := ((ocell h4).1 q1 0 hl1).trans k1
    have k2' := ((ocell h4).1 q1 1 hl1).trans k2
    have hz6 : w.heap.size + 1 + 1 + 1 + 1 < w4.heap.size := by have := h4.size; omega
    have hl4 : q1 < w4.heap.size := by have := h4.size; omega
    replace hO := hO.trans (ho.trans h4)
    clear k1 k2 k3 k4 hc hf ho h4 hh1
    obtain ⟨hc, hf⟩ := ocell hO
    go_wp2
    refine wp_region_O (B := pb w q1 (.int .i64 (ax + rnd ((bx - ax) * N) D)) (.int .i64 (ay + rnd ((b_y - ay) * N) D))) ?_ (by kernel_rfl) (by simp only [List.size_toArray, List.length_cons, List.length_nil, Nat.reduceAdd]; rfl) (fun hBW => ?_)
    · exact ⟨(by repeat (first | exact Over.refl _ | assumption | refine Over.alloc_ ?_ _ | refine Over.trans ?_ (by assumption) | refine Over.drew_ ?_ | refine Over.set_ ?_ (by simp; try omega) _)), (by first | assumption | simp), (by first | assumption | (simp [go_sem]; done)), (by first | assumption | (simp [go_sem]; done))⟩
    refine wpAnyO_take (i := 0) (v := _) (by assumption) (by simp only [List.getElem?_toArray, List.getElem?_cons_zero]; rfl) (by kernel_rfl) (by kernel_rfl) (by kernel_rfl) (by exact fun _ _ _ h => h) (by kernel_rfl) (fun wx hS => by (obtain ⟨_, _, hx, hy⟩ := hS; go_simp; (try go_bits); exact ⟨rfl, Over.refl _⟩)) ?_
    simp only [Act.put, List.setIfInBounds_toArray, List.set_cons_zero, List.set_cons_succ]
    refine wpAnyO_take (i := 1) (v := _) (by assumption) (by simp only [List.getElem?_toArray, List.getElem?_cons_zero, List.getElem?_cons_succ]; rfl) (by kernel_rfl) (by kernel_rfl) (by kernel_rfl) (by exact fun _ _ _ h => h) (by kernel_rfl) (fun wx hS => by (obtain ⟨_, _, hx, hy⟩ := hS; go_simp; (try go_bits); exact ⟨rfl, Over.refl _⟩)) ?_
    simp only [Act.put, List.setIfInBounds_toArray, List.set_cons_zero, List.set_cons_succ]
    refine wpAnyO_take (i := 2) (v := _) (by assumption) (by simp only [List.getElem?_toArray, List.getElem?_cons_zero, List.getElem?_cons_succ]; rfl) (by kernel_rfl) (by kernel_rfl) (by kernel_rfl) (by exact fun _ _ _ h => h) (by kernel_rfl) (fun wx hS => by (go_simp; refine (l03Ok_any _ _ _).mono ?_; rintro e w1 ⟨rfl, hb1⟩; exact ⟨rfl, hb1⟩)) ?_
    simp only [Act.put, List.setIfInBounds_toArray, List.set_cons_zero, List.set_cons_succ]
    refine wpAnyO_one (i := 3) (by simp only [List.getElem?_toArray, List.getElem?_cons_zero, List.getElem?_cons_succ]; rfl) (by kernel_rfl) (by kernel_rfl) (fun w2 h2 K hK => ?_)
    have hO2 := hO.trans h2
    have hz7 : w.heap.size + 1 + 1 + 1 + 1 < w2.heap.size := by have := h2.size; omega
    have hl7 : q1 < w2.heap.size := by have := h2.size; omega
    have m1 := ((ocell h2).1 q1 0 hl4).trans k1'
    have m2 := ((ocell h2).1 q1 1 hl4).trans k2'
    clear hc hf k1' k2' h2
    obtain ⟨hc2, hf2⟩ := ocell hO2
    go_step
    refine hK.out _ _ ⟨(by repeat (first | exact Over.refl _ | assumption | refine Over.alloc_ ?_ _ | refine Over.trans ?_ (by assumption) | refine Over.drew_ ?_ | refine Over.set_ ?_ (by simp; try omega) _)), by simpa using hl7, by go_simp, by go_simp⟩ (fun hB => ?_)
    have hO3 : Over w _ := hB.1
    clear hK K hBW
    refine wpAnyO_take (i := 4) (v := _) (by assumption) (by simp only [List.getElem?_toArray, List.getElem?_cons_zero, List.getElem?_cons_succ]; rfl) (by kernel_rfl) (by kernel_rfl) (by kernel_rfl) (by exact fun _ _ _ h => h) (by kernel_rfl) (fun wx hS => by (go_simp; exact ⟨rfl, Over.refl _⟩)) ?_
    simp only [Act.put, List.setIfInBounds_toArray, List.set_cons_zero, List.set_cons_succ]
    refine wpAnyO_done (by kernel_rfl) (fun w5 h5 => ?_) _
    try clear hBW
    go_wp2
    obtain ⟨hc, hf⟩ := ocell h5
    exact bodyPost_ret (v := .tuple #[ptV (ax + rnd ((bx - ax) * N) D) (ay + rnd ((b_y - ay) * N) D), .bool (okB (ax + rnd ((bx - ax) * N) D) (ay + rnd ((b_y - ay) * N) D))]) (by simp [results, Try.results61, go_sem, *]) rfl ⟨by
      have := HH.out
      rw [lmV, if_neg (by omega), cX, cY, hX.out _ _ (by omega), hX.out _ _ (by omega), if_pos this, if_pos this, HD.out, HN.out], (by repeat (first | exact Over.refl _ | assumption | refine Over.alloc_ ?_ _ | refine Over.trans ?_ (by assumption) | refine Over.drew_ ?_ | refine Over.set_ ?_ (by simp; try omega) _))⟩
  · have hv : Hid (lmV ax ay bx b_y cx cy dx dy = .tuple #[ptV 0 0, .bool false]) := by unfold Hid lmV; rw [if_pos hden]
    have hq : (denOf ax ay bx b_y cx cy dx dy == 0) = true := by rw [beq_iff_eq]; omega
    have hn : ¬ denOf ax ay bx b_y cx cy dx dy < 0 := by omega
    clear hden
    go_enter Try.func61, Try.ntmps61
    go_wp2_with fail
    refine (l03Turn_any _ _ _ _ _ _ _ (by omega) (by omega) (by omega) (by omega) (by omega) (by omega) (by omega) (by omega) (by omega) (by omega) (by omega) (by omega)).mono ?_
    rintro e wx ⟨rfl, hb⟩; (first | (replace hO := Over.trans hO hb) | (replace hO := Over.trans (Over.alloc_ hO _) hb) | (replace hO := Over.trans (Over.alloc_ (Over.alloc_ hO _) _) hb) | (have hO := hb)); (try clear hc hf); obtain ⟨hc, hf⟩ := ocell hO; (try clear hb)
    go_wp2_with fail
    refine (l03Turn_any _ _ _ _ _ _ _ (by omega) (by omega) (by omega) (by omega) (by omega) (by omega) (by omega) (by omega) (by omega) (by omega) (by omega) (by omega)).mono ?_
    rintro e wx ⟨rfl, hb⟩; (first | (replace hO := Over.trans hO hb) | (replace hO := Over.trans (Over.alloc_ hO _) hb) | (replace hO := Over.trans (Over.alloc_ (Over.alloc_ hO _) _) hb) | (have hO := hb)); (try clear hc hf); obtain ⟨hc, hf⟩ := ocell hO; (try clear hb)
    have hzwx_0 : w.heap.size < wx.heap.size := by have := hO.size; simp at this; omega
    have hzwx_1 : w.heap.size + 1 < wx.heap.size := by have := hO.size; simp at this; omega
    have hzwx_2 : w.heap.size + 1 + 1 < wx.heap.size := by have := hO.size; simp at this; omega
    have hzwx_3 : w.heap.size + 1 + 1 + 1 < wx.heap.size := by have := hO.size; simp at this; omega
    have hzwx_4 : w.heap.size + 1 + 1 + 1 + 1 < wx.heap.size := by have := hO.size; simp at this; omega
    go_wp2
    exact bodyPost_ret (v := .tuple #[ptV 0 0, .bool false]) (by simp [results, Try.results61, go_sem, *]) rfl ⟨by rw [hv.out], (by repeat (first | exact Over.refl _ | assumption | refine Over.alloc_ ?_ _ | refine Over.trans ?_ (by assumption) | refine Over.drew_ ?_ | refine Over.set_ ?_ (by simp; try omega) _))⟩
  · have gD : 1 ≤ denOf ax ay bx b_y cx cy dx dy ∧ denOf ax ay bx b_y cx cy dx dy ≤ 1099511627776 := by omega
    have gN : -549755813888 ≤ numOf ax ay cx cy dx dy ∧ numOf ax ay cx cy dx dy ≤ 549755813888 := by omega
    have hq : (denOf ax ay bx b_y cx cy dx dy == 0) = false := by rw [beq_eq_false_iff_ne]; omega
    go_enter Try.func61, Try.ntmps61
    go_wp2_with fail
    refine (l03Turn_any _ _ _ _ _ _ _ (by omega) (by omega) (by omega) (by omega) (by omega) (by omega) (by omega) (by omega) (by omega) (by omega) (by omega) (by omega)).mono ?_
    rintro e wx ⟨rfl, hb⟩; (first | (replace hO := Over.trans hO hb) | (replace hO := Over.trans (Over.alloc_ hO _) hb) | (replace hO := Over.trans (Over.alloc_ (Over.alloc_ hO _) _) hb) | (have hO := hb)); (try clear hc hf); obtain ⟨hc, hf⟩ := ocell hO; (try clear hb)
    go_wp2_with fail
    refine (l03Turn_any _ _ _ _ _ _ _ (by omega) (by omega) (by omega) (by omega) (by omega) (by omega) (by omega) (by omega) (by omega) (by omega) (by omega) (by omega)).mono ?_
    rintro e wx ⟨rfl, hb⟩; (first | (replace hO := Over.trans hO hb) | (replace hO := Over.trans (Over.alloc_ hO _) hb) | (replace hO := Over.trans (Over.alloc_ (Over.alloc_ hO _) _) hb) | (have hO := hb)); (try clear hc hf); obtain ⟨hc, hf⟩ := ocell hO; (try clear hb)
    have hzwx_0 : w.heap.size < wx.heap.size := by have := hO.size; simp at this; omega
    have hzwx_1 : w.heap.size + 1 < wx.heap.size := by have := hO.size; simp at this; omega
    have hzwx_2 : w.heap.size + 1 + 1 < wx.heap.size := by have := hO.size; simp at this; omega
    have hzwx_3 : w.heap.size + 1 + 1 + 1 < wx.heap.size := by have := hO.size; simp at this; omega
    have hzwx_4 : w.heap.size + 1 + 1 + 1 + 1 < wx.heap.size := by have := hO.size; simp at this; omega
    go_wp2
    obtain ⟨gD1, gD2⟩ := gD
    obtain ⟨gN1, gN2⟩ := gN
    clear hq
    generalize hD : denOf ax ay bx b_y cx cy dx dy = D at gD1 gD2 ⊢
    generalize hN : numOf ax ay cx cy dx dy = N at gN1 gN2 ⊢
    have HD := Lib.hid hD
    have HN := Lib.hid hN
    have HH := Lib.hid hden
    clear hD hN t1 t2 t3 t4 en e2 e3 hden
    obtain ⟨v2, v2'⟩ := mul_bd (a := bx - ax) (b := N) (A := 524288) (B := 549755813888) (by omega) (by omega) (by omega) (by omega)
    obtain ⟨v4, v4'⟩ := mul_bd (a := b_y - ay) (b := N) (A := 524288) (B := 549755813888) (by omega) (by omega) (by omega) (by omega)
    have hrx := rnd_bd ((bx - ax) * N) D 288230376151711744 (by omega) (by omega) (by omega)
    have hry := rnd_bd ((b_y - ay) * N) D 288230376151711744 (by omega) (by omega) (by omega)
    obtain ⟨rx1, rx2⟩ := hrx
    obtain ⟨ry1, ry2⟩ := hry
    refine wp_region_O (B := ob _) (by first | assumption | exact Over.refl _) (by kernel_rfl) (by simp only [List.size_toArray, List.length_cons, List.length_nil, Nat.reduceAdd]; rfl) (fun (hBW : Over _ _) => ?_)
    refine wpAnyO_take (i := 0) (v := _) (by assumption) (by simp only [List.getElem?_toArray, List.getElem?_cons_zero]; rfl) (by kernel_rfl) (by kernel_rfl) (by kernel_rfl) (by exact fun _ _ _ h => h) (by kernel_rfl) (fun wx hS => by (obtain ⟨hc, hf⟩ := ocell hS; clear hS; go_simp; (try go_bits); exact ⟨rfl, Over.refl _⟩)) ?_
    simp only [Act.put, List.setIfInBounds_toArray, List.set_cons_zero, List.set_cons_succ]
    refine wpAnyO_take (i := 1) (v := _) (by assumption) (by simp only [List.getElem?_toArray, List.getElem?_cons_zero, List.getElem?_cons_succ]; rfl) (by kernel_rfl) (by kernel_rfl) (by kernel_rfl) (by exact fun _ _ _ h => h) (by kernel_rfl) (fun wx hS => by (obtain ⟨hc, hf⟩ := ocell hS; clear hS; go_simp; (try go_bits); exact ⟨rfl, Over.refl _⟩)) ?_
    simp only [Act.put, List.setIfInBounds_toArray, List.set_cons_zero, List.set_cons_succ]
    refine wpAnyO_take (i := 2) (v := _) (by assumption) (by simp only [List.getElem?_toArray, List.getElem?_cons_zero, List.getElem?_cons_succ]; rfl) (by kernel_rfl) (by kernel_rfl) (by kernel_rfl) (by exact fun _ _ _ h => h) (by kernel_rfl) (fun wx hS => by (obtain ⟨hc, hf⟩ := ocell hS; clear hS; go_simp; (try go_bits); exact ⟨rfl, Over.refl _⟩)) ?_
    simp only [Act.put, List.setIfInBounds_toArray, List.set_cons_zero, List.set_cons_succ]
    refine wpAnyO_take (i := 3) (v := _) (by assumption) (by simp only [List.getElem?_toArray, List.getElem?_cons_zero, List.getElem?_cons_succ]; rfl) (by kernel_rfl) (by kernel_rfl) (by kernel_rfl) (by exact fun _ _ _ h => h) (by kernel_rfl) (fun wx hS => by (obtain ⟨hc, hf⟩ := ocell hS; clear hS; go_simp; (try go_bits); exact ⟨rfl, Over.refl _⟩)) ?_
    simp only [Act.put, List.setIfInBounds_toArray, List.set_cons_zero, List.set_cons_succ]
    refine wpAnyO_take (i := 4) (v := _) (by assumption) (by simp only [List.getElem?_toArray, List.getElem?_cons_zero, List.getElem?_cons_succ]; rfl) (by kernel_rfl) (by kernel_rfl) (by kernel_rfl) (by exact fun _ _ _ h => h) (by kernel_rfl) (fun wx hS => by (obtain ⟨hc, hf⟩ := ocell hS; clear hS; go_simp; (try go_bits); exact ⟨rfl, Over.refl _⟩)) ?_
    simp only [Act.put, List.setIfInBounds_toArray, List.set_cons_zero, List.set_cons_succ]
    refine wpAnyO_take (i := 5) (v := _) (by assumption) (by simp only [List.getElem?_toArray, List.getElem?_cons_zero, List.getElem?_cons_succ]; rfl) (by kernel_rfl) (by kernel_rfl) (by kernel_rfl) (by exact fun _ _ _ h => h) (by kernel_rfl) (fun wx hS => by (obtain ⟨hc, hf⟩ := ocell hS; clear hS; go_simp; (try go_bits); exact ⟨rfl, Over.refl _⟩)) ?_
    simp only [Act.put, List.setIfInBounds_toArray, List.set_cons_zero, List.set_cons_succ]
    refine wpAnyO_take (i := 6) (v := _) (by assumption) (by simp only [List.getElem?_toArray, List.getElem?_cons_zero, List.getElem?_cons_succ]; rfl) (by kernel_rfl) (by kernel_rfl) (by kernel_rfl) (by exact fun _ _ _ h => h) (by kernel_rfl) (fun wx hS => by (obtain ⟨hc, hf⟩ := ocell hS; clear hS; go_simp; (try go_bits); exact ⟨rfl, Over.refl _⟩)) ?_
    simp only [Act.put, List.setIfInBounds_toArray, List.set_cons_zero, List.set_cons_succ]
    refine wpAnyO_take (i := 7) (v := _) (by assumption) (by simp only [List.getElem?_toArray, List.getElem?_cons_zero, List.getElem?_cons_succ]; rfl) (by kernel_rfl) (by kernel_rfl) (by kernel_rfl) (by exact fun _ _ _ h => h) (by kernel_rfl) (fun wx hS => by (obtain ⟨hc, hf⟩ := ocell hS; clear hS; go_simp; (try go_bits); exact ⟨rfl, Over.refl _⟩)) ?_
    simp only [Act.put, List.setIfInBounds_toArray, List.set_cons_zero, List.set_cons_succ]
    refine wpAnyO_take (i := 8) (v := _) (by assumption) (by simp only [List.getElem?_toArray, List.getElem?_cons_zero, List.getElem?_cons_succ]; rfl) (by kernel_rfl) (by kernel_rfl) (by kernel_rfl) (by exact fun _ _ _ h => h) (by kernel_rfl) (fun wx hS => by (obtain ⟨hc, hf⟩ := ocell hS; clear hS; go_simp; (try go_bits); exact ⟨rfl, Over.refl _⟩)) ?_
    simp only [Act.put, List.setIfInBounds_toArray, List.set_cons_zero, List.set_cons_succ]
    refine wpAnyO_take (i := 9) (v := _) (by assumption) (by simp only [List.getElem?_toArray, List.getElem?_cons_zero, List.getElem?_cons_succ]; rfl) (by kernel_rfl) (by kernel_rfl) (by kernel_rfl) (by exact fun _ _ _ h => h) (by kernel_rfl) (fun wx hS => by (obtain ⟨hc, hf⟩ := ocell hS; clear hS; go_simp; (try go_bits); exact ⟨rfl, Over.refl _⟩)) ?_
    simp only [Act.put, List.setIfInBounds_toArray, List.set_cons_zero, List.set_cons_succ]
    refine wpAnyO_take (i := 10) (v := _) (by assumption) (by simp only [List.getElem?_toArray, List.getElem?_cons_zero, List.getElem?_cons_succ]; rfl) (by kernel_rfl) (by kernel_rfl) (by kernel_rfl) (by exact fun _ _ _ h => h) (by kernel_rfl) (fun wx hS => by (go_simp; refine (l03Round_any _ _ _ (by omega) (by omega) (by omega) (by omega)).mono ?_; rintro e w1 ⟨rfl, rfl⟩; exact ⟨rfl, Over.refl _⟩)) ?_
    simp only [Act.put, List.setIfInBounds_toArray, List.set_cons_zero, List.set_cons_succ]
    refine wpAnyO_take (i := 11) (v := _) (by assumption) (by simp only [List.getElem?_toArray, List.getElem?_cons_zero, List.getElem?_cons_succ]; rfl) (by kernel_rfl) (by kernel_rfl) (by kernel_rfl) (by exact fun _ _ _ h => h) (by kernel_rfl) (fun wx hS => by (obtain ⟨hc, hf⟩ := ocell hS; clear hS; go_simp; (try go_bits); exact ⟨rfl, Over.refl _⟩)) ?_
    simp only [Act.put, List.setIfInBounds_toArray, List.set_cons_zero, List.set_cons_succ]
    refine wpAnyO_take (i := 12) (v := _) (by assumption) (by simp only [List.getElem?_toArray, List.getElem?_cons_zero, List.getElem?_cons_succ]; rfl) (by kernel_rfl) (by kernel_rfl) (by kernel_rfl) (by exact fun _ _ _ h => h) (by kernel_rfl) (fun wx hS => by (obtain ⟨hc, hf⟩ := ocell hS; clear hS; go_simp; (try go_bits); exact ⟨rfl, Over.refl _⟩)) ?_
    simp only [Act.put, List.setIfInBounds_toArray, List.set_cons_zero, List.set_cons_succ]
    refine wpAnyO_take (i := 13) (v := _) (by assumption) (by simp only [List.getElem?_toArray, List.getElem?_cons_zero, List.getElem?_cons_succ]; rfl) (by kernel_rfl) (by kernel_rfl) (by kernel_rfl) (by exact fun _ _ _ h => h) (by kernel_rfl) (fun wx hS => by (obtain ⟨hc, hf⟩ := ocell hS; clear hS; go_simp; (try go_bits); exact ⟨rfl, Over.refl _⟩)) ?_
    simp only [Act.put, List.setIfInBounds_toArray, List.set_cons_zero, List.set_cons_succ]
    refine wpAnyO_take (i := 14) (v := _) (by assumption) (by simp only [List.getElem?_toArray, List.getElem?_cons_zero, List.getElem?_cons_succ]; rfl) (by kernel_rfl) (by kernel_rfl) (by kernel_rfl) (by exact fun _ _ _ h => h) (by kernel_rfl) (fun wx hS => by (obtain ⟨hc, hf⟩ := ocell hS; clear hS; go_simp; (try go_bits); exact ⟨rfl, Over.refl _⟩)) ?_
    simp only [Act.put, List.setIfInBounds_toArray, List.set_cons_zero, List.set_cons_succ]
    refine wpAnyO_take (i := 15) (v := _) (by assumption) (by simp only [List.getElem?_toArray, List.getElem?_cons_zero, List.getElem?_cons_succ]; rfl) (by kernel_rfl) (by kernel_rfl) (by kernel_rfl) (by exact fun _ _ _ h => h) (by kernel_rfl) (fun wx hS => by (obtain ⟨hc, hf⟩ := ocell hS; clear hS; go_simp; (try go_bits); exact ⟨rfl, Over.refl _⟩)) ?_
    simp only [Act.put, List.setIfInBounds_toArray, List.set_cons_zero, List.set_cons_succ]
    refine wpAnyO_take (i := 16) (v := _) (by assumption) (by simp only [List.getElem?_toArray, List.getElem?_cons_zero, List.getElem?_cons_succ]; rfl) (by kernel_rfl) (by kernel_rfl) (by kernel_rfl) (by exact fun _ _ _ h => h) (by kernel_rfl) (fun wx hS => by (obtain ⟨hc, hf⟩ := ocell hS; clear hS; go_simp; (try go_bits); exact ⟨rfl, Over.refl _⟩)) ?_
    simp only [Act.put, List.setIfInBounds_toArray, List.set_cons_zero, List.set_cons_succ]
    refine wpAnyO_take (i := 17) (v := _) (by assumption) (by simp only [List.getElem?_toArray, List.getElem?_cons_zero, List.getElem?_cons_succ]; rfl) (by kernel_rfl) (by kernel_rfl) (by kernel_rfl) (by exact fun _ _ _ h => h) (by kernel_rfl) (fun wx hS => by (obtain ⟨hc, hf⟩ := ocell hS; clear hS; go_simp; (try go_bits); exact ⟨rfl, Over.refl _⟩)) ?_
    simp only [Act.put, List.setIfInBounds_toArray, List.set_cons_zero, List.set_cons_succ]
    refine wpAnyO_take (i := 18) (v := _) (by assumption) (by simp only [List.getElem?_toArray, List.getElem?_cons_zero, List.getElem?_cons_succ]; rfl) (by kernel_rfl) (by kernel_rfl) (by kernel_rfl) (by exact fun _ _ _ h => h) (by kernel_rfl) (fun wx hS => by (obtain ⟨hc, hf⟩ := ocell hS; clear hS; go_simp; (try go_bits); exact ⟨rfl, Over.refl _⟩)) ?_
    simp only [Act.put, List.setIfInBounds_toArray, List.set_cons_zero, List.set_cons_succ]
    refine wpAnyO_take (i := 19) (v := _) (by assumption) (by simp only [List.getElem?_toArray, List.getElem?_cons_zero, List.getElem?_cons_succ]; rfl) (by kernel_rfl) (by kernel_rfl) (by kernel_rfl) (by exact fun _ _ _ h => h) (by kernel_rfl) (fun wx hS => by (obtain ⟨hc, hf⟩ := ocell hS; clear hS; go_simp; (try go_bits); exact ⟨rfl, Over.refl _⟩)) ?_
    simp only [Act.put, List.setIfInBounds_toArray, List.set_cons_zero, List.set_cons_succ]
    refine wpAnyO_take (i := 20) (v := _) (by assumption) (by simp only [List.getElem?_toArray, List.getElem?_cons_zero, List.getElem?_cons_succ]; rfl) (by kernel_rfl) (by kernel_rfl) (by kernel_rfl) (by exact fun _ _ _ h => h) (by kernel_rfl) (fun wx hS => by (obtain ⟨hc, hf⟩ := ocell hS; clear hS; go_simp; (try go_bits); exact ⟨rfl, Over.refl _⟩)) ?_
    simp only [Act.put, List.setIfInBounds_toArray, List.set_cons_zero, List.set_cons_succ]
    refine wpAnyO_take (i := 21) (v := _) (by assumption) (by simp only [List.getElem?_toArray, List.getElem?_cons_zero, List.getElem?_cons_succ]; rfl) (by kernel_rfl) (by kernel_rfl) (by kernel_rfl) (by exact fun _ _ _ h => h) (by kernel_rfl) (fun wx hS => by (obtain ⟨hc, hf⟩ := ocell hS; clear hS; go_simp; (try go_bits); exact ⟨rfl, Over.refl _⟩)) ?_
    simp only [Act.put, List.setIfInBounds_toArray, List.set_cons_zero, List.set_cons_succ]
    refine wpAnyO_take (i := 22) (v := _) (by assumption) (by simp only [List.getElem?_toArray, List.getElem?_cons_zero, List.getElem?_cons_succ]; rfl) (by kernel_rfl) (by kernel_rfl) (by kernel_rfl) (by exact fun _ _ _ h => h) (by kernel_rfl) (fun wx hS => by (go_simp; refine (l03Round_any _ _ _ (by omega) (by omega) (by omega) (by omega)).mono ?_; rintro e w1 ⟨rfl, rfl⟩; exact ⟨rfl, Over.refl _⟩)) ?_
    simp only [Act.put, List.setIfInBounds_toArray, List.set_cons_zero, List.set_cons_succ]
    refine wpAnyO_take (i := 23) (v := _) (by assumption) (by simp only [List.getElem?_toArray, List.getElem?_cons_zero, List.getElem?_cons_succ]; rfl) (by kernel_rfl) (by kernel_rfl) (by kernel_rfl) (by exact fun _ _ _ h => h) (by kernel_rfl) (fun wx hS => by (obtain ⟨hc, hf⟩ := ocell hS; clear hS; go_simp; (try go_bits); exact ⟨rfl, Over.refl _⟩)) ?_
    simp only [Act.put, List.setIfInBounds_toArray, List.set_cons_zero, List.set_cons_succ]
    refine wpAnyO_take (i := 24) (v := _) (by assumption) (by simp only [List.getElem?_toArray, List.getElem?_cons_zero, List.getElem?_cons_succ]; rfl) (by kernel_rfl) (by kernel_rfl) (by kernel_rfl) (by exact fun _ _ _ h => h) (by kernel_rfl) (fun wx hS => by (obtain ⟨hc, hf⟩ := ocell hS; clear hS; go_simp; (try go_bits); exact ⟨rfl, Over.refl _⟩)) ?_
    simp only [Act.put, List.setIfInBounds_toArray, List.set_cons_zero, List.set_cons_succ]
    refine wpAnyO_new1 (i := 25) (k := 26) (by assumption) (by simp only [List.getElem?_toArray, List.getElem?_cons_zero, List.getElem?_cons_succ]; rfl) (by simp only [List.getElem?_toArray, List.getElem?_cons_zero, List.getElem?_cons_succ]; rfl) (by rfl) (by rfl) (by rfl) (by rfl) (by rfl) (by rfl) (fun _ => by (go_simp; rfl)) (by kernel_rfl) (by kernel_rfl) (fun _ => by rfl) (fun _ => by rfl) (by kernel_rfl) (by rfl) (by simp [Value.oneCell']) ?_
    intro w3 q1 ho hq1 hl1 hh1 hBx
    replace hBW := hBx; clear hBx
    simp only [Act.put, List.setIfInBounds_toArray, List.set_cons_zero, List.set_cons_succ]
    obtain ⟨k1, k2, k3, k4⟩ := two_cells hh1
    have hz5 : w.heap.size + 1 + 1 + 1 + 1 < w3.heap.size := by have := ho.size; omega
    have hne : w.heap.size + 1 + 1 + 1 + 1 ≠ q1 := by omega
    refine wpAnyO_done (by kernel_rfl) (fun w4 h4 => ?_) _
    try clear hBW
    have k1' := ((ocell h4).1 q1 0 hl1).trans k1
    have k2' := ((ocell h4).1 q1 1 hl1).trans k2
    have hz6 : w.heap.size + 1 + 1 + 1 + 1 < w4.heap.size := by have := h4.size; omega
    have hl4 : q1 < w4.heap.size := by have := h4.size; omega
    replace hO := hO.trans (ho.trans h4)
    clear k1 k2 k3 k4 hc hf ho h4 hh1
    obtain ⟨hc, hf⟩ := ocell hO
    go_wp2
    refine wp_region_O (B := pb w q1 (.int .i64 (ax + rnd ((bx - ax) * N) D)) (.int .i64 (ay + rnd ((b_y - ay) * N) D))) ?_ (by kernel_rfl) (by simp only [List.size_toArray, List.length_cons, List.length_nil, Nat.reduceAdd]; rfl) (fun hBW => ?_)
    · exact ⟨(by repeat (first | exact Over.refl _ | assumption | refine Over.alloc_ ?_ _ | refine Over.trans ?_ (by assumption) | refine Over.drew_ ?_ | refine Over.set_ ?_ (by simp; try omega) _)), (by first | assumption | simp), (by first | assumption | (simp [go_sem]; done)), (by first | assumption | (simp [go_sem]; done))⟩
    refine wpAnyO_take (i := 0) (v := _) (by assumption) (by simp only [List.getElem?_toArray, List.getElem?_cons_zero]; rfl) (by kernel_rfl) (by kernel_rfl) (by kernel_rfl) (by exact fun _ _ _ h => h) (by kernel_rfl) (fun wx hS => by (obtain ⟨_, _, hx, hy⟩ := hS; go_simp; (try go_bits); exact ⟨rfl, Over.refl _⟩)) ?_
    simp only [Act.put, List.setIfInBounds_toArray, List.set_cons_zero, List.set_cons_succ]
    refine wpAnyO_take (i := 1) (v := _) (by assumption) (by simp only [List.getElem?_toArray, List.getElem?_cons_zero, List.getElem?_cons_succ]; rfl) (by kernel_rfl) (by kernel_rfl) (by kernel_rfl) (by exact fun _ _ _ h => h) (by kernel_rfl) (fun wx hS => by (obtain ⟨_, _, hx, hy⟩ := hS; go_simp; (try go_bits); exact ⟨rfl, Over.refl _⟩)) ?_
    simp only [Act.put, List.setIfInBounds_toArray, List.set_cons_zero, List.set_cons_succ]
    refine wpAnyO_take (i := 2) (v := _) (by assumption) (by simp only [List.getElem?_toArray, List.getElem?_cons_zero, List.getElem?_cons_succ]; rfl) (by kernel_rfl) (by kernel_rfl) (by kernel_rfl) (by exact fun _ _ _ h => h) (by kernel_rfl) (fun wx hS => by (go_simp; refine (l03Ok_any _ _ _).mono ?_; rintro e w1 ⟨rfl, hb1⟩; exact ⟨rfl, hb1⟩)) ?_
    simp only [Act.put, List.setIfInBounds_toArray, List.set_cons_zero, List.set_cons_succ]
    refine wpAnyO_one (i := 3) (by simp only [List.getElem?_toArray, List.getElem?_cons_zero, List.getElem?_cons_succ]; rfl) (by kernel_rfl) (by kernel_rfl) (fun w2 h2 K hK => ?_)
    have hO2 := hO.trans h2
    have hz7 : w.heap.size + 1 + 1 + 1 + 1 < w2.heap.size := by have := h2.size; omega
    have hl7 : q1 < w2.heap.size := by have := h2.size; omega
    have m1 := ((ocell h2).1 q1 0 hl4).trans k1'
    have m2 := ((ocell h2).1 q1 1 hl4).trans k2'
    clear hc hf k1' k2' h2
    obtain ⟨hc2, hf2⟩ := ocell hO2
    go_step
    refine hK.out _ _ ⟨(by repeat (first | exact Over.refl _ | assumption | refine Over.alloc_ ?_ _ | refine Over.trans ?_ (by assumption) | refine Over.drew_ ?_ | refine Over.set_ ?_ (by simp; try omega) _)), by simpa using hl7, by go_simp, by go_simp⟩ (fun hB => ?_)
    have hO3 : Over w _ := hB.1
    clear hK K hBW
    refine wpAnyO_take (i := 4) (v := _) (by assumption) (by simp only [List.getElem?_toArray, List.getElem?_cons_zero, List.getElem?_cons_succ]; rfl) (by kernel_rfl) (by kernel_rfl) (by kernel_rfl) (by exact fun _ _ _ h => h) (by kernel_rfl) (fun wx hS => by (go_simp; exact ⟨rfl, Over.refl _⟩)) ?_
    simp only [Act.put, List.setIfInBounds_toArray, List.set_cons_zero, List.set_cons_succ]
    refine wpAnyO_done (by kernel_rfl) (fun w5 h5 => ?_) _
    try clear hBW
    go_wp2
    obtain ⟨hc, hf⟩ := ocell h5
    exact bodyPost_ret (v := .tuple #[ptV (ax + rnd ((bx - ax) * N) D) (ay + rnd ((b_y - ay) * N) D), .bool (okB (ax + rnd ((bx - ax) * N) D) (ay + rnd ((b_y - ay) * N) D))]) (by simp [results, Try.results61, go_sem, *]) rfl ⟨by
      have := HH.out
      rw [lmV, if_neg (by omega), cX, cY, hX.out _ _ (by omega), hX.out _ _ (by omega), if_neg (by omega), if_neg (by omega), HD.out, HN.out], (by repeat (first | exact Over.refl _ | assumption | refine Over.alloc_ ?_ _ | refine Over.trans ?_ (by assumption) | refine Over.drew_ ?_ | refine Over.set_ ?_ (by simp; try omega) _))⟩
end Go.Proofs.Ytokmojopajdbfaa
