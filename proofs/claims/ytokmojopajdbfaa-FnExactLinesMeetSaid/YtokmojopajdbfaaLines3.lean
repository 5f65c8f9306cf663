/- For all points: LinesMeet of the program and of the reference give the same; the law's walk. -/
import Derived.Test.YtokmojopajdbfaaLines2
namespace Go.Proofs.Ytokmojopajdbfaa
open Go.RowKit

def lmX (ax ay bx b_y cx cy dx dy : Int) : Int := if denOf ax ay bx b_y cx cy dx dy = 0 then 0 else cX ax ay bx b_y cx cy dx dy
def lmY (ax ay bx b_y cx cy dx dy : Int) : Int := if denOf ax ay bx b_y cx cy dx dy = 0 then 0 else cY ax ay bx b_y cx cy dx dy
def lmO (ax ay bx b_y cx cy dx dy : Int) : Bool := if denOf ax ay bx b_y cx cy dx dy = 0 then false else okB (cX ax ay bx b_y cx cy dx dy) (cY ax ay bx b_y cx cy dx dy)
theorem lmV_eq (ax ay bx b_y cx cy dx dy : Int) : lmV ax ay bx b_y cx cy dx dy = .tuple #[ptV (lmX ax ay bx b_y cx cy dx dy) (lmY ax ay bx b_y cx cy dx dy), .bool (lmO ax ay bx b_y cx cy dx dy)] := by
  unfold lmV lmX lmY lmO
  split <;> rfl

/-- All four are valid. -/
def ok4 (ax ay bx b_y cx cy dx dy : Int) : Bool := okB ax ay && okB bx b_y && okB cx cy && okB dx dy
def LMV (ax ay bx b_y cx cy dx dy : Int) : Value :=
  if ok4 ax ay bx b_y cx cy dx dy = true then (if lmO ax ay bx b_y cx cy dx dy = true then .tuple #[ptV (lmX ax ay bx b_y cx cy dx dy) (lmY ax ay bx b_y cx cy dx dy), .int .i64 0] else .tuple #[ptV 0 0, .int .i64 6])
  else .tuple #[ptV 0 0, .int .i64 1]

theorem linesMeet_v (ax ay bx b_y cx cy dx dy : Int) (w : World) (o : Bool) (ho : lmO ax ay bx b_y cx cy dx dy = o) (ha : okB ax ay = true) (hb : okB bx b_y = true) (hc : okB cx cy = true) (hd : okB dx dy = true) :
    Calls Try.prog 62 #[ptV ax ay, ptV bx b_y, ptV cx cy, ptV dx dy] w fun e w' => e = .returned (.tuple #[ptV (lmX ax ay bx b_y cx cy dx dy) (lmY ax ay bx b_y cx cy dx dy), .bool o]) ∧ Over w w' := by
  have := linesMeet_any ax ay bx b_y cx cy dx dy w ha hb hc hd
  rw [lmV_eq, ho] at this
  exact this
theorem l16Lines_v (ax ay bx b_y cx cy dx dy : Int) (w : World) (o : Bool) (ho : lmO ax ay bx b_y cx cy dx dy = o) (ha : okB ax ay = true) (hb : okB bx b_y = true) (hc : okB cx cy = true) (hd : okB dx dy = true) :
    Calls Try.prog 61 #[ptV ax ay, ptV bx b_y, ptV cx cy, ptV dx dy] w fun e w' => e = .returned (.tuple #[ptV (lmX ax ay bx b_y cx cy dx dy) (lmY ax ay bx b_y cx cy dx dy), .bool o]) ∧ Over w w' := by
  have := l16Lines_any ax ay bx b_y cx cy dx dy w ha hb hc hd
  rw [lmV_eq, ho] at this
  exact this

set_option maxHeartbeats 2000000 in
set_option maxRecDepth 100000 in
theorem specLinesMeet_any (ax ay bx b_y cx cy dx dy : Int) (w : World) :
    Calls Try.prog 25 #[ptV ax ay, ptV bx b_y, ptV cx cy, ptV dx dy] w fun e w' => e = .returned (LMV ax ay bx b_y cx cy dx dy) ∧ Over w w' := by
  cases h1 : okB ax ay
  case' true => cases h2 : okB bx b_y
  case' true.true => cases h3 : okB cx cy
  case' true.true.true => cases h4 : okB dx dy
  case' true.true.true.true => cases h5 : lmO ax ay bx b_y cx cy dx dy
  case true.true.true.true.true =>
    have hv : Hid (LMV ax ay bx b_y cx cy dx dy = .tuple #[ptV (lmX ax ay bx b_y cx cy dx dy) (lmY ax ay bx b_y cx cy dx dy), .int .i64 0]) := by simp [Hid, LMV, ok4, *]
    go_enter Try.func25, Try.ntmps25
    go_wp2_with (first | (go_at_call 50; refine (l03Ok_any _ _ _).mono ?_; rintro e wx ⟨rfl, hb⟩; (first | (replace hO := Over.trans hO hb) | (replace hO := Over.trans (Over.alloc_ hO _) hb) | (replace hO := Over.trans (Over.alloc_ (Over.alloc_ hO _) _) hb) | (have hO := hb)); (try clear hc hf); obtain ⟨hc, hf⟩ := ocell hO; (try clear hb); (try clear hz0 hz1 hz2 hz3 hz4); have hz0 : w.heap.size < wx.heap.size := Nat.lt_of_lt_of_le (by simp <;> omega) (Over.size hO); have hz1 : w.heap.size + 1 < wx.heap.size := Nat.lt_of_lt_of_le (by simp <;> omega) (Over.size hO); have hz2 : w.heap.size + 1 + 1 < wx.heap.size := Nat.lt_of_lt_of_le (by simp <;> omega) (Over.size hO); have hz3 : w.heap.size + 1 + 1 + 1 < wx.heap.size := Nat.lt_of_lt_of_le (by simp <;> omega) (Over.size hO); have hz4 : w.heap.size + 1 + 1 + 1 + 1 < wx.heap.size := Nat.lt_of_lt_of_le (by simp <;> omega) (Over.size hO)) | (go_at_call 61; refine (l16Lines_v _ _ _ _ _ _ _ _ _ _ h5 h1 h2 h3 h4).mono ?_; rintro e wx ⟨rfl, hb⟩; (first | (replace hO := Over.trans hO hb) | (replace hO := Over.trans (Over.alloc_ hO _) hb) | (replace hO := Over.trans (Over.alloc_ (Over.alloc_ hO _) _) hb) | (have hO := hb)); (try clear hc hf); obtain ⟨hc, hf⟩ := ocell hO; (try clear hb); (try clear hz0 hz1 hz2 hz3 hz4); have hz0 : w.heap.size < wx.heap.size := Nat.lt_of_lt_of_le (by simp <;> omega) (Over.size hO); have hz1 : w.heap.size + 1 < wx.heap.size := Nat.lt_of_lt_of_le (by simp <;> omega) (Over.size hO); have hz2 : w.heap.size + 1 + 1 < wx.heap.size := Nat.lt_of_lt_of_le (by simp <;> omega) (Over.size hO); have hz3 : w.heap.size + 1 + 1 + 1 < wx.heap.size := Nat.lt_of_lt_of_le (by simp <;> omega) (Over.size hO); have hz4 : w.heap.size + 1 + 1 + 1 + 1 < wx.heap.size := Nat.lt_of_lt_of_le (by simp <;> omega) (Over.size hO)))
    exact bodyPost_ret (v := .tuple #[ptV (lmX ax ay bx b_y cx cy dx dy) (lmY ax ay bx b_y cx cy dx dy), .int .i64 0]) (by simp [results, Try.results25, go_sem, *]) rfl ⟨by rw [hv.out], (by repeat (first | exact Over.refl _ | assumption | refine Over.alloc_ ?_ _ | refine Over.trans ?_ (by assumption) | refine Over.drew_ ?_ | refine Over.set_ ?_ (by simp; try omega) _))⟩
  case true.true.true.true.false =>
    have hv : Hid (LMV ax ay bx b_y cx cy dx dy = .tuple #[ptV 0 0, .int .i64 6]) := by simp [Hid, LMV, ok4, *]
    go_enter Try.func25, Try.ntmps25
    go_wp2_with (first | (go_at_call 50; refine (l03Ok_any _ _ _).mono ?_; rintro e wx ⟨rfl, hb⟩; (first | (replace hO := Over.trans hO hb) | (replace hO := Over.trans (Over.alloc_ hO _) hb) | (replace hO := Over.trans (Over.alloc_ (Over.alloc_ hO _) _) hb) | (have hO := hb)); (try clear hc hf); obtain ⟨hc, hf⟩ := ocell hO; (try clear hb); (try clear hz0 hz1 hz2 hz3 hz4); have hz0 : w.heap.size < wx.heap.size := Nat.lt_of_lt_of_le (by simp <;> omega) (Over.size hO); have hz1 : w.heap.size + 1 < wx.heap.size := Nat.lt_of_lt_of_le (by simp <;> omega) (Over.size hO); have hz2 : w.heap.size + 1 + 1 < wx.heap.size := Nat.lt_of_lt_of_le (by simp <;> omega) (Over.size hO); have hz3 : w.heap.size + 1 + 1 + 1 < wx.heap.size := Nat.lt_of_lt_of_le (by simp <;> omega) (Over.size hO); have hz4 : w.heap.size + 1 + 1 + 1 + 1 < wx.heap.size := Nat.lt_of_lt_of_le (by simp <;> omega) (Over.size hO)) | (go_at_call 61; refine (l16Lines_v _ _ _ _ _ _ _ _ _ _ h5 h1 h2 h3 h4).mono ?_; rintro e wx ⟨rfl, hb⟩; (first | (replace hO := Over.trans hO hb) | (replace hO := Over.trans (Over.alloc_ hO _) hb) | (replace hO := Over.trans (Over.alloc_ (Over.alloc_ hO _) _) hb) | (have hO := hb)); (try clear hc hf); obtain ⟨hc, hf⟩ := ocell hO; (try clear hb); (try clear hz0 hz1 hz2 hz3 hz4); have hz0 : w.heap.size < wx.heap.size := Nat.lt_of_lt_of_le (by simp <;> omega) (Over.size hO); have hz1 : w.heap.size + 1 < wx.heap.size := Nat.lt_of_lt_of_le (by simp <;> omega) (Over.size hO); have hz2 : w.heap.size + 1 + 1 < wx.heap.size := Nat.lt_of_lt_of_le (by simp <;> omega) (Over.size hO); have hz3 : w.heap.size + 1 + 1 + 1 < wx.heap.size := Nat.lt_of_lt_of_le (by simp <;> omega) (Over.size hO); have hz4 : w.heap.size + 1 + 1 + 1 + 1 < wx.heap.size := Nat.lt_of_lt_of_le (by simp <;> omega) (Over.size hO)))
    exact bodyPost_ret (v := .tuple #[ptV 0 0, .int .i64 6]) (by simp [results, Try.results25, go_sem, *]) rfl ⟨by rw [hv.out], (by repeat (first | exact Over.refl _ | assumption | refine Over.alloc_ ?_ _ | refine Over.trans ?_ (by assumption) | refine Over.drew_ ?_ | refine Over.set_ ?_ (by simp; try omega) _))⟩
  all_goals
    have hv : Hid (LMV ax ay bx b_y cx cy dx dy = .tuple #[ptV 0 0, .int .i64 1]) := by simp [Hid, LMV, ok4, *]
    go_enter Try.func25, Try.ntmps25
    go_wp2_with (first | (go_at_call 50; refine (l03Ok_any _ _ _).mono ?_; rintro e wx ⟨rfl, hb⟩; (first | (replace hO := Over.trans hO hb) | (replace hO := Over.trans (Over.alloc_ hO _) hb) | (replace hO := Over.trans (Over.alloc_ (Over.alloc_ hO _) _) hb) | (have hO := hb)); (try clear hc hf); obtain ⟨hc, hf⟩ := ocell hO; (try clear hb); (try clear hz0 hz1 hz2 hz3 hz4); have hz0 : w.heap.size < wx.heap.size := Nat.lt_of_lt_of_le (by simp <;> omega) (Over.size hO); have hz1 : w.heap.size + 1 < wx.heap.size := Nat.lt_of_lt_of_le (by simp <;> omega) (Over.size hO); have hz2 : w.heap.size + 1 + 1 < wx.heap.size := Nat.lt_of_lt_of_le (by simp <;> omega) (Over.size hO); have hz3 : w.heap.size + 1 + 1 + 1 < wx.heap.size := Nat.lt_of_lt_of_le (by simp <;> omega) (Over.size hO); have hz4 : w.heap.size + 1 + 1 + 1 + 1 < wx.heap.size := Nat.lt_of_lt_of_le (by simp <;> omega) (Over.size hO)))
    exact bodyPost_ret (v := .tuple #[ptV 0 0, .int .i64 1]) (by simp [results, Try.results25, go_sem, *]) rfl ⟨by rw [hv.out], (by repeat (first | exact Over.refl _ | assumption | refine Over.alloc_ ?_ _ | refine Over.trans ?_ (by assumption) | refine Over.drew_ ?_ | refine Over.set_ ?_ (by simp; try omega) _))⟩

set_option maxHeartbeats 2000000 in
set_option maxRecDepth 100000 in
theorem LinesMeet_any (ax ay bx b_y cx cy dx dy : Int) (w : World) :
    Calls Try.prog 26 #[ptV ax ay, ptV bx b_y, ptV cx cy, ptV dx dy] w fun e w' => e = .returned (LMV ax ay bx b_y cx cy dx dy) ∧ Over w w' := by
  have hall : ([(ax, ay), (bx, b_y), (cx, cy), (dx, dy)].all fun p => okB p.1 p.2) = ok4 ax ay bx b_y cx cy dx dy := by simp [ok4, Bool.and_assoc]
  cases h0 : ok4 ax ay bx b_y cx cy dx dy
  case false =>
    have hv : Hid (LMV ax ay bx b_y cx cy dx dy = .tuple #[ptV 0 0, .int .i64 1]) := by simp [Hid, LMV, h0]
    rw [h0] at hall
    go_enter Try.func26, Try.ntmps26
    go_wp2_with (go_at_call 52; refine (validPts_any _ 4 _ [(ax, ay), (bx, b_y), (cx, cy), (dx, dy)] _ ?_ (by decide)).mono ?_; exact pts_new4 _ _ _ (by simp) _ _ _ _ _ _ _ _; rintro e wx ⟨rfl, hb⟩; (first | (replace hO := Over.trans hO hb) | (replace hO := Over.trans (Over.alloc_ hO _) hb) | (replace hO := Over.trans (Over.alloc_ (Over.alloc_ hO _) _) hb) | (have hO := hb)); (try clear hc hf); obtain ⟨hc, hf⟩ := ocell hO; (try clear hb); (try clear hz0 hz1 hz2 hz3 hz4); have hz0 : w.heap.size < wx.heap.size := Nat.lt_of_lt_of_le (by simp <;> omega) (Over.size hO); have hz1 : w.heap.size + 1 < wx.heap.size := Nat.lt_of_lt_of_le (by simp <;> omega) (Over.size hO); have hz2 : w.heap.size + 1 + 1 < wx.heap.size := Nat.lt_of_lt_of_le (by simp <;> omega) (Over.size hO); have hz3 : w.heap.size + 1 + 1 + 1 < wx.heap.size := Nat.lt_of_lt_of_le (by simp <;> omega) (Over.size hO); have hz4 : w.heap.size + 1 + 1 + 1 + 1 < wx.heap.size := Nat.lt_of_lt_of_le (by simp <;> omega) (Over.size hO))
    exact bodyPost_ret (v := .tuple #[ptV 0 0, .int .i64 1]) (by simp [results, Try.results26, go_sem, *]) rfl ⟨by rw [hv.out], (by repeat (first | exact Over.refl _ | assumption | refine Over.alloc_ ?_ _ | refine Over.trans ?_ (by assumption) | refine Over.drew_ ?_ | refine Over.set_ ?_ (by simp; try omega) _))⟩
  case true =>
    rw [h0] at hall
    have h4 := h0
    simp only [ok4, Bool.and_eq_true] at h4
    obtain ⟨⟨⟨g1, g2⟩, g3⟩, g4⟩ := h4
    have h1 := Lib.hid g1
    have h2 := Lib.hid g2
    have h3 := Lib.hid g3
    have h4 := Lib.hid g4
    clear g1 g2 g3 g4
    cases h5 : lmO ax ay bx b_y cx cy dx dy
    case true =>
      have hv : Hid (LMV ax ay bx b_y cx cy dx dy = .tuple #[ptV (lmX ax ay bx b_y cx cy dx dy) (lmY ax ay bx b_y cx cy dx dy), .int .i64 0]) := by simp [Hid, LMV, *]
      go_enter Try.func26, Try.ntmps26
      go_wp2_with (first | (go_at_call 52; refine (validPts_any _ 4 _ [(ax, ay), (bx, b_y), (cx, cy), (dx, dy)] _ ?_ (by decide)).mono ?_; exact pts_new4 _ _ _ (by simp) _ _ _ _ _ _ _ _; rintro e wx ⟨rfl, hb⟩; (first | (replace hO := Over.trans hO hb) | (replace hO := Over.trans (Over.alloc_ hO _) hb) | (replace hO := Over.trans (Over.alloc_ (Over.alloc_ hO _) _) hb) | (have hO := hb)); (try clear hc hf); obtain ⟨hc, hf⟩ := ocell hO; (try clear hb); (try clear hz0 hz1 hz2 hz3 hz4); have hz0 : w.heap.size < wx.heap.size := Nat.lt_of_lt_of_le (by simp <;> omega) (Over.size hO); have hz1 : w.heap.size + 1 < wx.heap.size := Nat.lt_of_lt_of_le (by simp <;> omega) (Over.size hO); have hz2 : w.heap.size + 1 + 1 < wx.heap.size := Nat.lt_of_lt_of_le (by simp <;> omega) (Over.size hO); have hz3 : w.heap.size + 1 + 1 + 1 < wx.heap.size := Nat.lt_of_lt_of_le (by simp <;> omega) (Over.size hO); have hz4 : w.heap.size + 1 + 1 + 1 + 1 < wx.heap.size := Nat.lt_of_lt_of_le (by simp <;> omega) (Over.size hO)) | (go_at_call 62; refine (linesMeet_v _ _ _ _ _ _ _ _ _ _ h5 h1.out h2.out h3.out h4.out).mono ?_; rintro e wx ⟨rfl, hb⟩; (first | (replace hO := Over.trans hO hb) | (replace hO := Over.trans (Over.alloc_ hO _) hb) | (replace hO := Over.trans (Over.alloc_ (Over.alloc_ hO _) _) hb) | (have hO := hb)); (try clear hc hf); obtain ⟨hc, hf⟩ := ocell hO; (try clear hb); (try clear hz0 hz1 hz2 hz3 hz4); have hz0 : w.heap.size < wx.heap.size := Nat.lt_of_lt_of_le (by simp <;> omega) (Over.size hO); have hz1 : w.heap.size + 1 < wx.heap.size := Nat.lt_of_lt_of_le (by simp <;> omega) (Over.size hO); have hz2 : w.heap.size + 1 + 1 < wx.heap.size := Nat.lt_of_lt_of_le (by simp <;> omega) (Over.size hO); have hz3 : w.heap.size + 1 + 1 + 1 < wx.heap.size := Nat.lt_of_lt_of_le (by simp <;> omega) (Over.size hO); have hz4 : w.heap.size + 1 + 1 + 1 + 1 < wx.heap.size := Nat.lt_of_lt_of_le (by simp <;> omega) (Over.size hO)))
      exact bodyPost_ret (v := .tuple #[ptV (lmX ax ay bx b_y cx cy dx dy) (lmY ax ay bx b_y cx cy dx dy), .int .i64 0]) (by simp [results, Try.results26, go_sem, *]) rfl ⟨by rw [hv.out], (by repeat (first | exact Over.refl _ | assumption | refine Over.alloc_ ?_ _ | refine Over.trans ?_ (by assumption) | refine Over.drew_ ?_ | refine Over.set_ ?_ (by simp; try omega) _))⟩
    case false =>
      have hv : Hid (LMV ax ay bx b_y cx cy dx dy = .tuple #[ptV 0 0, .int .i64 6]) := by simp [Hid, LMV, *]
      go_enter Try.func26, Try.ntmps26
      go_wp2_with (first | (go_at_call 52; refine (validPts_any _ 4 _ [(ax, ay), (bx, b_y), (cx, cy), (dx, dy)] _ ?_ (by decide)).mono ?_; exact pts_new4 _ _ _ (by simp) _ _ _ _ _ _ _ _; rintro e wx ⟨rfl, hb⟩; (first | (replace hO := Over.trans hO hb) | (replace hO := Over.trans (Over.alloc_ hO _) hb) | (replace hO := Over.trans (Over.alloc_ (Over.alloc_ hO _) _) hb) | (have hO := hb)); (try clear hc hf); obtain ⟨hc, hf⟩ := ocell hO; (try clear hb); (try clear hz0 hz1 hz2 hz3 hz4); have hz0 : w.heap.size < wx.heap.size := Nat.lt_of_lt_of_le (by simp <;> omega) (Over.size hO); have hz1 : w.heap.size + 1 < wx.heap.size := Nat.lt_of_lt_of_le (by simp <;> omega) (Over.size hO); have hz2 : w.heap.size + 1 + 1 < wx.heap.size := Nat.lt_of_lt_of_le (by simp <;> omega) (Over.size hO); have hz3 : w.heap.size + 1 + 1 + 1 < wx.heap.size := Nat.lt_of_lt_of_le (by simp <;> omega) (Over.size hO); have hz4 : w.heap.size + 1 + 1 + 1 + 1 < wx.heap.size := Nat.lt_of_lt_of_le (by simp <;> omega) (Over.size hO)) | (go_at_call 62; refine (linesMeet_v _ _ _ _ _ _ _ _ _ _ h5 h1.out h2.out h3.out h4.out).mono ?_; rintro e wx ⟨rfl, hb⟩; (first | (replace hO := Over.trans hO hb) | (replace hO := Over.trans (Over.alloc_ hO _) hb) | (replace hO := Over.trans (Over.alloc_ (Over.alloc_ hO _) _) hb) | (have hO := hb)); (try clear hc hf); obtain ⟨hc, hf⟩ := ocell hO; (try clear hb); (try clear hz0 hz1 hz2 hz3 hz4); have hz0 : w.heap.size < wx.heap.size := Nat.lt_of_lt_of_le (by simp <;> omega) (Over.size hO); have hz1 : w.heap.size + 1 < wx.heap.size := Nat.lt_of_lt_of_le (by simp <;> omega) (Over.size hO); have hz2 : w.heap.size + 1 + 1 < wx.heap.size := Nat.lt_of_lt_of_le (by simp <;> omega) (Over.size hO); have hz3 : w.heap.size + 1 + 1 + 1 < wx.heap.size := Nat.lt_of_lt_of_le (by simp <;> omega) (Over.size hO); have hz4 : w.heap.size + 1 + 1 + 1 + 1 < wx.heap.size := Nat.lt_of_lt_of_le (by simp <;> omega) (Over.size hO)))
      exact bodyPost_ret (v := .tuple #[ptV 0 0, .int .i64 6]) (by simp [results, Try.results26, go_sem, *]) rfl ⟨by rw [hv.out], (by repeat (first | exact Over.refl _ | assumption | refine Over.alloc_ ?_ _ | refine Over.trans ?_ (by assumption) | refine Over.drew_ ?_ | refine Over.set_ ?_ (by simp; try omega) _))⟩

theorem LMV_form (ax ay bx b_y cx cy dx dy : Int) : ∃ x y c : Int, LMV ax ay bx b_y cx cy dx dy = .tuple #[ptV x y, .int .i64 c] := by
  unfold LMV
  split
  · split
    · exact ⟨_, _, _, rfl⟩
    · exact ⟨_, _, _, rfl⟩
  · exact ⟨_, _, _, rfl⟩

set_option maxHeartbeats 2000000 in
set_option maxRecDepth 100000 in
theorem law_LinesMeet (ax ay bx b_y cx cy dx dy : Int) (w : World) :
    Calls Try.prog 6 #[ptV ax ay, ptV bx b_y, ptV cx cy, ptV dx dy] w fun e w' => e = .returned (.bool true) ∧ Over w w' := by
  obtain ⟨x, y, c, hv⟩ := LMV_form ax ay bx b_y cx cy dx dy
  have s1 : ∀ w, Calls Try.prog 25 #[ptV ax ay, ptV bx b_y, ptV cx cy, ptV dx dy] w fun e w' => e = .returned (.tuple #[ptV x y, .int .i64 c]) ∧ Over w w' := fun w => hv ▸ specLinesMeet_any ax ay bx b_y cx cy dx dy w
  have s2 : ∀ w, Calls Try.prog 26 #[ptV ax ay, ptV bx b_y, ptV cx cy, ptV dx dy] w fun e w' => e = .returned (.tuple #[ptV x y, .int .i64 c]) ∧ Over w w' := fun w => hv ▸ LinesMeet_any ax ay bx b_y cx cy dx dy w
  have S1 := Lib.hid s1
  have S2 := Lib.hid s2
  clear s1 s2 hv
  go_enter Try.func6, Try.ntmps6
  go_wp2
  refine wp_region_O (B := ob _) (by first | assumption | exact Over.refl _) (by kernel_rfl) (by simp only [List.size_toArray, List.length_cons, List.length_nil, Nat.reduceAdd]; rfl) (fun (hBW : Over _ _) => ?_)
  refine wpAnyO_take (i := 0) (v := _) (by assumption) (by simp only [List.getElem?_toArray, List.getElem?_cons_zero]; rfl) (by kernel_rfl) (by kernel_rfl) (by kernel_rfl) (by exact fun _ _ _ h => h) (by kernel_rfl) (fun wx hS => by (obtain ⟨hc, hf⟩ := ocell hS; clear hS; go_simp; (try go_bits); exact ⟨rfl, Over.refl _⟩)) ?_
  simp only [Act.put, List.setIfInBounds_toArray, List.set_cons_zero, List.set_cons_succ]
  refine wpAnyO_take (i := 1) (v := _) (by assumption) (by simp only [List.getElem?_toArray, List.getElem?_cons_zero, List.getElem?_cons_succ]; rfl) (by kernel_rfl) (by kernel_rfl) (by kernel_rfl) (by exact fun _ _ _ h => h) (by kernel_rfl) (fun wx hS => by (go_simp; refine (toPt_any _ _ _).mono ?_; rintro e w1 ⟨rfl, hb1⟩; exact ⟨rfl, hb1⟩)) ?_
  simp only [Act.put, List.setIfInBounds_toArray, List.set_cons_zero, List.set_cons_succ]
  refine wpAnyO_take (i := 2) (v := _) (by assumption) (by simp only [List.getElem?_toArray, List.getElem?_cons_zero, List.getElem?_cons_succ]; rfl) (by kernel_rfl) (by kernel_rfl) (by kernel_rfl) (by exact fun _ _ _ h => h) (by kernel_rfl) (fun wx hS => by (obtain ⟨hc, hf⟩ := ocell hS; clear hS; go_simp; (try go_bits); exact ⟨rfl, Over.refl _⟩)) ?_
  simp only [Act.put, List.setIfInBounds_toArray, List.set_cons_zero, List.set_cons_succ]
  refine wpAnyO_take (i := 3) (v := _) (by assumption) (by simp only [List.getElem?_toArray, List.getElem?_cons_zero, List.getElem?_cons_succ]; rfl) (by kernel_rfl) (by kernel_rfl) (by kernel_rfl) (by exact fun _ _ _ h => h) (by kernel_rfl) (fun wx hS => by (go_simp; refine (toPt_any _ _ _).mono ?_; rintro e w1 ⟨rfl, hb1⟩; exact ⟨rfl, hb1⟩)) ?_
  simp only [Act.put, List.setIfInBounds_toArray, List.set_cons_zero, List.set_cons_succ]
  refine wpAnyO_take (i := 4) (v := _) (by assumption) (by simp only [List.getElem?_toArray, List.getElem?_cons_zero, List.getElem?_cons_succ]; rfl) (by kernel_rfl) (by kernel_rfl) (by kernel_rfl) (by exact fun _ _ _ h => h) (by kernel_rfl) (fun wx hS => by (obtain ⟨hc, hf⟩ := ocell hS; clear hS; go_simp; (try go_bits); exact ⟨rfl, Over.refl _⟩)) ?_
  simp only [Act.put, List.setIfInBounds_toArray, List.set_cons_zero, List.set_cons_succ]
  refine wpAnyO_take (i := 5) (v := _) (by assumption) (by simp only [List.getElem?_toArray, List.getElem?_cons_zero, List.getElem?_cons_succ]; rfl) (by kernel_rfl) (by kernel_rfl) (by kernel_rfl) (by exact fun _ _ _ h => h) (by kernel_rfl) (fun wx hS => by (go_simp; refine (toPt_any _ _ _).mono ?_; rintro e w1 ⟨rfl, hb1⟩; exact ⟨rfl, hb1⟩)) ?_
  simp only [Act.put, List.setIfInBounds_toArray, List.set_cons_zero, List.set_cons_succ]
  refine wpAnyO_take (i := 6) (v := _) (by assumption) (by simp only [List.getElem?_toArray, List.getElem?_cons_zero, List.getElem?_cons_succ]; rfl) (by kernel_rfl) (by kernel_rfl) (by kernel_rfl) (by exact fun _ _ _ h => h) (by kernel_rfl) (fun wx hS => by (obtain ⟨hc, hf⟩ := ocell hS; clear hS; go_simp; (try go_bits); exact ⟨rfl, Over.refl _⟩)) ?_
  simp only [Act.put, List.setIfInBounds_toArray, List.set_cons_zero, List.set_cons_succ]
  refine wpAnyO_take (i := 7) (v := _) (by assumption) (by simp only [List.getElem?_toArray, List.getElem?_cons_zero, List.getElem?_cons_succ]; rfl) (by kernel_rfl) (by kernel_rfl) (by kernel_rfl) (by exact fun _ _ _ h => h) (by kernel_rfl) (fun wx hS => by (go_simp; refine (toPt_any _ _ _).mono ?_; rintro e w1 ⟨rfl, hb1⟩; exact ⟨rfl, hb1⟩)) ?_
  simp only [Act.put, List.setIfInBounds_toArray, List.set_cons_zero, List.set_cons_succ]
  refine wpAnyO_take (i := 8) (v := _) (by assumption) (by simp only [List.getElem?_toArray, List.getElem?_cons_zero, List.getElem?_cons_succ]; rfl) (by kernel_rfl) (by kernel_rfl) (by kernel_rfl) (by exact fun _ _ _ h => h) (by kernel_rfl) (fun wx hS => by (go_simp; refine (S1.out _).mono ?_; rintro e w1 ⟨rfl, hb1⟩; exact ⟨rfl, hb1⟩)) ?_
  simp only [Act.put, List.setIfInBounds_toArray, List.set_cons_zero, List.set_cons_succ]
  refine wpAnyO_take (i := 9) (v := _) (by assumption) (by simp only [List.getElem?_toArray, List.getElem?_cons_zero, List.getElem?_cons_succ]; rfl) (by kernel_rfl) (by kernel_rfl) (by kernel_rfl) (by exact fun _ _ _ h => h) (by kernel_rfl) (fun wx hS => by (obtain ⟨hc, hf⟩ := ocell hS; clear hS; go_simp; (try go_bits); exact ⟨rfl, Over.refl _⟩)) ?_
  simp only [Act.put, List.setIfInBounds_toArray, List.set_cons_zero, List.set_cons_succ]
  refine wpAnyO_take (i := 10) (v := _) (by assumption) (by simp only [List.getElem?_toArray, List.getElem?_cons_zero, List.getElem?_cons_succ]; rfl) (by kernel_rfl) (by kernel_rfl) (by kernel_rfl) (by exact fun _ _ _ h => h) (by kernel_rfl) (fun wx hS => by (obtain ⟨hc, hf⟩ := ocell hS; clear hS; go_simp; (try go_bits); exact ⟨rfl, Over.refl _⟩)) ?_
  simp only [Act.put, List.setIfInBounds_toArray, List.set_cons_zero, List.set_cons_succ]
  refine wpAnyO_take (i := 11) (v := _) (by assumption) (by simp only [List.getElem?_toArray, List.getElem?_cons_zero, List.getElem?_cons_succ]; rfl) (by kernel_rfl) (by kernel_rfl) (by kernel_rfl) (by exact fun _ _ _ h => h) (by kernel_rfl) (fun wx hS => by (obtain ⟨hc, hf⟩ := ocell hS; clear hS; go_simp; (try go_bits); exact ⟨rfl, Over.refl _⟩)) ?_
  simp only [Act.put, List.setIfInBounds_toArray, List.set_cons_zero, List.set_cons_succ]
  refine wpAnyO_new1 (i := 12) (k := 13) (by assumption) (by simp only [List.getElem?_toArray, List.getElem?_cons_zero, List.getElem?_cons_succ]; rfl) (by simp only [List.getElem?_toArray, List.getElem?_cons_zero, List.getElem?_cons_succ]; rfl) (by rfl) (by rfl) (by rfl) (by rfl) (by rfl) (by rfl) (fun _ => by (go_simp; rfl)) (by kernel_rfl) (by kernel_rfl) (fun _ => by rfl) (fun _ => by rfl) (by kernel_rfl) (by rfl) (by simp [Value.oneCell']) ?_
  intro w2 q1 ho hq1 hl1 hh1 hBx
  replace hBW := hBx; clear hBx
  simp only [Act.put, List.setIfInBounds_toArray, List.set_cons_zero, List.set_cons_succ]
  obtain ⟨k1, k2, k3, k4⟩ := two_cells hh1
  refine wpAnyO_take (i := 14) (v := _) (by assumption) (by simp only [List.getElem?_toArray, List.getElem?_cons_zero, List.getElem?_cons_succ]; rfl) (by kernel_rfl) (by kernel_rfl) (by kernel_rfl) (by exact fun _ _ _ h => h) (by kernel_rfl) (fun wx hS => by (obtain ⟨hc, hf⟩ := ocell hS; clear hS; go_simp; (try go_bits); exact ⟨rfl, Over.refl _⟩)) ?_
  simp only [Act.put, List.setIfInBounds_toArray, List.set_cons_zero, List.set_cons_succ]
  refine wpAnyO_done (by kernel_rfl) (fun w3 h3 => ?_) _
  try clear hBW
  have hO := ho.trans h3
  have l1 := ((ocell h3).1 q1 0 hl1).trans k1
  have l2 := ((ocell h3).1 q1 1 hl1).trans k2
  have hl3 : q1 < w3.heap.size := Nat.lt_of_lt_of_le hl1 h3.size
  clear k1 k2 k3 k4 ho h3 hh1
  obtain ⟨hc, hf⟩ := ocell hO
  go_wp2
  refine wp_region_O (B := ob _) (by first | assumption | exact Over.refl _) (by kernel_rfl) (by simp only [List.size_toArray, List.length_cons, List.length_nil, Nat.reduceAdd]; rfl) (fun (hBW : Over _ _) => ?_)
  refine wpAnyO_take (i := 0) (v := _) (by assumption) (by simp only [List.getElem?_toArray, List.getElem?_cons_zero]; rfl) (by kernel_rfl) (by kernel_rfl) (by kernel_rfl) (by exact fun _ _ _ h => h) (by kernel_rfl) (fun wx hS => by (obtain ⟨hc, hf⟩ := ocell hS; clear hS; go_simp; (try go_bits); exact ⟨rfl, Over.refl _⟩)) ?_
  simp only [Act.put, List.setIfInBounds_toArray, List.set_cons_zero, List.set_cons_succ]
  refine wpAnyO_take (i := 1) (v := _) (by assumption) (by simp only [List.getElem?_toArray, List.getElem?_cons_zero, List.getElem?_cons_succ]; rfl) (by kernel_rfl) (by kernel_rfl) (by kernel_rfl) (by exact fun _ _ _ h => h) (by kernel_rfl) (fun wx hS => by (go_simp; refine (toPt_any _ _ _).mono ?_; rintro e w1 ⟨rfl, hb1⟩; exact ⟨rfl, hb1⟩)) ?_
  simp only [Act.put, List.setIfInBounds_toArray, List.set_cons_zero, List.set_cons_succ]
  refine wpAnyO_take (i := 2) (v := _) (by assumption) (by simp only [List.getElem?_toArray, List.getElem?_cons_zero, List.getElem?_cons_succ]; rfl) (by kernel_rfl) (by kernel_rfl) (by kernel_rfl) (by exact fun _ _ _ h => h) (by kernel_rfl) (fun wx hS => by (obtain ⟨hc, hf⟩ := ocell hS; clear hS; go_simp; (try go_bits); exact ⟨rfl, Over.refl _⟩)) ?_
  simp only [Act.put, List.setIfInBounds_toArray, List.set_cons_zero, List.set_cons_succ]
  refine wpAnyO_take (i := 3) (v := _) (by assumption) (by simp only [List.getElem?_toArray, List.getElem?_cons_zero, List.getElem?_cons_succ]; rfl) (by kernel_rfl) (by kernel_rfl) (by kernel_rfl) (by exact fun _ _ _ h => h) (by kernel_rfl) (fun wx hS => by (go_simp; refine (toPt_any _ _ _).mono ?_; rintro e w1 ⟨rfl, hb1⟩; exact ⟨rfl, hb1⟩)) ?_
  simp only [Act.put, List.setIfInBounds_toArray, List.set_cons_zero, List.set_cons_succ]
  refine wpAnyO_take (i := 4) (v := _) (by assumption) (by simp only [List.getElem?_toArray, List.getElem?_cons_zero, List.getElem?_cons_succ]; rfl) (by kernel_rfl) (by kernel_rfl) (by kernel_rfl) (by exact fun _ _ _ h => h) (by kernel_rfl) (fun wx hS => by (obtain ⟨hc, hf⟩ := ocell hS; clear hS; go_simp; (try go_bits); exact ⟨rfl, Over.refl _⟩)) ?_
  simp only [Act.put, List.setIfInBounds_toArray, List.set_cons_zero, List.set_cons_succ]
  refine wpAnyO_take (i := 5) (v := _) (by assumption) (by simp only [List.getElem?_toArray, List.getElem?_cons_zero, List.getElem?_cons_succ]; rfl) (by kernel_rfl) (by kernel_rfl) (by kernel_rfl) (by exact fun _ _ _ h => h) (by kernel_rfl) (fun wx hS => by (go_simp; refine (toPt_any _ _ _).mono ?_; rintro e w1 ⟨rfl, hb1⟩; exact ⟨rfl, hb1⟩)) ?_
  simp only [Act.put, List.setIfInBounds_toArray, List.set_cons_zero, List.set_cons_succ]
  refine wpAnyO_take (i := 6) (v := _) (by assumption) (by simp only [List.getElem?_toArray, List.getElem?_cons_zero, List.getElem?_cons_succ]; rfl) (by kernel_rfl) (by kernel_rfl) (by kernel_rfl) (by exact fun _ _ _ h => h) (by kernel_rfl) (fun wx hS => by (obtain ⟨hc, hf⟩ := ocell hS; clear hS; go_simp; (try go_bits); exact ⟨rfl, Over.refl _⟩)) ?_
  simp only [Act.put, List.setIfInBounds_toArray, List.set_cons_zero, List.set_cons_succ]
  refine wpAnyO_take (i := 7) (v := _) (by assumption) (by simp only [List.getElem?_toArray, List.getElem?_cons_zero, List.getElem?_cons_succ]; rfl) (by kernel_rfl) (by kernel_rfl) (by kernel_rfl) (by exact fun _ _ _ h => h) (by kernel_rfl) (fun wx hS => by (go_simp; refine (toPt_any _ _ _).mono ?_; rintro e w1 ⟨rfl, hb1⟩; exact ⟨rfl, hb1⟩)) ?_
  simp only [Act.put, List.setIfInBounds_toArray, List.set_cons_zero, List.set_cons_succ]
  refine wpAnyO_take (i := 8) (v := _) (by assumption) (by simp only [List.getElem?_toArray, List.getElem?_cons_zero, List.getElem?_cons_succ]; rfl) (by kernel_rfl) (by kernel_rfl) (by kernel_rfl) (by exact fun _ _ _ h => h) (by kernel_rfl) (fun wx hS => by (go_simp; refine (S2.out _).mono ?_; rintro e w1 ⟨rfl, hb1⟩; exact ⟨rfl, hb1⟩)) ?_
  simp only [Act.put, List.setIfInBounds_toArray, List.set_cons_zero, List.set_cons_succ]
  refine wpAnyO_take (i := 9) (v := _) (by assumption) (by simp only [List.getElem?_toArray, List.getElem?_cons_zero, List.getElem?_cons_succ]; rfl) (by kernel_rfl) (by kernel_rfl) (by kernel_rfl) (by exact fun _ _ _ h => h) (by kernel_rfl) (fun wx hS => by (obtain ⟨hc, hf⟩ := ocell hS; clear hS; go_simp; (try go_bits); exact ⟨rfl, Over.refl _⟩)) ?_
  simp only [Act.put, List.setIfInBounds_toArray, List.set_cons_zero, List.set_cons_succ]
  refine wpAnyO_take (i := 10) (v := _) (by assumption) (by simp only [List.getElem?_toArray, List.getElem?_cons_zero, List.getElem?_cons_succ]; rfl) (by kernel_rfl) (by kernel_rfl) (by kernel_rfl) (by exact fun _ _ _ h => h) (by kernel_rfl) (fun wx hS => by (obtain ⟨hc, hf⟩ := ocell hS; clear hS; go_simp; (try go_bits); exact ⟨rfl, Over.refl _⟩)) ?_
  simp only [Act.put, List.setIfInBounds_toArray, List.set_cons_zero, List.set_cons_succ]
  refine wpAnyO_take (i := 11) (v := _) (by assumption) (by simp only [List.getElem?_toArray, List.getElem?_cons_zero, List.getElem?_cons_succ]; rfl) (by kernel_rfl) (by kernel_rfl) (by kernel_rfl) (by exact fun _ _ _ h => h) (by kernel_rfl) (fun wx hS => by (obtain ⟨hc, hf⟩ := ocell hS; clear hS; go_simp; (try go_bits); exact ⟨rfl, Over.refl _⟩)) ?_
  simp only [Act.put, List.setIfInBounds_toArray, List.set_cons_zero, List.set_cons_succ]
  refine wpAnyO_new1 (i := 12) (k := 13) (by assumption) (by simp only [List.getElem?_toArray, List.getElem?_cons_zero, List.getElem?_cons_succ]; rfl) (by simp only [List.getElem?_toArray, List.getElem?_cons_zero, List.getElem?_cons_succ]; rfl) (by rfl) (by rfl) (by rfl) (by rfl) (by rfl) (by rfl) (fun _ => by (go_simp; rfl)) (by kernel_rfl) (by kernel_rfl) (fun _ => by rfl) (fun _ => by rfl) (by kernel_rfl) (by rfl) (by simp [Value.oneCell']) ?_
  intro w4 q2 ho_q2 hle_q2 hl_q2 hh_q2 hBx
  replace hBW := hBx; clear hBx
  simp only [Act.put, List.setIfInBounds_toArray, List.set_cons_zero, List.set_cons_succ]
  obtain ⟨k1, k2, k3, k4⟩ := two_cells hh_q2
  refine wpAnyO_take (i := 14) (v := _) (by assumption) (by simp only [List.getElem?_toArray, List.getElem?_cons_zero, List.getElem?_cons_succ]; rfl) (by kernel_rfl) (by kernel_rfl) (by kernel_rfl) (by exact fun _ _ _ h => h) (by kernel_rfl) (fun wx hS => by (obtain ⟨hc, hf⟩ := ocell hS; clear hS; go_simp; (try go_bits); exact ⟨rfl, Over.refl _⟩)) ?_
  simp only [Act.put, List.setIfInBounds_toArray, List.set_cons_zero, List.set_cons_succ]
  refine wpAnyO_done (by kernel_rfl) (fun w5 h5 => ?_) _
  try clear hBW
  have m1 := ((ocell h5).1 q2 0 hl_q2).trans k1
  have m2 := ((ocell h5).1 q2 1 hl_q2).trans k2
  have m3 := ((ocell (ho_q2.trans h5)).1 q1 0 hl3).trans l1
  have m4 := ((ocell (ho_q2.trans h5)).1 q1 1 hl3).trans l2
  clear k1 k2 k3 k4 l1 l2 hh_q2 hc hf
  replace hO := hO.trans (ho_q2.trans h5)
  go_wp2_with (go_at_call 27; refine (eqPt_any _ _ _ _ _).mono ?_; simp only [beq_self_eq_true, Bool.and_self]; rintro e wx ⟨rfl, hb⟩; (first | (replace hO := Over.trans hO hb) | (replace hO := Over.trans (Over.alloc_ hO _) hb) | (replace hO := Over.trans (Over.alloc_ (Over.alloc_ hO _) _) hb) | (have hO := hb)); (try clear hc hf); obtain ⟨hc, hf⟩ := ocell hO; (try clear hb))
  go_ret
  exact ⟨rfl, (by repeat (first | exact Over.refl _ | assumption | refine Over.alloc_ ?_ _ | refine Over.trans ?_ (by assumption) | refine Over.drew_ ?_ | refine Over.set_ ?_ (by simp; try omega) _))⟩
end Go.Proofs.Ytokmojopajdbfaa
