/- The part of a segment in a pixel: the program's walk. -/
import Derived.Test.YtoghpiinegfddaaPix
import Derived.Test.YtoghpiinegfddaaDat
import Derived.Test.YtoghpiinegfddaaCorner
namespace Go.Proofs.Ytoghpiinegfddaa
open Go Go.RowKit
set_option linter.unusedVariables false
set_option linter.unusedSimpArgs false

abbrev bdV (n d : Int) (c : Bool) : Value := .agg #[.int .i64 n, .int .i64 d, .bool c]
def bd1 (n d : Int) : Prop := (-2097152 ≤ n ∧ n ≤ 2097152) ∧ -2097152 ≤ d ∧ d ≤ 2097152

def spCs (s : Sp) : List Value := [.int .i64 s.ln, .int .i64 s.ld, .bool s.lc, .int .i64 s.hn, .int .i64 s.hd, .bool s.hc]
structure bdP (s : Sp) : Prop where
  low : bd1 s.ln s.ld
  high : bd1 s.hn s.hd
theorem pixX_bd (f d lo : Int) (f1 : -524288 ≤ f) (f2 : f ≤ 524288) (d1 : -1048576 ≤ d) (d2 : d ≤ 1048576) (l1 : -524289 ≤ lo) (l2 : lo ≤ 524289) : bdP (pixX f d lo) := by
  unfold pixX
  split
  · exact ⟨⟨⟨by simp; omega, by simp; omega⟩, by simp; omega, by simp; omega⟩, ⟨by simp; omega, by simp; omega⟩, by simp; omega, by simp; omega⟩
  · split
    · exact ⟨⟨⟨by simp; omega, by simp; omega⟩, by simp; omega, by simp; omega⟩, ⟨by simp; omega, by simp; omega⟩, by simp; omega, by simp; omega⟩
    · exact ⟨⟨⟨by decide, by decide⟩, by decide, by decide⟩, ⟨by decide, by decide⟩, by decide, by decide⟩
theorem meetLow_bd {s x : Sp} (hs : bdP s) (hx : bdP x) : bdP (meetLow s x) := by
  unfold meetLow; split
  · exact ⟨hx.low, hs.high⟩
  · exact hs
theorem meetHigh_bd {s x : Sp} (hs : bdP s) (hx : bdP x) : bdP (meetHigh s x) := by
  unfold meetHigh; split
  · exact ⟨hs.low, hx.high⟩
  · exact hs
theorem sgn_pos {n : Int} : (0 < sgn n) ↔ 0 < n := by unfold sgn; split <;> (try split) <;> omega
theorem sgn_neg {n : Int} : (sgn n < 0) ↔ n < 0 := by unfold sgn; split <;> (try split) <;> omega
theorem sgn_zero {n : Int} : (sgn n = 0) ↔ n = 0 := by unfold sgn; split <;> (try split) <;> omega

theorem sgn_cases (n : Int) : (n < 0 ∧ sgn n = -1) ∨ (n = 0 ∧ sgn n = 0) ∨ (0 < n ∧ sgn n = 1) := by unfold sgn; split <;> (try split) <;> omega

end Go.Proofs.Ytoghpiinegfddaa
