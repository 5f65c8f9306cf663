/- A map that came in, opened. -/
import Derived.Test.YtjhaakollekjeaaOpen
import Derived.Test.YtjhaakollekjeaaFrac
namespace Go.Proofs.Ytjhaakollekjeaa
open Go Go.ChangeShapes Go.WideShapes Go.ChangeAt Go.RowKit Go.Joins Go.Deep
set_option linter.unusedVariables false
set_option linter.unusedSimpArgs false

theorem twelve {α : Type} {l : List α} (h : l.length = 12) : l = (l.drop 0).take 2 ++ ((l.drop 2).take 2 ++ ((l.drop 4).take 2 ++ ((l.drop 6).take 2 ++ ((l.drop 8).take 2 ++ (l.drop 10).take 2)))) := by
 match l, h with
 | [_, _, _, _, _, _, _, _, _, _, _, _], _ => rfl
section
variable {H : Type} {enc : TypeId × Value → H} {w : World} {base : Nat} {spare : Nat → Bool} {held : Bool}
set_option maxRecDepth 100000 in
theorem open_frac {fuel : Nat} {cs : List Value} {x : DataW H × List MemPlace} (h : DataW.trod enc Try.prog w base spare held fuel 48 cs = some x) : ∃ p : Int × Int, cs = [.int .i64 p.1, .int .i64 p.2] := by
 have hC : Try.prog.cellsOf 48 = 2 := by kernel_rfl
 have h1 : Try.prog.cellsOf 2 = 1 := by kernel_rfl
 obtain ⟨y0, y1, n', _, hl, t0, t1⟩ := trod_struct2 Try.underlying48 h
 rw [h1] at t0 t1
 rw [hC] at hl
 match cs, hl with
 | [c0, c1], _ =>
  obtain ⟨a, e0, _, _⟩ := DataW.trod_int Try.underlying2 t0
  obtain ⟨b, e1, _, _⟩ := DataW.trod_int Try.underlying2 t1
  simp at e0 e1
  subst e0 e1
  exact ⟨(a, b), rfl⟩
set_option maxRecDepth 100000 in
theorem open_aff {r : Reach} {b0 : Nat} {v : Value} {d : DataW H} {p : List MemPlace} (hv : Value.okWide Try.prog w r b0 50 v) (h : DataW.Trod enc Try.prog w base spare held 50 v d p) : ∃ m : Aff, v = affV m := by
 have hF : Try.prog.cellsOf 48 = 2 := by kernel_rfl
 have hA : Try.prog.cellsOf 50 = 12 := by kernel_rfl
 obtain ⟨cs, rfl, hsz⟩ := okWide_struct Try.underlying50 hv
 obtain ⟨fuel, hf⟩ := h
 obtain ⟨xs, n, _, _, hl, hlen, hfs⟩ := DataW.trod_struct Try.underlying50 hf
 have h6 : xs.length = 6 := hlen
 obtain ⟨q0, e0⟩ := open_frac ((hfs 0 _ rfl).trans (List.getElem?_eq_getElem (show 0 < xs.length by omega)))
 obtain ⟨q1, e1⟩ := open_frac ((hfs 1 _ rfl).trans (List.getElem?_eq_getElem (show 1 < xs.length by omega)))
 obtain ⟨q2, e2⟩ := open_frac ((hfs 2 _ rfl).trans (List.getElem?_eq_getElem (show 2 < xs.length by omega)))
 obtain ⟨q3, e3⟩ := open_frac ((hfs 3 _ rfl).trans (List.getElem?_eq_getElem (show 3 < xs.length by omega)))
 obtain ⟨q4, e4⟩ := open_frac ((hfs 4 _ rfl).trans (List.getElem?_eq_getElem (show 4 < xs.length by omega)))
 obtain ⟨q5, e5⟩ := open_frac ((hfs 5 _ rfl).trans (List.getElem?_eq_getElem (show 5 < xs.length by omega)))
 have hl12 : cs.toList.length = 12 := by rw [Array.length_toList, hsz, hA]
 have hc := twelve hl12
 have k0 : (cs.toList.drop 0).take (Try.prog.cellsOf 48) = _ := e0
 have k1 : (cs.toList.drop 2).take (Try.prog.cellsOf 48) = _ := e1
 have k2 : (cs.toList.drop 4).take (Try.prog.cellsOf 48) = _ := e2
 have k3 : (cs.toList.drop 6).take (Try.prog.cellsOf 48) = _ := e3
 have k4 : (cs.toList.drop 8).take (Try.prog.cellsOf 48) = _ := e4
 have k5 : (cs.toList.drop 10).take (Try.prog.cellsOf 48) = _ := e5
 rw [hF] at k0 k1 k2 k3 k4 k5
 rw [k0, k1, k2, k3, k4, k5] at hc
 refine ⟨⟨q0, q1, q2, q3, q4, q5⟩, congrArg Value.agg ?_⟩
 rw [← Array.toArray_toList (xs := cs), hc]
 rfl
end
end Go.Proofs.Ytjhaakollekjeaa
