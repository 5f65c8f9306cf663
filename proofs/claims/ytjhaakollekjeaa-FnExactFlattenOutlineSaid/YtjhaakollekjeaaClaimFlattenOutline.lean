/- The law FnExactFlattenOutline: for every input the program and the reference agree, so the law returns true; it changes nothing that was there. No condition. -/
import Derived.Test.YtjhaakollekjeaaF1
import Derived.Test.YtjhaakollekjeaaRows
import Derived.Test.YtjhaakollekjeaaF12
import Derived.Test.YtjhaakollekjeaaF20
namespace Go.Proofs.Ytjhaakollekjeaa.fnExactFlattenOutlineDone
open Go Go.ChangeShapes Go.WideShapes Go.ChangeAt Go.RowKit Go.Joins Go.Deep
set_option linter.unusedVariables false

set_option maxRecDepth 100000 in
theorem lifted (os : Os) (started : os.Started) (H : Type) (enc : TypeId × Value → H) :
  ReturnsInHanded {} Try.checked os 4 .any (Rows.fnExactFlattenOutlineSpec.pre6 enc Try.prog Try.f4 Rows.fnExactFlattenOutlineRow.domain false) (Rows.fnExactFlattenOutlineSpec.post enc Try.prog Try.f4 false true false false) := by
 refine returnsInHanded_of_change (C := Try.checked) ownK started (by kernel_rfl) Try.func4
  (ChangeSpec.witness6 (enc := enc) (C := Try.checked) false ⟨#[], #[.agg #[.slice none 0 0], .int .i64 0], []⟩ 8 (by kernel_rfl) (by kernel_rfl) (by kernel_rfl) (by kernel_rfl)) ?_
 intro W base args ds gs before hval0 hW hcnd _
 have hval : ∀ (j : Nat) t v, Try.f4.params[j]? = some t → args[j]? = some v → Value.okWide Try.prog W .any base t v := hval0
 have hW' := hW
 obtain ⟨p, q, hA0, hV, rfl, hfz, hnd⟩ := hW
 have hA : DataW.TrodAll enc Try.prog W 0 (fun _ => true) true Try.f4.params.toList args.toList ds p := hA0
 rw [Try.params4] at hA hval
 obtain ⟨v0, vs0, d0, ds0, p0, q0, hargs, rfl, rfl, h0, r0⟩ := trodAll_cons hA
 obtain ⟨v1, vs1, d1, ds1, p1, q1, rfl, rfl, rfl, h1, r1⟩ := trodAll_cons r0
 obtain ⟨rfl, rfl, rfl⟩ := trodAll_nil r1
 obtain rfl : args = #[v0, v1] := by cases args; simp_all
 obtain ⟨rfl, rfl⟩ := trodVars_none hV
 have k0 := h0
 have k1 := h1
 have lt0 : ∀ x ∈ p0, x.block < W.heap.size := by obtain ⟨m, hm⟩ := k0; exact DataW.trod_lt m _ _ _ hm
 have lt1 : ∀ x ∈ p1, x.block < W.heap.size := by obtain ⟨m, hm⟩ := k1; exact DataW.trod_lt m _ _ _ hm
 obtain ⟨A0, n0, c0, ls0, rfl, hp0, hm0⟩ := open_outline (hval 0 _ v0 rfl rfl) h0
 obtain ⟨x1, rfl, _, _, wx1⟩ := open_int Try.underlying2 (hval 1 _ v1 rfl rfl) h1
 clear hA0 hval0
 refine (law_FlattenOutline A0 n0 c0 ls0 x1 W hp0 hm0).mono fun e W' ⟨he, bel⟩ => ?_
 subst he
 exact ⟨_, rfl, _, _, _, [], _, [], hW', trodAll_mk1 (shut_bool Try.underlying4 _), (trodAll_cons_mk (Below.trod laidOutB_ (by kernel_rfl) (of_decide_eq_true (by kernel_rfl)) k0 bel lt0) (trodAll_cons_mk (Below.trod laidOutB_ (by kernel_rfl) (of_decide_eq_true (by kernel_rfl)) k1 bel lt1) trodAll_mk0)), rfl, Below.frame bel _, fun h => by cases h⟩

theorem fact0 : Rows.fnExactFlattenOutlineRow.wf (OpenSpec.ofChange Rows.fnExactFlattenOutlineSpec) = true := by kernel_rfl
theorem fact3 : Try.f4.params.all (Try.checked.prog.readableRec ·) = true := by kernel_rfl
theorem fact4 : namedTie Try.checked.prog Rows.fnExactFlattenOutlineRow.named Rows.fnExactFlattenOutlineSpec.vars = true := by kernel_rfl
theorem fact5 : (Rows.fnExactFlattenOutlineRow.stops == []) = true := by kernel_rfl
theorem fact7 : (Rows.fnExactFlattenOutlineRow.knobs == []) = true := by kernel_rfl
theorem fact9 : (Rows.fnExactFlattenOutlineRow.inPlace == Try.checked.prog.inPlace 4) = true := by kernel_rfl
theorem fact10 : (Rows.fnExactFlattenOutlineRow.unfollowed == Try.checked.prog.unfollowed 4) = true := by kernel_rfl
theorem fact11 : (Rows.fnExactFlattenOutlineRow.recurses == Try.checked.prog.recurses 4) = true := by kernel_rfl
theorem fact12 : (Rows.fnExactFlattenOutlineRow.named == Try.checked.prog.varsNamed 4) = true := by kernel_rfl
theorem fact13 : (Rows.fnExactFlattenOutlineRow.maps == (Try.f4.params.toList ++ Rows.fnExactFlattenOutlineSpec.plain.varTypes Try.checked.prog).any (Try.checked.prog.mapsRec ·)) = true := by kernel_rfl
theorem fact14 : (Rows.fnExactFlattenOutlineRow.ifaces == (Try.f4.params.toList ++ Rows.fnExactFlattenOutlineSpec.plain.varTypes Try.checked.prog).any (Try.checked.prog.ifacesRec ·)) = true := by kernel_rfl
theorem fact15 : (Rows.fnExactFlattenOutlineRow.mapsOut == Try.checked.prog.mapsAmong Try.f4.resultTypes.toList) = true := by kernel_rfl
theorem fact16 : (Rows.fnExactFlattenOutlineRow.loops == (Try.f4.params.toList ++ Rows.fnExactFlattenOutlineSpec.plain.varTypes Try.checked.prog).any (Try.checked.prog.loopsFrom ·)) = true := by kernel_rfl
theorem fact17 : (Rows.fnExactFlattenOutlineRow.wideKeys == (Try.f4.params.toList ++ Rows.fnExactFlattenOutlineSpec.plain.varTypes Try.checked.prog ++ Try.f4.resultTypes.toList).any (Try.checked.prog.wideKeysFrom ·)) = true := by kernel_rfl
theorem fact18 : Rows.fnExactFlattenOutlineSpec.vars.all (Try.checked.prog.varReadable ·) = true := by kernel_rfl
theorem fact19 : Try.f4.resultTypes.all (fun t => Try.checked.prog.readableRec t && decide (t < Try.checked.prog.types.size)) = true := by kernel_rfl
theorem fact20 : (Rows.fnExactFlattenOutlineRow.ifacesOut == Try.f4.resultTypes.toList.any (Try.checked.prog.ifacesRec ·)) = true := by kernel_rfl
theorem fact21 : (Rows.fnExactFlattenOutlineRow.loopsOut == Try.f4.resultTypes.toList.any (Try.checked.prog.loopsFrom ·)) = true := by kernel_rfl
theorem fact23 : Rows.fnExactFlattenOutlineRow.shortTexts.isNone = true := by kernel_rfl
theorem fact29 : (Rows.fnExactFlattenOutlineRow.pinned == Rows.fnExactFlattenOutlineRow.pinnedBy) = true := by kernel_rfl
theorem fact30 : (Rows.fnExactFlattenOutlineRow.veiled == (Try.f4.params.toList ++ Rows.fnExactFlattenOutlineSpec.plain.varTypes Try.checked.prog ++ Try.f4.resultTypes.toList).any (Try.checked.prog.veiledRec ·)) = true := by kernel_rfl
theorem fact31 : Rows.fnExactFlattenOutlineRow.veiledFits Try.checked.prog Try.f4.params.toList (Try.f4.params.toList ++ Rows.fnExactFlattenOutlineSpec.plain.varTypes Try.checked.prog ++ Try.f4.resultTypes.toList) = true := by kernel_rfl
theorem closed_ : joinedFacts Try.checked.prog 4 Try.f4 Rows.fnExactFlattenOutlineSpec Rows.fnExactFlattenOutlineRow = true := by
 unfold joinedFacts
 exact andB (andB (andB (andB (andB (andB (andB (andB (andB (andB (andB (andB (andB (andB (andB (andB (andB (andB (andB (andB (andB (andB (andB (andB (andB (andB (andB (andB (andB (andB (andB (fact0) once1) once2) fact3) fact4) fact5) once6) fact7) once8) fact9) fact10) fact11) fact12) fact13) fact14) fact15) fact16) fact17) fact18) fact19) fact20) fact21) once22) fact23) once24) once25) once26) once27) (by kernel_rfl)) fact29) fact30) fact31
theorem proved : Rows.FnExactFlattenOutlineSaid :=
 OpenClaim.holds_of_wide 4 Try.f4 rfl rfl rfl rfl rfl rfl rfl ⟨rfl, rfl, rfl, rfl, rfl⟩ rfl rfl rfl rfl rfl (by kernel_rfl) Try.func4 closed_
  (of_decide_eq_true (by kernel_rfl)) (by unfold Func.isWrapper; first | (rw [if_pos (by decide +kernel)]; kernel_rfl) | (rw [if_neg (by decide +kernel)]; exact ⟨rfl, rfl⟩))
  (fun os started H enc _ => lifted os started H enc)
#print axioms proved
end Go.Proofs.Ytjhaakollekjeaa.fnExactFlattenOutlineDone
