/- The law FnExactStrokeHas: for every input the program and the reference agree, so the law returns true; it changes nothing that was there. No condition. -/
import Derived.Test.YtcplmmoeglembaaFacts
import Derived.Test.YtcplmmoeglembaaRows
import Derived.Test.YtcplmmoeglembaaOpen
import Derived.Test.YtcplmmoeglembaaStrokeLaw
namespace Go.Proofs.Ytcplmmoeglembaa.fnExactStrokeHasDone
open Go Go.ChangeShapes Go.WideShapes Go.ChangeAt Go.RowKit Go.Joins Go.Deep
set_option linter.unusedVariables false

set_option maxRecDepth 100000 in
theorem lifted (os : Os) (started : os.Started) (H : Type) (enc : TypeId × Value → H) :
    ReturnsInHanded {} Try.checked os 10 .any (Rows.fnExactStrokeHasSpec.pre6 enc Try.prog Try.f10 Rows.fnExactStrokeHasRow.domain false) (Rows.fnExactStrokeHasSpec.post enc Try.prog Try.f10 false true false false) := by
  refine returnsInHanded_of_change (C := Try.checked) ownK started (by kernel_rfl) Try.func10
    (ChangeSpec.witness6 (enc := enc) (C := Try.checked) false ⟨#[], #[.slice none 0 0, .slice none 0 0, .bool false, ptV 0 0], []⟩ 8 (by kernel_rfl) (by kernel_rfl) (by kernel_rfl) (by kernel_rfl)) ?_
  intro W base args ds gs before hval0 hW hcnd _
  have hval : ∀ (j : Nat) t v, Try.f10.params[j]? = some t → args[j]? = some v → Value.okWide Try.prog W .any base t v := hval0
  have hW' := hW
  obtain ⟨p, q, hA0, hV, rfl, hfz, hnd⟩ := hW
  have hA : DataW.TrodAll enc Try.prog W 0 (fun _ => true) true Try.f10.params.toList args.toList ds p := hA0
  rw [Try.params10] at hA hval
  obtain ⟨v0, vs0, d0, ds0, p0, q0, hargs, rfl, rfl, h0, r0⟩ := trodAll_cons hA
  obtain ⟨v1, vs1, d1, ds1, p1, q1, rfl, rfl, rfl, h1, r1⟩ := trodAll_cons r0
  obtain ⟨v2, vs2, d2, ds2, p2, q2, rfl, rfl, rfl, h2, r2⟩ := trodAll_cons r1
  obtain ⟨v3, vs3, d3, ds3, p3, q3, rfl, rfl, rfl, h3, r3⟩ := trodAll_cons r2
  obtain ⟨rfl, rfl, rfl⟩ := trodAll_nil r3
  obtain rfl : args = #[v0, v1, v2, v3] := by cases args; simp_all
  obtain ⟨rfl, rfl⟩ := trodVars_none hV
  have k0 := h0
  have k1 := h1
  have k2 := h2
  have k3 := h3
  have lt0 : ∀ x ∈ p0, x.block < W.heap.size := by obtain ⟨m, hm⟩ := k0; exact DataW.trod_lt m _ _ _ hm
  have lt1 : ∀ x ∈ p1, x.block < W.heap.size := by obtain ⟨m, hm⟩ := k1; exact DataW.trod_lt m _ _ _ hm
  have lt2 : ∀ x ∈ p2, x.block < W.heap.size := by obtain ⟨m, hm⟩ := k2; exact DataW.trod_lt m _ _ _ hm
  have lt3 : ∀ x ∈ p3, x.block < W.heap.size := by obtain ⟨m, hm⟩ := k3; exact DataW.trod_lt m _ _ _ hm
  obtain ⟨A0, n0, c0, xs0, rfl, hp0, hm0⟩ := open_ptsV (hval 0 _ v0 rfl rfl) h0
  obtain ⟨A1, n1, c1, xs1, rfl, hp1, hm1⟩ := open_ptsV (hval 1 _ v1 rfl rfl) h1
  obtain ⟨x2, rfl, _, _⟩ := open_bool Try.underlying4 (hval 2 _ v2 rfl rfl) h2
  obtain ⟨x3, y3, rfl⟩ := open_pt (hval 3 _ v3 rfl rfl) h3
  clear hA0 hval0
  refine (law_StrokeHas A0 n0 c0 xs0 A1 n1 c1 xs1 x2 x3 y3 W hp0 hm0 hp1 hm1).mono fun e W' ⟨he, bel⟩ => ?_
  subst he
  exact ⟨_, rfl, _, _, _, [], _, [], hW', trodAll_mk1 (shut_bool Try.underlying4 _), (trodAll_cons_mk (Below.trod laidOutB_ (by kernel_rfl) (of_decide_eq_true (by kernel_rfl)) k0 bel lt0) (trodAll_cons_mk (Below.trod laidOutB_ (by kernel_rfl) (of_decide_eq_true (by kernel_rfl)) k1 bel lt1) (trodAll_cons_mk (Below.trod laidOutB_ (by kernel_rfl) (of_decide_eq_true (by kernel_rfl)) k2 bel lt2) (trodAll_cons_mk (Below.trod laidOutB_ (by kernel_rfl) (of_decide_eq_true (by kernel_rfl)) k3 bel lt3) trodAll_mk0)))), rfl, Below.frame bel _, fun h => by cases h⟩

theorem fact0 : Rows.fnExactStrokeHasRow.wf (OpenSpec.ofChange Rows.fnExactStrokeHasSpec) = true := by kernel_rfl
theorem fact3 : Try.f10.params.all (Try.checked.prog.readableRec ·) = true := by kernel_rfl
theorem fact4 : namedTie Try.checked.prog Rows.fnExactStrokeHasRow.named Rows.fnExactStrokeHasSpec.vars = true := by kernel_rfl
theorem fact5 : (Rows.fnExactStrokeHasRow.stops == []) = true := by kernel_rfl
theorem fact7 : (Rows.fnExactStrokeHasRow.knobs == []) = true := by kernel_rfl
theorem fact9 : (Rows.fnExactStrokeHasRow.inPlace == Try.checked.prog.inPlace 10) = true := by kernel_rfl
theorem fact10 : (Rows.fnExactStrokeHasRow.unfollowed == Try.checked.prog.unfollowed 10) = true := by kernel_rfl
theorem fact11 : (Rows.fnExactStrokeHasRow.recurses == Try.checked.prog.recurses 10) = true := by kernel_rfl
theorem fact12 : (Rows.fnExactStrokeHasRow.named == Try.checked.prog.varsNamed 10) = true := by kernel_rfl
theorem fact13 : (Rows.fnExactStrokeHasRow.maps == (Try.f10.params.toList ++ Rows.fnExactStrokeHasSpec.plain.varTypes Try.checked.prog).any (Try.checked.prog.mapsRec ·)) = true := by kernel_rfl
theorem fact14 : (Rows.fnExactStrokeHasRow.ifaces == (Try.f10.params.toList ++ Rows.fnExactStrokeHasSpec.plain.varTypes Try.checked.prog).any (Try.checked.prog.ifacesRec ·)) = true := by kernel_rfl
theorem fact15 : (Rows.fnExactStrokeHasRow.mapsOut == Try.checked.prog.mapsAmong Try.f10.resultTypes.toList) = true := by kernel_rfl
theorem fact16 : (Rows.fnExactStrokeHasRow.loops == (Try.f10.params.toList ++ Rows.fnExactStrokeHasSpec.plain.varTypes Try.checked.prog).any (Try.checked.prog.loopsFrom ·)) = true := by kernel_rfl
theorem fact17 : (Rows.fnExactStrokeHasRow.wideKeys == (Try.f10.params.toList ++ Rows.fnExactStrokeHasSpec.plain.varTypes Try.checked.prog ++ Try.f10.resultTypes.toList).any (Try.checked.prog.wideKeysFrom ·)) = true := by kernel_rfl
theorem fact18 : Rows.fnExactStrokeHasSpec.vars.all (Try.checked.prog.varReadable ·) = true := by kernel_rfl
theorem fact19 : Try.f10.resultTypes.all (fun t => Try.checked.prog.readableRec t && decide (t < Try.checked.prog.types.size)) = true := by kernel_rfl
theorem fact20 : (Rows.fnExactStrokeHasRow.ifacesOut == Try.f10.resultTypes.toList.any (Try.checked.prog.ifacesRec ·)) = true := by kernel_rfl
theorem fact21 : (Rows.fnExactStrokeHasRow.loopsOut == Try.f10.resultTypes.toList.any (Try.checked.prog.loopsFrom ·)) = true := by kernel_rfl
theorem fact23 : Rows.fnExactStrokeHasRow.shortTexts.isNone = true := by kernel_rfl
theorem fact29 : (Rows.fnExactStrokeHasRow.pinned == Rows.fnExactStrokeHasRow.pinnedBy) = true := by kernel_rfl
theorem fact30 : (Rows.fnExactStrokeHasRow.veiled == (Try.f10.params.toList ++ Rows.fnExactStrokeHasSpec.plain.varTypes Try.checked.prog ++ Try.f10.resultTypes.toList).any (Try.checked.prog.veiledRec ·)) = true := by kernel_rfl
theorem fact31 : Rows.fnExactStrokeHasRow.veiledFits Try.checked.prog Try.f10.params.toList (Try.f10.params.toList ++ Rows.fnExactStrokeHasSpec.plain.varTypes Try.checked.prog ++ Try.f10.resultTypes.toList) = true := by kernel_rfl
theorem closed_ : joinedFacts Try.checked.prog 10 Try.f10 Rows.fnExactStrokeHasSpec Rows.fnExactStrokeHasRow = true := by
  unfold joinedFacts
  exact andB (andB (andB (andB (andB (andB (andB (andB (andB (andB (andB (andB (andB (andB (andB (andB (andB (andB (andB (andB (andB (andB (andB (andB (andB (andB (andB (andB (andB (andB (andB (fact0) once1) once2) fact3) fact4) fact5) once6) fact7) once8) fact9) fact10) fact11) fact12) fact13) fact14) fact15) fact16) fact17) fact18) fact19) fact20) fact21) once22) fact23) once24) once25) once26) once27) (by kernel_rfl)) fact29) fact30) fact31
theorem proved : Rows.FnExactStrokeHasSaid :=
  OpenClaim.holds_of_wide 10 Try.f10 rfl rfl rfl rfl rfl rfl rfl ⟨rfl, rfl, rfl, rfl, rfl⟩ rfl rfl rfl rfl rfl (by kernel_rfl) Try.func10 closed_
    (of_decide_eq_true (by kernel_rfl)) (by unfold Func.isWrapper; first | (rw [if_pos (by decide +kernel)]; kernel_rfl) | (rw [if_neg (by decide +kernel)]; exact ⟨rfl, rfl⟩))
    (fun os started H enc _ => lifted os started H enc)
#print axioms proved
end Go.Proofs.Ytcplmmoeglembaa.fnExactStrokeHasDone
