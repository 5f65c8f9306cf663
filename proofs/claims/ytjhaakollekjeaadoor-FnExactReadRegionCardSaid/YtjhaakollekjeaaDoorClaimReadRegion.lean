/- The law FnExactReadRegion (a tied card): for every input the program and the reference agree, so the law returns true; it changes nothing that was there. The card lists two tables of the library's, as the given tie has them. No condition. -/
import Derived.Test.YtjhaakollekjeaaDoorR1
import Derived.Test.YtjhaakollekjeaaDoorRows
import Derived.Test.YtjhaakollekjeaaDoorCards
import Derived.Test.YtjhaakollekjeaaDoorTie
import Derived.Test.YtjhaakollekjeaaDoorR22
import Derived.ChangeMaps5
import Derived.Lay
import Derived.LaidMore
import Derived.ProofKit
import Derived.SevenTiedAt
namespace Go.Proofs.YtjhaakollekjeaaDoor.fnExactReadRegionDone
open Go Go.ChangeShapes Go.WideShapes Go.ChangeAt Go.RowKit Go.Joins Go.Deep
set_option linter.unusedVariables false

/-- The wrap that hands on what the row lists, and the world's shape. -/
theorem wrapS {H : Type} {enc : TypeId × Value → H} {a : Assume} {C : Checked} {os : Os} {f : FuncId} {fn : Func} {s : ChangeSpec} {conds : List PathCond} {apart fresh handsOn again : Bool} {X : World → Array Value → Prop}
  (own : ownKnob C.prog.godebug = none) (started : os.Started) (noInit : C.prog.inits.idxOf? f = none) (hfn : C.prog.funcs[f]? = some fn)
  (witness : ∃ (w : World) (tape : Tape) (i : Input), w.os = os ∧ (w.forCall tape i).Shaped C.prog ∧ i.vars = [] ∧ Input.okWide C.prog (w.forCall tape i) .any w.heap.size f i ∧
   ((s.pre enc C.prog fn conds apart (w.forCall tape i).memory i.args ∧ X (w.forCall tape i).memory i.args) ∧ sizedMet enc C.prog fn (OpenSpec.ofChange s) apart (w.forCall tape i).memory i.args) ∧ a.holds C.prog (lone (Frame.enter C.prog f i.args .normal) [] (w.forCall tape i)))
  (contract : ∀ (W : World) (base : Nat) (args : Array Value) (ds gs : List (DataW H)) (before : List MemPlace),
   (∀ (j : Nat) t v, fn.params[j]? = some t → args[j]? = some v → Value.okWide C.prog W .any base t v) →
   DataW.Whole enc C.prog fn.params.toList s.vars apart W args.toList ds gs before →
   W.ShapedOpen C.prog →
   Calls C.prog f args W fun e W' => ∃ v, e = .returned v ∧ s.post enc C.prog fn apart fresh handsOn again W args v W') :
  ReturnsInHanded a C os f .any (fun w args => (s.pre enc C.prog fn conds apart w args ∧ X w args) ∧ sizedMet enc C.prog fn (OpenSpec.ofChange s) apart w args) (s.post enc C.prog fn apart fresh handsOn again) := by
 refine returnsInHanded_of_calls own started noInit witness ?_
 intro w tape i _ hsh _ hok hpre _
 obtain ⟨_, _, _, fn', hfn', _, _, _, _, hval⟩ := hok
 have e : fn' = fn := Option.some.inj (hfn'.symm.trans hfn)
 subst e
 obtain ⟨⟨⟨ds, gs, before, hw, hc⟩, hx⟩, hz⟩ := hpre
 have hw' := DataW.Whole.of_heap (w' := w.forCall tape i) (by rfl) hw
 refine (contract (w.forCall tape i) w.heap.size i.args ds gs before hval hw' hsh).mono fun e W' ⟨v, he, hp⟩ => ?_
 subst he
 exact ChangeSpec.post_blind hp
set_option maxRecDepth 100000 in
theorem lifted (os : Os) (started : os.Started) (H : Type) (enc : TypeId × Value → H) :
  ReturnsInHanded {} Tryd.checked os 3 .any (fun w args => (Rows.fnExactReadRegionSpec.pre enc Tryd.prog Tryd.f3 [] false w args ∧ laidMetH Tryd.prog Rows.fnExactReadRegionRow.laid w) ∧ sizedMet enc Tryd.prog Tryd.f3 (OpenSpec.ofChange Rows.fnExactReadRegionSpec) false w args) (Rows.fnExactReadRegionSpec.post enc Tryd.prog Tryd.f3 false true false false) := by
 refine wrapS (C := Tryd.checked) (X := fun w _ => laidMetH Tryd.prog Rows.fnExactReadRegionRow.laid w) ownK started (by kernel_rfl) Tryd.func3
  (ChangeSpec.witness_shaped (enc := enc) (C := Tryd.checked) (os := os) (X := fun w _ => laidMetH Tryd.prog Rows.fnExactReadRegionRow.laid w) false (World.laidAll Tryd.prog os Rows.fnExactReadRegionRow.laid) #[.string ByteArray.empty] 8 (World.laidAll_os _ _ _)
   (World.shaped_of_ZipB (by kernel_rfl) (by kernel_rfl)) (by kernel_rfl) (by kernel_rfl) (by kernel_rfl)
   (by rw [MakeChecks.laidMetH_plain _ _ _ (by kernel_rfl)]; exact laidMet_laidAll _ (by kernel_rfl) (by kernel_rfl))) ?_
 intro W base args ds gs before hval0 hW hsh
 have hval : ∀ (j : Nat) t v, Tryd.f3.params[j]? = some t → args[j]? = some v → Value.okWide Tryd.prog W .any base t v := hval0
 have hW' := hW
 obtain ⟨p, q, hA0, hV, rfl, hfz, hnd⟩ := hW
 have hA : DataW.TrodAll enc Tryd.prog W 0 (fun _ => true) true Tryd.f3.params.toList args.toList ds p := hA0
 rw [Tryd.params3] at hA hval
 obtain ⟨v0, vs0, d0, ds0, p0, q0, hargs, rfl, rfl, h0, r0⟩ := trodAll_cons hA
 obtain ⟨rfl, rfl, rfl⟩ := trodAll_nil r0
 obtain rfl : args = #[v0] := by cases args; simp_all
 obtain ⟨rfl, rfl⟩ := trodVars_none hV
 have k0 := h0
 have lt0 : ∀ x ∈ p0, x.block < W.heap.size := by obtain ⟨m, hm⟩ := k0; exact DataW.trod_lt m _ _ _ hm
 obtain ⟨s0, rfl, _, _, hm0⟩ := Go.ChangeMaps.open_string Tryd.underlying9 (hval 0 _ v0 rfl rfl) h0
 obtain ⟨⟨l0⟩⟩ := s0
 have hl0 : (l0.length : Int) ≤ 9223372036854775807 := by have : l0.length ≤ maxLen := hm0; unfold maxLen at this; omega
 clear hA0 hval0
 refine (law_ReadRegion l0 W (MaxL.of hsh) hl0).mono fun e W' ⟨he, bel⟩ => ?_
 subst he
 exact ⟨_, rfl, _, _, _, [], _, [], hW', trodAll_mk1 (shut_bool Tryd.underlying4 _), (trodAll_cons_mk (Below.trod laidOutB_ (by kernel_rfl) (of_decide_eq_true (by kernel_rfl)) k0 bel lt0) trodAll_mk0), rfl, Below.frame bel _, fun h => by cases h⟩

theorem fact0 : Rows.fnExactReadRegionRow.wf (OpenSpec.ofChange Rows.fnExactReadRegionSpec) = true := by kernel_rfl
theorem fact3 : Tryd.f3.params.all (Tryd.checked.prog.readableRec ·) = true := by kernel_rfl
theorem fact4 : namedTie Tryd.checked.prog Rows.fnExactReadRegionRow.named Rows.fnExactReadRegionSpec.vars = true := by kernel_rfl
theorem fact5 : (Rows.fnExactReadRegionRow.stops == []) = true := by kernel_rfl
theorem fact7 : (Rows.fnExactReadRegionRow.knobs == []) = true := by kernel_rfl
theorem fact9 : (Rows.fnExactReadRegionRow.inPlace == Tryd.checked.prog.inPlace 3) = true := by kernel_rfl
theorem fact10 : (Rows.fnExactReadRegionRow.unfollowed == Tryd.checked.prog.unfollowed 3) = true := by kernel_rfl
theorem fact11 : (Rows.fnExactReadRegionRow.recurses == Tryd.checked.prog.recurses 3) = true := by kernel_rfl
theorem fact12 : (Rows.fnExactReadRegionRow.named == Tryd.checked.prog.varsNamed 3) = true := by kernel_rfl
theorem fact13 : (Rows.fnExactReadRegionRow.maps == (Tryd.f3.params.toList ++ Rows.fnExactReadRegionSpec.plain.varTypes Tryd.checked.prog).any (Tryd.checked.prog.mapsRec ·)) = true := by kernel_rfl
theorem fact14 : (Rows.fnExactReadRegionRow.ifaces == (Tryd.f3.params.toList ++ Rows.fnExactReadRegionSpec.plain.varTypes Tryd.checked.prog).any (Tryd.checked.prog.ifacesRec ·)) = true := by kernel_rfl
theorem fact15 : (Rows.fnExactReadRegionRow.mapsOut == Tryd.checked.prog.mapsAmong Tryd.f3.resultTypes.toList) = true := by kernel_rfl
theorem fact16 : (Rows.fnExactReadRegionRow.loops == (Tryd.f3.params.toList ++ Rows.fnExactReadRegionSpec.plain.varTypes Tryd.checked.prog).any (Tryd.checked.prog.loopsFrom ·)) = true := by kernel_rfl
theorem fact17 : (Rows.fnExactReadRegionRow.wideKeys == (Tryd.f3.params.toList ++ Rows.fnExactReadRegionSpec.plain.varTypes Tryd.checked.prog ++ Tryd.f3.resultTypes.toList).any (Tryd.checked.prog.wideKeysFrom ·)) = true := by kernel_rfl
theorem fact18 : Rows.fnExactReadRegionSpec.vars.all (Tryd.checked.prog.varReadable ·) = true := by kernel_rfl
theorem fact19 : Tryd.f3.resultTypes.all (fun t => Tryd.checked.prog.readableRec t && decide (t < Tryd.checked.prog.types.size)) = true := by kernel_rfl
theorem fact20 : (Rows.fnExactReadRegionRow.ifacesOut == Tryd.f3.resultTypes.toList.any (Tryd.checked.prog.ifacesRec ·)) = true := by kernel_rfl
theorem fact21 : (Rows.fnExactReadRegionRow.loopsOut == Tryd.f3.resultTypes.toList.any (Tryd.checked.prog.loopsFrom ·)) = true := by kernel_rfl
theorem fact23 : Rows.fnExactReadRegionRow.shortTexts.isNone = true := by kernel_rfl
theorem fact29 : (Rows.fnExactReadRegionRow.pinned == Rows.fnExactReadRegionRow.pinnedBy) = true := by kernel_rfl
theorem fact30 : (Rows.fnExactReadRegionRow.veiled == (Tryd.f3.params.toList ++ Rows.fnExactReadRegionSpec.plain.varTypes Tryd.checked.prog ++ Tryd.f3.resultTypes.toList).any (Tryd.checked.prog.veiledRec ·)) = true := by kernel_rfl
theorem fact31 : Rows.fnExactReadRegionRow.veiledFits Tryd.checked.prog Tryd.f3.params.toList (Tryd.f3.params.toList ++ Rows.fnExactReadRegionSpec.plain.varTypes Tryd.checked.prog ++ Tryd.f3.resultTypes.toList) = true := by kernel_rfl
theorem closed_ : joinedFacts Tryd.checked.prog 3 Tryd.f3 Rows.fnExactReadRegionSpec Rows.fnExactReadRegionRow = true := by
 unfold joinedFacts
 exact andB (andB (andB (andB (andB (andB (andB (andB (andB (andB (andB (andB (andB (andB (andB (andB (andB (andB (andB (andB (andB (andB (andB (andB (andB (andB (andB (andB (andB (andB (andB (fact0) once1) once2) fact3) fact4) fact5) once6) fact7) once8) fact9) fact10) fact11) fact12) fact13) fact14) fact15) fact16) fact17) fact18) fact19) fact20) fact21) once22) fact23) once24) once25) once26) once27) (by kernel_rfl)) fact29) fact30) fact31
theorem row_holds : Rows.FnExactReadRegionSaid :=
 OpenClaim.holds_of_wide 3 Tryd.f3 rfl rfl rfl rfl rfl rfl rfl ⟨rfl, rfl, rfl, rfl, rfl⟩ rfl rfl rfl rfl rfl (by kernel_rfl) Tryd.func3 closed_
  (of_decide_eq_true (by kernel_rfl)) (by unfold Func.isWrapper; first | (rw [if_pos (by decide +kernel)]; kernel_rfl) | (rw [if_neg (by decide +kernel)]; exact ⟨rfl, rfl⟩))
  (fun os started H enc _ => lifted os started H enc)
theorem proved : Rows.FnExactReadRegionCardSaid :=
 Claim7.holds_tied_plain_at .later [] [.data, .pinned] true (true, "744e20a2a061e6393062db61c7f911bc86f0295a02a02a1571dfb26876401501") false row_holds (fun _ h => by cases h) (by kernel_rfl) (fun _ h => by cases h) fnExactReadRegion_row_tie rfl ⟨rfl, rfl⟩ (by kernel_rfl) rfl
  (fun f fn hf hfn => by
   obtain rfl : f = 3 := Option.some.inj ((show Tryd.prog.funcNamed "loop.example/g00883/laws.FnExactReadRegion" = some 3 by kernel_rfl).symm.trans hf) |>.symm
   obtain rfl : fn = Tryd.f3 := (Option.some.inj (Tryd.func3.symm.trans hfn)).symm
   exact ⟨by kernel_rfl, fun j t ht => by
    rw [Tryd.params3] at ht
    have hm : t ∈ [9] := by have := Array.mem_of_getElem? ht; simpa using this
    have hall : ([9].all fun u => !Tryd.prog.wantsStandIn u) = true := by kernel_rfl
    exact (show Tryd.prog.wantsStandIn t = false by simpa using List.all_eq_true.1 hall t hm)⟩)
  (by kernel_rfl)
#print axioms proved
end Go.Proofs.YtjhaakollekjeaaDoor.fnExactReadRegionDone
