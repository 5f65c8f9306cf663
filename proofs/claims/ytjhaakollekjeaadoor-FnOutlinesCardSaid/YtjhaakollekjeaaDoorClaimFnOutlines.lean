/- The law FnOutlines (a tied card): it returns true for every input; it changes nothing that was there. The card lists two tables of the library's, as the given tie has them. No condition. -/
import Derived.Test.YtjhaakollekjeaaDoorO1
import Derived.Test.YtjhaakollekjeaaDoorRows
import Derived.Test.YtjhaakollekjeaaDoorCards
import Derived.Test.YtjhaakollekjeaaDoorTie
import Derived.Test.YtjhaakollekjeaaDoorO17
import Derived.Test.YtjhaakollekjeaaDoorO41
import Derived.ChangeMaps5
import Derived.Lay
import Derived.LaidMore
import Derived.ProofKit
import Derived.SevenTiedAt
namespace Go.Proofs.YtjhaakollekjeaaDoor.fnOutlinesDone
open Go Go.ChangeShapes Go.WideShapes Go.ChangeAt Go.RowKit Go.Joins Go.Deep
set_option linter.unusedVariables false

/-- The wrap that hands on what the row lists, and the world's shape. -/
theorem wrapS {H : Type} {enc : TypeId × Value → H} {a : Assume} {C : Checked} {os : Os} {f : FuncId} {fn : Func} {s : ChangeSpec} {conds : List PathCond} {apart fresh handsOn again : Bool} {X : World → Array Value → Prop}
  (own : ownKnob C.prog.godebug = none) (started : os.Started) (noInit : C.prog.inits.idxOf? f = none) (hfn : C.prog.funcs[f]? = some fn)
  (witness : ∃ (w : World) (tape : Tape) (i : Input), w.os = os ∧ (w.forCall tape i).Shaped C.prog ∧ i.vars = [] ∧ Input.okWide C.prog (w.forCall tape i) .any w.heap.size f i ∧
   ((s.pre enc C.prog fn conds apart (w.forCall tape i).memory i.args ∧ X (w.forCall tape i).memory i.args) ∧ sizedMet enc C.prog fn (OpenSpec.ofChange s) apart (w.forCall tape i).memory i.args) ∧ a.holds C.prog (lone (Frame.enter C.prog f i.args .normal) [] (w.forCall tape i)))
  (contract : ∀ (W : World) (base : Nat) (args : Array Value) (ds gs : List (DataW H)) (before : List MemPlace),
   (∀ (j : Nat) t v, fn.params[j]? = some t → args[j]? = some v → Value.okWide C.prog W .any base t v) →
   DataW.Whole enc C.prog fn.params.toList s.vars apart W args.toList ds gs before →
   W.ShapedOpen C.prog →
   Calls C.prog f args W fun e W' => ∃ v, e = .returned v ∧ s.post enc C.prog fn apart fresh handsOn again W args v W') :
  ReturnsInHanded a C os f .any (fun w args => (s.pre enc C.prog fn conds apart w args ∧ X w args) ∧ sizedMet enc C.prog fn (OpenSpec.ofChange s) apart w args) (s.post enc C.prog fn apart fresh handsOn again) := by
 refine returnsInHanded_of_calls own started noInit witness ?_
 intro w tape i _ hsh _ hok hpre _
 obtain ⟨_, _, _, fn', hfn', _, _, _, _, hval⟩ := hok
 have e : fn' = fn := Option.some.inj (hfn'.symm.trans hfn)
 subst e
 obtain ⟨⟨⟨ds, gs, before, hw, hc⟩, hx⟩, hz⟩ := hpre
 have hw' := DataW.Whole.of_heap (w' := w.forCall tape i) (by rfl) hw
 refine (contract (w.forCall tape i) w.heap.size i.args ds gs before hval hw' hsh).mono fun e W' ⟨v, he, hp⟩ => ?_
 subst he
 exact ChangeSpec.post_blind hp
set_option maxRecDepth 100000 in
theorem lifted (os : Os) (started : os.Started) (H : Type) (enc : TypeId × Value → H) :
  ReturnsInHanded {} Tryd.checked os 4 .any (fun w args => (Rows.fnOutlinesSpec.pre enc Tryd.prog Tryd.f4 [] false w args ∧ laidMetH Tryd.prog Rows.fnOutlinesRow.laid w) ∧ sizedMet enc Tryd.prog Tryd.f4 (OpenSpec.ofChange Rows.fnOutlinesSpec) false w args) (Rows.fnOutlinesSpec.post enc Tryd.prog Tryd.f4 false true false false) := by
 refine wrapS (C := Tryd.checked) (X := fun w _ => laidMetH Tryd.prog Rows.fnOutlinesRow.laid w) ownK started (by kernel_rfl) Tryd.func4
  (ChangeSpec.witness_shaped (enc := enc) (C := Tryd.checked) (os := os) (X := fun w _ => laidMetH Tryd.prog Rows.fnOutlinesRow.laid w) false (World.laidAll Tryd.prog os Rows.fnOutlinesRow.laid) #[.slice none 0 0, .slice none 0 0] 8 (World.laidAll_os _ _ _)
   (World.shaped_of_ZipB (by kernel_rfl) (by kernel_rfl)) (by kernel_rfl) (by kernel_rfl) (by kernel_rfl)
   (by rw [MakeChecks.laidMetH_plain _ _ _ (by kernel_rfl)]; exact laidMet_laidAll _ (by kernel_rfl) (by kernel_rfl))) ?_
 intro W base args ds gs before hval0 hW hsh
 have hval : ∀ (j : Nat) t v, Tryd.f4.params[j]? = some t → args[j]? = some v → Value.okWide Tryd.prog W .any base t v := hval0
 have hW' := hW
 obtain ⟨p, q, hA0, hV, rfl, hfz, hnd⟩ := hW
 have hA : DataW.TrodAll enc Tryd.prog W 0 (fun _ => true) true Tryd.f4.params.toList args.toList ds p := hA0
 rw [Tryd.params4] at hA hval
 obtain ⟨v0, vs0, d0, ds0, p0, q0, hargs, rfl, rfl, h0, r0⟩ := trodAll_cons hA
 obtain ⟨v1, vs1, d1, ds1, p1, q1, rfl, rfl, rfl, h1, r1⟩ := trodAll_cons r0
 obtain ⟨rfl, rfl, rfl⟩ := trodAll_nil r1
 obtain rfl : args = #[v0, v1] := by cases args; simp_all
 obtain ⟨rfl, rfl⟩ := trodVars_none hV
 have k0 := h0
 have k1 := h1
 have lt0 : ∀ x ∈ p0, x.block < W.heap.size := by obtain ⟨m, hm⟩ := k0; exact DataW.trod_lt m _ _ _ hm
 have lt1 : ∀ x ∈ p1, x.block < W.heap.size := by obtain ⟨m, hm⟩ := k1; exact DataW.trod_lt m _ _ _ hm
 obtain ⟨A0, n0, c0, zs0, rfl, hp0, hm0⟩ := open_bytes (hval 0 _ v0 rfl rfl) h0
 obtain ⟨A1, n1, c1, zs1, rfl, hp1, hm1⟩ := open_bytes (hval 1 _ v1 rfl rfl) h1
 clear hA0 hval0
 refine (law_FnOutlines A0 n0 c0 zs0 A1 n1 c1 zs1 W (MaxL.of hsh) hp0 hm0 hp1 hm1).mono fun e W' ⟨he, bel⟩ => ?_
 subst he
 exact ⟨_, rfl, _, _, _, [], _, [], hW', trodAll_mk1 (shut_bool Tryd.underlying4 _), (trodAll_cons_mk (Below.trod laidOutB_ (by kernel_rfl) (of_decide_eq_true (by kernel_rfl)) k0 bel lt0) (trodAll_cons_mk (Below.trod laidOutB_ (by kernel_rfl) (of_decide_eq_true (by kernel_rfl)) k1 bel lt1) trodAll_mk0)), rfl, Below.frame bel _, fun h => by cases h⟩

theorem fact0 : Rows.fnOutlinesRow.wf (OpenSpec.ofChange Rows.fnOutlinesSpec) = true := by kernel_rfl
theorem fact3 : Tryd.f4.params.all (Tryd.checked.prog.readableRec ·) = true := by kernel_rfl
theorem fact4 : namedTie Tryd.checked.prog Rows.fnOutlinesRow.named Rows.fnOutlinesSpec.vars = true := by kernel_rfl
theorem fact5 : (Rows.fnOutlinesRow.stops == []) = true := by kernel_rfl
theorem fact7 : (Rows.fnOutlinesRow.knobs == []) = true := by kernel_rfl
theorem fact9 : (Rows.fnOutlinesRow.inPlace == Tryd.checked.prog.inPlace 4) = true := by kernel_rfl
theorem fact10 : (Rows.fnOutlinesRow.unfollowed == Tryd.checked.prog.unfollowed 4) = true := by kernel_rfl
theorem fact11 : (Rows.fnOutlinesRow.recurses == Tryd.checked.prog.recurses 4) = true := by kernel_rfl
theorem fact12 : (Rows.fnOutlinesRow.named == Tryd.checked.prog.varsNamed 4) = true := by kernel_rfl
theorem fact13 : (Rows.fnOutlinesRow.maps == (Tryd.f4.params.toList ++ Rows.fnOutlinesSpec.plain.varTypes Tryd.checked.prog).any (Tryd.checked.prog.mapsRec ·)) = true := by kernel_rfl
theorem fact14 : (Rows.fnOutlinesRow.ifaces == (Tryd.f4.params.toList ++ Rows.fnOutlinesSpec.plain.varTypes Tryd.checked.prog).any (Tryd.checked.prog.ifacesRec ·)) = true := by kernel_rfl
theorem fact15 : (Rows.fnOutlinesRow.mapsOut == Tryd.checked.prog.mapsAmong Tryd.f4.resultTypes.toList) = true := by kernel_rfl
theorem fact16 : (Rows.fnOutlinesRow.loops == (Tryd.f4.params.toList ++ Rows.fnOutlinesSpec.plain.varTypes Tryd.checked.prog).any (Tryd.checked.prog.loopsFrom ·)) = true := by kernel_rfl
theorem fact17 : (Rows.fnOutlinesRow.wideKeys == (Tryd.f4.params.toList ++ Rows.fnOutlinesSpec.plain.varTypes Tryd.checked.prog ++ Tryd.f4.resultTypes.toList).any (Tryd.checked.prog.wideKeysFrom ·)) = true := by kernel_rfl
theorem fact18 : Rows.fnOutlinesSpec.vars.all (Tryd.checked.prog.varReadable ·) = true := by kernel_rfl
theorem fact19 : Tryd.f4.resultTypes.all (fun t => Tryd.checked.prog.readableRec t && decide (t < Tryd.checked.prog.types.size)) = true := by kernel_rfl
theorem fact20 : (Rows.fnOutlinesRow.ifacesOut == Tryd.f4.resultTypes.toList.any (Tryd.checked.prog.ifacesRec ·)) = true := by kernel_rfl
theorem fact21 : (Rows.fnOutlinesRow.loopsOut == Tryd.f4.resultTypes.toList.any (Tryd.checked.prog.loopsFrom ·)) = true := by kernel_rfl
theorem fact23 : Rows.fnOutlinesRow.shortTexts.isNone = true := by kernel_rfl
theorem fact29 : (Rows.fnOutlinesRow.pinned == Rows.fnOutlinesRow.pinnedBy) = true := by kernel_rfl
theorem fact30 : (Rows.fnOutlinesRow.veiled == (Tryd.f4.params.toList ++ Rows.fnOutlinesSpec.plain.varTypes Tryd.checked.prog ++ Tryd.f4.resultTypes.toList).any (Tryd.checked.prog.veiledRec ·)) = true := by kernel_rfl
theorem fact31 : Rows.fnOutlinesRow.veiledFits Tryd.checked.prog Tryd.f4.params.toList (Tryd.f4.params.toList ++ Rows.fnOutlinesSpec.plain.varTypes Tryd.checked.prog ++ Tryd.f4.resultTypes.toList) = true := by kernel_rfl
theorem closed_ : joinedFacts Tryd.checked.prog 4 Tryd.f4 Rows.fnOutlinesSpec Rows.fnOutlinesRow = true := by
 unfold joinedFacts
 exact andB (andB (andB (andB (andB (andB (andB (andB (andB (andB (andB (andB (andB (andB (andB (andB (andB (andB (andB (andB (andB (andB (andB (andB (andB (andB (andB (andB (andB (andB (andB (fact0) once1) once2) fact3) fact4) fact5) once6) fact7) once8) fact9) fact10) fact11) fact12) fact13) fact14) fact15) fact16) fact17) fact18) fact19) fact20) fact21) once22) fact23) once24) once25) once26) once27) (by kernel_rfl)) fact29) fact30) fact31
theorem row_holds : Rows.FnOutlinesSaid :=
 OpenClaim.holds_of_wide 4 Tryd.f4 rfl rfl rfl rfl rfl rfl rfl ⟨rfl, rfl, rfl, rfl, rfl⟩ rfl rfl rfl rfl rfl (by kernel_rfl) Tryd.func4 closed_
  (of_decide_eq_true (by kernel_rfl)) (by unfold Func.isWrapper; first | (rw [if_pos (by decide +kernel)]; kernel_rfl) | (rw [if_neg (by decide +kernel)]; exact ⟨rfl, rfl⟩))
  (fun os started H enc _ => lifted os started H enc)
theorem proved : Rows.FnOutlinesCardSaid :=
 Claim7.holds_tied_plain_at .later [] [.data, .pinned] true (true, "744e20a2a061e6393062db61c7f911bc86f0295a02a02a1571dfb26876401501") false row_holds (fun _ h => by cases h) (by kernel_rfl) (fun _ h => by cases h) fnOutlines_row_tie rfl ⟨rfl, rfl⟩ (by kernel_rfl) rfl
  (fun f fn hf hfn => by
   obtain rfl : f = 4 := Option.some.inj ((show Tryd.prog.funcNamed "loop.example/g00883/laws.FnOutlines" = some 4 by kernel_rfl).symm.trans hf) |>.symm
   obtain rfl : fn = Tryd.f4 := (Option.some.inj (Tryd.func4.symm.trans hfn)).symm
   exact ⟨by kernel_rfl, fun j t ht => by
    rw [Tryd.params4] at ht
    have hm : t ∈ [30] := by have := Array.mem_of_getElem? ht; simpa using this
    have hall : ([30].all fun u => !Tryd.prog.wantsStandIn u) = true := by kernel_rfl
    exact (show Tryd.prog.wantsStandIn t = false by simpa using List.all_eq_true.1 hall t hm)⟩)
  (by kernel_rfl)
#print axioms proved
end Go.Proofs.YtjhaakollekjeaaDoor.fnOutlinesDone
