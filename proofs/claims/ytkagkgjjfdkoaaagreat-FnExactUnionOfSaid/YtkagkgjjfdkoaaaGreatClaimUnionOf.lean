/- The law FnExactUnionOf: for every input the program and the reference agree, so the law returns true; it changes nothing that was there. No condition. -/
import Derived.Test.YtkagkgjjfdkoaaaGreatMFacts
import Derived.Test.YtkagkgjjfdkoaaaGreatRows
import Derived.Test.YtkagkgjjfdkoaaaGreatMCorner
import Derived.Test.YtkagkgjjfdkoaaaGreatMUnLaw
set_option linter.unusedVariables false
set_option linter.unusedSimpArgs false
namespace Go.Proofs.YtkagkgjjfdkoaaaGreat.fnExactUnionOfDone
open Go Go.ChangeShapes Go.WideShapes Go.ChangeAt Go.RowKit Go.Joins Go.Deep
set_option maxRecDepth 100000 in
theorem lifted (os:Os) (started:os.Started) (H:Type) (enc:TypeId×Value→H) :
  ReturnsInHanded {} Tryz.checked os 8 .any (Rows.fnExactUnionOfSpec.pre6 enc Tryz.prog Tryz.f8 Rows.fnExactUnionOfRow.domain false) (Rows.fnExactUnionOfSpec.post enc Tryz.prog Tryz.f8 false true false false) :=by
 refine returnsInHanded_of_change (C:=Tryz.checked) jez started (by kernel_rfl) Tryz.func8
  (ChangeSpec.witness6 (enc:=enc) (C:=Tryz.checked) false ⟨#[],#[.agg #[.slice none 0 0], .agg #[.slice none 0 0]],[]⟩ 8 (by kernel_rfl) (by kernel_rfl) (by kernel_rfl) (by kernel_rfl)) ?_
 intro W base args ds gs before hval0 hW hcnd _
 have hval:∀(j:Nat) t v,Tryz.f8.params[j]? =some t→args[j]? =some v→Value.okWide Tryz.prog W .any base t v:=hval0
 have hW':=hW
 obtain ⟨p,q,hA0,hV,rfl,hfz,hnd⟩ :=hW
 have hA:DataW.TrodAll enc Tryz.prog W 0 (fun _=>true) true Tryz.f8.params.toList args.toList ds p:=hA0
 rw [Tryz.params8] at hA hval
 obtain ⟨v0,vs0,d0,ds0,p0,q0,hargs,rfl,rfl,h0,r0⟩ :=trodAll_cons hA
 obtain ⟨v1,vs1,d1,ds1,p1,q1,rfl,rfl,rfl,h1,r1⟩ :=trodAll_cons r0
 obtain ⟨rfl,rfl,rfl⟩ :=trodAll_nil r1
 obtain rfl:args= #[v0,v1] :=by cases args;simp_all
 obtain ⟨rfl,rfl⟩ :=trodVars_none hV
 have k0:=h0
 have k1:=h1
 have lt0:∀x∈p0,x.block<W.heap.size:=by obtain ⟨m,hm⟩ :=k0;exact DataW.trod_lt m _ _ _ hm
 have lt1:∀x∈p1,x.block<W.heap.size:=by obtain ⟨m,hm⟩ :=k1;exact DataW.trod_lt m _ _ _ hm
 obtain ⟨A0,n0,c0,rs0,rfl,hp0,hm0⟩ :=jcG (hval 0 _ v0 rfl rfl) h0
 obtain ⟨A1,n1,c1,rs1,rfl,hp1,hm1⟩ :=jcG (hval 1 _ v1 rfl rfl) h1
 clear hA0 hval0
 refine(jcy A0 n0 c0 rs0 A1 n1 c1 rs1 W hp0 hm0 hp1 hm1).mono fun e W' ⟨he,bel⟩ => ?_
 subst he
 exact⟨_,rfl,_,_,_,[],_,[],hW',trodAll_mk1 (shut_bool Tryz.underlying4 _),(trodAll_cons_mk (Below.trod jdN (by kernel_rfl) (of_decide_eq_true (by kernel_rfl)) k0 bel lt0) (trodAll_cons_mk (Below.trod jdN (by kernel_rfl) (of_decide_eq_true (by kernel_rfl)) k1 bel lt1) trodAll_mk0)),rfl,Below.frame bel _,fun h=>by cases h⟩
theorem fact0:Rows.fnExactUnionOfRow.wf (OpenSpec.ofChange Rows.fnExactUnionOfSpec) =true:=by kernel_rfl
theorem fact3:Tryz.f8.params.all (Tryz.checked.prog.readableRec ·) =true:=by kernel_rfl
theorem fact4:namedTie Tryz.checked.prog Rows.fnExactUnionOfRow.named Rows.fnExactUnionOfSpec.vars=true:=by kernel_rfl
theorem fact5: (Rows.fnExactUnionOfRow.stops== []) =true:=by kernel_rfl
theorem fact7: (Rows.fnExactUnionOfRow.knobs== []) =true:=by kernel_rfl
theorem fact9: (Rows.fnExactUnionOfRow.inPlace==Tryz.checked.prog.inPlace 8) =true:=by kernel_rfl
theorem fact10: (Rows.fnExactUnionOfRow.unfollowed==Tryz.checked.prog.unfollowed 8) =true:=by kernel_rfl
theorem fact11: (Rows.fnExactUnionOfRow.recurses==Tryz.checked.prog.recurses 8) =true:=by kernel_rfl
theorem fact12: (Rows.fnExactUnionOfRow.named==Tryz.checked.prog.varsNamed 8) =true:=by kernel_rfl
theorem fact13: (Rows.fnExactUnionOfRow.maps== (Tryz.f8.params.toList++Rows.fnExactUnionOfSpec.plain.varTypes Tryz.checked.prog).any (Tryz.checked.prog.mapsRec ·)) =true:=by kernel_rfl
theorem fact14: (Rows.fnExactUnionOfRow.ifaces== (Tryz.f8.params.toList++Rows.fnExactUnionOfSpec.plain.varTypes Tryz.checked.prog).any (Tryz.checked.prog.ifacesRec ·)) =true:=by kernel_rfl
theorem fact15: (Rows.fnExactUnionOfRow.mapsOut==Tryz.checked.prog.mapsAmong Tryz.f8.resultTypes.toList) =true:=by kernel_rfl
theorem fact16: (Rows.fnExactUnionOfRow.loops== (Tryz.f8.params.toList++Rows.fnExactUnionOfSpec.plain.varTypes Tryz.checked.prog).any (Tryz.checked.prog.loopsFrom ·)) =true:=by kernel_rfl
theorem fact17: (Rows.fnExactUnionOfRow.wideKeys== (Tryz.f8.params.toList++Rows.fnExactUnionOfSpec.plain.varTypes Tryz.checked.prog++Tryz.f8.resultTypes.toList).any (Tryz.checked.prog.wideKeysFrom ·)) =true:=by kernel_rfl
theorem fact18:Rows.fnExactUnionOfSpec.vars.all (Tryz.checked.prog.varReadable ·) =true:=by kernel_rfl
theorem fact19:Tryz.f8.resultTypes.all (fun t=>Tryz.checked.prog.readableRec t&&decide (t<Tryz.checked.prog.types.size)) =true:=by kernel_rfl
theorem fact20: (Rows.fnExactUnionOfRow.ifacesOut==Tryz.f8.resultTypes.toList.any (Tryz.checked.prog.ifacesRec ·)) =true:=by kernel_rfl
theorem fact21: (Rows.fnExactUnionOfRow.loopsOut==Tryz.f8.resultTypes.toList.any (Tryz.checked.prog.loopsFrom ·)) =true:=by kernel_rfl
theorem fact23:Rows.fnExactUnionOfRow.shortTexts.isNone=true:=by kernel_rfl
theorem fact29: (Rows.fnExactUnionOfRow.pinned==Rows.fnExactUnionOfRow.pinnedBy) =true:=by kernel_rfl
theorem fact30: (Rows.fnExactUnionOfRow.veiled== (Tryz.f8.params.toList++Rows.fnExactUnionOfSpec.plain.varTypes Tryz.checked.prog++Tryz.f8.resultTypes.toList).any (Tryz.checked.prog.veiledRec ·)) =true:=by kernel_rfl
theorem fact31:Rows.fnExactUnionOfRow.veiledFits Tryz.checked.prog Tryz.f8.params.toList (Tryz.f8.params.toList++Rows.fnExactUnionOfSpec.plain.varTypes Tryz.checked.prog++Tryz.f8.resultTypes.toList) =true:=by kernel_rfl
theorem closed_:joinedFacts Tryz.checked.prog 8 Tryz.f8 Rows.fnExactUnionOfSpec Rows.fnExactUnionOfRow=true:=by
 unfold joinedFacts
 exact jey (jey (jey (jey (jey (jey (jey (jey (jey (jey (jey (jey (jey (jey (jey (jey (jey (jey (jey (jey (jey (jey (jey (jey (jey (jey (jey (jey (jey (jey (jey (fact0) jeu) jev) fact3) fact4) fact5) jew) fact7) jex) fact9) fact10) fact11) fact12) fact13) fact14) fact15) fact16) fact17) fact18) fact19) fact20) fact21) jee) fact23) jef) jeg) jeh) jei) (by kernel_rfl)) fact29) fact30) fact31
theorem proved:Rows.FnExactUnionOfSaid:=
 OpenClaim.holds_of_wide 8 Tryz.f8 rfl rfl rfl rfl rfl rfl rfl ⟨rfl,rfl,rfl,rfl,rfl⟩ rfl rfl rfl rfl rfl (by kernel_rfl) Tryz.func8 closed_
  (of_decide_eq_true (by kernel_rfl)) (by unfold Func.isWrapper;first | (rw [if_pos (by decide+kernel)];kernel_rfl) | (rw [if_neg (by decide+kernel)];exact⟨rfl,rfl⟩))
  (fun os started H enc _=>lifted os started H enc)
#print axioms proved
end Go.Proofs.YtkagkgjjfdkoaaaGreat.fnExactUnionOfDone
