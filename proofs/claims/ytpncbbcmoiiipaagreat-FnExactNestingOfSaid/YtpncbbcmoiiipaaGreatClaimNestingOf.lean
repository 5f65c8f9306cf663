/- The law FnExactNestingOf: for every input the program and the reference agree, so the law returns true; it changes nothing that was there. No condition. -/
import Derived.Test.YtpncbbcmoiiipaaGreatKFacts
import Derived.Test.YtpncbbcmoiiipaaGreatRows
import Derived.Test.YtpncbbcmoiiipaaGreatKStO
import Derived.Test.YtpncbbcmoiiipaaGreatKNestN
set_option linter.unusedVariables false
set_option linter.unusedSimpArgs false
namespace Go.Proofs.YtpncbbcmoiiipaaGreat.fnExactNestingOfDone
open Go Go.ChangeShapes Go.WideShapes Go.ChangeAt Go.RowKit Go.Joins Go.Deep
set_option maxRecDepth 100000 in
theorem lifted (os:Os) (started:os.Started) (H:Type) (enc:TypeId×Value→H) :
  ReturnsInHanded {} Tryz.checked os 6 .any (Rows.fnExactNestingOfSpec.pre6 enc Tryz.prog Tryz.f6 Rows.fnExactNestingOfRow.domain false) (Rows.fnExactNestingOfSpec.post enc Tryz.prog Tryz.f6 false true false false) :=by
 refine returnsInHanded_of_change (C:=Tryz.checked) jh2 started Kr Tryz.func6
  (ChangeSpec.witness6 (enc:=enc) (C:=Tryz.checked) false ⟨#[],#[.agg #[.slice none 0 0]],[]⟩ 8 Kr Kr Kr Kr) ?_
 intro W base args ds gs before hval0 hW hcnd _
 have hval:∀(j:Nat) t v,Tryz.f6.params[j]? =some t→args[j]? =some v→Value.okWide Tryz.prog W .any base t v:=hval0
 have hW':=hW
 obtain ⟨p,q,hA0,hV,rfl,hfz,hnd⟩ :=hW
 have hA:DataW.TrodAll enc Tryz.prog W 0 (fun _=>true) true Tryz.f6.params.toList args.toList ds p:=hA0
 rw [Tryz.params6] at hA hval
 obtain ⟨v0,vs0,d0,ds0,p0,q0,hargs,rfl,rfl,h0,r0⟩ :=trodAll_cons hA
 obtain ⟨rfl,rfl,rfl⟩ :=trodAll_nil r0
 obtain rfl:args= #[v0] :=by cases args;simp_all
 obtain ⟨rfl,rfl⟩ :=trodVars_none hV
 have k0:=h0
 have lt0:∀x∈p0,x.block<W.heap.size:=by obtain ⟨m,hm⟩ :=k0;exact DataW.trod_lt m _ _ _ hm
 obtain ⟨A0,n0,c0,rs0,rfl,hp0,hm0⟩ :=jlg (hval 0 _ v0 rfl rfl) h0
 clear hA0 hval0
 refine(jm8 A0 n0 c0 rs0 W hp0 hm0).mono fun e W' ⟨he,bel⟩ => ?_
 subst he
 exact⟨_,rfl,_,_,_,[],_,[],hW',trodAll_mk1 (shut_bool Tryz.underlying4 _),(trodAll_cons_mk (Below.trod EJ Kr (of_decide_eq_true Kr) k0 bel lt0) trodAll_mk0),rfl,Below.frame bel _,fun h=>by cases h⟩
theorem fact0:Rows.fnExactNestingOfRow.wf (OpenSpec.ofChange Rows.fnExactNestingOfSpec) =true:=by kernel_rfl
theorem fact3:Tryz.f6.params.all (Tryz.checked.prog.readableRec ·) =true:=by kernel_rfl
theorem fact4:namedTie Tryz.checked.prog Rows.fnExactNestingOfRow.named Rows.fnExactNestingOfSpec.vars=true:=by kernel_rfl
theorem fact5: (Rows.fnExactNestingOfRow.stops== []) =true:=by kernel_rfl
theorem fact7: (Rows.fnExactNestingOfRow.knobs== []) =true:=by kernel_rfl
theorem fact9: (Rows.fnExactNestingOfRow.inPlace==Tryz.checked.prog.inPlace 6) =true:=by kernel_rfl
theorem fact10: (Rows.fnExactNestingOfRow.unfollowed==Tryz.checked.prog.unfollowed 6) =true:=by kernel_rfl
theorem fact11: (Rows.fnExactNestingOfRow.recurses==Tryz.checked.prog.recurses 6) =true:=by kernel_rfl
theorem fact12: (Rows.fnExactNestingOfRow.named==Tryz.checked.prog.varsNamed 6) =true:=by kernel_rfl
theorem fact13: (Rows.fnExactNestingOfRow.maps== (Tryz.f6.params.toList++Rows.fnExactNestingOfSpec.plain.varTypes Tryz.checked.prog).any (Tryz.checked.prog.mapsRec ·)) =true:=by kernel_rfl
theorem fact14: (Rows.fnExactNestingOfRow.ifaces== (Tryz.f6.params.toList++Rows.fnExactNestingOfSpec.plain.varTypes Tryz.checked.prog).any (Tryz.checked.prog.ifacesRec ·)) =true:=by kernel_rfl
theorem fact15: (Rows.fnExactNestingOfRow.mapsOut==Tryz.checked.prog.mapsAmong Tryz.f6.resultTypes.toList) =true:=by kernel_rfl
theorem fact16: (Rows.fnExactNestingOfRow.loops== (Tryz.f6.params.toList++Rows.fnExactNestingOfSpec.plain.varTypes Tryz.checked.prog).any (Tryz.checked.prog.loopsFrom ·)) =true:=by kernel_rfl
theorem fact17: (Rows.fnExactNestingOfRow.wideKeys== (Tryz.f6.params.toList++Rows.fnExactNestingOfSpec.plain.varTypes Tryz.checked.prog++Tryz.f6.resultTypes.toList).any (Tryz.checked.prog.wideKeysFrom ·)) =true:=by kernel_rfl
theorem fact18:Rows.fnExactNestingOfSpec.vars.all (Tryz.checked.prog.varReadable ·) =true:=by kernel_rfl
theorem fact19:Tryz.f6.resultTypes.all (fun t=>Tryz.checked.prog.readableRec t&&decide (t<Tryz.checked.prog.types.size)) =true:=by kernel_rfl
theorem fact20: (Rows.fnExactNestingOfRow.ifacesOut==Tryz.f6.resultTypes.toList.any (Tryz.checked.prog.ifacesRec ·)) =true:=by kernel_rfl
theorem fact21: (Rows.fnExactNestingOfRow.loopsOut==Tryz.f6.resultTypes.toList.any (Tryz.checked.prog.loopsFrom ·)) =true:=by kernel_rfl
theorem fact23:Rows.fnExactNestingOfRow.shortTexts.isNone=true:=by kernel_rfl
theorem fact29: (Rows.fnExactNestingOfRow.pinned==Rows.fnExactNestingOfRow.pinnedBy) =true:=by kernel_rfl
theorem fact30: (Rows.fnExactNestingOfRow.veiled== (Tryz.f6.params.toList++Rows.fnExactNestingOfSpec.plain.varTypes Tryz.checked.prog++Tryz.f6.resultTypes.toList).any (Tryz.checked.prog.veiledRec ·)) =true:=by kernel_rfl
theorem fact31:Rows.fnExactNestingOfRow.veiledFits Tryz.checked.prog Tryz.f6.params.toList (Tryz.f6.params.toList++Rows.fnExactNestingOfSpec.plain.varTypes Tryz.checked.prog++Tryz.f6.resultTypes.toList) =true:=by kernel_rfl
theorem closed_:joinedFacts Tryz.checked.prog 6 Tryz.f6 Rows.fnExactNestingOfSpec Rows.fnExactNestingOfRow=true:=by
 unfold joinedFacts
 exact w6 (w6 (w6 (w6 (w6 (w6 (w6 (w6 (w6 (w6 (w6 (w6 (w6 (w6 (w6 (w6 (w6 (w6 (w6 (w6 (w6 (w6 (w6 (w6 (w6 (w6 (w6 (w6 (w6 (w6 (w6 (fact0) jhE) jhF) fact3) fact4) fact5) jhG) fact7) jhH) fact9) fact10) fact11) fact12) fact13) fact14) fact15) fact16) fact17) fact18) fact19) fact20) fact21) jgR) fact23) jgS) jgT) jgU) jgV) Kr) fact29) fact30) fact31
theorem proved:Rows.FnExactNestingOfSaid:=
 OpenClaim.holds_of_wide 6 Tryz.f6 rfl rfl rfl rfl rfl rfl rfl ⟨rfl,rfl,rfl,rfl,rfl⟩ rfl rfl rfl rfl rfl Kr Tryz.func6 closed_
  (of_decide_eq_true Kr) (by unfold Func.isWrapper;first | (rw [if_pos (by decide+kernel)];kernel_rfl) | (rw [if_neg (by decide+kernel)];exact⟨rfl,rfl⟩))
  (fun os started H enc _=>lifted os started H enc)
#print axioms proved
end Go.Proofs.YtpncbbcmoiiipaaGreat.fnExactNestingOfDone
