/- The law FnOverlap returns true for every input; it changes nothing that was there. No condition. -/
import Derived.Test.YtpncbbcmoiiipaaGreatMFacts
import Derived.Test.YtpncbbcmoiiipaaGreatRows
import Derived.Test.YtpncbbcmoiiipaaGreatMNums
import Derived.Test.YtpncbbcmoiiipaaGreatMDrw2
set_option linter.unusedVariables false
set_option linter.unusedSimpArgs false
namespace Go.Proofs.YtpncbbcmoiiipaaGreat.fnOverlapDone
open Go Go.ChangeShapes Go.WideShapes Go.ChangeAt Go.RowKit Go.Joins Go.Deep
set_option maxRecDepth 100000 in
theorem lifted (os:Os) (started:os.Started) (H:Type) (enc:TypeId×Value→H) :
  ReturnsInHanded {} Tryz.checked os 8 .any (Rows.fnOverlapSpec.pre6 enc Tryz.prog Tryz.f8 Rows.fnOverlapRow.domain false) (Rows.fnOverlapSpec.post enc Tryz.prog Tryz.f8 false true false false) :=by
 refine returnsInHanded_of_change (C:=Tryz.checked) jh2 started Kr Tryz.func8
  (ChangeSpec.witness6 (enc:=enc) (C:=Tryz.checked) false ⟨#[],#[.slice none 0 0],[]⟩ 8 Kr Kr Kr Kr) ?_
 intro W base args ds gs before hval0 hW hcnd _
 have hval:∀(j:Nat) t v,Tryz.f8.params[j]? =some t→args[j]? =some v→Value.okWide Tryz.prog W .any base t v:=hval0
 have hW':=hW
 obtain ⟨p,q,hA0,hV,rfl,hfz,hnd⟩ :=hW
 have hA:DataW.TrodAll enc Tryz.prog W 0 (fun _=>true) true Tryz.f8.params.toList args.toList ds p:=hA0
 rw [Tryz.params8] at hA hval
 obtain ⟨v0,vs0,d0,ds0,p0,q0,hargs,rfl,rfl,h0,r0⟩ :=trodAll_cons hA
 obtain ⟨rfl,rfl,rfl⟩ :=trodAll_nil r0
 obtain rfl:args= #[v0] :=by cases args;simp_all
 obtain ⟨rfl,rfl⟩ :=trodVars_none hV
 have k0:=h0
 have lt0:∀x∈p0,x.block<W.heap.size:=by obtain ⟨m,hm⟩ :=k0;exact DataW.trod_lt m _ _ _ hm
 obtain ⟨A0,n0,c0,zs0,rfl,hp0,hm0⟩ :=NF (hval 0 _ v0 rfl rfl) h0
 clear hA0 hval0
 refine(Ss A0 n0 c0 zs0 W hp0 hm0).mono fun e W' ⟨he,bel⟩ => ?_
 subst he
 exact⟨_,rfl,_,_,_,[],_,[],hW',trodAll_mk1 (shut_bool Tryz.underlying4 _),(trodAll_cons_mk (Below.trod EJ Kr (of_decide_eq_true Kr) k0 bel lt0) trodAll_mk0),rfl,Below.frame bel _,fun h=>by cases h⟩
theorem fact0:Rows.fnOverlapRow.wf (OpenSpec.ofChange Rows.fnOverlapSpec) =true:=by kernel_rfl
theorem fact3:Tryz.f8.params.all (Tryz.checked.prog.readableRec ·) =true:=by kernel_rfl
theorem fact4:namedTie Tryz.checked.prog Rows.fnOverlapRow.named Rows.fnOverlapSpec.vars=true:=by kernel_rfl
theorem fact5: (Rows.fnOverlapRow.stops== []) =true:=by kernel_rfl
theorem fact7: (Rows.fnOverlapRow.knobs== []) =true:=by kernel_rfl
theorem fact9: (Rows.fnOverlapRow.inPlace==Tryz.checked.prog.inPlace 8) =true:=by kernel_rfl
theorem fact10: (Rows.fnOverlapRow.unfollowed==Tryz.checked.prog.unfollowed 8) =true:=by kernel_rfl
theorem fact11: (Rows.fnOverlapRow.recurses==Tryz.checked.prog.recurses 8) =true:=by kernel_rfl
theorem fact12: (Rows.fnOverlapRow.named==Tryz.checked.prog.varsNamed 8) =true:=by kernel_rfl
theorem fact13: (Rows.fnOverlapRow.maps== (Tryz.f8.params.toList++Rows.fnOverlapSpec.plain.varTypes Tryz.checked.prog).any (Tryz.checked.prog.mapsRec ·)) =true:=by kernel_rfl
theorem fact14: (Rows.fnOverlapRow.ifaces== (Tryz.f8.params.toList++Rows.fnOverlapSpec.plain.varTypes Tryz.checked.prog).any (Tryz.checked.prog.ifacesRec ·)) =true:=by kernel_rfl
theorem fact15: (Rows.fnOverlapRow.mapsOut==Tryz.checked.prog.mapsAmong Tryz.f8.resultTypes.toList) =true:=by kernel_rfl
theorem fact16: (Rows.fnOverlapRow.loops== (Tryz.f8.params.toList++Rows.fnOverlapSpec.plain.varTypes Tryz.checked.prog).any (Tryz.checked.prog.loopsFrom ·)) =true:=by kernel_rfl
theorem fact17: (Rows.fnOverlapRow.wideKeys== (Tryz.f8.params.toList++Rows.fnOverlapSpec.plain.varTypes Tryz.checked.prog++Tryz.f8.resultTypes.toList).any (Tryz.checked.prog.wideKeysFrom ·)) =true:=by kernel_rfl
theorem fact18:Rows.fnOverlapSpec.vars.all (Tryz.checked.prog.varReadable ·) =true:=by kernel_rfl
theorem fact19:Tryz.f8.resultTypes.all (fun t=>Tryz.checked.prog.readableRec t&&decide (t<Tryz.checked.prog.types.size)) =true:=by kernel_rfl
theorem fact20: (Rows.fnOverlapRow.ifacesOut==Tryz.f8.resultTypes.toList.any (Tryz.checked.prog.ifacesRec ·)) =true:=by kernel_rfl
theorem fact21: (Rows.fnOverlapRow.loopsOut==Tryz.f8.resultTypes.toList.any (Tryz.checked.prog.loopsFrom ·)) =true:=by kernel_rfl
theorem fact23:Rows.fnOverlapRow.shortTexts.isNone=true:=by kernel_rfl
theorem fact29: (Rows.fnOverlapRow.pinned==Rows.fnOverlapRow.pinnedBy) =true:=by kernel_rfl
theorem fact30: (Rows.fnOverlapRow.veiled== (Tryz.f8.params.toList++Rows.fnOverlapSpec.plain.varTypes Tryz.checked.prog++Tryz.f8.resultTypes.toList).any (Tryz.checked.prog.veiledRec ·)) =true:=by kernel_rfl
theorem fact31:Rows.fnOverlapRow.veiledFits Tryz.checked.prog Tryz.f8.params.toList (Tryz.f8.params.toList++Rows.fnOverlapSpec.plain.varTypes Tryz.checked.prog++Tryz.f8.resultTypes.toList) =true:=by kernel_rfl
theorem closed_:joinedFacts Tryz.checked.prog 8 Tryz.f8 Rows.fnOverlapSpec Rows.fnOverlapRow=true:=by
 unfold joinedFacts
 exact w6 (w6 (w6 (w6 (w6 (w6 (w6 (w6 (w6 (w6 (w6 (w6 (w6 (w6 (w6 (w6 (w6 (w6 (w6 (w6 (w6 (w6 (w6 (w6 (w6 (w6 (w6 (w6 (w6 (w6 (w6 (fact0) jhE) jhF) fact3) fact4) fact5) jhG) fact7) jhH) fact9) fact10) fact11) fact12) fact13) fact14) fact15) fact16) fact17) fact18) fact19) fact20) fact21) jgR) fact23) jgS) jgT) jgU) jgV) Kr) fact29) fact30) fact31
theorem proved:Rows.FnOverlapSaid:=
 OpenClaim.holds_of_wide 8 Tryz.f8 rfl rfl rfl rfl rfl rfl rfl ⟨rfl,rfl,rfl,rfl,rfl⟩ rfl rfl rfl rfl rfl Kr Tryz.func8 closed_
  (of_decide_eq_true Kr) (by unfold Func.isWrapper;first | (rw [if_pos (by decide+kernel)];kernel_rfl) | (rw [if_neg (by decide+kernel)];exact⟨rfl,rfl⟩))
  (fun os started H enc _=>lifted os started H enc)
#print axioms proved
end Go.Proofs.YtpncbbcmoiiipaaGreat.fnOverlapDone
