/- The law FnSnap returns true for every input: a snapped region keeps what the law asks of it; it changes nothing that was there. No condition. -/
import Derived.Test.YtpncbbcmoiiipaaMFacts
import Derived.Test.YtpncbbcmoiiipaaRows
import Derived.Test.YtpncbbcmoiiipaaMOpen3
import Derived.Test.YtpncbbcmoiiipaaMSnapT
set_option linter.unusedVariables false
set_option linter.unusedSimpArgs false
namespace Go.Proofs.Ytpncbbcmoiiipaa.fnSnapDone
open Go Go.ChangeShapes Go.WideShapes Go.ChangeAt Go.RowKit Go.Joins Go.Deep
set_option maxRecDepth 100000 in
theorem lifted (os:Os) (started:os.Started) (H:Type) (enc:TypeId×Value→H) :
  ReturnsInHanded {} Try.checked os 3 .any (Rows.fnSnapSpec.pre6 enc Try.prog Try.f3 Rows.fnSnapRow.domain false) (Rows.fnSnapSpec.post enc Try.prog Try.f3 false true false false) :=by
 refine returnsInHanded_of_change (C:=Try.checked) BO started Kr Try.func3
  (ChangeSpec.witness6 (enc:=enc) (C:=Try.checked) false ⟨#[],#[.slice none 0 0],[]⟩ 8 Kr Kr Kr Kr) ?_
 intro W base args ds gs before hval0 hW hcnd _
 have hval:∀(j:Nat) t v,Try.f3.params[j]? =some t→args[j]? =some v→Value.okWide Try.prog W .any base t v:=hval0
 have hW':=hW
 obtain ⟨p,q,hA0,hV,rfl,hfz,hnd⟩ :=hW
 have hA:DataW.TrodAll enc Try.prog W 0 (fun _=>true) true Try.f3.params.toList args.toList ds p:=hA0
 rw [Try.params3] at hA hval
 obtain ⟨v0,vs0,d0,ds0,p0,q0,hargs,rfl,rfl,h0,r0⟩ :=trodAll_cons hA
 obtain ⟨rfl,rfl,rfl⟩ :=trodAll_nil r0
 obtain rfl:args= #[v0] :=by cases args;simp_all
 obtain ⟨rfl,rfl⟩ :=trodVars_none hV
 have k0:=h0
 have lt0:∀x∈p0,x.block<W.heap.size:=by obtain ⟨m,hm⟩ :=k0;exact DataW.trod_lt m _ _ _ hm
 obtain ⟨A0,n0,c0,zs0,rfl,hp0,hm0⟩ :=xD (hval 0 _ v0 rfl rfl) h0
 clear hA0 hval0
 refine(HV A0 n0 c0 zs0 W hp0 hm0).mono fun e W' ⟨he,bel⟩ => ?_
 subst he
 exact⟨_,rfl,_,_,_,[],_,[],hW',trodAll_mk1 (shut_bool Try.underlying4 _),(trodAll_cons_mk (Below.trod GA Kr (of_decide_eq_true Kr) k0 bel lt0) trodAll_mk0),rfl,Below.frame bel _,fun h=>by cases h⟩
theorem fact0:Rows.fnSnapRow.wf (OpenSpec.ofChange Rows.fnSnapSpec) =true:=by kernel_rfl
theorem fact3:Try.f3.params.all (Try.checked.prog.readableRec ·) =true:=by kernel_rfl
theorem fact4:namedTie Try.checked.prog Rows.fnSnapRow.named Rows.fnSnapSpec.vars=true:=by kernel_rfl
theorem fact5: (Rows.fnSnapRow.stops== []) =true:=by kernel_rfl
theorem fact7: (Rows.fnSnapRow.knobs== []) =true:=by kernel_rfl
theorem fact9: (Rows.fnSnapRow.inPlace==Try.checked.prog.inPlace 3) =true:=by kernel_rfl
theorem fact10: (Rows.fnSnapRow.unfollowed==Try.checked.prog.unfollowed 3) =true:=by kernel_rfl
theorem fact11: (Rows.fnSnapRow.recurses==Try.checked.prog.recurses 3) =true:=by kernel_rfl
theorem fact12: (Rows.fnSnapRow.named==Try.checked.prog.varsNamed 3) =true:=by kernel_rfl
theorem fact13: (Rows.fnSnapRow.maps== (Try.f3.params.toList++Rows.fnSnapSpec.plain.varTypes Try.checked.prog).any (Try.checked.prog.mapsRec ·)) =true:=by kernel_rfl
theorem fact14: (Rows.fnSnapRow.ifaces== (Try.f3.params.toList++Rows.fnSnapSpec.plain.varTypes Try.checked.prog).any (Try.checked.prog.ifacesRec ·)) =true:=by kernel_rfl
theorem fact15: (Rows.fnSnapRow.mapsOut==Try.checked.prog.mapsAmong Try.f3.resultTypes.toList) =true:=by kernel_rfl
theorem fact16: (Rows.fnSnapRow.loops== (Try.f3.params.toList++Rows.fnSnapSpec.plain.varTypes Try.checked.prog).any (Try.checked.prog.loopsFrom ·)) =true:=by kernel_rfl
theorem fact17: (Rows.fnSnapRow.wideKeys== (Try.f3.params.toList++Rows.fnSnapSpec.plain.varTypes Try.checked.prog++Try.f3.resultTypes.toList).any (Try.checked.prog.wideKeysFrom ·)) =true:=by kernel_rfl
theorem fact18:Rows.fnSnapSpec.vars.all (Try.checked.prog.varReadable ·) =true:=by kernel_rfl
theorem fact19:Try.f3.resultTypes.all (fun t=>Try.checked.prog.readableRec t&&decide (t<Try.checked.prog.types.size)) =true:=by kernel_rfl
theorem fact20: (Rows.fnSnapRow.ifacesOut==Try.f3.resultTypes.toList.any (Try.checked.prog.ifacesRec ·)) =true:=by kernel_rfl
theorem fact21: (Rows.fnSnapRow.loopsOut==Try.f3.resultTypes.toList.any (Try.checked.prog.loopsFrom ·)) =true:=by kernel_rfl
theorem fact23:Rows.fnSnapRow.shortTexts.isNone=true:=by kernel_rfl
theorem fact29: (Rows.fnSnapRow.pinned==Rows.fnSnapRow.pinnedBy) =true:=by kernel_rfl
theorem fact30: (Rows.fnSnapRow.veiled== (Try.f3.params.toList++Rows.fnSnapSpec.plain.varTypes Try.checked.prog++Try.f3.resultTypes.toList).any (Try.checked.prog.veiledRec ·)) =true:=by kernel_rfl
theorem fact31:Rows.fnSnapRow.veiledFits Try.checked.prog Try.f3.params.toList (Try.f3.params.toList++Rows.fnSnapSpec.plain.varTypes Try.checked.prog++Try.f3.resultTypes.toList) =true:=by kernel_rfl
theorem closed_:joinedFacts Try.checked.prog 3 Try.f3 Rows.fnSnapSpec Rows.fnSnapRow=true:=by
 unfold joinedFacts
 exact kD (kD (kD (kD (kD (kD (kD (kD (kD (kD (kD (kD (kD (kD (kD (kD (kD (kD (kD (kD (kD (kD (kD (kD (kD (kD (kD (kD (kD (kD (kD (fact0) Bi) Bj) fact3) fact4) fact5) Bl) fact7) Bm) fact9) fact10) fact11) fact12) fact13) fact14) fact15) fact16) fact17) fact18) fact19) fact20) fact21) OA) fact23) OB) OC) OD) OE) Kr) fact29) fact30) fact31
theorem proved:Rows.FnSnapSaid:=
 OpenClaim.holds_of_wide 3 Try.f3 rfl rfl rfl rfl rfl rfl rfl ⟨rfl,rfl,rfl,rfl,rfl⟩ rfl rfl rfl rfl rfl Kr Try.func3 closed_
  (of_decide_eq_true Kr) (by unfold Func.isWrapper;first | (rw [if_pos (by decide+kernel)];kernel_rfl) | (rw [if_neg (by decide+kernel)];exact⟨rfl,rfl⟩))
  (fun os started H enc _=>lifted os started H enc)
#print axioms proved
end Go.Proofs.Ytpncbbcmoiiipaa.fnSnapDone
