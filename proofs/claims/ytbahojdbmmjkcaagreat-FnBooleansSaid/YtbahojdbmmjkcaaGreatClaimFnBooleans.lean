/- The law FnBooleans returns true for every input; it changes nothing that was there. No condition. -/
import Derived.Test.YtbahojdbmmjkcaaGreatMFacts
import Derived.Test.YtbahojdbmmjkcaaGreatRows
import Derived.Test.YtbahojdbmmjkcaaGreatMNums
import Derived.Test.YtbahojdbmmjkcaaGreatMBoLaw
set_option linter.unusedVariables false
set_option linter.unusedSimpArgs false
namespace Go.Proofs.YtbahojdbmmjkcaaGreat.fnBooleansDone
open Go Go.ChangeShapes Go.WideShapes Go.ChangeAt Go.RowKit Go.Joins Go.Deep
set_option maxRecDepth 100000 in
theorem lifted (os:Os) (started:os.Started) (H:Type) (enc:TypeId×Value→H) :
  ReturnsInHanded {} Tryz.checked os 3 .any (Rows.fnBooleansSpec.pre6 enc Tryz.prog Tryz.f3 Rows.fnBooleansRow.domain false) (Rows.fnBooleansSpec.post enc Tryz.prog Tryz.f3 false true false false) :=by
 refine returnsInHanded_of_change (C:=Tryz.checked) ji7 started Kr Tryz.func3
  (ChangeSpec.witness6 (enc:=enc) (C:=Tryz.checked) false ⟨#[],#[.slice none 0 0, .slice none 0 0],[]⟩ 8 Kr Kr Kr Kr) ?_
 intro W base args ds gs before hval0 hW hcnd _
 have hval:∀(j:Nat) t v,Tryz.f3.params[j]? =some t→args[j]? =some v→Value.okWide Tryz.prog W .any base t v:=hval0
 have hW':=hW
 obtain ⟨p,q,hA0,hV,rfl,hfz,hnd⟩ :=hW
 have hA:DataW.TrodAll enc Tryz.prog W 0 (fun _=>true) true Tryz.f3.params.toList args.toList ds p:=hA0
 rw [Tryz.params3] at hA hval
 obtain ⟨v0,vs0,d0,ds0,p0,q0,hargs,rfl,rfl,h0,r0⟩ :=trodAll_cons hA
 obtain ⟨v1,vs1,d1,ds1,p1,q1,rfl,rfl,rfl,h1,r1⟩ :=trodAll_cons r0
 obtain ⟨rfl,rfl,rfl⟩ :=trodAll_nil r1
 obtain rfl:args= #[v0,v1] :=by cases args;simp_all
 obtain ⟨rfl,rfl⟩ :=trodVars_none hV
 have k0:=h0
 have k1:=h1
 have lt0:∀x∈p0,x.block<W.heap.size:=by obtain ⟨m,hm⟩ :=k0;exact DataW.trod_lt m _ _ _ hm
 have lt1:∀x∈p1,x.block<W.heap.size:=by obtain ⟨m,hm⟩ :=k1;exact DataW.trod_lt m _ _ _ hm
 obtain ⟨A0,n0,c0,zs0,rfl,hp0,hm0⟩ :=Bm (hval 0 _ v0 rfl rfl) h0
 obtain ⟨A1,n1,c1,zs1,rfl,hp1,hm1⟩ :=Bm (hval 1 _ v1 rfl rfl) h1
 clear hA0 hval0
 refine(IE A0 n0 c0 zs0 A1 n1 c1 zs1 W hp0 hm0 hp1 hm1).mono fun e W' ⟨he,bel⟩ => ?_
 subst he
 exact⟨_,rfl,_,_,_,[],_,[],hW',trodAll_mk1 (shut_bool Tryz.underlying4 _),(trodAll_cons_mk (Below.trod Fl Kr (of_decide_eq_true Kr) k0 bel lt0) (trodAll_cons_mk (Below.trod Fl Kr (of_decide_eq_true Kr) k1 bel lt1) trodAll_mk0)),rfl,Below.frame bel _,fun h=>by cases h⟩
theorem fact0:Rows.fnBooleansRow.wf (OpenSpec.ofChange Rows.fnBooleansSpec) =true:=by kernel_rfl
theorem fact3:Tryz.f3.params.all (Tryz.checked.prog.readableRec ·) =true:=by kernel_rfl
theorem fact4:namedTie Tryz.checked.prog Rows.fnBooleansRow.named Rows.fnBooleansSpec.vars=true:=by kernel_rfl
theorem fact5: (Rows.fnBooleansRow.stops== []) =true:=by kernel_rfl
theorem fact7: (Rows.fnBooleansRow.knobs== []) =true:=by kernel_rfl
theorem fact9: (Rows.fnBooleansRow.inPlace==Tryz.checked.prog.inPlace 3) =true:=by kernel_rfl
theorem fact10: (Rows.fnBooleansRow.unfollowed==Tryz.checked.prog.unfollowed 3) =true:=by kernel_rfl
theorem fact11: (Rows.fnBooleansRow.recurses==Tryz.checked.prog.recurses 3) =true:=by kernel_rfl
theorem fact12: (Rows.fnBooleansRow.named==Tryz.checked.prog.varsNamed 3) =true:=by kernel_rfl
theorem fact13: (Rows.fnBooleansRow.maps== (Tryz.f3.params.toList++Rows.fnBooleansSpec.plain.varTypes Tryz.checked.prog).any (Tryz.checked.prog.mapsRec ·)) =true:=by kernel_rfl
theorem fact14: (Rows.fnBooleansRow.ifaces== (Tryz.f3.params.toList++Rows.fnBooleansSpec.plain.varTypes Tryz.checked.prog).any (Tryz.checked.prog.ifacesRec ·)) =true:=by kernel_rfl
theorem fact15: (Rows.fnBooleansRow.mapsOut==Tryz.checked.prog.mapsAmong Tryz.f3.resultTypes.toList) =true:=by kernel_rfl
theorem fact16: (Rows.fnBooleansRow.loops== (Tryz.f3.params.toList++Rows.fnBooleansSpec.plain.varTypes Tryz.checked.prog).any (Tryz.checked.prog.loopsFrom ·)) =true:=by kernel_rfl
theorem fact17: (Rows.fnBooleansRow.wideKeys== (Tryz.f3.params.toList++Rows.fnBooleansSpec.plain.varTypes Tryz.checked.prog++Tryz.f3.resultTypes.toList).any (Tryz.checked.prog.wideKeysFrom ·)) =true:=by kernel_rfl
theorem fact18:Rows.fnBooleansSpec.vars.all (Tryz.checked.prog.varReadable ·) =true:=by kernel_rfl
theorem fact19:Tryz.f3.resultTypes.all (fun t=>Tryz.checked.prog.readableRec t&&decide (t<Tryz.checked.prog.types.size)) =true:=by kernel_rfl
theorem fact20: (Rows.fnBooleansRow.ifacesOut==Tryz.f3.resultTypes.toList.any (Tryz.checked.prog.ifacesRec ·)) =true:=by kernel_rfl
theorem fact21: (Rows.fnBooleansRow.loopsOut==Tryz.f3.resultTypes.toList.any (Tryz.checked.prog.loopsFrom ·)) =true:=by kernel_rfl
theorem fact23:Rows.fnBooleansRow.shortTexts.isNone=true:=by kernel_rfl
theorem fact29: (Rows.fnBooleansRow.pinned==Rows.fnBooleansRow.pinnedBy) =true:=by kernel_rfl
theorem fact30: (Rows.fnBooleansRow.veiled== (Tryz.f3.params.toList++Rows.fnBooleansSpec.plain.varTypes Tryz.checked.prog++Tryz.f3.resultTypes.toList).any (Tryz.checked.prog.veiledRec ·)) =true:=by kernel_rfl
theorem fact31:Rows.fnBooleansRow.veiledFits Tryz.checked.prog Tryz.f3.params.toList (Tryz.f3.params.toList++Rows.fnBooleansSpec.plain.varTypes Tryz.checked.prog++Tryz.f3.resultTypes.toList) =true:=by kernel_rfl
theorem closed_:joinedFacts Tryz.checked.prog 3 Tryz.f3 Rows.fnBooleansSpec Rows.fnBooleansRow=true:=by
 unfold joinedFacts
 exact Wt (Wt (Wt (Wt (Wt (Wt (Wt (Wt (Wt (Wt (Wt (Wt (Wt (Wt (Wt (Wt (Wt (Wt (Wt (Wt (Wt (Wt (Wt (Wt (Wt (Wt (Wt (Wt (Wt (Wt (Wt (fact0) jiy) jiz) fact3) fact4) fact5) jiA) fact7) jiB) fact9) fact10) fact11) fact12) fact13) fact14) fact15) fact16) fact17) fact18) fact19) fact20) fact21) jhI) fact23) jhJ) jhK) jhL) jhM) Kr) fact29) fact30) fact31
theorem proved:Rows.FnBooleansSaid:=
 OpenClaim.holds_of_wide 3 Tryz.f3 rfl rfl rfl rfl rfl rfl rfl ⟨rfl,rfl,rfl,rfl,rfl⟩ rfl rfl rfl rfl rfl Kr Tryz.func3 closed_
  (of_decide_eq_true Kr) (by unfold Func.isWrapper;first | (rw [if_pos (by decide+kernel)];kernel_rfl) | (rw [if_neg (by decide+kernel)];exact⟨rfl,rfl⟩))
  (fun os started H enc _=>lifted os started H enc)
#print axioms proved
end Go.Proofs.YtbahojdbmmjkcaaGreat.fnBooleansDone
