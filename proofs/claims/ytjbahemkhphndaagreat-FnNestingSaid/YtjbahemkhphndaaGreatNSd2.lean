import Derived.Test.YtjbahemkhphndaaGreatNSd
set_option linter.unusedVariables false
set_option linter.unusedSimpArgs false
namespace Go.Proofs.YtjbahemkhphndaaGreat
open Go Go.RowKit
variable{W:World}{a:Act}{d f fuel g i:Nat}{listed:Array Bool}{oi:Oper}{ts:Array TypeId}{v:Value}{vs:List Value}{xs:List Operand}{y:Operand}
section
variable{P:Program}{ops:Array Oper}{Q:Exit->Act->World->Prop}{md:Region.Mode}{B B' S:Base}
theorem Settles.weak{o:Oper}(h:Settles P ops S o v a)(hB:∀w,B.holds w->S.holds w):Settles P ops B o v a:=by
 rcases h with⟨h1,h2⟩|h
 .exact .inl ⟨h1,λw hw=>h2 w (hB w hw)⟩
 .exact .inr h
def orB(B B':Base):Base:=⟨λw=>B.holds w\/B'.holds w,λw w' h k=>h.elim (λh=>.inl (B.keep w w' h k)) (λh=>.inr (B'.keep w w' h k))⟩
def Wz(P:Program)(md:Region.Mode)(ops:Array Oper)(Q:Exit->Act->World->Prop)(B B':Base)(g f:Nat):Nat->Array Bool->Act->World->Prop
 |0,listed,a,W=>Region.ready md ops listed=[]/\∀w,Over W w->Q .normal a w
 |fuel+1,listed,a,W=>
  (Region.ready md ops listed=[]->∀w,Over W w->Q .normal a w)/\
  ∀i∈Region.ready md ops listed,∀w,Over W w->(i≠g->wpOp P ops Q i (λa' w'=>B.holds w'/\Wz P md ops Q B B' g f fuel (listed.setIfInBounds i true) a' w') a w)/\
   (i=g->wpOp P ops Q g (λa' w'=>B'.holds w'/\Qv P md ops Q B' f fuel (listed.setIfInBounds g true) a' w') a w)
theorem MU :∀(fuel:Nat) (listed:Array Bool) (a:Act) (W W':World),Over W W'->Wz P md ops Q B B' g f fuel listed a W->Wz P md ops Q B B' g f fuel listed a W'
 |0,_,_,_,_,ho,h=>⟨h.1,λw hw=>h.2 w (ho.trans hw)⟩
 |_+1,_,_,_,_,ho,h=>⟨λh0 w hw=>h.1 h0 w (ho.trans hw),λi hi w hw=>h.2 i hi w (ho.trans hw)⟩
theorem DY{g f:Nat}:∀(fuel:Nat) (listed:Array Bool) (a:Act) (W:World),Wz P md ops Q B B' g f fuel listed a W->∀w,Over W w->wpAny P md ops Q fuel listed a w
 |0,listed,a,W,h,w,hS=>⟨h.1,h.2 w hS⟩
 |fuel+1,listed,a,_,h,w,hS=>⟨λh0=>h.1 h0 w hS,λi hi=>by
   by_cases hig:i=g
   .subst hig;exact wpOp_mono (λa' w' h'=>Zd fuel _ a' w' h'.2 w' (Over.refl _)) ((h.2 i hi w hS).2 rfl)
   .exact wpOp_mono (λa' w' h'=>DY fuel _ a' w' h'.2 w' (Over.refl _)) ((h.2 i hi w hS).1 hig)⟩
theorem SZ(hi:ops[i]? =some oi)(hsel:∀(j:Nat) (o:Oper) cs b,ops[j]? =some o->o.op≠ .select cs b)(hQ:∀c a w,Q (.panic c) (a.put oi.dst v) w->Q (.panic c) a w)(ms:List Nat)(late:Bool)(hne:i≠g)(hnf:i≠f)(hBS:∀w,B.holds w->S.holds w)(hB'S:late=true->∀w,B'.holds w->S.holds w):
  ∀(fuel:Nat) (listed:Array Bool) (a:Act) (W:World),B.holds W->
   (∀j oj,ops[j]? =some oj->j≠i->listed.getD j true=false->(∀e∈oj.after,Region.binds md e=true->e.on≠i)->oi.apart ops oj=true)->
   i∈Region.ready md ops listed->(vY md ops listed i ms (if late then f else g)=true)->Settles P ops S oi v a->
   Wz P md ops Q B B' g f fuel (listed.setIfInBounds i true) (a.put oi.dst v) W->Wz P md ops Q B B' g f (fuel+1) listed a W:=by
 intro fuel
 induction fuel with
 |zero=>
  intro listed a W hBW _ hr hfi hy H;refine⟨λh=>(by rw[h] at hr;cases hr),λj hj w hS=>⟨λ_=>?_,λhjg=>?_⟩⟩
  .by_cases hji:j=i
   .subst hji;exact hy.wpOp hi (hBS _ (B.keep _ _ hBW hS)) λw' hw'=>⟨B.keep _ _ (B.keep _ _ hBW hS) hw',MU _ _ _ _ _ (hS.trans hw') H⟩
   .have:=ready_mono hj hji;rw[H.1] at this;cases this
  .have:=ready_mono hj (λe=>hne (e.symm.trans hjg));rw[H.1] at this;cases this
 |succ fuel ih=>
  intro listed a W hBW hfree hr hfi hy H;have rest:∀j,j∈Region.ready md ops listed->j≠i->∃oj,ops[j]? =some oj/\oi.apart ops oj=true/\(∀k ok,ops[k]? =some ok->k≠i->(listed.setIfInBounds j true).getD k true=false->
     (∀e∈ok.after,Region.binds md e=true->e.on≠i)->oi.apart ops ok=true):=by
   intro j hj hji;obtain⟨hjun,oj,hoj,hall⟩:=mem_ready.1 hj;have hnot:∀e∈oj.after,Region.binds md e=true->e.on≠i:=λe he hb heq=>by
    have h1:=hall e he hb;have h0:=(mem_ready.1 hr).1
    rw[heq] at h1;rcases jmU i listed.size with h'|h'
    .simp[h'] at h0 h1;rw[h0] at h1;cases h1
    .simp[Array.getElem?_eq_none h'] at h1
   refine⟨oj,hoj,hfree j oj hoj hji hjun hnot,λk ok hk hki hun hno=>?_⟩;refine hfree k ok hk hki ?_ hno;by_cases hjk:j=k
   .subst hjk;exact hjun
   .rw[getD_set_ne true hjk] at hun;exact hun
  refine⟨λh=>(by rw[h] at hr;cases hr),λj hj w hS=>⟨λhjg=>?_,λhjg=>?_⟩⟩
  .by_cases hji:j=i
   .subst hji;exact hy.wpOp hi (hBS _ (B.keep _ _ hBW hS)) λw' hw'=>⟨B.keep _ _ (B.keep _ _ hBW hS) hw',MU _ _ _ _ _ (hS.trans hw') H⟩
   .have h1:=(H.2 j (ready_mono hj hji) w hS).1 hjg;obtain⟨oj,hoj,hap,hfree'⟩:=rest j hj hji;have h2:=za hoj hap (λcs b=>hsel i oi cs b hi) (λcs b=>hsel j oj cs b hoj) hQ hy h1
    refine wpOp_mono (λa' w' h3=>⟨h3.2.1,ih (listed.setIfInBounds j true) a' w' h3.2.1 hfree' (ready_mono hr (Ne.symm hji)) (zt hj ms i (mem_ready.1 hr).1 hfi) h3.1 ?_⟩) h2;rw[jm6 _ _ hji];exact h3.2.2
  .by_cases hl:late=true
   .have hji:j≠i:=λe=>hne (e.symm.trans hjg)
    subst hjg;have h1:=(H.2 j (ready_mono hj hji) w hS).2 rfl
    obtain⟨oj,hoj,hap,hfree'⟩:=rest j hj hji;have h2:=za hoj hap (λcs b=>hsel i oi cs b hi) (λcs b=>hsel j oj cs b hoj) hQ hy h1
    rw[hl,if_pos rfl] at hfi;refine wpOp_mono (λa' w' h3=>⟨h3.2.1,?_⟩) h2;refine H7 hi hsel hQ ms hnf fuel (listed.setIfInBounds j true) a' w' h3.2.1 hfree' (ready_mono hr (Ne.symm hji)) (zt hj ms i (mem_ready.1 hr).1 hfi) (h3.1.weak (hB'S hl)) ?_;rw[jm6 _ _ hji];exact h3.2.2
   .rw[if_neg hl] at hfi;exact absurd hj (hjg▸Wg ms i (mem_ready.1 hr).1 hfi)
theorem MV(late:Bool)(hBS:∀w,B.holds w->S.holds w)(hB'S:late=true->∀w,B'.holds w->S.holds w)(hBW:B.holds W)(hi:ops[i]? =some oi)(hs:Region.noSelect ops=true)(hf:Region.free md ops listed i=true)(hr:(Region.ready md ops listed).contains i=true)(hQ:∀c a w,Q (.panic c) (a.put oi.dst v) w->Q (.panic c) a w){ms:List Nat}(hfi:(vY md ops listed i ms (if late then f else g) &&i !=g&&i !=f)=true)(hy:Settles P ops S oi v a)(h:Wz P md ops Q B B' g f fuel (listed.setIfInBounds i true) (a.put oi.dst v) W):Wz P md ops Q B B' g f (fuel+1) listed a W:=by
 rw[jlK,jlK] at hfi;exact SZ hi (Region.noSelect_spec hs) hQ ms late (by simpa using hfi.1.2) (by simpa using hfi.2) hBS hB'S fuel listed a W hBW (Region.free_spec hi hf) (by simpa using hr) hfi.1.1 hy h
theorem EC(hi:ops[g]? =some oi)(hr:Region.ready md ops listed=[g])(hw:Region.wanted oi (yielded ops a.tmps)=true)(h:∀w,Over W w->Oper.wp P oi a w (λa' w'=>B'.holds w'/\Qv P md ops Q B' f fuel (listed.setIfInBounds g true) a' w') Q):Wz P md ops Q B B' g f (fuel+1) listed a W:=by
 refine⟨λh0=>(by rw[h0] at hr;cases hr),λj hj w hS=>?_⟩;rw[hr] at hj;simp only[jlM] at hj;subst hj;refine⟨λhne=>absurd J hne,λ_=>?_⟩;unfold Go.wpOp;simp only[hi,hw,if_true];exact .inl (h w hS)
end
section
variable{P:Program}{n:Nat}{env:List (Nat×Value)}{w0:Bs}{Rs:List Res}{ops:Array Oper}{Q:Exit->Act->World->Prop}{K:Act->World->Prop}{o:Oper}
variable{Rs0 Rs1:List Res}{fuel g f:Nat}{listed:Array Bool}
theorem Ur(g f:Nat)(ks:List Nat)(h:At n env w0 Rs (λa w=>Wz P .any ops Q (yI w0 Rs) (yI w0 (wks ks Rs)) g f fuel listed a w)):At n env w0 Rs (λa w=>wpAny P .any ops Q fuel listed a w):=
 λa w hf hs=>DY _ _ _ _ (h a w hf hs) w (Over.refl _)
theorem qQ(hi:ops[i]? =some o)(hS:Region.noSelect ops=true)(hfr:Region.free .any ops listed i=true)(hrd:(Region.ready .any ops listed).contains i=true)(ms:List Nat)(hfi:(vY .any ops listed i ms g&&i !=g&&i !=f)=true)(hQ:∀c a w,Q (.panic c) (a.put o.dst v) w->Q (.panic c) a w)(hg:o.guard=none)(hd:o.dst=some d)(hn:d<n)(hsub:∀w,St w0 Rs w->St w0 Rs0 w)(hq:Qt P o n env w0 Rs0 v)(h:At n ((d,v)::env) w0 Rs (λa w=>Wz P .any ops Q (yI w0 Rs0) (yI w0 Rs1) g f fuel (listed.setIfInBounds i true) a w)):At n env w0 Rs (λa w=>Wz P .any ops Q (yI w0 Rs0) (yI w0 Rs1) g f (fuel+1) listed a w):=
 λa w hf hs=>MV (S:=yI w0 Rs0) false (λ_ h=>h) (λh=>by cases h) (hsub w hs) hi hS hfr hrd hQ hfi (.inl ⟨by simp[Region.wanted,hg],λw' hs'=>(hq a w' hf hs').gives⟩) (hd▸h _ w (hf.put hn v) hs)
theorem k9(i:Nat)(hi:ops[i]? =some o)(ms:List Nat)(hsub:∀w,St w0 Rs w->St w0 Rs0 w)(hq:Qt P o n env w0 Rs0 v)(h:At n ((d,v)::env) w0 Rs (λa w=>Wz P .any ops Q (yI w0 Rs0) (yI w0 Rs1) g f fuel (listed.setIfInBounds i true) a w))(hg:o.guard=none:=by exact rfl)(hd:o.dst=some d:=by exact rfl)(hn:d<n:=by decide)(hS:Region.noSelect ops=true:=by kernel_rfl)(hfr:Region.free .any ops listed i=true:=by kernel_rfl)(hrd:(Region.ready .any ops listed).contains i=true:=by kernel_rfl)(hfi:(vY .any ops listed i ms g&&i !=g&&i !=f)=true:=by kernel_rfl)(hQ:∀c a w,Q (.panic c) (a.put o.dst v) w->Q (.panic c) a w:=by exact λ_ _ _ h=>h):At n env w0 Rs (λa w=>Wz P .any ops Q (yI w0 Rs0) (yI w0 Rs1) g f (fuel+1) listed a w):=qQ hi hS hfr hrd ms hfi hQ hg hd hn hsub hq h
theorem Vs(hi:ops[i]? =some o)(hS:Region.noSelect ops=true)(hfr:Region.free .any ops listed i=true)(hrd:(Region.ready .any ops listed).contains i=true)(ms:List Nat)(hfi:(vY .any ops listed i ms f&&i !=g&&i !=f)=true)(hQ:∀c a w,Q (.panic c) (a.put o.dst v) w->Q (.panic c) a w)(hg:o.guard=none)(hd:o.dst=some d)(hn:d<n)(hsub:∀w,St w0 Rs w->St w0 Rs0 w)(hq:Qt P o n env w0 Rs0 v)(hq1:Qt P o n env w0 Rs1 v)(h:At n ((d,v)::env) w0 Rs (λa w=>Wz P .any ops Q (yI w0 Rs0) (yI w0 Rs1) g f fuel (listed.setIfInBounds i true) a w)):At n env w0 Rs (λa w=>Wz P .any ops Q (yI w0 Rs0) (yI w0 Rs1) g f (fuel+1) listed a w):=
 λa w hf hs=>MV (S:=orB (yI w0 Rs0) (yI w0 Rs1)) true (λ_ h=>.inl h) (λ_ _ h=>.inr h) (hsub w hs) hi hS hfr hrd hQ hfi (.inl ⟨by simp[Region.wanted,hg],λw' hs'=>hs'.elim (λh=>(hq a w' hf h).gives) (λh=>(hq1 a w' hf h).gives)⟩) (hd▸h _ w (hf.put hn v) hs)
theorem Z1(hi:ops[g]? =some o)(hr:Region.ready .any ops listed=[g])(hg:o.guard=none)(h:At n env w0 Rs (λa w=>o.wp P a w (λa' w'=>St w0 Rs1 w'/\Qv P .any ops Q (yI w0 Rs1) f fuel (listed.setIfInBounds g true) a' w') Q)):At n env w0 Rs (λa w=>Wz P .any ops Q (yI w0 Rs0) (yI w0 Rs1) g f (fuel+1) listed a w):=
 λa w hf hs=>EC hi hr (by simp[Region.wanted,hg]) (λw' hw'=>h a w' hf (hs.over_ hw'))
end
section
variable{P:Program}{n:Nat}{env:List (Nat×Value)}{w0:Bs}{Rs:List Res}{ops:Array Oper}{Q:Exit->Act->World->Prop}{K:Act->World->Prop}{o:Oper}
theorem jcR{f:FuncId}(hfn:FnOk P f)(ho:o.op=.call {callee:=.value y,args:=xs.toArray,argTypes:=ts})(hy:ev env y=some (.func (.func f) #[] #[]))(hx:Fl env xs=some vs){w:World}(hF:Frm n env a):(execOp a.eval o).run P w=.ok (.enter f vs.toArray) w:=by
 have he:xs.map a.eval=vs:=hF.evs hx;unfold execOp;simp only[ho];simp only[resolve,hF.ev hy,Deferred.ofValue];simp[invoke,hfn.run,he]
theorem VO{f:FuncId}(hfn:FnOk P f)(ho:o.op=.call {callee:=.value y,args:=xs.toArray,argTypes:=ts})(hy:ev env y=some (.func (.func f) #[] #[]))(hx:Fl env xs=some vs)(hc:∀w,St w0 Rs w->Calls P f vs.toArray w λe w'=>e=.returned v/\Over w w'):Qt P o n env w0 Rs v:=λa w hF hs=>by
 rw[jcR hfn ho hy hx hF];exact hc w hs
end
end Go.Proofs.YtjbahemkhphndaaGreat
