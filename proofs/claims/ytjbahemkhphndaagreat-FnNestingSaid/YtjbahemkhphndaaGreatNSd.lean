import Derived.Test.YtjbahemkhphndaaGreatNSz
set_option linter.unusedVariables false
set_option linter.unusedSimpArgs false
namespace Go.Proofs.YtjbahemkhphndaaGreat
open Go Go.RowKit
variable{B:Base}{T U d dj f fuel i j m s:Nat}{W w:World}{a:Act}{c:Bool}{cs vs:List Value}{g x y:Operand}{listed:Array Bool}{oi oj:Oper}{ti tj:TypeId}{ts:Array TypeId}{v z:Value}{xs:List Operand}
section
variable{P:Program}{ops:Array Oper}{Q:Exit->Act->World->Prop}{md:Region.Mode}{B:Base}
def Qv(P:Program)(md:Region.Mode)(ops:Array Oper)(Q:Exit->Act->World->Prop)(B:Base)(f:Nat):Nat->Array Bool->Act->World->Prop
 |0,listed,a,W=>Region.ready md ops listed=[]/\∀w,Over W w->Q .normal a w
 |fuel+1,listed,a,W=>
  (Region.ready md ops listed=[]->∀w,Over W w->Q .normal a w)/\
  ∀i∈Region.ready md ops listed,∀w,Over W w->(i≠f->wpOp P ops Q i (λa' w'=>B.holds w'/\Qv P md ops Q B f fuel (listed.setIfInBounds i true) a' w') a w)/\
   (i=f->wpOp P ops Q f (λa' w'=>wpAny P md ops Q fuel (listed.setIfInBounds f true) a' w') a w)
theorem MT :∀(fuel:Nat) (listed:Array Bool) (a:Act) (W W':World),Over W W'->Qv P md ops Q B f fuel listed a W->Qv P md ops Q B f fuel listed a W'
 |0,_,_,_,_,ho,h=>⟨h.1,λw hw=>h.2 w (ho.trans hw)⟩
 |_+1,_,_,_,_,ho,h=>⟨λh0 w hw=>h.1 h0 w (ho.trans hw),λi hi w hw=>h.2 i hi w (ho.trans hw)⟩
theorem ED(hr:Region.ready md ops listed=[])(h:Q .normal a w):∀fuel,wpAny P md ops Q fuel listed a w
 |0=>⟨hr,h⟩
 |_+1=>⟨λ_=>h,by rw[hr];simp⟩
theorem Zd{f:Nat}:∀(fuel:Nat) (listed:Array Bool) (a:Act) (W:World),Qv P md ops Q B f fuel listed a W->∀w,Over W w->wpAny P md ops Q fuel listed a w
 |0,_,_,_,h,w,hS=>⟨h.1,h.2 w hS⟩
 |fuel+1,listed,a,_,h,w,hS=>⟨λh0=>h.1 h0 w hS,λi hi=>by
   by_cases hif:i=f
   .subst hif;exact(h.2 i hi w hS).2 rfl
   .exact wpOp_mono (λa' w' h'=>Zd fuel _ a' w' h'.2 w' (Over.refl _)) ((h.2 i hi w hS).1 hif)⟩
def WX(md:Region.Mode)(ops:Array Oper)(f i:Nat):Bool:=match ops[f]? with|some o=>o.after.any (λe=>Region.binds md e&&e.on==i)|none=>true
theorem O9(h:WX md ops f i=true)(hl:listed.getD i true=false):f∉Region.ready md ops listed:=by
 intro hm;obtain⟨_,o,ho,hall⟩:=mem_ready.1 hm;unfold WX at h;rw[ho] at h;obtain⟨e,he,h2⟩:=Array.any_eq_true'.1 h;rw[jlK] at h2;have h3:e.on=i:=by simpa using h2.2
 have h4:=hall e he h2.1;rw[h3] at h4;rcases jmU i listed.size with h'|h'
 .simp[h'] at h4 hl;rw[hl] at h4;cases h4
 .simp[Array.getElem?_eq_none h'] at h4
def vY(md:Region.Mode)(ops:Array Oper)(listed:Array Bool):Nat->List Nat->Nat->Bool
 |i,[],f=>WX md ops f i
 |i,m::ms,f=>WX md ops m i&& !listed.getD m true&&vY md ops listed m ms f
theorem Wg{f:Nat}{listed:Array Bool}:∀(ms:List Nat) (i:Nat),listed.getD i true=false->vY md ops listed i ms f=true->f∉Region.ready md ops listed
 |[],i,hl,h=>O9 h hl
 |m::ms,i,hl,h=>by
  simp only[vY,jlK,jmo] at h;exact Wg ms m h.1.2 h.2
theorem zt{f j:Nat}{listed:Array Bool}(hj:j∈Region.ready md ops listed):∀(ms:List Nat) (i:Nat),listed.getD i true=false->vY md ops listed i ms f=true->vY md ops (listed.setIfInBounds j true) i ms f=true
 |[],i,hl,h=>h
 |m::ms,i,hl,h=>by
  simp only[vY,jlK,jmo] at h⊢;have hjm:j≠m:=λe=>absurd (e▸hj) (O9 h.1.1 hl)
  exact⟨⟨h.1.1,by rw[getD_set_ne true hjm];exact h.1.2⟩,zt hj ms m h.1.2 h.2⟩
theorem H7(hi:ops[i]? =some oi)(hsel:∀(j:Nat) (o:Oper) cs b,ops[j]? =some o->o.op≠ .select cs b)(hQ:∀c a w,Q (.panic c) (a.put oi.dst v) w->Q (.panic c) a w)(ms:List Nat)(hne:i≠f):
  ∀(fuel:Nat) (listed:Array Bool) (a:Act) (W:World),B.holds W->
   (∀j oj,ops[j]? =some oj->j≠i->listed.getD j true=false->(∀e∈oj.after,Region.binds md e=true->e.on≠i)->oi.apart ops oj=true)->
   i∈Region.ready md ops listed->vY md ops listed i ms f=true->Settles P ops B oi v a->
   Qv P md ops Q B f fuel (listed.setIfInBounds i true) (a.put oi.dst v) W->Qv P md ops Q B f (fuel+1) listed a W:=by
 intro fuel
 induction fuel with
 |zero=>
  intro listed a W hBW _ hr hfi hy H;refine⟨λh=>(by rw[h] at hr;cases hr),λj hj w hS=>⟨λ_=>?_,λhjf=>absurd hj (hjf▸Wg ms i (mem_ready.1 hr).1 hfi)⟩⟩;by_cases hji:j=i
  .subst hji;exact hy.wpOp hi (B.keep _ _ hBW hS) λw' hw'=>⟨B.keep _ _ (B.keep _ _ hBW hS) hw',MT _ _ _ _ _ (hS.trans hw') H⟩
  .have:=ready_mono hj hji;rw[H.1] at this;cases this
 |succ fuel ih=>
  intro listed a W hBW hfree hr hfi hy H;refine⟨λh=>(by rw[h] at hr;cases hr),λj hj w hS=>⟨λhjf=>?_,λhjf=>absurd hj (hjf▸Wg ms i (mem_ready.1 hr).1 hfi)⟩⟩;by_cases hji:j=i
  .subst hji;exact hy.wpOp hi (B.keep _ _ hBW hS) λw' hw'=>⟨B.keep _ _ (B.keep _ _ hBW hS) hw',MT _ _ _ _ _ (hS.trans hw') H⟩
  .have h1:=(H.2 j (ready_mono hj hji) w hS).1 hjf;obtain⟨hjun,oj,hoj,hall⟩:=mem_ready.1 hj;have hnot:∀e∈oj.after,Region.binds md e=true->e.on≠i:=λe he hb heq=>by
    have h1:=hall e he hb;have h0:=(mem_ready.1 hr).1
    rw[heq] at h1;rcases jmU i listed.size with h'|h'
    .simp[h'] at h0 h1;rw[h0] at h1;cases h1
    .simp[Array.getElem?_eq_none h'] at h1
   have h2:=za hoj (hfree j oj hoj hji hjun hnot) (λcs b=>hsel i oi cs b hi) (λcs b=>hsel j oj cs b hoj) hQ hy h1;have hfree':∀k ok,ops[k]? =some ok->k≠i->(listed.setIfInBounds j true).getD k true=false->
     (∀e∈ok.after,Region.binds md e=true->e.on≠i)->oi.apart ops ok=true:=λk ok hk hki hun hno=>by
    refine hfree k ok hk hki ?_ hno;by_cases hjk:j=k
    .subst hjk;exact hjun
    .rw[getD_set_ne true hjk] at hun;exact hun
   refine wpOp_mono (λa' w' h3=>⟨h3.2.1,ih (listed.setIfInBounds j true) a' w' h3.2.1 hfree' (ready_mono hr (Ne.symm hji)) (zt hj ms i (mem_ready.1 hr).1 hfi) h3.1 ?_⟩) h2;rw[jm6 _ _ hji];exact h3.2.2
theorem Yg(hBW:B.holds W)(hi:ops[i]? =some oi)(hs:Region.noSelect ops=true)(hf:Region.free md ops listed i=true)(hr:(Region.ready md ops listed).contains i=true)(hQ:∀c a w,Q (.panic c) (a.put oi.dst v) w->Q (.panic c) a w){ms:List Nat}(hfi:(vY md ops listed i ms f&&i !=f)=true)(hy:Settles P ops B oi v a)(h:Qv P md ops Q B f fuel (listed.setIfInBounds i true) (a.put oi.dst v) W):Qv P md ops Q B f (fuel+1) listed a W:=by
 rw[jlK] at hfi;exact H7 hi (Region.noSelect_spec hs) hQ ms (by simpa using hfi.2) fuel listed a W hBW (Region.free_spec hi hf) (by simpa using hr) hfi.1 hy h
theorem EB(hi:ops[i]? =some oi)(hne:(i !=f)=true)(hr:Region.ready md ops listed=[i])(hw:Region.wanted oi (yielded ops a.tmps)=true)(h:∀w,Over W w->Oper.wp P oi a w (λa' w'=>B.holds w'/\Qv P md ops Q B f fuel (listed.setIfInBounds i true) a' w') Q):
  Qv P md ops Q B f (fuel+1) listed a W:=by
 refine⟨λh0=>(by rw[h0] at hr;cases hr),λj hj w hS=>?_⟩;rw[hr] at hj;simp only[jlM] at hj;subst hj;refine⟨λ_=>?_,λe=>absurd e (by simpa using hne)⟩;unfold Go.wpOp;simp only[hi,hw,if_true];exact .inl (h w hS)
theorem EA(hi:ops[f]? =some oi)(hr:Region.ready md ops listed=[f])(hw:Region.wanted oi (yielded ops a.tmps)=true)(h:∀w,Over W w->Oper.wp P oi a w (λa' w'=>wpAny P md ops Q fuel (listed.setIfInBounds f true) a' w') Q):Qv P md ops Q B f (fuel+1) listed a W:=by
 refine⟨λh0=>(by rw[h0] at hr;cases hr),λj hj w hS=>?_⟩;rw[hr] at hj;simp only[jlM] at hj;subst hj;refine⟨λhne=>absurd J hne,λ_=>?_⟩;unfold Go.wpOp;simp only[hi,hw,if_true];exact .inl (h w hS)
theorem P6(hr:Region.ready md ops listed=[])(h:∀w,Over W w->Q .normal a w):∀fuel,Qv P md ops Q B f fuel listed a W
 |0=>⟨hr,h⟩
 |_+1=>⟨λ_=>h,by rw[hr];simp⟩
theorem FK{di dj:Tmp}{zi zj:Value}(hBW:B.holds W)(hi:ops[i]? =some oi)(hj:ops[j]? =some oj)(hij:i≠j)(hfi:(i !=f)=true)(hfj:(j !=f)=true)(hoi:oi.op=.alloc ti)(hoj:oj.op=.alloc tj)(hdi:oi.dst=some di)(hdj:oj.dst=some dj)(hdd:di≠dj)(hgi:oi.guard=none)(hgj:oj.guard=none)(hzi:∀w,(zeroValue ti).run P w=.ok zi w)(hzj:∀w,(zeroValue tj).run P w=.ok zj w)(hr:Region.ready md ops listed=[i,j])(hri:Region.ready md ops (listed.setIfInBounds i true)=[j])(hrj:Region.ready md ops (listed.setIfInBounds j true)=[i])(h:∀w b c,Over W w->W.heap.size<=b->W.heap.size<=c->b≠c->b<w.heap.size->c<w.heap.size->w.heap[b]? =some (.cells zi.cells ti (0,0))->w.heap[c]? =some (.cells zj.cells tj (0,0))->
   Qv P md ops Q B f fuel ((listed.setIfInBounds i true).setIfInBounds j true) ((a.put (some di) (.pointer (some ⟨b,0,none⟩))).put (some dj) (.pointer (some ⟨c,0,none⟩))) w):
  Qv P md ops Q B f (fuel+1+1) listed a W:=by
 have run:∀(o:Oper) (t:TypeId) (z:Value) (a:Act) (w:World),o.op=.alloc t->(∀w,(zeroValue t).run P w=.ok z w)->
   (execOp a.eval o).run P w=.ok (.value (.pointer (some ⟨w.heap.size,0,none⟩))) (w.alloc (.cells z.cells t)):=by
  intro o t z a w ho hz;unfold execOp;simp only[ho,Instr.alloc];simp[hz,go_sem]
 have wnt:∀(o:Oper) (t:Array Value),o.guard=none->Region.wanted o (yielded ops t)=true:=by
  intro o t ho;simp[Region.wanted,ho]
 have hnew:∀(w:World) (o:Obj),(w.alloc o).heap[w.heap.size]? =some o:=λw o=>heap_alloc_new w o
 have hfi':i≠f:=by simpa using hfi
 have hfj':j≠f:=by simpa using hfj
 refine⟨λh0=>(by rw[h0] at hr;cases hr),λk hk w hS=>⟨λhkf=>?_,λhkf=>?_⟩⟩
 .rw[hr] at hk;rcases jlP.1 hk with rfl|hk
  .unfold Go.wpOp;simp only[hi,wnt oi _ hgi,if_true];refine .inl ?_;unfold Oper.wp;rw[run oi ti zi a w hoi hzi];refine⟨B.keep _ _ (B.keep _ _ hBW hS) (Over.alloc _ _),⟨λh0=>(by rw[h0] at hri;cases hri),λk2 hk2 w2 hS2=>⟨λ_=>?_,λe=>?_⟩⟩⟩
   .rw[hri] at hk2;simp only[jlM] at hk2;subst hk2;unfold Go.wpOp;simp only[hj,wnt oj _ hgj,if_true];refine .inl ?_;unfold Oper.wp;rw[run oj tj zj _ w2 hoj hzj];have h12:Over w w2:=(Over.alloc _ _).trans hS2
    have hlt:w.heap.size<w2.heap.size:=by have:=hS2.out.size;simp at this;omega
    have hle:W.heap.size<=w.heap.size:=hS.out.size;refine⟨B.keep _ _ (B.keep _ _ (B.keep _ _ hBW hS) h12) (Over.alloc _ _),?_⟩;rw[hdi,hdj];refine h _ w.heap.size w2.heap.size ((hS.trans h12).trans (Over.alloc _ _)) hle Om Om (by simp;omega) (by simp) ?_ (hnew _ _);rw[Below.heap_alloc _ _ _ hlt,hS2.out.block _ (by simp),hnew]
   .rw[hri] at hk2;simp only[jlM] at hk2;exact absurd (hk2.symm.trans e) hfj'
  .simp only[jlM] at hk;subst hk;unfold Go.wpOp;simp only[hj,wnt oj _ hgj,if_true];refine .inl ?_;unfold Oper.wp;rw[run oj tj zj a w hoj hzj];refine⟨B.keep _ _ (B.keep _ _ hBW hS) (Over.alloc _ _),⟨λh0=>(by rw[h0] at hrj;cases hrj),λk2 hk2 w2 hS2=>⟨λ_=>?_,λe=>?_⟩⟩⟩
   .rw[hrj] at hk2;simp only[jlM] at hk2;subst hk2;unfold Go.wpOp;simp only[hi,wnt oi _ hgi,if_true];refine .inl ?_;unfold Oper.wp;rw[run oi ti zi _ w2 hoi hzi];have h12:Over w w2:=(Over.alloc _ _).trans hS2
    have hlt:w.heap.size<w2.heap.size:=by have:=hS2.out.size;simp at this;omega
    have hle:W.heap.size<=w.heap.size:=hS.out.size;refine⟨B.keep _ _ (B.keep _ _ (B.keep _ _ hBW hS) h12) (Over.alloc _ _),?_⟩;rw[hdi,hdj,jm6 _ _ (Ne.symm hij),Act.put_comm _ _ _ (by intro d hd;cases hd;intro e;cases e;exact hdd rfl)];refine h _ w2.heap.size w.heap.size ((hS.trans h12).trans (Over.alloc _ _)) Om hle Om (by simp) (by simp;omega) (hnew _ _) ?_;rw[Below.heap_alloc _ _ _ hlt,hS2.out.block _ (by simp),hnew]
   .rw[hrj] at hk2;simp only[jlM] at hk2;exact absurd (hk2.symm.trans e) hfi'
 .rw[hr] at hk;rcases jlP.1 hk with rfl|hk
  .exact absurd hkf hfi'
  .simp only[jlM] at hk;exact absurd (hk.symm.trans hkf) hfj'
end
section
variable{P:Program}{n:Nat}{env:List (Nat×Value)}{w0:Bs}{Rs:List Res}{ops:Array Oper}{Q:Exit->Act->World->Prop}{K:Act->World->Prop}{o:Oper}
variable{Rs0:List Res}{fuel f:Nat}{listed:Array Bool}
theorem JJ{id:Nat}(hm:P.follows .mixedOrders=true)(hz:ops.size=m)(h:At n env w0 Rs (λa w=>wpAny P .any ops Q m (Array.replicate m false) a w)):At n env w0 Rs (λa w=>(Code.region id ops true).wp P Q a w):=by
 intro a w hf hs;subst hz;exact wp_region_any hm (h a _ hf (hs.over_ (Below.refl _ _).drew))
theorem JY(f:Nat)(h:At n env w0 Rs (λa w=>Qv P .any ops Q (yI w0 Rs) f fuel listed a w)):At n env w0 Rs (λa w=>wpAny P .any ops Q fuel listed a w):=
 λa w hf hs=>Zd _ _ _ _ (h a w hf hs) w (Over.refl _)
def Res.wk(r:Res):Res where
 F:=r.F
 P:=λw=>∀b,r.F b->b<w.heap.size
 low:=λ_ h b hb=>h b hb
 B:=0
 dep:=λ_ _ h hz _ b hb=>jlU (h b hb) hz
def wks:List Nat->List Res->List Res
 |[],R=>R
 |k::ks,R=>wks ks (R.modify k Res.wk)
theorem St.wk1(k:Nat)(h:St w0 Rs w):St w0 (Rs.modify k Res.wk) w:=by
 have hget:∀(i:Nat) (r:Res),(Rs.modify k Res.wk)[i]? =some r->∃s,Rs[i]? =some s/\(r=s\/r=s.wk):=by
  intro i r hi;rw[List.getElem?_modify] at hi;cases hs:Rs[i]? with
  |none=>rw[hs] at hi;simp at hi
  |some s=>
   rw[hs] at hi;refine⟨s,J,?_⟩;by_cases hki:k=i
   .simp[hki] at hi;exact .inr hi.symm
   .simp[hki] at hi;exact .inl hi.symm
 refine⟨h.over,λi r hi=>?_,λi j r s hij hi hj b hb hsb=>?_⟩
 .obtain⟨s,hs,rfl|rfl⟩:=hget i r hi
  .exact h.all i r hs
  .have:=h.all i s hs;exact⟨λb hb=>s.low w this.1 b hb,this.2.1,jlN _,λ_ _=>jlN _⟩
 .obtain⟨r',hr',er⟩:=hget i r hi;obtain⟨s',hs',es⟩:=hget j s hj;have e1:r'.F b:=by rcases er with rfl|rfl<;>exact hb
  have e2:s'.F b:=by rcases es with rfl|rfl<;>exact hsb
  exact h.apart i j r' s' hij hr' hs' b e1 e2
theorem St.wk{w:World}:∀(ks:List Nat) {Rs:List Res},St w0 Rs w->St w0 (wks ks Rs) w
 |[],_,h=>h
 |k::ks,_,h=>St.wk ks (h.wk1 k)
theorem Qy(f:Nat)(ks:List Nat)(h:At n env w0 Rs (λa w=>Qv P .any ops Q (yI w0 (wks ks Rs)) f fuel listed a w)):At n env w0 Rs (λa w=>wpAny P .any ops Q fuel listed a w):=
 λa w hf hs=>Zd _ _ _ _ (h a w hf hs) w (Over.refl _)
theorem Yp(hr:Region.ready .any ops listed=[])(h:At n env w0 Rs (λa w=>Q .normal a w)):At n env w0 Rs (λa w=>wpAny P .any ops Q fuel listed a w):=λa w hf hs=>ED hr (h a w hf hs) _
theorem JK(hr:Region.ready .any ops listed=[])(h:At n env w0 Rs (λa w=>Q .normal a w)):At n env w0 Rs (λa w=>Qv P .any ops Q B f fuel listed a w):=
 λa w hf hs=>P6 hr (λw' hw'=>h a w' hf (hs.over_ hw')) _
theorem jr(hi:ops[i]? =some o)(hS:Region.noSelect ops=true)(hfr:Region.free .any ops listed i=true)(hrd:(Region.ready .any ops listed).contains i=true)(ms:List Nat)(hfi:(vY .any ops listed i ms f&&i !=f)=true)(hQ:∀c a w,Q (.panic c) (a.put o.dst v) w->Q (.panic c) a w)(hg:o.guard=none)(hd:o.dst=some d)(hn:d<n)(hsub:∀w,St w0 Rs w->St w0 Rs0 w)(hq:Qt P o n env w0 Rs0 v)(h:At n ((d,v)::env) w0 Rs (λa w=>Qv P .any ops Q (yI w0 Rs0) f fuel (listed.setIfInBounds i true) a w)):At n env w0 Rs (λa w=>Qv P .any ops Q (yI w0 Rs0) f (fuel+1) listed a w):=
 λa w hf hs=>Yg (B:=yI w0 Rs0) (hsub w hs) hi hS hfr hrd hQ hfi (.inl ⟨by simp[Region.wanted,hg],λw' hs'=>(hq a w' hf hs').gives⟩) (hd▸h _ w (hf.put hn v) hs)
theorem JR(hi:ops[i]? =some o)(hS:Region.noSelect ops=true)(hfr:Region.free .any ops listed i=true)(hrd:(Region.ready .any ops listed).contains i=true)(ms:List Nat)(hfi:(vY .any ops listed i ms f&&i !=f)=true)(hQ:∀c a w,Q (.panic c) (a.put o.dst v) w->Q (.panic c) a w)(hg:o.guard=some (j,c))(hj:ops[j]? =some oj)(hdj:oj.dst=some dj)(hb:look env dj=some (.bool c))(hd:o.dst=some d)(hn:d<n)(hsub:∀w,St w0 Rs w->St w0 Rs0 w)(hq:Qt P o n env w0 Rs0 v)(h:At n ((d,v)::env) w0 Rs (λa w=>Qv P .any ops Q (yI w0 Rs0) f fuel (listed.setIfInBounds i true) a w)):At n env w0 Rs (λa w=>Qv P .any ops Q (yI w0 Rs0) f (fuel+1) listed a w):=
 λa w hf hs=>Yg (B:=yI w0 Rs0) (hsub w hs) hi hS hfr hrd hQ hfi (.inl ⟨by simp[Region.wanted,hg,D3 hf hj hdj hb],λw' hs'=>(hq a w' hf hs').gives⟩) (hd▸h _ w (hf.put hn v) hs)
theorem Js{b:Bool}(hi:ops[i]? =some o)(hS:Region.noSelect ops=true)(hfr:Region.free .any ops listed i=true)(hrd:(Region.ready .any ops listed).contains i=true)(ms:List Nat)(hfi:(vY .any ops listed i ms f&&i !=f)=true)(hQ:∀c a w,Q (.panic c) (a.put o.dst undef) w->Q (.panic c) a w)(hg:o.guard=some (j,c))(hj:ops[j]? =some oj)(hdj:oj.dst=some dj)(hb:look env dj=some (.bool b))(hne:b≠c)(hd:o.dst=some d)(hn:d<n)(hsub:∀w,St w0 Rs w->St w0 Rs0 w)(h:At n ((d,undef)::env) w0 Rs (λa w=>Qv P .any ops Q (yI w0 Rs0) f fuel (listed.setIfInBounds i true) a w)):At n env w0 Rs (λa w=>Qv P .any ops Q (yI w0 Rs0) f (fuel+1) listed a w):=
 λa w hf hs=>Yg (B:=yI w0 Rs0) (hsub w hs) hi hS hfr hrd hQ hfi (.inr ⟨by simp[Region.wanted,hg,D3 hf hj hdj hb,hne],rfl⟩) (hd▸h _ w (hf.put hn undef) hs)
theorem vu(hi:ops[i]? =some o)(hS:Region.noSelect ops=true)(hfr:Region.free .any ops listed i=true)(hrd:(Region.ready .any ops listed).contains i=true)(ms:List Nat)(hfi:(vY .any ops listed i ms f&&i !=f)=true)(hQ:∀c a w,Q (.panic c) (a.put o.dst undef) w->Q (.panic c) a w)(hg:o.guard=some (j,c))(hj:ops[j]? =some oj)(hdj:oj.dst=some dj)(hb:look env dj=some undef)(hd:o.dst=some d)(hn:d<n)(hsub:∀w,St w0 Rs w->St w0 Rs0 w)(h:At n ((d,undef)::env) w0 Rs (λa w=>Qv P .any ops Q (yI w0 Rs0) f fuel (listed.setIfInBounds i true) a w)):At n env w0 Rs (λa w=>Qv P .any ops Q (yI w0 Rs0) f (fuel+1) listed a w):=
 λa w hf hs=>Yg (B:=yI w0 Rs0) (hsub w hs) hi hS hfr hrd hQ hfi (.inr ⟨by simp[Region.wanted,hg,GA hf hj hdj hb],rfl⟩) (hd▸h _ w (hf.put hn undef) hs)
theorem qg(hi:ops[i]? =some o)(hne:(i !=f)=true)(hr:Region.ready .any ops listed=[i])(hg:o.guard=none)(h:At n env w0 Rs (λa w=>o.wp P a w (λa' w'=>St w0 Rs0 w'/\Qv P .any ops Q (yI w0 Rs0) f fuel (listed.setIfInBounds i true) a' w') Q)):At n env w0 Rs (λa w=>Qv P .any ops Q (yI w0 Rs0) f (fuel+1) listed a w):=
 λa w hf hs=>EB (B:=yI w0 Rs0) hi hne hr (by simp[Region.wanted,hg]) (λw' hw'=>h a w' hf (hs.over_ hw'))
theorem vg(hi:ops[f]? =some o)(hr:Region.ready .any ops listed=[f])(hg:o.guard=none)(h:At n env w0 Rs (λa w=>o.wp P a w (λa' w'=>wpAny P .any ops Q fuel (listed.setIfInBounds f true) a' w') Q)):At n env w0 Rs (λa w=>Qv P .any ops Q B f (fuel+1) listed a w):=
 λa w hf hs=>EA hi hr (by simp[Region.wanted,hg]) (λw' hw'=>h a w' hf (hs.over_ hw'))
theorem Rw{di mi mj ki kj:Nat}{zi zj:Value}(hi:ops[i]? =some oi)(hj:ops[j]? =some oj)(hij:i≠j)(hfi:(i !=f)=true)(hfj:(j !=f)=true)(hoi:oi.op=.alloc ti)(hoj:oj.op=.alloc tj)(hdi:oi.dst=some di)(hdj:oj.dst=some dj)(hdd:di≠dj)(hni:di<n)(hnj:dj<n)(hgi:oi.guard=none)(hgj:oj.guard=none)(hzi:TyZ P ti mi ki zi)(hzj:TyZ P tj mj kj zj)(hr:Region.ready .any ops listed=[i,j])(hri:Region.ready .any ops (listed.setIfInBounds i true)=[j])(hrj:Region.ready .any ops (listed.setIfInBounds j true)=[i])(hsub:∀w,St w0 Rs w->St w0 Rs0 w)(h:∀b c,At n ((dj,.pointer (some ⟨c,0,none⟩))::(di,.pointer (some ⟨b,0,none⟩))::env) w0 (Rs++[.cel b ti zi.cells.toList]++[.cel c tj zj.cells.toList]) (λa w=>Qv P .any ops Q (yI w0 Rs0) f fuel ((listed.setIfInBounds i true).setIfInBounds j true) a w)):
  At n env w0 Rs (λa w=>Qv P .any ops Q (yI w0 Rs0) f (fuel+1+1) listed a w):=λa w hf hs=>
 FK (B:=yI w0 Rs0) (hsub w hs) hi hj hij hfi hfj hoi hoj hdi hdj hdd hgi hgj hzi.run hzj.run hr hri hrj λw' b c hO hb hc hbc hbl hcl hhb hhc=>by
  refine h b c _ w' ((hf.put hni _).put hnj _) ?_;have s1:St w0 (Rs++[.cel b ti zi.cells.toList]) w':=hs.add hO (by show w'.heap[b]? =some (.cells zi.cells.toList.toArray ti (0,0));rw[hhb,jm1]) (λk hk=>by cases hk;exact hb) ⟨jlN _,λ_ _=>jlN _⟩
  refine s1.add' (by show w'.heap[c]? =some (.cells zj.cells.toList.toArray tj (0,0));rw[hhc,jm1]) (λk hk=>by cases hk;exact .inl (jmC hs.over.size hc)) (λq s hq k hk hsk=>?_) rfl;cases hk;rcases jmU q Rs.length with hlt|hge
  .rw[List.getElem?_append_left hlt] at hq;have:=hs.lt hq hsk
   omega
  .rw[List.getElem?_append_right hge] at hq;have:q-Rs.length=0:=by
    rcases jmU 0 (q-Rs.length) with h0|h0
    .rw[List.getElem?_eq_none (by simp only[jmE];omega)] at hq;cases hq
    .omega
   rw[this] at hq;simp at hq;subst hq;exact hbc hsk.symm
end
section
variable{P:Program}{n:Nat}{env:List (Nat×Value)}{w0:Bs}{Rs:List Res}{ops:Array Oper}{Q:Exit->Act->World->Prop}{K:Act->World->Prop}{o:Oper}
variable{Rs0:List Res}{listed:Array Bool}{f fuel:Nat}
theorem d9(i:Nat)(hi:ops[i]? =some o)(ms:List Nat)(hsub:∀w,St w0 Rs w->St w0 Rs0 w)(hq:Qt P o n env w0 Rs0 v)(h:At n ((d,v)::env) w0 Rs (λa w=>Qv P .any ops Q (yI w0 Rs0) f fuel (listed.setIfInBounds i true) a w))(hg:o.guard=none:=by exact rfl)(hd:o.dst=some d:=by exact rfl)(hn:d<n:=by decide)(hS:Region.noSelect ops=true:=by kernel_rfl)(hfr:Region.free .any ops listed i=true:=by kernel_rfl)(hrd:(Region.ready .any ops listed).contains i=true:=by kernel_rfl)(hfi:(vY .any ops listed i ms f&&i !=f)=true:=by kernel_rfl)(hQ:∀c a w,Q (.panic c) (a.put o.dst v) w->Q (.panic c) a w:=by exact λ_ _ _ h=>h):At n env w0 Rs (λa w=>Qv P .any ops Q (yI w0 Rs0) f (fuel+1) listed a w):=jr hi hS hfr hrd ms hfi hQ hg hd hn hsub hq h
theorem e9(i:Nat)(hi:ops[i]? =some o)(ms:List Nat)(hsub:∀w,St w0 Rs w->St w0 Rs0 w)(hq:Qt P o n env w0 Rs0 v)(h:At n ((d,v)::env) w0 Rs (λa w=>Qv P .any ops Q (yI w0 Rs0) f fuel (listed.setIfInBounds i true) a w))(hg:o.guard=some (j,c):=by exact rfl)(hj:ops[j]? =some oj:=by exact rfl)(hdj:oj.dst=some dj:=by exact rfl)(hb:look env dj=some (.bool c):=by exact rfl)(hd:o.dst=some d:=by exact rfl)(hn:d<n:=by decide)(hS:Region.noSelect ops=true:=by kernel_rfl)(hfr:Region.free .any ops listed i=true:=by kernel_rfl)(hrd:(Region.ready .any ops listed).contains i=true:=by kernel_rfl)(hfi:(vY .any ops listed i ms f&&i !=f)=true:=by kernel_rfl)(hQ:∀c a w,Q (.panic c) (a.put o.dst v) w->Q (.panic c) a w:=by exact λ_ _ _ h=>h):At n env w0 Rs (λa w=>Qv P .any ops Q (yI w0 Rs0) f (fuel+1) listed a w):=JR hi hS hfr hrd ms hfi hQ hg hj hdj hb hd hn hsub hq h
theorem f9{b:Bool}(i:Nat)(hi:ops[i]? =some o)(ms:List Nat)(hsub:∀w,St w0 Rs w->St w0 Rs0 w)(h:At n ((d,undef)::env) w0 Rs (λa w=>Qv P .any ops Q (yI w0 Rs0) f fuel (listed.setIfInBounds i true) a w))(hg:o.guard=some (j,c):=by exact rfl)(hj:ops[j]? =some oj:=by exact rfl)(hdj:oj.dst=some dj:=by exact rfl)(hb:look env dj=some (.bool b):=by exact rfl)(hne:b≠c:=by decide)(hd:o.dst=some d:=by exact rfl)(hn:d<n:=by decide)(hS:Region.noSelect ops=true:=by kernel_rfl)(hfr:Region.free .any ops listed i=true:=by kernel_rfl)(hrd:(Region.ready .any ops listed).contains i=true:=by kernel_rfl)(hfi:(vY .any ops listed i ms f&&i !=f)=true:=by kernel_rfl)(hQ:∀c a w,Q (.panic c) (a.put o.dst undef) w->Q (.panic c) a w:=by exact λ_ _ _ h=>h):At n env w0 Rs (λa w=>Qv P .any ops Q (yI w0 Rs0) f (fuel+1) listed a w):=Js hi hS hfr hrd ms hfi hQ hg hj hdj hb hne hd hn hsub h
end
section
variable{P:Program}{n:Nat}{env:List (Nat×Value)}{w0:Bs}{Rs:List Res}{ops:Array Oper}{Q:Exit->Act->World->Prop}{K:Act->World->Prop}{o:Oper}
section
variable{x y:Operand}{ts:Array TypeId}{p q:Int}
theorem jfE(ho:o.op=.call {callee:=.builtin .min,args:=#[x,y],argTypes:=ts})(hx:ev env x=some (.int .i64 p))(hy:ev env y=some (.int .i64 q)):Qt P o n env w0 Rs (.int .i64 (min p q)):=
 kd λa w hF _=>by
  have e:min p q=if q<p then q else p:=by split<;>omega
  unfold execOp;simp only[ho];simp[resolve,invoke,builtin,hF.ev hx,hF.ev hy,run_min_int2,e]
theorem jfD(ho:o.op=.call {callee:=.builtin .max,args:=#[x,y],argTypes:=ts})(hx:ev env x=some (.int .i64 p))(hy:ev env y=some (.int .i64 q)):Qt P o n env w0 Rs (.int .i64 (max p q)):=
 kd λa w hF _=>by
  have e:max p q=if q>p then q else p:=by split<;>omega
  unfold execOp;simp only[ho];simp[resolve,invoke,builtin,hF.ev hx,hF.ev hy,run_max_int2,e]
end
theorem PG(h:(P.info? T).map (·.size)=some m)(w:World):(sizeOf T).run P w=.ok m w:=by
 obtain⟨i,hi,hs'⟩:=jnm.1 h;simp[sizeOf,typeInfo,hi,hs']
theorem TyL.elem(h:TyL P T U m):P.elem T=U:=by simp[Program.elem,h.desc]
theorem VR{len cap l:Nat}{a:Option Addr}(ho:o.op=.slice T x (some y) none none)(hx:ev env x=some (.slice a len cap))(hy:ev env y=some (.int .i64 (l:Int)))(hT:TyL P T U s)(hl:l<=len):Qt P o n env w0 Rs (sliced a l len cap s):=
 kd λa' w hF _=>by
  have h1:=run_sliceAt_slice (P:=P) w T (.slice a len cap) (some (.int .i64 (l:Int))) none none (by rw[hT.elem];exact hT.desc);have h2:=run_slice_l (P:=P) w T a len cap (by rw[hT.elem];exact hT.desc) .i64 (l:Int) Om Om
  unfold execOp;simp only[ho,hF.ev hx,jnE,Option.map_none,hF.ev hy];simp[h1,h2,hT.elem,PG hT.size]
theorem KQ{len cap h:Nat}{a:Option Addr}(ho:o.op=.slice T x none (some y) none)(hx:ev env x=some (.slice a len cap))(hy:ev env y=some (.int .i64 (h:Int)))(hT:TyL P T U s)(hl:h<=cap):Qt P o n env w0 Rs (sliced a 0 h cap s):=
 kd λa' w hF _=>by
  have h1:=run_sliceAt_slice (P:=P) w T (.slice a len cap) none (some (.int .i64 (h:Int))) none (by rw[hT.elem];exact hT.desc);have h2:=run_slice_h (P:=P) w T a len cap (by rw[hT.elem];exact hT.desc) .i64 (h:Int) Om Om
  unfold execOp;simp only[ho,hF.ev hx,jnE,Option.map_none,hF.ev hy];simp[h1,h2,hT.elem,PG hT.size]
structure Src (s:Nat) (v2:Value) (m:Nat) (news:List Value) (w:World):Prop where
 len:news.length=m*s
 src:(v2=.slice none 0 0/\m=0)\/∃ad c,v2=.slice (some ad) m c/\∀j u,news[j]? =some u->w.cell? (ad.add j)=some u
theorem jiA{k B:Nat}{xs:List Value}(hs:St w0 Rs w)(hk:Rs[k]? =some (.row B U s v m xs)):Src s v m xs w:=by
 have h:w.ownsRow B U s v m xs:=(hs.all k _ hk).1;refine⟨h.1,?_⟩;rcases h.2 with⟨rfl,rfl⟩|⟨g,cap,cur,rfl,hb,hg,hcap,_⟩
 .exact .inl ⟨rfl,rfl⟩
 .exact .inr ⟨_,_,rfl,h.cells rfl⟩
theorem qL{k b c:Nat}(hs:St w0 Rs w)(hk:Rs[k]? =some (.cel b U cs))(hl:cs.length=m*s):Src s (.slice (some ⟨b,0,none⟩) m c) m cs w:=
 ⟨hl,.inr ⟨_,_,rfl,λj u hu=>by rw[kq,cell_of_row w b _ _ U (0,0) (hs.cel hk),jmd];simpa using hu⟩⟩
theorem C9{bytes k B0 nn:Nat}{v2:Value}{xs news:List Value}(ho:o.op=.call {callee:=.builtin .append,args:=#[x,y],argTypes:=#[T,T]})(hT:TyL P T U s)(hZ:TyZ P U s bytes z)(hs0:0<s)(hd:o.dst=some d)(hn:d<n)(hx:ev env x=some v)(hy:ev env y=some v2)(hk:Rs[k]? =some (.row B0 U s v nn xs))(hsrc:∀w,St w0 Rs w->Src s v2 m news w)(h1:∀u∈news,u.oneCell'=true)(h63:nn+m<=maxLen)(hbytes:(nn+m)*bytes<=140737488355328)(hB:B0<=w0.N)(h:∀v',At n ((d,v')::env) w0 (Rs.set k (.row B0 U s v' (nn+m) (xs++news))) K):At n env w0 Rs (λa w=>o.wp P a w K Q):=λa w hf hs=>by
 have hS:=hsrc w hs;rcases hS.src with⟨rfl,rfl⟩|⟨ad,c,rfl,hnews⟩
 .obtain⟨i,hi,hz0,hz1,hz2⟩:=hZ.info;have hown:w.ownsRow B0 U s v nn xs:=(hs.all k _ hk).1
  have hr:=run_append_owned_none (P:=P) w B0 T o.type U i s hT.desc hi v nn xs hown;have hrun:(execOp a.eval o).run P w=.ok (.value v) w:=by
   unfold execOp;simp only[ho,resolve,invoke,builtin,Sem.run_bind,Sem.run_pure,Result.andThen_ok,jny,jmA,jnB,hf.ev hx,hf.ev hy,hr]
  have hnil:news=[]:=jmh (by simpa using hS.len);subst hnil;show o.upon P a K Q ((execOp a.eval o).run P w)
  rw[hrun,Oper.upon_value,hd];refine h v _ w (hf.put hn v) (hs.chg hk (λhP=>?_) (λb hb=>hb) J);rw[jl9];exact hP
 .exact jcy ho hT hZ hs0 hd hn hx hy hk hS.len (λw' hs'=>by
   rcases(hsrc w' hs').src with⟨e,_⟩|⟨ad',c',e,hn'⟩
   .cases e
   .injection e with e1 e2 e3
    injection e1 with e1
    subst e1;exact hn') h1 h63 hbytes hB h a w hf hs
theorem jaP{bytes:Nat}(ho:o.op=.makeSlice T x y)(hx:ev env x=some (.int .i64 (m:Int)))(hy:ev env y=some (.int .i64 (m:Int)))(hT:TyL P T U s)(hZ:TyZ P U s bytes z)(hd:o.dst=some d)(hn:d<n)(hb:bytes*m<=281474976710656)(hm:m<=9223372036854775807)(h:∀b,At n ((d,.slice (some ⟨b,0,none⟩) m m)::env) w0 (Rs++[.cel b U (madeCells z.cells (m*s)).toList]) K):At n env w0 Rs (λa w=>o.wp P a w K Q):=λa w hf hs=>by
 obtain⟨i,hi,hz0,hz1,hz2⟩:=hZ.info;have hmk:=run_make (P:=P) w T U i z hT.desc hi hz0 .i64 .i64 (m:Int) (m:Int) Om Om (by rw[hz2];omega) Om
 rw[hz1,Int.toNat_natCast] at hmk;have hrun:(execOp a.eval o).run P w=.ok (.value (.slice (some ⟨w.heap.size,0,none⟩) m m)) (w.alloc (.cells (madeCells z.cells (m*s)) U)):=by
  unfold execOp;simp only[ho,hf.ev hx,hf.ev hy,Sem.run_bind,hmk,Result.andThen_ok,Sem.run_pure]
 show o.upon P a K Q ((execOp a.eval o).run P w);rw[hrun,Oper.upon_value,hd];exact h _ _ _ (hf.put hn _) (hs.add (Over.alloc _ _) (by show(w.alloc _).heap[w.heap.size]? =some (.cells (madeCells z.cells (m*s)).toList.toArray U (0,0));rw[heap_alloc_new,jm1]) (λb hb=>Nat.le_of_eq hb.symm) ⟨jlN _,λ_ _=>jlN _⟩)
theorem PE{f:FuncId}(ho:o.op=.makeFunc (.func f) #[] xs.toArray)(hx:Fl env xs=some vs):Qt P o n env w0 Rs (.func (.func f) #[] vs.toArray):=
 kd λa w hF _=>by
  have he:xs.map a.eval=vs:=hF.evs hx;unfold execOp;simp only[ho];simp[Instr.makeFunc,he]
theorem jcS{f:FuncId}(hfn:FnOk P f)(ho:o.op=.call {callee:=.value g,args:=xs.toArray,argTypes:=ts})(hg:ev env g=some (.func (.func f) #[] cs.toArray))(hx:Fl env xs=some vs)(hF:Frm n env a):
  (execOp a.eval o).run P w=.ok (.enter f (vs++cs).toArray) w:=by
 have he:xs.map a.eval=vs:=hF.evs hx;unfold execOp;simp only[ho];simp only[resolve,Deferred.ofValue,hF.ev hg];simp[invoke,hfn.run,he]
theorem jfC{f:FuncId}(hfn:FnOk P f)(ho:o.op=.call {callee:=.value g,args:=xs.toArray,argTypes:=ts})(hg:ev env g=some (.func (.func f) #[] cs.toArray))(hx:Fl env xs=some vs)(hc:∀w,St w0 Rs w->Calls P f (vs++cs).toArray w λe w'=>e=.returned v/\Over w w'):Qt P o n env w0 Rs v:=λa w hF hs=>by
 rw[jcS hfn ho hg hx hF];exact hc w hs
end
end Go.Proofs.YtjbahemkhphndaaGreat
