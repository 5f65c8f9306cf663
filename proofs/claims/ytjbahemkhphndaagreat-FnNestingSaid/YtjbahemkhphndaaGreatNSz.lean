import Derived.Test.YtjbahemkhphndaaGreatNSx
import Derived.Maps.AppendAt
set_option linter.unusedVariables false
set_option linter.unusedSimpArgs false
namespace Go.Proofs.YtjbahemkhphndaaGreat
open Go Go.RowKit
variable{C env':List (Nat×Value)}{K' L:Act->World->Prop}{R:Ending->World->Prop}{Rs':List Res}{T U b dj j k m:Nat}{X:Type}{a:Act}{c x y:Operand}{c0 c1 c2 c3 c4 c5 c6 v v0 v1 v2 z:Value}{cs vs:List Value}{fn:Func}{oj:Oper}{p:Prop}{ps:List (Nat×Operand)}{r1 r2 rv:ResultVar}{rest:List Oper}{ts:Array TypeId}{w:World}{xs:List Operand}
theorem TyZ.szx{P:Program}{T:TypeId}(h:TyZ P T m k z):(P.info? T).map (·.size)=some m:=by
 obtain⟨i,hi,_,hs,_⟩:=h.info;simp[hi,hs]
theorem Bx(place:Nat->Option (Nat×Nat)):∀(l:List (Nat×Value)) (cells:Array Value),Instr.fill place cells l=Instr.fill place cells (l.map λp=>(p.1,Value.agg p.2.cells))
 |[],_=>rfl
 |(i,v)::r,cells=>by
  simp only[jmA,Instr.fill];have e:(Value.agg v.cells).cells=v.cells:=rfl
  rw[e];split
  .rfl
  .split
   .rfl
   .exact Bx place r _
theorem jbX(t:TypeId)(parts:Array (Nat×Value)):Instr.build t parts=Instr.build t (parts.map λp=>(p.1,Value.agg p.2.cells)):=by
 unfold Instr.build;simp only[Bx _ parts.toList,Array.toList_map]
theorem Bg(t:TypeId)(m:Nat)(parts:Array (Nat×Value)):Instr.buildSlice t m parts=Instr.buildSlice t m (parts.map λp=>(p.1,Value.agg p.2.cells)):=by
 unfold Instr.buildSlice;simp only[Bx _ parts.toList,Array.toList_map]
section
variable{P:Program}{n:Nat}{env:List (Nat×Value)}{w0:Bs}{Rs:List Res}{ops:Array Oper}{Q:Exit->Act->World->Prop}{K:Act->World->Prop}{o:Oper}
theorem J0{id:Nat}(h:At n env w0 Rs (λa w=>Q .ret a w)):At n env w0 Rs (λa w=>Exit.inBlock id Q .ret a w):=h
theorem jY(h:At n env w0 Rs (λa w=>Q .ret a w)):At n env w0 Rs (λa w=>Exit.then K' Q .ret a w):=h
inductive RV (P:Program) (env:List (Nat×Value)) (w0:Bs) (Rs:List Res):ResultVar->Value->Prop
 |tmp {t:Nat} {v:Value}:look env t=some v->RV P env w0 Rs (.tmp t) v
 |cell {t:Nat} {T:TypeId} {p:Addr} {v:Value}:look env t=some (.pointer (some p))->(∀w,St w0 Rs w->(loadVar T p).run P w=.ok v w)->RV P env w0 Rs (.cell t T) v
def ja9(ts:Array Value):ResultVar->Sem Value
 |.tmp t=>pure (ts.getD t undef)
 |.cell p T=>do loadVar T (<-asAddr (ts.getD p undef))
theorem Gm(fn:Func)(ts:Array Value):results fn ts=(do let vs<-fn.results.mapM (ja9 ts);pure (if h:vs.size=1 then vs[0] else .tuple vs)):=rfl
theorem RV.run(h:RV P env w0 Rs rv v)(hf:Frm n env a)(hs:St w0 Rs w):(ja9 a.tmps rv).run P w=.ok v w:=by
 cases h with
 |tmp h1=>simp only[ja9,hf.get _ _ h1,Sem.run_pure]
 |cell h1 h2=>simp only[ja9,hf.get _ _ h1,asAddr,Sem.run_bind,Sem.run_pure,Result.andThen_ok,h2 w hs]
theorem qj{t:Nat}(hp:look env t=some (.pointer (some ⟨b,0,none⟩)))(hT:TyS P T m)(hk:Rs[k]? =some (.cel b U cs))(hl:cs.length=m):RV P env w0 Rs (.cell t T) (.agg cs.toArray):=
 .cell hp λw hs=>by
  obtain⟨d,h1,h2⟩:=hT.flat;exact Iq9 h1 h2 hT.size hl (jZ hk w hs)
theorem jK(hr:fn.results=#[r1])(h1:RV P env w0 Rs r1 v1)(h:∀w,St w0 Rs w->R (.returned v1) w):At n env w0 Rs (λa w=>bodyPost P fn R .ret a w):=λa w hf hs=>by
 refine bodyPost_ret (v:=v1) ?_ hf.defers (h w hs);rw[Gm,hr];have e1:=h1.run hf hs
 simp[List.mapM_toArray,Sem.run_bind,e1]
theorem qG(hr:fn.results=#[r1,r2])(h1:RV P env w0 Rs r1 v1)(h2:RV P env w0 Rs r2 v2)(h:∀w,St w0 Rs w->R (.returned (.tuple #[v1,v2])) w):At n env w0 Rs (λa w=>bodyPost P fn R .ret a w):=λa w hf hs=>by
 refine bodyPost_ret (v:=.tuple #[v1,v2]) ?_ hf.defers (h w hs);rw[Gm,hr];have e1:=h1.run hf hs
 have e2:=h2.run hf hs;simp[e1,e2]
theorem Ox{r3:ResultVar}{v3:Value}(hr:fn.results=#[r1,r2,r3])(h1:RV P env w0 Rs r1 v1)(h2:RV P env w0 Rs r2 v2)(h3:RV P env w0 Rs r3 v3)(h:∀w,St w0 Rs w->R (.returned (.tuple #[v1,v2,v3])) w):
  At n env w0 Rs (λa w=>bodyPost P fn R .ret a w):=λa w hf hs=>by
 refine bodyPost_ret (v:=.tuple #[v1,v2,v3]) ?_ hf.defers (h w hs);rw[Gm,hr];have e1:=h1.run hf hs
 have e2:=h2.run hf hs;have e3:=h3.run hf hs
 simp[e1,e2,e3]
theorem xH(hr:fn.results=#[])(h:∀w,St w0 Rs w->R (.returned (.tuple #[])) w):At n env w0 Rs (λa w=>bodyPost P fn R .ret a w):=λa w hf hs=>
 bodyPost_ret (results_none hr _ _ _) hf.defers (h w hs)
theorem kV(hr:fn.results=#[])(h:∀w,St w0 Rs w->R (.returned (.tuple #[])) w):At n env w0 Rs (λa w=>bodyPost P fn R .normal a w):=λa w hf hs=>
 bodyPost_end (results_none hr _ _ _) hf.defers (h w hs)
variable{Rs0:List Res}{fuel:Nat}{listed:Array Bool}
theorem D3{b:Bool}(hf:Frm n env a)(hj:ops[j]? =some oj)(hdj:oj.dst=some dj)(hb:look env dj=some (.bool b)):yielded ops a.tmps j=some b:=by
 have:=hf.get _ _ hb;simp only[yielded,hj,hdj,Option.bind_some];rw[Array.getD_eq_getD_getElem?] at this;cases h':a.tmps[dj]? with
 |none=>rw[h'] at this;simp[undef] at this
 |some u=>rw[h'] at this;simp at this;subst this;simp
theorem JS(hsub:∀w,St w0 Rs w->St w0 Rs0 w)(h:At n env w0 Rs K):At n env w0 Rs (λa w=>St w0 Rs0 w/\K a w):=λa w hf hs=>⟨hsub w hs,h a w hf hs⟩
theorem St.add'{r:Res}(h:St w0 Rs w)(hP:r.P w)(hlow:∀b,r.F b->w0.mine b)(hap:∀(i:Nat) (s:Res),Rs[i]? =some s->∀b,r.F b->¬s.F b)(hB:r.B=0):St w0 (Rs++[r]) w:=by
 have hget:∀(i:Nat) (s:Res),(Rs++[r])[i]? =some s->(i=Rs.length/\s=r)\/(i≠Rs.length/\Rs[i]? =some s):=by
  intro i s hi;rcases jmU i Rs.length with hlt|hge
  .rw[List.getElem?_append_left hlt] at hi;exact .inr ⟨by omega,hi⟩
  .rw[List.getElem?_append_right hge] at hi;have:i-Rs.length=0:=by
    rcases jmU 0 (i-Rs.length) with h0|h0
    .rw[List.getElem?_eq_none (by simp only[jmE];omega)] at hi;cases hi
    .omega
   rw[this] at hi;exact .inl ⟨by omega,by simpa using hi.symm⟩
 refine⟨h.over,λi s hi=>?_,λi j s t hij hi hj b hs ht=>?_⟩
 .rcases hget i s hi with⟨_,rfl⟩|⟨_,hi'⟩
  .exact⟨hP,hlow,by rw[hB];exact jlN _,λ_ _=>by rw[hB];exact jlN _⟩
  .exact h.all i s hi'
 .rcases hget i s hi with⟨e1,rfl⟩|⟨_,hi'⟩
  .rcases hget j t hj with⟨e2,rfl⟩|⟨_,hj'⟩
   .exact hij (e1.trans e2.symm)
   .exact hap j t hj' b hs ht
  .rcases hget j t hj with⟨_,rfl⟩|⟨_,hj'⟩
   .exact hap i s hi' b ht hs
   .exact h.apart i j s t hij hi' hj' b hs ht
theorem QO{s:Nat}(h:At n env w0 (Rs++[.row w0.N T s (.slice none 0 0) 0 []]) K):At n env w0 Rs K:=λa w hf hs=>
 h a w hf (hs.add (Over.refl _) (World.ownsRow_nil _ _ _ _) (λb hb=>by simp[Res.row,Value.ownBlock] at hb) ⟨jlN _,λ_ _=>jlN _⟩)
theorem jcy{s bytes B0 c d nn:Nat}{ad:Addr}{xs news:List Value}(ho:o.op=.call {callee:=.builtin .append,args:=#[x,y],argTypes:=#[T,T]})(hT:TyL P T U s)(hZ:TyZ P U s bytes z)(hs0:0<s)(hd:o.dst=some d)(hn:d<n)(hx:ev env x=some v)(hy:ev env y=some (.slice (some ad) m c))(hk:Rs[k]? =some (.row B0 U s v nn xs))(hl:news.length=m*s)(hnews:∀w,St w0 Rs w->∀j u,news[j]? =some u->w.cell? (ad.add j)=some u)(h1:∀u∈news,u.oneCell'=true)(h63:nn+m<=maxLen)(hbytes:(nn+m)*bytes<=140737488355328)(hB:B0<=w0.N)(h:∀v',At n ((d,v')::env) w0 (Rs.set k (.row B0 U s v' (nn+m) (xs++news))) K):At n env w0 Rs (λa w=>o.wp P a w K Q):=λa w hf hs=>by
 obtain⟨i,hi,hz0,hz1,hz2⟩:=hZ.info;have hown:w.ownsRow B0 U s v nn xs:=(hs.all k _ hk).1
 obtain⟨v',w',hr,h2,h3,_,h5⟩:=run_append_own_at (P:=P) w B0 T o.type U i z s bytes hT.desc hi hz0 hz1 hz2 hZ.cells hs0 v nn xs hown ad m c news hl (hnews w hs) h1 h63 hbytes (jmC hB hs.over.size);have hrun:(execOp a.eval o).run P w=.ok (.value v') w':=by
  unfold execOp;simp only[ho,resolve,invoke,builtin,Sem.run_bind,Sem.run_pure,Result.andThen_ok,jny,jmA,jnB,hf.ev hx,hf.ev hy,hr]
 show o.upon P a K Q ((execOp a.eval o).run P w);rw[hrun,Oper.upon_value,hd];refine h v' _ w' (hf.put hn v') ?_;have hlow:=(hs.all k _ hk).2.1
 refine hs.upd hk ⟨h3.os.trans hs.over.os,h3.tape.trans hs.over.tape,h3.output.trans hs.over.output,jmC hs.over.size h3.size,λc hc hx=>?_⟩ h3.size (λb hb hne=>h3.block b hb (λe=>hne e.symm)) h2 (λb hb=>?_) J
 .rw[h3.block c (jlU hc hs.over.size) (λe=>(hlow c e.symm).elim (λh1=>by omega) (λh1=>hx h1))];exact hs.over.block c hc hx
 rcases h5 with h5|h5
 .left;have hb':v'.ownBlock=some b:=hb
  rw[h5] at hb';exact hb'
 .right;have hb':v'.ownBlock=some b:=hb
  rw[h5] at hb';injection hb' with hb'
  omega
end
section
variable{P:Program}{n:Nat}{env:List (Nat×Value)}{w0:Bs}{Rs:List Res}{ops:Array Oper}{Q:Exit->Act->World->Prop}{K:Act->World->Prop}{o:Oper}
theorem Jv(t:Nat){b:Bool}(hb:look env t=some (.bool b))(h1:b=true->At n ((t,.bool true)::env) w0 Rs K)(h0:b=false->At n ((t,.bool false)::env) w0 Rs K):At n env w0 Rs K:=by
 intro a w hf hs;have hg:=hf.get _ _ hb
 have key:∀c:Bool,b=c->Frm n ((t,.bool c)::env) a:=λc hc=>⟨hf.size,λk v hk=>by
  unfold look at hk;split at hk
  .rename_i hkt;have:t=k:=jnf hkt
   subst this;injection hk with hk
   rw[hg,hc,hk]
  .exact hf.get k v hk,hf.defers⟩
 cases hc:b
 .exact h0 hc a w (key false hc) hs
 .exact h1 hc a w (key true hc) hs
theorem wg(t:Nat)(v':Value)(hv:look env t=some v)(e:v=v')(h:At n ((t,v')::env) w0 Rs K):At n env w0 Rs K:=λa w hf hs=>by
 refine h a w ⟨hf.size,λk u hk=>?_,hf.defers⟩ hs;unfold look at hk;split at hk
 .rename_i hkt;have:t=k:=jnf hkt
  subst this;injection hk with hk
  rw[hf.get _ _ hv,e,hk]
 .exact hf.get k u hk
theorem uI{x y:Code}(E:List (Nat×Value))(Rs':List Res)(hC:sub env C)(h1:∀L:Act->World->Prop,At n (E++C) w0 Rs' L->At n env w0 Rs (λa w=>x.wp P (Exit.then L Q) a w))(h2:At n (E++C) w0 Rs' (λa w=>y.wp P Q a w)):At n env w0 Rs (λa w=>(Code.seq x y).wp P Q a w):=je (h1 _ h2)
theorem qH{x y:Code}(E:List (Nat×Value))(hC:sub env C)(h1:∀L:Act->World->Prop,At n (E++C) w0 Rs L->At n env w0 Rs (λa w=>x.wp P (Exit.then L Q) a w))(h2:At n (E++C) w0 Rs (λa w=>y.wp P Q a w)):At n env w0 Rs (λa w=>(Code.seq x y).wp P Q a w):=je (h1 _ h2)
theorem ji(e:Rs=Rs')(h:At n env w0 Rs' K):At n env w0 Rs K:=e▸h
theorem jS(e:env=env')(h:At n env' w0 Rs K):At n env w0 Rs K:=e▸h
theorem Jx(hL:At n env' w0 Rs' K)(he:sub env env')(hr:∀w,St w0 Rs w->St w0 Rs' w):At n env w0 Rs K:=EN he hr hL
theorem GA(hf:Frm n env a)(hj:ops[j]? =some oj)(hdj:oj.dst=some dj)(hb:look env dj=some undef):yielded ops a.tmps j=none:=by
 have:=hf.get _ _ hb;simp only[yielded,hj,hdj,Option.bind_some];rw[Array.getD_eq_getD_getElem?] at this;cases h':a.tmps[dj]? with
 |none=>rfl
 |some u=>rw[h'] at this;simp at this;subst this;rfl
theorem qR{d:Nat}{c:Bool}(hg:o.guard=some (j,c))(hj:ops[j]? =some oj)(hdj:oj.dst=some dj)(hb:look env dj=some undef)(hd:o.dst=some d)(hn:d<n)(h:At n ((d,undef)::env) w0 Rs (λa w=>wpList P ops Q rest a w)):At n env w0 Rs (λa w=>wpList P ops Q (o::rest) a w):=by
 intro a w hf hs;have hw:Region.wanted o (yielded ops a.tmps)=false:=by simp[Region.wanted,hg,GA hf hj hdj hb]
 unfold wpList;simp only[hw];exact hd▸h _ w (hf.put hn undef) hs
def pfx:List Res->List Res->Prop
 |[],_=>True
 |_::_,[]=>False
 |a::l,b::r=>a=b/\pfx l r
theorem pfx.get:∀{l r:List Res},pfx l r->∀i,i<l.length->r[i]? =l[i]?
 |[],_,_,i,h=>absurd h (by simp)
 |_::_,[],h,_,_=>h.elim
 |a::l,b::r,h,0,_=>by obtain⟨rfl,_⟩:=h;rfl
 |a::l,b::r,h,i+1,hi=>by simpa using pfx.get h.2 i (by simpa using hi)
theorem St.upto(h:St w0 Rs w)(hp:pfx Rs' Rs):St w0 Rs' w:=h.sel id (λ_ _ _ _ e=>e) (λi hi=>hp.get i hi)
theorem St.chg{r r':Res}(h:St w0 Rs w)(hk:Rs[k]? =some r)(hP:r.P w->r'.P w)(hF:∀b,r'.F b->r.F b)(hB:r'.B=0):St w0 (Rs.set k r') w:=
 h.upd hk h.over (jlL _) (λ_ _ _=>rfl) (hP (h.all k r hk).1) (λb hb=>.inl (hF b hb)) hB
theorem JW{c:Code}(H:X->Prop)(m:X->Nat)(U:X->List (Nat×Value))(hC:sub env C)(Rs':X->List Res)(x0:X)(h0:H x0)(he:sub env (U x0++C))(hr:∀w,St w0 Rs w->St w0 (Rs' x0) w)(round:∀x,H x->∀L:Act->World->Prop,(∀y,H y->m y<m x->At n (U y++C) w0 (Rs' y) L)->At n (U x++C) w0 (Rs' x) (λa w=>c.wp P (Exit.then L Q) a w)):
  At n env w0 Rs (λa w=>(Code.loop c).wp P Q a w):=EO H m (λx=>U x++C) Rs' x0 h0 he hr round
theorem qD{c:Code}(H:X->Prop)(m:X->Nat)(U:X->List (Nat×Value))(hC:sub env C)(x0:X)(h0:H x0)(he:sub env (U x0++C))(round:∀x,H x->∀L:Act->World->Prop,(∀y,H y->m y<m x->At n (U y++C) w0 Rs L)->At n (U x++C) w0 Rs (λa w=>c.wp P (Exit.then L Q) a w)):
  At n env w0 Rs (λa w=>(Code.loop c).wp P Q a w):=EO H m (λx=>U x++C) (λ_=>Rs) x0 h0 he (λ_ h=>h) round
theorem J6{H:X->Prop}{m:X->Nat}{x:X}{U:X->List (Nat×Value)}(hL:∀y,H y->m y<m x->At n (U y++C) w0 Rs' L)(y:X)(hy:H y)(hm:m y<m x)(he:sub env (U y++C))(hr:∀w,St w0 Rs w->St w0 Rs' w):At n env w0 Rs L:=λa w hf hs=>hL y hy hm a w (hf.sub he) (hr w hs)
theorem Jn{H:X->Prop}{m:X->Nat}{x:X}{U:X->List (Nat×Value)}{Rs':X->List Res}(hL:∀y,H y->m y<m x->At n (U y++C) w0 (Rs' y) L)(y:X)(hy:H y)(hm:m y<m x)(he:sub env (U y++C))(hr:∀w,St w0 Rs w->St w0 (Rs' y) w):At n env w0 Rs L:=λa w hf hs=>hL y hy hm a w (hf.sub he) (hr w hs)
theorem Jp(ho:o.op=.pick c x y)(hc:ev env c=some (.bool true))(hx:ev env x=some v):Qt P o n env w0 Rs v:=
 kd λa w hf _=>by unfold execOp;simp only[ho,hf.ev hx,hf.ev hc];simp[asBool]
theorem jP(ho:o.op=.pick c x y)(hc:ev env c=some (.bool false))(hy:ev env y=some v):Qt P o n env w0 Rs v:=
 kd λa w hf _=>by unfold execOp;simp only[ho,hf.ev hy,hf.ev hc];simp[asBool]
theorem Jj{p:Addr}(ho:o.op=.nilCheck x)(hx:ev env x=some (.pointer (some p))):Qt P o n env w0 Rs (.pointer (some p)):=
 kd λa w hf _=>by unfold execOp;simp only[ho,hf.ev hx];simp
def evp(env:List (Nat×Value)):List (Nat×Operand)->Option (List (Nat×Value))
 |[]=>some []
 |(i,x)::r=>match ev env x with
  |none=>none
  |some v=>match evp env r with
   |none=>none
   |some vs=>some ((i,v)::vs)
theorem Frm.evp(h:Frm n env a):∀{xs:List (Nat×Operand)} {vs:List (Nat×Value)},evp env xs=some vs->xs.map (λp=>(p.1,a.eval p.2))=vs
 |[],vs,hx=>by simpa[Go.Proofs.YtjbahemkhphndaaGreat.evp] using hx
 |(i,x)::r,vs,hx=>by
  unfold Go.Proofs.YtjbahemkhphndaaGreat.evp at hx;split at hx
  .cases hx
  .rename_i v hv;split at hx
   .cases hx
   .rename_i us hus;injection hx with hx
    subst hx;rw[jmA,h.ev hv,h.evp hus]
theorem JD{T:TypeId}{vs:List (Nat×Value)}{r:Value}(ho:o.op=.build T ps.toArray)(hx:evp env ps=some vs)(hb:∀w,(Instr.build T vs.toArray).run P w=.ok r w):Qt P o n env w0 Rs r:=
 kd λa w hf _=>by
  have he:=hf.evp hx;unfold execOp;simp only[ho];have e2:(ps.toArray.map λx=>match x with|(i,x)=>(i,a.eval x))=vs.toArray:=by rw[<-he];simp
  simp only[e2,Sem.run_bind,hb,Result.andThen_ok,Sem.run_pure]
theorem j5{d:Nat}{vs:List (Nat×Value)}(ho:o.op=.buildSlice T m ps.toArray)(hx:evp env ps=some vs)(hb:∀w,(Instr.buildSlice T m vs.toArray).run P w=.ok (.slice (some ⟨w.heap.size,0,none⟩) m m) (w.alloc (.cells cs.toArray U)))(hd:o.dst=some d)(hn:d<n)(h:∀b,At n ((d,.slice (some ⟨b,0,none⟩) m m)::env) w0 (Rs++[.cel b U cs]) K):At n env w0 Rs (λa w=>o.wp P a w K Q):=λa w hf hs=>by
 have he:=hf.evp hx;have e2:(ps.toArray.map λx=>match x with|(i,x)=>(i,a.eval x))=vs.toArray:=by rw[<-he];simp
 have hrun:(execOp a.eval o).run P w=.ok (.value (.slice (some ⟨w.heap.size,0,none⟩) m m)) (w.alloc (.cells cs.toArray U)):=by
  unfold execOp;simp only[ho,e2,Sem.run_bind,hb,Result.andThen_ok,Sem.run_pure]
 show o.upon P a K Q ((execOp a.eval o).run P w);rw[hrun,Oper.upon_value,hd];exact h _ _ _ (hf.put hn _) (hs.add (Over.alloc _ _) (heap_alloc_new w _) (λb hb=>Nat.le_of_eq hb.symm) ⟨jlN _,λ_ _=>jlN _⟩)
theorem jgO(k:Nat)(hX:w0.X=[]){s m:Nat}(hk:Rs[k]? =some (.cel b U []))(h:At n env w0 (Rs.set k (.row w0.N U s (.slice (some ⟨b,0,none⟩) 0 0) 0 [])) K):At n env w0 Rs K:=λa w hf hs=>by
 have hlow:w0.N<=b:=((hs.all k _ hk).2.1 b rfl).elim id (λh=>by rw[hX] at h;cases h);refine h a w hf (hs.chg hk (λhP=>?_) (λc hc=>?_) J)
 .exact⟨by simp,.inr ⟨b,0,#[],rfl,hlow,hP,jlL _,by unfold maxLen;omega,by simp,by simp⟩⟩
 .have:some b=some c:=hc;injection this with this
  exact this.symm
structure Wr (b:Nat) (w w':World):Prop where
 os:w'.os=w.os
 tape:w'.tape=w.tape
 output:w'.output=w.output
 size:w.heap.size<=w'.heap.size
 block:∀c,c<w.heap.size->c≠b->w'.heap[c]? =w.heap[c]?
theorem Ovx.wr{w':World}(h:Ovx ⟨w,[b]⟩ w'):Wr b w w':=⟨h.os,h.tape,h.output,h.size,λc hc hne=>h.block c hc (by simpa using hne)⟩
theorem QL{f d:Nat}(hfn:FnOk P f){cs':List Value}(ho:o.op=.call {callee:=.value (.func f),args:=xs.toArray,argTypes:=ts})(hx:Fl env xs=some vs)(hd:o.dst=some d)(hn:d<n)(hk:Rs[k]? =some (.cel b U cs))(hc:∀w,St w0 Rs w->Calls P f vs.toArray w λe w'=>e=.returned v/\Wr b w w'/\w'.heap[b]? =some (.cells cs'.toArray U (0,0)))(h:At n ((d,v)::env) w0 (Rs.set k (.cel b U cs')) K):At n env w0 Rs (λa w=>o.wp P a w K Q):=λa w hF hs=>by
 show o.upon P a K Q ((execOp a.eval o).run P w);rw[xt hfn ho hx hF];refine Calls.mono (hc w hs) ?_;rintro e w' ⟨rfl,hw,hh⟩;have hlow:=(hs.all k _ hk).2.1 b rfl
 show K (a.put o.dst v) w';rw[hd];refine h _ _ (hF.put hn _) (hs.upd hk ⟨hw.os.trans hs.over.os,hw.tape.trans hs.over.tape,hw.output.trans hs.over.output,jmC hs.over.size hw.size,λc hc' hx'=>?_⟩ hw.size (λc hc' hne=>hw.block c hc' hne) hh (λc hc'=>.inl hc') J);rw[hw.block c (jlU hc' hs.over.size) (λe=>hlow.elim (λh1=>by omega) (λh1=>hx' (e▸h1)))];exact hs.over.block c hc' hx'
def qV(cs:List Value):Nat->List Value->List Value
 |_,[]=>cs
 |o,v::r=>qV (cs.set o v) (o+1) r
theorem kY:∀(vs:List Value) (cs:List Value) (o:Nat),(qV cs o vs).length=cs.length
 |[],_,_=>rfl
 |v::r,cs,o=>by rw[qV,kY r];simp
theorem FE(w:World)(b:Nat)(c d:Array Value):(w.setRow b c).setRow b d=w.setRow b d:=by
 simp only[World.setRow];congr 1;apply Array.ext_getElem?;intro i;simp only[Array.getElem?_modify];split
 .cases w.heap[i]? with
  |none=>rfl
  |some o=>cases o<;>rfl
 .rfl
theorem PH(w:World)(b:Nat)(c:Array Value)(T:TypeId)(h:w.heap[b]? =some (.cells c T (0,0))):w.setRow b c=w:=by
 have:(w.setRow b c).heap=w.heap:=by
  apply Array.ext_getElem?;intro i;by_cases hi:i=b
  .subst hi;rw[setRow_heap w i _ _ T (0,0) h,h]
  .exact setRow_other w b i c hi
 cases w;simp only[World.setRow] at this⊢;congr 1
theorem uh{b U:Nat}:∀(vs:List Value) (off i:Nat) (cs:List Value) (w:World),w.heap[b]? =some (.cells cs.toArray U (0,0))->off+i+vs.length<=cs.length->vs.all (·.oneCell')=true->
  (storeCells ⟨b,off,none⟩ vs i).run P w=.ok () (w.setRow b (qV cs (off+i) vs).toArray)
 |[],off,i,cs,w,hh,_,_=>by
  simp only[storeCells,Sem.run_pure,qV];rw[PH w b _ U hh]
 |v::r,off,i,cs,w,hh,hl,h1=>by
  simp only[List.all_cons,jlK] at h1;simp only[jlS] at hl;have hc:w.cell? ⟨b,off+i,none⟩=some cs[off+i]:=by rw[cell_of_row w b _ _ U (0,0) hh];simp<;>omega
  have hfz:w.frozen? ⟨b,off+i,none⟩=false:=by simp[World.frozen?,hh]
  have hset:w.setCell ⟨b,off+i,none⟩ v=w.setRow b (cs.set (off+i) v).toArray:=by
   simp only[World.setCell,World.setRow];congr 1;apply Array.ext_getElem?;intro j;simp only[Array.getElem?_modify];split
   .rename_i hj;subst hj;rw[hh];simp
   .rfl
  have hst:=run_store P w ⟨b,off+i,none⟩ v .plain h1.1;rw[hc] at hst;simp only[hfz,jmF,if_false,hset] at hst;have hh2:=setRow_heap w b _ (cs.set (off+i) v).toArray U (0,0) hh
  have ih:=uh r off (i+1) (cs.set (off+i) v) _ hh2 (by simp;omega) h1.2;simp only[storeCells,Sem.run_bind,kq];have hst':(store ⟨b,off+i,none⟩ v).run P w=.ok () (w.setRow b (cs.set (off+i) v).toArray):=hst
  rw[hst'];simp only[Result.andThen_ok];rw[ih,FE];rfl
theorem qN{off:Nat}(ho:o.op=.store T x y)(hd:o.dst=none)(hx:ev env x=some (.pointer (some ⟨b,off,none⟩)))(hy:ev env y=some v)(hv:v.cells=vs.toArray)(h1:vs.all (·.oneCell')=true)(hz:(P.info? T).map (·.size)=some m)(hm:vs.length=m)(hk:Rs[k]? =some (.cel b U cs))(hlt:off+vs.length<=cs.length)(h:At n env w0 (Rs.set k (.cel b U (qV cs off vs))) K):At n env w0 Rs (λa w=>o.wp P a w K Q):=λa w hf hs=>by
 have hh:=hs.cel hk;have hso:(sizeOf T).run P w=.ok m w:=by
  obtain⟨i,hi,hs'⟩:=jnm.1 hz;simp[sizeOf,typeInfo,hi,hs']
 have hst:=uh (P:=P) vs off 0 cs w hh Om h1;have hrun:(execOp a.eval o).run P w=.ok .skip (w.setRow b (qV cs off vs).toArray):=by
  unfold execOp;simp only[ho,hf.ev hx,hf.ev hy,Instr.storeAt,Instr.sureAddr,storeVar,hv];simp only[Sem.run_bind,Sem.run_pure,Result.andThen_ok,hso];have:¬(vs.toArray.size≠m):=by simp[hm]
  simp only[this,if_false,hst,Result.andThen_ok];rfl
 show o.upon P a K Q ((execOp a.eval o).run P w);rw[hrun,Oper.upon_skip,hd];exact h _ _ hf (hs.store hk)
end
section
variable{P:Program}{n:Nat}{env:List (Nat×Value)}{w0:Bs}{Rs:List Res}{ops:Array Oper}{Q:Exit->Act->World->Prop}{K:Act->World->Prop}{o:Oper}
theorem n9(h:At n env w0 Rs' K)(e:Rs=Rs':=by simp only[jN,jO,jL,jM,Value.cells,Jk];rfl):At n env w0 Rs K:=ji e h
theorem r9(h:At n env w0 Rs' K)(e:Rs=Rs':=by first|(dsimp only;done)|(dsimp only;rfl)|rfl):At n env w0 Rs K:=ji e h
theorem t9(h:At n env w0 Rs' K)(e:Rs=Rs':=by simp only[jmt,jmf,List.set_cons_zero,List.set_cons_succ,List.eraseIdx_cons_zero,List.eraseIdx_cons_succ,Value.cells,jmP];rfl):At n env w0 Rs K:=ji e h
theorem jlH:∀(l X:List Res),pfx l (l++X)
  |[],_=>trivial
  |_::l,X=>⟨rfl,jlH l X⟩
theorem u9{Rs0 X:List Res}(e:Rs0++X=Rs):∀w,St w0 Rs w->St w0 Rs0 w:=λw h=>h.upto (e▸jlH Rs0 X)
theorem sz(h:p:=by repeat (first|exact trivial|refine⟨rfl,?_⟩)):p:=h
inductive KP (env:List (Nat×Value)):List Nat->List (Nat×Value)->Prop
  |nil:KP env [] []
  |cons {k:Nat} {v:Value} {ks:List Nat} {C:List (Nat×Value)} (h:look env k=some v) (t:KP env ks C):KP env (k::ks) ((k,v)::C)
theorem KP.sub{env:List (Nat×Value)}:∀{ks:List Nat} {C:List (Nat×Value)},KP env ks C->Go.Proofs.YtjbahemkhphndaaGreat.sub env C
  |_,_,.nil=>trivial
  |_,_,.cons h t=>⟨h,t.sub⟩
theorem kC1{env:List (Nat×Value)}{k:Nat}{v:Value}{ks:List Nat}{C:List (Nat×Value)}(h:look env k=some v:=by exact rfl)(t:KP env ks C:=by first|exact KP.nil|exact kC1):KP env (k::ks) ((k,v)::C):=.cons h t
theorem kK(ks:List Nat)(h:KP env ks C:=by first|exact KP.nil|exact kC1):Go.Proofs.YtjbahemkhphndaaGreat.sub env C:=h.sub
theorem cZ{x y:Code}{t:Bool}{q:Prop}(h1:p->At n env w0 Rs (λa w=>x.wp P Q a w))(h2:q->At n env w0 Rs (λa w=>y.wp P Q a w))(hc:ev env c=some (.bool t):=by exact rfl)(hp:(t=true)=p:=by first|(simp only[zz];rfl)|rfl)(hq:(t=false)=q:=by first|(simp only[zz];rfl)|rfl):At n env w0 Rs (λa w=>(Code.cond c x y).wp P Q a w):=
  jt hc (λe=>h1 (hp▸e)) (λe=>h2 (hq▸e))
theorem cV(t:Nat){b:Bool}{q:Prop}(h1:p->At n ((t,.bool true)::env) w0 Rs K)(h0:q->At n ((t,.bool false)::env) w0 Rs K)(hb:look env t=some (.bool b):=by exact rfl)(hp:(b=true)=p:=by first|(simp only[zz];rfl)|rfl)(hq:(b=false)=q:=by first|(simp only[zz];rfl)|rfl):At n env w0 Rs K:=
  Jv t hb (λe=>h1 (hp▸e)) (λe=>h0 (hq▸e))
theorem v9(h:At n env' w0 Rs K)(e:env=env':=by simp only[jN,jO];rfl):At n env w0 Rs K:=jS e h
end
theorem yz:∀(vs a cs c:List Value),cs.length=vs.length->qV (a++cs++c) a.length vs=a++vs++c
 |[],a,cs,c,h=>by
  have:cs=[]:=jmh (by simpa using h);subst this;rfl
 |v::r,a,[],c,h=>by simp at h
 |v::r,a,x::cs,c,h=>by
  have e:(a++x::cs++c).set a.length v=(a++[v])++cs++c:=by
   rw[jlT,jne _ _ (jlL _),Nat.sub_self];simp
  rw[qV,e];have:=yz r (a++[v]) cs c (by simpa using h)
  rw[jlJ] at this;rw[show a.length+1=a.length+[v].length from rfl,this];simp
theorem Et(vs cs:List Value)(h:cs.length=vs.length):qV cs 0 vs=vs:=by
 have:=yz vs [] cs [] h;simpa using this
section
variable{P:Program}{n:Nat}{env:List (Nat×Value)}{w0:Bs}{Rs:List Res}{ops:Array Oper}{Q:Exit->Act->World->Prop}{K:Act->World->Prop}{o:Oper}
theorem jl(ho:o.op=.store T x y)(hd:o.dst=none)(hx:ev env x=some (.pointer (some ⟨b,0,none⟩)))(hy:ev env y=some v)(hv:v.cells=vs.toArray)(h1:vs.all (·.oneCell')=true)(hz:(P.info? T).map (·.size)=some m)(hm:vs.length=m)(hk:Rs[k]? =some (.cel b U cs))(hl:cs.length=m)(h:At n env w0 (Rs.set k (.cel b U vs)) K):At n env w0 Rs (λa w=>o.wp P a w K Q):=
 qN ho hd hx hy hv h1 hz hm hk Om (by rw[Et vs cs Om];exact h)
theorem j9(k:Nat)(hz:(P.info? T).map (·.size)=some m)(h:At n env w0 (Rs.set k (.cel b U vs)) K)(ho:o.op=.store T x y:=by exact rfl)(hd:o.dst=none:=by exact rfl)(hx:ev env x=some (.pointer (some ⟨b,0,none⟩)):=by exact rfl)(hy:ev env y=some v:=by exact rfl)(hv:v.cells=vs.toArray:=by exact rfl)(h1:vs.all (·.oneCell')=true:=by rfl)(hm:vs.length=m:=by exact rfl)(hk:Rs[k]? =some (.cel b U cs):=by exact rfl)(hl:cs.length=m:=by exact rfl):At n env w0 Rs (λa w=>o.wp P a w K Q):=jl ho hd hx hy hv h1 hz hm hk hl h
theorem xi(ho:o.op=.store T x y)(hd:o.dst=none)(hx:ev env x=some (.pointer (some ⟨b,1,none⟩)))(hy:ev env y=some v)(hv:v.cells=#[v0])(h1:[v0].all (·.oneCell')=true)(hz:(P.info? T).map (·.size)=some 1)(hk:Rs[k]? =some (.cel b U [c0,c1,c2]))(h:At n env w0 (Rs.set k (.cel b U [c0,v0,c2])) K):At n env w0 Rs (λa w=>o.wp P a w K Q):=qN (off:=1) (vs:=[v0]) ho hd hx hy hv h1 hz rfl hk (lb rfl) h
theorem xj(ho:o.op=.store T x y)(hd:o.dst=none)(hx:ev env x=some (.pointer (some ⟨b,2,none⟩)))(hy:ev env y=some v)(hv:v.cells=#[v0])(h1:[v0].all (·.oneCell')=true)(hz:(P.info? T).map (·.size)=some 1)(hk:Rs[k]? =some (.cel b U [c0,c1,c2]))(h:At n env w0 (Rs.set k (.cel b U [c0,c1,v0])) K):At n env w0 Rs (λa w=>o.wp P a w K Q):=qN (off:=2) (vs:=[v0]) ho hd hx hy hv h1 hz rfl hk (lb rfl) h
theorem B6(ho:o.op=.store T x y)(hd:o.dst=none)(hx:ev env x=some (.pointer (some ⟨b,0,none⟩)))(hy:ev env y=some v)(hv:v.cells=#[v0,v1])(h1:[v0,v1].all (·.oneCell')=true)(hz:(P.info? T).map (·.size)=some 2)(hk:Rs[k]? =some (.cel b U [c0,c1,c2,c3]))(h:At n env w0 (Rs.set k (.cel b U [v0,v1,c2,c3])) K):At n env w0 Rs (λa w=>o.wp P a w K Q):=qN (off:=0) (vs:=[v0,v1]) ho hd hx hy hv h1 hz rfl hk (lb rfl) h
theorem B7(ho:o.op=.store T x y)(hd:o.dst=none)(hx:ev env x=some (.pointer (some ⟨b,2,none⟩)))(hy:ev env y=some v)(hv:v.cells=#[v0,v1])(h1:[v0,v1].all (·.oneCell')=true)(hz:(P.info? T).map (·.size)=some 2)(hk:Rs[k]? =some (.cel b U [c0,c1,c2,c3]))(h:At n env w0 (Rs.set k (.cel b U [c0,c1,v0,v1])) K):At n env w0 Rs (λa w=>o.wp P a w K Q):=qN (off:=2) (vs:=[v0,v1]) ho hd hx hy hv h1 hz rfl hk (lb rfl) h
theorem B8(ho:o.op=.store T x y)(hd:o.dst=none)(hx:ev env x=some (.pointer (some ⟨b,0,none⟩)))(hy:ev env y=some v)(hv:v.cells=#[v0])(h1:[v0].all (·.oneCell')=true)(hz:(P.info? T).map (·.size)=some 1)(hk:Rs[k]? =some (.cel b U [c0,c1,c2,c3,c4,c5]))(h:At n env w0 (Rs.set k (.cel b U [v0,c1,c2,c3,c4,c5])) K):At n env w0 Rs (λa w=>o.wp P a w K Q):=qN (off:=0) (vs:=[v0]) ho hd hx hy hv h1 hz rfl hk (lb rfl) h
theorem Da(ho:o.op=.store T x y)(hd:o.dst=none)(hx:ev env x=some (.pointer (some ⟨b,1,none⟩)))(hy:ev env y=some v)(hv:v.cells=#[v0])(h1:[v0].all (·.oneCell')=true)(hz:(P.info? T).map (·.size)=some 1)(hk:Rs[k]? =some (.cel b U [c0,c1,c2,c3,c4,c5]))(h:At n env w0 (Rs.set k (.cel b U [c0,v0,c2,c3,c4,c5])) K):At n env w0 Rs (λa w=>o.wp P a w K Q):=qN (off:=1) (vs:=[v0]) ho hd hx hy hv h1 hz rfl hk (lb rfl) h
theorem Db(ho:o.op=.store T x y)(hd:o.dst=none)(hx:ev env x=some (.pointer (some ⟨b,2,none⟩)))(hy:ev env y=some v)(hv:v.cells=#[v0])(h1:[v0].all (·.oneCell')=true)(hz:(P.info? T).map (·.size)=some 1)(hk:Rs[k]? =some (.cel b U [c0,c1,c2,c3,c4,c5]))(h:At n env w0 (Rs.set k (.cel b U [c0,c1,v0,c3,c4,c5])) K):At n env w0 Rs (λa w=>o.wp P a w K Q):=qN (off:=2) (vs:=[v0]) ho hd hx hy hv h1 hz rfl hk (lb rfl) h
theorem Dd(ho:o.op=.store T x y)(hd:o.dst=none)(hx:ev env x=some (.pointer (some ⟨b,3,none⟩)))(hy:ev env y=some v)(hv:v.cells=#[v0])(h1:[v0].all (·.oneCell')=true)(hz:(P.info? T).map (·.size)=some 1)(hk:Rs[k]? =some (.cel b U [c0,c1,c2,c3,c4,c5]))(h:At n env w0 (Rs.set k (.cel b U [c0,c1,c2,v0,c4,c5])) K):At n env w0 Rs (λa w=>o.wp P a w K Q):=qN (off:=3) (vs:=[v0]) ho hd hx hy hv h1 hz rfl hk (lb rfl) h
theorem Df(ho:o.op=.store T x y)(hd:o.dst=none)(hx:ev env x=some (.pointer (some ⟨b,4,none⟩)))(hy:ev env y=some v)(hv:v.cells=#[v0])(h1:[v0].all (·.oneCell')=true)(hz:(P.info? T).map (·.size)=some 1)(hk:Rs[k]? =some (.cel b U [c0,c1,c2,c3,c4,c5]))(h:At n env w0 (Rs.set k (.cel b U [c0,c1,c2,c3,v0,c5])) K):At n env w0 Rs (λa w=>o.wp P a w K Q):=qN (off:=4) (vs:=[v0]) ho hd hx hy hv h1 hz rfl hk (lb rfl) h
theorem Dg(ho:o.op=.store T x y)(hd:o.dst=none)(hx:ev env x=some (.pointer (some ⟨b,5,none⟩)))(hy:ev env y=some v)(hv:v.cells=#[v0])(h1:[v0].all (·.oneCell')=true)(hz:(P.info? T).map (·.size)=some 1)(hk:Rs[k]? =some (.cel b U [c0,c1,c2,c3,c4,c5]))(h:At n env w0 (Rs.set k (.cel b U [c0,c1,c2,c3,c4,v0])) K):At n env w0 Rs (λa w=>o.wp P a w K Q):=qN (off:=5) (vs:=[v0]) ho hd hx hy hv h1 hz rfl hk (lb rfl) h
theorem B9(ho:o.op=.store T x y)(hd:o.dst=none)(hx:ev env x=some (.pointer (some ⟨b,0,none⟩)))(hy:ev env y=some v)(hv:v.cells=#[v0,v1,v2])(h1:[v0,v1,v2].all (·.oneCell')=true)(hz:(P.info? T).map (·.size)=some 3)(hk:Rs[k]? =some (.cel b U [c0,c1,c2,c3,c4,c5]))(h:At n env w0 (Rs.set k (.cel b U [v0,v1,v2,c3,c4,c5])) K):At n env w0 Rs (λa w=>o.wp P a w K Q):=qN (off:=0) (vs:=[v0,v1,v2]) ho hd hx hy hv h1 hz rfl hk (lb rfl) h
theorem De(ho:o.op=.store T x y)(hd:o.dst=none)(hx:ev env x=some (.pointer (some ⟨b,3,none⟩)))(hy:ev env y=some v)(hv:v.cells=#[v0,v1,v2])(h1:[v0,v1,v2].all (·.oneCell')=true)(hz:(P.info? T).map (·.size)=some 3)(hk:Rs[k]? =some (.cel b U [c0,c1,c2,c3,c4,c5]))(h:At n env w0 (Rs.set k (.cel b U [c0,c1,c2,v0,v1,v2])) K):At n env w0 Rs (λa w=>o.wp P a w K Q):=qN (off:=3) (vs:=[v0,v1,v2]) ho hd hx hy hv h1 hz rfl hk (lb rfl) h
theorem xl(ho:o.op=.store T x y)(hd:o.dst=none)(hx:ev env x=some (.pointer (some ⟨b,4,none⟩)))(hy:ev env y=some v)(hv:v.cells=#[v0])(h1:[v0].all (·.oneCell')=true)(hz:(P.info? T).map (·.size)=some 1)(hk:Rs[k]? =some (.cel b U [c0,c1,c2,c3,c4,c5,c6]))(h:At n env w0 (Rs.set k (.cel b U [c0,c1,c2,c3,v0,c5,c6])) K):At n env w0 Rs (λa w=>o.wp P a w K Q):=qN (off:=4) (vs:=[v0]) ho hd hx hy hv h1 hz rfl hk (lb rfl) h
theorem xm(ho:o.op=.store T x y)(hd:o.dst=none)(hx:ev env x=some (.pointer (some ⟨b,5,none⟩)))(hy:ev env y=some v)(hv:v.cells=#[v0])(h1:[v0].all (·.oneCell')=true)(hz:(P.info? T).map (·.size)=some 1)(hk:Rs[k]? =some (.cel b U [c0,c1,c2,c3,c4,c5,c6]))(h:At n env w0 (Rs.set k (.cel b U [c0,c1,c2,c3,c4,v0,c6])) K):At n env w0 Rs (λa w=>o.wp P a w K Q):=qN (off:=5) (vs:=[v0]) ho hd hx hy hv h1 hz rfl hk (lb rfl) h
theorem xn(ho:o.op=.store T x y)(hd:o.dst=none)(hx:ev env x=some (.pointer (some ⟨b,6,none⟩)))(hy:ev env y=some v)(hv:v.cells=#[v0])(h1:[v0].all (·.oneCell')=true)(hz:(P.info? T).map (·.size)=some 1)(hk:Rs[k]? =some (.cel b U [c0,c1,c2,c3,c4,c5,c6]))(h:At n env w0 (Rs.set k (.cel b U [c0,c1,c2,c3,c4,c5,v0])) K):At n env w0 Rs (λa w=>o.wp P a w K Q):=qN (off:=6) (vs:=[v0]) ho hd hx hy hv h1 hz rfl hk (lb rfl) h
theorem Dh{c7:Value}(ho:o.op=.store T x y)(hd:o.dst=none)(hx:ev env x=some (.pointer (some ⟨b,4,none⟩)))(hy:ev env y=some v)(hv:v.cells=#[v0,v1])(h1:[v0,v1].all (·.oneCell')=true)(hz:(P.info? T).map (·.size)=some 2)(hk:Rs[k]? =some (.cel b U [c0,c1,c2,c3,c4,c5,c6,c7]))(h:At n env w0 (Rs.set k (.cel b U [c0,c1,c2,c3,v0,v1,c6,c7])) K):At n env w0 Rs (λa w=>o.wp P a w K Q):=qN (off:=4) (vs:=[v0,v1]) ho hd hx hy hv h1 hz rfl hk (lb rfl) h
end
end Go.Proofs.YtjbahemkhphndaaGreat
