import Derived.Test.YtjbahemkhphndaaGreatNMem
import Derived.Deep.AppendLies
set_option linter.unusedVariables false
set_option linter.unusedSimpArgs false
namespace Go.Proofs.YtjbahemkhphndaaGreat
open Go Go.RowKit
variable{A:Option Addr}{K K':Act->World->Prop}{R:Ending->World->Prop}{T T':TypeId}{X:Type}{a:Act}{b d dj i id j k m n off:Nat}{c:Code}{cs vs:List Value}{env':List (Nat×Value)}{f:FuncId}{fn:Func}{l rest:List Oper}{o oj:Oper}{t:Bool}{ts:Array TypeId}{v z:Value}{w w':World}{x y:Operand}{xs:List Operand}
structure Res where
 F:Nat->Prop
 P:World->Prop
 low:∀w,P w->∀b,F b->b<w.heap.size
 B:Nat
 dep:∀w w',P w->w.heap.size<=w'.heap.size->(∀b,b<w.heap.size->b<B\/F b->w'.heap[b]? =w.heap[b]?)->P w'
theorem J3{o:Obj}(h:w.heap[b]? =some o):b<w.heap.size:=(Array.getElem?_eq_some_iff.1 h).1
def Res.cel(b:Nat)(T:TypeId)(cs:List Value):Res where
 F:=(· =b)
 P:=λw=>w.heap[b]? =some (.cells cs.toArray T (0,0))
 low:=λ_ h _ hk=>hk▸J3 h
 B:=0
 dep:=λ_ _ h _ hb=>(hb b (J3 h) (.inr rfl)).trans h
def Res.row(B0:Nat)(T:TypeId)(s:Nat)(v:Value)(n:Nat)(xs:List Value):Res where
 F:=λk=>v.ownBlock=some k
 P:=λw=>w.ownsRow B0 T s v n xs
 low:=λ_ h k hk=>(h.lt k hk).2
 B:=0
 dep:=λw w' h _ hb=>by
  refine⟨h.1,?_⟩;rcases h.2 with hn|⟨g,cap,cur,rfl,hB,hgg,rest⟩
  .exact .inl hn
  .exact .inr ⟨g,cap,cur,rfl,hB,(hb g (J3 hgg) (.inr rfl)).trans hgg,rest⟩
structure Bs where
 w:World
 X:List Nat
def Bs.N(w0:Bs):Nat:=w0.w.heap.size
structure Ovx (w0:Bs) (w:World):Prop where
 os:w.os=w0.w.os
 tape:w.tape=w0.w.tape
 output:w.output=w0.w.output
 size:w0.N<=w.heap.size
 block:∀b,b<w0.N->b∉w0.X->w.heap[b]? =w0.w.heap[b]?
theorem Ovx.trans{w0:Bs}{a b:World}(h:Ovx w0 a)(k:Over a b):Ovx w0 b:=
 ⟨k.out.os.trans h.os,k.out.tape.trans h.tape,k.out.output.trans h.output,jmC h.size k.size,λc hc hx=>(k.out.block c (jlU hc h.size)).trans (h.block c hc hx)⟩
theorem Ovx.fin{w0:World}(h:Ovx ⟨w0,[]⟩ w):Over w0 w:=⟨h.os,h.tape,h.output,h.size,λc hc=>h.block c hc (by simp)⟩
theorem Ovx.of{w0:World}(h:Over w0 w):Ovx ⟨w0,[]⟩ w:=⟨h.out.os,h.out.tape,h.out.output,h.size,λc hc _=>h.out.block c hc⟩
def Bs.mine(w0:Bs)(b:Nat):Prop:=w0.N<=b\/b∈w0.X
structure St (w0:Bs) (Rs:List Res) (w:World):Prop where
 over:Ovx w0 w
 all:∀(i:Nat) (r:Res),Rs[i]? =some r->r.P w/\(∀b,r.F b->w0.mine b)/\r.B<=w0.N/\∀b∈w0.X,r.B<=b
 apart:∀(i j:Nat) (r s:Res),i≠j->Rs[i]? =some r->Rs[j]? =some s->∀b,r.F b->¬s.F b
theorem St.start(w:World):St ⟨w,[]⟩ [] w:=⟨Ovx.of (Over.refl _),λi r h=>by simp at h,λi j r s _ h=>by simp at h⟩
theorem St.fin{Rs:List Res}(h:St ⟨w,[]⟩ Rs w'):Over w w':=h.over.fin
theorem St.start1(w:World)(b T:Nat)(cs:List Value)(h:w.heap[b]? =some (.cells cs.toArray T (0,0))):St ⟨w,[b]⟩ [.cel b T cs] w:=by
 refine⟨⟨J,J,J,jlL _,λ_ _ _=>rfl⟩,λi r hi=>?_,λi j r s hij hi hj=>?_⟩
 .match i,hi with
  |0,hi=>
   simp at hi;subst hi;exact⟨h,λc hc=>.inr (by cases hc;simp),jlN _,λ_ _=>jlN _⟩
 .match i,j,hi,hj with
  |0,0,_,_=>exact absurd rfl hij
theorem St.over_{w0:Bs}{Rs:List Res}(h:St w0 Rs w)(ho:Over w w'):St w0 Rs w':=
 ⟨h.over.trans ho,λi r hi=>⟨r.dep w w' (h.all i r hi).1 ho.size (λb hb _=>ho.out.block b hb),(h.all i r hi).2⟩,h.apart⟩
theorem St.lt{w0:Bs}{Rs:List Res}(h:St w0 Rs w){r:Res}(hi:Rs[i]? =some r)(hb:r.F b):b<w.heap.size:=r.low w (h.all i r hi).1 b hb
theorem St.upd{w0:Bs}{Rs:List Res}{r r':Res}(h:St w0 Rs w)(hk:Rs[k]? =some r)(ho:Ovx w0 w')(hz:w.heap.size<=w'.heap.size)(hb:∀b,b<w.heap.size->¬r.F b->w'.heap[b]? =w.heap[b]?)(hP:r'.P w')(hF:∀b,r'.F b->r.F b\/w.heap.size<=b)(hB:r'.B=0):St w0 (Rs.set k r') w':=by
 have hkl:k<Rs.length:=(List.getElem?_eq_some_iff.1 hk).1;have hset:∀(i:Nat) (s:Res),(Rs.set k r')[i]? =some s->(i=k/\s=r')\/(i≠k/\Rs[i]? =some s):=by
  intro i s hi;rw[List.getElem?_set] at hi;by_cases hik:k=i
  .subst hik;rw[if_pos rfl,if_pos hkl] at hi;exact .inl ⟨rfl,by simpa using hi.symm⟩
  .rw[if_neg hik] at hi;exact .inr ⟨λe=>hik e.symm,hi⟩
 have hlow:∀b,r'.F b->w0.mine b:=λb hb'=>(hF b hb').elim (λh'=>(h.all k r hk).2.1 b h') (λh'=>.inl (jmC h.over.size h'))
 refine⟨ho,λi s hi=>?_,λi j s t hij hi hj b hs ht=>?_⟩
 .rcases hset i s hi with⟨rfl,rfl⟩|⟨hne,hi'⟩
  .exact⟨hP,hlow,by rw[hB];exact jlN _,λ_ _=>by rw[hB];exact jlN _⟩
  .have hs:=h.all i s hi';refine⟨s.dep w w' hs.1 hz (λb hlt hor=>?_),hs.2⟩;rcases hor with hor|hor
   .exact hb b hlt (λhr=>((h.all k r hk).2.1 b hr).elim (λh1=>by have:=hs.2.2.1;omega) (λh1=>by have:=hs.2.2.2 b h1;omega))
   .exact hb b hlt (λhr=>h.apart i k s r hne hi' hk b hor hr)
 .rcases hset i s hi with⟨rfl,rfl⟩|⟨hne,hi'⟩
  .rcases hset j t hj with⟨rfl,rfl⟩|⟨hne',hj'⟩
   .exact hij rfl
   .rcases hF b hs with h1|h1
    .exact h.apart i j r t hij hk hj' b h1 ht
    .have:=h.lt hj' ht;omega
  .rcases hset j t hj with⟨rfl,rfl⟩|⟨hne',hj'⟩
   .rcases hF b ht with h1|h1
    .exact h.apart i j s r hij hi' hk b hs h1
    .have:=h.lt hi' hs;omega
   .exact h.apart i j s t hij hi' hj' b hs ht
theorem St.add{w0:Bs}{Rs:List Res}{r:Res}(h:St w0 Rs w)(ho:Over w w')(hP:r.P w')(hF:∀b,r.F b->w.heap.size<=b)(hB:r.B<=w0.N/\∀b∈w0.X,r.B<=b):St w0 (Rs++[r]) w':=by
 have hget:∀(i:Nat) (s:Res),(Rs++[r])[i]? =some s->(i=Rs.length/\s=r)\/(i≠Rs.length/\Rs[i]? =some s):=by
  intro i s hi;rcases jmU i Rs.length with hlt|hge
  .rw[List.getElem?_append_left hlt] at hi;exact .inr ⟨by omega,hi⟩
  .rw[List.getElem?_append_right hge] at hi;have:i-Rs.length=0:=by
    rcases jmU 0 (i-Rs.length) with h0|h0
    .rw[List.getElem?_eq_none (by simp only[jmE];omega)] at hi;cases hi
    .omega
   rw[this] at hi;exact .inl ⟨by omega,by simpa using hi.symm⟩
 have h2:=h.over_ ho;refine⟨h2.over,λi s hi=>?_,λi j s t hij hi hj b hs ht=>?_⟩
 .rcases hget i s hi with⟨_,rfl⟩|⟨_,hi'⟩
  .exact⟨hP,λb hb=>.inl (jmC h.over.size (hF b hb)),hB⟩
  .exact h2.all i s hi'
 .rcases hget i s hi with⟨e1,rfl⟩|⟨_,hi'⟩
  .rcases hget j t hj with⟨e2,rfl⟩|⟨_,hj'⟩
   .exact hij (e1.trans e2.symm)
   .have:=h.lt hj' ht;have:=hF b hs;omega
  .rcases hget j t hj with⟨_,rfl⟩|⟨_,hj'⟩
   .have:=h.lt hi' hs;have:=hF b ht;omega
   .exact h.apart i j s t hij hi' hj' b hs ht
theorem St.sel{w0:Bs}{Rs Rs':List Res}(h:St w0 Rs w)(f:Nat->Nat)(hf:∀i j,i<Rs'.length->j<Rs'.length->f i=f j->i=j)(hg:∀i,i<Rs'.length->Rs[f i]? =Rs'[i]?):St w0 Rs' w:=by
 have key:∀(i:Nat) (r:Res),Rs'[i]? =some r->i<Rs'.length/\Rs[f i]? =some r:=λi r hi=>
  have hlt:=(List.getElem?_eq_some_iff.1 hi).1
  ⟨hlt,(hg i hlt).trans hi⟩
 exact⟨h.over,λi r hi=>h.all _ r (key i r hi).2,λi j r s hij hi hj=>h.apart _ _ r s (λe=>hij (hf i j (key i r hi).1 (key j s hj).1 e)) (key i r hi).2 (key j s hj).2⟩
theorem St.pre{w0:Bs}{Rs Rs':List Res}(h:St w0 (Rs++Rs') w):St w0 Rs w:=
 h.sel id (λ_ _ _ _ e=>e) (λi hi=>by simp only[id];rw[List.getElem?_append_left hi])
def yI(w0:Bs)(Rs:List Res):Base:=⟨St w0 Rs,λ_ _ h k=>h.over_ k⟩
def look:List (Nat×Value)->Nat->Option Value
 |[],_=>none
 |(k,v)::r,t=>match Nat.beq k t with
  |true=>some v
  |false=>look r t
def ev(env:List (Nat×Value)):Operand->Option Value
 |.tmp t=>look env t
 |.const v=>some v
 |.global g=>some (.pointer (some ⟨g,0,none⟩))
 |.func f=>some (.func (.func f) #[] #[])
def Fl(env:List (Nat×Value)):List Operand->Option (List Value)
 |[]=>some []
 |x::r=>match ev env x with
  |none=>none
  |some v=>match Fl env r with
   |none=>none
   |some vs=>some (v::vs)
structure Frm (n:Nat) (env:List (Nat×Value)) (a:Act):Prop where
 size:a.tmps.size=n
 get:∀t v,look env t=some v->a.tmps.getD t undef=v
 defers:a.defers=[]
theorem Frm.ev{env:List (Nat×Value)}(h:Frm n env a)(hx:ev env x=some v):a.eval x=v:=by
 cases x with
 |tmp t=>exact h.get t v hx
 |const c=>simpa[Go.Proofs.YtjbahemkhphndaaGreat.ev,Act.eval] using hx
 |global g=>simpa[Go.Proofs.YtjbahemkhphndaaGreat.ev,Act.eval] using hx
 |func f=>simpa[Go.Proofs.YtjbahemkhphndaaGreat.ev,Act.eval] using hx
theorem Frm.evs{env:List (Nat×Value)}(h:Frm n env a):∀{xs:List Operand} {vs:List Value},Fl env xs=some vs->xs.map a.eval=vs
 |[],vs,hx=>by simpa[Go.Proofs.YtjbahemkhphndaaGreat.Fl] using hx
 |x::r,vs,hx=>by
  unfold Go.Proofs.YtjbahemkhphndaaGreat.Fl at hx;split at hx
  .cases hx
  .rename_i v hv;split at hx
   .cases hx
   .rename_i us hus;injection hx with hx
    subst hx;rw[jmA,h.ev hv,h.evs hus]
theorem Frm.put{env:List (Nat×Value)}(h:Frm n env a)(hd:d<n)(v:Value):Frm n ((d,v)::env) (a.put (some d) v):=by
 refine⟨by simp[Act.put,h.size],λt u hu=>?_,h.defers⟩;unfold look at hu;split at hu
 .rename_i hb;have:d=t:=jnf hb
  subst this;injection hu with hu
  subst hu;simp[Act.put,h.size,hd]
 .rename_i hb;have hne:d≠t:=λe=>by subst e;simp at hb
  simp only[Act.put];have:=h.get t u hu
  simpa[Array.getElem?_setIfInBounds_ne hne] using this
def sub(env:List (Nat×Value)):List (Nat×Value)->Prop
 |[]=>True
 |(k,v)::r=>look env k=some v/\sub env r
theorem sub.get{env:List (Nat×Value)}:∀{e:List (Nat×Value)},sub env e->∀{t v},look e t=some v->look env t=some v
 |[],_,t,v,h=>by simp[look] at h
 |(k,u)::r,hs,t,v,h=>by
  unfold look at h;split at h
  .rename_i hb;have:k=t:=jnf hb
   subst this;injection h with h
   subst h;exact hs.1
  .exact hs.2.get h
theorem Frm.sub{env e:List (Nat×Value)}(h:Frm n env a)(hs:sub env e):Frm n e a:=⟨h.size,λt v hv=>h.get t v (hs.get hv),h.defers⟩
def At(n:Nat)(env:List (Nat×Value))(w0:Bs)(Rs:List Res)(K:Act->World->Prop):Prop:=∀a w,Frm n env a->St w0 Rs w->K a w
section
variable{P:Program}{n:Nat}{env:List (Nat×Value)}{w0:Bs}{Rs:List Res}{ops:Array Oper}{Q:Exit->Act->World->Prop}{K:Act->World->Prop}
theorem At.imp(h:At n env w0 Rs K)(hk:∀a w,K a w->K' a w):At n env w0 Rs K':=λa w hf hs=>hk a w (h a w hf hs)
theorem EN{Rs':List Res}(he:sub env env')(hr:∀w,St w0 Rs w->St w0 Rs' w)(h:At n env' w0 Rs' K):At n env w0 Rs K:=λa w hf hs=>h a w (hf.sub he) (hr w hs)
theorem jkI{Rs':List Res}(hr:∀w,St w0 Rs w->St w0 Rs' w)(h:At n env w0 Rs' K):At n env w0 Rs K:=λa w hf hs=>h a w hf (hr w hs)
theorem kW{X:Prop}(hx:∀w,St w0 Rs w->X)(h:X->At n env w0 Rs K):At n env w0 Rs K:=λa w hf hs=>h (hx w hs) a w hf hs
theorem Bc{env:List (Nat×Value)}(hf:P.funcs[f]? =some fn)(hb:fn.body=some c)(hl:vs.length<=fn.ntmps)(he:∀t v,look env t=some v->vs[t]? =some v)(h:At fn.ntmps env w0 Rs (λa w=>c.wp P (bodyPost P fn R) a w))(hS:St w0 Rs w):Calls P f vs.toArray w R:=by
 refine calls_of_wp hf hb (h _ _ ⟨by simp;omega,λt v hv=>?_,J⟩ hS);have:=he t v hv
 have hlt:=(List.getElem?_eq_some_iff.1 this).1;simp only[jmJ];rw[Array.getD_eq_getD_getElem?,Array.getElem?_append_left (by simpa using hlt)];simp[this]
def Bw:Nat->List Value->List (Nat×Value)
 |_,[]=>[]
 |k,v::r=>(k,v)::Bw (k+1) r
theorem zF:∀(vs:List Value) (k t:Nat) (v:Value),look (Bw k vs) t=some v->k<=t/\vs[t-k]? =some v
 |[],k,t,v,h=>by simp[Bw,look] at h
 |u::r,k,t,v,h=>by
  unfold Bw look at h;split at h
  .rename_i hb;have:k=t:=jnf hb
   subst this;injection h with h
   subst h;simp
  .obtain⟨h1,h2⟩:=zF r (k+1) t v h;refine⟨by omega,?_⟩;rw[show t-k=(t-(k+1))+1 by omega];simpa using h2
theorem Jm{f:Nat}(hf:P.funcs[f]? =some fn)(hb:fn.body=some c)(hm:fn.ntmps=m)(hl:vs.length<=m)(h:At m (Bw 0 vs) ⟨w,[]⟩ [] (λa w=>c.wp P (bodyPost P fn R) a w)):Calls P f vs.toArray w R:=by
 subst hm;exact Bc hf hb hl (λt v hv=>by simpa using (zF vs 0 t v hv).2) h (St.start w)
theorem Q8{f T:Nat}(hf:P.funcs[f]? =some fn)(hb:fn.body=some c)(hm:fn.ntmps=m)(hl:vs.length<=m)(hh:w.heap[b]? =some (.cells cs.toArray T (0,0)))(h:At m (Bw 0 vs) ⟨w,[b]⟩ [.cel b T cs] (λa w=>c.wp P (bodyPost P fn R) a w)):Calls P f vs.toArray w R:=by
 subst hm;exact Bc hf hb hl (λt v hv=>by simpa using (zF vs 0 t v hv).2) h (St.start1 w b T cs hh)
theorem je{x y:Code}(h:At n env w0 Rs (λa w=>x.wp P (Exit.then (y.wp P Q) Q) a w)):At n env w0 Rs (λa w=>(Code.seq x y).wp P Q a w):=λa w hf hs=>wp_seq (h a w hf hs)
theorem jv(h:At n env w0 Rs (λa w=>c.wp P (Exit.inBlock id Q) a w)):At n env w0 Rs (λa w=>(Code.block id c).wp P Q a w):=λa w hf hs=>wp_block (h a w hf hs)
theorem jz(h:At n env w0 Rs (λa w=>Q .normal a w)):At n env w0 Rs (λa w=>Code.skip.wp P Q a w):=λa w hf hs=>wp_skip (h a w hf hs)
theorem JB(h:At n env w0 Rs (λa w=>Q (.exit id) a w)):At n env w0 Rs (λa w=>(Code.exit id).wp P Q a w):=λa w hf hs=>wp_exit (h a w hf hs)
theorem jE(h:At n env w0 Rs (λa w=>Q .ret a w)):At n env w0 Rs (λa w=>Code.ret.wp P Q a w):=λa w hf hs=>wp_ret (h a w hf hs)
theorem jt{c:Operand}{x y:Code}(hc:ev env c=some (.bool t))(h1:t=true->At n env w0 Rs (λa w=>x.wp P Q a w))(h2:t=false->At n env w0 Rs (λa w=>y.wp P Q a w)):At n env w0 Rs (λa w=>(Code.cond c x y).wp P Q a w):=
 λa w hf hs=>wp_cond_split (hf.ev hc) (λe=>h1 e a w hf hs) (λe=>h2 e a w hf hs)
theorem jdD{c:Operand}{x y:Code}(hc:ev env c=some (.bool t))(ht:t=true)(h1:At n env w0 Rs (λa w=>x.wp P Q a w)):At n env w0 Rs (λa w=>(Code.cond c x y).wp P Q a w):=
 λa w hf hs=>wp_cond_true (ht▸hf.ev hc) (h1 a w hf hs)
theorem Un{c:Operand}{x y:Code}(hc:ev env c=some (.bool t))(ht:t=false)(h1:At n env w0 Rs (λa w=>y.wp P Q a w)):At n env w0 Rs (λa w=>(Code.cond c x y).wp P Q a w):=
 λa w hf hs=>wp_cond_false (ht▸hf.ev hc) (h1 a w hf hs)
theorem jq{e:Exit}(hne:e≠ .normal)(h:At n env w0 Rs (λa w=>Q e a w)):At n env w0 Rs (λa w=>Exit.then K' Q e a w):=by
 intro a w hf hs;have:=h a w hf hs
 cases e<;>first|exact this|exact absurd rfl hne
theorem Jr(h:At n env w0 Rs (λa w=>Q .normal a w)):At n env w0 Rs (λa w=>Exit.inBlock id Q (.exit id) a w):=by
 intro a w hf hs;have:=h a w hf hs
 simpa[Exit.inBlock] using this
theorem LV{id':Nat}(hne:id'≠id)(h:At n env w0 Rs (λa w=>Q (.exit id') a w)):At n env w0 Rs (λa w=>Exit.inBlock id Q (.exit id') a w):=by
 intro a w hf hs;have:=h a w hf hs
 simpa[Exit.inBlock,hne] using this
theorem jh(h:At n env w0 Rs K):At n env w0 Rs (λa w=>Exit.then K Q .normal a w):=h
theorem js(h:At n env w0 Rs (λa w=>Q .normal a w)):At n env w0 Rs (λa w=>Exit.inBlock id Q .normal a w):=h
theorem EO(H:X->Prop)(m:X->Nat)(env':X->List (Nat×Value))(Rs':X->List Res)(x0:X)(h0:H x0)(he:sub env (env' x0))(hr:∀w,St w0 Rs w->St w0 (Rs' x0) w)(round:∀x,H x->∀L:Act->World->Prop,(∀y,H y->m y<m x->At n (env' y) w0 (Rs' y) L)->At n (env' x) w0 (Rs' x) (λa w=>c.wp P (Exit.then L Q) a w)):
  At n env w0 Rs (λa w=>(Code.loop c).wp P Q a w):=by
 intro a w hf hs b k cs;have key:∀N x a w,m x=N->H x->Frm n (env' x) a->St w0 (Rs' x) w->
   ∃e a' w',Q e a' w'/\Arrives P (lone (b.at a (.code c::.inLoop c::k)) cs w) b k cs e a' w':=by
  intro N
  induction N using Nat.strongRecOn with
  |_ N ih=>
   intro x a w hN hH hf hs;obtain⟨e,a1,w1,hq,harr⟩:=round x hH (λa' w'=>∃y,H y/\m y<m x/\Frm n (env' y) a'/\St w0 (Rs' y) w') (λy hy hlt a' w' hf' hs'=>⟨y,hy,hlt,hf',hs'⟩) a w hf hs b (.inLoop c::k) cs;cases e with
   |normal=>
    obtain⟨y,hy,hlt,hf1,hs1⟩:=hq;obtain⟨e2,a2,w2,hq2,harr2⟩:=ih (m y) (hN▸hlt) y a1 w1 rfl hy hf1 hs1;exact⟨e2,a2,w2,hq2,.of_steps (Steps.trans harr (.one step_inLoop)) harr2⟩
   |exit id=>exact⟨_,a1,w1,hq,.pass (x:=.inLoop c) rfl (λ_ _=>.inl (by simp)) harr⟩
   |goto l=>exact⟨_,a1,w1,hq,.pass (x:=.inLoop c) rfl (λ_ _=>.inl (by simp)) harr⟩
   |ret=>exact⟨_,a1,w1,hq,.pass (x:=.inLoop c) rfl (λ_ _=>.inl (by simp)) harr⟩
   |panic ch=>exact⟨_,a1,w1,hq,.pass (x:=.inLoop c) rfl (λ_ _=>.inl (by simp)) harr⟩
   |outgrown=>exact⟨_,a1,w1,hq,.pass (x:=.inLoop c) rfl (λ_ _=>.inl (by simp)) harr⟩
 obtain⟨e,a',w',hq,harr⟩:=key _ x0 a w rfl h0 (hf.sub he) (hr w hs);exact⟨e,a',w',hq,.of_steps (.one step_loop) harr⟩
theorem jb(h:At n env w0 Rs (λa w=>wpList P l.toArray Q l a w)):At n env w0 Rs (λa w=>(Code.region id l.toArray false).wp P Q a w):=λa w hf hs=>wp_region_lit (h a w hf hs)
theorem JZ(h:At n env w0 Rs (λa w=>Q .normal a w)):At n env w0 Rs (λa w=>wpList P ops Q [] a w):=h
theorem jg(h:At n env w0 Rs K):At n env w0 Rs (λa w=>wpList P ops (Exit.then K Q) [] a w):=h
theorem jm(hg:o.guard=none)(h:At n env w0 Rs (λa w=>o.wp P a w (wpList P ops Q rest) Q)):At n env w0 Rs (λa w=>wpList P ops Q (o::rest) a w):=
 λa w hf hs=>wpList_plain hg λ_ hK=>Oper.wp_mono hK (h a w hf hs)
def Qt(P:Program)(o:Oper)(n:Nat)(env:List (Nat×Value))(w0:Bs)(Rs:List Res)(v:Value):Prop:=∀a w,Frm n env a->St w0 Rs w->Gv P v w ((execOp a.eval o).run P w)
theorem Gv.wp(h:Gv P v w ((execOp a.eval o).run P w))(hk:∀w',Over w w'->K (a.put o.dst v) w'):o.wp P a w K Q:=by
 unfold Oper.wp;generalize (execOp a.eval o).run P w=r at*;cases r with
 |ok x w'=>
  cases x<;>simp only[Gv] at h<;>simp only[Oper.upon]
  case value u=>obtain⟨rfl,h⟩:=h;exact hk _ h
  case skip=>obtain⟨rfl,h⟩:=h;exact hk _ h
  case enter f args=>
   refine Calls.mono h λe w'' he=>?_
   obtain⟨rfl,he⟩:=he;exact hk _ he
 |halt x w'=>exact absurd h (by simp[Gv])
theorem jc(hg:o.guard=none)(hd:o.dst=some d)(hn:d<n)(hq:Qt P o n env w0 Rs v)(h:At n ((d,v)::env) w0 Rs (λa w=>wpList P ops Q rest a w)):
  At n env w0 Rs (λa w=>wpList P ops Q (o::rest) a w):=
 jm hg λa w hf hs=>Gv.wp (hq a w hf hs) λw' hw'=>hd▸h _ w' (hf.put hn v) (hs.over_ hw')
theorem jo{b c:Bool}(hg:o.guard=some (j,c))(hj:ops[j]? =some oj)(hdj:oj.dst=some dj)(hb:look env dj=some (.bool b))(hne:b≠c)(hd:o.dst=some d)(hn:d<n)(h:At n ((d,undef)::env) w0 Rs (λa w=>wpList P ops Q rest a w)):At n env w0 Rs (λa w=>wpList P ops Q (o::rest) a w):=by
 intro a w hf hs;have hy:yielded ops a.tmps j=some b:=by
  have:=hf.get _ _ hb;simp only[yielded,hj,hdj,Option.bind_some];rw[Array.getD_eq_getD_getElem?] at this;cases h':a.tmps[dj]? with
  |none=>rw[h'] at this;simp[undef] at this
  |some u=>rw[h'] at this;simp at this;subst this;simp
 have hw:Region.wanted o (yielded ops a.tmps)=false:=by simp[Region.wanted,hg,hy,hne]
 unfold wpList;simp only[hw];exact hd▸h _ w (hf.put hn undef) hs
theorem jF{c:Bool}(hg:o.guard=some (j,c))(hj:ops[j]? =some oj)(hdj:oj.dst=some dj)(hb:look env dj=some (.bool c))(h:At n env w0 Rs (λa w=>o.wp P a w (wpList P ops Q rest) Q)):At n env w0 Rs (λa w=>wpList P ops Q (o::rest) a w):=by
 intro a w hf hs;have hy:yielded ops a.tmps j=some c:=by
  have:=hf.get _ _ hb;simp only[yielded,hj,hdj,Option.bind_some];rw[Array.getD_eq_getD_getElem?] at this;cases h':a.tmps[dj]? with
  |none=>rw[h'] at this;simp[undef] at this
  |some u=>rw[h'] at this;simp at this;subst this;simp
 have hw:Region.wanted o (yielded ops a.tmps)=true:=by simp[Region.wanted,hg,hy]
 unfold wpList;simp only[hw,if_true];exact .inl (h a w hf hs)
theorem Jo(hd:o.dst=some d)(hn:d<n)(hq:Qt P o n env w0 Rs v)(h:At n ((d,v)::env) w0 Rs K):At n env w0 Rs (λa w=>o.wp P a w K Q):=
 λa w hf hs=>Gv.wp (hq a w hf hs) λw' hw'=>hd▸h _ w' (hf.put hn v) (hs.over_ hw')
end
section
variable{P:Program}{n:Nat}{env:List (Nat×Value)}{w0:Bs}{Rs:List Res}{ops:Array Oper}{Q:Exit->Act->World->Prop}{K:Act->World->Prop}{o:Oper}
theorem kd(h:∀a w,Frm n env a->St w0 Rs w->(execOp a.eval o).run P w=.ok (.value v) w):Qt P o n env w0 Rs v:=λa w hf hs=>by rw[h a w hf hs];exact⟨rfl,Over.refl _⟩
theorem Qt.as{v':Value}(h:Qt P o n env w0 Rs v)(e:v=v'):Qt P o n env w0 Rs v':=e▸h
theorem ja(ho:o.op=.move x)(hx:ev env x=some v):Qt P o n env w0 Rs v:=kd λa w hf _=>by unfold execOp;simp only[ho,hf.ev hx];simp[]
theorem jd(ho:o.op=.assign x)(hx:ev env x=some v):Qt P o n env w0 Rs v:=kd λa w hf _=>by unfold execOp;simp only[ho,hf.ev hx];simp[]
section ints
variable{x y:Operand}{T T':TypeId}{p q:Int}
theorem jR(ho:o.op=.binOp .add T x y T')(hx:ev env x=some (.int .i64 p))(hy:ev env y=some (.int .i64 q))(h1: -9223372036854775808<=p+q)(h2:p+q<=9223372036854775807):Qt P o n env w0 Rs (.int .i64 (p+q)):=
 kd λa w hf _=>by unfold execOp;simp only[ho,hf.ev hx,hf.ev hy];simp[go_sem,IntWalk.i64_in _ ⟨h1,h2⟩]
theorem JP(ho:o.op=.binOp .sub T x y T')(hx:ev env x=some (.int .i64 p))(hy:ev env y=some (.int .i64 q))(h1: -9223372036854775808<=p-q)(h2:p-q<=9223372036854775807):Qt P o n env w0 Rs (.int .i64 (p-q)):=
 kd λa w hf _=>by unfold execOp;simp only[ho,hf.ev hx,hf.ev hy];simp[go_sem,IntWalk.i64_in _ ⟨h1,h2⟩]
theorem qZ(ho:o.op=.binOp .mul T x y T')(hx:ev env x=some (.int .i64 p))(hy:ev env y=some (.int .i64 q))(h1: -9223372036854775808<=p*q)(h2:p*q<=9223372036854775807):Qt P o n env w0 Rs (.int .i64 (p*q)):=
 kd λa w hf _=>by unfold execOp;simp only[ho,hf.ev hx,hf.ev hy];simp[go_sem,IntWalk.i64_in _ ⟨h1,h2⟩]
theorem zN(ho:o.op=.unOp .neg T x)(hx:ev env x=some (.int .i64 p))(h1: -9223372036854775807<=p)(h2:p<=9223372036854775807):Qt P o n env w0 Rs (.int .i64 (-p)):=
 kd λa w hf _=>by unfold execOp;simp only[ho,hf.ev hx];simp[go_sem,IntWalk.i64_in (-p) ⟨by omega,by omega⟩]
theorem LX(ho:o.op=.binOp .rem T x y T')(hx:ev env x=some (.int .i64 p))(hy:ev env y=some (.int .i64 q))(hq:0<q)(h1: -9223372036854775807<=p)(h2:p<=9223372036854775807):Qt P o n env w0 Rs (.int .i64 (p.tmod q)):=
 kd λa w hf _=>by
  have hq0:¬q=0:=by omega
  have hb: -9223372036854775808<=p.tmod q/\p.tmod q<=9223372036854775807:=by
   have h3:=Int.natAbs_tmod p q;have h4:=Nat.mod_le p.natAbs q.natAbs
   omega
  unfold execOp;simp only[ho,hf.ev hx,hf.ev hy];simp[go_sem,hq0,IntWalk.i64_in _ hb]
theorem qE(ho:o.op=.binOp .eql T x y T')(hx:ev env x=some (.int .i64 p))(hy:ev env y=some (.int .i64 q)):Qt P o n env w0 Rs (.bool (p==q)):=kd λa w hf _=>by unfold execOp;simp only[ho,hf.ev hx,hf.ev hy];simp[go_sem]
theorem KW(ho:o.op=.binOp .neq T x y T')(hx:ev env x=some (.int .i64 p))(hy:ev env y=some (.int .i64 q)):Qt P o n env w0 Rs (.bool (!(p==q))):=kd λa w hf _=>by
 have:(p !=q)= !(p==q):=rfl;unfold execOp;simp only[ho,hf.ev hx,hf.ev hy];simp[binOp_neq,this,go_sem]
theorem Ju(ho:o.op=.binOp .lss T x y T')(hx:ev env x=some (.int .i64 p))(hy:ev env y=some (.int .i64 q)):Qt P o n env w0 Rs (.bool (decide (p<q))):=kd λa w hf _=>by unfold execOp;simp only[ho,hf.ev hx,hf.ev hy];simp[go_sem]
theorem kT(ho:o.op=.binOp .leq T x y T')(hx:ev env x=some (.int .i64 p))(hy:ev env y=some (.int .i64 q)):Qt P o n env w0 Rs (.bool (decide (p<=q))):=kd λa w hf _=>by unfold execOp;simp only[ho,hf.ev hx,hf.ev hy];simp[go_sem]
theorem qO(ho:o.op=.binOp .gtr T x y T')(hx:ev env x=some (.int .i64 p))(hy:ev env y=some (.int .i64 q)):Qt P o n env w0 Rs (.bool (decide (q<p))):=kd λa w hf _=>by unfold execOp;simp only[ho,hf.ev hx,hf.ev hy];simp[go_sem]
theorem xp(ho:o.op=.binOp .geq T x y T')(hx:ev env x=some (.int .i64 p))(hy:ev env y=some (.int .i64 q)):Qt P o n env w0 Rs (.bool (decide (q<=p))):=kd λa w hf _=>by unfold execOp;simp only[ho,hf.ev hx,hf.ev hy];simp[go_sem]
end ints
section bools
variable{x y:Operand}{T T':TypeId}{p q:Bool}
theorem Qu(ho:o.op=.unOp .not T x)(hx:ev env x=some (.bool p)):Qt P o n env w0 Rs (.bool (!p)):=kd λa w hf _=>by unfold execOp;simp only[ho,hf.ev hx];simp[go_sem]
theorem Su(hT:P.underlying T=some .bool)(ho:o.op=.binOp .neq T x y T')(hx:ev env x=some (.bool p))(hy:ev env y=some (.bool q)):Qt P o n env w0 Rs (.bool (!(p==q))):=
 kd λa w hf _=>by unfold execOp;simp only[ho,hf.ev hx,hf.ev hy];simp[run_neq_bool w T p q hT,go_sem]
end bools
def BA:TypeDesc->Bool
 |.struct _|.array _ _=>false
 |_=>true
structure Ty1 (P:Program) (T:TypeId):Prop where
 flat:∃d,P.underlying T=some d/\BA d=true
 size:(P.info? T).map (·.size)=some 1
structure TyS (P:Program) (T:TypeId) (m:Nat):Prop where
 flat:∃d,P.underlying T=some d/\BA d=false
 size:(P.info? T).map (·.size)=some m
structure TyZ (P:Program) (T:TypeId) (m k:Nat) (z:Value):Prop where
 info:∃i,P.info? T=some i/\i.zero=some z/\i.size=m/\i.bytes=k
 cells:z.cells.size=m
structure TyL (P:Program) (T U:TypeId) (m:Nat):Prop where
 desc:P.underlying T=some (.slice U)
 size:(P.info? U).map (·.size)=some m
structure TyF (P:Program) (T:TypeId) (i c:Nat):Prop where
 fld:∃fs f,P.underlying T=some (.struct fs)/\fs[i]? =some f/\f.offset=c/\∃m,(P.info? f.type).map (·.size)=some (m+1)
theorem TyZ.run(h:TyZ P T m k z)(w:World):(zeroValue T).run P w=.ok z w:=by
 obtain⟨i,hi,hz,_⟩:=h.info;simp[zeroValue,typeInfo,hi,hz]
theorem IM{d:TypeDesc}(hT:P.underlying T=some d)(w:World):(isAgg T).run P w=.ok (!BA d) w:=by
 unfold isAgg;rw[Sem.run_bind,run_underlying hT];simp only[Result.andThen_ok];cases d<;>rfl
theorem kq(b o j:Nat):(⟨b,o,none⟩:Addr).add j=⟨b,o+j,none⟩:=by unfold Addr.add;split<;>simp_all
theorem jcU{d:TypeDesc}(hT:P.underlying T=some d)(hd:BA d=true){p:Addr}(hc:w.cell? p=some v):(loadVar T p).run P w=.ok v w:=by
 unfold loadVar;rw[Sem.run_bind,IM hT,hd];simp[hc]
theorem Iq9{d:TypeDesc}(hT:P.underlying T=some d)(hd:BA d=false)(hz:(P.info? T).map (·.size)=some m){o:Nat}(hl:cs.length=m)(hc:∀j v,cs[j]? =some v->w.cell? ⟨b,o+j,none⟩=some v):(loadVar T ⟨b,o,none⟩).run P w=.ok (.agg cs.toArray) w:=by
 unfold loadVar;rw[Sem.run_bind,IM hT,hd];obtain⟨i,hi,hs⟩:=jnm.1 hz;have hso:(sizeOf T).run P w=.ok m w:=by simp[sizeOf,typeInfo,hi,hs]
 have hl':=run_loadCells (P:=P) w ⟨b,o,none⟩ m (λj=>cs.getD j undef) (λj hj=>by
  rw[kq];refine hc j _ ?_;rw[List.getD_eq_getElem?_getD];have:j<cs.length:=by omega
  simp[this])
 simp only[Bool.not_false,Result.andThen_ok,if_true,Sem.run_bind,hso,hl'];simp only[Sem.run_pure];congr 2;apply Array.ext';simp only[jmP];apply jm5
 .simp;omega
 .intro j h1 h2;simp[List.getD_eq_getElem?_getD,h2]
theorem jn{p:Addr}(ho:o.op=.load T x)(hx:ev env x=some (.pointer (some p)))(hT:Ty1 P T)(hc:∀w,St w0 Rs w->w.cell? p=some v):Qt P o n env w0 Rs v:=
 kd λa w hf hs=>by
  obtain⟨d,h1,h2⟩:=hT.flat;unfold execOp;simp only[ho,hf.ev hx];simp[Instr.loadAt,Instr.sureAddr,jcU h1 h2 (hc w hs)]
theorem jj(ho:o.op=.load T x)(hx:ev env x=some (.pointer (some ⟨b,off,none⟩)))(hT:TyS P T m)(hl:cs.length=m)(hc:∀w,St w0 Rs w->∀j v,cs[j]? =some v->w.cell? ⟨b,off+j,none⟩=some v):Qt P o n env w0 Rs (.agg cs.toArray):=
 kd λa w hf hs=>by
  obtain⟨d,h1,h2⟩:=hT.flat;unfold execOp;simp only[ho,hf.ev hx];simp[Instr.loadAt,Instr.sureAddr,Iq9 h1 h2 hT.size hl (hc w hs)]
theorem St.cel(h:St w0 Rs w)(hk:Rs[k]? =some (.cel b T cs)):w.heap[b]? =some (.cells cs.toArray T (0,0)):=(h.all k _ hk).1
theorem qr{T:Nat}(hk:Rs[k]? =some (.cel b T cs))(hv:cs[off]? =some v):∀w,St w0 Rs w->w.cell? ⟨b,off,none⟩=some v:=λw h=>by
 rw[cell_of_row w b off _ T (0,0) (h.cel hk)];simpa using hv
theorem jZ{T:Nat}(hk:Rs[k]? =some (.cel b T cs)):∀w,St w0 Rs w->∀j v,cs[j]? =some v->w.cell? ⟨b,0+j,none⟩=some v:=λw h j v hv=>by
 rw[cell_of_row w b _ _ T (0,0) (h.cel hk),jmd];simpa using hv
theorem y8{T:Nat}{u:Value}(hk:Rs[k]? =some (.cel b T cs))(hu:cs[off]? =some u)(hv:cs[off+1]? =some v):∀w,St w0 Rs w->∀j x,[u,v][j]? =some x->w.cell? ⟨b,off+j,none⟩=some x:=λw h j x hx=>by
 match j,hx with
 |0,hx=>rw[cell_of_row w b _ _ T (0,0) (h.cel hk)];simp at hx;subst hx;simpa using hu
 |1,hx=>rw[cell_of_row w b _ _ T (0,0) (h.cel hk)];simp at hx;subst hx;simpa using hv
theorem rd3{T:Nat}{u y:Value}(hk:Rs[k]? =some (.cel b T cs))(hu:cs[off]? =some u)(hv:cs[off+1]? =some v)(hy:cs[off+2]? =some y):∀w,St w0 Rs w->∀j x,[u,v,y][j]? =some x->w.cell? ⟨b,off+j,none⟩=some x:=λw h j x hx=>by
 match j,hx with
 |0,hx=>rw[cell_of_row w b _ _ T (0,0) (h.cel hk)];simp at hx;subst hx;simpa using hu
 |1,hx=>rw[cell_of_row w b _ _ T (0,0) (h.cel hk)];simp at hx;subst hx;simpa using hv
 |2,hx=>rw[cell_of_row w b _ _ T (0,0) (h.cel hk)];simp at hx;subst hx;simpa using hy
theorem jf{c:Nat}(ho:o.op=.fieldAddr T x i)(hx:ev env x=some (.pointer (some ⟨b,off,none⟩)))(hT:TyF P T i c):
  Qt P o n env w0 Rs (.pointer (some ⟨b,off+c,none⟩)):=
 kd λa w hF _=>by
  obtain⟨fs,f,h1,h2,h3,m,h4⟩:=hT.fld;obtain⟨i0,hi,hs⟩:=jnm.1 h4;have hso:(sizeOf f.type).run P w=.ok (m+1) w:=by simp[sizeOf,typeInfo,hi,hs]
  unfold execOp;simp only[ho,hF.ev hx];simp[Instr.fieldAt,Instr.sureAddr,run_underlying h1,h2,h3,hso,fieldPlace,kq]
theorem JE(ho:o.op=.extract x i)(hx:ev env x=some (.tuple vs.toArray))(hv:vs[i]? =some v):Qt P o n env w0 Rs v:=
 kd λa w hF _=>by unfold execOp;simp only[ho,hF.ev hx];simp[Instr.extract,hv]
theorem JN{U:TypeId}{c s:Nat}(ho:o.op=.call {callee:=.builtin .len,args:=#[x],argTypes:=#[T]})(hx:ev env x=some (.slice A m c))(hT:TyL P T U s):Qt P o n env w0 Rs (.int .i64 (m:Int)):=
 kd λa w hF _=>by
  have hT:=hT.desc;have hE:P.elem T=U:=by simp[Program.elem,hT]
  have:=run_len_slice (P:=P) w T o.type A m c (by rw[hE];exact hT);unfold execOp;simp only[ho];simp[resolve,invoke,builtin,hF.ev hx,this,goInt]
theorem jQ{U:TypeId}{c s:Nat}(ho:o.op=.indexAddr T x y)(hx:ev env x=some (.slice (some ⟨b,off,none⟩) m c))(hy:ev env y=some (.int .i64 (j:Int)))(hT:TyL P T U s)(hj:j<m):
  Qt P o n env w0 Rs (.pointer (some ⟨b,off+j*s,none⟩)):=
 kd λa w hF _=>by
  have hs:=hT.size;have hT:=hT.desc
  have hE:P.elem T=U:=by simp[Program.elem,hT]
  have:=run_indexAt_slice (P:=P) w T ⟨b,off,none⟩ m c .i64 j (by rw[hE];exact hT);obtain⟨i,hi,hs'⟩:=jnm.1 hs;have hso:(sizeOf U).run P w=.ok s w:=by simp[sizeOf,typeInfo,hi,hs']
  rw[if_pos Om,hE,hso] at this;unfold execOp;simp only[ho,hF.ev hx,hF.ev hy];simp[this,kq]
structure FnOk (P:Program) (f:FuncId):Prop where
 fn:∃fn,P.funcs[f]? =some fn/\(fn.name== "runtime.NumGoroutine")=false/\fn.body.isNone=false
theorem FnOk.run(h:FnOk P f)(vs:Array Value)(w:World):(callFunc f vs).run P w=.ok (.enter f vs) w:=by
 obtain⟨fn,h1,h2,h3⟩:=h.fn;unfold callFunc;simp only[Sem.run_bind,run_program,Result.andThen_ok,h1,h2,h3,jmF,if_false,Sem.run_pure]
theorem xt(hfn:FnOk P f)(ho:o.op=.call {callee:=.value (.func f),args:=xs.toArray,argTypes:=ts})(hx:Fl env xs=some vs)(hF:Frm n env a):(execOp a.eval o).run P w=.ok (.enter f vs.toArray) w:=by
 have he:xs.map a.eval=vs:=hF.evs hx;unfold execOp;simp only[ho];simp only[resolve,Deferred.ofValue,Act.eval];simp[invoke,hfn.run,he]
theorem jT(hfn:FnOk P f)(ho:o.op=.call {callee:=.value (.func f),args:=xs.toArray,argTypes:=ts})(hx:Fl env xs=some vs)(hc:∀w,St w0 Rs w->Calls P f vs.toArray w λe w'=>e=.returned v/\Over w w'):Qt P o n env w0 Rs v:=λa w hF hs=>by
 rw[xt hfn ho hx hF];exact hc w hs
theorem J4(hfn:FnOk P f){v:X->Value}{r:X->Res}{H:X->Prop}(ho:o.op=.call {callee:=.value (.func f),args:=xs.toArray,argTypes:=ts})(hx:Fl env xs=some vs)(hd:o.dst=some d)(hn:d<n)(hc:∀w,St w0 Rs w->Calls P f vs.toArray w λe w'=>∃x,e=.returned (v x)/\Over w w'/\(r x).P w'/\(∀b,(r x).F b->w.heap.size<=b)/\(r x).B=0/\H x)(h:∀x,H x->At n ((d,v x)::env) w0 (Rs++[r x]) K):At n env w0 Rs (λa w=>o.wp P a w K Q):=λa w hF hs=>by
 show o.upon P a K Q ((execOp a.eval o).run P w);rw[xt hfn ho hx hF];refine Calls.mono (hc w hs) ?_;rintro e w' ⟨x,rfl,hO,hP,hF',hB,hH⟩;exact hd▸h x hH _ _ (hF.put hn _) (hs.add hO hP hF' ⟨by rw[hB];exact jlN _,λ_ _=>by rw[hB];exact jlN _⟩)
theorem Ji(ho:o.op=.alloc T)(hT:TyZ P T m k z)(hd:o.dst=some d)(hn:d<n)(h:∀b,At n ((d,.pointer (some ⟨b,0,none⟩))::env) w0 (Rs++[.cel b T z.cells.toList]) K):At n env w0 Rs (λa w=>o.wp P a w K Q):=λa w hF hs=>by
 have:(execOp a.eval o).run P w=.ok (.value (.pointer (some ⟨w.heap.size,0,none⟩))) (w.alloc (.cells z.cells T)):=by
  unfold execOp;simp only[ho,Instr.alloc];simp[hT.run,go_sem]
 show o.upon P a K Q ((execOp a.eval o).run P w);rw[this,Oper.upon_value,hd];exact h _ _ _ (hF.put hn _) (hs.add (Over.alloc _ _) (by show(w.alloc (.cells z.cells T)).heap[w.heap.size]? =some (.cells z.cells.toList.toArray T (0,0));rw[heap_alloc_new,jm1]) (λb hb=>Nat.le_of_eq hb.symm) ⟨jlN _,λ_ _=>jlN _⟩)
theorem JX(ho:o.op=.box T x)(hx:ev env x=some v)(hv:v.cells=cs.toArray)(hd:o.dst=some d)(hn:d<n)(h:∀b,At n ((d,.pointer (some ⟨b,0,none⟩))::env) w0 (Rs++[.cel b T cs]) K):At n env w0 Rs (λa w=>o.wp P a w K Q):=λa w hF hs=>by
 have:(execOp a.eval o).run P w=.ok (.value (.pointer (some ⟨w.heap.size,0,none⟩))) (w.alloc (.cells cs.toArray T)):=by
  unfold execOp;simp only[ho,Instr.box,hF.ev hx];simp[newVar,newRow,hv]
 show o.upon P a K Q ((execOp a.eval o).run P w);rw[this,Oper.upon_value,hd];exact h _ _ _ (hF.put hn _) (hs.add (Over.alloc _ _) (heap_alloc_new w _) (λb hb=>Nat.le_of_eq hb.symm) ⟨jlN _,λ_ _=>jlN _⟩)
theorem St.store(h:St w0 Rs w){T:Nat}{cs':List Value}(hk:Rs[k]? =some (.cel b T cs)):St w0 (Rs.set k (.cel b T cs')) (w.setRow b cs'.toArray):=by
 have hh:=h.cel hk;have hlow:=(h.all k _ hk).2.1 b rfl
 refine h.upd hk ⟨by simpa using h.over.os,by simpa using h.over.tape,by simpa using h.over.output,by simpa using h.over.size,λc hc hx=>?_⟩ (by simp) (λc _ hne=>setRow_other w b c _ hne) (setRow_heap w b _ _ T (0,0) hh) (λc hc=>.inl hc) J;rw[setRow_other w b c _ (λe=>hlow.elim (λh1=>by omega) (λh1=>hx (e▸h1)))];exact h.over.block c hc hx
end
section
variable{P:Program}{n:Nat}{env:List (Nat×Value)}{w0:Bs}{Rs:List Res}{ops:Array Oper}{Q:Exit->Act->World->Prop}{K:Act->World->Prop}{o:Oper}
theorem a9(hq:Qt P o n env w0 Rs v)(h:At n ((d,v)::env) w0 Rs (λa w=>wpList P ops Q rest a w))(hg:o.guard=none:=by exact rfl)(hd:o.dst=some d:=by exact rfl)(hn:d<n:=by decide):At n env w0 Rs (λa w=>wpList P ops Q (o::rest) a w):=jc hg hd hn hq h
theorem o9(hq:Qt P o n env w0 Rs v)(h:At n ((d,v)::env) w0 Rs K)(hd:o.dst=some d:=by exact rfl)(hn:d<n:=by decide):At n env w0 Rs (λa w=>o.wp P a w K Q):=Jo hd hn hq h
theorem h9{c:Bool}(h:At n env w0 Rs (λa w=>o.wp P a w (wpList P ops Q rest) Q))(hg:o.guard=some (j,c):=by exact rfl)(hj:ops[j]? =some oj:=by exact rfl)(hdj:oj.dst=some dj:=by exact rfl)(hb:look env dj=some (.bool c):=by exact rfl):At n env w0 Rs (λa w=>wpList P ops Q (o::rest) a w):=jF hg hj hdj hb h
theorem g9{b c:Bool}(h:At n ((d,undef)::env) w0 Rs (λa w=>wpList P ops Q rest a w))(hg:o.guard=some (j,c):=by exact rfl)(hj:ops[j]? =some oj:=by exact rfl)(hdj:oj.dst=some dj:=by exact rfl)(hb:look env dj=some (.bool b):=by exact rfl)(hne:b≠c:=by decide)(hd:o.dst=some d:=by exact rfl)(hn:d<n:=by decide):At n env w0 Rs (λa w=>wpList P ops Q (o::rest) a w):=jo hg hj hdj hb hne hd hn h
theorem p9{p q:Int}(ho:o.op=.binOp .add T x y T':=by exact rfl)(hx:ev env x=some (.int .i64 p):=by exact rfl)(hy:ev env y=some (.int .i64 q):=by exact rfl)(h1: -9223372036854775808<=p+q:=by omega)(h2:p+q<=9223372036854775807:=by omega):Qt P o n env w0 Rs (.int .i64 (p+q)):=jR ho hx hy h1 h2
theorem m9{p q:Int}(ho:o.op=.binOp .sub T x y T':=by exact rfl)(hx:ev env x=some (.int .i64 p):=by exact rfl)(hy:ev env y=some (.int .i64 q):=by exact rfl)(h1: -9223372036854775808<=p-q:=by omega)(h2:p-q<=9223372036854775807:=by omega):Qt P o n env w0 Rs (.int .i64 (p-q)):=JP ho hx hy h1 h2
theorem q9(ho:o.op=.move x:=by exact rfl)(hx:ev env x=some v:=by exact rfl):Qt P o n env w0 Rs v:=ja ho hx
theorem s9(ho:o.op=.assign x:=by exact rfl)(hx:ev env x=some v:=by exact rfl):Qt P o n env w0 Rs v:=jd ho hx
end
end Go.Proofs.YtjbahemkhphndaaGreat
