import Derived.Test.YtjbahemkhphndaaGreatNBounds
import Derived.Test.YtjbahemkhphndaaGreatNValidRegion
import Derived.Lib.SliceRun
set_option linter.unusedVariables false
set_option linter.unusedSimpArgs false
namespace Go.Proofs.YtjbahemkhphndaaGreat
open Go Go.RowKit
section
variable{A:Option Addr}{B T b c hi k lo n:Nat}{F:Nat->Prop}{R:Ending->World->Prop}{V:Option Addr->Nat->Value}{args cs:Array Value}{pl:Nat->Option Addr×Nat}{rs:List jI}{ts:Array TypeId}{v:Value}{vs:List Value}{w w':World}{x:Option Addr×Nat}
structure Wrs (F:Nat->Prop) (w w':World):Prop where
 os:w'.os=w.os
 tape:w'.tape=w.tape
 output:w'.output=w.output
 size:w.heap.size<=w'.heap.size
 block:∀c,c<w.heap.size->¬F c->w'.heap[c]? =w.heap[c]?
theorem Wrs.refl(F:Nat->Prop)(w:World):Wrs F w w:=⟨rfl,rfl,rfl,jlL _,λ_ _ _=>rfl⟩
theorem Wrs.mono{G:Nat->Prop}(h:Wrs F w w')(hF:∀b,F b->G b):Wrs G w w':=⟨h.os,h.tape,h.output,h.size,λc hc hn=>h.block c hc (λhf=>hn (hF c hf))⟩
theorem Wrs.of(h:Over w w'):Wrs F w w':=⟨h.out.os,h.out.tape,h.out.output,h.size,λc hc _=>h.out.block c hc⟩
theorem Ovx.wrs{X:List Nat}(h:Ovx ⟨w,X⟩ w'):Wrs (·∈X) w w':=⟨h.os,h.tape,h.output,h.size,λc hc hne=>h.block c hc hne⟩
theorem Wrs.over(h:Wrs F w w')(hF:∀b,¬F b):Over w w':=⟨h.os,h.tape,h.output,h.size,λc hc=>h.block c hc (hF c)⟩
theorem St.startR(w:World)(X:List Nat)(r:Res)(hP:r.P w)(hF:∀b,r.F b->b∈X)(hB:r.B=0):St ⟨w,X⟩ [r] w:=by
 refine⟨⟨J,J,J,jlL _,λ_ _ _=>rfl⟩,λi s hi=>?_,λi j s t hij hi hj=>?_⟩
 .match i,hi with
  |0,hi=>
   simp at hi;subst hi;exact⟨hP,λb hb=>.inr (hF b hb),by rw[hB];exact jlN _,λ_ _=>by rw[hB];exact jlN _⟩
 .match i,j,hi,hj with
  |0,0,_,_=>exact absurd rfl hij
section
variable{P:Program}{n:Nat}{env:List (Nat×Value)}{w0:Bs}{Rs:List Res}{ops:Array Oper}{Q:Exit->Act->World->Prop}{K:Act->World->Prop}{o:Oper}
theorem Km{f m:Nat}{fn:Func}{c:Code}(X:List Nat)(r:Res)(hP:r.P w)(hF:∀b,r.F b->b∈X)(hB:r.B=0)(hf:P.funcs[f]? =some fn)(hb:fn.body=some c)(hm:fn.ntmps=m)(hl:vs.length<=m)(h:At m (Bw 0 vs) ⟨w,X⟩ [r] (λa w=>c.wp P (bodyPost P fn R) a w)):Calls P f vs.toArray w R:=by
 subst hm;exact Bc hf hb hl (λt v hv=>by simpa using (zF vs 0 t v hv).2) h (St.startR w X r hP hF hB)
theorem xh{f d:Nat}(hfn:FnOk P f){xs:List Operand}{r:Res}(r':Res)(ho:o.op=.call {callee:=.value (.func f),args:=xs.toArray,argTypes:=ts})(hx:Fl env xs=some vs)(hd:o.dst=some d)(hn:d<n)(hk:Rs[k]? =some r)(hc:∀w,St w0 Rs w->Calls P f vs.toArray w λe w'=>e=.returned v/\Wrs r.F w w'/\r'.P w')(hF:∀b,r'.F b->r.F b)(hB:r'.B=0)(h:At n ((d,v)::env) w0 (Rs.set k r') K):At n env w0 Rs (λa w=>o.wp P a w K Q):=λa w hF' hs=>by
 show o.upon P a K Q ((execOp a.eval o).run P w);rw[xt hfn ho hx hF'];refine Calls.mono (hc w hs) ?_;rintro e w' ⟨rfl,hw,hp⟩;have hlow:=(hs.all k _ hk).2.1
 show K (a.put o.dst v) w';rw[hd];refine h _ _ (hF'.put hn _) (hs.upd hk ⟨hw.os.trans hs.over.os,hw.tape.trans hs.over.tape,hw.output.trans hs.over.output,jmC hs.over.size hw.size,λc hc' hx'=>?_⟩ hw.size (λc hc' hne=>hw.block c hc' hne) hp (λc hc'=>.inl (hF c hc')) hB);rw[hw.block c (jlU hc' hs.over.size) (λe=>(hlow c e).elim (λh1=>by omega) (λh1=>hx' h1))];exact hs.over.block c hc' hx'
def Res.many(l:List Res):Res where
 F b:=∃r∈l,r.F b
 P w:=(∀r∈l,r.P w/\r.B=0)/\l.Pairwise (λ(r s:Res)=>∀b:Nat,r.F b->¬s.F b)
 low w h b hb:=by obtain⟨r,hr,hb⟩:=hb;exact r.low w (h.1 r hr).1 b hb
 B:=0
 dep w w' h hz hb:=⟨λr hr=>⟨r.dep w w' (h.1 r hr).1 hz λb h1 h2=>hb b h1 (.inr (h2.elim (λh3=>by rw[(h.1 r hr).2] at h3;omega) (λh3=>⟨r,hr,h3⟩))),(h.1 r hr).2⟩,h.2⟩
theorem KY(h:At n env w0 (Rs++[.many []]) K):At n env w0 Rs K:=λa w hf hs=>
 h a w hf (hs.add (Over.refl _) ⟨λr hr=>absurd hr (by simp),List.Pairwise.nil⟩ (λb hb=>by obtain⟨r,hr,_⟩:=hb;simp at hr) ⟨jlN _,λ_ _=>jlN _⟩)
theorem St.drop{j:Nat}(h:St w0 Rs w):St w0 (Rs.eraseIdx j) w:=
 h.sel (λi=>if i<j then i else i+1) (λa b _ _ e=>by split at e<;>split at e<;>omega) (λi hi=>by
  rw[List.getElem?_eraseIdx];split
  .rfl
  .rfl)
theorem Ke(k j:Nat){l:List Res}{r:Res}(hk:Rs[k]? =some (.many l))(hj:Rs[j]? =some r)(hkj:k≠j)(hB:r.B=0)(h:At n env w0 ((Rs.set k (.many (l++[r]))).eraseIdx j) K):At n env w0 Rs K:=λa w hf hs=>by
 refine h a w hf ?_;have hm:=hs.all k _ hk
 have hr:=hs.all j _ hj;have hap:=hs.apart k j _ _ hkj hk hj
 have hset:∀(i:Nat) (s:Res),i≠k->(Rs.set k (.many (l++[r])))[i]? =some s->Rs[i]? =some s:=by
  intro i s hi h';rw[List.getElem?_set,if_neg (Ne.symm hi)] at h';exact h'
 have hkl:k<Rs.length:=(List.getElem?_eq_some_iff.1 hk).1;have hek:(Rs.set k (.many (l++[r])))[k]? =some (.many (l++[r])):=by rw[List.getElem?_set,if_pos rfl,if_pos hkl]
 have hP:(Res.many (l++[r])).P w:=by
  refine⟨λs hs'=>?_,?_⟩
  .rcases jl0.1 hs' with h1|h1
   .exact hm.1.1 s h1
   .rw[jlM.1 h1];exact⟨hr.1,hB⟩
  .rw[jm9];refine⟨hm.1.2,jmK _ _,λa ha b hb c hc=>?_⟩;rw[jlM.1 hb];exact hap c ⟨a,ha,hc⟩
 have hFm:∀b,(Res.many (l++[r])).F b->(Res.many l).F b\/r.F b:=by
  rintro b ⟨s,hs',hb⟩;rcases jl0.1 hs' with h1|h1
  .exact .inl ⟨s,h1,hb⟩
  .rw[jlM.1 h1] at hb;exact .inr hb
 have idx:∀(i:Nat) (s:Res),((Rs.set k (.many (l++[r]))).eraseIdx j)[i]? =some s->∃i',i'≠j/\(Rs.set k (.many (l++[r])))[i']? =some s/\(i'=if i<j then i else i+1):=by
  intro i s hi;rw[List.getElem?_eraseIdx] at hi;by_cases hij:i<j
  .rw[if_pos hij] at hi;exact⟨i,by omega,hi,by rw[if_pos hij]⟩
  .rw[if_neg hij] at hi;exact⟨i+1,by omega,hi,by rw[if_neg hij]⟩
 refine⟨hs.over,λi s hi=>?_,λi i2 s t hii hi hi2 b hb hb2=>?_⟩
 .obtain⟨i',hne,hi',_⟩:=idx i s hi;by_cases hik:i'=k
  .subst hik;rw[hek] at hi';injection hi' with hi'
   subst hi';exact⟨hP,λb hb=>(hFm b hb).elim (hm.2.1 b) (hr.2.1 b),jlN _,λ_ _=>jlN _⟩
  .exact hs.all i' s (hset i' s hik hi')
 .obtain⟨a,ha1,ha2,ha3⟩:=idx i s hi;obtain⟨c,hc1,hc2,hc3⟩:=idx i2 t hi2;have hac:a≠c:=by
   intro e;rw[ha3,hc3] at e;split at e<;>split at e<;>omega
  by_cases hak:a=k
  .subst hak;rw[hek] at ha2;injection ha2 with ha2
   subst ha2;have ht:=hset c t (Ne.symm hac) hc2
   rcases hFm b hb with h1|h1
   .exact hs.apart a c _ t hac hk ht b h1 hb2
   .exact hs.apart j c r t (Ne.symm hc1) hj ht b h1 hb2
  .have hs':=hset a s hak ha2;by_cases hck:c=k
   .subst hck;rw[hek] at hc2;injection hc2 with hc2
    subst hc2;rcases hFm b hb2 with h1|h1
    .exact hs.apart a c s _ hac hs' hk b hb h1
    .exact hs.apart a j s r ha1 hs' hj b hb h1
   .exact hs.apart a c s t hac hs' (hset c t hck hc2) b hb hb2
end
def OwnP(lo hi:Nat)(w:World)(A:Option Addr)(n:Nat)(xs:List (Int×Int)):Prop:=
 xs.length=n/\(0<n->∃b o T cs,A=some ⟨b,o,none⟩/\lo<=b/\b<hi/\w.heap[b]? =some (.cells cs T (0,0))/\∀k,k<n->cs[o+k*2]? =some (.int .i64 (px xs k))/\cs[o+k*2+1]? =some (.int .i64 (py xs k)))
section
variable{lo hi lo' hi' n:Nat}{w w':World}{A:Option Addr}{xs:List (Int×Int)}
theorem OwnP.pts(h:OwnP lo hi w A n xs):Pts w A n xs:=⟨h.1,λhn=>by
 obtain⟨b,o,T,cs,rfl,h1,h2,hh,hc⟩:=h.2 hn;refine⟨b,o,J,J3 hh,λk hk=>?_⟩;rw[cell_of_row w b _ _ T (0,0) hh,cell_of_row w b _ _ T (0,0) hh];exact hc k hk⟩
theorem OwnP.agree(h:OwnP lo hi w A n xs)(ha:∀p,A=some p->lo<=p.block->p.block<hi->w'.heap[p.block]? =w.heap[p.block]?):OwnP lo hi w' A n xs:=⟨h.1,λhn=>by
 obtain⟨b,o,T,cs,rfl,h1,h2,hh,hc⟩:=h.2 hn;exact⟨b,o,T,cs,rfl,h1,h2,(ha _ rfl h1 h2).trans hh,hc⟩⟩
theorem OwnP.wide(h:OwnP lo hi w A n xs)(h1:lo'<=lo)(h2:hi<=hi'):OwnP lo' hi' w A n xs:=⟨h.1,λhn=>by
 obtain⟨b,o,T,cs,hA,h3,h4,hh⟩:=h.2 hn;exact⟨b,o,T,cs,hA,by omega,by omega,hh⟩⟩
theorem OwnP.nil(A:Option Addr):OwnP lo hi w A 0 []:=⟨rfl,λh=>absurd h Om⟩
end
def VK:Option Addr->Nat
 |some p=>p.block
 |none=>0
structure OwnGd (lo hi:Nat) (w:World) (b o T:Nat) (cs:Array Value) (pl:Nat->Option Addr×Nat) (n:Nat) (rs:List jI):Prop where
 low:lo<=b
 high:b<hi
 blk:w.heap[b]? =some (.cells cs T (0,0))
 cell:∀k,k<n->cs[o+k]? =some (.slice (pl k).1 (rg rs k).length (pl k).2)
 pts:∀k,k<n->OwnP lo hi w (pl k).1 (rg rs k).length (rg rs k)
 off:∀k,k<n->0<(rg rs k).length->VK (pl k).1≠b
 apart:∀j k,j<n->k<n->j≠k->0<(rg rs j).length->0<(rg rs k).length->VK (pl j).1≠VK (pl k).1
def OwnG(lo hi:Nat)(w:World)(A:Option Addr)(n:Nat)(rs:List jI):Prop:=
 rs.length=n/\(∀k,k<n->((rg rs k).length:Int)<=1099511627776)/\(0<n->∃b o T cs pl,A=some ⟨b,o,none⟩/\OwnGd lo hi w b o T cs pl n rs)
section
variable{lo hi lo' hi' n:Nat}{w w':World}{A:Option Addr}{rs:List jI}
theorem OwnGd.agree{o:Nat}(h:OwnGd lo hi w b o T cs pl n rs)(ha:∀b,lo<=b->b<hi->w'.heap[b]? =w.heap[b]?):OwnGd lo hi w' b o T cs pl n rs:=
 ⟨h.low,h.high,(ha b h.low h.high).trans h.blk,h.cell,λk hk=>(h.pts k hk).agree λp _ h1 h2=>ha _ h1 h2,h.off,h.apart⟩
theorem OwnGd.wide{o:Nat}(h:OwnGd lo hi w b o T cs pl n rs)(h1:lo'<=lo)(h2:hi<=hi'):OwnGd lo' hi' w b o T cs pl n rs:=
 ⟨jmC h1 h.low,jlU h.high h2,h.blk,h.cell,λk hk=>(h.pts k hk).wide h1 h2,h.off,h.apart⟩
theorem OwnG.agree(h:OwnG lo hi w A n rs)(ha:∀b,lo<=b->b<hi->w'.heap[b]? =w.heap[b]?):OwnG lo hi w' A n rs:=⟨h.1,h.2.1,λhn=>by
 obtain⟨b,o,T,cs,pl,hA,hd⟩:=h.2.2 hn;exact⟨b,o,T,cs,pl,hA,hd.agree ha⟩⟩
theorem OwnG.wide(h:OwnG lo hi w A n rs)(h1:lo'<=lo)(h2:hi<=hi'):OwnG lo' hi' w A n rs:=⟨h.1,h.2.1,λhn=>by
 obtain⟨b,o,T,cs,pl,hA,hd⟩:=h.2.2 hn;exact⟨b,o,T,cs,pl,hA,hd.wide h1 h2⟩⟩
theorem OwnG.nil(A:Option Addr):OwnG lo hi w A 0 []:=⟨rfl,λk hk=>absurd hk Om,λh=>absurd h Om⟩
theorem OwnG.rings(h:OwnG lo hi w A n rs):Rings w A n rs:=⟨h.1,λhn=>by
 obtain⟨b,o,T,cs,pl,hA,hd⟩:=h.2.2 hn;refine⟨b,o,hA,J3 hd.blk,λk hk=>⟨(pl k).1,(pl k).2,?_,(hd.pts k hk).pts,by have:=h.2.1 k hk;omega⟩⟩;rw[cell_of_row w b _ _ T (0,0) hd.blk];exact hd.cell k hk⟩
end
abbrev K4(n:Nat)(rs:List jI)(lo hi:Nat)(A:Option Addr):Res:=.clo lo hi (λw=>OwnG lo hi w A n rs)
theorem jb9(h:OwnG lo hi w A n rs)(hz:hi<=w.heap.size):(K4 n rs lo hi A).P w:=⟨hz,λw' _ ha=>h.agree ha⟩
theorem yg(h:(K4 n rs lo hi A).P w):OwnG lo hi w A n rs:=h.2 w h.1 λ_ _ _=>rfl
abbrev jki(n:Nat)(xs:List (Int×Int))(lo hi:Nat)(A:Option Addr):Res:=.clo lo hi (λw=>OwnP lo hi w A n xs)
theorem jcJ{xs:List (Int×Int)}(h:OwnP lo hi w A n xs)(hz:hi<=w.heap.size):(jki n xs lo hi A).P w:=⟨hz,λw' _ ha=>h.agree λp _ h1 h2=>ha _ h1 h2⟩
theorem jfw{xs:List (Int×Int)}(h:(jki n xs lo hi A).P w):OwnP lo hi w A n xs:=h.2 w h.1 λ_ _ _=>rfl
theorem It{r s:Res}(h1:r.P w)(h2:s.P w)(b1:r.B=0)(b2:s.B=0)(hap:∀b,r.F b->¬s.F b):(Res.many [r,s]).P w:=
 ⟨λq hq=>by simp only[jlP,jmi,or_false] at hq;rcases hq with rfl|rfl<;>exact⟨by assumption,by assumption⟩,by simpa using hap⟩
section
variable{n:Nat}{env:List (Nat×Value)}{w0:Bs}{Rs:List Res}{K:Act->World->Prop}
theorem Rg(k:Nat){r s:Res}(hk:Rs[k]? =some (.many [r,s]))(h:At n env w0 (Rs.set k r++[s]) K):At n env w0 Rs K:=λa w hf hs=>by
 refine h a w hf ?_;have hm:=hs.all k _ hk
 have hr:=hm.1.1 r (by simp);have hss:=hm.1.1 s (by simp)
 have hap:∀b,r.F b->¬s.F b:=by have:=hm.1.2;simpa using this
 have h1:St w0 (Rs.set k r) w:=hs.chg hk (λ_=>hr.1) (λb hb=>⟨r,by simp,hb⟩) hr.2;refine h1.add' hss.1 (λb hb=>hm.2.1 b ⟨s,by simp,hb⟩) (λi q hq b hb hqb=>?_) hss.2;rw[List.getElem?_set] at hq;by_cases hik:k=i
 .subst hik;rw[if_pos rfl] at hq;split at hq
  .injection hq with hq;subst hq;exact hap b hqb hb
  .cases hq
 .rw[if_neg hik] at hq;exact hs.apart k i _ q hik hk hq b ⟨s,by simp,hb⟩ hqb
end
theorem Qk(xs:List (Int×Int)):(xs.flatMap Jt).length=xs.length*2:=by
 induction xs with
 |nil=>rfl
 |cons a r ih=>rw[jl4,jlJ,ih];simp[Jt];omega
theorem WL(xs:List (Int×Int)):∀u∈xs.flatMap Jt,u.oneCell'=true:=by
 intro u hu;obtain⟨p,_,hp⟩:=jm8.1 hu;simp[Jt] at hp;rcases hp with rfl|rfl<;>rfl
theorem Gi:∀(xs:List (Int×Int)) (k j:Nat) (hk:k<xs.length),j<2->(xs.flatMap Jt)[k*2+j]? =(Jt xs[k])[j]?
 |[],_,_,h,_=>absurd h (by simp)
 |a::r,0,j,_,hj=>by
  rw[jl4,Nat.zero_mul,jmd,List.getElem?_append_left (by simpa[Jt] using hj)];rfl
 |a::r,k+1,j,h,hj=>by
  have hl:(Jt a).length=2:=rfl;rw[jl4,List.getElem?_append_right (by rw[hl];omega),hl];have:=Gi r k j (by simpa using h) hj
  rw[show(k+1)*2+j-2=k*2+j by omega,this];rfl
theorem SJ{xs:List (Int×Int)}(h:Pts w A n xs)(hn:0<n):Src 2 (.slice A n c) n (xs.flatMap Jt) w:=by
 refine⟨by rw[Qk,h.1],.inr ?_⟩;obtain⟨b,o,rfl,hb,hc⟩:=h.2 hn;refine⟨_,c,J,λj u hu=>?_⟩;have hj:j<xs.length*2:=by have:=(List.getElem?_eq_some_iff.1 hu).1;rwa [Qk] at this
 have hl:=h.1;have e:j=j/2*2+j % 2:=by omega
 have hf:=Gi xs (j/2) (j % 2) Om Om;rw[<-e,hu,YB Om] at hf;obtain⟨h1,h2⟩:=hc (j/2) Om;rw[kq];rcases(show j % 2=0\/j % 2=1 by omega) with e2|e2
 .rw[e2] at hf;rw[show o+j=o+j/2*2 by omega,h1];simpa[Jt] using hf.symm
 .rw[e2] at hf;rw[show o+j=o+j/2*2+1 by omega,h2];simpa[Jt] using hf.symm
theorem uZ{xs:List (Int×Int)}(h:w.ownsRow B T 2 (.slice A n c) n (xs.flatMap Jt))(hn:xs.length=n):Pts w A n xs:=by
 refine⟨hn,λh0=>?_⟩;rcases h.2 with⟨_,e⟩|⟨g,cap,cur,e,hb,hg,hcap,hmax,hsz,htk⟩
 .omega
 .injection e with e1 e2 e3
  subst e1;refine⟨g,0,J,J3 hg,λk hk=>?_⟩;have hf:=λq hq=>Gi xs k q Om hq
  have hc:∀j,j<n*2->cur[j]? =(xs.flatMap Jt)[j]? :=λj hj=>by
   rw[<-htk,List.getElem?_take,if_pos hj];simp
  rw[cell_of_row w g _ _ T (0,0) hg,cell_of_row w g _ _ T (0,0) hg,jmd,hc _ Om,hc _ Om];have h0:=hf 0 Om
  have h1:=hf 1 Om;rw[YB Om] at h0 h1;exact⟨by simpa[Jt] using h0,by simpa[Jt] using h1⟩
theorem UD{s:Nat}{xs:List Value}(h:w.ownsRow B T s (.slice A n c) n xs):n<=c:=by
 rcases h.2 with⟨e,_⟩|⟨g,cap,cur,e,hb,hg,hcap,hmax,hsz,htk⟩
 .injection e;omega
 .injection e;omega
theorem Rings.form(h:Rings w A n rs)(hn:0<n):∃b o,A=some ⟨b,o,none⟩:=by
 obtain⟨b,o,hA,_⟩:=h.2 hn;exact⟨b,o,hA⟩
theorem V0(h:JG rs=true):rs.length<=40:=by
 simp[JG] at h;omega
theorem PS{rs:List jI}(h:JG rs=true):∀k,k<=rs.length->uk rs k<=400*k
 |0,_=>by simp[uk]
 |k+1,hk=>by
  have:=PS h k Om;have h2:=kg h (show k<rs.length by omega)
  simp only[uk];simp[qM,X2] at h2;omega
section
variable{w:World}{Rs:List Res}
theorem Ql{o:Nat}(hc:w.cell? ⟨b,o,none⟩=some v)(hb:b<w.heap.size):∀w',St ⟨w,[]⟩ Rs w'->w'.cell? ⟨b,o,none⟩=some v:=λw' hs=>((Jy hs.fin).1 b o hb).trans hc
theorem Wv{o:Nat}(hc:w.cell? ⟨b,o+k,none⟩=some v)(hb:b<w.heap.size):∀w',St ⟨w,[]⟩ Rs w'->∀q u,[v][q]? =some u->w'.cell? ⟨b,o+k*1+q,none⟩=some u:=λw' hs q u hq=>by
 match q,hq with
 |0,hq=>simp at hq;subst hq;rw[jmL,jnC];exact Ql hc hb w' hs
theorem QZ{o:Nat}(hc:w.cell? ⟨b,o,none⟩=some v)(hb:b<w.heap.size):∀w',St ⟨w,[]⟩ Rs w'->w'.cell? ⟨b,o+0,none⟩=some v:=λw' hs=>Ql hc hb w' hs
theorem jkj{o:Nat}(hc:w.cell? ⟨b,o+k,none⟩=some v)(hb:b<w.heap.size):∀w',St ⟨w,[]⟩ Rs w'->w'.cell? ⟨b,o+k*1+0,none⟩=some v:=λw' hs=>by rw[jmL,jnC];exact Ql hc hb w' hs
end
theorem Qj{xs:List (Int×Int)}(h:qM xs=true):0<xs.length/\xs.length<=400:=by simp[qM,X2] at h;omega
def MarkTo(cs:List Value)(o:Nat)(m:Int)(k:Nat):Prop:=∀j,j<k->cs[o+j*2]? =some (.int .i64 (m+2*j))/\cs[o+j*2+1]? =some (.int .i64 (m+2*j+1))
theorem MarkTo.step{cs:List Value}{o:Nat}{m:Int}(h:MarkTo cs o m k)(hl:o+k*2+1<cs.length):
  MarkTo (qV (qV cs (o+k*2+0) [.int .i64 (m+2*k)]) (o+k*2+1) [.int .i64 (m+2*k+1)]) o m (k+1):=by
 intro j hj;simp only[qV,jnC];by_cases hjk:j=k
 .subst hjk;rw[List.getElem?_set_ne Om,List.getElem?_set_self Om,List.getElem?_set_self (by simpa using hl)];exact⟨rfl,rfl⟩
 .have:=h j Om;rw[List.getElem?_set_ne Om,List.getElem?_set_ne Om,List.getElem?_set_ne Om,List.getElem?_set_ne Om];exact this
def jlf(lo hi:Nat)(b:Nat):Prop:=lo<=b/\b<hi
theorem jkl{ss:List jI}(h:rs.length=ss.length)(hp:∀j,j<rs.length->rg rs j=rg ss j):rs=ss:=by
 refine jm5 h λj h1 h2=>?_
 rw[wb h1,wb h2,hp j h1]
section
variable{P:Program}{n:Nat}{env:List (Nat×Value)}{w0:Bs}{Rs:List Res}{ops:Array Oper}{Q:Exit->Act->World->Prop}{K:Act->World->Prop}{o:Oper}
theorem jcL{U s:Nat}{x:Operand}{T':TypeId}{m m' c':Nat}(hT:TyL P T U s)(ho:o.op=.binOp .eql T x (.const (.slice none m' c')) T')(hx:ev env x=some (.slice A m c)):Qt P o n env w0 Rs (.bool A.isNone):=
 kd λa w hf _=>by
  have e1:a.eval (.const (.slice none m' c'))=.slice none m' c':=rfl;have e2:∀y z:Operand,eqGuard .eql T y z (.slice A m c) (.slice none m' c')=pure ():=λ_ _=>rfl
  unfold execOp;simp only[ho,hf.ev hx,e1,e2];simp[Lib.run_eql_slice_nil w T U A m c m' c' hT.desc]
end
structure Pc where
 xs:jI
 A:Option Addr
 c:Nat
 lo:Nat
 hi:Nat
def Pc.val(e:Pc):Value:=.slice e.A e.xs.length e.c
def Pc.res(e:Pc):Res:=jki e.xs.length e.xs e.lo e.hi e.A
abbrev KD(l:List Pc):Res:=.many (l.map Pc.res)
theorem ve(l:List Pc)(e:Pc):Res.many (l.map Pc.res++[e.res])=KD (l++[e]):=by simp[KD]
theorem Po{xs:List (Int×Int)}(h:w.ownsRow B T 2 (.slice x.1 n x.2) n (xs.flatMap Jt))(hn:xs.length=n):OwnP (VK x.1) (VK x.1+1) w x.1 n xs:=by
 refine⟨hn,λh0=>?_⟩;rcases h.2 with⟨_,e⟩|⟨g,cap,cur,e,hb,hg,hcap,hmax,hsz,htk⟩
 .omega
 .injection e with e1 e2 e3
  rw[e1];refine⟨g,0,T,cur,J,jlL _,Nat.lt_succ_self _,hg,λk hk=>?_⟩;have hf:=λq hq=>Gi xs k q Om hq
  have hc:∀j,j<n*2->cur[j]? =(xs.flatMap Jt)[j]? :=λj hj=>by
   rw[<-htk,List.getElem?_take,if_pos hj];simp
  rw[jmd,hc _ Om,hc _ Om];have h0:=hf 0 Om
  have h1:=hf 1 Om;rw[YB Om] at h0 h1;exact⟨by simpa[Jt] using h0,by simpa[Jt] using h1⟩
section
variable{n:Nat}{env:List (Nat×Value)}{w0:Bs}{Rs:List Res}{K:Act->World->Prop}
theorem YC(k:Nat){m:Nat}{xs:List (Int×Int)}(hk:Rs[k]? =some (JV B T 2 m (xs.flatMap Jt) x))(hm:xs.length=m)(h:∀lo hi,At n env w0 (Rs.set k (Pc.res ⟨xs,x.1,x.2,lo,hi⟩)) K):At n env w0 Rs K:=by
 subst hm;by_cases h0:0<xs.length
 .refine λa w hf hs=>h (VK x.1) (VK x.1+1) a w hf (hs.chg hk (λhP=>?_) (λb hb=>?_) J)
  .have hP':w.ownsRow B T 2 (.slice x.1 xs.length x.2) xs.length (xs.flatMap Jt):=hP;refine jcJ (Po hP' J) ?_;rcases hP'.2 with⟨_,e⟩|⟨g,cap,cur,e,hb,hg,_⟩
   .omega
   .injection e with e1
    rw[e1];exact J3 hg
  .have hP':w.ownsRow B T 2 (.slice x.1 xs.length x.2) xs.length (xs.flatMap Jt):=(hs.all k _ hk).1;have hb':VK x.1<=b/\b<VK x.1+1:=hb
   rcases hP'.2 with⟨_,e⟩|⟨g,cap,cur,e,hb2,hg,_⟩
   .omega
   .injection e with e1
    show Value.ownBlock (.slice x.1 xs.length x.2)=some b;rw[e1] at hb'⊢;have e3:g=b:=by have h1:g<=b:=hb'.1;have h2:b<g+1:=hb'.2;omega
    subst e3;rfl
 .refine λa w hf hs=>h 0 0 a w hf (hs.chg hk (λhP=>?_) (λb hb=>by have:0<=b/\b<0:=hb;omega) J)
  refine jcJ ⟨J,λh1=>absurd h1 h0⟩ (jlN _)
end
theorem zQ{l:List Pc}(h:k<l.length):rg (l.map (·.xs)) k=(l[k]).xs:=by simp[rg,List.getD,h]
theorem ON{o:Nat}{l:List Pc}(hb:w.heap[b]? =some (.cells cs T (0,0)))(hlo:lo<=b)(hc:∀k (h:k<l.length),cs[o+k]? =some (l[k]).val)(hP:(KD l).P w)(hne:¬(KD l).F b)(hF:∀q,(KD l).F q->lo<=q)(hm:∀e∈l,(e.xs.length:Int)<=1099511627776):OwnG lo w.heap.size w (some ⟨b,o,none⟩) l.length (l.map (·.xs)):=by
 have own:∀k (h:k<l.length),OwnP (l[k]).lo (l[k]).hi w (l[k]).A (l[k]).xs.length (l[k]).xs:=λk h=>jfw (hP.1 _ (jlR.2 ⟨l[k],jlY h,rfl⟩)).1
 have fp:∀k (h:k<l.length),0<(l[k]).xs.length->(l[k]).res.F (VK (l[k]).A):=λk h h0=>by
  obtain⟨b',o',T',cs',e,h1,h2,_⟩:=(own k h).2 h0;rw[e];exact⟨h1,h2⟩
 have inF:∀k (h:k<l.length) q,(l[k]).res.F q->(KD l).F q:=λk h q hq=>⟨_,jlR.2 ⟨l[k],jlY h,rfl⟩,hq⟩
 refine⟨by simp,λk hk=>by rw[zQ hk];exact hm _ (jlY hk),λ_=>⟨b,o,T,cs,λk=>if h:k<l.length then((l[k]).A,(l[k]).c) else(none,0),J,hlo,J3 hb,hb,λk hk=>?_,λk hk=>?_,λk hk h0=>?_,λi j hi hj hij h1 h2=>?_⟩⟩
 .rw[hc k hk,zQ hk];simp only[hk,dite_true];rfl
 .rw[zQ hk];simp only[hk,dite_true];refine⟨J,λh0=>?_⟩;obtain⟨b',o',T',cs',e,h1,h2,hh,hcc⟩:=(own k hk).2 h0;exact⟨b',o',T',cs',e,hF b' (inF k hk b' ⟨h1,h2⟩),J3 hh,hh,hcc⟩
 .rw[zQ hk] at h0;simp only[hk,dite_true];exact λe=>hne (e▸inF k hk _ (fp k hk h0))
 .rw[zQ hi] at h1;rw[zQ hj] at h2;simp only[hi,hj,dite_true];intro e;have hp:=jmQ.1 hP.2
  rcases jmU i j with hlt|hge
  .have:=hp i j (by simpa using hi) (by simpa using hj) hlt (VK (l[i]).A);simp only[jmW] at this;exact this (fp i hi h1) (e▸fp j hj h2)
  .have:=hp j i (by simpa using hj) (by simpa using hi) Om (VK (l[i]).A);simp only[jmW] at this;exact this (e▸fp j hj h2) (fp i hi h1)
theorem WQ(hk:k<rs.length):rs.take (k+1)=rs.take k++[rg rs k]:=by
 rw[jlX hk,wb hk]
theorem Lu{N:Nat}(h:(K4 n rs lo hi A).P w)(hF:∀b,(K4 n rs lo hi A).F b->N<=b):OwnG N w.heap.size w A n rs:=by
 have hg:=yg h;refine⟨hg.1,hg.2.1,λhn=>?_⟩;obtain⟨b,o,T,cs,pl,hA,hd⟩:=hg.2.2 hn;refine⟨b,o,T,cs,pl,hA,⟨hF b ⟨hd.low,hd.high⟩,jlU hd.high h.1,hd.blk,hd.cell,λk hk=>⟨(hd.pts k hk).1,λh0=>?_⟩,hd.off,hd.apart⟩⟩;obtain⟨b',o',T',cs',e,h1,h2,hh⟩:=(hd.pts k hk).2 h0;exact⟨b',o',T',cs',e,hF b' ⟨h1,h2⟩,jlU h2 h.1,hh⟩
theorem vz{P:Program}{f:FuncId}{w1:World}(h:Calls P f args w1 λe w'=>∃A c,e=.returned (V A c)/\OwnG w1.heap.size w'.heap.size w' A n rs/\Over w1 w'):
  Calls P f args w1 λe w'=>∃x:(Option Addr×Nat)×Nat×Nat,e=.returned (V x.1.1 x.1.2)/\Over w1 w'/\(K4 n rs x.2.1 x.2.2 x.1.1).P w'/\(∀b,(K4 n rs x.2.1 x.2.2 x.1.1).F b->w1.heap.size<=b)/\(K4 n rs x.2.1 x.2.2 x.1.1).B=0/\True:=by
 refine h.mono ?_;rintro e w' ⟨A,c,rfl,ho,hO⟩;exact⟨((A,c),w1.heap.size,w'.heap.size),rfl,hO,jb9 ho (jlL _),λb hb=>hb.1,sz⟩
def smallR(rs:List jI):Prop:=rs.length<=2000/\∀j,j<rs.length->(rg rs j).length<=500
theorem Gn{rs:List jI}(h:smallR rs):∀k,k<=rs.length->uk rs k<=500*k
 |0,_=>by simp[uk]
 |k+1,hk=>by
  have:=Gn h k Om;have:=h.2 k Om
  simp only[uk];omega
theorem smallR.total(h:smallR rs):(Go.Proofs.YtjbahemkhphndaaGreat.total rs:Int)<=1048576:=by
 have:=Gn h rs.length (jlL _);have:=h.1
 unfold Go.Proofs.YtjbahemkhphndaaGreat.total;omega
theorem smallR.sum(h:smallR rs)(hn:rs.length=n):1+2*(uk rs n:Nat)<=(4611686018427387904:Int)/\n<=4611686018427387904:=by
 have:=Gn h n Om;have:=h.1
 omega
theorem smallR.nil:smallR []:=⟨by simp,λj hj=>absurd hj (by simp)⟩
theorem smallR.of(h:JG rs=true):smallR rs:=⟨by have:=V0 h;omega,λj hj=>by have:=Qj (kg h hj);omega⟩
section
variable{w0:Bs}{Rs:List Res}
theorem jls(hk:Rs[k]? =some (K4 n rs lo hi A))(w:World)(hs:St w0 Rs w):OwnG lo hi w A n rs:=yg (hs.all k _ hk).1
theorem yh(hk:Rs[k]? =some (K4 n rs lo hi A))(w:World)(hs:St w0 Rs w):Rings w A n rs:=(jls hk w hs).rings
end
end
section
variable{A:Option Addr}{l:Leg}{ls:List Leg}
set_option maxRecDepth 100000
set_option maxHeartbeats 4000000
section
variable{w:World}{w0:Bs}{Rs:List Res}
theorem Legs.form{n:Nat}(h:Legs w A n ls)(hn:0<n):∃b o,A=some ⟨b,o,none⟩:=by
 obtain⟨b,o,rfl,_⟩:=h.2 hn;exact⟨b,o,rfl⟩
theorem Ya{b o m j:Nat}(h:∀w,St w0 Rs w->Legs w (some ⟨b,o,none⟩) m ls)(hj:j<m):∀w',St w0 Rs w'->∀q v,[Value.int .i64 (lg ls j).ax,Value.int .i64 (lg ls j).ay,Value.int .i64 (lg ls j).bx,Value.int .i64 (lg ls j).b_y][q]? =some v->w'.cell? ⟨b,o+j*4+q,none⟩=some v:=λw' hs q v hv=>by
 obtain⟨b',o',e,_,h1,h2,h3,h4⟩:=(h w' hs).at_ hj;injection e with e
 injection e with e1 e2 _
 subst e1 e2
 match q,hv with
 |0,hv=>simp at hv;subst hv;exact h1
 |1,hv=>simp at hv;subst hv;exact h2
 |2,hv=>simp at hv;subst hv;exact h3
 |3,hv=>simp at hv;subst hv;exact h4
theorem QB{b o m j:Nat}(h:∀w,St w0 Rs w->Legs w (some ⟨b,o,none⟩) m ls)(hj:j<m):∀w',St w0 Rs w'->∀q v,[Value.int .i64 (lg ls j).ax,Value.int .i64 (lg ls j).ay][q]? =some v->w'.cell? ⟨b,o+j*4+0+q,none⟩=some v:=λw' hs q v hv=>
 Ya h hj w' hs q v (by match q,hv with|0,hv=>exact hv|1,hv=>exact hv)
theorem Qg{b o m j:Nat}(h:∀w,St w0 Rs w->Legs w (some ⟨b,o,none⟩) m ls)(hj:j<m):∀w',St w0 Rs w'->∀q v,[Value.int .i64 (lg ls j).bx,Value.int .i64 (lg ls j).b_y][q]? =some v->w'.cell? ⟨b,o+j*4+2+q,none⟩=some v:=λw' hs q v hv=>by
 have:=Ya h hj w' hs (2+q) v (by match q,hv with|0,hv=>exact hv|1,hv=>exact hv)
 rwa [<-jmZ] at this
end
def ko(h:Bool)(l:Leg):Leg:=if h=true then⟨2*l.ax,2*l.ay,2*l.bx,2*l.b_y⟩ else l
def wUp(l:Leg)(x y:Int):Bool:=decide (l.ay<=y) &&decide (y<l.b_y) &&decide (0<kU l.ax l.ay l.bx l.b_y x y)
def Zz(l:Leg)(x y:Int):Bool:=decide (l.b_y<=y) &&decide (y<l.ay) &&decide (kU l.ax l.ay l.bx l.b_y x y<0)
def kk(l:Leg)(x y:Int):Int:=if wUp l x y=true then 1 else if Zz l x y=true then-1 else 0
def UK(h:Bool)(ls:List Leg)(x y:Int):Nat->Int
 |0=>0
 |k+1=>UK h ls x y k+kk (ko h (lg ls k)) x y
def Mi(h:Bool)(ls:List Leg)(x y:Int):Int:=UK h ls x y ls.length
theorem Mj(h:Bool)(ls:List Leg)(x y:Int):∀k:Nat,-(k:Int)<=UK h ls x y k/\UK h ls x y k<=k
 |0=>by simp[UK]
 |k+1=>by
  have:=Mj h ls x y k;have h2: -1<=kk (ko h (lg ls k)) x y/\kk (ko h (lg ls k)) x y<=1:=by unfold kk;split<;>(try split)<;>omega
  simp only[UK];omega
theorem ky(h:∀l∈ls,qK l){k:Nat}(hk:k<ls.length):qK (lg ls k):=by
 rw[<-uu hk];exact h _ (jlY hk)
theorem E6(h:Bool)(hl:qK l):Uo (ko h l).ax/\Uo (ko h l).ay/\Uo (ko h l).bx/\Uo (ko h l).b_y:=by
 obtain⟨⟨a1,a2⟩,⟨a3,a4⟩,⟨b1,b2⟩,b3,b4⟩:=hl;cases h
 .simp only[ko,Uo,jmF,if_false];omega
 .simp only[ko,Uo,if_true];omega
theorem jjL(hl:qK l):Uo l.ax/\Uo l.ay/\Uo l.bx/\Uo l.b_y:=by
 obtain⟨⟨a1,a2⟩,⟨a3,a4⟩,⟨b1,b2⟩,b3,b4⟩:=hl;refine⟨⟨?_,?_⟩,⟨?_,?_⟩,⟨?_,?_⟩,?_,?_⟩<;>omega
theorem jhv(hl:qK l):Uo (2*l.ax)/\Uo (2*l.ay)/\Uo (2*l.bx)/\Uo (2*l.b_y):=by
 obtain⟨⟨a1,a2⟩,⟨a3,a4⟩,⟨b1,b2⟩,b3,b4⟩:=hl;refine⟨⟨?_,?_⟩,⟨?_,?_⟩,⟨?_,?_⟩,?_,?_⟩<;>omega
theorem zv(x y:Int)(w:World)(h1:Uo x)(h2:Uo y):Calls Tryz.prog 76 #[Wh x y] w λe w'=>e=.returned (Wh (2*x) (2*y))/\Over w w':=by
 refine Jm (m:=10) (Tryz.func76) J J (lb J) ?_;refine S3 ?_;refine aX (λb1=>?_);refine N1 ?_;refine aL (λb2=>?_);refine N9 ?_;refine a9 (JD J J (J8 J J)) ?_;refine S4 ?_;refine jK J (qj (k:=1) J jk J J) ?_;intro w' hs;exact⟨rfl,hs.fin⟩
theorem XJ(A:Option Addr)(n c:Nat)(ls:List Leg)(x y:Int)(hf:Bool)(w:World)(h:Legs w A n ls)(hn:n<=1048576)(hok:∀l∈ls,qK l)(hx:Uo x)(hy:Uo y):
  Calls Tryz.prog 54 #[.slice A n c,Wh x y,.bool hf] w λe w'=>e=.returned (.int .i64 (Mi hf ls x y))/\Over w w':=by
 have hl:=h.1;refine Jm (m:=73) (Tryz.func54) J J (lb J) ?_;refine S3 ?_;refine aX (λb1=>?_);refine N14 ?_;refine qD (X:=Nat) (λk=>k<=n) (λk=>n-k) (λk=>[(7,.int .i64 (UK hf ls x y k)),(14,.int .i64 (k:Int))]) (kK [2,4,6,12,13]) 0 (jlN _) ⟨J,sz⟩ ?_;intro k hk L hL1;refine v9 ?_;have hwb:=Mj hf ls x y k
 refine S5 ?_;refine cZ (λc1=>?_) (λc1=>?_)
 .have hlt:k<n:=Om;obtain⟨bb,oo,rfl⟩:=h.form Om;have hle:=ky hok (show k<ls.length by omega)
  obtain⟨d1,d2,d3,d4⟩:=E6 hf hle;obtain⟨⟨e1,e2⟩,⟨e3,e4⟩,⟨e5,e6⟩,e7,e8⟩:=hle;refine S7 ?_;refine a9 (jj J J qF J (Ya (λw' hs=>h.over hs.fin) hlt)) ?_;refine S1 ?_;refine aL (λb2=>?_);refine N5 ?_;refine JY 8 ?_;refine dK 0 ?_;refine dK 1 ?_;refine dK 2 ?_;refine dK 3 ?_;refine Rw (i:=4) (j:=5) J J Dc Dc Dc J J J J Dc Dc Dc J J jG jG Kr Kr Kr (u9 J) (λb3 b4=>?_);refine n9 ?_;refine qg (i:=6) J Dc Kr J ?_;refine S1 ?_;refine JS (u9 J) ?_;refine qg (i:=7) J Dc Kr J ?_;refine S1 ?_;refine JS (u9 J) ?_;refine JK Kr ?_;refine S1 ?_;refine uI [] ([.cel b1 36 [.int .i64 x,.int .i64 y],.cel b2 72 (jW (lg ls k)),.cel b3 36 [.int .i64 (ko hf (lg ls k)).ax,.int .i64 (ko hf (lg ls k)).ay],.cel b4 36 [.int .i64 (ko hf (lg ls k)).bx,.int .i64 (ko hf (lg ls k)).b_y]]) (kK [2,4,6,12,13,7,14,15,16,17,9,18,19,20,21,10,11]) (λL h_t22=>?_) ?_
  .refine S4 ?_;refine cZ (λc2=>?_) (λc2=>?_)
   .refine S1 ?_;refine JY 4 ?_;refine dK 0 ?_;refine dZ 1 J (jT W7 J J (λw h=>zv _ _ w ⟨by omega,by omega⟩ ⟨by omega,by omega⟩)) ?_;refine dV 2 [3] ?_;refine dZ 3 J (jT W7 J J (λw h=>zv _ _ w ⟨by omega,by omega⟩ ⟨by omega,by omega⟩)) ?_;refine vg J Kr J ?_;refine S1 ?_;refine Qy 6 [3] ?_;refine qg (i:=5) J Dc Kr J ?_;refine S1 ?_;refine JS (uw [3] J) ?_;refine JK Kr ?_;refine S1 ?_;exact Jx h_t22 ⟨J,sz⟩ (λ_ h=>h.upto ⟨J,J,by rw[ko,if_pos c2],by rw[ko,if_pos c2],trivial⟩)
   .refine S2 ?_;exact Jx h_t22 ⟨J,sz⟩ (λ_ h=>h.upto ⟨J,J,by rw[ko,c2];rfl,by rw[ko,c2];rfl,trivial⟩)
  .refine V1 ?_;refine qH [(27,.bool (wUp (ko hf (lg ls k)) x y))] (kK [2,4,6,12,13,7,14,15,16,17,9,18,19,20,21,10,11]) (λL h_8=>?_) ?_
   .refine S7 ?_;refine cV 33 (λg1=>?_) (λg1=>?_)
    .refine S12 ?_;refine cV 40 (λg2=>?_) (λg2=>?_)
     .refine S7 ?_;refine o9 (jT K8 J J (λw h=>H1 _ _ _ _ _ _ w d1.1 d1.2 d2.1 d2.2 d3.1 d3.2 d4.1 d4.2 hx.1 hx.2 hy.1 hy.2)) ?_;refine S5 ?_;exact Jx h_8 ⟨vb (by simp[wUp, *]),sz⟩ (u9 J)
     .refine S8 ?_;exact Jx h_8 ⟨vb (by symm;simp[wUp];omega),sz⟩ (u9 J)
    .refine S15 ?_;exact Jx h_8 ⟨vb (by symm;simp[wUp];omega),sz⟩ (u9 J)
   .refine v9 ?_;refine cZ (λc3=>?_) (λc3=>?_)
    .refine S12 ?_;exact J6 hL1 (k+1) Om Om ⟨vi (by rw[UK,kk,if_pos c3]),vi Om,sz⟩ (u9 J)
    .refine qH [(49,.bool (Zz (ko hf (lg ls k)) x y))] (kK [2,4,6,12,13,7,14,15,16,17,9,18,19,20,21,10,11,27]) (λL h_10=>?_) ?_
     .refine S7 ?_;refine cV 55 (λg3=>?_) (λg3=>?_)
      .refine S12 ?_;refine cV 62 (λg4=>?_) (λg4=>?_)
       .refine S7 ?_;refine o9 (jT K8 J J (λw h=>H1 _ _ _ _ _ _ w d1.1 d1.2 d2.1 d2.2 d3.1 d3.2 d4.1 d4.2 hx.1 hx.2 hy.1 hy.2)) ?_;refine S5 ?_;exact Jx h_10 ⟨vb (by simp[Zz, *]),sz⟩ (u9 J)
       .refine S8 ?_;exact Jx h_10 ⟨vb (by symm;simp[Zz];omega),sz⟩ (u9 J)
      .refine S15 ?_;exact Jx h_10 ⟨vb (by symm;simp[Zz];omega),sz⟩ (u9 J)
     .refine v9 ?_;refine cZ (λc4=>?_) (λc4=>?_)
      .refine S12 ?_;exact J6 hL1 (k+1) Om Om ⟨vi (by rw[UK,kk,c3,if_neg (by simp),if_pos c4];rfl),vi Om,sz⟩ (u9 J)
      .refine S8 ?_;exact J6 hL1 (k+1) Om Om ⟨vi (by rw[UK,kk,c3,if_neg (by simp),c4,if_neg (by simp)];omega),vi Om,sz⟩ (u9 J)
 .refine S11 ?_;refine jK J (.tmp J) ?_;intro w' hs;exact⟨Y1 (by rw[Mi,hl,show k=n by omega]),hs.fin⟩
end
end Go.Proofs.YtjbahemkhphndaaGreat
