import Derived.Test.YtjbahemkhphndaaGreatNSnapped
import Derived.Test.YtjbahemkhphndaaGreatNSimp
set_option linter.unusedVariables false
set_option linter.unusedSimpArgs false
namespace Go.Proofs.YtjbahemkhphndaaGreat
open Go Go.RowKit
variable{K:Act->World->Prop}{Rs:List Res}{c g i k n:Nat}{l xs:List Pn}{ls:List Leg}{p:Pn}{ts:Array TypeId}{v:Value}{vs:List Value}{w w' w1:World}{w0:Bs}{x:Nat×Nat}
set_option maxRecDepth 100000
set_option maxHeartbeats 4000000
def vv(p q:Pn):Prop:=p.2<q.2\/(p.2=q.2/\p.1<q.1)
instance (p q:Pn):Decidable (vv p q):=by unfold vv;exact inferInstance
theorem VQ{q r:Pn}(h:vv p q)(h':vv q r):vv p r:=by unfold vv at*;omega
theorem kX(p:Pn):¬vv p p:=by unfold vv;omega
theorem yU(p q:Pn):vv p q\/p=q\/vv q p:=by
 rcases p with⟨x,y⟩
 rcases q with⟨x',y'⟩
 simp only[vv,Prod.mk.injEq];omega
def Asc(l:List Pn):Prop:=l.Pairwise vv
theorem Asc.head(h:Asc (p::l)):∀q∈l,vv p q:=(jmc.1 h).1
theorem Asc.tail(h:Asc (p::l)):Asc l:=(jmc.1 h).2
theorem EL:∀{l m:List Pn},Asc l->Asc m->(∀p,p∈l↔p∈m)->l=m
 |[],[],_,_,_=>rfl
 |[],q::m,_,_,h=>absurd ((h q).2 (by simp)) (by simp)
 |p::l,[],_,_,h=>absurd ((h p).1 (by simp)) (by simp)
 |p::l,q::m,hl,hm,h=>by
  have e:p=q:=by
   rcases jlP.1 ((h p).1 (by simp)) with e|h1
   .exact e
   .rcases jlP.1 ((h q).2 (by simp)) with e|h2
    .exact e.symm
    .exact absurd (VQ (hl.head q h2) (hm.head p h1)) (kX p)
  subst e;congr 1;refine EL hl.tail hm.tail λr=>?_
  constructor
  .intro hr;rcases jlP.1 ((h r).1 (jlQ _ hr)) with e|h1
   .exact absurd (e▸hl.head r hr) (kX _)
   .exact h1
  .intro hr;rcases jlP.1 ((h r).2 (jlQ _ hr)) with e|h1
   .exact absurd (e▸hm.head r hr) (kX _)
   .exact h1
def wU(xs:List Pn)(p:Pn):Nat->Nat
 |0=>0
 |k+1=>if vv p (pt xs k) then wU xs p k else k+1
theorem OO(xs:List Pn)(p:Pn):∀k,wU xs p k<=k
 |0=>jlL _
 |k+1=>by
  unfold wU;split
  .have:=OO xs p k;omega
  .exact jlL _
theorem jaV(xs:List Pn)(p:Pn):∀k j,wU xs p k<=j->j<k->vv p (pt xs j)
 |0,j,_,h=>absurd h Om
 |k+1,j,h,h'=>by
  unfold wU at h;split at h
  .rename_i hp;by_cases e:j=k
   .rw[e];exact hp
   .exact jaV xs p k j h Om
  .omega
theorem jaU(xs:List Pn)(p:Pn):∀k,0<wU xs p k->¬vv p (pt xs (wU xs p k-1))
 |0,h=>absurd h (by simp[wU])
 |k+1,h=>by
  unfold wU at h⊢;split at h
  .rename_i hp;rw[if_pos hp];exact jaU xs p k h
  .rename_i hp;rw[if_neg hp];exact hp
def VA(xs:List Pn)(p:Pn):List Pn:=if 0<wU xs p xs.length/\pt xs (wU xs p xs.length-1)=p then xs else xs.take (wU xs p xs.length)++p::xs.drop (wU xs p xs.length)
theorem KO(h:k<xs.length):xs[k]=pt xs k:=YB h
theorem HG{q:Pn}:q∈VA xs p↔q∈xs\/q=p:=by
 unfold VA;split
 .rename_i h;have hle:=OO xs p xs.length
  constructor
  .exact .inl
  .rintro(h1|rfl)
   .exact h1
   .rw[<-h.2,<-KO Om];exact jlY _
 .have:=jl1 (wU xs p xs.length) xs;constructor
  .intro h1;rcases jl0.1 h1 with h1|h1
   .exact .inl (jmp h1)
   .rcases jlP.1 h1 with h1|h1
    .exact .inr h1
    .exact .inl (jmy h1)
  .rintro(h1|h1)
   .rw[<-this] at h1;rcases jl0.1 h1 with h2|h2
    .exact jl0.2 (.inl h2)
    .exact jl0.2 (.inr (jlQ _ h2))
   .rw[h1];simp
theorem jfx(h:Asc xs):Asc (VA xs p):=by
 unfold VA;split
 .exact h
 .rename_i hn;have hle:=OO xs p xs.length
  have hs:=jm9.1 ((jl1 (wU xs p xs.length) xs).symm▸h:Asc (xs.take (wU xs p xs.length)++xs.drop (wU xs p xs.length)));refine jm9.2 ⟨hs.1,jmc.2 ⟨λq hq=>?_,hs.2.1⟩,λa ha b hb=>?_⟩
  .obtain⟨j,hj,rfl⟩:=jmq hq;rw[jmb] at hj;rw[List.getElem_drop,KO Om];exact jaV xs p xs.length _ Om Om
  .rcases jlP.1 hb with e|hb
   .subst e;obtain⟨j,hj,rfl⟩:=jmq ha;rw[jl3] at hj;rw[List.getElem_take,KO Om];have hd:=jaU xs b xs.length Om
    have h1:vv (pt xs (wU xs b xs.length-1)) b:=by
     rcases yU (pt xs (wU xs b xs.length-1)) b with h1|h1|h1
     .exact h1
     .exact absurd ⟨by omega,h1⟩ hn
     .exact absurd h1 hd
    by_cases e:j=wU xs b xs.length-1
    .rw[e];exact h1
    .have:=jmQ.1 h j (wU xs b xs.length-1) Om Om Om;rw[KO Om,KO Om] at this;exact VQ this h1
   .exact hs.2.2 a ha b hb
def Kd(l:List Pn):List Pn:=l.foldl VA []
theorem Ic(l:List Pn):∀xs,Asc xs->Asc (l.foldl VA xs)/\∀q,q∈l.foldl VA xs↔q∈xs\/q∈l:=by
 induction l with
 |nil=>intro xs h;exact⟨h,λq=>by simp⟩
 |cons p l ih=>
  intro xs h;obtain⟨h1,h2⟩:=ih (VA xs p) (jfx h);refine⟨h1,λq=>?_⟩;rw[jmI,h2 q,HG,jlP];constructor
  .rintro((h|h)|h)
   .exact .inl h
   .exact .inr (.inl h)
   .exact .inr (.inr h)
  .rintro(h|h|h)
   .exact .inl (.inl h)
   .exact .inl (.inr h)
   .exact .inr h
theorem Gj(l:List Pn):Asc (Kd l):=(Ic l [] List.Pairwise.nil).1
theorem yv(l:List Pn)(q:Pn):q∈Kd l↔q∈l:=by rw[Kd,(Ic l [] List.Pairwise.nil).2 q];simp
def ka:List Pn->List Pn
 |[]=>[]
 |[p]=>[p]
 |p::q::l=>if p=q then ka (q::l) else p::ka (q::l)
theorem xK:∀(l:List Pn) (r:Pn),r∈ka l↔r∈l
 |[],_=>Iff.rfl
 |[_],_=>Iff.rfl
 |p::q::l,r=>by
  unfold ka;split
  .rename_i e;rw[xK (q::l) r,e];simp
  .rw[jlP,xK (q::l) r];simp
def Ris(l:List Pn):Prop:=l.Pairwise λp q=>¬vv q p
theorem F4:∀{l:List Pn},Ris l->Asc (ka l)
 |[],_=>List.Pairwise.nil
 |[p],_=>jmK _ _
 |p::q::l,h=>by
  have h1:=jmc.1 h;have ih:=F4 (l:=q::l) h1.2
  unfold ka;split
  .exact ih
  .rename_i hne;refine jmc.2 ⟨λr hr=>?_,ih⟩;rw[xK] at hr;have hpq:vv p q:=by
    rcases yU p q with h2|h2|h2
    .exact h2
    .exact absurd h2 hne
    .exact absurd h2 (h1.1 q (by simp))
   rcases jlP.1 hr with e|hr
   .rw[e];exact hpq
   .have h3:=(jmc.1 h1.2).1 r hr;unfold vv at*;omega
theorem jd2{m:List Pn}(hs:Ris m)(hp:∀q,q∈m↔q∈l):ka m=Kd l:=
 EL (F4 hs) (Gj l) λq=>by rw[xK,hp,yv]
theorem Eu(x:Int):0<=x*x:=by
 rcases Int.le_total 0 x with h|h
 .exact jl2 h h
 .have:=jl2 (show 0≤-x by omega) (show 0≤-x by omega);grind
def crD(a b c d:Pn):Int:=Xv a.1 a.2 b.1 b.2 c.1 c.2 d.1 d.2
def crN(a c d:Pn):Int:=MG a.1 a.2 c.1 c.2 d.1 d.2
def Rt(a b c d:Pn):Pn:=(D9 a.1 b.1 (crN a c d) (crD a b c d),D9 a.2 b.2 (crN a c d) (crD a b c d))
theorem Lp(a b c d:Pn):crD a b c d=tn c d a-tn c d b:=by
 unfold crD Xv tn kU;grind
theorem XX(a c d:Pn):crN a c d=tn c d a:=by
 unfold crN MG tn kU;grind
theorem yB{a b c d:Pn}(h:qC a b c d=true):crD a b c d≠0:=by
 rw[Lp];simp only[qC,jlK,decide_eq_true_eq] at h;intro e;have e':tn c d a=tn c d b:=by omega
 rw[e'] at h;have:=Eu (wP (tn c d b))
 omega
theorem jeX{a b c d:Pn}(h:Qi a b c d=2):(QE a b c d).length=0/\crD a b c d≠0:=by
 unfold Qi at h;split at h
 .rename_i h0;split at h
  .rename_i h1;exact⟨h0,yB h1⟩
  .omega
 .split at h<;>omega
def Xh(p:Pn):Prop:=(-1152921504606846976<=p.1/\p.1<=1152921504606846976)∧-1152921504606846976<=p.2/\p.2<=1152921504606846976
theorem bd2.wide(h:bd2 p):Xh p:=by
 obtain⟨⟨h1,h2⟩,h3,h4⟩:=h;exact⟨⟨by omega,by omega⟩,by omega,by omega⟩
theorem jd4{x y n d:Int}(hx: -262144<=x/\x<=262144)(hy: -262144<=y/\y<=262144)(hn: -549755813888<=n/\n<=549755813888)(hd:d≠0): -1152921504606846976<=D9 x y n d/\D9 x y n d<=1152921504606846976:=by
 rw[Cp _ _ _ _ hd];split
 .have h1:=QN (a:=y-x) (b:= -n) (A:=524288) (B:=549755813888) Om Om Om Om;have h2:=LZ ((y-x)* -n) (-d) 288230376151711744 Om Om Om
  omega
 .have h1:=QN (a:=y-x) (b:=n) (A:=524288) (B:=549755813888) Om Om Om Om;have h2:=LZ ((y-x)*n) d 288230376151711744 Om Om Om
  omega
theorem Ez{a b c:Pn}(ha:bd2 a)(hb:bd2 b)(hc:bd2 c): -549755813888<=tn a b c/\tn a b c<=549755813888:=by
 obtain⟨⟨a1,a2⟩,a3,a4⟩:=ha;obtain⟨⟨b1,b2⟩,b3,b4⟩:=hb;obtain⟨⟨c1,c2⟩,c3,c4⟩:=hc;exact jkw _ _ _ _ _ _ a1 a2 a3 a4 b1 b2 b3 b4 c1 c2 c3 c4
theorem jju{a b c d:Pn}(ha:bd2 a)(hb:bd2 b)(hc:bd2 c)(hd:bd2 d)(h:crD a b c d≠0):Xh (Rt a b c d):=by
 have hn:=Ez hc hd ha;rw[<-XX] at hn;exact⟨jd4 ha.1 hb.1 hn h,jd4 ha.2 hb.2 hn h⟩
theorem zl(h:bd2 p):WT p.1 p.2=true:=by
 obtain⟨⟨h1,h2⟩,h3,h4⟩:=h;simp[WT,X2, *]
theorem Co(a b c d:Pn)(w:World)(ha:bd2 a)(hb:bd2 b)(hc:bd2 c)(hd:bd2 d)(h:crD a b c d≠0):Calls Tryz.prog 107 #[pV a,pV b,pV c,pV d] w λe w'=>e=.returned (pV (Rt a b c d))/\Over w w':=
 Ru a.1 a.2 b.1 b.2 c.1 c.2 d.1 d.2 w (zl ha) (zl hb) (zl hc) (zl hd) h
theorem Fp(a b c d:Pn)(w:World)(ha:bd2 a)(hb:bd2 b)(hc:bd2 c)(hd:bd2 d)(h:Qi a b c d=2):Calls Tryz.prog 62 #[pV a,pV b,pV c,pV d] w λe w'=>e=.returned (pV (Rt a b c d))/\Over w w':=by
 obtain⟨h0,hD⟩:=jeX h;have n1:=Ez hc hd ha
 have n2:=Ez hc hd hb;have eD:=Lp a b c d
 have eN:=XX a c d;have e1:=Cp a.1 b.1 (crN a c d) (crD a b c d) hD
 have e2:=Cp a.2 b.2 (crN a c d) (crD a b c d) hD;have f1:=ha;have f2:=hb
 obtain⟨⟨a1,a2⟩,a3,a4⟩:=f1;obtain⟨⟨b1,b2⟩,b3,b4⟩:=f2;have x1:=QN (a:=b.1-a.1) (b:=tn c d a) (A:=524288) (B:=549755813888) Om Om Om Om
 have x2:=QN (a:=b.2-a.2) (b:=tn c d a) (A:=524288) (B:=549755813888) Om Om Om Om;have x3:=QN (a:=b.1-a.1) (b:= -tn c d a) (A:=524288) (B:=549755813888) Om Om Om Om
 have x4:=QN (a:=b.2-a.2) (b:= -tn c d a) (A:=524288) (B:=549755813888) Om Om Om Om;rw[eD,eN] at e1 e2;have hD':tn c d a-tn c d b≠0:=eD▸hD
 have eP:Rt a b c d=(D9 a.1 b.1 (tn c d a) (tn c d a-tn c d b),D9 a.2 b.2 (tn c d a) (tn c d a-tn c d b)):=by rw[Rt,eD,eN]
 refine Jm (m:=64) (Tryz.func62) J J (lb J) ?_;refine S3 ?_;refine aX (λb1=>?_);refine N1 ?_;refine aX (λb2=>?_);refine N1 ?_;refine aX (λb3=>?_);refine N1 ?_;refine aX (λb4=>?_);refine N1 ?_;refine aL (λb5=>?_);refine N8 ?_;refine J4 Zp (v:=λx=>.slice x.1 _ x.2) (r:=λx=>JV 0 36 2 _ _ x) (H:=λ_=>True) J J J (lb J) (λw1 hs=>q6 (Mu a b c d w1 ha hb hc hd)) ?_;rintro⟨eA,ec⟩-;refine N9 ?_;refine cZ (λc1=>?_) (λc1=>?_)
 .omega
 .refine S7 ?_;refine a9 (jT QV J J (λw h=>uO _ _ _ w hc hd ha)) ?_;refine S8 ?_;refine a9 (jT QV J J (λw h=>uO _ _ _ w hc hd hb)) ?_;refine S9 ?_;refine cZ (λc2=>?_) (λc2=>?_)
  .have r1:=LZ ((b.1-a.1)* -tn c d a) (-(tn c d a-tn c d b)) 288230376151711744 Om Om Om;have r2:=LZ ((b.2-a.2)* -tn c d a) (-(tn c d a-tn c d b)) 288230376151711744 Om Om Om
   rw[if_pos c2] at e1 e2;refine S3 ?_;refine a9 (zN J J Om Om) ?_;refine S4 ?_;refine a9 (zN J J Om Om) ?_;refine S4 ?_;refine Qy 26 [4] ?_;refine dK 0 ?_;refine dK 1 ?_;refine dK 2 ?_;refine dK 3 ?_;refine dK 4 ?_;refine dK 5 ?_;refine dK 6 ?_;refine dK 7 ?_;refine dK 8 ?_;refine dK 9 ?_;refine dZ 10 J (jT wG J J (λw h=>Calls.still (UU _ _ w Om Om Om Om))) ?_;refine dK 11 ?_;refine dK 12 ?_;refine dK 13 ?_;refine dK 14 ?_;refine dK 15 ?_;refine dK 16 ?_;refine dK 17 ?_;refine dK 18 ?_;refine dK 19 ?_;refine dK 20 ?_;refine dK 21 ?_;refine dZ 22 J (jT wG J J (λw h=>Calls.still (UU _ _ w Om Om Om Om))) ?_;refine dK 23 ?_;refine dZ 24 J (JD J J (J8 J J)) ?_;refine qg (i:=25) J Dc Kr J ?_;refine S1 ?_;refine JS (uw [4] J) ?_;refine JK Kr ?_;refine S2 ?_;refine jK J (qj (k:=4) J jk J J) ?_;intro w' hs;exact⟨by rw[eP,e1,e2],hs.fin⟩
  .have r1:=LZ ((b.1-a.1)*tn c d a) (tn c d a-tn c d b) 288230376151711744 Om Om Om;have r2:=LZ ((b.2-a.2)*tn c d a) (tn c d a-tn c d b) 288230376151711744 Om Om Om
   rw[if_neg (jmS.2 c2)] at e1 e2;refine S4 ?_;refine Qy 26 [4] ?_;refine dK 0 ?_;refine dK 1 ?_;refine dK 2 ?_;refine dK 3 ?_;refine dK 4 ?_;refine dK 5 ?_;refine dK 6 ?_;refine dK 7 ?_;refine dK 8 ?_;refine dK 9 ?_;refine dZ 10 J (jT wG J J (λw h=>Calls.still (UU _ _ w Om Om Om Om))) ?_;refine dK 11 ?_;refine dK 12 ?_;refine dK 13 ?_;refine dK 14 ?_;refine dK 15 ?_;refine dK 16 ?_;refine dK 17 ?_;refine dK 18 ?_;refine dK 19 ?_;refine dK 20 ?_;refine dK 21 ?_;refine dZ 22 J (jT wG J J (λw h=>Calls.still (UU _ _ w Om Om Om Om))) ?_;refine dK 23 ?_;refine dZ 24 J (JD J J (J8 J J)) ?_;refine qg (i:=25) J Dc Kr J ?_;refine S1 ?_;refine JS (uw [4] J) ?_;refine JK Kr ?_;refine S2 ?_;refine jK J (qj (k:=4) J jk J J) ?_;intro w' hs;exact⟨by rw[eP,e1,e2],hs.fin⟩
section
variable{P:Program}{n:Nat}{env:List (Nat×Value)}{w0:Bs}{Rs:List Res}{ops:Array Oper}{Q:Exit->Act->World->Prop}{K:Act->World->Prop}{o:Oper}
theorem qm{f d:Nat}(hfn:FnOk P f){xs:List Operand}{X:Type}{v:X->Value}{r:Res}{r':X->Res}(ho:o.op=.call {callee:=.value (.func f),args:=xs.toArray,argTypes:=ts})(hx:Fl env xs=some vs)(hd:o.dst=some d)(hn:d<n)(hk:Rs[k]? =some r)(hc:∀w,St w0 Rs w->Calls P f vs.toArray w λe w'=>∃x,e=.returned (v x)/\Wrs r.F w w'/\(r' x).P w'/\(∀b,(r' x).F b->r.F b\/w.heap.size<=b)/\(r' x).B=0)(h:∀x,At n ((d,v x)::env) w0 (Rs.set k (r' x)) K):At n env w0 Rs (λa w=>o.wp P a w K Q):=λa w hF' hs=>by
 show o.upon P a K Q ((execOp a.eval o).run P w);rw[xt hfn ho hx hF'];refine Calls.mono (hc w hs) ?_;rintro e w' ⟨x,rfl,hw,hp,hF,hB⟩;have hlow:=(hs.all k _ hk).2.1
 show K (a.put o.dst (v x)) w';rw[hd];refine h x _ _ (hF'.put hn _) (hs.upd hk ⟨hw.os.trans hs.over.os,hw.tape.trans hs.over.tape,hw.output.trans hs.over.output,jmC hs.over.size hw.size,λc hc' hx'=>?_⟩ hw.size (λc hc' hne=>hw.block c hc' hne) hp (λc hc'=>hF c hc') hB);rw[hw.block c (jlU hc' hs.over.size) (λe=>(hlow c e).elim (λh1=>by omega) (λh1=>hx' h1))];exact hs.over.block c hc' hx'
theorem jdB(k:Nat){B T s m:Nat}{xs:List Value}(hk:Rs[k]? =some (.row B T s v m xs))(h:At n env w0 (Rs.set k (.row 0 T s v m xs)) K):At n env w0 Rs K:=λa w hf hs=>
 h a w hf (hs.chg hk (λhP=>wI hP (jlN _)) (λc hc=>hc) rfl)
end
theorem FT{env:List (Nat×Value)}(h:∀w1,St w0 Rs w1->At n env ⟨w1,[]⟩ [] K):At n env w0 Rs K:=λa w hf hs=>h w hs a w hf (St.start w)
abbrev Yq(xs:List Pn)(x:Nat×Nat):Res:=JV 0 36 2 xs.length (xs.flatMap Jt) (some ⟨x.1,0,none⟩,x.2)
theorem WF(p q:Pn)(w:World):Calls Tryz.prog 65 #[pV p,pV q] w λe w'=>e=.returned (.bool (decide (vv p q)))/\Over w w':=by
 refine Jm (m:=24) (Tryz.func65) J J (lb J) ?_;refine S3 ?_;refine aX (λb1=>?_);refine N1 ?_;refine aX (λb2=>?_);refine N10 ?_;refine cV 10 (λg1=>?_) (λg1=>?_)
 .refine S16 ?_;refine jK J (.tmp J) ?_;intro w' hs;exact⟨congrArg Ending.returned (congrArg Value.bool (jl8.2 (Iff.trans (b:=vv p q) (by simp[vv];omega) decide_eq_true_iff.symm))),hs.fin⟩
 .refine S12 ?_;refine cV 16 (λg2=>?_) (λg2=>?_)
  .refine S16 ?_;refine jK J (.tmp J) ?_;intro w' hs;exact⟨congrArg Ending.returned (congrArg Value.bool (jl8.2 (Iff.trans (b:=vv p q) (by simp[vv];omega) decide_eq_true_iff.symm))),hs.fin⟩
  .refine S11 ?_;refine jK J (.tmp J) ?_;intro w' hs;exact⟨congrArg Ending.returned (congrArg Value.bool (jl8.2 (Iff.trans (b:=vv p q) (by simp[vv];omega) decide_eq_true_iff.symm))),hs.fin⟩
theorem jcH(h:¬(0<k/\vv p (pt xs (k-1)))):wU xs p k=k:=by
 cases k with
 |zero=>rfl
 |succ k=>
  rw[wU,if_neg];intro h1;exact h ⟨by omega,h1⟩
theorem jcG(h:0<k/\vv p (pt xs (k-1))):wU xs p (k-1)=wU xs p k:=by
 cases k with
 |zero=>rfl
 |succ k=>
  show wU xs p k=wU xs p (k+1);rw[wU,if_pos (show vv p (pt xs k) from h.2)]
theorem jlx{j:Nat}:((px xs j==p.1) && (py xs j==p.2))=decide (pt xs j=p):=by
 rw[jl8];simp[pt,Prod.ext_iff]
theorem jfz(h:k=wU xs p xs.length)(hk:0<k/\pt xs (k-1)=p):VA xs p=xs:=by
 subst h;rw[VA,if_pos hk]
theorem jfy(h:k=wU xs p xs.length)(hk:¬(0<k/\pt xs (k-1)=p)):VA xs p=xs.take k++p::xs.drop k:=by
 subst h;rw[VA,if_neg hk]
theorem X5(g c n:Nat)(xs:List Pn)(p:Pn)(w:World)(h:Pts w (some ⟨g,0,none⟩) n xs)(hc:n<=c)(hn:n<=1048576):
  Calls Tryz.prog 59 #[.slice (some ⟨g,0,none⟩) n c,pV p] w λe w'=>(e=.returned (.slice (some ⟨g,0,none⟩) n c)/\VA xs p=xs/\Over w w')\/∃v,e=.returned v/\w'.ownsRow w.heap.size 36 2 v (VA xs p).length ((VA xs p).flatMap Jt)/\Over w w':=by
 have hl:=h.1;refine Jm (m:=48) (Tryz.func59) J J (lb J) ?_;refine S3 ?_;refine aX (λb1=>?_);refine N10 ?_;refine qD (X:=Nat) (λk=>k<=n/\wU xs p k=wU xs p n) (λk=>k) (λk=>[(5,.int .i64 (k:Int))]) (kK [0,3,4]) n (⟨jlL _,J⟩) ⟨J,sz⟩ ?_;intro k hk L hL1;refine V1 ?_;refine qH [(19,.bool (decide (0<k/\vv p (pt xs (k-1)))))] (kK [0,3,4,5]) (λL h_2=>?_) ?_
 .refine S1 ?_;refine JY 11 ?_;refine dK 0 ?_;refine dK 1 ?_;refine dK 2 ?_;refine cV 11 (λg1=>?_) (λg1=>?_)
  .refine eK 3 ?_;refine eK 4 ?_;refine eK 5 ?_;refine eZ 6 J ((JP J J J Om Om).as (congrArg _ (show((k:Int)-1)=((k-1:Nat):Int) by omega))) ?_;refine eK 7 ?_;refine eZ 8 J (jj J J jk J (WM h Om)) ?_;refine eZ 9 J (jT KK J J (λw _=>WF p (pt xs (k-1)) w)) ?_;refine dK 10 ?_;refine JK Kr ?_;refine S1 ?_;exact Jx h_2 ⟨vb (by simp;omega),sz⟩ (u9 J)
  .refine fK 3 ?_;refine fK 4 ?_;refine fK 5 ?_;refine fK 6 ?_;refine fK 7 ?_;refine fK 8 ?_;refine fK 9 ?_;refine dK 10 ?_;refine JK Kr ?_;refine S1 ?_;exact Jx h_2 ⟨vb (by simp;omega),sz⟩ (u9 J)
 .refine v9 ?_;refine cZ (λc1=>?_) (λc1=>?_)
  .refine S10 ?_;exact J6 hL1 (k-1) (⟨by omega,(jcG c1).trans hk.2⟩) Om ⟨vi Om,sz⟩ (u9 J)
  .have hpos:k=wU xs p xs.length:=by rw[hl,<-hk.2,jcH c1]
   refine S6 ?_;refine qH [(32,.bool (decide (0<k/\pt xs (k-1)=p)))] (kK [0,3,4,5]) (λL h_4=>?_) ?_
   .refine S1 ?_;refine JY 11 ?_;refine dK 0 ?_;refine dK 1 ?_;refine dK 2 ?_;refine cV 24 (λg2=>?_) (λg2=>?_)
    .refine eK 3 ?_;refine eK 4 ?_;refine eZ 5 J ((JP J J J Om Om).as (congrArg _ (show((k:Int)-1)=((k-1:Nat):Int) by omega))) ?_;refine eK 6 ?_;refine eZ 7 J (jj J J jk J (WM h Om)) ?_;refine eK 8 ?_;refine eK 9 ?_;refine dK 10 ?_;refine JK Kr ?_;refine S1 ?_;exact Jx h_4 ⟨vb (by rw[jlx];simp;omega),sz⟩ (u9 J)
    .refine fK 3 ?_;refine fK 4 ?_;refine fK 5 ?_;refine fK 6 ?_;refine fK 7 ?_;refine fK 8 ?_;refine fK 9 ?_;refine dK 10 ?_;refine JK Kr ?_;refine S1 ?_;exact Jx h_4 ⟨vb (by rw[decide_eq_false (λh=>absurd h.1 Om)]),sz⟩ (u9 J)
   .refine v9 ?_;refine cZ (λc2=>?_) (λc2=>?_)
    .refine S7 ?_;refine jK J (.tmp J) ?_;intro w' hs;exact .inl ⟨rfl,jfz hpos c2,hs.fin⟩
    .have hput:=jfy hpos c2;have hpl:(VA xs p).length=0+k+1+(n-k):=by rw[hput,jlJ,jlS,jl3,jmb];omega
     refine S5 ?_;refine j5 J J (Vc) J (lb J) (λb2=>?_);refine W0 1 2 J J ?_;refine N2 ?_;refine a9 ((KQ J J J jw Om).as (ui _ _ _ _ _)) ?_;refine S1 ?_;refine JQ (k:=1) J jw jG Dc J Dc J J J (λw' hs=>SK (h.over hs.fin) Om) (WL _) (by unfold maxLen;omega) Om (jlL _) (λr1=>?_);refine N7 ?_;refine j5 J J (qq J) J (lb J) (λb3=>?_);refine N1 ?_;refine JQ (k:=1) J jw jG Dc J Dc J J J (λw' hs=>qL hs (k:=2) J J) (by simp[Value.oneCell']) (by unfold maxLen;omega) Om (jlL _) (λr2=>?_);refine N7 ?_;refine a9 ((VR J J J jw Om).as (U0 (b:=g) (o:=0) (l:=k) (h:=n) (m:=c) (s:=2) hc Om)) ?_;refine S1 ?_;refine JQ (k:=1) J jw jG Dc J Dc J J J (λw' hs=>jiw (h.over hs.fin) Om hc) (WL _) (by unfold maxLen;omega) Om (jlL _) (λr3=>?_);refine N3 ?_;refine jK J (.tmp J) ?_;intro w' hs;have hr:=(hs.all 1 _ rfl).1
     exact .inr ⟨_,rfl,by rw[hpl,hput,jlW,jl4,<-jlT];exact hr,hs.fin⟩
theorem jid(h:(Yq xs (g,c)).P w)(hn:xs.length<=1048576):
  Calls Tryz.prog 59 #[.slice (some ⟨g,0,none⟩) xs.length c,pV p] w λe w'=>∃x:Nat×Nat,e=.returned (.slice (some ⟨x.1,0,none⟩) (VA xs p).length x.2)/\Wrs (Yq xs (g,c)).F w w'/\(Yq (VA xs p) x).P w'/\(∀b,(Yq (VA xs p) x).F b->(Yq xs (g,c)).F b\/w.heap.size<=b)/\(Yq (VA xs p) x).B=0:=by
 refine(X5 g c xs.length xs p w (uZ h J) (UD h) hn).mono ?_;rintro e w' (⟨rfl,hp,hO⟩|⟨v,rfl,hr,hO⟩)
 .refine⟨(g,c),by rw[hp],Wrs.of hO,?_,λb hb=>.inl (by rw[hp] at hb;exact hb),J⟩;rw[hp];exact(Yq xs (g,c)).dep w w' h hO.size λb hb _=>hO.out.block b hb
 .obtain⟨x,rfl⟩:=Ub hr;have h0:0<(VA xs p).length:=List.length_pos_of_mem (HG.2 (.inr rfl))
  have hs:∃g2,x.1=some ⟨g2,0,none⟩:=by
   rcases hr.2 with⟨_,e⟩|⟨g2,cap,cur,e,_⟩
   .omega
   .injection e with e1
    exact⟨g2,e1⟩
  obtain⟨g2,hg2⟩:=hs;obtain⟨xA,xc⟩:=x;simp only at hg2;subst hg2;exact⟨(g2,xc),rfl,Wrs.of hO,wI hr (jlN _),λb hb=>.inr (hr.lt b hb).1,rfl⟩
def yi(w1:World)(g:Nat)(xs:List Pn)(x:Nat×Nat):Res:=if x.1<w1.heap.size then {F:=λ_=>False,P:=λ_=>x.1=g/\(Yq xs x).P w1,low:=λ_ _ _ h=>h.elim,B:=0,dep:=λ_ _ h _ _=>h} else Yq xs x
theorem RF(w1:World)(g:Nat)(xs:List Pn)(x:Nat×Nat):(yi w1 g xs x).B=0:=by unfold yi;split<;>rfl
theorem jes(h:(yi w1 g xs x).P w')(hO:Over w1 w'):(Yq xs x).P w'/\(x.1=g\/w1.heap.size<=x.1):=by
 unfold yi at h;split at h
 .exact⟨(Yq xs x).dep w1 w' h.2 hO.size λb hb _=>hO.out.block b hb,.inl h.1⟩
 .rename_i hn;exact⟨h,.inr Om⟩
theorem jjG{b:Nat}(h:(Yq xs x).F b):b=x.1:=by
 have h:some x.1=some b:=h;injection h with h
 exact h.symm
theorem Nj(h:(Yq xs x).P w')(hx:w1.heap.size<=x.1):(yi w1 g xs x).P w':=by
 unfold yi;rw[if_neg Om];exact h
theorem jic(h:(Yq xs (g,c)).P w1)(hO:Over w1 w')(hn:xs.length<=1048576):
  Calls Tryz.prog 59 #[.slice (some ⟨g,0,none⟩) xs.length c,pV p] w' λe w''=>∃x:Nat×Nat,e=.returned (.slice (some ⟨x.1,0,none⟩) (VA xs p).length x.2)/\Over w' w''/\(yi w1 g (VA xs p) x).P w''/\(∀b,(yi w1 g (VA xs p) x).F b->w'.heap.size<=b)/\(yi w1 g (VA xs p) x).B=0/\True:=by
 have hg:g<w1.heap.size:=(Yq xs (g,c)).low w1 h g rfl;have h':=(Yq xs (g,c)).dep w1 w' h hO.size λb hb _=>hO.out.block b hb
 refine(X5 g c xs.length xs p w' (uZ h' J) (UD h') hn).mono ?_;rintro e w'' (⟨rfl,hp,hO'⟩|⟨v,rfl,hr,hO'⟩)
 .refine⟨(g,c),by rw[hp],hO',?_,λb hb=>?_,RF _ _ _ _,trivial⟩
  .rw[hp];unfold yi;rw[if_pos hg];exact⟨rfl,h⟩
  .unfold yi at hb;rw[if_pos hg] at hb;exact hb.elim
 .obtain⟨x,rfl⟩:=Ub hr;have h0:0<(VA xs p).length:=List.length_pos_of_mem (HG.2 (.inr rfl))
  obtain⟨g2,hg2⟩:∃g2,x.1=some ⟨g2,0,none⟩:=by
   rcases hr.2 with⟨_,e⟩|⟨g2,cap,cur,e,_⟩
   .omega
   .injection e with e1
    exact⟨g2,e1⟩
  obtain⟨xA,xc⟩:=x;simp only at hg2;subst hg2;have hlt:=hr.lt g2 rfl
  refine⟨(g2,xc),J,hO',Nj (wI hr (jlN _)) (jmC hO.size hlt.1),λb hb=>?_,RF _ _ _ _,trivial⟩;unfold yi at hb;split at hb
  .exact hb.elim
  .rw[jjG hb];exact hlt.1
theorem jcK{g1:Nat}(h:(yi w1 g xs (g1,c)).P w')(hO:Over w1 w')(hn:xs.length<=1048576):
  Calls Tryz.prog 59 #[.slice (some ⟨g1,0,none⟩) xs.length c,pV p] w' λe w''=>∃x:Nat×Nat,e=.returned (.slice (some ⟨x.1,0,none⟩) (VA xs p).length x.2)/\Wrs (yi w1 g xs (g1,c)).F w' w''/\(yi w1 g (VA xs p) x).P w''/\(∀b,(yi w1 g (VA xs p) x).F b->(yi w1 g xs (g1,c)).F b\/w'.heap.size<=b)/\(yi w1 g (VA xs p) x).B=0:=by
 have h':=(jes h hO).1;refine(X5 g1 c xs.length xs p w' (uZ h' J) (UD h') hn).mono ?_;rintro e w'' (⟨rfl,hp,hO'⟩|⟨v,rfl,hr,hO'⟩)
 .refine⟨(g1,c),by rw[hp],Wrs.of hO',?_,λb hb=>.inl (by rw[hp] at hb;exact hb),RF _ _ _ _⟩;rw[hp];exact(yi w1 g xs (g1,c)).dep w' w'' h hO'.size λb hb _=>hO'.out.block b hb
 .obtain⟨x,rfl⟩:=Ub hr;have h0:0<(VA xs p).length:=List.length_pos_of_mem (HG.2 (.inr rfl))
  obtain⟨g2,hg2⟩:∃g2,x.1=some ⟨g2,0,none⟩:=by
   rcases hr.2 with⟨_,e⟩|⟨g2,cap,cur,e,_⟩
   .omega
   .injection e with e1
    exact⟨g2,e1⟩
  obtain⟨xA,xc⟩:=x;simp only at hg2;subst hg2;have hlt:=hr.lt g2 rfl
  refine⟨(g2,xc),J,Wrs.of hO',Nj (wI hr (jlN _)) (jmC hO.size hlt.1),λb hb=>.inr ?_,RF _ _ _ _⟩;unfold yi at hb;split at hb
  .exact hb.elim
  .rw[jjG hb];exact hlt.1
theorem jgK{env:List (Nat×Value)}{Rs2:List Res}(hs1:St w0 Rs w1)(k j:Nat){xs2:List Pn}{x2:Nat×Nat}(hk:Rs[k]? =some (Yq xs (g,c)))(hj:Rs2[j]? =some (yi w1 g xs2 x2))(h:At n env w0 (Rs.set k (Yq xs2 x2)) K):At n env ⟨w1,[]⟩ Rs2 K:=λa w' hf hs=>by
 have hO:Over w1 w':=hs.fin;obtain⟨hP,hx⟩:=jes (hs.all j _ hj).1 hO;refine h a w' hf (hs1.upd hk ⟨hO.out.os.trans hs1.over.os,hO.out.tape.trans hs1.over.tape,hO.out.output.trans hs1.over.output,jmC hs1.over.size hO.size,λc hc' hx'=>?_⟩ hO.size (λb hb _=>hO.out.block b hb) hP (λb hb=>?_) J)
 .exact(hO.out.block c (jlU hc' hs1.over.size)).trans (hs1.over.block c hc' hx')
 .have e:=jjG hb;rcases hx with h1|h1
  .left;show some g=some b;rw[e,h1]
  .right;omega
def cz(ls:List Leg)(i:Nat):Nat->List Pn
 |0=>[]
 |k+1=>cz ls i k++(if Qi (lA (lg ls i)) (lB (lg ls i)) (lA (lg ls k)) (lB (lg ls k))=2 then [Rt (lA (lg ls i)) (lB (lg ls i)) (lA (lg ls k)) (lB (lg ls k))] else [])
def zb(ls:List Leg):Nat->List Pn
 |0=>[]
 |i+1=>zb ls i++[lA (lg ls i),lB (lg ls i)]++cz ls i i
theorem Cs(ls:List Leg)(i:Nat):∀k,(cz ls i k).length<=k
 |0=>jlL _
 |k+1=>by
  have:=Cs ls i k;unfold cz;rw[jlJ];split<;>simp<;>omega
theorem xP(ls:List Leg):∀i,(zb ls i).length<=i*(i+2)
 |0=>jlL _
 |i+1=>by
  have h1:=xP ls i;have h2:=Cs ls i i
  unfold zb;rw[jlJ,jlJ];simp only[jlS,jl5];have e:(i+1)*(i+1+2)=i*(i+2)+2*i+3:=by simp only[Nat.add_mul,Nat.mul_add];omega
  omega
def UB(ls:List Leg)(i k:Nat):List Pn:=zb ls i++[lA (lg ls i),lB (lg ls i)]++cz ls i k
theorem jaW(hi:i<400)(hk:k<=i):(UB ls i k).length<=170000:=by
 have h1:=xP ls i;have h2:=Cs ls i k
 have h3:i*(i+2)<=400*402:=Nat.mul_le_mul Om Om;unfold UB;rw[jlJ,jlJ];simp only[jlS,jl5];omega
theorem PC(xs:List Pn)(p:Pn):(VA xs p).length<=xs.length+1:=by
 have:=OO xs p xs.length;unfold VA;split
 .omega
 .rw[jlJ,jlS,jl3,jmb];omega
theorem jb8(l:List Pn):∀xs,(l.foldl VA xs).length<=xs.length+l.length:=by
 induction l with
 |nil=>intro xs;exact jlL _
 |cons p l ih=>
  intro xs;have h1:=ih (VA xs p)
  have h2:=PC xs p;rw[jmI,jlS];omega
theorem Gk(l:List Pn):(Kd l).length<=l.length:=by have:=jb8 l [];simpa[Kd] using this
theorem Eh(l:List Pn)(p:Pn):Kd (l++[p])=VA (Kd l) p:=by simp[Kd,jnI]
theorem PB(ls:List Leg)(i:Nat):Kd (UB ls i 0)=VA (VA (Kd (zb ls i)) (lA (lg ls i))) (lB (lg ls i)):=by
 simp[UB,cz,Kd,jnI]
theorem Dq(h:Qi (lA (lg ls i)) (lB (lg ls i)) (lA (lg ls k)) (lB (lg ls k))=2):Kd (UB ls i (k+1))=VA (Kd (UB ls i k)) (Rt (lA (lg ls i)) (lB (lg ls i)) (lA (lg ls k)) (lB (lg ls k))):=by
 rw[<-Eh,UB,cz,if_pos h,<-jlT];rfl
theorem II(h:¬Qi (lA (lg ls i)) (lB (lg ls i)) (lA (lg ls k)) (lB (lg ls k))=2):Kd (UB ls i (k+1))=Kd (UB ls i k):=by
 rw[UB,cz,if_neg h,jl9];rfl
theorem jiV{b o:Nat}(h:Legs w (some ⟨b,o,none⟩) n ls)(hn:0<n):b<w.heap.size:=by
 obtain⟨b',o',e,hb,_⟩:=h.2 hn;injection e with e
 injection e with e1 e2
 subst e1;exact hb
theorem vM{B N T s:Nat}{xs:List Value}(h:w.ownsRow B T s v n xs)(hN:∀b,v.ownBlock=some b->N<=b):w.ownsRow N T s v n xs:=by
 refine⟨h.1,?_⟩;rcases h.2 with e|⟨g,cap,cur,rfl,hb,rest⟩
 .exact .inl e
 .exact .inr ⟨g,cap,cur,rfl,hN g rfl,rest⟩
theorem CP(A:Option Addr)(n c:Nat)(ls:List Leg)(w:World)(h:Legs w A n ls)(hok:∀l∈ls,qK l)(hn:n<=400):
  Calls Tryz.prog 40 #[.slice A n c] w λe w'=>∃v,e=.returned v/\w'.ownsRow w.heap.size 36 2 v (Kd (zb ls n)).length ((Kd (zb ls n)).flatMap Jt)/\Over w w':=by
 have hl:=h.1;refine Jm (m:=81) (Tryz.func40) J J (lb J) ?_;refine S7 ?_;refine j5 J J (Vc) J (lb J) (λb1=>?_);refine W0 0 2 J J ?_;refine N2 ?_;refine jdB 0 J ?_;refine t9 ?_;refine S6 ?_;refine JW (X:=Nat×Nat×Nat) (λx=>x.1<=n) (λx=>n-x.1) (λx=>[(3,.slice (some ⟨x.2.1,0,none⟩) (Kd (zb ls x.1)).length x.2.2),(4,.int .i64 (x.1:Int))]) (kK [0,2]) (λx=>[Yq (Kd (zb ls x.1)) x.2]) (0,b1,0) (jlN _) ⟨J,sz⟩ (λ_ h=>h) ?_;intro⟨i,g,gc⟩ hi L hL1;refine v9 ?_;refine r9 ?_;have hi:i<=n:=hi
 refine S8 ?_;refine cZ (λc1=>?_) (λc1=>?_)
 .have hlt:i<n:=Om;obtain⟨eb,eo,rfl,_⟩:=h.2 Om;have hhl:=xP ls i
  have hh2:i*(i+2)<=400*402:=Nat.mul_le_mul Om Om;have hpa:=Gk (zb ls i)
  have hpb:=PC (Kd (zb ls i)) (lA (lg ls i));refine S12 ?_;refine FT λw1 hs1=>?_
  have h1:=h.over hs1.fin;have hp1:=(hs1.all 0 _ rfl).1
  refine S1 ?_;refine JY 10 ?_;refine dV 0 [5] ?_;refine dV 1 [2,3,4,5] ?_;refine dV 2 [3,4,5] ?_;refine dV 3 [4,5] ?_;refine d9 4 rfl [5] (u9 rfl) (jj rfl rfl jk rfl (by first|exact QB (b:=eb) (o:=eo) (j:=i) (λw' hs=>h.over hs.fin) hlt|exact Qg (b:=eb) (o:=eo) (j:=i) (λw' hs=>h.over hs.fin) hlt|exact QB (b:=eb) (o:=eo) (j:=k) (λw' hs=>h.over hs.fin) hkl|exact Qg (b:=eb) (o:=eo) (j:=k) (λw' hs=>h.over hs.fin) hkl|exact QB (b:=eb) (o:=eo) (j:=i) (λw' hs=>h1.over hs.fin) hlt|exact Qg (b:=eb) (o:=eo) (j:=i) (λw' hs=>h1.over hs.fin) hlt)) ?_;refine dV 6 [7,8,9] ?_;refine dV 7 [8,9] ?_;refine dV 8 [9] ?_;refine dZ 9 rfl (jj rfl rfl jk rfl (by first|exact QB (b:=eb) (o:=eo) (j:=i) (λw' hs=>h.over hs.fin) hlt|exact Qg (b:=eb) (o:=eo) (j:=i) (λw' hs=>h.over hs.fin) hlt|exact QB (b:=eb) (o:=eo) (j:=k) (λw' hs=>h.over hs.fin) hkl|exact Qg (b:=eb) (o:=eo) (j:=k) (λw' hs=>h.over hs.fin) hkl|exact QB (b:=eb) (o:=eo) (j:=i) (λw' hs=>h1.over hs.fin) hlt|exact Qg (b:=eb) (o:=eo) (j:=i) (λw' hs=>h1.over hs.fin) hlt)) ?_;refine qg (i:=5) J Dc Kr J ?_;refine J4 yt (v:=λx:Nat×Nat=>.slice (some ⟨x.1,0,none⟩) _ x.2) (r:=λx=>yi w1 _ _ x) (H:=λ_=>True) J J J (lb J) (λw2 hs=>jic (p:=lA (lg ls i)) hp1 hs.fin Om) ?_
  rintro⟨g1,gc1⟩-;refine n9 ?_;refine yL (u9 J) ?_;refine vg J Kr J ?_;refine qm (k:=0) (v:=λx:Nat×Nat=>.slice (some ⟨x.1,0,none⟩) _ x.2) (r':=λx=>yi w1 _ _ x) yt J J J Dc J (λw2 hs=>jcK (p:=lB (lg ls i)) (hs.all 0 _ J).1 hs.fin Om) ?_;rintro⟨g2,gc2⟩;refine n9 ?_;refine JY 12 ?_;refine dK 11 ?_;refine JK Kr ?_;refine jgK hs1 0 0 J J ?_;refine t9 ?_;rw[<-PB];refine S6 ?_;refine JW (X:=Nat×Nat×Nat) (λx=>x.1<=i) (λx=>i-x.1) (λx=>[(3,.slice (some ⟨x.2.1,0,none⟩) (Kd (UB ls i x.1)).length x.2.2),(6,.int .i64 (x.1:Int))]) (kK [0,2,4,9,10,11,12,15,16,17,5,18,19,20,21,22,24,25,26,27,23,28]) (λx=>[Yq (Kd (UB ls i x.1)) x.2]) (0,g2,gc2) (jlN _) ⟨J,sz⟩ (λ_ h=>h) ?_;intro⟨k,g,gc⟩ hk L hL2;refine v9 ?_;refine r9 ?_;have hk:k<=i:=hk
  refine S7 ?_;refine cZ (λc2=>?_) (λc2=>?_)
  .have hkt:k<i:=Om;have hkl:k<n:=Om
   have hpl:=jaW (ls:=ls) (k:=k) (show i<400 by omega) hk;have hpa:=Gk (UB ls i k)
   refine S11 ?_;refine qH [(60,.bool (decide (Qi (lA (lg ls i)) (lB (lg ls i)) (lA (lg ls k)) (lB (lg ls k))=2)))] (kK [0,2,4,9,10,11,12,15,16,17,5,18,19,20,21,22,24,25,26,27,23,28,3,6,29,30,31,34,35,36,7]) (λL h_11=>?_) ?_
   .refine S1 ?_;refine JY 24 ?_;refine dK 0 ?_;refine dK 1 ?_;refine dZ 2 J (jT LL J J (λw1 hs=>RM eb _ eb _ (lg ls i) (lg ls k) w1 (Ya (λw' hs=>h.over hs.fin) hlt w1 hs) (Ya (λw' hs=>h.over hs.fin) hkl w1 hs) (jiV (h.over hs.fin) Om) (jiV (h.over hs.fin) Om))) ?_;refine dK 3 ?_;refine dK 4 ?_;refine cV 41 (λg1=>?_) (λg1=>?_)
    .refine eK 5 ?_;refine eK 6 ?_;refine eK 7 ?_;refine eZ 8 rfl (jj rfl rfl jk rfl (by first|exact QB (b:=eb) (o:=eo) (j:=i) (λw' hs=>h.over hs.fin) hlt|exact Qg (b:=eb) (o:=eo) (j:=i) (λw' hs=>h.over hs.fin) hlt|exact QB (b:=eb) (o:=eo) (j:=k) (λw' hs=>h.over hs.fin) hkl|exact Qg (b:=eb) (o:=eo) (j:=k) (λw' hs=>h.over hs.fin) hkl|exact QB (b:=eb) (o:=eo) (j:=i) (λw' hs=>h1.over hs.fin) hlt|exact Qg (b:=eb) (o:=eo) (j:=i) (λw' hs=>h1.over hs.fin) hlt)) ?_;refine eK 9 ?_;refine eK 10 ?_;refine eK 11 ?_;refine eZ 12 rfl (jj rfl rfl jk rfl (by first|exact QB (b:=eb) (o:=eo) (j:=i) (λw' hs=>h.over hs.fin) hlt|exact Qg (b:=eb) (o:=eo) (j:=i) (λw' hs=>h.over hs.fin) hlt|exact QB (b:=eb) (o:=eo) (j:=k) (λw' hs=>h.over hs.fin) hkl|exact Qg (b:=eb) (o:=eo) (j:=k) (λw' hs=>h.over hs.fin) hkl|exact QB (b:=eb) (o:=eo) (j:=i) (λw' hs=>h1.over hs.fin) hlt|exact Qg (b:=eb) (o:=eo) (j:=i) (λw' hs=>h1.over hs.fin) hlt)) ?_;refine eK 13 ?_;refine eK 14 ?_;refine eK 15 ?_;refine eZ 16 rfl (jj rfl rfl jk rfl (by first|exact QB (b:=eb) (o:=eo) (j:=i) (λw' hs=>h.over hs.fin) hlt|exact Qg (b:=eb) (o:=eo) (j:=i) (λw' hs=>h.over hs.fin) hlt|exact QB (b:=eb) (o:=eo) (j:=k) (λw' hs=>h.over hs.fin) hkl|exact Qg (b:=eb) (o:=eo) (j:=k) (λw' hs=>h.over hs.fin) hkl|exact QB (b:=eb) (o:=eo) (j:=i) (λw' hs=>h1.over hs.fin) hlt|exact Qg (b:=eb) (o:=eo) (j:=i) (λw' hs=>h1.over hs.fin) hlt)) ?_;refine eK 17 ?_;refine eK 18 ?_;refine eK 19 ?_;refine eZ 20 rfl (jj rfl rfl jk rfl (by first|exact QB (b:=eb) (o:=eo) (j:=i) (λw' hs=>h.over hs.fin) hlt|exact Qg (b:=eb) (o:=eo) (j:=i) (λw' hs=>h.over hs.fin) hlt|exact QB (b:=eb) (o:=eo) (j:=k) (λw' hs=>h.over hs.fin) hkl|exact Qg (b:=eb) (o:=eo) (j:=k) (λw' hs=>h.over hs.fin) hkl|exact QB (b:=eb) (o:=eo) (j:=i) (λw' hs=>h1.over hs.fin) hlt|exact Qg (b:=eb) (o:=eo) (j:=i) (λw' hs=>h1.over hs.fin) hlt)) ?_;refine eZ 21 J (jT Gc J J (λw1 hs=>BJ (lA (lg ls i)) (lB (lg ls i)) (lA (lg ls k)) (lB (lg ls k)) w1 (WG (ky hok Om)) (uB (ky hok Om)) (WG (ky hok Om)) (uB (ky hok Om)))) ?_;refine eK 22 ?_;refine dK 23 ?_;refine JK Kr ?_;refine S1 ?_
     exact Jx h_11 ⟨vb (by rw[jl8];simp),sz⟩ (u9 J)
    .refine fK 5 ?_;refine fK 6 ?_;refine fK 7 ?_;refine fK 8 ?_;refine fK 9 ?_;refine fK 10 ?_;refine fK 11 ?_;refine fK 12 ?_;refine fK 13 ?_;refine fK 14 ?_;refine fK 15 ?_;refine fK 16 ?_;refine fK 17 ?_;refine fK 18 ?_;refine fK 19 ?_;refine fK 20 ?_;refine fK 21 ?_;refine fK 22 ?_;refine dK 23 ?_;refine JK Kr ?_;refine S1 ?_;exact Jx h_11 ⟨vb (by rw[XL g1];rfl),sz⟩ (u9 J)
   .refine v9 ?_;refine cZ (λc3=>?_) (λc3=>?_)
    .refine S1 ?_;refine JY 18 ?_;refine dK 0 ?_;refine dV 1 [2,3,4,17] ?_;refine dV 2 [3,4,17] ?_;refine dV 3 [4,17] ?_;refine d9 4 rfl [17] (u9 rfl) (jj rfl rfl jk rfl (by first|exact QB (b:=eb) (o:=eo) (j:=i) (λw' hs=>h.over hs.fin) hlt|exact Qg (b:=eb) (o:=eo) (j:=i) (λw' hs=>h.over hs.fin) hlt|exact QB (b:=eb) (o:=eo) (j:=k) (λw' hs=>h.over hs.fin) hkl|exact Qg (b:=eb) (o:=eo) (j:=k) (λw' hs=>h.over hs.fin) hkl|exact QB (b:=eb) (o:=eo) (j:=i) (λw' hs=>h1.over hs.fin) hlt|exact Qg (b:=eb) (o:=eo) (j:=i) (λw' hs=>h1.over hs.fin) hlt)) ?_;refine dV 5 [6,7,8,17] ?_;refine dV 6 [7,8,17] ?_;refine dV 7 [8,17] ?_;refine d9 8 rfl [17] (u9 rfl) (jj rfl rfl jk rfl (by first|exact QB (b:=eb) (o:=eo) (j:=i) (λw' hs=>h.over hs.fin) hlt|exact Qg (b:=eb) (o:=eo) (j:=i) (λw' hs=>h.over hs.fin) hlt|exact QB (b:=eb) (o:=eo) (j:=k) (λw' hs=>h.over hs.fin) hkl|exact Qg (b:=eb) (o:=eo) (j:=k) (λw' hs=>h.over hs.fin) hkl|exact QB (b:=eb) (o:=eo) (j:=i) (λw' hs=>h1.over hs.fin) hlt|exact Qg (b:=eb) (o:=eo) (j:=i) (λw' hs=>h1.over hs.fin) hlt)) ?_;refine dV 9 [10,11,12,17] ?_;refine dV 10 [11,12,17] ?_;refine dV 11 [12,17] ?_;refine d9 12 rfl [17] (u9 rfl) (jj rfl rfl jk rfl (by first|exact QB (b:=eb) (o:=eo) (j:=i) (λw' hs=>h.over hs.fin) hlt|exact Qg (b:=eb) (o:=eo) (j:=i) (λw' hs=>h.over hs.fin) hlt|exact QB (b:=eb) (o:=eo) (j:=k) (λw' hs=>h.over hs.fin) hkl|exact Qg (b:=eb) (o:=eo) (j:=k) (λw' hs=>h.over hs.fin) hkl|exact QB (b:=eb) (o:=eo) (j:=i) (λw' hs=>h1.over hs.fin) hlt|exact Qg (b:=eb) (o:=eo) (j:=i) (λw' hs=>h1.over hs.fin) hlt)) ?_;refine dV 13 [14,15,16,17] ?_;refine dV 14 [15,16,17] ?_;refine dV 15 [16,17] ?_;refine d9 16 rfl [17] (u9 rfl) (jj rfl rfl jk rfl (by first|exact QB (b:=eb) (o:=eo) (j:=i) (λw' hs=>h.over hs.fin) hlt|exact Qg (b:=eb) (o:=eo) (j:=i) (λw' hs=>h.over hs.fin) hlt|exact QB (b:=eb) (o:=eo) (j:=k) (λw' hs=>h.over hs.fin) hkl|exact Qg (b:=eb) (o:=eo) (j:=k) (λw' hs=>h.over hs.fin) hkl|exact QB (b:=eb) (o:=eo) (j:=i) (λw' hs=>h1.over hs.fin) hlt|exact Qg (b:=eb) (o:=eo) (j:=i) (λw' hs=>h1.over hs.fin) hlt)) ?_;refine dZ 17 J (jT Xl J J (λw1 hs=>Fp (lA (lg ls i)) (lB (lg ls i)) (lA (lg ls k)) (lB (lg ls k)) w1 (WG (ky hok Om)) (uB (ky hok Om)) (WG (ky hok Om)) (uB (ky hok Om)) c3)) ?_;refine vg J Kr J ?_;refine qm (k:=0) (v:=λx:Nat×Nat=>.slice (some ⟨x.1,0,none⟩) _ x.2) (r':=λx=>Yq _ x) yt J J J Dc J (λw1 hs=>jid (p:=Rt (lA (lg ls i)) (lB (lg ls i)) (lA (lg ls k)) (lB (lg ls k))) (hs.all 0 _ J).1 Om) ?_
     rintro⟨g3,gc3⟩;refine n9 ?_;refine JY 20 ?_;refine dK 19 ?_;refine JK Kr ?_;refine S7 ?_;exact Jn hL2 ((k+1,g3,gc3)) ((show k+1<=i by omega)) (by simp only;omega) ⟨(by rw[Dq c3];rfl),vi Om,sz⟩ (λ_ h=>h.upto ⟨by rw[Dq c3],trivial⟩)
    .refine S8 ?_;exact Jn hL2 ((k+1,g,gc)) ((show k+1<=i by omega)) (by simp only;omega) ⟨(by rw[II c3];rfl),vi Om,sz⟩ (λ_ h=>h.upto ⟨by rw[II c3],trivial⟩)
  .refine S11 ?_;exact Jn hL1 ((i+1,g,gc)) ((show i+1<=n by omega)) (by simp only;omega) ⟨(by rw[show k=i by omega];rfl),vi Om,sz⟩ (λ_ h=>h.upto ⟨by rw[show k=i by omega];rfl,trivial⟩)
 .refine S11 ?_;refine jK J (.tmp J) ?_;intro w' hs;have hr:=hs.all 0 _ rfl
  have hin:i=n:=by omega
  exact⟨_,rfl,by rw[<-hin];exact vM hr.1 (λb hb=>(hr.2.1 b hb).elim id (λh=>by cases h)),hs.fin⟩
end Go.Proofs.YtjbahemkhphndaaGreat
