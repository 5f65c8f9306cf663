import Derived.Test.YtjbahemkhphndaaGreatNSect2
import Derived.Test.YtjbahemkhphndaaGreatNRay2
import Derived.Test.YtjbahemkhphndaaGreatNFit
set_option linter.unusedVariables false
set_option linter.unusedSimpArgs false
namespace Go.Proofs.YtjbahemkhphndaaGreat
open Go Go.RowKit
variable{B:List Leg}{E:Nat->List Leg}{L:List Nat}{W:Int}{a b e p q:Leg}{i z:Nat}{s:Nat->Nat}
section
variable{K E0:List Leg}{W:Int}
theorem ji4(h:Keys K E0)(ha:a∈K)(hb:b∈K)(aa:QF (tw a) W=true)(ab:QF (tw b) W=true)(hr:wV (tw a) (tw b)=true):a≠b/\Ej (tw a) (tw b) W:=by
 have hn:a≠b:=λk=>by rw[k,UC] at hr;cases hr
 exact⟨hn,(uf (yE (h.sep a ha b hb hn)) aa ab).1 hr⟩
theorem GG(aa:QF (tw a) W=true):0<den (tw a):=by
 have:=qt.1 aa;unfold den;omega
theorem ja3(h:Keys K E0){c:Leg}(ha:a∈K)(hb:b∈K)(hc:c∈K)(aa:QF (tw a) W=true)(ab:QF (tw b) W=true)(ac:QF (tw c) W=true)(h1:wV (tw a) (tw b)=true)(h2:wV (tw b) (tw c)=true):wV (tw a) (tw c)=true:=by
 have y:=x6 (GG aa) (GG ab) (GG ac) (ji4 h ha hb aa ab h1).2 (ji4 h hb hc ab ac h2).2;by_cases k:a=c
 .subst k;have z1:K3 (tw a) (tw a) W=0:=by unfold K3;omega
  have z2:Uc (tw a) (tw a)=0:=by unfold Uc;omega
  unfold Ej at y;omega
 .exact(uf (yE (h.sep a ha c hc k)) aa ac).2 y
theorem jlc(h:Keys K E0)(ha:a∈K)(hb:b∈K)(aa:QF (tw a) W=true)(ab:QF (tw b) W=true)(h1:wV (tw a) (tw b)=true)(h2:wV (tw b) (tw a)=true):False:=by
 have:=ja3 h ha hb ha aa ab aa h1 h2;rw[UC] at this;cases this
theorem ji3(h:Keys K E0)(ha:a∈K)(hb:b∈K)(aa:QF (tw a) W=true)(ab:QF (tw b) W=true)(hn:a≠b):wV (tw a) (tw b)=true\/wV (tw b) (tw a)=true:=Sy (yE (h.sep a ha b hb hn)) aa ab
theorem jfb(h:Keys K E0)(S:Leg->Bool)(hq:q∈K)(ha:QF (tw q) W=true):
  (∀E,Keys K E->(∀e∈K,qd E e≠0->S e=true)->Qw E q=0)\/
  ∃m∈K,S m=true/\QF (tw m) W=true/\∀E,Keys K E->(∀e∈K,qd E e≠0->S e=true)->Qw E q=Qw E m+qd E m:=by
 obtain⟨R,hR⟩:∃R,R=K.filter (λe=>S e&& (QF (tw e) W&&wV (tw e) (tw q))):=⟨_,rfl⟩;have mem:∀e,e∈R↔e∈K/\S e=true/\QF (tw e) W=true/\wV (tw e) (tw q)=true:=λe=>by rw[hR,jmx,jlK,jlK]
 by_cases hne:R=[]
 .left;intro E hE hs;rw[WI hE hq ha];refine Q0 K▸JC λe he=>?_
  by_cases n:qd E e=0
  .rw[n];simp
  .cases c:(QF (tw e) W&&wV (tw e) (tw q)) with
   |false=>show qd E e*ix (QF (tw e) W&&wV (tw e) (tw q))=0;rw[c];simp[ix]
   |true=>
    rw[jlK] at c;have:=(mem e).2 ⟨he,hs e he n,c⟩
    rw[hne] at this;cases this
 .right;obtain⟨m,hm,hmin⟩:=LD (λa b=>wV (tw b) (tw a)=true) R hne
   (λa ha' b hb' hn=>(ji3 h ((mem b).1 hb').1 ((mem a).1 ha').1 ((mem b).1 hb').2.2.1 ((mem a).1 ha').2.2.1 (Ne.symm hn)))
   (λa ha' b hb' c hc' h1 h2=>ja3 h ((mem c).1 hc').1 ((mem b).1 hb').1 ((mem a).1 ha').1 ((mem c).1 hc').2.2.1 ((mem b).1 hb').2.2.1 ((mem a).1 ha').2.2.1 h2 h1)
  obtain⟨m1,m2,m3,m4⟩:=(mem m).1 hm;refine⟨m,m1,m2,m3,λE hE hs=>?_⟩;rw[WI hE hq ha,WI hE m1 m3];have e1:sN K E (λe=>decide (m=e))=qd E m:=WO h.nd m1 λe _=>rfl
  rw[<-e1];unfold sN;rw[<-UF];refine JC λe he=>?_
  by_cases n:qd E e=0
  .rw[n];simp
  .have hse:=hs e he n;have key:ix (QF (tw e) W&&wV (tw e) (tw q))=ix (QF (tw e) W&&wV (tw e) (tw m))+ix (decide (m=e)):=by
    by_cases c:m=e
    .subst c;rw[m3,m4,UC,decide_eq_true rfl];rfl
    .rw[decide_eq_false c];cases ca:QF (tw e) W with
     |false=>rfl
     |true=>
      have:wV (tw e) (tw q)=wV (tw e) (tw m):=by
       rw[jl8];exact⟨λk=>hmin e ((mem e).2 ⟨he,hse,ca,k⟩) (Ne.symm c),λk=>ja3 h he m1 hq ca m3 ha k m4⟩
      rw[this];show _=_+0
      omega
   rw[key];grind
theorem ZF(h:Keys K E0)(S:Leg->Bool)(hq:q∈K)(hS:S q=true)(ha:QF (tw q) W=true):
  ∃m∈K,S m=true/\QF (tw m) W=true/\∀E,Keys K E->(∀e∈K,qd E e≠0->S e=true)->Qw E m=0:=by
 obtain⟨R,hR⟩:∃R,R=K.filter (λe=>S e&&QF (tw e) W):=⟨_,rfl⟩;have mem:∀e,e∈R↔e∈K/\S e=true/\QF (tw e) W=true:=λe=>by rw[hR,jmx,jlK]
 have hne:R≠[]:=λk=>by
  have:=(mem q).2 ⟨hq,hS,ha⟩;rw[k] at this;cases this
 obtain⟨m,hm,hmin⟩:=LD (λa b=>wV (tw a) (tw b)=true) R hne
  (λa ha' b hb' hn=>ji3 h ((mem a).1 ha').1 ((mem b).1 hb').1 ((mem a).1 ha').2.2 ((mem b).1 hb').2.2 hn)
  (λa ha' b hb' c hc' h1 h2=>ja3 h ((mem a).1 ha').1 ((mem b).1 hb').1 ((mem c).1 hc').1 ((mem a).1 ha').2.2 ((mem b).1 hb').2.2 ((mem c).1 hc').2.2 h1 h2)
 obtain⟨m1,m2,m3⟩:=(mem m).1 hm;refine⟨m,m1,m2,m3,λE hE hs=>?_⟩;rw[WI hE m1 m3];refine Q0 K▸JC λe he=>?_
 by_cases n:qd E e=0
 .rw[n];simp
 .cases c:(QF (tw e) W&&wV (tw e) (tw m)) with
  |false=>show qd E e*ix (QF (tw e) W&&wV (tw e) (tw m))=0;rw[c];simp[ix]
  |true=>
   rw[jlK] at c;have hem:e≠m:=λk=>by rw[k,UC] at c;exact absurd c.2 Dc
   exact(jlc h he m1 c.1 m3 c.2 (hmin e ((mem e).2 ⟨he,hs e he n,c.1⟩) hem)).elim
end
structure Fam (K:List Leg) (n:Nat) (E:Nat->List Leg):Prop where
 key:∀i,i<n->Keys K (E i)
 own:∀i,i<n->∀e∈E i,wtE (E i) e=1
 oth:∀i,i<n->∀k,k<n->i≠k->∀e∈E k,qd (E i) (qh e)=0
 con:∀i,i<n->∀k,k<n->∃c,∀e∈E k,GD (E i) e=c
 sum:∀k,k<n->∀e∈E k,sm (λi=>GD (E i) e) (List.range n)=1
 flat:∀k,k<n->∃e∈E k,e.ay≠e.b_y
def cM(E:Nat->List Leg)(i k:Nat):Int:=match E k with
 |[]=>0
 |e::_=>GD (E i) e
def sK(E:Nat->List Leg)(i:Nat)(p:Leg):Bool:=(E i).any λe=>decide (qh e=p)
theorem xu :sK E i p=true↔∃e∈E i,qh e=p:=by
 unfold sK;rw[List.any_eq_true];exact⟨λ⟨e,he,k⟩=>⟨e,he,of_decide_eq_true k⟩,λ⟨e,he,k⟩=>⟨e,he,decide_eq_true k⟩⟩
theorem Yu(hn:qd (E i) p≠0):sK E i p=true:=by
 rw[xu];refine Decidable.byContradiction λk=>hn ?_
 unfold qd;refine(JC λe he=>?_).trans (Q0 (E i));rw[if_neg λc=>k ⟨e,he,c⟩]
section
variable{K:List Leg}{n:Nat}{E:Nat->List Leg}{i k l:Nat}(hi:i<n)(hk:k<n)(hl:l<n)
theorem Fam.eq(F:Fam K n E)(hi:i<n)(hk:k<n)(he:e∈E k):GD (E i) e=cM E i k:=by
 obtain⟨c,hc⟩:=F.con i hi k hk;unfold cM;cases hE:E k with
 |nil=>rw[hE] at he;cases he
 |cons a r=>rw[hE] at hc he;exact(hc e he).trans (hc a (by simp)).symm
theorem Fam.mem(F:Fam K n E)(hk:k<n)(he:e∈E k):qh e∈K:=(F.key k hk).all e he
theorem Fam.other(F:Fam K n E)(hi:i<n)(hk:k<n)(hn:i≠k)(he:e∈E k):qd (E i) (qh e)=0/\(Q5 (E i) (qh e)).left=cM E i k/\(Q5 (E i) (qh e)).right=cM E i k:=by
 have h0:=F.oth i hi k hk hn e he;have hc:=F.eq hi hk he
 have hlr:=jaI (E i) (qh e);have hm:=F.mem hk he
 obtain⟨k1,k2,_,_⟩:=zG (F.key i hi) hm;rcases kb (e:=e) with c|c
 .rw[<-c] at k1 h0 hlr⊢;omega
 .rw[<-c] at k2;omega
theorem Fam.self(F:Fam K n E)(hi:i<n)(he:e∈E i):(qd (E i) (qh e)=1/\(Q5 (E i) (qh e)).left=cM E i i/\(Q5 (E i) (qh e)).right=cM E i i-1)\/(qd (E i) (qh e)= -1/\(Q5 (E i) (qh e)).left=cM E i i-1/\(Q5 (E i) (qh e)).right=cM E i i):=by
 have hc:=F.eq hi hi he;have hw:=F.own i hi e he
 have hlr:=jaI (E i) (qh e);have hm:=F.mem hi he
 obtain⟨k1,k2,_,_⟩:=zG (F.key i hi) hm;obtain⟨w1,w2⟩:=D1 (F.key i hi) hm;rcases kb (e:=e) with c|c
 .rw[<-c] at k1 w1 hlr⊢;omega
 .rw[<-c] at k2 w2;omega
theorem jaJ{E:List Leg}(h:p.ay<p.b_y):(Q5 E p).right=Qw E p/\(Q5 E p).left=Qw E p+qd E p:=by
 unfold Q5;rw[if_neg Om];exact⟨rfl,rfl⟩
theorem jdk(h:QF (tw p) W=true):p.ay<p.b_y:=by
 have:=qt.1 h;have:(tw p).ay=2*p.ay/\(tw p).b_y=2*p.b_y:=⟨rfl,rfl⟩
 omega
theorem Fam.lev(F:Fam K n E)(hk:k<n):∃e∈E k,∃W,QF (tw (qh e)) W=true:=by
 obtain⟨e,he,hf⟩:=F.flat k hk;have hm:=F.mem hk he
 have ho:=Dk ((F.key k hk).ord _ hm);refine⟨e,he,2*(qh e).ay,qt.2 ?_⟩;have:(qh e).ay≠(qh e).b_y:=by
  rcases kb (e:=e) with c|c
  .rw[<-c];exact hf
  .intro q;refine hf ?_;rw[c];exact q.symm
 show 2*(qh e).ay<=2*(qh e).ay/\2*(qh e).ay<2*(qh e).b_y;omega
theorem Fam.at_(F:Fam K n E)(hi:i<n)(hj:k<n){m:Leg}(hs:sK E k m=true)(ha:QF (tw m) W=true):(i≠k->Qw (E i) m=cM E i k/\qd (E i) m=0)/\(i=k->(Qw (E i) m=cM E i i-1/\qd (E i) m=1)\/(Qw (E i) m=cM E i i/\qd (E i) m= -1)):=by
 obtain⟨e,he,rfl⟩:=xu.1 hs;obtain⟨u1,u2⟩:=jaJ (E:=E i) (jdk ha);refine⟨λhn=>?_,λhn=>?_⟩
 .have:=F.other hi hj hn he;omega
 .subst hn;have:=F.self hi he
  omega
theorem Fam.c01(F:Fam K n E)(hi:i<n):cM E i i=0\/cM E i i=1:=by
 obtain⟨e,he,W,ha⟩:=F.lev hi;obtain⟨m,m1,m2,m3,m4⟩:=ZF (F.key i hi) (sK E i) (F.mem hi he) (xu.2 ⟨e,he,rfl⟩) ha;have h0:=m4 (E i) (F.key i hi) (λe _=>Yu)
 have:=(F.at_ hi hi m2 m3).2 rfl;omega
theorem Fam.c2(F:Fam K n E)(hi:i<n)(hk:k<n)(hn:i≠k):cM E i k=0\/cM E i k=2*cM E i i-1:=by
 obtain⟨e,he,W,ha⟩:=F.lev hk;have h1:=F.c01 hi
 have hq:=(F.at_ hi hk (xu.2 ⟨e,he,rfl⟩) ha).1 hn;rcases jfb (F.key i hi) (sK E i) (F.mem hk he) ha with c|⟨m,m1,m2,m3,m4⟩
 .have:=c (E i) (F.key i hi) (λe _=>Yu);omega
 .have h0:=m4 (E i) (F.key i hi) (λe _=>Yu);have:=(F.at_ hi hi m2 m3).2 rfl
  omega
theorem Fam.anti(F:Fam K n E)(hi:i<n)(hk:k<n)(hn:i≠k):cM E i k=0\/cM E k i=0:=by
 obtain⟨e,he,W,ha⟩:=F.lev hk;obtain⟨m,m1,m2,m3,m4⟩:=ZF (F.key i hi) (λp=>sK E i p ||sK E k p) (F.mem hk he) (by rw[jml];exact .inr (xu.2 ⟨e,he,rfl⟩)) ha;have hA:=m4 (E i) (F.key i hi) (λe _ h=>by rw[jml];exact .inl (Yu h))
 have hB:=m4 (E k) (F.key k hk) (λe _ h=>by rw[jml];exact .inr (Yu h));rw[jml] at m2;rcases m2 with c|c
 .have:=(F.at_ hk hi c m3).1 (Ne.symm hn);omega
 .have:=(F.at_ hi hk c m3).1 hn;omega
theorem Fam.two(F:Fam K n E)(hi:i<n)(hk:k<n)(hl:l<n)(h1:k≠i)(h2:l≠i)(h3:k≠l):(cM E k i=0/\cM E l i=0)\/cM E l i=cM E l k\/cM E k i=cM E k l:=by
 obtain⟨e,he,W,ha⟩:=F.lev hi;have hq1:=(F.at_ hk hi (xu.2 ⟨e,he,rfl⟩) ha).1 h1
 have hq2:=(F.at_ hl hi (xu.2 ⟨e,he,rfl⟩) ha).1 h2;rcases jfb (F.key i hi) (λp=>sK E k p ||sK E l p) (F.mem hi he) ha with c|⟨m,m1,m2,m3,m4⟩
 .have hA:=c (E k) (F.key k hk) (λe _ h=>by rw[jml];exact .inl (Yu h));have hB:=c (E l) (F.key l hl) (λe _ h=>by rw[jml];exact .inr (Yu h))
  omega
 .have hA:=m4 (E k) (F.key k hk) (λe _ h=>by rw[jml];exact .inl (Yu h));have hB:=m4 (E l) (F.key l hl) (λe _ h=>by rw[jml];exact .inr (Yu h))
  rw[jml] at m2;rcases m2 with c|c
  .have:=(F.at_ hl hk c m3).1 (Ne.symm h3);omega
  .have:=(F.at_ hk hl c m3).1 h3;omega
theorem Fam.chain(F:Fam K n E)(hi:i<n)(hk:k<n)(hl:l<n)(h1:k≠i)(h2:l≠i)(h3:k≠l)(c1:cM E k i≠0)(c2:cM E l i≠0):cM E k l≠0\/cM E l k≠0:=by
 have:=F.two hi hk hl h1 h2 h3;omega
end
theorem TK{s:Nat->Nat}{z:Nat}:∀{L:List Nat} {a:Nat},GR s z L->L.head?=some a->(∀i∈L,i=a\/∃j∈L,s j=i)/\∃j∈L,s j=z
 |[],_,h,_=>h.elim
 |[x],a,h,hh=>by
  have e:x=a:=by simpa using hh
  exact⟨λi hi=>.inl (by rw[jlM.1 hi];exact e),x,by simp,h⟩
 |x::y::l,a,h,hh=>by
  have e:x=a:=by simpa using hh
  obtain⟨i1,j,j1,j2⟩:=TK (L:=y::l) h.2 rfl;refine⟨λi hi=>?_,j,jlQ _ j1,j2⟩;rcases jlP.1 hi with k|k
  .exact .inl (k.trans e)
  .rcases i1 i k with c|⟨m,m1,m2⟩
   .exact .inr ⟨x,by simp,by rw[c];exact h.1⟩
   .exact .inr ⟨m,jlQ _ m1,m2⟩
theorem F1{s:Nat->Nat}{z:Nat}{g:Nat->Int}:∀{L:List Nat} {a:Nat},GR s z L->L.head?=some a->(∀i∈L,g (s i)=g i)->∀i∈L,g i=g a
 |[],_,h,_,_=>h.elim
 |[x],a,h,hh,_=>λi hi=>by
  have e:x=a:=by simpa using hh
  rw[jlM.1 hi,e]
 |x::y::l,a,h,hh,hg=>by
  have e:x=a:=by simpa using hh
  have ih:=F1 (g:=g) (L:=y::l) h.2 rfl (λi hi=>hg i (jlQ _ hi));have hx:=hg x (by simp)
  rw[h.1] at hx;intro i hi;rcases jlP.1 hi with k|k
  .rw[k,e]
  .rw[ih i k,hx,e]
theorem jdU{B:List Leg}{s:Nat->Nat}(hS:Sig B s):∀{L:List Nat} {z:Nat},GR s z L->(∀i∈L,i<B.length)->Lk (L.map λi=>(lA (lg B i),lB (lg B i))) (lA (lg B z))
 |[],_,h,_=>h.elim
 |[a],z,h,hl=>by
  have h:s a=z:=h;show lB (lg B a)=lA (lg B z)
  rw[<-h];exact(hS.at_ a (hl a (by simp))).symm
 |a::b::l,z,h,hl=>by
  refine⟨?_,jdU hS (L:=b::l) h.2 λi hi=>hl i (jlQ _ hi)⟩;show lB (lg B a)=lA (lg B b)
  rw[<-h.1];exact(hS.at_ a (hl a (by simp))).symm
theorem jgm(hS:Sig B s)(h:GR s z L)(hh:L.head?=some z)(hl:∀i∈L,i<B.length):KN (L.map λi=>lA (lg B i))=L.map λi=>(lA (lg B i),lB (lg B i)):=by
 have:=Pt (jdU hS h hl) (λe he=>by
  rw[List.head?_map,hh] at he;have:(lA (lg B z),lB (lg B z))=e:=by simpa using he
  rw[<-this])
 rw[jni] at this;exact this
theorem jgl(hT:TrOk B)(hS:Sig B s)(h:GR s z L)(hh:L.head?=some z)(hl:∀i∈L,i<B.length):Jh (L.map λi=>lA (lg B i))=L.map (lg B):=by
 have hp:=jgm hS h hh hl;have hb:bare (L.map λi=>lA (lg B i)):=by
  refine⟨?_,λj hj=>?_⟩
  .cases L with
   |nil=>exact h.elim
   |cons a l=>simp
  .have hm:(pt (L.map λi=>lA (lg B i)) j,pt (L.map λi=>lA (lg B i)) (nx (L.map λi=>lA (lg B i)) j))∈KN (L.map λi=>lA (lg B i)):=jlR.2 ⟨j,jmB.2 hj,rfl⟩;rw[hp] at hm;obtain⟨i,hi,e⟩:=jlR.1 hm;have e1:=congrArg Prod.fst e
   have e2:=congrArg Prod.snd e;simp only at e1 e2;rw[<-e1,<-e2];exact hT.ne i (hl i hi)
 rw[QQ hb,hp,jni];exact jnL λi _=>rfl
theorem Cy(r:jI):(Jh (wQ r)).Perm (Jh r):=by
 refine List.perm_iff_count.2 λe=>?_
 have z:∀xs:jI,lA e=lB e->(Jh xs).count e=0:=λxs he=>List.count_eq_zero.2 λh=>yM xs xs.length e h he
 by_cases he:lA e=lB e
 .rw[z _ he,z _ he]
 .have h0:∀a:Pn,(λa b:Pn=>if a=lA e/\b=lB e then(1:Int) else 0) a a=0:=λa=>by
   show(if a=lA e/\a=lB e then(1:Int) else 0)=0
   rw[if_neg λk=>he (k.1.symm.trans k.2)]
  have h:sm (λl=>if lA l=lA e/\lB l=lB e then(1:Int) else 0) (Jh (wQ r))=sm (λl=>if lA l=lA e/\lB l=lB e then(1:Int) else 0) (Jh r):=
   (Lr (λa b:Pn=>if a=lA e/\b=lB e then(1:Int) else 0) h0 (wQ r)).trans ((EY _ r _).trans (Lr (λa b:Pn=>if a=lA e/\b=lB e then(1:Int) else 0) h0 r).symm)
  have e1:∀L:List Leg,sm (λl=>if lA l=lA e/\lB l=lB e then(1:Int) else 0) L=sm (λx=>if x=e then 1 else 0) L:=λL=>JC λx _=>by
   by_cases k:x=e
   .rw[if_pos k,if_pos (by rw[k];exact⟨rfl,rfl⟩)]
   .rw[if_neg k,if_neg λc=>k (G7 c.1 c.2)]
  rw[e1,e1,SF,SF] at h;omega
theorem jij(hT:TrOk B)(hS:Sig B s){r:jI}(hr:r∈vm (Ki B)):∃L z,(Jh r).Perm (L.map (lg B))/\GR s z L/\L.head?=some z/\∀i∈L,i<B.length:=by
 obtain⟨q,hq,rfl⟩:=Pk hr;obtain⟨L,z,rfl,h1,h2,h3⟩:=(jgn hT hS B.length (jlL _)).1 q hq;exact⟨L,z,by rw[<-jgl hT hS h1 h2 h3];exact Cy _,h1,h2,h3⟩
theorem jaM{E:List Leg}(h:∀e∈E,qh e≠p):qd E p=0:=by
 unfold qd;refine(JC λe he=>?_).trans (Q0 E);rw[if_neg (h e he)]
theorem jaL:∀{E:List Leg},(E.map qh).Nodup->∀e∈E,qd E (qh e)=sg e
 |[],_,e,he=>by cases he
 |x::E,h,e,he=>by
  rw[jmA,jmY] at h;have e0:qd (x::E) (qh e)=(if qh x=qh e then sg x else 0)+qd E (qh e):=rfl
  rw[e0];by_cases k:x=e
  .subst k;rw[if_pos rfl,jaM λy hy c=>h.1 (jlR.2 ⟨y,hy,c⟩)];omega
  .have he':e∈E:=(jlP.1 he).resolve_left (Ne.symm k);rw[if_neg λc=>h.1 (jlR.2 ⟨e,he',c.symm⟩),jaL h.2 e he'];omega
theorem jaH(A C:List Leg)(p:Leg):(Q5 (A++C) p).left=(Q5 A p).left+(Q5 C p).left/\(Q5 (A++C) p).right=(Q5 A p).right+(Q5 C p).right:=by
 have h1:qd (A++C) p=qd A p+qd C p:=Qz _ _ _;have h2:Qw (A++C) p=Qw A p+Qw C p:=Qz _ _ _
 unfold Q5;rw[h1,h2];split<;>constructor<;>simp only<;>omega
theorem jav(A C:List Leg)(e:Leg):GD (A++C) e=GD A e+GD C e:=by
 unfold GD;have h1:=jaH A C e
 have h2:=jaH A C (qh e);split
 .exact h1.1
 .exact h2.2
theorem jaw(e:Leg):GD [] e=0:=by
 unfold GD;split
 .exact(R9 e).1
 .exact(R9 (qh e)).2
theorem jay{rs:List jI}{e:Leg}:∀k,sm (λi=>GD (Jh (rg rs i)) e) (List.range k)=GD (qx rs k) e
 |0=>(jaw e).symm
 |k+1=>by
  have e0:qx rs (k+1)=qx rs k++Jh (rg rs k):=rfl;rw[e0,jav,jm3,Qz,jay k];simp only[sm];omega
theorem jeR{A C:List Leg}(h:A.Perm C)(e:Leg):GD A e=GD C e:=by unfold GD;rw[BU h,BU h]
theorem jdp{rs:List jI}:∀k,((qx rs k).map qh).Nodup->(∀i,i<k->((Jh (rg rs i)).map qh).Nodup)/\∀i,i<k->∀j,j<k->i≠j->∀e∈Jh (rg rs i),∀f∈Jh (rg rs j),qh e≠qh f
 |0,_=>⟨λi hi=>by omega,λi hi=>by omega⟩
 |k+1,h=>by
  have e0:qx rs (k+1)=qx rs k++Jh (rg rs k):=rfl;rw[e0,jma,List.nodup_append] at h;obtain⟨h1,h2,h3⟩:=h;obtain⟨i1,i2⟩:=jdp k h1;have hx:∀i,i<k->∀e∈Jh (rg rs i),∀f∈Jh (rg rs k),qh e≠qh f:=λi hi e he f hf=>h3 _ (jlR.2 ⟨e,(U7 k).2 ⟨i,hi,he⟩,rfl⟩) _ (jlR.2 ⟨f,hf,rfl⟩)
  refine⟨λi hi=>?_,λi hi j hj hn e he f hf=>?_⟩
  .by_cases c:i=k
   .rw[c];exact h2
   .exact i1 i Om
  .by_cases c:i=k
   .subst c;exact Ne.symm (hx j Om f hf e he)
   .by_cases d:j=k
    .subst d;exact hx i Om e he f hf
    .exact i2 i Om j Om hn e he f hf
theorem jkD{E:List Leg}(h:(E.map qh).Nodup)(he:e∈E)(hne:lA e≠lB e):wtE E e=1:=by
 have hn:=jaL h e he;unfold wtE;by_cases c:vv (lB e) (lA e)
 .have h1:qh e=qW e:=by unfold qh;rw[if_pos c]
  have h2:sg e= -1:=by unfold sg;rw[if_pos c]
  rw[if_neg λk=>Ei hne (h1.symm.trans k),hn,h2];rfl
 .have h1:qh e=e:=by unfold qh;rw[if_neg c]
  have h2:sg e=1:=by unfold sg;rw[if_neg c]
  rw[if_pos h1];rw[h1] at hn;rw[hn,h2]
theorem jeV(f:Nat->Int):∀{L:List Nat},L≠[]->∃i∈L,∀j∈L,f j<=f i
 |[],h=>absurd rfl h
 |[a],_=>⟨a,by simp,λj hj=>by rw[jlM.1 hj];exact jna _⟩
 |a::b::l,_=>by
  obtain⟨i,i1,i2⟩:=jeV f (L:=b::l) (by simp);by_cases c:f a<=f i
  .exact⟨i,jlQ _ i1,λj hj=>(jlP.1 hj).elim (λk=>by rw[k];exact c) (i2 j)⟩
  .exact⟨a,by simp,λj hj=>(jlP.1 hj).elim (λk=>by rw[k];exact jna _) λk=>by have:=i2 j k;omega⟩
theorem jcw(hT:TrOk B)(hS:Sig B s)(h:GR s z L)(hh:L.head?=some z)(hl:∀i∈L,i<B.length):∃i∈L,(lg B i).ay≠(lg B i).b_y:=by
 refine Decidable.byContradiction λhc=>?_
 have lev:∀i∈L,(lg B i).ay=(lg B i).b_y:=λi hi=>Decidable.byContradiction λk=>hc ⟨i,hi,k⟩
 have hne:L≠[]:=λk=>by rw[k] at h;exact h
 obtain⟨i,i1,i2⟩:=jeV (λi=>(lg B i).ax) hne;obtain⟨p1,p2⟩:=TK h hh;have hprev:∀i∈L,∃j∈L,s j=i:=λi hi=>(p1 i hi).elim (λk=>by rw[k];exact p2) id
 obtain⟨j,j1,j2⟩:=hprev i i1;have hj:=hl j j1
 have hi:=hl i i1;have ea:lA (lg B i)=lB (lg B j):=by rw[<-j2];exact hS.at_ j hj
 have hnx:∃m∈L,lA (lg B m)=lB (lg B i):=by
  have key:∀{L:List Nat} {z:Nat},GR s z L->∀i∈L,s i∈L\/s i=z:=λ{L}=>by
   induction L with
   |nil=>intro z h;exact h.elim
   |cons a l ih=>
    intro z h i hi;cases l with
    |nil=>rw[jlM.1 hi];exact .inr h
    |cons b l=>
     rcases jlP.1 hi with k|k
     .rw[k,h.1];exact .inl (by simp)
     .exact(ih h.2 i k).imp (jlQ _) id
  have hz:z∈L:=by
   cases L with
   |nil=>cases hh
   |cons a l=>
    have e:a=z:=by simpa using hh
    exact e▸jl7 ..
  exact⟨s i,(key h i i1).elim id (λk=>by rw[k];exact hz),hS.at_ i hi⟩
 obtain⟨m,m1,m2⟩:=hnx;have x1:(lg B m).ax=(lg B i).bx:=congrArg Prod.fst m2
 have x2:(lg B i).ax=(lg B j).bx:=congrArg Prod.fst ea;have y2:(lg B i).ay=(lg B j).b_y:=congrArg Prod.snd ea
 have n1:=hT.ne i hi;have n2:=hT.ne j hj
 have v1:=lev i i1;have v2:=lev j j1
 have a1:(lg B m).ax<=(lg B i).ax:=i2 m m1;have a2:(lg B j).ax<=(lg B i).ax:=i2 j j1
 have c1:(lg B i).bx<(lg B i).ax:=by
  have:(lg B i).bx≠(lg B i).ax:=λk=>n1 (Prod.ext k.symm v1)
  omega
 have c2:(lg B j).ax<(lg B j).bx:=by
  have:(lg B j).ax≠(lg B j).bx:=λk=>n2 (Prod.ext k v2)
  omega
 refine hT.back j i hj hi ea ⟨?_,?_⟩
 .rw[yC];show((lg B i).bx-(lg B j).bx)*((lg B j).ay-(lg B j).b_y)-((lg B i).b_y-(lg B j).b_y)*((lg B j).ax-(lg B j).bx)=0
  rw[show(lg B j).ay-(lg B j).b_y=0 by omega,show(lg B i).b_y-(lg B j).b_y=0 by omega];simp
 .show 0<((lg B i).bx-(lg B j).bx)*((lg B j).ax-(lg B j).bx)+((lg B i).b_y-(lg B j).b_y)*((lg B j).ay-(lg B j).b_y);rw[show(lg B j).ay-(lg B j).b_y=0 by omega,jm2,jnr];exact jnJ Om Om
theorem jjC{K:List Leg}{T:List jI}(hB:Bdr K B)(hT:TrOk B)(hnd:(B.map qh).Nodup)(hR:T=vm (Ki B))(hp:(jH T).Perm B):Fam K T.length (λk=>Jh (rg T k)):=by
 obtain⟨s,hS,hSoon⟩:=hB.sig hT;have hmem:∀k,k<T.length->∀e∈Jh (rg T k),e∈B:=λk hk e he=>hp.mem_iff.1 ((U7 T.length).2 ⟨k,hk,he⟩)
 have hkey:∀i,i<T.length->Keys K (Jh (rg T i)):=λi hi=>⟨hB.key.nd,hB.key.ord,hB.key.sep,hB.key.sepl,λe he=>hB.key.all e (hmem i hi e he),λf=>Pv f _⟩
 have hnd2:((qx T T.length).map qh).Nodup:=(hp.map qh).nodup_iff.2 hnd;obtain⟨n1,n2⟩:=jdp T.length hnd2;have htr:∀k,k<T.length->∃L z,(Jh (rg T k)).Perm (L.map (lg B))/\GR s z L/\L.head?=some z/\∀i∈L,i<B.length:=λk hk=>jij hT hS (hR▸(by rw[<-wb hk];exact jlY _:rg T k∈T))
 have lgm:∀i,i<B.length->qh (lg B i)∈K:=λi hi=>hB.key.all _ (by rw[BR hi];exact jlY _)
 refine⟨hkey,λi hi e he=>jkD (n1 i hi) he (hB.neB (hmem i hi e he)),λi hi k hk hn e he=>jaM λx hx=>n2 i hi k hk hn x hx e he,λi hi k hk=>?_,λk hk e he=>?_,λk hk=>?_⟩
 .obtain⟨L,z,h1,h2,h3,h4⟩:=htr k hk;refine⟨GD (Jh (rg T i)) (lg B z),λe he=>?_⟩;obtain⟨j,hj,rfl⟩:=jlR.1 (h1.mem_iff.1 he);refine F1 (g:=λj=>GD (Jh (rg T i)) (lg B j)) h2 h3 (λj hj=>?_) j hj;have hjl:=h4 j hj
  have hsl:=hS.lt j hjl;exact Tu (hkey i hi) (lgm j hjl) (lgm _ hsl) rfl (hS.at_ j hjl) (hSoon j hjl) (hB.fan _) (hT.back j _ hjl hsl (hS.at_ j hjl)) (hT.ne j hjl)
 .rw[jay T.length];exact(jeR hp e).trans (hB.sd e (hmem k hk e he)).1
 .obtain⟨L,z,h1,h2,h3,h4⟩:=htr k hk;obtain⟨i,i1,i2⟩:=jcw hT hS h2 h3 h4;exact⟨lg B i,h1.mem_iff.2 (jlR.2 ⟨i,i1,rfl⟩),i2⟩
end Go.Proofs.YtjbahemkhphndaaGreat
