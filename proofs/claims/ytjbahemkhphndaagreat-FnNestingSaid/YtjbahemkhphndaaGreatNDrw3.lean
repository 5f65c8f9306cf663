import Derived.Test.YtjbahemkhphndaaGreatNRev
set_option linter.unusedVariables false
set_option linter.unusedSimpArgs false
namespace Go.Proofs.YtjbahemkhphndaaGreat
open Go Go.RowKit
section
variable{A:Option Addr}{Rs:List Res}{env:List (Nat×Value)}{w:World}{x:Option Addr×Nat}{xs:List Value}
set_option maxRecDepth 100000
set_option maxHeartbeats 4000000
structure Pq where
 xs:jI
 A:Option Addr
 c:Nat
def Pq.val(e:Pq):Value:=.slice e.A e.xs.length e.c
def Pq.res(e:Pq):Res:=JV 0 36 2 e.xs.length (e.xs.flatMap Jt) (e.A,e.c)
abbrev Px(l:List Pq):Res:=.many (l.map Pq.res)
theorem jcI(l:List Pq)(e:Pq):Res.many (l.map Pq.res++[e.res])=Px (l++[e]):=by simp[Px]
def pqOk(l:List Pq):Prop:=∀e∈l,0<e.xs.length/\e.xs.length<=7
theorem pqOk.push{l:List Pq}(h:pqOk l){e:Pq}(he:0<e.xs.length/\e.xs.length<=7):pqOk (l++[e]):=λq hq=>(jl0.1 hq).elim (h q) (λh1=>by rw[jlM.1 h1];exact he)
abbrev D37:=(Option Addr×Nat)×{l:List Pq//(0<l.length/\l.length<=3)/\pqOk l}
abbrev Cu(b:Nat)(A:Option Addr)(n c K:Nat)(x:D37):Res:=.many [srcR b A n c K,JV 0 41 1 x.2.1.length (x.2.1.map Pq.val) x.1,Px x.2.1]
theorem jkY{r s t:Res}(h1:r.P w)(h2:s.P w)(h3:t.P w)(b1:r.B=0)(b2:s.B=0)(b3:t.B=0)(a1:∀b,r.F b->¬s.F b)(a2:∀b,r.F b->¬t.F b)(a3:∀b,s.F b->¬t.F b):(Res.many [r,s,t]).P w:=
 ⟨λq hq=>by simp only[jlP,jmi,or_false] at hq;rcases hq with rfl|rfl|rfl<;>exact⟨by assumption,by assumption⟩,by
  refine jmc.2 ⟨λq hq=>?_,jmc.2 ⟨λq hq=>?_,jmK _ _⟩⟩
  .simp only[jlP,jmi,or_false] at hq;rcases hq with rfl|rfl
   .exact a1
   .exact a2
  .rw[jlM.1 hq];exact a3⟩
theorem jjx{w':World}{b n c K K0 K' ks kr kp B q:Nat}{l:List Pq}{hl:(0<l.length/\l.length<=3)/\pqOk l}(hs:St ⟨w,[b]⟩ Rs w')(h1:Rs[ks]? =some (srcR b A n c K0))(h2:Rs[kr]? =some (JV B 41 1 q (l.map Pq.val) x))(h3:Rs[kp]? =some (Px l))(n1:ks≠kr)(n2:ks≠kp)(n3:kr≠kp)(hq:l.length=q)(hK:K0<=K'):
  (Cu b A n c K' ((x,⟨l,hl⟩):D37)).P w'/\(∀q,(Cu b A n c K' ((x,⟨l,hl⟩):D37)).F q->(srcR b A n c K).F q\/w.heap.size<=q)/\(Cu b A n c K' ((x,⟨l,hl⟩):D37)).B=0:=by
 subst hq;have a1:=hs.all ks _ h1
 have a2:=hs.all kr _ h2;have a3:=hs.all kp _ h3
 refine⟨jkY (srcR.more a1.1 hK) (wI a2.1 (jlN _)) a3.1 J J J (λq hq hq2=>hs.apart ks kr _ _ n1 h1 h2 q hq hq2) (λq hq hq2=>hs.apart ks kp _ _ n2 h1 h3 q hq hq2) (λq hq hq2=>hs.apart kr kp _ _ n3 h2 h3 q hq hq2),λq hq=>?_,J⟩;obtain⟨r,hr,hq⟩:=hq;simp only[jlP,jmi,or_false] at hr;rcases hr with rfl|rfl|rfl
 .exact .inl hq
 .exact(a2.2.1 q hq).elim (λh=>.inr h) (λh=>.inl (jlM.1 h))
 .exact(a3.2.1 q hq).elim (λh=>.inr h) (λh=>.inl (jlM.1 h))
theorem jdC{n:Nat}{w0:Bs}{K:Act->World->Prop}(k:Nat){B T s m:Nat}(hk:Rs[k]? =some (JV B T s m xs x))(h:At n env w0 (Rs.set k (JV 0 T s m xs x)) K):At n env w0 Rs K:=λa w hf hs=>
 h a w hf (hs.chg hk (λhP=>wI hP (jlN _)) (λ_ h=>h) rfl)
section
variable{b n c K:Nat}{A:Option Addr}{zs:List Int}{w:World}
theorem Fq(hB:Byts w A n zs)(hne:0<n->∀p,A=some p->p.block≠b)(hP:(srcR b A n c K).P w)(hn:n<=1048576)(hK:K<=1000):
  Calls Tryz.prog 58 #[.pointer (some ⟨b,0,none⟩),.int .i64 3,.int .i64 7] w λe w'=>∃x:D37,e=.returned (qU x.1.1 x.2.1.length x.1.2)/\Wrs (srcR b A n c K).F w w'/\(Cu b A n c (K+300) x).P w'/\(∀q,(Cu b A n c (K+300) x).F q->(srcR b A n c K).F q\/w.heap.size<=q)/\(Cu b A n c (K+300) x).B=0:=by
 have hlt:=(srcR b A n c K).low w hP b rfl;refine Km (m:=48) ([b]) (srcR b A n c K) (hP) (λq hq=>jlM.2 hq) J (Tryz.func58) J J (lb J) ?_;refine S3 ?_;refine aL (λb1=>?_);refine N3 ?_;refine a9 (JD J J (qo)) ?_;refine S1 ?_;refine aL (λb2=>?_);refine N7 ?_;refine j5 J J (wW J J J J J) J (lb J) (λb3=>?_);refine N1 ?_;refine qm (k:=0) (X:={v:Int//v∈[(3:Int),6,6,12,50]}) (v:=λx=>.int .i64 x.1) (r':=λ_=>srcR b A n c (K+1)) W9 rfl rfl rfl Dc rfl (λw1 hs=>FQ (zs:=zs) _ 5 5 [3,6,6,12,50] (jaO [3,6,6,12,50] (k:=3) rfl rfl w1 hs) Dc Dc (λp hp e=>by injection hp with hp;subst hp;exact hs.apart 0 3 _ _ Dc rfl rfl b rfl e.symm) (hB.ovx hs.over hne) hne (hs.all 0 _ rfl).1 hn Om) ?_
 rintro⟨m,hm⟩;refine n9 ?_
 try dsimp only
 have hm0:0<=m/\m<=50:=by simp only[jlP,jmi,or_false] at hm;omega
 refine S8 ?_;refine qm (k:=0) (X:={v:Int//0<=v/\v<3}) (v:=λx=>.int .i64 x.1) (r':=λ_=>srcR b A n c (K+2)) J9 J J J Dc J (λw1 hs=>Kw (zs:=zs) 3 Dc Dc (hB.ovx hs.over hne) hne (hs.all 0 _ J).1 hn Om) ?_;rintro⟨v1,hv1⟩;refine n9 ?_
 try dsimp only
 refine S3 ?_;refine QO (T:=41) (s:=1) ?_;refine t9 ?_;refine KY ?_;refine t9 ?_;refine S1 ?_;refine JW (X:=Nat×(Option Addr×Nat)×List Pq) (λx=>(x.2.2.length+x.1<=3/\0<x.2.2.length+x.1)/\pqOk x.2.2) (λx=>x.1) (λx=>[(9,.int .i64 (x.1:Int))]) (kK [0,2,6,7,8]) (λx=>[srcR b A n c (K+2+70*x.2.2.length),.cel b1 25 [.slice none 0 0],.cel b2 25 [.slice x.2.1.1 x.2.2.length x.2.1.2],.cel b3 2 [.int .i64 3,.int .i64 6,.int .i64 6,.int .i64 12,.int .i64 50],JV (Bs.N ⟨w,[b]⟩) 41 1 x.2.2.length (x.2.2.map Pq.val) x.2.1,Px x.2.2]) ((1+v1).toNat,(none,0),[]) (⟨⟨by simp only[jl5];omega,by simp only[jl5];omega⟩,λe he=>by cases he⟩) ⟨vi Om,sz⟩ (λ_ h=>h) ?_;intro⟨j,⟨rA,rc⟩,l⟩ hx L hL1;refine v9 ?_;refine r9 ?_;obtain⟨⟨hj,hj0⟩,hpc⟩:(l.length+j<=3/\0<l.length+j)/\pqOk l:=hx;refine S6 ?_;refine cZ (λc1=>?_) (λc1=>?_)
 .refine S6 ?_;refine a9 (JD J J (Ks)) ?_;refine S1 ?_;refine aL (λb4=>?_);refine N9 ?_;refine qm (k:=0) (X:={v:Int//0<=v/\v<7}) (v:=λx=>.int .i64 x.1) (r':=λ_=>srcR b A n c (K+2+70*l.length+1)) J9 J J J Dc J (λw1 hs=>Kw (zs:=zs) 7 Dc Dc (hB.ovx hs.over hne) hne (hs.all 0 _ J).1 hn Om) ?_;rintro⟨v2,hv2⟩;refine n9 ?_
  try dsimp only
  refine S3 ?_;refine QO (T:=36) (s:=2) ?_;refine t9 ?_;refine S1 ?_;refine JW (X:=Nat×List Pn×Option Addr×Nat) (λy=>(y.2.1.length+y.1<=7/\0<y.2.1.length+y.1)/\∀p∈y.2.1,EQ 50 p) (λy=>y.1) (λy=>[(11,.int .i64 (y.1:Int))]) (kK [0,2,6,7,8,9,20,21,24,10,25,26,27,28]) (λy=>[srcR b A n c (K+2+70*l.length+1+8*y.2.1.length),.cel b1 25 [.slice none 0 0],.cel b2 25 [.slice rA l.length rc],.cel b3 2 [.int .i64 3,.int .i64 6,.int .i64 6,.int .i64 12,.int .i64 50],JV (Bs.N ⟨w,[b]⟩) 41 1 l.length (l.map Pq.val) (rA,rc),Px l,.cel b4 41 [.slice y.2.2.1 y.2.1.length y.2.2.2],JV (Bs.N ⟨w,[b]⟩) 36 2 y.2.1.length (y.2.1.flatMap Jt) y.2.2]) ((1+v2).toNat,[],none,0) (⟨⟨by simp only[jl5];omega,by simp only[jl5];omega⟩,λp hp=>absurd hp (by simp)⟩) ⟨vi Om,sz⟩ (λ_ h=>h) ?_;intro⟨i,xs,pA,pc⟩ hy L hL2;refine v9 ?_;refine r9 ?_;obtain⟨⟨h6,h0⟩,hbd⟩:(xs.length+i<=7/\0<xs.length+i)/\∀p∈xs,EQ 50 p:=hy;refine S6 ?_;refine cZ (λc2=>?_) (λc2=>?_)
  .refine S5 ?_;refine Qy 6 [0] ?_;refine dV 0 [1] ?_;refine dK 1 ?_;refine dV 2 [4] ?_;refine dV 3 [4] ?_;refine qg (i:=4) J Dc Kr J ?_;refine qm (k:=0) (X:={p:Pn//EQ m p}) (v:=λx=>pV x.1) (r':=λ_=>srcR b A n c (K+2+70*l.length+1+8*xs.length+8)) Zo J J J Dc J (λw1 hs=>T5 (zs:=zs) m hm0.1 Om (hB.ovx hs.over hne) hne (hs.all 0 _ J).1 hn Om) ?_;rintro⟨q,hq⟩;refine n9 ?_
   try dsimp only
   refine JS (uw [0] J) ?_;refine qg (i:=5) J Dc Kr J ?_;refine j5 J J (qq J) J (lb J) (λb5=>?_);refine n9 ?_;refine JS (uw [0] J) ?_;refine vg J Kr J ?_;refine JQ (k:=7) J jw jG Dc J Dc J J J (λw' hs=>qL hs (k:=8) J J) (by simp[Value.oneCell']) (by unfold maxLen;omega) Om (jlL _) (λr1=>?_);refine n9 ?_;refine Qy 9 [6] ?_;refine dK 7 ?_;refine qg (i:=8) J Dc Kr J ?_;refine S1 ?_;refine JS (uw [6] J) ?_;refine JK Kr ?_;refine S7 ?_;exact Jn hL2 ((i-1,xs++[q],r1)) (⟨⟨by simp only[jlJ,jlS,jl5];omega,by simp only[jlJ,jlS,jl5];omega⟩,λp hp=>(jl0.1 hp).elim (hbd p) (λh=>by rw[jlM.1 h];obtain⟨⟨u1,u2⟩,u3,u4⟩:=hq;exact⟨⟨by omega,by omega⟩,by omega,by omega⟩)⟩) (by simp only;omega) ⟨vi Om,sz⟩ (λ_ h=>h.upto ⟨by rw[jlJ];rfl,rfl,rfl,rfl,rfl,rfl,by rw[jlJ];rfl,by rw[jlJ,jlW];rfl,trivial⟩)
  .have hi0:i=0:=Om;refine Uh 0 (K2:=K+2+70*(l.length+1)) J Om ?_;refine t9 ?_;refine S10 ?_;refine j5 J J (qe J) J (lb J) (λb6=>?_);refine N1 ?_;refine JQ (k:=4) J jC Jl Dc J Dc J J J (λw' hs=>qL hs (k:=8) J J) (by simp[Value.oneCell']) (by unfold maxLen;omega) Om (jlL _) (λr2=>?_);refine N4 ?_;refine jdC 7 J ?_;refine t9 ?_;refine Ke 5 7 J J Dc J ?_;refine t9 ?_;refine S7 ?_;exact Jn hL1 ((j-1,r2,l++[⟨xs,pA,pc⟩])) (⟨⟨by simp only[jlJ,jlS,jl5];omega,by simp only[jlJ,jlS,jl5];omega⟩,hpc.push ⟨by show 0<xs.length;omega,by show xs.length<=7;omega⟩⟩) (by simp only;omega) ⟨vi Om,sz⟩ (λ_ h=>h.upto ⟨by rw[jlJ];rfl,J,by rw[jlJ];rfl,J,by rw[jlJ,jma];rfl,(jcI _ _).symm,trivial⟩)
 .refine S12 ?_;refine jK J (qj (k:=1) J jD J J) ?_;intro w' hs;exact⟨((rA,rc),⟨l,⟨by omega,by omega⟩,hpc⟩),by simp only,WA hs,jjx hs (ks:=0) (kr:=4) (kp:=5) rfl rfl rfl Dc Dc Dc rfl Om⟩
end
end
section
variable{A:Option Addr}{cs:List Value}{l:List Res}{rs:List jI}{w:World}
section
variable{n:Nat}{env:List (Nat×Value)}{w0:Bs}{Rs:List Res}{K:Act->World->Prop}
theorem FU(k:Nat){r:Res}(hk:Rs[k]? =some (.many (r::l)))(h:At n env w0 (Rs.set k r++[.many l]) K):At n env w0 Rs K:=λa w hf hs=>by
 have hkl:k<Rs.length:=(List.getElem?_eq_some_iff.1 hk).1;have h1:St w0 (Rs.set k (.many [r,.many l])) w:=hs.chg hk (λhP=>by
  obtain⟨p1,p2⟩:=hP;rw[jmc] at p2;exact It (p1 r (by simp)).1 ⟨λq hq=>p1 q (jlQ _ hq),p2.2⟩ (p1 r (by simp)).2 rfl λb hb ⟨q,hq,hqb⟩=>p2.1 q hq b hb hqb) (λb hb=>by
  obtain⟨q,hq,hqb⟩:=hb;simp only[jlP,jmi,or_false] at hq;rcases hq with rfl|rfl
  .exact⟨q,by simp,hqb⟩
  .obtain⟨q2,hq2,hqb⟩:=hqb;exact⟨q2,jlQ _ hq2,hqb⟩) rfl
 exact(Rg k (by rw[List.getElem?_set,if_pos rfl,if_pos hkl]) (by rw[List.set_set];exact h)) a w hf h1
theorem jdA(k:Nat){l':List Res}(hk:Rs[k]? =some (.many l))(hp:l.Perm l')(h:At n env w0 (Rs.set k (.many l')) K):At n env w0 Rs K:=λa w hf hs=>
 h a w hf (hs.chg hk (λhP=>⟨λq hq=>hP.1 q (hp.mem_iff.2 hq),(hp.pairwise_iff (λ{a b} hab c hb ha=>hab c ha hb)).1 hP.2⟩) (λb hb=>by
  obtain⟨q,hq,hqb⟩:=hb;exact⟨q,hp.mem_iff.2 hq,hqb⟩) rfl)
theorem Lf(k:Nat){b T s m:Nat}(hk:Rs[k]? =some (.cel b T cs))(hl:cs.length=m*s)(hm:m<=1048576)(h:At n env w0 (Rs.set k (JV 0 T s m cs (some ⟨b,0,none⟩,m))) K):At n env w0 Rs K:=λa w hf hs=>by
 have hh:=hs.cel hk;refine h a w hf (hs.chg hk (λhP=>?_) (λq hq=>?_) J)
 .refine⟨hl,.inr ⟨b,m,cs.toArray,J,jlN _,hh,jlL _,?_,by simp[hl],?_⟩⟩
  .unfold maxLen;omega
  .rw[jme (by simp[hl])]
 .have hq:Value.ownBlock (.slice (some ⟨b,0,none⟩) m m)=some q:=hq;have:b=q:=by simpa[Value.ownBlock] using hq
  exact this.symm
def Ca(e:Pq):Pc:=if 0<e.xs.length then⟨e.xs,e.A,e.c,VK e.A,VK e.A+1⟩ else⟨e.xs,e.A,e.c,0,0⟩
theorem jh8(e:Pq):(Ca e).val=e.val:=by unfold Ca;split<;>rfl
theorem jfs(e:Pq):(Ca e).xs=e.xs:=by unfold Ca;split<;>rfl
theorem OP{e:Pq}(h:e.res.P w):(Ca e).res.P w/\∀b,(Ca e).res.F b->e.res.F b:=by
 have hP':w.ownsRow 0 36 2 (.slice e.A e.xs.length e.c) e.xs.length (e.xs.flatMap Jt):=h;unfold Ca;split
 .rename_i h0;rcases hP'.2 with⟨_,e1⟩|⟨g,cap,cur,e1,hb2,hg,_⟩
  .omega
  .injection e1 with e2
   refine⟨jcJ (Po (x:=(e.A,e.c)) hP' J) ?_,λb hb=>?_⟩
   .show VK e.A+1<=w.heap.size;rw[e2];exact J3 hg
   .have hb':VK e.A<=b/\b<VK e.A+1:=hb;show Value.ownBlock (.slice e.A e.xs.length e.c)=some b
    rw[e2] at hb'⊢;have e3:g=b:=by have h1:g<=b:=hb'.1;have h2:b<g+1:=hb'.2;omega
    subst e3;rfl
 .rename_i h0;exact⟨jcJ ⟨rfl,λh1=>absurd h1 h0⟩ (jlN _),λb hb=>by have:0<=b/\b<0:=hb;omega⟩
theorem Rf(k:Nat){L:List Pq}(hk:Rs[k]? =some (Px L))(h:At n env w0 (Rs.set k (KD (L.map Ca))) K):At n env w0 Rs K:=λa w hf hs=>
 h a w hf (hs.chg hk (λhP=>by
  obtain⟨p1,p2⟩:=hP;have p1':∀e∈L,e.res.P w:=λe he=>(p1 _ (jlR.2 ⟨e,he,rfl⟩)).1
  refine⟨λr hr=>?_,?_⟩
  .obtain⟨e,he,rfl⟩:=jlR.1 hr;obtain⟨q,hq,rfl⟩:=jlR.1 he;exact⟨(OP (p1' q hq)).1,rfl⟩
  .rw[jni,jnx];rw[jnx] at p2;refine List.pairwise_iff_forall_sublist.2 λ{x y} hxy b hb hb2=>?_
   have mx:x∈L:=hxy.subset (by simp);have my:y∈L:=hxy.subset (by simp)
   exact List.pairwise_iff_forall_sublist.1 p2 hxy b ((OP (p1' x mx)).2 b hb) ((OP (p1' y my)).2 b hb2)) (λb hb=>by
  obtain⟨r,hr,hb⟩:=hb;obtain⟨e,he,rfl⟩:=jlR.1 hr;obtain⟨q,hq,rfl⟩:=jlR.1 he;have hm:q.res∈L.map Pq.res:=jlR.2 ⟨q,hq,rfl⟩
  exact⟨q.res,hm,(OP ((hs.all k _ hk).1.1 _ hm).1).2 b hb⟩) rfl)
def pc0:Pc:=⟨[],none,0,0,0⟩
theorem jjh(k:Nat){l:List Pc}(hk:Rs[k]? =some (KD l))(h:At n env w0 (Rs.set k (KD (l++[pc0]))) K):At n env w0 Rs K:=λa w hf hs=>
 h a w hf (hs.chg hk (λhP=>by
  have e:(l++[pc0]).map Pc.res=l.map Pc.res++[pc0.res]:=by simp
  rw[KD,e];have p0:pc0.res.P w:=jcJ ⟨rfl,λh1=>absurd h1 Dc⟩ (jlN _)
  refine⟨λr hr=>?_,?_⟩
  .rcases jl0.1 hr with h1|h1
   .exact hP.1 r h1
   .rw[jlM.1 h1];exact⟨p0,rfl⟩
  .rw[jm9];refine⟨hP.2,jmK _ _,λa ha b hb c hc hc2=>?_⟩;rw[jlM.1 hb] at hc2;have:0<=c/\c<0:=hc2
   omega) (λb hb=>by
  obtain⟨r,hr,hb⟩:=hb;obtain⟨e,he,rfl⟩:=jlR.1 hr;rcases jl0.1 he with h1|h1
  .exact⟨e.res,jlR.2 ⟨e,h1,rfl⟩,hb⟩
  .rw[jlM.1 h1] at hb;have:0<=b/\b<0:=hb
   omega) rfl)
end
def bxB(rs:List jI):Prop:=rs.length<=41/\∀r∈rs,r.length<=401
theorem Bh(h:bxB rs):(total rs:Int)<=1048576:=by
 have key:∀k,k<=rs.length->uk rs k<=401*k:=λk=>by
  induction k with
  |zero=>intro _;exact jlL _
  |succ k ih=>
   intro hk;have h1:=h.2 (rg rs k) (by rw[<-wb (show k<rs.length by omega)];exact jlY _)
   have h2:=ih Om;show uk rs k+(rg rs k).length<=_
   omega
 have h1:=key rs.length (jlL _);have h2:=h.1
 unfold total;omega
abbrev BX:={rs:List jI//(total rs:Int)<=1048576}×(Option Addr×Nat)×Nat×Nat
abbrev bxR(x:BX):Res:=K4 x.1.1.length x.1.1 x.2.2.1 x.2.2.2 x.2.1.1
abbrev Uw(b:Nat)(A:Option Addr)(n c K:Nat)(x:BX):Res:=.many [srcR b A n c K,bxR x]
theorem jiP{b n c K K':Nat}{x:BX}(h:(Uw b A n c K x).P w)(hK:K<=K'):(Uw b A n c K' x).P w:=by
 obtain⟨h1,h2⟩:=h;refine⟨λr hr=>?_,?_⟩
 .simp only[jlP,jmi,or_false] at hr;rcases hr with rfl|rfl
  .exact⟨srcR.more (h1 (srcR b A n c K) (by simp)).1 hK,rfl⟩
  .exact h1 (bxR x) (by simp)
 .refine jmc.2 ⟨λr hr=>?_,jmK _ _⟩;have e:=jlM.1 hr
  subst e;exact(jmc.1 h2).1 (bxR x) (jlM.2 rfl)
theorem T6{m:Nat}(h:jef m rs)(hm:m<=41):(total rs:Int)<=1048576:=Bh ⟨by have:=h.1;omega,λr hr=>by have:=(h.2 r hr).1;omega⟩
end
section
variable{A:Option Addr}{L:List Pq}{e:Pc}{env:List (Nat×Value)}{l:List Pc}{n:Nat}{w:World}{x:BX}
set_option maxRecDepth 100000
set_option maxHeartbeats 4000000
theorem jie{P:Program}{w0:Bs}{Rs:List Res}{o:Oper}{x y:Operand}{T T':TypeId}{p q:Int}(ho:o.op=.binOp .and T x y T')(hx:ev env x=some (.int .i64 p))(hy:ev env y=some (.int .i64 q)):Qt P o n env w0 Rs (.int .i64 (bits .and .i64 p q)):=
 kd λa w hf _=>by unfold execOp;simp only[ho,hf.ev hx,hf.ev hy];simp[go_sem]
def bpc(l:List Pc):Prop:=l.length<=41/\∀e∈l,e.xs.length<=401
theorem HF(L:List Pq):(L.map Ca).map Pc.val=L.map Pq.val:=by rw[jni];exact jnL λe _=>jh8 e
theorem Sr(h:L.length<=3)(hp:pqOk L):bpc (L.map Ca):=⟨by rw[jlV];omega,λe he=>by
 obtain⟨q,hq,rfl⟩:=jlR.1 he;rw[jfs];have:=(hp q hq).2
 omega⟩
theorem bpc.one(h:e.xs.length<=401):bpc [e]:=⟨lb rfl,λq hq=>by rw[jlM.1 hq];exact h⟩
theorem bpc.push{m:Nat}(h:l.length<m/\∀q∈l,q.xs.length<=401)(he:e.xs.length<=401):(l++[e]).length<=m/\∀q∈l++[e],q.xs.length<=401:=
 ⟨by rw[jlJ];have:=h.1;exact this,λq hq=>(jl0.1 hq).elim (h.2 q) λh1=>by rw[jlM.1 h1];exact he⟩
theorem bpc.bx(h:bpc l):(total (l.map (·.xs)):Int)<=1048576:=Bh ⟨by rw[jlV];exact h.1,λr hr=>by
 obtain⟨e,he,rfl⟩:=jlR.1 hr;exact h.2 e he⟩
theorem jft(h0:0<L.length)(hp:pqOk L):∃p xs A c L',L=⟨p::xs,A,c⟩::L':=by
 rcases L with _|⟨⟨xs,A,c⟩,L'⟩
 .cases h0
 .have:=(hp ⟨xs,A,c⟩ (by simp)).1;rcases xs with _|⟨p,xs⟩
  .cases this
  .exact⟨p,xs,A,c,L',rfl⟩
theorem jh9{p p':Pn}{xs:jI}{k lo hi:Nat}{L':List Pq}(h:(Pq.mk (p::xs) A k::L').length<=3)(hp:pqOk (Pq.mk (p::xs) A k::L')):bpc (⟨p'::xs,A,k,lo,hi⟩::L'.map Ca):=⟨by simp only[jlS,jlV] at h⊢;omega,λe he=>by
 rcases jlP.1 he with rfl|he
 .have:=(hp ⟨p::xs,A,k⟩ (by simp)).2;simp only[jlS] at this⊢;omega
 .obtain⟨q,hq,rfl⟩:=jlR.1 he;rw[jfs];have:=(hp q (jlQ _ hq)).2
  omega⟩
theorem bxP{w':World}{b c K K':Nat}(hP:(srcR b A n c K').P w')(hlt:b<w.heap.size)(hO:OwnG w.heap.size w'.heap.size w' x.2.1.1 x.1.1.length x.1.1)(h1:x.2.2.1=w.heap.size)(h2:x.2.2.2=w'.heap.size):
  (Uw b A n c K' x).P w'/\(∀q,(Uw b A n c K' x).F q->(srcR b A n c K).F q\/w.heap.size<=q)/\(Uw b A n c K' x).B=0:=by
 obtain⟨y,⟨a,c2⟩,lo,hi⟩:=x;have h1:lo=w.heap.size:=h1
 have h2:hi=w'.heap.size:=h2;subst h1 h2;refine⟨It hP (jb9 hO (jlL _)) J J (λq hq hq2=>?_),λq hq=>?_,J⟩
 .have hq:q=b:=hq;have hq2:w.heap.size<=q/\q<w'.heap.size:=hq2
  omega
 .obtain⟨r,hr,hq⟩:=hq;simp only[jlP,jmi,or_false] at hr;rcases hr with rfl|rfl
  .exact .inl hq
  .exact .inr hq.1
section
variable{b n c K:Nat}{A:Option Addr}{zs:List Int}{w:World}
theorem Nw(hB:Byts w A n zs)(hne:0<n->∀p,A=some p->p.block≠b)(hP:(srcR b A n c K).P w)(hn:n<=1048576)(hK:K<=500):
  Calls Tryz.prog 37 #[.pointer (some ⟨b,0,none⟩)] w λe w'=>∃x:BX,e=.returned (qU x.2.1.1 x.1.1.length x.2.1.2)/\Wrs (srcR b A n c K).F w w'/\(Uw b A n c (K+400) x).P w'/\(∀q,(Uw b A n c (K+400) x).F q->(srcR b A n c K).F q\/w.heap.size<=q)/\(Uw b A n c (K+400) x).B=0:=by
 have hlt:=(srcR b A n c K).low w hP b rfl;refine Km (m:=84) ([b]) (srcR b A n c K) (hP) (λq hq=>jlM.2 hq) J (Tryz.func37) J J (lb J) ?_;refine S3 ?_;refine aL (λb1=>?_);refine N5 ?_;refine qm (k:=0) (X:=D37) (v:=λx=>qU x.1.1 x.2.1.length x.1.2) (r':=λx=>Cu b A n c (K+300) x) Zt J J J Dc J (λw1 hs=>Fq (zs:=zs) (hB.ovx hs.over hne) hne (hs.all 0 _ J).1 hn Om) ?_;rintro⟨⟨rA,rc⟩,⟨qs,⟨hL0,hL3⟩,hpq⟩⟩;refine n9 ?_
 try dsimp only
 refine FU 0 J ?_;refine t9 ?_;refine Rg 2 J ?_;refine t9 ?_;refine S1 ?_;refine aL (λb2=>?_);refine N3 ?_;refine WZ (X:=(Option Addr×Nat)×List Pc) (λx=>bpc x.2) (λx=>[]) (kK [2,3]) (λx=>[srcR b A n c (K+302),.cel b1 25 [.slice none 0 0],.cel b2 25 [.slice x.1.1 x.2.length x.1.2],JV 0 41 1 x.2.length (x.2.map Pc.val) x.1,KD x.2]) (λL h_0=>?_) ?_
 .refine S4 ?_;refine qm (k:=0) (X:={v:Int//0<=v/\v<24}) (v:=λx=>.int .i64 x.1) (r':=λ_=>srcR b A n c (K+301)) J9 J J J Dc J (λw1 hs=>Kw (zs:=zs) 24 Dc Dc (hB.ovx hs.over hne) hne (hs.all 0 _ J).1 hn Om) ?_;rintro⟨v1,hv1⟩;refine n9 ?_
  try dsimp only
  refine S7 ?_;refine cZ (λc1=>?_) (λc1=>?_)
  .refine Rf 3 J ?_;refine t9 ?_;refine S3 ?_;refine a9 (JD J J (Ks)) ?_;refine S1 ?_;refine j5 J J (qe J) J (lb J) (λb3=>?_);refine N1 ?_;refine JQ (k:=2) J jC Jl Dc J Dc J J J (λw' hs=>qL hs (k:=5) J J) (by simp[Value.oneCell']) (by unfold maxLen;omega) Om (jlN _) (λr1=>?_);refine N4 ?_;refine Uh 0 (K2:=K+302) J Om ?_;refine t9 ?_;refine jjh 3 J ?_;refine t9 ?_;refine S2 ?_;exact Qd h_0 ((r1,qs.map Ca++[pc0])) (bpc.push (m:=41) (by refine⟨?_,(Sr hL3 hpq).2⟩;rw[jlV];omega) (jlN _)) ⟨J,sz⟩ (λ_ h=>(h.picks [0,1,4,2,3] Dc).upto ⟨J,J,by simp only[jlJ,jlV,jmE],by simp only[jlJ,jlV,jmE,jma,HF];rfl,sz⟩)
  .refine S5 ?_;refine cZ (λc2=>?_) (λc2=>?_)
   .obtain⟨p1,xs1,A1,k1,L',rfl⟩:=jft hL0 hpq;refine FU 3 J ?_;refine t9 ?_;refine S3 ?_;refine a9 (IJ (k:=2) (j:=0) J J J J jC (Nat.succ_pos _)) ?_;refine S1 ?_;refine a9 (jn J J JH (λw hs=>yw (hs.all 2 _ J).1 J)) ?_;refine a9 (JD J J (Fg J)) ?_;refine a9 (IJ (k:=3) (j:=0) J J J J jw (Nat.succ_pos _)) ?_;refine S1 ?_;refine uW (k:=3) (vs:=Jt (0,262145)) J J J J (by rfl) (by rfl) jG.szx J J (Nat.succ_pos 1) (by show 0+0*2+2<=(Jt p1++_).length;rw[jlJ];exact Nat.le_add_right 2 _) ?_;refine N1 ?_;refine Uh 0 (K2:=K+302) J Om ?_;refine t9 ?_;refine YC 3 (xs:=(0,262145)::xs1) (x:=(A1,k1)) J J (λlo1 hi1=>?_);refine t9 ?_;refine Rf 5 J ?_;refine t9 ?_;refine Ke 5 3 J J Dc J ?_;refine t9 ?_;refine jdA (l':=(Pc.mk ((0,262145)::xs1) A1 k1 lo1 hi1::L'.map Ca).map Pc.res) 4 J (List.perm_append_singleton ..) ?_;refine t9 ?_;refine S2 ?_;exact Qd h_0 (((rA,rc),⟨(0,262145)::xs1,A1,k1,lo1,hi1⟩::L'.map Ca)) (jh9 hL3 hpq) ⟨J,sz⟩ (λ_ h=>(h.picks [0,1,3,2,4] Dc).upto ⟨J,J,by simp only[jlS,jlV],by simp only[jlS,jlV,jmA,HF];rfl,sz⟩)
   .refine S5 ?_;refine cZ (λc3=>?_) (λc3=>?_)
    .refine Rf 3 J ?_;refine t9 ?_;refine S2 ?_;refine JW (X:=(Option Addr×Nat)×List Pc) (λx=>x.2.length<=40/\∀e∈x.2,e.xs.length<=401) (λx=>40-x.2.length) (λx=>[]) (kK [0,2,3]) (λx=>[srcR b A n c (K+301),.cel b1 25 [.slice none 0 0],JV 0 41 1 x.2.length (x.2.map Pc.val) x.1,KD x.2,.cel b2 25 [.slice x.1.1 x.2.length x.1.2]]) ((rA,rc),qs.map Ca) (⟨by rw[jlV];omega,(Sr hL3 hpq).2⟩) sz (λ_ h=>h.upto ⟨J,J,by simp only[jlV,HF],J,by simp only[jlV],trivial⟩) ?_;intro⟨⟨qA,qc⟩,l⟩ hx L hL1;refine v9 ?_;refine r9 ?_;obtain⟨hl40,hl401⟩:l.length<=40/\∀e∈l,e.xs.length<=401:=hx;refine S8 ?_;refine cZ (λc4=>?_) (λc4=>?_)
     .refine S6 ?_;refine a9 (JD J J (Xt J)) ?_;refine S1 ?_;refine j5 J J (qq J) J (lb J) (λb4=>?_);refine n9 ?_;refine a9 (JD J J (Qn J)) ?_;refine S1 ?_;refine j5 J J (qe J) J (lb J) (λb5=>?_);refine N1 ?_;refine JQ (k:=2) J jC Jl Dc J Dc J J J (λw' hs=>qL hs (k:=6) J J) (by simp[Value.oneCell']) (by unfold maxLen;omega) Om (jlN _) (λr2=>?_);refine N4 ?_;refine ZP 5 1 [(1,0)] J ?_;refine t9 ?_;refine Ke 3 5 J J Dc J ?_;refine t9 ?_;refine S2 ?_;exact Jn hL1 ((r2,l++[⟨[(1,0)],some ⟨b4,0,none⟩,1,b4,b4+1⟩])) (bpc.push (m:=40) ⟨by omega,hl401⟩ (lb J)) (by simp only[jlJ,jmE];omega) ⟨J,sz⟩ (λ_ h=>h.upto ⟨J,J,by rw[jlJ,jma];rfl,(ve _ _).symm,by rw[jlJ];rfl,trivial⟩)
     .refine S9 ?_;refine qm (k:=0) (X:=Bool) (v:=λx=>.bool x) (r':=λ_=>srcR b A n c (K+302)) kJ J J J Dc J (λw1 hs=>xW (zs:=zs) 2 Dc Dc (hB.ovx hs.over hne) hne (hs.all 0 _ J).1 hn Om) ?_;rintro ob;refine N1 ?_;refine cZ (λc5=>?_) (λc5=>?_)
      .refine S3 ?_;refine a9 (JD J J (Xt J)) ?_;refine S1 ?_;refine j5 J J (qq J) J (lb J) (λb6=>?_);refine n9 ?_;refine a9 (JD J J (Qn J)) ?_;refine S1 ?_;refine j5 J J (qe J) J (lb J) (λb7=>?_);refine N1 ?_;refine JQ (k:=2) J jC Jl Dc J Dc J J J (λw' hs=>qL hs (k:=6) J J) (by simp[Value.oneCell']) (by unfold maxLen;omega) Om (jlN _) (λr3=>?_);refine N4 ?_;refine ZP 5 1 [(1,0)] J ?_;refine t9 ?_;refine Ke 3 5 J J Dc J ?_;refine t9 ?_;refine S2 ?_;exact Qd h_0 ((r3,l++[⟨[(1,0)],some ⟨b6,0,none⟩,1,b6,b6+1⟩])) (bpc.push (m:=41) ⟨by omega,hl401⟩ (lb J)) ⟨J,sz⟩ (λ_ h=>(h.picks [0,1,4,2,3] Dc).upto ⟨J,J,by rw[jlJ];rfl,by rw[jlJ,jma];rfl,(ve _ _).symm,trivial⟩)
      .refine S3 ?_;exact Qd h_0 (((qA,qc),l)) (⟨Nat.le_succ_of_le hl40,hl401⟩) ⟨J,sz⟩ (λ_ h=>(h.picks [0,1,4,2,3] Dc).upto ⟨J,sz⟩)
    .refine S5 ?_;refine cZ (λc6=>?_) (λc6=>?_)
     .refine S2 ?_;refine a9 (JD J J (Ks)) ?_;refine S1 ?_;refine aL (λb8=>?_);refine N3 ?_;refine QO (T:=36) (s:=2) ?_;refine t9 ?_;refine S6 ?_;refine JW (X:=List Pn×Option Addr×Nat) (λy=>y.1.length<=400) (λy=>400-y.1.length) (λy=>[(5,.int .i64 (y.1.length:Int))]) (kK [0,2,3,4]) (λy=>[srcR b A n c (K+301),.cel b1 25 [.slice none 0 0],JV 0 41 1 qs.length (qs.map Pq.val) (rA,rc),Px qs,.cel b2 25 [.slice rA qs.length rc],.cel b8 41 [.slice y.2.1 y.1.length y.2.2],JV (Bs.N ⟨w,[b]⟩) 36 2 y.1.length (y.1.flatMap Jt) y.2]) ([],none,0) (jlN _) ⟨J,sz⟩ (λ_ h=>h) ?_;intro⟨xs,pA,pc⟩ hy L hL2;refine v9 ?_;refine r9 ?_;have h400:xs.length<=400:=hy
      refine S6 ?_;refine cZ (λc7=>?_) (λc7=>?_)
      .refine S10 ?_;refine a9 (jie J J J) ?_;refine a9 (JD J J (J8 J J)) ?_;refine S1 ?_;refine j5 J J (qq J) J (lb J) (λb9=>?_);refine N1 ?_;refine JQ (k:=6) J jw jG Dc J Dc J J J (λw' hs=>qL hs (k:=7) J J) (by simp[Value.oneCell']) (by unfold maxLen;omega) Om (jlL _) (λr4=>?_);refine N11 ?_;exact Jn hL2 ((xs++[((xs.length:Int)*3,bits .and .i64 (xs.length:Int) 1)],r4)) (by show(xs++[_]).length<=400;rw[jlJ,jmE];omega) (by simp only[jlJ,jmE];omega) ⟨vi (by simp only[jlJ,jmE];omega),sz⟩ (λ_ h=>h.upto ⟨J,J,J,J,J,by rw[jlJ];rfl,by rw[jlJ,jlW];rfl,trivial⟩)
      .refine S5 ?_;refine WZ (X:=List Pn×Option Addr×Nat) (λy=>y.1.length<=401) (λy=>[]) (kK [2,3,4]) (λy=>[srcR b A n c (K+302),.cel b1 25 [.slice none 0 0],.cel b2 25 [.slice rA qs.length rc],.cel b8 41 [.slice y.2.1 y.1.length y.2.2],JV (Bs.N ⟨w,[b]⟩) 36 2 y.1.length (y.1.flatMap Jt) y.2]) (λL h_t69=>?_) ?_
       .refine S4 ?_;refine qm (k:=0) (X:=Bool) (v:=λx=>.bool x) (r':=λ_=>srcR b A n c (K+302)) kJ J J J Dc J (λw1 hs=>xW (zs:=zs) 2 Dc Dc (hB.ovx hs.over hne) hne (hs.all 0 _ J).1 hn Om) ?_;rintro ob2;refine N1 ?_;refine cZ (λc8=>?_) (λc8=>?_)
        .refine S3 ?_;refine a9 (JD J J (US)) ?_;refine S1 ?_;refine j5 J J (qq J) J (lb J) (λb10=>?_);refine N1 ?_;refine JQ (k:=6) J jw jG Dc J Dc J J J (λw' hs=>qL hs (k:=7) J J) (by simp[Value.oneCell']) (by unfold maxLen;omega) Om (jlL _) (λr5=>?_);refine N4 ?_;exact Qd h_t69 ((xs++[(0,0)],r5)) (by show(xs++[_]).length<=401;rw[jlJ,jmE];omega) ⟨J,sz⟩ (λ_ h=>(h.picks [0,1,4,5,6] Dc).upto ⟨J,J,J,by rw[jlJ];rfl,by rw[jlJ,jlW];rfl,trivial⟩)
        .refine S2 ?_;exact Qd h_t69 ((xs,pA,pc)) (Nat.le_succ_of_le h400) ⟨J,sz⟩ (λ_ h=>(h.picks [0,1,4,5,6] Dc).upto ⟨J,sz⟩)
       .rintro⟨vs2,vA2,vc2⟩ hys;refine v9 ?_;refine r9 ?_;refine S3 ?_;refine j5 J J (qe J) J (lb J) (λb11=>?_);refine n9 ?_;refine a9 (JD J J (VY J)) ?_;refine S3 ?_;refine Lf 5 (s:=1) (m:=1) J J (lb J) ?_;refine t9 ?_;refine YC 4 J J (λlo2 hi2=>?_);refine t9 ?_;refine KY ?_;refine t9 ?_;refine Ke 6 4 J J Dc J ?_;refine t9 ?_;refine S2 ?_;exact Qd h_0 (((some ⟨b11,0,none⟩,1),[⟨vs2,vA2,vc2,lo2,hi2⟩])) (bpc.one hys) ⟨J,sz⟩ (λ_ h=>(h.picks [0,1,2,4,5] Dc).upto ⟨J,sz⟩)
     .refine S5 ?_;refine cZ (λc9=>?_) (λc9=>?_)
      .refine Uh 0 (K2:=K+302) J Om ?_;refine t9 ?_;refine S2 ?_;refine j5 J J (Vv) J (lb J) (λb12=>?_);refine N4 ?_;refine Lf 5 (s:=1) (m:=0) J J (jlN _) ?_;refine t9 ?_;refine KY ?_;refine t9 ?_;refine S2 ?_;exact Qd h_0 (((some ⟨b12,0,none⟩,0),[])) (⟨jlN _,λe he=>by cases he⟩) ⟨rfl,sz⟩ (λ_ h=>(h.picks [0,1,4,5,6] Dc).upto ⟨rfl,sz⟩)
      .refine Rf 3 J ?_;refine t9 ?_;refine Uh 0 (K2:=K+302) J Om ?_;refine t9 ?_;refine S3 ?_;exact Qd h_0 (((rA,rc),qs.map Ca)) (Sr hL3 hpq) ⟨J,sz⟩ (λ_ h=>(h.picks [0,1,4,2,3] Dc).upto ⟨J,J,by simp only[jlV],by simp only[jlV,HF],sz⟩)
 .rintro⟨⟨fA,fc⟩,l⟩ hbp;refine v9 ?_;refine r9 ?_;refine S7 ?_;refine jK J (qj (k:=1) J jD J J) ?_;intro w' hs;exact⟨(⟨l.map (·.xs),hbp.bx⟩,(fA,fc),w.heap.size,w'.heap.size),by simp only[jlV],WA hs,bxP (srcR.more (hs.all 0 _ rfl).1 Om) hlt (by simp only[jlV];exact yu hs (ks:=0) (kr:=3) (kp:=4) rfl rfl rfl rfl Dc Dc Dc rfl (λe he=>by have:=hbp.2 e he;omega)) rfl rfl⟩
end
theorem jdR{b c K K' q:Nat}(h:(Uw b A n c K' x).F q):(Uw b A n c K x).F q:=by
 obtain⟨r,hr,hq⟩:=h;simp only[jlP,jmi,or_false] at hr;rcases hr with rfl|rfl
 .exact⟨srcR b A n c K,by simp,hq⟩
 .exact⟨bxR x,by simp,hq⟩
def dxB{m:Nat}(x:DX m)(hm:m<=41):BX:=(⟨x.1.1,T6 x.1.2 hm⟩,x.2)
theorem CQ(h13:∀{b n c K:Nat} {A:Option Addr} {zs:List Int} {w:World},Byts w A n zs->(0<n->∀p,A=some p->p.block≠b)->(srcR b A n c K).P w->n<=1048576->K<=500->Calls Tryz.prog 37 #[.pointer (some ⟨b,0,none⟩)] w λe w'=>∃x:BX,e=.returned (qU x.2.1.1 x.1.1.length x.2.1.2)/\Wrs (srcR b A n c K).F w w'/\(Uw b A n c (K+400) x).P w'/\(∀q,(Uw b A n c (K+400) x).F q->(srcR b A n c K).F q\/w.heap.size<=q)/\(Uw b A n c (K+400) x).B=0){b c K:Nat}{zs:List Int}(hB:Byts w A n zs)(hne:0<n->∀p,A=some p->p.block≠b)(hP:(srcR b A n c K).P w)(hn:n<=1048576)(hK:K<=400):
  Calls Tryz.prog 24 #[.pointer (some ⟨b,0,none⟩)] w λe w'=>∃x:BX,e=.returned (qU x.2.1.1 x.1.1.length x.2.1.2)/\Wrs (srcR b A n c K).F w w'/\(Uw b A n c (K+450) x).P w'/\(∀q,(Uw b A n c (K+450) x).F q->(srcR b A n c K).F q\/w.heap.size<=q)/\(Uw b A n c (K+450) x).B=0:=by
 have hlt:=(srcR b A n c K).low w hP b rfl;refine Km (m:=9) ([b]) (srcR b A n c K) (hP) (λq hq=>jlM.2 hq) J (Tryz.func24) J J (lb J) ?_;refine S3 ?_;refine aL (λb1=>?_);refine N6 ?_;refine qm (k:=0) (X:=Bool) (v:=λx=>.bool x) (r':=λ_=>srcR b A n c (K+1)) kJ J J J Dc J (λw1 hs=>xW (zs:=zs) 8 Dc Dc (hB.ovx hs.over hne) hne (hs.all 0 _ J).1 hn Om) ?_;rintro ob;refine N1 ?_;refine cZ (λc1=>?_) (λc1=>?_)
 .refine S4 ?_;refine qm (k:=0) (X:=BX) (v:=λx=>qU x.2.1.1 x.1.1.length x.2.1.2) (r':=λx=>Uw b A n c (K+1+400) x) Oj J J J Dc J (λw1 hs=>h13 (zs:=zs) (hB.ovx hs.over hne) hne (hs.all 0 _ J).1 hn Om) ?_;rintro x0;refine N5 ?_;refine jK J (qj (k:=1) J jD J J) ?_;intro w' hs;exact⟨x0,rfl,WA hs,jiP (hs.all 0 _ rfl).1 Om,λq hq=>((hs.all 0 _ rfl).2.1 q (jdR hq)).elim (λh=>.inr h) (λh=>.inl (jlM.1 h)),rfl⟩
 .refine S6 ?_;refine qm (k:=0) (X:=DX 3) (v:=λx=>qU x.2.1.1 x.1.1.length x.2.1.2) (r':=λx=>XY b A n c (K+1+300) x) Oq J J J Dc J (λw1 hs=>NC (zs:=zs) (hB.ovx hs.over hne) hne (hs.all 0 _ J).1 hn Om) ?_;rintro x1;refine N4 ?_;refine jK J (qj (k:=1) J jD J J) ?_;intro w' hs;exact⟨dxB x1 Dc,rfl,WA hs,jiP (K:=K+1+300) (x:=dxB x1 Dc) (hs.all 0 _ rfl).1 Om,λq hq=>((hs.all 0 _ rfl).2.1 q (jdR (K:=K+1+300) (x:=dxB x1 Dc) hq)).elim (λh=>.inr h) (λh=>.inl (jlM.1 h)),rfl⟩
end
end Go.Proofs.YtjbahemkhphndaaGreat
