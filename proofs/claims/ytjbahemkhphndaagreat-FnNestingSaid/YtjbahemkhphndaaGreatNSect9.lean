import Derived.Test.YtjbahemkhphndaaGreatNNestP
import Derived.Test.YtjbahemkhphndaaGreatNNetT
import Derived.Test.YtjbahemkhphndaaGreatNCmbS
import Derived.Test.YtjbahemkhphndaaGreatNOwn
set_option linter.unusedVariables false
set_option linter.unusedSimpArgs false
namespace Go.Proofs.YtjbahemkhphndaaGreat
open Go Go.RowKit
section
variable{M i:Nat}
theorem jdo(rs:List jI):jH rs=rs.flatMap Jh:=by
 have key:∀k,k<=rs.length->qx rs k=(rs.take k).flatMap Jh:=λk=>by
  induction k with
  |zero=>intro _;rfl
  |succ k ih=>
   intro hk;have e0:qx rs (k+1)=qx rs k++Jh (rg rs k):=rfl
   rw[e0,ih Om,jlX (show k<rs.length by omega),jlW,wb];simp
 have:=key rs.length (jlL _)
 rwa [jms] at this
theorem NS{E:Nat->List Leg}(e:Leg):∀L:List Nat,GD (L.flatMap E) e=sm (λk=>GD (E k) e) L
 |[]=>jaw e
 |k::L=>by rw[jl4,jav,NS e L];rfl
section
variable{K:List Leg}{n:Nat}{E:Nat->List Leg}{L:List Nat}
theorem Fam.keysL(F:Fam K n E)(hL:∀k∈L,k<n)(h0:0<n):Keys K (L.flatMap E):=by
 have h:=F.key 0 h0;refine⟨h.nd,h.ord,h.sep,h.sepl,λe he=>?_,λf=>?_⟩
 .obtain⟨k,hk,he⟩:=jm8.1 he;exact F.mem (hL k hk) he
 .rw[U1];exact(JC λk hk=>(F.key k (hL k hk)).close f).trans (Q0 L)
theorem Fam.vals(F:Fam K n E)(hL:∀k∈L,k<n)(hnd:L.Nodup){j:Nat}(hj:j<n){e:Leg}(he:e∈E j)(hlt:(qh e).ay<(qh e).b_y){S:Int}(hS:sm (λk=>cM E k j) L=S):
  (j∉L->qd (L.flatMap E) (qh e)=0/\Qw (L.flatMap E) (qh e)=S)/\(j∈L->(qd (L.flatMap E) (qh e)=1/\Qw (L.flatMap E) (qh e)=S-1)\/(qd (L.flatMap E) (qh e)= -1/\Qw (L.flatMap E) (qh e)=S)):=by
 have hKs:=F.keysL hL Om;have hm:=F.mem hj he
 have hl:GD (L.flatMap E) e=S:=by
  rw[NS,<-hS];exact JC λk hk=>F.eq (hL k hk) hj he
 have hn:qd (L.flatMap E) (qh e)=sm (λk=>qd (E k) (qh e)) L:=by unfold qd;exact U1 _ _ _
 obtain⟨k1,k2,_,_⟩:=zG hKs hm;obtain⟨u1,u2⟩:=jaJ (E:=L.flatMap E) hlt;have hw:=F.own j hj e he
 obtain⟨w1,w2⟩:=D1 (F.key j hj) hm;refine⟨λhjL=>?_,λhjL=>?_⟩
 .have h0:qd (L.flatMap E) (qh e)=0:=by
   rw[hn];exact(JC λk hk=>F.oth k (hL k hk) j hj (λc=>hjL (c▸hk)) e he).trans (Q0 L)
  refine⟨h0,?_⟩;rcases kb (e:=e) with c|c
  .rw[<-c] at k1 u1 u2 h0⊢;omega
  .rw[<-c] at k2;omega
 .have h0:qd (L.flatMap E) (qh e)=qd (E j) (qh e):=by
   rw[hn];exact OW hnd j hjL λk hk hkj=>F.oth k (hL k hk) j hj hkj e he
  rw[h0] at u2⊢;rcases kb (e:=e) with c|c
  .left;rw[<-c] at k1 u1 u2 w1⊢;omega
  .right;rw[<-c] at k2 w2;omega
theorem Fam.area(F:Fam K n E)(hL:∀k∈L,k<n)(hnd:L.Nodup)(hM:∀p∈K,-(M:Int)<=p.ay/\p.b_y<=M)(hK:∀q∈K,∃j,j<n/\∃e∈E j,qh e=q)(hi:i∈L)(hS:∀j,j<n->(sm (λk=>cM E k j) L=0\/sm (λk=>cM E k j) L=1)/\(j∈L->sm (λk=>cM E k j) L=1)):0<sm (λl=>Xi (lA l) (lB l)) (L.flatMap E):=by
 have hin:=hL i hi;refine Tx (F.keysL hL Om) hM (λp hp hlt=>?_) ?_
 .obtain⟨j,hj,e,he,rfl⟩:=hK p hp;obtain⟨v1,v2⟩:=F.vals hL hnd hj he hlt rfl;obtain⟨s1,s2⟩:=hS j hj;by_cases c:j∈L
  .have:=v2 c;have:=s2 c
   omega
  .have:=v1 c;omega
 .obtain⟨e,he,hf⟩:=F.flat i hin;have hm:=F.mem hin he
  have ho:=Dk ((F.key i hin).ord _ hm);have hlt:(qh e).ay<(qh e).b_y:=by
   have:=(xU e).2.2;have:(qh e).ay≠(qh e).b_y:=λc=>hf (this.1 c)
   omega
  have v2:=(F.vals hL hnd hin he hlt rfl).2 hi;have s2:=(hS i hin).2 hi
  rcases v2 with v2|v2
  .exact⟨_,hm,hlt,true,by rw[if_pos rfl];omega⟩
  .exact⟨_,hm,hlt,false,by rw[if_neg Dc];omega⟩
end
section
variable{K:List Leg}{n:Nat}{E:Nat->List Leg}
theorem Fam.ring_pos(F:Fam K n E)(hM:∀p∈K,-(M:Int)<=p.ay/\p.b_y<=M)(hK:∀q∈K,∃j,j<n/\∃e∈E j,qh e=q)(hi:i<n)(hc:cM E i i=1):0<sm (λl=>Xi (lA l) (lB l)) (E i):=by
 have:=F.area (L:=[i]) (λk hk=>by rw[jlM.1 hk];exact hi) (by simp) hM hK (i:=i) (by simp) λj hj=>by
  have e:sm (λk=>cM E k j) [i]=cM E i j:=by simp[sm]
  rw[e];by_cases c:j=i
  .rw[c,hc];exact⟨.inr rfl,λ_=>rfl⟩
  .have:=F.c2 hi hj (Ne.symm c);exact⟨by omega,λh=>absurd (jlM.1 h) c⟩
 simpa using this
theorem Fam.ring_neg(F:Fam K n E)(hM:∀p∈K,-(M:Int)<=p.ay/\p.b_y<=M)(hK:∀q∈K,∃j,j<n/\∃e∈E j,qh e=q)(hi:i<n)(hc:cM E i i=0):sm (λl=>Xi (lA l) (lB l)) (E i)<0:=by
 have hKi:=F.key i hi;have hne:∀e∈E i,lA e≠lB e:=λe he=>by
  have:=uN hKi (F.mem hi he);rcases kb (e:=e) with c|c
  .rw[c];exact this
  .rw[c];exact λk=>this k.symm
 have hKr:Keys K ((E i).map qW):=⟨hKi.nd,hKi.ord,hKi.sep,hKi.sepl,λe he=>by
  obtain⟨x,hx,rfl⟩:=jlR.1 he;rw[zJ (hne x hx)];exact F.mem hi hx,λf=>by
  have h1:sm (λe:Leg=>f e.ax e.ay-f e.bx e.b_y) ((E i).map qW)=sm (λe:Leg=> -(f e.ax e.ay-f e.bx e.b_y)) (E i):=by
   rw[VC];refine JC λe _=>?_
   show f e.bx e.b_y-f e.ax e.ay=_;omega
  rw[h1,OV,hKi.close f];rfl⟩
 have rv:∀p,p.ay<p.b_y->Qw ((E i).map qW) p= -Qw (E i) p/\qd ((E i).map qW) p= -qd (E i) p:=λp hp=>by
  obtain⟨a1,a2⟩:=jhI hne p;obtain⟨b1,b2⟩:=jaJ (E:=E i) hp;obtain⟨c1,c2⟩:=jaJ (E:=(E i).map qW) hp;omega
 have vl:∀j,j<n->∀e∈E j,(qh e).ay<(qh e).b_y->(j≠i->qd (E i) (qh e)=0/\Qw (E i) (qh e)=cM E i j)/\(j=i->(qd (E i) (qh e)=1/\Qw (E i) (qh e)=cM E i j-1)\/(qd (E i) (qh e)= -1/\Qw (E i) (qh e)=cM E i j)):=λj hj e he hlt=>by
  have:=F.vals (L:=[i]) (λk hk=>by rw[jlM.1 hk];exact hi) (by simp) hj he hlt (S:=cM E i j) (by simp[sm]);rw[show [i].flatMap E=E i by simp] at this;exact⟨λh=>this.1 (by simpa using h),λh=>this.2 (by simp[h])⟩
 have:=Tx hKr hM (λp hp hlt=>by
  obtain⟨j,hj,e,he,rfl⟩:=hK p hp;obtain⟨v1,v2⟩:=vl j hj e he hlt;obtain⟨r1,r2⟩:=rv _ hlt;by_cases c:j=i
  .subst c;have:=v2 rfl
   omega
  .have:=v1 c;have:=F.c2 hi hj (Ne.symm c)
   omega) (by
  obtain⟨e,he,hf⟩:=F.flat i hi;have hm:=F.mem hi he
  have ho:=Dk ((F.key i hi).ord _ hm);have hlt:(qh e).ay<(qh e).b_y:=by
   have:=(xU e).2.2;have:(qh e).ay≠(qh e).b_y:=λc=>hf (this.1 c)
   omega
  obtain⟨r1,r2⟩:=rv _ hlt;rcases(vl i hi e he hlt).2 rfl with v|v
  .exact⟨_,hm,hlt,false,by rw[if_neg Dc];omega⟩
  .exact⟨_,hm,hlt,true,by rw[if_pos rfl];omega⟩)
 have e1:sm (λl=>Xi (lA l) (lB l)) ((E i).map qW)= -sm (λl=>Xi (lA l) (lB l)) (E i):=by
  rw[VC,<-OV];refine JC λe _=>?_
  show Xi (lB e) (lA e)= -Xi (lA e) (lB e);unfold Xi;grind
 omega
end
end
section
variable{k:Nat}{rs:List jI}{x:Option Addr×Nat}{xs:jI}
set_option maxRecDepth 100000
set_option maxHeartbeats 4000000
section
variable{w0:Bs}{Rs:List Res}
end
theorem jaq{l:Leg}(h:qK l):(-262144<=l.ax/\l.ax<=262144)/\(-262144<=l.ay/\l.ay<=262144)/\(-262144<=l.bx/\l.bx<=262144)/\(-262144<=l.b_y/\l.b_y<=262144):=h
theorem Rz(h:qM xs=true):∀l∈Jh xs,qK l:=uL (kM h).2.2 _ (jlL _)
theorem OB(h:qM xs=true):(Jh xs).length<=400:=jmC (Bt xs) (kM h).2.1
theorem jjV{E:List Leg}(hok:∀l∈E,qK l)(h:k<E.length):Uo (YR (lg E k)).1/\Uo (YR (lg E k)).2:=by
 obtain⟨⟨l1,l2⟩,⟨l3,l4⟩,⟨l5,l6⟩,l7,l8⟩:=jaq (ky hok h);exact⟨⟨by simp only[YR];omega,by simp only[YR];omega⟩,by simp only[YR];omega,by simp only[YR];omega⟩
theorem xr(A:Option Addr)(n c:Nat)(xs:jI)(B:Option Addr)(m d:Nat)(ys:jI)(w:World)(h:Pts w A n xs)(h2:Pts w B m ys)(hr:qM xs=true)(hr2:qM ys=true):
  Calls Tryz.prog 30 #[XE A n c,XE B m d] w λe w'=>e=.returned (.bool (yG xs ys))/\Over w w':=by
 have hok:=Rz hr;have h4:=OB hr
 have hok2:=Rz hr2;have h42:=OB hr2
 have hn:(n:Int)<=1048577:=by have:=(kM hr).2.1;have:=h.1;omega
 have hm:(m:Int)<=1048577:=by have:=(kM hr2).2.1;have:=h2.1;omega
 refine Jm (m:=42) (Tryz.func30) J J (lb J) ?_;refine S3 ?_;refine aX (λb1=>?_);refine N1 ?_;refine aX (λb2=>?_);refine N6 ?_;refine J4 Ka (v:=λx=>.slice x.1 (Jh xs).length x.2) (r:=λx=>JV 0 72 4 (Jh xs).length ((Jh xs).flatMap jW) x) (H:=λ_=>True) J J J (lb J) (λw1 hs=>q6 (kw A n c xs w1 (h.over hs.fin) hn)) ?_;rintro⟨eA,ec⟩-;refine N7 ?_;refine J4 Ka (v:=λx=>.slice x.1 (Jh ys).length x.2) (r:=λx=>JV 0 72 4 (Jh ys).length ((Jh ys).flatMap jW) x) (H:=λ_=>True) J J J (lb J) (λw1 hs=>q6 (kw B m d ys w1 (h2.over hs.fin) hm)) ?_;rintro⟨fA,fc⟩-;refine N4 ?_;refine qD (X:=Nat) (λk=>k<=(Jh ys).length/\∀j,j<k->offB xs (lg (Jh ys) j)=false) (λk=>(Jh ys).length-k) (λk=>[(14,.int .i64 (k:Int))]) (kK [4,5,12,13]) 0 (⟨jlN _,λq hq=>absurd hq (Nat.not_lt_zero _)⟩) ⟨J,sz⟩ ?_;intro k hk L hL1;refine v9 ?_;obtain⟨hkn,hno⟩:=hk;refine S5 ?_;refine cZ (λc1=>?_) (λc1=>?_)
 .have hlt:k<(Jh ys).length:=Om;obtain⟨m1,m2⟩:=jjV hok2 hlt;obtain⟨⟨l1,l2⟩,⟨l3,l4⟩,⟨l5,l6⟩,l7,l8⟩:=jaq (ky hok2 hlt);refine kW (λw hs=>V4 (k:=3) J hs Om) ?_;rintro⟨fg,rfl⟩;refine S7 ?_;refine a9 (jj J J qF J (Ya (λw1 hs=>vL (k:=3) (x:=(some ⟨fg,0,none⟩,fc)) J J w1 hs) hlt)) ?_;refine S1 ?_;refine aL (λb3=>?_);refine N19 ?_;refine a9 (JD J J (J8 J J)) ?_;refine S1 ?_;refine aL (λb4=>?_);refine N7 ?_;refine a9 (jT Of J J (λw1 hs=>Pd eA _ ec (Jh xs) (YR (lg (Jh ys) k)).1 (YR (lg (Jh ys) k)).2 true w1 (vL (k:=2) J J w1 hs) Om hok m1 m2)) ?_;refine S2 ?_;refine cZ (λc2=>?_) (λc2=>?_)
  .have hof:offB xs (lg (Jh ys) k)=true:=by unfold offB;rw[c2];rfl
   refine S4 ?_;refine a9 (jT yZ J J (λw1 hs=>XJ eA _ ec (Jh xs) (YR (lg (Jh ys) k)).1 (YR (lg (Jh ys) k)).2 true w1 (vL (k:=2) J J w1 hs) Om hok m1 m2)) ?_;refine S9 ?_;refine jK J (.tmp J) ?_;intro w' hs;exact⟨Q4 (jgH hlt hno hof),hs.fin⟩
  .have hof:offB xs (lg (Jh ys) k)=false:=by unfold offB;rw[c2];rfl
   refine S7 ?_;exact J6 hL1 (k+1) (⟨by omega,λq hq=>by by_cases e:q=k;exact e▸hof;exact hno q Om⟩) Om ⟨vi Om,sz⟩ (u9 rfl)
 .refine S10 ?_;refine jK J (.tmp J) ?_;intro w' hs;exact⟨Q4 (jbL λj hj=>hno j Om),hs.fin⟩
abbrev jeI(i:Int):List Value:=[.int .i64 i]
abbrev YM(l:List Int):List Value:=l.flatMap jeI
abbrev Z7(l:List Int)(x:Option Addr×Nat):Res:=JV 0 2 1 l.length (YM l) x
theorem jh4{i j:Nat}(hj:j<=rs.length)(h:0<=Qh rs i j):∃p:Nat,Qh rs i j=(p:Int)/\p<rs.length:=by
 have:=Sm rs i j;exact⟨(Qh rs i j).toNat,by omega,by omega⟩
theorem jk7{i j p:Nat}(hp:Qh rs i j=(p:Int))(h:yG (rg rs p) (rg rs j)=true):yG (rg rs (Qh rs i j).toNat) (rg rs j)=true:=by rw[hp];exact h
theorem jkf{i j p:Nat}(hp:Qh rs i j=(p:Int))(h:yG (rg rs p) (rg rs j)=false):¬(Qh rs i j<0\/yG (rg rs (Qh rs i j).toNat) (rg rs j)=true):=by
 rw[hp];intro k;rcases k with k|k
 .omega
 .rw[show((p:Int)).toNat=p from rfl,h] at k;cases k
theorem rgB(hr:JG rs=true){n:Nat}(hl:rs.length=n)(h:k<n):qM (rg rs k)=true:=kg hr Om
theorem jh3(rs:List jI)(k:Nat):YM (uX rs k)++[.int .i64 (Qh rs k rs.length)]=YM (uX rs (k+1)):=by rw[jcC];simp[YM]
theorem Fy(A:Option Addr)(n c:Nat)(rs:List jI)(w:World)(h:Rings w A n rs)(hr:JG rs=true):
  Calls Tryz.prog 15 #[qU A n c] w λe w'=>∃x:Option Addr×Nat,e=.returned (.slice x.1 n x.2)/\Over w w'/\(JV 0 2 1 n (YM (uX rs n)) x).P w'/\(∀b,(JV 0 2 1 n (YM (uX rs n)) x).F b->w.heap.size<=b)/\(JV 0 2 1 n (YM (uX rs n)) x).B=0/\True:=by
 have hl:=h.1;have hn40:=V0 hr
 refine Jm (m:=54) (Tryz.func15) J J (lb J) ?_;refine S3 ?_;refine aX (λb1=>?_);refine N5 ?_;refine QO (T:=2) (s:=1) ?_;refine N10 ?_;refine JW (X:=Nat×Option Addr×Nat) (λx=>x.1<=n) (λx=>n-x.1) (λx=>[(3,.slice x.2.1 x.1 x.2.2),(12,.int .i64 (x.1:Int))]) (kK [1,2,10,11]) (λx=>[.cel b1 25 [.slice A n c],JV (Bs.N ⟨w,[]⟩) 2 1 x.1 (YM (uX rs x.1)) x.2]) (0,none,0) (jlN _) ⟨J,sz⟩ (λ_ h=>h) ?_;intro⟨i,rA,rc⟩ hx L hL1;refine v9 ?_;refine r9 ?_;have hi:i<=n:=hx
 refine S5 ?_;refine cZ (λc1=>?_) (λc1=>?_)
 .have hlt:i<n:=Om;obtain⟨eb,eo,Ai,ci,rfl,ibB,icell,ipts,imax⟩:=h.at_ hlt;refine S8 ?_;refine a9 (jj J J Jz J (Wv icell ibB)) ?_;refine S1 ?_;refine aL (λb2=>?_);refine N17 ?_;refine qD (X:=Nat) (λj=>j<=n) (λj=>n-j) (λj=>[(6,.int .i64 (Qh rs i j)),(20,.int .i64 (j:Int))]) (kK [1,2,10,11,3,12,13,14,15,16,5,4,17,18,19]) 0 (jlN _) ⟨J,sz⟩ ?_;intro j hj L hL2;refine V5 ?_;refine cZ (λc2=>?_) (λc2=>?_)
  .have hjl:j<n:=Om;obtain⟨fb,fo,Aj,cj,e0,jbB,jcell,jpts,jmax⟩:=h.at_ hjl;injection e0 with e0
   injection e0 with e1 e2 _
   subst e1 e2;refine S8 ?_;refine a9 (jj J J Jz J (Wv jcell jbB)) ?_;refine S1 ?_;refine aL (λb3=>?_);refine N6 ?_;refine JY 21 ?_;refine dK 0 ?_;refine dK 1 ?_;refine dK 2 ?_;refine dK 3 ?_;refine cV 28 (λg1=>?_) (λg1=>?_)
   .have hne:j≠i:=by omega
    refine eK 4 ?_;refine eK 5 ?_;refine eZ 6 J (jT yo J J (λw1 hs=>xr Aj _ cj (rg rs j) Ai _ ci (rg rs i) w1 (jpts.over hs.fin) (ipts.over hs.fin) (rgB hr hl hjl) (rgB hr hl hlt))) ?_;refine dK 7 ?_;refine dK 8 ?_;refine cV 33 (λg2=>?_) (λg2=>?_)
    .refine eK 9 ?_;refine eK 10 ?_;refine eK 11 ?_;refine cV 36 (λg3=>?_) (λg3=>?_)
     .refine fK 12 ?_;refine fK 13 ?_;refine fK 14 ?_;refine fK 15 ?_;refine fK 16 ?_;refine fK 17 ?_;refine fK 18 ?_;refine eK 19 ?_;refine dK 20 ?_;refine JK Kr ?_;refine S12 ?_;exact J6 hL2 (j+1) (Om) Om ⟨vi (by rw[OM hne g2 (.inl g3)]),vi Om,sz⟩ (u9 J)
     .obtain⟨p,hp,hpn⟩:=jh4 (i:=i) (show j<=rs.length by omega) Om;obtain⟨gb,go,Ap,cp,e0,pbB,pcell,ppts,pmax⟩:=h.at_ (show p<n by omega);injection e0 with e0
      injection e0 with e1 e2 _
      subst e1 e2;refine eK 12 ?_;refine eK 13 ?_;refine eZ 14 J ((ja J J).as (congrArg _ hp)) ?_;refine eK 15 ?_;refine eZ 16 J (jj J J Jz J (Wv pcell pbB)) ?_;refine eK 17 ?_;refine eZ 18 J (jT yo J J (λw1 hs=>xr Ap _ cp (rg rs p) Aj _ cj (rg rs j) w1 (ppts.over hs.fin) (jpts.over hs.fin) (rgB hr hl Om) (rgB hr hl hjl))) ?_;refine eK 19 ?_;refine dK 20 ?_;refine JK Kr ?_;refine S1 ?_;refine cZ (λc3=>?_) (λc3=>?_)
      .refine S10 ?_;exact J6 hL2 (j+1) (Om) Om ⟨vi (by rw[OM hne g2 (.inr (jk7 hp c3))]),vi Om,sz⟩ (u9 J)
      .refine S7 ?_;exact J6 hL2 (j+1) (Om) Om ⟨vi (by rw[Dn λk=>jkf hp c3 k.2]),vi Om,sz⟩ (u9 J)
    .refine fK 9 ?_;refine fK 10 ?_;refine fK 11 ?_;refine vu (i:=12) J Kr Kr Kr [] Kr (λ_ _ _ h=>h) J J J J J Dc (u9 J) ?_;refine vu (i:=13) J Kr Kr Kr [] Kr (λ_ _ _ h=>h) J J J J J Dc (u9 J) ?_;refine vu (i:=14) J Kr Kr Kr [] Kr (λ_ _ _ h=>h) J J J J J Dc (u9 J) ?_;refine vu (i:=15) J Kr Kr Kr [] Kr (λ_ _ _ h=>h) J J J J J Dc (u9 J) ?_;refine vu (i:=16) J Kr Kr Kr [] Kr (λ_ _ _ h=>h) J J J J J Dc (u9 J) ?_;refine vu (i:=17) J Kr Kr Kr [] Kr (λ_ _ _ h=>h) J J J J J Dc (u9 J) ?_;refine vu (i:=18) J Kr Kr Kr [] Kr (λ_ _ _ h=>h) J J J J J Dc (u9 J) ?_;refine fK 19 ?_;refine dK 20 ?_;refine JK Kr ?_;refine S9 ?_;exact J6 hL2 (j+1) (Om) Om ⟨vi (by rw[Dn λk=>by have:=k.1.2;rw[g2] at this;cases this]),vi Om,sz⟩ (u9 rfl)
   .have hne:j=i:=by omega
    refine fK 4 ?_;refine fK 5 ?_;refine fK 6 ?_;refine dK 7 ?_;refine dK 8 ?_;refine fK 9 ?_;refine fK 10 ?_;refine fK 11 ?_;refine vu (i:=12) J Kr Kr Kr [] Kr (λ_ _ _ h=>h) J J J J J Dc (u9 J) ?_;refine vu (i:=13) J Kr Kr Kr [] Kr (λ_ _ _ h=>h) J J J J J Dc (u9 J) ?_;refine vu (i:=14) J Kr Kr Kr [] Kr (λ_ _ _ h=>h) J J J J J Dc (u9 J) ?_;refine vu (i:=15) J Kr Kr Kr [] Kr (λ_ _ _ h=>h) J J J J J Dc (u9 J) ?_;refine vu (i:=16) J Kr Kr Kr [] Kr (λ_ _ _ h=>h) J J J J J Dc (u9 J) ?_;refine vu (i:=17) J Kr Kr Kr [] Kr (λ_ _ _ h=>h) J J J J J Dc (u9 J) ?_;refine vu (i:=18) J Kr Kr Kr [] Kr (λ_ _ _ h=>h) J J J J J Dc (u9 J) ?_;refine fK 19 ?_;refine dK 20 ?_;refine JK Kr ?_;refine S9 ?_;exact J6 hL2 (j+1) (Om) Om ⟨vi (by rw[Dn λk=>k.1.1 hne]),vi Om,sz⟩ (u9 J)
  .have hjn:j=rs.length:=Om;subst hjn;refine S9 ?_;refine j5 J J (Ll J) J (lb J) (λb4=>?_);refine N1 ?_;refine JQ (k:=1) J wK Kl Dc J Dc J J J (λw' hs=>qL hs (k:=3) J J) (by simp[Value.oneCell']) (by unfold maxLen;omega) Om (jlL _) (λr1=>?_);refine N8 ?_;exact Jn hL1 ((i+1,r1)) ((show i+1<=n by omega)) (by simp only;omega) ⟨J,vi Om,sz⟩ (λ_ h=>h.upto ⟨J,by rw[<-jh3],trivial⟩)
 .have hin:i=n:=Om;subst hin;refine S11 ?_;refine jK J (.tmp J) ?_;intro w' hs;exact⟨(rA,rc),rfl,hs.fin,wI (hs.all 1 _ rfl).1 (jlN _),λb hb=>((hs.all 1 _ rfl).2.1 b hb).elim id (λh=>by cases h),sz⟩
def zg(rs:List jI):Int:=if JG rs=true then(if P9 rs=true then 0 else 6) else 1
def Fz(rs:List jI):List Int:=if JG rs=true then(if P9 rs=true then uX rs rs.length else []) else []
theorem jgI(h:JG rs=false):zg rs=1/\Fz rs=[]:=by simp[zg,Fz,h]
theorem jbN(h:JG rs=true)(h2:P9 rs=false):zg rs=6/\Fz rs=[]:=by simp[zg,Fz,h,h2]
theorem Re(h:JG rs=true)(h2:P9 rs=true):zg rs=0/\Fz rs=uX rs rs.length:=by simp[zg,Fz,h,h2]
theorem jdu(h:zg rs=0):JG rs=true/\P9 rs=true:=by
 unfold zg at h;split at h
 .split at h
  .exact⟨by assumption,by assumption⟩
  .omega
 .omega
section
variable{w:World}{Rs:List Res}
end
theorem jfJ(h:JG rs=true):(total rs:Int)<=1048576:=jmN (smallR.of h).total Dc
abbrev NgR(rs:List jI)(e:Ending)(w w':World):Prop:=∃x:Option Addr×Nat,e=.returned (.tuple #[.slice x.1 (Fz rs).length x.2,.int .i64 (zg rs)])/\Over w w'/\(Z7 (Fz rs) x).P w'/\(∀b,(Z7 (Fz rs) x).F b->w.heap.size<=b)/\(Z7 (Fz rs) x).B=0/\True
theorem jff{w w':World}{k:Int}(h1:zg rs=k)(h2:Fz rs=[])(ho:Over w w'):NgR rs (.returned (.tuple #[.slice none 0 0,.int .i64 k])) w w':=by
 refine⟨(none,0),by rw[h1,h2];rfl,ho,?_,?_,sz⟩
 .rw[h2];exact Ek _ _ _ _
 .rw[h2];intro b hb;have:=zO.1 hb;simp[Sv] at this
theorem jkZ{w w':World}(h1:zg rs=0)(h2:Fz rs=uX rs rs.length)(ho:Over w w')(hP:(JV 0 2 1 rs.length (YM (uX rs rs.length)) x).P w')(hF:∀b,(JV 0 2 1 rs.length (YM (uX rs rs.length)) x).F b->w.heap.size<=b):NgR rs (.returned (.tuple #[.slice x.1 rs.length x.2,.int .i64 0])) w w':=by
 have e:(Fz rs).length=rs.length:=by rw[h2,Dm]
 exact⟨x,by rw[h1,e],ho,by unfold Z7;rw[e,h2];exact hP,by unfold Z7;rw[e,h2];exact hF,sz⟩
theorem Xr(A:Option Addr)(n c:Nat)(rs:List jI)(w:World)(h:Rings w A n rs)(ht:(total rs:Int)<=1048577):
  Calls Tryz.prog 5 #[qU A n c] w λe w'=>NgR rs e w w':=by
 have hl:=h.1;refine Jm (m:=12) (Tryz.func5) J J (lb J) ?_;refine S3 ?_;refine aX (λb1=>?_);refine N7 ?_;refine a9 (jT K5 J J (λw1 hs=>M1 A n c rs w1 (h.over hs.fin) ht)) ?_;refine S2 ?_;refine cZ (λc1=>?_) (λc1=>?_)
 .refine S7 ?_;refine qG J (.tmp J) (.tmp J) ?_;intro w' hs;obtain⟨e1,e2⟩:=jgI c1;exact jff e1 e2 hs.fin
 .refine S6 ?_;refine a9 (jT Ob J J (λw1 hs=>Tl A n c rs w1 (h.over hs.fin) (jfJ c1))) ?_;refine S2 ?_;refine cZ (λc2=>?_) (λc2=>?_)
  .refine S7 ?_;refine qG J (.tmp J) (.tmp J) ?_;intro w' hs;obtain⟨e1,e2⟩:=jbN c1 c2;exact jff e1 e2 hs.fin
  .obtain⟨e1,e2⟩:=Re c1 c2;subst hl;refine S6 ?_;refine J4 Hn (X:=Option Addr×Nat) (v:=λx=>.slice x.1 rs.length x.2) (r:=λx=>JV 0 2 1 rs.length (YM (uX rs rs.length)) x) (H:=λ_=>True) J J J (lb J) (λw1 hs=>Fy A _ c rs w1 (h.over hs.fin) c1) ?_;rintro⟨gA,gc⟩-;refine N4 ?_;refine qG J (.tmp J) (.tmp J) ?_;intro w' hs;exact jkZ (x:=(gA,gc)) e1 e2 hs.fin (hs.all 1 _ rfl).1 (λb hb=>((hs.all 1 _ rfl).2.1 b hb).elim id (λh=>by cases h))
def nI(l:List Int)(k:Nat):Int:=l.getD k 0
theorem jfa{l:List Int}(h:k<l.length):l[k]? =some (nI l k):=by simp[nI,List.getD,h]
end
end Go.Proofs.YtjbahemkhphndaaGreat
