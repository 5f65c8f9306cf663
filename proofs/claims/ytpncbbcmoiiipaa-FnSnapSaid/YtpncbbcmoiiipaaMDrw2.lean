import Derived.Test.YtpncbbcmoiiipaaMDrw
set_option linter.unusedVariables false
set_option linter.unusedSimpArgs false
namespace Go.Proofs.Ytpncbbcmoiiipaa
open Go Go.RowKit
set_option maxRecDepth 100000
set_option maxHeartbeats 4000000
theorem UK {n m:Nat} {rs:List jx} (h:xa n rs) (hm:n≤m) :xa m rs:=⟨FE h.1 hm,h.2⟩
theorem Ob {b n c K K' m m':Nat} {A:Option Addr} {x:DX m} {w:World} (h: (wK b A n c K x).P w) (hK:K≤K') (hm:m≤m') : (wK b A n c K' (⟨⟨x.1.1,UK x.1.2 hm⟩,x.2⟩ :DX m')).P w:=by
 obtain ⟨h1,h2⟩ :=h
 refine⟨fun r hr=> ?_,?_⟩
 ·simp only [DZ,Fp,or_false] at hr
  rcases hr with rfl | rfl
  ·exact⟨srcR.more (h1 (srcR b A n c K) (by simp)).1 hK,rfl⟩
  ·exact h1 (zO x) (by simp)
 ·refine Fn.2 ⟨fun r hr=> ?_,List.pairwise_singleton _ _⟩
  have e:=DP.1 hr
  subst e
  exact(Fn.1 h2).1 (zO x) (DP.2 rfl)
theorem L7 {b n c K K' m m' q:Nat} {A:Option Addr} {x:DX m} (hm:m≤m') (h: (wK b A n c K' (⟨⟨x.1.1,UK x.1.2 hm⟩,x.2⟩ :DX m')).F q) : (wK b A n c K x).F q:=by
 obtain ⟨r,hr,hq⟩ :=h
 simp only [DZ,Fp,or_false] at hr
 rcases hr with rfl | rfl
 ·exact⟨srcR b A n c K,by simp,hq⟩
 ·exact⟨zO x,by simp,hq⟩
theorem BH {px py pw ph q:Int} (h1:0≤px∧px<9) (h2:0≤py∧py<9) (h3:0≤pw∧pw<8) (h4:0≤ph∧ph<8) (h5:0≤q∧q<4) :
  ∀p∈ [(px,py),(px+ (1+pw),py),(px+ (1+pw) +q,py+ (1+ph)),(px,py+ (1+ph))],Gj 50 p:=fun p hp=>by
 simp only [DZ,Fp,or_false] at hp
 rcases hp with rfl | rfl | rfl | rfl<;>exact⟨⟨by omega,by omega⟩,by omega,by omega⟩
theorem O2 {px py pw ph:Int} (h1:0≤px∧px<9) (h2:0≤py∧py<9) (h3:0≤pw∧pw<8) (h4:0≤ph∧ph<8) :
  ∀p∈ [(px,py),(px+ (1+pw),py),(px+ (1+pw),py+ (1+ph)),(px,py+ (1+ph))],Gj 50 p:=fun p hp=>by
 simp only [DZ,Fp,or_false] at hp
 rcases hp with rfl | rfl | rfl | rfl<;>exact⟨⟨by omega,by omega⟩,by omega,by omega⟩
section
variable {b n c K:Nat} {A:Option Addr} {zs:List Int} {w:World}
theorem Za (hB:Byts w A n zs) (hne:0<n→∀p,A=some p→p.block≠b) (hP: (srcR b A n c K).P w) (hn:n≤1048576) (hK:K≤500) :
  Calls Try.prog 12 #[.pointer (some ⟨b,0,none⟩)] w fun e w'=>∃x:DX 3,e= .returned (kP x.2.1.1 x.1.1.length x.2.1.2)∧Wrs (srcR b A n c K).F w w'∧(wK b A n c (K+300) x).P w'∧(∀q,(wK b A n c (K+300) x).F q→(srcR b A n c K).F q∨w.heap.size≤q)∧(wK b A n c (K+300) x).B=0:=by
 have hlt:= (srcR b A n c K).low w hP b rfl
 refine kI (m:=98) ([b]) (srcR b A n c K) (hP) (fun q hq=>DP.2 hq) J (Try.func12) J J (lb J) ?_;refine S3 ?_;refine aL (fun b1=> ?_);refine N6 ?_;refine JT (k:=0) (X:=Bool) (v:=fun x=> .bool x) (r':=fun _=>srcR b A n c (K+1)) Kq J J J Dc J (fun w1 hs=>XF (zs:=zs) 3 Dc Dc (hB.ovx hs.over hne) hne (hs.all 0 _ J).1 hn Om) ?_
 rintro ob
 refine N1 ?_;refine cZ (fun c1=> ?_) (fun c1=> ?_)
 ·refine S4 ?_;refine JT (k:=0) (X:=DX 2) (v:=fun x=>kP x.2.1.1 x.1.1.length x.2.1.2) (r':=fun x=>wK b A n c (K+1+200) x) uW J J J Dc J (fun w1 hs=>z8 (zs:=zs) (hB.ovx hs.over hne) hne (hs.all 0 _ J).1 hn Om) ?_
  rintro x0
  refine N5 ?_;refine jG J (qO (k:=1) J jL J J) ?_
  intro w' hs
  exact⟨⟨⟨x0.1.1,UK x0.1.2 Dc⟩,x0.2⟩,rfl,vt hs,Ob (hs.all 0 _ rfl).1 Om Dc,fun q hq=> ((hs.all 0 _ rfl).2.1 q (L7 Dc hq)).elim (fun h=> .inr h) (fun h=> .inl (DP.1 h)),rfl⟩
 ·refine S4 ?_;refine a9 (JU J J (kb)) ?_;refine S1 ?_;refine aL (fun b2=> ?_);refine N8 ?_;refine JT (k:=0) (X:= {v:Int//0≤v∧v<3}) (v:=fun x=> .int .i64 x.1) (r':=fun _=>srcR b A n c (K+2)) Js J J J Dc J (fun w1 hs=>QF (zs:=zs) 3 Dc Dc (hB.ovx hs.over hne) hne (hs.all 0 _ J).1 hn Om) ?_
  rintro⟨v1,hv1⟩
  refine n9 ?_
  try dsimp only
  refine S3 ?_;refine Ki (T:=38) (s:=1) ?_;refine t9 ?_;refine Wf ?_;refine t9 ?_;refine S1 ?_;refine JR (X:=Nat×(Option Addr×Nat)×List Pc) (fun x=>x.2.2.length+x.1≤3∧pcOk x.2.2) (fun x=>x.1) (fun x=> [(4, .int .i64 (x.1:Int))]) (kK [0,2,3]) (fun x=> [srcR b A n c (K+2+60*x.2.2.length), .cel b1 25 [.slice none 0 0], .cel b2 25 [.slice x.2.1.1 x.2.2.length x.2.1.2],qx (Bs.N ⟨w,[b]⟩) 38 1 x.2.2.length (x.2.2.map Pc.val) x.2.1,vL x.2.2]) ((1+v1).toNat,(none,0),[]) (⟨by simp only [D8];omega,fun e he=>by cases he⟩) ⟨vi Om,sz⟩ (fun _ h=>h) ?_
  intro⟨j,⟨rA,rc⟩,l⟩ hx L hL1
  refine v9 ?_;refine r9 ?_
  obtain ⟨hj,hpc⟩ :l.length+j≤3∧pcOk l:=hx
  obtain ⟨KL,hL⟩ :∃KL,KL=K+2+60*l.length:=⟨_,rfl⟩
  rw [←hL]
  refine S6 ?_;refine cZ (fun c2=> ?_) (fun c2=> ?_)
  ·refine S8 ?_;refine JT (k:=0) (X:= {v:Int//0≤v∧v<9}) (v:=fun x=> .int .i64 x.1) (r':=fun _=>srcR b A n c (KL+1)) Js J J J Dc J (fun w1 hs=>QF (zs:=zs) 9 Dc Dc (hB.ovx hs.over hne) hne (hs.all 0 _ J).1 hn Om) ?_
   rintro⟨px,hpx⟩
   refine n9 ?_
   try dsimp only
   refine S6 ?_;refine JT (k:=0) (X:= {v:Int//0≤v∧v<9}) (v:=fun x=> .int .i64 x.1) (r':=fun _=>srcR b A n c (KL+2)) Js J J J Dc J (fun w1 hs=>QF (zs:=zs) 9 Dc Dc (hB.ovx hs.over hne) hne (hs.all 0 _ J).1 hn Om) ?_
   rintro⟨py,hpy⟩
   refine n9 ?_
   try dsimp only
   refine S6 ?_;refine JT (k:=0) (X:= {v:Int//0≤v∧v<8}) (v:=fun x=> .int .i64 x.1) (r':=fun _=>srcR b A n c (KL+3)) Js J J J Dc J (fun w1 hs=>QF (zs:=zs) 8 Dc Dc (hB.ovx hs.over hne) hne (hs.all 0 _ J).1 hn Om) ?_
   rintro⟨pw,hpw⟩
   refine n9 ?_
   try dsimp only
   refine S7 ?_;refine JT (k:=0) (X:= {v:Int//0≤v∧v<8}) (v:=fun x=> .int .i64 x.1) (r':=fun _=>srcR b A n c (KL+4)) Js J J J Dc J (fun w1 hs=>QF (zs:=zs) 8 Dc Dc (hB.ovx hs.over hne) hne (hs.all 0 _ J).1 hn Om) ?_
   rintro⟨ph,hph⟩
   refine n9 ?_
   try dsimp only
   refine S7 ?_;refine a9 (JU J J (Qm J J)) ?_;refine S4 ?_;refine a9 (JU J J (Qm J J)) ?_;refine S6 ?_;refine a9 (JU J J (Qm J J)) ?_;refine S4 ?_;refine a9 (JU J J (Qm J J)) ?_;refine S1 ?_;refine JY J J (ko J J J J) J (lb J) (fun b3=> ?_);refine n9 ?_;refine a9 (JU J J (Kv J)) ?_;refine S1 ?_;refine aL (fun b4=> ?_);refine N3 ?_;refine Xi (X:=Pc) (fun x=>x.xs.length=4∧∀p∈x.xs,Gj 50 p) (fun x=> []) (kK [0,2,3,4,18,19,22,23,5,24,25,6,26,27,28,7,29,30,31,8,32,33,34,35,36,37,38,39,40,41,42,43,44,45,46,47,48,49,50,51,52,53,9]) (fun x=> [srcR b A n c (KL+6), .cel b1 25 [.slice none 0 0], .cel b2 25 [.slice rA l.length rc],qx (Bs.N ⟨w,[b]⟩) 38 1 l.length (l.map Pc.val) (rA,rc),vL l,x.res, .cel b4 38 [x.val]]) (fun L h_2=> ?_) ?_
   ·refine S4 ?_;refine JT (k:=0) (X:= {v:Int//0≤v∧v<4}) (v:=fun x=> .int .i64 x.1) (r':=fun _=>srcR b A n c (KL+5)) Js J J J Dc J (fun w1 hs=>QF (zs:=zs) 4 Dc Dc (hB.ovx hs.over hne) hne (hs.all 0 _ J).1 hn Om) ?_
    rintro⟨pk,hpk⟩
    refine n9 ?_
    try dsimp only
    refine S7 ?_;refine cZ (fun c3=> ?_) (fun c3=> ?_)
    ·refine S1 ?_;refine Qn 14 [0,5] ?_;refine d9 0 J [] (uw [0,5] J) (jg J J JA) ?_;refine d9 1 J [] (uw [0,5] J) (jo J J JN (qr (k:=6) J J)) ?_;refine d9 2 J [] (uw [0,5] J) q9 ?_;refine d9 3 J [] (uw [0,5] J) q9 ?_;refine d9 4 J [] (uw [0,5] J) p9 ?_;refine d9 5 J [] (uw [0,5] J) q9 ?_;refine d9 8 J [] (uw [0,5] J) q9 ?_;refine d9 9 J [] (uw [0,5] J) q9 ?_;refine d9 10 J [] (uw [0,5] J) p9 ?_;refine Qs (i:=6) J Dc Kr J ?_;refine JT (k:=0) (X:= {v:Int//0≤v∧v<4}) (v:=fun x=> .int .i64 x.1) (r':=fun _=>srcR b A n c (KL+6)) Js J J J Dc J (fun w1 hs=>QF (zs:=zs) 4 Dc Dc (hB.ovx hs.over hne) hne (hs.all 0 _ J).1 hn Om) ?_
     rintro⟨pq,hpq⟩
     refine n9 ?_
     try dsimp only
     refine qo (uw [0,5] J) ?_;refine d9 7 J [] (uw [0,5] J) p9 ?_;refine d9 11 J [] (uw [0,5] J) (JU J J (Qm J J)) ?_;refine d9 12 J [] (uw [0,5] J) (jS (j:=2) J J J js Om) ?_;refine Qs (i:=13) J Dc Kr J ?_;refine U3 (k:=5) J J J J (J) (by rfl) jJ.szx J ?_;refine t9 ?_;refine qo (uw [0,5] J) ?_;refine JI Kr ?_;refine ZZ 5 4 [(px,py),(px+ (1+pw),py),(px+ (1+pw) +pq,py+ (1+ph)),(px,py+ (1+ph))] J ?_;refine t9 ?_;refine S2 ?_
     exact Vy h_2 (⟨[(px,py),(px+ (1+pw),py),(px+ (1+pw) +pq,py+ (1+ph)),(px,py+ (1+ph))],some ⟨b3,0,none⟩,4,b3,b3+1⟩) (⟨J,BH hpx hpy hpw hph hpq⟩) ⟨J,sz⟩ (fun _ h=> (h.picks [0,1,2,3,4,5,6] Dc).upto ⟨J,sz⟩)
    ·refine S5 ?_;refine cZ (fun c4=> ?_) (fun c4=> ?_)
     ·refine S1 ?_;refine qb 18 ?_;refine dK 0 ?_;refine dK 1 ?_;refine dZ 2 J (jS (j:=3) J J J js Om) ?_;refine dK 3 ?_;refine dK 4 ?_;refine dK 5 ?_;refine dZ 6 J (jS (j:=2) J J J js Om) ?_;refine dK 7 ?_;refine dK 8 ?_;refine dK 9 ?_;refine dZ 10 J (jS (j:=1) J J J js Om) ?_;refine dK 11 ?_;refine dK 12 ?_;refine dK 13 ?_;refine dZ 14 J (jS (j:=0) J J J js Om) ?_;refine dK 15 ?_;refine Qs (i:=16) J Dc Kr J ?_;refine JY J J (ko J J J J) J (lb J) (fun b5=> ?_);refine n9 ?_;refine qo (u9 J) ?_;refine dK 17 ?_;refine wJ J Kr J ?_;refine S1 ?_;refine UJ Kr ?_;refine Ub 0 (K2:=KL+6) J Om ?_;refine t9 ?_;refine ZZ 7 4 [(px,py+ (1+ph)),(px+ (1+pw),py+ (1+ph)),(px+ (1+pw),py),(px,py)] J ?_;refine t9 ?_;refine S2 ?_
      exact Vy h_2 (⟨[(px,py+ (1+ph)),(px+ (1+pw),py+ (1+ph)),(px+ (1+pw),py),(px,py)],some ⟨b5,0,none⟩,4,b5,b5+1⟩) (⟨J,fun p hp=>O2 hpx hpy hpw hph p (by simpa [or_comm,or_left_comm,or_assoc] using hp)⟩) ⟨J,sz⟩ (fun _ h=> (h.picks [0,1,2,3,4,7,6] Dc).upto ⟨J,sz⟩)
     ·refine Ub 0 (K2:=KL+6) J Om ?_;refine t9 ?_;refine ZZ 5 4 [(px,py),(px+ (1+pw),py),(px+ (1+pw),py+ (1+ph)),(px,py+ (1+ph))] J ?_;refine t9 ?_;refine S3 ?_
      exact Vy h_2 (⟨[(px,py),(px+ (1+pw),py),(px+ (1+pw),py+ (1+ph)),(px,py+ (1+ph))],some ⟨b3,0,none⟩,4,b3,b3+1⟩) (⟨J,O2 hpx hpy hpw hph⟩) ⟨J,sz⟩ (fun _ h=> (h.picks [0,1,2,3,4,5,6] Dc).upto ⟨J,sz⟩)
   ·rintro⟨xs,pA,pc,plo,phi⟩ hxp
    refine v9 ?_;refine r9 ?_
    obtain ⟨hx4,hbd⟩ :xs.length=4∧∀p∈xs,Gj 50 p:=hxp
    refine S5 ?_;refine JY J J (Qo J) J (lb J) (fun b6=> ?_);refine N1 ?_;refine Qe (k:=3) J Jl JD Dc J Dc J J J (fun w' hs=>Kl hs (k:=7) J J) (by simp [Value.oneCell',Pc.val]) (by unfold maxLen;omega) Om (DM _) (fun r1=> ?_);refine N4 ?_;refine Ub 0 (K2:=K+2+60* (l.length+1)) J Om ?_;refine t9 ?_;refine Uc 4 5 J J Dc J ?_;refine t9 ?_;refine S7 ?_
    exact Jo hL1 ((j- 1,r1,l++ [⟨xs,pA,pc,plo,phi⟩])) (⟨by simp only [DK,DT,D8];omega,hpc.push ⟨⟨by show 0<xs.length;omega,by show xs.length≤6;omega⟩,hbd⟩⟩) (by simp only;omega) ⟨vi Om,sz⟩ (fun _ h=>h.upto ⟨by rw [DK];rfl,J,by rw [DK];rfl,by rw [DK,FC];rfl,(wc _ _).symm,trivial⟩)
  ·refine Di ?_;refine jG J (qO (k:=1) J jL J J) ?_
   intro w' hs
   exact⟨(⟨l.map (·.xs),hpc.drw Om⟩,(rA,rc),w.heap.size,w'.heap.size),by simp only [Fc],vt hs,O7 (srcR.more (hs.all 0 _ rfl).1 Om) hlt (by simp only [Fc];exact Zq hs (ks:=0) (kr:=3) (kp:=4) rfl rfl rfl rfl Dc Dc Dc rfl (fun e he=>by have:= (hpc e he).1.2;omega)) rfl rfl⟩
theorem YE (hB:Byts w A n zs) (hn:n≤1048576) :
  Calls Try.prog 4 #[.slice A n c] w fun e w'=>∃x:DX 3×BZ,e= .returned (.tuple #[kP x.1.2.1.1 x.1.1.1.length x.1.2.1.2,pV x.2.1])∧Over w w'∧(zO x.1).P w'∧(∀q,(zO x.1).F q→w.heap.size≤q)∧(zO x.1).B=0∧True:=by
 refine Jh (m:=21) (Try.func4) J J (lb J) ?_;refine S3 ?_;refine aL (fun b1=> ?_);refine N1 ?_;refine aL (fun b2=> ?_);refine N5 ?_;refine QQ uT (v:=fun g:Nat=> .pointer (some ⟨g,0,none⟩)) (r:=fun g=>srcR g A n c 0) (H:=fun _=>True) J J J (lb J) (fun w1 hs=>z7 A n c w1) ?_
 rintro g-
 refine N2 ?_;refine Kh (fun w1 hs=> ((hs.all 2 _ rfl).2.1 g rfl).elim id (fun h=>by cases h)) ?_
 intro hg
 have hne:=BI hB (g:=g) hg
 refine S4 ?_;refine JT (k:=2) (X:=DX 3) (v:=fun x=>kP x.2.1.1 x.1.1.length x.2.1.2) (r':=fun x=>wK g A n c (0+300) x) uX J J J Dc J (fun w1 hs=>Za (zs:=zs) (hB.over hs.fin) hne (hs.all 2 _ J).1 hn Dc) ?_
 rintro x0
 refine n9 ?_;refine M5 2 J ?_;refine t9 ?_;refine S1 ?_;refine aL (fun b3=> ?_);refine N7 ?_;refine JT (k:=2) (X:= {v:Int//0≤v∧v<20}) (v:=fun x=> .int .i64 x.1) (r':=fun _=>srcR g A n c 301) Js J J J Dc J (fun w1 hs=>QF (zs:=zs) 20 Dc Dc (hB.over hs.fin) hne (hs.all 2 _ J).1 hn Dc) ?_
 rintro⟨v1,hv1⟩
 refine n9 ?_
 try dsimp only
 refine S1 ?_;refine a9 (JU J J (yB J)) ?_;refine S1 ?_;refine aL (fun b4=> ?_);refine N7 ?_;refine JT (k:=2) (X:= {v:Int//0≤v∧v<20}) (v:=fun x=> .int .i64 x.1) (r':=fun _=>srcR g A n c 302) Js J J J Dc J (fun w1 hs=>QF (zs:=zs) 20 Dc Dc (hB.over hs.fin) hne (hs.all 2 _ J).1 hn Dc) ?_
 rintro⟨v2,hv2⟩
 refine n9 ?_
 try dsimp only
 refine S3 ?_;refine U0 (k:=5) J J J J (J) (by rfl) G2.szx J ?_;refine N3 ?_;refine Qn 4 [0,1] ?_;refine d9 0 J [] (uw [0,1] J) (jj J J jL J (jO (k:=4) J)) ?_;refine d9 1 J [] (uw [0,1] J) (jj J J jh J (jO (k:=5) J)) ?_;refine Qs (i:=2) J Dc Kr J ?_;refine S1 ?_;refine qo (uw [0,1] J) ?_;refine Qs (i:=3) J Dc Kr J ?_;refine S1 ?_;refine qo (uw [0,1] J) ?_;refine JI Kr ?_;refine S2 ?_;refine qS J (qO (k:=0) J jL J J) (qO (k:=1) J jh J J) ?_
 intro w' hs
 exact⟨(x0,⟨(v1- 2,v2- 2),⟨by show-50≤v1- 2;omega,by show v1- 2≤50;omega⟩,by show-50≤v2- 2;omega,by show v2- 2≤50;omega⟩),rfl,hs.fin,(hs.all 3 _ rfl).1,fun q hq=> ((hs.all 3 _ rfl).2.1 q hq).elim id (fun h=>by cases h),sz⟩
end
end Go.Proofs.Ytpncbbcmoiiipaa
