import Derived.Test.YtpncbbcmoiiipaaGreatMTidy
set_option linter.unusedVariables false
set_option linter.unusedSimpArgs false
namespace Go.Proofs.YtpncbbcmoiiipaaGreat
open Go Go.RowKit
set_option maxRecDepth 100000
set_option maxHeartbeats 4000000
theorem MT {n m:Nat} {rs:List jV} (h:FK n rs) (hm:n≤m) :FK m rs:=⟨jjb h.1 hm,h.2⟩
theorem jgp {b n c K K' m m':Nat} {A:Option Addr} {x:DX m} {w:World} (h: (xq b A n c K x).P w) (hK:K≤K') (hm:m≤m') : (xq b A n c K' (⟨⟨x.1.1,MT x.1.2 hm⟩,x.2⟩ :DX m')).P w:=by
 obtain ⟨h1,h2⟩ :=h
 refine⟨fun r hr=> ?_,?_⟩
 ·simp only [jir,ji3,or_false] at hr
  rcases hr with rfl | rfl
  ·exact⟨srcR.more (h1 (srcR b A n c K) (by simp)).1 hK,rfl⟩
  ·exact h1 (RR x) (by simp)
 ·refine jiR.2 ⟨fun r hr=> ?_,jjD _ _⟩
  have e:=jik.1 hr
  subst e
  exact(jiR.1 h2).1 (RR x) (jik.2 rfl)
theorem jep {b n c K K' m m' q:Nat} {A:Option Addr} {x:DX m} (hm:m≤m') (h: (xq b A n c K' (⟨⟨x.1.1,MT x.1.2 hm⟩,x.2⟩ :DX m')).F q) : (xq b A n c K x).F q:=by
 obtain ⟨r,hr,hq⟩ :=h
 simp only [jir,ji3,or_false] at hr
 rcases hr with rfl | rfl
 ·exact⟨srcR b A n c K,by simp,hq⟩
 ·exact⟨RR x,by simp,hq⟩
theorem jhW {px py pw ph q:Int} (h1:0≤px∧px<9) (h2:0≤py∧py<9) (h3:0≤pw∧pw<8) (h4:0≤ph∧ph<8) (h5:0≤q∧q<4) :
  ∀p∈ [(px,py),(px+ (1+pw),py),(px+ (1+pw) +q,py+ (1+ph)),(px,py+ (1+ph))],Ek 50 p:=fun p hp=>by
 simp only [jir,ji3,or_false] at hp
 rcases hp with rfl | rfl | rfl | rfl<;>exact⟨⟨by omega,by omega⟩,by omega,by omega⟩
theorem jhm {px py pw ph:Int} (h1:0≤px∧px<9) (h2:0≤py∧py<9) (h3:0≤pw∧pw<8) (h4:0≤ph∧ph<8) :
  ∀p∈ [(px,py),(px+ (1+pw),py),(px+ (1+pw),py+ (1+ph)),(px,py+ (1+ph))],Ek 50 p:=fun p hp=>by
 simp only [jir,ji3,or_false] at hp
 rcases hp with rfl | rfl | rfl | rfl<;>exact⟨⟨by omega,by omega⟩,by omega,by omega⟩
section
variable {b n c K:Nat} {A:Option Addr} {zs:List Int} {w:World}
theorem Sq (hB:Byts w A n zs) (hne:0<n→∀p,A=some p→p.block≠b) (hP: (srcR b A n c K).P w) (hn:n≤1048576) (hK:K≤500) :
  Calls Tryz.prog 89 #[.pointer (some ⟨b,0,none⟩)] w fun e w'=>∃x:DX 3,e= .returned (qT x.2.1.1 x.1.1.length x.2.1.2)∧Wrs (srcR b A n c K).F w w'∧(xq b A n c (K+300) x).P w'∧(∀q,(xq b A n c (K+300) x).F q→(srcR b A n c K).F q∨w.heap.size≤q)∧(xq b A n c (K+300) x).B=0:=by
 have hlt:= (srcR b A n c K).low w hP b rfl
 refine Vp (m:=98) ([b]) (srcR b A n c K) (hP) (fun q hq=>jik.2 hq) J (Tryz.func89) J J (lb J) ?_;refine S3 ?_;refine aL (fun b1=> ?_);refine N6 ?_;refine qO (k:=0) (X:=Bool) (v:=fun x=> .bool x) (r':=fun _=>srcR b A n c (K+1)) uH J J J Dc J (fun w1 hs=>Ci (zs:=zs) 3 Dc Dc (hB.ovx hs.over hne) hne (hs.all 0 _ J).1 hn Om) ?_
 rintro ob
 refine N1 ?_;refine cZ (fun c1=> ?_) (fun c1=> ?_)
 ·refine S4 ?_;refine qO (k:=0) (X:=DX 2) (v:=fun x=>qT x.2.1.1 x.1.1.length x.2.1.2) (r':=fun x=>xq b A n c (K+1+200) x) LW J J J Dc J (fun w1 hs=>Sj (zs:=zs) (hB.ovx hs.over hne) hne (hs.all 0 _ J).1 hn Om) ?_
  rintro x0
  refine N5 ?_;refine jM J (qh (k:=1) J jG J J) ?_
  intro w' hs
  exact⟨⟨⟨x0.1.1,MT x0.1.2 Dc⟩,x0.2⟩,rfl,yy hs,jgp (hs.all 0 _ rfl).1 Om Dc,fun q hq=> ((hs.all 0 _ rfl).2.1 q (jep Dc hq)).elim (fun h=> .inr h) (fun h=> .inl (jik.1 h)),rfl⟩
 ·refine S4 ?_;refine a9 (JU J J (qg)) ?_;refine S1 ?_;refine aL (fun b2=> ?_);refine N8 ?_;refine qO (k:=0) (X:= {v:Int//0≤v∧v<3}) (v:=fun x=> .int .i64 x.1) (r':=fun _=>srcR b A n c (K+2)) qk J J J Dc J (fun w1 hs=>vU (zs:=zs) 3 Dc Dc (hB.ovx hs.over hne) hne (hs.all 0 _ J).1 hn Om) ?_
  rintro⟨v1,hv1⟩
  refine n9 ?_
  try dsimp only
  refine S3 ?_;refine Q7 (T:=77) (s:=1) ?_;refine t9 ?_;refine Vq ?_;refine t9 ?_;refine S1 ?_;refine JQ (X:=Nat×(Option Addr×Nat)×List Pc) (fun x=>x.2.2.length+x.1≤3∧pcOk x.2.2) (fun x=>x.1) (fun x=> [(4, .int .i64 (x.1:Int))]) (kK [0,2,3]) (fun x=> [srcR b A n c (K+2+60*x.2.2.length), .cel b1 26 [.slice none 0 0], .cel b2 26 [.slice x.2.1.1 x.2.2.length x.2.1.2],JY (Bs.N ⟨w,[b]⟩) 77 1 x.2.2.length (x.2.2.map Pc.val) x.2.1,vE x.2.2]) ((1+v1).toNat,(none,0),[]) (⟨by simp only [jiH];omega,fun e he=>by cases he⟩) ⟨vi Om,sz⟩ (fun _ h=>h) ?_
  intro⟨j,⟨rA,rc⟩,l⟩ hx L hL1
  refine v9 ?_;refine r9 ?_
  obtain ⟨hj,hpc⟩ :l.length+j≤3∧pcOk l:=hx
  obtain ⟨KL,hL⟩ :∃KL,KL=K+2+60*l.length:=⟨_,rfl⟩
  rw [←hL]
  refine S6 ?_;refine cZ (fun c2=> ?_) (fun c2=> ?_)
  ·refine S8 ?_;refine qO (k:=0) (X:= {v:Int//0≤v∧v<9}) (v:=fun x=> .int .i64 x.1) (r':=fun _=>srcR b A n c (KL+1)) qk J J J Dc J (fun w1 hs=>vU (zs:=zs) 9 Dc Dc (hB.ovx hs.over hne) hne (hs.all 0 _ J).1 hn Om) ?_
   rintro⟨px,hpx⟩
   refine n9 ?_
   try dsimp only
   refine S6 ?_;refine qO (k:=0) (X:= {v:Int//0≤v∧v<9}) (v:=fun x=> .int .i64 x.1) (r':=fun _=>srcR b A n c (KL+2)) qk J J J Dc J (fun w1 hs=>vU (zs:=zs) 9 Dc Dc (hB.ovx hs.over hne) hne (hs.all 0 _ J).1 hn Om) ?_
   rintro⟨py,hpy⟩
   refine n9 ?_
   try dsimp only
   refine S6 ?_;refine qO (k:=0) (X:= {v:Int//0≤v∧v<8}) (v:=fun x=> .int .i64 x.1) (r':=fun _=>srcR b A n c (KL+3)) qk J J J Dc J (fun w1 hs=>vU (zs:=zs) 8 Dc Dc (hB.ovx hs.over hne) hne (hs.all 0 _ J).1 hn Om) ?_
   rintro⟨pw,hpw⟩
   refine n9 ?_
   try dsimp only
   refine S7 ?_;refine qO (k:=0) (X:= {v:Int//0≤v∧v<8}) (v:=fun x=> .int .i64 x.1) (r':=fun _=>srcR b A n c (KL+4)) qk J J J Dc J (fun w1 hs=>vU (zs:=zs) 8 Dc Dc (hB.ovx hs.over hne) hne (hs.all 0 _ J).1 hn Om) ?_
   rintro⟨ph,hph⟩
   refine n9 ?_
   try dsimp only
   refine S7 ?_;refine a9 (JU J J (q8 J J)) ?_;refine S4 ?_;refine a9 (JU J J (q8 J J)) ?_;refine S6 ?_;refine a9 (JU J J (q8 J J)) ?_;refine S4 ?_;refine a9 (JU J J (q8 J J)) ?_;refine S1 ?_;refine Jx J J (vy J J J J) J (lb J) (fun b3=> ?_);refine n9 ?_;refine a9 (JU J J (Vs J)) ?_;refine S1 ?_;refine aL (fun b4=> ?_);refine N3 ?_;refine Ul (X:=Pc) (fun x=>x.xs.length=4∧∀p∈x.xs,Ek 50 p) (fun x=> []) (kK [0,2,3,4,18,19,22,23,5,24,25,6,26,27,28,7,29,30,31,8,32,33,34,35,36,37,38,39,40,41,42,43,44,45,46,47,48,49,50,51,52,53,9]) (fun x=> [srcR b A n c (KL+6), .cel b1 26 [.slice none 0 0], .cel b2 26 [.slice rA l.length rc],JY (Bs.N ⟨w,[b]⟩) 77 1 l.length (l.map Pc.val) (rA,rc),vE l,x.res, .cel b4 77 [x.val]]) (fun L h_2=> ?_) ?_
   ·refine S4 ?_;refine qO (k:=0) (X:= {v:Int//0≤v∧v<4}) (v:=fun x=> .int .i64 x.1) (r':=fun _=>srcR b A n c (KL+5)) qk J J J Dc J (fun w1 hs=>vU (zs:=zs) 4 Dc Dc (hB.ovx hs.over hne) hne (hs.all 0 _ J).1 hn Om) ?_
    rintro⟨pk,hpk⟩
    refine n9 ?_
    try dsimp only
    refine S7 ?_;refine cZ (fun c3=> ?_) (fun c3=> ?_)
    ·refine S1 ?_;refine Qx 14 [0,5] ?_;refine d9 0 J [] (uw [0,5] J) (jf J J Jz) ?_;refine d9 1 J [] (uw [0,5] J) (jn J J JG (qo (k:=6) J J)) ?_;refine d9 2 J [] (uw [0,5] J) q9 ?_;refine d9 3 J [] (uw [0,5] J) q9 ?_;refine d9 4 J [] (uw [0,5] J) p9 ?_;refine d9 5 J [] (uw [0,5] J) q9 ?_;refine d9 8 J [] (uw [0,5] J) q9 ?_;refine d9 9 J [] (uw [0,5] J) q9 ?_;refine d9 10 J [] (uw [0,5] J) p9 ?_;refine qe (i:=6) J Dc Kr J ?_;refine qO (k:=0) (X:= {v:Int//0≤v∧v<4}) (v:=fun x=> .int .i64 x.1) (r':=fun _=>srcR b A n c (KL+6)) qk J J J Dc J (fun w1 hs=>vU (zs:=zs) 4 Dc Dc (hB.ovx hs.over hne) hne (hs.all 0 _ J).1 hn Om) ?_
     rintro⟨pq,hpq⟩
     refine n9 ?_
     try dsimp only
     refine JO (uw [0,5] J) ?_;refine d9 7 J [] (uw [0,5] J) p9 ?_;refine d9 11 J [] (uw [0,5] J) (JU J J (q8 J J)) ?_;refine d9 12 J [] (uw [0,5] J) (jN (j:=2) J J J jw Om) ?_;refine qe (i:=13) J Dc Kr J ?_;refine OH (k:=5) J J J J (J) (by rfl) jH.szx J ?_;refine t9 ?_;refine JO (uw [0,5] J) ?_;refine JK Kr ?_;refine TL 5 4 [(px,py),(px+ (1+pw),py),(px+ (1+pw) +pq,py+ (1+ph)),(px,py+ (1+ph))] J ?_;refine t9 ?_;refine S2 ?_
     exact kg h_2 (⟨[(px,py),(px+ (1+pw),py),(px+ (1+pw) +pq,py+ (1+ph)),(px,py+ (1+ph))],some ⟨b3,0,none⟩,4,b3,b3+1⟩) (⟨J,jhW hpx hpy hpw hph hpq⟩) ⟨J,sz⟩ (fun _ h=> (h.picks [0,1,2,3,4,5,6] Dc).upto ⟨J,sz⟩)
    ·refine S5 ?_;refine cZ (fun c4=> ?_) (fun c4=> ?_)
     ·refine S1 ?_;refine JS 18 ?_;refine dK 0 ?_;refine dK 1 ?_;refine dZ 2 J (jN (j:=3) J J J jw Om) ?_;refine dK 3 ?_;refine dK 4 ?_;refine dK 5 ?_;refine dZ 6 J (jN (j:=2) J J J jw Om) ?_;refine dK 7 ?_;refine dK 8 ?_;refine dK 9 ?_;refine dZ 10 J (jN (j:=1) J J J jw Om) ?_;refine dK 11 ?_;refine dK 12 ?_;refine dK 13 ?_;refine dZ 14 J (jN (j:=0) J J J jw Om) ?_;refine dK 15 ?_;refine qe (i:=16) J Dc Kr J ?_;refine Jx J J (vy J J J J) J (lb J) (fun b5=> ?_);refine n9 ?_;refine JO (u9 J) ?_;refine dK 17 ?_;refine vg J Kr J ?_;refine S1 ?_;refine yn Kr ?_;refine L8 0 (K2:=KL+6) J Om ?_;refine t9 ?_;refine TL 7 4 [(px,py+ (1+ph)),(px+ (1+pw),py+ (1+ph)),(px+ (1+pw),py),(px,py)] J ?_;refine t9 ?_;refine S2 ?_
      exact kg h_2 (⟨[(px,py+ (1+ph)),(px+ (1+pw),py+ (1+ph)),(px+ (1+pw),py),(px,py)],some ⟨b5,0,none⟩,4,b5,b5+1⟩) (⟨J,fun p hp=>jhm hpx hpy hpw hph p (by simpa [or_comm,or_left_comm,or_assoc] using hp)⟩) ⟨J,sz⟩ (fun _ h=> (h.picks [0,1,2,3,4,7,6] Dc).upto ⟨J,sz⟩)
     ·refine L8 0 (K2:=KL+6) J Om ?_;refine t9 ?_;refine TL 5 4 [(px,py),(px+ (1+pw),py),(px+ (1+pw),py+ (1+ph)),(px,py+ (1+ph))] J ?_;refine t9 ?_;refine S3 ?_
      exact kg h_2 (⟨[(px,py),(px+ (1+pw),py),(px+ (1+pw),py+ (1+ph)),(px,py+ (1+ph))],some ⟨b3,0,none⟩,4,b3,b3+1⟩) (⟨J,jhm hpx hpy hpw hph⟩) ⟨J,sz⟩ (fun _ h=> (h.picks [0,1,2,3,4,5,6] Dc).upto ⟨J,sz⟩)
   ·rintro⟨xs,pA,pc,plo,phi⟩ hxp
    refine v9 ?_;refine r9 ?_
    obtain ⟨hx4,hbd⟩ :xs.length=4∧∀p∈xs,Ek 50 p:=hxp
    refine S5 ?_;refine Jx J J (qH J) J (lb J) (fun b6=> ?_);refine N1 ?_;refine JV (k:=3) J jK Jw Dc J Dc J J J (fun w' hs=>Qb hs (k:=7) J J) (by simp [Value.oneCell',Pc.val]) (by unfold maxLen;omega) Om (jih _) (fun r1=> ?_);refine N4 ?_;refine L8 0 (K2:=K+2+60* (l.length+1)) J Om ?_;refine t9 ?_;refine wN 4 5 J J Dc J ?_;refine t9 ?_;refine S7 ?_
    exact Ji hL1 ((j- 1,r1,l++ [⟨xs,pA,pc,plo,phi⟩])) (⟨by simp only [jif,jim,jiH];omega,hpc.push ⟨⟨by show 0<xs.length;omega,by show xs.length≤6;omega⟩,hbd⟩⟩) (by simp only;omega) ⟨vi Om,sz⟩ (fun _ h=>h.upto ⟨by rw [jif];rfl,J,by rw [jif];rfl,by rw [jif,jiO];rfl,(vT _ _).symm,trivial⟩)
  ·refine S12 ?_;refine jM J (qh (k:=1) J jG J J) ?_
   intro w' hs
   exact⟨(⟨l.map (·.xs),hpc.drw Om⟩,(rA,rc),w.heap.size,w'.heap.size),by simp only [jit],yy hs,jht (srcR.more (hs.all 0 _ rfl).1 Om) hlt (by simp only [jit];exact SX hs (ks:=0) (kr:=3) (kp:=4) rfl rfl rfl rfl Dc Dc Dc rfl (fun e he=>by have:= (hpc e he).1.2;omega)) rfl rfl⟩
theorem Fu (hB:Byts w A n zs) (hn:n≤1048576) :
  Calls Tryz.prog 37 #[.slice A n c] w fun e w'=>∃x:DX 3×DPt,e= .returned (.tuple #[qT x.1.2.1.1 x.1.1.1.length x.1.2.1.2,pV x.2.1])∧Over w w'∧(RR x.1).P w'∧(∀q,(RR x.1).F q→w.heap.size≤q)∧(RR x.1).B=0∧True:=by
 refine Jh (m:=21) (Tryz.func37) J J (lb J) ?_;refine S3 ?_;refine aL (fun b1=> ?_);refine N1 ?_;refine aL (fun b2=> ?_);refine N5 ?_;refine J4 LU (v:=fun g:Nat=> .pointer (some ⟨g,0,none⟩)) (r:=fun g=>srcR g A n c 0) (H:=fun _=>True) J J J (lb J) (fun w1 hs=>Si A n c w1) ?_
 rintro g-
 refine N2 ?_;refine ky (fun w1 hs=> ((hs.all 2 _ rfl).2.1 g rfl).elim id (fun h=>by cases h)) ?_
 intro hg
 have hne:=jhX hB (g:=g) hg
 refine S4 ?_;refine qO (k:=2) (X:=DX 3) (v:=fun x=>qT x.2.1.1 x.1.1.length x.2.1.2) (r':=fun x=>xq g A n c (0+300) x) L0 J J J Dc J (fun w1 hs=>Sq (zs:=zs) (hB.over hs.fin) hne (hs.all 2 _ J).1 hn Dc) ?_
 rintro x0
 refine n9 ?_;refine jgb 2 J ?_;refine t9 ?_;refine S1 ?_;refine aL (fun b3=> ?_);refine N7 ?_;refine qO (k:=2) (X:= {v:Int//0≤v∧v<20}) (v:=fun x=> .int .i64 x.1) (r':=fun _=>srcR g A n c 301) qk J J J Dc J (fun w1 hs=>vU (zs:=zs) 20 Dc Dc (hB.over hs.fin) hne (hs.all 2 _ J).1 hn Dc) ?_
 rintro⟨v1,hv1⟩
 refine n9 ?_
 try dsimp only
 refine S1 ?_;refine a9 (JU J J (BE J)) ?_;refine S1 ?_;refine aL (fun b4=> ?_);refine N7 ?_;refine qO (k:=2) (X:= {v:Int//0≤v∧v<20}) (v:=fun x=> .int .i64 x.1) (r':=fun _=>srcR g A n c 302) qk J J J Dc J (fun w1 hs=>vU (zs:=zs) 20 Dc Dc (hB.over hs.fin) hne (hs.all 2 _ J).1 hn Dc) ?_
 rintro⟨v2,hv2⟩
 refine n9 ?_
 try dsimp only
 refine S3 ?_;refine Ow (k:=5) J J J J (J) (by rfl) kS.szx J ?_;refine N3 ?_;refine Qx 4 [0,1] ?_;refine d9 0 J [] (uw [0,1] J) (jk J J jG J (jY (k:=4) J)) ?_;refine d9 1 J [] (uw [0,1] J) (jk J J jj J (jY (k:=5) J)) ?_;refine qe (i:=2) J Dc Kr J ?_;refine S1 ?_;refine JO (uw [0,1] J) ?_;refine qe (i:=3) J Dc Kr J ?_;refine S1 ?_;refine JO (uw [0,1] J) ?_;refine JK Kr ?_;refine S2 ?_;refine qv J (qh (k:=0) J jG J J) (qh (k:=1) J jj J J) ?_
 intro w' hs
 exact⟨(x0,⟨(v1- 2,v2- 2),⟨by show-50≤v1- 2;omega,by show v1- 2≤50;omega⟩,by show-50≤v2- 2;omega,by show v2- 2≤50;omega⟩),rfl,hs.fin,(hs.all 3 _ rfl).1,fun q hq=> ((hs.all 3 _ rfl).2.1 q hq).elim id (fun h=>by cases h),sz⟩
end
theorem jeo {n:Nat} {rs:List jV} (h:FK n rs) :FK n (rs.map List.reverse) :=⟨by rw [jit];exact h.1,fun r hr=>by
 obtain ⟨s,hs,rfl⟩ :=jip.1 hr
 have:=h.2 s hs
 rw [List.length_reverse]
 exact⟨this.1,fun p hp=>this.2 p (List.mem_reverse.1 hp)⟩⟩
theorem Cy {rs:List jV} (h:JE rs=true) : (total rs:Int)≤1048576:=jjC (smallR.of h).total Dc
theorem Ss (A:Option Addr) (n c:Nat) (zs:List Int) (w:World) (h:Byts w A n zs) (_hm: (n:Int)≤9223372036854775807) :
  Calls Tryz.prog 8 #[.slice A n c] w fun e w'=>e= .returned (.bool true)∧Over w w':=by
 refine Jh (m:=108) (Tryz.func8) J J (lb J) ?_;refine S11 ?_;refine cZ (fun c1=> ?_) (fun c1=> ?_)
 ·refine S6 ?_;refine jM J (.tmp J) ?_
  intro w' hs
  exact⟨rfl,hs.fin⟩
 ·have hn:n≤1048576:=Om
  refine S6 ?_;refine J4 G5 (v:=fun x:DX 3×DPt=> .tuple #[qT x.1.2.1.1 x.1.1.1.length x.1.2.1.2,pV x.2.1]) (r:=fun x=>RR x.1) (H:=fun _=>True) J J J (lb J) (fun w1 hs=>Fu (h.over hs.fin) hn) ?_
  rintro⟨⟨⟨rs,hrs⟩,⟨rA,rc⟩,rlo,rhi⟩,⟨p,hp⟩⟩ -
  refine n9 ?_
  try dsimp only
  have hreg:=PG hrs Dc
  have hreg2:=PG (jeo hrs) Dc
  have htot:=Ez hrs
  refine S4 ?_;refine aL (fun b1=> ?_);refine N1 ?_;refine aL (fun b2=> ?_);refine N9 ?_;refine J4 K8 (X:= (Option Addr×Nat)×Nat×Nat) (v:=fun x=> .tuple #[qT x.1.1 (uU rs [] 1).length x.1.2, .int .i64 (Gz rs [] 1)]) (r:=fun x=>Ky (uU rs [] 1).length (uU rs [] 1) x.2.1 x.2.2 x.1.1) (H:=fun _=>True) J J J (lb J) (fun w1 hs=>KB (V:=fun A' c'=> .tuple #[qT A' (uU rs [] 1).length c', .int .i64 (Gz rs [] 1)]) (VD _ _ _ rs w1 (vM (k:=0) J w1 hs) Om)) ?_
  rintro⟨⟨oA,oc⟩,olo,ohi⟩ -
  refine N4 ?_;refine aL (fun b3=> ?_);refine N10 ?_;refine cZ (fun c2=> ?_) (fun c2=> ?_)
  ·refine S4 ?_;refine J4 zg (X:= (Option Addr×Nat)×Nat×Nat) (v:=fun x=> .tuple #[qT x.1.1 (uU rs [] 1).length x.1.2, .int .i64 (Gz rs [] 1)]) (r:=fun x=>Ky (uU rs [] 1).length (uU rs [] 1) x.2.1 x.2.2 x.1.1) (H:=fun _=>True) J J J (lb J) (fun w1 hs=>KB (V:=fun A' c'=> .tuple #[qT A' (uU rs [] 1).length c', .int .i64 (Gz rs [] 1)]) (zl _ _ _ rs w1 (vM (k:=0) J w1 hs) Om)) ?_
   rintro⟨⟨uA,uc⟩,ulo,uhi⟩ -
   refine N4 ?_;refine aL (fun b4=> ?_);refine N13 ?_;refine jM J (.tmp J) ?_
   intro w' hs
   exact⟨QH (by simp),hs.fin⟩
  ·have hE:=jgW hreg hreg2 (by simpa using c2)
   obtain ⟨T,hT⟩ :∃T,T=uU rs [] 1:=⟨_,rfl⟩
   rw [←hT] at hE
   rw [←hT]
   have htT:=Cy hE.reg
   have hrv:Ti rs=rs.map List.reverse:=if_pos hreg
   have htV: (total (Ti rs) :Int)≤1048576:=by rw [hrv];exact Cy hreg2
   have hw:=hE.w p
   obtain ⟨wv,hwv⟩ :∃wv,wv= (if B9 T p.1 p.2=true then wind false (jE T) p.1 p.2 else 0) :=⟨_,rfl⟩
   have hwo:jaI T p.1 p.2= .tuple #[.int .i64 wv, .bool (B9 T p.1 p.2)] :=by rw [hwv];rfl
   have hw01:wv=0∨wv=1:=by rw [hwv];split<;>omega
   refine S6 ?_;refine J4 K8 (X:= (Option Addr×Nat)×Nat×Nat) (v:=fun x=> .tuple #[qT x.1.1 T.length x.1.2, .int .i64 0]) (r:=fun x=>Ky T.length T x.2.1 x.2.2 x.1.1) (H:=fun _=>True) J J J (lb J) (fun w1 hs=>KB (V:=fun A' c'=> .tuple #[qT A' T.length c', .int .i64 0]) (by have:=VD _ _ oc T w1 (vM (k:=3) J w1 hs) htT;rw [hE.again.1,hE.again.2] at this;exact this)) ?_
   rintro⟨⟨gA,gc⟩,glo,ghi⟩ -
   refine N4 ?_;refine aL (fun b5=> ?_);refine N8 ?_;refine J4 zh (X:= (Option Addr×Nat)×Nat×Nat) (v:=fun x=> .tuple #[qT x.1.1 (Ti rs).length x.1.2, .int .i64 (rvC rs)]) (r:=fun x=>Ky (Ti rs).length (Ti rs) x.2.1 x.2.2 x.1.1) (H:=fun _=>True) J J J (lb J) (fun w1 hs=>KB (V:=fun A' c'=> .tuple #[qT A' (Ti rs).length c', .int .i64 (rvC rs)]) (zm _ _ _ rs w1 (vM (k:=0) J w1 hs) Om)) ?_
   rintro⟨⟨vA,vc⟩,vlo,vhi⟩ -
   refine N4 ?_;refine aL (fun b6=> ?_);refine N8 ?_;refine J4 K8 (X:= (Option Addr×Nat)×Nat×Nat) (v:=fun x=> .tuple #[qT x.1.1 T.length x.1.2, .int .i64 0]) (r:=fun x=>Ky T.length T x.2.1 x.2.2 x.1.1) (H:=fun _=>True) J J J (lb J) (fun w1 hs=>KB (V:=fun A' c'=> .tuple #[qT A' T.length c', .int .i64 0]) (by have:=VD _ _ vc (Ti rs) w1 (vM (k:=7) J w1 hs) htV;rw [hE.rev.1,hE.rev.2] at this;exact this)) ?_
   rintro⟨⟨fA,fc⟩,flo,fhi⟩ -
   refine N4 ?_;refine aL (fun b7=> ?_);refine N1 ?_;refine j9 10 jr.szx ?_;refine N6 ?_;refine a9 (jT XP J J (fun w1 hs=>hwo▸Gf _ _ _ T p.1 p.2 w1 (vM (k:=3) J w1 hs) Om)) ?_;refine S9 ?_;refine a9 (jT XN J J (fun w1 hs=>Gd _ _ _ T w1 (vM (k:=3) J w1 hs) Om)) ?_;refine S11 ?_;refine W7 70 (.bool true) J (by rw [(show((0:Int) ==0) =true from J)]) ?_;refine S5 ?_;refine o9 (jT Wh J J (fun w1 hs=>Wj _ _ _ _ _ _ T T w1 (vM (k:=5) J w1 hs) (vM (k:=3) J w1 hs) Om Om)) ?_;refine S2 ?_;refine W7 75 (.bool true) J (by rw [(show decide (T=T) =true by simp)]) ?_;refine S6 ?_;refine W7 79 (.bool true) J (by rw [(show((0:Int) ==0) =true from J)]) ?_;refine h9 ?_;refine o9 (jk J J jG J (jY (k:=10) J)) ?_;refine S3 ?_;refine o9 (jT Wh J J (fun w1 hs=>Wj _ _ _ _ _ _ T T w1 (vM (k:=9) J w1 hs) (vM (k:=3) J w1 hs) Om Om)) ?_;refine S2 ?_;refine W7 84 (.bool true) J (by rw [(show decide (T=T) =true by simp)]) ?_;refine S3 ?_;refine o9 (jT LQ J J (fun w1 hs=>Rf _ _ _ T w1 (vM (k:=3) J w1 hs) Om)) ?_;refine S2 ?_;refine W7 88 (.bool true) J (by rw [hE.clean]) ?_;refine S3 ?_;refine o9 (jT XO J J (fun w1 hs=>Ge _ _ _ T w1 (vM (k:=3) J w1 hs) Om)) ?_;refine S2 ?_;refine W7 92 (.bool true) J (by rw [hE.isn]) ?_;refine S6 ?_;refine cV 95 (fun g1=> ?_) (fun g1=> ?_)
   ·refine S20 ?_;refine jM J (.tmp J) ?_
    intro w' hs
    exact⟨QH (decide_eq_true hE.area),hs.fin⟩
   ·refine S8 ?_;refine cV 99 (fun g2=> ?_) (fun g2=> ?_)
    ·refine S14 ?_;refine jM J (.tmp J) ?_
     intro w' hs
     exact⟨QH (decide_eq_true hE.area),hs.fin⟩
    ·have hw1:wv=1:=by omega
     refine S8 ?_;refine W7 104 (.bool true) J (by rw [(show(wv==1) =true by rw [hw1];rfl)]) ?_;refine S8 ?_;refine jM J (.tmp J) ?_
     intro w' hs
     exact⟨QH (decide_eq_true hE.area),hs.fin⟩
end Go.Proofs.YtpncbbcmoiiipaaGreat
