import Derived.Test.YtjbahemkhphndaaGreatNBounds
import Derived.Test.YtjbahemkhphndaaGreatNEnds
import Derived.Test.YtjbahemkhphndaaGreatNOwn
import Derived.Test.YtjbahemkhphndaaGreatNTopo2
set_option linter.unusedVariables false
set_option linter.unusedSimpArgs false
namespace Go.Proofs.YtjbahemkhphndaaGreat
open Go Go.RowKit
variable{A:Option Addr}{E:List Leg}{K:Act->World->Prop}{Rs:List Res}{args:Array Value}{b k n r:Nat}{env:List (Nat×Value)}{hot xs ys:List Pn}{rs rs0:List jI}{w:World}{x:Bool×(Option Addr×Nat)×Nat×Nat}
set_option maxRecDepth 100000
set_option maxHeartbeats 4000000
set_option maxHeartbeats 1000000 in
set_option maxRecDepth 100000 in
theorem Gq(A B:Option Addr)(n m c d:Nat)(rs ss:List jI)(w:World)(h:Rings w A n rs)(h':Rings w B m ss)(ht:(total rs:Int)<=1048576)(ht':(total ss:Int)<=1048576):
  Calls Tryz.prog 64 #[qU A n c,qU B m d] w λe w'=>e=.returned (.bool (decide (rs=ss)))/\Over w w':=by
 have hl:=Lib.hid h.1;have hl':=Lib.hid h'.1
 have hn:(n:Int)<=1048576:=by have:=hl.out;unfold total at ht;omega
 have hm:(m:Int)<=1048576:=by have:=hl'.out;unfold total at ht';omega
 have Ht:=Lib.hid (And.intro ht ht');clear ht ht';by_cases hnm:n=m
 .subst hnm;have hq:((n:Int) !=(n:Int))=false:=by simp
  go_enter Tryz.func64,Tryz.ntmps64
  go_wp2
  go_loopw [5] (λi wr=>∃k:Nat,k<=n/\i=.int .i64 k/\Over ((w.alloc (.cells #[.slice A n c] 25)).alloc (.cells #[.slice B n d] 25)) wr/\Hid (∀j,j<k->rg rs j=rg ss j)) (λi _=>n-(intOf i).toNat)
  case atStart=>exact⟨0,jlN _,rfl,Over.refl _,λj hj=>absurd hj Om⟩
  case round=>
   rename_i wr;obtain⟨k,hk,rfl,hb,hall⟩:=hrel;have hO:Over w wr:=(Over.alloc_ (Over.alloc _ _) _).trans hb
   have x1:wr.cell? ⟨w.heap.size,0,none⟩=some (.slice A n c):=by
    rw[(Jy hb).1 _ _ (by simp;omega),(Jy (Over.alloc _ _)).1 _ _ (by simp)];exact ZV _ _ _ _
   have x2:wr.cell? ⟨w.heap.size+1,0,none⟩=some (.slice B n d):=by
    rw[(Jy hb).1 _ _ (by simp)];simp
   have z2:w.heap.size+1<wr.heap.size:=jlU (by simp) hb.size;have z1:w.heap.size<wr.heap.size:=by omega
   by_cases hlt:k<n
   .obtain⟨b,o,Ak,ck,rfl,hbB,hcell,hpts,hmax⟩:=(h.over hO).at_ hlt;obtain⟨b',o',Ak',ck',rfl,hbB',hcell',hpts',_⟩:=(h'.over hO).at_ hlt;have hr:((rg rs k).length:Int)<=1048576:=by have:=Ht.out;have:=WN rs (k:=k) (by rw[hl.out];exact hlt);omega
    have hr':((rg ss k).length:Int)<=1048576:=by have:=Ht.out;have:=WN ss (k:=k) (by rw[hl'.out];exact hlt);omega
    have Hb:=Lib.hid hb;have HP:=Lib.hid (And.intro hpts hpts')
    clear h h' hb hO hmax hpts hpts';by_cases he:rg rs k=rg ss k
    .have hd:decide (rg rs k=rg ss k)=true:=decide_eq_true he;have hs:Hid (∀j,j<k+1->rg rs j=rg ss j):=by
      intro j hj;by_cases hjk:j=k
      .subst hjk;exact he
      .exact hall.out j Om
     have Hd:=Lib.hid hd;clear hd he hall;go_wp2;refine KB (B:=ob _) (Over.refl _) Kr (by simp only[jmJ,jlS,jl5,Nat.reduceAdd];rfl) (λhBW=>?_);refine i8 0 ?_;refine i8 1 ?_;refine i8 2 ?_;refine i8 3 ?_;refine i8 4 ?_;refine i8 5 ?_;refine i8 6 ?_;refine i8 7 ?_;refine i8 8 ?_;refine i8 9 ?_;refine i8 10 ?_;refine i8 11 ?_;refine w9 12 (hy:=λwx hS=>by(go_simp;refine(My _ _ _ _ _ _ (rg rs k) (rg ss k) _ (HP.out.1.over hS) (HP.out.2.over hS) hr hr').mono ?_;rw[Hd.out];rintro e w1 ⟨rfl,hb1⟩;exact⟨rfl,hb1⟩)) (h:= ?_);simp only[Act.put,Qc,jL,jM];refine i8 13 ?_;refine KA Kr (λw2 h2=>?_) _
     try clear hBW
     have HO:=Lib.hid (Hb.out.trans h2);clear h2;go_wp2
     go_roundw
     case rel=>exact⟨k+1,by omega,by go_num,HO.out,hs⟩
     case measure=>simp[intOf];omega
    .have hd:decide (rg rs k=rg ss k)=false:=decide_eq_false he;have hq:Hid (decide (rs=ss)=false):=decide_eq_false (λe=>he (by rw[e]))
     have Hd:=Lib.hid hd;clear hd he hall;go_wp2;refine KB (B:=ob _) (Over.refl _) Kr (by simp only[jmJ,jlS,jl5,Nat.reduceAdd];rfl) (λhBW=>?_);refine i8 0 ?_;refine i8 1 ?_;refine i8 2 ?_;refine i8 3 ?_;refine i8 4 ?_;refine i8 5 ?_;refine i8 6 ?_;refine i8 7 ?_;refine i8 8 ?_;refine i8 9 ?_;refine i8 10 ?_;refine i8 11 ?_;refine w9 12 (hy:=λwx hS=>by(go_simp;refine(My _ _ _ _ _ _ (rg rs k) (rg ss k) _ (HP.out.1.over hS) (HP.out.2.over hS) hr hr').mono ?_;rw[Hd.out];rintro e w1 ⟨rfl,hb1⟩;exact⟨rfl,hb1⟩)) (h:= ?_);simp only[Act.put,Qc,jL,jM];refine i8 13 ?_;refine KA Kr (λw2 h2=>?_) _
     try clear hBW
     have HO:=Lib.hid ((Over.alloc_ (Over.alloc _ _) _).trans (Hb.out.trans h2));clear h2;go_wp2;go_ret;exact⟨by rw[hq.out];rfl,HO.out⟩
   .have hkn:k=n:=by omega
    have hq:Hid (decide (rs=ss)=true):=decide_eq_true (jcP (by rw[hl.out,hl'.out]) (λj hj=>hall.out j (by rw[hl.out] at hj;omega)));clear h h' hall hl hl' hb;go_wp2;go_ret;exact⟨by rw[hq.out];rfl,hO⟩
 .have hq:((n:Int) !=(m:Int))=true:=by simp;omega
  have hv:Hid (decide (rs=ss)=false):=decide_eq_false (λe=>hnm (by rw[<-hl.out,<-hl'.out,e]));clear h h' hl hl'
  go_enter Tryz.func64,Tryz.ntmps64
  go_wp2;go_ret;exact⟨by rw[hv.out];rfl,ov9⟩
theorem jiF{ls:List Leg}{j:Nat}(h:j<ls.length):((ls.map lA).take (j+1)).flatMap Jt=((ls.map lA).take j).flatMap Jt++[.int .i64 (lg ls j).ax,.int .i64 (lg ls j).ay]:=by
 rw[jlX (by simpa using h),jlW];simp[Jt,lA,lg,List.getD,h]
theorem X3(hr:JG rs=true){r:jI}(h:r∈vR rs k):r.length<=400:=by
 obtain⟨_,q,hq,rfl⟩:=XN h;obtain⟨i,hi,e⟩:=jmq hq;have:=Qj (kg hr hi)
 rw[wb hi] at e;rw[e] at this;have:=Nr q q.length
 unfold vx;omega
theorem jk9{a:Nat}(h:(px xs a==px ys b&&py xs a==py ys b)=false):pt xs a≠pt ys b:=λe=>by
 injection e with e1 e2
 simp[e1,e2] at h
theorem ji1{a:Nat}(h:(px xs a==px ys b&&py xs a==py ys b)=true):pt xs a=pt ys b:=by
 simp at h;exact Prod.ext h.1 h.2
theorem Y0{w':World}(hs:St ⟨w,[]⟩ Rs w'){kr kp B T:Nat}{l:List Pc}{x:Option Addr×Nat}(hr:Rs[kr]? =some (JV B T 1 n (l.map Pc.val) x))(hp:Rs[kp]? =some (KD l))(hne:kr≠kp)(_e:w=w)(hl:l.length=n)(hrs:l.map (·.xs)=rs)(hm:∀j,j<rs.length->(rg rs j).length<=1099511627776):OwnG w.heap.size w'.heap.size w' x.1 n rs:=by
 have hrow:w'.ownsRow B T 1 (.slice x.1 n x.2) n (l.map Pc.val):=(hs.all kr _ hr).1;have hX:=hs.all kp _ hp
 rcases hrow.2 with⟨_,e⟩|⟨g,cap,cur,e,hb,hg,hcap,hmax,hsz,htk⟩
 .subst e;obtain rfl:l=[]:=jmh hl;subst hrs;exact OwnG.nil _
 .injection e with e1 e2 e3
  rw[e1];have hF:(JV B T 1 n (l.map Pc.val) x).F g:=by show Value.ownBlock (.slice x.1 n x.2)=some g;rw[e1];rfl
  have hown:=ON (lo:=w.heap.size) (o:=0) hg (((hs.all kr _ hr).2.1 g hF).elim id (λh=>by cases h)) (λj hj=>?_) hX.1 (λh=>hs.apart kr kp _ _ hne hr hp g hF h) (λq hq=>(hX.2.1 q hq).elim id (λh=>by cases h)) (λe he=>?_)
  .rw[hrs,hl] at hown;exact hown
  .have hc:cur[j]? =(l.map Pc.val)[j]? :=by rw[<-htk,List.getElem?_take,if_pos Om];simp
   rw[jmd,hc];simp[hj]
  .have:e.xs∈rs:=hrs▸jlR.2 ⟨e,he,rfl⟩;obtain⟨j,hj,e2⟩:=jmq this;have:=hm j hj
   rw[<-wb hj,e2] at this;omega
theorem Mv(bb oo:Nat)(A:Option Addr)(n c:Nat)(rs:List jI)(w:World)(hcell0:w.cell? ⟨bb,oo,none⟩=some (.slice A n c))(hbb:bb<w.heap.size)(h:Rings w A n rs)(hr:JG rs=true):
  Calls Tryz.prog 41 #[.pointer (some ⟨bb,oo,none⟩)] w λe w'=>∃A' c',e=.returned (qU A' (ql rs).length c')/\OwnG w.heap.size w'.heap.size w' A' (ql rs).length (ql rs)/\Over w w':=by
 have hl:=h.1;have hn40:=V0 hr
 refine Jm (m:=52) (Tryz.func41) J J (lb J) ?_;refine S3 ?_;refine aL (λb1=>?_);refine N3 ?_;refine a9 (JD J J (qo)) ?_;refine S1 ?_;refine aL (λb2=>?_);refine N3 ?_;refine QO (T:=41) (s:=1) ?_;refine t9 ?_;refine KY ?_;refine t9 ?_;refine S6 ?_;refine JW (X:=Nat×(Option Addr×Nat)×List Pc) (λx=>x.1<=n/\x.2.2.map (·.xs)=vR rs x.1) (λx=>n-x.1) (λx=>[(4,.int .i64 (x.1:Int))]) (kK [0,2,3]) (λx=>[.cel b1 25 [.slice none 0 0],.cel b2 25 [.slice x.2.1.1 x.2.2.length x.2.1.2],JV (Bs.N ⟨w,[]⟩) 41 1 x.2.2.length (x.2.2.map Pc.val) x.2.1,KD x.2.2]) (0,(none,0),[]) (⟨jlN _,J⟩) ⟨J,sz⟩ (λ_ h=>h) ?_;intro⟨k,⟨rA,rc⟩,l⟩ hx L hL1;refine v9 ?_;refine r9 ?_;obtain⟨hk,hmp⟩:k<=n/\l.map (·.xs)=vR rs k:=hx;have hlk:l.length=(vR rs k).length:=(by have:=congrArg List.length hmp;rwa [jlV] at this)
 have hlen:=XM rs k;refine S7 ?_;refine a9 (jn J J JA (QZ hcell0 hbb)) ?_;refine S3 ?_;refine cZ (λc1=>?_) (λc1=>?_)
 .have hlt:k<n:=Om;obtain⟨eb,eo,Ak,ck,rfl,hbB,hcell,hpts,hmax⟩:=h.at_ hlt;have hpos:=Qj (kg hr (show k<rs.length by omega))
  obtain⟨E,hE⟩:∃E,E=Jh (rg rs k):=⟨_,rfl⟩;have hEl:E.length<=400:=(by rw[hE];have:=Ku (rg rs k) (rg rs k).length;unfold Jh;omega)
  have hkp:vx (rg rs k)=E.map lA:=(by rw[hE];rfl);have hkl:(vx (rg rs k)).length=E.length:=(by rw[hkp,jlV])
  refine S9 ?_;refine a9 (jn J J JA (QZ hcell0 hbb)) ?_;refine S3 ?_;refine J4 YW (v:=λx=>.slice x.1 _ x.2) (r:=λx=>JV 0 101 4 _ _ x) (H:=λ_=>True) J J J (lb J) (λw1 hs=>q6 ((zE eb (eo+k*1) Ak _ ck (rg rs k) w1 (by rw[jmL];exact Ql hcell hbB w1 hs) (jlU hbB hs.fin.size) (hpts.over hs.fin) Om).mono λe w' ⟨v,h1,_,h2,h3⟩=>⟨v,h1,h2,h3⟩)) ?_;rintro⟨eA,ec⟩-;refine N4 ?_;refine a9 (JD J J (Ks)) ?_;refine S1 ?_;refine aL (λb3=>?_);refine N3 ?_;refine QO (T:=36) (s:=2) ?_;refine t9 ?_;rw[<-hE];refine S6 ?_;refine JW (X:=Nat×Option Addr×Nat) (λy=>y.1<=E.length) (λy=>E.length-y.1) (λy=>[(7,.int .i64 (y.1:Int))]) (kK [0,2,3,4,9,10,11,12,13,14,15,18,19,20,21,22,23,24,5,25,6]) (λy=>[.cel b1 25 [.slice none 0 0],.cel b2 25 [.slice rA l.length rc],JV (Bs.N ⟨w,[]⟩) 41 1 l.length (l.map Pc.val) (rA,rc),KD l,JV 0 101 4 E.length (E.flatMap jW) (eA,ec),.cel b3 41 [.slice y.2.1 y.1 y.2.2],JV (Bs.N ⟨w,[]⟩) 36 2 y.1 (((E.map lA).take y.1).flatMap Jt) y.2]) (0,none,0) (jlN _) ⟨J,sz⟩ (λ_ h=>h) ?_;intro⟨j,qA,qc⟩ hy L hL2;refine v9 ?_;refine r9 ?_;have hj:j<=E.length:=hy
  refine S8 ?_;refine cZ (λc2=>?_) (λc2=>?_)
  .have hjl:j<E.length:=Om;refine kW (λw hs=>V4 (k:=4) J hs Om) ?_;rintro⟨eg,rfl⟩;refine S5 ?_;refine JY 8 ?_;refine dV 0 [1] ?_;refine dK 1 ?_;refine dV 2 [4,5,6,7] ?_;refine dV 3 [4,5,6,7] ?_;refine dV 4 [5,6,7] ?_;refine dV 5 [6,7] ?_;refine d9 6 J [7] (u9 J) (jj J J jk J (QB (b:=eg) (o:=0) (vL (k:=4) (x:=(some ⟨eg,0,none⟩,ec)) (ls:=E) J J) hjl)) ?_;refine qg (i:=7) J Dc Kr J ?_;refine j5 J J (qq J) J (lb J) (λb4=>?_);refine n9 ?_;refine JS (u9 J) ?_;refine vg J Kr J ?_;refine JQ (k:=6) J jw jG Dc J Dc J J J (λw' hs=>qL hs (k:=7) J J) (by simp[Value.oneCell']) (by unfold maxLen;omega) Om (jlL _) (λr1=>?_);refine n9 ?_;refine Qy 11 [5] ?_;refine dK 9 ?_;refine qg (i:=10) J Dc Kr J ?_;refine S1 ?_;refine JS (uw [5] J) ?_;refine JK Kr ?_;refine S7 ?_;exact Jn hL2 ((j+1,r1)) ((show j+1<=E.length by omega)) (by simp only;omega) ⟨vi Om,sz⟩ (λ_ h=>h.upto ⟨J,J,J,J,J,J,by rw[jiF hjl],trivial⟩)
  .have hje:j=E.length:=Om;subst hje;rw[jme (by rw[jlV];omega),<-hkp];refine S11 ?_;refine cZ (λc3=>?_) (λc3=>?_)
   .have hpl:0<(vx (rg rs k)).length:=Om;refine S5 ?_;refine j5 J J (qe J) J (lb J) (λb5=>?_);refine N1 ?_;refine JQ (k:=2) J jC Jl Dc J Dc J J J (λw' hs=>qL hs (k:=7) J J) (by simp[Value.oneCell']) (by unfold maxLen;omega) Om (jlL _) (λr2=>?_);refine N4 ?_;refine YC 6 J hkl (λclo chi=>?_);refine t9 ?_;refine Ke 3 6 J J Dc J ?_;refine t9 ?_;refine S7 ?_;exact Jn hL1 ((k+1,r2,l++[⟨vx (rg rs k),qA,qc,clo,chi⟩])) (⟨show k+1<=n by omega,by rw[jma,hmp,zk Om hpl];rfl⟩) (by simp only;omega) ⟨vi Om,sz⟩ (λ_ h=>(h.picks [0,1,2,3] Dc).upto ⟨J,by rw[jlJ];rfl,by rw[jma,jlJ];simp[Pc.val,hkl],(ve _ _).symm,trivial⟩)
   .refine S8 ?_;exact Jn hL1 ((k+1,(rA,rc),l)) (⟨show k+1<=n by omega,by rw[hmp,xI Om Om]⟩) (by simp only;omega) ⟨vi Om,sz⟩ (u9 J)
 .have hkn:k=rs.length:=Om;subst hkn;refine S12 ?_;refine jK J (qj (k:=0) J jD J J) ?_;intro w' hs;have hrs:l.map (·.xs)=ql rs:=hmp
  have hbl:(ql rs).length=l.length:=hlk.symm;exact⟨rA,rc,by rw[hbl],by rw[hbl];exact Y0 hs (kr:=2) (kp:=3) rfl rfl Dc rfl rfl hrs (λj hj=>by have:=X3 hr (jlY hj);rw[wb hj] at this;omega),hs.fin⟩
theorem Zh(A:Option Addr)(n c:Nat)(rs:List jI)(w:World)(h:Rings w A n rs)(hr:JG rs=true):
  Calls Tryz.prog 92 #[qU A n c] w λe w'=>∃A' c',e=.returned (qU A' (ql rs).length c')/\OwnG w.heap.size w'.heap.size w' A' (ql rs).length (ql rs)/\Over w w':=by
 have hl:=h.1;have hn40:=V0 hr
 refine Jm (m:=53) (Tryz.func92) J J (lb J) ?_;refine S3 ?_;refine aX (λb1=>?_);refine N1 ?_;refine aL (λb2=>?_);refine N4 ?_;refine aL (λb3=>?_);refine N1 ?_;refine QO (T:=41) (s:=1) ?_;refine t9 ?_;refine KY ?_;refine t9 ?_;refine S9 ?_;refine JW (X:=Nat×(Option Addr×Nat)×List Pc) (λx=>x.1<=n/\x.2.2.map (·.xs)=vR rs x.1) (λx=>n-x.1) (λx=>[(12,.int .i64 (x.1:Int))]) (kK [2,3,10,11]) (λx=>[.cel b1 25 [.slice A n c],.cel b2 25 [.slice none 0 0],.cel b3 25 [.slice x.2.1.1 x.2.2.length x.2.1.2],JV (Bs.N ⟨w,[]⟩) 41 1 x.2.2.length (x.2.2.map Pc.val) x.2.1,KD x.2.2]) (0,(none,0),[]) (⟨jlN _,J⟩) ⟨J,sz⟩ (λ_ h=>h) ?_;intro⟨k,⟨rA,rc⟩,l⟩ hx L hL1;refine v9 ?_;refine r9 ?_;obtain⟨hk,hmp⟩:k<=n/\l.map (·.xs)=vR rs k:=hx;have hlk:l.length=(vR rs k).length:=(by have:=congrArg List.length hmp;rwa [jlV] at this)
 have hlen:=XM rs k;refine S5 ?_;refine cZ (λc1=>?_) (λc1=>?_)
 .have hlt:k<n:=Om;obtain⟨eb,eo,Ak,ck,rfl,hbB,hcell,hpts,hmax⟩:=h.at_ hlt;have hpos:=Qj (kg hr (show k<rs.length by omega))
  obtain⟨pb,po,rfl,_⟩:=hpts.2 hpos.1;obtain⟨xs,hxs⟩:∃xs,xs=rg rs k:=⟨_,rfl⟩;rw[<-hxs] at hpts hpos hcell;have hkl:=λj=>Nr xs j
  refine S7 ?_;refine a9 (jj J J Jz J (Wv hcell hbB)) ?_;refine S1 ?_;refine aL (λb4=>?_);refine N6 ?_;refine QO (T:=36) (s:=2) ?_;refine N10 ?_;refine JW (X:=Nat×Option Addr×Nat) (λy=>y.1<=xs.length) (λy=>xs.length-y.1) (λy=>[(6,.slice y.2.1 (W3 xs y.1).length y.2.2),(19,.int .i64 (y.1:Int))]) (kK [2,3,10,11,12,13,14,15,5,16,17,18]) (λy=>[.cel b1 25 [.slice (some ⟨eb,eo,none⟩) n c],.cel b2 25 [.slice none 0 0],.cel b3 25 [.slice rA l.length rc],JV (Bs.N ⟨w,[]⟩) 41 1 l.length (l.map Pc.val) (rA,rc),KD l,.cel b4 41 [.slice (some ⟨pb,po,none⟩) xs.length ck],JV (Bs.N ⟨w,[]⟩) 36 2 (W3 xs y.1).length ((W3 xs y.1).flatMap Jt) y.2]) (0,none,0) (jlN _) ⟨J,sz⟩ (λ_ h=>h) ?_;intro⟨j,qA,qc⟩ hy L hL2;refine v9 ?_;refine r9 ?_;have hj:j<=xs.length:=hy
  have hkj:=hkl j;refine S5 ?_;refine cZ (λc2=>?_) (λc2=>?_)
  .have hjl:j<xs.length:=Om;have hnx:nx xs j<xs.length:=jnA _ Om
   refine S8 ?_;refine a9 (jj J J jk J (WM (b:=pb) (o:=po) hpts hjl)) ?_;refine S1 ?_;refine aL (λb5=>?_);refine N6 ?_;refine JY 12 ?_;refine dK 0 ?_;refine dK 1 ?_;refine dK 2 ?_;refine dK 3 ?_;refine dK 4 ?_;refine dK 5 ?_;refine dK 6 ?_;refine dK 7 ?_;refine dZ 8 J ((LX J J J Om Om Om).as (congrArg _ (jhT (xs:=xs) J j))) ?_;refine dZ 9 J (jQ (j:=nx xs j) J J J jw Om) ?_;refine dZ 10 J (jj J J jk J (WM (b:=pb) (o:=po) hpts hnx)) ?_;refine dK 11 ?_;refine JK Kr ?_;refine S1 ?_;refine cZ (λc3=>?_) (λc3=>?_)
   .have hne:pt xs j≠pt xs (nx xs j):=jk9 c3;refine S4 ?_;refine j5 J J (qq J) J (lb J) (λb6=>?_);refine N1 ?_;refine JQ (k:=6) J jw jG Dc J Dc J J J (λw' hs=>qL hs (k:=8) J J) (by simp[Value.oneCell']) (by unfold maxLen;omega) Om (jlL _) (λr1=>?_);refine N8 ?_;exact Jn hL2 ((j+1,r1)) ((show j+1<=xs.length by omega)) (by simp only;omega) ⟨(by rw[BI hne,jlJ];rfl),vi Om,sz⟩ (λ_ h=>h.upto ⟨J,J,J,J,J,J,by rw[BI hne,jlJ,jlW];rfl,trivial⟩)
   .refine S7 ?_;exact Jn hL2 ((j+1,qA,qc)) ((show j+1<=xs.length by omega)) (by simp only;omega) ⟨(by rw[Ih (ji1 c3)];rfl),vi Om,sz⟩ (λ_ h=>h.upto ⟨J,J,J,J,J,J,by rw[Ih (ji1 c3)],trivial⟩)
  .have hje:j=xs.length:=Om;subst hje;rw[show W3 xs xs.length=vx xs from rfl];refine S11 ?_;refine cZ (λc4=>?_) (λc4=>?_)
   .have hpl:0<(vx xs).length:=Om;refine S4 ?_;refine a9 (JD J J (Qn J)) ?_;refine S1 ?_;refine j5 J J (qe J) J (lb J) (λb7=>?_);refine N1 ?_;refine JQ (k:=3) J jC Jl Dc J Dc J J J (λw' hs=>qL hs (k:=7) J J) (by simp[Value.oneCell']) (by unfold maxLen;omega) Om (jlL _) (λr2=>?_);refine N4 ?_;refine YC 6 J J (λclo chi=>?_);refine t9 ?_;refine Ke 4 6 J J Dc J ?_;refine t9 ?_;refine S6 ?_;exact Jn hL1 ((k+1,r2,l++[⟨vx xs,qA,qc,clo,chi⟩])) (⟨show k+1<=n by omega,by rw[jma,hmp,zk Om (hxs▸hpl),hxs];rfl⟩) (by simp only;omega) ⟨vi Om,sz⟩ (λ_ h=>(h.picks [0,1,2,3,4] Dc).upto ⟨J,J,by rw[jlJ];rfl,by rw[jma,jlJ];rfl,(ve _ _).symm,trivial⟩)
   .refine S7 ?_;exact Jn hL1 ((k+1,(rA,rc),l)) (⟨show k+1<=n by omega,by rw[hmp,xI Om (by rw[<-hxs];omega)]⟩) (by simp only;omega) ⟨vi Om,sz⟩ (u9 J)
 .have hkn:k=rs.length:=Om;subst hkn;refine S12 ?_;refine jK J (qj (k:=1) J jD J J) ?_;intro w' hs;have hrs:l.map (·.xs)=ql rs:=hmp
  have hbl:(ql rs).length=l.length:=hlk.symm;exact⟨rA,rc,by rw[hbl],by rw[hbl];exact Y0 hs (kr:=3) (kp:=4) rfl rfl Dc rfl rfl hrs (λj hj=>by have:=X3 hr (jlY hj);rw[wb hj] at this;omega),hs.fin⟩
def yH(hot:List Pn)(E:List Leg)(k:Nat):List Pn:=(E.take k).flatMap λl=>QA hot (lA l,lB l)
theorem L8(h:k<E.length):yH hot E (k+1)=yH hot E k++QA hot (lA (lg E k),lB (lg E k)):=by
 unfold yH;rw[jlX h,jlW];simp[lg,List.getD,h]
theorem jcE(hot:List Pn)(e:Pn×Pn):(QA hot e).length<=hot.length:=by
 unfold QA;rw[List.length_dropLast,Wd];have:=HV e.1 e.2 hot
 omega
theorem HT{hot:List Pn}{E:List Leg}{m:Nat}(hm:hot.length<=m):∀k,k<=E.length->(yH hot E k).length<=k*m
 |0,_=>by simp[yH]
 |k+1,hk=>by
  have:=HT (E:=E) hm k Om;have:=jcE hot (lA (lg E k),lB (lg E k))
  rw[L8 Om,jlJ,Nat.succ_mul];omega
theorem Dz(hot xs:List Pn):Ko hot xs=yH hot (Jh xs) (Jh xs).length:=by unfold Ko yH;rw[jms]
def onHot(hot:List Pn)(E:List Leg):Prop:=∀l∈E,lA l≠lB l/\lA l∈hot/\lB l∈hot
theorem onHot.at_(h:onHot hot E)(hk:k<E.length):lA (lg E k)≠lB (lg E k)/\lA (lg E k)∈hot/\lB (lg E k)∈hot:=by
 have:=h E[k] (jlY hk);have e:lg E k=E[k]:=by simp[lg,List.getD,hk]
 rw[e];exact this
theorem jhL{P:Program}{f:FuncId}{w1:World}{T s:Nat}{xs:List Value}{b:Bool}(h:Calls P f args w1 λe w'=>∃v,e=.returned (.tuple #[.agg #[v],.bool b])/\w'.ownsRow w1.heap.size T s v n xs/\Over w1 w'):
  Calls P f args w1 λe w'=>∃x:Option Addr×Nat,e=.returned (.tuple #[.agg #[.slice x.1 n x.2],.bool b])/\Over w1 w'/\(JV 0 T s n xs x).P w'/\(∀b,(JV 0 T s n xs x).F b->w1.heap.size<=b)/\(JV 0 T s n xs x).B=0/\True:=by
 refine h.mono ?_;rintro e w' ⟨v,rfl,hr,hO⟩;obtain⟨x,rfl⟩:=Ub hr;exact⟨x,rfl,hO,wI hr (jlN _),λb hb=>(hr.lt b hb).1,sz⟩
theorem NB(bb oo:Nat)(A:Option Addr)(n c:Nat)(xs:List Pn)(B:Option Addr)(m d:Nat)(hot:List Pn)(w:World)(hcell:w.cell? ⟨bb,oo,none⟩=some (.slice A n c))(hbb:bb<w.heap.size)(h:Pts w A n xs)(hn:(n:Int)<=1048577)(hh:Pts w B m hot)(hm:m<=1048576)(hok:∀p∈hot,WT p.1 p.2=true)(hE:onHot hot (Jh xs)):
  Calls Tryz.prog 85 #[.pointer (some ⟨bb,oo,none⟩),.slice B m d] w λe w'=>∃v,e=.returned (.tuple #[.agg #[v],.bool (decide (0<(Jh xs).length))])/\w'.ownsRow w.heap.size 36 2 v (Ko hot xs).length ((Ko hot xs).flatMap Jt)/\Over w w':=by
 have hl:=h.1;have hhl:=hh.1
 obtain⟨E,hEe⟩:∃E,E=Jh xs:=⟨_,rfl⟩;have hEl:E.length<=1048577:=by rw[hEe];have:=Ku xs xs.length;unfold Jh;omega
 rw[Dz,<-hEe];rw[<-hEe] at hE;refine Jm (m:=44) (Tryz.func85) J J (lb J) ?_;refine S3 ?_;refine aL (λb1=>?_);refine N4 ?_;refine a9 (JD J J (Ks)) ?_;refine S1 ?_;refine aL (λb2=>?_);refine N3 ?_;refine QO (T:=36) (s:=2) ?_;refine t9 ?_;refine S4 ?_;refine J4 YW (v:=λx=>.slice x.1 _ x.2) (r:=λx=>JV 0 101 4 _ _ x) (H:=λ_=>True) J J J (lb J) (λw1 hs=>q6 ((zE bb oo A n c xs w1 (Ql hcell hbb w1 hs) (jlU hbb hs.fin.size) (h.over hs.fin) hn).mono λe w' ⟨v,h1,_,h2,h3⟩=>⟨v,h1,h2,h3⟩)) ?_;rintro⟨eA,ec⟩-;refine N7 ?_;rw[<-hEe];refine S1 ?_;refine JW (X:=Nat×Option Addr×Nat) (λx=>x.1<=E.length) (λx=>E.length-x.1) (λx=>[(8,.int .i64 (x.1:Int))]) (kK [1,4,5,6,7]) (λx=>[.cel b1 41 [.slice none 0 0],.cel b2 41 [.slice x.2.1 (yH hot E x.1).length x.2.2],JV (Bs.N ⟨w,[]⟩) 36 2 (yH hot E x.1).length ((yH hot E x.1).flatMap Jt) x.2,JV 0 101 4 E.length (E.flatMap jW) (eA,ec)]) (0,none,0) (jlN _) ⟨J,sz⟩ (λ_ h=>h) ?_;intro⟨k,rA,rc⟩ hx L hL1;refine v9 ?_;refine r9 ?_;have hk:k<=E.length:=hx
 have hsn:=HT (hot:=hot) (E:=E) (m:=1048576) Om k hk;refine S8 ?_;refine cZ (λc1=>?_) (λc1=>?_)
 .have hlt:k<E.length:=Om;obtain⟨g1',g2',g3'⟩:=hE.at_ hlt;obtain⟨mid,hmid⟩:=xX g1' g2' g3';have hpl:0<(qJ (lA (lg E k)) (lB (lg E k)) hot).length:=(by rw[hmid];simp)
  have hpm:(qJ (lA (lg E k)) (lB (lg E k)) hot).length<=1048576:=(by rw[Wd];have:=HV (lA (lg E k)) (lB (lg E k)) hot;omega);refine kW (λw hs=>V4 (k:=3) J hs Om) ?_;rintro⟨eg,rfl⟩;refine S6 ?_;refine JY 13 ?_;refine dK 0 ?_;refine dK 1 ?_;refine dK 2 ?_;refine dK 3 ?_;refine dZ 4 J (jj J J jk J (QB (b:=eg) (o:=0) (vL (k:=3) (x:=(some ⟨eg,0,none⟩,ec)) (ls:=E) J J) hlt)) ?_;refine dK 5 ?_;refine dK 6 ?_;refine dK 7 ?_;refine dK 8 ?_;refine dZ 9 J (jj J J jk J (Qg (b:=eg) (o:=0) (vL (k:=3) (x:=(some ⟨eg,0,none⟩,ec)) (ls:=E) J J) hlt)) ?_;refine dK 10 ?_;refine qg (i:=11) J Dc Kr J ?_;refine J4 Ok (v:=λx:Option Addr×Nat=>.slice x.1 (qJ (lA (lg E k)) (lB (lg E k)) hot).length x.2) (r:=λx=>JV 0 36 2 (qJ (lA (lg E k)) (lB (lg E k)) hot).length ((qJ (lA (lg E k)) (lB (lg E k)) hot).flatMap Jt) x) (H:=λ_=>True) J J J (lb J) (λw1 hs=>q6 (Nz (lA (lg E k)) (lB (lg E k)) B m d hot w1 (hh.over hs.fin) (hok _ g2') (hok _ g3') hok hm)) ?_;rintro⟨pA,pc⟩-;refine n9 ?_;refine yL (u9 J) ?_;refine dK 12 ?_;refine JK Kr ?_;refine S1 ?_;refine kW (λw hs=>V4 (k:=4) J hs hpl) ?_;rintro⟨pg,rfl⟩;refine kW (λw hs=>UD (hs.all 4 _ J).1) ?_;intro hcap;have hst:yH hot E (k+1)=yH hot E k++(qJ (lA (lg E k)) (lB (lg E k)) hot).take ((qJ (lA (lg E k)) (lB (lg E k)) hot).length-1):=(by rw[L8 hlt];unfold QA;rw[List.dropLast_eq_take])
  have hstl:(yH hot E (k+1)).length=(yH hot E k).length+((qJ (lA (lg E k)) (lB (lg E k)) hot).length-1):=(by rw[hst,jlJ,jl3];omega);refine S1 ?_;refine JY 7 ?_;refine dV 0 [1] ?_;refine dK 1 ?_;refine dV 2 [6] ?_;refine dV 3 [4,5,6] ?_;refine dV 4 [5,6] ?_;refine d9 5 J [6] (u9 J) ((JP J J J Om Om).as (congrArg _ (show(((qJ (lA (lg E k)) (lB (lg E k)) hot).length:Int)-1)=(((qJ (lA (lg E k)) (lB (lg E k)) hot).length-1:Nat):Int) by omega))) ?_;refine dZ 6 J ((KQ J J J jw Om).as (ui _ _ _ _ _)) ?_;refine vg J Kr J ?_;refine JQ (k:=2) J jw jG Dc J Dc J J J (λw' hs=>SK (uZ (hs.all 4 _ J).1 J) Om) (WL _) (by unfold maxLen;omega) Om (jlL _) (λr1=>?_);refine n9 ?_;refine Qy 10 [1] ?_;refine dK 8 ?_;refine qg (i:=9) J Dc Kr J ?_;refine S1 ?_;refine JS (uw [1] J) ?_;refine JK Kr ?_;refine S7 ?_;exact Jn hL1 ((k+1,r1)) ((show k+1<=E.length by omega)) (by simp only;omega) ⟨vi Om,sz⟩ (λ_ h=>(h.picks [0,1,2,3] Dc).upto ⟨J,by rw[hstl],by rw[hstl,hst,jlW],sz⟩)
 .have hkE:k=E.length:=Om;subst hkE;refine S16 ?_;refine qG J (qj (k:=0) J Jz J J) (.tmp J) ?_;intro w' hs;have hr:=hs.all 2 _ rfl
  exact⟨_,by rw[show decide ((E.length:Int)>0)=decide (0<E.length) from decide_eq_decide.2 Om],vM hr.1 (λb hb=>(hr.2.1 b hb).elim id (λh=>by cases h)),hs.fin⟩
theorem bareG.on(h:bareG hot rs)(hk:k<rs.length):onHot hot (Jh (rg rs k))/\0<(Jh (rg rs k)).length/\(Jh (rg rs k)).length=(rg rs k).length:=by
 obtain⟨hb,hm⟩:bare (rg rs k)/\∀p∈rg rs k,p∈hot:=by have:=h rs[k] (jlY hk);rwa [wb hk] at this
 refine⟨λl hl=>?_,by rw[wl hb];exact hb.1,wl hb⟩;rw[QQ hb] at hl;obtain⟨d,hd,rfl⟩:=jlR.1 hl;exact YZ hb hm d hd
theorem Xb(hx:xs.length<=400)(hm:hot.length<=1048576):(Ko hot xs).length<=419430400:=by
 rw[Dz];have h1:=Ku xs xs.length
 have h2:(Jh xs).length<=400:=by unfold Jh;omega
 have:=HT (hot:=hot) (E:=Jh xs) (m:=1048576) hm _ (jlL _);have h3:(Jh xs).length*1048576<=400*1048576:=Nat.mul_le_mul_right _ h2
 omega
theorem Ds(h:k<rs.length):rg (q8 hot rs) k=Ko hot (rg rs k):=by simp[q8,rg,List.getD,h]
theorem Vo(hot:List Pn)(rs:List jI):(q8 hot rs).length=rs.length:=by simp[q8]
theorem BK(bb oo:Nat)(A:Option Addr)(n c:Nat)(rs:List jI)(B:Option Addr)(m d:Nat)(hot:List Pn)(w:World)(hcell0:w.cell? ⟨bb,oo,none⟩=some (.slice A n c))(hbb:bb<w.heap.size)(h:Rings w A n rs)(hr:JG rs=true)(hh:Pts w B m hot)(hm:m<=1048576)(hok:∀p∈hot,WT p.1 p.2=true)(hG:bareG hot rs):
  Calls Tryz.prog 63 #[.pointer (some ⟨bb,oo,none⟩),.slice B m d] w λe w'=>∃A' c',e=.returned (qU A' n c')/\OwnG w.heap.size w'.heap.size w' A' n (q8 hot rs)/\Over w w':=by
 have hl:=h.1;have hn40:=V0 hr
 have hhl:=hh.1;refine Jm (m:=38) (Tryz.func63) J J (lb J) ?_;refine S3 ?_;refine aL (λb1=>?_);refine N3 ?_;refine a9 (JD J J (qo)) ?_;refine S1 ?_;refine aL (λb2=>?_);refine N3 ?_;refine QO (T:=41) (s:=1) ?_;refine t9 ?_;refine KY ?_;refine t9 ?_;refine S6 ?_;refine JW (X:=Nat×(Option Addr×Nat)×List Pc) (λx=>x.1<=n/\x.2.2.map (·.xs)=(q8 hot rs).take x.1) (λx=>n-x.1) (λx=>[(6,.int .i64 (x.1:Int))]) (kK [0,1,4,5]) (λx=>[.cel b1 25 [.slice none 0 0],.cel b2 25 [.slice x.2.1.1 x.1 x.2.1.2],JV (Bs.N ⟨w,[]⟩) 41 1 x.1 (x.2.2.map Pc.val) x.2.1,KD x.2.2]) (0,(none,0),[]) (⟨jlN _,J⟩) ⟨J,sz⟩ (λ_ h=>h) ?_;intro⟨k,⟨rA,rc⟩,l⟩ hx L hL1;refine v9 ?_;refine r9 ?_;obtain⟨hk,hmp⟩:k<=n/\l.map (·.xs)=(q8 hot rs).take k:=hx;have hlk:l.length=k:=(by have:=congrArg List.length hmp;rw[jlV,jl3,Vo] at this;omega)
 refine S7 ?_;refine a9 (jn J J JA (QZ hcell0 hbb)) ?_;refine S3 ?_;refine cZ (λc1=>?_) (λc1=>?_)
 .have hlt:k<n:=Om;obtain⟨eb,eo,Ak,ck,rfl,hbB,hcell,hpts,hmax⟩:=h.at_ hlt;have hpos:=Qj (kg hr (show k<rs.length by omega))
  obtain⟨ho1,ho2,ho3⟩:=hG.on (show k<rs.length by omega);have hsl:=Xb (hot:=hot) (xs:=rg rs k) Om Om
  refine S9 ?_;refine a9 (jn J J JA (QZ hcell0 hbb)) ?_;refine S4 ?_;refine J4 On (v:=λx:Option Addr×Nat=>.tuple #[.agg #[.slice x.1 (Ko hot (rg rs k)).length x.2],.bool (decide (0<(Jh (rg rs k)).length))]) (r:=λx=>JV 0 36 2 _ _ x) (H:=λ_=>True) J J J (lb J) (λw1 hs=>jhL (NB eb (eo+k*1) Ak _ ck (rg rs k) B m d hot w1 (by rw[jmL];exact Ql hcell hbB w1 hs) (jlU hbB hs.fin.size) (hpts.over hs.fin) Om (hh.over hs.fin) hm hok ho1)) ?_;rintro⟨tA,tc⟩-;refine N4 ?_;refine aL (λb3=>?_);refine N8 ?_;refine jdD J ((decide_eq_true ho2)) ?_;refine S5 ?_;refine j5 J J (qe J) J (lb J) (λb4=>?_);refine N1 ?_;refine JQ (k:=2) J jC Jl Dc J Dc J J J (λw' hs=>qL hs (k:=6) J J) (by simp[Value.oneCell']) (by unfold maxLen;omega) Om (jlL _) (λr1=>?_);refine N4 ?_;refine YC 4 J J (λclo chi=>?_);refine t9 ?_;refine Ke 3 4 J J Dc J ?_;refine t9 ?_;refine S7 ?_;exact Jn hL1 ((k+1,r1,l++[⟨Ko hot (rg rs k),tA,tc,clo,chi⟩])) (⟨show k+1<=n by omega,by rw[jma,hmp,WQ (by rw[Vo];omega),Ds Om];rfl⟩) (by simp only;omega) ⟨vi Om,sz⟩ (λ_ h=>(h.picks [0,1,2,3] Dc).upto ⟨J,J,by rw[jma];rfl,(ve _ _).symm,trivial⟩)
 .have hkn:k=n:=Om;subst hkn;refine S12 ?_;refine jK J (qj (k:=0) J jD J J) ?_;intro w' hs;have hrs:l.map (·.xs)=q8 hot rs:=(by rw[hmp,jme (by rw[Vo];omega)])
  exact⟨rA,rc,rfl,Y0 hs (kr:=2) (kp:=3) rfl rfl Dc rfl hlk hrs (λj hj=>by rw[Vo] at hj;rw[Ds hj];have:=Qj (kg hr hj);have:=Xb (hot:=hot) (xs:=rg rs j) Om Om;omega),hs.fin⟩
def Zx(hot:List Pn):Nat->List jI->Nat->Option (List jI×Nat)
 |0,_,_=>none
 |f+1,rs,r=>if JG (q8 hot rs)=false then none else if q8 hot rs=rs then some (rs,r) else Zx hot f (q8 hot rs) (r+1)
def Mb(hot:List Pn)(rs:List jI):Option (List jI×Nat):=Zx hot 402 rs 0
structure StabI (hot:List Pn) (rs0 rs:List jI) (r:Nat):Prop where
 eq:Mb hot rs0=Zx hot (402-r) rs r
 reg:JG rs=true
 bare:bareG hot rs
 cnt:r+cnt rs0<=cnt rs
theorem Sx(h:JG rs=true)(hb:bareG hot rs):Go.Proofs.YtjbahemkhphndaaGreat.cnt rs<=400:=by
 rw[<-GU λr hr=>(hb r hr).1];simp[JG] at h;omega
theorem StabI.start(h:JG rs=true)(hb:bareG hot rs):StabI hot rs rs 0:=⟨rfl,h,hb,by omega⟩
theorem StabI.r_le(h:StabI hot rs0 rs r):r<=400:=by
 have:=Sx h.reg h.bare;have:=h.cnt
 omega
theorem StabI.unf(h:StabI hot rs0 rs r):Mb hot rs0=if JG (q8 hot rs)=false then none else if q8 hot rs=rs then some (rs,r) else Zx hot (402-(r+1)) (q8 hot rs) (r+1):=by
 have:=h.r_le;rw[h.eq,show 402-r=402-(r+1)+1 by omega,Zx]
theorem StabI.full(h:StabI hot rs0 rs r)(hb:JG (q8 hot rs)=false):Mb hot rs0=none:=by rw[h.unf,if_pos hb]
theorem StabI.fin(h:StabI hot rs0 rs r)(he:q8 hot rs=rs):Mb hot rs0=some (rs,r):=by
 rw[h.unf,if_neg (by rw[he,h.reg];decide),if_pos he]
theorem StabI.step(hnd:hot.Nodup)(h:StabI hot rs0 rs r)(hb:JG (q8 hot rs)=true)(he:q8 hot rs≠rs):StabI hot rs0 (q8 hot rs) (r+1)/\Go.Proofs.YtjbahemkhphndaaGreat.cnt rs<Go.Proofs.YtjbahemkhphndaaGreat.cnt (q8 hot rs):=by
 obtain⟨g1,g2⟩:=IT hnd h.bare;have hlt:Go.Proofs.YtjbahemkhphndaaGreat.cnt rs<Go.Proofs.YtjbahemkhphndaaGreat.cnt (q8 hot rs):=Nat.lt_of_le_of_ne g1 λe=>he (g2 e.symm)
 refine⟨⟨?_,hb,h.bare.snap hnd,?_⟩,hlt⟩
 .rw[h.unf,if_neg (by rw[hb];decide),if_neg he]
 .have:=h.cnt;omega
def jg7(w:World)(n:Nat)(rs:List jI)(x:Bool×(Option Addr×Nat)×Nat×Nat):Res:=
 if x.1=true then {F:=λ_=>False,P:=λ_=>Rings w x.2.1.1 n rs,low:=λ_ _ _ h=>h.elim,B:=0,dep:=λ_ _ h _ _=>h} else K4 n rs x.2.2.1 x.2.2.2 x.2.1.1
theorem TX{w':World}(h:(jg7 w n rs x).P w')(hO:Over w w'):Rings w' x.2.1.1 n rs:=by
 unfold jg7 at h;split at h
 .exact(show Rings w x.2.1.1 n rs from h).over hO
 .exact(yg h).rings
theorem jgL{m:Nat}{c:Nat}(h0:Rings w A n rs)(h:At m env ⟨w,[]⟩ (Rs++[jg7 w n rs (true,(A,c),0,0)]) K):At m env ⟨w,[]⟩ Rs K:=
 λa w1 hf hs=>h a w1 hf (hs.add (Over.refl _) (show Rings w A n rs from h0) (λb hb=>(show False from hb).elim) ⟨jlN _,λ_ _=>jlN _⟩)
theorem jkk{o:Nat}{v:Value}(hc:w.cell? ⟨b,o,none⟩=some v)(hb:b<w.heap.size):∀w',St ⟨w,[]⟩ Rs w'->∀q u,[v][q]? =some u->w'.cell? ⟨b,o+q,none⟩=some u:=λw' hs q u hq=>by
 match q,hq with
 |0,hq=>simp at hq;subst hq;exact Ql hc hb w' hs
def SO(hot:List Pn)(rs:List jI):List jI:=match Mb hot rs with
 |some x=>x.1
 |none=>[]
def stN(hot:List Pn)(rs:List jI):Int:=match Mb hot rs with
 |some x=>(x.2:Int)
 |none=>0
def FH(hot:List Pn)(rs:List jI):Bool:=(Mb hot rs).isSome
theorem SP(h:Mb hot rs=none):SO hot rs=[]/\stN hot rs=0/\FH hot rs=false:=by simp[SO,stN,FH,h]
theorem zY{ss:List jI}(h:Mb hot rs=some (ss,r)):SO hot rs=ss/\stN hot rs=(r:Int)/\FH hot rs=true:=by simp[SO,stN,FH,h]
theorem Xz(bb oo:Nat)(A:Option Addr)(n c:Nat)(rs:List jI)(B:Option Addr)(m d:Nat)(hot:List Pn)(w:World)(hcell0:w.cell? ⟨bb,oo,none⟩=some (.slice A n c))(hbb:bb<w.heap.size)(h:Rings w A n rs)(hr:JG rs=true)(hh:Pts w B m hot)(hm:m<=1048576)(hok:∀p∈hot,WT p.1 p.2=true)(hnd:hot.Nodup)(hG:bareG hot rs):
  Calls Tryz.prog 42 #[.pointer (some ⟨bb,oo,none⟩),.slice B m d] w λe w'=>∃A' c',e=.returned (.tuple #[qU A' (SO hot rs).length c',.int .i64 (stN hot rs),.bool (FH hot rs)])/\OwnG w.heap.size w'.heap.size w' A' (SO hot rs).length (SO hot rs)/\Over w w':=by
 have hl:=h.1;subst hl;have hn40:=V0 hr
 refine Jm (m:=26) (Tryz.func42) J J (lb J) ?_;refine S3 ?_;refine aL (λb1=>?_);refine N7 ?_;refine a9 (jj J J jD J (jkk hcell0 hbb)) ?_;refine S1 ?_;refine aL (λb2=>?_);refine N3 ?_;refine jgL (c:=c) h ?_;refine t9 ?_;refine S5 ?_;refine JW (X:=Nat×List jI×Bool×(Option Addr×Nat)×Nat×Nat) (λx=>StabI hot rs x.2.1 x.1) (λx=>401-cnt x.2.1) (λx=>[(8,.int .i64 (x.1:Int))]) (kK [1,4,5,6,7]) (λx=>[.cel b1 25 [.slice none 0 0],.cel b2 25 [.slice x.2.2.2.1.1 x.2.1.length x.2.2.2.1.2],jg7 w x.2.1.length x.2.1 x.2.2]) (0,rs,true,(A,c),0,0) (StabI.start hr hG) ⟨J,sz⟩ (λ_ h=>h) ?_;intro⟨r,ss,fl,⟨cA,cc⟩,clo,chi⟩ hx L hL1;refine v9 ?_;refine r9 ?_;have hx1:StabI hot rs ss r:=hx
 have hr400:=hx1.r_le;have hs40:=V0 hx1.reg
 refine S6 ?_;refine J4 Ge (X:=(Option Addr×Nat)×Nat×Nat) (v:=λx=>qU x.1.1 ss.length x.1.2) (r:=λx=>K4 ss.length (q8 hot ss) x.2.1 x.2.2 x.1.1) (H:=λ_=>True) J J J (lb J) (λw1 hs=>vz (BK b2 0 cA ss.length cc ss B m d hot w1 (qr (k:=1) J J w1 hs) (J3 (hs.cel (k:=1) J)) (TX (hs.all 2 _ J).1 hs.fin) hx1.reg (hh.over hs.fin) hm hok hx1.bare)) ?_;rintro⟨⟨gA,gc⟩,glo,ghi⟩-;refine N1 ?_;refine aL (λb3=>?_);refine N6 ?_;refine a9 (jT Uk J J (λw1 hs=>Lz b3 0 gA ss.length gc (q8 hot ss) w1 (qr (k:=4) J J w1 hs) (J3 (hs.cel (k:=4) J)) (yg (hs.all 3 _ J).1).rings Om)) ?_;refine S2 ?_;refine cZ (λc1=>?_) (λc1=>?_)
 .refine S2 ?_;refine a9 (JD J J (qo)) ?_;refine S11 ?_;refine Ox J (qj (k:=0) J jD J J) (.tmp J) (.tmp J) ?_;intro w' hs;obtain⟨e1,e2,e3⟩:=SP (hx1.full c1);exact⟨none,0,by rw[e1,e2,e3];rfl,by rw[e1];exact OwnG.nil none,hs.fin⟩
 .refine S7 ?_;refine a9 (jT Gb J J (λw1 hs=>Gq gA cA ss.length ss.length gc cc (q8 hot ss) ss w1 (yg (hs.all 3 _ J).1).rings (TX (hs.all 2 _ J).1 hs.fin) (smallR.of c1).total (smallR.of hx1.reg).total)) ?_;refine S1 ?_;refine cZ (λc2=>?_) (λc2=>?_)
  .refine S15 ?_;refine Ox J (qj (k:=0) J jD J J) (.tmp J) (.tmp J) ?_;intro w' hs;obtain⟨e1,e2,e3⟩:=zY (hx1.fin c2);have hg:=hs.all 3 _ rfl
   have ho:=Lu hg.1 (λb hb=>(hg.2.1 b hb).elim id (λh=>by cases h));rw[c2] at ho;exact⟨gA,gc,by rw[e1,e2,e3],by rw[e1];exact ho,hs.fin⟩
  .obtain⟨k1,k2⟩:=hx1.step hnd c1 c2;have hc4:=Sx k1.reg k1.bare
   refine S14 ?_;exact Jn hL1 ((r+1,q8 hot ss,false,(gA,gc),glo,ghi)) (k1) (by simp only;omega) ⟨vi Om,sz⟩ (λ_ h=>(h.picks [0,1,3] Dc).upto ⟨J,by rw[Vo],by rw[Vo];rfl,trivial⟩)
end Go.Proofs.YtjbahemkhphndaaGreat
