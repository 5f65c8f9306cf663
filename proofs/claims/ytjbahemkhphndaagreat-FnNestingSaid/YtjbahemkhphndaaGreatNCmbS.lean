import Derived.Test.YtjbahemkhphndaaGreatNCmbW
import Derived.Test.YtjbahemkhphndaaGreatNOrder
import Derived.Test.YtjbahemkhphndaaGreatNOwn
import Derived.Test.YtjbahemkhphndaaGreatNFit
import Derived.Test.YtjbahemkhphndaaGreatNRev
import Derived.Test.YtjbahemkhphndaaGreatNDrw3
set_option linter.unusedVariables false
set_option linter.unusedSimpArgs false
namespace Go.Proofs.YtjbahemkhphndaaGreat
open Go Go.RowKit
section
set_option maxRecDepth 100000
set_option maxHeartbeats 4000000
theorem CO(A:Option Addr)(n c:Nat)(rs:List jI)(w:World)(h:Rings w A n rs)(hm:(n:Int)<=9223372036854775807):
  Calls Tryz.prog 45 #[qU A n c] w λe w'=>e=.returned (.tuple #[qU (if JG rs=true then A else none) (if JG rs=true then n else 0) (if JG rs=true then c else 0),.int .i64 (M6 rs)])/\Over w w':=by
 refine Jm (m:=8) (Tryz.func45) J J (lb J) ?_;refine S3 ?_;refine aX (λb1=>?_);refine N1 ?_;refine aL (λb2=>?_);refine N5 ?_;refine a9 (jT Uk J J (λw1 hs=>Lz _ _ A n c rs w1 (qr (k:=0) J J w1 hs) (J3 (hs.cel (k:=0) J)) (h.over hs.fin) hm)) ?_;refine S2 ?_;refine cZ (λc1=>?_) (λc1=>?_)
 .refine S2 ?_;refine a9 (JD J J (qo)) ?_;refine S6 ?_;refine qG J (qj (k:=1) J jD J J) (.tmp J) ?_;intro w' hs;exact⟨by simp[M6,c1],hs.fin⟩
 .refine S10 ?_;refine qG J (qj (k:=1) J jD J J) (.tmp J) ?_;intro w' hs;exact⟨by simp[M6,c1],hs.fin⟩
theorem BM(p1 q1 p2 q2:Nat)(A:Option Addr)(n c:Nat)(rs:List jI)(A2:Option Addr)(n2 c2_:Nat)(ss:List jI)(how:Int)(w:World)(hc1:w.cell? ⟨p1,q1,none⟩=some (.slice A n c))(hb1:p1<w.heap.size)(hc2:w.cell? ⟨p2,q2,none⟩=some (.slice A2 n2 c2_))(hb2:p2<w.heap.size)(h:Rings w A n rs)(h2:Rings w A2 n2 ss)(hr:JG rs=true)(hr2:JG ss=true):
  Calls Tryz.prog 27 #[.pointer (some ⟨p1,q1,none⟩),.pointer (some ⟨p2,q2,none⟩),.int .i64 how] w λe w'=>∃A' c',e=.returned (.tuple #[qU A' (Fj rs ss how).length c',.int .i64 (Cl rs ss how)])/\OwnG w.heap.size w'.heap.size w' A' (Fj rs ss how).length (Fj rs ss how)/\Over w w':=by
 have hl:=h.1;have hl2:=h2.1
 have ht1:=(smallR.of hr).total;have ht2:=(smallR.of hr2).total
 have hE1:=zP hr;have hE2:=zP hr2
 refine Jm (m:=67) (Tryz.func27) J J (lb J) ?_;refine S3 ?_;refine aL (λb1=>?_);refine N6 ?_;refine J4 wu (v:=λx=>.slice x.1 (jH rs).length x.2) (r:=λx=>JV 0 101 4 (jH rs).length ((jH rs).flatMap jW) x) (H:=λ_=>True) J J J (lb J) (λw1 hs=>zD p1 q1 A n c rs w1 J (Ql hc1 hb1 w1 hs) (jlU hb1 hs.fin.size) (h.over hs.fin) (jmN ht1 Dc)) ?_;rintro⟨eA,ec⟩-;refine N2 ?_;refine J4 wu (v:=λx=>.slice x.1 (jH ss).length x.2) (r:=λx=>JV 0 101 4 (jH ss).length ((jH ss).flatMap jW) x) (H:=λ_=>True) J J J (lb J) (λw1 hs=>zD p2 q2 A2 n2 c2_ ss w1 J (Ql hc2 hb2 w1 hs) (jlU hb2 hs.fin.size) (h2.over hs.fin) (jmN ht2 Dc)) ?_;rintro⟨fA,fc⟩-;refine N1 ?_;refine JQ (k:=1) J JF kO Dc J Dc J J J (λw' hs=>jiA hs (k:=2) J) (BP _) (by unfold maxLen;omega) Om (jlN _) (λr1=>?_);refine N2 ?_;rw[<-jlW,<-jlJ];rw[show jH rs++jH ss=Ro rs ss from rfl];refine S7 ?_;refine cZ (λc1=>?_) (λc1=>?_)
 .refine S2 ?_;refine a9 (JD J J (qo)) ?_;refine S6 ?_;refine qG J (qj (k:=0) J jD J J) (.tmp J) ?_;intro w' hs;have hno:=jaa (rs:=rs) (ss:=ss) (show¬(Ro rs ss).length<=400 by omega)
  obtain⟨e3,e4⟩:=OA (how:=how) hno;exact⟨none,0,by rw[e3,e4];rfl,by rw[e3];exact OwnG.nil none,hs.fin⟩
 .have h4:(Ro rs ss).length<=400:=Om;have hC:CmOk rs ss:=⟨hr,hr2,h4⟩
  have hk:=hC.hot1;have hk2:=hC.hot2
  refine S6 ?_;refine J4 B4 (v:=λx:Option Addr×Nat=>.slice x.1 (uA rs ss).length x.2) (r:=λx=>JV 0 36 2 (uA rs ss).length ((uA rs ss).flatMap Jt) x) (H:=λ_=>True) J J J (lb J) (λw1 hs=>q6 (CP r1.1 _ r1.2 (Ro rs ss) w1 (vL (k:=1) (x:=r1) (ls:=Ro rs ss) J J w1 hs) hC.legs h4)) ?_;rintro⟨pA,pc⟩-;refine N6 ?_;refine J4 Zr (X:=(Option Addr×Nat)×Nat×Nat) (v:=λx=>qU x.1.1 (ql rs).length x.1.2) (r:=λx=>K4 (ql rs).length (ql rs) x.2.1 x.2.2 x.1.1) (H:=λ_=>True) J J J (lb J) (λw1 hs=>vz (Mv p1 q1 A n c rs w1 (Ql hc1 hb1 w1 hs) (jlU hb1 hs.fin.size) (h.over hs.fin) hr)) ?_;rintro⟨⟨gA,gc⟩,glo,ghi⟩-;refine N1 ?_;refine aL (λb2=>?_);refine N7 ?_;refine J4 Zr (X:=(Option Addr×Nat)×Nat×Nat) (v:=λx=>qU x.1.1 (ql ss).length x.1.2) (r:=λx=>K4 (ql ss).length (ql ss) x.2.1 x.2.2 x.1.1) (H:=λ_=>True) J J J (lb J) (λw1 hs=>vz (Mv p2 q2 A2 n2 c2_ ss w1 (Ql hc2 hb2 w1 hs) (jlU hb2 hs.fin.size) (h2.over hs.fin) hr2)) ?_;rintro⟨⟨kA,kc⟩,klo,khi⟩-;refine N1 ?_;refine aL (λb3=>?_);refine N7 ?_;refine J4 y4 (X:=(Option Addr×Nat)×Nat×Nat) (v:=λx=>.tuple #[qU x.1.1 (Ui rs ss).length x.1.2,.int .i64 (stN (uA rs ss) (ql rs)),.bool (ud rs ss)]) (r:=λx=>K4 (Ui rs ss).length (Ui rs ss) x.2.1 x.2.2 x.1.1) (H:=λ_=>True) J J J (lb J) (λw1 hs=>vz (V:=λA' c'=>.tuple #[qU A' (Ui rs ss).length c',.int .i64 (stN (uA rs ss) (ql rs)),.bool (ud rs ss)]) (Xz _ _ gA _ gc (ql rs) pA (uA rs ss).length pc (uA rs ss) w1 (qr (k:=5) J J w1 hs) (J3 (hs.cel (k:=5) J)) (yg (hs.all 4 _ J).1).rings hk.reg (uZ (hs.all 3 _ J).1 J) hk.len hk.ok hk.nd hk.bare)) ?_;rintro⟨⟨hA,hc⟩,hlo,hhi⟩-;refine N5 ?_;refine aL (λb4=>?_);refine N9 ?_;refine J4 y4 (X:=(Option Addr×Nat)×Nat×Nat) (v:=λx=>.tuple #[qU x.1.1 (ur rs ss).length x.1.2,.int .i64 (stN (uA rs ss) (ql ss)),.bool (Uz rs ss)]) (r:=λx=>K4 (ur rs ss).length (ur rs ss) x.2.1 x.2.2 x.1.1) (H:=λ_=>True) J J J (lb J) (λw1 hs=>vz (V:=λA' c'=>.tuple #[qU A' (ur rs ss).length c',.int .i64 (stN (uA rs ss) (ql ss)),.bool (Uz rs ss)]) (Xz _ _ kA _ kc (ql ss) pA (uA rs ss).length pc (uA rs ss) w1 (qr (k:=7) J J w1 hs) (J3 (hs.cel (k:=7) J)) (yg (hs.all 6 _ J).1).rings hk2.reg (uZ (hs.all 3 _ J).1 J) hk2.len hk2.ok hk2.nd hk2.bare)) ?_;rintro⟨⟨mA,mc⟩,mlo,mhi⟩-;refine N5 ?_;refine aL (λb5=>?_);refine N1 ?_;refine j9 11 jp.szx ?_;refine N4 ?_;refine qH [(51,.bool (!(ud rs ss&&Uz rs ss)))] (kK [2,6,7,12,15]) (λL h_9=>?_) ?_
  .refine S4 ?_;refine cV 48 (λg1=>?_) (λg1=>?_)
   .refine S4 ?_;exact Jx h_9 ⟨vb (by rw[g1];rfl),sz⟩ (u9 J)
   .refine S6 ?_;exact Jx h_9 ⟨vb (by rw[g1,jlZ]),sz⟩ (u9 J)
  .refine v9 ?_;refine cZ (λc2=>?_) (λc2=>?_)
   .refine S2 ?_;refine a9 (JD J J (qo)) ?_;refine S6 ?_;refine qG J (qj (k:=0) J jD J J) (.tmp J) ?_;intro w' hs;have hO:(ud rs ss&&Uz rs ss)=false:=(by simpa using c2)
    obtain⟨e3,e4⟩:=OA (how:=how) (jej hO);exact⟨none,0,by rw[e3,e4];rfl,by rw[e3];exact OwnG.nil none,hs.fin⟩
   .have hO:(ud rs ss&&Uz rs ss)=true:=(by simpa using c2);have hO1:ud rs ss=true:=(by rw[jlK] at hO;exact hO.1)
    have hO2:Uz rs ss=true:=(by rw[jlK] at hO;exact hO.2);have hg1:=(xy hk hO1).1
    have hg2:=(xy hk2 hO2).1;have hs1:=(smallR.of hg1).total
    have hs2:=(smallR.of hg2).total;have hTw:=hC.two hO1 hO2
    have hPr:=hC.pair hO1 hO2;have hoT:=hC.okT hO1 hO2 how
    obtain⟨e3,e4⟩:=jd1 (how:=how) (jei h4 hO);rw[e3,e4];obtain⟨E1,hE1'⟩:∃E,E=jH (Ui rs ss):=⟨_,rfl⟩;obtain⟨E2,hE2'⟩:∃E,E=jH (ur rs ss):=⟨_,rfl⟩;have hBr:Qp rs ss how=vW E1 E2 how:=(by rw[hE1',hE2'];rfl)
    have hf1:Fine (jH (Ui rs ss)):=YK hg1;have hf2:Fine (jH (ur rs ss)):=YK hg2
    rw[<-hE1',<-hE2'] at hTw hPr;rw[<-hE1'] at hf1;rw[<-hE2'] at hf2;have hsm:=jdK (how:=how) hTw hf1 hf2 hPr
    obtain⟨netFst,hN1⟩:∃N,N=Qf false E1 []:=⟨_,rfl⟩;obtain⟨NL,hNL⟩:∃N,N=Qf true E2 netFst:=⟨_,rfl⟩;have hNe:NL=wd E1 E2:=(by rw[hNL,hN1];rfl)
    have hl1:=hTw.lnE;have hl2':=hTw.lnF
    have hNl:NL.length<=800:=(by have:=jiI E1 E2;rw[<-hNe] at this;omega);have hNa:∀t,aS t NL<=800:=(λt=>by have:=jll E1 E2 t;rw[<-hNe] at this;omega)
    rw[<-hNe,<-hBr] at hsm;have hBo:BoOk (Qp rs ss how):=(by rw[hBr];exact XQ hTw)
    have hN1l:netFst.length<=400:=(by have:=uH (s:=false) E1 [];rw[<-hN1] at this;simp only[jl5] at this;omega);have hN1a:∀t,aS t netFst<=4096:=(λt=>by have:=ZK (s:=false) (t:=t) E1 [];rw[<-hN1,jdj] at this;split at this<;>omega)
    have hNo:∀y∈NL,qK y.e:=(λy hy=>(G5 hTw.ok hTw.ne (p:=y.e) (by rw[<-DR,<-hNe];exact jlR.2 ⟨_,hy,rfl⟩)).1.ok);refine S3 ?_;refine QO (T:=109) (s:=8) ?_;refine t9 ?_;refine S2 ?_;refine J4 wu (v:=λx=>.slice x.1 E1.length x.2) (r:=λx=>JV 0 101 4 E1.length (E1.flatMap jW) x) (H:=λ_=>True) J J J (lb J) (λw1 hs=>zD _ _ hA _ hc (Ui rs ss) w1 hE1' (qr (k:=9) J J w1 hs) (J3 (hs.cel (k:=9) J)) (yg (hs.all 8 _ J).1).rings (jmN hs1 Dc)) ?_;rintro⟨xA,xc⟩-;refine N1 ?_;refine qm (k:=12) (X:=Option Addr×Nat) (v:=λy=>.slice y.1 netFst.length y.2) (r':=λy=>Tb netFst y) xg J J J Dc J (λw1 hs=>hN1▸BL xA _ xc E1 false [] (none,0) w1 (Y2 (hs.all 13 _ J).1 J) hTw.ok1 Om (by simp) (λt=>by rw[jdj];omega) (Ek _ _ _ _) (λ_ p _=>by simp[Sv])) ?_;rintro⟨lA,lc⟩;refine N1 ?_;refine J4 wu (v:=λx=>.slice x.1 E2.length x.2) (r:=λx=>JV 0 101 4 E2.length (E2.flatMap jW) x) (H:=λ_=>True) J J J (lb J) (λw1 hs=>zD _ _ mA _ mc (ur rs ss) w1 hE2' (qr (k:=11) J J w1 hs) (J3 (hs.cel (k:=11) J)) (yg (hs.all 10 _ J).1).rings (jmN hs2 Dc)) ?_;rintro⟨yA,y_c⟩-;refine N1 ?_;refine qm (k:=12) (X:=Option Addr×Nat) (v:=λy=>.slice y.1 NL.length y.2) (r':=λy=>Tb NL y) xg J J J Dc J (λw1 hs=>hNL▸BL yA _ y_c E2 true netFst (lA,lc) w1 (Y2 (hs.all 14 _ J).1 J) hTw.ok2 Om Om hN1a (hs.all 12 _ J).1 (λ_ p hp hb=>hs.apart 12 14 _ _ Dc J J p.block (zO.2 hb) (by show Value.ownBlock (.slice yA E2.length y_c)=some p.block;rw[hp];rfl))) ?_;rintro⟨zA,zc⟩;refine N6 ?_;refine xh (k:=12) (r':=JV 0 109 8 NL.length ((UP NL).flatMap qz) (zA,zc)) LN J J J Dc J (λw1 hs=>RO NL (zA,zc) w1 (hs.all 12 _ J).1 hNo Om (λt=>by have:=hNa t;omega)) (λ_ h=>h) J ?_;refine N6 ?_;refine J4 Hx (v:=λx:Option Addr×Nat=>.slice x.1 (Qp rs ss how).length x.2) (r:=λx=>JV 0 101 4 (Qp rs ss how).length ((Qp rs ss how).flatMap jW) x) (H:=λ_=>True) J J J (lb J) (λw1 hs=>q6 (by have:=Fu NL (zA,zc) how w1 (hs.all 12 _ J).1 Om (λt=>by have:=hNa t;omega);rw[hsm] at this;exact this)) ?_;rintro⟨bA,bc⟩-;refine N1 ?_;refine J4 LO (X:=(Option Addr×Nat)×Nat×Nat) (v:=λx=>.slice x.1.1 (vX rs ss how).length x.1.2) (r:=λx=>K4 (vX rs ss how).length (vX rs ss how) x.2.1 x.2.2 x.1.1) (H:=λ_=>True) J J J (lb J) (λw1 hs=>vz (V:=λA' c'=>.slice A' (vX rs ss how).length c') (RP bA _ bc (Qp rs ss how) w1 (vL (k:=15) (x:=(bA,bc)) (ls:=Qp rs ss how) J J w1 hs) hBo)) ?_;rintro⟨⟨tA,tc⟩,tlo,thi⟩-;refine N1 ?_;refine J4 LM (X:=(Option Addr×Nat)×Nat×Nat) (v:=λx=>qU x.1.1 (vX rs ss how).length x.1.2) (r:=λx=>K4 (vX rs ss how).length (vm (vX rs ss how)) x.2.1 x.2.2 x.1.1) (H:=λ_=>True) J J J (lb J) (λw1 hs=>vz (V:=λA' c'=>qU A' (vX rs ss how).length c') (RN tA _ tc (vX rs ss how) w1 (yg (hs.all 16 _ J).1).rings hoT)) ?_;rintro⟨⟨oA,oc⟩,olo,ohi⟩-;refine n9 ?_;refine a9 (jT B3 J J (λw1 hs=>CO oA _ oc (vm (vX rs ss how)) w1 (yg (hs.all 17 _ J).1).rings (by have:=hoT.1;omega))) ?_;refine S7 ?_;refine qG J (qj (k:=0) J jD J J) (.tmp J) ?_;intro w' hs;have hg:=hs.all 17 _ rfl
    have ho:OwnG w.heap.size w'.heap.size w' oA (vX rs ss how).length (vm (vX rs ss how)):=Lu hg.1 (λb hb=>(hg.2.1 b hb).elim id (λh=>by cases h));have hol:=Di (vX rs ss how)
    refine⟨if JG (vm (vX rs ss how))=true then oA else none,if JG (vm (vX rs ss how))=true then oc else 0,?_,?_,hs.fin⟩
    cases hb:JG (vm (vX rs ss how));simp[Ls,M6,hb];simp[Ls,M6,hb,hol];cases hb:JG (vm (vX rs ss how));simpa[Ls,hb] using OwnG.nil none;simpa[Ls,hb,hol] using ho
end
section
theorem RingsC.rings{w:World}{A:Option Addr}{n:Nat}{rs:List jI}(h:RingsC w A n rs)(hs:∀r∈rs,r.length<=1048577):Rings w A n rs:=⟨h.1,λhn=>by
 have hl:=h.1;obtain⟨b,o,hA,hb,hc⟩:=h.2 hn;refine⟨b,o,hA,hb,λk hk=>?_⟩;obtain⟨Ak,ck,h1,h2,h3⟩:=hc k hk;have:=hs rs[k] (jlY Om)
 rw[wb Om] at this;exact⟨Ak,ck,h1,h2,by omega⟩⟩
end
section
variable{rs:List jI}
set_option maxRecDepth 100000
set_option maxHeartbeats 4000000
theorem To(A:Option Addr)(n c:Nat)(rs:List jI)(A2:Option Addr)(n2 c2_:Nat)(ss:List jI)(w:World)(h:Rings w A n rs)(hm:(n:Int)<=9223372036854775807)(h2:Rings w A2 n2 ss)(hm2:(n2:Int)<=9223372036854775807):
  Calls Tryz.prog 49 #[qU A n c,qU A2 n2 c2_] w λe w'=>∃A' c',e=.returned (.tuple #[qU A' (uv rs ss 1).length c',.int .i64 (Xu rs ss 1)])/\OwnG w.heap.size w'.heap.size w' A' (uv rs ss 1).length (uv rs ss 1)/\Over w w':=by
 refine Jm (m:=11) (Tryz.func49) J J (lb J) ?_;refine S3 ?_;refine aX (λb1=>?_);refine N1 ?_;refine aX (λb2=>?_);refine N1 ?_;refine aL (λb3=>?_);refine N7 ?_;refine J4 zL (X:=(Option Addr×Nat)×Nat×Nat) (v:=λx=>.tuple #[qU x.1.1 (uv rs ss 1).length x.1.2,.int .i64 (Xu rs ss 1)]) (r:=λx=>K4 (uv rs ss 1).length (uv rs ss 1) x.2.1 x.2.2 x.1.1) (H:=λ_=>True) J J J (lb J) (λw1 hs=>vz (V:=λA' c'=>.tuple #[qU A' (uv rs ss 1).length c',.int .i64 (Xu rs ss 1)]) (XK A n c rs A2 n2 c2_ ss 1 w1 (h.over hs.fin) hm (h2.over hs.fin) hm2)) ?_;rintro⟨⟨oA,oc⟩,olo,ohi⟩-;refine N7 ?_;refine qG J (qj (k:=2) J jD J J) (.tmp J) ?_;intro w' hs;have hg:=hs.all 3 _ rfl
 have ho:=Lu hg.1 (λb hb=>(hg.2.1 b hb).elim id (λh=>by cases h));exact⟨oA,oc,rfl,ho,hs.fin⟩
theorem jfK(w:World):Rings w none 0 []:=⟨rfl,λh=>absurd h Dc⟩
theorem jjr(h:JG rs=true):uv rs [] 1=Fj rs [] 1/\Xu rs [] 1=Cl rs [] 1:=jiQ (by rw[zq,h];rfl) rfl
theorem jaG{n:Nat}(hl:rs.length=n)(ht:(total rs:Int)<=1048576):(n:Int)<=9223372036854775807:=by
 unfold total at ht;omega
theorem GF(A:Option Addr)(n c:Nat)(rs:List jI)(w:World)(h:Rings w A n rs)(ht:(total rs:Int)<=1048576):
  Calls Tryz.prog 28 #[qU A n c] w λe w'=>∃A' c',e=.returned (.tuple #[qU A' (uv rs [] 1).length c',.int .i64 (Xu rs [] 1)])/\OwnG w.heap.size w'.heap.size w' A' (uv rs [] 1).length (uv rs [] 1)/\Over w w':=by
 refine Jm (m:=9) (Tryz.func28) J J (lb J) ?_;refine S3 ?_;refine aX (λb1=>?_);refine N1 ?_;refine aL (λb2=>?_);refine N5 ?_;refine a9 (JD J J (qo)) ?_;refine S1 ?_;refine J4 Od (X:=(Option Addr×Nat)×Nat×Nat) (v:=λx=>.tuple #[qU x.1.1 (uv rs [] 1).length x.1.2,.int .i64 (Xu rs [] 1)]) (r:=λx=>K4 (uv rs [] 1).length (uv rs [] 1) x.2.1 x.2.2 x.1.1) (H:=λ_=>True) J J J (lb J) (λw1 hs=>vz (V:=λA' c'=>.tuple #[qU A' (uv rs [] 1).length c',.int .i64 (Xu rs [] 1)]) (To A n c rs none 0 0 [] w1 (h.over hs.fin) (jaG h.1 ht) (jfK w1) Dc)) ?_;rintro⟨⟨oA,oc⟩,olo,ohi⟩-;refine N7 ?_;refine qG J (qj (k:=1) J jD J J) (.tmp J) ?_;intro w' hs;have hg:=hs.all 2 _ rfl
 have ho:=Lu hg.1 (λb hb=>(hg.2.1 b hb).elim id (λh=>by cases h));exact⟨oA,oc,rfl,ho,hs.fin⟩
theorem VX(A:Option Addr)(n c:Nat)(rs:List jI)(w:World)(h:Rings w A n rs)(ht:(total rs:Int)<=1048576):
  Calls Tryz.prog 12 #[qU A n c] w λe w'=>∃A' c',e=.returned (.tuple #[qU A' (uv rs [] 1).length c',.int .i64 (Xu rs [] 1)])/\OwnG w.heap.size w'.heap.size w' A' (uv rs [] 1).length (uv rs [] 1)/\Over w w':=by
 refine Jm (m:=12) (Tryz.func12) J J (lb J) ?_;refine S3 ?_;refine aX (λb1=>?_);refine N1 ?_;refine aL (λb2=>?_);refine N5 ?_;refine a9 (jT Uk J J (λw1 hs=>Lz _ _ A n c rs w1 (qr (k:=0) J J w1 hs) (J3 (hs.cel (k:=0) J)) (h.over hs.fin) (jaG h.1 ht))) ?_;refine S2 ?_;refine cZ (λc1=>?_) (λc1=>?_)
 .refine S2 ?_;refine a9 (JD J J (qo)) ?_;refine S6 ?_;refine qG J (qj (k:=1) J jD J J) (.tmp J) ?_;intro w' hs;obtain⟨e1,e2⟩:=jdS (ss:=[]) (how:=1) (rs:=rs) (by rw[zq];simp[c1]);exact⟨none,0,by rw[e1,e2];rfl,by rw[e1];exact OwnG.nil none,hs.fin⟩
 .have hr:JG rs=true:=(by simpa using c1);obtain⟨e1,e2⟩:=jjr hr;rw[e1,e2];refine S4 ?_;refine a9 (JD J J (qo)) ?_;refine S1 ?_;refine aX (λb3=>?_);refine N1 ?_;refine J4 Gf (X:=(Option Addr×Nat)×Nat×Nat) (v:=λx=>.tuple #[qU x.1.1 (Fj rs [] 1).length x.1.2,.int .i64 (Cl rs [] 1)]) (r:=λx=>K4 (Fj rs [] 1).length (Fj rs [] 1) x.2.1 x.2.2 x.1.1) (H:=λ_=>True) J J J (lb J) (λw1 hs=>vz (V:=λA' c'=>.tuple #[qU A' (Fj rs [] 1).length c',.int .i64 (Cl rs [] 1)]) (BM _ _ _ _ A n c rs none 0 0 [] 1 w1 (qr (k:=0) J J w1 hs) (J3 (hs.cel (k:=0) J)) (qr (k:=2) J J w1 hs) (J3 (hs.cel (k:=2) J)) (h.over hs.fin) (jfK w1) hr J)) ?_;rintro⟨⟨oA,oc⟩,olo,ohi⟩-;refine N7 ?_;refine qG J (qj (k:=1) J jD J J) (.tmp J) ?_;intro w' hs;have hg:=hs.all 3 _ rfl
  have ho:=Lu hg.1 (λb hb=>(hg.2.1 b hb).elim id (λh=>by cases h));exact⟨oA,oc,rfl,ho,hs.fin⟩
def P9(rs:List jI):Bool:=Xu rs [] 1==0&&decide (uv rs [] 1=rs)
theorem jjs(rs:List jI)(how:Int){ss:List jI}:((uv rs ss how).length:Int)<=1048576:=by
 have:=(jbY rs ss how).total;unfold total at this;omega
theorem Tl(A:Option Addr)(n c:Nat)(rs:List jI)(w:World)(h:Rings w A n rs)(ht:(total rs:Int)<=1048576):
  Calls Tryz.prog 14 #[qU A n c] w λe w'=>e=.returned (.bool (P9 rs))/\Over w w':=by
 have hl:=h.1;have hm:(n:Int)<=9223372036854775807:=by unfold total at ht;omega
 refine Jm (m:=17) (Tryz.func14) J J (lb J) ?_;refine S3 ?_;refine aX (λb1=>?_);refine N6 ?_;refine J4 ZH (X:=(Option Addr×Nat)×Nat×Nat) (v:=λx=>.tuple #[qU x.1.1 (uv rs [] 1).length x.1.2,.int .i64 (Xu rs [] 1)]) (r:=λx=>K4 (uv rs [] 1).length (uv rs [] 1) x.2.1 x.2.2 x.1.1) (H:=λ_=>True) J J J (lb J) (λw1 hs=>vz (V:=λA' c'=>.tuple #[qU A' (uv rs [] 1).length c',.int .i64 (Xu rs [] 1)]) (GF A n c rs w1 (h.over hs.fin) ht)) ?_;rintro⟨⟨oA,oc⟩,olo,ohi⟩-;refine N4 ?_;refine aL (λb2=>?_);refine N9 ?_;refine cV 12 (λg1=>?_) (λg1=>?_)
 .refine S5 ?_;refine o9 (jT ym J J (λw1 hs=>ZJ _ A _ n _ c (uv rs [] 1) rs w1 (yg (hs.all 1 _ J).1).rings (h.over hs.fin) (jmN (jjs rs 1) Dc))) ?_;refine S4 ?_;refine jK J (.tmp J) ?_;intro w' hs;exact⟨Q4 (by simp[P9,g1]),hs.fin⟩
 .refine S7 ?_;refine jK J (.tmp J) ?_;intro w' hs;exact⟨Q4 (by simp[P9,g1]),hs.fin⟩
end
section
variable{how:Int}{rs ss:List jI}
theorem Rr(h:Cl rs ss how=0):UL rs ss=true/\JG (vm (vX rs ss how))=true/\Fj rs ss how=vm (vX rs ss how):=by
 unfold Cl at h;split at h
 .rename_i hf;unfold M6 at h;split at h
  .rename_i hg;exact⟨hf,hg,by unfold Fj Ls;rw[if_pos hf,if_pos hg]⟩
  .omega
 .omega
theorem EZ(h1:JG rs=true)(h2:JG ss=true)(hh:Mt how=true):uv rs ss how=Fj rs ss how/\Xu rs ss how=Cl rs ss how:=by
 have h:zq rs ss=true:=by unfold zq;rw[h1,h2];rfl
 exact⟨by unfold uv;rw[if_pos h,if_pos hh],by unfold Xu;rw[if_pos h,if_pos hh]⟩
theorem yl:∀E:List Leg,QR E=sm (λl=>Xi (lA l) (lB l)) E
 |[]=>rfl
 |e::E=>by
  have:=yl E;have e1:Us e=Xi (lA e) (lB e):=by
   unfold Us Xi lA lB;grind
  simp only[QR,sm,this,e1]
end
section
variable{A:Option Addr}{rs:List jI}
set_option maxRecDepth 100000
set_option maxHeartbeats 4000000
theorem jfI(h:JG rs=true):(total rs:Int)<=1048576:=(smallR.of h).total
theorem EW(h:Xu rs [] 1=0):JG (uv rs [] 1)=true:=by
 have hi:zq rs []=true:=by
  refine Decidable.byContradiction λk=>?_
  unfold Xu at h;rw[if_neg k] at h;omega
 have hr:JG rs=true:=by
  unfold zq at hi;rw[jlK] at hi;exact hi.1
 obtain⟨e1,e2⟩:=EZ (how:=1) hr (show JG []=true from rfl) rfl;rw[e2] at h;obtain⟨hf,hg,e3⟩:=Rr h;rw[e1,e3];exact hg
theorem HE{e1 e2 e3:Pc}(h1:e1.xs.length<=4)(h2:e2.xs.length<=4)(h3:e3.xs.length<=3):∀e∈[e1,e2,e3],e.xs.length<=1099511627776:=λe he=>by
 simp only[jlP,jmi,or_false] at he;rcases he with rfl|rfl|rfl<;>omega
theorem bx3{r1 r2 r3:jI}(h1:r1.length<=4)(h2:r2.length<=4)(h3:r3.length<=3):(total [r1,r2,r3]:Int)<=1048576:=Bh ⟨lb rfl,λr hr=>by
 simp only[jlP,jmi,or_false] at hr;rcases hr with rfl|rfl|rfl<;>omega⟩
theorem Rl{w w':World}{b n c K K0 K' ks kr:Nat}{Rs:List Res}{x:BX}(hs:St ⟨w,[b]⟩ Rs w')(h1:Rs[ks]? =some (srcR b A n c K0))(h2:Rs[kr]? =some (bxR x))(n1:ks≠kr)(hK:K0<=K'):
  (Uw b A n c K' x).P w'/\(∀q,(Uw b A n c K' x).F q->(srcR b A n c K).F q\/w.heap.size<=q)/\(Uw b A n c K' x).B=0:=by
 have a1:=hs.all ks _ h1;have a2:=hs.all kr _ h2
 refine⟨It (srcR.more a1.1 hK) a2.1 J J (λq hq hq2=>hs.apart ks kr _ _ n1 h1 h2 q hq hq2),λq hq=>?_,J⟩;obtain⟨r,hr,hq⟩:=hq;simp only[jlP,jmi,or_false] at hr;rcases hr with rfl|rfl
 .exact .inl hq
 .exact(a2.2.1 q hq).elim (λh=>.inr h) (λh=>.inl (jlM.1 h))
section
variable{b n c K:Nat}{A:Option Addr}{zs:List Int}{w:World}
theorem RR(hB:Byts w A n zs)(hne:0<n->∀p,A=some p->p.block≠b)(hP:(srcR b A n c K).P w)(hn:n<=1048576)(hK:K<=400):
  Calls Tryz.prog 11 #[.pointer (some ⟨b,0,none⟩)] w λe w'=>∃x:BX,e=.returned (qU x.2.1.1 x.1.1.length x.2.1.2)/\Wrs (srcR b A n c K).F w w'/\(Uw b A n c (K+500) x).P w'/\(∀q,(Uw b A n c (K+500) x).F q->(srcR b A n c K).F q\/w.heap.size<=q)/\(Uw b A n c (K+500) x).B=0:=by
 have hlt:=(srcR b A n c K).low w hP b rfl;refine Km (m:=50) ([b]) (srcR b A n c K) (hP) (λq hq=>jlM.2 hq) J (Tryz.func11) J J (lb J) ?_;refine S3 ?_;refine aL (λb1=>?_);refine N5 ?_;refine qm (k:=0) (X:=BX) (v:=λx=>qU x.2.1.1 x.1.1.length x.2.1.2) (r':=λx=>Uw b A n c (K+450) x) Oo J J J Dc J (λw1 hs=>CQ (λa1 a2 a3 a4 a5=>Nw a1 a2 a3 a4 a5) (zs:=zs) (hB.ovx hs.over hne) hne (hs.all 0 _ J).1 hn hK) ?_;rintro⟨⟨RS,hT⟩,⟨rA,rc⟩,rlo,rhi⟩;refine n9 ?_
 try dsimp only
 refine Rg 0 J ?_;refine t9 ?_;refine S1 ?_;refine aL (λb2=>?_);refine N8 ?_;refine qm (k:=0) (X:=Bool) (v:=λx=>.bool x) (r':=λ_=>srcR b A n c (K+451)) kJ J J J Dc J (λw1 hs=>xW (zs:=zs) 3 Dc Dc (hB.ovx hs.over hne) hne (hs.all 0 _ J).1 hn Om) ?_;rintro ob;refine N1 ?_;refine cZ (λc1=>?_) (λc1=>?_)
 .refine S2 ?_;(iterate 4 refine a9 (JD J J (J8 J J)) ?_);refine S1 ?_;refine j5 J J (kt J J J J) J (lb J) (λb3=>?_);refine N4 ?_;(iterate 4 refine a9 (JD J J (J8 J J)) ?_);refine S1 ?_;refine j5 J J (kt J J J J) J (lb J) (λb4=>?_);refine N4 ?_;refine a9 (JD J J (J8 J J)) ?_;refine a9 (JD J J (J8 J J)) ?_;refine S2 ?_;refine qm (k:=0) (X:={v:Int//0<=v/\v<4}) (v:=λx=>.int .i64 x.1) (r':=λ_=>srcR b A n c (K+452)) J9 J J J Dc J (λw1 hs=>Kw (zs:=zs) 4 Dc Dc (hB.ovx hs.over hne) hne (hs.all 0 _ J).1 hn Om) ?_
  rintro⟨pv,hpv⟩;refine n9 ?_
  try dsimp only
  refine S1 ?_;refine a9 (JD J J (J8 J J)) ?_;refine S1 ?_;refine j5 J J (zn J J J) J (lb J) (λb5=>?_);refine N4 ?_;refine a9 (JD J J (Qn J)) ?_;refine S1 ?_;refine a9 (JD J J (Qn J)) ?_;refine S1 ?_;refine a9 (JD J J (Qn J)) ?_;refine S1 ?_;refine j5 J J (Yl J J J) J (lb J) (λb6=>?_);refine n9 ?_;refine a9 (JD J J (VY J)) ?_;refine S3 ?_;refine ZP 4 4 [(0,0),(20,0),(20,20),(0,20)] J ?_;refine t9 ?_;refine ZP 5 4 [(2,2),(2,15),(15,15),(15,2)] J ?_;refine t9 ?_;refine ZP 6 3 [(5,5),(9,5),(9,9+pv)] J ?_;refine t9 ?_;refine Lf 7 (s:=1) (m:=3) J J (lb J) ?_;refine t9 ?_;refine KY ?_;refine t9 ?_;refine Ke 8 4 J J Dc J ?_;refine t9 ?_;refine Ke 7 4 J J Dc J ?_;refine t9 ?_;refine Ke 6 4 J J Dc J ?_;refine t9 ?_;refine jdA (l':=[Pc.mk [(0,0),(20,0),(20,20),(0,20)] (some ⟨b3,0,none⟩) 4 b3 (b3+1),Pc.mk [(2,2),(2,15),(15,15),(15,2)] (some ⟨b4,0,none⟩) 4 b4 (b4+1),Pc.mk [(5,5),(9,5),(9,9+pv)] (some ⟨b5,0,none⟩) 3 b5 (b5+1)].map Pc.res) 5 J (List.Perm.refl _) ?_;refine t9 ?_;obtain⟨RS,hRS⟩:∃RS:List jI,RS=[[(0,0),(20,0),(20,20),(0,20)],[(2,2),(2,15),(15,15),(15,2)],[(5,5),(9,5),(9,9+pv)]]:=⟨_,rfl⟩;have hT:(total RS:Int)<=1048576:=by rw[hRS];exact bx3 (jlL 4) (jlL 4) (jlL 3)
  refine S5 ?_;refine qm (k:=0) (X:={v:Int//0<=v/\v<4}) (v:=λx=>.int .i64 x.1) (r':=λ_=>srcR b A n c (K+453)) J9 J J J Dc J (λw1 hs=>Kw (zs:=zs) 4 Dc Dc (hB.ovx hs.over hne) hne (hs.all 0 _ J).1 hn Om) ?_;rintro⟨v2,hv2⟩;refine n9 ?_
  try dsimp only
  refine S2 ?_;refine cZ (λc2=>?_) (λc2=>?_)
  .refine S4 ?_;refine J4 VU (X:=(Option Addr×Nat)×Nat×Nat) (v:=λx=>.tuple #[qU x.1.1 (uv RS [] 1).length x.1.2,.int .i64 (Xu RS [] 1)]) (r:=λx=>K4 (uv RS [] 1).length (uv RS [] 1) x.2.1 x.2.2 x.1.1) (H:=λ_=>True) rfl rfl rfl (lb rfl) (λw1 hs=>vz (V:=λA' c'=>.tuple #[qU A' (uv RS [] 1).length c',.int .i64 (Xu RS [] 1)]) (VX _ _ _ RS w1 (by(try(subst hRS;exact(yu hs (ks:=0) (kr:=4) (kp:=5) rfl rfl rfl rfl Dc Dc Dc rfl (by exact HE (jlL 4) (jlL 4) (jlL 3))).rings));all_goals exact yh (k:=2) rfl w1 hs) hT)) ?_
   rintro⟨⟨oA,oc⟩,olo,ohi⟩-;refine N4 ?_;refine aL (λb7=>?_);refine N9 ?_;refine cZ (λc3=>?_) (λc3=>?_)
   .refine S8 ?_;refine jK J (qj (k:=1) J jD J J) ?_;intro w' hs;exact⟨(⟨uv RS [] 1,jfI (EW (by simpa using c3))⟩,(oA,oc),olo,ohi),rfl,WA hs,Rl hs (ks:=0) (kr:=6) rfl rfl Dc Om⟩
   .refine S9 ?_;refine jK J (qj (k:=1) J jD J J) ?_;intro w' hs;exact⟨(⟨RS,hT⟩,(some ⟨b6,0,none⟩,3),w.heap.size,w'.heap.size),by subst hRS;rfl,WA hs,bxP (srcR.more (hs.all 0 _ rfl).1 Om) hlt (by subst hRS;exact(yu hs (ks:=0) (kr:=4) (kp:=5) rfl rfl rfl rfl Dc Dc Dc rfl (by exact HE (jlL 4) (jlL 4) (jlL 3)))) rfl rfl⟩
  .refine S9 ?_;refine jK J (qj (k:=1) J jD J J) ?_;intro w' hs;exact⟨(⟨RS,hT⟩,(some ⟨b6,0,none⟩,3),w.heap.size,w'.heap.size),by subst hRS;rfl,WA hs,bxP (srcR.more (hs.all 0 _ rfl).1 Om) hlt (by subst hRS;exact(yu hs (ks:=0) (kr:=4) (kp:=5) rfl rfl rfl rfl Dc Dc Dc rfl (by exact HE (jlL 4) (jlL 4) (jlL 3)))) rfl rfl⟩
 .refine Uh 0 (K2:=K+452) J Om ?_;refine t9 ?_;refine S7 ?_;refine qm (k:=0) (X:={v:Int//0<=v/\v<4}) (v:=λx=>.int .i64 x.1) (r':=λ_=>srcR b A n c (K+453)) J9 J J J Dc J (λw1 hs=>Kw (zs:=zs) 4 Dc Dc (hB.ovx hs.over hne) hne (hs.all 0 _ J).1 hn Om) ?_;rintro⟨v2,hv2⟩;refine n9 ?_
  try dsimp only
  refine S2 ?_;refine cZ (λc4=>?_) (λc4=>?_)
  .refine S4 ?_;refine J4 VU (X:=(Option Addr×Nat)×Nat×Nat) (v:=λx=>.tuple #[qU x.1.1 (uv RS [] 1).length x.1.2,.int .i64 (Xu RS [] 1)]) (r:=λx=>K4 (uv RS [] 1).length (uv RS [] 1) x.2.1 x.2.2 x.1.1) (H:=λ_=>True) rfl rfl rfl (lb rfl) (λw1 hs=>vz (V:=λA' c'=>.tuple #[qU A' (uv RS [] 1).length c',.int .i64 (Xu RS [] 1)]) (VX _ _ _ RS w1 (by(try(subst hRS;exact(yu hs (ks:=0) (kr:=4) (kp:=5) rfl rfl rfl rfl Dc Dc Dc rfl (by exact HE (jlL 4) (jlL 4) (jlL 3))).rings));all_goals exact yh (k:=2) rfl w1 hs) hT)) ?_
   rintro⟨⟨oA,oc⟩,olo,ohi⟩-;refine N4 ?_;refine aL (λb8=>?_);refine N9 ?_;refine cZ (λc5=>?_) (λc5=>?_)
   .refine S8 ?_;refine jK J (qj (k:=1) J jD J J) ?_;intro w' hs;exact⟨(⟨uv RS [] 1,jfI (EW (by simpa using c5))⟩,(oA,oc),olo,ohi),rfl,WA hs,Rl hs (ks:=0) (kr:=4) rfl rfl Dc Om⟩
   .refine S9 ?_;refine jK J (qj (k:=1) J jD J J) ?_;intro w' hs;exact⟨(⟨RS,hT⟩,(rA,rc),rlo,rhi),rfl,WA hs,Rl hs (ks:=0) (kr:=2) rfl rfl Dc Om⟩
  .refine S9 ?_;refine jK J (qj (k:=1) J jD J J) ?_;intro w' hs;exact⟨(⟨RS,hT⟩,(rA,rc),rlo,rhi),rfl,WA hs,Rl hs (ks:=0) (kr:=2) rfl rfl Dc Om⟩
end
end
end Go.Proofs.YtjbahemkhphndaaGreat
