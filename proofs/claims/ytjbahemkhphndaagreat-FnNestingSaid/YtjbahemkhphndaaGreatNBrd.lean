import Derived.Test.YtjbahemkhphndaaGreatNNetT
import Derived.Test.YtjbahemkhphndaaGreatNTrS
import Derived.Test.YtjbahemkhphndaaGreatNTopo4
set_option linter.unusedVariables false
set_option linter.unusedSimpArgs false
namespace Go.Proofs.YtjbahemkhphndaaGreat
open Go Go.RowKit
variable{E1 E2 es:List Leg}{how:Int}{i k:Nat}{p:Leg}{w:World}{x:Option Addr×Nat}{xs:List Value}
set_option maxRecDepth 100000
set_option maxHeartbeats 4000000
def QW(a b how:Int):Bool:=if how=1 then(!(a==0))||(!(b==0)) else if how=2 then(!(a==0)) && (!(b==0)) else if how=3 then(!(a==0)) && !(!(b==0)) else !((!(a==0))==(!(b==0)))
theorem Mz(a b how:Int)(w:World):Calls Tryz.prog 71 #[.int .i64 a,.int .i64 b,.int .i64 how] w λe w'=>e=.returned (.bool (QW a b how))/\Over w w':=by
 refine Jm (m:=36) (Tryz.func71) J J (lb J) ?_;refine S27 ?_;refine cZ (λc1=>?_) (λc1=>?_)
 .refine S4 ?_;refine cV 17 (λg1=>?_) (λg1=>?_)
  .refine S7 ?_;refine jK J (.tmp J) ?_;intro w' hs;exact⟨Q4 (by simp[QW, *]),hs.fin⟩
  .refine S8 ?_;refine jK J (.tmp J) ?_;intro w' hs;exact⟨Q4 (by simp[QW, *]),hs.fin⟩
 .refine S5 ?_;refine cZ (λc2=>?_) (λc2=>?_)
  .refine S4 ?_;refine cV 23 (λg2=>?_) (λg2=>?_)
   .refine S8 ?_;refine jK J (.tmp J) ?_;intro w' hs;exact⟨Q4 (by simp[QW, *]),hs.fin⟩
   .refine S7 ?_;refine jK J (.tmp J) ?_;intro w' hs;exact⟨Q4 (by simp[QW, *]),hs.fin⟩
  .refine S5 ?_;refine cZ (λc3=>?_) (λc3=>?_)
   .refine S4 ?_;refine cV 29 (λg3=>?_) (λg3=>?_)
    .refine S10 ?_;refine jK J (.tmp J) ?_;intro w' hs;exact⟨Q4 (by simp[QW, *]),hs.fin⟩
    .refine S8 ?_;refine jK J (.tmp J) ?_;intro w' hs;exact⟨Q4 (by simp[QW, *]),hs.fin⟩
   .refine S7 ?_;refine a9 (Su DS J J J) ?_;refine S3 ?_;refine jK J (.tmp J) ?_;intro w' hs;exact⟨Q4 (by simp[QW, *]),hs.fin⟩
theorem FV(a b how:Int)(w:World):Calls Tryz.prog 119 #[.int .i64 a,.int .i64 b,.int .i64 how] w λe w'=>e=.returned (.bool (QW a b how))/\Over w w':=by
 refine Jm (m:=36) (Tryz.func119) J J (lb J) ?_;refine S24 ?_;refine cZ (λc1=>?_) (λc1=>?_)
 .refine S4 ?_;refine cV 17 (λg1=>?_) (λg1=>?_)
  .refine S7 ?_;refine jK J (.tmp J) ?_;intro w' hs;exact⟨Q4 (by simp[QW, *]),hs.fin⟩
  .refine S8 ?_;refine jK J (.tmp J) ?_;intro w' hs;exact⟨Q4 (by simp[QW, *]),hs.fin⟩
 .refine S5 ?_;refine cZ (λc2=>?_) (λc2=>?_)
  .refine S4 ?_;refine cV 23 (λg2=>?_) (λg2=>?_)
   .refine S8 ?_;refine jK J (.tmp J) ?_;intro w' hs;exact⟨Q4 (by simp[QW, *]),hs.fin⟩
   .refine S7 ?_;refine jK J (.tmp J) ?_;intro w' hs;exact⟨Q4 (by simp[QW, *]),hs.fin⟩
  .refine S5 ?_;refine cZ (λc3=>?_) (λc3=>?_)
   .refine S4 ?_;refine cV 29 (λg3=>?_) (λg3=>?_)
    .refine S10 ?_;refine jK J (.tmp J) ?_;intro w' hs;exact⟨Q4 (by simp[QW, *]),hs.fin⟩
    .refine S8 ?_;refine jK J (.tmp J) ?_;intro w' hs;exact⟨Q4 (by simp[QW, *]),hs.fin⟩
   .refine S7 ?_;refine a9 (Su DS J J J) ?_;refine S3 ?_;refine jK J (.tmp J) ?_;intro w' hs;exact⟨Q4 (by simp[QW, *]),hs.fin⟩
theorem jiz{B T s m:Nat}(h:(JV B T s m xs x).P w):Src s (.slice x.1 m x.2) m xs w:=by
 have h:w.ownsRow B T s (.slice x.1 m x.2) m xs:=h;refine⟨h.1,?_⟩;rcases h.2 with⟨e,e0⟩|⟨g,cap,cur,e,hb,hg,hcap,hmax,hsz,htk⟩
 .left;injection e with e1 e2 e3
  rw[e1,e3,e0];exact⟨rfl,rfl⟩
 .right;injection e with e1 e2 e3
  refine⟨⟨g,0,none⟩,x.2,by rw[e1],λq u hu=>?_⟩;have hq:=(List.getElem?_eq_some_iff.1 hu).1
  rw[<-htk,List.getElem?_take,if_pos (by have:=h.1;omega)] at hu;rw[kq,jmd,cell_of_row w g q cur T (0,0) hg];simpa using hu
theorem RW(l:List Leg):∀u∈l.flatMap jW,u.oneCell'=true:=λu hu=>by
 obtain⟨x,_,hx⟩:=jm8.1 hu;simp only[jW,jlP,jmi,or_false] at hx;rcases hx with rfl|rfl|rfl|rfl<;>rfl
abbrev NN(l:List Leg)(x:Option Addr×Nat):Res:=JV 0 72 4 l.length (l.flatMap jW) x
theorem jbI(m:Nat)(w:World)(h0:0<m)(hm:m<=1099511627776):Calls Tryz.prog 105 #[.slice none 0 0,.int .i64 (m:Int)] w λe w'=>∃v,e=.returned v/\w'.ownsRow w.heap.size 72 4 v 0 []/\Over w w':=by
 refine Jm (m:=27) (Tryz.func105) J J (lb J) ?_;refine S10 ?_;refine cZ (λc1=>?_) (λc1=>?_)
 .omega
 .refine S7 ?_;refine a9 (Dr J J jV) ?_;refine S11 ?_;refine cZ (λc2=>?_) (λc2=>?_)
  .refine S3 ?_;refine a9 (Dr J J jV) ?_;refine a9 ((KQ (h:=0) J J J jV (jlL _)).as (show sliced none 0 0 0 4=.slice none 0 0 from J)) ?_;refine S1 ?_;refine wg 21 (.int .i64 (m:Int)) J (congrArg _ Om) ?_;refine S1 ?_;refine Pi J jV Tryz.underlying3 qp Dc J J h0 (by unfold maxLen;omega) Om J Dc (λgb gcap=>?_);refine N2 ?_;refine a9 ((KQ (h:=0) J J J jV (jlN _)).as (ui _ _ _ _ _)) ?_;refine S8 ?_;refine jK J (.tmp J) ?_;intro w' hs;have hr:=hs.all 0 _ rfl
   exact⟨_,rfl,vM hr.1 (λb hb=>(hr.2.1 b hb).elim id (λh=>by cases h)),hs.fin⟩
  .omega
theorem jbH(w:World):Calls Tryz.prog 105 #[.slice none 0 0,.int .i64 0] w λe w'=>e=.returned (.slice none 0 0)/\Over w w':=by
 refine Jm (m:=27) (Tryz.func105) J J (lb J) ?_;refine S10 ?_;refine cZ (λc1=>?_) (λc1=>?_)
 .omega
 .refine S7 ?_;refine a9 (Dr J J jV) ?_;refine S11 ?_;refine cZ (λc2=>?_) (λc2=>?_)
  .omega
  .refine S8 ?_;refine jK J (.tmp J) ?_;intro w' hs;exact⟨rfl,hs.fin⟩
theorem jbG(m:Nat)(w:World)(hm:m<=1099511627776):Calls Tryz.prog 105 #[.slice none 0 0,.int .i64 (m:Int)] w λe w'=>∃v,e=.returned v/\w'.ownsRow w.heap.size 72 4 v 0 []/\Over w w':=by
 by_cases h0:0<m
 .exact jbI m w h0 hm
 .obtain rfl:m=0:=by omega
  exact(jbH w).mono λe w' ⟨h1,h2⟩=>⟨_,h1,World.ownsRow_nil _ _ _ _,h2⟩
abbrev Sg:=(Option Addr×Nat)×List Leg
def sgA(ss:List Sg)(k:Nat):Sg:=ss.getD k ((none,0),[])
def Ux(ss:List Sg)(k:Nat):List Leg:=(ss.take k).flatMap (·.2)
theorem FZ{ss:List Sg}(h:k<ss.length):Ux ss (k+1)=Ux ss k++(sgA ss k).2:=by
 unfold Ux sgA;rw[jlX h,jlW];simp[List.getD,h]
theorem EU{ss:List Sg}{j:Nat}(h:k<=j):(Ux ss k).length<=(Ux ss j).length:=by
 have e:ss.take k=(ss.take j).take k:=by rw[List.take_take,jmO h]
 unfold Ux;rw[e]
 conv=>rhs;rw[<-jl1 k (ss.take j)]
 rw[jlW,jlJ];omega
theorem Th(b o N C:Nat)(ss:List Sg)(w:World)(hN:ss.length=N)(hb:b<w.heap.size)(hc:∀k,k<N->w.cell? ⟨b,o+k,none⟩=some (.slice (sgA ss k).1.1 (sgA ss k).2.length (sgA ss k).1.2))(hp:∀k,k<N->(NN (sgA ss k).2 (sgA ss k).1).P w)(hm:(Ux ss N).length<=1048577)(hN2:N<=1048577)(hN0:0<N):
  Calls Tryz.prog 93 #[.slice (some ⟨b,o,none⟩) N C] w λe w'=>∃v,e=.returned v/\w'.ownsRow w.heap.size 72 4 v (Ux ss N).length ((Ux ss N).flatMap jW)/\Over w w':=by
 refine Jm (m:=36) (Tryz.func93) J J (lb J) ?_;refine S16 ?_;refine qD (X:=Nat) (λk=>k<=N) (λk=>N-k) (λk=>[(3,.int .i64 ((Ux ss k).length:Int)),(11,.int .i64 (k:Int))]) (kK [0,2,9,10]) 0 (jlN _) ⟨J,sz⟩ ?_;intro k hk L hL1;refine V5 ?_;refine cZ (λc1=>?_) (λc1=>?_)
 .have hlt:k<N:=Om;have hst:(Ux ss (k+1)).length=(Ux ss k).length+(sgA ss k).2.length:=(by rw[FZ Om,jlJ])
  have hle:(Ux ss (k+1)).length<=(Ux ss N).length:=EU Om;refine S7 ?_;refine a9 (jn J J Zy (jii (hc k hlt) hb)) ?_;refine S15 ?_;refine cZ (λc2=>?_) (λc2=>?_)
  .omega
  .refine S7 ?_;exact J6 hL1 (k+1) Om Om ⟨vi Om,vi Om,sz⟩ (u9 J)
 .have hkN:k=N:=Om;subst hkN;refine S9 ?_;refine J4 Wc (v:=λx=>.slice x.1 0 x.2) (r:=λx=>JV 0 72 4 0 [] x) (H:=λ_=>True) J J J (lb J) (λw1 hs=>q6 (jbG _ w1 Om)) ?_;rintro⟨cA,cc⟩-;refine N10 ?_;refine JW (X:=Nat×Option Addr×Nat) (λx=>x.1<=k) (λx=>k-x.1) (λx=>[(6,.slice x.2.1 (Ux ss x.1).length x.2.2),(27,.int .i64 (x.1:Int))]) (kK [2,25,26]) (λx=>[JV 0 72 4 (Ux ss x.1).length ((Ux ss x.1).flatMap jW) x.2]) (0,cA,cc) (jlN _) ⟨J,sz⟩ (λ_ h=>h) ?_;intro⟨j,rA,rc⟩ hj L hL2;refine v9 ?_;refine r9 ?_;have hj:j<=k:=hj
  refine S5 ?_;refine cZ (λc3=>?_) (λc3=>?_)
  .have hlt:j<k:=Om;have hst:Ux ss (j+1)=Ux ss j++(sgA ss j).2:=FZ Om
   have hst2:(Ux ss (j+1)).length=(Ux ss j).length+(sgA ss j).2.length:=(by rw[hst,jlJ]);have hle:(Ux ss (j+1)).length<=(Ux ss k).length:=EU Om
   refine S7 ?_;refine a9 (jn J J Zy (jii (hc j hlt) hb)) ?_;refine S6 ?_;refine JQ (k:=0) J jV qp Dc J Dc J J J (λw' hs=>jiz (Qr (hp j hlt) hs.fin)) (RW _) (by unfold maxLen;omega) Om (jlN _) (λr1=>?_);refine N8 ?_;exact Jn hL2 ((j+1,r1)) ((show j+1<=k by omega)) (by simp only;omega) ⟨(by rw[hst2];rfl),vi Om,sz⟩ (λ_ h=>h.upto ⟨by rw[hst2,hst,jlW],trivial⟩)
  .have hjk:j=k:=Om;subst hjk;refine S11 ?_;refine jK J (.tmp J) ?_;intro w' hs;have hr:=hs.all 0 _ rfl
   exact⟨_,rfl,vM hr.1 (λb hb=>(hr.2.1 b hb).elim id (λh=>by cases h)),hs.fin⟩
theorem E3{b U:Nat}{x1 x2:Option Addr×Nat}(hb:w.heap[b]? =some (.cells [.slice x1.1 E1.length x1.2,.slice x2.1 E2.length x2.2].toArray U (0,0)))(h1:(NN E1 x1).P w)(h2:(NN E2 x2).P w)(hm:E1.length+E2.length<=1048577):
  Calls Tryz.prog 93 #[.slice (some ⟨b,0,none⟩) 2 2] w λe w'=>∃v,e=.returned v/\w'.ownsRow w.heap.size 72 4 v (E1++E2).length ((E1++E2).flatMap jW)/\Over w w':=by
 have ex:Ux [(x1,E1),(x2,E2)] 2=E1++E2:=by simp[Ux]
 have hcell:∀k,w.cell? ⟨b,k,none⟩=[Value.slice x1.1 E1.length x1.2,.slice x2.1 E2.length x2.2][k]? :=λk=>by rw[cell_of_row w b k _ U (0,0) hb];simp
 have:=Th b 0 2 2 [(x1,E1),(x2,E2)] w rfl (J3 hb) (λj hj=>?_) (λj hj=>?_) (by rw[ex,jlJ];omega) Dc Dc
 .rw[ex] at this;exact this
 .rw[jmd,hcell]
  match j,hj with
  |0,_=>rfl
  |1,_=>rfl
 .match j,hj with
  |0,_=>exact h1
  |1,_=>exact h2
def zS(p:Leg)(l r:Bool):List Leg:=if(l&& !r)=true then [p] else if(r&& !l)=true then [qW p] else []
def XO(E1 E2:List Leg)(how:Int)(ks:List Leg)(i:Nat):List Leg:=(ks.take i).flatMap λp=>zS p (QW (Q5 E1 p).left (Q5 E2 p).left how) (QW (Q5 E1 p).right (Q5 E2 p).right how)
def vW(E1 E2:List Leg)(how:Int):List Leg:=XO E1 E2 how (KF (E1++E2)) (KF (E1++E2)).length
theorem Lg{ks:List Leg}(h:i<ks.length):XO E1 E2 how ks (i+1)=XO E1 E2 how ks i++zS (lg ks i) (QW (Q5 E1 (lg ks i)).left (Q5 E2 (lg ks i)).left how) (QW (Q5 E1 (lg ks i)).right (Q5 E2 (lg ks i)).right how):=by
 rw[XO,jlX h,jlW,uu h];simp[XO]
theorem jbd(p:Leg)(l r:Bool):(zS p l r).length<=1:=by
 unfold zS;split
 .simp
 .split<;>simp
theorem Be{E1 E2:List Leg}{how:Int}{ks:List Leg}:∀i,i<=ks.length->(XO E1 E2 how ks i).length<=i
 |0,_=>by simp[XO]
 |i+1,h=>by
  have:=Be (E1:=E1) (E2:=E2) (how:=how) (ks:=ks) i Om;have h1:=jbd (lg ks i) (QW (Q5 E1 (lg ks i)).left (Q5 E2 (lg ks i)).left how) (QW (Q5 E1 (lg ks i)).right (Q5 E2 (lg ks i)).right how)
  rw[Lg Om,jlJ];omega
structure TwoE (E1 E2:List Leg):Prop where
 ok1:∀l∈E1,qK l
 ok2:∀l∈E2,qK l
 ne1:∀l∈E1,lA l≠lB l
 ne2:∀l∈E2,lA l≠lB l
 lnE:E1.length<=400
 lnF:E2.length<=400
theorem TwoE.ok(h:TwoE E1 E2):∀l∈E1++E2,qK l:=λl hl=>(jl0.1 hl).elim (h.ok1 l) (h.ok2 l)
theorem TwoE.ne(h:TwoE E1 E2):∀l∈E1++E2,lA l≠lB l:=λl hl=>(jl0.1 hl).elim (h.ne1 l) (h.ne2 l)
theorem G5(h1:∀l∈es,qK l)(h2:∀l∈es,lA l≠lB l)(h:p∈KF es):Key es p/\∃e∈es,p=qh e:=by
 obtain⟨x,hx,rfl⟩:=jlR.1 h;rcases Wm.1 ⟨x,hx,rfl⟩ with⟨y,hy,_⟩|⟨e,he,h⟩
 .cases hy
 .exact⟨⟨by rw[h];exact jfl (h1 e he),by rw[h];exact jj0 (h2 e he),by rw[h];exact jhP e⟩,e,he,h⟩
theorem Wf(x1 x2:Option Addr×Nat)(E1 E2:List Leg)(how:Int)(w:World)(h1:(NN E1 x1).P w)(h2:(NN E2 x2).P w)(hE:TwoE E1 E2):
  Calls Tryz.prog 99 #[.slice x1.1 E1.length x1.2,.slice x2.1 E2.length x2.2,.int .i64 how] w λe w'=>∃v,e=.returned v/\w'.ownsRow w.heap.size 72 4 v (vW E1 E2 how).length ((vW E1 E2 how).flatMap jW)/\Over w w':=by
 have hl1:=hE.lnE;have hl2:=hE.lnF
 have hkl:(KF (E1++E2)).length<=800:=by have:=Nu (es:=E1++E2);rw[jlJ] at this;omega
 obtain⟨ks,hks⟩:∃ks,ks=KF (E1++E2):=⟨_,rfl⟩;rw[<-hks] at hkl;refine Jm (m:=68) (Tryz.func99) J J (lb J) ?_;refine S7 ?_;refine QO (T:=72) (s:=4) ?_;refine N7 ?_;refine j5 J J (wX J J) J (lb J) (λb1=>?_);refine N1 ?_;refine J4 KH (v:=λx=>.slice x.1 (E1++E2).length x.2) (r:=λx=>JV 0 72 4 (E1++E2).length ((E1++E2).flatMap jW) x) (H:=λ_=>True) J J J (lb J) (λw1 hs=>q6 (E3 (hs.cel (k:=1) J) (Qr h1 hs.fin) (Qr h2 hs.fin) Om)) ?_;rintro⟨cA,cc⟩-;refine N1 ?_;refine J4 Og (v:=λx=>.slice x.1 ks.length x.2) (r:=λx=>JV 0 72 4 ks.length (ks.flatMap jW) x) (H:=λ_=>True) J J J (lb J) (λw1 hs=>q6 (by rw[hks];exact Pp cA _ cc (E1++E2) w1 (Y2 (hs.all 2 _ J).1 J) hE.ok (by rw[jlJ];omega))) ?_;rintro⟨kA,kc⟩-;refine N4 ?_;refine JW (X:=Nat×Option Addr×Nat) (λx=>x.1<=ks.length) (λx=>ks.length-x.1) (λx=>[(7,.slice x.2.1 (XO E1 E2 how ks x.1).length x.2.2),(20,.int .i64 (x.1:Int))]) (kK [0,1,2,6,18,19]) (λx=>[JV (Bs.N ⟨w,[]⟩) 72 4 (XO E1 E2 how ks x.1).length ((XO E1 E2 how ks x.1).flatMap jW) x.2,.cel b1 52 [.slice x1.1 E1.length x1.2,.slice x2.1 E2.length x2.2],JV 0 72 4 (E1++E2).length ((E1++E2).flatMap jW) (cA,cc),JV 0 72 4 ks.length (ks.flatMap jW) (kA,kc)]) (0,none,0) (jlN _) ⟨J,sz⟩ (λ_ h=>h) ?_;intro⟨i,rA,rc⟩ hi L hL1;refine v9 ?_;refine r9 ?_;have hi:i<=ks.length:=hi
 have hbl:=Be (E1:=E1) (E2:=E2) (how:=how) (ks:=ks) i hi;refine S5 ?_;refine cZ (λc1=>?_) (λc1=>?_)
 .have hlt:i<ks.length:=Om;obtain⟨hkey,_⟩:=G5 hE.ok hE.ne (p:=lg ks i) (by rw[<-hks,<-uu hlt];exact jlY hlt);have hst:=Lg (E1:=E1) (E2:=E2) (how:=how) hlt
  obtain⟨p,hp⟩:∃p,p=lg ks i:=⟨_,rfl⟩;rw[<-hp] at hkey hst;refine S6 ?_;refine a9 (qS (j:=i) (λw hs=>(hs.all 3 _ J).1) J J J jV hlt) ?_;refine a9 (jj J J qF J (jly [.int .i64 p.ax,.int .i64 p.ay,.int .i64 p.bx,.int .i64 p.b_y] 0 (m:=4) (λ_=>rfl) (λw hs=>(hs.all 3 _ J).1) (jhy hlt) Om (by rw[hp];exact OC J J J J))) ?_;refine S1 ?_;refine aL (λb2=>?_);refine N5 ?_;refine JY 10 ?_;refine dK 0 ?_;refine dK 1 ?_;refine dZ 2 J (jT Zn J J (λw1 hs=>ME x1.1 _ x1.2 E1 p w1 (Y2 (Qr h1 hs.fin) J) hE.ok1 Om hkey.ok hkey.ne hkey.ord)) ?_;refine dK 3 ?_;refine dK 4 ?_;refine dZ 5 J (jT Zn J J (λw1 hs=>ME x2.1 _ x2.2 E2 p w1 (Y2 (Qr h2 hs.fin) J) hE.ok2 Om hkey.ok hkey.ne hkey.ord)) ?_;refine Rw (i:=6) (j:=7) J J Dc Dc Dc J J J J Dc Dc Dc J J Q2 Q2 Kr Kr Kr (u9 J) (λb3 b4=>?_);refine n9 ?_;refine qg (i:=8) J Dc Kr J ?_;refine S1 ?_;refine JS (u9 J) ?_;refine qg (i:=9) J Dc Kr J ?_;refine S1 ?_;refine JS (u9 J) ?_;refine JK Kr ?_;refine S3 ?_;refine JY 14 ?_;refine dK 0 ?_;refine dK 1 ?_;refine dK 2 ?_;refine dK 3 ?_;refine dK 4 ?_;refine dZ 5 J (jT Zm J J (λw1 hs=>FV (Q5 E1 p).left (Q5 E2 p).left how w1)) ?_;refine dK 6 ?_;refine dK 7 ?_;refine dK 8 ?_;refine dK 9 ?_;refine dK 10 ?_;refine dZ 11 J (jT Zm J J (λw1 hs=>FV (Q5 E1 p).right (Q5 E2 p).right how w1)) ?_;refine dK 12 ?_;refine dK 13 ?_;refine JK Kr ?_;obtain⟨lf,hlf⟩:∃lf,lf=QW (Q5 E1 p).left (Q5 E2 p).left how:=⟨_,rfl⟩;obtain⟨rf,hrf⟩:∃rf,rf=QW (Q5 E1 p).right (Q5 E2 p).right how:=⟨_,rfl⟩;rw[<-hlf,<-hrf] at hst;rw[<-hlf,<-hrf];refine S2 ?_;refine qH [(42,.bool (lf&& !rf))] (kK [0,1,2,6,18,19,7,20,21,22,23,9,24,25,26,27,28,29,10,11,30,31,32,33,34,35,36,37,38,39,40,41,12,13]) (λL h_7=>?_) ?_
  .refine S3 ?_;refine cV 44 (λg1=>?_) (λg1=>?_)
   .refine S7 ?_;exact Jx h_7 ⟨vb (by rw[g1,jlZ]),sz⟩ (u9 J)
   .refine S5 ?_;exact Jx h_7 ⟨vb (by rw[g1,jmg]),sz⟩ (u9 J)
  .refine v9 ?_;refine cZ (λc2=>?_) (λc2=>?_)
   .refine S4 ?_;refine j5 J J (KZ J) J (lb J) (λb5=>?_);refine N1 ?_;refine JQ (k:=0) J jV qp Dc J Dc J J J (λw' hs=>qL hs (k:=7) J J) (by simp[Value.oneCell']) (by unfold maxLen;omega) Om (jlL _) (λr1=>?_);refine N9 ?_;exact Jn hL1 ((i+1,r1)) ((show i+1<=ks.length by omega)) (by simp only;omega) ⟨(by rw[hst,zS,if_pos c2,jlJ];rfl),vi Om,sz⟩ (λ_ h=>h.upto ⟨by rw[hst,zS,if_pos c2,jlJ,jlW];rfl,sz⟩)
   .refine qH [(52,.bool (rf&& !lf))] (kK [0,1,2,6,18,19,7,20,21,22,23,9,24,25,26,27,28,29,10,11,30,31,32,33,34,35,36,37,38,39,40,41,12,13,42]) (λL h_9=>?_) ?_
    .refine S3 ?_;refine cV 54 (λg2=>?_) (λg2=>?_)
     .refine S7 ?_;exact Jx h_9 ⟨vb (by rw[g2,jlZ]),sz⟩ (u9 J)
     .refine S5 ?_;exact Jx h_9 ⟨vb (by rw[g2,jmg]),sz⟩ (u9 J)
    .refine v9 ?_;refine cZ (λc3=>?_) (λc3=>?_)
     .refine S6 ?_;refine a9 (JD J J (YE J J)) ?_;refine S1 ?_;refine j5 J J (KZ J) J (lb J) (λb6=>?_);refine N1 ?_;refine JQ (k:=0) J jV qp Dc J Dc J J J (λw' hs=>qL hs (k:=7) J J) (by simp[Value.oneCell']) (by unfold maxLen;omega) Om (jlL _) (λr2=>?_);refine N9 ?_;exact Jn hL1 ((i+1,r2)) ((show i+1<=ks.length by omega)) (by simp only;omega) ⟨(by rw[hst,zS,if_neg (by rw[c2];simp),if_pos c3,jlJ];rfl),vi Om,sz⟩ (λ_ h=>h.upto ⟨by rw[hst,zS,if_neg (by rw[c2];simp),if_pos c3,jlJ,jlW];rfl,sz⟩)
     .refine S8 ?_;exact Jn hL1 ((i+1,rA,rc)) ((show i+1<=ks.length by omega)) (by simp only;omega) ⟨(by rw[hst,zS,if_neg (by rw[c2];simp),if_neg (by rw[c3];simp),jl9];rfl),vi Om,sz⟩ (λ_ h=>h.upto ⟨by rw[hst,zS,if_neg (by rw[c2];simp),if_neg (by rw[c3];simp),jl9],sz⟩)
 .have hik:i=ks.length:=Om;have hbe:XO E1 E2 how ks i=vW E1 E2 how:=(by rw[hik,hks];rfl)
  rw[hbe];refine S11 ?_;refine jK J (.tmp J) ?_;intro w' hs;have hr:=hs.all 0 _ rfl
  exact⟨_,rfl,vM hr.1 (λb hb=>(hr.2.1 b hb).elim id (λh=>by cases h)),hs.fin⟩
theorem jhJ{o p q:Pn}(hp:p≠o)(hq:q≠o)(h:Q9 o p q):uV o q p=true\/uV o p q=true:=by
 obtain⟨ht,hd⟩:=h;have ht':tn o q p=0:=by rw[Xd];omega
 by_cases h1:uV o q p=true
 .exact .inl h1
 by_cases h2:uV o p q=true
 .exact .inr h2
 exfalso;obtain⟨m,n,hm,hn,e1,e2⟩:=LS (Ne.symm hq) ht' h1;obtain⟨m',n',hm',hn',e1',e2'⟩:=LS (Ne.symm hp) ht h2;have hne:p.1-o.1≠0\/p.2-o.2≠0:=by
  by_cases k:p.1-o.1=0
  .exact .inr λk2=>hp (Prod.ext Om Om)
  .exact .inl k
 have hne':q.1-o.1≠0\/q.2-o.2≠0:=by
  by_cases k:q.1-o.1=0
  .exact .inr λk2=>hq (Prod.ext Om Om)
  .exact .inl k
 have hP:0<(p.1-o.1)*(p.1-o.1)+(p.2-o.2)*(p.2-o.2):=by
  have s1:=Kp (a:=p.1-o.1) (b:=p.1-o.1) rfl;have s2:=Kp (a:=p.2-o.2) (b:=p.2-o.2) rfl
  omega
 have hQ:0<(q.1-o.1)*(q.1-o.1)+(q.2-o.2)*(q.2-o.2):=by
  have s1:=Kp (a:=q.1-o.1) (b:=q.1-o.1) rfl;have s2:=Kp (a:=q.2-o.2) (b:=q.2-o.2) rfl
  omega
 have f1:n*(q.1-o.1)=(n-m)*(p.1-o.1):=by
  have:n*(q.1-o.1)=n*(q.1-p.1)+n*(p.1-o.1):=by grind
  rw[this,<-e1];grind
 have f2:n*(q.2-o.2)=(n-m)*(p.2-o.2):=by
  have:n*(q.2-o.2)=n*(q.2-p.2)+n*(p.2-o.2):=by grind
  rw[this,<-e2];grind
 have f1':n'*(p.1-o.1)=(n'-m')*(q.1-o.1):=by
  have:n'*(p.1-o.1)=n'*(p.1-q.1)+n'*(q.1-o.1):=by grind
  rw[this,<-e1'];grind
 have f2':n'*(p.2-o.2)=(n'-m')*(q.2-o.2):=by
  have:n'*(p.2-o.2)=n'*(p.2-q.2)+n'*(q.2-o.2):=by grind
  rw[this,<-e2'];grind
 generalize p.1-o.1=p1 at*;generalize p.2-o.2=p2 at*;generalize q.1-o.1=q1 at*;generalize q.2-o.2=q2 at*;have g1:n*(q1*q1+q2*q2)=(n-m)*(p1*q1+p2*q2):=by
  have:n*(q1*q1+q2*q2)=q1*(n*q1)+q2*(n*q2):=by grind
  rw[this,f1,f2];grind
 have g2:n'*(p1*p1+p2*p2)=(n'-m')*(p1*q1+p2*q2):=by
  have:n'*(p1*p1+p2*p2)=p1*(n'*p1)+p2*(n'*p2):=by grind
  rw[this,f1',f2'];grind
 have k1:=jmj hn hQ;have k2:=jmj hn' hP
 have s1:=Kp (a:=n-m) (b:=p1*q1+p2*q2) rfl;have s2:=Kp (a:=n'-m') (b:=p1*q1+p2*q2) rfl
 have a1:0<n-m:=by omega
 have a2:0<n'-m':=by omega
 have g3:n*n'*(p1*p1+p2*p2)=(n-m)*(n'-m')*(p1*p1+p2*p2):=by
  have x1:n*n'*(p1*p1+p2*p2)=p1*(n*(n'*p1))+p2*(n*(n'*p2)):=by grind
  rw[x1,f1',f2'];have x2:p1*(n*((n'-m')*q1))+p2*(n*((n'-m')*q2))=(n'-m')*(p1*(n*q1)+p2*(n*q2)):=by grind
  rw[x2,f1,f2];grind
 have b1:(n-m)*(n'-m')<=(n-m)*n':=jmr Om Om;have b2:(n-m)*n'<n*n':=jl6 Om hn'
 have b3:=jl6 (show(n-m)*(n'-m')<n*n' by omega) hP;omega
theorem Hi{a b c d o p q:Pn}(h:wO a b c d=true)(h1:(a=o/\b=p)\/(a=p/\b=o))(h2:(c=o/\d=q)\/(c=q/\d=o))(hp:p≠o)(hq:q≠o)(hs:Q9 o p q):p=q:=Decidable.byContradiction λhpq=>by
 have ona:∀x,uV o p x=true->uV a b x=true:=λx hx=>by
  rcases h1 with⟨rfl,rfl⟩|⟨rfl,rfl⟩
  .exact hx
  .rw[B5];exact hx
 have onc:∀x,uV o q x=true->uV c d x=true:=λx hx=>by
  rcases h2 with⟨rfl,rfl⟩|⟨rfl,rfl⟩
  .exact hx
  .rw[B5];exact hx
 have mem:∀x,x=o\/x=p\/x=q->uV o p x=true->uV o q x=true->x∈QE a b c d:=λx h0 k1 k2=>q7.2 ⟨by
  rcases h1 with⟨rfl,rfl⟩|⟨rfl,rfl⟩<;>rcases h2 with⟨rfl,rfl⟩|⟨rfl,rfl⟩<;>rcases h0 with rfl|rfl|rfl<;>simp,by
  unfold Kb;rw[ona x k1,onc x k2];rfl⟩
 have ho:=mem o (.inl rfl) (Ul o p) (Ul o q);have h3:Qi a b c d=3:=by
  rcases jhJ hp hq hs with k|k
  .exact LC ho (mem p (.inr (.inl rfl)) (UX o p) k) (Ne.symm hp)
  .exact LC ho (mem q (.inr (.inr rfl)) k (UX o q)) (Ne.symm hq)
 have hap:vQ a b c d=false:=by
  rw[vQ];simp only[Bool.or_eq_false_iff,decide_eq_false_iff_not];rcases h1 with⟨rfl,rfl⟩|⟨rfl,rfl⟩<;>rcases h2 with⟨rfl,rfl⟩|⟨rfl,rfl⟩<;>omega
 unfold wO at h;rw[hap,h3] at h;simp only[jmF,if_false,show¬((3:Int)=2) by omega,show¬((3:Int)=1) by omega,if_true,decide_eq_true_eq] at h;rcases h1 with⟨rfl,rfl⟩|⟨rfl,rfl⟩<;>rcases h2 with⟨rfl,rfl⟩|⟨rfl,rfl⟩<;>rcases h with⟨k1,k2⟩|⟨k1,k2⟩<;>first|exact hpq k1|exact hpq k2|exact hpq k1.symm|exact hpq k2.symm|exact hp k1|exact hp k2|exact hq k1|exact hq k2|exact hp k1.symm|exact hq k2.symm|exact hp k2.symm|exact hq k1.symm
def Yz(E:List Leg):Prop:=∀e∈E,∀f∈E,wO (lA e) (lB e) (lA f) (lB f)=true
theorem jiq{l:Leg}{a b:Bool}(h:l∈zS p a b):l=p\/l=qW p:=by
 unfold zS at h;split at h
 .exact .inl (jlM.1 h)
 .split at h
  .exact .inr (jlM.1 h)
  .cases h
theorem jhu(h:Key es p):qh p=p/\qh (qW p)=p:=by
 have h1:qh p=p:=by unfold qh;rw[if_neg h.ord]
 exact⟨h1,by rw[zJ h.ne,h1]⟩
theorem GP(hE:TwoE E1 E2){l:Leg}(h:l∈vW E1 E2 how):∃e∈E1++E2,(l=e\/l=qW e):=by
 unfold vW XO at h;rw[jms] at h;obtain⟨p,hp,hl⟩:=jm8.1 h;obtain⟨_,e,he,h2⟩:=G5 hE.ok hE.ne hp;refine⟨e,he,?_⟩;have hn:p=e\/p=qW e:=by rw[h2];unfold qh;split<;>simp
 rcases jiq hl with rfl|rfl<;>rcases hn with rfl|rfl
 .exact .inl rfl
 .exact .inr rfl
 .exact .inr rfl
 .exact .inl (IK e)
theorem zC(es:List Leg):(KF es).Nodup:=by
 have ha:GE (Qf false es []):=Wl List.Pairwise.nil;rw[KF];exact List.Pairwise.imp (λ{a b} (h:XB a b) (e:a=b)=>vS a (by rw[<-e] at h;exact h)) (jnx.2 ha)
theorem FX(hE:TwoE E1 E2):((vW E1 E2 how).map qh).Nodup:=by
 have key:∀ks:List Leg,(∀p∈ks,Key (E1++E2) p)->((ks.flatMap λp=>zS p (QW (Q5 E1 p).left (Q5 E2 p).left how) (QW (Q5 E1 p).right (Q5 E2 p).right how)).map qh).Sublist ks:=by
  intro ks
  induction ks with
  |nil=>intro _;exact List.Sublist.slnil
  |cons p ks ih=>
   intro hk;rw[jl4,jma];have h1:=jhu (hk p (jl7 ..))
   have h2:=ih λq hq=>hk q (jlQ _ hq)
   unfold zS;split
   .simp only[jmA,jnB,h1.1,jmf,jmt];exact h2.cons_cons p
   .split
    .simp only[jmA,jnB,h1.2,jmf,jmt];exact h2.cons_cons p
    .exact h2.cons p
 unfold vW XO;rw[jms];exact(zC _).sublist (key _ λp hp=>(G5 hE.ok hE.ne hp).1)
theorem XQ(hE:TwoE E1 E2):BoOk (vW E1 E2 how):=by
 refine⟨λl hl=>?_,?_⟩
 .obtain⟨e,he,h|h⟩:=GP hE hl
  .rw[h];exact hE.ok e he
  .rw[h];have:=hE.ok e he
   exact⟨this.2.2.1,this.2.2.2,this.1,this.2.1⟩
 .have h1:=Be (E1:=E1) (E2:=E2) (how:=how) (ks:=KF (E1++E2)) _ (jlL _);have h2:=Nu (es:=E1++E2)
  have h3:=hE.lnE;have h4:=hE.lnF
  rw[jlJ] at h2;unfold vW;omega
theorem Lj(hE:TwoE E1 E2)(hP:Yz (E1++E2)):TrOk (vW E1 E2 how):=by
 have hnd:=FX (how:=how) hE;have hin:∀i,i<(vW E1 E2 how).length->lg (vW E1 E2 how) i∈vW E1 E2 how:=λi hi=>by rw[<-uu hi];exact jlY hi
 have hne:∀i,i<(vW E1 E2 how).length->lA (lg (vW E1 E2 how) i)≠lB (lg (vW E1 E2 how) i):=λi hi=>by
  obtain⟨e,he,h|h⟩:=GP hE (hin i hi)
  .rw[h];exact hE.ne e he
  .rw[h];exact λk=>hE.ne e he k.symm
 have inj:∀i j,i<(vW E1 E2 how).length->j<(vW E1 E2 how).length->qh (lg (vW E1 E2 how) i)=qh (lg (vW E1 E2 how) j)->i=j:=λi j hi hj h=>by
  have h1:((vW E1 E2 how).map qh)[i]'(by simpa using hi)=((vW E1 E2 how).map qh)[j]'(by simpa using hj):=by
   rw[jmW,jmW,uu hi,uu hj];exact h
  exact(List.getElem_inj hnd).1 h1
 have ends:∀i,i<(vW E1 E2 how).length->∃e∈E1++E2,(lA e=lA (lg (vW E1 E2 how) i)/\lB e=lB (lg (vW E1 E2 how) i))\/(lA e=lB (lg (vW E1 E2 how) i)/\lB e=lA (lg (vW E1 E2 how) i)):=λi hi=>by
  obtain⟨e,he,h|h⟩:=GP hE (hin i hi)
  .exact⟨e,he,.inl ⟨by rw[h],by rw[h]⟩⟩
  .exact⟨e,he,.inr ⟨by rw[h];rfl,by rw[h];rfl⟩⟩
 refine⟨hne,λi j hi hj hij hv hs=>?_,λi j hi hj hv hs=>?_⟩
 .obtain⟨e,he,k1⟩:=ends i hi;obtain⟨f,hf,k2⟩:=ends j hj;have:=Hi (hP e he f hf) (o:=lA (lg (vW E1 E2 how) i)) (p:=lB (lg (vW E1 E2 how) i)) (q:=lB (lg (vW E1 E2 how) j)) k1 (by rw[hv];exact k2) (Ne.symm (hne i hi)) (by rw[hv];exact Ne.symm (hne j hj)) hs
  exact hij (inj i j hi hj (by rw[UW hv this]))
 .obtain⟨e,he,k1⟩:=ends j hj;obtain⟨f,hf,k2⟩:=ends i hi;have:=Hi (hP e he f hf) (o:=lB (lg (vW E1 E2 how) i)) (p:=lB (lg (vW E1 E2 how) j)) (q:=lA (lg (vW E1 E2 how) i)) (by rw[<-hv];exact k1) (k2.symm) (by rw[<-hv];exact Ne.symm (hne j hj)) (hne i hi) hs
  have hr:lg (vW E1 E2 how) j=qW (lg (vW E1 E2 how) i):=UW hv this;have:=inj j i hj hi (by rw[hr,zJ (hne i hi)])
  subst this;exact hne j hj (by rw[hv])
def wd(E1 E2:List Leg):List Nt:=Qf true E2 (Qf false E1 [])
theorem SV(E1 E2:List Leg):GE (wd E1 E2):=Wl (Wl List.Pairwise.nil)
theorem DR(E1 E2:List Leg):(wd E1 E2).map (·.e)=KF (E1++E2):=by
 have h2:GE (Qf false (E1++E2) []):=Wl List.Pairwise.nil;refine GH (jnx.2 (SV E1 E2)) (jnx.2 h2) λq=>?_
 simp only[KF,jlR];rw[show(∃a,a∈wd E1 E2/\a.e=q)↔_ from Wm,show(∃a,a∈Qf false (E1++E2) []/\a.e=q)↔_ from Wm,Wm];simp only[jmi,false_and,exists_false,false_or,jl0];constructor
 .rintro(⟨e,h1,h2⟩|⟨e,h1,h2⟩)
  .exact⟨e,.inl h1,h2⟩
  .exact⟨e,.inr h1,h2⟩
 .rintro⟨e,h1|h1,h2⟩
  .exact .inl ⟨e,h1,h2⟩
  .exact .inr ⟨e,h1,h2⟩
theorem jkz(E1 E2:List Leg)(F:Leg->Int):wS false F (wd E1 E2)=sm (λe=>sg e*F (qh e)) E1:=by
 rw[wd,ZL,ZL];simp[wS,sm]
theorem jkA(E1 E2:List Leg)(F:Leg->Int):wS true F (wd E1 E2)=sm (λe=>sg e*F (qh e)) E2:=by
 rw[wd,ZL,ZL];simp[wS,sm]
theorem Bj{E:List Leg}(hsub:∀e∈es,e∈E)(hne:∀l∈E,lA l≠lB l)(hP:Yz E){e0:Leg}(he0:e0∈E):Td es (qh e0):=by
 intro hl e he hn;have he:=hsub e he
 have hne1:=hne e he;have hne0:=hne e0 he0
 obtain⟨m1,m2,m3⟩:=xU e0;have hn':¬((lA e0=lA e/\lB e0=lB e)\/(lA e0=lB e/\lB e0=lA e)):=by
  rintro(⟨h1,h2⟩|⟨h1,h2⟩)
  .exact hn (by rw[UW h1 h2])
  .have:e=qW e0:=UW (by rw[<-h2];rfl) (by rw[<-h1];rfl);exact hn (by rw[this,zJ hne0])
 have hl0:e0.ay=e0.b_y:=m3.1 hl;have:=jhD (a:=lA e0) (b:=lB e0) (c:=lA e) (d:=lB e) hl0 (λh=>hne0 (Prod.ext h hl0)) hne1 hn' (hP e0 he0 e he)
 rw[m1,m2];exact this
theorem jeg{s:Bool}{l:List Nt}(ha:GE l)(hw:∀F:Leg->Int,wS s F l=sm (λe=>sg e*F (qh e)) es)(hf:Fine es)(hk:k<l.length)(hc:Td es (nt l k).e)(hkey:Key es (nt l k).e):
  Q5 es (nt l k).e=⟨(nt l k).e,wi s (nt l k),QK s l k l.length+wi s (nt l k),QK s l k l.length⟩:=by
 have h1:wi s (nt l k)=qd es (nt l k).e:=by
  have:=jjb (s:=s) ha (LF hk);rw[<-this];generalize (nt l k).e=p;rw[hw];exact JC λe _=>by split<;>simp
 have h2:QK s l k l.length=Sw es (nt l k).e:=by
  rw[jbS ha hk];generalize (nt l k).e=p;rw[hw];rfl
 rw[jfH hf hc hkey.ord hkey.ne,h1,h2]
def Lh(L:List Nt)(how:Int)(i:Nat):List Leg:=(L.take i).flatMap λx=>zS x.e (QW x.l1 x.l2 how) (QW (x.l1-x.one) (x.l2-x.two) how)
theorem Li{L:List Nt}(h:i<L.length):Lh L how (i+1)=Lh L how i++zS (nt L i).e (QW (nt L i).l1 (nt L i).l2 how) (QW ((nt L i).l1-(nt L i).one) ((nt L i).l2-(nt L i).two) how):=by
 rw[Lh,jlX h,jlW,ZO h];simp[Lh]
theorem TG{L:List Nt}{how:Int}:∀i,i<=L.length->(Lh L how i).length<=i
 |0,_=>by simp[Lh]
 |i+1,h=>by
  have:=TG (L:=L) (how:=how) i Om;have h1:=jbd (nt L i).e (QW (nt L i).l1 (nt L i).l2 how) (QW ((nt L i).l1-(nt L i).one) ((nt L i).l2-(nt L i).two) how)
  rw[Li Om,jlJ];omega
theorem jdK(hE:TwoE E1 E2)(f1:Fine E1)(f2:Fine E2)(hP:Yz (E1++E2)):Lh (UP (wd E1 E2)) how (wd E1 E2).length=vW E1 E2 how:=by
 have hkl:(KF (E1++E2)).length=(wd E1 E2).length:=by rw[<-DR,jlV]
 have key:∀i,i<=(wd E1 E2).length->Lh (UP (wd E1 E2)) how i=XO E1 E2 how (KF (E1++E2)) i:=by
  intro i
  induction i with
  |zero=>intro _;rfl
  |succ i ih=>
   intro hi;have hik:i<(KF (E1++E2)).length:=by omega
   have hnt:=jbl (l:=wd E1 E2) (k:=i) Om;have hlg:lg (KF (E1++E2)) i=(nt (wd E1 E2) i).e:=by
    rw[<-DR];have hi':i<(wd E1 E2).length:=by omega
    simp[lg,nt,List.getD,hi']
   obtain⟨hkey,e0,he0,hp⟩:=G5 hE.ok hE.ne (p:=lg (KF (E1++E2)) i) (by rw[<-uu hik];exact jlY hik);have hc1:Td E1 (nt (wd E1 E2) i).e:=by rw[<-hlg,hp];exact Bj (λe he=>jmH _ he) hE.ne hP he0
   have hc2:Td E2 (nt (wd E1 E2) i).e:=by rw[<-hlg,hp];exact Bj (λe he=>jnd _ he) hE.ne hP he0
   have k1:Key E1 (nt (wd E1 E2) i).e:=by rw[<-hlg];exact⟨hkey.ok,hkey.ne,hkey.ord⟩
   have k2:Key E2 (nt (wd E1 E2) i).e:=by rw[<-hlg];exact⟨hkey.ok,hkey.ne,hkey.ord⟩
   have n1:=jeg (SV E1 E2) (jkz E1 E2) f1 (k:=i) Om hc1 k1;have n2:=jeg (SV E1 E2) (jkA E1 E2) f2 (k:=i) Om hc2 k2
   rw[Li (by rw[PK];omega),Lg hik,ih Om,hnt,hlg,n1,n2];simp only[sdN,wi,jmF,if_false,if_true];rw[show QK false (wd E1 E2) i (wd E1 E2).length+(nt (wd E1 E2) i).one-(nt (wd E1 E2) i).one=QK false (wd E1 E2) i (wd E1 E2).length by omega,
    show QK true (wd E1 E2) i (wd E1 E2).length+(nt (wd E1 E2) i).two-(nt (wd E1 E2) i).two=QK true (wd E1 E2) i (wd E1 E2).length by omega]
 rw[key _ (jlL _),vW,hkl]
theorem jiI(E1 E2:List Leg):(wd E1 E2).length<=E1.length+E2.length:=by
 have h1:=uH (s:=true) E2 (Qf false E1 []);have h2:=uH (s:=false) E1 []
 rw[wd];simp only[jl5] at h2;omega
theorem jll(E1 E2:List Leg)(t:Bool):aS t (wd E1 E2)<=E1.length+E2.length:=by
 have h1:=ZK (s:=true) (t:=t) E2 (Qf false E1 []);have h2:=ZK (s:=false) (t:=t) E1 []
 rw[jdj] at h2;rw[wd];split at h1<;>split at h2<;>omega
theorem Fu(NL:List Nt)(x:Option Addr×Nat)(how:Int)(w:World)(hr:(JV 0 109 8 NL.length ((UP NL).flatMap qz) x).P w)(hl:NL.length<=4096)(ha:∀t,aS t NL<=16384):
  Calls Tryz.prog 48 #[.slice x.1 NL.length x.2,.int .i64 how] w λe w'=>∃v,e=.returned v/\w'.ownsRow w.heap.size 101 4 v (Lh (UP NL) how NL.length).length ((Lh (UP NL) how NL.length).flatMap jW)/\Over w w':=by
 have hsl:=PK NL;refine Jm (m:=84) (Tryz.func48) J J (lb J) ?_;refine S7 ?_;refine j5 J J (ZC) J (lb J) (λb1=>?_);refine W0 0 4 J J ?_;refine N8 ?_;refine JW (X:=Nat×Option Addr×Nat) (λy=>y.1<=NL.length) (λy=>NL.length-y.1) (λy=>[(5,.slice y.2.1 (Lh (UP NL) how y.1).length y.2.2),(6,.int .i64 (y.1:Int))]) (kK [0,1,4]) (λy=>[JV (Bs.N ⟨w,[]⟩) 101 4 (Lh (UP NL) how y.1).length ((Lh (UP NL) how y.1).flatMap jW) y.2]) (0,some ⟨b1,0,none⟩,0) (jlN _) ⟨J,sz⟩ (λ_ h=>h) ?_;intro⟨i,rA,rc⟩ hi L hL1;refine v9 ?_;refine r9 ?_;have hi:i<=NL.length:=hi
 have hbl:=TG (L:=UP NL) (how:=how) i Om;refine S8 ?_;refine cZ (λc1=>?_) (λc1=>?_)
 .have hlt:i<NL.length:=Om;have hlS:i<(UP NL).length:=Om
  have hst:=Li (how:=how) hlS;have hnt:=jbl hlt
  have hd1:=YD (s:=false) (k:=i) (jlL NL.length);have hd2:=YD (s:=true) (k:=i) (jlL NL.length)
  have hc1:=XS (s:=false) hlt;have hc2:=XS (s:=true) hlt
  have ha1:=ha false;have ha2:=ha true
  simp only[wi,if_true,jmF,if_false] at hc1 hc2;have e1:(sdN NL i).l1=QK false NL i NL.length+(nt NL i).one:=rfl
  have e2:(sdN NL i).l2=QK true NL i NL.length+(nt NL i).two:=rfl;obtain⟨X,hX⟩:∃X,X=nt (UP NL) i:=⟨_,rfl⟩;have hb1: -40000<=X.l1/\X.l1<=40000:=(by rw[hX,hnt,e1];omega)
  have hb2: -40000<=X.l2/\X.l2<=40000:=(by rw[hX,hnt,e2];omega);have hb3: -20000<=X.one/\X.one<=20000:=(by rw[hX,hnt];show-20000<=(nt NL i).one/\(nt NL i).one<=20000;omega)
  have hb4: -20000<=X.two/\X.two<=20000:=(by rw[hX,hnt];show-20000<=(nt NL i).two/\(nt NL i).two<=20000;omega);rw[<-hX] at hst;refine S8 ?_;refine a9 (qS (j:=i) (λw hs=>Qr hr hs.fin) J J J JM hlt) ?_;refine S4 ?_;refine JY 11 ?_;refine dK 0 ?_;refine dK 1 ?_;refine dK 2 ?_;refine dZ 3 J (jn J J ju (Gl (i:=6) (v:=.int .i64 X.l1) (λw hs=>Qr hr hs.fin) hlS Om (by rw[hX];rfl))) ?_;refine dK 4 ?_;refine dK 5 ?_;refine dK 6 ?_;refine dZ 7 J (jn J J ju (Gl (i:=7) (v:=.int .i64 X.l2) (λw hs=>Qr hr hs.fin) hlS Om (by rw[hX];rfl))) ?_;refine dK 8 ?_;refine dZ 9 J (jT y5 J J (λw1 hs=>Mz X.l1 X.l2 how w1)) ?_;refine dK 10 ?_;refine JK Kr ?_;refine S3 ?_;refine JY 21 ?_;refine dK 0 ?_;refine dK 1 ?_;refine dK 2 ?_;refine dZ 3 J (jn J J ju (Gl (i:=6) (v:=.int .i64 X.l1) (λw hs=>Qr hr hs.fin) hlS Om (by rw[hX];rfl))) ?_;refine dK 4 ?_;refine dK 5 ?_;refine dK 6 ?_;refine dZ 7 J (jn J J ju (Gl (i:=4) (v:=.int .i64 X.one) (λw hs=>Qr hr hs.fin) hlS Om (by rw[hX];rfl))) ?_;refine dK 8 ?_;refine dK 9 ?_;refine dK 10 ?_;refine dK 11 ?_;refine dZ 12 J (jn J J ju (Gl (i:=7) (v:=.int .i64 X.l2) (λw hs=>Qr hr hs.fin) hlS Om (by rw[hX];rfl))) ?_;refine dK 13 ?_;refine dK 14 ?_;refine dK 15 ?_;refine dZ 16 J (jn J J ju (Gl (i:=5) (v:=.int .i64 X.two) (λw hs=>Qr hr hs.fin) hlS Om (by rw[hX];rfl))) ?_;refine dK 17 ?_;refine dK 18 ?_;refine dZ 19 J (jT y5 J J (λw1 hs=>Mz (X.l1-X.one) (X.l2-X.two) how w1)) ?_;refine dK 20 ?_;refine JK Kr ?_;obtain⟨lf,hlf⟩:∃lf,lf=QW X.l1 X.l2 how:=⟨_,rfl⟩;obtain⟨rf,hrf⟩:∃rf,rf=QW (X.l1-X.one) (X.l2-X.two) how:=⟨_,rfl⟩;rw[<-hlf,<-hrf] at hst;rw[<-hlf,<-hrf];refine S2 ?_;refine qH [(50,.bool (lf&& !rf))] (kK [0,1,4,5,6,11,12,13,14,17,18,19,7,20,21,22,23,24,25,26,27,28,29,8,30,31,32,33,34,35,36,37,38,39,40,41,42,43,44,45,46,47,48,49,9]) (λL h_8=>?_) ?_
  .refine S3 ?_;refine cV 52 (λg1=>?_) (λg1=>?_)
   .refine S7 ?_;exact Jx h_8 ⟨vb (by rw[g1,jlZ]),sz⟩ (u9 J)
   .refine S5 ?_;exact Jx h_8 ⟨vb (by rw[g1,jmg]),sz⟩ (u9 J)
  .refine v9 ?_;refine cZ (λc2=>?_) (λc2=>?_)
   .refine S5 ?_;refine a9 (jj J J vf J (XD [.int .i64 X.e.ax,.int .i64 X.e.ay,.int .i64 X.e.bx,.int .i64 X.e.b_y] 0 (λw hs=>Qr hr hs.fin) hlS Om (by rw[hX];exact OC J J J J))) ?_;refine S1 ?_;refine j5 J J (WC J) J (lb J) (λb2=>?_);refine N1 ?_;refine JQ (k:=0) J JF kO Dc J Dc J J J (λw' hs=>qL hs (k:=1) J J) (by simp[Value.oneCell']) (by unfold maxLen;omega) Om (jlL _) (λr1=>?_);refine N10 ?_;exact Jn hL1 ((i+1,r1)) ((show i+1<=NL.length by omega)) (by simp only;omega) ⟨(by rw[hst,zS,if_pos c2,jlJ];rfl),vi Om,sz⟩ (λ_ h=>h.upto ⟨by rw[hst,zS,if_pos c2,jlJ,jlW];rfl,trivial⟩)
   .refine qH [(63,.bool (rf&& !lf))] (kK [0,1,4,5,6,11,12,13,14,17,18,19,7,20,21,22,23,24,25,26,27,28,29,8,30,31,32,33,34,35,36,37,38,39,40,41,42,43,44,45,46,47,48,49,9,50]) (λL h_10=>?_) ?_
    .refine S3 ?_;refine cV 65 (λg2=>?_) (λg2=>?_)
     .refine S7 ?_;exact Jx h_10 ⟨vb (by rw[g2,jlZ]),sz⟩ (u9 J)
     .refine S5 ?_;exact Jx h_10 ⟨vb (by rw[g2,jmg]),sz⟩ (u9 J)
    .refine v9 ?_;refine cZ (λc3=>?_) (λc3=>?_)
     .refine S1 ?_;refine JY 13 ?_;refine dK 0 ?_;refine dV 1 [2,3,4,5,11,12] ?_;refine dV 2 [3,4,5,11,12] ?_;refine dV 3 [4,5,11,12] ?_;refine dV 4 [5,11,12] ?_;refine d9 5 J [11,12] (u9 J) (jj J J jk J (XD [.int .i64 X.e.bx,.int .i64 X.e.b_y] 2 (λw hs=>Qr hr hs.fin) hlS Om (by rw[hX];exact Gu J J))) ?_;refine dV 6 [7,8,9,10,11,12] ?_;refine dV 7 [8,9,10,11,12] ?_;refine dV 8 [9,10,11,12] ?_;refine dV 9 [10,11,12] ?_;refine d9 10 J [11,12] (u9 J) (jj J J jk J (XD [.int .i64 X.e.ax,.int .i64 X.e.ay] 0 (λw hs=>Qr hr hs.fin) hlS Om (by rw[hX];exact Gu J J))) ?_;refine d9 11 J [12] (u9 J) (JD J J (Uq J J)) ?_;refine qg (i:=12) J Dc Kr J ?_;refine j5 J J (WC J) J (lb J) (λb3=>?_);refine n9 ?_;refine JS (u9 J) ?_;refine vg J Kr J ?_;refine JQ (k:=0) J JF kO Dc J Dc J J J (λw' hs=>qL hs (k:=1) J J) (by simp[Value.oneCell']) (by unfold maxLen;omega) Om (jlL _) (λr2=>?_);refine n9 ?_;refine JY 15 ?_;refine dK 14 ?_;refine JK Kr ?_;refine S8 ?_;exact Jn hL1 ((i+1,r2)) ((show i+1<=NL.length by omega)) (by simp only;omega) ⟨(by rw[hst,zS,if_neg (by rw[c2];simp),if_pos c3,jlJ];rfl),vi Om,sz⟩ (λ_ h=>h.upto ⟨by rw[hst,zS,if_neg (by rw[c2];simp),if_pos c3,jlJ,jlW];rfl,trivial⟩)
     .refine S9 ?_;exact Jn hL1 ((i+1,rA,rc)) ((show i+1<=NL.length by omega)) (by simp only;omega) ⟨(by rw[hst,zS,if_neg (by rw[c2];simp),if_neg (by rw[c3];simp),jl9];rfl),vi Om,sz⟩ (λ_ h=>h.upto ⟨by rw[hst,zS,if_neg (by rw[c2];simp),if_neg (by rw[c3];simp),jl9],trivial⟩)
 .have hik:i=NL.length:=Om;rw[hik];refine S11 ?_;refine jK J (.tmp J) ?_;intro w' hs;have hr2:=hs.all 0 _ rfl
  exact⟨_,rfl,vM hr2.1 (λb hb=>(hr2.2.1 b hb).elim id (λh=>by cases h)),hs.fin⟩
end Go.Proofs.YtjbahemkhphndaaGreat
