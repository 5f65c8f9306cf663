import Derived.Test.YtbahojdbmmjkcaaGreatSHull
import Derived.Test.YtbahojdbmmjkcaaGreatSOn
import Derived.Test.YtbahojdbmmjkcaaGreatSHotLaw
import Derived.Test.YtbahojdbmmjkcaaGreatSTo
import Derived.Test.YtbahojdbmmjkcaaGreatSNums
import Derived.Test.YtbahojdbmmjkcaaGreatSCmp
import Derived.Test.YtbahojdbmmjkcaaGreatSBounds
set_option linter.unusedVariables false
set_option linter.unusedSimpArgs false
namespace Go.Proofs.YtbahojdbmmjkcaaGreat
open Go Go.RowKit
variable {V:Option Addr×Nat→Value} {a b xs:List Pn} {args:Array Value} {i j n:Nat} {w:World} {x:Option Addr×Nat} {ys:List Value}
set_option maxRecDepth 100000
set_option maxHeartbeats 4000000
theorem I0 {B g c:Nat} (h: (JS B 28 2 n (xs.flatMap jV) (some ⟨g,0,none⟩,c)).P w) (hn:xs.length=n) (hn2:n≤1048576) :
  Calls Tryz.prog 204 #[.slice (some ⟨g,0,none⟩) n c] w fun e w'=>e= .returned (.tuple #[])∧Wrs (JS B 28 2 n (xs.flatMap jV) (some ⟨g,0,none⟩,c)).F w w'∧(Ye n xs.reverse g (g+1) (some ⟨g,0,none⟩)).P w':=by
 have ho:OwnP g (g+1) w (some ⟨g,0,none⟩) n xs:=Tv (x:= (some ⟨g,0,none⟩,c)) h hn
 have hlt:g<w.heap.size:= (JS B 28 2 n (xs.flatMap jV) (some ⟨g,0,none⟩,c)).low w h g rfl
 refine(BO g (g+1) _ n c xs w ho Om).mono ?_
 rintro e w' ⟨he,hw,ho'⟩
 exact⟨he,hw.mono fun b hb=>by rw [hb.2.1];rfl,jc4 ho' (by have:=hw.size;omega)⟩
theorem jhL {g c B T m:Nat} (b:Nat) (hb: (Ye n xs g (g+1) (some ⟨g,0,none⟩)).F b) : (JS B T 2 m ys (some ⟨g,0,none⟩,c)).F b:=by
 obtain ⟨h1,h2⟩ :=hb
 show some g=some b
 rw [show g=b by omega]
theorem MU (A:Option Addr) (n c:Nat) (xs:List Pn) (w:World) (h:Pts w A n xs) (hx:∀p∈xs,bdH p) (h0:0<n) (hn:n≤1048576) :
  Calls Tryz.prog 143 #[.slice A n c] w fun e w'=>∃v,e= .returned v∧w'.ownsRow w.heap.size 28 2 v (kW xs).length ((kW xs).flatMap jV)∧Over w w':=by
 have hl:=h.1
 have hbd:∀p∈xs,YZ p:=fun p hp=> (hx p hp).wide
 have hpl:=wE xs
 have hpp:=OT (l:=xs) Om
 have hpx:∀p∈qF xs,bdH p:=fun p hp=>hx p ((wF xs p).1 hp)
 refine jK (m:=26) (Tryz.func143) J J (lb J) ?_;refine S8 ?_;refine JQ KK (v:=fun x=> .slice x.1 _ x.2) (r:=fun x=>JS 0 28 2 _ _ x) (H:=fun _=>True) J J J (lb J) (fun w1 hs=>qI (Hx A n c xs w1 (h.over hs.fin) h0 Om)) ?_
 rintro⟨rA,rc⟩ -
 refine N2 ?_;refine qR (fun w hs=>kI (k:=0) J hs h0) ?_
 rintro⟨eg,rfl⟩
 refine S4 ?_;refine we (k:=0) (X:= {ys:List Pn//ys.Perm xs∧Ris ys}) (v:=fun _=> .tuple #[]) (r':=fun x=>JS 0 28 2 _ (x.1.flatMap jV) (some ⟨eg,0,none⟩,rc)) QR J J J Dc J (fun w1 hs=>TT (hs.all 0 _ J).1 hl hbd Om h0) ?_
 rintro⟨ys,hperm,hris⟩
 refine N5 ?_;refine vT (k:=0) (r':=JS 0 28 2 (QO ys).length ((QO ys).flatMap jV) (some ⟨eg,0,none⟩,rc)) QX J J J Dc J (fun w1 hs=>Hy (hs.all 0 _ J).1 (hperm.length_eq.trans hl) h0 Om) (fun _ h=>h) J ?_;refine N2 ?_
 have he:=R7 hris (fun q=>hperm.mem_iff)
 rw [he]
 refine S7 ?_;refine cZ (fun c1=> ?_) (fun c1=> ?_)
 ·have he2:kW xs=qF xs:=by rw [kW,Xa,if_pos Om]
  refine S7 ?_;refine jJ J (.tmp J) ?_
  intro w' hs
  have hr:=hs.all 0 _ rfl
  exact⟨_,rfl,by rw [he2];exact Q5 hr.1 (fun b hb=> (hr.2.1 b hb).elim id (fun h=>by cases h)),hs.fin⟩
 ·have he2:kW xs=ZY (qF xs) ++ZY (qF xs).reverse:=by rw [kW,Xa,if_neg Om]
  have hs2:=Zm (l:= (qF xs).reverse) (by rw [jjF];omega) (by have:=xN (wD xs) Om;rw [List.getElem?_reverse Om,List.getElem?_reverse (by simp;omega),jjF];simp only [jjR];rw [show(qF xs).length- 1- ((qF xs).length- 1) =0 by omega];exact this.symm)
  have hsl:=wg (qF xs).reverse
  have hcl:=wJ (qF xs).reverse
  have hcl1:=wJ (qF xs)
  have hsl1:=wg (qF xs)
  rw [jjF] at hcl
  refine S11 ?_;refine Tr yp (v:=fun x=> .slice x.1 _ x.2) (r:=fun x=>JS 0 28 2 _ _ x) (H:=fun _=>True) J J J J (lb J) (fun w1 hs=>qI (SB _ _ _ (qF xs) w1 (kE (hs.all 0 _ J).1 J) hpx hpp Om)) ?_
  rintro⟨uA,uc⟩ -
  refine N6 ?_;refine vT (k:=0) (r':=Ye _ (qF xs).reverse eg (eg+1) (some ⟨eg,0,none⟩)) VT J J J Dc J (fun w1 hs=>I0 (hs.all 0 _ J).1 J Om) (fun b hb=>jhL b hb) J ?_;refine N7 ?_;refine Tr yp (v:=fun x=> .slice x.1 _ x.2) (r:=fun x=>JS 0 28 2 _ _ x) (H:=fun _=>True) J J J J (lb J) (fun w1 hs=>qI (SB _ _ _ (qF xs).reverse w1 (G2 (k:=0) J w1 hs) (fun p hp=>hpx p (List.mem_reverse.1 hp)) hpp Om)) ?_
  rintro⟨dA,dc⟩ -
  refine N1 ?_;refine JK (k:=1) J jl jD Dc J Dc J J J (fun w' hs=>Bh (kE (hs.all 2 _ J).1 J) Om) (Kf _) (by unfold maxLen;omega) Om (jie _) (fun r1=> ?_);refine N3 ?_;refine jJ J (.tmp J) ?_
  intro w' hs
  have hr:=hs.all 1 _ rfl
  exact⟨_,rfl,by rw [he2,jid,jii];exact Q5 hr.1 (fun b hb=> (hr.2.1 b hb).elim id (fun h=>by cases h)),hs.fin⟩
theorem Mp (h:QJ xs=true) :∀p∈xs,bd2 p:=fun p hp=>by
 simp only [QJ,jjo] at h
 have:=h p hp
 simp [wX,Yt] at this
 exact⟨⟨by omega,by omega⟩,by omega,by omega⟩
theorem PW (h:QJ xs=true) :∀p∈xs,bdH p:=fun p hp=> (Mp h p hp).mid
def Us (xs:List Pn) :Bool:=decide (1≤xs.length) &&decide (xs.length≤16) &&QJ xs&&decide (kW xs=xs)
theorem OP (h:Us xs=true) : (1≤xs.length∧xs.length≤16)∧QJ xs=true∧kW xs=xs:=by
 simp only [Us,jig,decide_eq_true_eq] at h
 exact⟨h.1.1,h.1.2,h.2⟩
theorem jgS (xs:List Pn) : (Yt (xs.length:Int) 1 16&&QJ xs&&decide (kW xs=xs)) =Us xs:=by
 have e:Yt (xs.length:Int) 1 16= (decide (1≤xs.length) &&decide (xs.length≤16)) :=by
  rw [jiK]
  simp [Yt]
  omega
 rw [e,Us]
theorem jfE (h:Yt (n:Int) 1 16=true) :n≤500000:=by
 simp [Yt] at h
 omega
theorem Dz (A:Option Addr) (n c:Nat) (xs:List Pn) (w:World) (h:Pts w A n xs) (hn: (n:Int)≤1048576) :
  Calls Tryz.prog 85 #[.slice A n c] w fun e w'=>e= .returned (.bool (Us xs))∧Over w w':=by
 have hl:=h.1
 have hhl:=zp xs
 refine jK (m:=21) (Tryz.func85) J J (lb J) ?_;refine S10 ?_;refine cV 6 (fun g1=> ?_) (fun g1=> ?_)
 ·refine S8 ?_;refine cV 11 (fun g2=> ?_) (fun g2=> ?_)
  ·refine S3 ?_;refine o9 (jG VF J J (fun w1 hs=>WD A n c xs w1 (h.over hs.fin) hn)) ?_;refine S2 ?_;refine cV 15 (fun g3=> ?_) (fun g3=> ?_)
   ·refine S3 ?_;refine JQ zC (v:=fun x=> .slice x.1 _ x.2) (r:=fun x=>JS 0 28 2 _ _ x) (H:=fun _=>True) J J J (lb J) (fun w1 hs=>qI (MU A n c xs w1 (h.over hs.fin) (PW (by assumption)) Om Om)) ?_
    rintro⟨pA,pc⟩ -
    refine N3 ?_;refine o9 (jG KL J J (fun w1 hs=>TS _ _ _ n _ _ _ xs w1 (kE (hs.all 0 _ J).1 J) (h.over hs.fin) Om hn)) ?_;refine S4 ?_;refine jJ J (.tmp J) ?_
    intro w' hs
    exact⟨QH (by symm;simp [Us,QJ, *] <;> (intros;omega)),hs.fin⟩
   ·refine S8 ?_;refine jJ J (.tmp J) ?_
    intro w' hs
    exact⟨QH (by symm;simp [Us,QJ, *] <;> (intros;omega)),hs.fin⟩
  ·refine S12 ?_;refine jJ J (.tmp J) ?_
   intro w' hs
   exact⟨QH (by symm;simp [Us,QJ, *] <;> (intros;omega)),hs.fin⟩
 ·refine S17 ?_;refine jJ J (.tmp J) ?_
  intro w' hs
  exact⟨QH (by symm;simp [Us,QJ, *] <;> (intros;omega)),hs.fin⟩
theorem M6 (A:Option Addr) (n c:Nat) (xs:List Pn) (w:World) (h:Pts w A n xs) (hn: (n:Int)≤1048576) :
  Calls Tryz.prog 79 #[.slice A n c] w fun e w'=>e= .returned (.bool (Us xs))∧Over w w':=by
 have hl:=h.1
 have hhl:=zp xs
 have hpi:=jgS xs
 rw [hl] at hpi
 refine jK (m:=16) (Tryz.func79) J J (lb J) ?_;refine S8 ?_;refine a9 (jG W7 J J (fun w1 hs=>Calls.still (wM _ _ _ w1))) ?_;refine S1 ?_;refine cV 6 (fun g1=> ?_) (fun g1=> ?_)
 ·refine S3 ?_;refine o9 (jG Vf J J (fun w1 hs=>wa A n c xs w1 (h.over hs.fin) Om)) ?_;refine S2 ?_;refine cV 10 (fun g2=> ?_) (fun g2=> ?_)
  ·refine S3 ?_;refine JQ YC (v:=fun x=> .slice x.1 _ x.2) (r:=fun x=>JS 0 28 2 _ _ x) (H:=fun _=>True) J J J (lb J) (fun w1 hs=>qI (HJ A n c xs w1 (h.over hs.fin) (PW (by assumption)) (jfE (by assumption)))) ?_
   rintro⟨pA,pc⟩ -
   refine N3 ?_;refine o9 (jG LM J J (fun w1 hs=>zr _ _ _ n _ _ _ xs w1 (kE (hs.all 0 _ J).1 J) (h.over hs.fin) (by have:=jfE (n:=n) (by assumption);omega) hn)) ?_;refine S4 ?_;refine jJ J (.tmp J) ?_
   intro w' hs
   exact⟨QH (by rw [←hpi];simp [*]),hs.fin⟩
  ·refine S8 ?_;refine jJ J (.tmp J) ?_
   intro w' hs
   exact⟨QH (by rw [←hpi];simp [*]),hs.fin⟩
 ·refine S12 ?_;refine jJ J (.tmp J) ?_
  intro w' hs
  exact⟨QH (by rw [←hpi];simp [*]),hs.fin⟩
theorem IJ {P:Program} {f:FuncId} {w1:World} {T s:Nat} {xs:List Value} (h:Calls P f args w1 fun e w'=>∃x:Option Addr×Nat,e= .returned (V x)∧w'.ownsRow w1.heap.size T s (.slice x.1 n x.2) n xs∧Over w1 w') :
  Calls P f args w1 fun e w'=>∃x:Option Addr×Nat,e= .returned (V x)∧Over w1 w'∧(JS 0 T s n xs x).P w'∧(∀b,(JS 0 T s n xs x).F b→w1.heap.size≤b)∧(JS 0 T s n xs x).B=0∧True:=by
 refine h.mono ?_
 rintro e w' ⟨x,rfl,hr,hO⟩
 exact⟨x,rfl,hO,wo hr (jie _),fun b hb=> (hr.lt b hb).1,sz⟩
theorem Wt {w':World} {Rs:List Res} (hs:St ⟨w,[]⟩ Rs w') {k B T s:Nat} {xs:List Value} (hk:Rs[k]? =some (JS B T s n xs x)) :w'.ownsRow w.heap.size T s (.slice x.1 n x.2) n xs:=by
 have hr:=hs.all k _ hk
 exact Q5 hr.1 (fun b hb=> (hr.2.1 b hb).elim id (fun h=>by cases h))
def jbk (p q:Pn) :Pn:= (p.1+q.1,p.2+q.2)
def vX (a b:List Pn) :List Pn:=a.flatMap fun p=>b.map (jbk p)
def zR (a b:List Pn) (i j:Nat) :List Pn:=vX (a.take i) b++ (b.take j).map (jbk (pt a i))
theorem XU (a b:List Pn) : (vX a b).length=a.length*b.length:=by
 unfold vX
 induction a with
 | nil=>simp
 | cons p a ih=>rw [jiA,jid,jip,ih,jij,Nat.add_mul,Nat.one_mul];omega
theorem TA (hi:i≤a.length) (hj:j≤b.length) : (zR a b i j).length=i*b.length+j:=by
 rw [zR,jid,XU,jim,jip,jim,jiZ hi,jiZ hj]
theorem Zx (a b:List Pn) (i:Nat) :zR a b i 0=vX (a.take i) b:=by simp [zR]
theorem yw (hj:j<b.length) :zR a b i (j+1) =zR a b i j++ [jbk (pt a i) (pt b j)] :=by
 rw [zR,jik hj,jiG,←jil,kB hj]
 rfl
theorem XN (hi:i<a.length) :zR a b i b.length=vX (a.take (i+1)) b:=by
 rw [zR,jiM,vX,vX,jik hi,jii,kB hi]
 simp
theorem jfZ (ha:∀p∈a,bd2 p) (hb:∀p∈b,bd2 p) :∀p∈vX a b,bdH p:=by
 intro p hp
 obtain ⟨q,hq,h⟩ :=jjI.1 hp
 obtain ⟨r,hr,rfl⟩ :=jiD.1 h
 obtain ⟨⟨q1,q2⟩,q3,q4⟩ :=ha q hq
 obtain ⟨⟨r1,r2⟩,r3,r4⟩ :=hb r hr
 refine⟨⟨?_,?_⟩,?_,?_⟩ <;>simp only [jbk] <;>omega
theorem Fv (hj:j<b.length) : (zR a b i (j+1)).flatMap jV= (zR a b i j).flatMap jV++ [.int .i64 (px a i+px b j), .int .i64 (py a i+py b j)] :=by
 rw [yw hj,jii]
 rfl
theorem PG (A:Option Addr) (n c:Nat) (a:List Pn) (B:Option Addr) (m d:Nat) (b:List Pn) (w:World) (h:Pts w A n a) (h2:Pts w B m b) (ha:∀p∈a,bd2 p) (hb:∀p∈b,bd2 p) (hn:1≤n∧n≤16) (hm:1≤m∧m≤16) :
  Calls Tryz.prog 212 #[.slice A n c, .slice B m d] w fun e w'=>∃x:Option Addr×Nat,e= .returned (.tuple #[.slice x.1 (kW (vX a b)).length x.2, .bool (QJ (kW (vX a b)))])∧w'.ownsRow w.heap.size 28 2 (.slice x.1 (kW (vX a b)).length x.2) (kW (vX a b)).length ((kW (vX a b)).flatMap jV)∧Over w w':=by
 have hl:=h.1
 have hl2:=h2.1
 obtain ⟨ab,ao,rfl,_⟩ :=h.2 Om
 obtain ⟨bb,bo,rfl,_⟩ :=h2.2 Om
 have hsl:=XU a b
 rw [hl,hl2] at hsl
 have hp1:n*m≤16*16:=jjv Om Om
 have hp0:1*1≤n*m:=jjv Om Om
 have hhl:=zp (vX a b)
 refine jK (m:=45) (Tryz.func212) J J (lb J) ?_;refine S8 ?_;refine Q7 (T:=28) (s:=2) ?_;refine N9 ?_;refine JE (X:=Nat×Option Addr×Nat) (fun x=>x.1≤n) (fun x=>n- x.1) (fun x=> [(6, .slice x.2.1 (vX (a.take x.1) b).length x.2.2),(14, .int .i64 (x.1:Int))]) (kK [1,4,5,12,13]) (fun x=> [JS (Bs.N ⟨w,[]⟩) 28 2 (vX (a.take x.1) b).length ((vX (a.take x.1) b).flatMap jV) x.2]) (0,none,0) (jie _) ⟨J,sz⟩ (fun _ h=>h) ?_
 intro⟨i,rA,rc⟩ hi L hL1
 refine v9 ?_;refine r9 ?_
 have hi:i≤n:=hi
 refine S5 ?_;refine cZ (fun c1=> ?_) (fun c1=> ?_)
 ·have hlt:i<n:=Om
  have him:i*m≤16*16:=jjv Om Om
  obtain ⟨⟨p1,p2⟩,p3,p4⟩ :=ha _ (Ws (show i<a.length by omega))
  simp only [pt] at p1 p2 p3 p4
  refine S7 ?_;refine a9 (jk J J jj J (Q4 h hlt)) ?_;refine S1 ?_;refine aL (fun b1=> ?_);refine N10 ?_;refine JE (X:=Nat×Option Addr×Nat) (fun x=>x.1≤m) (fun x=>m- x.1) (fun x=> [(6, .slice x.2.1 (zR a b i x.1).length x.2.2),(20, .int .i64 (x.1:Int))]) (kK [1,4,5,12,13,14,15,16,17,8,18,19]) (fun x=> [JS (Bs.N ⟨w,[]⟩) 28 2 (zR a b i x.1).length ((zR a b i x.1).flatMap jV) x.2, .cel b1 28 [.int .i64 (px a i), .int .i64 (py a i)]]) (0,rA,rc) (jie _) ⟨(by rw [Zx];rfl),sz⟩ (fun _ h=>h.upto ⟨by rw [Zx],sz⟩) ?_
  intro⟨j,qA,qc⟩ hj L hL2
  refine v9 ?_;refine r9 ?_
  have hj:j≤m:=hj
  have hpl:=TA (a:=a) (b:=b) (i:=i) (j:=j) Om Om
  rw [hl2] at hpl
  refine S5 ?_;refine cZ (fun c2=> ?_) (fun c2=> ?_)
  ·have hjt:j<m:=Om
   obtain ⟨⟨q1,q2⟩,q3,q4⟩ :=hb _ (Ws (show j<b.length by omega))
   simp only [pt] at q1 q2 q3 q4
   refine S7 ?_;refine a9 (jk J J jj J (Q4 h2 hjt)) ?_;refine S1 ?_;refine aL (fun b2=> ?_);refine N15 ?_;refine a9 (JF J J (Qi J J)) ?_;refine S1 ?_;refine jX J J (J9 J) J (lb J) (fun b3=> ?_);refine N1 ?_;refine JK (k:=0) J jl jD Dc J Dc J J J (fun w' hs=>qD hs (k:=3) J J) (by simp [Value.oneCell']) (by unfold maxLen;omega) Om (jif _) (fun r1=> ?_);refine N8 ?_
   exact Jd hL2 ((j+1,r1)) ((show j+1≤m by omega)) (by simp only;omega) ⟨(by rw [yw Om,jid];rfl),vi Om,sz⟩ (fun _ h=>h.upto ⟨by rw [Fv Om,yw Om,jid];rfl,sz⟩)
  ·have hjm:j=b.length:=Om
   subst hjm
   refine S10 ?_
   exact Jd hL1 ((i+1,qA,qc)) ((show i+1≤n by omega)) (by simp only;omega) ⟨(by rw [XN Om];rfl),vi Om,sz⟩ (fun _ h=>h.upto ⟨by rw [XN Om],trivial⟩)
 ·have hin:i=n:=Om
  subst hin
  rw [jiu (show a.length≤i by omega)]
  refine S9 ?_;refine JQ zC (v:=fun x=> .slice x.1 _ x.2) (r:=fun x=>JS 0 28 2 _ _ x) (H:=fun _=>True) J J J (lb J) (fun w1 hs=>qI (MU _ _ _ (vX a b) w1 (kE (hs.all 0 _ J).1 J) (jfZ ha hb) Om Om)) ?_
  rintro⟨pA,pc⟩ -
  refine N6 ?_;refine a9 (jG VF J J (fun w1 hs=>WD _ _ _ (kW (vX a b)) w1 (kE (hs.all 1 _ J).1 J) Om)) ?_;refine S4 ?_;refine JX J (.tmp J) (.tmp J) ?_
  intro w' hs
  exact⟨(pA,pc),rfl,Wt hs (k:=1) rfl,hs.fin⟩
theorem NS (p q:Pn) (w:World) (hp:bd2 p) (hq:bd2 q) :Calls Tryz.prog 267 #[pV p,pV q] w fun e w'=>e= .returned (pV (jbk p q))∧Over w w':=by
 obtain ⟨⟨p1,p2⟩,p3,p4⟩ :=hp
 obtain ⟨⟨q1,q2⟩,q3,q4⟩ :=hq
 refine jK (m:=16) (Tryz.func267) J J (lb J) ?_;refine S3 ?_;refine aX (fun b1=> ?_);refine N1 ?_;refine aX (fun b2=> ?_);refine N1 ?_;refine aL (fun b3=> ?_);refine N13 ?_;refine a9 (JF J J (Qi J J)) ?_;refine S4 ?_;refine jJ J (JZ (k:=2) J jj J J) ?_
 intro w' hs
 exact⟨rfl,hs.fin⟩
theorem NT (A:Option Addr) (n c:Nat) (a:List Pn) (B:Option Addr) (m d:Nat) (b:List Pn) (w:World) (h:Pts w A n a) (h2:Pts w B m b) (ha:∀p∈a,bd2 p) (hb:∀p∈b,bd2 p) (hn:1≤n∧n≤16) (hm:1≤m∧m≤16) :
  Calls Tryz.prog 245 #[.slice A n c, .slice B m d] w fun e w'=>∃x:Option Addr×Nat,e= .returned (.tuple #[.slice x.1 (kW (vX a b)).length x.2, .bool (QJ (kW (vX a b)))])∧w'.ownsRow w.heap.size 28 2 (.slice x.1 (kW (vX a b)).length x.2) (kW (vX a b)).length ((kW (vX a b)).flatMap jV)∧Over w w':=by
 have hl:=h.1
 have hl2:=h2.1
 obtain ⟨ab,ao,rfl,_⟩ :=h.2 Om
 obtain ⟨bb,bo,rfl,_⟩ :=h2.2 Om
 have hsl:=XU a b
 rw [hl,hl2] at hsl
 have hp1:n*m≤16*16:=jjv Om Om
 have hhl:=zp (vX a b)
 refine jK (m:=40) (Tryz.func245) J J (lb J) ?_;refine S8 ?_;refine jX J J (Qk) J (lb J) (fun b1=> ?_);refine KQ 0 2 J J ?_;refine N8 ?_;refine JE (X:=Nat×Option Addr×Nat) (fun x=>x.1≤n) (fun x=>n- x.1) (fun x=> [(6, .slice x.2.1 (vX (a.take x.1) b).length x.2.2),(7, .int .i64 (x.1:Int))]) (kK [0,1,4,5]) (fun x=> [JS (Bs.N ⟨w,[]⟩) 28 2 (vX (a.take x.1) b).length ((vX (a.take x.1) b).flatMap jV) x.2]) (0,some ⟨b1,0,none⟩,0) (jie _) ⟨J,sz⟩ (fun _ h=>h) ?_
 intro⟨i,rA,rc⟩ hi L hL1
 refine v9 ?_;refine r9 ?_
 have hi:i≤n:=hi
 refine S8 ?_;refine cZ (fun c1=> ?_) (fun c1=> ?_)
 ·have hlt:i<n:=Om
  have him:i*m≤16*16:=jjv Om Om
  refine S9 ?_;refine JE (X:=Nat×Option Addr×Nat) (fun x=>x.1≤m) (fun x=>m- x.1) (fun x=> [(6, .slice x.2.1 (zR a b i x.1).length x.2.2),(8, .int .i64 (x.1:Int))]) (kK [0,1,4,5,7,11,12,13,14]) (fun x=> [JS (Bs.N ⟨w,[]⟩) 28 2 (zR a b i x.1).length ((zR a b i x.1).flatMap jV) x.2]) (0,rA,rc) (jie _) ⟨(by rw [Zx];rfl),sz⟩ (fun _ h=>h.upto ⟨by rw [Zx],trivial⟩) ?_
  intro⟨j,qA,qc⟩ hj L hL2
  refine v9 ?_;refine r9 ?_
  have hj:j≤m:=hj
  have hpl:=TA (a:=a) (b:=b) (i:=i) (j:=j) Om Om
  rw [hl2] at hpl
  refine S8 ?_;refine cZ (fun c2=> ?_) (fun c2=> ?_)
  ·have hjt:j<m:=Om
   refine S5 ?_;refine JH 11 ?_;refine dK 0 ?_;refine dV 1 [3,4,9] ?_;refine dV 2 [3,4,9] ?_;refine dV 3 [4,9] ?_;refine d9 4 J [9] (u9 J) (jk J J jj J (Q4 h hlt)) ?_;refine dV 5 [7,8,9] ?_;refine dV 6 [7,8,9] ?_;refine dV 7 [8,9] ?_;refine d9 8 J [9] (u9 J) (jk J J jj J (Q4 h2 hjt)) ?_;refine dZ 9 J (jG zI J J (fun w1 hs=>NS (pt a i) (pt b j) w1 (ha _ (Ws Om)) (hb _ (Ws Om)))) ?_;refine qd (i:=10) J Dc Kr J ?_;refine jX J J (J9 J) J (lb J) (fun b2=> ?_);refine n9 ?_;refine JU (u9 J) ?_;refine kN J Kr J ?_;refine JK (k:=0) J jl jD Dc J Dc J J J (fun w' hs=>qD hs (k:=1) J J) (by simp [Value.oneCell']) (by unfold maxLen;omega) Om (jif _) (fun r1=> ?_);refine n9 ?_;refine JH 13 ?_;refine dK 12 ?_;refine JB Kr ?_;refine S7 ?_
   exact Jd hL2 ((j+1,r1)) ((show j+1≤m by omega)) (by simp only;omega) ⟨(by rw [yw Om,jid];rfl),vi Om,sz⟩ (fun _ h=>h.upto ⟨by rw [Fv Om,yw Om,jid];rfl,trivial⟩)
  ·have hjm:j=b.length:=Om
   subst hjm
   refine S11 ?_
   exact Jd hL1 ((i+1,qA,qc)) ((show i+1≤n by omega)) (by simp only;omega) ⟨(by rw [XN Om];rfl),vi Om,sz⟩ (fun _ h=>h.upto ⟨by rw [XN Om],trivial⟩)
 ·have hin:i=n:=Om
  subst hin
  rw [jiu (show a.length≤i by omega)]
  refine S9 ?_;refine JQ YC (v:=fun x=> .slice x.1 _ x.2) (r:=fun x=>JS 0 28 2 _ _ x) (H:=fun _=>True) J J J (lb J) (fun w1 hs=>qI (HJ _ _ _ (vX a b) w1 (kE (hs.all 0 _ J).1 J) (jfZ ha hb) Om)) ?_
  rintro⟨pA,pc⟩ -
  refine N6 ?_;refine a9 (jG Vf J J (fun w1 hs=>wa _ _ _ (kW (vX a b)) w1 (kE (hs.all 1 _ J).1 J) Om)) ?_;refine S4 ?_;refine JX J (.tmp J) (.tmp J) ?_
  intro w' hs
  exact⟨(pA,pc),rfl,Wt hs (k:=1) rfl,hs.fin⟩
theorem CL {p q:Pn} (hp:bd2 p) (hq:bd2 q) :∀r∈ [p,q],bd2 r:=fun r hr=>by
 simp only [jis,ji3,or_false] at hr
 rcases hr with rfl | rfl
 ·exact hp
 ·exact hq
theorem jfs {pen:List Pn} (h:Us pen=true) (p q:Pn) : (kW (vX pen [p,q])).length≤64:=by
 have h1:=zp (vX pen [p,q])
 have h2:=XU pen [p,q]
 have h3:= (OP h).1
 have e: [p,q].length=2:=rfl
 rw [e] at h2
 omega
theorem Il (A:Option Addr) (n c:Nat) (pen:List Pn) (p q:Pn) (w:World) (h:Pts w A n pen) (hpen:Us pen=true) (hp:bd2 p) (hq:bd2 q) :
  Calls Tryz.prog 201 #[.slice A n c,pV p,pV q] w fun e w'=>∃x:Option Addr×Nat,e= .returned (.tuple #[.slice x.1 (kW (vX pen [p,q])).length x.2, .bool (QJ (kW (vX pen [p,q])))])∧w'.ownsRow w.heap.size 28 2 (.slice x.1 (kW (vX pen [p,q])).length x.2) (kW (vX pen [p,q])).length ((kW (vX pen [p,q])).flatMap jV)∧Over w w':=by
 have hl:=h.1
 obtain ⟨ka,ka2,_⟩ :=OP hpen
 refine jK (m:=15) (Tryz.func201) J J (lb J) ?_;refine S3 ?_;refine aX (fun b1=> ?_);refine N1 ?_;refine aX (fun b2=> ?_);refine N9 ?_;refine jX J J (Kc J J) J (lb J) (fun b3=> ?_);refine N1 ?_;refine JQ Ou (v:=fun x=> .tuple #[.slice x.1 _ x.2, .bool _]) (r:=fun x=>JS 0 28 2 _ _ x) (H:=fun _=>True) J J J (lb J) (fun w1 hs=>IJ (NT A n c pen _ 2 2 [p,q] w1 (h.over hs.fin) (zS [p,q] (k:=2) J J w1 hs) (Mp ka2) (CL hp hq) Om Om)) ?_
 rintro⟨pA,pc⟩ -
 refine N6 ?_;refine JX J (.tmp J) (.tmp J) ?_
 intro w' hs
 exact⟨(pA,pc),rfl,Wt hs (k:=3) rfl,hs.fin⟩
theorem I1 (h:q6 xs=true) : (1≤xs.length∧xs.length≤400)∧∀p∈xs,bd2 p:=by
 have h1:=Qz h
 refine⟨by omega,(okPts.of h).2⟩
theorem SR (A:Option Addr) (n c:Nat) (xs:List Pn) (w:World) (h:Pts w A n xs) (hn: (n:Int)≤1048577) :
  Calls Tryz.prog 199 #[.slice A n c] w fun e w'=>e= .returned (.bool (q6 xs))∧Over w w':=by
 have hl:=h.1
 have hr:q6 xs= (Yt (n:Int) 1 400&&QJ xs) :=by rw [q6,hl]
 refine jK (m:=10) (Tryz.func199) J J (lb J) ?_;refine S8 ?_;refine a9 (jG W7 J J (fun w1 hs=>Calls.still (wM _ _ _ w1))) ?_;refine S1 ?_;refine cV 6 (fun g1=> ?_) (fun g1=> ?_)
 ·refine S3 ?_;refine o9 (jG Vf J J (fun w1 hs=>wa A n c xs w1 (h.over hs.fin) hn)) ?_;refine S4 ?_;refine jJ J (.tmp J) ?_
  intro w' hs
  exact⟨QH (by rw [hr];simp [*]),hs.fin⟩
 ·refine S6 ?_;refine jJ J (.tmp J) ?_
  intro w' hs
  exact⟨QH (by rw [hr];simp [*]),hs.fin⟩
end Go.Proofs.YtbahojdbmmjkcaaGreat
namespace Go.Proofs.YtbahojdbmmjkcaaGreat
open Go Go.RowKit
def Lv (rs:List Jp) :List Jp:=if J0 rs=true then rs else []
def yf (rs:List Jp) :Int:=if J0 rs=true then 0 else 5
theorem NC (rs:List Jp) :smallR (Lv rs) :=by
 unfold Lv
 split
 ·exact smallR.of (by assumption)
 ·exact smallR.nil
end Go.Proofs.YtbahojdbmmjkcaaGreat
namespace Go.Proofs.YtbahojdbmmjkcaaGreat
open Go Go.RowKit
set_option maxRecDepth 100000
set_option maxHeartbeats 4000000
section
variable {n:Nat} {env:List (Nat×Value)} {w0:Bs} {Rs:List Res} {K:Act→World→Prop}
end
abbrev rpR (T n:Nat) (x: (Option Addr×Nat)×List Pc) :Res:= .many [JS 0 T 1 n (x.2.map Pc.val) x.1,vu x.2]
theorem jg1 {w w':World} {Rs:List Res} (hs:St ⟨w,[]⟩ Rs w') {kr kp B T n:Nat} {l:List Pc} {x:Option Addr×Nat} (hr:Rs[kr]? =some (JS B T 1 n (l.map Pc.val) x)) (hp:Rs[kp]? =some (vu l)) (hne:kr≠kp) :
  (rpR T n (x,l)).P w'∧(∀b,(rpR T n (x,l)).F b→w.heap.size≤b) :=by
 have h1:=hs.all kr _ hr
 have h2:=hs.all kp _ hp
 refine⟨jfN (wo (h1.1:w'.ownsRow B T 1 (.slice x.1 n x.2) n (l.map Pc.val)) (jie _)) h2.1 J J (fun b hb=>hs.apart kr kp _ _ hne hr hp b hb),fun b hb=> ?_⟩
 obtain ⟨r,hr',hb⟩ :=hb
 simp only [jis,ji3,or_false] at hr'
 rcases hr' with rfl | rfl
 ·exact(h1.2.1 b hb).elim id (fun h=>by cases h)
 ·exact(h2.2.1 b hb).elim id (fun h=>by cases h)
theorem NV (A:Option Addr) (n c:Nat) (rs:List Jp) (w:World) (h:Rings w A n rs) (ht: (total rs:Int)≤1048577) :
  Calls Tryz.prog 47 #[qG A n c] w fun e w'=>e= .returned (.tuple #[qG (if J0 rs=true then A else none) (if J0 rs=true then n else 0) (if J0 rs=true then c else 0), .int .i64 (yf rs)])∧Over w w':=by
 refine jK (m:=8) (Tryz.func47) J J (lb J) ?_;refine S3 ?_;refine aX (fun b1=> ?_);refine N1 ?_;refine aL (fun b2=> ?_);refine N5 ?_;refine a9 (jG W9 J J (fun w1 hs=>jai _ _ A n c rs w1 (qq (k:=0) J J w1 hs) (J4 (hs.cel (k:=0) J)) (h.over hs.fin) ht)) ?_;refine S2 ?_;refine cZ (fun c1=> ?_) (fun c1=> ?_)
 ·refine S2 ?_;refine a9 (JF J J (JJ)) ?_;refine S6 ?_;refine JX J (JZ (k:=1) J jE J J) (.tmp J) ?_
  intro w' hs
  exact⟨by simp [yf,c1],hs.fin⟩
 ·refine S10 ?_;refine JX J (JZ (k:=1) J jE J J) (.tmp J) ?_
  intro w' hs
  exact⟨by simp [yf,c1],hs.fin⟩
end Go.Proofs.YtbahojdbmmjkcaaGreat
