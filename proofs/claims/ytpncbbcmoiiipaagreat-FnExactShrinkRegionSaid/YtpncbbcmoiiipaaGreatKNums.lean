import Derived.Test.YtpncbbcmoiiipaaGreatKHot
import Derived.Test.YtpncbbcmoiiipaaGreatKHull
import Derived.Test.YtpncbbcmoiiipaaGreatKOn
import Derived.Test.YtpncbbcmoiiipaaGreatKHotLaw
import Derived.Test.YtpncbbcmoiiipaaGreatKLawKit
import Derived.Test.YtpncbbcmoiiipaaGreatKBounds
import Derived.Test.YtpncbbcmoiiipaaGreatKRev
set_option linter.unusedVariables false
set_option linter.unusedSimpArgs false
namespace Go.Proofs.YtpncbbcmoiiipaaGreat
open Go Go.RowKit
def nth (xs:List Int) (k:Nat) :Int:=xs.getD k 0
def Nums (w:World) (A:Option Addr) (n:Nat) (xs:List Int) :Prop:=xs.length=n∧(0<n→∃b o,A=some ⟨b,o,none⟩∧b<w.heap.size∧∀k,k<n→w.cell? ⟨b,o+k,none⟩ =some (.int .i64 (nth xs k)))
theorem Nums.over {w w':World} {A:Option Addr} {n:Nat} {xs:List Int} (h:Nums w A n xs) (hb:Over w w') :Nums w' A n xs:=by
 refine⟨h.1,fun hn=> ?_⟩
 obtain ⟨b,o,hA,hlt,hc⟩ :=h.2 hn
 exact⟨b,o,hA,jiu hlt hb.size,fun k hk=> ((Jy hb).1 b _ hlt).trans (hc k hk)⟩
end Go.Proofs.YtpncbbcmoiiipaaGreat
namespace Go.Proofs.YtpncbbcmoiiipaaGreat
open Go Go.RowKit
set_option maxRecDepth 100000
set_option maxHeartbeats 4000000
theorem jnC {B g n c:Nat} {xs:List Pn} {w:World} (h: (JY B 56 2 n (xs.flatMap Js) (some ⟨g,0,none⟩,c)).P w) (hn:xs.length=n) (hn2:n≤1048576) :
  Calls Tryz.prog 233 #[.slice (some ⟨g,0,none⟩) n c] w fun e w'=>e= .returned (.tuple #[])∧Wrs (JY B 56 2 n (xs.flatMap Js) (some ⟨g,0,none⟩,c)).F w w'∧(jgY n xs.reverse g (g+1) (some ⟨g,0,none⟩)).P w':=by
 have ho:OwnP g (g+1) w (some ⟨g,0,none⟩) n xs:=jcK (x:= (some ⟨g,0,none⟩,c)) h hn
 have hlt:g<w.heap.size:= (JY B 56 2 n (xs.flatMap Js) (some ⟨g,0,none⟩,c)).low w h g rfl
 refine(jm6 g (g+1) _ n c xs w ho Om).mono ?_
 rintro e w' ⟨he,hw,ho'⟩
 exact⟨he,hw.mono fun b hb=>by rw [hb.2.1];rfl,jgX ho' (by have:=hw.size;omega)⟩
theorem jpZ {n g c B T m:Nat} {xs:List Pn} {ys:List Value} (b:Nat) (hb: (jgY n xs g (g+1) (some ⟨g,0,none⟩)).F b) : (JY B T 2 m ys (some ⟨g,0,none⟩,c)).F b:=by
 obtain ⟨h1,h2⟩ :=hb
 show some g=some b
 rw [show g=b by omega]
theorem jmL (A:Option Addr) (n c:Nat) (xs:List Pn) (w:World) (h:Pts w A n xs) (hx:∀p∈xs,bdH p) (h0:0<n) (hn:n≤1048576) :
  Calls Tryz.prog 182 #[.slice A n c] w fun e w'=>∃v,e= .returned v∧w'.ownsRow w.heap.size 56 2 v (DX xs).length ((DX xs).flatMap Js)∧Over w w':=by
 have hl:=h.1
 have hbd:∀p∈xs,ZQ p:=fun p hp=> (hx p hp).wide
 have hpl:=xI xs
 have hpp:=jm2 (l:=xs) Om
 have hpx:∀p∈kH xs,bdH p:=fun p hp=>hx p ((Wi xs p).1 hp)
 refine Jh (m:=26) (Tryz.func182) J J (lb J) ?_;refine S8 ?_;refine J4 Wf (v:=fun x=> .slice x.1 _ x.2) (r:=fun x=>JY 0 56 2 _ _ x) (H:=fun _=>True) J J J (lb J) (fun w1 hs=>Qh (I8 A n c xs w1 (h.over hs.fin) h0 Om)) ?_
 rintro⟨rA,rc⟩ -
 refine N2 ?_;refine ky (fun w hs=>VJ (k:=0) J hs h0) ?_
 rintro⟨eg,rfl⟩
 refine S4 ?_;refine qO (k:=0) (X:= {ys:List Pn//ys.Perm xs∧Ris ys}) (v:=fun _=> .tuple #[]) (r':=fun x=>JY 0 56 2 _ (x.1.flatMap Js) (some ⟨eg,0,none⟩,rc)) Kh J J J Dc J (fun w1 hs=>jdr (hs.all 0 _ J).1 hl hbd Om h0) ?_
 rintro⟨ys,hperm,hris⟩
 refine N5 ?_;refine z7 (k:=0) (r':=JY 0 56 2 (QY ys).length ((QY ys).flatMap Js) (some ⟨eg,0,none⟩,rc)) Kz J J J Dc J (fun w1 hs=>Rb (hs.all 0 _ J).1 (hperm.length_eq.trans hl) h0 Om) (fun _ h=>h) J ?_;refine N2 ?_
 have he:=jbs hris (fun q=>hperm.mem_iff)
 rw [he]
 refine S7 ?_;refine cZ (fun c1=> ?_) (fun c1=> ?_)
 ·have he2:DX xs=kH xs:=by rw [DX,jlV,if_pos Om]
  refine S7 ?_;refine jM J (.tmp J) ?_
  intro w' hs
  have hr:=hs.all 0 _ rfl
  exact⟨_,rfl,by rw [he2];exact vv hr.1 (fun b hb=> (hr.2.1 b hb).elim id (fun h=>by cases h)),hs.fin⟩
 ·have he2:DX xs=jlF (kH xs) ++jlF (kH xs).reverse:=by rw [DX,jlV,if_neg Om]
  have hs2:=jlm (l:= (kH xs).reverse) (by rw [jp1];omega) (by have:=jlP (UO xs) Om;rw [List.getElem?_reverse Om,List.getElem?_reverse (by simp;omega),jp1];simp only [jp4];rw [show(kH xs).length- 1- ((kH xs).length- 1) =0 by omega];exact this.symm)
  have hsl:=jkl (kH xs).reverse
  have hcl:=jkp (kH xs).reverse
  have hcl1:=jkp (kH xs)
  have hsl1:=jkl (kH xs)
  rw [jp1] at hcl
  refine S11 ?_;refine jnR jk0 (v:=fun x=> .slice x.1 _ x.2) (r:=fun x=>JY 0 56 2 _ _ x) (H:=fun _=>True) J J J J (lb J) (fun w1 hs=>Qh (jnJ _ _ _ (kH xs) w1 (uu (hs.all 0 _ J).1 J) hpx hpp Om)) ?_
  rintro⟨uA,uc⟩ -
  refine N6 ?_;refine z7 (k:=0) (r':=jgY _ (kH xs).reverse eg (eg+1) (some ⟨eg,0,none⟩)) jki J J J Dc J (fun w1 hs=>jnC (hs.all 0 _ J).1 J Om) (fun b hb=>jpZ b hb) J ?_;refine N7 ?_;refine jnR jk0 (v:=fun x=> .slice x.1 _ x.2) (r:=fun x=>JY 0 56 2 _ _ x) (H:=fun _=>True) J J J J (lb J) (fun w1 hs=>Qh (jnJ _ _ _ (kH xs).reverse w1 (Rv (k:=0) J w1 hs) (fun p hp=>hpx p (List.mem_reverse.1 hp)) hpp Om)) ?_
  rintro⟨dA,dc⟩ -
  refine N1 ?_;refine JV (k:=1) J jw jH Dc J Dc J J J (fun w' hs=>IE (uu (hs.all 2 _ J).1 J) Om) (Ww _) (by unfold maxLen;omega) Om (jii _) (fun r1=> ?_);refine N3 ?_;refine jM J (.tmp J) ?_
  intro w' hs
  have hr:=hs.all 1 _ rfl
  exact⟨_,rfl,by rw [he2,jif,jio];exact vv hr.1 (fun b hb=> (hr.2.1 b hb).elim id (fun h=>by cases h)),hs.fin⟩
theorem jmE {xs:List Pn} (h:WE xs=true) :∀p∈xs,bd2 p:=fun p hp=>by
 simp only [WE,jjn] at h
 have:=h p hp
 simp [wR,xZ] at this
 exact⟨⟨by omega,by omega⟩,by omega,by omega⟩
theorem jon {xs:List Pn} (h:WE xs=true) :∀p∈xs,bdH p:=fun p hp=> (jmE h p hp).mid
def jkJ (xs:List Pn) :Bool:=decide (1≤xs.length) &&decide (xs.length≤16) &&WE xs&&decide (DX xs=xs)
theorem jm1 {xs:List Pn} (h:jkJ xs=true) : (1≤xs.length∧xs.length≤16)∧WE xs=true∧DX xs=xs:=by
 simp only [jkJ,jig,decide_eq_true_eq] at h
 exact⟨h.1.1,h.1.2,h.2⟩
theorem jpR (xs:List Pn) : (xZ (xs.length:Int) 1 16&&WE xs&&decide (DX xs=xs)) =jkJ xs:=by
 have e:xZ (xs.length:Int) 1 16= (decide (1≤xs.length) &&decide (xs.length≤16)) :=by
  rw [jiN]
  simp [xZ]
  omega
 rw [e,jkJ]
theorem jpD {n:Nat} (h:xZ (n:Int) 1 16=true) :n≤500000:=by
 simp [xZ] at h
 omega
theorem jnc (A:Option Addr) (n c:Nat) (xs:List Pn) (w:World) (h:Pts w A n xs) (hn: (n:Int)≤1048576) :
  Calls Tryz.prog 121 #[.slice A n c] w fun e w'=>e= .returned (.bool (jkJ xs))∧Over w w':=by
 have hl:=h.1
 have hhl:=jlc xs
 refine Jh (m:=21) (Tryz.func121) J J (lb J) ?_;refine S10 ?_;refine cV 6 (fun g1=> ?_) (fun g1=> ?_)
 ·refine S8 ?_;refine cV 11 (fun g2=> ?_) (fun g2=> ?_)
  ·refine S3 ?_;refine o9 (jT G4 J J (fun w1 hs=>IU A n c xs w1 (h.over hs.fin) hn)) ?_;refine S2 ?_;refine cV 15 (fun g3=> ?_) (fun g3=> ?_)
   ·refine S3 ?_;refine J4 jld (v:=fun x=> .slice x.1 _ x.2) (r:=fun x=>JY 0 56 2 _ _ x) (H:=fun _=>True) J J J (lb J) (fun w1 hs=>Qh (jmL A n c xs w1 (h.over hs.fin) (jon (by assumption)) Om Om)) ?_
    rintro⟨pA,pc⟩ -
    refine N3 ?_;refine o9 (jT Wg J J (fun w1 hs=>jnZ _ _ _ n _ _ _ xs w1 (uu (hs.all 0 _ J).1 J) (h.over hs.fin) Om hn)) ?_;refine S4 ?_;refine jM J (.tmp J) ?_
    intro w' hs
    exact⟨QH (by symm;simp [jkJ,WE, *] <;> (intros;omega)),hs.fin⟩
   ·refine S8 ?_;refine jM J (.tmp J) ?_
    intro w' hs
    exact⟨QH (by symm;simp [jkJ,WE, *] <;> (intros;omega)),hs.fin⟩
  ·refine S12 ?_;refine jM J (.tmp J) ?_
   intro w' hs
   exact⟨QH (by symm;simp [jkJ,WE, *] <;> (intros;omega)),hs.fin⟩
 ·refine S17 ?_;refine jM J (.tmp J) ?_
  intro w' hs
  exact⟨QH (by symm;simp [jkJ,WE, *] <;> (intros;omega)),hs.fin⟩
theorem jlI (A:Option Addr) (n c:Nat) (xs:List Pn) (w:World) (h:Pts w A n xs) (hn: (n:Int)≤1048576) :
  Calls Tryz.prog 74 #[.slice A n c] w fun e w'=>e= .returned (.bool (jkJ xs))∧Over w w':=by
 have hl:=h.1
 have hhl:=jlc xs
 have hpi:=jpR xs
 rw [hl] at hpi
 refine Jh (m:=16) (Tryz.func74) J J (lb J) ?_;refine S8 ?_;refine a9 (jT BU J J (fun w1 hs=>Calls.still (yL _ _ _ w1))) ?_;refine S1 ?_;refine cV 6 (fun g1=> ?_) (fun g1=> ?_)
 ·refine S3 ?_;refine o9 (jT XR J J (fun w1 hs=>Z1 A n c xs w1 (h.over hs.fin) Om)) ?_;refine S2 ?_;refine cV 10 (fun g2=> ?_) (fun g2=> ?_)
  ·refine S3 ?_;refine J4 jk7 (v:=fun x=> .slice x.1 _ x.2) (r:=fun x=>JY 0 56 2 _ _ x) (H:=fun _=>True) J J J (lb J) (fun w1 hs=>Qh (jmj A n c xs w1 (h.over hs.fin) (jon (by assumption)) (jpD (by assumption)))) ?_
   rintro⟨pA,pc⟩ -
   refine N3 ?_;refine o9 (jT jmx J J (fun w1 hs=>H6 _ _ _ n _ _ _ xs w1 (uu (hs.all 0 _ J).1 J) (h.over hs.fin) (by have:=jpD (n:=n) (by assumption);omega) hn)) ?_;refine S4 ?_;refine jM J (.tmp J) ?_
   intro w' hs
   exact⟨QH (by rw [←hpi];simp [*]),hs.fin⟩
  ·refine S8 ?_;refine jM J (.tmp J) ?_
   intro w' hs
   exact⟨QH (by rw [←hpi];simp [*]),hs.fin⟩
 ·refine S12 ?_;refine jM J (.tmp J) ?_
  intro w' hs
  exact⟨QH (by rw [←hpi];simp [*]),hs.fin⟩
theorem jny {P:Program} {f:FuncId} {args:Array Value} {w1:World} {T s n:Nat} {xs:List Value} {V:Option Addr×Nat→Value} (h:Calls P f args w1 fun e w'=>∃x:Option Addr×Nat,e= .returned (V x)∧w'.ownsRow w1.heap.size T s (.slice x.1 n x.2) n xs∧Over w1 w') :
  Calls P f args w1 fun e w'=>∃x:Option Addr×Nat,e= .returned (V x)∧Over w1 w'∧(JY 0 T s n xs x).P w'∧(∀b,(JY 0 T s n xs x).F b→w1.heap.size≤b)∧(JY 0 T s n xs x).B=0∧True:=by
 refine h.mono ?_
 rintro e w' ⟨x,rfl,hr,hO⟩
 exact⟨x,rfl,hO,yb hr (jii _),fun b hb=> (hr.lt b hb).1,sz⟩
theorem jkw {w w':World} {Rs:List Res} (hs:St ⟨w,[]⟩ Rs w') {k B T s n:Nat} {x:Option Addr×Nat} {xs:List Value} (hk:Rs[k]? =some (JY B T s n xs x)) :w'.ownsRow w.heap.size T s (.slice x.1 n x.2) n xs:=by
 have hr:=hs.all k _ hk
 exact vv hr.1 (fun b hb=> (hr.2.1 b hb).elim id (fun h=>by cases h))
def joQ (p q:Pn) :Pn:= (p.1+q.1,p.2+q.2)
def jkd (a b:List Pn) :List Pn:=a.flatMap fun p=>b.map (joQ p)
def jlh (a b:List Pn) (i j:Nat) :List Pn:=jkd (a.take i) b++ (b.take j).map (joQ (pt a i))
theorem jl6 (a b:List Pn) : (jkd a b).length=a.length*b.length:=by
 unfold jkd
 induction a with
 | nil=>simp
 | cons p a ih=>rw [jiB,jif,jit,ih,jim,Nat.add_mul,Nat.one_mul];omega
theorem jnU {a b:List Pn} {i j:Nat} (hi:i≤a.length) (hj:j≤b.length) : (jlh a b i j).length=i*b.length+j:=by
 rw [jlh,jif,jl6,jiy,jit,jiy,jjm hi,jjm hj]
theorem jlq (a b:List Pn) (i:Nat) :jlh a b i 0=jkd (a.take i) b:=by simp [jlh]
theorem jk2 {a b:List Pn} {i j:Nat} (hj:j<b.length) :jlh a b i (j+1) =jlh a b i j++ [joQ (pt a i) (pt b j)] :=by
 rw [jlh,jin hj,jiO,←jil,Kk hj]
 rfl
theorem jl5 {a b:List Pn} {i:Nat} (hi:i<a.length) :jlh a b i b.length=jkd (a.take (i+1)) b:=by
 rw [jlh,jiX,jkd,jkd,jin hi,jio,Kk hi]
 simp
theorem jpL {a b:List Pn} (ha:∀p∈a,bd2 p) (hb:∀p∈b,bd2 p) :∀p∈jkd a b,bdH p:=by
 intro p hp
 obtain ⟨q,hq,h⟩ :=jjL.1 hp
 obtain ⟨r,hr,rfl⟩ :=jip.1 h
 obtain ⟨⟨q1,q2⟩,q3,q4⟩ :=ha q hq
 obtain ⟨⟨r1,r2⟩,r3,r4⟩ :=hb r hr
 refine⟨⟨?_,?_⟩,?_,?_⟩ <;>simp only [joQ] <;>omega
theorem jnn {a b:List Pn} {i j:Nat} (hj:j<b.length) : (jlh a b i (j+1)).flatMap Js= (jlh a b i j).flatMap Js++ [.int .i64 (px a i+px b j), .int .i64 (py a i+py b j)] :=by
 rw [jk2 hj,jio]
 rfl
theorem joj (A:Option Addr) (n c:Nat) (a:List Pn) (B:Option Addr) (m d:Nat) (b:List Pn) (w:World) (h:Pts w A n a) (h2:Pts w B m b) (ha:∀p∈a,bd2 p) (hb:∀p∈b,bd2 p) (hn:1≤n∧n≤16) (hm:1≤m∧m≤16) :
  Calls Tryz.prog 130 #[.slice A n c, .slice B m d] w fun e w'=>∃x:Option Addr×Nat,e= .returned (.tuple #[.slice x.1 (DX (jkd a b)).length x.2, .bool (WE (DX (jkd a b)))])∧w'.ownsRow w.heap.size 56 2 (.slice x.1 (DX (jkd a b)).length x.2) (DX (jkd a b)).length ((DX (jkd a b)).flatMap Js)∧Over w w':=by
 have hl:=h.1
 have hl2:=h2.1
 obtain ⟨ab,ao,rfl,_⟩ :=h.2 Om
 obtain ⟨bb,bo,rfl,_⟩ :=h2.2 Om
 have hsl:=jl6 a b
 rw [hl,hl2] at hsl
 have hp1:n*m≤16*16:=jp0 Om Om
 have hp0:1*1≤n*m:=jp0 Om Om
 have hhl:=jlc (jkd a b)
 refine Jh (m:=45) (Tryz.func130) J J (lb J) ?_;refine S8 ?_;refine Q7 (T:=56) (s:=2) ?_;refine N9 ?_;refine JQ (X:=Nat×Option Addr×Nat) (fun x=>x.1≤n) (fun x=>n- x.1) (fun x=> [(6, .slice x.2.1 (jkd (a.take x.1) b).length x.2.2),(14, .int .i64 (x.1:Int))]) (kK [1,4,5,12,13]) (fun x=> [JY (Bs.N ⟨w,[]⟩) 56 2 (jkd (a.take x.1) b).length ((jkd (a.take x.1) b).flatMap Js) x.2]) (0,none,0) (jii _) ⟨J,sz⟩ (fun _ h=>h) ?_
 intro⟨i,rA,rc⟩ hi L hL1
 refine v9 ?_;refine r9 ?_
 have hi:i≤n:=hi
 refine S5 ?_;refine cZ (fun c1=> ?_) (fun c1=> ?_)
 ·have hlt:i<n:=Om
  have him:i*m≤16*16:=jp0 Om Om
  obtain ⟨⟨p1,p2⟩,p3,p4⟩ :=ha _ (jkv (show i<a.length by omega))
  simp only [pt] at p1 p2 p3 p4
  refine S7 ?_;refine a9 (jk J J jj J (wL h hlt)) ?_;refine S1 ?_;refine aL (fun b1=> ?_);refine N10 ?_;refine JQ (X:=Nat×Option Addr×Nat) (fun x=>x.1≤m) (fun x=>m- x.1) (fun x=> [(6, .slice x.2.1 (jlh a b i x.1).length x.2.2),(20, .int .i64 (x.1:Int))]) (kK [1,4,5,12,13,14,15,16,17,8,18,19]) (fun x=> [JY (Bs.N ⟨w,[]⟩) 56 2 (jlh a b i x.1).length ((jlh a b i x.1).flatMap Js) x.2, .cel b1 56 [.int .i64 (px a i), .int .i64 (py a i)]]) (0,rA,rc) (jii _) ⟨(by rw [jlq];rfl),sz⟩ (fun _ h=>h.upto ⟨by rw [jlq],sz⟩) ?_
  intro⟨j,qA,qc⟩ hj L hL2
  refine v9 ?_;refine r9 ?_
  have hj:j≤m:=hj
  have hpl:=jnU (a:=a) (b:=b) (i:=i) (j:=j) Om Om
  rw [hl2] at hpl
  refine S5 ?_;refine cZ (fun c2=> ?_) (fun c2=> ?_)
  ·have hjt:j<m:=Om
   obtain ⟨⟨q1,q2⟩,q3,q4⟩ :=hb _ (jkv (show j<b.length by omega))
   simp only [pt] at q1 q2 q3 q4
   refine S7 ?_;refine a9 (jk J J jj J (wL h2 hjt)) ?_;refine S1 ?_;refine aL (fun b2=> ?_);refine N15 ?_;refine a9 (JU J J (q8 J J)) ?_;refine S1 ?_;refine Jx J J (qM J) J (lb J) (fun b3=> ?_);refine N1 ?_;refine JV (k:=0) J jw jH Dc J Dc J J J (fun w' hs=>Qb hs (k:=3) J J) (by simp [Value.oneCell']) (by unfold maxLen;omega) Om (jih _) (fun r1=> ?_);refine N8 ?_
   exact Ji hL2 ((j+1,r1)) ((show j+1≤m by omega)) (by simp only;omega) ⟨(by rw [jk2 Om,jif];rfl),vi Om,sz⟩ (fun _ h=>h.upto ⟨by rw [jnn Om,jk2 Om,jif];rfl,sz⟩)
  ·have hjm:j=b.length:=Om
   subst hjm
   refine S10 ?_
   exact Ji hL1 ((i+1,qA,qc)) ((show i+1≤n by omega)) (by simp only;omega) ⟨(by rw [jl5 Om];rfl),vi Om,sz⟩ (fun _ h=>h.upto ⟨by rw [jl5 Om],trivial⟩)
 ·have hin:i=n:=Om
  subst hin
  rw [jiK (show a.length≤i by omega)]
  refine S9 ?_;refine J4 jld (v:=fun x=> .slice x.1 _ x.2) (r:=fun x=>JY 0 56 2 _ _ x) (H:=fun _=>True) J J J (lb J) (fun w1 hs=>Qh (jmL _ _ _ (jkd a b) w1 (uu (hs.all 0 _ J).1 J) (jpL ha hb) Om Om)) ?_
  rintro⟨pA,pc⟩ -
  refine N6 ?_;refine a9 (jT G4 J J (fun w1 hs=>IU _ _ _ (DX (jkd a b)) w1 (uu (hs.all 1 _ J).1 J) Om)) ?_;refine S4 ?_;refine qv J (.tmp J) (.tmp J) ?_
  intro w' hs
  exact⟨(pA,pc),rfl,jkw hs (k:=1) rfl,hs.fin⟩
theorem jn9 (p q:Pn) (w:World) (hp:bd2 p) (hq:bd2 q) :Calls Tryz.prog 240 #[pV p,pV q] w fun e w'=>e= .returned (pV (joQ p q))∧Over w w':=by
 obtain ⟨⟨p1,p2⟩,p3,p4⟩ :=hp
 obtain ⟨⟨q1,q2⟩,q3,q4⟩ :=hq
 refine Jh (m:=16) (Tryz.func240) J J (lb J) ?_;refine S3 ?_;refine aX (fun b1=> ?_);refine N1 ?_;refine aX (fun b2=> ?_);refine N1 ?_;refine aL (fun b3=> ?_);refine N13 ?_;refine a9 (JU J J (q8 J J)) ?_;refine S4 ?_;refine jM J (qh (k:=2) J jj J J) ?_
 intro w' hs
 exact⟨rfl,hs.fin⟩
theorem joa (A:Option Addr) (n c:Nat) (a:List Pn) (B:Option Addr) (m d:Nat) (b:List Pn) (w:World) (h:Pts w A n a) (h2:Pts w B m b) (ha:∀p∈a,bd2 p) (hb:∀p∈b,bd2 p) (hn:1≤n∧n≤16) (hm:1≤m∧m≤16) :
  Calls Tryz.prog 185 #[.slice A n c, .slice B m d] w fun e w'=>∃x:Option Addr×Nat,e= .returned (.tuple #[.slice x.1 (DX (jkd a b)).length x.2, .bool (WE (DX (jkd a b)))])∧w'.ownsRow w.heap.size 56 2 (.slice x.1 (DX (jkd a b)).length x.2) (DX (jkd a b)).length ((DX (jkd a b)).flatMap Js)∧Over w w':=by
 have hl:=h.1
 have hl2:=h2.1
 obtain ⟨ab,ao,rfl,_⟩ :=h.2 Om
 obtain ⟨bb,bo,rfl,_⟩ :=h2.2 Om
 have hsl:=jl6 a b
 rw [hl,hl2] at hsl
 have hp1:n*m≤16*16:=jp0 Om Om
 have hhl:=jlc (jkd a b)
 refine Jh (m:=40) (Tryz.func185) J J (lb J) ?_;refine S8 ?_;refine Jx J J (vK) J (lb J) (fun b1=> ?_);refine WF 0 2 J J ?_;refine N8 ?_;refine JQ (X:=Nat×Option Addr×Nat) (fun x=>x.1≤n) (fun x=>n- x.1) (fun x=> [(6, .slice x.2.1 (jkd (a.take x.1) b).length x.2.2),(7, .int .i64 (x.1:Int))]) (kK [0,1,4,5]) (fun x=> [JY (Bs.N ⟨w,[]⟩) 56 2 (jkd (a.take x.1) b).length ((jkd (a.take x.1) b).flatMap Js) x.2]) (0,some ⟨b1,0,none⟩,0) (jii _) ⟨J,sz⟩ (fun _ h=>h) ?_
 intro⟨i,rA,rc⟩ hi L hL1
 refine v9 ?_;refine r9 ?_
 have hi:i≤n:=hi
 refine S8 ?_;refine cZ (fun c1=> ?_) (fun c1=> ?_)
 ·have hlt:i<n:=Om
  have him:i*m≤16*16:=jp0 Om Om
  refine S9 ?_;refine JQ (X:=Nat×Option Addr×Nat) (fun x=>x.1≤m) (fun x=>m- x.1) (fun x=> [(6, .slice x.2.1 (jlh a b i x.1).length x.2.2),(8, .int .i64 (x.1:Int))]) (kK [0,1,4,5,7,11,12,13,14]) (fun x=> [JY (Bs.N ⟨w,[]⟩) 56 2 (jlh a b i x.1).length ((jlh a b i x.1).flatMap Js) x.2]) (0,rA,rc) (jii _) ⟨(by rw [jlq];rfl),sz⟩ (fun _ h=>h.upto ⟨by rw [jlq],trivial⟩) ?_
  intro⟨j,qA,qc⟩ hj L hL2
  refine v9 ?_;refine r9 ?_
  have hj:j≤m:=hj
  have hpl:=jnU (a:=a) (b:=b) (i:=i) (j:=j) Om Om
  rw [hl2] at hpl
  refine S8 ?_;refine cZ (fun c2=> ?_) (fun c2=> ?_)
  ·have hjt:j<m:=Om
   refine S5 ?_;refine JS 11 ?_;refine dK 0 ?_;refine dV 1 [3,4,9] ?_;refine dV 2 [3,4,9] ?_;refine dV 3 [4,9] ?_;refine d9 4 J [9] (u9 J) (jk J J jj J (wL h hlt)) ?_;refine dV 5 [7,8,9] ?_;refine dV 6 [7,8,9] ?_;refine dV 7 [8,9] ?_;refine d9 8 J [9] (u9 J) (jk J J jj J (wL h2 hjt)) ?_;refine dZ 9 J (jT Ot J J (fun w1 hs=>jn9 (pt a i) (pt b j) w1 (ha _ (jkv Om)) (hb _ (jkv Om)))) ?_;refine qe (i:=10) J Dc Kr J ?_;refine Jx J J (qM J) J (lb J) (fun b2=> ?_);refine n9 ?_;refine JO (u9 J) ?_;refine vg J Kr J ?_;refine JV (k:=0) J jw jH Dc J Dc J J J (fun w' hs=>Qb hs (k:=1) J J) (by simp [Value.oneCell']) (by unfold maxLen;omega) Om (jih _) (fun r1=> ?_);refine n9 ?_;refine JS 13 ?_;refine dK 12 ?_;refine JK Kr ?_;refine S7 ?_
   exact Ji hL2 ((j+1,r1)) ((show j+1≤m by omega)) (by simp only;omega) ⟨(by rw [jk2 Om,jif];rfl),vi Om,sz⟩ (fun _ h=>h.upto ⟨by rw [jnn Om,jk2 Om,jif];rfl,trivial⟩)
  ·have hjm:j=b.length:=Om
   subst hjm
   refine S11 ?_
   exact Ji hL1 ((i+1,qA,qc)) ((show i+1≤n by omega)) (by simp only;omega) ⟨(by rw [jl5 Om];rfl),vi Om,sz⟩ (fun _ h=>h.upto ⟨by rw [jl5 Om],trivial⟩)
 ·have hin:i=n:=Om
  subst hin
  rw [jiK (show a.length≤i by omega)]
  refine S9 ?_;refine J4 jk7 (v:=fun x=> .slice x.1 _ x.2) (r:=fun x=>JY 0 56 2 _ _ x) (H:=fun _=>True) J J J (lb J) (fun w1 hs=>Qh (jmj _ _ _ (jkd a b) w1 (uu (hs.all 0 _ J).1 J) (jpL ha hb) Om)) ?_
  rintro⟨pA,pc⟩ -
  refine N6 ?_;refine a9 (jT XR J J (fun w1 hs=>Z1 _ _ _ (DX (jkd a b)) w1 (uu (hs.all 1 _ J).1 J) Om)) ?_;refine S4 ?_;refine qv J (.tmp J) (.tmp J) ?_
  intro w' hs
  exact⟨(pA,pc),rfl,jkw hs (k:=1) rfl,hs.fin⟩
theorem jot {p q:Pn} (hp:bd2 p) (hq:bd2 q) :∀r∈ [p,q],bd2 r:=fun r hr=>by
 simp only [jir,ji3,or_false] at hr
 rcases hr with rfl | rfl
 ·exact hp
 ·exact hq
theorem jpA {pen:List Pn} (h:jkJ pen=true) (p q:Pn) : (DX (jkd pen [p,q])).length≤64:=by
 have h1:=jlc (jkd pen [p,q])
 have h2:=jl6 pen [p,q]
 have h3:= (jm1 h).1
 have e: [p,q].length=2:=rfl
 rw [e] at h2
 omega
theorem jns (A:Option Addr) (n c:Nat) (pen:List Pn) (p q:Pn) (w:World) (h:Pts w A n pen) (hpen:jkJ pen=true) (hp:bd2 p) (hq:bd2 q) :
  Calls Tryz.prog 127 #[.slice A n c,pV p,pV q] w fun e w'=>∃x:Option Addr×Nat,e= .returned (.tuple #[.slice x.1 (DX (jkd pen [p,q])).length x.2, .bool (WE (DX (jkd pen [p,q])))])∧w'.ownsRow w.heap.size 56 2 (.slice x.1 (DX (jkd pen [p,q])).length x.2) (DX (jkd pen [p,q])).length ((DX (jkd pen [p,q])).flatMap Js)∧Over w w':=by
 have hl:=h.1
 obtain ⟨ka,ka2,_⟩ :=jm1 hpen
 refine Jh (m:=15) (Tryz.func127) J J (lb J) ?_;refine S3 ?_;refine aX (fun b1=> ?_);refine N1 ?_;refine aX (fun b2=> ?_);refine N9 ?_;refine Jx J J (VO J J) J (lb J) (fun b3=> ?_);refine N1 ?_;refine J4 jmZ (v:=fun x=> .tuple #[.slice x.1 _ x.2, .bool _]) (r:=fun x=>JY 0 56 2 _ _ x) (H:=fun _=>True) J J J (lb J) (fun w1 hs=>jny (joa A n c pen _ 2 2 [p,q] w1 (h.over hs.fin) (jcT [p,q] (k:=2) J J w1 hs) (jmE ka2) (jot hp hq) Om Om)) ?_
 rintro⟨pA,pc⟩ -
 refine N6 ?_;refine qv J (.tmp J) (.tmp J) ?_
 intro w' hs
 exact⟨(pA,pc),rfl,jkw hs (k:=3) rfl,hs.fin⟩
theorem jnD {xs:List Pn} (h:QA xs=true) : (1≤xs.length∧xs.length≤400)∧∀p∈xs,bd2 p:=by
 have h1:=Qf h
 refine⟨by omega,(okPts.of h).2⟩
theorem jnO (A:Option Addr) (n c:Nat) (xs:List Pn) (w:World) (h:Pts w A n xs) (hn: (n:Int)≤1048577) :
  Calls Tryz.prog 125 #[.slice A n c] w fun e w'=>e= .returned (.bool (QA xs))∧Over w w':=by
 have hl:=h.1
 have hr:QA xs= (xZ (n:Int) 1 400&&WE xs) :=by rw [QA,hl]
 refine Jh (m:=10) (Tryz.func125) J J (lb J) ?_;refine S8 ?_;refine a9 (jT BU J J (fun w1 hs=>Calls.still (yL _ _ _ w1))) ?_;refine S1 ?_;refine cV 6 (fun g1=> ?_) (fun g1=> ?_)
 ·refine S3 ?_;refine o9 (jT XR J J (fun w1 hs=>Z1 A n c xs w1 (h.over hs.fin) hn)) ?_;refine S4 ?_;refine jM J (.tmp J) ?_
  intro w' hs
  exact⟨QH (by rw [hr];simp [*]),hs.fin⟩
 ·refine S6 ?_;refine jM J (.tmp J) ?_
  intro w' hs
  exact⟨QH (by rw [hr];simp [*]),hs.fin⟩
end Go.Proofs.YtpncbbcmoiiipaaGreat
namespace Go.Proofs.YtpncbbcmoiiipaaGreat
open Go Go.RowKit
def GL (rs:List jV) :List jV:=if JE rs=true then rs else []
def LM (rs:List jV) :Int:=if JE rs=true then 0 else 5
theorem T7 (rs:List jV) :smallR (GL rs) :=by
 unfold GL
 split
 ·exact smallR.of (by assumption)
 ·exact smallR.nil
end Go.Proofs.YtpncbbcmoiiipaaGreat
namespace Go.Proofs.YtpncbbcmoiiipaaGreat
open Go Go.RowKit
set_option maxRecDepth 100000
set_option maxHeartbeats 4000000
section
variable {n:Nat} {env:List (Nat×Value)} {w0:Bs} {Rs:List Res} {K:Act→World→Prop}
theorem joq (k:Nat) {l m:List Res} (hk:Rs[k]? =some (.many (l++ [.many m]))) (h:At n env w0 (Rs.set k (.many (l++m))) K) :At n env w0 Rs K:=fun a w hf hs=>by
 refine h a w hf (hs.chg hk (fun hP=> ?_) (fun b hb=> ?_) J)
 ·have hl:=jjN.1 hP.2
  have hmm:= (hP.1 (.many m) (by simp)).1
  refine⟨fun r hr=> ?_,?_⟩
  ·rcases jiv.1 hr with h1 | h1
   ·exact hP.1 r (by simp [h1])
   ·exact hmm.1 r h1
  ·rw [jjN]
   exact⟨hl.1,hmm.2,fun a ha b hb c hc hcb=>hl.2.2 a ha _ (jik.2 rfl) c hc ⟨b,hb,hcb⟩⟩
 ·obtain ⟨r,hr,hb⟩ :=hb
  rcases jiv.1 hr with h1 | h1
  ·exact⟨r,by simp [h1],hb⟩
  ·exact⟨.many m,by simp,r,h1,hb⟩
end
abbrev rpR (T n:Nat) (x: (Option Addr×Nat)×List Pc) :Res:= .many [JY 0 T 1 n (x.2.map Pc.val) x.1,vE x.2]
theorem jpU {w w':World} {Rs:List Res} (hs:St ⟨w,[]⟩ Rs w') {kr kp B T n:Nat} {l:List Pc} {x:Option Addr×Nat} (hr:Rs[kr]? =some (JY B T 1 n (l.map Pc.val) x)) (hp:Rs[kp]? =some (vE l)) (hne:kr≠kp) :
  (rpR T n (x,l)).P w'∧(∀b,(rpR T n (x,l)).F b→w.heap.size≤b) :=by
 have h1:=hs.all kr _ hr
 have h2:=hs.all kp _ hp
 refine⟨jhB (yb (h1.1:w'.ownsRow B T 1 (.slice x.1 n x.2) n (l.map Pc.val)) (jii _)) h2.1 J J (fun b hb=>hs.apart kr kp _ _ hne hr hp b hb),fun b hb=> ?_⟩
 obtain ⟨r,hr',hb⟩ :=hb
 simp only [jir,ji3,or_false] at hr'
 rcases hr' with rfl | rfl
 ·exact(h1.2.1 b hb).elim id (fun h=>by cases h)
 ·exact(h2.2.1 b hb).elim id (fun h=>by cases h)
theorem jpK {w:World} {T n:Nat} {x: (Option Addr×Nat)×List Pc} (h: (rpR T n x).P w) :Src 1 (.slice x.1.1 n x.1.2) n (x.2.map Pc.val) w:=by
 have h1:w.ownsRow 0 T 1 (.slice x.1.1 n x.1.2) n (x.2.map Pc.val) := (h.1 (JY 0 T 1 n (x.2.map Pc.val) x.1) (by simp)).1
 refine⟨h1.1,?_⟩
 rcases h1.2 with⟨e,rfl⟩ |⟨g,cap,cur,e,hb,hg,hcap,hrest⟩
 ·exact .inl ⟨e,rfl⟩
 ·injection e with e1 e2 e3
  refine .inr ⟨_,_,by rw [e1],?_⟩
  have h2:=h1
  rw [e1,e3] at h2
  exact h2.cells rfl
theorem joC (l:List Pc) :∀u∈l.map Pc.val,u.oneCell'=true:=by
 intro u hu
 obtain ⟨e,_,rfl⟩ :=jip.1 hu
 rfl
theorem jmP (A:Option Addr) (n c:Nat) (rs:List jV) (w:World) (h:Rings w A n rs) (ht: (total rs:Int)≤1048577) :
  Calls Tryz.prog 99 #[qT A n c] w fun e w'=>e= .returned (.tuple #[qT (if JE rs=true then A else none) (if JE rs=true then n else 0) (if JE rs=true then c else 0), .int .i64 (LM rs)])∧Over w w':=by
 refine Jh (m:=8) (Tryz.func99) J J (lb J) ?_;refine S3 ?_;refine aX (fun b1=> ?_);refine N1 ?_;refine aL (fun b2=> ?_);refine N5 ?_;refine a9 (jT vD J J (fun w1 hs=>ZC _ _ A n c rs w1 (qo (k:=0) J J w1 hs) (J3 (hs.cel (k:=0) J)) (h.over hs.fin) ht)) ?_;refine S2 ?_;refine cZ (fun c1=> ?_) (fun c1=> ?_)
 ·refine S2 ?_;refine a9 (JU J J (qg)) ?_;refine S6 ?_;refine qv J (qh (k:=1) J jG J J) (.tmp J) ?_
  intro w' hs
  exact⟨by simp [LM,c1],hs.fin⟩
 ·refine S10 ?_;refine qv J (qh (k:=1) J jG J J) (.tmp J) ?_
  intro w' hs
  exact⟨by simp [LM,c1],hs.fin⟩
end Go.Proofs.YtpncbbcmoiiipaaGreat
