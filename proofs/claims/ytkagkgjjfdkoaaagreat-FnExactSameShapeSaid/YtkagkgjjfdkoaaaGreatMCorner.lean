import Derived.Test.YtkagkgjjfdkoaaaGreatML2
import Derived.BigRegion
import Derived.Test.YtkagkgjjfdkoaaaGreatMMem
set_option linter.unusedVariables false
set_option linter.unusedSimpArgs false
namespace Go.Proofs.YtkagkgjjfdkoaaaGreat
open Go.RowKit
theorem Vd (a b:Int) (w:World) :
  Calls Tryz.prog 137 #[.int .i64 a, .int .i64 b] w fun e w'=>e= .returned (.int .i64 (max a b))∧w=w':=by
 by_cases h1:b<a
 ·have hv:Hid (max a b=a) :=by unfold Hid;omega
  go_enter Tryz.func137,Tryz.ntmps137
  go_wp2
  go_ret
  exact⟨by rw [hv.out];rfl,rfl⟩
 ·have hv:Hid (max a b=b) :=by unfold Hid;omega
  go_enter Tryz.func137,Tryz.ntmps137
  go_wp2
  go_ret
  exact⟨by rw [hv.out];rfl,rfl⟩
theorem kg {a b A B:Int} (ha: -A≤a) (ha':a≤A) (hb: -B≤b) (hb':b≤B) : -(A*B)≤a*b∧a*b≤A*B:=by
 have hA:0≤A:=by omega
 have hB:0≤B:=by omega
 have h1: (a*b).natAbs≤(A*B).natAbs:=by
  rw [Int.natAbs_mul,Int.natAbs_mul]
  exact Nat.mul_le_mul (by omega) (by omega)
 have h2:0≤A*B:=jfl hA hB
 omega
end Go.Proofs.YtkagkgjjfdkoaaaGreat
namespace Go.Proofs.YtkagkgjjfdkoaaaGreat
open Go Go.RowKit
def nx (xs:List (Int×Int)) (k:Nat) :Nat:= (k+1) % xs.length
theorem LX {xs:List (Int×Int)} (k:Nat) (h:0<xs.length) :nx xs k<xs.length:=Nat.mod_lt _ h
theorem jcF {xs:List (Int×Int)} (h:zS xs=true) {k:Nat} (hk:k<xs.length) : -262144≤px xs k∧px xs k≤262144∧-262144≤py xs k∧py xs k≤262144:=by
 have:=jfP.1 h xs[k] (jeW hk)
 rw [Ya hk] at this
 simp [wU,XA] at this
 omega
theorem Sr {xs:List (Int×Int)} {n:Nat} (hl:xs.length=n) (k:Nat) : ((k:Int) +1) % (n:Int) = ((nx xs k:Nat) :Int) :=by
 unfold nx
 rw [hl]
 simp
structure Leg where
 ax:Int
 ay:Int
 bx:Int
 b_y:Int
 deriving DecidableEq
def jZ (l:Leg) :List Value:= [.int .i64 l.ax, .int .i64 l.ay, .int .i64 l.bx, .int .i64 l.b_y]
def lg (ls:List Leg) (k:Nat) :Leg:=ls.getD k ⟨0,0,0,0⟩
theorem yf {ls:List Leg} {k:Nat} (h:k<ls.length) :ls[k] =lg ls k:=by simp [lg,List.getD,List.getElem?_eq_getElem h]
def Legs (w:World) (A:Option Addr) (n:Nat) (ls:List Leg) :Prop:=
 ls.length=n∧(0<n→∃b o,A=some ⟨b,o,none⟩∧b<w.heap.size∧∀k,k<n→w.cell? ⟨b,o+k*4,none⟩ =some (.int .i64 (lg ls k).ax)∧w.cell? ⟨b,o+k*4+1,none⟩ =some (.int .i64 (lg ls k).ay)∧
  w.cell? ⟨b,o+k*4+2,none⟩ =some (.int .i64 (lg ls k).bx)∧w.cell? ⟨b,o+k*4+3,none⟩ =some (.int .i64 (lg ls k).b_y))
theorem Legs.over {w w':World} {A:Option Addr} {n:Nat} {ls:List Leg} (h:Legs w A n ls) (hb:Over w w') :Legs w' A n ls:=by
 refine⟨h.1,fun hn=> ?_⟩
 obtain ⟨b,o,hA,hlt,hc⟩ :=h.2 hn
 exact⟨b,o,hA,jeR hlt hb.size,fun k hk=>⟨((Ji hb).1 b _ hlt).trans (hc k hk).1,((Ji hb).1 b _ hlt).trans (hc k hk).2.1,((Ji hb).1 b _ hlt).trans (hc k hk).2.2.1,((Ji hb).1 b _ hlt).trans (hc k hk).2.2.2⟩⟩
theorem Legs.at_ {w:World} {A:Option Addr} {n k:Nat} {ls:List Leg} (h:Legs w A n ls) (hk:k<n) :
  ∃b o,A=some ⟨b,o,none⟩∧b<w.heap.size∧w.cell? ⟨b,o+k*4,none⟩ =some (.int .i64 (lg ls k).ax)∧w.cell? ⟨b,o+k*4+1,none⟩ =some (.int .i64 (lg ls k).ay)∧
  w.cell? ⟨b,o+k*4+2,none⟩ =some (.int .i64 (lg ls k).bx)∧w.cell? ⟨b,o+k*4+3,none⟩ =some (.int .i64 (lg ls k).b_y) :=by
 obtain ⟨b,o,hA,hb,hc⟩ :=h.2 (by omega)
 exact⟨b,o,hA,hb,hc k hk⟩
theorem xf {α:Type} (f:α→List Value) (m:Nat) (hf:∀a,(f a).length=m) :∀(ls:List α) (k j:Nat) (hk:k<ls.length),j<m→(ls.flatMap f)[k*m+j]? = (f ls[k])[j]?
 | [],_,_,h,_=>absurd h (by simp)
 | a::r,0,j,_,hj=>by
  rw [je4,Nat.zero_mul,je3,List.getElem?_append_left (by rw [hf];exact hj)]
  rfl
 | a::r,k+1,j,h,hj=>by
  rw [je4,List.getElem?_append_right (by rw [hf,Nat.add_mul];omega),hf]
  have:=xf f m hf r k j (by simpa using h) hj
  rw [show(k+1) *m+j- m=k*m+j by rw [Nat.add_mul];omega,this]
  rfl
theorem wZ {α:Type} (f:α→List Value) (m:Nat) (hf:∀a,(f a).length=m) :∀(ls:List α),(ls.flatMap f).length=ls.length*m
 | [] =>by simp
 | a::r=>by rw [je4,jeC,hf,wZ f m hf r,jeP,Nat.add_mul];omega
theorem GK {w:World} {B T n:Nat} {v:Value} {ls:List Leg} (h:w.ownsRow B T 4 v n (ls.flatMap jZ)) (hn:ls.length=n) :∃A c,v= .slice A n c∧Legs w A n ls∧n≤c:=by
 have hcs:∀g,v.ownBlock=some g→_:=fun g hg=>h.cells hg
 rcases h.2 with⟨rfl,rfl⟩ |⟨g,cap,cur,rfl,hb,hg,hcap,_⟩
 ·exact⟨none,0,rfl,⟨hn,fun h=>absurd h (by omega)⟩,by omega⟩
 ·refine⟨_,_,J,⟨hn,fun _=>⟨g,0,J,(h.lt g J).2,fun k hk=> ?_⟩⟩,hcap⟩
  have hc:=hcs g rfl
  have hk':k<ls.length:=by omega
  have hat:=fun j hj=>xf jZ 4 (fun _=>rfl) ls k j hk' hj
  have hadd:∀j,(⟨g,0,none⟩ :Addr).add j=⟨g,j,none⟩ :=fun j=>by unfold Addr.add;split<;>simp_all
  rw [yf hk'] at hat
  rw [je3]
  have c0:=hc (k*4+0) _ (hat 0 (by omega))
  have c1:=hc (k*4+1) _ (hat 1 (by omega))
  have c2:=hc (k*4+2) _ (hat 2 (by omega))
  have c3:=hc (k*4+3) _ (hat 3 (by omega))
  rw [hadd] at c0 c1 c2 c3
  exact⟨c0,c1,c2,c3⟩
def jcz (xs:List (Int×Int)) (k:Nat) :Leg:=⟨px xs k,py xs k,px xs (nx xs k),py xs (nx xs k)⟩
def jar (xs:List (Int×Int)) (k:Nat) :Bool:=px xs k==px xs (nx xs k) &&py xs k==py xs (nx xs k)
def qG (xs:List (Int×Int)) :Nat→List Leg
 | 0=> []
 | k+1=>if jar xs k=true then qG xs k else qG xs k++ [jcz xs k]
theorem Ke (xs:List (Int×Int)) (k:Nat) :qG xs (k+1) =if px xs k=px xs (nx xs k)∧py xs k=py xs (nx xs k) then qG xs k else qG xs k++ [⟨px xs k,py xs k,px xs (nx xs k),py xs (nx xs k)⟩] :=by
 simp [qG,jar,jcz]
def J0 (xs:List (Int×Int)) :List Leg:=qG xs xs.length
theorem Ki (xs:List (Int×Int)) :∀k,(qG xs k).length≤k
 | 0=>by simp [qG]
 | k+1=>by
  have:=Ki xs k
  simp only [qG]
  split
  ·omega
  ·simp;omega
def qO (l:Leg) :Prop:= (-262144≤l.ax∧l.ax≤262144)∧(-262144≤l.ay∧l.ay≤262144)∧(-262144≤l.bx∧l.bx≤262144)∧(-262144≤l.b_y∧l.b_y≤262144)
theorem Zo {xs:List (Int×Int)} (h:zS xs=true) :∀k,k≤xs.length→∀l∈qG xs k,qO l
 | 0,_,l,hl=>by simp [qG] at hl
 | k+1,hk,l,hl=>by
  have ih:=Zo h k (by omega)
  simp only [qG] at hl
  split at hl
  ·exact ih l hl
  ·rcases jeY.1 hl with h1 | h1
   ·exact ih l h1
   ·simp at h1
    subst h1
    obtain ⟨a1,a2,a3,a4⟩ :=jcF h (show k<xs.length by omega)
    obtain ⟨b1,b2,b3,b4⟩ :=jcF h (LX k (show 0<xs.length by omega))
    exact⟨⟨a1,a2⟩,⟨a3,a4⟩,⟨b1,b2⟩,b3,b4⟩
theorem UY {w w':World} {B T s n:Nat} {v:Value} {xs:List Value} (h:w.ownsRow B T s v n xs) (ho:Over w w') :w'.ownsRow B T s v n xs:=by
 refine⟨h.1,?_⟩
 rcases h.2 with hn |⟨g,cap,cur,rfl,hb,hgg,rest⟩
 ·exact .inl hn
 ·refine .inr ⟨g,cap,cur,J,hb,?_,rest⟩
  rw [ho.out.block g (Array.getElem?_eq_some_iff.1 hgg).1]
  exact hgg
theorem Ui {w:World} {B B' T s n:Nat} {v:Value} {xs:List Value} (h:w.ownsRow B T s v n xs) (hB:B'≤B) :w.ownsRow B' T s v n xs:=by
 refine⟨h.1,?_⟩
 rcases h.2 with hn |⟨g,cap,cur,rfl,hb,rest⟩
 ·exact .inl hn
 ·exact .inr ⟨g,cap,cur,rfl,by omega,rest⟩
theorem yB {w0 wr w4 w1:World} {B T s n:Nat} {v:Value} {xs:List Value} (h0:Over w0 wr) (hown:wr.ownsRow B T s v n xs) (hB:w0.heap.size≤B) (ho:Over wr w4) (hg:w4.grownBy w1 v.ownBlock) :Over w0 w1:=
 Below.grown (h0.trans ho).out hg (h0.trans ho).size (fun k hk=>jft hB ((hown.lt k hk).1))
theorem Bn {w w1:World} {T:Nat} {news:List Value} (hw1:w1=w.alloc (.cells news.toArray T)) :∀j u,news[j]? =some u→w1.cell? ((⟨w.heap.size,0,none⟩ :Addr).add j) =some u:=by
 intro j u hj
 have hadd: (⟨w.heap.size,0,none⟩ :Addr).add j=⟨w.heap.size,j,none⟩ :=by unfold Addr.add;split<;>simp_all
 rw [hadd,hw1,Ys]
 simpa using hj
theorem TE: (Tryz.prog.info? 56).map (fun i=> (i.zero,i.size,i.bytes)) =some (some (.agg #[.int .i64 0, .int .i64 0, .int .i64 0, .int .i64 0]),4,32) :=by kernel_rfl
set_option maxHeartbeats 2000000 in
set_option maxRecDepth 100000 in
theorem W5 (A:Option Addr) (n c:Nat) (xs:List (Int×Int)) (w:World) (h:Pts w A n xs) (hn: (n:Int)≤1048577) :
  Calls Tryz.prog 71 #[YX A n c] w fun e w'=>∃v,e= .returned v∧w'.ownsRow w.heap.size 56 4 v (J0 xs).length ((J0 xs).flatMap jZ)∧Over w w':=by
 obtain ⟨i0,hi,hz0,hz1,hz2⟩ :=WW TE
 go_enter Tryz.func71,Tryz.ntmps71
 go_wp2
 go_loopw [3,10] (fun s i wr=>∃k:Nat,k≤n∧i= .int .i64 k∧wr.ownsRow (w.heap.size+1) 56 4 s (qG xs k).length ((qG xs k).flatMap jZ)∧Over (w.alloc (.cells #[.slice A n c] 71)) wr) (fun _ i _=>n- (intOf i).toNat)
 case atStart=>exact⟨0,jeE _,rfl,World.ownsRow_nil _ _ _ _,Over.refl _⟩
 case round=>
  rename_i wr
  have hl0:=h.1
  obtain ⟨k,hk,rfl,hown,hb⟩ :=hrel
  by_cases hlt:k<n
  ·have hl:=h.1
   have hO:Over w wr:= (Over.alloc _ _).trans hb
   obtain ⟨b,o,rfl,hbB,hc1,hc2⟩ := (h.over hO).at_ hlt
   obtain ⟨b',o',e,hbB',hc1',hc2'⟩ := (h.over hO).at_ (k:=nx xs k) (by have:=LX (xs:=xs) k (by omega);omega)
   injection e with e
   injection e with e1 e2 _
   subst e1 e2
   have hnx: ((k:Int) +1).tmod (n:Int) = ((nx xs k:Nat) :Int) :=by rw [jgl (by omega)];exact Sr hl k
   have hnl:=LX k (show 0<xs.length by omega)
   have hbx:wr.cell? ⟨w.heap.size,0,none⟩ =some (.slice (some ⟨b,o,none⟩) n c) :=by
    rw [(Ji hb).1 _ _ (by simp)]
    exact Ys _ _ _ _
   have hbz:w.heap.size<wr.heap.size:=jeR (by simp) (Over.size hb)
   rw [hl] at hnl
   have hn0:¬n=0:=by omega
   have Hown:=Lib.hid hown
   have Hb:=Lib.hid hb
   have hs:=Lib.hid (Ke xs k)
   generalize px xs k=x at hc1 hs
   generalize py xs k=y at hc2 hs
   generalize px xs (nx xs k) =x' at hc1' hs
   generalize py xs (nx xs k) =y' at hc2' hs
   clear h hl hO hown hb
   go_wp2
   refine QZ (B:=ob _) (Over.refl _) (by kernel_rfl) (by simp only [jfu,jeP,je6,Nat.reduceAdd];rfl) (fun hBW=> ?_);refine w9 0 (hy:=fun wx hS=>by(obtain ⟨hc,hf⟩ :=Ji hS;clear hS;go_simp; (try go_bits);exact⟨rfl,Over.refl _⟩)) (h:= ?_)
   simp only [Act.put,xd7,ya,yb]
   refine w9 1 (hy:=fun wx hS=>by(obtain ⟨hc,hf⟩ :=Ji hS;clear hS;go_simp; (try go_bits);exact⟨rfl,Over.refl _⟩)) (h:= ?_)
   simp only [Act.put,xd7,ya,yb]
   refine w9 2 (hy:=fun wx hS=>by(obtain ⟨hc,hf⟩ :=Ji hS;clear hS;go_simp; (try go_bits);exact⟨rfl,Over.refl _⟩)) (h:= ?_)
   simp only [Act.put,xd7,ya,yb]
   refine w9 3 (hy:=fun wx hS=>by(obtain ⟨hc,hf⟩ :=Ji hS;clear hS;go_simp; (try go_bits);exact⟨rfl,Over.refl _⟩)) (h:= ?_)
   simp only [Act.put,xd7,ya,yb]
   refine w9 4 (hy:=fun wx hS=>by(obtain ⟨hc,hf⟩ :=Ji hS;clear hS;go_simp; (try go_bits);exact⟨rfl,Over.refl _⟩)) (h:= ?_)
   simp only [Act.put,xd7,ya,yb]
   refine w9 5 (hy:=fun wx hS=>by(obtain ⟨hc,hf⟩ :=Ji hS;clear hS;go_simp; (try go_bits);exact⟨rfl,Over.refl _⟩)) (h:= ?_)
   simp only [Act.put,xd7,ya,yb]
   refine w9 6 (hy:=fun wx hS=>by(obtain ⟨hc,hf⟩ :=Ji hS;clear hS;go_simp; (try go_bits);exact⟨rfl,Over.refl _⟩)) (h:= ?_)
   simp only [Act.put,xd7,ya,yb]
   refine w9 7 (hy:=fun wx hS=>by(obtain ⟨hc,hf⟩ :=Ji hS;clear hS;go_simp; (try go_bits);exact⟨rfl,Over.refl _⟩)) (h:= ?_)
   simp only [Act.put,xd7,ya,yb]
   refine w9 8 (hy:=fun wx hS=>by(obtain ⟨hc,hf⟩ :=Ji hS;clear hS;go_simp; (try go_bits);exact⟨rfl,Over.refl _⟩)) (h:= ?_)
   simp only [Act.put,xd7,ya,yb]
   refine w9 9 (hy:=fun wx hS=>by(obtain ⟨hc,hf⟩ :=Ji hS;clear hS;go_simp; (try go_bits);exact⟨rfl,Over.refl _⟩)) (h:= ?_)
   simp only [Act.put,xd7,ya,yb]
   refine G8 (i:=10) (k:=11) (by assumption) (by simp only [xa7,xb7,xc7];rfl) (by simp only [xa7,xb7,xc7];rfl) (by rfl) (by rfl) (by rfl) (by rfl) (by rfl) (by rfl) (fun _=>by(go_simp;rfl)) (by kernel_rfl) (by kernel_rfl) (fun _=>by rfl) (fun _=>by rfl) (by kernel_rfl) (by rfl) (by simp [Value.oneCell']) ?_
   intro w2 q1 ho hq1 hl1 hh1 hBx
   replace hBW:=hBx;clear hBx
   simp only [Act.put,xd7,ya,yb]
   obtain ⟨k1,k2,k3,k4⟩ :=BP hh1
   refine QY (by kernel_rfl) (fun w3 h3=> ?_) _
   try clear hBW
   have hO:=ho.trans h3
   have l1:= ((Ji h3).1 q1 0 hl1).trans k1
   have l2:= ((Ji h3).1 q1 1 hl1).trans k2
   have hl3:q1<w3.heap.size:=jeR hl1 h3.size
   clear k1 k2 k3 k4 ho h3 hh1
   obtain ⟨hc,hf⟩ :=Ji hO
   have HO:=Lib.hid ((Over.alloc _ _).trans hO)
   have hw3:=hO.size
   clear hO
   have key: (x=x'∧y=y')∨(¬x=x')∨(x=x'∧¬y=y') :=by omega
   rcases key with⟨rfl,rfl⟩ | hne |⟨rfl,hne⟩
   ·skip
    replace hs:Hid (qG xs (k+1) =qG xs k) :=by have:=hs.out;rw [if_pos ⟨rfl,rfl⟩] at this;exact this
    go_wp2
    go_roundw
    case rel=>exact⟨k+1,by omega,by go_num,by rw [hs.out];exact UY Hown.out HO.out,Hb.out.trans HO.out⟩
    case measure=>simp [intOf];omega
   all_goals
    replace hs:=Lib.hid (hs.out.trans (if_neg (by omega)))
    have hlen:=Ki xs k
    go_wp2_with (at_builtin;refine wpList_append_own _ rfl _ _ 51 rfl (w.heap.size+1) 56 i0 _ 4 32 Tryz.underlying51 hi hz0 hz1 hz2 rfl (by decide) _ _ _ rfl ((UY Hown.out HO.out).alloc _) ⟨w3.heap.size,0,none⟩ 1 1 (jZ ⟨x,y,_,y'⟩) rfl rfl (Bn rfl) (by simp [jZ,Value.oneCell']) (by unfold maxLen;omega) (by omega) (by have:=Hb.out.size;have:=HO.out.size;simp at*;omega) ?_)
    intro v' w5 hown5 hgrow5 _
    have R1:Hid (Over (w.alloc (.cells #[.slice (some ⟨b,o,none⟩) n c] 71)) w5) :=yB Hb.out Hown.out (by simp) (Over.alloc_ HO.out _) hgrow5
    have R2:Hid (w5.ownsRow (w.heap.size+1) 56 4 v' (qG xs (k+1)).length ((qG xs (k+1)).flatMap jZ)) :=by
     unfold Hid
     rw [hs.out]
     simpa using hown5
    clear hown5 hgrow5
    go_wp2
    go_roundw
    case rel=>exact⟨k+1,by omega,by go_num,R2.out,R1.out⟩
    case measure=>simp [intOf];omega
  ·clear h
   have hkn:k=n:=by omega
   have hb':Hid (Over w wr) := (Over.alloc _ _).trans hb
   have hr:Hid (wr.ownsRow w.heap.size 56 4 u3 (J0 xs).length ((J0 xs).flatMap jZ)) :=by
    unfold Hid J0
    rw [hl0,←hkn]
    exact Ui hown (by omega)
   clear hown hb
   go_wp2
   go_ret
   exact⟨_,rfl,hr.out,hb'.out⟩
theorem GS {xs:List (Int×Int)} (h:kH xs=true) :1≤xs.length∧xs.length≤400∧zS xs=true:=by
 simp [kH,XA] at h
 exact⟨by omega,by omega,h.2⟩
abbrev jS:=List (Int×Int)
def rg (rs:List jS) (k:Nat) :jS:=rs.getD k []
theorem wl {rs:List jS} {k:Nat} (h:k<rs.length) :rs[k] =rg rs k:=by simp [rg,List.getD,List.getElem?_eq_getElem h]
def Rings (w:World) (A:Option Addr) (n:Nat) (rs:List jS) :Prop:=
 rs.length=n∧(0<n→∃b o,A=some ⟨b,o,none⟩∧b<w.heap.size∧∀k,k<n→∃Ak ck,w.cell? ⟨b,o+k,none⟩ =some (.slice Ak (rg rs k).length ck)∧Pts w Ak (rg rs k).length (rg rs k)∧((rg rs k).length:Int)≤9223372036854775807)
theorem Rings.over {w w':World} {A:Option Addr} {n:Nat} {rs:List jS} (h:Rings w A n rs) (hb:Over w w') :Rings w' A n rs:=by
 refine⟨h.1,fun hn=> ?_⟩
 obtain ⟨b,o,hA,hlt,hc⟩ :=h.2 hn
 refine⟨b,o,hA,jeR hlt hb.size,fun k hk=> ?_⟩
 obtain ⟨Ak,ck,h1,h2,h3⟩ :=hc k hk
 exact⟨Ak,ck,((Ji hb).1 b _ hlt).trans h1,h2.over hb,h3⟩
theorem Rings.at_ {w:World} {A:Option Addr} {n k:Nat} {rs:List jS} (h:Rings w A n rs) (hk:k<n) :
  ∃b o Ak ck,A=some ⟨b,o,none⟩∧b<w.heap.size∧w.cell? ⟨b,o+k,none⟩ =some (.slice Ak (rg rs k).length ck)∧Pts w Ak (rg rs k).length (rg rs k)∧((rg rs k).length:Int)≤9223372036854775807:=by
 obtain ⟨b,o,hA,hb,hc⟩ :=h.2 (by omega)
 obtain ⟨Ak,ck,h1,h2,h3⟩ :=hc k hk
 exact⟨b,o,Ak,ck,hA,hb,h1,h2,h3⟩
def OwnR (B:Nat) (w:World) (g n:Nat) (rs:List jS) :Prop:=
 B≤g∧rs.length=n∧Blk w g 71 n∧∀k,k<n→∃gk,B≤gk∧gk≠g∧w.cell? ⟨g,k,none⟩ =some (.slice (some ⟨gk,0,none⟩) (rg rs k).length (rg rs k).length)∧Own w gk (rg rs k).length (rg rs k)
def FillR (B:Nat) (w:World) (g k:Nat) (rs:List jS) :Prop:=
 ∀j,j<k→∃gk,B≤gk∧gk≠g∧w.cell? ⟨g,j,none⟩ =some (.slice (some ⟨gk,0,none⟩) (rg rs j).length (rg rs j).length)∧Own w gk (rg rs j).length (rg rs j)
theorem FillR.over {B:Nat} {w w':World} {g k:Nat} {rs:List jS} (h:FillR B w g k rs) (hg:g<w.heap.size) (ho:Over w w') :FillR B w' g k rs:=by
 intro j hj
 obtain ⟨gk,h1,h2,h3,h4⟩ :=h j hj
 exact⟨gk,h1,h2,((Ji ho).1 g _ hg).trans h3,h4.over ho⟩
theorem FillR.step {B:Nat} {w:World} {g k m T gk:Nat} {rs:List jS} (h:FillR B w g k rs) (hb:Blk w g T m) (hk:k<m) (h1:B≤gk) (h2:gk≠g) (ho:Own w gk (rg rs k).length (rg rs k)) :
  FillR B (w.setCell ⟨g,k,none⟩ (.slice (some ⟨gk,0,none⟩) (rg rs k).length (rg rs k).length)) g (k+1) rs:=by
 obtain ⟨u,hu⟩ :=hb.cell hk
 intro j hj
 by_cases hjk:j=k
 ·subst hjk
  exact⟨gk,h1,h2,World.cell?_setCell_same _ _ _ hu,ho.far (Ne.symm h2) _⟩
 ·obtain ⟨gj,e1,e2,e3,e4⟩ :=h j (by omega)
  refine⟨gj,e1,e2,?_,e4.far (Ne.symm e2) _⟩
  rw [World.cell?_setCell_other _ _ _ _ (by simp<;>omega)]
  exact e3
theorem FillR.own {B:Nat} {w:World} {g n:Nat} {rs:List jS} (h:FillR B w g n rs) (hg:B≤g) (hb:Blk w g 71 n) (hn:rs.length=n) :OwnR B w g n rs:=⟨hg,hn,hb,h⟩
theorem OwnR.over {B:Nat} {w w':World} {g n:Nat} {rs:List jS} (h:OwnR B w g n rs) (ho:Over w w') :OwnR B w' g n rs:=
 ⟨h.1,h.2.1,h.2.2.1.over ho,FillR.over h.2.2.2 h.2.2.1.lt ho⟩
theorem Blk.far {w:World} {g T m:Nat} (h:Blk w g T m) {p:Addr} (hp:p.block≠g) (u:Value) :Blk (w.setCell p u) g T m:=by
 obtain ⟨cs,hs,hh⟩ :=h
 exact⟨cs,hs,(Below.heap_setCell w p u g (Ne.symm hp)).trans hh⟩
theorem OwnR.far {B:Nat} {w:World} {g n:Nat} {rs:List jS} (h:OwnR B w g n rs) {p:Addr} (hp:p.block<B) (u:Value) :OwnR B (w.setCell p u) g n rs:=by
 have hg:=h.1
 refine⟨hg,h.2.1,h.2.2.1.far (by omega) u,fun k hk=> ?_⟩
 obtain ⟨gk,h1,h2,h3,h4⟩ :=h.2.2.2 k hk
 refine⟨gk,h1,h2,?_,h4.far (by omega) u⟩
 rw [World.cell?_setCell_other _ _ _ _ (fun e=>by rw [e] at hp;simp at hp;omega)]
 exact h3
theorem OwnR.low {B B':Nat} {w:World} {g n:Nat} {rs:List jS} (h:OwnR B w g n rs) (hB:B'≤B) :OwnR B' w g n rs:=by
 refine⟨by have:=h.1;omega,h.2.1,h.2.2.1,fun k hk=> ?_⟩
 obtain ⟨gk,h1,h2⟩ :=h.2.2.2 k hk
 exact⟨gk,by omega,h2⟩
theorem OwnR.rings {B:Nat} {w:World} {g n:Nat} {rs:List jS} (h:OwnR B w g n rs) (hm:∀k,k<n→((rg rs k).length:Int)≤1048576) :Rings w (some ⟨g,0,none⟩) n rs:=by
 refine⟨h.2.1,fun _=>⟨g,0,J,h.2.2.1.lt,fun k hk=> ?_⟩⟩
 obtain ⟨gk,h1,h2,h3,h4⟩ :=h.2.2.2 k hk
 rw [je3]
 exact⟨_,_,h3,h4.2,by have:=hm k hk;omega⟩
def qF (rs:List jS) :Nat→Nat
 | 0=>0
 | k+1=>qF rs k+ (rg rs k).length
theorem WM (rs:List jS) {k m:Nat} (h:k≤m) :qF rs k≤qF rs m:=by
 induction m with
 | zero=>rw [Nat.le_zero.1 h];omega
 | succ m ih=>
  rcases jfG k (m+1) with h' | h'
  ·have:=ih (by omega);simp only [qF];omega
  ·rw [show k=m+1 by omega];omega
def total (rs:List jS) :Nat:=rs.length+qF rs rs.length
theorem Vn (rs:List jS) {k:Nat} (h:k<rs.length) : (rg rs k).length≤total rs:=by
 have:=WM rs (show k+1≤rs.length by omega)
 simp only [qF] at this
 unfold total
 omega
abbrev Ju (A:Option Addr) (n c:Nat) :Value:= .agg #[.slice A n c]
set_option maxHeartbeats 1000000 in
theorem GZ (A:Option Addr) (n c:Nat) (rs:List jS) (l:Int) (w:World) (h:Rings w A n rs) (hl:0≤l) (hl':l≤1048576) (hn: (n:Int)≤9223372036854775807) :
  Calls Tryz.prog 29 #[.slice A n c, .int .i64 l] w fun e w'=>e= .returned (.int .i64 (Zb l (total rs)))∧Over w w':=by
 have hlen:=h.1
 have htot:total rs=n+qF rs n:=by unfold total;rw [hlen]
 by_cases h0:l<n
 ·have hv:Hid (Zb l (total rs) = -1) :=by unfold Hid Zb;rw [if_neg (by rw [htot];omega)]
  clear htot hlen h
  go_enter Tryz.func29,Tryz.ntmps29
  go_wp2
  go_ret
  exact⟨by rw [hv.out];rfl,(by repeat (first | exact Over.refl _ | (with_reducible assumption) | refine Over.alloc_ ?_ _ | refine Over.trans ?_ (by with_reducible assumption) | refine Over.drew_ ?_ | refine Over.set_ ?_ (by simp;try omega) _))⟩
 ·have htot':=Lib.hid htot
  have hlen':=Lib.hid hlen
  have hn2: (n:Int)≤1048576:=by omega
  clear htot hlen hn
  go_enter Tryz.func29,Tryz.ntmps29
  go_wp2
  go_loopw [1,5] (fun s i wr=>∃k:Nat,k≤n∧i= .int .i64 k∧s= .int .i64 (l- n- qF rs k)∧0≤l- n- qF rs k∧Over w wr) (fun _ i _=>n- (intOf i).toNat)
  case atStart=>exact⟨0,jeE _,rfl,by simp [qF],by simp [qF];omega,Over.refl _⟩
  case round=>
   rename_i wr
   obtain ⟨k,hk,rfl,rfl,hpos,hb⟩ :=hrel
   by_cases hlt:k<n
   ·obtain ⟨b,o,Ak,ck,rfl,hbB,hcell,hpts,hmax⟩ := (h.over hb).at_ hlt
    have hs:Hid (qF rs (k+1) =qF rs k+ (rg rs k).length) :=rfl
    have hmono:=Lib.hid (WM rs (show k+1≤n by omega))
    clear h
    go_wp2_with fail
    refine(SN _ _ _ _ _ hpos (by omega) hmax).mono ?_
    clear hmax
    by_cases hle: ((rg rs k).length:Int)≤l- n- qF rs k
    ·have hsz:Zb (l- n- qF rs k) (rg rs k).length=l- n- qF rs k- (rg rs k).length:=by unfold Zb;rw [if_pos hle]
     rw [hsz]
     rintro e w2 ⟨rfl,h2⟩
     go_wp2
     go_roundw
     case rel=>exact⟨k+1,by omega,by go_num,by rw [hs.out];go_num,by have:=hs.out;omega,(by repeat (first | exact Over.refl _ | (with_reducible assumption) | refine Over.alloc_ ?_ _ | refine Over.trans ?_ (by with_reducible assumption) | refine Over.drew_ ?_ | refine Over.set_ ?_ (by simp;try omega) _))⟩
     case measure=>simp [intOf];omega
    ·have hsz:Zb (l- n- qF rs k) (rg rs k).length= -1:=by unfold Zb;rw [if_neg hle]
     have hv:Hid (Zb l (total rs) = -1) :=by
      have h1:=hs.out
      have h2:=hmono.out
      have h3:=htot'.out
      unfold Hid Zb
      rw [if_neg (by rw [h3];omega)]
     rw [hsz]
     rintro e w2 ⟨rfl,h2⟩
     go_wp2
     go_ret
     exact⟨by rw [hv.out];rfl,(by repeat (first | exact Over.refl _ | (with_reducible assumption) | refine Over.alloc_ ?_ _ | refine Over.trans ?_ (by with_reducible assumption) | refine Over.drew_ ?_ | refine Over.set_ ?_ (by simp;try omega) _))⟩
   ·have hkn:k=n:=by omega
    rw [hkn] at hpos⊢
    have hv:Hid (Zb l (total rs) =l- n- qF rs n) :=by
     have h3:=htot'.out
     unfold Hid Zb
     rw [h3,if_pos (by omega)]
     omega
    clear h hkn hlt
    go_wp2
    go_ret
    exact⟨by rw [hv.out];rfl,hb⟩
theorem QK (A:Option Addr) (n c:Nat) (rs:List jS) (l:Int) (w:World) (h:Rings w A n rs) (hl:0≤l) (hl':l≤1048576) (hn: (n:Int)≤9223372036854775807) :
  Calls Tryz.prog 10 #[Ju A n c, .int .i64 l] w fun e w'=>e= .returned (.int .i64 (Zb l (total rs)))∧Over w w':=by
 by_cases hle: (total rs:Int)≤l
 ·have hv:Zb l (total rs) =l- total rs:=by unfold Zb;rw [if_pos hle]
  go_enter Tryz.func10,Tryz.ntmps10
  go_wp2_with (go_at_call 29;refine(GZ _ _ _ rs _ _ (h.over (by repeat (first | exact Over.refl _ | (with_reducible assumption) | refine Over.alloc_ ?_ _ | refine Over.trans ?_ (by with_reducible assumption) | refine Over.drew_ ?_ | refine Over.set_ ?_ (by simp;try omega) _))) hl hl' hn).mono ?_;rintro e wx ⟨rfl,hb⟩; (first | (replace hO:=Over.trans hO hb) | (replace hO:=Over.trans (Over.alloc_ hO _) hb) | (replace hO:=Over.trans (Over.alloc_ (Over.alloc_ hO _) _) hb) | (have hO:=hb)); (try clear hc hf);obtain ⟨hc,hf⟩ :=Ji hO; (try clear hb); (try clear hz0);have hz0:w.heap.size<wx.heap.size:=jeR (by simp<;>omega) (Over.size hO))
  go_ret
  exact⟨by rw [hv];rfl,(by repeat (first | exact Over.refl _ | (with_reducible assumption) | refine Over.alloc_ ?_ _ | refine Over.trans ?_ (by with_reducible assumption) | refine Over.drew_ ?_ | refine Over.set_ ?_ (by simp;try omega) _))⟩
 ·have hv:Zb l (total rs) = -1:=by unfold Zb;rw [if_neg hle]
  go_enter Tryz.func10,Tryz.ntmps10
  go_wp2_with (go_at_call 29;refine(GZ _ _ _ rs _ _ (h.over (by repeat (first | exact Over.refl _ | (with_reducible assumption) | refine Over.alloc_ ?_ _ | refine Over.trans ?_ (by with_reducible assumption) | refine Over.drew_ ?_ | refine Over.set_ ?_ (by simp;try omega) _))) hl hl' hn).mono ?_;rintro e wx ⟨rfl,hb⟩; (first | (replace hO:=Over.trans hO hb) | (replace hO:=Over.trans (Over.alloc_ hO _) hb) | (replace hO:=Over.trans (Over.alloc_ (Over.alloc_ hO _) _) hb) | (have hO:=hb)); (try clear hc hf);obtain ⟨hc,hf⟩ :=Ji hO; (try clear hb); (try clear hz0);have hz0:w.heap.size<wx.heap.size:=jeR (by simp<;>omega) (Over.size hO))
  go_ret
  exact⟨by rw [hv];rfl,(by repeat (first | exact Over.refl _ | (with_reducible assumption) | refine Over.alloc_ ?_ _ | refine Over.trans ?_ (by with_reducible assumption) | refine Over.drew_ ?_ | refine Over.set_ ?_ (by simp;try omega) _))⟩
end Go.Proofs.YtkagkgjjfdkoaaaGreat
namespace Go.Proofs.YtkagkgjjfdkoaaaGreat
open Go Go.ChangeShapes Go.WideShapes Go.ChangeAt Go.RowKit Go.Joins Go.Deep
section
variable {H:Type} {enc:TypeId×Value→H} {w:World} {base:Nat} {spare:Nat→Bool} {held:Bool}
set_option maxRecDepth 100000 in
theorem Sx {fuel:Nat} {cs:List Value} {x:DataW H×List MemPlace} (h:DataW.trod enc Tryz.prog w base spare held fuel 22 cs=some x) :
  ∃(A:Option Addr) (n c:Nat) (rs:List jS),cs= [.slice A n c]∧Rings w A n rs∧(n:Int)≤9223372036854775807:=by
 rcases open_slice Tryz.underlying22 h with⟨rfl,_⟩ |⟨a,len,cap,m,n,D,Pl,rfl,_,hl,hm,hmm,_,hi⟩
 ·exact⟨none,0,0,[],rfl,⟨rfl,fun h=>absurd h (by omega)⟩,by omega⟩
 have hC:Tryz.prog.cellsOf 68=1:=by kernel_rfl
 have hC2:Tryz.prog.cellsOf 66=1:=by kernel_rfl
 rw [hC] at hi
 have key:∀i,i<len→∃p: (Option Addr×Nat)×jS,w.cell? (a.add (i*1)) =some (.slice p.1.1 p.2.length p.1.2)∧Pts w p.1.1 p.2.length p.2∧(p.2.length:Int)≤9223372036854775807:=by
  intro i hlt
  have hlm:len≤m:=by rw [hmm];split<;>omega
  obtain ⟨cs',hc,ht⟩ :=hi i (by omega)
  obtain ⟨_,hcl,hat⟩ :=World.cells?_some hc
  obtain ⟨xs,n',_,_,_,hlen,hg⟩ :=DataW.trod_struct Tryz.underlying68 ht
  have h0:DataW.trod enc Tryz.prog w base spare held n' 66 ((cs'.drop 0).take (Tryz.prog.cellsOf 66)) =xs[0]? :=hg 0 _ rfl
  match cs',hcl with
  | [c0],_=>
   match xs,hlen with
   | [y0],_=>
    obtain ⟨A,n,c,xs,e,hp,hm⟩ :=EW (cs:= [c0]) (x:=y0) (by rw [hC2] at h0;simpa using h0)
    injection e with e
    subst e
    have hn:=hp.1
    subst hn
    refine⟨((A,c),xs),?_,hp,hm⟩
    have:=hat 0 (by omega)
    rw [add_add] at this
    simpa using this
 obtain ⟨f,hf⟩ :=choose_lt key
 refine⟨some a,len,cap,(List.range len).map (fun i=> (f i).2),J,⟨by simp,fun hn=> ?_⟩,by unfold maxLen at hm;omega⟩
 obtain ⟨b,o,sp⟩ :=a
 have hsp:sp=none:=by
  have:=World.cell?_spot (hf 0 hn).1
  simpa [Addr.add] using this
 subst hsp
 have hadd:∀j,(⟨b,o,none⟩ :Addr).add j=⟨b,o+j,none⟩ :=fun j=>by unfold Addr.add;split<;>simp_all
 have hlt:=World.block_lt_of_cell? w _ (hf 0 hn).1
 rw [hadd] at hlt
 refine⟨b,o,J,hlt,fun k hk=> ?_⟩
 have hk2:=hf k hk
 rw [hadd,jfz] at hk2
 have hx:rg ((List.range len).map (fun i=> (f i).2)) k= (f k).2:=by
  simp [rg,List.getD,hk]
 rw [hx]
 exact⟨_,_,hk2⟩
set_option maxRecDepth 100000 in
theorem jcG {r:Reach} {b0:Nat} {v:Value} {d:DataW H} {p:List MemPlace} (hv:Value.okWide Tryz.prog w r b0 24 v) (h:DataW.Trod enc Tryz.prog w base spare held 24 v d p) :
  ∃(A:Option Addr) (n c:Nat) (rs:List jS),v= .agg #[.slice A n c]∧Rings w A n rs∧(n:Int)≤9223372036854775807:=by
 have hC:Tryz.prog.cellsOf 24=1:=by kernel_rfl
 have hC2:Tryz.prog.cellsOf 22=1:=by kernel_rfl
 obtain ⟨cs,rfl,hsz⟩ :=okWide_struct Tryz.underlying24 hv
 obtain ⟨l⟩ :=cs
 obtain ⟨fuel,hf⟩ :=h
 obtain ⟨xs,n,_,_,_,hlen,hg⟩ :=DataW.trod_struct Tryz.underlying24 hf
 have h0:DataW.trod enc Tryz.prog w base spare held n 22 (((Value.agg ⟨l⟩).cells.toList.drop 0).take (Tryz.prog.cellsOf 22)) =xs[0]? :=hg 0 _ rfl
 rw [hC2] at h0
 match l,hsz.trans hC with
 | [c0],_=>
  match xs,hlen with
  | [y0],_=>
   obtain ⟨A,n,c,xs,e,hp,hm⟩ :=Sx (cs:= [c0]) (x:=y0) (by simpa [Value.cells] using h0)
   injection e with e
   subst e
   exact⟨A,n,c,xs,rfl,hp,hm⟩
end
end Go.Proofs.YtkagkgjjfdkoaaaGreat
