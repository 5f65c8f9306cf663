import Derived.Test.YtjbahemkhphndaaGreatNL2
import Derived.Test.YtjbahemkhphndaaGreatNMem
set_option linter.unusedVariables false
set_option linter.unusedSimpArgs false
namespace Go.Proofs.YtjbahemkhphndaaGreat
open Go Go.RowKit
variable{A:Option Addr}{T f fuel g i k n:Nat}{W w w':World}{a:Act}{listed:Array Bool}{news:List Value}{oi:Oper}{p:Addr}{v:Value}{xs:List (Int×Int)}
def nx(xs:List (Int×Int))(k:Nat):Nat:=(k+1) % xs.length
theorem Hj(k:Nat)(h:0<xs.length):nx xs k<xs.length:=jnA _ h
def xL(xs:List (Int×Int))(k:Nat):Int:=px xs k*py xs (nx xs k)-py xs k*px xs (nx xs k)
def vO(xs:List (Int×Int)):Nat->Int
 |0=>0
 |k+1=>vO xs k+xL xs k
theorem Iy(h:WY xs=true)(hk:k<xs.length): -262144<=px xs k/\px xs k<=262144∧-262144<=py xs k/\py xs k<=262144:=by
 have:=jm4.1 h xs[k] (jlY hk);rw[YB hk] at this;simp[WT,X2] at this;omega
theorem Cm(h:WY xs=true)(hk:k<xs.length): -137438953472<=xL xs k/\xL xs k<=137438953472:=by
 obtain⟨a1,a2,a3,a4⟩:=Iy h hk;obtain⟨b1,b2,b3,b4⟩:=Iy h (Hj k (show 0<xs.length by omega));have:=QN a1 a2 b3 b4
 have:=QN a3 a4 b1 b2;unfold xL;omega
theorem Gt{xs:List (Int×Int)}(h:WY xs=true):∀k:Nat,k<=xs.length→-(k*137438953472:Int)<=vO xs k/\vO xs k<=k*137438953472
 |0,_=>by simp[vO]
 |k+1,hk=>by
  have h1:=Gt h k Om;have h2:=Cm h (show k<xs.length by omega)
  simp only[vO];have:((k+1:Nat):Int)*137438953472=(k:Int)*137438953472+137438953472:=by rw[Int.natCast_add,Int.add_mul];rfl
  omega
theorem Sf(hl:xs.length=n)(k:Nat):((k:Int)+1) % (n:Int)=((nx xs k:Nat):Int):=by
 unfold nx;rw[hl];simp
set_option maxHeartbeats 1000000 in
theorem RQ(A:Option Addr)(n c:Nat)(xs:List (Int×Int))(w:World)(h:Pts w A n xs)(hn:(n:Int)<=1048576)(hok:WY xs=true):
  Calls Tryz.prog 20 #[.slice A n c] w λe w'=>e=.returned (.int .i64 (vO xs n))/\Over w w':=by
 go_enter Tryz.func20,Tryz.ntmps20
 go_wp2
 go_loopw [3,4] (λs i wr=>∃k:Nat,k<=n/\i=.int .i64 k/\s=.int .i64 (vO xs k)/\Over w wr) (λ_ i _=>n-(intOf i).toNat)
 case atStart=>exact⟨0,jlN _,rfl,rfl,Over.refl _⟩
 case round=>
  rename_i wr;obtain⟨k,hk,rfl,rfl,hb⟩:=hrel;by_cases hlt:k<n
  .have hl:=h.1;obtain⟨b,o,rfl,hbB,hc1,hc2⟩:=(h.over hb).at_ hlt;obtain⟨b',o',e,hbB',hc1',hc2'⟩:=(h.over hb).at_ (k:=nx xs k) (by have:=Hj (xs:=xs) k Om;omega);injection e with e
   injection e with e1 e2 _
   subst e1 e2;obtain⟨a1,a2,a3,a4⟩:=Iy hok (show k<xs.length by omega);obtain⟨b1,b2,b3,b4⟩:=Iy hok (Hj k (show 0<xs.length by omega));obtain⟨m1,m1'⟩:=QN a1 a2 b3 b4;obtain⟨m2,m2'⟩:=QN a3 a4 b1 b2;obtain⟨t1,t2⟩:=Gt hok k Om;have hnx:=Sf hl k
   have hnl:=Hj k (show 0<xs.length by omega);have hs:Hid (vO xs (k+1)=vO xs k+(px xs k*py xs (nx xs k)-py xs k*px xs (nx xs k))):=rfl
   rw[hl] at hnl;clear h hl;go_wp2;exact⟨⟨k+1,by omega,by go_num,by rw[hs.out],ov9⟩,by simp[intOf];omega⟩
  .clear h;have hkn:k=n:=by omega
   subst hkn;go_wp2;go_ret;exact⟨rfl,hb⟩
structure Leg where
 ax:Int
 ay:Int
 bx:Int
 b_y:Int
 deriving DecidableEq
def jW(l:Leg):List Value:=[.int .i64 l.ax,.int .i64 l.ay,.int .i64 l.bx,.int .i64 l.b_y]
def lg(ls:List Leg)(k:Nat):Leg:=ls.getD k ⟨0,0,0,0⟩
theorem uu{ls:List Leg}(h:k<ls.length):ls[k]=lg ls k:=by simp[lg,List.getD,List.getElem?_eq_getElem h]
def Legs(w:World)(A:Option Addr)(n:Nat)(ls:List Leg):Prop:=
 ls.length=n/\(0<n->∃b o,A=some ⟨b,o,none⟩/\b<w.heap.size/\∀k,k<n->w.cell? ⟨b,o+k*4,none⟩=some (.int .i64 (lg ls k).ax)/\w.cell? ⟨b,o+k*4+1,none⟩=some (.int .i64 (lg ls k).ay)/\
  w.cell? ⟨b,o+k*4+2,none⟩=some (.int .i64 (lg ls k).bx)/\w.cell? ⟨b,o+k*4+3,none⟩=some (.int .i64 (lg ls k).b_y))
theorem Legs.over{ls:List Leg}(h:Legs w A n ls)(hb:Over w w'):Legs w' A n ls:=by
 refine⟨h.1,λhn=>?_⟩;obtain⟨b,o,hA,hlt,hc⟩:=h.2 hn;exact⟨b,o,hA,jlU hlt hb.size,λk hk=>⟨((Jy hb).1 b _ hlt).trans (hc k hk).1,((Jy hb).1 b _ hlt).trans (hc k hk).2.1,((Jy hb).1 b _ hlt).trans (hc k hk).2.2.1,((Jy hb).1 b _ hlt).trans (hc k hk).2.2.2⟩⟩
theorem Legs.at_{ls:List Leg}(h:Legs w A n ls)(hk:k<n):
  ∃b o,A=some ⟨b,o,none⟩/\b<w.heap.size/\w.cell? ⟨b,o+k*4,none⟩=some (.int .i64 (lg ls k).ax)/\w.cell? ⟨b,o+k*4+1,none⟩=some (.int .i64 (lg ls k).ay)/\
  w.cell? ⟨b,o+k*4+2,none⟩=some (.int .i64 (lg ls k).bx)/\w.cell? ⟨b,o+k*4+3,none⟩=some (.int .i64 (lg ls k).b_y):=by
 obtain⟨b,o,hA,hb,hc⟩:=h.2 Om;exact⟨b,o,hA,hb,hc k hk⟩
theorem GY{α:Type}(f:α->List Value)(m:Nat)(hf:∀a,(f a).length=m):∀(ls:List α) (k j:Nat) (hk:k<ls.length),j<m->(ls.flatMap f)[k*m+j]? =(f ls[k])[j]?
 |[],_,_,h,_=>absurd h (by simp)
 |a::r,0,j,_,hj=>by
  rw[jl4,Nat.zero_mul,jmd,List.getElem?_append_left (by rw[hf];exact hj)];rfl
 |a::r,k+1,j,h,hj=>by
  rw[jl4,List.getElem?_append_right (by rw[hf,Nat.add_mul];omega),hf];have:=GY f m hf r k j (by simpa using h) hj
  rw[show(k+1)*m+j-m=k*m+j by rw[Nat.add_mul];omega,this];rfl
theorem W2{α:Type}(f:α->List Value)(m:Nat)(hf:∀a,(f a).length=m):∀(ls:List α),(ls.flatMap f).length=ls.length*m
 |[]=>by simp
 |a::r=>by rw[jl4,jlJ,hf,W2 f m hf r,jlS,Nat.add_mul];omega
theorem yT{B:Nat}{ls:List Leg}(h:w.ownsRow B T 4 v n (ls.flatMap jW))(hn:ls.length=n):∃A c,v=.slice A n c/\Legs w A n ls/\n<=c:=by
 have hcs:∀g,v.ownBlock=some g->_:=λg hg=>h.cells hg
 rcases h.2 with⟨rfl,rfl⟩|⟨g,cap,cur,rfl,hb,hg,hcap,_⟩
 .exact⟨none,0,rfl,⟨hn,λh=>absurd h Om⟩,by omega⟩
 .refine⟨_,_,J,⟨hn,λ_=>⟨g,0,J,(h.lt g J).2,λk hk=>?_⟩⟩,hcap⟩;have hc:=hcs g rfl
  have hk':k<ls.length:=by omega
  have hat:=λj hj=>GY jW 4 (λ_=>rfl) ls k j hk' hj
  have hadd:∀j,(⟨g,0,none⟩:Addr).add j=⟨g,j,none⟩:=λj=>by unfold Addr.add;split<;>simp_all
  rw[uu hk'] at hat;rw[jmd];have c0:=hc (k*4+0) _ (hat 0 Om)
  have c1:=hc (k*4+1) _ (hat 1 Om);have c2:=hc (k*4+2) _ (hat 2 Om)
  have c3:=hc (k*4+3) _ (hat 3 Om);rw[hadd] at c0 c1 c2 c3;exact⟨c0,c1,c2,c3⟩
def Il(xs:List (Int×Int))(k:Nat):Leg:=⟨px xs k,py xs k,px xs (nx xs k),py xs (nx xs k)⟩
def L3(xs:List (Int×Int))(k:Nat):Bool:=px xs k==px xs (nx xs k) &&py xs k==py xs (nx xs k)
def qI(xs:List (Int×Int)):Nat->List Leg
 |0=>[]
 |k+1=>if L3 xs k=true then qI xs k else qI xs k++[Il xs k]
theorem K7(xs:List (Int×Int))(k:Nat):qI xs (k+1)=if px xs k=px xs (nx xs k)/\py xs k=py xs (nx xs k) then qI xs k else qI xs k++[⟨px xs k,py xs k,px xs (nx xs k),py xs (nx xs k)⟩]:=by
 simp[qI,L3,Il]
def Jh(xs:List (Int×Int)):List Leg:=qI xs xs.length
theorem Ku(xs:List (Int×Int)):∀k,(qI xs k).length<=k
 |0=>by simp[qI]
 |k+1=>by
  have:=Ku xs k;simp only[qI];split
  .omega
  .simp;omega
def Us(l:Leg):Int:=l.ax*l.b_y-l.ay*l.bx
def QR:List Leg->Int
 |[]=>0
 |l::r=>Us l+QR r
theorem Uj:∀a b:List Leg,QR (a++b)=QR a+QR b
 |[],b=>by simp[QR]
 |x::a,b=>by simp only[jmf,QR,Uj a b];omega
theorem UV(xs:List (Int×Int)):∀k,QR (qI xs k)=vO xs k
 |0=>rfl
 |k+1=>by
  simp only[qI,vO];have ih:=UV xs k
  split
  .rename_i h;simp[L3] at h;rw[ih,xL,<-h.1,<-h.2,jmn (py xs k)];omega
  .rw[Uj,ih];simp[QR,Us,Il,xL]
def qK(l:Leg):Prop:=(-262144<=l.ax/\l.ax<=262144)/\(-262144<=l.ay/\l.ay<=262144)/\(-262144<=l.bx/\l.bx<=262144)/\(-262144<=l.b_y/\l.b_y<=262144)
theorem NF{l:Leg}(h:qK l): -137438953472<=Us l/\Us l<=137438953472:=by
 obtain⟨⟨a1,a2⟩,⟨a3,a4⟩,⟨b1,b2⟩,b3,b4⟩:=h;have:=QN a1 a2 b3 b4
 have:=QN a3 a4 b1 b2;unfold Us;omega
theorem xQ:∀ls:List Leg,(∀l∈ls,qK l)→-(ls.length*137438953472:Int)<=QR ls/\QR ls<=ls.length*137438953472
 |[],_=>by simp[QR]
 |l::r,h=>by
  have h1:=NF (h l (by simp));have h2:=xQ r (λx hx=>h x (by simp[hx]))
  simp only[QR,jlS];have:((r.length+1:Nat):Int)*137438953472=(r.length:Int)*137438953472+137438953472:=by rw[Int.natCast_add,Int.add_mul];rfl
  omega
theorem uL{xs:List (Int×Int)}(h:WY xs=true):∀k,k<=xs.length->∀l∈qI xs k,qK l
 |0,_,l,hl=>by simp[qI] at hl
 |k+1,hk,l,hl=>by
  have ih:=uL h k Om;simp only[qI] at hl;split at hl
  .exact ih l hl
  .rcases jl0.1 hl with h1|h1
   .exact ih l h1
   .simp at h1;subst h1;obtain⟨a1,a2,a3,a4⟩:=Iy h (show k<xs.length by omega);obtain⟨b1,b2,b3,b4⟩:=Iy h (Hj k (show 0<xs.length by omega));exact⟨⟨a1,a2⟩,⟨a3,a4⟩,⟨b1,b2⟩,b3,b4⟩
set_option maxHeartbeats 1000000 in
theorem Yj(A:Option Addr)(n c:Nat)(ls:List Leg)(w:World)(h:Legs w A n ls)(hn:(n:Int)<=1048576)(hok:∀l∈ls,qK l):
  Calls Tryz.prog 16 #[.slice A n c] w λe w'=>e=.returned (.int .i64 (QR ls))/\Over w w':=by
 go_enter Tryz.func16,Tryz.ntmps16
 go_wp2
 go_loopw [3,8] (λs i wr=>∃k:Nat,k<=n/\i=.int .i64 k/\s=.int .i64 (QR (ls.take k))/\Over w wr) (λ_ i _=>n-(intOf i).toNat)
 case atStart=>exact⟨0,jlN _,rfl,rfl,Over.refl _⟩
 case round=>
  rename_i wr;obtain⟨k,hk,rfl,rfl,hb⟩:=hrel;by_cases hlt:k<n
  .have hl:=h.1;have hlk:k<ls.length:=by omega
   obtain⟨b,o,rfl,hbB,hc1,hc2,hc3,hc4⟩:=(h.over hb).at_ hlt;obtain⟨⟨a1,a2⟩,⟨a3,a4⟩,⟨b1,b2⟩,b3,b4⟩:=hok _ (jlY hlk);rw[uu hlk] at a1 a2 a3 a4 b1 b2 b3 b4;obtain⟨m1,m1'⟩:=QN a1 a2 b3 b4;obtain⟨m2,m2'⟩:=QN a3 a4 b1 b2;obtain⟨t1,t2⟩:=xQ (ls.take k) (λl hl=>hok l (jmp hl));rw[jl3,jmO Om] at t1 t2;have hs:Hid (QR (ls.take (k+1))=QR (ls.take k)+((lg ls k).ax*(lg ls k).b_y-(lg ls k).ay*(lg ls k).bx)):=by
    unfold Hid;rw[jlX hlk,Uj,uu hlk];simp[QR,Us]
   clear h hl hlk hok;go_wp2
   go_roundw
   case rel=>exact⟨k+1,by omega,by go_num,by rw[hs.out],ov9⟩
   case measure=>simp[intOf];omega
  .have hs:Hid (QR (ls.take k)=QR ls):=by
    unfold Hid;rw[jme (by have:=h.1;omega)]
   clear h hok;go_wp2;go_ret;exact⟨by rw[hs.out];rfl,hb⟩
theorem Y3{B s:Nat}{xs:List Value}(h:w.ownsRow B T s v n xs)(ho:Over w w'):w'.ownsRow B T s v n xs:=by
 refine⟨h.1,?_⟩;rcases h.2 with hn|⟨g,cap,cur,rfl,hb,hgg,rest⟩
 .exact .inl hn
 .refine .inr ⟨g,cap,cur,J,hb,?_,rest⟩;rw[ho.out.block g (Array.getElem?_eq_some_iff.1 hgg).1];exact hgg
theorem wI{B B' s:Nat}{xs:List Value}(h:w.ownsRow B T s v n xs)(hB:B'<=B):w.ownsRow B' T s v n xs:=by
 refine⟨h.1,?_⟩;rcases h.2 with hn|⟨g,cap,cur,rfl,hb,rest⟩
 .exact .inl hn
 .exact .inr ⟨g,cap,cur,rfl,by omega,rest⟩
theorem zM{w0 wr w4 w1:World}{B s:Nat}{xs:List Value}(h0:Over w0 wr)(hown:wr.ownsRow B T s v n xs)(hB:w0.heap.size<=B)(ho:Over wr w4)(hg:w4.grownBy w1 v.ownBlock):Over w0 w1:=
 Below.grown (h0.trans ho).out hg (h0.trans ho).size (λk hk=>jmC hB ((hown.lt k hk).1))
theorem IA{w1:World}(hw1:w1=w.alloc (.cells news.toArray T)):∀j u,news[j]? =some u->w1.cell? ((⟨w.heap.size,0,none⟩:Addr).add j)=some u:=by
 intro j u hj;have hadd:(⟨w.heap.size,0,none⟩:Addr).add j=⟨w.heap.size,j,none⟩:=by unfold Addr.add;split<;>simp_all
 rw[hadd,hw1,ZV];simpa using hj
theorem jap:(Tryz.prog.info? 72).map (λi=>(i.zero,i.size,i.bytes))=some (some (.agg #[.int .i64 0,.int .i64 0,.int .i64 0,.int .i64 0]),4,32):=by kernel_rfl
set_option maxHeartbeats 2000000 in
set_option maxRecDepth 100000 in
theorem kw(A:Option Addr)(n c:Nat)(xs:List (Int×Int))(w:World)(h:Pts w A n xs)(hn:(n:Int)<=1048577):
  Calls Tryz.prog 17 #[XE A n c] w λe w'=>∃v,e=.returned v/\w'.ownsRow w.heap.size 72 4 v (Jh xs).length ((Jh xs).flatMap jW)/\Over w w':=by
 obtain⟨i0,hi,hz0,hz1,hz2⟩:=yP jap
 go_enter Tryz.func17,Tryz.ntmps17
 go_wp2
 go_loopw [3,10] (λs i wr=>∃k:Nat,k<=n/\i=.int .i64 k/\wr.ownsRow (w.heap.size+1) 72 4 s (qI xs k).length ((qI xs k).flatMap jW)/\Over (w.alloc (.cells #[.slice A n c] 41)) wr) (λ_ i _=>n-(intOf i).toNat)
 case atStart=>exact⟨0,jlN _,rfl,World.ownsRow_nil _ _ _ _,Over.refl _⟩
 case round=>
  rename_i wr;have hl0:=h.1
  obtain⟨k,hk,rfl,hown,hb⟩:=hrel;by_cases hlt:k<n
  .have hl:=h.1;have hO:Over w wr:=(Over.alloc _ _).trans hb
   obtain⟨b,o,rfl,hbB,hc1,hc2⟩:=(h.over hO).at_ hlt;obtain⟨b',o',e,hbB',hc1',hc2'⟩:=(h.over hO).at_ (k:=nx xs k) (by have:=Hj (xs:=xs) k Om;omega);injection e with e
   injection e with e1 e2 _
   subst e1 e2;have hnx:((k:Int)+1).tmod (n:Int)=((nx xs k:Nat):Int):=by rw[Int.tmod_eq_emod_of_nonneg Om];exact Sf hl k
   have hnl:=Hj k (show 0<xs.length by omega);have hbx:wr.cell? ⟨w.heap.size,0,none⟩=some (.slice (some ⟨b,o,none⟩) n c):=by
    rw[(Jy hb).1 _ _ (by simp)];exact ZV _ _ _ _
   have hbz:w.heap.size<wr.heap.size:=jlU (by simp) (Over.size hb);rw[hl] at hnl;have hn0:¬n=0:=by omega
   have Hown:=Lib.hid hown;have Hb:=Lib.hid hb
   have hs:=Lib.hid (K7 xs k);generalize px xs k=x at hc1 hs;generalize py xs k=y at hc2 hs;generalize px xs (nx xs k)=x' at hc1' hs;generalize py xs (nx xs k)=y' at hc2' hs;clear h hl hO hown hb;go_wp2;refine KB (B:=ob _) (Over.refl _) Kr (by simp only[jmJ,jlS,jl5,Nat.reduceAdd];rfl) (λhBW=>?_);refine i8 0 ?_;refine i8 1 ?_;refine i8 2 ?_;refine i8 3 ?_;refine i8 4 ?_;refine i8 5 ?_;refine i8 6 ?_;refine i8 7 ?_;refine i8 8 ?_;refine i8 9 ?_;refine MX (i:=10) (k:=11) (by assumption) (by simp only[qX,qY,Qb];rfl) (by simp only[qX,qY,Qb];rfl) (by rfl) (by rfl) (by rfl) (by rfl) (by rfl) (by rfl) (λ_=>by(go_simp;rfl)) Kr Kr (λ_=>by rfl) (λ_=>by rfl) Kr (by rfl) (by simp[Value.oneCell']) ?_;intro w2 q1 ho hq1 hl1 hh1 hBx;replace hBW:=hBx;clear hBx;simp only[Act.put,Qc,jL,jM];obtain⟨k1,k2,k3,k4⟩:=I6 hh1;refine KA Kr (λw3 h3=>?_) _
   try clear hBW
   have hO:=ho.trans h3;have l1:=((Jy h3).1 q1 0 hl1).trans k1
   have l2:=((Jy h3).1 q1 1 hl1).trans k2;have hl3:q1<w3.heap.size:=jlU hl1 h3.size
   clear k1 k2 k3 k4 ho h3 hh1;obtain⟨hc,hf⟩:=Jy hO;have HO:=Lib.hid ((Over.alloc _ _).trans hO)
   have hw3:=hO.size;clear hO;have key:(x=x'/\y=y')\/(¬x=x')\/(x=x'/\¬y=y'):=by omega
   rcases key with⟨rfl,rfl⟩|hne|⟨rfl,hne⟩
   .skip
    replace hs:Hid (qI xs (k+1)=qI xs k):=by have:=hs.out;rw[if_pos ⟨rfl,rfl⟩] at this;exact this
    go_wp2
    go_roundw
    case rel=>exact⟨k+1,by omega,by go_num,by rw[hs.out];exact Y3 Hown.out HO.out,Hb.out.trans HO.out⟩
    case measure=>simp[intOf];omega
   all_goals
    replace hs:=Lib.hid (hs.out.trans (if_neg Om));have hlen:=Ku xs k
    go_wp2_with (at_builtin;refine wpList_append_own _ rfl _ _ 52 rfl (w.heap.size+1) 72 i0 _ 4 32 Tryz.underlying52 hi hz0 hz1 hz2 rfl Dc _ _ _ rfl ((Y3 Hown.out HO.out).alloc _) ⟨w3.heap.size,0,none⟩ 1 1 (jW ⟨x,y,_,y'⟩) rfl rfl (IA rfl) (by simp[jW,Value.oneCell']) (by unfold maxLen;omega) Om (by have:=Hb.out.size;have:=HO.out.size;simp at*;omega) ?_)
    intro v' w5 hown5 hgrow5 _;have R1:Hid (Over (w.alloc (.cells #[.slice (some ⟨b,o,none⟩) n c] 41)) w5):=zM Hb.out Hown.out (by simp) (Over.alloc_ HO.out _) hgrow5
    have R2:Hid (w5.ownsRow (w.heap.size+1) 72 4 v' (qI xs (k+1)).length ((qI xs (k+1)).flatMap jW)):=by
     unfold Hid;rw[hs.out];simpa using hown5
    clear hown5 hgrow5;go_wp2
    go_roundw
    case rel=>exact⟨k+1,by omega,by go_num,R2.out,R1.out⟩
    case measure=>simp[intOf];omega
  .clear h;have hkn:k=n:=by omega
   have hb':Hid (Over w wr):=(Over.alloc _ _).trans hb;have hr:Hid (wr.ownsRow w.heap.size 72 4 u3 (Jh xs).length ((Jh xs).flatMap jW)):=by
    unfold Hid Jh;rw[hl0,<-hkn];exact wI hown Om
   clear hown hb;go_wp2;go_ret;exact⟨_,rfl,hr.out,hb'.out⟩
def rtA(xs:List (Int×Int)):Int:=if qM xs=true then vO xs xs.length else 0
def rtC(xs:List (Int×Int)):Int:=if qM xs=true then 0 else 1
theorem kM(h:qM xs=true):1<=xs.length/\xs.length<=400/\WY xs=true:=by
 simp[qM,X2] at h;exact⟨by omega,by omega,h.2⟩
theorem XZ(xs:List (Int×Int)):QR (Jh xs)=vO xs xs.length:=UV xs _
set_option maxHeartbeats 400000 in
theorem Xs(A:Option Addr)(n c:Nat)(xs:List (Int×Int))(w:World)(h:Pts w A n xs)(hn:(n:Int)<=1048576):
  Calls Tryz.prog 9 #[XE A n c] w λe w'=>e=.returned (.tuple #[.int .i64 (rtA xs),.int .i64 (rtC xs)])/\Over w w':=by
 have hl:=h.1;cases hb:qM xs
 .have hv:Hid (rtA xs=0/\rtC xs=1):=by simp[Hid,rtA,rtC,hb]
  clear hl
  go_enter Tryz.func9,Tryz.ntmps9
  go_wp2_with (go_at_call 23;refine(Ug _ _ _ xs _ (h.over ov9) (jmN hn Dc)).mono ?_;rw[hb];rintro e wx ⟨rfl,hb⟩;(first|(replace hO:=Over.trans hO hb)|(replace hO:=Over.trans (Over.alloc_ hO _) hb)|(replace hO:=Over.trans (Over.alloc_ (Over.alloc_ hO _) _) hb)|(have hO:=hb));(try clear hc hf);obtain⟨hc,hf⟩:=Jy hO;(try clear hb);(try clear hz0);have hz0:w.heap.size<wx.heap.size:=jlU (by simp<;>omega) (Over.size hO))
  exact bodyPost_ret (v:=.tuple #[.int .i64 (0),.int .i64 (1)]) (by simp[results,Tryz.results9,go_sem, *]) rfl ⟨by rw[hv.out.1,hv.out.2],ov9⟩
 .have hv:Hid (rtA xs=QR (Jh xs)/\rtC xs=0):=by simp[Hid,rtA,rtC,hb,XZ]
  have hok:=(kM hb).2.2;have hle:=Lib.hid (Ku xs xs.length)
  have hlk:∀l∈Jh xs,qK l:=uL hok _ (jlL _);have hl':=Lib.hid hl
  clear hl
  go_enter Tryz.func9,Tryz.ntmps9
  go_wp2_with (go_at_call 23;refine(Ug _ _ _ xs _ (h.over ov9) (jmN hn Dc)).mono ?_;rw[hb];rintro e wx ⟨rfl,hb⟩;(first|(replace hO:=Over.trans hO hb)|(replace hO:=Over.trans (Over.alloc_ hO _) hb)|(replace hO:=Over.trans (Over.alloc_ (Over.alloc_ hO _) _) hb)|(have hO:=hb));(try clear hc hf);obtain⟨hc,hf⟩:=Jy hO;(try clear hb);(try clear hz0);have hz0:w.heap.size<wx.heap.size:=jlU (by simp<;>omega) (Over.size hO))
  refine(kw _ _ _ xs _ (h.over ov9) (jmN hn Dc)).mono ?_;rintro e w2 ⟨v,rfl,hrow,h2⟩;obtain⟨A2,c2,rfl,hlegs,-⟩:=yT hrow rfl;clear hrow
  go_wp2_with fail
  refine(Yj _ _ _ (Jh xs) _ (hlegs.over ov9) (by have:=hle.out;have:=hl'.out;unfold Jh;omega) hlk).mono ?_;rintro e w3 ⟨rfl,h3⟩;go_wp2;exact bodyPost_ret (v:=.tuple #[.int .i64 (QR (Jh xs)),.int .i64 (0)]) (by simp[results,Tryz.results9,go_sem, *]) rfl ⟨by rw[hv.out.1,hv.out.2],ov9⟩
abbrev jI:=List (Int×Int)
def rg(rs:List jI)(k:Nat):jI:=rs.getD k []
theorem wb{rs:List jI}(h:k<rs.length):rs[k]=rg rs k:=by simp[rg,List.getD,List.getElem?_eq_getElem h]
def Rings(w:World)(A:Option Addr)(n:Nat)(rs:List jI):Prop:=
 rs.length=n/\(0<n->∃b o,A=some ⟨b,o,none⟩/\b<w.heap.size/\∀k,k<n->∃Ak ck,w.cell? ⟨b,o+k,none⟩=some (.slice Ak (rg rs k).length ck)/\Pts w Ak (rg rs k).length (rg rs k)/\((rg rs k).length:Int)<=9223372036854775807)
theorem Rings.over{rs:List jI}(h:Rings w A n rs)(hb:Over w w'):Rings w' A n rs:=by
 refine⟨h.1,λhn=>?_⟩;obtain⟨b,o,hA,hlt,hc⟩:=h.2 hn;refine⟨b,o,hA,jlU hlt hb.size,λk hk=>?_⟩;obtain⟨Ak,ck,h1,h2,h3⟩:=hc k hk;exact⟨Ak,ck,((Jy hb).1 b _ hlt).trans h1,h2.over hb,h3⟩
theorem Rings.at_{rs:List jI}(h:Rings w A n rs)(hk:k<n):
  ∃b o Ak ck,A=some ⟨b,o,none⟩/\b<w.heap.size/\w.cell? ⟨b,o+k,none⟩=some (.slice Ak (rg rs k).length ck)/\Pts w Ak (rg rs k).length (rg rs k)/\((rg rs k).length:Int)<=9223372036854775807:=by
 obtain⟨b,o,hA,hb,hc⟩:=h.2 Om;obtain⟨Ak,ck,h1,h2,h3⟩:=hc k hk;exact⟨b,o,Ak,ck,hA,hb,h1,h2,h3⟩
def OwnR(B:Nat)(w:World)(g n:Nat)(rs:List jI):Prop:=
 B<=g/\rs.length=n/\Blk w g 41 n/\∀k,k<n->∃gk,B<=gk/\gk≠g/\w.cell? ⟨g,k,none⟩=some (.slice (some ⟨gk,0,none⟩) (rg rs k).length (rg rs k).length)/\Own w gk (rg rs k).length (rg rs k)
def FillR(B:Nat)(w:World)(g k:Nat)(rs:List jI):Prop:=
 ∀j,j<k->∃gk,B<=gk/\gk≠g/\w.cell? ⟨g,j,none⟩=some (.slice (some ⟨gk,0,none⟩) (rg rs j).length (rg rs j).length)/\Own w gk (rg rs j).length (rg rs j)
theorem FillR.over{B:Nat}{rs:List jI}(h:FillR B w g k rs)(hg:g<w.heap.size)(ho:Over w w'):FillR B w' g k rs:=by
 intro j hj;obtain⟨gk,h1,h2,h3,h4⟩:=h j hj;exact⟨gk,h1,h2,((Jy ho).1 g _ hg).trans h3,h4.over ho⟩
theorem FillR.step{B:Nat}{m gk:Nat}{rs:List jI}(h:FillR B w g k rs)(hb:Blk w g T m)(hk:k<m)(h1:B<=gk)(h2:gk≠g)(ho:Own w gk (rg rs k).length (rg rs k)):
  FillR B (w.setCell ⟨g,k,none⟩ (.slice (some ⟨gk,0,none⟩) (rg rs k).length (rg rs k).length)) g (k+1) rs:=by
 obtain⟨u,hu⟩:=hb.cell hk;intro j hj;by_cases hjk:j=k
 .subst hjk;exact⟨gk,h1,h2,World.cell?_setCell_same _ _ _ hu,ho.far (Ne.symm h2) _⟩
 .obtain⟨gj,e1,e2,e3,e4⟩:=h j Om;refine⟨gj,e1,e2,?_,e4.far (Ne.symm e2) _⟩;rw[World.cell?_setCell_other _ _ _ _ (by simp<;>omega)];exact e3
theorem FillR.own{B:Nat}{rs:List jI}(h:FillR B w g n rs)(hg:B<=g)(hb:Blk w g 41 n)(hn:rs.length=n):OwnR B w g n rs:=⟨hg,hn,hb,h⟩
theorem OwnR.over{B:Nat}{rs:List jI}(h:OwnR B w g n rs)(ho:Over w w'):OwnR B w' g n rs:=
 ⟨h.1,h.2.1,h.2.2.1.over ho,FillR.over h.2.2.2 h.2.2.1.lt ho⟩
theorem Blk.far{m:Nat}(h:Blk w g T m)(hp:p.block≠g)(u:Value):Blk (w.setCell p u) g T m:=by
 obtain⟨cs,hs,hh⟩:=h;exact⟨cs,hs,(Below.heap_setCell w p u g (Ne.symm hp)).trans hh⟩
theorem OwnR.far{B:Nat}{rs:List jI}(h:OwnR B w g n rs)(hp:p.block<B)(u:Value):OwnR B (w.setCell p u) g n rs:=by
 have hg:=h.1;refine⟨hg,h.2.1,h.2.2.1.far Om u,λk hk=>?_⟩;obtain⟨gk,h1,h2,h3,h4⟩:=h.2.2.2 k hk;refine⟨gk,h1,h2,?_,h4.far Om u⟩;rw[World.cell?_setCell_other _ _ _ _ (λe=>by rw[e] at hp;simp at hp;omega)];exact h3
theorem OwnR.low{B B':Nat}{rs:List jI}(h:OwnR B w g n rs)(hB:B'<=B):OwnR B' w g n rs:=by
 refine⟨by have:=h.1;omega,h.2.1,h.2.2.1,λk hk=>?_⟩;obtain⟨gk,h1,h2⟩:=h.2.2.2 k hk;exact⟨gk,by omega,h2⟩
theorem OwnR.rings{B:Nat}{rs:List jI}(h:OwnR B w g n rs)(hm:∀k,k<n->((rg rs k).length:Int)<=1048576):Rings w (some ⟨g,0,none⟩) n rs:=by
 refine⟨h.2.1,λ_=>⟨g,0,J,h.2.2.1.lt,λk hk=>?_⟩⟩;obtain⟨gk,h1,h2,h3,h4⟩:=h.2.2.2 k hk;rw[jmd];exact⟨_,_,h3,h4.2,by have:=hm k hk;omega⟩
def uk(rs:List jI):Nat->Nat
 |0=>0
 |k+1=>uk rs k+(rg rs k).length
theorem zZ(rs:List jI){m:Nat}(h:k<=m):uk rs k<=uk rs m:=by
 induction m with
 |zero=>rw[Nat.le_zero.1 h];omega
 |succ m ih=>
  rcases jmU k (m+1) with h'|h'
  .have:=ih Om;simp only[uk];omega
  .rw[show k=m+1 by omega];omega
def total(rs:List jI):Nat:=rs.length+uk rs rs.length
theorem WN(rs:List jI)(h:k<rs.length):(rg rs k).length<=total rs:=by
 have:=zZ rs (show k+1<=rs.length by omega);simp only[uk] at this;unfold total;omega
abbrev qU(A:Option Addr)(n c:Nat):Value:=.agg #[.slice A n c]
section
variable{P:Program}{ops:Array Oper}{Q:Exit->Act->World->Prop}{md:Region.Mode}{B:Base}
def Yy(P:Program)(md:Region.Mode)(ops:Array Oper)(Q:Exit->Act->World->Prop)(B:Base)(f:Nat):Nat->Array Bool->Act->World->Prop
 |0,listed,a,W=>Region.ready md ops listed=[]/\∀w,Over W w->Q .normal a w
 |fuel+1,listed,a,W=>
  (Region.ready md ops listed=[]->∀w,Over W w->Q .normal a w)/\
  ∀i∈Region.ready md ops listed,∀w,Over W w->(i≠f->wpOp P ops Q i (λa' w'=>B.holds w'/\Yy P md ops Q B f fuel (listed.setIfInBounds i true) a' w') a w)/\
   (i=f->Region.ready md ops (listed.setIfInBounds f true)=[]/\wpOp P ops Q f (λa' w'=>Q .normal a' w') a w)
theorem MR :∀(fuel:Nat) (listed:Array Bool) (a:Act) (W W':World),Over W W'->Yy P md ops Q B f fuel listed a W->Yy P md ops Q B f fuel listed a W'
 |0,_,_,_,_,ho,h=>⟨h.1,λw hw=>h.2 w (ho.trans hw)⟩
 |_+1,_,_,_,_,ho,h=>⟨λh0 w hw=>h.1 h0 w (ho.trans hw),λi hi w hw=>h.2 i hi w (ho.trans hw)⟩
theorem jdf(hr:Region.ready md ops listed=[])(h:Q .normal a w):∀fuel,wpAny P md ops Q fuel listed a w
 |0=>⟨hr,h⟩
 |_+1=>⟨λ_=>h,by rw[hr];simp⟩
theorem DW{f:Nat}:∀(fuel:Nat) (listed:Array Bool) (a:Act) (W:World),Yy P md ops Q B f fuel listed a W->∀w,Over W w->wpAny P md ops Q fuel listed a w
 |0,_,_,_,h,w,hS=>⟨h.1,h.2 w hS⟩
 |fuel+1,listed,a,_,h,w,hS=>⟨λh0=>h.1 h0 w hS,λi hi=>by
   by_cases hif:i=f
   .subst hif;obtain⟨hr,hk⟩:=(h.2 i hi w hS).2 rfl;exact wpOp_mono (λa' w' h'=>jdf hr h' _) hk
   .exact wpOp_mono (λa' w' h'=>DW fuel _ a' w' h'.2 w' (Over.refl _)) ((h.2 i hi w hS).1 hif)⟩
def QD(md:Region.Mode)(ops:Array Oper)(f i:Nat):Bool:=match ops[f]? with|some o=>o.after.any (λe=>Region.binds md e&&e.on==i)|none=>false
theorem Mn(h:QD md ops f i=true)(hl:listed.getD i true=false):f∉Region.ready md ops listed:=by
 intro hm;obtain⟨_,o,ho,hall⟩:=mem_ready.1 hm;unfold QD at h;rw[ho] at h;obtain⟨e,he,h2⟩:=Array.any_eq_true'.1 h;rw[jlK] at h2;have h3:e.on=i:=by simpa using h2.2
 have h4:=hall e he h2.1;rw[h3] at h4;rcases jmU i listed.size with h'|h'
 .simp[h'] at h4 hl;rw[hl] at h4;cases h4
 .simp[Array.getElem?_eq_none h'] at h4
theorem SY(hi:ops[i]? =some oi)(hsel:∀(j:Nat) (o:Oper) cs b,ops[j]? =some o->o.op≠ .select cs b)(hQ:∀c a w,Q (.panic c) (a.put oi.dst v) w->Q (.panic c) a w)(hfi:QD md ops f i=true)(hne:i≠f):
  ∀(fuel:Nat) (listed:Array Bool) (a:Act) (W:World),B.holds W->
   (∀j oj,ops[j]? =some oj->j≠i->listed.getD j true=false->(∀e∈oj.after,Region.binds md e=true->e.on≠i)->oi.apart ops oj=true)->
   i∈Region.ready md ops listed->Settles P ops B oi v a->
   Yy P md ops Q B f fuel (listed.setIfInBounds i true) (a.put oi.dst v) W->Yy P md ops Q B f (fuel+1) listed a W:=by
 intro fuel
 induction fuel with
 |zero=>
  intro listed a W hBW _ hr hy H;refine⟨λh=>(by rw[h] at hr;cases hr),λj hj w hS=>⟨λ_=>?_,λhjf=>absurd hj (hjf▸Mn hfi (mem_ready.1 hr).1)⟩⟩;by_cases hji:j=i
  .subst hji;exact hy.wpOp hi (B.keep _ _ hBW hS) λw' hw'=>⟨B.keep _ _ (B.keep _ _ hBW hS) hw',MR _ _ _ _ _ (hS.trans hw') H⟩
  .have:=ready_mono hj hji;rw[H.1] at this;cases this
 |succ fuel ih=>
  intro listed a W hBW hfree hr hy H;refine⟨λh=>(by rw[h] at hr;cases hr),λj hj w hS=>⟨λhjf=>?_,λhjf=>absurd hj (hjf▸Mn hfi (mem_ready.1 hr).1)⟩⟩;by_cases hji:j=i
  .subst hji;exact hy.wpOp hi (B.keep _ _ hBW hS) λw' hw'=>⟨B.keep _ _ (B.keep _ _ hBW hS) hw',MR _ _ _ _ _ (hS.trans hw') H⟩
  .have h1:=(H.2 j (ready_mono hj hji) w hS).1 hjf;obtain⟨hjun,oj,hoj,hall⟩:=mem_ready.1 hj;have hnot:∀e∈oj.after,Region.binds md e=true->e.on≠i:=λe he hb heq=>by
    have h1:=hall e he hb;have h0:=(mem_ready.1 hr).1
    rw[heq] at h1;rcases jmU i listed.size with h'|h'
    .simp[h'] at h0 h1;rw[h0] at h1;cases h1
    .simp[Array.getElem?_eq_none h'] at h1
   have h2:=za hoj (hfree j oj hoj hji hjun hnot) (λcs b=>hsel i oi cs b hi) (λcs b=>hsel j oj cs b hoj) hQ hy h1;have hfree':∀k ok,ops[k]? =some ok->k≠i->(listed.setIfInBounds j true).getD k true=false->
     (∀e∈ok.after,Region.binds md e=true->e.on≠i)->oi.apart ops ok=true:=λk ok hk hki hun hno=>by
    refine hfree k ok hk hki ?_ hno;by_cases hjk:j=k
    .subst hjk;exact hjun
    .rw[getD_set_ne true hjk] at hun;exact hun
   refine wpOp_mono (λa' w' h3=>⟨h3.2.1,ih (listed.setIfInBounds j true) a' w' h3.2.1 hfree' (ready_mono hr (Ne.symm hji)) h3.1 ?_⟩) h2;rw[jm6 _ _ hji];exact h3.2.2
theorem qi(hBW:B.holds W)(hi:ops[i]? =some oi)(hs:Region.noSelect ops=true)(hf:Region.free md ops listed i=true)(hr:(Region.ready md ops listed).contains i=true)(hQ:∀c a w,Q (.panic c) (a.put oi.dst v) w->Q (.panic c) a w)(hw:Region.wanted oi (yielded ops a.tmps)=true)(hfi:(QD md ops f i&&i !=f)=true)(hy:∀w,B.holds w->Gv P v w ((execOp a.eval oi).run P w))(h:Yy P md ops Q B f fuel (listed.setIfInBounds i true) (a.put oi.dst v) W):Yy P md ops Q B f (fuel+1) listed a W:=by
 rw[jlK] at hfi;exact SY hi (Region.noSelect_spec hs) hQ hfi.1 (by simpa using hfi.2) fuel listed a W hBW (Region.free_spec hi hf) (by simpa using hr) (.inl ⟨hw,λw hS=>(hy w hS).gives⟩) h
theorem MQ(hBW:B.holds W)(hi:ops[f]? =some oi)(hr:Region.ready md ops listed=[f])(hr':Region.ready md ops (listed.setIfInBounds f true)=[])(hw:Region.wanted oi (yielded ops a.tmps)=true)(h:∀w,Over W w->B.holds w->Oper.wp P oi a w (λa' w'=>Q .normal a' w') Q):
  Yy P md ops Q B f (fuel+1) listed a W:=by
 refine⟨λh0=>(by rw[h0] at hr;cases hr),λj hj w hS=>?_⟩;rw[hr] at hj;simp only[jlM] at hj;subst hj;refine⟨λhne=>absurd J hne,λ_=>⟨hr',?_⟩⟩;unfold Go.wpOp;simp only[hi,hw,if_true];exact .inl (h w hS (B.keep _ _ hBW hS))
theorem MZ(f:Nat){id:Nat}(hB:B.holds w)(hm:P.follows .mixedOrders=true)(hn:ops.size=n)(h:B.holds w->Yy P .any ops Q B f n (Array.replicate n false) a w):(Code.region id ops true).wp P Q a w:=by
 subst hn;exact wp_region_any hm (DW _ _ _ _ (h hB) _ (Below.refl _ _).drew)
end
end Go.Proofs.YtjbahemkhphndaaGreat
