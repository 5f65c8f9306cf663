import Derived.Test.YtbahojdbmmjkcaaGreatPL2
import Derived.Test.YtbahojdbmmjkcaaGreatPMem
set_option linter.unusedVariables false
set_option linter.unusedSimpArgs false
namespace Go.Proofs.YtbahojdbmmjkcaaGreat
open Go Go.RowKit
variable {A:Option Addr} {B T g k n:Nat} {news:List Value} {p:Addr} {v:Value} {w w':World} {xs:List (Int×Int)}
def nx (xs:List (Int×Int)) (k:Nat) :Nat:= (k+1) % xs.length
theorem xN (k:Nat) (h:0<xs.length) :nx xs k<xs.length:=Nat.mod_lt _ h
def zy (xs:List (Int×Int)) (k:Nat) :Int:=px xs k*py xs (nx xs k) - py xs k*px xs (nx xs k)
def V6 (xs:List (Int×Int)) :Nat→Int
 | 0=>0
 | k+1=>V6 xs k+zy xs k
theorem BQ (h:uA xs=true) (hk:k<xs.length) : -262144≤px xs k∧px xs k≤262144∧-262144≤py xs k∧py xs k≤262144:=by
 have:=jhR.1 h xs[k] (jgH hk)
 rw [yq hk] at this
 simp [wF,Z7] at this
 omega
theorem Sz (h:uA xs=true) (hk:k<xs.length) : -137438953472≤zy xs k∧zy xs k≤137438953472:=by
 obtain ⟨a1,a2,a3,a4⟩ :=BQ h hk
 obtain ⟨b1,b2,b3,b4⟩ :=BQ h (xN k (show 0<xs.length by omega))
 have:=Qr a1 a2 b3 b4
 have:=Qr a3 a4 b1 b2
 unfold zy
 omega
theorem M9 {xs:List (Int×Int)} (h:uA xs=true) :∀k:Nat,k≤xs.length→-(k*137438953472:Int)≤V6 xs k∧V6 xs k≤k*137438953472
 | 0,_=>by simp [V6]
 | k+1,hk=>by
  have h1:=M9 h k Om
  have h2:=Sz h (show k<xs.length by omega)
  simp only [V6]
  have: ((k+1:Nat) :Int) *137438953472= (k:Int) *137438953472+137438953472:=by rw [Int.natCast_add,Int.add_mul];rfl
  omega
theorem Fr (hl:xs.length=n) (k:Nat) : ((k:Int) +1) % (n:Int) = ((nx xs k:Nat) :Int) :=by
 unfold nx
 rw [hl]
 simp
set_option maxHeartbeats 1000000 in
theorem xy (A:Option Addr) (n c:Nat) (xs:List (Int×Int)) (w:World) (h:Pts w A n xs) (hn: (n:Int)≤1048576) (hok:uA xs=true) :
  Calls Tryz.prog 63 #[.slice A n c] w fun e w'=>e= .returned (.int .i64 (V6 xs n))∧Over w w':=by
 go_enter Tryz.func63,Tryz.ntmps63
 go_wp2
 go_loopw [3,4] (fun s i wr=>∃k:Nat,k≤n∧i= .int .i64 k∧s= .int .i64 (V6 xs k)∧Over w wr) (fun _ i _=>n- (intOf i).toNat)
 case atStart=>exact⟨0,jgw _,rfl,rfl,Over.refl _⟩
 case round=>
  rename_i wr
  obtain ⟨k,hk,rfl,rfl,hb⟩ :=hrel
  by_cases hlt:k<n
  ·have hl:=h.1
   obtain ⟨b,o,rfl,hbB,hc1,hc2⟩ := (h.over hb).at_ hlt
   obtain ⟨b',o',e,hbB',hc1',hc2'⟩ := (h.over hb).at_ (k:=nx xs k) (by have:=xN (xs:=xs) k Om;omega)
   injection e with e
   injection e with e1 e2 _
   subst e1 e2
   obtain ⟨a1,a2,a3,a4⟩ :=BQ hok (show k<xs.length by omega)
   obtain ⟨b1,b2,b3,b4⟩ :=BQ hok (xN k (show 0<xs.length by omega))
   obtain ⟨m1,m1'⟩ :=Qr a1 a2 b3 b4
   obtain ⟨m2,m2'⟩ :=Qr a3 a4 b1 b2
   obtain ⟨t1,t2⟩ :=M9 hok k Om
   have hnx:=Fr hl k
   have hnl:=xN k (show 0<xs.length by omega)
   have hs:Hid (V6 xs (k+1) =V6 xs k+ (px xs k*py xs (nx xs k) - py xs k*px xs (nx xs k))) :=rfl
   rw [hl] at hnl
   clear h hl
   go_wp2
   exact⟨⟨k+1,by omega,by go_num,by rw [hs.out],ov9⟩,by simp [intOf];omega⟩
  ·clear h
   have hkn:k=n:=by omega
   subst hkn
   go_wp2
   go_ret
   exact⟨rfl,hb⟩
structure Leg where
 ax:Int
 ay:Int
 bx:Int
 b_y:Int
 deriving DecidableEq
def jU (l:Leg) :List Value:= [.int .i64 l.ax, .int .i64 l.ay, .int .i64 l.bx, .int .i64 l.b_y]
def lg (ls:List Leg) (k:Nat) :Leg:=ls.getD k ⟨0,0,0,0⟩
theorem VG {ls:List Leg} (h:k<ls.length) :ls[k] =lg ls k:=by simp [lg,List.getD,List.getElem?_eq_getElem h]
def Legs (w:World) (A:Option Addr) (n:Nat) (ls:List Leg) :Prop:=
 ls.length=n∧(0<n→∃b o,A=some ⟨b,o,none⟩∧b<w.heap.size∧∀k,k<n→w.cell? ⟨b,o+k*4,none⟩ =some (.int .i64 (lg ls k).ax)∧w.cell? ⟨b,o+k*4+1,none⟩ =some (.int .i64 (lg ls k).ay)∧
  w.cell? ⟨b,o+k*4+2,none⟩ =some (.int .i64 (lg ls k).bx)∧w.cell? ⟨b,o+k*4+3,none⟩ =some (.int .i64 (lg ls k).b_y))
theorem Legs.over {ls:List Leg} (h:Legs w A n ls) (hb:Over w w') :Legs w' A n ls:=by
 refine⟨h.1,fun hn=> ?_⟩
 obtain ⟨b,o,hA,hlt,hc⟩ :=h.2 hn
 exact⟨b,o,hA,jgA hlt hb.size,fun k hk=>⟨((Jt hb).1 b _ hlt).trans (hc k hk).1,((Jt hb).1 b _ hlt).trans (hc k hk).2.1,((Jt hb).1 b _ hlt).trans (hc k hk).2.2.1,((Jt hb).1 b _ hlt).trans (hc k hk).2.2.2⟩⟩
theorem Legs.at_ {ls:List Leg} (h:Legs w A n ls) (hk:k<n) :
  ∃b o,A=some ⟨b,o,none⟩∧b<w.heap.size∧w.cell? ⟨b,o+k*4,none⟩ =some (.int .i64 (lg ls k).ax)∧w.cell? ⟨b,o+k*4+1,none⟩ =some (.int .i64 (lg ls k).ay)∧
  w.cell? ⟨b,o+k*4+2,none⟩ =some (.int .i64 (lg ls k).bx)∧w.cell? ⟨b,o+k*4+3,none⟩ =some (.int .i64 (lg ls k).b_y) :=by
 obtain ⟨b,o,hA,hb,hc⟩ :=h.2 Om
 exact⟨b,o,hA,hb,hc k hk⟩
theorem xo {α:Type} (f:α→List Value) (m:Nat) (hf:∀a,(f a).length=m) :∀(ls:List α) (k j:Nat) (hk:k<ls.length),j<m→(ls.flatMap f)[k*m+j]? = (f ls[k])[j]?
 | [],_,_,h,_=>absurd h (by simp)
 | a::r,0,j,_,hj=>by
  rw [jgU,Nat.zero_mul,jgT,List.getElem?_append_left (by rw [hf];exact hj)]
  rfl
 | a::r,k+1,j,h,hj=>by
  rw [jgU,List.getElem?_append_right (by rw [hf,Nat.add_mul];omega),hf]
  have:=xo f m hf r k j (by simpa using h) hj
  rw [show(k+1) *m+j- m=k*m+j by rw [Nat.add_mul];omega,this]
  rfl
theorem VO {α:Type} (f:α→List Value) (m:Nat) (hf:∀a,(f a).length=m) :∀(ls:List α),(ls.flatMap f).length=ls.length*m
 | [] =>by simp
 | a::r=>by rw [jgU,jgv,hf,VO f m hf r,jgD,Nat.add_mul];omega
theorem YY {ls:List Leg} (h:w.ownsRow B T 4 v n (ls.flatMap jU)) (hn:ls.length=n) :∃A c,v= .slice A n c∧Legs w A n ls∧n≤c:=by
 have hcs:∀g,v.ownBlock=some g→_:=fun g hg=>h.cells hg
 rcases h.2 with⟨rfl,rfl⟩ |⟨g,cap,cur,rfl,hb,hg,hcap,_⟩
 ·exact⟨none,0,rfl,⟨hn,fun h=>absurd h Om⟩,by omega⟩
 ·refine⟨_,_,J,⟨hn,fun _=>⟨g,0,J,(h.lt g J).2,fun k hk=> ?_⟩⟩,hcap⟩
  have hc:=hcs g rfl
  have hk':k<ls.length:=by omega
  have hat:=fun j hj=>xo jU 4 (fun _=>rfl) ls k j hk' hj
  have hadd:∀j,(⟨g,0,none⟩ :Addr).add j=⟨g,j,none⟩ :=fun j=>by unfold Addr.add;split<;>simp_all
  rw [VG hk'] at hat
  rw [jgT]
  have c0:=hc (k*4+0) _ (hat 0 Om)
  have c1:=hc (k*4+1) _ (hat 1 Om)
  have c2:=hc (k*4+2) _ (hat 2 Om)
  have c3:=hc (k*4+3) _ (hat 3 Om)
  rw [hadd] at c0 c1 c2 c3
  exact⟨c0,c1,c2,c3⟩
def jaG (xs:List (Int×Int)) (k:Nat) :Leg:=⟨px xs k,py xs k,px xs (nx xs k),py xs (nx xs k)⟩
def Tu (xs:List (Int×Int)) (k:Nat) :Bool:=px xs k==px xs (nx xs k) &&py xs k==py xs (nx xs k)
def qI (xs:List (Int×Int)) :Nat→List Leg
 | 0=> []
 | k+1=>if Tu xs k=true then qI xs k else qI xs k++ [jaG xs k]
theorem Kd (xs:List (Int×Int)) (k:Nat) :qI xs (k+1) =if px xs k=px xs (nx xs k)∧py xs k=py xs (nx xs k) then qI xs k else qI xs k++ [⟨px xs k,py xs k,px xs (nx xs k),py xs (nx xs k)⟩] :=by
 simp [qI,Tu,jaG]
def Jy (xs:List (Int×Int)) :List Leg:=qI xs xs.length
theorem Ki (xs:List (Int×Int)) :∀k,(qI xs k).length≤k
 | 0=>by simp [qI]
 | k+1=>by
  have:=Ki xs k
  simp only [qI]
  split
  ·omega
  ·simp;omega
def U2 (l:Leg) :Int:=l.ax*l.b_y- l.ay*l.bx
def vl:List Leg→Int
 | [] =>0
 | l::r=>U2 l+vl r
theorem UF:∀a b:List Leg,vl (a++b) =vl a+vl b
 | [],b=>by simp [vl]
 | x::a,b=>by simp only [jg0,vl,UF a b];omega
theorem yI (xs:List (Int×Int)) :∀k,vl (qI xs k) =V6 xs k
 | 0=>rfl
 | k+1=>by
  simp only [qI,V6]
  have ih:=yI xs k
  split
  ·rename_i h
   simp [Tu] at h
   rw [ih,zy,←h.1,←h.2,jha (py xs k)]
   omega
  ·rw [UF,ih]
   simp [vl,U2,jaG,zy]
def qr (l:Leg) :Prop:= (-262144≤l.ax∧l.ax≤262144)∧(-262144≤l.ay∧l.ay≤262144)∧(-262144≤l.bx∧l.bx≤262144)∧(-262144≤l.b_y∧l.b_y≤262144)
theorem Rr {l:Leg} (h:qr l) : -137438953472≤U2 l∧U2 l≤137438953472:=by
 obtain ⟨⟨a1,a2⟩,⟨a3,a4⟩,⟨b1,b2⟩,b3,b4⟩ :=h
 have:=Qr a1 a2 b3 b4
 have:=Qr a3 a4 b1 b2
 unfold U2
 omega
theorem BB:∀ls:List Leg,(∀l∈ls,qr l)→-(ls.length*137438953472:Int)≤vl ls∧vl ls≤ls.length*137438953472
 | [],_=>by simp [vl]
 | l::r,h=>by
  have h1:=Rr (h l (by simp))
  have h2:=BB r (fun x hx=>h x (by simp [hx]))
  simp only [vl,jgD]
  have: ((r.length+1:Nat) :Int) *137438953472= (r.length:Int) *137438953472+137438953472:=by rw [Int.natCast_add,Int.add_mul];rfl
  omega
theorem yF {xs:List (Int×Int)} (h:uA xs=true) :∀k,k≤xs.length→∀l∈qI xs k,qr l
 | 0,_,l,hl=>by simp [qI] at hl
 | k+1,hk,l,hl=>by
  have ih:=yF h k Om
  simp only [qI] at hl
  split at hl
  ·exact ih l hl
  ·rcases jgL.1 hl with h1 | h1
   ·exact ih l h1
   ·simp at h1
    subst h1
    obtain ⟨a1,a2,a3,a4⟩ :=BQ h (show k<xs.length by omega)
    obtain ⟨b1,b2,b3,b4⟩ :=BQ h (xN k (show 0<xs.length by omega))
    exact⟨⟨a1,a2⟩,⟨a3,a4⟩,⟨b1,b2⟩,b3,b4⟩
set_option maxHeartbeats 1000000 in
theorem Za (A:Option Addr) (n c:Nat) (ls:List Leg) (w:World) (h:Legs w A n ls) (hn: (n:Int)≤1048576) (hok:∀l∈ls,qr l) :
  Calls Tryz.prog 73 #[.slice A n c] w fun e w'=>e= .returned (.int .i64 (vl ls))∧Over w w':=by
 go_enter Tryz.func73,Tryz.ntmps73
 go_wp2
 go_loopw [3,8] (fun s i wr=>∃k:Nat,k≤n∧i= .int .i64 k∧s= .int .i64 (vl (ls.take k))∧Over w wr) (fun _ i _=>n- (intOf i).toNat)
 case atStart=>exact⟨0,jgw _,rfl,rfl,Over.refl _⟩
 case round=>
  rename_i wr
  obtain ⟨k,hk,rfl,rfl,hb⟩ :=hrel
  by_cases hlt:k<n
  ·have hl:=h.1
   have hlk:k<ls.length:=by omega
   obtain ⟨b,o,rfl,hbB,hc1,hc2,hc3,hc4⟩ := (h.over hb).at_ hlt
   obtain ⟨⟨a1,a2⟩,⟨a3,a4⟩,⟨b1,b2⟩,b3,b4⟩ :=hok _ (jgH hlk)
   rw [VG hlk] at a1 a2 a3 a4 b1 b2 b3 b4
   obtain ⟨m1,m1'⟩ :=Qr a1 a2 b3 b4
   obtain ⟨m2,m2'⟩ :=Qr a3 a4 b1 b2
   obtain ⟨t1,t2⟩ :=BB (ls.take k) (fun l hl=>hok l (jg7 hl))
   rw [jgJ,jhu Om] at t1 t2
   have hs:Hid (vl (ls.take (k+1)) =vl (ls.take k) + ((lg ls k).ax* (lg ls k).b_y- (lg ls k).ay* (lg ls k).bx)) :=by
    unfold Hid
    rw [jgE hlk,UF,VG hlk]
    simp [vl,U2]
   clear h hl hlk hok
   go_wp2
   go_roundw
   case rel=>exact⟨k+1,by omega,by go_num,by rw [hs.out],ov9⟩
   case measure=>simp [intOf];omega
  ·have hs:Hid (vl (ls.take k) =vl ls) :=by
    unfold Hid
    rw [jgR (by have:=h.1;omega)]
   clear h hok
   go_wp2
   go_ret
   exact⟨by rw [hs.out];rfl,hb⟩
theorem yc {s:Nat} {xs:List Value} (h:w.ownsRow B T s v n xs) (ho:Over w w') :w'.ownsRow B T s v n xs:=by
 refine⟨h.1,?_⟩
 rcases h.2 with hn |⟨g,cap,cur,rfl,hb,hgg,rest⟩
 ·exact .inl hn
 ·refine .inr ⟨g,cap,cur,J,hb,?_,rest⟩
  rw [ho.out.block g (Array.getElem?_eq_some_iff.1 hgg).1]
  exact hgg
theorem Vy {B' s:Nat} {xs:List Value} (h:w.ownsRow B T s v n xs) (hB:B'≤B) :w.ownsRow B' T s v n xs:=by
 refine⟨h.1,?_⟩
 rcases h.2 with hn |⟨g,cap,cur,rfl,hb,rest⟩
 ·exact .inl hn
 ·exact .inr ⟨g,cap,cur,rfl,by omega,rest⟩
theorem yO {w0 wr w4 w1:World} {s:Nat} {xs:List Value} (h0:Over w0 wr) (hown:wr.ownsRow B T s v n xs) (hB:w0.heap.size≤B) (ho:Over wr w4) (hg:w4.grownBy w1 v.ownBlock) :Over w0 w1:=
 Below.grown (h0.trans ho).out hg (h0.trans ho).size (fun k hk=>jhi hB ((hown.lt k hk).1))
theorem BS {w1:World} (hw1:w1=w.alloc (.cells news.toArray T)) :∀j u,news[j]? =some u→w1.cell? ((⟨w.heap.size,0,none⟩ :Addr).add j) =some u:=by
 intro j u hj
 have hadd: (⟨w.heap.size,0,none⟩ :Addr).add j=⟨w.heap.size,j,none⟩ :=by unfold Addr.add;split<;>simp_all
 rw [hadd,hw1,YJ]
 simpa using hj
theorem NA: (Tryz.prog.info? 96).map (fun i=> (i.zero,i.size,i.bytes)) =some (some (.agg #[.int .i64 0, .int .i64 0, .int .i64 0, .int .i64 0]),4,32) :=by kernel_rfl
set_option maxHeartbeats 2000000 in
set_option maxRecDepth 100000 in
theorem kb (A:Option Addr) (n c:Nat) (xs:List (Int×Int)) (w:World) (h:Pts w A n xs) (hn: (n:Int)≤1048577) :
  Calls Tryz.prog 74 #[Uv A n c] w fun e w'=>∃v,e= .returned v∧w'.ownsRow w.heap.size 96 4 v (Jy xs).length ((Jy xs).flatMap jU)∧Over w w':=by
 obtain ⟨i0,hi,hz0,hz1,hz2⟩ :=WY NA
 go_enter Tryz.func74,Tryz.ntmps74
 go_wp2
 go_loopw [3,10] (fun s i wr=>∃k:Nat,k≤n∧i= .int .i64 k∧wr.ownsRow (w.heap.size+1) 96 4 s (qI xs k).length ((qI xs k).flatMap jU)∧Over (w.alloc (.cells #[.slice A n c] 74)) wr) (fun _ i _=>n- (intOf i).toNat)
 case atStart=>exact⟨0,jgw _,rfl,World.ownsRow_nil _ _ _ _,Over.refl _⟩
 case round=>
  rename_i wr
  have hl0:=h.1
  obtain ⟨k,hk,rfl,hown,hb⟩ :=hrel
  by_cases hlt:k<n
  ·have hl:=h.1
   have hO:Over w wr:= (Over.alloc _ _).trans hb
   obtain ⟨b,o,rfl,hbB,hc1,hc2⟩ := (h.over hO).at_ hlt
   obtain ⟨b',o',e,hbB',hc1',hc2'⟩ := (h.over hO).at_ (k:=nx xs k) (by have:=xN (xs:=xs) k Om;omega)
   injection e with e
   injection e with e1 e2 _
   subst e1 e2
   have hnx: ((k:Int) +1).tmod (n:Int) = ((nx xs k:Nat) :Int) :=by rw [Int.tmod_eq_emod_of_nonneg Om];exact Fr hl k
   have hnl:=xN k (show 0<xs.length by omega)
   have hbx:wr.cell? ⟨w.heap.size,0,none⟩ =some (.slice (some ⟨b,o,none⟩) n c) :=by
    rw [(Jt hb).1 _ _ (by simp)]
    exact YJ _ _ _ _
   have hbz:w.heap.size<wr.heap.size:=jgA (by simp) (Over.size hb)
   rw [hl] at hnl
   have hn0:¬n=0:=by omega
   have Hown:=Lib.hid hown
   have Hb:=Lib.hid hb
   have hs:=Lib.hid (Kd xs k)
   generalize px xs k=x at hc1 hs
   generalize py xs k=y at hc2 hs
   generalize px xs (nx xs k) =x' at hc1' hs
   generalize py xs (nx xs k) =y' at hc2' hs
   clear h hl hO hown hb
   go_wp2
   refine Q0 (B:=ob _) (Over.refl _) Kr (by simp only [jhk,jgD,jgY,Nat.reduceAdd];rfl) (fun hBW=> ?_);refine i8 0 ?_;refine i8 1 ?_;refine i8 2 ?_;refine i8 3 ?_;refine i8 4 ?_;refine i8 5 ?_;refine i8 6 ?_;refine i8 7 ?_;refine i8 8 ?_;refine i8 9 ?_;refine Hi (i:=10) (k:=11) (by assumption) (by simp only [qx,qy,qF];rfl) (by simp only [qx,qy,qF];rfl) (by rfl) (by rfl) (by rfl) (by rfl) (by rfl) (by rfl) (fun _=>by(go_simp;rfl)) Kr Kr (fun _=>by rfl) (fun _=>by rfl) Kr (by rfl) (by simp [Value.oneCell']) ?_
   intro w2 q1 ho hq1 hl1 hh1 hBx
   replace hBW:=hBx;clear hBx
   simp only [Act.put,qE,jP,jQ]
   obtain ⟨k1,k2,k3,k4⟩ :=Dl hh1
   refine QZ Kr (fun w3 h3=> ?_) _
   try clear hBW
   have hO:=ho.trans h3
   have l1:= ((Jt h3).1 q1 0 hl1).trans k1
   have l2:= ((Jt h3).1 q1 1 hl1).trans k2
   have hl3:q1<w3.heap.size:=jgA hl1 h3.size
   clear k1 k2 k3 k4 ho h3 hh1
   obtain ⟨hc,hf⟩ :=Jt hO
   have HO:=Lib.hid ((Over.alloc _ _).trans hO)
   have hw3:=hO.size
   clear hO
   have key: (x=x'∧y=y')∨(¬x=x')∨(x=x'∧¬y=y') :=by omega
   rcases key with⟨rfl,rfl⟩ | hne |⟨rfl,hne⟩
   ·skip
    replace hs:Hid (qI xs (k+1) =qI xs k) :=by have:=hs.out;rw [if_pos ⟨rfl,rfl⟩] at this;exact this
    go_wp2
    go_roundw
    case rel=>exact⟨k+1,by omega,by go_num,by rw [hs.out];exact yc Hown.out HO.out,Hb.out.trans HO.out⟩
    case measure=>simp [intOf];omega
   all_goals
    replace hs:=Lib.hid (hs.out.trans (if_neg Om))
    have hlen:=Ki xs k
    go_wp2_with (at_builtin;refine wpList_append_own _ rfl _ _ 93 rfl (w.heap.size+1) 96 i0 _ 4 32 Tryz.underlying93 hi hz0 hz1 hz2 rfl Dc _ _ _ rfl ((yc Hown.out HO.out).alloc _) ⟨w3.heap.size,0,none⟩ 1 1 (jU ⟨x,y,_,y'⟩) rfl rfl (BS rfl) (by simp [jU,Value.oneCell']) (by unfold maxLen;omega) Om (by have:=Hb.out.size;have:=HO.out.size;simp at*;omega) ?_)
    intro v' w5 hown5 hgrow5 _
    have R1:Hid (Over (w.alloc (.cells #[.slice (some ⟨b,o,none⟩) n c] 74)) w5) :=yO Hb.out Hown.out (by simp) (Over.alloc_ HO.out _) hgrow5
    have R2:Hid (w5.ownsRow (w.heap.size+1) 96 4 v' (qI xs (k+1)).length ((qI xs (k+1)).flatMap jU)) :=by
     unfold Hid
     rw [hs.out]
     simpa using hown5
    clear hown5 hgrow5
    go_wp2
    go_roundw
    case rel=>exact⟨k+1,by omega,by go_num,R2.out,R1.out⟩
    case measure=>simp [intOf];omega
  ·clear h
   have hkn:k=n:=by omega
   have hb':Hid (Over w wr) := (Over.alloc _ _).trans hb
   have hr:Hid (wr.ownsRow w.heap.size 96 4 u3 (Jy xs).length ((Jy xs).flatMap jU)) :=by
    unfold Hid Jy
    rw [hl0,←hkn]
    exact Vy hown Om
   clear hown hb
   go_wp2
   go_ret
   exact⟨_,rfl,hr.out,hb'.out⟩
theorem jd4 (h:¬(n:Int)≤1048576) :Zn 1048576 n= -1:=by unfold Zn;rw [if_neg h]
theorem Eg (h: (n:Int)≤1048576) :Zn 1048576 n=1048576- n:=by unfold Zn;rw [if_pos h]
theorem KM (h:qG xs=true) :1≤xs.length∧xs.length≤400∧uA xs=true:=by
 simp [qG,Z7] at h
 exact⟨by omega,by omega,h.2⟩
abbrev jK:=List (Int×Int)
def rg (rs:List jK) (k:Nat) :jK:=rs.getD k []
theorem Vm {rs:List jK} (h:k<rs.length) :rs[k] =rg rs k:=by simp [rg,List.getD,List.getElem?_eq_getElem h]
def Rings (w:World) (A:Option Addr) (n:Nat) (rs:List jK) :Prop:=
 rs.length=n∧(0<n→∃b o,A=some ⟨b,o,none⟩∧b<w.heap.size∧∀k,k<n→∃Ak ck,w.cell? ⟨b,o+k,none⟩ =some (.slice Ak (rg rs k).length ck)∧Pts w Ak (rg rs k).length (rg rs k)∧((rg rs k).length:Int)≤9223372036854775807)
theorem Rings.over {rs:List jK} (h:Rings w A n rs) (hb:Over w w') :Rings w' A n rs:=by
 refine⟨h.1,fun hn=> ?_⟩
 obtain ⟨b,o,hA,hlt,hc⟩ :=h.2 hn
 refine⟨b,o,hA,jgA hlt hb.size,fun k hk=> ?_⟩
 obtain ⟨Ak,ck,h1,h2,h3⟩ :=hc k hk
 exact⟨Ak,ck,((Jt hb).1 b _ hlt).trans h1,h2.over hb,h3⟩
theorem Rings.at_ {rs:List jK} (h:Rings w A n rs) (hk:k<n) :
  ∃b o Ak ck,A=some ⟨b,o,none⟩∧b<w.heap.size∧w.cell? ⟨b,o+k,none⟩ =some (.slice Ak (rg rs k).length ck)∧Pts w Ak (rg rs k).length (rg rs k)∧((rg rs k).length:Int)≤9223372036854775807:=by
 obtain ⟨b,o,hA,hb,hc⟩ :=h.2 Om
 obtain ⟨Ak,ck,h1,h2,h3⟩ :=hc k hk
 exact⟨b,o,Ak,ck,hA,hb,h1,h2,h3⟩
def OwnR (B:Nat) (w:World) (g n:Nat) (rs:List jK) :Prop:=
 B≤g∧rs.length=n∧Blk w g 74 n∧∀k,k<n→∃gk,B≤gk∧gk≠g∧w.cell? ⟨g,k,none⟩ =some (.slice (some ⟨gk,0,none⟩) (rg rs k).length (rg rs k).length)∧Own w gk (rg rs k).length (rg rs k)
def FillR (B:Nat) (w:World) (g k:Nat) (rs:List jK) :Prop:=
 ∀j,j<k→∃gk,B≤gk∧gk≠g∧w.cell? ⟨g,j,none⟩ =some (.slice (some ⟨gk,0,none⟩) (rg rs j).length (rg rs j).length)∧Own w gk (rg rs j).length (rg rs j)
theorem FillR.over {rs:List jK} (h:FillR B w g k rs) (hg:g<w.heap.size) (ho:Over w w') :FillR B w' g k rs:=by
 intro j hj
 obtain ⟨gk,h1,h2,h3,h4⟩ :=h j hj
 exact⟨gk,h1,h2,((Jt ho).1 g _ hg).trans h3,h4.over ho⟩
theorem FillR.step {m gk:Nat} {rs:List jK} (h:FillR B w g k rs) (hb:Blk w g T m) (hk:k<m) (h1:B≤gk) (h2:gk≠g) (ho:Own w gk (rg rs k).length (rg rs k)) :
  FillR B (w.setCell ⟨g,k,none⟩ (.slice (some ⟨gk,0,none⟩) (rg rs k).length (rg rs k).length)) g (k+1) rs:=by
 obtain ⟨u,hu⟩ :=hb.cell hk
 intro j hj
 by_cases hjk:j=k
 ·subst hjk
  exact⟨gk,h1,h2,World.cell?_setCell_same _ _ _ hu,ho.far (Ne.symm h2) _⟩
 ·obtain ⟨gj,e1,e2,e3,e4⟩ :=h j Om
  refine⟨gj,e1,e2,?_,e4.far (Ne.symm e2) _⟩
  rw [World.cell?_setCell_other _ _ _ _ (by simp<;>omega)]
  exact e3
theorem FillR.own {rs:List jK} (h:FillR B w g n rs) (hg:B≤g) (hb:Blk w g 74 n) (hn:rs.length=n) :OwnR B w g n rs:=⟨hg,hn,hb,h⟩
theorem OwnR.over {rs:List jK} (h:OwnR B w g n rs) (ho:Over w w') :OwnR B w' g n rs:=
 ⟨h.1,h.2.1,h.2.2.1.over ho,FillR.over h.2.2.2 h.2.2.1.lt ho⟩
theorem Blk.far {m:Nat} (h:Blk w g T m) (hp:p.block≠g) (u:Value) :Blk (w.setCell p u) g T m:=by
 obtain ⟨cs,hs,hh⟩ :=h
 exact⟨cs,hs,(Below.heap_setCell w p u g (Ne.symm hp)).trans hh⟩
theorem OwnR.far {rs:List jK} (h:OwnR B w g n rs) (hp:p.block<B) (u:Value) :OwnR B (w.setCell p u) g n rs:=by
 have hg:=h.1
 refine⟨hg,h.2.1,h.2.2.1.far Om u,fun k hk=> ?_⟩
 obtain ⟨gk,h1,h2,h3,h4⟩ :=h.2.2.2 k hk
 refine⟨gk,h1,h2,?_,h4.far Om u⟩
 rw [World.cell?_setCell_other _ _ _ _ (fun e=>by rw [e] at hp;simp at hp;omega)]
 exact h3
theorem OwnR.low {B':Nat} {rs:List jK} (h:OwnR B w g n rs) (hB:B'≤B) :OwnR B' w g n rs:=by
 refine⟨by have:=h.1;omega,h.2.1,h.2.2.1,fun k hk=> ?_⟩
 obtain ⟨gk,h1,h2⟩ :=h.2.2.2 k hk
 exact⟨gk,by omega,h2⟩
theorem OwnR.rings {rs:List jK} (h:OwnR B w g n rs) (hm:∀k,k<n→((rg rs k).length:Int)≤1048576) :Rings w (some ⟨g,0,none⟩) n rs:=by
 refine⟨h.2.1,fun _=>⟨g,0,J,h.2.2.1.lt,fun k hk=> ?_⟩⟩
 obtain ⟨gk,h1,h2,h3,h4⟩ :=h.2.2.2 k hk
 rw [jgT]
 exact⟨_,_,h3,h4.2,by have:=hm k hk;omega⟩
def qD (rs:List jK) :Nat→Nat
 | 0=>0
 | k+1=>qD rs k+ (rg rs k).length
theorem Vg (rs:List jK) {m:Nat} (h:k≤m) :qD rs k≤qD rs m:=by
 induction m with
 | zero=>rw [Nat.le_zero.1 h];omega
 | succ m ih=>
  rcases jhj k (m+1) with h' | h'
  ·have:=ih Om;simp only [qD];omega
  ·rw [show k=m+1 by omega];omega
def total (rs:List jK) :Nat:=rs.length+qD rs rs.length
theorem KL (rs:List jK) (h:k<rs.length) : (rg rs k).length≤total rs:=by
 have:=Vg rs (show k+1≤rs.length by omega)
 simp only [qD] at this
 unfold total
 omega
abbrev qK (A:Option Addr) (n c:Nat) :Value:= .agg #[.slice A n c]
set_option maxHeartbeats 1000000 in
theorem G6 (A:Option Addr) (n c:Nat) (rs:List jK) (l:Int) (w:World) (h:Rings w A n rs) (hl:0≤l) (hl':l≤1048576) (hn: (n:Int)≤9223372036854775807) :
  Calls Tryz.prog 68 #[.slice A n c, .int .i64 l] w fun e w'=>e= .returned (.int .i64 (Zn l (total rs)))∧Over w w':=by
 have hlen:=h.1
 have htot:total rs=n+qD rs n:=by unfold total;rw [hlen]
 by_cases h0:l<n
 ·have hv:Hid (Zn l (total rs) = -1) :=by unfold Hid Zn;rw [if_neg (by rw [htot];omega)]
  clear htot hlen h
  go_enter Tryz.func68,Tryz.ntmps68
  go_wp2
  go_ret
  exact⟨by rw [hv.out];rfl,ov9⟩
 ·have htot':=Lib.hid htot
  have hlen':=Lib.hid hlen
  have hn2: (n:Int)≤1048576:=by omega
  clear htot hlen hn
  go_enter Tryz.func68,Tryz.ntmps68
  go_wp2
  go_loopw [1,5] (fun s i wr=>∃k:Nat,k≤n∧i= .int .i64 k∧s= .int .i64 (l- n- qD rs k)∧0≤l- n- qD rs k∧Over w wr) (fun _ i _=>n- (intOf i).toNat)
  case atStart=>exact⟨0,jgw _,rfl,by simp [qD],by simp [qD];omega,Over.refl _⟩
  case round=>
   rename_i wr
   obtain ⟨k,hk,rfl,rfl,hpos,hb⟩ :=hrel
   by_cases hlt:k<n
   ·obtain ⟨b,o,Ak,ck,rfl,hbB,hcell,hpts,hmax⟩ := (h.over hb).at_ hlt
    have hs:Hid (qD rs (k+1) =qD rs k+ (rg rs k).length) :=rfl
    have hmono:=Lib.hid (Vg rs (show k+1≤n by omega))
    clear h
    go_wp2_with fail
    refine(TI _ _ _ _ _ hpos Om hmax).mono ?_
    clear hmax
    by_cases hle: ((rg rs k).length:Int)≤l- n- qD rs k
    ·have hsz:Zn (l- n- qD rs k) (rg rs k).length=l- n- qD rs k- (rg rs k).length:=by unfold Zn;rw [if_pos hle]
     rw [hsz]
     rintro e w2 ⟨rfl,h2⟩
     go_wp2
     go_roundw
     case rel=>exact⟨k+1,by omega,by go_num,by rw [hs.out];go_num,by have:=hs.out;omega,ov9⟩
     case measure=>simp [intOf];omega
    ·have hsz:Zn (l- n- qD rs k) (rg rs k).length= -1:=by unfold Zn;rw [if_neg hle]
     have hv:Hid (Zn l (total rs) = -1) :=by
      have h1:=hs.out
      have h2:=hmono.out
      have h3:=htot'.out
      unfold Hid Zn
      rw [if_neg (by rw [h3];omega)]
     rw [hsz]
     rintro e w2 ⟨rfl,h2⟩
     go_wp2
     go_ret
     exact⟨by rw [hv.out];rfl,ov9⟩
   ·have hkn:k=n:=by omega
    rw [hkn] at hpos⊢
    have hv:Hid (Zn l (total rs) =l- n- qD rs n) :=by
     have h3:=htot'.out
     unfold Hid Zn
     rw [h3,if_pos Om]
     omega
    clear h hkn hlt
    go_wp2
    go_ret
    exact⟨by rw [hv.out];rfl,hb⟩
theorem FX (A:Option Addr) (n c:Nat) (rs:List jK) (l:Int) (w:World) (h:Rings w A n rs) (hl:0≤l) (hl':l≤1048576) (hn: (n:Int)≤9223372036854775807) :
  Calls Tryz.prog 19 #[qK A n c, .int .i64 l] w fun e w'=>e= .returned (.int .i64 (Zn l (total rs)))∧Over w w':=by
 by_cases hle: (total rs:Int)≤l
 ·have hv:Zn l (total rs) =l- total rs:=by unfold Zn;rw [if_pos hle]
  go_enter Tryz.func19,Tryz.ntmps19
  go_wp2_with (go_at_call 68;refine(G6 _ _ _ rs _ _ (h.over ov9) hl hl' hn).mono ?_;rintro e wx ⟨rfl,hb⟩; (first | (replace hO:=Over.trans hO hb) | (replace hO:=Over.trans (Over.alloc_ hO _) hb) | (replace hO:=Over.trans (Over.alloc_ (Over.alloc_ hO _) _) hb) | (have hO:=hb)); (try clear hc hf);obtain ⟨hc,hf⟩ :=Jt hO; (try clear hb); (try clear hz0);have hz0:w.heap.size<wx.heap.size:=jgA (by simp<;>omega) (Over.size hO))
  go_ret
  exact⟨by rw [hv];rfl,ov9⟩
 ·have hv:Zn l (total rs) = -1:=by unfold Zn;rw [if_neg hle]
  go_enter Tryz.func19,Tryz.ntmps19
  go_wp2_with (go_at_call 68;refine(G6 _ _ _ rs _ _ (h.over ov9) hl hl' hn).mono ?_;rintro e wx ⟨rfl,hb⟩; (first | (replace hO:=Over.trans hO hb) | (replace hO:=Over.trans (Over.alloc_ hO _) hb) | (replace hO:=Over.trans (Over.alloc_ (Over.alloc_ hO _) _) hb) | (have hO:=hb)); (try clear hc hf);obtain ⟨hc,hf⟩ :=Jt hO; (try clear hb); (try clear hz0);have hz0:w.heap.size<wx.heap.size:=jgA (by simp<;>omega) (Over.size hO))
  go_ret
  exact⟨by rw [hv];rfl,ov9⟩
end Go.Proofs.YtbahojdbmmjkcaaGreat
namespace Go.Proofs.YtbahojdbmmjkcaaGreat
open Go Go.ChangeShapes Go.WideShapes Go.ChangeAt Go.RowKit Go.Joins Go.Deep
section
variable {H:Type} {enc:TypeId×Value→H} {w:World} {base:Nat} {spare:Nat→Bool} {held:Bool}
set_option maxRecDepth 100000 in
theorem Tq {fuel:Nat} {cs:List Value} {x:DataW H×List MemPlace} (h:DataW.trod enc Tryz.prog w base spare held fuel 40 cs=some x) :
  ∃(A:Option Addr) (n c:Nat) (rs:List jK),cs= [.slice A n c]∧Rings w A n rs∧(n:Int)≤9223372036854775807:=by
 rcases open_slice Tryz.underlying40 h with⟨rfl,_⟩ |⟨a,len,cap,m,n,D,Pl,rfl,_,hl,hm,hmm,_,hi⟩
 ·exact⟨none,0,0,[],rfl,⟨rfl,fun h=>absurd h Om⟩,by omega⟩
 have hC:Tryz.prog.cellsOf 179=1:=by kernel_rfl
 have hC2:Tryz.prog.cellsOf 53=1:=by kernel_rfl
 rw [hC] at hi
 have key:∀i,i<len→∃p: (Option Addr×Nat)×jK,w.cell? (a.add (i*1)) =some (.slice p.1.1 p.2.length p.1.2)∧Pts w p.1.1 p.2.length p.2∧(p.2.length:Int)≤9223372036854775807:=by
  intro i hlt
  have hlm:len≤m:=by rw [hmm];split<;>omega
  obtain ⟨cs',hc,ht⟩ :=hi i Om
  obtain ⟨_,hcl,hat⟩ :=World.cells?_some hc
  obtain ⟨xs,n',_,_,_,hlen,hg⟩ :=DataW.trod_struct Tryz.underlying179 ht
  have h0:DataW.trod enc Tryz.prog w base spare held n' 53 ((cs'.drop 0).take (Tryz.prog.cellsOf 53)) =xs[0]? :=hg 0 _ rfl
  match cs',hcl with
  | [c0],_=>
   match xs,hlen with
   | [y0],_=>
    obtain ⟨A,n,c,xs,e,hp,hm⟩ :=jbl (cs:= [c0]) (x:=y0) (by rw [hC2] at h0;simpa using h0)
    injection e with e
    subst e
    have hn:=hp.1
    subst hn
    refine⟨((A,c),xs),?_,hp,hm⟩
    have:=hat 0 Om
    rw [add_add] at this
    simpa using this
 obtain ⟨f,hf⟩ :=choose_lt key
 refine⟨some a,len,cap,(List.range len).map (fun i=> (f i).2),J,⟨by simp,fun hn=> ?_⟩,by unfold maxLen at hm;omega⟩
 obtain ⟨b,o,sp⟩ :=a
 have hsp:sp=none:=by
  have:=World.cell?_spot (hf 0 hn).1
  simpa [Addr.add] using this
 subst hsp
 have hadd:∀j,(⟨b,o,none⟩ :Addr).add j=⟨b,o+j,none⟩ :=fun j=>by unfold Addr.add;split<;>simp_all
 have hlt:=World.block_lt_of_cell? w _ (hf 0 hn).1
 rw [hadd] at hlt
 refine⟨b,o,J,hlt,fun k hk=> ?_⟩
 have hk2:=hf k hk
 rw [hadd,jhn] at hk2
 have hx:rg ((List.range len).map (fun i=> (f i).2)) k= (f k).2:=by
  simp [rg,List.getD,hk]
 rw [hx]
 exact⟨_,_,hk2⟩
set_option maxRecDepth 100000 in
theorem RO {r:Reach} {b0:Nat} {v:Value} {d:DataW H} {p:List MemPlace} (hv:Value.okWide Tryz.prog w r b0 42 v) (h:DataW.Trod enc Tryz.prog w base spare held 42 v d p) :
  ∃(A:Option Addr) (n c:Nat) (rs:List jK),v= .agg #[.slice A n c]∧Rings w A n rs∧(n:Int)≤9223372036854775807:=by
 have hC:Tryz.prog.cellsOf 42=1:=by kernel_rfl
 have hC2:Tryz.prog.cellsOf 40=1:=by kernel_rfl
 obtain ⟨cs,rfl,hsz⟩ :=okWide_struct Tryz.underlying42 hv
 obtain ⟨l⟩ :=cs
 obtain ⟨fuel,hf⟩ :=h
 obtain ⟨xs,n,_,_,_,hlen,hg⟩ :=DataW.trod_struct Tryz.underlying42 hf
 have h0:DataW.trod enc Tryz.prog w base spare held n 40 (((Value.agg ⟨l⟩).cells.toList.drop 0).take (Tryz.prog.cellsOf 40)) =xs[0]? :=hg 0 _ rfl
 rw [hC2] at h0
 match l,hsz.trans hC with
 | [c0],_=>
  match xs,hlen with
  | [y0],_=>
   obtain ⟨A,n,c,xs,e,hp,hm⟩ :=Tq (cs:= [c0]) (x:=y0) (by simpa [Value.cells] using h0)
   injection e with e
   subst e
   exact⟨A,n,c,xs,rfl,hp,hm⟩
end
end Go.Proofs.YtbahojdbmmjkcaaGreat
