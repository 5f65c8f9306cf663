import Derived.Test.YtpncbbcmoiiipaaML2
import Derived.Test.YtpncbbcmoiiipaaMDat
set_option linter.unusedVariables false
set_option linter.unusedSimpArgs false
namespace Go.Proofs.Ytpncbbcmoiiipaa
open Go Go.RowKit
def nx (xs:List (Int×Int)) (k:Nat) :Nat:= (k+1) % xs.length
theorem Yd {xs:List (Int×Int)} (k:Nat) (h:0<xs.length) :nx xs k<xs.length:=Nat.mod_lt _ h
theorem MY {xs:List (Int×Int)} (h:vu xs=true) {k:Nat} (hk:k<xs.length) : -262144≤px xs k∧px xs k≤262144∧-262144≤py xs k∧py xs k≤262144:=by
 have:=FG.1 h xs[k] (DR hk)
 rw [Vz hk] at this
 simp [KD,wB] at this
 omega
theorem xA {xs:List (Int×Int)} {n:Nat} (hl:xs.length=n) (k:Nat) : ((k:Int) +1) % (n:Int) = ((nx xs k:Nat) :Int) :=by
 unfold nx
 rw [hl]
 simp
structure Leg where
 ax:Int
 ay:Int
 bx:Int
 b_y:Int
 deriving DecidableEq
def JH (l:Leg) :List Value:= [.int .i64 l.ax, .int .i64 l.ay, .int .i64 l.bx, .int .i64 l.b_y]
def lg (ls:List Leg) (k:Nat) :Leg:=ls.getD k ⟨0,0,0,0⟩
theorem ZY {ls:List Leg} {k:Nat} (h:k<ls.length) :ls[k] =lg ls k:=by simp [lg,List.getD,List.getElem?_eq_getElem h]
def Legs (w:World) (A:Option Addr) (n:Nat) (ls:List Leg) :Prop:=
 ls.length=n∧(0<n→∃b o,A=some ⟨b,o,none⟩∧b<w.heap.size∧∀k,k<n→w.cell? ⟨b,o+k*4,none⟩ =some (.int .i64 (lg ls k).ax)∧w.cell? ⟨b,o+k*4+1,none⟩ =some (.int .i64 (lg ls k).ay)∧
  w.cell? ⟨b,o+k*4+2,none⟩ =some (.int .i64 (lg ls k).bx)∧w.cell? ⟨b,o+k*4+3,none⟩ =some (.int .i64 (lg ls k).b_y))
theorem Legs.over {w w':World} {A:Option Addr} {n:Nat} {ls:List Leg} (h:Legs w A n ls) (hb:Over w w') :Legs w' A n ls:=by
 refine⟨h.1,fun hn=> ?_⟩
 obtain ⟨b,o,hA,hlt,hc⟩ :=h.2 hn
 exact⟨b,o,hA,DS hlt hb.size,fun k hk=>⟨((jD hb).1 b _ hlt).trans (hc k hk).1,((jD hb).1 b _ hlt).trans (hc k hk).2.1,((jD hb).1 b _ hlt).trans (hc k hk).2.2.1,((jD hb).1 b _ hlt).trans (hc k hk).2.2.2⟩⟩
theorem Legs.at_ {w:World} {A:Option Addr} {n k:Nat} {ls:List Leg} (h:Legs w A n ls) (hk:k<n) :
  ∃b o,A=some ⟨b,o,none⟩∧b<w.heap.size∧w.cell? ⟨b,o+k*4,none⟩ =some (.int .i64 (lg ls k).ax)∧w.cell? ⟨b,o+k*4+1,none⟩ =some (.int .i64 (lg ls k).ay)∧
  w.cell? ⟨b,o+k*4+2,none⟩ =some (.int .i64 (lg ls k).bx)∧w.cell? ⟨b,o+k*4+3,none⟩ =some (.int .i64 (lg ls k).b_y) :=by
 obtain ⟨b,o,hA,hb,hc⟩ :=h.2 Om
 exact⟨b,o,hA,hb,hc k hk⟩
theorem Xt {α:Type} (f:α→List Value) (m:Nat) (hf:∀a,(f a).length=m) :∀(ls:List α) (k j:Nat) (hk:k<ls.length),j<m→(ls.flatMap f)[k*m+j]? = (f ls[k])[j]?
 | [],_,_,h,_=>absurd h (by simp)
 | a::r,0,j,_,hj=>by
  rw [D9,Nat.zero_mul,Fo,List.getElem?_append_left (by rw [hf];exact hj)]
  rfl
 | a::r,k+1,j,h,hj=>by
  rw [D9,List.getElem?_append_right (by rw [hf,Nat.add_mul];omega),hf]
  have:=Xt f m hf r k j (by simpa using h) hj
  rw [show(k+1) *m+j- m=k*m+j by rw [Nat.add_mul];omega,this]
  rfl
theorem uA {w:World} {B T n:Nat} {v:Value} {ls:List Leg} (h:w.ownsRow B T 4 v n (ls.flatMap JH)) (hn:ls.length=n) :∃A c,v= .slice A n c∧Legs w A n ls∧n≤c:=by
 have hcs:∀g,v.ownBlock=some g→_:=fun g hg=>h.cells hg
 rcases h.2 with⟨rfl,rfl⟩ |⟨g,cap,cur,rfl,hb,hg,hcap,_⟩
 ·exact⟨none,0,rfl,⟨hn,fun h=>absurd h Om⟩,by omega⟩
 ·refine⟨_,_,J,⟨hn,fun _=>⟨g,0,J,(h.lt g J).2,fun k hk=> ?_⟩⟩,hcap⟩
  have hc:=hcs g rfl
  have hk':k<ls.length:=by omega
  have hat:=fun j hj=>Xt JH 4 (fun _=>rfl) ls k j hk' hj
  have hadd:∀j,(⟨g,0,none⟩ :Addr).add j=⟨g,j,none⟩ :=fun j=>by unfold Addr.add;split<;>simp_all
  rw [ZY hk'] at hat
  rw [Fo]
  have c0:=hc (k*4+0) _ (hat 0 Om)
  have c1:=hc (k*4+1) _ (hat 1 Om)
  have c2:=hc (k*4+2) _ (hat 2 Om)
  have c3:=hc (k*4+3) _ (hat 3 Om)
  rw [hadd] at c0 c1 c2 c3
  exact⟨c0,c1,c2,c3⟩
def MT (xs:List (Int×Int)) (k:Nat) :Leg:=⟨px xs k,py xs k,px xs (nx xs k),py xs (nx xs k)⟩
def Lw (xs:List (Int×Int)) (k:Nat) :Bool:=px xs k==px xs (nx xs k) &&py xs k==py xs (nx xs k)
def JK (xs:List (Int×Int)) :Nat→List Leg
 | 0=> []
 | k+1=>if Lw xs k=true then JK xs k else JK xs k++ [MT xs k]
theorem q5 (xs:List (Int×Int)) (k:Nat) :JK xs (k+1) =if px xs k=px xs (nx xs k)∧py xs k=py xs (nx xs k) then JK xs k else JK xs k++ [⟨px xs k,py xs k,px xs (nx xs k),py xs (nx xs k)⟩] :=by
 simp [JK,Lw,MT]
def Jf (xs:List (Int×Int)) :List Leg:=JK xs xs.length
theorem QI (xs:List (Int×Int)) :∀k,(JK xs k).length≤k
 | 0=>by simp [JK]
 | k+1=>by
  have:=QI xs k
  simp only [JK]
  split
  ·omega
  ·simp;omega
def kq (l:Leg) :Prop:= (-262144≤l.ax∧l.ax≤262144)∧(-262144≤l.ay∧l.ay≤262144)∧(-262144≤l.bx∧l.bx≤262144)∧(-262144≤l.b_y∧l.b_y≤262144)
theorem wM {xs:List (Int×Int)} (h:vu xs=true) :∀k,k≤xs.length→∀l∈JK xs k,kq l
 | 0,_,l,hl=>by simp [JK] at hl
 | k+1,hk,l,hl=>by
  have ih:=wM h k Om
  simp only [JK] at hl
  split at hl
  ·exact ih l hl
  ·rcases DV.1 hl with h1 | h1
   ·exact ih l h1
   ·simp at h1
    subst h1
    obtain ⟨a1,a2,a3,a4⟩ :=MY h (show k<xs.length by omega)
    obtain ⟨b1,b2,b3,b4⟩ :=MY h (Yd k (show 0<xs.length by omega))
    exact⟨⟨a1,a2⟩,⟨a3,a4⟩,⟨b1,b2⟩,b3,b4⟩
theorem vM {w w':World} {B T s n:Nat} {v:Value} {xs:List Value} (h:w.ownsRow B T s v n xs) (ho:Over w w') :w'.ownsRow B T s v n xs:=by
 refine⟨h.1,?_⟩
 rcases h.2 with hn |⟨g,cap,cur,rfl,hb,hgg,rest⟩
 ·exact .inl hn
 ·refine .inr ⟨g,cap,cur,J,hb,?_,rest⟩
  rw [ho.out.block g (Array.getElem?_eq_some_iff.1 hgg).1]
  exact hgg
theorem XQ {w:World} {B B' T s n:Nat} {v:Value} {xs:List Value} (h:w.ownsRow B T s v n xs) (hB:B'≤B) :w.ownsRow B' T s v n xs:=by
 refine⟨h.1,?_⟩
 rcases h.2 with hn |⟨g,cap,cur,rfl,hb,rest⟩
 ·exact .inl hn
 ·exact .inr ⟨g,cap,cur,rfl,by omega,rest⟩
theorem Vc {w0 wr w4 w1:World} {B T s n:Nat} {v:Value} {xs:List Value} (h0:Over w0 wr) (hown:wr.ownsRow B T s v n xs) (hB:w0.heap.size≤B) (ho:Over wr w4) (hg:w4.grownBy w1 v.ownBlock) :Over w0 w1:=
 Below.grown (h0.trans ho).out hg (h0.trans ho).size (fun k hk=>FE hB ((hown.lt k hk).1))
theorem Ye {w w1:World} {T:Nat} {news:List Value} (hw1:w1=w.alloc (.cells news.toArray T)) :∀j u,news[j]? =some u→w1.cell? ((⟨w.heap.size,0,none⟩ :Addr).add j) =some u:=by
 intro j u hj
 have hadd: (⟨w.heap.size,0,none⟩ :Addr).add j=⟨w.heap.size,j,none⟩ :=by unfold Addr.add;split<;>simp_all
 rw [hadd,hw1,VC]
 simpa using hj
theorem Xy: (Try.prog.info? 54).map (fun i=> (i.zero,i.size,i.bytes)) =some (some (.agg #[.int .i64 0, .int .i64 0, .int .i64 0, .int .i64 0]),4,32) :=by kernel_rfl
set_option maxHeartbeats 2000000 in
set_option maxRecDepth 100000 in
theorem kA (A:Option Addr) (n c:Nat) (xs:List (Int×Int)) (w:World) (h:Pts w A n xs) (hn: (n:Int)≤1048577) :
  Calls Try.prog 31 #[Zx A n c] w fun e w'=>∃v,e= .returned v∧w'.ownsRow w.heap.size 54 4 v (Jf xs).length ((Jf xs).flatMap JH)∧Over w w':=by
 obtain ⟨i0,hi,hz0,hz1,hz2⟩ :=va Xy
 go_enter Try.func31,Try.ntmps31
 go_wp2
 go_loopw [3,10] (fun s i wr=>∃k:Nat,k≤n∧i= .int .i64 k∧wr.ownsRow (w.heap.size+1) 54 4 s (JK xs k).length ((JK xs k).flatMap JH)∧Over (w.alloc (.cells #[.slice A n c] 38)) wr) (fun _ i _=>n- (intOf i).toNat)
 case atStart=>exact⟨0,DQ _,rfl,World.ownsRow_nil _ _ _ _,Over.refl _⟩
 case round=>
  rename_i wr
  have hl0:=h.1
  obtain ⟨k,hk,rfl,hown,hb⟩ :=hrel
  by_cases hlt:k<n
  ·have hl:=h.1
   have hO:Over w wr:= (Over.alloc _ _).trans hb
   obtain ⟨b,o,rfl,hbB,hc1,hc2⟩ := (h.over hO).at_ hlt
   obtain ⟨b',o',e,hbB',hc1',hc2'⟩ := (h.over hO).at_ (k:=nx xs k) (by have:=Yd (xs:=xs) k Om;omega)
   injection e with e
   injection e with e1 e2 _
   subst e1 e2
   have hnx: ((k:Int) +1).tmod (n:Int) = ((nx xs k:Nat) :Int) :=by rw [Int.tmod_eq_emod_of_nonneg Om];exact xA hl k
   have hnl:=Yd k (show 0<xs.length by omega)
   have hbx:wr.cell? ⟨w.heap.size,0,none⟩ =some (.slice (some ⟨b,o,none⟩) n c) :=by
    rw [(jD hb).1 _ _ (by simp)]
    exact VC _ _ _ _
   have hbz:w.heap.size<wr.heap.size:=DS (by simp) (Over.size hb)
   rw [hl] at hnl
   have hn0:¬n=0:=by omega
   have Hown:=Lib.hid hown
   have Hb:=Lib.hid hb
   have hs:=Lib.hid (q5 xs k)
   generalize px xs k=x at hc1 hs
   generalize py xs k=y at hc2 hs
   generalize px xs (nx xs k) =x' at hc1' hs
   generalize py xs (nx xs k) =y' at hc2' hs
   clear h hl hO hown hb
   go_wp2
   refine Qc (B:=ob _) (Over.refl _) Kr (by simp only [Fz,DT,D8,Nat.reduceAdd];rfl) (fun hBW=> ?_);refine i8 0 ?_;refine i8 1 ?_;refine i8 2 ?_;refine i8 3 ?_;refine i8 4 ?_;refine i8 5 ?_;refine i8 6 ?_;refine i8 7 ?_;refine i8 8 ?_;refine i8 9 ?_;refine uL (i:=10) (k:=11) (by assumption) (by simp only [JZ,J0,J9];rfl) (by simp only [JZ,J0,J9];rfl) (by rfl) (by rfl) (by rfl) (by rfl) (by rfl) (by rfl) (fun _=>by(go_simp;rfl)) Kr Kr (fun _=>by rfl) (fun _=>by rfl) Kr (by rfl) (by simp [Value.oneCell']) ?_
   intro w2 q1 ho hq1 hl1 hh1 hBx
   replace hBW:=hBx;clear hBx
   simp only [Act.put,qa,jP,jQ]
   obtain ⟨k1,k2,k3,k4⟩ :=Yz hh1
   refine Qb Kr (fun w3 h3=> ?_) _
   try clear hBW
   have hO:=ho.trans h3
   have l1:= ((jD h3).1 q1 0 hl1).trans k1
   have l2:= ((jD h3).1 q1 1 hl1).trans k2
   have hl3:q1<w3.heap.size:=DS hl1 h3.size
   clear k1 k2 k3 k4 ho h3 hh1
   obtain ⟨hc,hf⟩ :=jD hO
   have HO:=Lib.hid ((Over.alloc _ _).trans hO)
   have hw3:=hO.size
   clear hO
   have key: (x=x'∧y=y')∨(¬x=x')∨(x=x'∧¬y=y') :=by omega
   rcases key with⟨rfl,rfl⟩ | hne |⟨rfl,hne⟩
   ·skip
    replace hs:Hid (JK xs (k+1) =JK xs k) :=by have:=hs.out;rw [if_pos ⟨rfl,rfl⟩] at this;exact this
    go_wp2
    go_roundw
    case rel=>exact⟨k+1,by omega,by go_num,by rw [hs.out];exact vM Hown.out HO.out,Hb.out.trans HO.out⟩
    case measure=>simp [intOf];omega
   all_goals
    replace hs:=Lib.hid (hs.out.trans (if_neg Om))
    have hlen:=QI xs k
    go_wp2_with (at_builtin;refine wpList_append_own _ rfl _ _ 48 rfl (w.heap.size+1) 54 i0 _ 4 32 Try.underlying48 hi hz0 hz1 hz2 rfl Dc _ _ _ rfl ((vM Hown.out HO.out).alloc _) ⟨w3.heap.size,0,none⟩ 1 1 (JH ⟨x,y,_,y'⟩) rfl rfl (Ye rfl) (by simp [JH,Value.oneCell']) (by unfold maxLen;omega) Om (by have:=Hb.out.size;have:=HO.out.size;simp at*;omega) ?_)
    intro v' w5 hown5 hgrow5 _
    have R1:Hid (Over (w.alloc (.cells #[.slice (some ⟨b,o,none⟩) n c] 38)) w5) :=Vc Hb.out Hown.out (by simp) (Over.alloc_ HO.out _) hgrow5
    have R2:Hid (w5.ownsRow (w.heap.size+1) 54 4 v' (JK xs (k+1)).length ((JK xs (k+1)).flatMap JH)) :=by
     unfold Hid
     rw [hs.out]
     simpa using hown5
    clear hown5 hgrow5
    go_wp2
    go_roundw
    case rel=>exact⟨k+1,by omega,by go_num,R2.out,R1.out⟩
    case measure=>simp [intOf];omega
  ·clear h
   have hkn:k=n:=by omega
   have hb':Hid (Over w wr) := (Over.alloc _ _).trans hb
   have hr:Hid (wr.ownsRow w.heap.size 54 4 u3 (Jf xs).length ((Jf xs).flatMap JH)) :=by
    unfold Hid Jf
    rw [hl0,←hkn]
    exact XQ hown Om
   clear hown hb
   go_wp2
   go_ret
   exact⟨_,rfl,hr.out,hb'.out⟩
end Go.Proofs.Ytpncbbcmoiiipaa
