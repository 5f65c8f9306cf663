import Derived.Test.YtpncbbcmoiiipaaMMeet
import Derived.Test.YtpncbbcmoiiipaaMLawKit
import Derived.Test.YtpncbbcmoiiipaaMReg3
import Derived.Still
set_option linter.unusedVariables false
set_option linter.unusedSimpArgs false
namespace Go.Proofs.Ytpncbbcmoiiipaa
open Go Go.RowKit
set_option maxRecDepth 100000
set_option maxHeartbeats 4000000
def lA (l:Leg) :Pn:= (l.ax,l.ay)
def lB (l:Leg) :Pn:= (l.bx,l.b_y)
theorem Kb {l:Leg} (h:kq l) :bd2 (lA l) :=⟨h.1,h.2.1⟩
theorem Ko {l:Leg} (h:kq l) :bd2 (lB l) :=⟨h.2.2.1,h.2.2.2⟩
abbrev Ba (l:Leg) :Value:= .agg #[.int .i64 l.ax, .int .i64 l.ay, .int .i64 l.bx, .int .i64 l.b_y]
def vj (e f:Leg) :Bool:=decide ((lA e=lA f∧lB e=lB f)∨(lA e=lB f∧lB e=lA f))
def KT (e f:Leg) :Bool:=Yg (lA e) (lB e) (lA f) (lB f)
theorem Br {e f:Leg} (h: (e.ax==f.ax&&e.ay==f.ay&&e.bx==f.bx&&e.b_y==f.b_y) =true) :true=vj e f:=by
 simp only [DL,beq_iff_eq] at h
 rw [FJ];simp only [vj,lA,lB,Prod.mk.injEq,decide_eq_true_eq,true_iff];omega
theorem Bt {e f:Leg} (h: (e.ax==f.ax&&e.ay==f.ay&&e.bx==f.bx&&e.b_y==f.b_y) =false) (h2: (e.ax==f.bx&&e.ay==f.b_y) =true) : (e.bx==f.ax&&e.b_y==f.ay) =vj e f:=by
 simp only [DL,beq_iff_eq] at h2
 simp only [F6,beq_eq_false_iff_ne,ne_eq] at h
 rw [FJ];simp only [vj,lA,lB,Prod.mk.injEq,decide_eq_true_eq,DL,beq_iff_eq];omega
theorem Bu {e f:Leg} (h: (e.ax==f.ax&&e.ay==f.ay&&e.bx==f.bx&&e.b_y==f.b_y) =false) (h2: (e.ax==f.bx&&e.ay==f.b_y) =false) :false=vj e f:=by
 simp only [F6,beq_eq_false_iff_ne,ne_eq] at h h2
 rw [FJ];simp only [vj,lA,lB,Prod.mk.injEq,decide_eq_true_eq,F5,false_iff];omega
theorem pq {p:Pn} {x y:Int} : (p.1==x&&p.2==y) =decide (p= (x,y)) :=by
 rw [FJ];simp [Prod.ext_iff]
theorem xF {e f:Leg} (h:vj e f=true) :KT e f=true:=by
 simp only [vj,decide_eq_true_eq] at h
 rw [KT,Yg,if_pos h]
theorem Zo {e f:Leg} (h:vj e f=false) (k: (qE (lA e) (lB e) (lA f) (lB f)).1=1) :KT e f= ((decide ((qE (lA e) (lB e) (lA f) (lB f)).2=lA e) || decide ((qE (lA e) (lB e) (lA f) (lB f)).2=lB e)) && (decide ((qE (lA e) (lB e) (lA f) (lB f)).2=lA f) || decide ((qE (lA e) (lB e) (lA f) (lB f)).2=lB f))) :=by
 simp only [vj,decide_eq_false_iff_not] at h
 rw [KT,Yg,if_neg h,if_pos k]
theorem Y4 {e f:Leg} (h:vj e f=false) (k: (qE (lA e) (lB e) (lA f) (lB f)).1=1) :KT e f= ((((qE (lA e) (lB e) (lA f) (lB f)).2.1==e.ax&& (qE (lA e) (lB e) (lA f) (lB f)).2.2==e.ay) || ((qE (lA e) (lB e) (lA f) (lB f)).2.1==e.bx&& (qE (lA e) (lB e) (lA f) (lB f)).2.2==e.b_y)) && (((qE (lA e) (lB e) (lA f) (lB f)).2.1==f.ax&& (qE (lA e) (lB e) (lA f) (lB f)).2.2==f.ay) || ((qE (lA e) (lB e) (lA f) (lB f)).2.1==f.bx&& (qE (lA e) (lB e) (lA f) (lB f)).2.2==f.b_y))) :=by
 rw [Zo h k]
 simp only [pq]
 rfl
theorem xE {e f:Leg} (h:vj e f=false) (k:¬(qE (lA e) (lB e) (lA f) (lB f)).1=1) :KT e f= ((qE (lA e) (lB e) (lA f) (lB f)).1==0) :=by
 simp only [vj,decide_eq_false_iff_not] at h
 rw [KT,Yg,if_neg h,if_neg k]
 rfl
theorem u5 (e f:Leg) (w:World) (he:kq e) (hf:kq f) :Calls Try.prog 20 #[Ba e,Ba f] w fun e' w'=>e'= .returned (.bool (KT e f))∧Over w w':=by
 refine Jh (m:=62) (Try.func20) J J (lb J) ?_;refine S3 ?_;refine aX (fun b1=> ?_);refine N1 ?_;refine aX (fun b2=> ?_);refine N3 ?_;refine ky [(23, .bool (vj e f))] (kK [2,3,4]) (fun L h_1=> ?_) ?_
 ·refine S5 ?_;refine cV 10 (fun g1=> ?_) (fun g1=> ?_)
  ·refine Dk ?_
   exact JB h_1 ⟨vb (Br g1),sz⟩ (u9 J)
  ·refine Di ?_;refine cV 16 (fun g2=> ?_) (fun g2=> ?_)
   ·refine Dk ?_
    exact JB h_1 ⟨vb (Bt g1 g2),sz⟩ (u9 J)
   ·refine S9 ?_
    exact JB h_1 ⟨vb (Bu g1 g2),sz⟩ (u9 J)
 ·refine v9 ?_;refine cZ (fun c1=> ?_) (fun c1=> ?_)
  ·refine S6 ?_;refine jG J (.tmp J) ?_
   intro w' hs
   exact⟨Qy (xF c1).symm,hs.fin⟩
  ·refine Di ?_;refine a9 (jN Vq J J (fun w h=>uC (lA e) (lB e) (lA f) (lB f) w (Kb he) (Ko he) (Kb hf) (Ko hf))) ?_;refine S4 ?_;refine aL (fun b3=> ?_);refine B8 ?_;refine cZ (fun c2=> ?_) (fun c2=> ?_)
   ·have eT:=Y4 c1 c2
    refine S7 ?_;refine cV 42 (fun g3=> ?_) (fun g3=> ?_)
    ·refine Dm ?_;refine cV 53 (fun g4=> ?_) (fun g4=> ?_)
     ·refine Dh ?_;refine jG J (.tmp J) ?_
      intro w' hs
      exact⟨Qy (by first | exact eL.symm | rw [eT];simp only [*,Bool.true_or,F0,FB,FH]),hs.fin⟩
     ·refine Dl ?_;refine jG J (.tmp J) ?_
      intro w' hs
      exact⟨Qy (by first | exact eL.symm | rw [eT];simp only [*,Bool.true_or,F0,FB,FH]),hs.fin⟩
    ·refine Dg ?_;refine cV 48 (fun g5=> ?_) (fun g5=> ?_)
     ·refine Dg ?_;refine cV 53 (fun g6=> ?_) (fun g6=> ?_)
      ·refine Dh ?_;refine jG J (.tmp J) ?_
       intro w' hs
       exact⟨Qy (by first | exact eL.symm | rw [eT];simp only [*,Bool.true_or,F0,FB,FH]),hs.fin⟩
      ·refine Dl ?_;refine jG J (.tmp J) ?_
       intro w' hs
       exact⟨Qy (by first | exact eL.symm | rw [eT];simp only [*,Bool.true_or,F0,FB,FH]),hs.fin⟩
     ·refine Dl ?_;refine jG J (.tmp J) ?_
      intro w' hs
      exact⟨Qy (by first | exact eL.symm | rw [eT];simp only [*,Bool.true_or,F0,FB,FH]),hs.fin⟩
   ·have eL:=xE c1 c2
    refine S9 ?_;refine jG J (.tmp J) ?_
    intro w' hs
    exact⟨Qy (by first | exact eL.symm | rw [eT];simp only [*,Bool.true_or,F0,FB,FH]),hs.fin⟩
theorem uB {P:Nat→Prop} {k:Nat} (h:∀q,q<k→P q) (hk:P k) :∀q,q<k+1→P q:=fun q hq=>by
 rcases FI q k with h1 | h1
 ·exact h q h1
 ·obtain rfl:q=k:=by omega
  exact hk
theorem Uq (b o h cap s:Nat) :sliced (some ⟨b,o,none⟩) 0 h cap s= .slice (some ⟨b,o,none⟩) h cap:=by
 unfold sliced
 simp [Q5]
theorem WL {w:World} {w0:Bs} {Rs:List Res} {k B T s n:Nat} {x:Option Addr×Nat} {xs:List Value} (hk:Rs[k]? =some (qx B T s n xs x)) (hs:St w0 Rs w) (hn:0<n) :∃g,x.1=some ⟨g,0,none⟩ :=by
 have h:w.ownsRow B T s (.slice x.1 n x.2) n xs:= (hs.all k _ hk).1
 rcases h.2 with⟨_,e⟩ |⟨g,cap,cur,e,_⟩
 ·omega
 ·injection e with e1
  exact⟨g,e1⟩
def wg (ls:List Leg) :Bool:= (List.range ls.length).all fun i=> (List.range i).all fun k=>KT (lg ls i) (lg ls k)
theorem xN {ls:List Leg} {i k:Nat} (hi:i<ls.length) (hk:k<i) (h:KT (lg ls i) (lg ls k) =false) :false=wg ls:=by
 symm
 rw [wg,List.all_eq_false]
 refine⟨i,FV.2 hi,?_⟩
 rw [Bool.not_eq_true,List.all_eq_false]
 exact⟨k,FV.2 hk,by simp [h]⟩
theorem uE {ls:List Leg} (h:∀i,i<ls.length→∀k,k<i→KT (lg ls i) (lg ls k) =true) :true=wg ls:=by
 symm
 rw [wg,FG]
 intro i hi
 rw [FG]
 intro k hk
 exact h i (FV.1 hi) k (FV.1 hk)
theorem vX (xs:List (Int×Int)) :∀k,∀l∈JK xs k,lA l≠lB l
 | 0,l,hl=>by simp [JK] at hl
 | k+1,l,hl=>by
  rw [q5] at hl
  split at hl
  ·exact vX xs k l hl
  ·rename_i h
   rcases DV.1 hl with h1 | h1
   ·exact vX xs k l h1
   ·rw [DP.1 h1]
    intro e
    simp only [lA,lB,Prod.mk.injEq] at e
    exact h e
theorem zC (rs:List jx) :∀k,∀l∈JJ rs k,lA l≠lB l
 | 0,l,hl=>by simp [JJ] at hl
 | k+1,l,hl=>by
  simp only [JJ,DV] at hl
  rcases hl with h | h
  ·exact zC rs k l h
  ·exact vX _ _ l h
def YS (rs:List jx) :Bool:=Je rs&&wg (jv rs)
theorem yy (A:Option Addr) (n c:Nat) (rs:List jx) (w:World) (h:Rings w A n rs) (ht: (Qq rs:Int)≤1048577) :
  Calls Try.prog 8 #[kP A n c] w fun e w'=>e= .returned (.bool (YS rs))∧Over w w':=by
 have hl:=h.1
 refine Jh (m:=34) (Try.func8) J J (lb J) ?_;refine S3 ?_;refine aX (fun b1=> ?_);refine N6 ?_;refine a9 (jN Qz J J (fun w1 hs=>Kt A n c rs w1 (h.over hs.fin) ht)) ?_;refine S2 ?_;refine cZ (fun c1=> ?_) (fun c1=> ?_)
 ·refine S6 ?_;refine jG J (.tmp J) ?_
  intro w' hs
  exact⟨by simp [YS,c1],hs.fin⟩
 ·have hr:Je rs=true:=by simpa using c1
  have hok:=U5 hr
  have hal:=ZU hr
  have eB:YS rs=wg (jv rs) :=by rw [YS,hr];rfl
  refine S6 ?_;refine QQ Kx (v:=fun x=> .slice x.1 _ x.2) (r:=fun x=>qx 0 54 4 _ _ x) (H:=fun _=>True) J J J (lb J) (fun w1 hs=>KH (VF A n c rs w1 (h.over hs.fin) ht)) ?_
  rintro⟨eA,ec⟩ -
  refine N4 ?_
  obtain ⟨ls,hls⟩ :∃ls,jv rs=ls:=⟨_,rfl⟩
  rw [hls] at hok hal eB
  rw [hls]
  refine S6 ?_;refine JR (X:=Nat) (fun i=>i≤ls.length∧∀q,q<i→∀k,k<q→KT (lg ls q) (lg ls k) =true) (fun i=>ls.length- i) (fun i=> [(15, .int .i64 (i:Int))]) (kK [2,3,13,14]) (fun i=> [.cel b1 25 [.slice A n c],qx 0 54 4 ls.length (ls.flatMap JH) (eA,ec)]) 0 (⟨DQ _,fun q hq=>absurd hq Om⟩) ⟨J,sz⟩ (fun _ h=>h) ?_
  intro i hi L hL1
  refine v9 ?_;refine r9 ?_;refine S5 ?_;refine cZ (fun c2=> ?_) (fun c2=> ?_)
  ·have hlt:i<ls.length:=Om
   refine Kh (fun w hs=>WL (k:=1) J hs Om) ?_
   rintro⟨eg,rfl⟩
   refine Kh (fun w hs=>U6 (hs.all 1 _ J).1) ?_
   intro hcap
   refine S8 ?_;refine a9 (jj J J Qa J (U4 (fun w' hs=>Vh (k:=1) J J w' hs) hlt)) ?_;refine S1 ?_;refine aL (fun b2=> ?_);refine N8 ?_;refine a9 ((wd J J J JG Om).as (Uq _ _ _ _ _)) ?_;refine S4 ?_;refine JR (X:=Nat) (fun k=>k≤i∧∀q,q<k→KT (lg ls i) (lg ls q) =true) (fun k=>i- k) (fun k=> [(24, .int .i64 (k:Int))]) (kK [2,3,13,14,15,16,17,18,19,5,4,20,21,22,23]) (fun k=> [.cel b1 25 [.slice A n c],qx 0 54 4 ls.length (ls.flatMap JH) (some ⟨eg,0,none⟩,ec), .cel b2 54 (JH (lg ls i))]) 0 (⟨DQ _,fun q hq=>absurd hq Om⟩) ⟨J,sz⟩ (fun _ h=>h) ?_
   intro k hk L hL2
   refine v9 ?_;refine r9 ?_;refine S5 ?_;refine cZ (fun c3=> ?_) (fun c3=> ?_)
   ·have hkt:k<i:=Om
    refine S7 ?_;refine a9 (jj J J Qa J (U4 (fun w' hs=>Vh (k:=1) J J w' hs) (show k<ls.length by omega))) ?_;refine S1 ?_;refine aL (fun b3=> ?_);refine N7 ?_;refine a9 (jN wt J J (fun w h=>u5 (lg ls i) (lg ls k) w (Qw hok Om) (Qw hok Om))) ?_;refine S2 ?_;refine cZ (fun c4=> ?_) (fun c4=> ?_)
    ·refine Dk ?_;refine jG J (.tmp J) ?_
     intro w' hs
     exact⟨Qy (by rw [eB];exact xN hlt hkt (by simpa using c4)),hs.fin⟩
    ·refine S7 ?_
     exact Jo hL2 (k+1) (⟨by omega,uB hk.2 (by simpa using c4)⟩) Om ⟨vi Om,sz⟩ (u9 J)
   ·refine Dg ?_
    exact Jo hL1 (i+1) (⟨by omega,uB (P:=fun q=>∀k,k<q→KT (lg ls q) (lg ls k) =true) hi.2 (fun p hp=>hk.2 p Om)⟩) Om ⟨vi Om,sz⟩ (u9 J)
  ·refine Dg ?_;refine jG J (.tmp J) ?_
   intro w' hs
   exact⟨Qy (by rw [eB];exact uE fun q hq=>hi.2 q Om),hs.fin⟩
section
variable {P:Program} {n:Nat} {w0:Bs} {Rs:List Res} {ops:Array Oper} {Q:Exit→Act→World→Prop} {K:Act→World→Prop}
def Wants (ops:Array Oper) (env:List (Nat×Value)) (o:Oper) :Prop:=o.guard=none∨∃j c oj dj,o.guard=some (j,c)∧ops[j]? =some oj∧oj.dst=some dj∧kt env dj=some (.bool c)
def Leaves (ops:Array Oper) (env:List (Nat×Value)) (o:Oper) :Prop:=∃j c oj dj,o.guard=some (j,c)∧ops[j]? =some oj∧oj.dst=some dj∧(kt env dj=some undef∨∃b,kt env dj=some (.bool b)∧b≠c)
theorem Wants.wanted {env:List (Nat×Value)} {o:Oper} {a:Act} (h:Wants ops env o) (hf:Frm n env a) :Region.wanted o (yielded ops a.tmps) =true:=by
 rcases h with h |⟨j,c,oj,dj,hg,hj,hdj,hb⟩
 ·simp [Region.wanted,h]
 ·simp [Region.wanted,hg,zv hf hj hdj hb]
theorem Leaves.wanted {env:List (Nat×Value)} {o:Oper} {a:Act} (h:Leaves ops env o) (hf:Frm n env a) :Region.wanted o (yielded ops a.tmps) =false:=by
 obtain ⟨j,c,oj,dj,hg,hj,hdj,hb |⟨b,hb,hne⟩⟩ :=h
 ·simp [Region.wanted,hg,yt hf hj hdj hb]
 ·simp [Region.wanted,hg,zv hf hj hdj hb,hne]
theorem Frm.congr {env env':List (Nat×Value)} {a:Act} (h:Frm n env a) (he:∀t,kt env' t=kt env t) :Frm n env' a:=⟨h.size,fun t v hv=>h.get t v (by rw [←he];exact hv),h.defers⟩
end
theorem Gy (a b c:Pn) (w:World) (ha:bd2 a) (hb:bd2 b) (hc:bd2 c) :Calls Try.prog 43 #[pV a,pV b,pV c] w fun e w'=>e= .returned (.int .i64 (tn a b c))∧Over w w':=by
 obtain ⟨a1,a2⟩ :=kR ha;obtain ⟨b1,b2⟩ :=kR hb;obtain ⟨c1,c2⟩ :=kR hc
 exact vc a.1 a.2 b.1 b.2 c.1 c.2 w a1.1 a1.2 a2.1 a2.2 b1.1 b1.2 b2.1 b2.2 c1.1 c1.2 c2.1 c2.2
section
variable {w0:Bs} {Rs:List Res}
end
theorem yD {es:List Pn} {k:Nat} (hk:k<es.length) (p:Pn) : (es.take (k+1)).contains p= ((es.take k).contains p || (px es k==p.1&&py es k==p.2)) :=by
 rw [DY hk]
 rw [FJ]
 simp only [List.contains_eq_mem,DV,DP,decide_eq_true_eq,Fu,DL,beq_iff_eq]
 rw [Vz hk]
 obtain ⟨x,y⟩ :=p
 simp only [Prod.mk.injEq]
 constructor
 ·rintro(h | h)
  ·exact .inl h
  ·exact .inr ⟨h.1.symm,h.2.symm⟩
 ·rintro(h | h)
  ·exact .inl h
  ·exact .inr ⟨h.1.symm,h.2.symm⟩
section
variable {w:World} {Rs:List Res}
end
def B6 (e f:Leg) :Bool:=Yh (lA e) (lB e) (lA f) (lB f)
theorem GO {e f:Leg} (he:kq e) (hf:kq f) (ne:lA e≠lB e) (nf:lA f≠lB f) :B6 e f=KT e f:= (GJ (Kb he) (Ko he) (Kb hf) (Ko hf) ne nf).symm
end Go.Proofs.Ytpncbbcmoiiipaa
