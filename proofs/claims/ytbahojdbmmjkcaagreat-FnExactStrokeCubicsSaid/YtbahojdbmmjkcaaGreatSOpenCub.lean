import Derived.Test.YtbahojdbmmjkcaaGreatSMem
import Derived.Test.YtbahojdbmmjkcaaGreatSCub2
import Derived.Test.YtbahojdbmmjkcaaGreatSCmp
import Derived.Test.YtbahojdbmmjkcaaGreatSTo
set_option linter.unusedVariables false
set_option linter.unusedSimpArgs false
namespace Go.Proofs.YtbahojdbmmjkcaaGreat
open Go Go.ChangeShapes Go.WideShapes Go.ChangeAt Go.RowKit Go.Joins Go.Deep
variable {cs:List Value} {fuel:Nat} {p:List MemPlace}
theorem jho {α:Type} {l:List α} (h:l.length=8) :l= (l.drop 0).take 2++ ((l.drop 2).take 2++ ((l.drop 4).take 2++ (l.drop 6).take 2)) :=by
 match l,h with
 | [_,_,_,_,_,_,_,_],_=>rfl
section
variable {H:Type} {enc:TypeId×Value→H} {w:World} {base:Nat} {spare:Nat→Bool} {held:Bool}
set_option maxRecDepth 100000 in
theorem XI {x:DataW H×List MemPlace} (h:DataW.trod enc Tryz.prog w base spare held fuel 127 cs=some x) :∃p:Int×Int,cs= [.int .i64 p.1, .int .i64 p.2] :=by
 have hC:Tryz.prog.cellsOf 127=2:=by kernel_rfl
 have h1:Tryz.prog.cellsOf 2=1:=by kernel_rfl
 obtain ⟨y0,y1,n',_,hl,t0,t1⟩ :=trod_struct2 Tryz.underlying127 h
 rw [h1] at t0 t1
 rw [hC] at hl
 match cs,hl with
 | [c0,c1],_=>
  obtain ⟨a,e0,_,_⟩ :=DataW.trod_int Tryz.underlying2 t0
  obtain ⟨b,e1,_,_⟩ :=DataW.trod_int Tryz.underlying2 t1
  simp at e0 e1
  subst e0 e1
  exact⟨(a,b),rfl⟩
set_option maxRecDepth 100000 in
theorem jcT {x:DataW H×List MemPlace} (h:DataW.trod enc Tryz.prog w base spare held fuel 130 cs=some x) :∃q:Cub,cs=VP q:=by
 have hF:Tryz.prog.cellsOf 127=2:=by kernel_rfl
 have hA:Tryz.prog.cellsOf 130=8:=by kernel_rfl
 obtain ⟨xs,n,_,_,hl,hlen,hfs⟩ :=DataW.trod_struct Tryz.underlying130 h
 have h4:xs.length=4:=hlen
 rw [hA] at hl
 obtain ⟨q0,e0⟩ :=XI ((hfs 0 _ rfl).trans (List.getElem?_eq_getElem (show 0<xs.length by omega)))
 obtain ⟨q1,e1⟩ :=XI ((hfs 1 _ rfl).trans (List.getElem?_eq_getElem (show 1<xs.length by omega)))
 obtain ⟨q2,e2⟩ :=XI ((hfs 2 _ rfl).trans (List.getElem?_eq_getElem (show 2<xs.length by omega)))
 obtain ⟨q3,e3⟩ :=XI ((hfs 3 _ rfl).trans (List.getElem?_eq_getElem (show 3<xs.length by omega)))
 have hc:=jho hl
 have k0: (cs.drop 0).take (Tryz.prog.cellsOf 127) =_:=e0
 have k1: (cs.drop 2).take (Tryz.prog.cellsOf 127) =_:=e1
 have k2: (cs.drop 4).take (Tryz.prog.cellsOf 127) =_:=e2
 have k3: (cs.drop 6).take (Tryz.prog.cellsOf 127) =_:=e3
 rw [hF] at k0 k1 k2 k3
 rw [k0,k1,k2,k3] at hc
 exact⟨⟨q0,q1,q2,q3⟩,hc⟩
set_option maxRecDepth 100000 in
theorem jav {r:Reach} {b0:Nat} {v:Value} {d:DataW H} (hv:Value.okWide Tryz.prog w r b0 54 v) (h:DataW.Trod enc Tryz.prog w base spare held 54 v d p) :
  ∃(A:Option Addr) (n c:Nat) (qs:List Cub),v= .slice A n c∧Mh w A n qs∧(n:Int)≤9223372036854775807:=by
 obtain ⟨A,n,c,rfl⟩ :=okWide_slice Tryz.underlying54 hv
 obtain ⟨fuel,hf⟩ :=h
 rcases open_slice Tryz.underlying54 hf with⟨e,_⟩ |⟨a,len,cap,m,n',D,Pl,e,_,hl,hm,hmm,_,hi⟩
 ·simp [Value.cells] at e
  obtain ⟨rfl,rfl,rfl⟩ :=e
  exact⟨none,0,0,[],rfl,⟨rfl,fun h=>absurd h Om⟩,by omega⟩
 simp [Value.cells] at e
 obtain ⟨rfl,rfl,rfl⟩ :=e
 have hC:Tryz.prog.cellsOf 130=8:=by kernel_rfl
 rw [hC] at hi
 have key:∀i,i<n→∃q:Cub,∀j v,(VP q)[j]? =some v→w.cell? (a.add (i*8+j)) =some v:=by
  intro i hlt
  have hlm:n≤m:=by rw [hmm];split<;>omega
  obtain ⟨cs',hc,ht⟩ :=hi i Om
  obtain ⟨_,hcl,hat⟩ :=World.cells?_some hc
  obtain ⟨q,rfl⟩ :=jcT ht
  refine⟨q,fun j v hj=> ?_⟩
  have hj8:j<8:= (List.getElem?_eq_some_iff.1 hj).1
  have:=hat j Om
  rw [add_add] at this
  rw [this]
  simpa using hj
 haveI:Inhabited Cub:=⟨⟨(0,0),(0,0),(0,0),(0,0)⟩⟩
 obtain ⟨f,hf⟩ :=choose_lt key
 refine⟨some a,n,c,(List.range n).map f,J,⟨by simp,fun hn=> ?_⟩,by unfold maxLen at hm;omega⟩
 obtain ⟨b,o,sp⟩ :=a
 have hsp:sp=none:=by
  have:=World.cell?_spot (hf 0 hn 0 _ rfl)
  simpa [Addr.add] using this
 subst hsp
 have hadd:∀j,(⟨b,o,none⟩ :Addr).add j=⟨b,o+j,none⟩ :=fun j=>by unfold Addr.add;split<;>simp_all
 have hlt:=World.block_lt_of_cell? w _ (hf 0 hn 0 _ rfl)
 rw [hadd] at hlt
 refine⟨b,o,J,hlt,fun k x hk q v hv=> ?_⟩
 obtain ⟨hk2,e⟩ :=List.getElem?_eq_some_iff.1 hk
 rw [jip,List.length_range] at hk2
 rw [jje,jjB] at e
 subst e
 have:=hf k hk2 q v hv
 rw [hadd] at this
 rw [jji]
 exact this
end
end Go.Proofs.YtbahojdbmmjkcaaGreat
namespace Go.Proofs.YtbahojdbmmjkcaaGreat
open Go Go.RowKit
set_option maxRecDepth 100000
set_option maxHeartbeats 4000000
theorem Rh (A:Option Addr) (n c:Nat) (l:Int) (w:World) (hl:0≤l) (hl':l≤1048576) (hn: (n:Int)≤9223372036854775807) :
  Calls Tryz.prog 29 #[.slice A n c, .int .i64 l] w fun e w'=>e= .returned (.int .i64 (szV l n))∧Over w w':=by
 refine jK (m:=12) (Tryz.func29) J J (lb J) ?_;refine S18 ?_;refine cZ (fun c1=> ?_) (fun c1=> ?_)
 ·refine S6 ?_;refine jJ J (.tmp J) ?_
  intro w' hs
  exact⟨ux (by unfold szV;rw [if_neg Om]),hs.fin⟩
 ·refine S8 ?_;refine jJ J (.tmp J) ?_
  intro w' hs
  exact⟨ux (by unfold szV;rw [if_pos Om]),hs.fin⟩
theorem T7 (q:Cub) (w:World) :Calls Tryz.prog 84 #[MF q] w fun e w'=>e= .returned (MF q)∧Over w w':=by
 refine jK (m:=21) (Tryz.func84) J J (lb J) ?_;refine S3 ?_;refine aX (fun b1=> ?_);refine N1 ?_;refine aL (fun b2=> ?_);refine N4 ?_;refine aL (fun b3=> ?_);refine N5 ?_;refine a9 (jG uU J J (fun w1 hs=>Ze q.a.1 q.a.2 w1)) ?_;refine S2 ?_;refine OJ (k:=2) J J J J (J) (by rfl) jD.szx J ?_;refine N5 ?_;refine a9 (jG uU J J (fun w1 hs=>Ze q.b.1 q.b.2 w1)) ?_;refine S2 ?_;refine OK (k:=2) J J J J (J) (by rfl) jD.szx J ?_;refine N5 ?_;refine a9 (jG uU J J (fun w1 hs=>Ze q.c.1 q.c.2 w1)) ?_;refine S2 ?_;refine OL (k:=2) J J J J (J) (by rfl) jD.szx J ?_;refine N5 ?_;refine a9 (jG uU J J (fun w1 hs=>Ze q.d.1 q.d.2 w1)) ?_;refine S2 ?_;refine OM (k:=2) J J J J (J) (by rfl) jD.szx J ?_;refine N8 ?_;refine jJ J (JZ (k:=1) J qQ J J) ?_
 intro w' hs
 exact⟨rfl,hs.fin⟩
theorem wK (q:Cub) : (VP q).length=8:=rfl
def jgj:List Value:=List.replicate 8 (.int .i64 0)
theorem jcv (n:Nat) : (madeCells #[Value.int .i64 0, .int .i64 0, .int .i64 0, .int .i64 0, .int .i64 0, .int .i64 0, .int .i64 0, .int .i64 0] (n*8)).toList= (List.replicate n jgj).flatten:=by
 rw [show(List.replicate n jgj).flatten=List.replicate (n*8) (Value.int .i64 0) from List.flatten_replicate_replicate,List.eq_replicate_iff]
 refine⟨by simp [madeCells],fun v hv=> ?_⟩
 simp only [madeCells,Array.toList_map,Array.toList_range,jiD,jjN] at hv
 obtain ⟨i,_,rfl⟩ :=hv
 have h8:i % 8=0∨i % 8=1∨i % 8=2∨i % 8=3∨i % 8=4∨i % 8=5∨i % 8=6∨i % 8=7:=by omega
 show(#[Value.int .i64 0, .int .i64 0, .int .i64 0, .int .i64 0, .int .i64 0, .int .i64 0, .int .i64 0, .int .i64 0] :Array Value)[i % 8]! =_
 rcases h8 with e | e | e | e | e | e | e | e<;>rw [e] <;>rfl
theorem u7 (A:Option Addr) (n c:Nat) (qs:List Cub) (w:World) (h:Mh w A n qs) (hn: (n:Int)≤1048576) :
  Calls Tryz.prog 32 #[.slice A n c] w fun e w'=>∃g:Nat,e= .returned (.slice (some ⟨g,0,none⟩) n n)∧Over w w'∧(Res.cel g 122 (qs.flatMap VP)).P w'∧(∀b,(Res.cel g 122 (qs.flatMap VP)).F b→w.heap.size≤b)∧(Res.cel g 122 (qs.flatMap VP)).B=0∧True:=by
 have hl:=h.1
 refine jK (m:=23) (Tryz.func32) J J (lb J) ?_;refine S9 ?_;refine IQ J J J JP kJ J Dc Om Om (fun b1=> ?_);refine N8 ?_;refine JE (X:=Nat) (fun k=>k≤n) (fun k=>n- k) (fun k=> [(4, .int .i64 (k:Int))]) (kK [0,2,3]) (fun k=> [.cel b1 122 (ZP VP jgj qs k)]) 0 (jie _) ⟨J,sz⟩ (fun _ h=>h.upto ⟨by rw [NB,jcv,hl],trivial⟩) ?_
 intro k hk L hL1
 refine v9 ?_;refine r9 ?_;refine S8 ?_;refine cZ (fun c1=> ?_) (fun c1=> ?_)
 ·have hlt:k<n:=Om
  obtain ⟨lb0,lo,rfl,hlb⟩ :=h.at_ Om
  refine S10 ?_;refine a9 (jk J J Bx J (Fo h hlt J)) ?_;refine a9 (jG LG J J (fun w1 hs=>T7 (cb qs k) w1)) ?_;refine S2 ?_;refine qe (k:=0) (off:=0+k*8) (vs:=VP (cb qs k)) J J J J J (by rfl) kJ.szx J J (by rw [E5 wK (by rfl) Om];show 0+k*8+8≤qs.length*8;omega) ?_;refine S8 ?_
  exact Jd hL1 (k+1) Om Om ⟨vi Om,sz⟩ (fun _ h=>h.upto ⟨congrArg (Res.cel b1 _) (NA wK (by rfl) (yV (show k<qs.length by omega)) J).symm,trivial⟩)
 ·have hkn:k=qs.length:=Om
  rw [hkn,E4]
  refine S11 ?_;refine jJ J (.tmp J) ?_
  intro w' hs
  exact⟨b1,rfl,hs.fin,hs.cel (k:=0) rfl,fun b hb=> ((hs.all 0 _ rfl).2.1 b hb).elim id (fun h=>by cases h),sz⟩
theorem F7 (q:Cub) (w:World) :Calls Tryz.prog 90 #[MF q,MF q] w fun e w'=>e= .returned (.bool true)∧Over w w':=by
 have key:∀(p:Pn) (w1:World),Calls Tryz.prog 89 #[pV p,pV p] w1 fun e w'=>e= .returned (.bool true)∧Over w1 w':=fun p w1=>by
  refine(Sm p.1 p.2 p.1 p.2 w1).mono ?_
  rintro e w' ⟨rfl,h⟩
  exact⟨by simp,h⟩
 refine jK (m:=29) (Tryz.func90) J J (lb J) ?_;refine S3 ?_;refine aX (fun b1=> ?_);refine N1 ?_;refine aX (fun b2=> ?_);refine N9 ?_;refine a9 (jG uT J J (fun w1 hs=>key q.a w1)) ?_;refine S2 ?_;refine va J (J) ?_;refine S9 ?_;refine a9 (jG uT J J (fun w1 hs=>key q.b w1)) ?_;refine S2 ?_;refine va J (J) ?_;refine S9 ?_;refine a9 (jG uT J J (fun w1 hs=>key q.c w1)) ?_;refine S2 ?_;refine va J (J) ?_;refine S9 ?_;refine a9 (jG uT J J (fun w1 hs=>key q.d w1)) ?_;refine S2 ?_;refine va J (J) ?_;refine S7 ?_;refine jJ J (.tmp J) ?_
 intro w' hs
 exact⟨rfl,hs.fin⟩
theorem BV (A B:Option Addr) (n c d:Nat) (qs:List Cub) (w:World) (h:Mh w A n qs) (h2:Mh w B n qs) (hn: (n:Int)≤1048576) :
  Calls Tryz.prog 35 #[.slice A n c, .slice B n d] w fun e w'=>e= .returned (.bool true)∧Over w w':=by
 refine jK (m:=27) (Tryz.func35) J J (lb J) ?_;refine S13 ?_;refine va J (GE _) ?_;refine S8 ?_;refine qj (X:=Nat) (fun k=>k≤n) (fun k=>n- k) (fun k=> [(5, .int .i64 (k:Int))]) (kK [0,1,4]) 0 (jie _) ⟨J,sz⟩ ?_
 intro k hk L hL1
 refine V8 ?_;refine cZ (fun c1=> ?_) (fun c1=> ?_)
 ·have hlt:k<n:=Om
  obtain ⟨fb,fo,rfl,hfb⟩ :=h.at_ Om
  obtain ⟨gb,go,rfl,hgb⟩ :=h2.at_ Om
  refine S6 ?_;refine JH 10 ?_;refine dK 0 ?_;refine dK 1 ?_;refine dK 2 ?_;refine dZ 3 J (jk J J qQ J (Fo h hlt J)) ?_;refine dK 4 ?_;refine dK 5 ?_;refine dK 6 ?_;refine dZ 7 J (jk J J qQ J (Fo h2 hlt J)) ?_;refine dZ 8 J (jG LE J J (fun w1 hs=>F7 (cb qs k) w1)) ?_;refine dK 9 ?_;refine JB Kr ?_;refine S1 ?_;refine va J (J) ?_;refine S8 ?_
  exact qa hL1 (k+1) Om Om ⟨vi Om,sz⟩ (u9 J)
 ·refine S10 ?_;refine jJ J (.tmp J) ?_
  intro w' hs
  exact⟨rfl,hs.fin⟩
theorem Og (b T:Nat) (n c:Nat) (cs:List Value) (m:Int) (w:World) (hh:w.heap[b]? =some (.cells cs.toArray T (0,0))) (hl:cs.length=n*8) (hm:0≤m) (hm2:m≤1000000000) (hn:n≤1048576) :
  Calls Tryz.prog 37 #[.slice (some ⟨b,0,none⟩) n c, .int .i64 m] w fun e w'=>e= .returned (.int .i64 (m+8* (n:Int)))∧Wr b w w':=by
 refine QD (m:=77) (Tryz.func37) J J (lb J) (hh) ?_;refine S10 ?_;refine JE (X:=Nat×List Value) (fun x=>x.1≤n∧x.2.length=n*8) (fun x=>n- x.1) (fun x=> [(1, .int .i64 (m+8* (x.1:Int))),(5, .int .i64 (x.1:Int))]) (kK [0,4]) (fun x=> [.cel b T x.2]) (0,cs) (⟨jie _,hl⟩) ⟨vi (by simp),sz⟩ (fun _ h=>h) ?_
 intro⟨k,ds⟩ hx L hL1
 refine v9 ?_;refine r9 ?_
 have hk:k≤n:=hx.1
 have hd:ds.length=n*8:=hx.2
 refine S8 ?_;refine cZ (fun c1=> ?_) (fun c1=> ?_)
 ·have hlt:k<n:=Om
  refine S13 ?_;refine qe (k:=0) (off:=0+k*8+0) J J J J J (by rfl) qW.szx J J (by simp only [jij,jiw,qz,hd];omega) ?_;refine S16 ?_;refine qe (k:=0) (off:=0+k*8+1) J J J J J (by rfl) qW.szx J J (by simp only [jij,jiw,qz,hd];omega) ?_;refine S16 ?_;refine qe (k:=0) (off:=0+k*8+2) J J J J J (by rfl) qW.szx J J (by simp only [jij,jiw,qz,hd];omega) ?_;refine S16 ?_;refine qe (k:=0) (off:=0+k*8+3) J J J J J (by rfl) qW.szx J J (by simp only [jij,jiw,qz,hd];omega) ?_;refine S16 ?_;refine qe (k:=0) (off:=0+k*8+4) J J J J J (by rfl) qW.szx J J (by simp only [jij,jiw,qz,hd];omega) ?_;refine S16 ?_;refine qe (k:=0) (off:=0+k*8+5) J J J J J (by rfl) qW.szx J J (by simp only [jij,jiw,qz,hd];omega) ?_;refine S16 ?_;refine qe (k:=0) (off:=0+k*8+6) J J J J J (by rfl) qW.szx J J (by simp only [jij,jiw,qz,hd];omega) ?_;refine S16 ?_;refine qe (k:=0) (off:=0+k*8+7) J J J J J (by rfl) qW.szx J J (by simp only [jij,jiw,qz,hd];omega) ?_;refine S13 ?_
  exact Jd hL1 ((k+1,_)) (⟨show k+1≤n by omega,by simp only [qz,jjf,hd]⟩) (by simp only;omega) ⟨vi (by simp only;omega),vi (by simp only;omega),sz⟩ (u9 J)
 ·have hkn:k=n:=Om
  refine S11 ?_;refine jJ J (.tmp J) ?_
  intro w' hs
  exact⟨ux (by rw [hkn]),hs.over.wr⟩
theorem jgA (b:Nat) :¬(Res.many []).F b:=fun ⟨r,h,_⟩ =>by cases h
theorem jam (w:World) : (Res.many []).P w:=⟨fun r h=> (by cases h),List.Pairwise.nil⟩
theorem Wr.wrs {b:Nat} {w w':World} (h:Wr b w w') :Wrs (· =b) w w':=⟨h.os,h.tape,h.output,h.size,fun c hc hn=>h.block c hc hn⟩
theorem jhF (a b:Nat) :decide ((1:Int) +2* (a:Int) +8* (b:Int) <0) =false:=decide_eq_false Om
theorem jaR (pen:List Pn) (qs:List Cub) (t:Int) :smallR (TO pen qs t) :=by
 unfold TO
 (repeat' split)
 ·exact jaV _ _ _
 ·exact smallR.nil
 ·exact smallR.nil
 ·exact smallR.nil
theorem GA (A0:Option Addr) (n0 c0_:Nat) (xs0:List (Int×Int)) (A1:Option Addr) (n1 c1_:Nat) (qs1:List Cub) (x2:Int) (w:World) (h0:Pts w A0 n0 xs0) (hm0: (n0:Int)≤9223372036854775807) (h1:Mh w A1 n1 qs1) (hm1: (n1:Int)≤9223372036854775807) :
  Calls Tryz.prog 5 #[.slice A0 n0 c0_, .slice A1 n1 c1_, .int .i64 x2] w fun e w'=>e= .returned (.bool true)∧Over w w':=by
 have hl0:=h0.1
 have hl1:=h1.1
 have hsm:=jaR xs0 qs1 x2
 have hst:=hsm.total
 have hss:=hsm.sum rfl
 refine jK (m:=124) (Tryz.func5) J J (lb J) ?_;refine S12 ?_;refine a9 (jG Di J J (fun w1 hs=>Calls.still (ja9 A0 n0 c0_ 1048576 w1 Om Om hm0))) ?_;refine S8 ?_;refine cZ (fun c1=> ?_) (fun c1=> ?_)
 ·refine S6 ?_;refine jJ J (.tmp J) ?_
  intro w' hs
  exact⟨rfl,hs.fin⟩
 ·obtain ⟨ht0,et0⟩ :=Eu c1
  rw [et0]
  replace ht0: (n0:Int)≤1048576:=Om
  clear hm0 et0
  refine S6 ?_;refine a9 (jG GP J J (fun w1 hs=>Rh A1 n1 c1_ _ w1 Om Om hm1)) ?_;refine S8 ?_;refine cZ (fun c2=> ?_) (fun c2=> ?_)
  ·refine S6 ?_;refine jJ J (.tmp J) ?_
   intro w' hs
   exact⟨rfl,hs.fin⟩
  ·obtain ⟨ht1,et1⟩ :=Eu c2
   rw [et1]
   replace ht1: (n1:Int)≤1048576:=Om
   clear hm1 et1
   refine S6 ?_;refine JQ W6 (X:=Nat×Nat×Nat) (v:=fun x=> .slice (some ⟨x.1,0,none⟩) n0 n0) (r:=fun x=>Ye n0 xs0 x.2.1 x.2.2 (some ⟨x.1,0,none⟩)) (H:=fun _=>True) J J J (lb J) (fun w1 hs=>IU A0 n0 c0_ xs0 w1 (h0.over hs.fin) ht0) ?_
   rintro⟨g8_1,lo8_1,hi8_1⟩ -
   refine N2 ?_;refine JQ VG (X:=Nat) (v:=fun g=> .slice (some ⟨g,0,none⟩) n1 n1) (r:=fun g=>Res.cel g 122 (qs1.flatMap VP)) (H:=fun _=>True) J J J (lb J) (fun w1 hs=>u7 A1 n1 c1_ qs1 w1 (h1.over hs.fin) ht1) ?_
   rintro g8_3-
   refine N2 ?_;refine JQ zG (X:= (Option Addr×Nat)×Nat×Nat) (v:=fun x=> .tuple #[qG x.1.1 _ x.1.2, .int .i64 _]) (r:=fun x=>kx _ _ x.2.1 x.2.2 x.1.1) (H:=fun _=>True) J J J (lb J) (fun w1 hs=>y4 (Zb _ n0 n0 xs0 _ n1 n1 qs1 x2 w1 (G2 (k:=0) J w1 hs) (MI (k:=1) J wK hl1 w1 hs) ht0 ht1)) ?_
   rintro⟨⟨A8_5,c8_5_⟩,lo8_5,hi8_5⟩ -
   refine N4 ?_;refine aL (fun b1=> ?_);refine N8 ?_;refine JQ W6 (X:=Nat×Nat×Nat) (v:=fun x=> .slice (some ⟨x.1,0,none⟩) n0 n0) (r:=fun x=>Ye n0 xs0 x.2.1 x.2.2 (some ⟨x.1,0,none⟩)) (H:=fun _=>True) J J J (lb J) (fun w1 hs=>IU A0 n0 c0_ xs0 w1 (h0.over hs.fin) ht0) ?_
   rintro⟨g9_1,lo9_1,hi9_1⟩ -
   refine N6 ?_;refine JQ VG (X:=Nat) (v:=fun g=> .slice (some ⟨g,0,none⟩) n1 n1) (r:=fun g=>Res.cel g 122 (qs1.flatMap VP)) (H:=fun _=>True) J J J (lb J) (fun w1 hs=>u7 A1 n1 c1_ qs1 w1 (h1.over hs.fin) ht1) ?_
   rintro g10_1-
   refine N8 ?_;refine JQ ul (X:= (Option Addr×Nat)×Nat×Nat) (v:=fun x=> .tuple #[qG x.1.1 _ x.1.2, .int .i64 _]) (r:=fun x=>kx _ _ x.2.1 x.2.2 x.1.1) (H:=fun _=>True) J J J (lb J) (fun w1 hs=>y4 (U4 _ n0 n0 xs0 _ n1 n1 qs1 x2 w1 (G2 (k:=4) J w1 hs) (MI (k:=5) J wK hl1 w1 hs) ht0 ht1)) ?_
   rintro⟨⟨A11_3,c11_3_⟩,lo11_3,hi11_3⟩ -
   refine N4 ?_;refine aL (fun b2=> ?_);refine N9 ?_;refine a9 (jG WZ J J (fun w1 hs=>UV _ _ _ _ _ (TO xs0 qs1 x2) w1 (V0 (k:=6) J w1 hs) (V0 (k:=2) J w1 hs) hst)) ?_;refine S2 ?_;refine uE 53 (.bool false) J (by rw [IL]) ?_;refine S8 ?_;refine va J (GE _) ?_;refine S8 ?_;refine JQ W6 (X:=Nat×Nat×Nat) (v:=fun x=> .slice (some ⟨x.1,0,none⟩) n0 n0) (r:=fun x=>Ye n0 xs0 x.2.1 x.2.2 (some ⟨x.1,0,none⟩)) (H:=fun _=>True) J J J (lb J) (fun w1 hs=>IU A0 n0 c0_ xs0 w1 (h0.over hs.fin) ht0) ?_
   rintro⟨g14_2,lo14_2,hi14_2⟩ -
   refine n9 ?_;refine a9 (jG Dh J J (fun w1 hs=>ML _ _ _ _ _ xs0 w1 (G2 (k:=4) J w1 hs) (G2 (k:=8) J w1 hs) ht0)) ?_;refine S2 ?_;refine va J (J) ?_;refine S8 ?_;refine JQ VG (X:=Nat) (v:=fun g=> .slice (some ⟨g,0,none⟩) n1 n1) (r:=fun g=>Res.cel g 122 (qs1.flatMap VP)) (H:=fun _=>True) J J J (lb J) (fun w1 hs=>u7 A1 n1 c1_ qs1 w1 (h1.over hs.fin) ht1) ?_
   rintro g16_2-
   refine n9 ?_;refine a9 (jG GO J J (fun w1 hs=>BV _ _ _ _ _ qs1 w1 (MI (k:=5) J wK hl1 w1 hs) (MI (k:=9) J wK hl1 w1 hs) ht1)) ?_;refine S2 ?_;refine va J (J) ?_;refine S11 ?_;refine vT (k:=4) (r':=Ye n0 (WK _ n0) _ _ _) Yy J J J Dc J (fun w1 hs=>jcw _ (jhH (k:=4) J w1 hs) (jhZ (k:=4) J w1 hs) Om Om) (fun _ h=>h) J ?_;refine N7 ?_;refine vT (k:=5) (r':= .many []) xo rfl rfl rfl Dc rfl (fun w1 hs=> (Og _ _ n1 n1 _ (1+2* (n0:Int)) w1 (hs.cel (k:=5) rfl) (by rw [vS VP 8 wK,hl1]) Om Om Om).mono (by rintro e w2 ⟨rfl,hw⟩;exact⟨rfl,hw.wrs,jam _⟩)) (fun b hb=>absurd hb (jgA b)) rfl ?_;refine N8 ?_;refine uE 76 (.bool false) J (by rw [(jhF _ _)]) ?_;refine S5 ?_;refine o9 (jG WZ J J (fun w1 hs=>UV _ _ _ _ _ (TO xs0 qs1 x2) w1 (V0 (k:=6) J w1 hs) (V0 (k:=2) J w1 hs) hst)) ?_;refine S4 ?_;refine uE 82 (.bool false) J (by rw [IL]) ?_;refine S8 ?_;refine va J (GE _) ?_;refine S11 ?_;refine vT (k:=6) (r':=kx _ (vm 1 _) _ _ _) xp J J J Dc J (fun w1 hs=>jeK (jhq (k:=6) J w1 hs) (jhU (k:=6) J w1 hs) hss) (fun _ h=>h) J ?_;refine N10 ?_;refine a9 (jG Ur J J (fun w1 hs=>Ck (V0 (k:=6) J w1 hs) hss)) ?_;refine S8 ?_;refine va J (jhE _) ?_;refine S9 ?_;refine va J (GE _) ?_;refine S6 ?_;refine JQ W6 (X:=Nat×Nat×Nat) (v:=fun x=> .slice (some ⟨x.1,0,none⟩) n0 n0) (r:=fun x=>Ye n0 xs0 x.2.1 x.2.2 (some ⟨x.1,0,none⟩)) (H:=fun _=>True) J J J (lb J) (fun w1 hs=>IU A0 n0 c0_ xs0 w1 (h0.over hs.fin) ht0) ?_
   rintro⟨g31_1,lo31_1,hi31_1⟩ -
   refine N2 ?_;refine JQ VG (X:=Nat) (v:=fun g=> .slice (some ⟨g,0,none⟩) n1 n1) (r:=fun g=>Res.cel g 122 (qs1.flatMap VP)) (H:=fun _=>True) J J J (lb J) (fun w1 hs=>u7 A1 n1 c1_ qs1 w1 (h1.over hs.fin) ht1) ?_
   rintro g31_3-
   refine N2 ?_;refine JQ ul (X:= (Option Addr×Nat)×Nat×Nat) (v:=fun x=> .tuple #[qG x.1.1 _ x.1.2, .int .i64 _]) (r:=fun x=>kx _ _ x.2.1 x.2.2 x.1.1) (H:=fun _=>True) J J J (lb J) (fun w1 hs=>y4 (U4 _ n0 n0 xs0 _ n1 n1 qs1 x2 w1 (G2 (k:=10) J w1 hs) (MI (k:=11) J wK hl1 w1 hs) ht0 ht1)) ?_
   rintro⟨⟨A31_5,c31_5_⟩,lo31_5,hi31_5⟩ -
   refine N4 ?_;refine aL (fun b3=> ?_);refine N1 ?_;refine j9 13 ju.szx ?_;refine N5 ?_;refine a9 (jk J J jE J (Jj (k:=13) J)) ?_;refine S1 ?_;refine a9 (jG WZ J J (fun w1 hs=>UV _ _ _ _ _ (TO xs0 qs1 x2) w1 (V0 (k:=12) J w1 hs) (V0 (k:=2) J w1 hs) hst)) ?_;refine S2 ?_;refine uE 111 (.bool false) J (by rw [IL]) ?_;refine S8 ?_;refine va J (GE _) ?_;refine S10 ?_;refine a9 (jG Ur J J (fun w1 hs=>Ck (V0 (k:=6) J w1 hs) hss)) ?_;refine S8 ?_;refine va J (jhE _) ?_;refine S9 ?_;refine va J (GE _) ?_;refine S7 ?_;refine jJ J (.tmp J) ?_
   intro w' hs
   exact⟨rfl,hs.fin⟩
end Go.Proofs.YtbahojdbmmjkcaaGreat
