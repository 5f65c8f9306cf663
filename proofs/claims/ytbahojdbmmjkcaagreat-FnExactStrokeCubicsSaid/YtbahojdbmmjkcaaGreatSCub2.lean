import Derived.Test.YtbahojdbmmjkcaaGreatSCub
import Derived.Test.YtbahojdbmmjkcaaGreatSCmp
import Derived.Test.YtbahojdbmmjkcaaGreatSCmbS
set_option linter.unusedVariables false
set_option linter.unusedSimpArgs false
namespace Go.Proofs.YtbahojdbmmjkcaaGreat
open Go Go.RowKit
variable {A:Option Addr} {L qs:List Cub} {a:Bool} {k:Nat} {pen:List Pn} {t:Int} {w:World}
set_option maxRecDepth 100000
set_option maxHeartbeats 4000000
def cb (L:List Cub) (k:Nat) :Cub:=L.getD k ⟨(0,0),(0,0),(0,0),(0,0)⟩
theorem yV (h:k<L.length) :L[k]? =some (cb L k) :=by simp [cb,List.getD,h]
abbrev Mh (w:World) (A:Option Addr) (n:Nat) (L:List Cub) :Prop:=Els VP 8 w A n L
theorem Els.cub {b o n:Nat} (h:Mh w (some ⟨b,o,none⟩) n L) (hk:k<n) :CubAt w b (o+k*8) (cb L k) :=
 ⟨(h.cell (q:=0) (yV (by rw [h.1];exact hk)) rfl).1,fun j v hj=> (h.cell (yV (by rw [h.1];exact hk)) hj).2⟩
section
variable {w:World} {Rs:List Res} {b o n k off:Nat} {L:List Cub}
theorem Fo (h:Mh w (some ⟨b,o,none⟩) n L) (hk:k<n) (he:off=o+k*8) :∀w',St ⟨w,[]⟩ Rs w'→∀q v,(VP (cb L k))[q]? =some v→w'.cell? ⟨b,off+q,none⟩ =some v:=jgV (VP (cb L k)) 0 h (yV (by rw [h.1];exact hk)) (fun q v hv=>by rw [jiB];exact hv) Om
theorem Pq (h:Mh w (some ⟨b,o,none⟩) n L) (hk:k<n) (he:off=o+k*8) :∀w',St ⟨w,[]⟩ Rs w'→∀q v,[Value.int .i64 (cb L k).a.1,Value.int .i64 (cb L k).a.2][q]? =some v→w'.cell? ⟨b,off+q,none⟩ =some v:=jgV _ 0 h (yV (by rw [h.1];exact hk)) (fun q v hv=>by match q,hv with | 0,hv=>exact hv | 1,hv=>exact hv) Om
theorem jdb (h:Mh w (some ⟨b,o,none⟩) n L) (hk:k<n) (he:off=o+k*8+6) :∀w',St ⟨w,[]⟩ Rs w'→∀q v,[Value.int .i64 (cb L k).d.1,Value.int .i64 (cb L k).d.2][q]? =some v→w'.cell? ⟨b,off+q,none⟩ =some v:=jgV _ 6 h (yV (by rw [h.1];exact hk)) (fun q v hv=>by match q,hv with | 0,hv=>exact hv | 1,hv=>exact hv) Om
end
def Cx (L:List Cub) (k:Nat) :Bool:=ya (cb L k) && (decide (k=0) || decide ((cb L (k- 1)).d= (cb L k).a))
def yj (L:List Cub) :Nat→Bool
 | 0=>true
 | k+1=>yj L k&&Cx L k
def I5 (pen:List Pn) (L:List Cub) :Bool:= (Us pen&&decide (0<L.length)) &&yj L L.length
def WF (t:Int) (L:List Cub) :Nat→List Pn
 | 0=> [(cb L 0).a]
 | k+1=>WF t L k++ (MO (cb L k) t).drop 1
def scE (t:Int) (L:List Cub) :Int:=match L.find? (fun q=> !(zl q t==0)) with
 | some q=>zl q t
 | none=>0
def scC (pen:List Pn) (L:List Cub) (t:Int) :Int:=if I5 pen L=true then(if scE t L=0 then(if(WF t L L.length).length≤400 then soC pen (WF t L L.length) false else 5) else scE t L) else 1
def TO (pen:List Pn) (L:List Cub) (t:Int) :List Jp:=if I5 pen L=true then(if scE t L=0 then(if(WF t L L.length).length≤400 then soR pen (WF t L L.length) false else []) else []) else []
theorem O4 (h:I5 pen L=false) :scC pen L t=1∧TO pen L t= [] :=by simp [scC,TO,h]
theorem jg4 (h:I5 pen L=true) (h2:¬scE t L=0) :scC pen L t=scE t L∧TO pen L t= [] :=by simp [scC,TO,h,h2]
theorem C8 (h:I5 pen L=true) (h2:scE t L=0) (h3:¬(WF t L L.length).length≤400) :scC pen L t=5∧TO pen L t= [] :=by simp [scC,TO,h,h2,h3]
theorem jfV (h:I5 pen L=true) (h2:scE t L=0) (h3: (WF t L L.length).length≤400) :scC pen L t=soC pen (WF t L L.length) false∧TO pen L t=soR pen (WF t L L.length) false:=by simp [scC,TO,h,h2,h3]
theorem jfJ {L:List Cub} {k:Nat} (h:Cx L k=false) :∀m,k<m→yj L m=false
 | 0,hm=>absurd hm Om
 | m+1,hm=>by
  unfold yj
  rcases ji9 k m with c | c
  ·rw [jfJ h m c,jiS]
  ·rw [show m=k by omega,h,jjJ]
theorem jg3 (hk:k<L.length) (hn:∀j,j<k→zl (cb L j) t=0) (h:¬zl (cb L k) t=0) :scE t L=zl (cb L k) t:=by
 have:L.find? (fun q=> !(zl q t==0)) =some (cb L k) :=by
  refine List.find?_eq_some_iff_getElem.2 ⟨by simpa using h,k,hk,?_,fun j hj=> ?_⟩
  ·have:=yV hk;rw [List.getElem?_eq_getElem hk] at this;injection this
  ·have h1:=yV (show j<L.length by omega)
   rw [List.getElem?_eq_getElem Om] at h1
   injection h1 with h1
   rw [h1,hn j hj]
   rfl
 rw [scE,this]
theorem TN (hn:∀j,j<L.length→zl (cb L j) t=0) :scE t L=0:=by
 have:L.find? (fun q=> !(zl q t==0)) =none:=List.find?_eq_none.2 fun q hq=>by
  obtain ⟨j,hj,rfl⟩ :=jiU hq
  have h1:=yV hj
  rw [List.getElem?_eq_getElem hj] at h1
  injection h1 with h1
  rw [h1,hn j hj]
  decide
 rw [scE,this]
theorem F9 {q:Cub} (h:zl q t=0) :1≤(MO q t).length∧(MO q t).length≤65:=by
 obtain ⟨_,l,hl,hv⟩ :=Ia h
 obtain ⟨_,e2,e3⟩ :=Rl hl
 have hN:flN q t=2^l:=by rw [flN,hv];rfl
 rw [MO,if_pos h,Ss,hN]
 omega
theorem O3 {t:Int} {L:List Cub} :∀ {k},(∀j,j<k→zl (cb L j) t=0)→(WF t L k).length≤1+64*k
 | 0,_=>by simp [WF]
 | k+1,h=>by
  have ih:=O3 (k:=k) fun j hj=>h j Om
  have:=F9 (h k Om)
  rw [WF,jid,jiy]
  omega
theorem Sh (xs:List Pn) : (xs.drop 1).flatMap jV= (xs.flatMap jV).drop (1*2) :=by
 cases xs with
 | nil=>rfl
 | cons x xs=>simp [jV]
abbrev ScP (pen:List Pn) (L:List Cub) (t:Int) (e:Ending) (w w':World) :Prop:=∃A' c',e= .returned (.tuple #[qG A' (TO pen L t).length c', .int .i64 (scC pen L t)])∧OwnG w.heap.size w'.heap.size w' A' (TO pen L t).length (TO pen L t)∧Over w w'
theorem zY {k:Int} {w':World} (h:scC pen L t=k∧TO pen L t= []) (ho:Over w w') :ScP pen L t (.returned (.tuple #[qG none 0 0, .int .i64 k])) w w':=⟨none,0,by rw [h.1,h.2];rfl,by rw [h.2];exact OwnG.nil none,ho⟩
theorem vs {c n m:Nat} (h:n=m) :some (Value.slice A n c) =some (Value.slice A m c) :=by rw [h]
theorem jco (hk:0<k) (h: (((cb L (k- 1)).d.1== (cb L k).a.1) && ((cb L (k- 1)).d.2== (cb L k).a.2)) =false) :Cx L k=false:=by
 have: (cb L (k- 1)).d≠(cb L k).a:=fun e=>by rw [e] at h;simp at h
 rw [Cx,decide_eq_false Om,decide_eq_false this,Bool.or_self,jjJ]
theorem Cy (h:ya (cb L k) =false) :Cx L k=false:=by rw [Cx,h,jiS]
theorem Cz (h:ya (cb L 0) =true) :Cx L 0=true:=by rw [Cx,h];rfl
theorem CA (hc:ya (cb L k) =true) (h: (((cb L (k- 1)).d.1== (cb L k).a.1) && ((cb L (k- 1)).d.2== (cb L k).a.2)) =true) :Cx L k=true:=by
 rw [jig,beq_iff_eq,beq_iff_eq] at h
 rw [Cx,hc,decide_eq_true (p:= (cb L (k- 1)).d= (cb L k).a) (Prod.ext h.1 h.2),Bool.or_true]
 rfl
theorem Iz (h:yj L k=true) (h2:Cx L k=true) :yj L (k+1) =true:=by rw [yj,h,h2];rfl
theorem jdu (hk:k<L.length) (h:Cx L k=false) :I5 pen L=false:=by rw [I5,jfJ h _ hk,jjJ]
theorem jff (h:Us pen=false) :I5 pen L=false:=by rw [I5,h];rfl
theorem jfe (h:L.length=0) :I5 pen L=false:=by rw [I5,decide_eq_false Om,jjJ];rfl
theorem jg2 (h1:Us pen=true) (h2:0<L.length) (h3:yj L L.length=true) :I5 pen L=true:=by rw [I5,h1,h3,decide_eq_true h2];rfl
theorem Eb {w':World} (hB:I5 pen L=true) (hk:k<L.length) (hn:∀j,j<k→zl (cb L j) t=0) (h:¬zl (cb L k) t=0) (ho:Over w w') :ScP pen L t (.returned (.tuple #[qG none 0 0, .int .i64 (zl (cb L k) t)])) w w':=by
 have e:=jg3 hk hn h
 obtain ⟨e1,e2⟩ :=jg4 (t:=t) hB (by rw [e];exact h)
 exact zY ⟨e1.trans e,e2⟩ ho
theorem O2 (t:Int) (L:List Cub) (k:Nat) : (WF t L k).flatMap jV++ ((MO (cb L k) t).flatMap jV).drop (1*2) = (WF t L (k+1)).flatMap jV:=by rw [WF,jii,Sh]
theorem Ue : (WF t L k).length+ ((MO (cb L k) t).length- 1) = (WF t L (k+1)).length:=by rw [WF,jid,jiy]
theorem TK {B T s n m:Nat} {xs ys:List Value} {v v':Value} (hv:v=v') (hn:n=m) (hx:xs=ys) :Res.row B T s v n xs=Res.row B T s v' m ys:=by rw [hv,hn,hx]
theorem okS (h: (a&&yj qs k) =true) (h2:Cx qs k=true) :true= (a&&yj qs (k+1)) :=by
 rw [jig] at h
 rw [h.1,Iz h.2 h2]
 rfl
theorem okN (h: (a&&yj qs k) =false) :false= (a&&yj qs (k+1)) :=by
 rw [yj,←Bool.and_assoc,h]
 rfl
theorem jhz (h:Cx qs k=false) :false= (a&&yj qs (k+1)) :=by rw [yj,h,jjJ,jjJ]
theorem okE (h: (a&&yj qs k) =true) (hc:ya (cb qs k) =true) (hk:0<k) : (((cb qs (k- 1)).d.1== (cb qs k).a.1) && ((cb qs (k- 1)).d.2== (cb qs k).a.2)) = (a&&yj qs (k+1)) :=by
 cases e: (((cb qs (k- 1)).d.1== (cb qs k).a.1) && ((cb qs (k- 1)).d.2== (cb qs k).a.2)) with
 | true=>exact okS h (CA hc e)
 | false=>exact jhz (jco hk e)
theorem jhT (m:Nat) :decide (0< (m:Int)) =decide (0<m) :=by rw [jiK,decide_eq_true_iff,decide_eq_true_iff];omega
theorem U4 (A:Option Addr) (n c:Nat) (pen:List Pn) (B:Option Addr) (m d:Nat) (qs:List Cub) (t:Int) (w:World) (h:Pts w A n pen) (h2:Mh w B m qs) (hn: (n:Int)≤1048576) (hm: (m:Int)≤1048576) :
  Calls Tryz.prog 33 #[.slice A n c, .slice B m d, .int .i64 t] w fun e w'=>ScP pen qs t e w w':=by
 have hl:=h2.1
 refine jK (m:=86) (Tryz.func33) J J (lb J) ?_;refine S3 ?_;refine aL (fun b1=> ?_);refine N6 ?_;refine a9 (jG ZU J J (fun w1 hs=>Dz A n c pen w1 (h.over hs.fin) hn)) ?_;refine S2 ?_;refine cV 18 (fun g1=> ?_) (fun g1=> ?_)
 ·refine S8 ?_;refine a9 (JF J J (JJ)) ?_;refine S6 ?_;refine JX J (JZ (k:=0) J jE J J) (.tmp J) ?_
  intro w' hs
  exact zY (O4 (jff g1)) hs.fin
 ·refine S8 ?_;refine cZ (fun c1=> ?_) (fun c1=> ?_)
  ·refine S2 ?_;refine a9 (JF J J (JJ)) ?_;refine S6 ?_;refine JX J (JZ (k:=0) J jE J J) (.tmp J) ?_
   intro w' hs
   exact zY (O4 (jfe Om)) hs.fin
  ·obtain ⟨lb0,lo,rfl,hlb⟩ :=h2.at_ Om
   refine S10 ?_;refine qj (X:=Nat) (fun k=>k≤m∧yj qs k=true) (fun k=>m- k) (fun k=> [(26, .int .i64 (k:Int))]) (kK [0,1,2,6,7,24,25]) 0 (⟨jie _,J⟩) ⟨J,sz⟩ ?_
   intro k hk L hL1
   refine v9 ?_
   obtain ⟨hkm,hlk⟩ :=hk
   refine S5 ?_;refine cZ (fun c2=> ?_) (fun c2=> ?_)
   ·have hlt:k<m:=Om
    refine S8 ?_;refine a9 (jk J J qQ J (Fo h2 hlt J)) ?_;refine S1 ?_;refine aL (fun b2=> ?_);refine N6 ?_;refine JH 18 ?_;refine dK 0 ?_;refine dZ 1 J (jG Um J J (fun w1 hs=>YR (cb qs k) w1)) ?_;refine dK 2 ?_;refine dK 3 ?_;refine cV 34 (fun g2=> ?_) (fun g2=> ?_)
    ·refine fK 4 ?_;refine fK 5 ?_;refine fK 6 ?_;refine qS (i:=7) J Kr Kr Kr [] Kr (fun _ _ _ h=>h) J J J J J Dc (u9 J) ?_;refine qS (i:=8) J Kr Kr Kr [] Kr (fun _ _ _ h=>h) J J J J J Dc (u9 J) ?_;refine qS (i:=9) J Kr Kr Kr [] Kr (fun _ _ _ h=>h) J J J J J Dc (u9 J) ?_;refine qS (i:=10) J Kr Kr Kr [] Kr (fun _ _ _ h=>h) J J J J J Dc (u9 J) ?_;refine qS (i:=11) J Kr Kr Kr [] Kr (fun _ _ _ h=>h) J J J J J Dc (u9 J) ?_;refine qS (i:=12) J Kr Kr Kr [] Kr (fun _ _ _ h=>h) J J J J J Dc (u9 J) ?_;refine qS (i:=13) J Kr Kr Kr [] Kr (fun _ _ _ h=>h) J J J J J Dc (u9 J) ?_;refine qS (i:=14) J Kr Kr Kr [] Kr (fun _ _ _ h=>h) J J J J J Dc (u9 J) ?_;refine qS (i:=15) J Kr Kr Kr [] Kr (fun _ _ _ h=>h) J J J J J Dc (u9 J) ?_;refine fK 16 ?_;refine dK 17 ?_;refine JB Kr ?_;refine S4 ?_;refine a9 (JF J J (JJ)) ?_;refine S10 ?_;refine JX J (JZ (k:=0) J jE J J) (.tmp J) ?_
     intro w' hs
     exact zY (O4 (jdu (k:=k) Om (Cy g2))) hs.fin
    ·refine eK 4 ?_;refine eK 5 ?_;refine eK 6 ?_;refine cV 37 (fun g3=> ?_) (fun g3=> ?_)
     ·refine eK 7 ?_;refine eK 8 ?_;refine eZ 9 J ((JC J J J Om Om).as (congrArg _ (show(k:Int) - 1= ((k- 1:Nat) :Int) by omega))) ?_;refine eZ 10 J (jH (j:=k- 1) J J J JP Om) ?_;refine eK 11 ?_;refine eZ 12 J (jk J J jj J (jdb h2 Om J)) ?_;refine eK 13 ?_;refine eK 14 ?_;refine eK 15 ?_;refine eK 16 ?_;refine dK 17 ?_;refine JB Kr ?_;refine S1 ?_;refine cZ (fun c3=> ?_) (fun c3=> ?_)
      ·refine S2 ?_;refine a9 (JF J J (JJ)) ?_;refine S10 ?_;refine JX J (JZ (k:=0) J jE J J) (.tmp J) ?_
       intro w' hs
       exact zY (O4 (jdu (k:=k) Om (jco Om c3))) hs.fin
      ·refine S7 ?_
       exact qa hL1 (k+1) (⟨by omega,Iz hlk (CA g2 c3)⟩) Om ⟨vi Om,sz⟩ (u9 J)
     ·refine fK 7 ?_;refine fK 8 ?_;refine fK 9 ?_;refine fK 10 ?_;refine fK 11 ?_;refine fK 12 ?_;refine fK 13 ?_;refine fK 14 ?_;refine fK 15 ?_;refine eK 16 ?_;refine dK 17 ?_;refine JB Kr ?_;refine S9 ?_
      exact qa hL1 (k+1) (⟨by omega,Iz hlk (by {have e:k=0:=Om;subst e;exact Cz g2})⟩) Om ⟨vi Om,sz⟩ (u9 rfl)
   ·have hB:I5 pen qs=true:=jg2 g1 Om (by rw [show qs.length=k by omega];exact hlk)
    refine S8 ?_;refine a9 (jH (j:=0) J J J JP Om) ?_;refine S1 ?_;refine a9 (jk J J jj J (Pq h2 (k:=0) Om J)) ?_;refine S1 ?_;refine jX J J (J9 J) J (lb J) (fun b3=> ?_);refine N2 ?_;refine P5 1 2 1 J J J (by unfold maxLen;omega) ?_;refine t9 ?_;refine S8 ?_;refine JE (X:=Nat×Option Addr×Nat) (fun x=>x.1≤m∧(∀j,j<x.1→zl (cb qs j) t=0)) (fun x=>m- x.1) (fun x=> [(10, .slice x.2.1 (WF t qs x.1).length x.2.2),(58, .int .i64 (x.1:Int))]) (kK [0,2,6,7,56,57]) (fun x=> [.cel b1 26 [.slice none 0 0],JS (Bs.N ⟨w,[]⟩) 28 2 (WF t qs x.1).length ((WF t qs x.1).flatMap jV) x.2]) (0,some ⟨b3,0,none⟩,1) (⟨jie _,fun j hj=>absurd hj (jjP j)⟩) ⟨J,sz⟩ (fun _ h=>h) ?_
    intro⟨k2,rA,rc⟩ hx L hL2
    refine v9 ?_;refine r9 ?_
    have hk2:k2≤m:=hx.1
    have hfl:∀j,j<k2→zl (cb qs j) t=0:=hx.2
    have hlen:=O3 hfl
    refine S5 ?_;refine cZ (fun c4=> ?_) (fun c4=> ?_)
    ·have hlt2:k2<m:=Om
     refine S7 ?_;refine a9 (jk J J qQ J (Fo h2 hlt2 J)) ?_;refine S1 ?_;refine aL (fun b4=> ?_);refine N8 ?_;refine JQ zx (X:=Option Addr×Nat) (v:=fun x=> .tuple #[.slice x.1 (MO (cb qs k2) t).length x.2, .int .i64 (zl (cb qs k2) t)]) (r:=fun x=>JS 0 28 2 (MO (cb qs k2) t).length ((MO (cb qs k2) t).flatMap jV) x) (H:=fun _=>True) J J J (lb J) (fun w1 hs=>Gg (cb qs k2) t w1) ?_
     rintro⟨fA,fc⟩ -
     refine N12 ?_;refine cZ (fun c5=> ?_) (fun c5=> ?_)
     ·refine S2 ?_;refine a9 (JF J J (JJ)) ?_;refine S12 ?_;refine JX J (JZ (k:=0) J jE J J) (.tmp J) ?_
      intro w' hs
      exact Eb hB Om hfl c5 hs.fin
     ·obtain ⟨r1_,r2_⟩ :=F9 c5
      refine S5 ?_;refine a9 (KZ (l:=1) J J J jl r1_) ?_;refine S1 ?_;refine JK (k:=1) J jl jD Dc J Dc J J J (fun w' hs=>Hi (hs.all 3 _ J).1 r1_) ((fun u hu=>Kf _ u (jiX hu))) (by unfold maxLen;omega) Om (jif _) (fun r1=> ?_);refine N8 ?_
      exact Jd hL2 ((k2+1,r1)) (⟨show k2+1≤m by omega,fun j hj=>by by_cases e:j=k2;exact e▸c5;exact hfl j (by have:j<k2+1:=hj;omega)⟩) (by simp only;omega) ⟨vs Ue,vi Om,sz⟩ (fun _ h=>h.upto ⟨rfl,TK (by rw [Ue]) Ue.symm (O2 t qs k2).symm,trivial⟩)
    ·have hke:k2=qs.length:=Om
     have he0:scE t qs=0:=TN (by rw [←hke];exact hfl)
     rw [hke] at hlen⊢
     refine S12 ?_;refine cZ (fun c6=> ?_) (fun c6=> ?_)
     ·refine S2 ?_;refine a9 (JF J J (JJ)) ?_;refine S6 ?_;refine JX J (JZ (k:=0) J jE J J) (.tmp J) ?_
      intro w' hs
      exact zY (C8 hB he0 Om) hs.fin
     ·obtain ⟨e1,e2⟩ :=jfV hB he0 (show(WF t qs qs.length).length≤400 by omega)
      refine S7 ?_;refine JQ GH (X:= (Option Addr×Nat)×Nat×Nat) (v:=fun x=> .tuple #[qG x.1.1 _ x.1.2, .int .i64 _]) (r:=fun x=>kx _ _ x.2.1 x.2.2 x.1.1) (H:=fun _=>True) J J J (lb J) (fun w1 hs=>y4 (FR A n c pen rA _ rc (WF t qs qs.length) false w1 (h.over hs.fin) (kE (hs.all 1 _ J).1 J) hn Om)) ?_
      rintro⟨⟨oA,oc⟩,olo,ohi⟩ -
      refine N7 ?_;refine JX J (JZ (k:=0) J jE J J) (.tmp J) ?_
      intro w' hs
      exact⟨oA,oc,by rw [e1,e2],by rw [e2];exact UW (hs.all 2 _ rfl).1 (fun b hb=> ((hs.all 2 _ rfl).2.1 b hb).elim id (fun h=>by cases h)),hs.fin⟩
theorem Zb (A:Option Addr) (n c:Nat) (pen:List Pn) (B:Option Addr) (m d:Nat) (qs:List Cub) (t:Int) (w:World) (h:Pts w A n pen) (h2:Mh w B m qs) (hn: (n:Int)≤1048576) (hm: (m:Int)≤1048576) :
  Calls Tryz.prog 30 #[.slice A n c, .slice B m d, .int .i64 t] w fun e w'=>ScP pen qs t e w w':=by
 have hl:=h2.1
 refine jK (m:=92) (Tryz.func30) J J (lb J) ?_;refine S3 ?_;refine aL (fun b1=> ?_);refine N2 ?_;refine qr [(8, .bool (Us pen&&decide (0<m)))] (kK [0,1,2,6,7]) (fun L h_1=> ?_) ?_
 ·refine S2 ?_;refine a9 (jG zK J J (fun w1 hs=>M6 A n c pen w1 (h.over hs.fin) hn)) ?_;refine S1 ?_;refine cV 16 (fun g1=> ?_) (fun g1=> ?_)
  ·refine S9 ?_
   exact Js h_1 ⟨vb (by rw [g1,jhT];rfl),sz⟩ (u9 J)
  ·refine S6 ?_
   exact Js h_1 ⟨vb (by rw [g1];rfl),sz⟩ (u9 J)
 ·refine V6 ?_;refine qj (X:=Nat) (fun k=>k≤m) (fun k=>m- k) (fun k=> [(8, .bool ((Us pen&&decide (0<m)) &&yj qs k)),(9, .int .i64 (k:Int))]) (kK [0,1,2,6,7]) 0 (jie _) ⟨vb (by rw [yj,Bool.and_true]),sz⟩ ?_
  intro k hk L hL1
  refine V8 ?_;refine cZ (fun c1=> ?_) (fun c1=> ?_)
  ·have hlt:k<m:=Om
   obtain ⟨lb0,lo,rfl,hlb⟩ :=h2.at_ Om
   refine S5 ?_;refine JH 26 ?_;refine dK 0 ?_;refine dK 1 ?_;refine cV 28 (fun g2=> ?_) (fun g2=> ?_)
   ·refine eK 2 ?_;refine eK 3 ?_;refine eK 4 ?_;refine eZ 5 J (jG ZW J J (fun w1 hs=>D2 _ _ (cb qs k) w1 ((h2.cub hlt).over hs.fin))) ?_;refine dK 6 ?_;refine dK 7 ?_;refine cV 34 (fun g3=> ?_) (fun g3=> ?_)
    ·refine eK 8 ?_;refine eK 9 ?_;refine eK 10 ?_;refine cV 37 (fun g4=> ?_) (fun g4=> ?_)
     ·refine fK 11 ?_;refine fK 12 ?_;refine fK 13 ?_;refine fK 14 ?_;refine fK 15 ?_;refine fK 16 ?_;refine fK 17 ?_;refine fK 18 ?_;refine fK 19 ?_;refine fK 20 ?_;refine fK 21 ?_;refine fK 22 ?_;refine eK 23 ?_;refine dK 24 ?_;refine dK 25 ?_;refine JB Kr ?_;refine S7 ?_
      exact qa hL1 (k+1) Om Om ⟨vb (okS g2 (by have e:k=0:=Om;subst e;exact Cz g3)),vi Om,sz⟩ (u9 rfl)
     ·refine eK 11 ?_;refine eK 12 ?_;refine eZ 13 J ((JC J J J Om Om).as (congrArg _ (show(k:Int) - 1= ((k- 1:Nat) :Int) by omega))) ?_;refine eZ 14 J (jH (j:=k- 1) J J J JP Om) ?_;refine eK 15 ?_;refine eZ 16 J (jk J J jj J (jdb h2 Om J)) ?_;refine eK 17 ?_;refine eK 18 ?_;refine eK 19 ?_;refine eK 20 ?_;refine eZ 21 J (jk J J jj J (Pq h2 hlt J)) ?_;refine eK 22 ?_;refine eK 23 ?_;refine dK 24 ?_;refine dK 25 ?_;refine JB Kr ?_;refine S7 ?_
      exact qa hL1 (k+1) Om Om ⟨vb (okE g2 g3 Om),vi Om,sz⟩ (u9 J)
    ·refine fK 8 ?_;refine fK 9 ?_;refine fK 10 ?_;refine qS (i:=11) J Kr Kr Kr [] Kr (fun _ _ _ h=>h) J J J J J Dc (u9 J) ?_;refine qS (i:=12) J Kr Kr Kr [] Kr (fun _ _ _ h=>h) J J J J J Dc (u9 J) ?_;refine qS (i:=13) J Kr Kr Kr [] Kr (fun _ _ _ h=>h) J J J J J Dc (u9 J) ?_;refine qS (i:=14) J Kr Kr Kr [] Kr (fun _ _ _ h=>h) J J J J J Dc (u9 J) ?_;refine qS (i:=15) J Kr Kr Kr [] Kr (fun _ _ _ h=>h) J J J J J Dc (u9 J) ?_;refine qS (i:=16) J Kr Kr Kr [] Kr (fun _ _ _ h=>h) J J J J J Dc (u9 J) ?_;refine qS (i:=17) J Kr Kr Kr [] Kr (fun _ _ _ h=>h) J J J J J Dc (u9 J) ?_;refine qS (i:=18) J Kr Kr Kr [] Kr (fun _ _ _ h=>h) J J J J J Dc (u9 J) ?_;refine qS (i:=19) J Kr Kr Kr [] Kr (fun _ _ _ h=>h) J J J J J Dc (u9 J) ?_;refine qS (i:=20) J Kr Kr Kr [] Kr (fun _ _ _ h=>h) J J J J J Dc (u9 J) ?_;refine qS (i:=21) J Kr Kr Kr [] Kr (fun _ _ _ h=>h) J J J J J Dc (u9 J) ?_;refine qS (i:=22) J Kr Kr Kr [] Kr (fun _ _ _ h=>h) J J J J J Dc (u9 J) ?_;refine fK 23 ?_;refine dK 24 ?_;refine dK 25 ?_;refine JB Kr ?_;refine S7 ?_
     exact qa hL1 (k+1) Om Om ⟨vb (jhz (Cy g3)),vi Om,sz⟩ (u9 J)
   ·refine fK 2 ?_;refine fK 3 ?_;refine fK 4 ?_;refine fK 5 ?_;refine dK 6 ?_;refine dK 7 ?_;refine fK 8 ?_;refine fK 9 ?_;refine fK 10 ?_;refine qS (i:=11) J Kr Kr Kr [] Kr (fun _ _ _ h=>h) J J J J J Dc (u9 J) ?_;refine qS (i:=12) J Kr Kr Kr [] Kr (fun _ _ _ h=>h) J J J J J Dc (u9 J) ?_;refine qS (i:=13) J Kr Kr Kr [] Kr (fun _ _ _ h=>h) J J J J J Dc (u9 J) ?_;refine qS (i:=14) J Kr Kr Kr [] Kr (fun _ _ _ h=>h) J J J J J Dc (u9 J) ?_;refine qS (i:=15) J Kr Kr Kr [] Kr (fun _ _ _ h=>h) J J J J J Dc (u9 J) ?_;refine qS (i:=16) J Kr Kr Kr [] Kr (fun _ _ _ h=>h) J J J J J Dc (u9 J) ?_;refine qS (i:=17) J Kr Kr Kr [] Kr (fun _ _ _ h=>h) J J J J J Dc (u9 J) ?_;refine qS (i:=18) J Kr Kr Kr [] Kr (fun _ _ _ h=>h) J J J J J Dc (u9 J) ?_;refine qS (i:=19) J Kr Kr Kr [] Kr (fun _ _ _ h=>h) J J J J J Dc (u9 J) ?_;refine qS (i:=20) J Kr Kr Kr [] Kr (fun _ _ _ h=>h) J J J J J Dc (u9 J) ?_;refine qS (i:=21) J Kr Kr Kr [] Kr (fun _ _ _ h=>h) J J J J J Dc (u9 J) ?_;refine qS (i:=22) J Kr Kr Kr [] Kr (fun _ _ _ h=>h) J J J J J Dc (u9 J) ?_;refine fK 23 ?_;refine dK 24 ?_;refine dK 25 ?_;refine JB Kr ?_;refine S7 ?_
    exact qa hL1 (k+1) Om Om ⟨vb (okN g2),vi Om,sz⟩ (u9 J)
  ·have hkm:k=qs.length:=Om
   rw [hkm]
   refine S11 ?_;refine cZ (fun c2=> ?_) (fun c2=> ?_)
   ·refine S2 ?_;refine a9 (JF J J (JJ)) ?_;refine S6 ?_;refine JX J (JZ (k:=0) J jE J J) (.tmp J) ?_
    intro w' hs
    exact zY (O4 (by rw [I5,hl];rw [hl] at c2;exact c2)) hs.fin
   ·have hB:I5 pen qs=true:= (by rw [I5,hl];rw [hl] at c2;exact c2)
    have hpos:0<m:= (by rw [hl,jig,jig,decide_eq_true_iff] at c2;exact c2.1.2)
    obtain ⟨lb0,lo,rfl,hlb⟩ :=h2.at_ hpos
    refine S5 ?_;refine a9 (jH (j:=0) J J J JP Om) ?_;refine S1 ?_;refine a9 (jk J J jj J (Pq h2 (k:=0) Om J)) ?_;refine S1 ?_;refine jX J J (J9 J) J (lb J) (fun b2=> ?_);refine N2 ?_;refine P5 1 2 1 J J J (by unfold maxLen;omega) ?_;refine t9 ?_;refine S6 ?_;refine JE (X:=Nat×Option Addr×Nat) (fun x=>x.1≤m∧(∀j,j<x.1→zl (cb qs j) t=0)) (fun x=>m- x.1) (fun x=> [(10, .slice x.2.1 (WF t qs x.1).length x.2.2),(11, .int .i64 (x.1:Int))]) (kK [0,1,2,6,7]) (fun x=> [.cel b1 26 [.slice none 0 0],JS (Bs.N ⟨w,[]⟩) 28 2 (WF t qs x.1).length ((WF t qs x.1).flatMap jV) x.2]) (0,some ⟨b2,0,none⟩,1) (⟨jie _,fun j hj=>absurd hj (jjP j)⟩) ⟨J,sz⟩ (fun _ h=>h) ?_
    intro⟨k2,rA,rc⟩ hx L hL2
    refine v9 ?_;refine r9 ?_
    have hk2:k2≤m:=hx.1
    have hfl:∀j,j<k2→zl (cb qs j) t=0:=hx.2
    have hlen:=O3 hfl
    refine S8 ?_;refine cZ (fun c3=> ?_) (fun c3=> ?_)
    ·have hlt2:k2<m:=Om
     refine S9 ?_;refine a9 (jk J J qQ J (Fo h2 hlt2 J)) ?_;refine S2 ?_;refine JQ zF (X:=Option Addr×Nat) (v:=fun x=> .tuple #[.slice x.1 (MO (cb qs k2) t).length x.2, .int .i64 (zl (cb qs k2) t)]) (r:=fun x=>JS 0 28 2 (MO (cb qs k2) t).length ((MO (cb qs k2) t).flatMap jV) x) (H:=fun _=>True) J J J (lb J) (fun w1 hs=>Za (cb qs k2) t w1) ?_
     rintro⟨fA,fc⟩ -
     refine N12 ?_;refine cZ (fun c4=> ?_) (fun c4=> ?_)
     ·refine S2 ?_;refine a9 (JF J J (JJ)) ?_;refine S12 ?_;refine JX J (JZ (k:=0) J jE J J) (.tmp J) ?_
      intro w' hs
      exact Eb hB Om hfl c4 hs.fin
     ·obtain ⟨r1_,r2_⟩ :=F9 c4
      refine S5 ?_;refine a9 (KZ (l:=1) J J J jl r1_) ?_;refine S1 ?_;refine JK (k:=1) J jl jD Dc J Dc J J J (fun w' hs=>Hi (hs.all 2 _ J).1 r1_) ((fun u hu=>Kf _ u (jiX hu))) (by unfold maxLen;omega) Om (jif _) (fun r1=> ?_);refine N9 ?_
      exact Jd hL2 ((k2+1,r1)) (⟨show k2+1≤m by omega,fun j hj=>by by_cases e:j=k2;exact e▸c4;exact hfl j (by have:j<k2+1:=hj;omega)⟩) (by simp only;omega) ⟨vs Ue,vi Om,sz⟩ (fun _ h=>h.upto ⟨rfl,TK (by rw [Ue]) Ue.symm (O2 t qs k2).symm,trivial⟩)
    ·have hke:k2=qs.length:=Om
     have he0:scE t qs=0:=TN (by rw [←hke];exact hfl)
     rw [hke] at hlen⊢
     refine S12 ?_;refine cZ (fun c5=> ?_) (fun c5=> ?_)
     ·refine S2 ?_;refine a9 (JF J J (JJ)) ?_;refine S6 ?_;refine JX J (JZ (k:=0) J jE J J) (.tmp J) ?_
      intro w' hs
      exact zY (C8 hB he0 Om) hs.fin
     ·obtain ⟨e1,e2⟩ :=jfV hB he0 (show(WF t qs qs.length).length≤400 by omega)
      refine S7 ?_;refine JQ GQ (X:= (Option Addr×Nat)×Nat×Nat) (v:=fun x=> .tuple #[qG x.1.1 _ x.1.2, .int .i64 _]) (r:=fun x=>kx _ _ x.2.1 x.2.2 x.1.1) (H:=fun _=>True) J J J (lb J) (fun w1 hs=>y4 (Hh A n c pen rA _ rc (WF t qs qs.length) false w1 (h.over hs.fin) (kE (hs.all 1 _ J).1 J) hn Om)) ?_
      rintro⟨⟨oA,oc⟩,olo,ohi⟩ -
      refine N7 ?_;refine JX J (JZ (k:=0) J jE J J) (.tmp J) ?_
      intro w' hs
      exact⟨oA,oc,by rw [e1,e2],by rw [e2];exact UW (hs.all 2 _ rfl).1 (fun b hb=> ((hs.all 2 _ rfl).2.1 b hb).elim id (fun h=>by cases h)),hs.fin⟩
end Go.Proofs.YtbahojdbmmjkcaaGreat
