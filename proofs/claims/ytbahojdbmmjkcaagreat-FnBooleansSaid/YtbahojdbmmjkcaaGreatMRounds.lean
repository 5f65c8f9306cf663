import Derived.Test.YtbahojdbmmjkcaaGreatMPathP
import Derived.Test.YtbahojdbmmjkcaaGreatMEnds
import Derived.Test.YtbahojdbmmjkcaaGreatMSd2
import Derived.Test.YtbahojdbmmjkcaaGreatMSnapB
import Derived.Shelf.SlSortCmp.WholeK
import Derived.Test.YtbahojdbmmjkcaaGreatMHot
set_option linter.unusedVariables false
set_option linter.unusedSimpArgs false
namespace Go.Proofs.YtbahojdbmmjkcaaGreat
open Go Go.RowKit
variable {A:Option Addr} {K:Act→World→Prop} {Rs:List Res} {env:List (Nat×Value)} {l:List Pc} {n:Nat} {rs:List jO} {w:World} {x:Option Addr×Nat}
set_option maxRecDepth 100000
set_option maxHeartbeats 4000000
theorem jfu {xs ys:List Pn} (hl:xs.length=ys.length) (h:∀j,j<xs.length→pt xs j=pt ys j) :xs=ys:=by
 apply jkC hl
 intro i h1 h2
 rw [Kg h1,Kg h2]
 exact h i h1
theorem EV (A B:Option Addr) (n m c d:Nat) (xs ys:List Pn) (w:World) (h:Pts w A n xs) (h':Pts w B m ys) (hn: (n:Int)≤9223372036854775807) :
  Calls Tryz.prog 142 #[.slice A n c, .slice B m d] w fun e w'=>e= .returned (.bool (decide (xs=ys)))∧Over w w':=by
 have hl:=h.1
 have hl':=h'.1
 refine j6 (m:=26) (Tryz.func142) J J (lb J) ?_;refine S13 ?_;refine cZ (fun c1=> ?_) (fun c1=> ?_)
 ·refine S6 ?_;refine jK J (.tmp J) ?_
  intro w' hs
  exact⟨QF (decide_eq_false (fun e=>by subst e;omega)).symm,hs.fin⟩
 ·have hnm:n=m:=Om
  subst hnm
  refine S10 ?_;refine qv (X:=Nat) (fun k=>k≤n∧∀j,j<k→pt xs j=pt ys j) (fun k=>n- k) (fun k=> [(13, .int .i64 (k:Int))]) (kK [0,1,4,12]) 0 (⟨jjo _,fun j hj=>absurd hj Om⟩) ⟨J,sz⟩ ?_
  intro k hk L hL1
  refine v9 ?_
  obtain ⟨hk1,hk2⟩ :=hk
  refine S5 ?_;refine cZ (fun c2=> ?_) (fun c2=> ?_)
  ·have hlt:k<n:=Om
   obtain ⟨eb,eo,rfl,_⟩ :=h.2 Om
   obtain ⟨fb,fo,rfl,_⟩ :=h'.2 Om
   refine S11 ?_;refine JS 9 ?_;refine dK 0 ?_;refine dK 1 ?_;refine dK 2 ?_;refine dZ 3 J (jl J J jk J (wQ (b:=eb) (o:=eo) h hlt)) ?_;refine dK 4 ?_;refine dK 5 ?_;refine dK 6 ?_;refine dZ 7 J (jl J J jk J (wQ (b:=fb) (o:=fo) h' hlt)) ?_;refine dK 8 ?_;refine JJ Kr ?_;refine S1 ?_;refine cZ (fun c3=> ?_) (fun c3=> ?_)
   ·refine S10 ?_;refine jK J (.tmp J) ?_
    intro w' hs
    exact⟨QF (decide_eq_false (fun e=>by subst e;simp at c3)).symm,hs.fin⟩
   ·have he:pt xs k=pt ys k:= (by simp at c3;exact Prod.ext c3.1 c3.2)
    refine S7 ?_
    exact qf hL1 (k+1) (⟨by omega,fun j hj=>by by_cases hjk:j=k;rw [hjk];exact he;exact hk2 j Om⟩) Om ⟨vi Om,sz⟩ (u9 rfl)
  ·refine S10 ?_;refine jK J (.tmp J) ?_
   intro w' hs
   exact⟨QF (decide_eq_true (jfu Om fun j hj=>hk2 j Om)).symm,hs.fin⟩
theorem I8 (A B:Option Addr) (n m c d:Nat) (xs ys:List Pn) (w:World) (h:Pts w A n xs) (h':Pts w B m ys) (hn: (n:Int)≤9223372036854775807) :
  Calls Tryz.prog 177 #[TP A n c,TP B m d] w fun e w'=>e= .returned (.bool (decide (xs=ys)))∧Over w w':=by
 refine j6 (m:=10) (Tryz.func177) J J (lb J) ?_;refine S3 ?_;refine aX (fun b1=> ?_);refine N1 ?_;refine aX (fun b2=> ?_);refine N8 ?_;refine a9 (jM WC J J (fun w1 hs=>EV A B n m c d xs ys w1 (h.over hs.fin) (h'.over hs.fin) hn)) ?_;refine S3 ?_;refine jK J (.tmp J) ?_
 intro w' hs
 exact⟨rfl,hs.fin⟩
theorem De (A B:Option Addr) (n m c d:Nat) (rs ss:List jO) (w:World) (h:Rings w A n rs) (h':Rings w B m ss) (hn: (n:Int)≤9223372036854775807) :
  Calls Tryz.prog 176 #[.slice A n c, .slice B m d, .func (.func 177) #[] #[]] w fun e w'=>e= .returned (.bool (decide (rs=ss)))∧Over w w':=by
 have hl:=h.1
 have hl':=h'.1
 refine j6 (m:=32) (Tryz.func176) J J (lb J) ?_;refine S13 ?_;refine cZ (fun c1=> ?_) (fun c1=> ?_)
 ·refine S6 ?_;refine jK J (.tmp J) ?_
  intro w' hs
  exact⟨QF (decide_eq_false (fun e=>by subst e;omega)).symm,hs.fin⟩
 ·have hnm:n=m:=Om
  subst hnm
  refine S10 ?_;refine qv (X:=Nat) (fun k=>k≤n∧∀j,j<k→rg rs j=rg ss j) (fun k=>n- k) (fun k=> [(17, .int .i64 (k:Int))]) (kK [1,2,6,15,16]) 0 (⟨jjo _,fun j hj=>absurd hj Om⟩) ⟨J,sz⟩ ?_
  intro k hk L hL1
  refine v9 ?_
  obtain ⟨hk1,hk2⟩ :=hk
  refine S5 ?_;refine cZ (fun c2=> ?_) (fun c2=> ?_)
  ·have hlt:k<n:=Om
   obtain ⟨eb,eo,Ak,ck,rfl,hbB,hcell,hpts,hmax⟩ :=h.at_ hlt
   obtain ⟨fb,fo,Bk,dk,rfl,hbB2,hcell2,hpts2,hmax2⟩ :=h'.at_ hlt
   refine S8 ?_;refine a9 (jl J J JP J (Bu hcell hbB)) ?_;refine S1 ?_;refine aL (fun b1=> ?_);refine N9 ?_;refine a9 (jl J J JP J (Bu hcell2 hbB2)) ?_;refine S1 ?_;refine aL (fun b2=> ?_);refine N8 ?_;refine a9 (VH Zr J J J (fun w1 hs=>I8 Ak Bk _ _ ck dk (rg rs k) (rg ss k) w1 (hpts.over hs.fin) (hpts2.over hs.fin) hmax)) ?_;refine S2 ?_;refine cZ (fun c3=> ?_) (fun c3=> ?_)
   ·refine S10 ?_;refine jK J (.tmp J) ?_
    intro w' hs
    exact⟨QF (decide_eq_false (fun e=>by subst e;simp at c3)).symm,hs.fin⟩
   ·have he:rg rs k=rg ss k:= (by simpa using c3)
    refine S7 ?_
    exact qf hL1 (k+1) (⟨by omega,fun j hj=>by by_cases hjk:j=k;rw [hjk];exact he;exact hk2 j Om⟩) Om ⟨vi Om,sz⟩ (u9 rfl)
  ·refine S10 ?_;refine jK J (.tmp J) ?_
   intro w' hs
   exact⟨QF (decide_eq_true (jhQ Om fun j hj=>hk2 j Om)).symm,hs.fin⟩
theorem M4 (A B:Option Addr) (n m c d:Nat) (rs ss:List jO) (w:World) (h:Rings w A n rs) (h':Rings w B m ss) (hn: (n:Int)≤9223372036854775807) :
  Calls Tryz.prog 115 #[qr A n c,qr B m d] w fun e w'=>e= .returned (.bool (decide (rs=ss)))∧Over w w':=by
 refine j6 (m:=10) (Tryz.func115) J J (lb J) ?_;refine S3 ?_;refine aX (fun b1=> ?_);refine N1 ?_;refine aX (fun b2=> ?_);refine N8 ?_;refine a9 (jM ko J J (fun w1 hs=>De A B n m c d rs ss w1 (h.over hs.fin) (h'.over hs.fin) hn)) ?_;refine S3 ?_;refine jK J (.tmp J) ?_
 intro w' hs
 exact⟨rfl,hs.fin⟩
theorem C6 (h: (vF l).P w) {e:Pc} (he:e∈l) :Pts w e.A e.xs.length e.xs:=by
 have h1:= (h.1 e.res (jjx.2 ⟨e,he,rfl⟩)).1
 exact(jdF h1).pts
theorem H6 {B T:Nat} (hr: (J3 B T 1 n (l.map Pc.val) x).P w) (hP: (vF l).P w) (hl:l.length=n) (hs:∀e∈l,e.xs.length≤1099511627776) :Rings w x.1 n (l.map (·.xs)) :=by
 have hrow:w.ownsRow B T 1 (.slice x.1 n x.2) n (l.map Pc.val) :=hr
 refine⟨by rw [jjB,hl],fun h0=> ?_⟩
 rcases hrow.2 with⟨_,e⟩ |⟨g,cap,cur,e,hb,hg,_⟩
 ·omega
 ·injection e with e1 e2 e3
  refine⟨g,0,e1,JT hg,fun k hk=> ?_⟩
  have hkl:k<l.length:=by omega
  have hm:=jju hkl
  rw [Y1 hkl]
  refine⟨l[k].A,l[k].c,?_,C6 hP hm,by have:=hs _ hm;omega⟩
  have:=hrow.cells (g:=g) (by show Value.ownBlock (.slice x.1 n x.2) =some g;rw [e1];rfl) k l[k].val (by rw [List.getElem?_map,List.getElem?_eq_getElem hkl];rfl)
  rw [Q1] at this
  exact this
abbrev jbs:=Bool×(Option Addr×Nat)×List Pc
def Uj (w:World) (n:Nat) (rs:List jO) (x:jbs) :Res:=
 if x.1=true then {F:=fun _=>False,P:=fun _=>Rings w x.2.1.1 n rs,low:=fun _ _ _ h=>h.elim,B:=0,dep:=fun _ _ h _ _=>h} else J3 (Bs.N ⟨w,[]⟩) 74 1 n (x.2.2.map Pc.val) x.2.1
def yz (x:jbs) :Res:=
 if x.1=true then {F:=fun _=>False,P:=fun _=>True,low:=fun _ _ _ h=>h.elim,B:=0,dep:=fun _ _ h _ _=>h} else vF x.2.2
theorem jeK {m:Nat} {c:Nat} (h0:Rings w A n rs) (h:At m env ⟨w,[]⟩ (Rs++ [Uj w n rs (true,(A,c),[])] ++ [yz (true,(A,c),[])]) K) :At m env ⟨w,[]⟩ Rs K:=
 fun a w1 hf hs=>h a w1 hf ((hs.add (r:=Uj w n rs (true,(A,c),[])) (Over.refl _) (show Rings w A n rs from h0) (fun b hb=> (show False from hb).elim) ⟨jjo _,fun _ _=>jjo _⟩).add (r:=yz (true,(A,c),[])) (Over.refl _) (show True from trivial) (fun b hb=> (show False from hb).elim) ⟨jjo _,fun _ _=>jjo _⟩)
theorem jai {w':World} {x:jbs} (hr: (Uj w n rs x).P w') (hp: (yz x).P w') (hO:Over w w') (hx:x.1=false→x.2.2.map (·.xs) =rs) (hn:rs.length=n) (hsm:∀r∈rs,r.length≤1099511627776) :Rings w' x.2.1.1 n rs:=by
 unfold Uj at hr
 unfold yz at hp
 by_cases hf:x.1=true
 ·rw [if_pos hf] at hr
  exact(show Rings w x.2.1.1 n rs from hr).over hO
 ·rw [if_neg hf] at hr hp
  have e:=hx (by simpa using hf)
  have hll:x.2.2.length=n:=by have:=congrArg List.length e;rw [jjB] at this;omega
  have:=H6 hr hp hll (fun d hd=>hsm d.xs (e▸jjx.2 ⟨d,hd,rfl⟩))
  rwa [e] at this
theorem jg9 {w1:World} {k:Nat} {x:jbs} (hr: (Uj w n rs x).P w1) (hp: (yz x).P w1) (hx:x.1=false→x.2.2.map (·.xs) =rs) (hn:rs.length=n) (hk:k<n) :
  ∃bb oo,x.2.1.1=some ⟨bb,oo,none⟩∧∃Ak ck,∀w',(Uj w n rs x).P w'→(yz x).P w'→Over w w'→w'.cell? ⟨bb,oo+k,none⟩ =some (.slice Ak (rg rs k).length ck)∧Pts w' Ak (rg rs k).length (rg rs k) :=by
 by_cases hf:x.1=true
 ·have hR:Rings w x.2.1.1 n rs:=by unfold Uj at hr;rw [if_pos hf] at hr;exact hr
  obtain ⟨bb,oo,Ak,ck,e,hbB,hcell,hpts,_⟩ :=hR.at_ hk
  exact⟨bb,oo,e,Ak,ck,fun w' _ _ hO=>⟨((Jz hO).1 bb _ hbB).trans hcell,hpts.over hO⟩⟩
 ·have e:=hx (by simpa using hf)
  have hll:x.2.2.length=n:=by have:=congrArg List.length e;rw [jjB] at this;omega
  have hkl:k<x.2.2.length:=by omega
  have hrow:w1.ownsRow (Bs.N ⟨w,[]⟩) 74 1 (.slice x.2.1.1 n x.2.1.2) n (x.2.2.map Pc.val) :=by unfold Uj at hr;rw [if_neg hf] at hr;exact hr
  rcases hrow.2 with⟨_,e0⟩ |⟨g,cap,cur,e0,hb,hg,_⟩
  ·omega
  ·injection e0 with e1 e2 e3
   have hrg:rg rs k=x.2.2[k].xs:=by rw [←e,Y1 hkl]
   refine⟨g,0,e1,x.2.2[k].A,x.2.2[k].c,fun w' hr' hp' _=> ?_⟩
   have hrow':w'.ownsRow (Bs.N ⟨w,[]⟩) 74 1 (.slice x.2.1.1 n x.2.1.2) n (x.2.2.map Pc.val) :=by unfold Uj at hr';rw [if_neg hf] at hr';exact hr'
   have hP': (vF x.2.2).P w':=by unfold yz at hp';rw [if_neg hf] at hp';exact hp'
   rw [hrg]
   refine⟨?_,C6 hP' (jju hkl)⟩
   have:=hrow'.cells (g:=g) (by show Value.ownBlock (.slice x.2.1.1 n x.2.1.2) =some g;rw [e1];rfl) k x.2.2[k].val (by rw [List.getElem?_map,List.getElem?_eq_getElem hkl];rfl)
   rw [Q1] at this
   exact this
theorem jiE {w0:Bs} {b o k:Nat} {v:Value} (h:∀w',St w0 Rs w'→w'.cell? ⟨b,o+k,none⟩ =some v) :∀w',St w0 Rs w'→∀q u,[v][q]? =some u→w'.cell? ⟨b,o+k*1+q,none⟩ =some u:=fun w' hs q u hq=>by
 match q,hq with
 | 0,hq=>simp at hq;subst hq;rw [jki,jk7];exact h w' hs
theorem ZI (A:Option Addr) (n c:Nat) (rs:List jO) (B:Option Addr) (m d:Nat) (hot:List Pn) (w:World) (h:Rings w A n rs) (hr:Jp rs=true) (hh:Pts w B m hot) (hm:m≤1048576) (hmd:m≤d) (hok:∀p∈hot,wW p.1 p.2=true) (hasc:Asc hot) (hnd:hot.Nodup) (hG:bareG hot rs) :
  Calls Tryz.prog 58 #[qr A n c, .slice B m d] w fun e w'=>∃A' c',e= .returned (.tuple #[qr A' (LS hot rs).length c', .int .i64 (Rl hot rs), .int .i64 (if zL hot rs=true then 0 else 5)])∧((A'=A∧c'=c∧LS hot rs=rs)∨OwnG w.heap.size w'.heap.size w' A' (LS hot rs).length (LS hot rs))∧Over w w':=by
 have hl:=h.1
 subst hl
 have hhl:=hh.1
 refine j6 (m:=63) (Tryz.func58) J J (lb J) ?_;refine S3 ?_;refine aX (fun b1=> ?_);refine N1 ?_;refine aL (fun b2=> ?_);refine N7 ?_;refine jeK (c:=c) h ?_;refine t9 ?_;refine S1 ?_;refine JX (X:=Nat×List jO×jbs) (fun x=>StabI hot rs x.2.1 x.1∧(x.2.2.1=false→x.2.2.2.2.map (·.xs) =x.2.1)∧(x.2.2.1=true→x.2.1=rs∧x.2.2.2.1= (A,c))) (fun x=>401- cnt x.2.1) (fun x=> [(7, .int .i64 (x.1:Int))]) (kK [1,2,4,5,6]) (fun x=> [.cel b1 26 [.slice x.2.2.2.1.1 x.2.1.length x.2.2.2.1.2], .cel b2 26 [.slice none 0 0],Uj w x.2.1.length x.2.1 x.2.2,yz x.2.2]) (0,rs,true,(A,c),[]) (⟨StabI.start hr hG,(fun e=>by cases e),fun _=>⟨rfl,rfl⟩⟩) ⟨rfl,sz⟩ (fun _ h=>h) ?_
 intro⟨r,ss,fl,⟨cA,cc⟩,cl⟩ hx L hL1
 refine v9 ?_;refine r9 ?_
 obtain ⟨hx1,hx2,hx3⟩ :StabI hot rs ss r∧(fl=false→cl.map (·.xs) =ss)∧(fl=true→ss=rs∧(cA,cc) = (A,c)) :=hx
 have hr400:=hx1.r_le
 have hs40:=vx hx1.reg
 have hsm:∀q∈ss,q.length≤1099511627776:= (fun q hq=>by obtain ⟨i,hi,e⟩ :=jj0 hq;have:=qW (kE hx1.reg hi);rw [wu hi] at e;rw [e] at this;omega)
 refine S5 ?_;refine aL (fun b3=> ?_);refine N1 ?_;refine kt (T:=74) (s:=1) ?_;refine t9 ?_;refine Vz ?_;refine t9 ?_;refine S9 ?_;refine JX (X:=Nat×(Option Addr×Nat)×List Pc) (fun y=>y.1≤ss.length∧y.2.2.map (·.xs) = (qq hot ss).take y.1) (fun y=>ss.length- y.1) (fun y=> [(20, .int .i64 (y.1:Int))]) (kK [1,2,4,5,6,7,8,17,18,19]) (fun y=> [.cel b1 26 [.slice cA ss.length cc], .cel b2 26 [.slice none 0 0],Uj w ss.length ss (fl,(cA,cc),cl),yz (fl,(cA,cc),cl), .cel b3 26 [.slice y.2.1.1 y.1 y.2.1.2],J3 (Bs.N ⟨w,[]⟩) 74 1 y.1 (y.2.2.map Pc.val) y.2.1,vF y.2.2]) (0,(none,0),[]) (⟨jjo _,J⟩) ⟨J,sz⟩ (fun _ h=>h) ?_
 intro⟨k,⟨rA,rc⟩,l⟩ hy L hL2
 refine v9 ?_;refine r9 ?_
 obtain ⟨hk,hmp⟩ :k≤ss.length∧l.map (·.xs) = (qq hot ss).take k:=hy
 have hlk:l.length=k:= (by have:=congrArg List.length hmp;rw [jjB,jjC,Kw] at this;omega)
 refine S5 ?_;refine cZ (fun c1=> ?_) (fun c1=> ?_)
 ·have hlt:k<ss.length:=Om
  refine kL (fun w1 hs=>jg9 (hs.all 2 _ J).1 (hs.all 3 _ J).1 hx2 J hlt) ?_
  rintro⟨eb,eo,eA0,Ak,ck,hread⟩
  have eA1:cA=some ⟨eb,eo,none⟩ :=eA0
  subst eA1
  have hpos:=qW (kE hx1.reg hlt)
  obtain ⟨ho1,ho2,ho3⟩ :=hx1.bare.on hlt
  have hsl:=Z8 (hot:=hot) (xs:=rg ss k) Om Om
  obtain ⟨E,hEe⟩ :∃E,E=JZ (rg ss k) :=⟨_,rfl⟩
  have hEl:E.length≤400:= (by rw [hEe];omega)
  refine S7 ?_;refine a9 (jl J J JP J (jiE (fun w' hs=> (hread w' (hs.all 2 _ J).1 (hs.all 3 _ J).1 hs.fin).1))) ?_;refine S1 ?_;refine aL (fun b4=> ?_);refine N6 ?_;refine kt (T:=28) (s:=2) ?_;refine N6 ?_;refine JU Ux (v:=fun x:Option Addr×Nat=> .slice x.1 (JZ (rg ss k)).length x.2) (r:=fun x=>J3 0 96 4 _ _ x) (H:=fun _=>True) J J J (lb J) (fun w1 hs=>Qf (Uk Ak _ ck (rg ss k) w1 (hread w1 (hs.all 2 _ J).1 (hs.all 3 _ J).1 hs.fin).2 Om)) ?_
  rintro⟨eA,ec⟩ -
  refine N3 ?_
  rw [←hEe]
  refine S1 ?_;refine JX (X:=Nat×Option Addr×Nat) (fun z=>z.1≤E.length) (fun z=>E.length- z.1) (fun z=> [(11, .slice z.2.1 (yg hot E z.1).length z.2.2),(27, .int .i64 (z.1:Int))]) (kK [1,2,4,5,6,7,8,17,18,19,20,21,22,23,10,24,25,26]) (fun z=> [.cel b1 26 [.slice (some ⟨eb,eo,none⟩) ss.length cc], .cel b2 26 [.slice none 0 0],Uj w ss.length ss (fl,(some ⟨eb,eo,none⟩,cc),cl),yz (fl,(some ⟨eb,eo,none⟩,cc),cl), .cel b3 26 [.slice rA k rc],J3 (Bs.N ⟨w,[]⟩) 74 1 k (l.map Pc.val) (rA,rc),vF l, .cel b4 74 [.slice Ak (rg ss k).length ck],J3 (Bs.N ⟨w,[]⟩) 28 2 (yg hot E z.1).length ((yg hot E z.1).flatMap Jr) z.2,J3 0 96 4 E.length (E.flatMap Ji) (eA,ec)]) (0,none,0) (jjo _) ⟨J,sz⟩ (fun _ h=>h) ?_
  intro⟨j,qA,qc⟩ hz L hL3
  refine v9 ?_;refine r9 ?_
  have hj:j≤E.length:=hz
  have hsn:=GM (hot:=hot) (E:=E) (m:=1048576) Om j hj
  refine S5 ?_;refine cZ (fun c2=> ?_) (fun c2=> ?_)
  ·have hjl:j<E.length:=Om
   obtain ⟨g1',g2',g3'⟩ := (hEe▸ho1:onHot hot E).at_ hjl
   obtain ⟨mid,hmid⟩ :=Z3 g1' g2' g3'
   have hpl:0< (qC (lA (lg E j)) (lB (lg E j)) hot).length:= (by rw [hmid];simp)
   have hpm: (qC (lA (lg E j)) (lB (lg E j)) hot).length≤1048576:= (by rw [Wg];have:=GQ (lA (lg E j)) (lB (lg E j)) hot;omega)
   refine kL (fun w hs=>wH (k:=9) J hs Om) ?_
   rintro⟨eg,rfl⟩
   refine S7 ?_;refine a9 (jl J J qI J (zB (b:=eg) (o:=0) (Vr (k:=9) (x:= (some ⟨eg,0,none⟩,ec)) (ls:=E) J J) hjl)) ?_;refine S1 ?_;refine aL (fun b5=> ?_);refine N1 ?_;refine j9 10 qm.szx ?_;refine N4 ?_;refine a9 (jl J J jk J (YA (k:=10) J J J)) ?_;refine S1 ?_;refine a9 (jl J J jk J (YA (k:=10) J J J)) ?_;refine S2 ?_;refine JU HC (v:=fun x:Option Addr×Nat=> .slice x.1 (qC (lA (lg E j)) (lB (lg E j)) hot).length x.2) (r:=fun x=>J3 0 28 2 (qC (lA (lg E j)) (lB (lg E j)) hot).length ((qC (lA (lg E j)) (lB (lg E j)) hot).flatMap Jr) x) (H:=fun _=>True) J J J (lb J) (fun w1 hs=>Qf (Rg (lA (lg E j)) (lB (lg E j)) B m d hot w1 (hh.over hs.fin) (hok _ g2') (hok _ g3') hok hasc hmd hm)) ?_
   rintro⟨pA,pc⟩ -
   refine N2 ?_;refine kL (fun w hs=>wH (k:=11) J hs hpl) ?_
   rintro⟨pg,rfl⟩
   refine kL (fun w hs=>Uo (hs.all 11 _ J).1) ?_
   intro hcap
   have hst:yg hot E (j+1) =yg hot E j++ (qC (lA (lg E j)) (lB (lg E j)) hot).take ((qC (lA (lg E j)) (lB (lg E j)) hot).length- 1) := (by rw [Lb hjl];unfold qX;rw [List.dropLast_eq_take])
   have hstl: (yg hot E (j+1)).length= (yg hot E j).length+ ((qC (lA (lg E j)) (lB (lg E j)) hot).length- 1) := (by rw [hst,jjk,jjC];omega)
   refine S5 ?_;refine a9 ((JF J J J Om Om).as (congrArg _ (show(((qC (lA (lg E j)) (lB (lg E j)) hot).length:Int) - 1) = (((qC (lA (lg E j)) (lB (lg E j)) hot).length- 1:Nat) :Int) by omega))) ?_;refine a9 ((Kv J J J jD Om).as (ue _ _ _ _ _)) ?_;refine S1 ?_;refine JY (k:=8) J jD jI Dc J Dc J J J (fun w' hs=>Rh (ub (hs.all 11 _ J).1 J) Om) (wj _) (by unfold maxLen;omega) Om (jjm _) (fun r1=> ?_);refine N8 ?_
   exact Jq hL3 ((j+1,r1)) ((show j+1≤E.length by omega)) (by simp only;omega) ⟨(by rw [hstl];rfl),vi Om,sz⟩ (fun _ h=> (h.picks [0,1,2,3,4,5,6,7,8,9] Dc).upto ⟨J,J,J,J,J,J,J,J,by rw [hstl,hst,jjv],sz⟩)
  ·have hjE:j=E.length:=Om
   subst hjE
   rw [show yg hot E E.length=kv hot (rg ss k) by rw [BC,hEe]]
   refine S9 ?_;refine a9 (JR J J (vm J)) ?_;refine S1 ?_;refine Jy J J (qz J) J (lb J) (fun b6=> ?_);refine N1 ?_;refine JY (k:=5) J jJ Jw Dc J Dc J J J (fun w' hs=>Qb hs (k:=10) J J) (by simp [Value.oneCell']) (by unfold maxLen;omega) Om (jjm _) (fun r2=> ?_);refine N4 ?_;refine zR 8 J J (fun clo chi=> ?_);refine t9 ?_;refine wt 6 8 J J Dc J ?_;refine t9 ?_;refine S6 ?_
   exact Jq hL2 ((k+1,r2,l++ [⟨kv hot (rg ss k),qA,qc,clo,chi⟩])) (⟨show k+1≤ss.length by omega,by rw [jjQ,hmp,VO (by rw [Kw];omega),GD hlt];rfl⟩) (by simp only;omega) ⟨vi Om,sz⟩ (fun _ h=> (h.picks [0,1,2,3,4,5,6] Dc).upto ⟨J,J,J,J,J,by rw [jjQ];rfl,(vo _ _).symm,trivial⟩)
 ·have hkn:k=ss.length:=Om
  subst hkn
  have hall:l.map (·.xs) =qq hot ss:= (by rw [hmp,jjR (by rw [Kw];omega)])
  have hsml:∀e∈l,e.xs.length≤1099511627776:= (fun e he=>by obtain ⟨q,hq,e2⟩ :=jjx.1 (hall▸jjx.2 ⟨e,he,rfl⟩ :e.xs∈qq hot ss);rw [←e2];obtain ⟨i,hi,e3⟩ :=jj0 hq;have:=qW (kE hx1.reg hi);rw [wu hi] at e3;rw [e3] at this;have:=Z8 (hot:=hot) (xs:=q) Om Om;omega)
  refine S10 ?_;refine a9 (jM x6 J J (fun w1 hs=>M4 rA cA ss.length ss.length rc cc (qq hot ss) ss w1 (hall▸H6 (hs.all 5 _ J).1 (hs.all 6 _ J).1 hlk hsml) (jai (hs.all 2 _ J).1 (hs.all 3 _ J).1 hs.fin hx2 J hsm) Om)) ?_;refine S1 ?_;refine cZ (fun c3=> ?_) (fun c3=> ?_)
  ·have hsame:qq hot ss=ss:= (by simpa using c3)
   refine S15 ?_;refine YD J (J8 (k:=1) J jv J J) (.tmp J) (.tmp J) ?_
   intro w' hs
   obtain ⟨e1,e2,e3⟩ :=wJ (hx1.fin hsame)
   refine⟨cA,cc,by rw [e1,e2,e3];rfl,?_,hs.fin⟩
   rw [e1]
   cases fl
   ·exact .inr (Yo hs (kr:=2) (kp:=3) rfl rfl Dc rfl (by have:=congrArg List.length (hx2 rfl);rw [jjB] at this;omega) (hx2 rfl) (fun j hj=>by have:=hsm _ (jju hj);rw [wu hj] at this;omega))
   ·exact(by obtain ⟨q1,q2⟩ :=hx3 rfl;injection q2 with q2 q3;exact .inl ⟨q2,q3,q1⟩)
  ·refine S6 ?_;refine a9 (jM vL J J (fun w1 hs=>Wh rA ss.length rc (qq hot ss) w1 (hall▸H6 (hs.all 5 _ J).1 (hs.all 6 _ J).1 hlk hsml) Om)) ?_;refine S2 ?_;refine cZ (fun c4=> ?_) (fun c4=> ?_)
   ·refine S2 ?_;refine a9 (JR J J (J9)) ?_;refine S11 ?_;refine YD J (J8 (k:=1) J jv J J) (.tmp J) (.tmp J) ?_
    intro w' hs
    obtain ⟨e1,e2,e3⟩ :=xa (hx1.full c4)
    exact⟨none,0,by rw [e1,e2,e3];rfl,by rw [e1];exact .inr (OwnG.nil none),hs.fin⟩
   ·obtain ⟨k1,k2⟩ :=hx1.step hnd c4 (by simpa using c3)
    have hc4:=I5 k1.reg k1.bare
    refine S14 ?_
    exact Jq hL1 ((r+1,qq hot ss,false,(rA,rc),l)) (⟨k1,(fun _=>hall),(fun e=>by cases e)⟩) (by simp only;omega) ⟨vi Om,sz⟩ (fun _ h=> (h.picks [0,1,5,6] Dc).upto ⟨by rw [Kw],rfl,by rw [Kw];rfl,sz⟩)
end Go.Proofs.YtbahojdbmmjkcaaGreat
namespace Go.Proofs.YtbahojdbmmjkcaaGreat
open Go Go.Shelf
def Y6:Go.Shelf.Ren:=⟨fun | 6=>111 | 15=>168 | 14=>167 | 28=>226 | 29=>227 | 20=>218 | 21=>219 | 22=>220 | 23=>221 | 24=>222 | 25=>223 | 26=>224 | 27=>225 | 46=>251 | 47=>252 | 48=>253 | 49=>254 | 50=>255 | 57=>274 | n=>n,fun | 22=>58 | 24=>28 | 25=>159 | 3=>3 | 39=>184 | 0=>0 | 53=>252 | 55=>139 | 4=>4 | 46=>246 | 45=>245 | 50=>199 | 5=>5 | 9=>9 | 66=>280 | 70=>284 | 76=>298 | 77=>299 | n=>n,fun | n=>n⟩
theorem jea:Go.Proofs.SlLaysF0.n6 Tryz.prog Y6:= {
 mixed:=by kernel_rfl
 f6:=⟨Tryz.f111.name,by decide,Tryz.func111.trans (congrArg some Kr)⟩
 f14:=⟨Tryz.f167.name,by decide,Tryz.func167.trans (congrArg some Kr)⟩
 f15:=Tryz.func168.trans (congrArg some Kr)
 f20:=⟨Tryz.f218.name,by decide,Tryz.func218.trans (congrArg some Kr)⟩
 f21:=⟨Tryz.f219.name,by decide,Tryz.func219.trans (congrArg some Kr)⟩
 f22:=⟨Tryz.f220.name,by decide,Tryz.func220.trans (congrArg some Kr)⟩
 f23:=⟨Tryz.f221.name,by decide,Tryz.func221.trans (congrArg some Kr)⟩
 f24:=⟨Tryz.f222.name,by decide,Tryz.func222.trans (congrArg some Kr)⟩
 f25:=⟨Tryz.f223.name,by decide,Tryz.func223.trans (congrArg some Kr)⟩
 f26:=⟨Tryz.f224.name,by decide,Tryz.func224.trans (congrArg some Kr)⟩
 f27:=⟨Tryz.f225.name,by decide,Tryz.func225.trans (congrArg some Kr)⟩
 f28:=Tryz.func226.trans (congrArg some Kr)
 f29:=Tryz.func227.trans (congrArg some Kr)
 f46:=⟨Tryz.f251.name,by decide,Tryz.func251.trans (congrArg some Kr)⟩
 f47:=Tryz.func252.trans (congrArg some Kr)
 f48:=Tryz.func253.trans (congrArg some Kr)
 f49:=⟨Tryz.f254.name,by decide,Tryz.func254.trans (congrArg some Kr)⟩
 f50:=⟨Tryz.f255.name,by decide,Tryz.func255.trans (congrArg some Kr)⟩
 f57:=⟨Tryz.f274.name,by decide,Tryz.func274.trans (congrArg some Kr)⟩
 t0:=Tryz.underlying0
 a0:=Tryz.isAgg0
 z0:=Tryz.sizeOf0
 v0:=Tryz.zeroValue0
 t3:=Tryz.underlying3
 a3:=Tryz.isAgg3
 z3:=Tryz.sizeOf3
 v3:=Tryz.zeroValue3
 t4:=Tryz.underlying4
 a4:=Tryz.isAgg4
 z4:=Tryz.sizeOf4
 v4:=Tryz.zeroValue4
 t5:=Tryz.underlying5
 a5:=Tryz.isAgg5
 z5:=Tryz.sizeOf5
 v5:=Tryz.zeroValue5
 t9:=Tryz.underlying9
 a9:=Tryz.isAgg9
 z9:=Tryz.sizeOf9
 v9:=Tryz.zeroValue9
 t22:=Tryz.underlying58
 a22:=Tryz.isAgg58
 z22:=Tryz.sizeOf58
 v22:=Tryz.zeroValue58
 t25:=Tryz.underlying159
 a25:=Tryz.isAgg159
 z25:=Tryz.sizeOf159
 v25:=Tryz.zeroValue159
 t39:=Tryz.underlying184
 a39:=Tryz.isAgg184
 z39:=Tryz.sizeOf184
 v39:=Tryz.zeroValue184
 t45:=Tryz.underlying245
 a45:=Tryz.isAgg245
 z45:=Tryz.sizeOf245
 v45:=Tryz.zeroValue245
 t46:=Tryz.underlying246
 a46:=Tryz.isAgg246
 z46:=Tryz.sizeOf246
 v46:=Tryz.zeroValue246
 t50:=Tryz.underlying199
 a50:=Tryz.isAgg199
 z50:=Tryz.sizeOf199
 v50:=Tryz.zeroValue199
 t53:=Tryz.underlying252
 a53:=Tryz.isAgg252
 z53:=Tryz.sizeOf252
 v53:=Tryz.zeroValue252
 t55:=Tryz.underlying139
 a55:=Tryz.isAgg139
 z55:=Tryz.sizeOf139
 v55:=Tryz.zeroValue139
 t66:=Tryz.underlying280
 a66:=Tryz.isAgg280
 z66:=Tryz.sizeOf280
 v66:=Tryz.zeroValue280
 t70:=Tryz.underlying284
 a70:=Tryz.isAgg284
 z70:=Tryz.sizeOf284
 v70:=Tryz.zeroValue284
 t76:=Tryz.underlying298
 a76:=Tryz.isAgg298
 z76:=Tryz.sizeOf298
 v76:=Tryz.zeroValue298
 t77:=Tryz.underlying299
 a77:=Tryz.isAgg299
 z77:=Tryz.sizeOf299
 v77:=Tryz.zeroValue299}
end Go.Proofs.YtbahojdbmmjkcaaGreat
namespace Go.Proofs.YtbahojdbmmjkcaaGreat
open Go Go.Shelf Go.RowKit Go.Lib Go.Sort
def w6 (p q:Pn) :Int:=if p.2=q.2 then wR (p.1- q.1) else wR (p.2- q.2)
theorem Oq (p q:Pn) :w6 p q<0↔vG p q:=by
 have h1:=Uq (p.1- q.1)
 have h2:=Uq (p.2- q.2)
 unfold w6 vG
 split<;>omega
set_option maxHeartbeats 1000000 in
theorem yj (p q:Pn) (hp:xe p) (hq:xe q) (W:World) :Calls Tryz.prog 112 #[.agg #[.int .i64 p.1, .int .i64 p.2], .agg #[.int .i64 q.1, .int .i64 q.2]] W fun e w'=>e= .returned (.int .i64 (w6 p q))∧∃q' os',w'=grow (W.drewN q') os':=by
 obtain ⟨⟨p1,p2⟩,p3,p4⟩ :=hp
 obtain ⟨⟨q1,q2⟩,q3,q4⟩ :=hq
 by_cases h:p.2=q.2
 ·have e:w6 p q=wR (p.1- q.1) :=if_pos h
  have hc:=KC (p.1- q.1)
  rw [e]
  generalize wR (p.1- q.1) =r at hc⊢
  go_enter Tryz.func112,Tryz.ntmps112
  go_wp2_with (go_at_call 160;refine(hc _).mono ?_;rintro e w' ⟨rfl,rfl⟩)
  go_ret
  exact⟨rfl,0,_,by rw [alloc_eq_grow,alloc_eq_grow,grow_grow];rfl⟩
 ·have e:w6 p q=wR (p.2- q.2) :=if_neg h
  have hc:=KC (p.2- q.2)
  rw [e]
  generalize wR (p.2- q.2) =r at hc⊢
  go_enter Tryz.func112,Tryz.ntmps112
  go_wp2_with (go_at_call 160;refine(hc _).mono ?_;rintro e w' ⟨rfl,rfl⟩)
  go_ret
  exact⟨rfl,0,_,by rw [alloc_eq_grow,alloc_eq_grow,grow_grow];rfl⟩
theorem ZJ {l r vs:List Value} :∀ {off:Nat},off+vs.length≤l.length→qP (l++r) off vs=qP l off vs++r:=by
 induction vs generalizing l with
 | nil=>intro off _;rfl
 | cons v vs ih=>
  intro off h
  simp only [jjr] at h
  rw [qP,qP,List.set_append_left _ _ Om]
  exact ih (by simp;omega)
end Go.Proofs.YtbahojdbmmjkcaaGreat
