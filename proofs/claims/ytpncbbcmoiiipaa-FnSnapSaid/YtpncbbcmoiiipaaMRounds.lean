import Derived.Test.YtpncbbcmoiiipaaMPathP
import Derived.Test.YtpncbbcmoiiipaaMEnds
import Derived.Test.YtpncbbcmoiiipaaMSd2
import Derived.Test.YtpncbbcmoiiipaaMSnapB
set_option linter.unusedVariables false
set_option linter.unusedSimpArgs false
namespace Go.Proofs.Ytpncbbcmoiiipaa
open Go Go.RowKit
set_option maxRecDepth 100000
set_option maxHeartbeats 4000000
theorem Mi {xs ys:List Pn} (hl:xs.length=ys.length) (h:∀j,j<xs.length→pt xs j=pt ys j) :xs=ys:=by
 apply F1 hl
 intro i h1 h2
 rw [QK h1,QK h2]
 exact h i h1
theorem Gd (A B:Option Addr) (n m c d:Nat) (xs ys:List Pn) (w:World) (h:Pts w A n xs) (h':Pts w B m ys) (hn: (n:Int)≤9223372036854775807) :
  Calls Try.prog 66 #[.slice A n c, .slice B m d] w fun e w'=>e= .returned (.bool (decide (xs=ys)))∧Over w w':=by
 have hl:=h.1
 have hl':=h'.1
 refine Jh (m:=26) (Try.func66) J J (lb J) ?_;refine Dj ?_;refine cZ (fun c1=> ?_) (fun c1=> ?_)
 ·refine S6 ?_;refine jG J (.tmp J) ?_
  intro w' hs
  exact⟨Qy (decide_eq_false (fun e=>by subst e;omega)).symm,hs.fin⟩
 ·have hnm:n=m:=Om
  subst hnm
  refine Dg ?_;refine qC (X:=Nat) (fun k=>k≤n∧∀j,j<k→pt xs j=pt ys j) (fun k=>n- k) (fun k=> [(13, .int .i64 (k:Int))]) (kK [0,1,4,12]) 0 (⟨DQ _,fun j hj=>absurd hj Om⟩) ⟨J,sz⟩ ?_
  intro k hk L hL1
  refine v9 ?_
  obtain ⟨hk1,hk2⟩ :=hk
  refine S5 ?_;refine cZ (fun c2=> ?_) (fun c2=> ?_)
  ·have hlt:k<n:=Om
   obtain ⟨eb,eo,rfl,_⟩ :=h.2 Om
   obtain ⟨fb,fo,rfl,_⟩ :=h'.2 Om
   refine Dh ?_;refine qb 9 ?_;refine dK 0 ?_;refine dK 1 ?_;refine dK 2 ?_;refine dZ 3 J (jj J J jh J (VS (b:=eb) (o:=eo) h hlt)) ?_;refine dK 4 ?_;refine dK 5 ?_;refine dK 6 ?_;refine dZ 7 J (jj J J jh J (VS (b:=fb) (o:=fo) h' hlt)) ?_;refine dK 8 ?_;refine JI Kr ?_;refine S1 ?_;refine cZ (fun c3=> ?_) (fun c3=> ?_)
   ·refine Dg ?_;refine jG J (.tmp J) ?_
    intro w' hs
    exact⟨Qy (decide_eq_false (fun e=>by subst e;simp at c3)).symm,hs.fin⟩
   ·have he:pt xs k=pt ys k:= (by simp at c3;exact Prod.ext c3.1 c3.2)
    refine S7 ?_
    exact qy hL1 (k+1) (⟨by omega,fun j hj=>by by_cases hjk:j=k;rw [hjk];exact he;exact hk2 j Om⟩) Om ⟨vi Om,sz⟩ (u9 rfl)
  ·refine Dg ?_;refine jG J (.tmp J) ?_
   intro w' hs
   exact⟨Qy (decide_eq_true (Mi Om fun j hj=>hk2 j Om)).symm,hs.fin⟩
theorem zd (A B:Option Addr) (n m c d:Nat) (xs ys:List Pn) (w:World) (h:Pts w A n xs) (h':Pts w B m ys) (hn: (n:Int)≤9223372036854775807) :
  Calls Try.prog 65 #[Zx A n c,Zx B m d] w fun e w'=>e= .returned (.bool (decide (xs=ys)))∧Over w w':=by
 refine Jh (m:=10) (Try.func65) J J (lb J) ?_;refine S3 ?_;refine aX (fun b1=> ?_);refine N1 ?_;refine aX (fun b2=> ?_);refine N8 ?_;refine a9 (jN kG J J (fun w1 hs=>Gd A B n m c d xs ys w1 (h.over hs.fin) (h'.over hs.fin) hn)) ?_;refine S3 ?_;refine jG J (.tmp J) ?_
 intro w' hs
 exact⟨rfl,hs.fin⟩
theorem yw (A B:Option Addr) (n m c d:Nat) (rs ss:List jx) (w:World) (h:Rings w A n rs) (h':Rings w B m ss) (hn: (n:Int)≤9223372036854775807) :
  Calls Try.prog 64 #[.slice A n c, .slice B m d, .func (.func 65) #[] #[]] w fun e w'=>e= .returned (.bool (decide (rs=ss)))∧Over w w':=by
 have hl:=h.1
 have hl':=h'.1
 refine Jh (m:=32) (Try.func64) J J (lb J) ?_;refine Dj ?_;refine cZ (fun c1=> ?_) (fun c1=> ?_)
 ·refine S6 ?_;refine jG J (.tmp J) ?_
  intro w' hs
  exact⟨Qy (decide_eq_false (fun e=>by subst e;omega)).symm,hs.fin⟩
 ·have hnm:n=m:=Om
  subst hnm
  refine Dg ?_;refine qC (X:=Nat) (fun k=>k≤n∧∀j,j<k→rg rs j=rg ss j) (fun k=>n- k) (fun k=> [(17, .int .i64 (k:Int))]) (kK [1,2,6,15,16]) 0 (⟨DQ _,fun j hj=>absurd hj Om⟩) ⟨J,sz⟩ ?_
  intro k hk L hL1
  refine v9 ?_
  obtain ⟨hk1,hk2⟩ :=hk
  refine S5 ?_;refine cZ (fun c2=> ?_) (fun c2=> ?_)
  ·have hlt:k<n:=Om
   obtain ⟨eb,eo,Ak,ck,rfl,hbB,hcell,hpts,hmax⟩ :=h.at_ hlt
   obtain ⟨fb,fo,Bk,dk,rfl,hbB2,hcell2,hpts2,hmax2⟩ :=h'.at_ hlt
   refine S8 ?_;refine a9 (jj J J qg J (zb hcell hbB)) ?_;refine S1 ?_;refine aL (fun b1=> ?_);refine N9 ?_;refine a9 (jj J J qg J (zb hcell2 hbB2)) ?_;refine S1 ?_;refine aL (fun b2=> ?_);refine N8 ?_;refine a9 (KV VM J J J (fun w1 hs=>zd Ak Bk _ _ ck dk (rg rs k) (rg ss k) w1 (hpts.over hs.fin) (hpts2.over hs.fin) hmax)) ?_;refine S2 ?_;refine cZ (fun c3=> ?_) (fun c3=> ?_)
   ·refine Dg ?_;refine jG J (.tmp J) ?_
    intro w' hs
    exact⟨Qy (decide_eq_false (fun e=>by subst e;simp at c3)).symm,hs.fin⟩
   ·have he:rg rs k=rg ss k:= (by simpa using c3)
    refine S7 ?_
    exact qy hL1 (k+1) (⟨by omega,fun j hj=>by by_cases hjk:j=k;rw [hjk];exact he;exact hk2 j Om⟩) Om ⟨vi Om,sz⟩ (u9 rfl)
  ·refine Dg ?_;refine jG J (.tmp J) ?_
   intro w' hs
   exact⟨Qy (decide_eq_true (OL Om fun j hj=>hk2 j Om)).symm,hs.fin⟩
theorem Ux (A B:Option Addr) (n m c d:Nat) (rs ss:List jx) (w:World) (h:Rings w A n rs) (h':Rings w B m ss) (hn: (n:Int)≤9223372036854775807) :
  Calls Try.prog 38 #[kP A n c,kP B m d] w fun e w'=>e= .returned (.bool (decide (rs=ss)))∧Over w w':=by
 refine Jh (m:=10) (Try.func38) J J (lb J) ?_;refine S3 ?_;refine aX (fun b1=> ?_);refine N1 ?_;refine aX (fun b2=> ?_);refine N8 ?_;refine a9 (jN qv J J (fun w1 hs=>yw A B n m c d rs ss w1 (h.over hs.fin) (h'.over hs.fin) hn)) ?_;refine S3 ?_;refine jG J (.tmp J) ?_
 intro w' hs
 exact⟨rfl,hs.fin⟩
theorem XG {w:World} {l:List Pc} (h: (vL l).P w) {e:Pc} (he:e∈l) :Pts w e.A e.xs.length e.xs:=by
 have h1:= (h.1 e.res (Fi.2 ⟨e,he,rfl⟩)).1
 exact(OG h1).pts
theorem ul {w:World} {B T n:Nat} {l:List Pc} {x:Option Addr×Nat} (hr: (qx B T 1 n (l.map Pc.val) x).P w) (hP: (vL l).P w) (hl:l.length=n) (hs:∀e∈l,e.xs.length≤1099511627776) :Rings w x.1 n (l.map (·.xs)) :=by
 have hrow:w.ownsRow B T 1 (.slice x.1 n x.2) n (l.map Pc.val) :=hr
 refine⟨by rw [Fc,hl],fun h0=> ?_⟩
 rcases hrow.2 with⟨_,e⟩ |⟨g,cap,cur,e,hb,hg,_⟩
 ·omega
 ·injection e with e1 e2 e3
  refine⟨g,0,e1,JE hg,fun k hk=> ?_⟩
  have hkl:k<l.length:=by omega
  have hm:=DR hkl
  rw [VU hkl]
  refine⟨l[k].A,l[k].c,?_,XG hP hm,by have:=hs _ hm;omega⟩
  have:=hrow.cells (g:=g) (by show Value.ownBlock (.slice x.1 n x.2) =some g;rw [e1];rfl) k l[k].val (by rw [List.getElem?_map,List.getElem?_eq_getElem hkl];rfl)
  rw [Q5] at this
  exact this
abbrev G6:=Bool×(Option Addr×Nat)×List Pc
def Kw (w:World) (n:Nat) (rs:List jx) (x:G6) :Res:=
 if x.1=true then {F:=fun _=>False,P:=fun _=>Rings w x.2.1.1 n rs,low:=fun _ _ _ h=>h.elim,B:=0,dep:=fun _ _ h _ _=>h} else qx (Bs.N ⟨w,[]⟩) 38 1 n (x.2.2.map Pc.val) x.2.1
def vp (x:G6) :Res:=
 if x.1=true then {F:=fun _=>False,P:=fun _=>True,low:=fun _ _ _ h=>h.elim,B:=0,dep:=fun _ _ h _ _=>h} else vL x.2.2
theorem LU {w:World} {m:Nat} {env:List (Nat×Value)} {Rs:List Res} {K:Act→World→Prop} {A:Option Addr} {n c:Nat} {rs:List jx} (h0:Rings w A n rs) (h:At m env ⟨w,[]⟩ (Rs++ [Kw w n rs (true,(A,c),[])] ++ [vp (true,(A,c),[])]) K) :At m env ⟨w,[]⟩ Rs K:=
 fun a w1 hf hs=>h a w1 hf ((hs.add (r:=Kw w n rs (true,(A,c),[])) (Over.refl _) (show Rings w A n rs from h0) (fun b hb=> (show False from hb).elim) ⟨DQ _,fun _ _=>DQ _⟩).add (r:=vp (true,(A,c),[])) (Over.refl _) (show True from trivial) (fun b hb=> (show False from hb).elim) ⟨DQ _,fun _ _=>DQ _⟩)
theorem Gp {w w':World} {n:Nat} {rs:List jx} {x:G6} (hr: (Kw w n rs x).P w') (hp: (vp x).P w') (hO:Over w w') (hx:x.1=false→x.2.2.map (·.xs) =rs) (hn:rs.length=n) (hsm:∀r∈rs,r.length≤1099511627776) :Rings w' x.2.1.1 n rs:=by
 unfold Kw at hr
 unfold vp at hp
 by_cases hf:x.1=true
 ·rw [if_pos hf] at hr
  exact(show Rings w x.2.1.1 n rs from hr).over hO
 ·rw [if_neg hf] at hr hp
  have e:=hx (by simpa using hf)
  have hll:x.2.2.length=n:=by have:=congrArg List.length e;rw [Fc] at this;omega
  have:=ul hr hp hll (fun d hd=>hsm d.xs (e▸Fi.2 ⟨d,hd,rfl⟩))
  rwa [e] at this
theorem Oa {w w1:World} {n k:Nat} {rs:List jx} {x:G6} (hr: (Kw w n rs x).P w1) (hp: (vp x).P w1) (hx:x.1=false→x.2.2.map (·.xs) =rs) (hn:rs.length=n) (hk:k<n) :
  ∃bb oo,x.2.1.1=some ⟨bb,oo,none⟩∧∃Ak ck,∀w',(Kw w n rs x).P w'→(vp x).P w'→Over w w'→w'.cell? ⟨bb,oo+k,none⟩ =some (.slice Ak (rg rs k).length ck)∧Pts w' Ak (rg rs k).length (rg rs k) :=by
 by_cases hf:x.1=true
 ·have hR:Rings w x.2.1.1 n rs:=by unfold Kw at hr;rw [if_pos hf] at hr;exact hr
  obtain ⟨bb,oo,Ak,ck,e,hbB,hcell,hpts,_⟩ :=hR.at_ hk
  exact⟨bb,oo,e,Ak,ck,fun w' _ _ hO=>⟨((jD hO).1 bb _ hbB).trans hcell,hpts.over hO⟩⟩
 ·have e:=hx (by simpa using hf)
  have hll:x.2.2.length=n:=by have:=congrArg List.length e;rw [Fc] at this;omega
  have hkl:k<x.2.2.length:=by omega
  have hrow:w1.ownsRow (Bs.N ⟨w,[]⟩) 38 1 (.slice x.2.1.1 n x.2.1.2) n (x.2.2.map Pc.val) :=by unfold Kw at hr;rw [if_neg hf] at hr;exact hr
  rcases hrow.2 with⟨_,e0⟩ |⟨g,cap,cur,e0,hb,hg,_⟩
  ·omega
  ·injection e0 with e1 e2 e3
   have hrg:rg rs k=x.2.2[k].xs:=by rw [←e,VU hkl]
   refine⟨g,0,e1,x.2.2[k].A,x.2.2[k].c,fun w' hr' hp' _=> ?_⟩
   have hrow':w'.ownsRow (Bs.N ⟨w,[]⟩) 38 1 (.slice x.2.1.1 n x.2.1.2) n (x.2.2.map Pc.val) :=by unfold Kw at hr';rw [if_neg hf] at hr';exact hr'
   have hP': (vL x.2.2).P w':=by unfold vp at hp';rw [if_neg hf] at hp';exact hp'
   rw [hrg]
   refine⟨?_,XG hP' (DR hkl)⟩
   have:=hrow'.cells (g:=g) (by show Value.ownBlock (.slice x.2.1.1 n x.2.1.2) =some g;rw [e1];rfl) k x.2.2[k].val (by rw [List.getElem?_map,List.getElem?_eq_getElem hkl];rfl)
   rw [Q5] at this
   exact this
theorem Bq {w0:Bs} {Rs:List Res} {b o k:Nat} {v:Value} (h:∀w',St w0 Rs w'→w'.cell? ⟨b,o+k,none⟩ =some v) :∀w',St w0 Rs w'→∀q u,[v][q]? =some u→w'.cell? ⟨b,o+k*1+q,none⟩ =some u:=fun w' hs q u hq=>by
 match q,hq with
 | 0,hq=>simp at hq;subst hq;rw [Nat.mul_one,Nat.add_zero];exact h w' hs
theorem yb (A:Option Addr) (n c:Nat) (rs:List jx) (B:Option Addr) (m d:Nat) (hot:List Pn) (w:World) (h:Rings w A n rs) (hr:Je rs=true)
  (hh:Pts w B m hot) (hm:m≤1048576) (hmd:m≤d) (hok:∀p∈hot,KD p.1 p.2=true) (hasc:Asc hot) (hnd:hot.Nodup) (hG:bareG hot rs) :
  Calls Try.prog 18 #[kP A n c, .slice B m d] w fun e w'=>∃A' c',e= .returned (.tuple #[kP A' (X2 hot rs).length c', .int .i64 (MJ hot rs), .int .i64 (if yh hot rs=true then 0 else 5)])∧((A'=A∧c'=c∧X2 hot rs=rs)∨OwnG w.heap.size w'.heap.size w' A' (X2 hot rs).length (X2 hot rs))∧Over w w':=by
 have hl:=h.1
 subst hl
 have hhl:=hh.1
 refine Jh (m:=63) (Try.func18) J J (lb J) ?_;refine S3 ?_;refine aX (fun b1=> ?_);refine N1 ?_;refine aL (fun b2=> ?_);refine N7 ?_;refine LU (c:=c) h ?_;refine t9 ?_;refine S1 ?_;refine JR (X:=Nat×List jx×G6) (fun x=>StabI hot rs x.2.1 x.1∧(x.2.2.1=false→x.2.2.2.2.map (·.xs) =x.2.1)∧(x.2.2.1=true→x.2.1=rs∧x.2.2.2.1= (A,c))) (fun x=>401- cnt x.2.1) (fun x=> [(7, .int .i64 (x.1:Int))]) (kK [1,2,4,5,6]) (fun x=> [.cel b1 25 [.slice x.2.2.2.1.1 x.2.1.length x.2.2.2.1.2], .cel b2 25 [.slice none 0 0],Kw w x.2.1.length x.2.1 x.2.2,vp x.2.2]) (0,rs,true,(A,c),[]) (⟨StabI.start hr hG,(fun e=>by cases e),fun _=>⟨rfl,rfl⟩⟩) ⟨rfl,sz⟩ (fun _ h=>h) ?_
 intro⟨r,ss,fl,⟨cA,cc⟩,cl⟩ hx L hL1
 refine v9 ?_;refine r9 ?_
 obtain ⟨hx1,hx2,hx3⟩ :StabI hot rs ss r∧(fl=false→cl.map (·.xs) =ss)∧(fl=true→ss=rs∧(cA,cc) = (A,c)) :=hx
 have hr400:=hx1.r_le
 have hs40:=we hx1.reg
 have hsm:∀q∈ss,q.length≤1099511627776:= (fun q hq=>by obtain ⟨i,hi,e⟩ :=Fe hq;have:=qN (kC hx1.reg hi);rw [Ku hi] at e;rw [e] at this;omega)
 refine S5 ?_;refine aL (fun b3=> ?_);refine N1 ?_;refine Ki (T:=38) (s:=1) ?_;refine t9 ?_;refine Wf ?_;refine t9 ?_;refine S9 ?_;refine JR (X:=Nat×(Option Addr×Nat)×List Pc) (fun y=>y.1≤ss.length∧y.2.2.map (·.xs) = (qk hot ss).take y.1) (fun y=>ss.length- y.1) (fun y=> [(20, .int .i64 (y.1:Int))]) (kK [1,2,4,5,6,7,8,17,18,19]) (fun y=> [.cel b1 25 [.slice cA ss.length cc], .cel b2 25 [.slice none 0 0],Kw w ss.length ss (fl,(cA,cc),cl),vp (fl,(cA,cc),cl), .cel b3 25 [.slice y.2.1.1 y.1 y.2.1.2],qx (Bs.N ⟨w,[]⟩) 38 1 y.1 (y.2.2.map Pc.val) y.2.1,vL y.2.2]) (0,(none,0),[]) (⟨DQ _,J⟩) ⟨J,sz⟩ (fun _ h=>h) ?_
 intro⟨k,⟨rA,rc⟩,l⟩ hy L hL2
 refine v9 ?_;refine r9 ?_
 obtain ⟨hk,hmp⟩ :k≤ss.length∧l.map (·.xs) = (qk hot ss).take k:=hy
 have hlk:l.length=k:= (by have:=congrArg List.length hmp;rw [Fc,Ff,kO] at this;omega)
 refine S5 ?_;refine cZ (fun c1=> ?_) (fun c1=> ?_)
 ·have hlt:k<ss.length:=Om
  refine Kh (fun w1 hs=>Oa (hs.all 2 _ J).1 (hs.all 3 _ J).1 hx2 J hlt) ?_
  rintro⟨eb,eo,eA0,Ak,ck,hread⟩
  have eA1:cA=some ⟨eb,eo,none⟩ :=eA0
  subst eA1
  have hpos:=qN (kC hx1.reg hlt)
  obtain ⟨ho1,ho2,ho3⟩ :=hx1.bare.on hlt
  have hsl:=Yp (hot:=hot) (xs:=rg ss k) Om Om
  obtain ⟨E,hEe⟩ :∃E,E=Jf (rg ss k) :=⟨_,rfl⟩
  have hEl:E.length≤400:= (by rw [hEe];omega)
  refine S7 ?_;refine a9 (jj J J qg J (Bq (fun w' hs=> (hread w' (hs.all 2 _ J).1 (hs.all 3 _ J).1 hs.fin).1))) ?_;refine S1 ?_;refine aL (fun b4=> ?_);refine N6 ?_;refine Ki (T:=27) (s:=2) ?_;refine N6 ?_;refine QQ KE (v:=fun x:Option Addr×Nat=> .slice x.1 (Jf (rg ss k)).length x.2) (r:=fun x=>qx 0 54 4 _ _ x) (H:=fun _=>True) J J J (lb J) (fun w1 hs=>KH (kA Ak _ ck (rg ss k) w1 (hread w1 (hs.all 2 _ J).1 (hs.all 3 _ J).1 hs.fin).2 Om)) ?_
  rintro⟨eA,ec⟩ -
  refine N3 ?_
  rw [←hEe]
  refine S1 ?_;refine JR (X:=Nat×Option Addr×Nat) (fun z=>z.1≤E.length) (fun z=>E.length- z.1) (fun z=> [(11, .slice z.2.1 (wY hot E z.1).length z.2.2),(27, .int .i64 (z.1:Int))]) (kK [1,2,4,5,6,7,8,17,18,19,20,21,22,23,10,24,25,26]) (fun z=> [.cel b1 25 [.slice (some ⟨eb,eo,none⟩) ss.length cc], .cel b2 25 [.slice none 0 0],Kw w ss.length ss (fl,(some ⟨eb,eo,none⟩,cc),cl),vp (fl,(some ⟨eb,eo,none⟩,cc),cl), .cel b3 25 [.slice rA k rc],qx (Bs.N ⟨w,[]⟩) 38 1 k (l.map Pc.val) (rA,rc),vL l, .cel b4 38 [.slice Ak (rg ss k).length ck],qx (Bs.N ⟨w,[]⟩) 27 2 (wY hot E z.1).length ((wY hot E z.1).flatMap jI) z.2,qx 0 54 4 E.length (E.flatMap JH) (eA,ec)]) (0,none,0) (DQ _) ⟨J,sz⟩ (fun _ h=>h) ?_
  intro⟨j,qA,qc⟩ hz L hL3
  refine v9 ?_;refine r9 ?_
  have hj:j≤E.length:=hz
  have hsn:=ya (hot:=hot) (E:=E) (m:=1048576) Om j hj
  refine S5 ?_;refine cZ (fun c2=> ?_) (fun c2=> ?_)
  ·have hjl:j<E.length:=Om
   obtain ⟨g1',g2',g3'⟩ := (hEe▸ho1:onHot hot E).at_ hjl
   obtain ⟨mid,hmid⟩ :=ui g1' g2' g3'
   have hpl:0< (qp (lA (lg E j)) (lB (lg E j)) hot).length:= (by rw [hmid];simp)
   have hpm: (qp (lA (lg E j)) (lB (lg E j)) hot).length≤1048576:= (by rw [vK];have:=ZG (lA (lg E j)) (lB (lg E j)) hot;omega)
   refine Kh (fun w hs=>WL (k:=9) J hs Om) ?_
   rintro⟨eg,rfl⟩
   refine S7 ?_;refine a9 (jj J J Qa J (U4 (b:=eg) (o:=0) (Vh (k:=9) (x:= (some ⟨eg,0,none⟩,ec)) (ls:=E) J J) hjl)) ?_;refine S1 ?_;refine aL (fun b5=> ?_);refine N1 ?_;refine j9 10 qJ.szx ?_;refine N4 ?_;refine a9 (jj J J jh J (wV (k:=10) J J J)) ?_;refine S1 ?_;refine a9 (jj J J jh J (wV (k:=10) J J J)) ?_;refine S2 ?_;refine QQ ud (v:=fun x:Option Addr×Nat=> .slice x.1 (qp (lA (lg E j)) (lB (lg E j)) hot).length x.2) (r:=fun x=>qx 0 27 2 (qp (lA (lg E j)) (lB (lg E j)) hot).length ((qp (lA (lg E j)) (lB (lg E j)) hot).flatMap jI) x) (H:=fun _=>True) J J J (lb J) (fun w1 hs=>KH (zg (lA (lg E j)) (lB (lg E j)) B m d hot w1 (hh.over hs.fin) (hok _ g2') (hok _ g3') hok hasc hmd hm)) ?_
   rintro⟨pA,pc⟩ -
   refine N2 ?_;refine Kh (fun w hs=>WL (k:=11) J hs hpl) ?_
   rintro⟨pg,rfl⟩
   refine Kh (fun w hs=>U6 (hs.all 11 _ J).1) ?_
   intro hcap
   have hst:wY hot E (j+1) =wY hot E j++ (qp (lA (lg E j)) (lB (lg E j)) hot).take ((qp (lA (lg E j)) (lB (lg E j)) hot).length- 1) := (by rw [Yo hjl];unfold J3;rw [List.dropLast_eq_take])
   have hstl: (wY hot E (j+1)).length= (wY hot E j).length+ ((qp (lA (lg E j)) (lB (lg E j)) hot).length- 1) := (by rw [hst,DK,Ff];omega)
   refine S5 ?_;refine a9 ((Jy J J J Om Om).as (congrArg _ (show(((qp (lA (lg E j)) (lB (lg E j)) hot).length:Int) - 1) = (((qp (lA (lg E j)) (lB (lg E j)) hot).length- 1:Nat) :Int) by omega))) ?_;refine a9 ((wd J J J js Om).as (Uq _ _ _ _ _)) ?_;refine S1 ?_;refine Qe (k:=8) J js jJ Dc J Dc J J J (fun w' hs=>MH (Li (hs.all 11 _ J).1 J) Om) (Zs _) (by unfold maxLen;omega) Om (DM _) (fun r1=> ?_);refine N8 ?_
   exact Jo hL3 ((j+1,r1)) ((show j+1≤E.length by omega)) (by simp only;omega) ⟨(by rw [hstl];rfl),vi Om,sz⟩ (fun _ h=> (h.picks [0,1,2,3,4,5,6,7,8,9] Dc).upto ⟨J,J,J,J,J,J,J,J,by rw [hstl,hst,Fs],sz⟩)
  ·have hjE:j=E.length:=Om
   subst hjE
   rw [show wY hot E E.length=Qg hot (rg ss k) by rw [ZB,hEe]]
   refine S9 ?_;refine a9 (JU J J (Kv J)) ?_;refine S1 ?_;refine JY J J (Qo J) J (lb J) (fun b6=> ?_);refine N1 ?_;refine Qe (k:=5) J Jl JD Dc J Dc J J J (fun w' hs=>Kl hs (k:=10) J J) (by simp [Value.oneCell']) (by unfold maxLen;omega) Om (DM _) (fun r2=> ?_);refine N4 ?_;refine He 8 J J (fun clo chi=> ?_);refine t9 ?_;refine Uc 6 8 J J Dc J ?_;refine t9 ?_;refine S6 ?_
   exact Jo hL2 ((k+1,r2,l++ [⟨Qg hot (rg ss k),qA,qc,clo,chi⟩])) (⟨show k+1≤ss.length by omega,by rw [FC,hmp,vO (by rw [kO];omega),Zw hlt];rfl⟩) (by simp only;omega) ⟨vi Om,sz⟩ (fun _ h=> (h.picks [0,1,2,3,4,5,6] Dc).upto ⟨J,J,J,J,J,by rw [FC];rfl,(wc _ _).symm,trivial⟩)
 ·have hkn:k=ss.length:=Om
  subst hkn
  have hall:l.map (·.xs) =qk hot ss:= (by rw [hmp,Fk (by rw [kO];omega)])
  have hsml:∀e∈l,e.xs.length≤1099511627776:= (fun e he=>by obtain ⟨q,hq,e2⟩ :=Fi.1 (hall▸Fi.2 ⟨e,he,rfl⟩ :e.xs∈qk hot ss);rw [←e2];obtain ⟨i,hi,e3⟩ :=Fe hq;have:=qN (kC hx1.reg hi);rw [Ku hi] at e3;rw [e3] at this;have:=Yp (hot:=hot) (xs:=q) Om Om;omega)
  refine Dg ?_;refine a9 (jN wO J J (fun w1 hs=>Ux rA cA ss.length ss.length rc cc (qk hot ss) ss w1 (hall▸ul (hs.all 5 _ J).1 (hs.all 6 _ J).1 hlk hsml) (Gp (hs.all 2 _ J).1 (hs.all 3 _ J).1 hs.fin hx2 J hsm) Om)) ?_;refine S1 ?_;refine cZ (fun c3=> ?_) (fun c3=> ?_)
  ·have hsame:qk hot ss=ss:= (by simpa using c3)
   refine Dl ?_;refine Ud J (qO (k:=1) J jL J J) (.tmp J) (.tmp J) ?_
   intro w' hs
   obtain ⟨e1,e2,e3⟩ :=zl (hx1.fin hsame)
   refine⟨cA,cc,by rw [e1,e2,e3];rfl,?_,hs.fin⟩
   rw [e1]
   cases fl
   ·exact .inr (Zp hs (kr:=2) (kp:=3) rfl rfl Dc rfl (by have:=congrArg List.length (hx2 rfl);rw [Fc] at this;omega) (hx2 rfl) (fun j hj=>by have:=hsm _ (DR hj);rw [Ku hj] at this;omega))
   ·exact(by obtain ⟨q1,q2⟩ :=hx3 rfl;injection q2 with q2 q3;exact .inl ⟨q2,q3,q1⟩)
  ·refine S6 ?_;refine a9 (jN Qz J J (fun w1 hs=>uP rA ss.length rc (qk hot ss) w1 (hall▸ul (hs.all 5 _ J).1 (hs.all 6 _ J).1 hlk hsml) Om)) ?_;refine S2 ?_;refine cZ (fun c4=> ?_) (fun c4=> ?_)
   ·refine S2 ?_;refine a9 (JU J J (kb)) ?_;refine Dh ?_;refine Ud J (qO (k:=1) J jL J J) (.tmp J) (.tmp J) ?_
    intro w' hs
    obtain ⟨e1,e2,e3⟩ :=MK (hx1.full c4)
    exact⟨none,0,by rw [e1,e2,e3];rfl,by rw [e1];exact .inr (OwnG.nil none),hs.fin⟩
   ·obtain ⟨k1,k2⟩ :=hx1.step hnd c4 (by simpa using c3)
    have hc4:=XP k1.reg k1.bare
    refine Dk ?_
    exact Jo hL1 ((r+1,qk hot ss,false,(rA,rc),l)) (⟨k1,(fun _=>hall),(fun e=>by cases e)⟩) (by simp only;omega) ⟨vi Om,sz⟩ (fun _ h=> (h.picks [0,1,5,6] Dc).upto ⟨by rw [kO],rfl,by rw [kO];rfl,sz⟩)
end Go.Proofs.Ytpncbbcmoiiipaa
