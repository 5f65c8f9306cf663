import Derived.Test.YtbahojdbmmjkcaaGreatSNetS
import Derived.Test.YtbahojdbmmjkcaaGreatSEnds
import Derived.Test.YtbahojdbmmjkcaaGreatSNums
import Derived.Test.YtbahojdbmmjkcaaGreatSSnapB
set_option linter.unusedVariables false
set_option linter.unusedSimpArgs false
namespace Go.Proofs.YtbahojdbmmjkcaaGreat
open Go Go.RowKit
variable {A:Option Addr} {K:Act→World→Prop} {Rs:List Res} {env:List (Nat×Value)} {l:List Pc} {n:Nat} {rs:List Jp} {w:World} {x:Option Addr×Nat}
set_option maxRecDepth 100000
set_option maxHeartbeats 4000000
theorem jeH {xs ys:List Pn} (hl:xs.length=ys.length) (h:∀j,j<xs.length→pt xs j=pt ys j) :xs=ys:=by
 apply jjp hl
 intro i h1 h2
 rw [kB h1,kB h2]
 exact h i h1
theorem ED (A B:Option Addr) (n m c d:Nat) (xs ys:List Pn) (w:World) (h:Pts w A n xs) (h':Pts w B m ys) (hn: (n:Int)≤9223372036854775807) :
  Calls Tryz.prog 142 #[.slice A n c, .slice B m d] w fun e w'=>e= .returned (.bool (decide (xs=ys)))∧Over w w':=by
 have hl:=h.1
 have hl':=h'.1
 refine jK (m:=26) (Tryz.func142) J J (lb J) ?_;refine S13 ?_;refine cZ (fun c1=> ?_) (fun c1=> ?_)
 ·refine S6 ?_;refine jJ J (.tmp J) ?_
  intro w' hs
  exact⟨QH (decide_eq_false (fun e=>by subst e;omega)).symm,hs.fin⟩
 ·have hnm:n=m:=Om
  subst hnm
  refine S10 ?_;refine qj (X:=Nat) (fun k=>k≤n∧∀j,j<k→pt xs j=pt ys j) (fun k=>n- k) (fun k=> [(13, .int .i64 (k:Int))]) (kK [0,1,4,12]) 0 (⟨jie _,fun j hj=>absurd hj Om⟩) ⟨J,sz⟩ ?_
  intro k hk L hL1
  refine v9 ?_
  obtain ⟨hk1,hk2⟩ :=hk
  refine S5 ?_;refine cZ (fun c2=> ?_) (fun c2=> ?_)
  ·have hlt:k<n:=Om
   obtain ⟨eb,eo,rfl,_⟩ :=h.2 Om
   obtain ⟨fb,fo,rfl,_⟩ :=h'.2 Om
   refine S11 ?_;refine JH 9 ?_;refine dK 0 ?_;refine dK 1 ?_;refine dK 2 ?_;refine dZ 3 J (jk J J jj J (Q4 (b:=eb) (o:=eo) h hlt)) ?_;refine dK 4 ?_;refine dK 5 ?_;refine dK 6 ?_;refine dZ 7 J (jk J J jj J (Q4 (b:=fb) (o:=fo) h' hlt)) ?_;refine dK 8 ?_;refine JB Kr ?_;refine S1 ?_;refine cZ (fun c3=> ?_) (fun c3=> ?_)
   ·refine S10 ?_;refine jJ J (.tmp J) ?_
    intro w' hs
    exact⟨QH (decide_eq_false (fun e=>by subst e;simp at c3)).symm,hs.fin⟩
   ·have he:pt xs k=pt ys k:= (by simp at c3;exact Prod.ext c3.1 c3.2)
    refine S7 ?_
    exact qa hL1 (k+1) (⟨by omega,fun j hj=>by by_cases hjk:j=k;rw [hjk];exact he;exact hk2 j Om⟩) Om ⟨vi Om,sz⟩ (u9 rfl)
  ·refine S10 ?_;refine jJ J (.tmp J) ?_
   intro w' hs
   exact⟨QH (decide_eq_true (jeH Om fun j hj=>hk2 j Om)).symm,hs.fin⟩
theorem I4 (A B:Option Addr) (n m c d:Nat) (xs ys:List Pn) (w:World) (h:Pts w A n xs) (h':Pts w B m ys) (hn: (n:Int)≤9223372036854775807) :
  Calls Tryz.prog 177 #[H6 A n c,H6 B m d] w fun e w'=>e= .returned (.bool (decide (xs=ys)))∧Over w w':=by
 refine jK (m:=10) (Tryz.func177) J J (lb J) ?_;refine S3 ?_;refine aX (fun b1=> ?_);refine N1 ?_;refine aX (fun b2=> ?_);refine N8 ?_;refine a9 (jG KL J J (fun w1 hs=>ED A B n m c d xs ys w1 (h.over hs.fin) (h'.over hs.fin) hn)) ?_;refine S3 ?_;refine jJ J (.tmp J) ?_
 intro w' hs
 exact⟨rfl,hs.fin⟩
theorem BM (A B:Option Addr) (n m c d:Nat) (rs ss:List Jp) (w:World) (h:Rings w A n rs) (h':Rings w B m ss) (hn: (n:Int)≤9223372036854775807) :
  Calls Tryz.prog 176 #[.slice A n c, .slice B m d, .func (.func 177) #[] #[]] w fun e w'=>e= .returned (.bool (decide (rs=ss)))∧Over w w':=by
 have hl:=h.1
 have hl':=h'.1
 refine jK (m:=32) (Tryz.func176) J J (lb J) ?_;refine S13 ?_;refine cZ (fun c1=> ?_) (fun c1=> ?_)
 ·refine S6 ?_;refine jJ J (.tmp J) ?_
  intro w' hs
  exact⟨QH (decide_eq_false (fun e=>by subst e;omega)).symm,hs.fin⟩
 ·have hnm:n=m:=Om
  subst hnm
  refine S10 ?_;refine qj (X:=Nat) (fun k=>k≤n∧∀j,j<k→rg rs j=rg ss j) (fun k=>n- k) (fun k=> [(17, .int .i64 (k:Int))]) (kK [1,2,6,15,16]) 0 (⟨jie _,fun j hj=>absurd hj Om⟩) ⟨J,sz⟩ ?_
  intro k hk L hL1
  refine v9 ?_
  obtain ⟨hk1,hk2⟩ :=hk
  refine S5 ?_;refine cZ (fun c2=> ?_) (fun c2=> ?_)
  ·have hlt:k<n:=Om
   obtain ⟨eb,eo,Ak,ck,rfl,hbB,hcell,hpts,hmax⟩ :=h.at_ hlt
   obtain ⟨fb,fo,Bk,dk,rfl,hbB2,hcell2,hpts2,hmax2⟩ :=h'.at_ hlt
   refine S8 ?_;refine a9 (jk J J JW J (OX hcell hbB)) ?_;refine S1 ?_;refine aL (fun b1=> ?_);refine N9 ?_;refine a9 (jk J J JW J (OX hcell2 hbB2)) ?_;refine S1 ?_;refine aL (fun b2=> ?_);refine N8 ?_;refine a9 (vV zy J J J (fun w1 hs=>I4 Ak Bk _ _ ck dk (rg rs k) (rg ss k) w1 (hpts.over hs.fin) (hpts2.over hs.fin) hmax)) ?_;refine S2 ?_;refine cZ (fun c3=> ?_) (fun c3=> ?_)
   ·refine S10 ?_;refine jJ J (.tmp J) ?_
    intro w' hs
    exact⟨QH (decide_eq_false (fun e=>by subst e;simp at c3)).symm,hs.fin⟩
   ·have he:rg rs k=rg ss k:= (by simpa using c3)
    refine S7 ?_
    exact qa hL1 (k+1) (⟨by omega,fun j hj=>by by_cases hjk:j=k;rw [hjk];exact he;exact hk2 j Om⟩) Om ⟨vi Om,sz⟩ (u9 rfl)
  ·refine S10 ?_;refine jJ J (.tmp J) ?_
   intro w' hs
   exact⟨QH (decide_eq_true (Ps Om fun j hj=>hk2 j Om)).symm,hs.fin⟩
theorem Mm (A B:Option Addr) (n m c d:Nat) (rs ss:List Jp) (w:World) (h:Rings w A n rs) (h':Rings w B m ss) (hn: (n:Int)≤9223372036854775807) :
  Calls Tryz.prog 115 #[qG A n c,qG B m d] w fun e w'=>e= .returned (.bool (decide (rs=ss)))∧Over w w':=by
 refine jK (m:=10) (Tryz.func115) J J (lb J) ?_;refine S3 ?_;refine aX (fun b1=> ?_);refine N1 ?_;refine aX (fun b2=> ?_);refine N8 ?_;refine a9 (jG kt J J (fun w1 hs=>BM A B n m c d rs ss w1 (h.over hs.fin) (h'.over hs.fin) hn)) ?_;refine S3 ?_;refine jJ J (.tmp J) ?_
 intro w' hs
 exact⟨rfl,hs.fin⟩
theorem CM (h: (vu l).P w) {e:Pc} (he:e∈l) :Pts w e.A e.xs.length e.xs:=by
 have h1:= (h.1 e.res (jiD.2 ⟨e,he,rfl⟩)).1
 exact(jaF h1).pts
theorem G8 {B T:Nat} (hr: (JS B T 1 n (l.map Pc.val) x).P w) (hP: (vu l).P w) (hl:l.length=n) (hs:∀e∈l,e.xs.length≤1099511627776) :Rings w x.1 n (l.map (·.xs)) :=by
 have hrow:w.ownsRow B T 1 (.slice x.1 n x.2) n (l.map Pc.val) :=hr
 refine⟨by rw [jip,hl],fun h0=> ?_⟩
 rcases hrow.2 with⟨_,e⟩ |⟨g,cap,cur,e,hb,hg,_⟩
 ·omega
 ·injection e with e1 e2 e3
  refine⟨g,0,e1,J4 hg,fun k hk=> ?_⟩
  have hkl:k<l.length:=by omega
  have hm:=jir hkl
  rw [Yf hkl]
  refine⟨l[k].A,l[k].c,?_,CM hP hm,by have:=hs _ hm;omega⟩
  have:=hrow.cells (g:=g) (by show Value.ownBlock (.slice x.1 n x.2) =some g;rw [e1];rfl) k l[k].val (by rw [List.getElem?_map,List.getElem?_eq_getElem hkl];rfl)
  rw [Q1] at this
  exact this
abbrev jbd:=Bool×(Option Addr×Nat)×List Pc
def uo (w:World) (n:Nat) (rs:List Jp) (x:jbd) :Res:=
 if x.1=true then {F:=fun _=>False,P:=fun _=>Rings w x.2.1.1 n rs,low:=fun _ _ _ h=>h.elim,B:=0,dep:=fun _ _ h _ _=>h} else JS (Bs.N ⟨w,[]⟩) 74 1 n (x.2.2.map Pc.val) x.2.1
def UU (x:jbd) :Res:=
 if x.1=true then {F:=fun _=>False,P:=fun _=>True,low:=fun _ _ _ h=>h.elim,B:=0,dep:=fun _ _ h _ _=>h} else vu x.2.2
theorem jd4 {m:Nat} {c:Nat} (h0:Rings w A n rs) (h:At m env ⟨w,[]⟩ (Rs++ [uo w n rs (true,(A,c),[])] ++ [UU (true,(A,c),[])]) K) :At m env ⟨w,[]⟩ Rs K:=
 fun a w1 hf hs=>h a w1 hf ((hs.add (r:=uo w n rs (true,(A,c),[])) (Over.refl _) (show Rings w A n rs from h0) (fun b hb=> (show False from hb).elim) ⟨jie _,fun _ _=>jie _⟩).add (r:=UU (true,(A,c),[])) (Over.refl _) (show True from trivial) (fun b hb=> (show False from hb).elim) ⟨jie _,fun _ _=>jie _⟩)
theorem EZ {w':World} {x:jbd} (hr: (uo w n rs x).P w') (hp: (UU x).P w') (hO:Over w w') (hx:x.1=false→x.2.2.map (·.xs) =rs) (hn:rs.length=n) (hsm:∀r∈rs,r.length≤1099511627776) :Rings w' x.2.1.1 n rs:=by
 unfold uo at hr
 unfold UU at hp
 by_cases hf:x.1=true
 ·rw [if_pos hf] at hr
  exact(show Rings w x.2.1.1 n rs from hr).over hO
 ·rw [if_neg hf] at hr hp
  have e:=hx (by simpa using hf)
  have hll:x.2.2.length=n:=by have:=congrArg List.length e;rw [jip] at this;omega
  have:=G8 hr hp hll (fun d hd=>hsm d.xs (e▸jiD.2 ⟨d,hd,rfl⟩))
  rwa [e] at this
theorem jgk {w1:World} {k:Nat} {x:jbd} (hr: (uo w n rs x).P w1) (hp: (UU x).P w1) (hx:x.1=false→x.2.2.map (·.xs) =rs) (hn:rs.length=n) (hk:k<n) :
  ∃bb oo,x.2.1.1=some ⟨bb,oo,none⟩∧∃Ak ck,∀w',(uo w n rs x).P w'→(UU x).P w'→Over w w'→w'.cell? ⟨bb,oo+k,none⟩ =some (.slice Ak (rg rs k).length ck)∧Pts w' Ak (rg rs k).length (rg rs k) :=by
 by_cases hf:x.1=true
 ·have hR:Rings w x.2.1.1 n rs:=by unfold uo at hr;rw [if_pos hf] at hr;exact hr
  obtain ⟨bb,oo,Ak,ck,e,hbB,hcell,hpts,_⟩ :=hR.at_ hk
  exact⟨bb,oo,e,Ak,ck,fun w' _ _ hO=>⟨((Jr hO).1 bb _ hbB).trans hcell,hpts.over hO⟩⟩
 ·have e:=hx (by simpa using hf)
  have hll:x.2.2.length=n:=by have:=congrArg List.length e;rw [jip] at this;omega
  have hkl:k<x.2.2.length:=by omega
  have hrow:w1.ownsRow (Bs.N ⟨w,[]⟩) 74 1 (.slice x.2.1.1 n x.2.1.2) n (x.2.2.map Pc.val) :=by unfold uo at hr;rw [if_neg hf] at hr;exact hr
  rcases hrow.2 with⟨_,e0⟩ |⟨g,cap,cur,e0,hb,hg,_⟩
  ·omega
  ·injection e0 with e1 e2 e3
   have hrg:rg rs k=x.2.2[k].xs:=by rw [←e,Yf hkl]
   refine⟨g,0,e1,x.2.2[k].A,x.2.2[k].c,fun w' hr' hp' _=> ?_⟩
   have hrow':w'.ownsRow (Bs.N ⟨w,[]⟩) 74 1 (.slice x.2.1.1 n x.2.1.2) n (x.2.2.map Pc.val) :=by unfold uo at hr';rw [if_neg hf] at hr';exact hr'
   have hP': (vu x.2.2).P w':=by unfold UU at hp';rw [if_neg hf] at hp';exact hp'
   rw [hrg]
   refine⟨?_,CM hP' (jir hkl)⟩
   have:=hrow'.cells (g:=g) (by show Value.ownBlock (.slice x.2.1.1 n x.2.1.2) =some g;rw [e1];rfl) k x.2.2[k].val (by rw [List.getElem?_map,List.getElem?_eq_getElem hkl];rfl)
   rw [Q1] at this
   exact this
theorem jhI {w0:Bs} {b o k:Nat} {v:Value} (h:∀w',St w0 Rs w'→w'.cell? ⟨b,o+k,none⟩ =some v) :∀w',St w0 Rs w'→∀q u,[v][q]? =some u→w'.cell? ⟨b,o+k*1+q,none⟩ =some u:=fun w' hs q u hq=>by
 match q,hq with
 | 0,hq=>simp at hq;subst hq;rw [jja,jjO];exact h w' hs
theorem z7 (A:Option Addr) (n c:Nat) (rs:List Jp) (B:Option Addr) (m d:Nat) (hot:List Pn) (w:World) (h:Rings w A n rs) (hr:J0 rs=true) (hh:Pts w B m hot) (hm:m≤1048576) (hmd:m≤d) (hok:∀p∈hot,wX p.1 p.2=true) (hasc:Asc hot) (hnd:hot.Nodup) (hG:bareG hot rs) :
  Calls Tryz.prog 58 #[qG A n c, .slice B m d] w fun e w'=>∃A' c',e= .returned (.tuple #[qG A' (TX hot rs).length c', .int .i64 (Er hot rs), .int .i64 (if Rc hot rs=true then 0 else 5)])∧((A'=A∧c'=c∧TX hot rs=rs)∨OwnG w.heap.size w'.heap.size w' A' (TX hot rs).length (TX hot rs))∧Over w w':=by
 have hl:=h.1
 subst hl
 have hhl:=hh.1
 refine jK (m:=63) (Tryz.func58) J J (lb J) ?_;refine S3 ?_;refine aX (fun b1=> ?_);refine N1 ?_;refine aL (fun b2=> ?_);refine N7 ?_;refine jd4 (c:=c) h ?_;refine t9 ?_;refine S1 ?_;refine JE (X:=Nat×List Jp×jbd) (fun x=>StabI hot rs x.2.1 x.1∧(x.2.2.1=false→x.2.2.2.2.map (·.xs) =x.2.1)∧(x.2.2.1=true→x.2.1=rs∧x.2.2.2.1= (A,c))) (fun x=>401- cnt x.2.1) (fun x=> [(7, .int .i64 (x.1:Int))]) (kK [1,2,4,5,6]) (fun x=> [.cel b1 26 [.slice x.2.2.2.1.1 x.2.1.length x.2.2.2.1.2], .cel b2 26 [.slice none 0 0],uo w x.2.1.length x.2.1 x.2.2,UU x.2.2]) (0,rs,true,(A,c),[]) (⟨StabI.start hr hG,(fun e=>by cases e),fun _=>⟨rfl,rfl⟩⟩) ⟨rfl,sz⟩ (fun _ h=>h) ?_
 intro⟨r,ss,fl,⟨cA,cc⟩,cl⟩ hx L hL1
 refine v9 ?_;refine r9 ?_
 obtain ⟨hx1,hx2,hx3⟩ :StabI hot rs ss r∧(fl=false→cl.map (·.xs) =ss)∧(fl=true→ss=rs∧(cA,cc) = (A,c)) :=hx
 have hr400:=hx1.r_le
 have hs40:=UL hx1.reg
 have hsm:∀q∈ss,q.length≤1099511627776:= (fun q hq=>by obtain ⟨i,hi,e⟩ :=jiU hq;have:=Qz (VK hx1.reg hi);rw [Wc hi] at e;rw [e] at this;omega)
 refine S5 ?_;refine aL (fun b3=> ?_);refine N1 ?_;refine Q7 (T:=74) (s:=1) ?_;refine t9 ?_;refine Vl ?_;refine t9 ?_;refine S9 ?_;refine JE (X:=Nat×(Option Addr×Nat)×List Pc) (fun y=>y.1≤ss.length∧y.2.2.map (·.xs) = (Qg hot ss).take y.1) (fun y=>ss.length- y.1) (fun y=> [(20, .int .i64 (y.1:Int))]) (kK [1,2,4,5,6,7,8,17,18,19]) (fun y=> [.cel b1 26 [.slice cA ss.length cc], .cel b2 26 [.slice none 0 0],uo w ss.length ss (fl,(cA,cc),cl),UU (fl,(cA,cc),cl), .cel b3 26 [.slice y.2.1.1 y.1 y.2.1.2],JS (Bs.N ⟨w,[]⟩) 74 1 y.1 (y.2.2.map Pc.val) y.2.1,vu y.2.2]) (0,(none,0),[]) (⟨jie _,J⟩) ⟨J,sz⟩ (fun _ h=>h) ?_
 intro⟨k,⟨rA,rc⟩,l⟩ hy L hL2
 refine v9 ?_;refine r9 ?_
 obtain ⟨hk,hmp⟩ :k≤ss.length∧l.map (·.xs) = (Qg hot ss).take k:=hy
 have hlk:l.length=k:= (by have:=congrArg List.length hmp;rw [jip,jim,vw] at this;omega)
 refine S5 ?_;refine cZ (fun c1=> ?_) (fun c1=> ?_)
 ·have hlt:k<ss.length:=Om
  refine qR (fun w1 hs=>jgk (hs.all 2 _ J).1 (hs.all 3 _ J).1 hx2 J hlt) ?_
  rintro⟨eb,eo,eA0,Ak,ck,hread⟩
  have eA1:cA=some ⟨eb,eo,none⟩ :=eA0
  subst eA1
  have hpos:=Qz (VK hx1.reg hlt)
  obtain ⟨ho1,ho2,ho3⟩ :=hx1.bare.on hlt
  have hsl:=ZB (hot:=hot) (xs:=rg ss k) Om Om
  obtain ⟨E,hEe⟩ :∃E,E=qf (rg ss k) :=⟨_,rfl⟩
  have hEl:E.length≤400:= (by rw [hEe];omega)
  refine S7 ?_;refine a9 (jk J J JW J (jhI (fun w' hs=> (hread w' (hs.all 2 _ J).1 (hs.all 3 _ J).1 hs.fin).1))) ?_;refine S1 ?_;refine aL (fun b4=> ?_);refine N6 ?_;refine Q7 (T:=28) (s:=2) ?_;refine N6 ?_;refine JQ uK (v:=fun x:Option Addr×Nat=> .slice x.1 (qf (rg ss k)).length x.2) (r:=fun x=>JS 0 96 4 _ _ x) (H:=fun _=>True) J J J (lb J) (fun w1 hs=>qI (wm Ak _ ck (rg ss k) w1 (hread w1 (hs.all 2 _ J).1 (hs.all 3 _ J).1 hs.fin).2 Om)) ?_
  rintro⟨eA,ec⟩ -
  refine N3 ?_
  rw [←hEe]
  refine S1 ?_;refine JE (X:=Nat×Option Addr×Nat) (fun z=>z.1≤E.length) (fun z=>E.length- z.1) (fun z=> [(11, .slice z.2.1 (Ux hot E z.1).length z.2.2),(27, .int .i64 (z.1:Int))]) (kK [1,2,4,5,6,7,8,17,18,19,20,21,22,23,10,24,25,26]) (fun z=> [.cel b1 26 [.slice (some ⟨eb,eo,none⟩) ss.length cc], .cel b2 26 [.slice none 0 0],uo w ss.length ss (fl,(some ⟨eb,eo,none⟩,cc),cl),UU (fl,(some ⟨eb,eo,none⟩,cc),cl), .cel b3 26 [.slice rA k rc],JS (Bs.N ⟨w,[]⟩) 74 1 k (l.map Pc.val) (rA,rc),vu l, .cel b4 74 [.slice Ak (rg ss k).length ck],JS (Bs.N ⟨w,[]⟩) 28 2 (Ux hot E z.1).length ((Ux hot E z.1).flatMap jV) z.2,JS 0 96 4 E.length (E.flatMap Je) (eA,ec)]) (0,none,0) (jie _) ⟨J,sz⟩ (fun _ h=>h) ?_
  intro⟨j,qA,qc⟩ hz L hL3
  refine v9 ?_;refine r9 ?_
  have hj:j≤E.length:=hz
  have hsn:=XV (hot:=hot) (E:=E) (m:=1048576) Om j hj
  refine S5 ?_;refine cZ (fun c2=> ?_) (fun c2=> ?_)
  ·have hjl:j<E.length:=Om
   obtain ⟨g1',g2',g3'⟩ := (hEe▸ho1:onHot hot E).at_ hjl
   obtain ⟨mid,hmid⟩ :=G0 g1' g2' g3'
   have hpl:0< (Qv (lA (lg E j)) (lB (lg E j)) hot).length:= (by rw [hmid];simp)
   have hpm: (Qv (lA (lg E j)) (lB (lg E j)) hot).length≤1048576:= (by rw [um];have:=X1 (lA (lg E j)) (lB (lg E j)) hot;omega)
   refine qR (fun w hs=>kI (k:=9) J hs Om) ?_
   rintro⟨eg,rfl⟩
   refine S7 ?_;refine a9 (jk J J qx J (yx (b:=eg) (o:=0) (vJ (k:=9) (x:= (some ⟨eg,0,none⟩,ec)) (ls:=E) J J) hjl)) ?_;refine S1 ?_;refine aL (fun b5=> ?_);refine N1 ?_;refine j9 10 qg.szx ?_;refine N4 ?_;refine a9 (jk J J jj J (w6 (k:=10) J J J)) ?_;refine S1 ?_;refine a9 (jk J J jj J (w6 (k:=10) J J J)) ?_;refine S2 ?_;refine JQ GM (v:=fun x:Option Addr×Nat=> .slice x.1 (Qv (lA (lg E j)) (lB (lg E j)) hot).length x.2) (r:=fun x=>JS 0 28 2 (Qv (lA (lg E j)) (lB (lg E j)) hot).length ((Qv (lA (lg E j)) (lB (lg E j)) hot).flatMap jV) x) (H:=fun _=>True) J J J (lb J) (fun w1 hs=>qI (I8 (lA (lg E j)) (lB (lg E j)) B m d hot w1 (hh.over hs.fin) (hok _ g2') (hok _ g3') hok hasc hmd hm)) ?_
   rintro⟨pA,pc⟩ -
   refine N2 ?_;refine qR (fun w hs=>kI (k:=11) J hs hpl) ?_
   rintro⟨pg,rfl⟩
   refine qR (fun w hs=>v6 (hs.all 11 _ J).1) ?_
   intro hcap
   have hst:Ux hot E (j+1) =Ux hot E j++ (Qv (lA (lg E j)) (lB (lg E j)) hot).take ((Qv (lA (lg E j)) (lB (lg E j)) hot).length- 1) := (by rw [He hjl];unfold kT;rw [List.dropLast_eq_take])
   have hstl: (Ux hot E (j+1)).length= (Ux hot E j).length+ ((Qv (lA (lg E j)) (lB (lg E j)) hot).length- 1) := (by rw [hst,jid,jim];omega)
   refine S5 ?_;refine a9 ((JC J J J Om Om).as (congrArg _ (show(((Qv (lA (lg E j)) (lB (lg E j)) hot).length:Int) - 1) = (((Qv (lA (lg E j)) (lB (lg E j)) hot).length- 1:Nat) :Int) by omega))) ?_;refine a9 ((QS J J J jl Om).as (vf _ _ _ _ _)) ?_;refine S1 ?_;refine JK (k:=8) J jl jD Dc J Dc J J J (fun w' hs=>XZ (kE (hs.all 11 _ J).1 J) Om) (Kf _) (by unfold maxLen;omega) Om (jif _) (fun r1=> ?_);refine N8 ?_
   exact Jd hL3 ((j+1,r1)) ((show j+1≤E.length by omega)) (by simp only;omega) ⟨(by rw [hstl];rfl),vi Om,sz⟩ (fun _ h=> (h.picks [0,1,2,3,4,5,6,7,8,9] Dc).upto ⟨J,J,J,J,J,J,J,J,by rw [hstl,hst,jii],sz⟩)
  ·have hjE:j=E.length:=Om
   subst hjE
   rw [show Ux hot E E.length=KD hot (rg ss k) by rw [O8,hEe]]
   refine S9 ?_;refine a9 (JF J J (KW J)) ?_;refine S1 ?_;refine jX J J (qN J) J (lb J) (fun b6=> ?_);refine N1 ?_;refine JK (k:=5) J jS JA Dc J Dc J J J (fun w' hs=>qD hs (k:=10) J J) (by simp [Value.oneCell']) (by unfold maxLen;omega) Om (jif _) (fun r2=> ?_);refine N4 ?_;refine ZM 8 J J (fun clo chi=> ?_);refine t9 ?_;refine Wb 6 8 J J Dc J ?_;refine t9 ?_;refine S6 ?_
   exact Jd hL2 ((k+1,r2,l++ [⟨KD hot (rg ss k),qA,qc,clo,chi⟩])) (⟨show k+1≤ss.length by omega,by rw [jiG,hmp,wU (by rw [vw];omega),OZ hlt];rfl⟩) (by simp only;omega) ⟨vi Om,sz⟩ (fun _ h=> (h.picks [0,1,2,3,4,5,6] Dc).upto ⟨J,J,J,J,J,by rw [jiG];rfl,(vZ _ _).symm,trivial⟩)
 ·have hkn:k=ss.length:=Om
  subst hkn
  have hall:l.map (·.xs) =Qg hot ss:= (by rw [hmp,jiu (by rw [vw];omega)])
  have hsml:∀e∈l,e.xs.length≤1099511627776:= (fun e he=>by obtain ⟨q,hq,e2⟩ :=jiD.1 (hall▸jiD.2 ⟨e,he,rfl⟩ :e.xs∈Qg hot ss);rw [←e2];obtain ⟨i,hi,e3⟩ :=jiU hq;have:=Qz (VK hx1.reg hi);rw [Wc hi] at e3;rw [e3] at this;have:=ZB (hot:=hot) (xs:=q) Om Om;omega)
  refine S10 ?_;refine a9 (jG xn J J (fun w1 hs=>Mm rA cA ss.length ss.length rc cc (Qg hot ss) ss w1 (hall▸G8 (hs.all 5 _ J).1 (hs.all 6 _ J).1 hlk hsml) (EZ (hs.all 2 _ J).1 (hs.all 3 _ J).1 hs.fin hx2 J hsm) Om)) ?_;refine S1 ?_;refine cZ (fun c3=> ?_) (fun c3=> ?_)
  ·have hsame:Qg hot ss=ss:= (by simpa using c3)
   refine S15 ?_;refine LS J (JZ (k:=1) J jE J J) (.tmp J) (.tmp J) ?_
   intro w' hs
   obtain ⟨e1,e2,e3⟩ :=Re (hx1.fin hsame)
   refine⟨cA,cc,by rw [e1,e2,e3];rfl,?_,hs.fin⟩
   rw [e1]
   cases fl
   ·exact .inr (yv hs (kr:=2) (kp:=3) rfl rfl Dc rfl (by have:=congrArg List.length (hx2 rfl);rw [jip] at this;omega) (hx2 rfl) (fun j hj=>by have:=hsm _ (jir hj);rw [Wc hj] at this;omega))
   ·exact(by obtain ⟨q1,q2⟩ :=hx3 rfl;injection q2 with q2 q3;exact .inl ⟨q2,q3,q1⟩)
  ·refine S6 ?_;refine a9 (jG Kv J J (fun w1 hs=>wi rA ss.length rc (Qg hot ss) w1 (hall▸G8 (hs.all 5 _ J).1 (hs.all 6 _ J).1 hlk hsml) Om)) ?_;refine S2 ?_;refine cZ (fun c4=> ?_) (fun c4=> ?_)
   ·refine S2 ?_;refine a9 (JF J J (JJ)) ?_;refine S11 ?_;refine LS J (JZ (k:=1) J jE J J) (.tmp J) (.tmp J) ?_
    intro w' hs
    obtain ⟨e1,e2,e3⟩ :=Rd (hx1.full c4)
    exact⟨none,0,by rw [e1,e2,e3];rfl,by rw [e1];exact .inr (OwnG.nil none),hs.fin⟩
   ·obtain ⟨k1,k2⟩ :=hx1.step hnd c4 (by simpa using c3)
    have hc4:=IZ k1.reg k1.bare
    refine S14 ?_
    exact Jd hL1 ((r+1,Qg hot ss,false,(rA,rc),l)) (⟨k1,(fun _=>hall),(fun e=>by cases e)⟩) (by simp only;omega) ⟨vi Om,sz⟩ (fun _ h=> (h.picks [0,1,5,6] Dc).upto ⟨by rw [vw],rfl,by rw [vw];rfl,sz⟩)
end Go.Proofs.YtbahojdbmmjkcaaGreat
