import Derived.Test.YtkagkgjjfdkoaaaGreatMSortLg
import Derived.Test.YtkagkgjjfdkoaaaGreatMCmp
import Derived.Test.YtkagkgjjfdkoaaaGreatMCross
import Derived.Test.YtkagkgjjfdkoaaaGreatMSimp
set_option linter.unusedVariables false
set_option linter.unusedSimpArgs false
namespace Go.Proofs.YtkagkgjjfdkoaaaGreat
open Go Go.Shelf Go.RowKit Go.Lib Go.Sort
set_option maxRecDepth 100000
set_option maxHeartbeats 4000000
structure Gw where
 val:Leg
 ok:qO val
instance:Inhabited Gw:=⟨⟨⟨0,0,0,0⟩,⟨by decide,by decide⟩,⟨by decide,by decide⟩,⟨by decide,by decide⟩,by decide,by decide⟩⟩
def Hg (x:Gw) :List Value:=jZ x.val
def FV (e f:Leg) :Int:=if VQ (lA e) (lA f) =0 then VQ (lB e) (lB f) else VQ (lA e) (lA f)
theorem RN (p q:Pn) :VQ p q=0↔p=q:=by
 have h1:=W9 (p.1- q.1)
 have h2:=W9 (p.2- q.2)
 obtain ⟨x,y⟩ :=p
 obtain ⟨x',y'⟩ :=q
 unfold VQ
 simp only [Prod.mk.injEq] at*
 split<;>omega
theorem jbh (e f:Leg) :FV e f<0↔zY e f:=by
 have h1:=RN (lA e) (lA f)
 have h2:=Lw (lA e) (lA f)
 have h3:=Lw (lB e) (lB f)
 unfold FV zY
 split
 ·rename_i h
  rw [h3]
  constructor
  ·exact fun k=> .inr ⟨h1.1 h,k⟩
  ·rintro(k |⟨_,k⟩)
   ·rw [h1.1 h] at k
    exact absurd k (Q7 _)
   ·exact k
 ·rename_i h
  rw [h2]
  constructor
  ·exact .inl
  ·rintro(k |⟨k,_⟩)
   ·exact k
   ·exact absurd (h1.2 k) h
theorem TJ (x y:Gw) :ltOf (fun x y:Gw=>FV x.val y.val) x y=decide (zY x.val y.val) :=by
 unfold ltOf
 rw [jfo,decide_eq_true_iff,decide_eq_true_iff]
 exact jbh _ _
theorem jes:SWO (ltOf fun x y:Gw=>FV x.val y.val) where
 irrefl x:=by rw [TJ];exact decide_eq_false (KV _)
 trans x y z h1 h2:=by rw [TJ,decide_eq_true_iff] at*;exact UK h1 h2
 ntrans x y z h1 h2:=by
  rw [TJ] at*
  simp only [decide_eq_false_iff_not] at*
  exact So h1 h2
theorem TD (xs:List Leg) (k j:Nat) (hk:k<xs.length) (hj:j<4) : (xs.flatMap jZ)[k*4+j]? = (jZ xs[k])[j]? :=xf jZ 4 (fun _=>rfl) xs k j hk hj
theorem Qw (xs:List Leg) : (xs.flatMap jZ).length=xs.length*4:=wZ jZ 4 (fun _=>rfl) xs
theorem Dw (xs:List Leg) (j:Nat) (h:j<xs.length*4) : (xs.flatMap jZ)[j]? = (jZ (xs[j/4]'(by omega)))[j % 4]? :=by
 have:=TD xs (j/4) (j % 4) (by omega) (by omega)
 rwa [show j/4*4+j % 4=j by omega] at this
theorem Pu (w:World) (q:Nat) (os:Array Obj) :Over w (grow (w.drewN q) os) :=⟨rfl,rfl,rfl,by simp [World.drewN],fun k hk=>heap_grow_old (w.drewN q) os hk⟩
theorem xY {W w':World} {q:Nat} {os:Array Obj} (h:w'=grow (W.drewN q) os) :Over W w':=by rw [h];exact Pu _ _ _
theorem Z0 {l:Leg} (h:qO l) :zJ (lA l)∧zJ (lB l) :=⟨(wL h).wide,(Wt h).wide⟩
theorem jdW (W:World) (a b:Array Obj) (p:Nat) :grow ((grow W a).drewN p) b=grow (W.drewN p) (a++b) :=by simp [grow,World.drewN,Array.append_assoc]
theorem jdX (W:World) (a b c:Array Obj) (p q:Nat) :grow ((grow ((grow W a).drewN p) b).drewN q) c=grow (W.drewN (p+q)) (a++b++c) :=by simp [grow,World.drewN,Array.append_assoc,jfN]
set_option maxRecDepth 100000 in
set_option maxHeartbeats 2000000 in
theorem Pv (e f:Leg) (he:qO e) (hf0:qO f) (W:World) :Calls Tryz.prog 129 #[.agg #[.int .i64 e.ax, .int .i64 e.ay, .int .i64 e.bx, .int .i64 e.b_y], .agg #[.int .i64 f.ax, .int .i64 f.ay, .int .i64 f.bx, .int .i64 f.b_y]] W fun r w'=>r= .returned (.int .i64 (FV e f))∧∃q' os',w'=grow (W.drewN q') os':=by
 have c1:=u7 (lA e) (lA f) (Z0 he).1 (Z0 hf0).1
 have c2:=u7 (lB e) (lB f) (Z0 he).2 (Z0 hf0).2
 unfold FV
 generalize VQ (lA e) (lA f) =r1 at*
 generalize VQ (lB e) (lB f) =r2 at*
 simp only [lA,lB] at c1 c2
 obtain ⟨a1,a2,a3,a4⟩ :=e
 obtain ⟨b1,b2,b3,b4⟩ :=f
 simp only at c1 c2⊢
 clear he hf0
 by_cases h0:r1=0
 ·subst h0
  rw [if_pos rfl]
  go_enter Tryz.func129,Tryz.ntmps129
  go_wp2_with fail
  refine(c1 _).mono ?_
  rintro e w1 ⟨rfl,q1,os1,hw1⟩
  have hb:=xY hw1
  replace hw1:=Lib.hid hw1
  obtain ⟨hc,hf⟩ :=Ji hb
  clear hb
  go_wp2_with fail
  refine(c2 _).mono ?_
  rintro e w2 ⟨rfl,q2,os2,hw2⟩
  replace hw2:=Lib.hid hw2
  go_wp2_with fail
  go_ret
  exact⟨rfl,_,_,by rw [hw2.out,hw1.out,alloc_eq_grow,alloc_eq_grow,grow_grow,jdX]⟩
 ·rw [if_neg h0]
  go_enter Tryz.func129,Tryz.ntmps129
  go_wp2_with fail
  refine(c1 _).mono ?_
  rintro e w1 ⟨rfl,q1,os1,hw1⟩
  replace hw1:=Lib.hid hw1
  go_wp2_with fail
  go_ret
  exact⟨rfl,_,_,by rw [hw1.out,alloc_eq_grow,alloc_eq_grow,grow_grow,jdW]⟩
theorem CL (blk off size:Nat) (w:World) :CmpLays Tryz.prog 129 #[] Hg 4 (fun x y:Gw=>FV x.val y.val) blk off size w:=
 fun _ _ _ _ x y=>Pv x.val y.val x.ok y.ok _
theorem jea (w:World) : (isAgg (yF.t 24)).run Tryz.prog w= .ok true w:=Tryz.isAgg56 w
theorem jeq (w:World) : (Go.sizeOf (yF.t 24)).run Tryz.prog w= .ok 4 w:=Tryz.sizeOf56 w
def yN (xs:List Leg) (hx:∀p∈xs,qO p) :List Gw:=xs.attach.map fun p=>Gw.mk p.1 (hx p.1 p.2)
theorem SW (xs:List Leg) (hx:∀p∈xs,qO p) : (yN xs hx).length=xs.length:=by simp [yN]
theorem SX (xs:List Leg) (hx:∀p∈xs,qO p) : (yN xs hx).map (·.val) =xs:=by
 rw [yN,List.map_map]
 exact List.attach_map_subtype_val xs
theorem Ic (d:Array Gw) (j:Nat) (h:j<d.size*4) : ((d.toList.map (·.val)).flatMap jZ)[j]? =some (flatK Hg 4 d)[j]! :=by
 rw [get_flatK _ _ _ _ h,Dw _ _ (by simpa using h)]
 have hj:j/4<d.size:=by omega
 rw [getElem!_pos d (j/4) hj]
 simp only [jfK,Array.getElem_toList]
 have h2:j % 4< (Hg d[j/4]).length:=by simp [Hg,jZ];omega
 rw [getElem!_pos (Hg d[j/4]) (j % 4) h2]
 exact List.getElem?_eq_getElem h2
theorem MA {w:World} {g m T:Nat} {cur:Array Value} {d':Array Gw} {os:Array Obj} (hg:w.heap[g]? =some (.cells cur T (0,0))) (b:Nat) (hb:b<w.heap.size) :
  (sortWorldK Hg 4 w g 0 m d' os).heap[b]? =if g=b then some (.cells (Sort.putCells id 0 (flatK Hg 4 d') cur) T (0,0)) else w.heap[b]? :=by
 show((w.heap.modify g (Sort.onCells (Sort.putCells id 0 (flatK Hg 4 d')))) ++os)[b]? =_
 rw [Array.getElem?_append_left (by simpa using hb),Array.getElem?_modify]
 split
 ·rename_i e
  subst e
  rw [hg]
  rfl
 ·rfl
theorem PW {B g c n:Nat} {xs:List Leg} {w:World} (h:w.ownsRow B 56 4 (.slice (some ⟨g,0,none⟩) n c) n (xs.flatMap jZ)) (hl:xs.length=n) (hx:∀p∈xs,qO p) (hn:n≤1048576) (h0:0<n) :
  Calls Tryz.prog 128 #[.slice (some ⟨g,0,none⟩) n c, .func (.func 129) #[] #[]] w fun e w'=>e= .returned (.tuple #[])∧∃ys,ys.Perm xs∧NG ys∧Wrs (· =g) w w'∧w'.ownsRow 0 56 4 (.slice (some ⟨g,0,none⟩) n c) n (ys.flatMap jZ) :=by
 rcases h.2 with⟨_,e⟩ |⟨g',cap,cur,e,hb,hg,hcap,hmax,hsz,htk⟩
 ·omega
 ·injection e with e1 e2 e3
  injection e1 with e1
  injection e1 with e1
  subst e1 e3
  have hds: (yN xs hx).toArray.size=n:=by simp [SW,hl]
  have hval: ((yN xs hx).toArray.toList.map (·.val)) =xs:=by rw [jeK];exact SX xs hx
  have hH:HoldsK Hg 4 w g 0 (yN xs hx).toArray:=by
   intro j hj
   rw [size_flatK,hds] at hj
   refine⟨?_,?_⟩
   ·rw [je3,cell_of_row w g j cur _ (0,0) hg]
    have:=Ic (yN xs hx).toArray j (by rw [hds];exact hj)
    rw [hval,←htk,List.getElem?_take,if_pos hj] at this
    simpa using this
   ·unfold World.frozen?
    simp only [hg]
    simp
  have eg:∀args w,(callFunc 129 args).run Tryz.prog w= .ok (.enter 129 args) w:=enters_of Tryz.func129 (by kernel_rfl) rfl
  have hcon:=AnyQ.slices_SortFunc jaC 4 jea jeq Hg (fun _=>rfl) (fun x v hv=>by simp [Hg,jZ] at hv;rcases hv with rfl | rfl | rfl | rfl<;>rfl) (fun x y:Gw=>FV x.val y.val) jes 129 #[] g 0 c (yN xs hx).toArray w eg (CL g 0 _ w) hH (JQ hg) (by omega)
  rw [hds] at hcon
  refine hcon.mono ?_
  rintro e w' ⟨rfl,d',m,os,hp,hs,rfl⟩
  have hd':d'.size=n:=hp.1.trans hds
  refine⟨J,d'.toList.map (·.val),?_,?_,?_,?_⟩
  ·have:=hp.2.2.map (·.val)
   rw [←hd',Array.extract_size,hd',←hds,Array.extract_size,hval] at this
   exact this
  ·refine jfH.2 fun i j hi hj hij=> ?_
   simp only [jeX,Array.length_toList] at hi hj
   have:=hs i j (jeE _) hij (by omega)
   rw [TJ,decide_eq_false_iff_not,getElem!_pos d' j hj,getElem!_pos d' i hi] at this
   simpa using this
  ·refine⟨J,J,J,by exact size_sortWorldK_c _ _ _ _ _ _ _ _,fun b hb hne=> ?_⟩
   rw [MA hg b hb,if_neg (fun e=>hne e.symm)]
  ·refine⟨by rw [Qw];simp [hd'], .inr ⟨g,c,Sort.putCells id 0 (flatK Hg 4 d') cur,J,jeE _,?_,hcap,hmax,by simp [Sort.putCells,hsz],?_⟩⟩
   ·rw [MA hg g (JQ hg),if_pos rfl]
   ·apply List.ext_getElem?
    intro j
    rw [List.getElem?_take]
    by_cases hj:j<n*4
    ·rw [if_pos hj,Ic d' j (by rw [hd'];exact hj),Array.getElem?_toList]
     have hjc:j<cur.size:=by omega
     simp only [Sort.putCells,Array.getElem?_mapIdx,Array.getElem?_eq_getElem hjc,jf7,size_flatK,hd']
     rw [if_pos ⟨jeE _,by omega⟩,Nat.sub_zero]
     rfl
    ·rw [if_neg hj,List.getElem?_eq_none (by rw [Qw];simp [hd'];omega)]
theorem Zk:∀(l:List Leg) (q p:Leg),QA (l++ [q] ++ [p]) =QA (l++ [q]) ++ (if q=p then [] else [p])
 | [],q,p=>by
  simp only [jeL,List.singleton_append,QA]
  split
  ·rename_i h;rw [h]
  ·rfl
 | [a],q,p=>by
  have h:=Zk [] q p
  simp only [jeL,List.singleton_append,jeG] at h⊢
  rw [QA,h]
  conv=>rhs;rw [QA]
  split<;>rfl
 | a::b::l,q,p=>by
  have h:=Zk (b::l) q p
  simp only [jeG] at h⊢
  rw [QA,h]
  conv=>rhs;rw [QA]
  split<;>rfl
theorem WC {xs:List Leg} {i:Nat} (h1:1≤i) (h:i<xs.length) :QA (xs.take (i+1)) =QA (xs.take i) ++ (if lg xs (i- 1) =lg xs i then [] else [lg xs i]) :=by
 obtain ⟨j,rfl⟩ :∃j,i=j+1:=⟨i- 1,by omega⟩
 rw [jeS h,jeS (show j<xs.length by omega),Zk,yf h,yf (show j<xs.length by omega)]
 rfl
theorem XH:∀l:List Leg,(QA l).length≤l.length
 | [] =>jeD _
 | [_] =>jeD _
 | p::q::l=>by
  have:=XH (q::l)
  unfold QA
  simp only [jeP] at*
  split
  ·omega
  ·rw [jeP];omega
theorem Zj {xs:List Leg} :∀i,i≤xs.length→(∀j,1≤j→j<i→¬lg xs (j- 1) =lg xs j)→QA (xs.take i) =xs.take i
 | 0,_,_=>rfl
 | 1,h,_=>by
  match xs,h with
  | p::l,_=>rfl
 | i+2,h,hj=>by
  rw [WC (by omega) (by omega),Zj (i+1) (by omega) (fun j h1 h2=>hj j h1 (by omega)),if_neg (hj (i+1) (by omega) (by omega)),←yf (by omega)]
  exact(jeS (by omega)).symm
def Uo (xs:List Leg) (i:Nat) :List Leg:=QA (xs.take i) ++xs.drop (QA (xs.take i)).length
theorem FU {xs:List Leg} {i:Nat} (h:i≤xs.length) : (Uo xs i).length=xs.length:=by
 have:=XH (xs.take i)
 rw [jeV] at this
 rw [Uo,jeC,je2]
 omega
theorem jbe {xs:List Leg} {i j:Nat} (h: (QA (xs.take i)).length≤j) :lg (Uo xs i) j=lg xs j:=by
 simp only [lg,List.getD,Uo,List.getElem?_append_right h,List.getElem?_drop]
 rw [show(QA (xs.take i)).length+ (j- (QA (xs.take i)).length) =j by omega]
theorem jbf {xs:List Leg} {i:Nat} (h1:1≤i) (h:i<xs.length) (he:lg xs (i- 1) =lg xs i) :Uo xs (i+1) =Uo xs i:=by rw [Uo,WC h1 h,if_pos he,je8];rfl
theorem CJ {xs:List Leg} {i:Nat} (h1:1≤i) (h:i<xs.length) (he:¬lg xs (i- 1) =lg xs i) (hk: (QA (xs.take i)).length<xs.length) : (Uo xs (i+1)).flatMap jZ=qk ((Uo xs i).flatMap jZ) ((QA (xs.take i)).length*4) (jZ (lg xs i)) :=by
 rw [Uo,Uo,WC h1 h,if_neg he]
 generalize QA (xs.take i) =C at*
 rw [jfi hk,jeC,jgc,jeQ,jeQ,jeQ,je4]
 have hC:C.length*4= (C.flatMap jZ).length:= (Qw C).symm
 rw [hC,je4 (xs:=List.drop _ _),←jeN (C.flatMap jZ) (jZ xs[C.length]),uT (jZ (lg xs i)) (C.flatMap jZ) (jZ xs[C.length]) _ rfl]
 simp
def MX (m:Nat) :List Value:= (Builtin.zeroCells (Value.agg #[.int .i64 0, .int .i64 0, .int .i64 0, .int .i64 0]).cells m).toList
theorem MY (m:Nat) : (MX m).length=m*4:=by
 rw [MX,Array.length_toList,size_zeroCells]
 rfl
theorem S0 (m:Nat) : (MX m).all (·.oneCell') =true:=by
 rw [jfP]
 intro v hv
 rw [MX,Array.mem_toList_iff,Builtin.zeroCells] at hv
 obtain ⟨i,hi,rfl⟩ :=Array.mem_map.1 hv
 have:i % 4<4:=Nat.mod_lt _ (by decide)
 show(#[Value.int .i64 0,Value.int .i64 0,Value.int .i64 0,Value.int .i64 0][i % 4]!).oneCell'=true
 rcases(show i % 4=0∨i % 4=1∨i % 4=2∨i % 4=3 by omega) with e | e | e | e<;>rw [e] <;>rfl
def Hl (xs:List Leg) (i:Nat) :Nat:= (QA (xs.take i)).length
theorem LJ {xs:List Leg} {i:Nat} (h1:1≤i) (h:i<xs.length) (he:lg xs (i- 1) =lg xs i) :Hl xs (i+1) =Hl xs i:=by rw [Hl,WC h1 h,if_pos he,je8];rfl
theorem It {xs:List Leg} {i:Nat} (h1:1≤i) (h:i<xs.length) (he:¬lg xs (i- 1) =lg xs i) :Hl xs (i+1) =Hl xs i+1:=by rw [Hl,WC h1 h,if_neg he,jeC];rfl
theorem xu {e f:Leg} : (e.ax==f.ax&&e.ay==f.ay&&e.bx==f.bx&&e.b_y==f.b_y) =decide (f=e) :=by
 rcases e with⟨a1,a2,a3,a4⟩
 rcases f with⟨b1,b2,b3,b4⟩
 rw [jfo]
 simp only [jeF,beq_iff_eq,decide_eq_true_eq,Leg.mk.injEq]
 omega
theorem Yw {xs:List Leg} (h:∀j,1≤j→j<xs.length→¬lg xs (j- 1) =lg xs j) :QA xs=xs:=by
 have:=Zj xs.length (jeD _) h
 rwa [jfr] at this
theorem G0 {xs:List Leg} {rest:List Value} : (xs.flatMap jZ++rest).take (xs.length*4) =xs.flatMap jZ:=List.take_left' (Qw xs)
theorem Rv {xs:List Leg} {rest zs:List Value} {n c:Nat} (hn:xs.length=n) (hl: ((Uo xs n).flatMap jZ++rest).length=c*4) (hK:Hl xs n*4+zs.length≤c*4) :
  (qk ((Uo xs n).flatMap jZ++rest) (0+Hl xs n*4) zs).take ((QA xs).length*4) = (QA xs).flatMap jZ:=by
 have e: (QA xs).length=Hl xs n:=by rw [Hl,←hn,jfr]
 have ec:QA (xs.take n) =QA xs:=by rw [←hn,jfr]
 apply List.ext_getElem?
 intro i
 rw [List.getElem?_take,e,je3]
 by_cases hi:i<Hl xs n*4
 ·rw [if_pos hi,yH i (by omega),if_neg (by omega),Uo,jeQ,jeN,List.getElem?_append_left (by rw [Qw];exact hi),ec]
 ·rw [if_neg hi,List.getElem?_eq_none (by rw [Qw,e];omega)]
theorem BU (b T c n:Nat) (xs:List Leg) (rest:List Value) (w:World) (hh:w.heap[b]? =some (.cells (xs.flatMap jZ++rest).toArray T (0,0))) (hc:n≤c) (hl: ((xs.flatMap jZ) ++rest).length=c*4) (hn:xs.length=n) (hn2:n≤1048577) :
  Calls Tryz.prog 130 #[.slice (some ⟨b,0,none⟩) n c] w fun e w'=>e= .returned (.slice (some ⟨b,0,none⟩) (QA xs).length c)∧Wr b w w'∧∃cs:List Value,w'.heap[b]? =some (.cells cs.toArray T (0,0))∧cs.length=c*4∧cs.take ((QA xs).length*4) = (QA xs).flatMap jZ:=by
 have hr2:∀(zs:List Leg),zs.length=n→∀k,k<n→∀w':World,w'.heap[b]? =some (.cells (zs.flatMap jZ++rest).toArray T (0,0))→∀(q:Nat) (v:Value),[Value.int .i64 (lg zs k).ax,Value.int .i64 (lg zs k).ay,Value.int .i64 (lg zs k).bx,Value.int .i64 (lg zs k).b_y][q]? =some v→w'.cell? ⟨b,0+k*4+q,none⟩ =some v:=fun zs hz k hk w' hw q v hv=>by
  have hq:q<4:=by have:= (List.getElem?_eq_some_iff.1 hv).1;simpa using this
  rw [cell_of_row w' b _ _ T (0,0) hw,je3]
  have hf:=TD zs k q (by omega) hq
  rw [yf (by omega)] at hf
  have: (zs.flatMap jZ++rest).toArray[k*4+q]? = (zs.flatMap jZ)[k*4+q]? :=by
   rw [List.getElem?_toArray,List.getElem?_append_left (by rw [Qw];omega)]
  rw [this,hf]
  exact hv
 refine Qv (m:=61) (Tryz.func130) J J (lb J) (hh) ?_;refine S11 ?_;refine cZ (fun c1=> ?_) (fun c1=> ?_)
 ·refine S7 ?_;refine jL J (.tmp J) ?_
  intro w' hs
  exact⟨by rw [Yw fun j h1 h2=>absurd h2 (by omega),hn],hs.over.wr,_,hs.cel (k:=0) rfl,hl,by rw [Yw fun j h1 h2=>absurd h2 (by omega)];exact G0⟩
 ·refine S8 ?_;refine qi (X:=Nat) (fun k=>1≤k∧k≤n∧(∀j,1≤j→j<k→¬lg xs (j- 1) =lg xs j)) (fun k=>n- k) (fun k=> [(3, .int .i64 (k:Int))]) (kK [0,2]) 1 (⟨jeD _,by omega,fun j h1 h2=>absurd h2 (by omega)⟩) ⟨J,sz⟩ ?_
  intro k hk L hL1
  refine V8 ?_;refine cZ (fun c2=> ?_) (fun c2=> ?_)
  ·refine S6 ?_;refine Jw 10 ?_;refine dK 0 ?_;refine dK 1 ?_;refine dK 2 ?_;refine dZ 3 J (jj J J qp J (fun w' hs=>hr2 xs hn k (by omega) w' (hs.cel (k:=0) J))) ?_;refine dK 4 ?_;refine dK 5 ?_;refine dZ 6 J ((JC J J J (by omega) (by omega)).as (congrArg _ (show((k:Int) - 1) = ((k- 1:Nat) :Int) by omega))) ?_;refine dK 7 ?_;refine dZ 8 J (jj J J qp J (fun w' hs=>hr2 xs hn (k- 1) (by omega) w' (hs.cel (k:=0) J))) ?_;refine dK 9 ?_;refine Jj (by kernel_rfl) ?_;refine S1 ?_;refine cZ (fun c3=> ?_) (fun c3=> ?_)
   ·have hkn:k<n:= (by omega)
    have hdup:lg xs (k- 1) =lg xs k:=of_decide_eq_true (xu▸c3)
    have hoff:Ut 0 k c 4=0+k*4:=by rw [Ut,if_neg (by omega)]
    have hcs:QA (xs.take k) =xs.take k:=Zj k (by omega) hk.2.2
    have hck:Hl xs k=k:=by rw [Hl,hcs,jeV];omega
    have hck1:Hl xs (k+1) =k:=by rw [LJ hk.1 (by omega) hdup,hck]
    have hclo:Uo xs (k+1) =xs:=by rw [Uo,WC hk.1 (by omega),if_pos hdup,je8,hcs,jeV,jfI (by omega),jeU]
    refine S4 ?_;refine a9 ((KL J J J j5 (by omega)).as ((wg (b:=b) (o:=0) (l:=k) (h:=n) (m:=c) (s:=4) hc (by omega)).trans (by rw [hoff]))) ?_;refine S8 ?_;refine JI (X:=Nat) (fun j=>1≤j∧k+j≤n∧Hl xs (k+j) +1≤k+j) (fun j=>n- j) (fun j=> [(3, .int .i64 (Hl xs (k+j) :Int)),(5, .int .i64 (j:Int))]) (kK [0,2,10,11,12,13,16,17,18,19,20,21,22,23,24,25,26,27,28,4]) (fun j=> [.cel b T ((Uo xs (k+j)).flatMap jZ++rest)]) 1 (⟨jeD _,by omega,by omega⟩) ⟨(by rw [hck1];rfl),sz⟩ (fun _ h=>h.upto ⟨by rw [hclo],trivial⟩) ?_
    intro j hj L hL2
    refine v9 ?_;refine ji (by first | (dsimp only;done) | (dsimp only;rfl) | rfl) ?_
    have hcl: (Uo xs (k+j)).length=n:= (FU (by omega)).trans hn
    refine S8 ?_;refine cZ (fun c4=> ?_) (fun c4=> ?_)
    ·have hjl:k+j<n:= (by omega)
     have hrd:∀i,Hl xs (k+j)≤i→i<n→∀w':World,w'.heap[b]? =some (.cells ((Uo xs (k+j)).flatMap jZ++rest).toArray T (0,0))→∀(q:Nat) (v:Value),[Value.int .i64 (lg xs i).ax,Value.int .i64 (lg xs i).ay,Value.int .i64 (lg xs i).bx,Value.int .i64 (lg xs i).b_y][q]? =some v→w'.cell? ⟨b,0+i*4+q,none⟩ =some v:=fun i h1 h2 w' hw q v hv=>hr2 (Uo xs (k+j)) hcl i h2 w' hw q v (by rw [jbe h1];exact hv)
     refine S6 ?_;refine Jw 10 ?_;refine dK 0 ?_;refine dK 1 ?_;refine dK 2 ?_;refine dZ 3 J (jj J J qp J (fun w' hs q v hv=>by rw [show 0+k*4+j*4+q=0+ (k+j) *4+q by omega];exact hrd (k+j) (by omega) hjl w' (hs.cel (k:=0) J) q v hv)) ?_;refine dK 4 ?_;refine dK 5 ?_;refine dZ 6 J ((JC J J J (by omega) (by omega)).as (congrArg _ (show((j:Int) - 1) = ((j- 1:Nat) :Int) by omega))) ?_;refine dK 7 ?_;refine dZ 8 J (jj J J qp J (fun w' hs q v hv=>by rw [show 0+k*4+ (j- 1) *4+q=0+ (k+j- 1) *4+q by omega];exact hrd (k+j- 1) (by omega) (by omega) w' (hs.cel (k:=0) J) q v hv)) ?_;refine dK 9 ?_;refine Jj (by kernel_rfl) ?_;refine S1 ?_;refine cZ (fun c5=> ?_) (fun c5=> ?_)
     ·refine S7 ?_;refine a9 (jj J J qp J (fun w' hs q v hv=>by rw [show 0+k*4+j*4+q=0+ (k+j) *4+q by omega];exact hrd (k+j) (by omega) hjl w' (hs.cel (k:=0) J) q v hv)) ?_;refine S2 ?_;refine qr (k:=0) J J J J J (by rfl) qa.szx J J (by rw [jeC,Qw,hcl];simp only [jeP,je6];omega) ?_;refine S13 ?_
      exact j8 hL2 (j+1) (⟨by omega,by omega,by rw [←jfN,It (by omega) (by omega) (of_decide_eq_false (xu▸c5))];omega⟩) (by omega) ⟨vi (by rw [←jfN,It (by omega) (by omega) (of_decide_eq_false (xu▸c5))];omega),vi (by omega),sz⟩ (fun _ h=>h.upto ⟨by rw [←jfN,CJ (by omega) (by omega) (of_decide_eq_false (xu▸c5)) (by show Hl xs (k+j) <xs.length;omega),Y4 (by rw [Qw,hcl];exact(show 0+Hl xs (k+j) *4+4≤n*4 by omega)),je3];rfl,trivial⟩)
     ·refine S8 ?_
      exact j8 hL2 (j+1) (⟨by omega,by omega,by rw [←jfN,LJ (by omega) (by omega) (of_decide_eq_true (xu▸c5))];omega⟩) (by omega) ⟨vi (by rw [←jfN,LJ (by omega) (by omega) (of_decide_eq_true (xu▸c5))]),vi (by omega),sz⟩ (fun _ h=>h.upto ⟨by rw [←jfN,jbf (by omega) (by omega) (of_decide_eq_true (xu▸c5))],trivial⟩)
    ·refine S9 ?_;refine a9 ((KL J J J j5 (by omega)).as (wg (b:=b) (o:=0) (l:=Hl xs (k+j)) (h:=n) (m:=c) (s:=4) hc (by omega))) ?_;refine S1 ?_;refine Ma (k:=0) (zs:=MX (n- Hl xs (k+j))) J j5 qa J J (by omega) J J (S0 _) (by rw [jeC,Qw,hcl,MY,Ut,if_neg (by omega)];omega) ?_;refine N5 ?_;refine a9 ((kb J J J j5 (by omega)).as (VG _ _ _ _ _)) ?_;refine S8 ?_;refine jL J (.tmp J) ?_
     intro w' hs
     have hkj:k+j=n:=by omega
     have hK: (QA xs).length=Hl xs n:=by rw [Hl,←hn,jfr]
     have hlc: ((Uo xs n).flatMap jZ++rest).length=c*4:=by rw [←hl,jeC,jeC,Qw,Qw,FU (by omega)]
     have hoK:Ut 0 (Hl xs n) c 4=0+Hl xs n*4:=by rw [Ut,if_neg (by rw [←hkj];omega)]
     rw [hkj,hoK] at hs
     rw [hkj] at hj
     exact⟨by rw [hK,hkj],hs.over.wr,_,hs.cel (k:=0) rfl,by rw [Qe];exact hlc,Rv hn hlc (by rw [MY];omega)⟩
   ·have hne:¬lg xs (k- 1) =lg xs k:=of_decide_eq_false (xu▸c3)
    refine S8 ?_
    exact J8 hL1 (k+1) (⟨by omega,by omega,fun j h1 h2=> (jfG j k).elim (fun h3=>hk.2.2 j h1 h3) (fun h3=> (show k=j by omega)▸hne)⟩) (by omega) ⟨vi (by omega),sz⟩ (u9 J)
  ·refine S11 ?_;refine jL J (.tmp J) ?_
   intro w' hs
   have hkn:k=n:=by omega
   have hw:=Yw (xs:=xs) fun j h1 h2=>hk.2.2 j h1 (by omega)
   exact⟨by rw [hw,hn],hs.over.wr,_,hs.cel (k:=0) rfl,hl,by rw [hw];exact G0⟩
theorem BW {N c n:Nat} {A:Option Addr} {xs:List Leg} {w:World} (h:w.ownsRow N 56 4 (.slice A n c) n (xs.flatMap jZ)) (hn:xs.length=n) (h0:0<n) (hn2:n≤1048577) :
  Calls Tryz.prog 130 #[.slice A n c] w fun e w'=>e= .returned (.slice A (QA xs).length c)∧Wrs (JP N 56 4 n (xs.flatMap jZ) (A,c)).F w w'∧(JP N 56 4 (QA xs).length ((QA xs).flatMap jZ) (A,c)).P w':=by
 rcases h.2 with⟨_,e⟩ |⟨g,cap,cur,e,hb,hg,hcap,hmax,hsz,htk⟩
 ·omega
 ·injection e with e1 e2 e3
  subst e1 e3
  have hcur:cur.toList=xs.flatMap jZ++cur.toList.drop (n*4) :=by rw [←htk,jeU]
  have hg':w.heap[g]? =some (.cells (xs.flatMap jZ++cur.toList.drop (n*4)).toArray 56 (0,0)) :=by rw [←hcur,jfJ];exact hg
  have hle:=XH xs
  refine(BU g _ c n xs (cur.toList.drop (n*4)) w hg' hcap (by rw [←hcur];simpa using hsz) hn hn2).mono ?_
  rintro e w' ⟨rfl,hw,cs,hh,hcl,htk'⟩
  refine⟨rfl,⟨hw.os,hw.tape,hw.output,hw.size,fun q hq hne=>hw.block q hq (fun e=>hne (by subst e;rfl))⟩,?_⟩
  exact⟨Qw _, .inr ⟨g,c,_,rfl,hb,hh,by omega,hmax,by simpa using hcl,by rw [jeK];exact htk'⟩⟩
theorem El (v:Value) (w:World) :Calls Tryz.prog 180 #[.slice none 0 0, .int .i64 0, .int .i64 0,v] w fun e w'=>e= .returned (.tuple #[])∧Over w w':=by
 refine jU (m:=53) (Tryz.func180) J J (lb J) ?_;refine S7 ?_;refine qi (X:=Unit) (fun u=>True) (fun u=>0) (fun u=> [(8, .int .i64 1)]) (kK [0,1,2,3]) () (trivial) ⟨J,sz⟩ ?_
 intro u hu L hL1
 refine V7 ?_;refine cZ (fun c1=> ?_) (fun c1=> ?_)
 ·omega
 ·refine S4 ?_;refine Q2 J ?_
  intro w' hs
  exact⟨rfl,hs.fin⟩
theorem E4 (l:Int) (v:Value) (w:World) :Calls Tryz.prog 166 #[.slice none 0 0, .int .i64 0, .int .i64 0, .int .i64 l,v] w fun e w'=>e= .returned (.tuple #[])∧Over w w':=by
 refine jU (m:=148) (Tryz.func166) J J (lb J) ?_;refine S9 ?_;refine qi (X:=Unit) (fun u=>True) (fun u=>0) (fun u=> []) (kK [0,1,2,3,4,10,11]) () (trivial) sz ?_
 intro u hu L hL1
 refine V14 ?_;refine cZ (fun c1=> ?_) (fun c1=> ?_)
 ·refine S6 ?_;refine a9 (jH vW J J (fun w h=>El v w)) ?_;refine S6 ?_;refine zm J ?_
  intro w' hs
  exact⟨rfl,hs.fin⟩
 ·omega
theorem Ep (w:World) :Calls Tryz.prog 115 #[.int .u64 0] w fun e w'=> (∃l:Int,e= .returned (.int .i64 l))∧w=w':=
 (Any.bits_Len (SlLaysF0.n15.bits (P:=Tryz.prog) (ρ:=yF) {jaC with}) 0 w (by omega) (by omega)).mono fun _ _ ⟨he,hw⟩ =>⟨⟨_,he⟩,hw.symm⟩
theorem PT (w:World) :Calls Tryz.prog 128 #[.slice none 0 0, .func (.func 129) #[] #[]] w fun e w'=>e= .returned (.tuple #[])∧Over w w':=by
 go_enter Tryz.func128,Tryz.ntmps128
 go_wp2_with fail
 go_at_call 115
 refine(Ep _).mono ?_
 rintro e w1 ⟨⟨l,rfl⟩,rfl⟩
 go_wp2_with fail
 go_at_call 166
 refine(E4 _ _ _).mono ?_
 rintro e w1 ⟨rfl,hb⟩
 go_wp2_with fail
 go_end0
 exact⟨rfl,hb⟩
theorem BV (w:World) :Calls Tryz.prog 130 #[.slice none 0 0] w fun e w'=>e= .returned (.slice none 0 0)∧Over w w':=by
 refine jU (m:=61) (Tryz.func130) J J (lb J) ?_;refine S11 ?_;refine cZ (fun c1=> ?_) (fun c1=> ?_)
 ·refine S7 ?_;refine jL J (.tmp J) ?_
  intro w' hs
  exact⟨rfl,hs.fin⟩
 ·omega
end Go.Proofs.YtkagkgjjfdkoaaaGreat
