import Derived.Test.YtbahojdbmmjkcaaGreatMTopo4
import Derived.Test.YtbahojdbmmjkcaaGreatMRounds
import Derived.Test.YtbahojdbmmjkcaaGreatMSnapG
import Derived.Test.YtbahojdbmmjkcaaGreatMSd2
import Derived.Test.YtbahojdbmmjkcaaGreatMSimp
set_option linter.unusedVariables false
set_option linter.unusedSimpArgs false
namespace Go.Proofs.YtbahojdbmmjkcaaGreat
open Go Go.Shelf Go.RowKit Go.Lib Go.Sort
variable {A:Option Addr} {cur:Array Value} {i:Nat} {os:Array Obj} {rest:List Value} {w:World} {xs:List Leg}
set_option maxRecDepth 100000
set_option maxHeartbeats 4000000
structure Gw where
 val:Leg
 ok:qM val
instance:Inhabited Gw:=⟨⟨⟨0,0,0,0⟩,⟨by decide,by decide⟩,⟨by decide,by decide⟩,⟨by decide,by decide⟩,by decide,by decide⟩⟩
def Md (x:Gw) :List Value:=Ji x.val
def Sk (e f:Leg) :Int:=if w6 (lA e) (lA f) =0 then w6 (lB e) (lB f) else w6 (lA e) (lA f)
theorem Ny (p q:Pn) :w6 p q=0↔p=q:=by
 have h1:=Uq (p.1- q.1)
 have h2:=Uq (p.2- q.2)
 obtain ⟨x,y⟩ :=p
 obtain ⟨x',y'⟩ :=q
 unfold w6
 simp only [Prod.mk.injEq] at*
 split<;>omega
theorem je1 (e f:Leg) :Sk e f<0↔xw e f:=by
 have h1:=Ny (lA e) (lA f)
 have h2:=Oq (lA e) (lA f)
 have h3:=Oq (lB e) (lB f)
 unfold Sk xw
 split
 ·rename_i h
  rw [h3]
  constructor
  ·exact fun k=> .inr ⟨h1.1 h,k⟩
  ·rintro(k |⟨_,k⟩)
   ·rw [h1.1 h] at k
    exact absurd k (kD _)
   ·exact k
 ·rename_i h
  rw [h2]
  constructor
  ·exact .inl
  ·rintro(k |⟨k,_⟩)
   ·exact k
   ·exact absurd (h1.2 k) h
theorem CT (x y:Gw) :ltOf (fun x y:Gw=>Sk x.val y.val) x y=decide (xw x.val y.val) :=by
 unfold ltOf
 rw [jjT,decide_eq_true_iff,decide_eq_true_iff]
 exact je1 _ _
theorem jjg:SWO (ltOf fun x y:Gw=>Sk x.val y.val) where
 irrefl x:=by rw [CT];exact decide_eq_false (vE _)
 trans x y z h1 h2:=by rw [CT,decide_eq_true_iff] at*;exact Yd h1 h2
 ntrans x y z h1 h2:=by
  rw [CT] at*
  simp only [decide_eq_false_iff_not] at*
  exact Pr h1 h2
theorem CN (xs:List Leg) (k j:Nat) (hk:k<xs.length) (hj:j<4) : (xs.flatMap Ji)[k*4+j]? = (Ji xs[k])[j]? :=XV Ji 4 (fun _=>rfl) xs k j hk hj
theorem QO (xs:List Leg) : (xs.flatMap Ji).length=xs.length*4:=W0 Ji 4 (fun _=>rfl) xs
theorem IG (xs:List Leg) (j:Nat) (h:j<xs.length*4) : (xs.flatMap Ji)[j]? = (Ji (xs[j/4]'(by omega)))[j % 4]? :=by
 have:=CN xs (j/4) (j % 4) Om Om
 rwa [show j/4*4+j % 4=j by omega] at this
theorem jaJ (w:World) (q:Nat) (os:Array Obj) :Over w (grow (w.drewN q) os) :=⟨rfl,rfl,rfl,by simp [World.drewN],fun k hk=>heap_grow_old (w.drewN q) os hk⟩
theorem Gy {W w':World} {q:Nat} (h:w'=grow (W.drewN q) os) :Over W w':=by rw [h];exact jaJ _ _ _
theorem XF {l:Leg} (h:qM l) :xe (lA l)∧xe (lB l) :=⟨(wP h).wide,(WM h).wide⟩
theorem jim (W:World) (a b:Array Obj) (p:Nat) :grow ((grow W a).drewN p) b=grow (W.drewN p) (a++b) :=by simp [grow,World.drewN,Array.append_assoc]
theorem jin (W:World) (a b c:Array Obj) (p q:Nat) :grow ((grow ((grow W a).drewN p) b).drewN q) c=grow (W.drewN (p+q)) (a++b++c) :=by simp [grow,World.drewN,Array.append_assoc,jkz]
set_option maxRecDepth 100000 in
set_option maxHeartbeats 2000000 in
theorem jaK (e f:Leg) (he:qM e) (hf0:qM f) (W:World) :Calls Tryz.prog 183 #[.agg #[.int .i64 e.ax, .int .i64 e.ay, .int .i64 e.bx, .int .i64 e.b_y], .agg #[.int .i64 f.ax, .int .i64 f.ay, .int .i64 f.bx, .int .i64 f.b_y]] W fun r w'=>r= .returned (.int .i64 (Sk e f))∧∃q' os',w'=grow (W.drewN q') os':=by
 have c1:=yj (lA e) (lA f) (XF he).1 (XF hf0).1
 have c2:=yj (lB e) (lB f) (XF he).2 (XF hf0).2
 unfold Sk
 generalize w6 (lA e) (lA f) =r1 at*
 generalize w6 (lB e) (lB f) =r2 at*
 simp only [lA,lB] at c1 c2
 obtain ⟨a1,a2,a3,a4⟩ :=e
 obtain ⟨b1,b2,b3,b4⟩ :=f
 simp only at c1 c2⊢
 clear he hf0
 by_cases h0:r1=0
 ·subst h0
  rw [if_pos rfl]
  go_enter Tryz.func183,Tryz.ntmps183
  go_wp2_with fail
  refine(c1 _).mono ?_
  rintro e w1 ⟨rfl,q1,os1,hw1⟩
  have hb:=Gy hw1
  replace hw1:=Lib.hid hw1
  obtain ⟨hc,hf⟩ :=Jz hb
  clear hb
  go_wp2_with fail
  refine(c2 _).mono ?_
  rintro e w2 ⟨rfl,q2,os2,hw2⟩
  replace hw2:=Lib.hid hw2
  go_wp2_with fail
  go_ret
  exact⟨rfl,_,_,by rw [hw2.out,hw1.out,alloc_eq_grow,alloc_eq_grow,grow_grow,jin]⟩
 ·rw [if_neg h0]
  go_enter Tryz.func183,Tryz.ntmps183
  go_wp2_with fail
  refine(c1 _).mono ?_
  rintro e w1 ⟨rfl,q1,os1,hw1⟩
  replace hw1:=Lib.hid hw1
  go_wp2_with fail
  go_ret
  exact⟨rfl,_,_,by rw [hw1.out,alloc_eq_grow,alloc_eq_grow,grow_grow,jim]⟩
theorem jb9 (blk off size:Nat) (w:World) :CmpLays Tryz.prog 183 #[] Md 4 (fun x y:Gw=>Sk x.val y.val) blk off size w:=
 fun _ _ _ _ x y=>jaK x.val y.val x.ok y.ok _
theorem jiT (w:World) : (isAgg (Y5.t 24)).run Tryz.prog w= .ok true w:=Tryz.isAgg96 w
theorem jje (w:World) : (Go.sizeOf (Y5.t 24)).run Tryz.prog w= .ok 4 w:=Tryz.sizeOf96 w
def ze (xs:List Leg) (hx:∀p∈xs,qM p) :List Gw:=xs.attach.map fun p=>Gw.mk p.1 (hx p.1 p.2)
theorem P4 (xs:List Leg) (hx:∀p∈xs,qM p) : (ze xs hx).length=xs.length:=by simp [ze]
theorem P5 (xs:List Leg) (hx:∀p∈xs,qM p) : (ze xs hx).map (·.val) =xs:=by
 rw [ze,jk6]
 exact List.attach_map_subtype_val xs
theorem SH (d:Array Gw) (j:Nat) (h:j<d.size*4) : ((d.toList.map (·.val)).flatMap Ji)[j]? =some (flatK Md 4 d)[j]! :=by
 rw [get_flatK _ _ _ _ h,IG _ _ (by simpa using h)]
 have hj:j/4<d.size:=by omega
 rw [getElem!_pos d (j/4) hj]
 simp only [jkx,Array.getElem_toList]
 have h2:j % 4< (Md d[j/4]).length:=by simp [Md,Ji];omega
 rw [getElem!_pos (Md d[j/4]) (j % 4) h2]
 exact List.getElem?_eq_getElem h2
theorem BF {g m T:Nat} {d':Array Gw} (hg:w.heap[g]? =some (.cells cur T (0,0))) (b:Nat) (hb:b<w.heap.size) :
  (sortWorldK Md 4 w g 0 m d' os).heap[b]? =if g=b then some (.cells (Sort.putCells id 0 (flatK Md 4 d') cur) T (0,0)) else w.heap[b]? :=by
 show((w.heap.modify g (Sort.onCells (Sort.putCells id 0 (flatK Md 4 d')))) ++os)[b]? =_
 rw [Array.getElem?_append_left (by simpa using hb),Array.getElem?_modify]
 split
 ·rename_i e
  subst e
  rw [hg]
  rfl
 ·rfl
theorem jbe {B g c n:Nat} (h:w.ownsRow B 96 4 (.slice (some ⟨g,0,none⟩) n c) n (xs.flatMap Ji)) (hl:xs.length=n) (hx:∀p∈xs,qM p) (hn:n≤1048576) (h0:0<n) :
  Calls Tryz.prog 182 #[.slice (some ⟨g,0,none⟩) n c, .func (.func 183) #[] #[]] w fun e w'=>e= .returned (.tuple #[])∧∃ys,ys.Perm xs∧EZ ys∧Wrs (· =g) w w'∧w'.ownsRow 0 96 4 (.slice (some ⟨g,0,none⟩) n c) n (ys.flatMap Ji) :=by
 rcases h.2 with⟨_,e⟩ |⟨g',cap,cur,e,hb,hg,hcap,hmax,hsz,htk⟩
 ·omega
 ·injection e with e1 e2 e3
  injection e1 with e1
  injection e1 with e1
  subst e1 e3
  have hds: (ze xs hx).toArray.size=n:=by simp [P4,hl]
  have hval: ((ze xs hx).toArray.toList.map (·.val)) =xs:=by rw [jkr];exact P5 xs hx
  have hH:HoldsK Md 4 w g 0 (ze xs hx).toArray:=by
   intro j hj
   rw [size_flatK,hds] at hj
   refine⟨?_,?_⟩
   ·rw [jjP,cell_of_row w g j cur _ (0,0) hg]
    have:=SH (ze xs hx).toArray j (by rw [hds];exact hj)
    rw [hval,←htk,List.getElem?_take,if_pos hj] at this
    simpa using this
   ·unfold World.frozen?
    simp only [hg]
    simp
  have eg:∀args w,(callFunc 183 args).run Tryz.prog w= .ok (.enter 183 args) w:=enters_of Tryz.func183 Kr rfl
  have hcon:=AnyQ.slices_SortFunc jd9 4 jiT jje Md (fun _=>rfl) (fun x v hv=>by simp [Md,Ji] at hv;rcases hv with rfl | rfl | rfl | rfl<;>rfl) (fun x y:Gw=>Sk x.val y.val) jjg 183 #[] g 0 c (ze xs hx).toArray w eg (jb9 g 0 _ w) hH (JT hg) Om
  rw [hds] at hcon
  refine hcon.mono ?_
  rintro e w' ⟨rfl,d',m,os,hp,hs,rfl⟩
  have hd':d'.size=n:=hp.1.trans hds
  refine⟨J,d'.toList.map (·.val),?_,?_,?_,?_⟩
  ·have:=hp.2.2.map (·.val)
   rw [←hd',Array.extract_size,hd',←hds,Array.extract_size,hval] at this
   exact this
  ·refine jkt.2 fun i j hi hj hij=> ?_
   simp only [jjB,Array.length_toList] at hi hj
   have:=hs i j (jjo _) hij Om
   rw [CT,decide_eq_false_iff_not,getElem!_pos d' j hj,getElem!_pos d' i hi] at this
   simpa using this
  ·refine⟨J,J,J,by exact size_sortWorldK_c _ _ _ _ _ _ _ _,fun b hb hne=> ?_⟩
   rw [BF hg b hb,if_neg (fun e=>hne e.symm)]
  ·refine⟨by rw [QO];simp [hd'], .inr ⟨g,c,Sort.putCells id 0 (flatK Md 4 d') cur,J,jjo _,?_,hcap,hmax,by simp [Sort.putCells,hsz],?_⟩⟩
   ·rw [BF hg g (JT hg),if_pos rfl]
   ·apply List.ext_getElem?
    intro j
    rw [List.getElem?_take]
    by_cases hj:j<n*4
    ·rw [if_pos hj,SH d' j (by rw [hd'];exact hj),Array.getElem?_toList]
     have hjc:j<cur.size:=by omega
     simp only [Sort.putCells,Array.getElem?_mapIdx,Array.getElem?_eq_getElem hjc,jla,size_flatK,hd']
     rw [if_pos ⟨jjo _,by omega⟩,Nat.sub_zero]
     rfl
    ·rw [if_neg hj,List.getElem?_eq_none (by rw [QO];simp [hd'];omega)]
theorem xN:∀(l:List Leg) (q p:Leg),QS (l++ [q] ++ [p]) =QS (l++ [q]) ++ (if q=p then [] else [p])
 | [],q,p=>by
  simp only [jj2,List.singleton_append,QS]
  split
  ·rename_i h;rw [h]
  ·rfl
 | [a],q,p=>by
  have h:=xN [] q p
  simp only [jj2,List.singleton_append,jjN] at h⊢
  rw [QS,h]
  conv=>rhs;rw [QS]
  split<;>rfl
 | a::b::l,q,p=>by
  have h:=xN (b::l) q p
  simp only [jjN] at h⊢
  rw [QS,h]
  conv=>rhs;rw [QS]
  split<;>rfl
theorem uC (h1:1≤i) (h:i<xs.length) :QS (xs.take (i+1)) =QS (xs.take i) ++ (if lg xs (i- 1) =lg xs i then [] else [lg xs i]) :=by
 obtain ⟨j,rfl⟩ :∃j,i=j+1:=⟨i- 1,by omega⟩
 rw [jjt h,jjt (show j<xs.length by omega),xN,ye h,ye (show j<xs.length by omega)]
 rfl
theorem Hc:∀l:List Leg,(QS l).length≤l.length
 | [] =>jjm _
 | [_] =>jjm _
 | p::q::l=>by
  have:=Hc (q::l)
  unfold QS
  simp only [jjr] at*
  split
  ·omega
  ·rw [jjr];omega
theorem xM {xs:List Leg} :∀i,i≤xs.length→(∀j,1≤j→j<i→¬lg xs (j- 1) =lg xs j)→QS (xs.take i) =xs.take i
 | 0,_,_=>rfl
 | 1,h,_=>by
  match xs,h with
  | p::l,_=>rfl
 | i+2,h,hj=>by
  rw [uC Om Om,xM (i+1) Om (fun j h1 h2=>hj j h1 Om),if_neg (hj (i+1) Om Om),←ye Om]
  exact(jjt Om).symm
def yy (xs:List Leg) (i:Nat) :List Leg:=QS (xs.take i) ++xs.drop (QS (xs.take i)).length
theorem Sj (h:i≤xs.length) : (yy xs i).length=xs.length:=by
 have:=Hc (xs.take i)
 rw [jjC] at this
 rw [yy,jjk,jjO]
 omega
theorem jeW {j:Nat} (h: (QS (xs.take i)).length≤j) :lg (yy xs i) j=lg xs j:=by
 simp only [lg,List.getD,yy,List.getElem?_append_right h,List.getElem?_drop]
 rw [show(QS (xs.take i)).length+ (j- (QS (xs.take i)).length) =j by omega]
theorem jeX (h1:1≤i) (h:i<xs.length) (he:lg xs (i- 1) =lg xs i) :yy xs (i+1) =yy xs i:=by rw [yy,uC h1 h,if_pos he,jjL];rfl
theorem jb6 (h1:1≤i) (h:i<xs.length) (he:¬lg xs (i- 1) =lg xs i) (hk: (QS (xs.take i)).length<xs.length) : (yy xs (i+1)).flatMap Ji=qP ((yy xs i).flatMap Ji) ((QS (xs.take i)).length*4) (Ji (lg xs i)) :=by
 rw [yy,yy,uC h1 h,if_neg he]
 generalize QS (xs.take i) =C at*
 rw [jj5 hk,jjk,jk0,jjv,jjv,jjv,jjH]
 have hC:C.length*4= (C.flatMap Ji).length:= (QO C).symm
 rw [hC,jjH (xs:=List.drop _ _),←jjq (C.flatMap Ji) (Ji xs[C.length]),yb (Ji (lg xs i)) (C.flatMap Ji) (Ji xs[C.length]) _ rfl]
 simp
def B7 (m:Nat) :List Value:= (Builtin.zeroCells (Value.agg #[.int .i64 0, .int .i64 0, .int .i64 0, .int .i64 0]).cells m).toList
theorem B8 (m:Nat) : (B7 m).length=m*4:=by
 rw [B7,Array.length_toList,size_zeroCells]
 rfl
theorem P8 (m:Nat) : (B7 m).all (·.oneCell') =true:=by
 rw [jkj]
 intro v hv
 rw [B7,Array.mem_toList_iff,Builtin.zeroCells] at hv
 obtain ⟨i,hi,rfl⟩ :=Array.mem_map.1 hv
 have:i % 4<4:=jkR _ Dc
 show(#[Value.int .i64 0,Value.int .i64 0,Value.int .i64 0,Value.int .i64 0][i % 4]!).oneCell'=true
 rcases(show i % 4=0∨i % 4=1∨i % 4=2∨i % 4=3 by omega) with e | e | e | e<;>rw [e] <;>rfl
def Mg (xs:List Leg) (i:Nat) :Nat:= (QS (xs.take i)).length
theorem OJ (h1:1≤i) (h:i<xs.length) (he:lg xs (i- 1) =lg xs i) :Mg xs (i+1) =Mg xs i:=by rw [Mg,uC h1 h,if_pos he,jjL];rfl
theorem ST (h1:1≤i) (h:i<xs.length) (he:¬lg xs (i- 1) =lg xs i) :Mg xs (i+1) =Mg xs i+1:=by rw [Mg,uC h1 h,if_neg he,jjk];rfl
theorem X6 {e f:Leg} : (e.ax==f.ax&&e.ay==f.ay&&e.bx==f.bx&&e.b_y==f.b_y) =decide (f=e) :=by
 rcases e with⟨a1,a2,a3,a4⟩
 rcases f with⟨b1,b2,b3,b4⟩
 rw [jjT]
 simp only [jjl,beq_iff_eq,decide_eq_true_eq,Leg.mk.injEq]
 omega
theorem zZ (h:∀j,1≤j→j<xs.length→¬lg xs (j- 1) =lg xs j) :QS xs=xs:=by
 have:=xM xs.length (jjm _) h
 rwa [jj3] at this
theorem LW : (xs.flatMap Ji++rest).take (xs.length*4) =xs.flatMap Ji:=List.take_left' (QO xs)
theorem Na {zs:List Value} {n c:Nat} (hn:xs.length=n) (hl: ((yy xs n).flatMap Ji++rest).length=c*4) (hK:Mg xs n*4+zs.length≤c*4) :
  (qP ((yy xs n).flatMap Ji++rest) (0+Mg xs n*4) zs).take ((QS xs).length*4) = (QS xs).flatMap Ji:=by
 have e: (QS xs).length=Mg xs n:=by rw [Mg,←hn,jj3]
 have ec:QS (xs.take n) =QS xs:=by rw [←hn,jj3]
 apply List.ext_getElem?
 intro i
 rw [List.getElem?_take,e,jjP]
 by_cases hi:i<Mg xs n*4
 ·rw [if_pos hi,BJ i Om,if_neg Om,yy,jjv,jjq,List.getElem?_append_left (by rw [QO];exact hi),ec]
 ·rw [if_neg hi,List.getElem?_eq_none (by rw [QO,e];omega)]
theorem F3 (b T c n:Nat) (xs:List Leg) (rest:List Value) (w:World) (hh:w.heap[b]? =some (.cells (xs.flatMap Ji++rest).toArray T (0,0))) (hc:n≤c) (hl: ((xs.flatMap Ji) ++rest).length=c*4) (hn:xs.length=n) (hn2:n≤1048577) :
  Calls Tryz.prog 184 #[.slice (some ⟨b,0,none⟩) n c] w fun e w'=>e= .returned (.slice (some ⟨b,0,none⟩) (QS xs).length c)∧Wr b w w'∧∃cs:List Value,w'.heap[b]? =some (.cells cs.toArray T (0,0))∧cs.length=c*4∧cs.take ((QS xs).length*4) = (QS xs).flatMap Ji:=by
 have hr2:∀(zs:List Leg),zs.length=n→∀k,k<n→∀w':World,w'.heap[b]? =some (.cells (zs.flatMap Ji++rest).toArray T (0,0))→∀(q:Nat) (v:Value),[Value.int .i64 (lg zs k).ax,Value.int .i64 (lg zs k).ay,Value.int .i64 (lg zs k).bx,Value.int .i64 (lg zs k).b_y][q]? =some v→w'.cell? ⟨b,0+k*4+q,none⟩ =some v:=fun zs hz k hk w' hw q v hv=>by
  have hq:q<4:=by have:= (List.getElem?_eq_some_iff.1 hv).1;simpa using this
  rw [cell_of_row w' b _ _ T (0,0) hw,jjP]
  have hf:=CN zs k q Om hq
  rw [ye Om] at hf
  have: (zs.flatMap Ji++rest).toArray[k*4+q]? = (zs.flatMap Ji)[k*4+q]? :=by
   rw [List.getElem?_toArray,List.getElem?_append_left (by rw [QO];omega)]
  rw [this,hf]
  exact hv
 refine QX (m:=61) (Tryz.func184) J J (lb J) (hh) ?_;refine S11 ?_;refine cZ (fun c1=> ?_) (fun c1=> ?_)
 ·refine S7 ?_;refine jK J (.tmp J) ?_
  intro w' hs
  exact⟨by rw [zZ fun j h1 h2=>absurd h2 Om,hn],hs.over.wr,_,hs.cel (k:=0) rfl,hl,by rw [zZ fun j h1 h2=>absurd h2 Om];exact LW⟩
 ·refine S8 ?_;refine qv (X:=Nat) (fun k=>1≤k∧k≤n∧(∀j,1≤j→j<k→¬lg xs (j- 1) =lg xs j)) (fun k=>n- k) (fun k=> [(3, .int .i64 (k:Int))]) (kK [0,2]) 1 (⟨jjm _,by omega,fun j h1 h2=>absurd h2 Om⟩) ⟨J,sz⟩ ?_
  intro k hk L hL1
  refine V8 ?_;refine cZ (fun c2=> ?_) (fun c2=> ?_)
  ·refine S6 ?_;refine JS 10 ?_;refine dK 0 ?_;refine dK 1 ?_;refine dK 2 ?_;refine dZ 3 J (jl J J qI J (fun w' hs=>hr2 xs hn k Om w' (hs.cel (k:=0) J))) ?_;refine dK 4 ?_;refine dK 5 ?_;refine dZ 6 J ((JF J J J Om Om).as (congrArg _ (show((k:Int) - 1) = ((k- 1:Nat) :Int) by omega))) ?_;refine dK 7 ?_;refine dZ 8 J (jl J J qI J (fun w' hs=>hr2 xs hn (k- 1) Om w' (hs.cel (k:=0) J))) ?_;refine dK 9 ?_;refine JJ Kr ?_;refine S1 ?_;refine cZ (fun c3=> ?_) (fun c3=> ?_)
   ·have hkn:k<n:=Om
    have hdup:lg xs (k- 1) =lg xs k:=of_decide_eq_true (X6▸c3)
    have hoff:zJ 0 k c 4=0+k*4:=by rw [zJ,if_neg Om]
    have hcs:QS (xs.take k) =xs.take k:=xM k Om hk.2.2
    have hck:Mg xs k=k:=by rw [Mg,hcs,jjC];omega
    have hck1:Mg xs (k+1) =k:=by rw [OJ hk.1 Om hdup,hck]
    have hclo:yy xs (k+1) =xs:=by rw [yy,uC hk.1 Om,if_pos hdup,jjL,hcs,jjC,jku Om,jjA]
    refine S4 ?_;refine a9 ((VM J J J Jk Om).as ((UK (b:=b) (o:=0) (l:=k) (h:=n) (m:=c) (s:=4) hc Om).trans (by rw [hoff]))) ?_;refine S8 ?_;refine JX (X:=Nat) (fun j=>1≤j∧k+j≤n∧Mg xs (k+j) +1≤k+j) (fun j=>n- j) (fun j=> [(3, .int .i64 (Mg xs (k+j) :Int)),(5, .int .i64 (j:Int))]) (kK [0,2,10,11,12,13,16,17,18,19,20,21,22,23,24,25,26,27,28,4]) (fun j=> [.cel b T ((yy xs (k+j)).flatMap Ji++rest)]) 1 (⟨jjm _,by omega,by omega⟩) ⟨(by rw [hck1];rfl),sz⟩ (fun _ h=>h.upto ⟨by rw [hclo],trivial⟩) ?_
    intro j hj L hL2
    refine v9 ?_;refine r9 ?_
    have hcl: (yy xs (k+j)).length=n:= (Sj Om).trans hn
    refine S8 ?_;refine cZ (fun c4=> ?_) (fun c4=> ?_)
    ·have hjl:k+j<n:=Om
     have hrd:∀i,Mg xs (k+j)≤i→i<n→∀w':World,w'.heap[b]? =some (.cells ((yy xs (k+j)).flatMap Ji++rest).toArray T (0,0))→∀(q:Nat) (v:Value),[Value.int .i64 (lg xs i).ax,Value.int .i64 (lg xs i).ay,Value.int .i64 (lg xs i).bx,Value.int .i64 (lg xs i).b_y][q]? =some v→w'.cell? ⟨b,0+i*4+q,none⟩ =some v:=fun i h1 h2 w' hw q v hv=>hr2 (yy xs (k+j)) hcl i h2 w' hw q v (by rw [jeW h1];exact hv)
     refine S6 ?_;refine JS 10 ?_;refine dK 0 ?_;refine dK 1 ?_;refine dK 2 ?_;refine dZ 3 J (jl J J qI J (fun w' hs q v hv=>by rw [show 0+k*4+j*4+q=0+ (k+j) *4+q by omega];exact hrd (k+j) Om hjl w' (hs.cel (k:=0) J) q v hv)) ?_;refine dK 4 ?_;refine dK 5 ?_;refine dZ 6 J ((JF J J J Om Om).as (congrArg _ (show((j:Int) - 1) = ((j- 1:Nat) :Int) by omega))) ?_;refine dK 7 ?_;refine dZ 8 J (jl J J qI J (fun w' hs q v hv=>by rw [show 0+k*4+ (j- 1) *4+q=0+ (k+j- 1) *4+q by omega];exact hrd (k+j- 1) Om Om w' (hs.cel (k:=0) J) q v hv)) ?_;refine dK 9 ?_;refine JJ Kr ?_;refine S1 ?_;refine cZ (fun c5=> ?_) (fun c5=> ?_)
     ·refine S7 ?_;refine a9 (jl J J qI J (fun w' hs q v hv=>by rw [show 0+k*4+j*4+q=0+ (k+j) *4+q by omega];exact hrd (k+j) Om hjl w' (hs.cel (k:=0) J) q v hv)) ?_;refine S2 ?_;refine qG (k:=0) J J J J J (by rfl) qm.szx J J (by rw [jjk,QO,hcl];simp only [jjr,jjK];omega) ?_;refine S13 ?_
      exact Jq hL2 (j+1) (⟨by omega,by omega,by rw [←jkz,ST Om Om (of_decide_eq_false (X6▸c5))];omega⟩) Om ⟨vi (by rw [←jkz,ST Om Om (of_decide_eq_false (X6▸c5))];omega),vi Om,sz⟩ (fun _ h=>h.upto ⟨by rw [←jkz,jb6 Om Om (of_decide_eq_false (X6▸c5)) (by show Mg xs (k+j) <xs.length;omega),ZJ (by rw [QO,hcl];exact(show 0+Mg xs (k+j) *4+4≤n*4 by omega)),jjP];rfl,trivial⟩)
     ·refine S8 ?_
      exact Jq hL2 (j+1) (⟨by omega,by omega,by rw [←jkz,OJ Om Om (of_decide_eq_true (X6▸c5))];omega⟩) Om ⟨vi (by rw [←jkz,OJ Om Om (of_decide_eq_true (X6▸c5))]),vi Om,sz⟩ (fun _ h=>h.upto ⟨by rw [←jkz,jeX Om Om (of_decide_eq_true (X6▸c5))],trivial⟩)
    ·refine S9 ?_;refine a9 ((VM J J J Jk Om).as (UK (b:=b) (o:=0) (l:=Mg xs (k+j)) (h:=n) (m:=c) (s:=4) hc Om)) ?_;refine S1 ?_;refine TB (k:=0) (zs:=B7 (n- Mg xs (k+j))) J Jk qm J J Om J J (P8 _) (by rw [jjk,QO,hcl,B8,zJ,if_neg Om];omega) ?_;refine N5 ?_;refine a9 ((Kv J J J Jk Om).as (ue _ _ _ _ _)) ?_;refine S8 ?_;refine jK J (.tmp J) ?_
     intro w' hs
     have hkj:k+j=n:=by omega
     have hK: (QS xs).length=Mg xs n:=by rw [Mg,←hn,jj3]
     have hlc: ((yy xs n).flatMap Ji++rest).length=c*4:=by rw [←hl,jjk,jjk,QO,QO,Sj Om]
     have hoK:zJ 0 (Mg xs n) c 4=0+Mg xs n*4:=by rw [zJ,if_neg (by rw [←hkj];omega)]
     rw [hkj,hoK] at hs
     rw [hkj] at hj
     exact⟨by rw [hK,hkj],hs.over.wr,_,hs.cel (k:=0) rfl,by rw [kG];exact hlc,Na hn hlc (by rw [B8];omega)⟩
   ·have hne:¬lg xs (k- 1) =lg xs k:=of_decide_eq_false (X6▸c3)
    refine S8 ?_
    exact qf hL1 (k+1) (⟨by omega,by omega,fun j h1 h2=> (jkv j k).elim (fun h3=>hk.2.2 j h1 h3) (fun h3=> (show k=j by omega)▸hne)⟩) Om ⟨vi Om,sz⟩ (u9 J)
  ·refine S11 ?_;refine jK J (.tmp J) ?_
   intro w' hs
   have hkn:k=n:=by omega
   have hw:=zZ (xs:=xs) fun j h1 h2=>hk.2.2 j h1 Om
   exact⟨by rw [hw,hn],hs.over.wr,_,hs.cel (k:=0) rfl,hl,by rw [hw];exact LW⟩
theorem F5 {N c n:Nat} (h:w.ownsRow N 96 4 (.slice A n c) n (xs.flatMap Ji)) (hn:xs.length=n) (h0:0<n) (hn2:n≤1048577) :
  Calls Tryz.prog 184 #[.slice A n c] w fun e w'=>e= .returned (.slice A (QS xs).length c)∧Wrs (J3 N 96 4 n (xs.flatMap Ji) (A,c)).F w w'∧(J3 N 96 4 (QS xs).length ((QS xs).flatMap Ji) (A,c)).P w':=by
 rcases h.2 with⟨_,e⟩ |⟨g,cap,cur,e,hb,hg,hcap,hmax,hsz,htk⟩
 ·omega
 ·injection e with e1 e2 e3
  subst e1 e3
  have hcur:cur.toList=xs.flatMap Ji++cur.toList.drop (n*4) :=by rw [←htk,jjA]
  have hg':w.heap[g]? =some (.cells (xs.flatMap Ji++cur.toList.drop (n*4)).toArray 96 (0,0)) :=by rw [←hcur,jkB];exact hg
  have hle:=Hc xs
  refine(F3 g _ c n xs (cur.toList.drop (n*4)) w hg' hcap (by rw [←hcur];simpa using hsz) hn hn2).mono ?_
  rintro e w' ⟨rfl,hw,cs,hh,hcl,htk'⟩
  refine⟨rfl,⟨hw.os,hw.tape,hw.output,hw.size,fun q hq hne=>hw.block q hq (fun e=>hne (by subst e;rfl))⟩,?_⟩
  exact⟨QO _, .inr ⟨g,c,_,rfl,hb,hh,by omega,hmax,by simpa using hcl,by rw [jkr];exact htk'⟩⟩
theorem jcO (v:Value) (w:World) :Calls Tryz.prog 259 #[.slice none 0 0, .int .i64 0, .int .i64 0,v] w fun e w'=>e= .returned (.tuple #[])∧Over w w':=by
 refine j6 (m:=53) (Tryz.func259) J J (lb J) ?_;refine S7 ?_;refine qv (X:=Unit) (fun u=>True) (fun u=>0) (fun u=> [(8, .int .i64 1)]) (kK [0,1,2,3]) () (trivial) ⟨J,sz⟩ ?_
 intro u hu L hL1
 refine V7 ?_;refine cZ (fun c1=> ?_) (fun c1=> ?_)
 ·omega
 ·refine S4 ?_;refine ky J ?_
  intro w' hs
  exact⟨rfl,hs.fin⟩
theorem jdB (l:Int) (v:Value) (w:World) :Calls Tryz.prog 233 #[.slice none 0 0, .int .i64 0, .int .i64 0, .int .i64 l,v] w fun e w'=>e= .returned (.tuple #[])∧Over w w':=by
 refine j6 (m:=148) (Tryz.func233) J J (lb J) ?_;refine S9 ?_;refine qv (X:=Unit) (fun u=>True) (fun u=>0) (fun u=> []) (kK [0,1,2,3,4,10,11]) () (trivial) sz ?_
 intro u hu L hL1
 refine V14 ?_;refine cZ (fun c1=> ?_) (fun c1=> ?_)
 ·refine S6 ?_;refine a9 (jM VX J J (fun w h=>jcO v w)) ?_;refine S6 ?_;refine ZQ J ?_
  intro w' hs
  exact⟨rfl,hs.fin⟩
 ·omega
theorem jcU (w:World) :Calls Tryz.prog 168 #[.int .u64 0] w fun e w'=> (∃l:Int,e= .returned (.int .i64 l))∧w=w':=
 (Any.bits_Len (SlLaysF0.n15.bits (P:=Tryz.prog) (ρ:=Y5) {jd9 with}) 0 w Om Om).mono fun _ _ ⟨he,hw⟩ =>⟨⟨_,he⟩,hw.symm⟩
theorem jbb (w:World) :Calls Tryz.prog 182 #[.slice none 0 0, .func (.func 183) #[] #[]] w fun e w'=>e= .returned (.tuple #[])∧Over w w':=by
 go_enter Tryz.func182,Tryz.ntmps182
 go_wp2_with fail
 go_at_call 168
 refine(jcU _).mono ?_
 rintro e w1 ⟨⟨l,rfl⟩,rfl⟩
 go_wp2_with fail
 go_at_call 233
 refine(jdB _ _ _).mono ?_
 rintro e w1 ⟨rfl,hb⟩
 go_wp2_with fail
 go_end0
 exact⟨rfl,hb⟩
theorem F4 (w:World) :Calls Tryz.prog 184 #[.slice none 0 0] w fun e w'=>e= .returned (.slice none 0 0)∧Over w w':=by
 refine j6 (m:=61) (Tryz.func184) J J (lb J) ?_;refine S11 ?_;refine cZ (fun c1=> ?_) (fun c1=> ?_)
 ·refine S7 ?_;refine jK J (.tmp J) ?_
  intro w' hs
  exact⟨rfl,hs.fin⟩
 ·omega
end Go.Proofs.YtbahojdbmmjkcaaGreat
