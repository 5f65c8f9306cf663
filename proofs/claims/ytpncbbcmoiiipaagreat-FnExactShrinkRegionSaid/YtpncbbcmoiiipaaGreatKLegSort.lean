import Derived.Test.YtpncbbcmoiiipaaGreatKTrP
import Derived.Test.YtpncbbcmoiiipaaGreatKHull
import Derived.Test.YtpncbbcmoiiipaaGreatKCross
import Derived.Test.YtpncbbcmoiiipaaGreatKSv
import Derived.Test.YtpncbbcmoiiipaaGreatKSimp
set_option linter.unusedVariables false
set_option linter.unusedSimpArgs false
namespace Go.Proofs.YtpncbbcmoiiipaaGreat
open Go Go.Shelf Go.RowKit Go.Lib Go.Sort
set_option maxRecDepth 100000
set_option maxHeartbeats 4000000
structure Gw where
 val:Leg
 ok:qN val
instance:Inhabited Gw:=⟨⟨⟨0,0,0,0⟩,⟨by decide,by decide⟩,⟨by decide,by decide⟩,⟨by decide,by decide⟩,by decide,by decide⟩⟩
def LK (x:Gw) :List Value:=jZ x.val
def RF (e f:Leg) :Int:=if wE (lA e) (lA f) =0 then wE (lB e) (lB f) else wE (lA e) (lA f)
theorem TP (p q:Pn) :wE p q=0↔p=q:=by
 have h1:=u7 (p.1- q.1)
 have h2:=u7 (p.2- q.2)
 obtain ⟨x,y⟩ :=p
 obtain ⟨x',y'⟩ :=q
 unfold wE
 simp only [Prod.mk.injEq] at*
 split<;>omega
theorem jee (e f:Leg) :RF e f<0↔Z4 e f:=by
 have h1:=TP (lA e) (lA f)
 have h2:=MP (lA e) (lA f)
 have h3:=MP (lB e) (lB f)
 unfold RF Z4
 split
 ·rename_i h
  rw [h3]
  constructor
  ·exact fun k=> .inr ⟨h1.1 h,k⟩
  ·rintro(k |⟨_,k⟩)
   ·rw [h1.1 h] at k
    exact absurd k (kC _)
   ·exact k
 ·rename_i h
  rw [h2]
  constructor
  ·exact .inl
  ·rintro(k |⟨k,_⟩)
   ·exact k
   ·exact absurd (h1.2 k) h
theorem P7 (x y:Gw) :ltOf (fun x y:Gw=>RF x.val y.val) x y=decide (Z4 x.val y.val) :=by
 unfold ltOf
 rw [jiN,decide_eq_true_iff,decide_eq_true_iff]
 exact jee _ _
theorem jib:SWO (ltOf fun x y:Gw=>RF x.val y.val) where
 irrefl x:=by rw [P7];exact decide_eq_false (vz _)
 trans x y z h1 h2:=by rw [P7,decide_eq_true_iff] at*;exact yO h1 h2
 ntrans x y z h1 h2:=by
  rw [P7] at*
  simp only [decide_eq_false_iff_not] at*
  exact Nw h1 h2
theorem PX (xs:List Leg) (k j:Nat) (hk:k<xs.length) (hj:j<4) : (xs.flatMap jZ)[k*4+j]? = (jZ xs[k])[j]? :=Xo jZ 4 (fun _=>rfl) xs k j hk hj
theorem QN (xs:List Leg) : (xs.flatMap jZ).length=xs.length*4:=WG jZ 4 (fun _=>rfl) xs
theorem F0 (xs:List Leg) (j:Nat) (h:j<xs.length*4) : (xs.flatMap jZ)[j]? = (jZ (xs[j/4]'(by omega)))[j % 4]? :=by
 have:=PX xs (j/4) (j % 4) Om Om
 rwa [show j/4*4+j % 4=j by omega] at this
theorem E0 (w:World) (q:Nat) (os:Array Obj) :Over w (grow (w.drewN q) os) :=⟨rfl,rfl,rfl,by simp [World.drewN],fun k hk=>heap_grow_old (w.drewN q) os hk⟩
theorem XY {W w':World} {q:Nat} {os:Array Obj} (h:w'=grow (W.drewN q) os) :Over W w':=by rw [h];exact E0 _ _ _
theorem x8 {l:Leg} (h:qN l) :ZQ (lA l)∧ZQ (lB l) :=⟨(VG h).wide,(wq h).wide⟩
theorem jhv (W:World) (a b:Array Obj) (p:Nat) :grow ((grow W a).drewN p) b=grow (W.drewN p) (a++b) :=by simp [grow,World.drewN,Array.append_assoc]
theorem jhw (W:World) (a b c:Array Obj) (p q:Nat) :grow ((grow ((grow W a).drewN p) b).drewN q) c=grow (W.drewN (p+q)) (a++b++c) :=by simp [grow,World.drewN,Array.append_assoc,jjw]
set_option maxRecDepth 100000 in
set_option maxHeartbeats 2000000 in
theorem E3 (e f:Leg) (he:qN e) (hf0:qN f) (W:World) :Calls Tryz.prog 223 #[.agg #[.int .i64 e.ax, .int .i64 e.ay, .int .i64 e.bx, .int .i64 e.b_y], .agg #[.int .i64 f.ax, .int .i64 f.ay, .int .i64 f.bx, .int .i64 f.b_y]] W fun r w'=>r= .returned (.int .i64 (RF e f))∧∃q' os',w'=grow (W.drewN q') os':=by
 have c1:=UY (lA e) (lA f) (x8 he).1 (x8 hf0).1
 have c2:=UY (lB e) (lB f) (x8 he).2 (x8 hf0).2
 unfold RF
 generalize wE (lA e) (lA f) =r1 at*
 generalize wE (lB e) (lB f) =r2 at*
 simp only [lA,lB] at c1 c2
 obtain ⟨a1,a2,a3,a4⟩ :=e
 obtain ⟨b1,b2,b3,b4⟩ :=f
 simp only at c1 c2⊢
 clear he hf0
 by_cases h0:r1=0
 ·subst h0
  rw [if_pos rfl]
  go_enter Tryz.func223,Tryz.ntmps223
  go_wp2_with fail
  refine(c1 _).mono ?_
  rintro e w1 ⟨rfl,q1,os1,hw1⟩
  have hb:=XY hw1
  replace hw1:=Lib.hid hw1
  obtain ⟨hc,hf⟩ :=Jy hb
  clear hb
  go_wp2_with fail
  refine(c2 _).mono ?_
  rintro e w2 ⟨rfl,q2,os2,hw2⟩
  replace hw2:=Lib.hid hw2
  go_wp2_with fail
  go_ret
  exact⟨rfl,_,_,by rw [hw2.out,hw1.out,alloc_eq_grow,alloc_eq_grow,grow_grow,jhw]⟩
 ·rw [if_neg h0]
  go_enter Tryz.func223,Tryz.ntmps223
  go_wp2_with fail
  refine(c1 _).mono ?_
  rintro e w1 ⟨rfl,q1,os1,hw1⟩
  replace hw1:=Lib.hid hw1
  go_wp2_with fail
  go_ret
  exact⟨rfl,_,_,by rw [hw1.out,alloc_eq_grow,alloc_eq_grow,grow_grow,jhv]⟩
theorem jbo (blk off size:Nat) (w:World) :CmpLays Tryz.prog 223 #[] LK 4 (fun x y:Gw=>RF x.val y.val) blk off size w:=
 fun _ _ _ _ x y=>E3 x.val y.val x.ok y.ok _
theorem jhU (w:World) : (isAgg (YK.t 24)).run Tryz.prog w= .ok true w:=Tryz.isAgg131 w
theorem jh9 (w:World) : (Go.sizeOf (YK.t 24)).run Tryz.prog w= .ok 4 w:=Tryz.sizeOf131 w
def YS (xs:List Leg) (hx:∀p∈xs,qN p) :List Gw:=xs.attach.map fun p=>Gw.mk p.1 (hx p.1 p.2)
theorem Ph (xs:List Leg) (hx:∀p∈xs,qN p) : (YS xs hx).length=xs.length:=by simp [YS]
theorem Pi (xs:List Leg) (hx:∀p∈xs,qN p) : (YS xs hx).map (·.val) =xs:=by
 rw [YS,List.map_map]
 exact List.attach_map_subtype_val xs
theorem RZ (d:Array Gw) (j:Nat) (h:j<d.size*4) : ((d.toList.map (·.val)).flatMap jZ)[j]? =some (flatK LK 4 d)[j]! :=by
 rw [get_flatK _ _ _ _ h,F0 _ _ (by simpa using h)]
 have hj:j/4<d.size:=by omega
 rw [getElem!_pos d (j/4) hj]
 simp only [jjs,Array.getElem_toList]
 have h2:j % 4< (LK d[j/4]).length:=by simp [LK,jZ];omega
 rw [getElem!_pos (LK d[j/4]) (j % 4) h2]
 exact List.getElem?_eq_getElem h2
theorem O2 {w:World} {g m T:Nat} {cur:Array Value} {d':Array Gw} {os:Array Obj} (hg:w.heap[g]? =some (.cells cur T (0,0))) (b:Nat) (hb:b<w.heap.size) :
  (sortWorldK LK 4 w g 0 m d' os).heap[b]? =if g=b then some (.cells (Sort.putCells id 0 (flatK LK 4 d') cur) T (0,0)) else w.heap[b]? :=by
 show((w.heap.modify g (Sort.onCells (Sort.putCells id 0 (flatK LK 4 d')))) ++os)[b]? =_
 rw [Array.getElem?_append_left (by simpa using hb),Array.getElem?_modify]
 split
 ·rename_i e
  subst e
  rw [hg]
  rfl
 ·rfl
theorem jax {B g c n:Nat} {xs:List Leg} {w:World} (h:w.ownsRow B 131 4 (.slice (some ⟨g,0,none⟩) n c) n (xs.flatMap jZ)) (hl:xs.length=n) (hx:∀p∈xs,qN p) (hn:n≤1048576) (h0:0<n) :
  Calls Tryz.prog 222 #[.slice (some ⟨g,0,none⟩) n c, .func (.func 223) #[] #[]] w fun e w'=>e= .returned (.tuple #[])∧∃ys,ys.Perm xs∧Ed ys∧Wrs (· =g) w w'∧w'.ownsRow 0 131 4 (.slice (some ⟨g,0,none⟩) n c) n (ys.flatMap jZ) :=by
 rcases h.2 with⟨_,e⟩ |⟨g',cap,cur,e,hb,hg,hcap,hmax,hsz,htk⟩
 ·omega
 ·injection e with e1 e2 e3
  injection e1 with e1
  injection e1 with e1
  subst e1 e3
  have hds: (YS xs hx).toArray.size=n:=by simp [Ph,hl]
  have hval: ((YS xs hx).toArray.toList.map (·.val)) =xs:=by rw [jjj];exact Pi xs hx
  have hH:HoldsK LK 4 w g 0 (YS xs hx).toArray:=by
   intro j hj
   rw [size_flatK,hds] at hj
   refine⟨?_,?_⟩
   ·rw [jiL,cell_of_row w g j cur _ (0,0) hg]
    have:=RZ (YS xs hx).toArray j (by rw [hds];exact hj)
    rw [hval,←htk,List.getElem?_take,if_pos hj] at this
    simpa using this
   ·unfold World.frozen?
    simp only [hg]
    simp
  have eg:∀args w,(callFunc 223 args).run Tryz.prog w= .ok (.enter 223 args) w:=enters_of Tryz.func223 Kr rfl
  have hcon:=AnyQ.slices_SortFunc jdo 4 jhU jh9 LK (fun _=>rfl) (fun x v hv=>by simp [LK,jZ] at hv;rcases hv with rfl | rfl | rfl | rfl<;>rfl) (fun x y:Gw=>RF x.val y.val) jib 223 #[] g 0 c (YS xs hx).toArray w eg (jbo g 0 _ w) hH (J3 hg) Om
  rw [hds] at hcon
  refine hcon.mono ?_
  rintro e w' ⟨rfl,d',m,os,hp,hs,rfl⟩
  have hd':d'.size=n:=hp.1.trans hds
  refine⟨J,d'.toList.map (·.val),?_,?_,?_,?_⟩
  ·have:=hp.2.2.map (·.val)
   rw [←hd',Array.extract_size,hd',←hds,Array.extract_size,hval] at this
   exact this
  ·refine jjl.2 fun i j hi hj hij=> ?_
   simp only [jit,Array.length_toList] at hi hj
   have:=hs i j (jii _) hij Om
   rw [P7,decide_eq_false_iff_not,getElem!_pos d' j hj,getElem!_pos d' i hi] at this
   simpa using this
  ·refine⟨J,J,J,by exact size_sortWorldK_c _ _ _ _ _ _ _ _,fun b hb hne=> ?_⟩
   rw [O2 hg b hb,if_neg (fun e=>hne e.symm)]
  ·refine⟨by rw [QN];simp [hd'], .inr ⟨g,c,Sort.putCells id 0 (flatK LK 4 d') cur,J,jii _,?_,hcap,hmax,by simp [Sort.putCells,hsz],?_⟩⟩
   ·rw [O2 hg g (J3 hg),if_pos rfl]
   ·apply List.ext_getElem?
    intro j
    rw [List.getElem?_take]
    by_cases hj:j<n*4
    ·rw [if_pos hj,RZ d' j (by rw [hd'];exact hj),Array.getElem?_toList]
     have hjc:j<cur.size:=by omega
     simp only [Sort.putCells,Array.getElem?_mapIdx,Array.getElem?_eq_getElem hjc,jj4,size_flatK,hd']
     rw [if_pos ⟨jii _,by omega⟩,jp4]
     rfl
    ·rw [if_neg hj,List.getElem?_eq_none (by rw [QN];simp [hd'];omega)]
theorem xm:∀(l:List Leg) (q p:Leg),QR (l++ [q] ++ [p]) =QR (l++ [q]) ++ (if q=p then [] else [p])
 | [],q,p=>by
  simp only [jiW,List.singleton_append,QR]
  split
  ·rename_i h;rw [h]
  ·rfl
 | [a],q,p=>by
  have h:=xm [] q p
  simp only [jiW,List.singleton_append,jiJ] at h⊢
  rw [QR,h]
  conv=>rhs;rw [QR]
  split<;>rfl
 | a::b::l,q,p=>by
  have h:=xm (b::l) q p
  simp only [jiJ] at h⊢
  rw [QR,h]
  conv=>rhs;rw [QR]
  split<;>rfl
theorem ui {xs:List Leg} {i:Nat} (h1:1≤i) (h:i<xs.length) :QR (xs.take (i+1)) =QR (xs.take i) ++ (if lg xs (i- 1) =lg xs i then [] else [lg xs i]) :=by
 obtain ⟨j,rfl⟩ :∃j,i=j+1:=⟨i- 1,by omega⟩
 rw [jin h,jin (show j<xs.length by omega),xm,Uz h,Uz (show j<xs.length by omega)]
 rfl
theorem GF:∀l:List Leg,(QR l).length≤l.length
 | [] =>jih _
 | [_] =>jih _
 | p::q::l=>by
  have:=GF (q::l)
  unfold QR
  simp only [jim] at*
  split
  ·omega
  ·rw [jim];omega
theorem xl {xs:List Leg} :∀i,i≤xs.length→(∀j,1≤j→j<i→¬lg xs (j- 1) =lg xs j)→QR (xs.take i) =xs.take i
 | 0,_,_=>rfl
 | 1,h,_=>by
  match xs,h with
  | p::l,_=>rfl
 | i+2,h,hj=>by
  rw [ui Om Om,xl (i+1) Om (fun j h1 h2=>hj j h1 Om),if_neg (hj (i+1) Om Om),←Uz Om]
  exact(jin Om).symm
def yl (xs:List Leg) (i:Nat) :List Leg:=QR (xs.take i) ++xs.drop (QR (xs.take i)).length
theorem RE {xs:List Leg} {i:Nat} (h:i≤xs.length) : (yl xs i).length=xs.length:=by
 have:=GF (xs.take i)
 rw [jiy] at this
 rw [yl,jif,jiI]
 omega
theorem jea {xs:List Leg} {i j:Nat} (h: (QR (xs.take i)).length≤j) :lg (yl xs i) j=lg xs j:=by
 simp only [lg,List.getD,yl,List.getElem?_append_right h,List.getElem?_drop]
 rw [show(QR (xs.take i)).length+ (j- (QR (xs.take i)).length) =j by omega]
theorem jeb {xs:List Leg} {i:Nat} (h1:1≤i) (h:i<xs.length) (he:lg xs (i- 1) =lg xs i) :yl xs (i+1) =yl xs i:=by rw [yl,ui h1 h,if_pos he,jiG];rfl
theorem jbm {xs:List Leg} {i:Nat} (h1:1≤i) (h:i<xs.length) (he:¬lg xs (i- 1) =lg xs i) (hk: (QR (xs.take i)).length<xs.length) : (yl xs (i+1)).flatMap jZ=qP ((yl xs i).flatMap jZ) ((QR (xs.take i)).length*4) (jZ (lg xs i)) :=by
 rw [yl,yl,ui h1 h,if_neg he]
 generalize QR (xs.take i) =C at*
 rw [jiY hk,jif,jjW,jio,jio,jio,jiB]
 have hC:C.length*4= (C.flatMap jZ).length:= (QN C).symm
 rw [hC,jiB (xs:=List.drop _ _),←jil (C.flatMap jZ) (jZ xs[C.length]),UR (jZ (lg xs i)) (C.flatMap jZ) (jZ xs[C.length]) _ rfl]
 simp
def Br (m:Nat) :List Value:= (Builtin.zeroCells (Value.agg #[.int .i64 0, .int .i64 0, .int .i64 0, .int .i64 0]).cells m).toList
theorem Bt (m:Nat) : (Br m).length=m*4:=by
 rw [Br,Array.length_toList,size_zeroCells]
 rfl
theorem jom (m:Nat) : (Br m).all (·.oneCell') =true:=by
 rw [jjn]
 intro v hv
 rw [Br,Array.mem_toList_iff,Builtin.zeroCells] at hv
 obtain ⟨i,hi,rfl⟩ :=Array.mem_map.1 hv
 have:i % 4<4:=Nat.mod_lt _ Dc
 show(#[Value.int .i64 0,Value.int .i64 0,Value.int .i64 0,Value.int .i64 0][i % 4]!).oneCell'=true
 rcases(show i % 4=0∨i % 4=1∨i % 4=2∨i % 4=3 by omega) with e | e | e | e<;>rw [e] <;>rfl
def LP (xs:List Leg) (i:Nat) :Nat:= (QR (xs.take i)).length
theorem M6 {xs:List Leg} {i:Nat} (h1:1≤i) (h:i<xs.length) (he:lg xs (i- 1) =lg xs i) :LP xs (i+1) =LP xs i:=by rw [LP,ui h1 h,if_pos he,jiG];rfl
theorem Se {xs:List Leg} {i:Nat} (h1:1≤i) (h:i<xs.length) (he:¬lg xs (i- 1) =lg xs i) :LP xs (i+1) =LP xs i+1:=by rw [LP,ui h1 h,if_neg he,jif];rfl
theorem Xx {e f:Leg} : (e.ax==f.ax&&e.ay==f.ay&&e.bx==f.bx&&e.b_y==f.b_y) =decide (f=e) :=by
 rcases e with⟨a1,a2,a3,a4⟩
 rcases f with⟨b1,b2,b3,b4⟩
 rw [jiN]
 simp only [jig,beq_iff_eq,decide_eq_true_eq,Leg.mk.injEq]
 omega
theorem zG {xs:List Leg} (h:∀j,1≤j→j<xs.length→¬lg xs (j- 1) =lg xs j) :QR xs=xs:=by
 have:=xl xs.length (jih _) h
 rwa [jiX] at this
theorem Lv {xs:List Leg} {rest:List Value} : (xs.flatMap jZ++rest).take (xs.length*4) =xs.flatMap jZ:=List.take_left' (QN xs)
theorem Tx {xs:List Leg} {rest zs:List Value} {n c:Nat} (hn:xs.length=n) (hl: ((yl xs n).flatMap jZ++rest).length=c*4) (hK:LP xs n*4+zs.length≤c*4) :
  (qP ((yl xs n).flatMap jZ++rest) (0+LP xs n*4) zs).take ((QR xs).length*4) = (QR xs).flatMap jZ:=by
 have e: (QR xs).length=LP xs n:=by rw [LP,←hn,jiX]
 have ec:QR (xs.take n) =QR xs:=by rw [←hn,jiX]
 apply List.ext_getElem?
 intro i
 rw [List.getElem?_take,e,jiL]
 by_cases hi:i<LP xs n*4
 ·rw [if_pos hi,O6 i Om,if_neg Om,yl,jio,jil,List.getElem?_append_left (by rw [QN];exact hi),ec]
 ·rw [if_neg hi,List.getElem?_eq_none (by rw [QN,e];omega)]
theorem Fr (b T c n:Nat) (xs:List Leg) (rest:List Value) (w:World) (hh:w.heap[b]? =some (.cells (xs.flatMap jZ++rest).toArray T (0,0))) (hc:n≤c) (hl: ((xs.flatMap jZ) ++rest).length=c*4) (hn:xs.length=n) (hn2:n≤1048577) :
  Calls Tryz.prog 224 #[.slice (some ⟨b,0,none⟩) n c] w fun e w'=>e= .returned (.slice (some ⟨b,0,none⟩) (QR xs).length c)∧Wr b w w'∧∃cs:List Value,w'.heap[b]? =some (.cells cs.toArray T (0,0))∧cs.length=c*4∧cs.take ((QR xs).length*4) = (QR xs).flatMap jZ:=by
 have hr2:∀(zs:List Leg),zs.length=n→∀k,k<n→∀w':World,w'.heap[b]? =some (.cells (zs.flatMap jZ++rest).toArray T (0,0))→∀(q:Nat) (v:Value),[Value.int .i64 (lg zs k).ax,Value.int .i64 (lg zs k).ay,Value.int .i64 (lg zs k).bx,Value.int .i64 (lg zs k).b_y][q]? =some v→w'.cell? ⟨b,0+k*4+q,none⟩ =some v:=fun zs hz k hk w' hw q v hv=>by
  have hq:q<4:=by have:= (List.getElem?_eq_some_iff.1 hv).1;simpa using this
  rw [cell_of_row w' b _ _ T (0,0) hw,jiL]
  have hf:=PX zs k q Om hq
  rw [Uz Om] at hf
  have: (zs.flatMap jZ++rest).toArray[k*4+q]? = (zs.flatMap jZ)[k*4+q]? :=by
   rw [List.getElem?_toArray,List.getElem?_append_left (by rw [QN];omega)]
  rw [this,hf]
  exact hv
 refine QX (m:=61) (Tryz.func224) J J (lb J) (hh) ?_;refine S11 ?_;refine cZ (fun c1=> ?_) (fun c1=> ?_)
 ·refine S7 ?_;refine jM J (.tmp J) ?_
  intro w' hs
  exact⟨by rw [zG fun j h1 h2=>absurd h2 Om,hn],hs.over.wr,_,hs.cel (k:=0) rfl,hl,by rw [zG fun j h1 h2=>absurd h2 Om];exact Lv⟩
 ·refine S8 ?_;refine qz (X:=Nat) (fun k=>1≤k∧k≤n∧(∀j,1≤j→j<k→¬lg xs (j- 1) =lg xs j)) (fun k=>n- k) (fun k=> [(3, .int .i64 (k:Int))]) (kK [0,2]) 1 (⟨jih _,by omega,fun j h1 h2=>absurd h2 Om⟩) ⟨J,sz⟩ ?_
  intro k hk L hL1
  refine V8 ?_;refine cZ (fun c2=> ?_) (fun c2=> ?_)
  ·refine S6 ?_;refine JS 10 ?_;refine dK 0 ?_;refine dK 1 ?_;refine dK 2 ?_;refine dZ 3 J (jk J J qG J (fun w' hs=>hr2 xs hn k Om w' (hs.cel (k:=0) J))) ?_;refine dK 4 ?_;refine dK 5 ?_;refine dZ 6 J ((JJ J J J Om Om).as (congrArg _ (show((k:Int) - 1) = ((k- 1:Nat) :Int) by omega))) ?_;refine dK 7 ?_;refine dZ 8 J (jk J J qG J (fun w' hs=>hr2 xs hn (k- 1) Om w' (hs.cel (k:=0) J))) ?_;refine dK 9 ?_;refine JK Kr ?_;refine S1 ?_;refine cZ (fun c3=> ?_) (fun c3=> ?_)
   ·have hkn:k<n:=Om
    have hdup:lg xs (k- 1) =lg xs k:=of_decide_eq_true (Xx▸c3)
    have hoff:zf 0 k c 4=0+k*4:=by rw [zf,if_neg Om]
    have hcs:QR (xs.take k) =xs.take k:=xl k Om hk.2.2
    have hck:LP xs k=k:=by rw [LP,hcs,jiy];omega
    have hck1:LP xs (k+1) =k:=by rw [M6 hk.1 Om hdup,hck]
    have hclo:yl xs (k+1) =xs:=by rw [yl,ui hk.1 Om,if_pos hdup,jiG,hcs,jiy,jjm Om,jiw]
    refine S4 ?_;refine a9 ((Vy J J J Jf Om).as ((Uq (b:=b) (o:=0) (l:=k) (h:=n) (m:=c) (s:=4) hc Om).trans (by rw [hoff]))) ?_;refine S8 ?_;refine JQ (X:=Nat) (fun j=>1≤j∧k+j≤n∧LP xs (k+j) +1≤k+j) (fun j=>n- j) (fun j=> [(3, .int .i64 (LP xs (k+j) :Int)),(5, .int .i64 (j:Int))]) (kK [0,2,10,11,12,13,16,17,18,19,20,21,22,23,24,25,26,27,28,4]) (fun j=> [.cel b T ((yl xs (k+j)).flatMap jZ++rest)]) 1 (⟨jih _,by omega,by omega⟩) ⟨(by rw [hck1];rfl),sz⟩ (fun _ h=>h.upto ⟨by rw [hclo],trivial⟩) ?_
    intro j hj L hL2
    refine v9 ?_;refine r9 ?_
    have hcl: (yl xs (k+j)).length=n:= (RE Om).trans hn
    refine S8 ?_;refine cZ (fun c4=> ?_) (fun c4=> ?_)
    ·have hjl:k+j<n:=Om
     have hrd:∀i,LP xs (k+j)≤i→i<n→∀w':World,w'.heap[b]? =some (.cells ((yl xs (k+j)).flatMap jZ++rest).toArray T (0,0))→∀(q:Nat) (v:Value),[Value.int .i64 (lg xs i).ax,Value.int .i64 (lg xs i).ay,Value.int .i64 (lg xs i).bx,Value.int .i64 (lg xs i).b_y][q]? =some v→w'.cell? ⟨b,0+i*4+q,none⟩ =some v:=fun i h1 h2 w' hw q v hv=>hr2 (yl xs (k+j)) hcl i h2 w' hw q v (by rw [jea h1];exact hv)
     refine S6 ?_;refine JS 10 ?_;refine dK 0 ?_;refine dK 1 ?_;refine dK 2 ?_;refine dZ 3 J (jk J J qG J (fun w' hs q v hv=>by rw [show 0+k*4+j*4+q=0+ (k+j) *4+q by omega];exact hrd (k+j) Om hjl w' (hs.cel (k:=0) J) q v hv)) ?_;refine dK 4 ?_;refine dK 5 ?_;refine dZ 6 J ((JJ J J J Om Om).as (congrArg _ (show((j:Int) - 1) = ((j- 1:Nat) :Int) by omega))) ?_;refine dK 7 ?_;refine dZ 8 J (jk J J qG J (fun w' hs q v hv=>by rw [show 0+k*4+ (j- 1) *4+q=0+ (k+j- 1) *4+q by omega];exact hrd (k+j- 1) Om Om w' (hs.cel (k:=0) J) q v hv)) ?_;refine dK 9 ?_;refine JK Kr ?_;refine S1 ?_;refine cZ (fun c5=> ?_) (fun c5=> ?_)
     ·refine S7 ?_;refine a9 (jk J J qG J (fun w' hs q v hv=>by rw [show 0+k*4+j*4+q=0+ (k+j) *4+q by omega];exact hrd (k+j) Om hjl w' (hs.cel (k:=0) J) q v hv)) ?_;refine S2 ?_;refine qE (k:=0) J J J J J (by rfl) qn.szx J J (by rw [jif,QN,hcl];simp only [jim,jiH];omega) ?_;refine S13 ?_
      exact Ji hL2 (j+1) (⟨by omega,by omega,by rw [←jjw,Se Om Om (of_decide_eq_false (Xx▸c5))];omega⟩) Om ⟨vi (by rw [←jjw,Se Om Om (of_decide_eq_false (Xx▸c5))];omega),vi Om,sz⟩ (fun _ h=>h.upto ⟨by rw [←jjw,jbm Om Om (of_decide_eq_false (Xx▸c5)) (by show LP xs (k+j) <xs.length;omega),Zk (by rw [QN,hcl];exact(show 0+LP xs (k+j) *4+4≤n*4 by omega)),jiL];rfl,trivial⟩)
     ·refine S8 ?_
      exact Ji hL2 (j+1) (⟨by omega,by omega,by rw [←jjw,M6 Om Om (of_decide_eq_true (Xx▸c5))];omega⟩) Om ⟨vi (by rw [←jjw,M6 Om Om (of_decide_eq_true (Xx▸c5))]),vi Om,sz⟩ (fun _ h=>h.upto ⟨by rw [←jjw,jeb Om Om (of_decide_eq_true (Xx▸c5))],trivial⟩)
    ·refine S9 ?_;refine a9 ((Vy J J J Jf Om).as (Uq (b:=b) (o:=0) (l:=LP xs (k+j)) (h:=n) (m:=c) (s:=4) hc Om)) ?_;refine S1 ?_;refine SQ (k:=0) (zs:=Br (n- LP xs (k+j))) J Jf qn J J Om J J (jom _) (by rw [jif,QN,hcl,Bt,zf,if_neg Om];omega) ?_;refine N5 ?_;refine a9 ((Kl J J J Jf Om).as (WT _ _ _ _ _)) ?_;refine S8 ?_;refine jM J (.tmp J) ?_
     intro w' hs
     have hkj:k+j=n:=by omega
     have hK: (QR xs).length=LP xs n:=by rw [LP,←hn,jiX]
     have hlc: ((yl xs n).flatMap jZ++rest).length=c*4:=by rw [←hl,jif,jif,QN,QN,RE Om]
     have hoK:zf 0 (LP xs n) c 4=0+LP xs n*4:=by rw [zf,if_neg (by rw [←hkj];omega)]
     rw [hkj,hoK] at hs
     rw [hkj] at hj
     exact⟨by rw [hK,hkj],hs.over.wr,_,hs.cel (k:=0) rfl,by rw [kD];exact hlc,Tx hn hlc (by rw [Bt];omega)⟩
   ·have hne:¬lg xs (k- 1) =lg xs k:=of_decide_eq_false (Xx▸c3)
    refine S8 ?_
    exact qi hL1 (k+1) (⟨by omega,by omega,fun j h1 h2=> (jjk j k).elim (fun h3=>hk.2.2 j h1 h3) (fun h3=> (show k=j by omega)▸hne)⟩) Om ⟨vi Om,sz⟩ (u9 J)
  ·refine S11 ?_;refine jM J (.tmp J) ?_
   intro w' hs
   have hkn:k=n:=by omega
   have hw:=zG (xs:=xs) fun j h1 h2=>hk.2.2 j h1 Om
   exact⟨by rw [hw,hn],hs.over.wr,_,hs.cel (k:=0) rfl,hl,by rw [hw];exact Lv⟩
theorem Ft {N c n:Nat} {A:Option Addr} {xs:List Leg} {w:World} (h:w.ownsRow N 131 4 (.slice A n c) n (xs.flatMap jZ)) (hn:xs.length=n) (h0:0<n) (hn2:n≤1048577) :
  Calls Tryz.prog 224 #[.slice A n c] w fun e w'=>e= .returned (.slice A (QR xs).length c)∧Wrs (JY N 131 4 n (xs.flatMap jZ) (A,c)).F w w'∧(JY N 131 4 (QR xs).length ((QR xs).flatMap jZ) (A,c)).P w':=by
 rcases h.2 with⟨_,e⟩ |⟨g,cap,cur,e,hb,hg,hcap,hmax,hsz,htk⟩
 ·omega
 ·injection e with e1 e2 e3
  subst e1 e3
  have hcur:cur.toList=xs.flatMap jZ++cur.toList.drop (n*4) :=by rw [←htk,jiw]
  have hg':w.heap[g]? =some (.cells (xs.flatMap jZ++cur.toList.drop (n*4)).toArray 131 (0,0)) :=by rw [←hcur,jjy];exact hg
  have hle:=GF xs
  refine(Fr g _ c n xs (cur.toList.drop (n*4)) w hg' hcap (by rw [←hcur];simpa using hsz) hn hn2).mono ?_
  rintro e w' ⟨rfl,hw,cs,hh,hcl,htk'⟩
  refine⟨rfl,⟨hw.os,hw.tape,hw.output,hw.size,fun q hq hne=>hw.block q hq (fun e=>hne (by subst e;rfl))⟩,?_⟩
  exact⟨QN _, .inr ⟨g,c,_,rfl,hb,hh,by omega,hmax,by simpa using hcl,by rw [jjj];exact htk'⟩⟩
theorem jb4 (v:Value) (w:World) :Calls Tryz.prog 283 #[.slice none 0 0, .int .i64 0, .int .i64 0,v] w fun e w'=>e= .returned (.tuple #[])∧Over w w':=by
 refine Jh (m:=53) (Tryz.func283) J J (lb J) ?_;refine S7 ?_;refine qz (X:=Unit) (fun u=>True) (fun u=>0) (fun u=> [(8, .int .i64 1)]) (kK [0,1,2,3]) () (trivial) ⟨J,sz⟩ ?_
 intro u hu L hL1
 refine V7 ?_;refine cZ (fun c1=> ?_) (fun c1=> ?_)
 ·omega
 ·refine S4 ?_;refine kw J ?_
  intro w' hs
  exact⟨rfl,hs.fin⟩
theorem jcN (l:Int) (v:Value) (w:World) :Calls Tryz.prog 266 #[.slice none 0 0, .int .i64 0, .int .i64 0, .int .i64 l,v] w fun e w'=>e= .returned (.tuple #[])∧Over w w':=by
 refine Jh (m:=148) (Tryz.func266) J J (lb J) ?_;refine S9 ?_;refine qz (X:=Unit) (fun u=>True) (fun u=>0) (fun u=> []) (kK [0,1,2,3,4,10,11]) () (trivial) sz ?_
 intro u hu L hL1
 refine V14 ?_;refine cZ (fun c1=> ?_) (fun c1=> ?_)
 ·refine S6 ?_;refine a9 (jT VM J J (fun w h=>jb4 v w)) ?_;refine S6 ?_;refine Zr J ?_
  intro w' hs
  exact⟨rfl,hs.fin⟩
 ·omega
theorem jb8 (w:World) :Calls Tryz.prog 210 #[.int .u64 0] w fun e w'=> (∃l:Int,e= .returned (.int .i64 l))∧w=w':=
 (Any.bits_Len (SlLaysF0.n15.bits (P:=Tryz.prog) (ρ:=YK) {jdo with}) 0 w Om Om).mono fun _ _ ⟨he,hw⟩ =>⟨⟨_,he⟩,hw.symm⟩
theorem jau (w:World) :Calls Tryz.prog 222 #[.slice none 0 0, .func (.func 223) #[] #[]] w fun e w'=>e= .returned (.tuple #[])∧Over w w':=by
 go_enter Tryz.func222,Tryz.ntmps222
 go_wp2_with fail
 go_at_call 210
 refine(jb8 _).mono ?_
 rintro e w1 ⟨⟨l,rfl⟩,rfl⟩
 go_wp2_with fail
 go_at_call 266
 refine(jcN _ _ _).mono ?_
 rintro e w1 ⟨rfl,hb⟩
 go_wp2_with fail
 go_end0
 exact⟨rfl,hb⟩
theorem Fs (w:World) :Calls Tryz.prog 224 #[.slice none 0 0] w fun e w'=>e= .returned (.slice none 0 0)∧Over w w':=by
 refine Jh (m:=61) (Tryz.func224) J J (lb J) ?_;refine S11 ?_;refine cZ (fun c1=> ?_) (fun c1=> ?_)
 ·refine S7 ?_;refine jM J (.tmp J) ?_
  intro w' hs
  exact⟨rfl,hs.fin⟩
 ·omega
end Go.Proofs.YtpncbbcmoiiipaaGreat
namespace Go.Proofs.YtpncbbcmoiiipaaGreat
open Go Go.RowKit
set_option maxRecDepth 100000
set_option maxHeartbeats 4000000
theorem RG (p q:Pn) :0<wE p q↔vh q p:=by
 have h1:=u7 (p.1- q.1)
 have h2:=u7 (p.2- q.2)
 unfold wE vh
 split<;>omega
theorem RH (p q:Pn) (hp:ZQ p) (hq:ZQ q) (W:World) :Calls Tryz.prog 166 #[pV p,pV q] W fun e w'=>e= .returned (.int .i64 (wE p q))∧Over W w':=
 (UY p q hp hq W).mono fun e w' ⟨h,q',os',hw⟩ =>⟨h,XY hw⟩
def BT (ls:List Leg) (k:Nat) :List Leg:= (ls.take k).map Q5
theorem DR {ls:List Leg} {k:Nat} (h:k<ls.length) :BT ls (k+1) =BT ls k++ [Q5 (lg ls k)] :=by
 rw [BT,jin h,Uz h]
 simp [BT]
theorem jcz {ls:List Leg} {k:Nat} (h:k≤ls.length) : (BT ls k).length=k:=by
 rw [BT,jit,jiy]
 omega
theorem je0 {l:Leg} (h:0<wE (lA l) (lB l)) :Q5 l=⟨l.bx,l.b_y,l.ax,l.ay⟩ :=by rw [Q5,if_pos ((RG _ _).1 h)];rfl
theorem jgL {l:Leg} (h:wE (lA l) (lB l)≤0) :Q5 l=l:=by rw [Q5,if_neg fun k=>by have:= (RG _ _).2 k;omega]
def KI (es:List Leg) :List Leg:= (Qd false es []).map (·.e)
theorem jb6 {es m:List Leg} (hp:m.Perm (es.map Q5)) (hr:Ed m) :QR m=KI es:=
 (jcv rfl hr fun q=>by rw [hp.mem_iff,jip];constructor<;> (rintro⟨e,h1,h2⟩;exact⟨e,h1,h2.symm⟩)).symm
theorem jaw {B g c n:Nat} {xs:List Leg} {w:World} (h: (JY B 131 4 n (xs.flatMap jZ) (some ⟨g,0,none⟩,c)).P w) (hl:xs.length=n) (hx:∀p∈xs,qN p) (hn:n≤1048576) (h0:0<n) :
  Calls Tryz.prog 222 #[.slice (some ⟨g,0,none⟩) n c, .func (.func 223) #[] #[]] w fun e w'=>∃x: {ys:List Leg//ys.Perm xs∧Ed ys},e= .returned (.tuple #[])∧Wrs (JY B 131 4 n (xs.flatMap jZ) (some ⟨g,0,none⟩,c)).F w w'∧(JY 0 131 4 n (x.1.flatMap jZ) (some ⟨g,0,none⟩,c)).P w'∧(∀b,(JY 0 131 4 n (x.1.flatMap jZ) (some ⟨g,0,none⟩,c)).F b→(JY B 131 4 n (xs.flatMap jZ) (some ⟨g,0,none⟩,c)).F b∨w.heap.size≤b)∧(JY 0 131 4 n (x.1.flatMap jZ) (some ⟨g,0,none⟩,c)).B=0:=by
 refine(jax h hl hx hn h0).mono ?_
 rintro e w' ⟨rfl,ys,hp,hr,hw,ho⟩
 exact⟨⟨ys,hp,hr⟩,rfl,hw.mono fun b hb=>by subst hb;rfl,ho,fun b hb=> .inl hb,rfl⟩
theorem jeX {ls:List Leg} (hok:∀l∈ls,qN l) (k:Nat) :∀l∈BT ls k,qN l:=fun l hl=>by
 obtain ⟨e,he,rfl⟩ :=jip.1 hl
 exact jcA (hok e (jiZ he))
theorem SV (A:Option Addr) (n c:Nat) (ls:List Leg) (w:World) (h:Legs w A n ls) (hok:∀l∈ls,qN l) (hn:n≤1048576) (h0:0<n) :
  Calls Tryz.prog 174 #[.slice A n c] w fun e w'=>∃v,e= .returned v∧w'.ownsRow w.heap.size 131 4 v (KI ls).length ((KI ls).flatMap jZ)∧Over w w':=by
 have hl:=h.1
 refine Jh (m:=33) (Tryz.func174) J J (lb J) ?_;refine S7 ?_;refine Q7 (T:=131) (s:=4) ?_;refine N9 ?_;refine JQ (X:=Nat×Option Addr×Nat) (fun x=>x.1≤n) (fun x=>n- x.1) (fun x=> [(3, .slice x.2.1 x.1 x.2.2),(8, .int .i64 (x.1:Int))]) (kK [2,6,7]) (fun x=> [JY (Bs.N ⟨w,[]⟩) 131 4 x.1 ((BT ls x.1).flatMap jZ) x.2]) (0,none,0) (jii _) ⟨J,sz⟩ (fun _ h=>h) ?_
 intro⟨k,rA,rc⟩ hk L hL1
 refine v9 ?_;refine r9 ?_
 have hk:k≤n:=hk
 refine S5 ?_;refine cZ (fun c1=> ?_) (fun c1=> ?_)
 ·have hlt:k<n:=Om
  obtain ⟨eb,eo,rfl,_⟩ :=h.2 Om
  have hb1:=x8 (QS hok (show k<ls.length by omega))
  refine S7 ?_;refine a9 (jk J J qG J (ya (fun w' hs=>h.over hs.fin) hlt)) ?_;refine S1 ?_;refine aL (fun b1=> ?_);refine N10 ?_;refine a9 (jT WK J J (fun w1 hs=>RH (lA (lg ls k)) (lB (lg ls k)) hb1.1 hb1.2 w1)) ?_;refine S2 ?_;refine cZ (fun c2=> ?_) (fun c2=> ?_)
  ·refine S7 ?_;refine Ox (k:=1) J J J J (J) (by rfl) jH.szx J ?_;refine N2 ?_;refine Oy (k:=1) J J J J (J) (by rfl) jH.szx J ?_;refine N5 ?_;refine Jx J J (Kx J) J (lb J) (fun b2=> ?_);refine N1 ?_;refine JV (k:=0) J Jf qn Dc J Dc J J J (fun w' hs=>Qb hs (k:=2) J J) (by simp [Value.oneCell']) (by unfold maxLen;omega) Om (jih _) (fun r1=> ?_);refine N8 ?_
   exact Ji hL1 ((k+1,r1)) ((show k+1≤n by omega)) (by simp only;omega) ⟨J,vi Om,sz⟩ (fun _ h=>h.upto ⟨by rw [DR Om,je0 c2,jio];rfl,trivial⟩)
  ·refine S6 ?_;refine Jx J J (Kx J) J (lb J) (fun b3=> ?_);refine N1 ?_;refine JV (k:=0) J Jf qn Dc J Dc J J J (fun w' hs=>Qb hs (k:=2) J J) (by simp [Value.oneCell']) (by unfold maxLen;omega) Om (jih _) (fun r2=> ?_);refine N8 ?_
   exact Ji hL1 ((k+1,r2)) ((show k+1≤n by omega)) (by simp only;omega) ⟨J,vi Om,sz⟩ (fun _ h=>h.upto ⟨by rw [DR Om,jgL c2,jio];rfl,trivial⟩)
 ·have hin:k=n:=by omega
  subst hin
  have hnl:=jcz (show k≤ls.length by omega)
  refine S6 ?_;refine ky (fun w hs=>VJ (k:=0) J hs h0) ?_
  rintro⟨eg,rfl⟩
  refine S3 ?_;refine qO (k:=0) (X:= {ys:List Leg//ys.Perm (BT ls k)∧Ed ys}) (v:=fun _=> .tuple #[]) (r':=fun x=>JY 0 131 4 _ (x.1.flatMap jZ) (some ⟨eg,0,none⟩,rc)) kT J J J Dc J (fun w1 hs=>jaw (hs.all 0 _ J).1 hnl (jeX hok k) hn h0) ?_
  rintro⟨ys,hperm,hris⟩
  refine N5 ?_;refine z7 (k:=0) (r':=JY 0 131 4 (QR ys).length ((QR ys).flatMap jZ) (some ⟨eg,0,none⟩,rc)) kY J J J Dc J (fun w1 hs=>Ft (hs.all 0 _ J).1 (hperm.length_eq.trans hnl) h0 Om) (fun _ h=>h) J ?_;refine N3 ?_;refine jM J (.tmp J) ?_
  intro w' hs
  have hr:=hs.all 0 _ rfl
  have he:=jb6 (show ys.Perm (ls.map Q5) by rw [BT,jiK Om] at hperm;exact hperm) hris
  exact⟨_,rfl,by rw [←he];exact vv hr.1 (fun b hb=> (hr.2.1 b hb).elim id (fun h=>by cases h)),hs.fin⟩
theorem SU (A:Option Addr) (c:Nat) (w:World) :
  Calls Tryz.prog 174 #[.slice A 0 c] w fun e w'=>e= .returned (.slice none 0 0)∧Over w w':=by
 refine Jh (m:=33) (Tryz.func174) J J (lb J) ?_;refine S16 ?_;refine qz (X:=Unit) (fun u=>True) (fun u=>0) (fun u=> [(3, .slice none 0 0),(8, .int .i64 0)]) (kK [2,6,7]) () (trivial) ⟨J,sz⟩ ?_
 intro u hu L hL1
 refine V5 ?_;refine cZ (fun c1=> ?_) (fun c1=> ?_)
 ·omega
 ·refine S8 ?_;refine a9 (jT kT J J (fun w h=>jau w)) ?_;refine S4 ?_;refine a9 (jT kY J J (fun w h=>Fs w)) ?_;refine S3 ?_;refine jM J (.tmp J) ?_
  intro w' hs
  exact⟨rfl,hs.fin⟩
theorem ST (A:Option Addr) (n c:Nat) (ls:List Leg) (w:World) (h:Legs w A n ls) (hok:∀l∈ls,qN l) (hn:n≤1048576) :
  Calls Tryz.prog 174 #[.slice A n c] w fun e w'=>∃v,e= .returned v∧w'.ownsRow w.heap.size 131 4 v (KI ls).length ((KI ls).flatMap jZ)∧Over w w':=by
 by_cases h0:0<n
 ·exact SV A n c ls w h hok hn h0
 ·obtain rfl:n=0:=by omega
  have:ls= [] :=jiQ h.1
  subst this
  refine(SU A c w).mono ?_
  rintro e w' ⟨rfl,hb⟩
  exact⟨_,rfl,⟨rfl, .inl ⟨rfl,rfl⟩⟩,hb⟩
abbrev neV (x:Ne) :Value:= .agg #[.int .i64 x.e.ax, .int .i64 x.e.ay, .int .i64 x.e.bx, .int .i64 x.e.b_y, .int .i64 x.net, .int .i64 x.left, .int .i64 x.right]
def je7 (p e:Leg) :Bool:= !decide (Q5 e=p)
def Hg (es:List Leg) (p:Leg) (k:Nat) :List Leg:= (es.take k).filter (je7 p)
def Ie (es:List Leg) (p:Leg) (k:Nat) :Int:=sm (fun e=>if Q5 e=p then sg e else 0) (es.take k)
theorem jeU {es:List Leg} {p:Leg} {k:Nat} (h:k≤es.length) : -(k:Int)≤Ie es p k∧Ie es p k≤k:=by
 have:=jf1 (f:=fun e=>if Q5 e=p then sg e else 0) (l:=es.take k) fun e _=>by
  have:=Tk e
  split<;>omega
 rw [jiy,jjm h] at this
 exact this
theorem EU {es:List Leg} {p:Leg} {k:Nat} (h:k<es.length) :Ie es p (k+1) =Ie es p k+ (if Q5 (lg es k) =p then sg (lg es k) else 0) :=by
 rw [Ie,Mr _ h,Uz h]
 rfl
theorem jcu (es:List Leg) (p:Leg) :Ie es p es.length=Qe es p:=by rw [Ie,jiX];rfl
theorem EZ {es:List Leg} {p:Leg} {k:Nat} (h:k<es.length) :Hg es p (k+1) =Hg es p k++ (if Q5 (lg es k) =p then [] else [lg es k]) :=by
 rw [Hg,jin h,jjT,Uz h]
 congr 1
 by_cases e:Q5 (lg es k) =p<;>simp [je7,e]
theorem jcH {es:List Leg} {p:Leg} {k:Nat} (h:k≤es.length) : (Hg es p k).length≤k:=by
 have:=jjV (je7 p) (es.take k)
 rw [jiy,jjm h] at this
 exact this
theorem Hy {α:Type} (q:α→Bool) (f:α→Int) :∀l:List α,sm f (l.filter q) =sm (fun e=>if q e=true then f e else 0) l
 | [] =>rfl
 | a::l=>by
  rw [List.filter_cons]
  by_cases h:q a=true
  ·rw [if_pos h]
   simp only [sm,Hy q f l,if_pos h]
  ·rw [if_neg h]
   simp only [sm,Hy q f l,if_neg h]
   omega
theorem HL (h:Bool) (ls:List Leg) (x y:Int) :∀k,k≤ls.length→vk h ls x y k=sm (fun e=>Qw (Q2 h e) x y) (ls.take k)
 | 0,_=>rfl
 | k+1,hk=>by rw [vk,Mr _ Om,Uz Om,HL h ls x y k Om]
theorem jdP (es:List Leg) (p:Leg) :jma true (Hg es p es.length) (vC p) (KU p) =wy es p:=by
 rw [jma,HL _ _ _ _ _ (jih _),jiX,Hg,jiX,Hy]
 refine JW fun e _=> ?_
 by_cases k:Q5 e=p<;>simp [je7,k]
theorem jfI (h:Bool) (ls:List Leg) (x y:Int) : -(ls.length:Int)≤jma h ls x y∧jma h ls x y≤ls.length:=ZP h ls x y _
theorem y3 {w:World} {B T n:Nat} {x:Option Addr×Nat} {ls:List Leg} (h: (JY B T 4 n (ls.flatMap jZ) x).P w) (hn:ls.length=n) :Legs w x.1 n ls:=by
 obtain ⟨A,c,e,h1,_⟩ :=Lc h hn
 injection e with e1 e2 e3
 rw [e1]
 exact h1
theorem RU {e f:Leg} : (e.ax==f.ax&&e.ay==f.ay&&e.bx==f.bx&&e.b_y==f.b_y) =decide (e=f) :=by
 rw [Xx]
 exact decide_eq_decide.2 ⟨Eq.symm,Eq.symm⟩
theorem Lg (A:Option Addr) (n c:Nat) (es:List Leg) (p:Leg) (w:World) (h:Legs w A n es) (hok:∀l∈es,qN l) (hn:n≤1048576) (hp:qN p) (hne:lA p≠lB p) (hord:¬vh (lB p) (lA p)) :
  Calls Tryz.prog 175 #[.slice A n c,jh0 p] w fun e w'=>e= .returned (neV (kX es p))∧Over w w':=by
 have hl:=h.1
 have hb: ((-262144≤p.ax∧p.ax≤262144)∧-262144≤p.ay∧p.ay≤262144)∧(-262144≤p.bx∧p.bx≤262144)∧-262144≤p.b_y∧p.b_y≤262144:=⟨⟨hp.1,hp.2.1⟩,hp.2.2.1,hp.2.2.2⟩
 refine Jh (m:=84) (Tryz.func175) J J (lb J) ?_;refine S3 ?_;refine aX (fun b1=> ?_);refine N1 ?_;refine aL (fun b2=> ?_);refine N7 ?_;refine a9 (JU J J (zy J J)) ?_;refine S1 ?_;refine aL (fun b3=> ?_);refine N6 ?_;refine Q7 (T:=131) (s:=4) ?_;refine N9 ?_;refine JQ (X:=Nat×Option Addr×Nat) (fun x=>x.1≤n) (fun x=>n- x.1) (fun x=> [(6, .slice x.2.1 (Hg es p x.1).length x.2.2),(17, .int .i64 (x.1:Int))]) (kK [3,4,5,15,16]) (fun x=> [.cel b1 131 [.int .i64 p.ax, .int .i64 p.ay, .int .i64 p.bx, .int .i64 p.b_y], .cel b2 203 [.int .i64 0, .int .i64 0, .int .i64 0, .int .i64 0, .int .i64 0, .int .i64 0, .int .i64 0], .cel b3 203 [.int .i64 p.ax, .int .i64 p.ay, .int .i64 p.bx, .int .i64 p.b_y, .int .i64 (Ie es p x.1), .int .i64 0, .int .i64 0],JY (Bs.N ⟨w,[]⟩) 131 4 (Hg es p x.1).length ((Hg es p x.1).flatMap jZ) x.2]) (0,none,0) (jii _) ⟨J,sz⟩ (fun _ h=>h) ?_
 intro⟨k,rA,rc⟩ hk L hL1
 refine v9 ?_;refine r9 ?_
 have hk:k≤n:=hk
 have hnb:=jeU (p:=p) (show k≤es.length by omega)
 have hob:=jcH (p:=p) (show k≤es.length by omega)
 refine S5 ?_;refine cZ (fun c1=> ?_) (fun c1=> ?_)
 ·have hlt:k<n:=Om
  obtain ⟨eb,eo,rfl,_⟩ :=h.2 Om
  have hN:=EU (p:=p) (show k<es.length by omega)
  have hO:=EZ (p:=p) (show k<es.length by omega)
  refine S7 ?_;refine a9 (jk J J qG J (ya (fun w' hs=>h.over hs.fin) hlt)) ?_;refine S1 ?_;refine aL (fun b4=> ?_);refine N14 ?_;refine cZ (fun c2=> ?_) (fun c2=> ?_)
  ·have he:lg es k=p:=of_decide_eq_true (RU▸c2)
   have hnp:Q5 (lg es k) =p:= (Mj hord hne).2 (.inl he)
   rw [if_pos hnp,he,CI hord] at hN
   rw [if_pos hnp,jiG] at hO
   refine S6 ?_;refine Zb (k:=2) J J J J (J) (by rfl) kS.szx J ?_;refine N8 ?_
   exact Ji hL1 ((k+1,rA,rc)) ((show k+1≤n by omega)) (by simp only;omega) ⟨(by rw [hO];rfl),vi Om,sz⟩ (fun _ h=>h.upto ⟨J,J,by rw [hN],by rw [hO],trivial⟩)
  ·have he:¬lg es k=p:=of_decide_eq_false (RU▸c2)
   refine S6 ?_;refine a9 (JU J J (yD J J)) ?_;refine S3 ?_;refine cZ (fun c3=> ?_) (fun c3=> ?_)
   ·have hr:lg es k=Qn p:=of_decide_eq_true (RU (f:=Qn p)▸c3)
    have hnp:Q5 (lg es k) =p:= (Mj hord hne).2 (.inr hr)
    rw [if_pos hnp,hr,jdh hord hne] at hN
    rw [if_pos hnp,jiG] at hO
    refine S6 ?_;refine Zb (k:=2) J J J J (J) (by rfl) kS.szx J ?_;refine N8 ?_
    exact Ji hL1 ((k+1,rA,rc)) ((show k+1≤n by omega)) (by simp only;omega) ⟨(by rw [hO];rfl),vi Om,sz⟩ (fun _ h=>h.upto ⟨J,J,by rw [hN];rfl,by rw [hO],trivial⟩)
   ·have hr:¬lg es k=Qn p:=of_decide_eq_false (RU (f:=Qn p)▸c3)
    have hnp:¬Q5 (lg es k) =p:=fun k=> ((Mj hord hne).1 k).elim he hr
    rw [if_neg hnp,Int.add_zero] at hN
    rw [if_neg hnp] at hO
    refine S4 ?_;refine Jx J J (Kx J) J (lb J) (fun b5=> ?_);refine N1 ?_;refine JV (k:=3) J Jf qn Dc J Dc J J J (fun w' hs=>Qb hs (k:=5) J J) (by simp [Value.oneCell']) (by unfold maxLen;omega) Om (jih _) (fun r1=> ?_);refine N9 ?_
    exact Ji hL1 ((k+1,r1)) ((show k+1≤n by omega)) (by simp only;omega) ⟨(by rw [hO,jif];rfl),vi Om,sz⟩ (fun _ h=>h.upto ⟨J,J,by rw [hN],by rw [hO,jif,jio];rfl,trivial⟩)
 ·have hin:k=n:=by omega
  subst hin
  rw [show Ie es p k=Qe es p by rw [←hl,jcu]] at*
  have hw1:=jfI true (Hg es p k) (vC p) (KU p)
  have hw2:jma true (Hg es p k) (vC p) (KU p) =wy es p:=by rw [←hl,jdP]
  rw [hw2] at hw1
  have hoo:∀l∈Hg es p k,qN l:=fun l hl=>hok l (jiZ ((ji6.1 hl).1))
  refine S22 ?_;refine a9 (JU J J (q8 J J)) ?_;refine a9 (jT XM J J (fun w1 hs=>hw2▸B8 rA _ rc (Hg es p k) (vC p) (KU p) true w1 (y3 (hs.all 3 _ J).1 J) Om hoo (by unfold uB vC;omega) (by unfold uB KU;omega))) ?_;refine S13 ?_;refine cZ (fun c4=> ?_) (fun c4=> ?_)
  ·refine S8 ?_;refine Zc (k:=2) J J J J (J) (by rfl) kS.szx J ?_;refine N2 ?_;refine Zd (k:=2) J J J J (J) (by rfl) kS.szx J ?_;refine N8 ?_;refine jM J (qh (k:=1) J wn J J) ?_
   intro w' hs
   exact⟨by rw [kX,if_pos c4],hs.fin⟩
  ·refine S8 ?_;refine Zc (k:=2) J J J J (J) (by rfl) kS.szx J ?_;refine N2 ?_;refine Zd (k:=2) J J J J (J) (by rfl) kS.szx J ?_;refine N8 ?_;refine jM J (qh (k:=1) J wn J J) ?_
   intro w' hs
   exact⟨by rw [kX,if_neg c4],hs.fin⟩
end Go.Proofs.YtpncbbcmoiiipaaGreat
