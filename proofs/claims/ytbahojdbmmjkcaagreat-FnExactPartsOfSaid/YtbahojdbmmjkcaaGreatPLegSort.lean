import Derived.Test.YtbahojdbmmjkcaaGreatPCmp
import Derived.Test.YtbahojdbmmjkcaaGreatPCross
import Derived.Test.YtbahojdbmmjkcaaGreatPSd2
import Derived.Test.YtbahojdbmmjkcaaGreatPSimp
set_option linter.unusedVariables false
set_option linter.unusedSimpArgs false
namespace Go.Proofs.YtbahojdbmmjkcaaGreat
open Go Go.Shelf Go.RowKit Go.Lib Go.Sort
variable {A:Option Addr} {cur:Array Value} {i:Nat} {os:Array Obj} {rest:List Value} {w:World} {xs:List Leg}
set_option maxRecDepth 100000
set_option maxHeartbeats 4000000
structure Gw where
 val:Leg
 ok:qr val
instance:Inhabited Gw:=⟨⟨⟨0,0,0,0⟩,⟨by decide,by decide⟩,⟨by decide,by decide⟩,⟨by decide,by decide⟩,by decide,by decide⟩⟩
def Hq (x:Gw) :List Value:=jU x.val
def IK (e f:Leg) :Int:=if VN (lA e) (lA f) =0 then VN (lB e) (lB f) else VN (lA e) (lA f)
theorem Sy (p q:Pn) :VN p q=0↔p=q:=by
 have h1:=W9 (p.1- q.1)
 have h2:=W9 (p.2- q.2)
 obtain ⟨x,y⟩ :=p
 obtain ⟨x',y'⟩ :=q
 unfold VN
 simp only [Prod.mk.injEq] at*
 split<;>omega
theorem jcN (e f:Leg) :IK e f<0↔Zj e f:=by
 have h1:=Sy (lA e) (lA f)
 have h2:=LM (lA e) (lA f)
 have h3:=LM (lB e) (lB f)
 unfold IK Zj
 split
 ·rename_i h
  rw [h3]
  constructor
  ·exact fun k=> .inr ⟨h1.1 h,k⟩
  ·rintro(k |⟨_,k⟩)
   ·rw [h1.1 h] at k
    exact absurd k (Q7 _)
   ·exact k
 ·rename_i h
  rw [h2]
  constructor
  ·exact .inl
  ·rintro(k |⟨k,_⟩)
   ·exact k
   ·exact absurd (h1.2 k) h
theorem NF (x y:Gw) :ltOf (fun x y:Gw=>IK x.val y.val) x y=decide (Zj x.val y.val) :=by
 unfold ltOf
 rw [jhc,decide_eq_true_iff,decide_eq_true_iff]
 exact jcN _ _
theorem jgr:SWO (ltOf fun x y:Gw=>IK x.val y.val) where
 irrefl x:=by rw [NF];exact decide_eq_false (KR _)
 trans x y z h1 h2:=by rw [NF,decide_eq_true_iff] at*;exact U4 h1 h2
 ntrans x y z h1 h2:=by
  rw [NF] at*
  simp only [decide_eq_false_iff_not] at*
  exact Ti h1 h2
theorem Nz (xs:List Leg) (k j:Nat) (hk:k<xs.length) (hj:j<4) : (xs.flatMap jU)[k*4+j]? = (jU xs[k])[j]? :=xo jU 4 (fun _=>rfl) xs k j hk hj
theorem Qx (xs:List Leg) : (xs.flatMap jU).length=xs.length*4:=VO jU 4 (fun _=>rfl) xs
theorem D5 (xs:List Leg) (j:Nat) (h:j<xs.length*4) : (xs.flatMap jU)[j]? = (jU (xs[j/4]'(by omega)))[j % 4]? :=by
 have:=Nz xs (j/4) (j % 4) Om Om
 rwa [show j/4*4+j % 4=j by omega] at this
theorem CC (w:World) (q:Nat) (os:Array Obj) :Over w (grow (w.drewN q) os) :=⟨rfl,rfl,rfl,by simp [World.drewN],fun k hk=>heap_grow_old (w.drewN q) os hk⟩
theorem Xa {W w':World} {q:Nat} (h:w'=grow (W.drewN q) os) :Over W w':=by rw [h];exact CC _ _ _
theorem xd {l:Leg} (h:qr l) :zQ (lA l)∧zQ (lB l) :=⟨(VR h).wide,(wM h).wide⟩
theorem jfM (W:World) (a b:Array Obj) (p:Nat) :grow ((grow W a).drewN p) b=grow (W.drewN p) (a++b) :=by simp [grow,World.drewN,Array.append_assoc]
theorem jfN (W:World) (a b c:Array Obj) (p q:Nat) :grow ((grow ((grow W a).drewN p) b).drewN q) c=grow (W.drewN (p+q)) (a++b++c) :=by simp [grow,World.drewN,Array.append_assoc,jhD]
set_option maxRecDepth 100000 in
set_option maxHeartbeats 2000000 in
theorem CE (e f:Leg) (he:qr e) (hf0:qr f) (W:World) :Calls Tryz.prog 183 #[.agg #[.int .i64 e.ax, .int .i64 e.ay, .int .i64 e.bx, .int .i64 e.b_y], .agg #[.int .i64 f.ax, .int .i64 f.ay, .int .i64 f.bx, .int .i64 f.b_y]] W fun r w'=>r= .returned (.int .i64 (IK e f))∧∃q' os',w'=grow (W.drewN q') os':=by
 have c1:=Uh (lA e) (lA f) (xd he).1 (xd hf0).1
 have c2:=Uh (lB e) (lB f) (xd he).2 (xd hf0).2
 unfold IK
 generalize VN (lA e) (lA f) =r1 at*
 generalize VN (lB e) (lB f) =r2 at*
 simp only [lA,lB] at c1 c2
 obtain ⟨a1,a2,a3,a4⟩ :=e
 obtain ⟨b1,b2,b3,b4⟩ :=f
 simp only at c1 c2⊢
 clear he hf0
 by_cases h0:r1=0
 ·subst h0
  rw [if_pos rfl]
  go_enter Tryz.func183,Tryz.ntmps183
  go_wp2_with fail
  refine(c1 _).mono ?_
  rintro e w1 ⟨rfl,q1,os1,hw1⟩
  have hb:=Xa hw1
  replace hw1:=Lib.hid hw1
  obtain ⟨hc,hf⟩ :=Jt hb
  clear hb
  go_wp2_with fail
  refine(c2 _).mono ?_
  rintro e w2 ⟨rfl,q2,os2,hw2⟩
  replace hw2:=Lib.hid hw2
  go_wp2_with fail
  go_ret
  exact⟨rfl,_,_,by rw [hw2.out,hw1.out,alloc_eq_grow,alloc_eq_grow,grow_grow,jfN]⟩
 ·rw [if_neg h0]
  go_enter Tryz.func183,Tryz.ntmps183
  go_wp2_with fail
  refine(c1 _).mono ?_
  rintro e w1 ⟨rfl,q1,os1,hw1⟩
  replace hw1:=Lib.hid hw1
  go_wp2_with fail
  go_ret
  exact⟨rfl,_,_,by rw [hw1.out,alloc_eq_grow,alloc_eq_grow,grow_grow,jfM]⟩
theorem EW (blk off size:Nat) (w:World) :CmpLays Tryz.prog 183 #[] Hq 4 (fun x y:Gw=>IK x.val y.val) blk off size w:=
 fun _ _ _ _ x y=>CE x.val y.val x.ok y.ok _
theorem jgc (w:World) : (isAgg (yT.t 24)).run Tryz.prog w= .ok true w:=Tryz.isAgg96 w
theorem jgp (w:World) : (Go.sizeOf (yT.t 24)).run Tryz.prog w= .ok 4 w:=Tryz.sizeOf96 w
def yZ (xs:List Leg) (hx:∀p∈xs,qr p) :List Gw:=xs.attach.map fun p=>Gw.mk p.1 (hx p.1 p.2)
theorem TT (xs:List Leg) (hx:∀p∈xs,qr p) : (yZ xs hx).length=xs.length:=by simp [yZ]
theorem TU (xs:List Leg) (hx:∀p∈xs,qr p) : (yZ xs hx).map (·.val) =xs:=by
 rw [yZ,List.map_map]
 exact List.attach_map_subtype_val xs
theorem I3 (d:Array Gw) (j:Nat) (h:j<d.size*4) : ((d.toList.map (·.val)).flatMap jU)[j]? =some (flatK Hq 4 d)[j]! :=by
 rw [get_flatK _ _ _ _ h,D5 _ _ (by simpa using h)]
 have hj:j/4<d.size:=by omega
 rw [getElem!_pos d (j/4) hj]
 simp only [jhx,Array.getElem_toList]
 have h2:j % 4< (Hq d[j/4]).length:=by simp [Hq,jU];omega
 rw [getElem!_pos (Hq d[j/4]) (j % 4) h2]
 exact List.getElem?_eq_getElem h2
theorem MT {g m T:Nat} {d':Array Gw} (hg:w.heap[g]? =some (.cells cur T (0,0))) (b:Nat) (hb:b<w.heap.size) :
  (sortWorldK Hq 4 w g 0 m d' os).heap[b]? =if g=b then some (.cells (Sort.putCells id 0 (flatK Hq 4 d') cur) T (0,0)) else w.heap[b]? :=by
 show((w.heap.modify g (Sort.onCells (Sort.putCells id 0 (flatK Hq 4 d')))) ++os)[b]? =_
 rw [Array.getElem?_append_left (by simpa using hb),Array.getElem?_modify]
 split
 ·rename_i e
  subst e
  rw [hg]
  rfl
 ·rfl
theorem C7 {B g c n:Nat} (h:w.ownsRow B 96 4 (.slice (some ⟨g,0,none⟩) n c) n (xs.flatMap jU)) (hl:xs.length=n) (hx:∀p∈xs,qr p) (hn:n≤1048576) (h0:0<n) :
  Calls Tryz.prog 182 #[.slice (some ⟨g,0,none⟩) n c, .func (.func 183) #[] #[]] w fun e w'=>e= .returned (.tuple #[])∧∃ys,ys.Perm xs∧PW ys∧Wrs (· =g) w w'∧w'.ownsRow 0 96 4 (.slice (some ⟨g,0,none⟩) n c) n (ys.flatMap jU) :=by
 rcases h.2 with⟨_,e⟩ |⟨g',cap,cur,e,hb,hg,hcap,hmax,hsz,htk⟩
 ·omega
 ·injection e with e1 e2 e3
  injection e1 with e1
  injection e1 with e1
  subst e1 e3
  have hds: (yZ xs hx).toArray.size=n:=by simp [TT,hl]
  have hval: ((yZ xs hx).toArray.toList.map (·.val)) =xs:=by rw [jhw];exact TU xs hx
  have hH:HoldsK Hq 4 w g 0 (yZ xs hx).toArray:=by
   intro j hj
   rw [size_flatK,hds] at hj
   refine⟨?_,?_⟩
   ·rw [jgT,cell_of_row w g j cur _ (0,0) hg]
    have:=I3 (yZ xs hx).toArray j (by rw [hds];exact hj)
    rw [hval,←htk,List.getElem?_take,if_pos hj] at this
    simpa using this
   ·unfold World.frozen?
    simp only [hg]
    simp
  have eg:∀args w,(callFunc 183 args).run Tryz.prog w= .ok (.enter 183 args) w:=enters_of Tryz.func183 Kr rfl
  have hcon:=AnyQ.slices_SortFunc jb6 4 jgc jgp Hq (fun _=>rfl) (fun x v hv=>by simp [Hq,jU] at hv;rcases hv with rfl | rfl | rfl | rfl<;>rfl) (fun x y:Gw=>IK x.val y.val) jgr 183 #[] g 0 c (yZ xs hx).toArray w eg (EW g 0 _ w) hH (JZ hg) Om
  rw [hds] at hcon
  refine hcon.mono ?_
  rintro e w' ⟨rfl,d',m,os,hp,hs,rfl⟩
  have hd':d'.size=n:=hp.1.trans hds
  refine⟨J,d'.toList.map (·.val),?_,?_,?_,?_⟩
  ·have:=hp.2.2.map (·.val)
   rw [←hd',Array.extract_size,hd',←hds,Array.extract_size,hval] at this
   exact this
  ·refine jho.2 fun i j hi hj hij=> ?_
   simp only [jgF,Array.length_toList] at hi hj
   have:=hs i j (jgw _) hij Om
   rw [NF,decide_eq_false_iff_not,getElem!_pos d' j hj,getElem!_pos d' i hi] at this
   simpa using this
  ·refine⟨J,J,J,by exact size_sortWorldK_c _ _ _ _ _ _ _ _,fun b hb hne=> ?_⟩
   rw [MT hg b hb,if_neg (fun e=>hne e.symm)]
  ·refine⟨by rw [Qx];simp [hd'], .inr ⟨g,c,Sort.putCells id 0 (flatK Hq 4 d') cur,J,jgw _,?_,hcap,hmax,by simp [Sort.putCells,hsz],?_⟩⟩
   ·rw [MT hg g (JZ hg),if_pos rfl]
   ·apply List.ext_getElem?
    intro j
    rw [List.getElem?_take]
    by_cases hj:j<n*4
    ·rw [if_pos hj,I3 d' j (by rw [hd'];exact hj),Array.getElem?_toList]
     have hjc:j<cur.size:=by omega
     simp only [Sort.putCells,Array.getElem?_mapIdx,Array.getElem?_eq_getElem hjc,jh6,size_flatK,hd']
     rw [if_pos ⟨jgw _,by omega⟩,Nat.sub_zero]
     rfl
    ·rw [if_neg hj,List.getElem?_eq_none (by rw [Qx];simp [hd'];omega)]
theorem Zy:∀(l:List Leg) (q p:Leg),QB (l++ [q] ++ [p]) =QB (l++ [q]) ++ (if q=p then [] else [p])
 | [],q,p=>by
  simp only [jhb,List.singleton_append,QB]
  split
  ·rename_i h;rw [h]
  ·rfl
 | [a],q,p=>by
  have h:=Zy [] q p
  simp only [jhb,List.singleton_append,jg0] at h⊢
  rw [QB,h]
  conv=>rhs;rw [QB]
  split<;>rfl
 | a::b::l,q,p=>by
  have h:=Zy (b::l) q p
  simp only [jg0] at h⊢
  rw [QB,h]
  conv=>rhs;rw [QB]
  split<;>rfl
theorem Wv (h1:1≤i) (h:i<xs.length) :QB (xs.take (i+1)) =QB (xs.take i) ++ (if lg xs (i- 1) =lg xs i then [] else [lg xs i]) :=by
 obtain ⟨j,rfl⟩ :∃j,i=j+1:=⟨i- 1,by omega⟩
 rw [jgE h,jgE (show j<xs.length by omega),Zy,VG h,VG (show j<xs.length by omega)]
 rfl
theorem XL:∀l:List Leg,(QB l).length≤l.length
 | [] =>jgx _
 | [_] =>jgx _
 | p::q::l=>by
  have:=XL (q::l)
  unfold QB
  simp only [jgD] at*
  split
  ·omega
  ·rw [jgD];omega
theorem Zx {xs:List Leg} :∀i,i≤xs.length→(∀j,1≤j→j<i→¬lg xs (j- 1) =lg xs j)→QB (xs.take i) =xs.take i
 | 0,_,_=>rfl
 | 1,h,_=>by
  match xs,h with
  | p::l,_=>rfl
 | i+2,h,hj=>by
  rw [Wv Om Om,Zx (i+1) Om (fun j h1 h2=>hj j h1 Om),if_neg (hj (i+1) Om Om),←VG Om]
  exact(jgE Om).symm
def UB (xs:List Leg) (i:Nat) :List Leg:=QB (xs.take i) ++xs.drop (QB (xs.take i)).length
theorem IJ (h:i≤xs.length) : (UB xs i).length=xs.length:=by
 have:=XL (xs.take i)
 rw [jgJ] at this
 rw [UB,jgv,jgQ]
 omega
theorem jcK {j:Nat} (h: (QB (xs.take i)).length≤j) :lg (UB xs i) j=lg xs j:=by
 simp only [lg,List.getD,UB,List.getElem?_append_right h,List.getElem?_drop]
 rw [show(QB (xs.take i)).length+ (j- (QB (xs.take i)).length) =j by omega]
theorem jcL (h1:1≤i) (h:i<xs.length) (he:lg xs (i- 1) =lg xs i) :UB xs (i+1) =UB xs i:=by rw [UB,Wv h1 h,if_pos he,jgW];rfl
theorem EU (h1:1≤i) (h:i<xs.length) (he:¬lg xs (i- 1) =lg xs i) (hk: (QB (xs.take i)).length<xs.length) : (UB xs (i+1)).flatMap jU=qB ((UB xs i).flatMap jU) ((QB (xs.take i)).length*4) (jU (lg xs i)) :=by
 rw [UB,UB,Wv h1 h,if_neg he]
 generalize QB (xs.take i) =C at*
 rw [jg3 hk,jgv,jh0,jgG,jgG,jgG,jgU]
 have hC:C.length*4= (C.flatMap jU).length:= (Qx C).symm
 rw [hC,jgU (xs:=List.drop _ _),←jgB (C.flatMap jU) (jU xs[C.length]),uZ (jU (lg xs i)) (C.flatMap jU) (jU xs[C.length]) _ rfl]
 simp
def Oi (m:Nat) :List Value:= (Builtin.zeroCells (Value.agg #[.int .i64 0, .int .i64 0, .int .i64 0, .int .i64 0]).cells m).toList
theorem Oj (m:Nat) : (Oi m).length=m*4:=by
 rw [Oi,Array.length_toList,size_zeroCells]
 rfl
theorem TX (m:Nat) : (Oi m).all (·.oneCell') =true:=by
 rw [jhR]
 intro v hv
 rw [Oi,Array.mem_toList_iff,Builtin.zeroCells] at hv
 obtain ⟨i,hi,rfl⟩ :=Array.mem_map.1 hv
 have:i % 4<4:=Nat.mod_lt _ Dc
 show(#[Value.int .i64 0,Value.int .i64 0,Value.int .i64 0,Value.int .i64 0][i % 4]!).oneCell'=true
 rcases(show i % 4=0∨i % 4=1∨i % 4=2∨i % 4=3 by omega) with e | e | e | e<;>rw [e] <;>rfl
def Hw (xs:List Leg) (i:Nat) :Nat:= (QB (xs.take i)).length
theorem L0 (h1:1≤i) (h:i<xs.length) (he:lg xs (i- 1) =lg xs i) :Hw xs (i+1) =Hw xs i:=by rw [Hw,Wv h1 h,if_pos he,jgW];rfl
theorem Rh (h1:1≤i) (h:i<xs.length) (he:¬lg xs (i- 1) =lg xs i) :Hw xs (i+1) =Hw xs i+1:=by rw [Hw,Wv h1 h,if_neg he,jgv];rfl
theorem xz {e f:Leg} : (e.ax==f.ax&&e.ay==f.ay&&e.bx==f.bx&&e.b_y==f.b_y) =decide (f=e) :=by
 rcases e with⟨a1,a2,a3,a4⟩
 rcases f with⟨b1,b2,b3,b4⟩
 rw [jhc]
 simp only [jgy,beq_iff_eq,decide_eq_true_eq,Leg.mk.injEq]
 omega
theorem YN (h:∀j,1≤j→j<xs.length→¬lg xs (j- 1) =lg xs j) :QB xs=xs:=by
 have:=Zx xs.length (jgx _) h
 rwa [jhf] at this
theorem G7 : (xs.flatMap jU++rest).take (xs.length*4) =xs.flatMap jU:=List.take_left' (Qx xs)
theorem Si {zs:List Value} {n c:Nat} (hn:xs.length=n) (hl: ((UB xs n).flatMap jU++rest).length=c*4) (hK:Hw xs n*4+zs.length≤c*4) :
  (qB ((UB xs n).flatMap jU++rest) (0+Hw xs n*4) zs).take ((QB xs).length*4) = (QB xs).flatMap jU:=by
 have e: (QB xs).length=Hw xs n:=by rw [Hw,←hn,jhf]
 have ec:QB (xs.take n) =QB xs:=by rw [←hn,jhf]
 apply List.ext_getElem?
 intro i
 rw [List.getElem?_take,e,jgT]
 by_cases hi:i<Hw xs n*4
 ·rw [if_pos hi,MX i Om,if_neg Om,UB,jgG,jgB,List.getElem?_append_left (by rw [Qx];exact hi),ec]
 ·rw [if_neg hi,List.getElem?_eq_none (by rw [Qx,e];omega)]
theorem Ds (b T c n:Nat) (xs:List Leg) (rest:List Value) (w:World) (hh:w.heap[b]? =some (.cells (xs.flatMap jU++rest).toArray T (0,0))) (hc:n≤c) (hl: ((xs.flatMap jU) ++rest).length=c*4) (hn:xs.length=n) (hn2:n≤1048577) :
  Calls Tryz.prog 184 #[.slice (some ⟨b,0,none⟩) n c] w fun e w'=>e= .returned (.slice (some ⟨b,0,none⟩) (QB xs).length c)∧Wr b w w'∧∃cs:List Value,w'.heap[b]? =some (.cells cs.toArray T (0,0))∧cs.length=c*4∧cs.take ((QB xs).length*4) = (QB xs).flatMap jU:=by
 have hr2:∀(zs:List Leg),zs.length=n→∀k,k<n→∀w':World,w'.heap[b]? =some (.cells (zs.flatMap jU++rest).toArray T (0,0))→∀(q:Nat) (v:Value),[Value.int .i64 (lg zs k).ax,Value.int .i64 (lg zs k).ay,Value.int .i64 (lg zs k).bx,Value.int .i64 (lg zs k).b_y][q]? =some v→w'.cell? ⟨b,0+k*4+q,none⟩ =some v:=fun zs hz k hk w' hw q v hv=>by
  have hq:q<4:=by have:= (List.getElem?_eq_some_iff.1 hv).1;simpa using this
  rw [cell_of_row w' b _ _ T (0,0) hw,jgT]
  have hf:=Nz zs k q Om hq
  rw [VG Om] at hf
  have: (zs.flatMap jU++rest).toArray[k*4+q]? = (zs.flatMap jU)[k*4+q]? :=by
   rw [List.getElem?_toArray,List.getElem?_append_left (by rw [Qx];omega)]
  rw [this,hf]
  exact hv
 refine QF (m:=61) (Tryz.func184) J J (lb J) (hh) ?_;refine S11 ?_;refine cZ (fun c1=> ?_) (fun c1=> ?_)
 ·refine S7 ?_;refine jL J (.tmp J) ?_
  intro w' hs
  exact⟨by rw [YN fun j h1 h2=>absurd h2 Om,hn],hs.over.wr,_,hs.cel (k:=0) rfl,hl,by rw [YN fun j h1 h2=>absurd h2 Om];exact G7⟩
 ·refine S8 ?_;refine J9 (X:=Nat) (fun k=>1≤k∧k≤n∧(∀j,1≤j→j<k→¬lg xs (j- 1) =lg xs j)) (fun k=>n- k) (fun k=> [(3, .int .i64 (k:Int))]) (kK [0,2]) 1 (⟨jgx _,by omega,fun j h1 h2=>absurd h2 Om⟩) ⟨J,sz⟩ ?_
  intro k hk L hL1
  refine V8 ?_;refine cZ (fun c2=> ?_) (fun c2=> ?_)
  ·refine S6 ?_;refine JS 10 ?_;refine dK 0 ?_;refine dK 1 ?_;refine dK 2 ?_;refine dZ 3 J (jk J J qm J (fun w' hs=>hr2 xs hn k Om w' (hs.cel (k:=0) J))) ?_;refine dK 4 ?_;refine dK 5 ?_;refine dZ 6 J ((JL J J J Om Om).as (congrArg _ (show((k:Int) - 1) = ((k- 1:Nat) :Int) by omega))) ?_;refine dK 7 ?_;refine dZ 8 J (jk J J qm J (fun w' hs=>hr2 xs hn (k- 1) Om w' (hs.cel (k:=0) J))) ?_;refine dK 9 ?_;refine JI Kr ?_;refine S1 ?_;refine cZ (fun c3=> ?_) (fun c3=> ?_)
   ·have hkn:k<n:=Om
    have hdup:lg xs (k- 1) =lg xs k:=of_decide_eq_true (xz▸c3)
    have hoff:Ys 0 k c 4=0+k*4:=by rw [Ys,if_neg Om]
    have hcs:QB (xs.take k) =xs.take k:=Zx k Om hk.2.2
    have hck:Hw xs k=k:=by rw [Hw,hcs,jgJ];omega
    have hck1:Hw xs (k+1) =k:=by rw [L0 hk.1 Om hdup,hck]
    have hclo:UB xs (k+1) =xs:=by rw [UB,Wv hk.1 Om,if_pos hdup,jgW,hcs,jgJ,jhu Om,jgI]
    refine S4 ?_;refine a9 ((vG J J J jV Om).as ((ut (b:=b) (o:=0) (l:=k) (h:=n) (m:=c) (s:=4) hc Om).trans (by rw [hoff]))) ?_;refine S8 ?_;refine JN (X:=Nat) (fun j=>1≤j∧k+j≤n∧Hw xs (k+j) +1≤k+j) (fun j=>n- j) (fun j=> [(3, .int .i64 (Hw xs (k+j) :Int)),(5, .int .i64 (j:Int))]) (kK [0,2,10,11,12,13,16,17,18,19,20,21,22,23,24,25,26,27,28,4]) (fun j=> [.cel b T ((UB xs (k+j)).flatMap jU++rest)]) 1 (⟨jgx _,by omega,by omega⟩) ⟨(by rw [hck1];rfl),sz⟩ (fun _ h=>h.upto ⟨by rw [hclo],trivial⟩) ?_
    intro j hj L hL2
    refine v9 ?_;refine r9 ?_
    have hcl: (UB xs (k+j)).length=n:= (IJ Om).trans hn
    refine S8 ?_;refine cZ (fun c4=> ?_) (fun c4=> ?_)
    ·have hjl:k+j<n:=Om
     have hrd:∀i,Hw xs (k+j)≤i→i<n→∀w':World,w'.heap[b]? =some (.cells ((UB xs (k+j)).flatMap jU++rest).toArray T (0,0))→∀(q:Nat) (v:Value),[Value.int .i64 (lg xs i).ax,Value.int .i64 (lg xs i).ay,Value.int .i64 (lg xs i).bx,Value.int .i64 (lg xs i).b_y][q]? =some v→w'.cell? ⟨b,0+i*4+q,none⟩ =some v:=fun i h1 h2 w' hw q v hv=>hr2 (UB xs (k+j)) hcl i h2 w' hw q v (by rw [jcK h1];exact hv)
     refine S6 ?_;refine JS 10 ?_;refine dK 0 ?_;refine dK 1 ?_;refine dK 2 ?_;refine dZ 3 J (jk J J qm J (fun w' hs q v hv=>by rw [show 0+k*4+j*4+q=0+ (k+j) *4+q by omega];exact hrd (k+j) Om hjl w' (hs.cel (k:=0) J) q v hv)) ?_;refine dK 4 ?_;refine dK 5 ?_;refine dZ 6 J ((JL J J J Om Om).as (congrArg _ (show((j:Int) - 1) = ((j- 1:Nat) :Int) by omega))) ?_;refine dK 7 ?_;refine dZ 8 J (jk J J qm J (fun w' hs q v hv=>by rw [show 0+k*4+ (j- 1) *4+q=0+ (k+j- 1) *4+q by omega];exact hrd (k+j- 1) Om Om w' (hs.cel (k:=0) J) q v hv)) ?_;refine dK 9 ?_;refine JI Kr ?_;refine S1 ?_;refine cZ (fun c5=> ?_) (fun c5=> ?_)
     ·refine S7 ?_;refine a9 (jk J J qm J (fun w' hs q v hv=>by rw [show 0+k*4+j*4+q=0+ (k+j) *4+q by omega];exact hrd (k+j) Om hjl w' (hs.cel (k:=0) J) q v hv)) ?_;refine S2 ?_;refine qt (k:=0) J J J J J (by rfl) qd.szx J J (by rw [jgv,Qx,hcl];simp only [jgD,jgY];omega) ?_;refine S13 ?_
      exact j4 hL2 (j+1) (⟨by omega,by omega,by rw [←jhD,Rh Om Om (of_decide_eq_false (xz▸c5))];omega⟩) Om ⟨vi (by rw [←jhD,Rh Om Om (of_decide_eq_false (xz▸c5))];omega),vi Om,sz⟩ (fun _ h=>h.upto ⟨by rw [←jhD,EU Om Om (of_decide_eq_false (xz▸c5)) (by show Hw xs (k+j) <xs.length;omega),zn (by rw [Qx,hcl];exact(show 0+Hw xs (k+j) *4+4≤n*4 by omega)),jgT];rfl,trivial⟩)
     ·refine S8 ?_
      exact j4 hL2 (j+1) (⟨by omega,by omega,by rw [←jhD,L0 Om Om (of_decide_eq_true (xz▸c5))];omega⟩) Om ⟨vi (by rw [←jhD,L0 Om Om (of_decide_eq_true (xz▸c5))]),vi Om,sz⟩ (fun _ h=>h.upto ⟨by rw [←jhD,jcL Om Om (of_decide_eq_true (xz▸c5))],trivial⟩)
    ·refine S9 ?_;refine a9 ((vG J J J jV Om).as (ut (b:=b) (o:=0) (l:=Hw xs (k+j)) (h:=n) (m:=c) (s:=4) hc Om)) ?_;refine S1 ?_;refine RL (k:=0) (zs:=Oi (n- Hw xs (k+j))) J jV qd J J Om J J (TX _) (by rw [jgv,Qx,hcl,Oj,Ys,if_neg Om];omega) ?_;refine N5 ?_;refine a9 ((kS J J J jV Om).as (w6 _ _ _ _ _)) ?_;refine S8 ?_;refine jL J (.tmp J) ?_
     intro w' hs
     have hkj:k+j=n:=by omega
     have hK: (QB xs).length=Hw xs n:=by rw [Hw,←hn,jhf]
     have hlc: ((UB xs n).flatMap jU++rest).length=c*4:=by rw [←hl,jgv,jgv,Qx,Qx,IJ Om]
     have hoK:Ys 0 (Hw xs n) c 4=0+Hw xs n*4:=by rw [Ys,if_neg (by rw [←hkj];omega)]
     rw [hkj,hoK] at hs
     rw [hkj] at hj
     exact⟨by rw [hK,hkj],hs.over.wr,_,hs.cel (k:=0) rfl,by rw [QE];exact hlc,Si hn hlc (by rw [Oj];omega)⟩
   ·have hne:¬lg xs (k- 1) =lg xs k:=of_decide_eq_false (xz▸c3)
    refine S8 ?_
    exact JY hL1 (k+1) (⟨by omega,by omega,fun j h1 h2=> (jhj j k).elim (fun h3=>hk.2.2 j h1 h3) (fun h3=> (show k=j by omega)▸hne)⟩) Om ⟨vi Om,sz⟩ (u9 J)
  ·refine S11 ?_;refine jL J (.tmp J) ?_
   intro w' hs
   have hkn:k=n:=by omega
   have hw:=YN (xs:=xs) fun j h1 h2=>hk.2.2 j h1 Om
   exact⟨by rw [hw,hn],hs.over.wr,_,hs.cel (k:=0) rfl,hl,by rw [hw];exact G7⟩
theorem Du {N c n:Nat} (h:w.ownsRow N 96 4 (.slice A n c) n (xs.flatMap jU)) (hn:xs.length=n) (h0:0<n) (hn2:n≤1048577) :
  Calls Tryz.prog 184 #[.slice A n c] w fun e w'=>e= .returned (.slice A (QB xs).length c)∧Wrs (JQ N 96 4 n (xs.flatMap jU) (A,c)).F w w'∧(JQ N 96 4 (QB xs).length ((QB xs).flatMap jU) (A,c)).P w':=by
 rcases h.2 with⟨_,e⟩ |⟨g,cap,cur,e,hb,hg,hcap,hmax,hsz,htk⟩
 ·omega
 ·injection e with e1 e2 e3
  subst e1 e3
  have hcur:cur.toList=xs.flatMap jU++cur.toList.drop (n*4) :=by rw [←htk,jgI]
  have hg':w.heap[g]? =some (.cells (xs.flatMap jU++cur.toList.drop (n*4)).toArray 96 (0,0)) :=by rw [←hcur,jhB];exact hg
  have hle:=XL xs
  refine(Ds g _ c n xs (cur.toList.drop (n*4)) w hg' hcap (by rw [←hcur];simpa using hsz) hn hn2).mono ?_
  rintro e w' ⟨rfl,hw,cs,hh,hcl,htk'⟩
  refine⟨rfl,⟨hw.os,hw.tape,hw.output,hw.size,fun q hq hne=>hw.block q hq (fun e=>hne (by subst e;rfl))⟩,?_⟩
  exact⟨Qx _, .inr ⟨g,c,_,rfl,hb,hh,by omega,hmax,by simpa using hcl,by rw [jhw];exact htk'⟩⟩
theorem jaC (v:Value) (w:World) :Calls Tryz.prog 259 #[.slice none 0 0, .int .i64 0, .int .i64 0,v] w fun e w'=>e= .returned (.tuple #[])∧Over w w':=by
 refine jT (m:=53) (Tryz.func259) J J (lb J) ?_;refine S7 ?_;refine J9 (X:=Unit) (fun u=>True) (fun u=>0) (fun u=> [(8, .int .i64 1)]) (kK [0,1,2,3]) () (trivial) ⟨J,sz⟩ ?_
 intro u hu L hL1
 refine V7 ?_;refine cZ (fun c1=> ?_) (fun c1=> ?_)
 ·omega
 ·refine S4 ?_;refine Q5 J ?_
  intro w' hs
  exact⟨rfl,hs.fin⟩
theorem jbv (l:Int) (v:Value) (w:World) :Calls Tryz.prog 233 #[.slice none 0 0, .int .i64 0, .int .i64 0, .int .i64 l,v] w fun e w'=>e= .returned (.tuple #[])∧Over w w':=by
 refine jT (m:=148) (Tryz.func233) J J (lb J) ?_;refine S9 ?_;refine J9 (X:=Unit) (fun u=>True) (fun u=>0) (fun u=> []) (kK [0,1,2,3,4,10,11]) () (trivial) sz ?_
 intro u hu L hL1
 refine V14 ?_;refine cZ (fun c1=> ?_) (fun c1=> ?_)
 ·refine S6 ?_;refine a9 (jJ vQ J J (fun w h=>jaC v w)) ?_;refine S6 ?_;refine zu J ?_
  intro w' hs
  exact⟨rfl,hs.fin⟩
 ·omega
theorem jaI (w:World) :Calls Tryz.prog 168 #[.int .u64 0] w fun e w'=> (∃l:Int,e= .returned (.int .i64 l))∧w=w':=
 (Any.bits_Len (SlLaysF0.n15.bits (P:=Tryz.prog) (ρ:=yT) {jb6 with}) 0 w Om Om).mono fun _ _ ⟨he,hw⟩ =>⟨⟨_,he⟩,hw.symm⟩
theorem C4 (w:World) :Calls Tryz.prog 182 #[.slice none 0 0, .func (.func 183) #[] #[]] w fun e w'=>e= .returned (.tuple #[])∧Over w w':=by
 go_enter Tryz.func182,Tryz.ntmps182
 go_wp2_with fail
 go_at_call 168
 refine(jaI _).mono ?_
 rintro e w1 ⟨⟨l,rfl⟩,rfl⟩
 go_wp2_with fail
 go_at_call 233
 refine(jbv _ _ _).mono ?_
 rintro e w1 ⟨rfl,hb⟩
 go_wp2_with fail
 go_end0
 exact⟨rfl,hb⟩
theorem Dt (w:World) :Calls Tryz.prog 184 #[.slice none 0 0] w fun e w'=>e= .returned (.slice none 0 0)∧Over w w':=by
 refine jT (m:=61) (Tryz.func184) J J (lb J) ?_;refine S11 ?_;refine cZ (fun c1=> ?_) (fun c1=> ?_)
 ·refine S7 ?_;refine jL J (.tmp J) ?_
  intro w' hs
  exact⟨rfl,hs.fin⟩
 ·omega
end Go.Proofs.YtbahojdbmmjkcaaGreat
