import Derived.Test.YtbahojdbmmjkcaaGreatSTrP
import Derived.Test.YtbahojdbmmjkcaaGreatSCmp
import Derived.Test.YtbahojdbmmjkcaaGreatSCross
import Derived.Test.YtbahojdbmmjkcaaGreatSNums
import Derived.Test.YtbahojdbmmjkcaaGreatSSimp
set_option linter.unusedVariables false
set_option linter.unusedSimpArgs false
namespace Go.Proofs.YtbahojdbmmjkcaaGreat
open Go Go.Shelf Go.RowKit Go.Lib Go.Sort
variable {A:Option Addr} {cur:Array Value} {i:Nat} {os:Array Obj} {rest:List Value} {w:World} {xs:List Leg}
set_option maxRecDepth 100000
set_option maxHeartbeats 4000000
structure Gw where
 val:Leg
 ok:qU val
instance:Inhabited Gw:=⟨⟨⟨0,0,0,0⟩,⟨by decide,by decide⟩,⟨by decide,by decide⟩,⟨by decide,by decide⟩,by decide,by decide⟩⟩
def Lt (x:Gw) :List Value:=Je x.val
def R5 (e f:Leg) :Int:=if VZ (lA e) (lA f) =0 then VZ (lB e) (lB f) else VZ (lA e) (lA f)
theorem Nn (p q:Pn) :VZ p q=0↔p=q:=by
 have h1:=uz (p.1- q.1)
 have h2:=uz (p.2- q.2)
 obtain ⟨x,y⟩ :=p
 obtain ⟨x',y'⟩ :=q
 unfold VZ
 simp only [Prod.mk.injEq] at*
 split<;>omega
theorem jej (e f:Leg) :R5 e f<0↔ZT e f:=by
 have h1:=Nn (lA e) (lA f)
 have h2:=ME (lA e) (lA f)
 have h3:=ME (lB e) (lB f)
 unfold R5 ZT
 split
 ·rename_i h
  rw [h3]
  constructor
  ·exact fun k=> .inr ⟨h1.1 h,k⟩
  ·rintro(k |⟨_,k⟩)
   ·rw [h1.1 h] at k
    exact absurd k (Q8 _)
   ·exact k
 ·rename_i h
  rw [h2]
  constructor
  ·exact .inl
  ·rintro(k |⟨k,_⟩)
   ·exact k
   ·exact absurd (h1.2 k) h
theorem CC (x y:Gw) :ltOf (fun x y:Gw=>R5 x.val y.val) x y=decide (ZT x.val y.val) :=by
 unfold ltOf
 rw [jiK,decide_eq_true_iff,decide_eq_true_iff]
 exact jej _ _
theorem jh9:SWO (ltOf fun x y:Gw=>R5 x.val y.val) where
 irrefl x:=by rw [CC];exact decide_eq_false (K8 _)
 trans x y z h1 h2:=by rw [CC,decide_eq_true_iff] at*;exact yk h1 h2
 ntrans x y z h1 h2:=by
  rw [CC] at*
  simp only [decide_eq_false_iff_not] at*
  exact Pf h1 h2
theorem Cs (xs:List Leg) (k j:Nat) (hk:k<xs.length) (hj:j<4) : (xs.flatMap Je)[k*4+j]? = (Je xs[k])[j]? :=y3 Je 4 (fun _=>rfl) xs k j hk hj
theorem QQ (xs:List Leg) : (xs.flatMap Je).length=xs.length*4:=vS Je 4 (fun _=>rfl) xs
theorem Is (xs:List Leg) (j:Nat) (h:j<xs.length*4) : (xs.flatMap Je)[j]? = (Je (xs[j/4]'(by omega)))[j % 4]? :=by
 have:=Cs xs (j/4) (j % 4) Om Om
 rwa [show j/4*4+j % 4=j by omega] at this
theorem jay (w:World) (q:Nat) (os:Array Obj) :Over w (grow (w.drewN q) os) :=⟨rfl,rfl,rfl,by simp [World.drewN],fun k hk=>heap_grow_old (w.drewN q) os hk⟩
theorem XJ {W w':World} {q:Nat} (h:w'=grow (W.drewN q) os) :Over W w':=by rw [h];exact jay _ _ _
theorem xP {l:Leg} (h:qU l) :YZ (lA l)∧YZ (lB l) :=⟨(VR h).wide,(wP h).wide⟩
theorem jhr (W:World) (a b:Array Obj) (p:Nat) :grow ((grow W a).drewN p) b=grow (W.drewN p) (a++b) :=by simp [grow,World.drewN,Array.append_assoc]
theorem jhs (W:World) (a b c:Array Obj) (p q:Nat) :grow ((grow ((grow W a).drewN p) b).drewN q) c=grow (W.drewN (p+q)) (a++b++c) :=by simp [grow,World.drewN,Array.append_assoc,jji]
set_option maxRecDepth 100000 in
set_option maxHeartbeats 2000000 in
theorem jaz (e f:Leg) (he:qU e) (hf0:qU f) (W:World) :Calls Tryz.prog 183 #[.agg #[.int .i64 e.ax, .int .i64 e.ay, .int .i64 e.bx, .int .i64 e.b_y], .agg #[.int .i64 f.ax, .int .i64 f.ay, .int .i64 f.bx, .int .i64 f.b_y]] W fun r w'=>r= .returned (.int .i64 (R5 e f))∧∃q' os',w'=grow (W.drewN q') os':=by
 have c1:=UA (lA e) (lA f) (xP he).1 (xP hf0).1
 have c2:=UA (lB e) (lB f) (xP he).2 (xP hf0).2
 unfold R5
 generalize VZ (lA e) (lA f) =r1 at*
 generalize VZ (lB e) (lB f) =r2 at*
 simp only [lA,lB] at c1 c2
 obtain ⟨a1,a2,a3,a4⟩ :=e
 obtain ⟨b1,b2,b3,b4⟩ :=f
 simp only at c1 c2⊢
 clear he hf0
 by_cases h0:r1=0
 ·subst h0
  rw [if_pos rfl]
  go_enter Tryz.func183,Tryz.ntmps183
  go_wp2_with fail
  refine(c1 _).mono ?_
  rintro e w1 ⟨rfl,q1,os1,hw1⟩
  have hb:=XJ hw1
  replace hw1:=Lib.hid hw1
  obtain ⟨hc,hf⟩ :=Jr hb
  clear hb
  go_wp2_with fail
  refine(c2 _).mono ?_
  rintro e w2 ⟨rfl,q2,os2,hw2⟩
  replace hw2:=Lib.hid hw2
  go_wp2_with fail
  go_ret
  exact⟨rfl,_,_,by rw [hw2.out,hw1.out,alloc_eq_grow,alloc_eq_grow,grow_grow,jhs]⟩
 ·rw [if_neg h0]
  go_enter Tryz.func183,Tryz.ntmps183
  go_wp2_with fail
  refine(c1 _).mono ?_
  rintro e w1 ⟨rfl,q1,os1,hw1⟩
  replace hw1:=Lib.hid hw1
  go_wp2_with fail
  go_ret
  exact⟨rfl,_,_,by rw [hw1.out,alloc_eq_grow,alloc_eq_grow,grow_grow,jhr]⟩
theorem jbJ (blk off size:Nat) (w:World) :CmpLays Tryz.prog 183 #[] Lt 4 (fun x y:Gw=>R5 x.val y.val) blk off size w:=
 fun _ _ _ _ x y=>jaz x.val y.val x.ok y.ok _
theorem jhQ (w:World) : (isAgg (Yh.t 24)).run Tryz.prog w= .ok true w:=Tryz.isAgg96 w
theorem jh7 (w:World) : (Go.sizeOf (Yh.t 24)).run Tryz.prog w= .ok 4 w:=Tryz.sizeOf96 w
def Yo (xs:List Leg) (hx:∀p∈xs,qU p) :List Gw:=xs.attach.map fun p=>Gw.mk p.1 (hx p.1 p.2)
theorem PP (xs:List Leg) (hx:∀p∈xs,qU p) : (Yo xs hx).length=xs.length:=by simp [Yo]
theorem PQ (xs:List Leg) (hx:∀p∈xs,qU p) : (Yo xs hx).map (·.val) =xs:=by
 rw [Yo,List.map_map]
 exact List.attach_map_subtype_val xs
theorem Sv (d:Array Gw) (j:Nat) (h:j<d.size*4) : ((d.toList.map (·.val)).flatMap Je)[j]? =some (flatK Lt 4 d)[j]! :=by
 rw [get_flatK _ _ _ _ h,Is _ _ (by simpa using h)]
 have hj:j/4<d.size:=by omega
 rw [getElem!_pos d (j/4) hj]
 simp only [jje,Array.getElem_toList]
 have h2:j % 4< (Lt d[j/4]).length:=by simp [Lt,Je];omega
 rw [getElem!_pos (Lt d[j/4]) (j % 4) h2]
 exact List.getElem?_eq_getElem h2
theorem Bc {g m T:Nat} {d':Array Gw} (hg:w.heap[g]? =some (.cells cur T (0,0))) (b:Nat) (hb:b<w.heap.size) :
  (sortWorldK Lt 4 w g 0 m d' os).heap[b]? =if g=b then some (.cells (Sort.putCells id 0 (flatK Lt 4 d') cur) T (0,0)) else w.heap[b]? :=by
 show((w.heap.modify g (Sort.onCells (Sort.putCells id 0 (flatK Lt 4 d')))) ++os)[b]? =_
 rw [Array.getElem?_append_left (by simpa using hb),Array.getElem?_modify]
 split
 ·rename_i e
  subst e
  rw [hg]
  rfl
 ·rfl
theorem ja2 {B g c n:Nat} (h:w.ownsRow B 96 4 (.slice (some ⟨g,0,none⟩) n c) n (xs.flatMap Je)) (hl:xs.length=n) (hx:∀p∈xs,qU p) (hn:n≤1048576) (h0:0<n) :
  Calls Tryz.prog 182 #[.slice (some ⟨g,0,none⟩) n c, .func (.func 183) #[] #[]] w fun e w'=>e= .returned (.tuple #[])∧∃ys,ys.Perm xs∧EH ys∧Wrs (· =g) w w'∧w'.ownsRow 0 96 4 (.slice (some ⟨g,0,none⟩) n c) n (ys.flatMap Je) :=by
 rcases h.2 with⟨_,e⟩ |⟨g',cap,cur,e,hb,hg,hcap,hmax,hsz,htk⟩
 ·omega
 ·injection e with e1 e2 e3
  injection e1 with e1
  injection e1 with e1
  subst e1 e3
  have hds: (Yo xs hx).toArray.size=n:=by simp [PP,hl]
  have hval: ((Yo xs hx).toArray.toList.map (·.val)) =xs:=by rw [jjj];exact PQ xs hx
  have hH:HoldsK Lt 4 w g 0 (Yo xs hx).toArray:=by
   intro j hj
   rw [size_flatK,hds] at hj
   refine⟨?_,?_⟩
   ·rw [jiB,cell_of_row w g j cur _ (0,0) hg]
    have:=Sv (Yo xs hx).toArray j (by rw [hds];exact hj)
    rw [hval,←htk,List.getElem?_take,if_pos hj] at this
    simpa using this
   ·unfold World.frozen?
    simp only [hg]
    simp
  have eg:∀args w,(callFunc 183 args).run Tryz.prog w= .ok (.enter 183 args) w:=enters_of Tryz.func183 Kr rfl
  have hcon:=AnyQ.slices_SortFunc jdG 4 jhQ jh7 Lt (fun _=>rfl) (fun x v hv=>by simp [Lt,Je] at hv;rcases hv with rfl | rfl | rfl | rfl<;>rfl) (fun x y:Gw=>R5 x.val y.val) jh9 183 #[] g 0 c (Yo xs hx).toArray w eg (jbJ g 0 _ w) hH (J4 hg) Om
  rw [hds] at hcon
  refine hcon.mono ?_
  rintro e w' ⟨rfl,d',m,os,hp,hs,rfl⟩
  have hd':d'.size=n:=hp.1.trans hds
  refine⟨J,d'.toList.map (·.val),?_,?_,?_,?_⟩
  ·have:=hp.2.2.map (·.val)
   rw [←hd',Array.extract_size,hd',←hds,Array.extract_size,hval] at this
   exact this
  ·refine jjc.2 fun i j hi hj hij=> ?_
   simp only [jip,Array.length_toList] at hi hj
   have:=hs i j (jie _) hij Om
   rw [CC,decide_eq_false_iff_not,getElem!_pos d' j hj,getElem!_pos d' i hi] at this
   simpa using this
  ·refine⟨J,J,J,by exact size_sortWorldK_c _ _ _ _ _ _ _ _,fun b hb hne=> ?_⟩
   rw [Bc hg b hb,if_neg (fun e=>hne e.symm)]
  ·refine⟨by rw [QQ];simp [hd'], .inr ⟨g,c,Sort.putCells id 0 (flatK Lt 4 d') cur,J,jie _,?_,hcap,hmax,by simp [Sort.putCells,hsz],?_⟩⟩
   ·rw [Bc hg g (J4 hg),if_pos rfl]
   ·apply List.ext_getElem?
    intro j
    rw [List.getElem?_take]
    by_cases hj:j<n*4
    ·rw [if_pos hj,Sv d' j (by rw [hd'];exact hj),Array.getElem?_toList]
     have hjc:j<cur.size:=by omega
     simp only [Sort.putCells,Array.getElem?_mapIdx,Array.getElem?_eq_getElem hjc,jjU,size_flatK,hd']
     rw [if_pos ⟨jie _,by omega⟩,jjR]
     rfl
    ·rw [if_neg hj,List.getElem?_eq_none (by rw [QQ];simp [hd'];omega)]
theorem xa:∀(l:List Leg) (q p:Leg),QU (l++ [q] ++ [p]) =QU (l++ [q]) ++ (if q=p then [] else [p])
 | [],q,p=>by
  simp only [jiV,List.singleton_append,QU]
  split
  ·rename_i h;rw [h]
  ·rfl
 | [a],q,p=>by
  have h:=xa [] q p
  simp only [jiV,List.singleton_append,jiI] at h⊢
  rw [QU,h]
  conv=>rhs;rw [QU]
  split<;>rfl
 | a::b::l,q,p=>by
  have h:=xa (b::l) q p
  simp only [jiI] at h⊢
  rw [QU,h]
  conv=>rhs;rw [QU]
  split<;>rfl
theorem WS (h1:1≤i) (h:i<xs.length) :QU (xs.take (i+1)) =QU (xs.take i) ++ (if lg xs (i- 1) =lg xs i then [] else [lg xs i]) :=by
 obtain ⟨j,rfl⟩ :∃j,i=j+1:=⟨i- 1,by omega⟩
 rw [jik h,jik (show j<xs.length by omega),xa,Uf h,Uf (show j<xs.length by omega)]
 rfl
theorem Gl:∀l:List Leg,(QU l).length≤l.length
 | [] =>jif _
 | [_] =>jif _
 | p::q::l=>by
  have:=Gl (q::l)
  unfold QU
  simp only [jij] at*
  split
  ·omega
  ·rw [jij];omega
theorem Z9 {xs:List Leg} :∀i,i≤xs.length→(∀j,1≤j→j<i→¬lg xs (j- 1) =lg xs j)→QU (xs.take i) =xs.take i
 | 0,_,_=>rfl
 | 1,h,_=>by
  match xs,h with
  | p::l,_=>rfl
 | i+2,h,hj=>by
  rw [WS Om Om,Z9 (i+1) Om (fun j h1 h2=>hj j h1 Om),if_neg (hj (i+1) Om Om),←Uf Om]
  exact(jik Om).symm
def UT (xs:List Leg) (i:Nat) :List Leg:=QU (xs.take i) ++xs.drop (QU (xs.take i)).length
theorem R4 (h:i≤xs.length) : (UT xs i).length=xs.length:=by
 have:=Gl (xs.take i)
 rw [jim] at this
 rw [UT,jid,jiy]
 omega
theorem jeg {j:Nat} (h: (QU (xs.take i)).length≤j) :lg (UT xs i) j=lg xs j:=by
 simp only [lg,List.getD,UT,List.getElem?_append_right h,List.getElem?_drop]
 rw [show(QU (xs.take i)).length+ (j- (QU (xs.take i)).length) =j by omega]
theorem jeh (h1:1≤i) (h:i<xs.length) (he:lg xs (i- 1) =lg xs i) :UT xs (i+1) =UT xs i:=by rw [UT,WS h1 h,if_pos he,jiC];rfl
theorem jbH (h1:1≤i) (h:i<xs.length) (he:¬lg xs (i- 1) =lg xs i) (hk: (QU (xs.take i)).length<xs.length) : (UT xs (i+1)).flatMap Je=qL ((UT xs i).flatMap Je) ((QU (xs.take i)).length*4) (Je (lg xs i)) :=by
 rw [UT,UT,WS h1 h,if_neg he]
 generalize QU (xs.take i) =C at*
 rw [jiR hk,jid,jjm,jii,jii,jii,jiA]
 have hC:C.length*4= (C.flatMap Je).length:= (QQ C).symm
 rw [hC,jiA (xs:=List.drop _ _),←jil (C.flatMap Je) (Je xs[C.length]),W3 (Je (lg xs i)) (C.flatMap Je) (Je xs[C.length]) _ rfl]
 simp
def BF (m:Nat) :List Value:= (Builtin.zeroCells (Value.agg #[.int .i64 0, .int .i64 0, .int .i64 0, .int .i64 0]).cells m).toList
theorem BG (m:Nat) : (BF m).length=m*4:=by
 rw [BF,Array.length_toList,size_zeroCells]
 rfl
theorem PT (m:Nat) : (BF m).all (·.oneCell') =true:=by
 rw [jjo]
 intro v hv
 rw [BF,Array.mem_toList_iff,Builtin.zeroCells] at hv
 obtain ⟨i,hi,rfl⟩ :=Array.mem_map.1 hv
 have:i % 4<4:=Nat.mod_lt _ Dc
 show(#[Value.int .i64 0,Value.int .i64 0,Value.int .i64 0,Value.int .i64 0][i % 4]!).oneCell'=true
 rcases(show i % 4=0∨i % 4=1∨i % 4=2∨i % 4=3 by omega) with e | e | e | e<;>rw [e] <;>rfl
def Lz (xs:List Leg) (i:Nat) :Nat:= (QU (xs.take i)).length
theorem MZ (h1:1≤i) (h:i<xs.length) (he:lg xs (i- 1) =lg xs i) :Lz xs (i+1) =Lz xs i:=by rw [Lz,WS h1 h,if_pos he,jiC];rfl
theorem SK (h1:1≤i) (h:i<xs.length) (he:¬lg xs (i- 1) =lg xs i) :Lz xs (i+1) =Lz xs i+1:=by rw [Lz,WS h1 h,if_neg he,jid];rfl
theorem Xh {e f:Leg} : (e.ax==f.ax&&e.ay==f.ay&&e.bx==f.bx&&e.b_y==f.b_y) =decide (f=e) :=by
 rcases e with⟨a1,a2,a3,a4⟩
 rcases f with⟨b1,b2,b3,b4⟩
 rw [jiK]
 simp only [jig,beq_iff_eq,decide_eq_true_eq,Leg.mk.injEq]
 omega
theorem zd (h:∀j,1≤j→j<xs.length→¬lg xs (j- 1) =lg xs j) :QU xs=xs:=by
 have:=Z9 xs.length (jif _) h
 rwa [jiM] at this
theorem Le : (xs.flatMap Je++rest).take (xs.length*4) =xs.flatMap Je:=List.take_left' (QQ xs)
theorem T5 {zs:List Value} {n c:Nat} (hn:xs.length=n) (hl: ((UT xs n).flatMap Je++rest).length=c*4) (hK:Lz xs n*4+zs.length≤c*4) :
  (qL ((UT xs n).flatMap Je++rest) (0+Lz xs n*4) zs).take ((QU xs).length*4) = (QU xs).flatMap Je:=by
 have e: (QU xs).length=Lz xs n:=by rw [Lz,←hn,jiM]
 have ec:QU (xs.take n) =QU xs:=by rw [←hn,jiM]
 apply List.ext_getElem?
 intro i
 rw [List.getElem?_take,e,jiB]
 by_cases hi:i<Lz xs n*4
 ·rw [if_pos hi,Bg i Om,if_neg Om,UT,jii,jil,List.getElem?_append_left (by rw [QQ];exact hi),ec]
 ·rw [if_neg hi,List.getElem?_eq_none (by rw [QQ,e];omega)]
theorem FM (b T c n:Nat) (xs:List Leg) (rest:List Value) (w:World) (hh:w.heap[b]? =some (.cells (xs.flatMap Je++rest).toArray T (0,0))) (hc:n≤c) (hl: ((xs.flatMap Je) ++rest).length=c*4) (hn:xs.length=n) (hn2:n≤1048577) :
  Calls Tryz.prog 184 #[.slice (some ⟨b,0,none⟩) n c] w fun e w'=>e= .returned (.slice (some ⟨b,0,none⟩) (QU xs).length c)∧Wr b w w'∧∃cs:List Value,w'.heap[b]? =some (.cells cs.toArray T (0,0))∧cs.length=c*4∧cs.take ((QU xs).length*4) = (QU xs).flatMap Je:=by
 have hr2:∀(zs:List Leg),zs.length=n→∀k,k<n→∀w':World,w'.heap[b]? =some (.cells (zs.flatMap Je++rest).toArray T (0,0))→∀(q:Nat) (v:Value),[Value.int .i64 (lg zs k).ax,Value.int .i64 (lg zs k).ay,Value.int .i64 (lg zs k).bx,Value.int .i64 (lg zs k).b_y][q]? =some v→w'.cell? ⟨b,0+k*4+q,none⟩ =some v:=fun zs hz k hk w' hw q v hv=>by
  have hq:q<4:=by have:= (List.getElem?_eq_some_iff.1 hv).1;simpa using this
  rw [cell_of_row w' b _ _ T (0,0) hw,jiB]
  have hf:=Cs zs k q Om hq
  rw [Uf Om] at hf
  have: (zs.flatMap Je++rest).toArray[k*4+q]? = (zs.flatMap Je)[k*4+q]? :=by
   rw [List.getElem?_toArray,List.getElem?_append_left (by rw [QQ];omega)]
  rw [this,hf]
  exact hv
 refine QD (m:=61) (Tryz.func184) J J (lb J) (hh) ?_;refine S11 ?_;refine cZ (fun c1=> ?_) (fun c1=> ?_)
 ·refine S7 ?_;refine jJ J (.tmp J) ?_
  intro w' hs
  exact⟨by rw [zd fun j h1 h2=>absurd h2 Om,hn],hs.over.wr,_,hs.cel (k:=0) rfl,hl,by rw [zd fun j h1 h2=>absurd h2 Om];exact Le⟩
 ·refine S8 ?_;refine qj (X:=Nat) (fun k=>1≤k∧k≤n∧(∀j,1≤j→j<k→¬lg xs (j- 1) =lg xs j)) (fun k=>n- k) (fun k=> [(3, .int .i64 (k:Int))]) (kK [0,2]) 1 (⟨jif _,by omega,fun j h1 h2=>absurd h2 Om⟩) ⟨J,sz⟩ ?_
  intro k hk L hL1
  refine V8 ?_;refine cZ (fun c2=> ?_) (fun c2=> ?_)
  ·refine S6 ?_;refine JH 10 ?_;refine dK 0 ?_;refine dK 1 ?_;refine dK 2 ?_;refine dZ 3 J (jk J J qx J (fun w' hs=>hr2 xs hn k Om w' (hs.cel (k:=0) J))) ?_;refine dK 4 ?_;refine dK 5 ?_;refine dZ 6 J ((JC J J J Om Om).as (congrArg _ (show((k:Int) - 1) = ((k- 1:Nat) :Int) by omega))) ?_;refine dK 7 ?_;refine dZ 8 J (jk J J qx J (fun w' hs=>hr2 xs hn (k- 1) Om w' (hs.cel (k:=0) J))) ?_;refine dK 9 ?_;refine JB Kr ?_;refine S1 ?_;refine cZ (fun c3=> ?_) (fun c3=> ?_)
   ·have hkn:k<n:=Om
    have hdup:lg xs (k- 1) =lg xs k:=of_decide_eq_true (Xh▸c3)
    have hoff:YN 0 k c 4=0+k*4:=by rw [YN,if_neg Om]
    have hcs:QU (xs.take k) =xs.take k:=Z9 k Om hk.2.2
    have hck:Lz xs k=k:=by rw [Lz,hcs,jim];omega
    have hck1:Lz xs (k+1) =k:=by rw [MZ hk.1 Om hdup,hck]
    have hclo:UT xs (k+1) =xs:=by rw [UT,WS hk.1 Om,if_pos hdup,jiC,hcs,jim,jiZ Om,jiq]
    refine S4 ?_;refine a9 ((KZ J J J Jf Om).as ((uY (b:=b) (o:=0) (l:=k) (h:=n) (m:=c) (s:=4) hc Om).trans (by rw [hoff]))) ?_;refine S8 ?_;refine JE (X:=Nat) (fun j=>1≤j∧k+j≤n∧Lz xs (k+j) +1≤k+j) (fun j=>n- j) (fun j=> [(3, .int .i64 (Lz xs (k+j) :Int)),(5, .int .i64 (j:Int))]) (kK [0,2,10,11,12,13,16,17,18,19,20,21,22,23,24,25,26,27,28,4]) (fun j=> [.cel b T ((UT xs (k+j)).flatMap Je++rest)]) 1 (⟨jif _,by omega,by omega⟩) ⟨(by rw [hck1];rfl),sz⟩ (fun _ h=>h.upto ⟨by rw [hclo],trivial⟩) ?_
    intro j hj L hL2
    refine v9 ?_;refine r9 ?_
    have hcl: (UT xs (k+j)).length=n:= (R4 Om).trans hn
    refine S8 ?_;refine cZ (fun c4=> ?_) (fun c4=> ?_)
    ·have hjl:k+j<n:=Om
     have hrd:∀i,Lz xs (k+j)≤i→i<n→∀w':World,w'.heap[b]? =some (.cells ((UT xs (k+j)).flatMap Je++rest).toArray T (0,0))→∀(q:Nat) (v:Value),[Value.int .i64 (lg xs i).ax,Value.int .i64 (lg xs i).ay,Value.int .i64 (lg xs i).bx,Value.int .i64 (lg xs i).b_y][q]? =some v→w'.cell? ⟨b,0+i*4+q,none⟩ =some v:=fun i h1 h2 w' hw q v hv=>hr2 (UT xs (k+j)) hcl i h2 w' hw q v (by rw [jeg h1];exact hv)
     refine S6 ?_;refine JH 10 ?_;refine dK 0 ?_;refine dK 1 ?_;refine dK 2 ?_;refine dZ 3 J (jk J J qx J (fun w' hs q v hv=>by rw [show 0+k*4+j*4+q=0+ (k+j) *4+q by omega];exact hrd (k+j) Om hjl w' (hs.cel (k:=0) J) q v hv)) ?_;refine dK 4 ?_;refine dK 5 ?_;refine dZ 6 J ((JC J J J Om Om).as (congrArg _ (show((j:Int) - 1) = ((j- 1:Nat) :Int) by omega))) ?_;refine dK 7 ?_;refine dZ 8 J (jk J J qx J (fun w' hs q v hv=>by rw [show 0+k*4+ (j- 1) *4+q=0+ (k+j- 1) *4+q by omega];exact hrd (k+j- 1) Om Om w' (hs.cel (k:=0) J) q v hv)) ?_;refine dK 9 ?_;refine JB Kr ?_;refine S1 ?_;refine cZ (fun c5=> ?_) (fun c5=> ?_)
     ·refine S7 ?_;refine a9 (jk J J qx J (fun w' hs q v hv=>by rw [show 0+k*4+j*4+q=0+ (k+j) *4+q by omega];exact hrd (k+j) Om hjl w' (hs.cel (k:=0) J) q v hv)) ?_;refine S2 ?_;refine qe (k:=0) J J J J J (by rfl) qg.szx J J (by rw [jid,QQ,hcl];simp only [jij,jiw];omega) ?_;refine S13 ?_
      exact Jd hL2 (j+1) (⟨by omega,by omega,by rw [←jji,SK Om Om (of_decide_eq_false (Xh▸c5))];omega⟩) Om ⟨vi (by rw [←jji,SK Om Om (of_decide_eq_false (Xh▸c5))];omega),vi Om,sz⟩ (fun _ h=>h.upto ⟨by rw [←jji,jbH Om Om (of_decide_eq_false (Xh▸c5)) (by show Lz xs (k+j) <xs.length;omega),Zc (by rw [QQ,hcl];exact(show 0+Lz xs (k+j) *4+4≤n*4 by omega)),jiB];rfl,trivial⟩)
     ·refine S8 ?_
      exact Jd hL2 (j+1) (⟨by omega,by omega,by rw [←jji,MZ Om Om (of_decide_eq_true (Xh▸c5))];omega⟩) Om ⟨vi (by rw [←jji,MZ Om Om (of_decide_eq_true (Xh▸c5))]),vi Om,sz⟩ (fun _ h=>h.upto ⟨by rw [←jji,jeh Om Om (of_decide_eq_true (Xh▸c5))],trivial⟩)
    ·refine S9 ?_;refine a9 ((KZ J J J Jf Om).as (uY (b:=b) (o:=0) (l:=Lz xs (k+j)) (h:=n) (m:=c) (s:=4) hc Om)) ?_;refine S1 ?_;refine Ts (k:=0) (zs:=BF (n- Lz xs (k+j))) J Jf qg J J Om J J (PT _) (by rw [jid,QQ,hcl,BG,YN,if_neg Om];omega) ?_;refine N5 ?_;refine a9 ((QS J J J Jf Om).as (vf _ _ _ _ _)) ?_;refine S8 ?_;refine jJ J (.tmp J) ?_
     intro w' hs
     have hkj:k+j=n:=by omega
     have hK: (QU xs).length=Lz xs n:=by rw [Lz,←hn,jiM]
     have hlc: ((UT xs n).flatMap Je++rest).length=c*4:=by rw [←hl,jid,jid,QQ,QQ,R4 Om]
     have hoK:YN 0 (Lz xs n) c 4=0+Lz xs n*4:=by rw [YN,if_neg (by rw [←hkj];omega)]
     rw [hkj,hoK] at hs
     rw [hkj] at hj
     exact⟨by rw [hK,hkj],hs.over.wr,_,hs.cel (k:=0) rfl,by rw [qz];exact hlc,T5 hn hlc (by rw [BG];omega)⟩
   ·have hne:¬lg xs (k- 1) =lg xs k:=of_decide_eq_false (Xh▸c3)
    refine S8 ?_
    exact qa hL1 (k+1) (⟨by omega,by omega,fun j h1 h2=> (ji9 j k).elim (fun h3=>hk.2.2 j h1 h3) (fun h3=> (show k=j by omega)▸hne)⟩) Om ⟨vi Om,sz⟩ (u9 J)
  ·refine S11 ?_;refine jJ J (.tmp J) ?_
   intro w' hs
   have hkn:k=n:=by omega
   have hw:=zd (xs:=xs) fun j h1 h2=>hk.2.2 j h1 Om
   exact⟨by rw [hw,hn],hs.over.wr,_,hs.cel (k:=0) rfl,hl,by rw [hw];exact Le⟩
theorem FO {N c n:Nat} (h:w.ownsRow N 96 4 (.slice A n c) n (xs.flatMap Je)) (hn:xs.length=n) (h0:0<n) (hn2:n≤1048577) :
  Calls Tryz.prog 184 #[.slice A n c] w fun e w'=>e= .returned (.slice A (QU xs).length c)∧Wrs (JS N 96 4 n (xs.flatMap Je) (A,c)).F w w'∧(JS N 96 4 (QU xs).length ((QU xs).flatMap Je) (A,c)).P w':=by
 rcases h.2 with⟨_,e⟩ |⟨g,cap,cur,e,hb,hg,hcap,hmax,hsz,htk⟩
 ·omega
 ·injection e with e1 e2 e3
  subst e1 e3
  have hcur:cur.toList=xs.flatMap Je++cur.toList.drop (n*4) :=by rw [←htk,jiq]
  have hg':w.heap[g]? =some (.cells (xs.flatMap Je++cur.toList.drop (n*4)).toArray 96 (0,0)) :=by rw [←hcur,jjd];exact hg
  have hle:=Gl xs
  refine(FM g _ c n xs (cur.toList.drop (n*4)) w hg' hcap (by rw [←hcur];simpa using hsz) hn hn2).mono ?_
  rintro e w' ⟨rfl,hw,cs,hh,hcl,htk'⟩
  refine⟨rfl,⟨hw.os,hw.tape,hw.output,hw.size,fun q hq hne=>hw.block q hq (fun e=>hne (by subst e;rfl))⟩,?_⟩
  exact⟨QQ _, .inr ⟨g,c,_,rfl,hb,hh,by omega,hmax,by simpa using hcl,by rw [jjj];exact htk'⟩⟩
theorem jci (v:Value) (w:World) :Calls Tryz.prog 259 #[.slice none 0 0, .int .i64 0, .int .i64 0,v] w fun e w'=>e= .returned (.tuple #[])∧Over w w':=by
 refine jK (m:=53) (Tryz.func259) J J (lb J) ?_;refine S7 ?_;refine qj (X:=Unit) (fun u=>True) (fun u=>0) (fun u=> [(8, .int .i64 1)]) (kK [0,1,2,3]) () (trivial) ⟨J,sz⟩ ?_
 intro u hu L hL1
 refine V7 ?_;refine cZ (fun c1=> ?_) (fun c1=> ?_)
 ·omega
 ·refine S4 ?_;refine Q6 J ?_
  intro w' hs
  exact⟨rfl,hs.fin⟩
theorem jc0 (l:Int) (v:Value) (w:World) :Calls Tryz.prog 233 #[.slice none 0 0, .int .i64 0, .int .i64 0, .int .i64 l,v] w fun e w'=>e= .returned (.tuple #[])∧Over w w':=by
 refine jK (m:=148) (Tryz.func233) J J (lb J) ?_;refine S9 ?_;refine qj (X:=Unit) (fun u=>True) (fun u=>0) (fun u=> []) (kK [0,1,2,3,4,10,11]) () (trivial) sz ?_
 intro u hu L hL1
 refine V14 ?_;refine cZ (fun c1=> ?_) (fun c1=> ?_)
 ·refine S6 ?_;refine a9 (jG Vj J J (fun w h=>jci v w)) ?_;refine S6 ?_;refine Zk J ?_
  intro w' hs
  exact⟨rfl,hs.fin⟩
 ·omega
theorem jcl (w:World) :Calls Tryz.prog 168 #[.int .u64 0] w fun e w'=> (∃l:Int,e= .returned (.int .i64 l))∧w=w':=
 (Any.bits_Len (SlLaysF0.n15.bits (P:=Tryz.prog) (ρ:=Yh) {jdG with}) 0 w Om Om).mono fun _ _ ⟨he,hw⟩ =>⟨⟨_,he⟩,hw.symm⟩
theorem jaZ (w:World) :Calls Tryz.prog 182 #[.slice none 0 0, .func (.func 183) #[] #[]] w fun e w'=>e= .returned (.tuple #[])∧Over w w':=by
 go_enter Tryz.func182,Tryz.ntmps182
 go_wp2_with fail
 go_at_call 168
 refine(jcl _).mono ?_
 rintro e w1 ⟨⟨l,rfl⟩,rfl⟩
 go_wp2_with fail
 go_at_call 233
 refine(jc0 _ _ _).mono ?_
 rintro e w1 ⟨rfl,hb⟩
 go_wp2_with fail
 go_end0
 exact⟨rfl,hb⟩
theorem FN (w:World) :Calls Tryz.prog 184 #[.slice none 0 0] w fun e w'=>e= .returned (.slice none 0 0)∧Over w w':=by
 refine jK (m:=61) (Tryz.func184) J J (lb J) ?_;refine S11 ?_;refine cZ (fun c1=> ?_) (fun c1=> ?_)
 ·refine S7 ?_;refine jJ J (.tmp J) ?_
  intro w' hs
  exact⟨rfl,hs.fin⟩
 ·omega
end Go.Proofs.YtbahojdbmmjkcaaGreat
namespace Go.Proofs.YtbahojdbmmjkcaaGreat
open Go Go.RowKit
variable {es ls:List Leg} {k:Nat} {l p:Leg} {w:World} {x:Option Addr×Nat}
set_option maxRecDepth 100000
set_option maxHeartbeats 4000000
theorem R6 (p q:Pn) :0<VZ p q↔ww q p:=by
 have h1:=uz (p.1- q.1)
 have h2:=uz (p.2- q.2)
 unfold VZ ww
 split<;>omega
theorem R8 (p q:Pn) (hp:YZ p) (hq:YZ q) (W:World) :Calls Tryz.prog 112 #[pV p,pV q] W fun e w'=>e= .returned (.int .i64 (VZ p q))∧Over W w':=
 (UA p q hp hq W).mono fun e w' ⟨h,q',os',hw⟩ =>⟨h,XJ hw⟩
def Df (ls:List Leg) (k:Nat) :List Leg:= (ls.take k).map KR
theorem Fe (h:k<ls.length) :Df ls (k+1) =Df ls k++ [KR (lg ls k)] :=by
 rw [Df,jik h,Uf h]
 simp [Df]
theorem jcO (h:k≤ls.length) : (Df ls k).length=k:=by
 rw [Df,jip,jim]
 omega
theorem jeY (h:0<VZ (lA l) (lB l)) :KR l=⟨l.bx,l.b_y,l.ax,l.ay⟩ :=by rw [KR,if_pos ((R6 _ _).1 h)];rfl
theorem jgI (h:VZ (lA l) (lB l)≤0) :KR l=l:=by rw [KR,if_neg fun k=>by have:= (R6 _ _).2 k;omega]
def VQ (es:List Leg) :List Leg:= (Qj false es []).map (·.e)
theorem jck {m:List Leg} (hp:m.Perm (es.map KR)) (hr:EH m) :QU m=VQ es:=
 (jcL rfl hr fun q=>by rw [hp.mem_iff,jiD];constructor<;> (rintro⟨e,h1,h2⟩;exact⟨e,h1,h2.symm⟩)).symm
theorem ja1 {B g c n:Nat} {xs:List Leg} (h: (JS B 96 4 n (xs.flatMap Je) (some ⟨g,0,none⟩,c)).P w) (hl:xs.length=n) (hx:∀p∈xs,qU p) (hn:n≤1048576) (h0:0<n) :
  Calls Tryz.prog 182 #[.slice (some ⟨g,0,none⟩) n c, .func (.func 183) #[] #[]] w fun e w'=>∃x: {ys:List Leg//ys.Perm xs∧EH ys},e= .returned (.tuple #[])∧Wrs (JS B 96 4 n (xs.flatMap Je) (some ⟨g,0,none⟩,c)).F w w'∧(JS 0 96 4 n (x.1.flatMap Je) (some ⟨g,0,none⟩,c)).P w'∧(∀b,(JS 0 96 4 n (x.1.flatMap Je) (some ⟨g,0,none⟩,c)).F b→(JS B 96 4 n (xs.flatMap Je) (some ⟨g,0,none⟩,c)).F b∨w.heap.size≤b)∧(JS 0 96 4 n (x.1.flatMap Je) (some ⟨g,0,none⟩,c)).B=0:=by
 refine(ja2 h hl hx hn h0).mono ?_
 rintro e w' ⟨rfl,ys,hp,hr,hw,ho⟩
 exact⟨⟨ys,hp,hr⟩,rfl,hw.mono fun b hb=>by subst hb;rfl,ho,fun b hb=> .inl hb,rfl⟩
theorem jeW (hok:∀l∈ls,qU l) (k:Nat) :∀l∈Df ls k,qU l:=fun l hl=>by
 obtain ⟨e,he,rfl⟩ :=jiD.1 hl
 exact jcP (hok e (jiL he))
theorem Ty (A:Option Addr) (n c:Nat) (ls:List Leg) (w:World) (h:Legs w A n ls) (hok:∀l∈ls,qU l) (hn:n≤1048576) (h0:0<n) :
  Calls Tryz.prog 121 #[.slice A n c] w fun e w'=>∃v,e= .returned v∧w'.ownsRow w.heap.size 96 4 v (VQ ls).length ((VQ ls).flatMap Je)∧Over w w':=by
 have hl:=h.1
 refine jK (m:=33) (Tryz.func121) J J (lb J) ?_;refine S7 ?_;refine Q7 (T:=96) (s:=4) ?_;refine N9 ?_;refine JE (X:=Nat×Option Addr×Nat) (fun x=>x.1≤n) (fun x=>n- x.1) (fun x=> [(3, .slice x.2.1 x.1 x.2.2),(8, .int .i64 (x.1:Int))]) (kK [2,6,7]) (fun x=> [JS (Bs.N ⟨w,[]⟩) 96 4 x.1 ((Df ls x.1).flatMap Je) x.2]) (0,none,0) (jie _) ⟨J,sz⟩ (fun _ h=>h) ?_
 intro⟨k,rA,rc⟩ hk L hL1
 refine v9 ?_;refine r9 ?_
 have hk:k≤n:=hk
 refine S5 ?_;refine cZ (fun c1=> ?_) (fun c1=> ?_)
 ·have hlt:k<n:=Om
  obtain ⟨eb,eo,rfl,_⟩ :=h.2 Om
  have hb1:=xP (kk hok (show k<ls.length by omega))
  refine S7 ?_;refine a9 (jk J J qx J (yx (fun w' hs=>h.over hs.fin) hlt)) ?_;refine S1 ?_;refine aL (fun b1=> ?_);refine N10 ?_;refine a9 (jG Wl J J (fun w1 hs=>R8 (lA (lg ls k)) (lB (lg ls k)) hb1.1 hb1.2 w1)) ?_;refine S2 ?_;refine cZ (fun c2=> ?_) (fun c2=> ?_)
  ·refine S7 ?_;refine Oz (k:=1) J J J J (J) (by rfl) jD.szx J ?_;refine N2 ?_;refine OA (k:=1) J J J J (J) (by rfl) jD.szx J ?_;refine N5 ?_;refine jX J J (Qy J) J (lb J) (fun b2=> ?_);refine N1 ?_;refine JK (k:=0) J Jf qg Dc J Dc J J J (fun w' hs=>qD hs (k:=2) J J) (by simp [Value.oneCell']) (by unfold maxLen;omega) Om (jif _) (fun r1=> ?_);refine N8 ?_
   exact Jd hL1 ((k+1,r1)) ((show k+1≤n by omega)) (by simp only;omega) ⟨J,vi Om,sz⟩ (fun _ h=>h.upto ⟨by rw [Fe Om,jeY c2,jii];rfl,trivial⟩)
  ·refine S6 ?_;refine jX J J (Qy J) J (lb J) (fun b3=> ?_);refine N1 ?_;refine JK (k:=0) J Jf qg Dc J Dc J J J (fun w' hs=>qD hs (k:=2) J J) (by simp [Value.oneCell']) (by unfold maxLen;omega) Om (jif _) (fun r2=> ?_);refine N8 ?_
   exact Jd hL1 ((k+1,r2)) ((show k+1≤n by omega)) (by simp only;omega) ⟨J,vi Om,sz⟩ (fun _ h=>h.upto ⟨by rw [Fe Om,jgI c2,jii];rfl,trivial⟩)
 ·have hin:k=n:=by omega
  subst hin
  have hnl:=jcO (show k≤ls.length by omega)
  refine S6 ?_;refine qR (fun w hs=>kI (k:=0) J hs h0) ?_
  rintro⟨eg,rfl⟩
  refine S3 ?_;refine we (k:=0) (X:= {ys:List Leg//ys.Perm (Df ls k)∧EH ys}) (v:=fun _=> .tuple #[]) (r':=fun x=>JS 0 96 4 _ (x.1.flatMap Je) (some ⟨eg,0,none⟩,rc)) kX J J J Dc J (fun w1 hs=>ja1 (hs.all 0 _ J).1 hnl (jeW hok k) hn h0) ?_
  rintro⟨ys,hperm,hris⟩
  refine N5 ?_;refine vT (k:=0) (r':=JS 0 96 4 (QU ys).length ((QU ys).flatMap Je) (some ⟨eg,0,none⟩,rc)) Kd J J J Dc J (fun w1 hs=>FO (hs.all 0 _ J).1 (hperm.length_eq.trans hnl) h0 Om) (fun _ h=>h) J ?_;refine N3 ?_;refine jJ J (.tmp J) ?_
  intro w' hs
  have hr:=hs.all 0 _ rfl
  have he:=jck (show ys.Perm (ls.map KR) by rw [Df,jiu Om] at hperm;exact hperm) hris
  exact⟨_,rfl,by rw [←he];exact Q5 hr.1 (fun b hb=> (hr.2.1 b hb).elim id (fun h=>by cases h)),hs.fin⟩
theorem Tx (A:Option Addr) (c:Nat) (w:World) :
  Calls Tryz.prog 121 #[.slice A 0 c] w fun e w'=>e= .returned (.slice none 0 0)∧Over w w':=by
 refine jK (m:=33) (Tryz.func121) J J (lb J) ?_;refine S16 ?_;refine qj (X:=Unit) (fun u=>True) (fun u=>0) (fun u=> [(3, .slice none 0 0),(8, .int .i64 0)]) (kK [2,6,7]) () (trivial) ⟨J,sz⟩ ?_
 intro u hu L hL1
 refine V5 ?_;refine cZ (fun c1=> ?_) (fun c1=> ?_)
 ·omega
 ·refine S8 ?_;refine a9 (jG kX J J (fun w h=>jaZ w)) ?_;refine S4 ?_;refine a9 (jG Kd J J (fun w h=>FN w)) ?_;refine S3 ?_;refine jJ J (.tmp J) ?_
  intro w' hs
  exact⟨rfl,hs.fin⟩
theorem Tw (A:Option Addr) (n c:Nat) (ls:List Leg) (w:World) (h:Legs w A n ls) (hok:∀l∈ls,qU l) (hn:n≤1048576) :
  Calls Tryz.prog 121 #[.slice A n c] w fun e w'=>∃v,e= .returned v∧w'.ownsRow w.heap.size 96 4 v (VQ ls).length ((VQ ls).flatMap Je)∧Over w w':=by
 by_cases h0:0<n
 ·exact Ty A n c ls w h hok hn h0
 ·obtain rfl:n=0:=by omega
  have:ls= [] :=jiE h.1
  subst this
  refine(Tx A c w).mono ?_
  rintro e w' ⟨rfl,hb⟩
  exact⟨_,rfl,⟨rfl, .inl ⟨rfl,rfl⟩⟩,hb⟩
abbrev neV (x:Ne) :Value:= .agg #[.int .i64 x.e.ax, .int .i64 x.e.ay, .int .i64 x.e.bx, .int .i64 x.e.b_y, .int .i64 x.net, .int .i64 x.left, .int .i64 x.right]
def je2 (p e:Leg) :Bool:= !decide (KR e=p)
def GY (es:List Leg) (p:Leg) (k:Nat) :List Leg:= (es.take k).filter (je2 p)
def II (es:List Leg) (p:Leg) (k:Nat) :Int:=sm (fun e=>if KR e=p then sg e else 0) (es.take k)
theorem jeT (h:k≤es.length) : -(k:Int)≤II es p k∧II es p k≤k:=by
 have:=jfX (f:=fun e=>if KR e=p then sg e else 0) (l:=es.take k) fun e _=>by
  have:=TQ e
  split<;>omega
 rw [jim,jiZ h] at this
 exact this
theorem jar (h:k<es.length) :II es p (k+1) =II es p k+ (if KR (lg es k) =p then sg (lg es k) else 0) :=by
 rw [II,L9 _ h,Uf h]
 rfl
theorem jcK (es:List Leg) (p:Leg) :II es p es.length=Xq es p:=by rw [II,jiM];rfl
theorem jax (h:k<es.length) :GY es p (k+1) =GY es p k++ (if KR (lg es k) =p then [] else [lg es k]) :=by
 rw [GY,jik h,jjK,Uf h]
 congr 1
 by_cases e:KR (lg es k) =p<;>simp [je2,e]
theorem jcY (h:k≤es.length) : (GY es p k).length≤k:=by
 have:=jjL (je2 p) (es.take k)
 rw [jim,jiZ h] at this
 exact this
theorem Hc {α:Type} (q:α→Bool) (f:α→Int) :∀l:List α,sm f (l.filter q) =sm (fun e=>if q e=true then f e else 0) l
 | [] =>rfl
 | a::l=>by
  rw [List.filter_cons]
  by_cases h:q a=true
  ·rw [if_pos h]
   simp only [sm,Hc q f l,if_pos h]
  ·rw [if_neg h]
   simp only [sm,Hc q f l,if_neg h]
   omega
theorem FL (h:Bool) (ls:List Leg) (x y:Int) :∀k,k≤ls.length→uD h ls x y k=sm (fun e=>KE (vF h e) x y) (ls.take k)
 | 0,_=>rfl
 | k+1,hk=>by rw [uD,L9 _ Om,Uf Om,FL h ls x y k Om]
theorem jd0 (es:List Leg) (p:Leg) :PK true (GY es p es.length) (wW p) (Wh p) =Dm es p:=by
 rw [PK,FL _ _ _ _ _ (jif _),jiM,GY,jiM,Hc]
 refine yG fun e _=> ?_
 by_cases k:KR e=p<;>simp [je2,k]
theorem jfB (h:Bool) (ls:List Leg) (x y:Int) : -(ls.length:Int)≤PK h ls x y∧PK h ls x y≤ls.length:=Hw h ls x y _
theorem yB {B T n:Nat} (h: (JS B T 4 n (ls.flatMap Je) x).P w) (hn:ls.length=n) :Legs w x.1 n ls:=by
 obtain ⟨A,c,e,h1,_⟩ :=zt h hn
 injection e with e1 e2 e3
 rw [e1]
 exact h1
theorem Sk {e f:Leg} : (e.ax==f.ax&&e.ay==f.ay&&e.bx==f.bx&&e.b_y==f.b_y) =decide (e=f) :=by
 rw [Xh]
 exact decide_eq_decide.2 ⟨Eq.symm,Eq.symm⟩
theorem HZ (A:Option Addr) (n c:Nat) (es:List Leg) (p:Leg) (w:World) (h:Legs w A n es) (hok:∀l∈es,qU l) (hn:n≤1048576) (hp:qU p) (hne:lA p≠lB p) (hord:¬ww (lB p) (lA p)) :
  Calls Tryz.prog 122 #[.slice A n c,jhV p] w fun e w'=>e= .returned (neV (xL es p))∧Over w w':=by
 have hl:=h.1
 have hb: ((-262144≤p.ax∧p.ax≤262144)∧-262144≤p.ay∧p.ay≤262144)∧(-262144≤p.bx∧p.bx≤262144)∧-262144≤p.b_y∧p.b_y≤262144:=⟨⟨hp.1,hp.2.1⟩,hp.2.2.1,hp.2.2.2⟩
 refine jK (m:=84) (Tryz.func122) J J (lb J) ?_;refine S3 ?_;refine aX (fun b1=> ?_);refine N1 ?_;refine aL (fun b2=> ?_);refine N7 ?_;refine a9 (JF J J (Y0 J J)) ?_;refine S1 ?_;refine aL (fun b3=> ?_);refine N6 ?_;refine Q7 (T:=96) (s:=4) ?_;refine N9 ?_;refine JE (X:=Nat×Option Addr×Nat) (fun x=>x.1≤n) (fun x=>n- x.1) (fun x=> [(6, .slice x.2.1 (GY es p x.1).length x.2.2),(17, .int .i64 (x.1:Int))]) (kK [3,4,5,15,16]) (fun x=> [.cel b1 96 [.int .i64 p.ax, .int .i64 p.ay, .int .i64 p.bx, .int .i64 p.b_y], .cel b2 171 [.int .i64 0, .int .i64 0, .int .i64 0, .int .i64 0, .int .i64 0, .int .i64 0, .int .i64 0], .cel b3 171 [.int .i64 p.ax, .int .i64 p.ay, .int .i64 p.bx, .int .i64 p.b_y, .int .i64 (II es p x.1), .int .i64 0, .int .i64 0],JS (Bs.N ⟨w,[]⟩) 96 4 (GY es p x.1).length ((GY es p x.1).flatMap Je) x.2]) (0,none,0) (jie _) ⟨J,sz⟩ (fun _ h=>h) ?_
 intro⟨k,rA,rc⟩ hk L hL1
 refine v9 ?_;refine r9 ?_
 have hk:k≤n:=hk
 have hnb:=jeT (p:=p) (show k≤es.length by omega)
 have hob:=jcY (p:=p) (show k≤es.length by omega)
 refine S5 ?_;refine cZ (fun c1=> ?_) (fun c1=> ?_)
 ·have hlt:k<n:=Om
  obtain ⟨eb,eo,rfl,_⟩ :=h.2 Om
  have hN:=jar (p:=p) (show k<es.length by omega)
  have hO:=jax (p:=p) (show k<es.length by omega)
  refine S7 ?_;refine a9 (jk J J qx J (yx (fun w' hs=>h.over hs.fin) hlt)) ?_;refine S1 ?_;refine aL (fun b4=> ?_);refine N14 ?_;refine cZ (fun c2=> ?_) (fun c2=> ?_)
  ·have he:lg es k=p:=of_decide_eq_true (Sk▸c2)
   have hnp:KR (lg es k) =p:= (LZ hord hne).2 (.inl he)
   rw [if_pos hnp,he,Ee hord] at hN
   rw [if_pos hnp,jiC] at hO
   refine S6 ?_;refine zN (k:=2) J J J J (J) (by rfl) qW.szx J ?_;refine N8 ?_
   exact Jd hL1 ((k+1,rA,rc)) ((show k+1≤n by omega)) (by simp only;omega) ⟨(by rw [hO];rfl),vi Om,sz⟩ (fun _ h=>h.upto ⟨J,J,by rw [hN],by rw [hO],trivial⟩)
  ·have he:¬lg es k=p:=of_decide_eq_false (Sk▸c2)
   refine S6 ?_;refine a9 (JF J J (vh J J)) ?_;refine S3 ?_;refine cZ (fun c3=> ?_) (fun c3=> ?_)
   ·have hr:lg es k=vW p:=of_decide_eq_true (Sk (f:=vW p)▸c3)
    have hnp:KR (lg es k) =p:= (LZ hord hne).2 (.inr hr)
    rw [if_pos hnp,hr,jdw hord hne] at hN
    rw [if_pos hnp,jiC] at hO
    refine S6 ?_;refine zN (k:=2) J J J J (J) (by rfl) qW.szx J ?_;refine N8 ?_
    exact Jd hL1 ((k+1,rA,rc)) ((show k+1≤n by omega)) (by simp only;omega) ⟨(by rw [hO];rfl),vi Om,sz⟩ (fun _ h=>h.upto ⟨J,J,by rw [hN];rfl,by rw [hO],trivial⟩)
   ·have hr:¬lg es k=vW p:=of_decide_eq_false (Sk (f:=vW p)▸c3)
    have hnp:¬KR (lg es k) =p:=fun k=> ((LZ hord hne).1 k).elim he hr
    rw [if_neg hnp,Int.add_zero] at hN
    rw [if_neg hnp] at hO
    refine S4 ?_;refine jX J J (Qy J) J (lb J) (fun b5=> ?_);refine N1 ?_;refine JK (k:=3) J Jf qg Dc J Dc J J J (fun w' hs=>qD hs (k:=5) J J) (by simp [Value.oneCell']) (by unfold maxLen;omega) Om (jif _) (fun r1=> ?_);refine N9 ?_
    exact Jd hL1 ((k+1,r1)) ((show k+1≤n by omega)) (by simp only;omega) ⟨(by rw [hO,jid];rfl),vi Om,sz⟩ (fun _ h=>h.upto ⟨J,J,by rw [hN],by rw [hO,jid,jii];rfl,trivial⟩)
 ·have hin:k=n:=by omega
  subst hin
  rw [show II es p k=Xq es p by rw [←hl,jcK]] at*
  have hw1:=jfB true (GY es p k) (wW p) (Wh p)
  have hw2:PK true (GY es p k) (wW p) (Wh p) =Dm es p:=by rw [←hl,jd0]
  rw [hw2] at hw1
  have hoo:∀l∈GY es p k,qU l:=fun l hl=>hok l (jiL ((jjT.1 hl).1))
  refine S22 ?_;refine a9 (JF J J (Qi J J)) ?_;refine a9 (jG Xx J J (fun w1 hs=>hw2▸Dv rA _ rc (GY es p k) (wW p) (Wh p) true w1 (yB (hs.all 3 _ J).1 J) Om hoo (by unfold YY wW;omega) (by unfold YY Wh;omega))) ?_;refine S13 ?_;refine cZ (fun c4=> ?_) (fun c4=> ?_)
  ·refine S8 ?_;refine zO (k:=2) J J J J (J) (by rfl) qW.szx J ?_;refine N2 ?_;refine zP (k:=2) J J J J (J) (by rfl) qW.szx J ?_;refine N8 ?_;refine jJ J (JZ (k:=1) J VN J J) ?_
   intro w' hs
   exact⟨by rw [xL,if_pos c4],hs.fin⟩
  ·refine S8 ?_;refine zO (k:=2) J J J J (J) (by rfl) qW.szx J ?_;refine N2 ?_;refine zP (k:=2) J J J J (J) (by rfl) qW.szx J ?_;refine N8 ?_;refine jJ J (JZ (k:=1) J VN J J) ?_
   intro w' hs
   exact⟨by rw [xL,if_neg c4],hs.fin⟩
end Go.Proofs.YtbahojdbmmjkcaaGreat
