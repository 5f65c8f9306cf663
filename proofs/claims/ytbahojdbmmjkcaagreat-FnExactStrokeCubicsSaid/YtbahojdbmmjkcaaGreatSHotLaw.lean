import Derived.Test.YtbahojdbmmjkcaaGreatSCmp
set_option linter.unusedVariables false
set_option linter.unusedSimpArgs false
namespace Go.Proofs.YtbahojdbmmjkcaaGreat
open Go Go.RowKit
variable {A:Option Addr} {c i n:Nat} {cur:Array Value} {ls:List Leg} {os:Array Obj} {rest:List Value} {w:World} {xs:List Pn}
set_option maxRecDepth 100000
set_option maxHeartbeats 4000000
open Go Go.Shelf Go.RowKit
open Go Go.Shelf
open Go Go.Shelf Go.RowKit Go.Lib Go.Sort
structure Pw where
 val:Pn
 ok:YZ val
instance:Inhabited Pw:=⟨⟨(0,0),⟨⟨by decide,by decide⟩,by decide,by decide⟩⟩⟩
def Lu (x:Pw) :List Value:=jV x.val
theorem CD (x y:Pw) :ltOf (fun x y:Pw=>VZ x.val y.val) x y=decide (ww x.val y.val) :=by
 unfold ltOf
 rw [jiK,decide_eq_true_iff,decide_eq_true_iff]
 exact ME _ _
theorem jia:SWO (ltOf fun x y:Pw=>VZ x.val y.val) where
 irrefl x:=by rw [CD];exact decide_eq_false (Q8 _)
 trans x y z h1 h2:=by rw [CD,decide_eq_true_iff] at*;exact vY h1 h2
 ntrans x y z h1 h2:=by
  rw [CD] at*
  simp only [decide_eq_false_iff_not] at*
  unfold ww at*
  omega
theorem jbK (blk off size:Nat) (w:World) :CmpLays Tryz.prog 112 #[] Lu 2 (fun x y:Pw=>VZ x.val y.val) blk off size w:=
 fun _ _ _ _ x y=>UA x.val y.val x.ok y.ok _
theorem jhR (w:World) : (isAgg (Yi.t 24)).run Tryz.prog w= .ok true w:=Tryz.isAgg28 w
theorem jh8 (w:World) : (Go.sizeOf (Yi.t 24)).run Tryz.prog w= .ok 2 w:=Tryz.sizeOf28 w
def Yp (xs:List Pn) (hx:∀p∈xs,YZ p) :List Pw:=xs.attach.map fun p=>Pw.mk p.1 (hx p.1 p.2)
theorem PR (xs:List Pn) (hx:∀p∈xs,YZ p) : (Yp xs hx).length=xs.length:=by simp [Yp]
theorem PS (xs:List Pn) (hx:∀p∈xs,YZ p) : (Yp xs hx).map (·.val) =xs:=by
 rw [Yp,List.map_map]
 exact List.attach_map_subtype_val xs
theorem Sw (d:Array Pw) (j:Nat) (h:j<d.size*2) : ((d.toList.map (·.val)).flatMap jV)[j]? =some (flatK Lu 2 d)[j]! :=by
 rw [get_flatK _ _ _ _ h,TB _ _ (by simpa using h)]
 have hj:j/2<d.size:=by omega
 rw [getElem!_pos d (j/2) hj]
 simp only [jje,Array.getElem_toList]
 have h2:j % 2< (Lu d[j/2]).length:=by simp [Lu,jV];omega
 rw [getElem!_pos (Lu d[j/2]) (j % 2) h2]
 exact List.getElem?_eq_getElem h2
theorem Fx {g m T:Nat} {d':Array Pw} (hg:w.heap[g]? =some (.cells cur T (0,0))) (b:Nat) (hb:b<w.heap.size) :
  (sortWorldK Lu 2 w g 0 m d' os).heap[b]? =if g=b then some (.cells (Sort.putCells id 0 (flatK Lu 2 d') cur) T (0,0)) else w.heap[b]? :=by
 show((w.heap.modify g (Sort.onCells (Sort.putCells id 0 (flatK Lu 2 d')))) ++os)[b]? =_
 rw [Array.getElem?_append_left (by simpa using hb),Array.getElem?_modify]
 split
 ·rename_i e
  subst e
  rw [hg]
  rfl
 ·rfl
theorem jdJ {B g:Nat} (h:w.ownsRow B 28 2 (.slice (some ⟨g,0,none⟩) n c) n (xs.flatMap jV)) (hl:xs.length=n) (hx:∀p∈xs,YZ p) (hn:n≤1048576) (h0:0<n) :
  Calls Tryz.prog 111 #[.slice (some ⟨g,0,none⟩) n c, .func (.func 112) #[] #[]] w fun e w'=>e= .returned (.tuple #[])∧∃ys,ys.Perm xs∧Ris ys∧Wrs (· =g) w w'∧w'.ownsRow 0 28 2 (.slice (some ⟨g,0,none⟩) n c) n (ys.flatMap jV) :=by
 rcases h.2 with⟨_,e⟩ |⟨g',cap,cur,e,hb,hg,hcap,hmax,hsz,htk⟩
 ·omega
 ·injection e with e1 e2 e3
  injection e1 with e1
  injection e1 with e1
  subst e1 e3
  have hds: (Yp xs hx).toArray.size=n:=by simp [PR,hl]
  have hval: ((Yp xs hx).toArray.toList.map (·.val)) =xs:=by rw [jjj];exact PS xs hx
  have hH:HoldsK Lu 2 w g 0 (Yp xs hx).toArray:=by
   intro j hj
   rw [size_flatK,hds] at hj
   refine⟨?_,?_⟩
   ·rw [jiB,cell_of_row w g j cur _ (0,0) hg]
    have:=Sw (Yp xs hx).toArray j (by rw [hds];exact hj)
    rw [hval,←htk,List.getElem?_take,if_pos hj] at this
    simpa using this
   ·unfold World.frozen?
    simp only [hg]
    simp
  have eg:∀args w,(callFunc 112 args).run Tryz.prog w= .ok (.enter 112 args) w:=enters_of Tryz.func112 Kr rfl
  have hcon:=AnyQ.slices_SortFunc jdH 2 jhR jh8 Lu (fun _=>rfl) (fun x v hv=>by simp [Lu,jV] at hv;rcases hv with rfl | rfl<;>rfl) (fun x y:Pw=>VZ x.val y.val) jia 112 #[] g 0 c (Yp xs hx).toArray w eg (jbK g 0 _ w) hH (J4 hg) Om
  rw [hds] at hcon
  refine hcon.mono ?_
  rintro e w' ⟨rfl,d',m,os,hp,hs,rfl⟩
  have hd':d'.size=n:=hp.1.trans hds
  refine⟨J,d'.toList.map (·.val),?_,?_,?_,?_⟩
  ·have:=hp.2.2.map (·.val)
   rw [←hd',Array.extract_size,hd',←hds,Array.extract_size,hval] at this
   exact this
  ·refine jjc.2 fun i j hi hj hij=> ?_
   simp only [jip,Array.length_toList] at hi hj
   have:=hs i j (jie _) hij Om
   rw [CD,decide_eq_false_iff_not,getElem!_pos d' j hj,getElem!_pos d' i hi] at this
   simpa using this
  ·refine⟨J,J,J,by exact size_sortWorldK_c _ _ _ _ _ _ _ _,fun b hb hne=> ?_⟩
   rw [Fx hg b hb,if_neg (fun e=>hne e.symm)]
  ·refine⟨by rw [qV];simp [hd'], .inr ⟨g,c,Sort.putCells id 0 (flatK Lu 2 d') cur,J,jie _,?_,hcap,hmax,by simp [Sort.putCells,hsz],?_⟩⟩
   ·rw [Fx hg g (J4 hg),if_pos rfl]
   ·apply List.ext_getElem?
    intro j
    rw [List.getElem?_take]
    by_cases hj:j<n*2
    ·rw [if_pos hj,Sw d' j (by rw [hd'];exact hj),Array.getElem?_toList]
     have hjc:j<cur.size:=by omega
     simp only [Sort.putCells,Array.getElem?_mapIdx,Array.getElem?_eq_getElem hjc,jjU,size_flatK,hd']
     rw [if_pos ⟨jie _,by omega⟩,jjR]
     rfl
    ·rw [if_neg hj,List.getElem?_eq_none (by rw [qV];simp [hd'];omega)]
theorem xd:∀(l:List Pn) (q p:Pn),QO (l++ [q] ++ [p]) =QO (l++ [q]) ++ (if q=p then [] else [p])
 | [],q,p=>by
  simp only [jiV,List.singleton_append,QO]
  split
  ·rename_i h;rw [h]
  ·rfl
 | [a],q,p=>by
  have h:=xd [] q p
  simp only [jiV,List.singleton_append,jiI] at h⊢
  rw [QO,h]
  conv=>rhs;rw [QO]
  split<;>rfl
 | a::b::l,q,p=>by
  have h:=xd (b::l) q p
  simp only [jiI] at h⊢
  rw [QO,h]
  conv=>rhs;rw [QO]
  split<;>rfl
theorem WT (h1:1≤i) (h:i<xs.length) :QO (xs.take (i+1)) =QO (xs.take i) ++ (if pt xs (i- 1) =pt xs i then [] else [pt xs i]) :=by
 obtain ⟨j,rfl⟩ :∃j,i=j+1:=⟨i- 1,by omega⟩
 rw [jik h,jik (show j<xs.length by omega),xd,kB h,kB (show j<xs.length by omega)]
 rfl
theorem Gm:∀l:List Pn,(QO l).length≤l.length
 | [] =>jif _
 | [_] =>jif _
 | p::q::l=>by
  have:=Gm (q::l)
  unfold QO
  simp only [jij] at*
  split
  ·omega
  ·rw [jij];omega
theorem xb {xs:List Pn} :∀i,i≤xs.length→(∀j,1≤j→j<i→¬pt xs (j- 1) =pt xs j)→QO (xs.take i) =xs.take i
 | 0,_,_=>rfl
 | 1,h,_=>by
  match xs,h with
  | p::l,_=>rfl
 | i+2,h,hj=>by
  rw [WT Om Om,xb (i+1) Om (fun j h1 h2=>hj j h1 Om),if_neg (hj (i+1) Om Om),←kB Om]
  exact(jik Om).symm
def clo (xs:List Pn) (i:Nat) :List Pn:=QO (xs.take i) ++xs.drop (QO (xs.take i)).length
theorem Cb (h:i≤xs.length) : (clo xs i).length=xs.length:=by
 have:=Gm (xs.take i)
 rw [jim] at this
 rw [clo,jid,jiy]
 omega
theorem jbI {j:Nat} (h: (QO (xs.take i)).length≤j) :pt (clo xs i) j=pt xs j:=by
 simp only [pt,px,py,List.getD,clo,List.getElem?_append_right h,List.getElem?_drop]
 rw [show(QO (xs.take i)).length+ (j- (QO (xs.take i)).length) =j by omega]
theorem jgh (h1:1≤i) (h:i<xs.length) (he:pt xs (i- 1) =pt xs i) :clo xs (i+1) =clo xs i:=by rw [clo,WT h1 h,if_pos he,jiC];rfl
theorem jei (h1:1≤i) (h:i<xs.length) (he:¬pt xs (i- 1) =pt xs i) (hk: (QO (xs.take i)).length<xs.length) : (clo xs (i+1)).flatMap jV=qL ((clo xs i).flatMap jV) ((QO (xs.take i)).length*2) (jV (pt xs i)) :=by
 rw [clo,clo,WT h1 h,if_neg he]
 generalize QO (xs.take i) =C at*
 rw [jiR hk,jid,jjm,jii,jii,jii,jiA]
 have hC:C.length*2= (C.flatMap jV).length:= (qV C).symm
 rw [hC]
 simp only [jV,qL,jiA,List.flatMap_nil,jiC,jiI,jiV]
 rw [jjx _ _ (jif _),Nat.sub_self,List.set_cons_zero,jjx _ _ Om,show(C.flatMap jV).length+1- (C.flatMap jV).length=1 by omega]
 simp [jV]
def BH (m:Nat) :List Value:= (Builtin.zeroCells (Value.agg #[.int .i64 0, .int .i64 0]).cells m).toList
theorem BI (m:Nat) : (BH m).length=m*2:=by
 rw [BH,Array.length_toList,size_zeroCells]
 rfl
theorem PU (m:Nat) : (BH m).all (·.oneCell') =true:=by
 rw [jjo]
 intro v hv
 rw [BH,Array.mem_toList_iff,Builtin.zeroCells] at hv
 obtain ⟨i,hi,rfl⟩ :=Array.mem_map.1 hv
 have:i % 2<2:=Nat.mod_lt _ Dc
 show(#[Value.int .i64 0,Value.int .i64 0][i % 2]!).oneCell'=true
 rcases(show i % 2=0∨i % 2=1 by omega) with e | e<;>rw [e] <;>rfl
def kc (xs:List Pn) (i:Nat) :Nat:= (QO (xs.take i)).length
theorem Ik (h1:1≤i) (h:i<xs.length) (he:pt xs (i- 1) =pt xs i) :kc xs (i+1) =kc xs i:=by rw [kc,WT h1 h,if_pos he,jiC];rfl
theorem Cq (h1:1≤i) (h:i<xs.length) (he:¬pt xs (i- 1) =pt xs i) :kc xs (i+1) =kc xs i+1:=by rw [kc,WT h1 h,if_neg he,jid];rfl
theorem TC {j:Nat} : ((px xs j==px xs i) && (py xs j==py xs i)) =decide (pt xs i=pt xs j) :=by
 rw [jiK]
 simp [pt,Prod.ext_iff]
 constructor<;> (rintro⟨h1,h2⟩;exact⟨h1.symm,h2.symm⟩)
theorem ze (h:∀j,1≤j→j<xs.length→¬pt xs (j- 1) =pt xs j) :QO xs=xs:=by
 have:=xb xs.length (jif _) h
 rwa [jiM] at this
theorem Bt : (xs.flatMap jV++rest).take (xs.length*2) =xs.flatMap jV:=List.take_left' (qV xs)
theorem PI {zs:List Value} (hn:xs.length=n) (hl: ((clo xs n).flatMap jV++rest).length=c*2) (hK:kc xs n*2+zs.length≤c*2) :
  (qL ((clo xs n).flatMap jV++rest) (0+kc xs n*2) zs).take ((QO xs).length*2) = (QO xs).flatMap jV:=by
 have e: (QO xs).length=kc xs n:=by rw [kc,←hn,jiM]
 have ec:QO (xs.take n) =QO xs:=by rw [←hn,jiM]
 apply List.ext_getElem?
 intro i
 rw [List.getElem?_take,e,jiB]
 by_cases hi:i<kc xs n*2
 ·rw [if_pos hi,Bg i Om,if_neg Om,clo,jii,jil,List.getElem?_append_left (by rw [qV];exact hi),ec]
 ·rw [if_neg hi,List.getElem?_eq_none (by rw [qV,e];omega)]
theorem RA (b T c n:Nat) (xs:List Pn) (rest:List Value) (w:World) (hh:w.heap[b]? =some (.cells (xs.flatMap jV++rest).toArray T (0,0))) (hc:n≤c) (hl: ((xs.flatMap jV) ++rest).length=c*2) (hn:xs.length=n) (hn2:n≤1048577) :
  Calls Tryz.prog 113 #[.slice (some ⟨b,0,none⟩) n c] w fun e w'=>e= .returned (.slice (some ⟨b,0,none⟩) (QO xs).length c)∧Wr b w w'∧∃cs:List Value,w'.heap[b]? =some (.cells cs.toArray T (0,0))∧cs.length=c*2∧cs.take ((QO xs).length*2) = (QO xs).flatMap jV:=by
 have hr2:∀(zs:List Pn),zs.length=n→∀k,k<n→∀w':World,w'.heap[b]? =some (.cells (zs.flatMap jV++rest).toArray T (0,0))→∀(q:Nat) (v:Value),[Value.int .i64 (px zs k),Value.int .i64 (py zs k)][q]? =some v→w'.cell? ⟨b,0+k*2+q,none⟩ =some v:=fun zs hz k hk w' hw q v hv=>by
  have hq:q<2:=by have:= (List.getElem?_eq_some_iff.1 hv).1;simpa using this
  rw [cell_of_row w' b _ _ T (0,0) hw,jiB]
  have hf:=G1 zs k q Om hq
  rw [U5 Om] at hf
  have: (zs.flatMap jV++rest).toArray[k*2+q]? = (zs.flatMap jV)[k*2+q]? :=by
   rw [List.getElem?_toArray,List.getElem?_append_left (by rw [qV];omega)]
  rw [this,hf]
  exact hv
 refine QD (m:=61) (Tryz.func113) J J (lb J) (hh) ?_;refine S11 ?_;refine cZ (fun c1=> ?_) (fun c1=> ?_)
 ·refine S7 ?_;refine jJ J (.tmp J) ?_
  intro w' hs
  exact⟨by rw [ze fun j h1 h2=>absurd h2 Om,hn],hs.over.wr,_,hs.cel (k:=0) rfl,hl,by rw [ze fun j h1 h2=>absurd h2 Om];exact Bt⟩
 ·refine S8 ?_;refine qj (X:=Nat) (fun k=>1≤k∧k≤n∧(∀j,1≤j→j<k→¬pt xs (j- 1) =pt xs j)) (fun k=>n- k) (fun k=> [(3, .int .i64 (k:Int))]) (kK [0,2]) 1 (⟨jif _,by omega,fun j h1 h2=>absurd h2 Om⟩) ⟨J,sz⟩ ?_
  intro k hk L hL1
  refine V8 ?_;refine cZ (fun c2=> ?_) (fun c2=> ?_)
  ·refine S6 ?_;refine JH 10 ?_;refine dK 0 ?_;refine dK 1 ?_;refine dK 2 ?_;refine dZ 3 J (jk J J jj J (fun w' hs=>hr2 xs hn k Om w' (hs.cel (k:=0) J))) ?_;refine dK 4 ?_;refine dK 5 ?_;refine dZ 6 J ((JC J J J Om Om).as (congrArg _ (show((k:Int) - 1) = ((k- 1:Nat) :Int) by omega))) ?_;refine dK 7 ?_;refine dZ 8 J (jk J J jj J (fun w' hs=>hr2 xs hn (k- 1) Om w' (hs.cel (k:=0) J))) ?_;refine dK 9 ?_;refine JB Kr ?_;refine S1 ?_;refine cZ (fun c3=> ?_) (fun c3=> ?_)
   ·have hkn:k<n:=Om
    have hdup:pt xs (k- 1) =pt xs k:=of_decide_eq_true (TC▸c3)
    have hoff:YN 0 k c 2=0+k*2:=by rw [YN,if_neg Om]
    have hcs:QO (xs.take k) =xs.take k:=xb k Om hk.2.2
    have hck:kc xs k=k:=by rw [kc,hcs,jim];omega
    have hck1:kc xs (k+1) =k:=by rw [Ik hk.1 Om hdup,hck]
    have hclo:clo xs (k+1) =xs:=by rw [clo,WT hk.1 Om,if_pos hdup,jiC,hcs,jim,jiZ Om,jiq]
    refine S4 ?_;refine a9 ((KZ J J J jl Om).as ((uY (b:=b) (o:=0) (l:=k) (h:=n) (m:=c) (s:=2) hc Om).trans (by rw [hoff]))) ?_;refine S8 ?_;refine JE (X:=Nat) (fun j=>1≤j∧k+j≤n∧kc xs (k+j) +1≤k+j) (fun j=>n- j) (fun j=> [(3, .int .i64 (kc xs (k+j) :Int)),(5, .int .i64 (j:Int))]) (kK [0,2,10,11,12,13,16,17,18,19,20,21,22,23,24,25,26,27,28,4]) (fun j=> [.cel b T ((clo xs (k+j)).flatMap jV++rest)]) 1 (⟨jif _,by omega,by omega⟩) ⟨(by rw [hck1];rfl),sz⟩ (fun _ h=>h.upto ⟨by rw [hclo],trivial⟩) ?_
    intro j hj L hL2
    refine v9 ?_;refine r9 ?_
    have hcl: (clo xs (k+j)).length=n:= (Cb Om).trans hn
    refine S8 ?_;refine cZ (fun c4=> ?_) (fun c4=> ?_)
    ·have hjl:k+j<n:=Om
     have hrd:∀i,kc xs (k+j)≤i→i<n→∀w':World,w'.heap[b]? =some (.cells ((clo xs (k+j)).flatMap jV++rest).toArray T (0,0))→∀(q:Nat) (v:Value),[Value.int .i64 (px xs i),Value.int .i64 (py xs i)][q]? =some v→w'.cell? ⟨b,0+i*2+q,none⟩ =some v:=fun i h1 h2 w' hw q v hv=>hr2 (clo xs (k+j)) hcl i h2 w' hw q v (by rw [show px (clo xs (k+j)) i=px xs i from congrArg Prod.fst (jbI h1),show py (clo xs (k+j)) i=py xs i from congrArg Prod.snd (jbI h1)];exact hv)
     refine S6 ?_;refine JH 10 ?_;refine dK 0 ?_;refine dK 1 ?_;refine dK 2 ?_;refine dZ 3 J (jk J J jj J (fun w' hs q v hv=>by rw [show 0+k*2+j*2+q=0+ (k+j) *2+q by omega];exact hrd (k+j) Om hjl w' (hs.cel (k:=0) J) q v hv)) ?_;refine dK 4 ?_;refine dK 5 ?_;refine dZ 6 J ((JC J J J Om Om).as (congrArg _ (show((j:Int) - 1) = ((j- 1:Nat) :Int) by omega))) ?_;refine dK 7 ?_;refine dZ 8 J (jk J J jj J (fun w' hs q v hv=>by rw [show 0+k*2+ (j- 1) *2+q=0+ (k+j- 1) *2+q by omega];exact hrd (k+j- 1) Om Om w' (hs.cel (k:=0) J) q v hv)) ?_;refine dK 9 ?_;refine JB Kr ?_;refine S1 ?_;refine cZ (fun c5=> ?_) (fun c5=> ?_)
     ·refine S7 ?_;refine a9 (jk J J jj J (fun w' hs q v hv=>by rw [show 0+k*2+j*2+q=0+ (k+j) *2+q by omega];exact hrd (k+j) Om hjl w' (hs.cel (k:=0) J) q v hv)) ?_;refine S2 ?_;refine qe (k:=0) J J J J J (by rfl) jD.szx J J (by rw [jid,qV,hcl];simp only [jij,jiw];omega) ?_;refine S13 ?_
      exact Jd hL2 (j+1) (⟨by omega,by omega,by rw [←jji,Cq Om Om (of_decide_eq_false (TC▸c5))];omega⟩) Om ⟨vi (by rw [←jji,Cq Om Om (of_decide_eq_false (TC▸c5))];omega),vi Om,sz⟩ (fun _ h=>h.upto ⟨by rw [←jji,jei Om Om (of_decide_eq_false (TC▸c5)) (by show kc xs (k+j) <xs.length;omega),Zc (by rw [qV,hcl];exact(show 0+kc xs (k+j) *2+2≤n*2 by omega)),jiB];rfl,trivial⟩)
     ·refine S8 ?_
      exact Jd hL2 (j+1) (⟨by omega,by omega,by rw [←jji,Ik Om Om (of_decide_eq_true (TC▸c5))];omega⟩) Om ⟨vi (by rw [←jji,Ik Om Om (of_decide_eq_true (TC▸c5))]),vi Om,sz⟩ (fun _ h=>h.upto ⟨by rw [←jji,jgh Om Om (of_decide_eq_true (TC▸c5))],trivial⟩)
    ·refine S9 ?_;refine a9 ((KZ J J J jl Om).as (uY (b:=b) (o:=0) (l:=kc xs (k+j)) (h:=n) (m:=c) (s:=2) hc Om)) ?_;refine S1 ?_;refine Ts (k:=0) (zs:=BH (n- kc xs (k+j))) J jl jD J J Om J J (PU _) (by rw [jid,qV,hcl,BI,YN,if_neg Om];omega) ?_;refine N5 ?_;refine a9 ((QS J J J jl Om).as (vf _ _ _ _ _)) ?_;refine S8 ?_;refine jJ J (.tmp J) ?_
     intro w' hs
     have hkj:k+j=n:=by omega
     have hK: (QO xs).length=kc xs n:=by rw [kc,←hn,jiM]
     have hlc: ((clo xs n).flatMap jV++rest).length=c*2:=by rw [←hl,jid,jid,qV,qV,Cb Om]
     have hoK:YN 0 (kc xs n) c 2=0+kc xs n*2:=by rw [YN,if_neg (by rw [←hkj];omega)]
     rw [hkj,hoK] at hs
     rw [hkj] at hj
     exact⟨by rw [hK,hkj],hs.over.wr,_,hs.cel (k:=0) rfl,by rw [qz];exact hlc,PI hn hlc (by rw [BI];omega)⟩
   ·have hne:¬pt xs (k- 1) =pt xs k:=of_decide_eq_false (TC▸c3)
    refine S8 ?_
    exact qa hL1 (k+1) (⟨by omega,by omega,fun j h1 h2=> (ji9 j k).elim (fun h3=>hk.2.2 j h1 h3) (fun h3=> (show k=j by omega)▸hne)⟩) Om ⟨vi Om,sz⟩ (u9 J)
  ·refine S11 ?_;refine jJ J (.tmp J) ?_
   intro w' hs
   have hkn:k=n:=by omega
   have hw:=ze (xs:=xs) fun j h1 h2=>hk.2.2 j h1 Om
   exact⟨by rw [hw,hn],hs.over.wr,_,hs.cel (k:=0) rfl,hl,by rw [hw];exact Bt⟩
theorem Hy {N:Nat} (h:w.ownsRow N 28 2 (.slice A n c) n (xs.flatMap jV)) (hn:xs.length=n) (h0:0<n) (hn2:n≤1048577) :
  Calls Tryz.prog 113 #[.slice A n c] w fun e w'=>e= .returned (.slice A (QO xs).length c)∧Wrs (JS N 28 2 n (xs.flatMap jV) (A,c)).F w w'∧(JS N 28 2 (QO xs).length ((QO xs).flatMap jV) (A,c)).P w':=by
 rcases h.2 with⟨_,e⟩ |⟨g,cap,cur,e,hb,hg,hcap,hmax,hsz,htk⟩
 ·omega
 ·injection e with e1 e2 e3
  subst e1 e3
  have hcur:cur.toList=xs.flatMap jV++cur.toList.drop (n*2) :=by rw [←htk,jiq]
  have hg':w.heap[g]? =some (.cells (xs.flatMap jV++cur.toList.drop (n*2)).toArray 28 (0,0)) :=by rw [←hcur,jjd];exact hg
  have hle:=Gm xs
  refine(RA g _ c n xs (cur.toList.drop (n*2)) w hg' hcap (by rw [←hcur];simpa using hsz) hn hn2).mono ?_
  rintro e w' ⟨rfl,hw,cs,hh,hcl,htk'⟩
  refine⟨rfl,⟨hw.os,hw.tape,hw.output,hw.size,fun q hq hne=>hw.block q hq (fun e=>hne (by subst e;rfl))⟩,?_⟩
  exact⟨qV _, .inr ⟨g,c,_,rfl,hb,hh,by omega,hmax,by simpa using hcl,by rw [jjj];exact htk'⟩⟩
theorem xy (ls:List Leg) (i:Nat) : (uu ls i 0).flatMap jV= (YM ls i).flatMap jV++ [.int .i64 (lg ls i).ax, .int .i64 (lg ls i).ay, .int .i64 (lg ls i).bx, .int .i64 (lg ls i).b_y]∧(uu ls i 0).length= (YM ls i).length+2:=by
 unfold uu cz
 rw [jiC,jii,jid]
 exact⟨rfl,rfl⟩
theorem CT {k:Nat} (h:kz (lA (lg ls i)) (lB (lg ls i)) (lA (lg ls k)) (lB (lg ls k)) =2) :uu ls i (k+1) =uu ls i k++ [F0 (lA (lg ls i)) (lB (lg ls i)) (lA (lg ls k)) (lB (lg ls k))] :=by
 rw [uu,cz,if_pos h,←jil]
 rfl
theorem jc3 {k:Nat} (h:¬kz (lA (lg ls i)) (lB (lg ls i)) (lA (lg ls k)) (lB (lg ls k)) =2) :uu ls i (k+1) =uu ls i k:=by
 rw [uu,cz,if_neg h,jiC]
 rfl
theorem jfD {ls:List Leg} (hok:∀l∈ls,qU l) {i:Nat} (hi:i<ls.length) :∀k,k≤i→∀p∈cz ls i k,YZ p
 | 0,_,p,hp=>by simp [cz] at hp
 | k+1,hk,p,hp=>by
  unfold cz at hp
  rcases jit.1 hp with h | h
  ·exact jfD hok hi k Om p h
  ·split at h
   ·rename_i hm
    rw [jin.1 h]
    exact jgi (VR (kk hok hi)) (wP (kk hok hi)) (VR (kk hok Om)) (wP (kk hok Om)) (jcy hm).2
   ·simp at h
theorem jb7 {ls:List Leg} (hok:∀l∈ls,qU l) :∀i,i≤ls.length→∀p∈YM ls i,YZ p
 | 0,_,p,hp=>by simp [YM] at hp
 | i+1,hi,p,hp=>by
  unfold YM at hp
  rcases jit.1 hp with h | h
  ·rcases jit.1 h with h | h
   ·exact jb7 hok i Om p h
   ·simp only [jis,ji3,or_false] at h
    rcases h with rfl | rfl
    ·exact(VR (kk hok Om)).wide
    ·exact(wP (kk hok Om)).wide
  ·exact jfD hok Om i (jif _) p h
theorem jez (h:0<i) :0< (YM ls i).length:=by
 obtain ⟨j,rfl⟩ :∃j,i=j+1:=⟨i- 1,by omega⟩
 unfold YM
 simp
 omega
theorem TT {B g:Nat} (h: (JS B 28 2 n (xs.flatMap jV) (some ⟨g,0,none⟩,c)).P w) (hl:xs.length=n) (hx:∀p∈xs,YZ p) (hn:n≤1048576) (h0:0<n) :
  Calls Tryz.prog 111 #[.slice (some ⟨g,0,none⟩) n c, .func (.func 112) #[] #[]] w fun e w'=>∃x: {ys:List Pn//ys.Perm xs∧Ris ys},e= .returned (.tuple #[])∧Wrs (JS B 28 2 n (xs.flatMap jV) (some ⟨g,0,none⟩,c)).F w w'∧(JS 0 28 2 n (x.1.flatMap jV) (some ⟨g,0,none⟩,c)).P w'∧(∀b,(JS 0 28 2 n (x.1.flatMap jV) (some ⟨g,0,none⟩,c)).F b→(JS B 28 2 n (xs.flatMap jV) (some ⟨g,0,none⟩,c)).F b∨w.heap.size≤b)∧(JS 0 28 2 n (x.1.flatMap jV) (some ⟨g,0,none⟩,c)).B=0:=by
 refine(jdJ h hl hx hn h0).mono ?_
 rintro e w' ⟨rfl,ys,hp,hr,hw,ho⟩
 exact⟨⟨ys,hp,hr⟩,rfl,hw.mono fun b hb=>by subst hb;rfl,ho,fun b hb=> .inl hb,rfl⟩
theorem B4 (A:Option Addr) (n c:Nat) (ls:List Leg) (w:World) (h:Legs w A n ls) (hok:∀l∈ls,qU l) (hn:n≤400) (hc:n≤c) (h0:0<n) :
  Calls Tryz.prog 57 #[.slice A n c] w fun e w'=>∃v,e= .returned v∧w'.ownsRow w.heap.size 28 2 v (qF (YM ls n)).length ((qF (YM ls n)).flatMap jV)∧Over w w':=by
 have hl:=h.1
 refine jK (m:=64) (Tryz.func57) J J (lb J) ?_;refine S7 ?_;refine Q7 (T:=28) (s:=2) ?_;refine N9 ?_;refine JE (X:=Nat×Option Addr×Nat) (fun x=>x.1≤n) (fun x=>n- x.1) (fun x=> [(3, .slice x.2.1 (YM ls x.1).length x.2.2),(12, .int .i64 (x.1:Int))]) (kK [0,2,10,11]) (fun x=> [JS (Bs.N ⟨w,[]⟩) 28 2 (YM ls x.1).length ((YM ls x.1).flatMap jV) x.2]) (0,none,0) (jie _) ⟨J,sz⟩ (fun _ h=>h) ?_
 intro⟨i,rA,rc⟩ hi L hL1
 refine v9 ?_;refine r9 ?_
 have hi:i≤n:=hi
 refine S5 ?_;refine cZ (fun c1=> ?_) (fun c1=> ?_)
 ·have hlt:i<n:=Om
  obtain ⟨eb,eo,rfl,_⟩ :=h.2 Om
  have hhl:=Zr ls i
  have hh2:i* (i+2)≤400*402:=jjv Om Om
  refine S8 ?_;refine a9 (jk J J qx J (yx (fun w' hs=>h.over hs.fin) hlt)) ?_;refine S1 ?_;refine aL (fun b1=> ?_);refine N12 ?_;refine jX J J (Kc J J) J (lb J) (fun b2=> ?_);refine N1 ?_;refine JK (k:=0) J jl jD Dc J Dc J J J (fun w' hs=>qD hs (k:=2) J J) (by simp [Value.oneCell']) (by unfold maxLen;omega) Om (jif _) (fun r1=> ?_);refine N6 ?_;refine a9 ((QS J J J Jf Om).as (vf _ _ _ _ _)) ?_;refine S4 ?_;refine JE (X:=Nat×Option Addr×Nat) (fun x=>x.1≤i) (fun x=>i- x.1) (fun x=> [(3, .slice x.2.1 (uu ls i x.1).length x.2.2),(28, .int .i64 (x.1:Int))]) (kK [0,2,10,11,12,13,14,15,16,5,4,17,18,19,20,21,22,23,24,25,26,27]) (fun x=> [JS (Bs.N ⟨w,[]⟩) 28 2 (uu ls i x.1).length ((uu ls i x.1).flatMap jV) x.2, .cel b1 96 [.int .i64 (lg ls i).ax, .int .i64 (lg ls i).ay, .int .i64 (lg ls i).bx, .int .i64 (lg ls i).b_y], .cel b2 28 [.int .i64 (lg ls i).ax, .int .i64 (lg ls i).ay, .int .i64 (lg ls i).bx, .int .i64 (lg ls i).b_y]]) (0,r1) (jie _) ⟨(by rw [(xy ls i).2];rfl),sz⟩ (fun _ h=>h.upto ⟨by rw [(xy ls i).1,(xy ls i).2],sz⟩) ?_
  intro⟨k,qA,qc⟩ hk L hL2
  refine v9 ?_;refine r9 ?_
  have hk:k≤i:=hk
  refine S5 ?_;refine cZ (fun c2=> ?_) (fun c2=> ?_)
  ·have hkt:k<i:=Om
   have hpl:=CS (ls:=ls) (k:=k) (show i<400 by omega) hk
   refine S7 ?_;refine a9 (jk J J qx J (yx (fun w' hs=>h.over hs.fin) (show k<n by omega))) ?_;refine S1 ?_;refine aL (fun b3=> ?_);refine N13 ?_;refine a9 (jG LC J J (fun w _=>Th (lA (lg ls i)) (lB (lg ls i)) (lA (lg ls k)) (lB (lg ls k)) w (VR (kk hok Om)) (wP (kk hok Om)) (VR (kk hok Om)) (wP (kk hok Om)))) ?_;refine S4 ?_;refine aL (fun b4=> ?_);refine N9 ?_;refine cZ (fun c3=> ?_) (fun c3=> ?_)
   ·have hm2:kz (lA (lg ls i)) (lB (lg ls i)) (lA (lg ls k)) (lB (lg ls k)) =2:=by rw [←(Fb (VR (kk hok Om)) (wP (kk hok Om)) (VR (kk hok Om)) (wP (kk hok Om))).1];exact c3
    refine S10 ?_;refine a9 (jG GK J J (fun w _=>Np (lA (lg ls i)) (lB (lg ls i)) (lA (lg ls k)) (lB (lg ls k)) w (VR (kk hok Om)) (wP (kk hok Om)) (VR (kk hok Om)) (wP (kk hok Om)) (jcy hm2).2)) ?_;refine S1 ?_;refine jX J J (J9 J) J (lb J) (fun b5=> ?_);refine N1 ?_;refine JK (k:=0) J jl jD Dc J Dc J J J (fun w' hs=>qD hs (k:=5) J J) (by simp [Value.oneCell']) (by unfold maxLen;omega) Om (jif _) (fun r2=> ?_);refine N8 ?_
    exact Jd hL2 ((k+1,r2)) ((show k+1≤i by omega)) (by simp only;omega) ⟨(by rw [CT hm2,jid];rfl),vi Om,sz⟩ (fun _ h=>h.upto ⟨by rw [CT hm2,jid,jii];rfl,sz⟩)
   ·have hm2:¬kz (lA (lg ls i)) (lB (lg ls i)) (lA (lg ls k)) (lB (lg ls k)) =2:=by rw [←(Fb (VR (kk hok Om)) (wP (kk hok Om)) (VR (kk hok Om)) (wP (kk hok Om))).1];exact c3
    refine S7 ?_
    exact Jd hL2 ((k+1,qA,qc)) ((show k+1≤i by omega)) (by simp only;omega) ⟨(by rw [jc3 hm2];rfl),vi Om,sz⟩ (fun _ h=>h.upto ⟨by rw [jc3 hm2],sz⟩)
  ·refine S10 ?_
   exact Jd hL1 ((i+1,qA,qc)) ((show i+1≤n by omega)) (by simp only;omega) ⟨(by rw [show k=i by omega];rfl),vi Om,sz⟩ (fun _ h=>h.upto ⟨by rw [show k=i by omega];rfl,trivial⟩)
 ·have hin:i=n:=by omega
  subst hin
  have hpos:=jez (ls:=ls) h0
  have hbd:=jb7 hok i Om
  have hhl:=Zr ls i
  have hh2:i* (i+2)≤400*402:=jjv Om Om
  refine S6 ?_;refine qR (fun w hs=>kI (k:=0) J hs hpos) ?_
  rintro⟨eg,rfl⟩
  refine S3 ?_;refine we (k:=0) (X:= {ys:List Pn//ys.Perm (YM ls i)∧Ris ys}) (v:=fun _=> .tuple #[]) (r':=fun x=>JS 0 28 2 _ (x.1.flatMap jV) (some ⟨eg,0,none⟩,rc)) QR J J J Dc J (fun w1 hs=>TT (hs.all 0 _ J).1 J hbd Om hpos) ?_
  rintro⟨ys,hperm,hris⟩
  refine N5 ?_;refine vT (k:=0) (r':=JS 0 28 2 (QO ys).length ((QO ys).flatMap jV) (some ⟨eg,0,none⟩,rc)) QX J J J Dc J (fun w1 hs=>Hy (hs.all 0 _ J).1 hperm.length_eq hpos Om) (fun _ h=>h) J ?_;refine N3 ?_;refine jJ J (.tmp J) ?_
  intro w' hs
  have hr:=hs.all 0 _ rfl
  have he:=R7 hris (fun q=>hperm.mem_iff)
  exact⟨_,rfl,by rw [←he];exact Q5 hr.1 (fun b hb=> (hr.2.1 b hb).elim id (fun h=>by cases h)),hs.fin⟩
theorem jeA (v:Value) (w:World) :Calls Tryz.prog 218 #[.slice none 0 0, .int .i64 0, .int .i64 0,v] w fun e w'=>e= .returned (.tuple #[])∧Over w w':=by
 refine jK (m:=53) (Tryz.func218) J J (lb J) ?_;refine S7 ?_;refine qj (X:=Unit) (fun u=>True) (fun u=>0) (fun u=> [(8, .int .i64 1)]) (kK [0,1,2,3]) () (trivial) ⟨J,sz⟩ ?_
 intro u hu L hL1
 refine V7 ?_;refine cZ (fun c1=> ?_) (fun c1=> ?_)
 ·omega
 ·refine S4 ?_;refine Q6 J ?_
  intro w' hs
  exact⟨rfl,hs.fin⟩
theorem je4 (l:Int) (v:Value) (w:World) :Calls Tryz.prog 167 #[.slice none 0 0, .int .i64 0, .int .i64 0, .int .i64 l,v] w fun e w'=>e= .returned (.tuple #[])∧Over w w':=by
 refine jK (m:=148) (Tryz.func167) J J (lb J) ?_;refine S9 ?_;refine qj (X:=Unit) (fun u=>True) (fun u=>0) (fun u=> []) (kK [0,1,2,3,4,10,11]) () (trivial) sz ?_
 intro u hu L hL1
 refine V14 ?_;refine cZ (fun c1=> ?_) (fun c1=> ?_)
 ·refine S6 ?_;refine a9 (jG Vq J J (fun w h=>jeA v w)) ?_;refine S6 ?_;refine Zk J ?_
  intro w' hs
  exact⟨rfl,hs.fin⟩
 ·omega
theorem jeF (w:World) :Calls Tryz.prog 168 #[.int .u64 0] w fun e w'=> (∃l:Int,e= .returned (.int .i64 l))∧w=w':=
 (Any.bits_Len (SlLaysF0.n15.bits (P:=Tryz.prog) (ρ:=Yi) {jdH with}) 0 w Om Om).mono fun _ _ ⟨he,hw⟩ =>⟨⟨_,he⟩,hw.symm⟩
theorem jdI (w:World) :Calls Tryz.prog 111 #[.slice none 0 0, .func (.func 112) #[] #[]] w fun e w'=>e= .returned (.tuple #[])∧Over w w':=by
 go_enter Tryz.func111,Tryz.ntmps111
 go_wp2_with fail
 go_at_call 168
 refine(jeF _).mono ?_
 rintro e w1 ⟨⟨l,rfl⟩,rfl⟩
 go_wp2_with fail
 go_at_call 167
 refine(je4 _ _ _).mono ?_
 rintro e w1 ⟨rfl,hb⟩
 go_wp2_with fail
 go_end0
 exact⟨rfl,hb⟩
theorem RB (w:World) :Calls Tryz.prog 113 #[.slice none 0 0] w fun e w'=>e= .returned (.slice none 0 0)∧Over w w':=by
 refine jK (m:=61) (Tryz.func113) J J (lb J) ?_;refine S11 ?_;refine cZ (fun c1=> ?_) (fun c1=> ?_)
 ·refine S7 ?_;refine jJ J (.tmp J) ?_
  intro w' hs
  exact⟨rfl,hs.fin⟩
 ·omega
theorem B3 (A:Option Addr) (c:Nat) (w:World) :
  Calls Tryz.prog 57 #[.slice A 0 c] w fun e w'=>e= .returned (.slice none 0 0)∧Over w w':=by
 refine jK (m:=64) (Tryz.func57) J J (lb J) ?_;refine S16 ?_;refine qj (X:=Unit) (fun u=>True) (fun u=>0) (fun u=> [(3, .slice none 0 0),(12, .int .i64 0)]) (kK [0,2,10,11]) () (trivial) ⟨J,sz⟩ ?_
 intro u hu L hL1
 refine V5 ?_;refine cZ (fun c1=> ?_) (fun c1=> ?_)
 ·omega
 ·refine S8 ?_;refine a9 (jG QR J J (fun w h=>jdI w)) ?_;refine S4 ?_;refine a9 (jG QX J J (fun w h=>RB w)) ?_;refine S3 ?_;refine jJ J (.tmp J) ?_
  intro w' hs
  exact⟨rfl,hs.fin⟩
theorem BZ (A:Option Addr) (n c:Nat) (ls:List Leg) (w:World) (h:Legs w A n ls) (hok:∀l∈ls,qU l) (hn:n≤400) (hc:n≤c) :
  Calls Tryz.prog 57 #[.slice A n c] w fun e w'=>∃v,e= .returned v∧w'.ownsRow w.heap.size 28 2 v (qF (YM ls n)).length ((qF (YM ls n)).flatMap jV)∧Over w w':=by
 by_cases h0:0<n
 ·exact B4 A n c ls w h hok hn hc h0
 ·obtain rfl:n=0:=by omega
  refine(B3 A c w).mono ?_
  rintro e w' ⟨rfl,hO⟩
  exact⟨_,rfl,⟨rfl, .inl ⟨rfl,rfl⟩⟩,hO⟩
theorem G5 {rs:List Jp} (h:J0 rs=true) : (Jw rs).length≤400:=by
 simp only [J0,jig,decide_eq_true_eq] at h
 exact h.2
end Go.Proofs.YtbahojdbmmjkcaaGreat
