import Derived.Test.YtpncbbcmoiiipaaGreatKHull
set_option linter.unusedVariables false
set_option linter.unusedSimpArgs false
namespace Go.Proofs.YtpncbbcmoiiipaaGreat
open Go Go.RowKit
set_option maxRecDepth 100000
set_option maxHeartbeats 4000000
open Go Go.Shelf Go.RowKit
open Go Go.Shelf
open Go Go.Shelf Go.RowKit Go.Lib Go.Sort
structure Pw where
 val:Pn
 ok:ZQ val
instance:Inhabited Pw:=⟨⟨(0,0),⟨⟨by decide,by decide⟩,by decide,by decide⟩⟩⟩
def LL (x:Pw) :List Value:=Js x.val
theorem P8 (x y:Pw) :ltOf (fun x y:Pw=>wE x.val y.val) x y=decide (vh x.val y.val) :=by
 unfold ltOf
 rw [jiN,decide_eq_true_iff,decide_eq_true_iff]
 exact MP _ _
theorem jic:SWO (ltOf fun x y:Pw=>wE x.val y.val) where
 irrefl x:=by rw [P8];exact decide_eq_false (kC _)
 trans x y z h1 h2:=by rw [P8,decide_eq_true_iff] at*;exact Vx h1 h2
 ntrans x y z h1 h2:=by
  rw [P8] at*
  simp only [decide_eq_false_iff_not] at*
  unfold vh at*
  omega
theorem jbp (blk off size:Nat) (w:World) :CmpLays Tryz.prog 166 #[] LL 2 (fun x y:Pw=>wE x.val y.val) blk off size w:=
 fun _ _ _ _ x y=>UY x.val y.val x.ok y.ok _
theorem jhV (w:World) : (isAgg (YL.t 24)).run Tryz.prog w= .ok true w:=Tryz.isAgg56 w
theorem jia (w:World) : (Go.sizeOf (YL.t 24)).run Tryz.prog w= .ok 2 w:=Tryz.sizeOf56 w
def YT (xs:List Pn) (hx:∀p∈xs,ZQ p) :List Pw:=xs.attach.map fun p=>Pw.mk p.1 (hx p.1 p.2)
theorem Pj (xs:List Pn) (hx:∀p∈xs,ZQ p) : (YT xs hx).length=xs.length:=by simp [YT]
theorem Pk (xs:List Pn) (hx:∀p∈xs,ZQ p) : (YT xs hx).map (·.val) =xs:=by
 rw [YT,List.map_map]
 exact List.attach_map_subtype_val xs
theorem R3 (d:Array Pw) (j:Nat) (h:j<d.size*2) : ((d.toList.map (·.val)).flatMap Js)[j]? =some (flatK LL 2 d)[j]! :=by
 rw [get_flatK _ _ _ _ h,SZ _ _ (by simpa using h)]
 have hj:j/2<d.size:=by omega
 rw [getElem!_pos d (j/2) hj]
 simp only [jjs,Array.getElem_toList]
 have h2:j % 2< (LL d[j/2]).length:=by simp [LL,Js];omega
 rw [getElem!_pos (LL d[j/2]) (j % 2) h2]
 exact List.getElem?_eq_getElem h2
theorem Fc {w:World} {g m T:Nat} {cur:Array Value} {d':Array Pw} {os:Array Obj} (hg:w.heap[g]? =some (.cells cur T (0,0))) (b:Nat) (hb:b<w.heap.size) :
  (sortWorldK LL 2 w g 0 m d' os).heap[b]? =if g=b then some (.cells (Sort.putCells id 0 (flatK LL 2 d') cur) T (0,0)) else w.heap[b]? :=by
 show((w.heap.modify g (Sort.onCells (Sort.putCells id 0 (flatK LL 2 d')))) ++os)[b]? =_
 rw [Array.getElem?_append_left (by simpa using hb),Array.getElem?_modify]
 split
 ·rename_i e
  subst e
  rw [hg]
  rfl
 ·rfl
theorem jds {B g c n:Nat} {xs:List Pn} {w:World} (h:w.ownsRow B 56 2 (.slice (some ⟨g,0,none⟩) n c) n (xs.flatMap Js)) (hl:xs.length=n) (hx:∀p∈xs,ZQ p) (hn:n≤1048576) (h0:0<n) :
  Calls Tryz.prog 165 #[.slice (some ⟨g,0,none⟩) n c, .func (.func 166) #[] #[]] w fun e w'=>e= .returned (.tuple #[])∧∃ys,ys.Perm xs∧Ris ys∧Wrs (· =g) w w'∧w'.ownsRow 0 56 2 (.slice (some ⟨g,0,none⟩) n c) n (ys.flatMap Js) :=by
 rcases h.2 with⟨_,e⟩ |⟨g',cap,cur,e,hb,hg,hcap,hmax,hsz,htk⟩
 ·omega
 ·injection e with e1 e2 e3
  injection e1 with e1
  injection e1 with e1
  subst e1 e3
  have hds: (YT xs hx).toArray.size=n:=by simp [Pj,hl]
  have hval: ((YT xs hx).toArray.toList.map (·.val)) =xs:=by rw [jjj];exact Pk xs hx
  have hH:HoldsK LL 2 w g 0 (YT xs hx).toArray:=by
   intro j hj
   rw [size_flatK,hds] at hj
   refine⟨?_,?_⟩
   ·rw [jiL,cell_of_row w g j cur _ (0,0) hg]
    have:=R3 (YT xs hx).toArray j (by rw [hds];exact hj)
    rw [hval,←htk,List.getElem?_take,if_pos hj] at this
    simpa using this
   ·unfold World.frozen?
    simp only [hg]
    simp
  have eg:∀args w,(callFunc 166 args).run Tryz.prog w= .ok (.enter 166 args) w:=enters_of Tryz.func166 Kr rfl
  have hcon:=AnyQ.slices_SortFunc jdp 2 jhV jia LL (fun _=>rfl) (fun x v hv=>by simp [LL,Js] at hv;rcases hv with rfl | rfl<;>rfl) (fun x y:Pw=>wE x.val y.val) jic 166 #[] g 0 c (YT xs hx).toArray w eg (jbp g 0 _ w) hH (J3 hg) Om
  rw [hds] at hcon
  refine hcon.mono ?_
  rintro e w' ⟨rfl,d',m,os,hp,hs,rfl⟩
  have hd':d'.size=n:=hp.1.trans hds
  refine⟨J,d'.toList.map (·.val),?_,?_,?_,?_⟩
  ·have:=hp.2.2.map (·.val)
   rw [←hd',Array.extract_size,hd',←hds,Array.extract_size,hval] at this
   exact this
  ·refine jjl.2 fun i j hi hj hij=> ?_
   simp only [jit,Array.length_toList] at hi hj
   have:=hs i j (jii _) hij Om
   rw [P8,decide_eq_false_iff_not,getElem!_pos d' j hj,getElem!_pos d' i hi] at this
   simpa using this
  ·refine⟨J,J,J,by exact size_sortWorldK_c _ _ _ _ _ _ _ _,fun b hb hne=> ?_⟩
   rw [Fc hg b hb,if_neg (fun e=>hne e.symm)]
  ·refine⟨by rw [Qg];simp [hd'], .inr ⟨g,c,Sort.putCells id 0 (flatK LL 2 d') cur,J,jii _,?_,hcap,hmax,by simp [Sort.putCells,hsz],?_⟩⟩
   ·rw [Fc hg g (J3 hg),if_pos rfl]
   ·apply List.ext_getElem?
    intro j
    rw [List.getElem?_take]
    by_cases hj:j<n*2
    ·rw [if_pos hj,R3 d' j (by rw [hd'];exact hj),Array.getElem?_toList]
     have hjc:j<cur.size:=by omega
     simp only [Sort.putCells,Array.getElem?_mapIdx,Array.getElem?_eq_getElem hjc,jj4,size_flatK,hd']
     rw [if_pos ⟨jii _,by omega⟩,jp4]
     rfl
    ·rw [if_neg hj,List.getElem?_eq_none (by rw [Qg];simp [hd'];omega)]
theorem xo:∀(l:List Pn) (q p:Pn),QY (l++ [q] ++ [p]) =QY (l++ [q]) ++ (if q=p then [] else [p])
 | [],q,p=>by
  simp only [jiW,List.singleton_append,QY]
  split
  ·rename_i h;rw [h]
  ·rfl
 | [a],q,p=>by
  have h:=xo [] q p
  simp only [jiW,List.singleton_append,jiJ] at h⊢
  rw [QY,h]
  conv=>rhs;rw [QY]
  split<;>rfl
 | a::b::l,q,p=>by
  have h:=xo (b::l) q p
  simp only [jiJ] at h⊢
  rw [QY,h]
  conv=>rhs;rw [QY]
  split<;>rfl
theorem uj {xs:List Pn} {i:Nat} (h1:1≤i) (h:i<xs.length) :QY (xs.take (i+1)) =QY (xs.take i) ++ (if pt xs (i- 1) =pt xs i then [] else [pt xs i]) :=by
 obtain ⟨j,rfl⟩ :∃j,i=j+1:=⟨i- 1,by omega⟩
 rw [jin h,jin (show j<xs.length by omega),xo,Kk h,Kk (show j<xs.length by omega)]
 rfl
theorem GG:∀l:List Pn,(QY l).length≤l.length
 | [] =>jih _
 | [_] =>jih _
 | p::q::l=>by
  have:=GG (q::l)
  unfold QY
  simp only [jim] at*
  split
  ·omega
  ·rw [jim];omega
theorem xn {xs:List Pn} :∀i,i≤xs.length→(∀j,1≤j→j<i→¬pt xs (j- 1) =pt xs j)→QY (xs.take i) =xs.take i
 | 0,_,_=>rfl
 | 1,h,_=>by
  match xs,h with
  | p::l,_=>rfl
 | i+2,h,hj=>by
  rw [uj Om Om,xn (i+1) Om (fun j h1 h2=>hj j h1 Om),if_neg (hj (i+1) Om Om),←Kk Om]
  exact(jin Om).symm
def clo (xs:List Pn) (i:Nat) :List Pn:=QY (xs.take i) ++xs.drop (QY (xs.take i)).length
theorem Pz {xs:List Pn} {i:Nat} (h:i≤xs.length) : (clo xs i).length=xs.length:=by
 have:=GG (xs.take i)
 rw [jiy] at this
 rw [clo,jif,jiI]
 omega
theorem jbn {xs:List Pn} {i j:Nat} (h: (QY (xs.take i)).length≤j) :pt (clo xs i) j=pt xs j:=by
 simp only [pt,px,py,List.getD,clo,List.getElem?_append_right h,List.getElem?_drop]
 rw [show(QY (xs.take i)).length+ (j- (QY (xs.take i)).length) =j by omega]
theorem jgl {xs:List Pn} {i:Nat} (h1:1≤i) (h:i<xs.length) (he:pt xs (i- 1) =pt xs i) :clo xs (i+1) =clo xs i:=by rw [clo,uj h1 h,if_pos he,jiG];rfl
theorem jed {xs:List Pn} {i:Nat} (h1:1≤i) (h:i<xs.length) (he:¬pt xs (i- 1) =pt xs i) (hk: (QY (xs.take i)).length<xs.length) : (clo xs (i+1)).flatMap Js=qP ((clo xs i).flatMap Js) ((QY (xs.take i)).length*2) (Js (pt xs i)) :=by
 rw [clo,clo,uj h1 h,if_neg he]
 generalize QY (xs.take i) =C at*
 rw [jiY hk,jif,jjW,jio,jio,jio,jiB]
 have hC:C.length*2= (C.flatMap Js).length:= (Qg C).symm
 rw [hC]
 simp only [Js,qP,jiB,List.flatMap_nil,jiG,jiJ,jiW]
 rw [jjI _ _ (jih _),jp3,jp2,jjI _ _ Om,show(C.flatMap Js).length+1- (C.flatMap Js).length=1 by omega]
 simp [Js]
def Bu (m:Nat) :List Value:= (Builtin.zeroCells (Value.agg #[.int .i64 0, .int .i64 0]).cells m).toList
theorem Bv (m:Nat) : (Bu m).length=m*2:=by
 rw [Bu,Array.length_toList,size_zeroCells]
 rfl
theorem Pm (m:Nat) : (Bu m).all (·.oneCell') =true:=by
 rw [jjn]
 intro v hv
 rw [Bu,Array.mem_toList_iff,Builtin.zeroCells] at hv
 obtain ⟨i,hi,rfl⟩ :=Array.mem_map.1 hv
 have:i % 2<2:=Nat.mod_lt _ Dc
 show(#[Value.int .i64 0,Value.int .i64 0][i % 2]!).oneCell'=true
 rcases(show i % 2=0∨i % 2=1 by omega) with e | e<;>rw [e] <;>rfl
def kc (xs:List Pn) (i:Nat) :Nat:= (QY (xs.take i)).length
theorem FT {xs:List Pn} {i:Nat} (h1:1≤i) (h:i<xs.length) (he:pt xs (i- 1) =pt xs i) :kc xs (i+1) =kc xs i:=by rw [kc,uj h1 h,if_pos he,jiG];rfl
theorem PU {xs:List Pn} {i:Nat} (h1:1≤i) (h:i<xs.length) (he:¬pt xs (i- 1) =pt xs i) :kc xs (i+1) =kc xs i+1:=by rw [kc,uj h1 h,if_neg he,jif];rfl
theorem S0 {xs:List Pn} {j i:Nat} : ((px xs j==px xs i) && (py xs j==py xs i)) =decide (pt xs i=pt xs j) :=by
 rw [jiN]
 simp [pt,Prod.ext_iff]
 constructor<;> (rintro⟨h1,h2⟩;exact⟨h1.symm,h2.symm⟩)
theorem zH {xs:List Pn} (h:∀j,1≤j→j<xs.length→¬pt xs (j- 1) =pt xs j) :QY xs=xs:=by
 have:=xn xs.length (jih _) h
 rwa [jiX] at this
theorem Bc {xs:List Pn} {rest:List Value} : (xs.flatMap Js++rest).take (xs.length*2) =xs.flatMap Js:=List.take_left' (Qg xs)
theorem NY {xs:List Pn} {rest zs:List Value} {n c:Nat} (hn:xs.length=n) (hl: ((clo xs n).flatMap Js++rest).length=c*2) (hK:kc xs n*2+zs.length≤c*2) :
  (qP ((clo xs n).flatMap Js++rest) (0+kc xs n*2) zs).take ((QY xs).length*2) = (QY xs).flatMap Js:=by
 have e: (QY xs).length=kc xs n:=by rw [kc,←hn,jiX]
 have ec:QY (xs.take n) =QY xs:=by rw [←hn,jiX]
 apply List.ext_getElem?
 intro i
 rw [List.getElem?_take,e,jiL]
 by_cases hi:i<kc xs n*2
 ·rw [if_pos hi,O6 i Om,if_neg Om,clo,jio,jil,List.getElem?_append_left (by rw [Qg];exact hi),ec]
 ·rw [if_neg hi,List.getElem?_eq_none (by rw [Qg,e];omega)]
theorem I9 (b T c n:Nat) (xs:List Pn) (rest:List Value) (w:World) (hh:w.heap[b]? =some (.cells (xs.flatMap Js++rest).toArray T (0,0))) (hc:n≤c) (hl: ((xs.flatMap Js) ++rest).length=c*2) (hn:xs.length=n) (hn2:n≤1048577) :
  Calls Tryz.prog 167 #[.slice (some ⟨b,0,none⟩) n c] w fun e w'=>e= .returned (.slice (some ⟨b,0,none⟩) (QY xs).length c)∧Wr b w w'∧∃cs:List Value,w'.heap[b]? =some (.cells cs.toArray T (0,0))∧cs.length=c*2∧cs.take ((QY xs).length*2) = (QY xs).flatMap Js:=by
 have hr2:∀(zs:List Pn),zs.length=n→∀k,k<n→∀w':World,w'.heap[b]? =some (.cells (zs.flatMap Js++rest).toArray T (0,0))→∀(q:Nat) (v:Value),[Value.int .i64 (px zs k),Value.int .i64 (py zs k)][q]? =some v→w'.cell? ⟨b,0+k*2+q,none⟩ =some v:=fun zs hz k hk w' hw q v hv=>by
  have hq:q<2:=by have:= (List.getElem?_eq_some_iff.1 hv).1;simpa using this
  rw [cell_of_row w' b _ _ T (0,0) hw,jiL]
  have hf:=xH zs k q Om hq
  rw [yg Om] at hf
  have: (zs.flatMap Js++rest).toArray[k*2+q]? = (zs.flatMap Js)[k*2+q]? :=by
   rw [List.getElem?_toArray,List.getElem?_append_left (by rw [Qg];omega)]
  rw [this,hf]
  exact hv
 refine QX (m:=61) (Tryz.func167) J J (lb J) (hh) ?_;refine S11 ?_;refine cZ (fun c1=> ?_) (fun c1=> ?_)
 ·refine S7 ?_;refine jM J (.tmp J) ?_
  intro w' hs
  exact⟨by rw [zH fun j h1 h2=>absurd h2 Om,hn],hs.over.wr,_,hs.cel (k:=0) rfl,hl,by rw [zH fun j h1 h2=>absurd h2 Om];exact Bc⟩
 ·refine S8 ?_;refine qz (X:=Nat) (fun k=>1≤k∧k≤n∧(∀j,1≤j→j<k→¬pt xs (j- 1) =pt xs j)) (fun k=>n- k) (fun k=> [(3, .int .i64 (k:Int))]) (kK [0,2]) 1 (⟨jih _,by omega,fun j h1 h2=>absurd h2 Om⟩) ⟨J,sz⟩ ?_
  intro k hk L hL1
  refine V8 ?_;refine cZ (fun c2=> ?_) (fun c2=> ?_)
  ·refine S6 ?_;refine JS 10 ?_;refine dK 0 ?_;refine dK 1 ?_;refine dK 2 ?_;refine dZ 3 J (jk J J jj J (fun w' hs=>hr2 xs hn k Om w' (hs.cel (k:=0) J))) ?_;refine dK 4 ?_;refine dK 5 ?_;refine dZ 6 J ((JJ J J J Om Om).as (congrArg _ (show((k:Int) - 1) = ((k- 1:Nat) :Int) by omega))) ?_;refine dK 7 ?_;refine dZ 8 J (jk J J jj J (fun w' hs=>hr2 xs hn (k- 1) Om w' (hs.cel (k:=0) J))) ?_;refine dK 9 ?_;refine JK Kr ?_;refine S1 ?_;refine cZ (fun c3=> ?_) (fun c3=> ?_)
   ·have hkn:k<n:=Om
    have hdup:pt xs (k- 1) =pt xs k:=of_decide_eq_true (S0▸c3)
    have hoff:zf 0 k c 2=0+k*2:=by rw [zf,if_neg Om]
    have hcs:QY (xs.take k) =xs.take k:=xn k Om hk.2.2
    have hck:kc xs k=k:=by rw [kc,hcs,jiy];omega
    have hck1:kc xs (k+1) =k:=by rw [FT hk.1 Om hdup,hck]
    have hclo:clo xs (k+1) =xs:=by rw [clo,uj hk.1 Om,if_pos hdup,jiG,hcs,jiy,jjm Om,jiw]
    refine S4 ?_;refine a9 ((Vy J J J jw Om).as ((Uq (b:=b) (o:=0) (l:=k) (h:=n) (m:=c) (s:=2) hc Om).trans (by rw [hoff]))) ?_;refine S8 ?_;refine JQ (X:=Nat) (fun j=>1≤j∧k+j≤n∧kc xs (k+j) +1≤k+j) (fun j=>n- j) (fun j=> [(3, .int .i64 (kc xs (k+j) :Int)),(5, .int .i64 (j:Int))]) (kK [0,2,10,11,12,13,16,17,18,19,20,21,22,23,24,25,26,27,28,4]) (fun j=> [.cel b T ((clo xs (k+j)).flatMap Js++rest)]) 1 (⟨jih _,by omega,by omega⟩) ⟨(by rw [hck1];rfl),sz⟩ (fun _ h=>h.upto ⟨by rw [hclo],trivial⟩) ?_
    intro j hj L hL2
    refine v9 ?_;refine r9 ?_
    have hcl: (clo xs (k+j)).length=n:= (Pz Om).trans hn
    refine S8 ?_;refine cZ (fun c4=> ?_) (fun c4=> ?_)
    ·have hjl:k+j<n:=Om
     have hrd:∀i,kc xs (k+j)≤i→i<n→∀w':World,w'.heap[b]? =some (.cells ((clo xs (k+j)).flatMap Js++rest).toArray T (0,0))→∀(q:Nat) (v:Value),[Value.int .i64 (px xs i),Value.int .i64 (py xs i)][q]? =some v→w'.cell? ⟨b,0+i*2+q,none⟩ =some v:=fun i h1 h2 w' hw q v hv=>hr2 (clo xs (k+j)) hcl i h2 w' hw q v (by rw [show px (clo xs (k+j)) i=px xs i from congrArg Prod.fst (jbn h1),show py (clo xs (k+j)) i=py xs i from congrArg Prod.snd (jbn h1)];exact hv)
     refine S6 ?_;refine JS 10 ?_;refine dK 0 ?_;refine dK 1 ?_;refine dK 2 ?_;refine dZ 3 J (jk J J jj J (fun w' hs q v hv=>by rw [show 0+k*2+j*2+q=0+ (k+j) *2+q by omega];exact hrd (k+j) Om hjl w' (hs.cel (k:=0) J) q v hv)) ?_;refine dK 4 ?_;refine dK 5 ?_;refine dZ 6 J ((JJ J J J Om Om).as (congrArg _ (show((j:Int) - 1) = ((j- 1:Nat) :Int) by omega))) ?_;refine dK 7 ?_;refine dZ 8 J (jk J J jj J (fun w' hs q v hv=>by rw [show 0+k*2+ (j- 1) *2+q=0+ (k+j- 1) *2+q by omega];exact hrd (k+j- 1) Om Om w' (hs.cel (k:=0) J) q v hv)) ?_;refine dK 9 ?_;refine JK Kr ?_;refine S1 ?_;refine cZ (fun c5=> ?_) (fun c5=> ?_)
     ·refine S7 ?_;refine a9 (jk J J jj J (fun w' hs q v hv=>by rw [show 0+k*2+j*2+q=0+ (k+j) *2+q by omega];exact hrd (k+j) Om hjl w' (hs.cel (k:=0) J) q v hv)) ?_;refine S2 ?_;refine qE (k:=0) J J J J J (by rfl) jH.szx J J (by rw [jif,Qg,hcl];simp only [jim,jiH];omega) ?_;refine S13 ?_
      exact Ji hL2 (j+1) (⟨by omega,by omega,by rw [←jjw,PU Om Om (of_decide_eq_false (S0▸c5))];omega⟩) Om ⟨vi (by rw [←jjw,PU Om Om (of_decide_eq_false (S0▸c5))];omega),vi Om,sz⟩ (fun _ h=>h.upto ⟨by rw [←jjw,jed Om Om (of_decide_eq_false (S0▸c5)) (by show kc xs (k+j) <xs.length;omega),Zk (by rw [Qg,hcl];exact(show 0+kc xs (k+j) *2+2≤n*2 by omega)),jiL];rfl,trivial⟩)
     ·refine S8 ?_
      exact Ji hL2 (j+1) (⟨by omega,by omega,by rw [←jjw,FT Om Om (of_decide_eq_true (S0▸c5))];omega⟩) Om ⟨vi (by rw [←jjw,FT Om Om (of_decide_eq_true (S0▸c5))]),vi Om,sz⟩ (fun _ h=>h.upto ⟨by rw [←jjw,jgl Om Om (of_decide_eq_true (S0▸c5))],trivial⟩)
    ·refine S9 ?_;refine a9 ((Vy J J J jw Om).as (Uq (b:=b) (o:=0) (l:=kc xs (k+j)) (h:=n) (m:=c) (s:=2) hc Om)) ?_;refine S1 ?_;refine SQ (k:=0) (zs:=Bu (n- kc xs (k+j))) J jw jH J J Om J J (Pm _) (by rw [jif,Qg,hcl,Bv,zf,if_neg Om];omega) ?_;refine N5 ?_;refine a9 ((Kl J J J jw Om).as (WT _ _ _ _ _)) ?_;refine S8 ?_;refine jM J (.tmp J) ?_
     intro w' hs
     have hkj:k+j=n:=by omega
     have hK: (QY xs).length=kc xs n:=by rw [kc,←hn,jiX]
     have hlc: ((clo xs n).flatMap Js++rest).length=c*2:=by rw [←hl,jif,jif,Qg,Qg,Pz Om]
     have hoK:zf 0 (kc xs n) c 2=0+kc xs n*2:=by rw [zf,if_neg (by rw [←hkj];omega)]
     rw [hkj,hoK] at hs
     rw [hkj] at hj
     exact⟨by rw [hK,hkj],hs.over.wr,_,hs.cel (k:=0) rfl,by rw [kD];exact hlc,NY hn hlc (by rw [Bv];omega)⟩
   ·have hne:¬pt xs (k- 1) =pt xs k:=of_decide_eq_false (S0▸c3)
    refine S8 ?_
    exact qi hL1 (k+1) (⟨by omega,by omega,fun j h1 h2=> (jjk j k).elim (fun h3=>hk.2.2 j h1 h3) (fun h3=> (show k=j by omega)▸hne)⟩) Om ⟨vi Om,sz⟩ (u9 J)
  ·refine S11 ?_;refine jM J (.tmp J) ?_
   intro w' hs
   have hkn:k=n:=by omega
   have hw:=zH (xs:=xs) fun j h1 h2=>hk.2.2 j h1 Om
   exact⟨by rw [hw,hn],hs.over.wr,_,hs.cel (k:=0) rfl,hl,by rw [hw];exact Bc⟩
theorem Rb {N c n:Nat} {A:Option Addr} {xs:List Pn} {w:World} (h:w.ownsRow N 56 2 (.slice A n c) n (xs.flatMap Js)) (hn:xs.length=n) (h0:0<n) (hn2:n≤1048577) :
  Calls Tryz.prog 167 #[.slice A n c] w fun e w'=>e= .returned (.slice A (QY xs).length c)∧Wrs (JY N 56 2 n (xs.flatMap Js) (A,c)).F w w'∧(JY N 56 2 (QY xs).length ((QY xs).flatMap Js) (A,c)).P w':=by
 rcases h.2 with⟨_,e⟩ |⟨g,cap,cur,e,hb,hg,hcap,hmax,hsz,htk⟩
 ·omega
 ·injection e with e1 e2 e3
  subst e1 e3
  have hcur:cur.toList=xs.flatMap Js++cur.toList.drop (n*2) :=by rw [←htk,jiw]
  have hg':w.heap[g]? =some (.cells (xs.flatMap Js++cur.toList.drop (n*2)).toArray 56 (0,0)) :=by rw [←hcur,jjy];exact hg
  have hle:=GG xs
  refine(I9 g _ c n xs (cur.toList.drop (n*2)) w hg' hcap (by rw [←hcur];simpa using hsz) hn hn2).mono ?_
  rintro e w' ⟨rfl,hw,cs,hh,hcl,htk'⟩
  refine⟨rfl,⟨hw.os,hw.tape,hw.output,hw.size,fun q hq hne=>hw.block q hq (fun e=>hne (by subst e;rfl))⟩,?_⟩
  exact⟨Qg _, .inr ⟨g,c,_,rfl,hb,hh,by omega,hmax,by simpa using hcl,by rw [jjj];exact htk'⟩⟩
theorem xG (ls:List Leg) (i:Nat) : (uX ls i 0).flatMap Js= (U0 ls i).flatMap Js++ [.int .i64 (lg ls i).ax, .int .i64 (lg ls i).ay, .int .i64 (lg ls i).bx, .int .i64 (lg ls i).b_y]∧(uX ls i 0).length= (U0 ls i).length+2:=by
 unfold uX cz
 rw [jiG,jio,jif]
 exact⟨rfl,rfl⟩
theorem Cq {ls:List Leg} {i k:Nat} (h:qU (lA (lg ls i)) (lB (lg ls i)) (lA (lg ls k)) (lB (lg ls k)) =2) :uX ls i (k+1) =uX ls i k++ [GH (lA (lg ls i)) (lB (lg ls i)) (lA (lg ls k)) (lB (lg ls k))] :=by
 rw [uX,cz,if_pos h,←jil]
 rfl
theorem jcP {ls:List Leg} {i k:Nat} (h:¬qU (lA (lg ls i)) (lB (lg ls i)) (lA (lg ls k)) (lB (lg ls k)) =2) :uX ls i (k+1) =uX ls i k:=by
 rw [uX,cz,if_neg h,jiG]
 rfl
theorem jfM {ls:List Leg} (hok:∀l∈ls,qN l) {i:Nat} (hi:i<ls.length) :∀k,k≤i→∀p∈cz ls i k,ZQ p
 | 0,_,p,hp=>by simp [cz] at hp
 | k+1,hk,p,hp=>by
  unfold cz at hp
  rcases jiv.1 hp with h | h
  ·exact jfM hok hi k Om p h
  ·split at h
   ·rename_i hm
    rw [jik.1 h]
    exact jgm (VG (QS hok hi)) (wq (QS hok hi)) (VG (QS hok Om)) (wq (QS hok Om)) (jch hm).2
   ·simp at h
theorem jbT {ls:List Leg} (hok:∀l∈ls,qN l) :∀i,i≤ls.length→∀p∈U0 ls i,ZQ p
 | 0,_,p,hp=>by simp [U0] at hp
 | i+1,hi,p,hp=>by
  unfold U0 at hp
  rcases jiv.1 hp with h | h
  ·rcases jiv.1 h with h | h
   ·exact jbT hok i Om p h
   ·simp only [jir,ji3,or_false] at h
    rcases h with rfl | rfl
    ·exact(VG (QS hok Om)).wide
    ·exact(wq (QS hok Om)).wide
  ·exact jfM hok Om i (jih _) p h
theorem jez {ls:List Leg} {i:Nat} (h:0<i) :0< (U0 ls i).length:=by
 obtain ⟨j,rfl⟩ :∃j,i=j+1:=⟨i- 1,by omega⟩
 unfold U0
 simp
 omega
theorem jdr {B g c n:Nat} {xs:List Pn} {w:World} (h: (JY B 56 2 n (xs.flatMap Js) (some ⟨g,0,none⟩,c)).P w) (hl:xs.length=n) (hx:∀p∈xs,ZQ p) (hn:n≤1048576) (h0:0<n) :
  Calls Tryz.prog 165 #[.slice (some ⟨g,0,none⟩) n c, .func (.func 166) #[] #[]] w fun e w'=>∃x: {ys:List Pn//ys.Perm xs∧Ris ys},e= .returned (.tuple #[])∧Wrs (JY B 56 2 n (xs.flatMap Js) (some ⟨g,0,none⟩,c)).F w w'∧(JY 0 56 2 n (x.1.flatMap Js) (some ⟨g,0,none⟩,c)).P w'∧(∀b,(JY 0 56 2 n (x.1.flatMap Js) (some ⟨g,0,none⟩,c)).F b→(JY B 56 2 n (xs.flatMap Js) (some ⟨g,0,none⟩,c)).F b∨w.heap.size≤b)∧(JY 0 56 2 n (x.1.flatMap Js) (some ⟨g,0,none⟩,c)).B=0:=by
 refine(jds h hl hx hn h0).mono ?_
 rintro e w' ⟨rfl,ys,hp,hr,hw,ho⟩
 exact⟨⟨ys,hp,hr⟩,rfl,hw.mono fun b hb=>by subst hb;rfl,ho,fun b hb=> .inl hb,rfl⟩
theorem BK (A:Option Addr) (n c:Nat) (ls:List Leg) (w:World) (h:Legs w A n ls) (hok:∀l∈ls,qN l) (hn:n≤400) (hc:n≤c) (h0:0<n) :
  Calls Tryz.prog 107 #[.slice A n c] w fun e w'=>∃v,e= .returned v∧w'.ownsRow w.heap.size 56 2 v (kH (U0 ls n)).length ((kH (U0 ls n)).flatMap Js)∧Over w w':=by
 have hl:=h.1
 refine Jh (m:=64) (Tryz.func107) J J (lb J) ?_;refine S7 ?_;refine Q7 (T:=56) (s:=2) ?_;refine N9 ?_;refine JQ (X:=Nat×Option Addr×Nat) (fun x=>x.1≤n) (fun x=>n- x.1) (fun x=> [(3, .slice x.2.1 (U0 ls x.1).length x.2.2),(12, .int .i64 (x.1:Int))]) (kK [0,2,10,11]) (fun x=> [JY (Bs.N ⟨w,[]⟩) 56 2 (U0 ls x.1).length ((U0 ls x.1).flatMap Js) x.2]) (0,none,0) (jii _) ⟨J,sz⟩ (fun _ h=>h) ?_
 intro⟨i,rA,rc⟩ hi L hL1
 refine v9 ?_;refine r9 ?_
 have hi:i≤n:=hi
 refine S5 ?_;refine cZ (fun c1=> ?_) (fun c1=> ?_)
 ·have hlt:i<n:=Om
  obtain ⟨eb,eo,rfl,_⟩ :=h.2 Om
  have hhl:=Zz ls i
  have hh2:i* (i+2)≤400*402:=jp0 Om Om
  refine S8 ?_;refine a9 (jk J J qG J (ya (fun w' hs=>h.over hs.fin) hlt)) ?_;refine S1 ?_;refine aL (fun b1=> ?_);refine N12 ?_;refine Jx J J (VO J J) J (lb J) (fun b2=> ?_);refine N1 ?_;refine JV (k:=0) J jw jH Dc J Dc J J J (fun w' hs=>Qb hs (k:=2) J J) (by simp [Value.oneCell']) (by unfold maxLen;omega) Om (jih _) (fun r1=> ?_);refine N6 ?_;refine a9 ((Kl J J J Jf Om).as (WT _ _ _ _ _)) ?_;refine S4 ?_;refine JQ (X:=Nat×Option Addr×Nat) (fun x=>x.1≤i) (fun x=>i- x.1) (fun x=> [(3, .slice x.2.1 (uX ls i x.1).length x.2.2),(28, .int .i64 (x.1:Int))]) (kK [0,2,10,11,12,13,14,15,16,5,4,17,18,19,20,21,22,23,24,25,26,27]) (fun x=> [JY (Bs.N ⟨w,[]⟩) 56 2 (uX ls i x.1).length ((uX ls i x.1).flatMap Js) x.2, .cel b1 131 [.int .i64 (lg ls i).ax, .int .i64 (lg ls i).ay, .int .i64 (lg ls i).bx, .int .i64 (lg ls i).b_y], .cel b2 56 [.int .i64 (lg ls i).ax, .int .i64 (lg ls i).ay, .int .i64 (lg ls i).bx, .int .i64 (lg ls i).b_y]]) (0,r1) (jii _) ⟨(by rw [(xG ls i).2];rfl),sz⟩ (fun _ h=>h.upto ⟨by rw [(xG ls i).1,(xG ls i).2],sz⟩) ?_
  intro⟨k,qA,qc⟩ hk L hL2
  refine v9 ?_;refine r9 ?_
  have hk:k≤i:=hk
  refine S5 ?_;refine cZ (fun c2=> ?_) (fun c2=> ?_)
  ·have hkt:k<i:=Om
   have hpl:=Cp (ls:=ls) (k:=k) (show i<400 by omega) hk
   refine S7 ?_;refine a9 (jk J J qG J (ya (fun w' hs=>h.over hs.fin) (show k<n by omega))) ?_;refine S1 ?_;refine aL (fun b3=> ?_);refine N13 ?_;refine a9 (jT LS J J (fun w _=>SH (lA (lg ls i)) (lB (lg ls i)) (lA (lg ls k)) (lB (lg ls k)) w (VG (QS hok Om)) (wq (QS hok Om)) (VG (QS hok Om)) (wq (QS hok Om)))) ?_;refine S4 ?_;refine aL (fun b4=> ?_);refine N9 ?_;refine cZ (fun c3=> ?_) (fun c3=> ?_)
   ·have hm2:qU (lA (lg ls i)) (lB (lg ls i)) (lA (lg ls k)) (lB (lg ls k)) =2:=by rw [←(GX (VG (QS hok Om)) (wq (QS hok Om)) (VG (QS hok Om)) (wq (QS hok Om))).1];exact c3
    refine S10 ?_;refine a9 (jT G1 J J (fun w _=>TT (lA (lg ls i)) (lB (lg ls i)) (lA (lg ls k)) (lB (lg ls k)) w (VG (QS hok Om)) (wq (QS hok Om)) (VG (QS hok Om)) (wq (QS hok Om)) (jch hm2).2)) ?_;refine S1 ?_;refine Jx J J (qM J) J (lb J) (fun b5=> ?_);refine N1 ?_;refine JV (k:=0) J jw jH Dc J Dc J J J (fun w' hs=>Qb hs (k:=5) J J) (by simp [Value.oneCell']) (by unfold maxLen;omega) Om (jih _) (fun r2=> ?_);refine N8 ?_
    exact Ji hL2 ((k+1,r2)) ((show k+1≤i by omega)) (by simp only;omega) ⟨(by rw [Cq hm2,jif];rfl),vi Om,sz⟩ (fun _ h=>h.upto ⟨by rw [Cq hm2,jif,jio];rfl,sz⟩)
   ·have hm2:¬qU (lA (lg ls i)) (lB (lg ls i)) (lA (lg ls k)) (lB (lg ls k)) =2:=by rw [←(GX (VG (QS hok Om)) (wq (QS hok Om)) (VG (QS hok Om)) (wq (QS hok Om))).1];exact c3
    refine S7 ?_
    exact Ji hL2 ((k+1,qA,qc)) ((show k+1≤i by omega)) (by simp only;omega) ⟨(by rw [jcP hm2];rfl),vi Om,sz⟩ (fun _ h=>h.upto ⟨by rw [jcP hm2],sz⟩)
  ·refine S10 ?_
   exact Ji hL1 ((i+1,qA,qc)) ((show i+1≤n by omega)) (by simp only;omega) ⟨(by rw [show k=i by omega];rfl),vi Om,sz⟩ (fun _ h=>h.upto ⟨by rw [show k=i by omega];rfl,trivial⟩)
 ·have hin:i=n:=by omega
  subst hin
  have hpos:=jez (ls:=ls) h0
  have hbd:=jbT hok i Om
  have hhl:=Zz ls i
  have hh2:i* (i+2)≤400*402:=jp0 Om Om
  refine S6 ?_;refine ky (fun w hs=>VJ (k:=0) J hs hpos) ?_
  rintro⟨eg,rfl⟩
  refine S3 ?_;refine qO (k:=0) (X:= {ys:List Pn//ys.Perm (U0 ls i)∧Ris ys}) (v:=fun _=> .tuple #[]) (r':=fun x=>JY 0 56 2 _ (x.1.flatMap Js) (some ⟨eg,0,none⟩,rc)) Kh J J J Dc J (fun w1 hs=>jdr (hs.all 0 _ J).1 J hbd Om hpos) ?_
  rintro⟨ys,hperm,hris⟩
  refine N5 ?_;refine z7 (k:=0) (r':=JY 0 56 2 (QY ys).length ((QY ys).flatMap Js) (some ⟨eg,0,none⟩,rc)) Kz J J J Dc J (fun w1 hs=>Rb (hs.all 0 _ J).1 hperm.length_eq hpos Om) (fun _ h=>h) J ?_;refine N3 ?_;refine jM J (.tmp J) ?_
  intro w' hs
  have hr:=hs.all 0 _ rfl
  have he:=jbs hris (fun q=>hperm.mem_iff)
  exact⟨_,rfl,by rw [←he];exact vv hr.1 (fun b hb=> (hr.2.1 b hb).elim id (fun h=>by cases h)),hs.fin⟩
theorem jeA (v:Value) (w:World) :Calls Tryz.prog 251 #[.slice none 0 0, .int .i64 0, .int .i64 0,v] w fun e w'=>e= .returned (.tuple #[])∧Over w w':=by
 refine Jh (m:=53) (Tryz.func251) J J (lb J) ?_;refine S7 ?_;refine qz (X:=Unit) (fun u=>True) (fun u=>0) (fun u=> [(8, .int .i64 1)]) (kK [0,1,2,3]) () (trivial) ⟨J,sz⟩ ?_
 intro u hu L hL1
 refine V7 ?_;refine cZ (fun c1=> ?_) (fun c1=> ?_)
 ·omega
 ·refine S4 ?_;refine kw J ?_
  intro w' hs
  exact⟨rfl,hs.fin⟩
theorem jfa (l:Int) (v:Value) (w:World) :Calls Tryz.prog 209 #[.slice none 0 0, .int .i64 0, .int .i64 0, .int .i64 l,v] w fun e w'=>e= .returned (.tuple #[])∧Over w w':=by
 refine Jh (m:=148) (Tryz.func209) J J (lb J) ?_;refine S9 ?_;refine qz (X:=Unit) (fun u=>True) (fun u=>0) (fun u=> []) (kK [0,1,2,3,4,10,11]) () (trivial) sz ?_
 intro u hu L hL1
 refine V14 ?_;refine cZ (fun c1=> ?_) (fun c1=> ?_)
 ·refine S6 ?_;refine a9 (jT VV J J (fun w h=>jeA v w)) ?_;refine S6 ?_;refine Zr J ?_
  intro w' hs
  exact⟨rfl,hs.fin⟩
 ·omega
theorem jeH (w:World) :Calls Tryz.prog 210 #[.int .u64 0] w fun e w'=> (∃l:Int,e= .returned (.int .i64 l))∧w=w':=
 (Any.bits_Len (SlLaysF0.n15.bits (P:=Tryz.prog) (ρ:=YL) {jdp with}) 0 w Om Om).mono fun _ _ ⟨he,hw⟩ =>⟨⟨_,he⟩,hw.symm⟩
theorem jdq (w:World) :Calls Tryz.prog 165 #[.slice none 0 0, .func (.func 166) #[] #[]] w fun e w'=>e= .returned (.tuple #[])∧Over w w':=by
 go_enter Tryz.func165,Tryz.ntmps165
 go_wp2_with fail
 go_at_call 210
 refine(jeH _).mono ?_
 rintro e w1 ⟨⟨l,rfl⟩,rfl⟩
 go_wp2_with fail
 go_at_call 209
 refine(jfa _ _ _).mono ?_
 rintro e w1 ⟨rfl,hb⟩
 go_wp2_with fail
 go_end0
 exact⟨rfl,hb⟩
theorem Ra (w:World) :Calls Tryz.prog 167 #[.slice none 0 0] w fun e w'=>e= .returned (.slice none 0 0)∧Over w w':=by
 refine Jh (m:=61) (Tryz.func167) J J (lb J) ?_;refine S11 ?_;refine cZ (fun c1=> ?_) (fun c1=> ?_)
 ·refine S7 ?_;refine jM J (.tmp J) ?_
  intro w' hs
  exact⟨rfl,hs.fin⟩
 ·omega
theorem BJ (A:Option Addr) (c:Nat) (w:World) :
  Calls Tryz.prog 107 #[.slice A 0 c] w fun e w'=>e= .returned (.slice none 0 0)∧Over w w':=by
 refine Jh (m:=64) (Tryz.func107) J J (lb J) ?_;refine S16 ?_;refine qz (X:=Unit) (fun u=>True) (fun u=>0) (fun u=> [(3, .slice none 0 0),(12, .int .i64 0)]) (kK [0,2,10,11]) () (trivial) ⟨J,sz⟩ ?_
 intro u hu L hL1
 refine V5 ?_;refine cZ (fun c1=> ?_) (fun c1=> ?_)
 ·omega
 ·refine S8 ?_;refine a9 (jT Kh J J (fun w h=>jdq w)) ?_;refine S4 ?_;refine a9 (jT Kz J J (fun w h=>Ra w)) ?_;refine S3 ?_;refine jM J (.tmp J) ?_
  intro w' hs
  exact⟨rfl,hs.fin⟩
theorem BI (A:Option Addr) (n c:Nat) (ls:List Leg) (w:World) (h:Legs w A n ls) (hok:∀l∈ls,qN l) (hn:n≤400) (hc:n≤c) :
  Calls Tryz.prog 107 #[.slice A n c] w fun e w'=>∃v,e= .returned v∧w'.ownsRow w.heap.size 56 2 v (kH (U0 ls n)).length ((kH (U0 ls n)).flatMap Js)∧Over w w':=by
 by_cases h0:0<n
 ·exact BK A n c ls w h hok hn hc h0
 ·obtain rfl:n=0:=by omega
  refine(BJ A c w).mono ?_
  rintro e w' ⟨rfl,hO⟩
  exact⟨_,rfl,⟨rfl, .inl ⟨rfl,rfl⟩⟩,hO⟩
theorem xK {rs:List jV} (h:JE rs=true) : (jE rs).length≤400:=by
 simp only [JE,jig,decide_eq_true_eq] at h
 exact h.2
end Go.Proofs.YtpncbbcmoiiipaaGreat
