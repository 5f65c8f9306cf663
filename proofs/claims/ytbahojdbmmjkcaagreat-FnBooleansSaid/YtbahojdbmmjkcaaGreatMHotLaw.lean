import Derived.Test.YtbahojdbmmjkcaaGreatMRounds
import Derived.Test.YtbahojdbmmjkcaaGreatMTopo2
set_option linter.unusedVariables false
set_option linter.unusedSimpArgs false
namespace Go.Proofs.YtbahojdbmmjkcaaGreat
open Go Go.RowKit
variable {A:Option Addr} {c i n:Nat} {cur:Array Value} {ls:List Leg} {os:Array Obj} {rest:List Value} {w:World} {xs:List Pn}
set_option maxRecDepth 100000
set_option maxHeartbeats 4000000
open Go Go.Shelf Go.RowKit
open Go Go.Shelf
open Go Go.Shelf Go.RowKit Go.Lib Go.Sort
structure Pw where
 val:Pn
 ok:xe val
instance:Inhabited Pw:=⟨⟨(0,0),⟨⟨by decide,by decide⟩,by decide,by decide⟩⟩⟩
def Me (x:Pw) :List Value:=Jr x.val
theorem CU (x y:Pw) :ltOf (fun x y:Pw=>w6 x.val y.val) x y=decide (vG x.val y.val) :=by
 unfold ltOf
 rw [jjT,decide_eq_true_iff,decide_eq_true_iff]
 exact Oq _ _
theorem jjh:SWO (ltOf fun x y:Pw=>w6 x.val y.val) where
 irrefl x:=by rw [CU];exact decide_eq_false (kD _)
 trans x y z h1 h2:=by rw [CU,decide_eq_true_iff] at*;exact VL h1 h2
 ntrans x y z h1 h2:=by
  rw [CU] at*
  simp only [decide_eq_false_iff_not] at*
  unfold vG at*
  omega
theorem jca (blk off size:Nat) (w:World) :CmpLays Tryz.prog 112 #[] Me 2 (fun x y:Pw=>w6 x.val y.val) blk off size w:=
 fun _ _ _ _ x y=>yj x.val y.val x.ok y.ok _
theorem jiU (w:World) : (isAgg (Y6.t 24)).run Tryz.prog w= .ok true w:=Tryz.isAgg28 w
theorem jjf (w:World) : (Go.sizeOf (Y6.t 24)).run Tryz.prog w= .ok 2 w:=Tryz.sizeOf28 w
def zf (xs:List Pn) (hx:∀p∈xs,xe p) :List Pw:=xs.attach.map fun p=>Pw.mk p.1 (hx p.1 p.2)
theorem P6 (xs:List Pn) (hx:∀p∈xs,xe p) : (zf xs hx).length=xs.length:=by simp [zf]
theorem P7 (xs:List Pn) (hx:∀p∈xs,xe p) : (zf xs hx).map (·.val) =xs:=by
 rw [zf,jk6]
 exact List.attach_map_subtype_val xs
theorem SI (d:Array Pw) (j:Nat) (h:j<d.size*2) : ((d.toList.map (·.val)).flatMap Jr)[j]? =some (flatK Me 2 d)[j]! :=by
 rw [get_flatK _ _ _ _ h,TJ _ _ (by simpa using h)]
 have hj:j/2<d.size:=by omega
 rw [getElem!_pos d (j/2) hj]
 simp only [jkx,Array.getElem_toList]
 have h2:j % 2< (Me d[j/2]).length:=by simp [Me,Jr];omega
 rw [getElem!_pos (Me d[j/2]) (j % 2) h2]
 exact List.getElem?_eq_getElem h2
theorem FN {g m T:Nat} {d':Array Pw} (hg:w.heap[g]? =some (.cells cur T (0,0))) (b:Nat) (hb:b<w.heap.size) :
  (sortWorldK Me 2 w g 0 m d' os).heap[b]? =if g=b then some (.cells (Sort.putCells id 0 (flatK Me 2 d') cur) T (0,0)) else w.heap[b]? :=by
 show((w.heap.modify g (Sort.onCells (Sort.putCells id 0 (flatK Me 2 d')))) ++os)[b]? =_
 rw [Array.getElem?_append_left (by simpa using hb),Array.getElem?_modify]
 split
 ·rename_i e
  subst e
  rw [hg]
  rfl
 ·rfl
theorem jed {B g:Nat} (h:w.ownsRow B 28 2 (.slice (some ⟨g,0,none⟩) n c) n (xs.flatMap Jr)) (hl:xs.length=n) (hx:∀p∈xs,xe p) (hn:n≤1048576) (h0:0<n) :
  Calls Tryz.prog 111 #[.slice (some ⟨g,0,none⟩) n c, .func (.func 112) #[] #[]] w fun e w'=>e= .returned (.tuple #[])∧∃ys,ys.Perm xs∧Ris ys∧Wrs (· =g) w w'∧w'.ownsRow 0 28 2 (.slice (some ⟨g,0,none⟩) n c) n (ys.flatMap Jr) :=by
 rcases h.2 with⟨_,e⟩ |⟨g',cap,cur,e,hb,hg,hcap,hmax,hsz,htk⟩
 ·omega
 ·injection e with e1 e2 e3
  injection e1 with e1
  injection e1 with e1
  subst e1 e3
  have hds: (zf xs hx).toArray.size=n:=by simp [P6,hl]
  have hval: ((zf xs hx).toArray.toList.map (·.val)) =xs:=by rw [jkr];exact P7 xs hx
  have hH:HoldsK Me 2 w g 0 (zf xs hx).toArray:=by
   intro j hj
   rw [size_flatK,hds] at hj
   refine⟨?_,?_⟩
   ·rw [jjP,cell_of_row w g j cur _ (0,0) hg]
    have:=SI (zf xs hx).toArray j (by rw [hds];exact hj)
    rw [hval,←htk,List.getElem?_take,if_pos hj] at this
    simpa using this
   ·unfold World.frozen?
    simp only [hg]
    simp
  have eg:∀args w,(callFunc 112 args).run Tryz.prog w= .ok (.enter 112 args) w:=enters_of Tryz.func112 Kr rfl
  have hcon:=AnyQ.slices_SortFunc jea 2 jiU jjf Me (fun _=>rfl) (fun x v hv=>by simp [Me,Jr] at hv;rcases hv with rfl | rfl<;>rfl) (fun x y:Pw=>w6 x.val y.val) jjh 112 #[] g 0 c (zf xs hx).toArray w eg (jca g 0 _ w) hH (JT hg) Om
  rw [hds] at hcon
  refine hcon.mono ?_
  rintro e w' ⟨rfl,d',m,os,hp,hs,rfl⟩
  have hd':d'.size=n:=hp.1.trans hds
  refine⟨J,d'.toList.map (·.val),?_,?_,?_,?_⟩
  ·have:=hp.2.2.map (·.val)
   rw [←hd',Array.extract_size,hd',←hds,Array.extract_size,hval] at this
   exact this
  ·refine jkt.2 fun i j hi hj hij=> ?_
   simp only [jjB,Array.length_toList] at hi hj
   have:=hs i j (jjo _) hij Om
   rw [CU,decide_eq_false_iff_not,getElem!_pos d' j hj,getElem!_pos d' i hi] at this
   simpa using this
  ·refine⟨J,J,J,by exact size_sortWorldK_c _ _ _ _ _ _ _ _,fun b hb hne=> ?_⟩
   rw [FN hg b hb,if_neg (fun e=>hne e.symm)]
  ·refine⟨by rw [Qh];simp [hd'], .inr ⟨g,c,Sort.putCells id 0 (flatK Me 2 d') cur,J,jjo _,?_,hcap,hmax,by simp [Sort.putCells,hsz],?_⟩⟩
   ·rw [FN hg g (JT hg),if_pos rfl]
   ·apply List.ext_getElem?
    intro j
    rw [List.getElem?_take]
    by_cases hj:j<n*2
    ·rw [if_pos hj,SI d' j (by rw [hd'];exact hj),Array.getElem?_toList]
     have hjc:j<cur.size:=by omega
     simp only [Sort.putCells,Array.getElem?_mapIdx,Array.getElem?_eq_getElem hjc,jla,size_flatK,hd']
     rw [if_pos ⟨jjo _,by omega⟩,Nat.sub_zero]
     rfl
    ·rw [if_neg hj,List.getElem?_eq_none (by rw [Qh];simp [hd'];omega)]
theorem xP:∀(l:List Pn) (q p:Pn),QY (l++ [q] ++ [p]) =QY (l++ [q]) ++ (if q=p then [] else [p])
 | [],q,p=>by
  simp only [jj2,List.singleton_append,QY]
  split
  ·rename_i h;rw [h]
  ·rfl
 | [a],q,p=>by
  have h:=xP [] q p
  simp only [jj2,List.singleton_append,jjN] at h⊢
  rw [QY,h]
  conv=>rhs;rw [QY]
  split<;>rfl
 | a::b::l,q,p=>by
  have h:=xP (b::l) q p
  simp only [jjN] at h⊢
  rw [QY,h]
  conv=>rhs;rw [QY]
  split<;>rfl
theorem uD (h1:1≤i) (h:i<xs.length) :QY (xs.take (i+1)) =QY (xs.take i) ++ (if pt xs (i- 1) =pt xs i then [] else [pt xs i]) :=by
 obtain ⟨j,rfl⟩ :∃j,i=j+1:=⟨i- 1,by omega⟩
 rw [jjt h,jjt (show j<xs.length by omega),xP,Kg h,Kg (show j<xs.length by omega)]
 rfl
theorem He:∀l:List Pn,(QY l).length≤l.length
 | [] =>jjm _
 | [_] =>jjm _
 | p::q::l=>by
  have:=He (q::l)
  unfold QY
  simp only [jjr] at*
  split
  ·omega
  ·rw [jjr];omega
theorem xO {xs:List Pn} :∀i,i≤xs.length→(∀j,1≤j→j<i→¬pt xs (j- 1) =pt xs j)→QY (xs.take i) =xs.take i
 | 0,_,_=>rfl
 | 1,h,_=>by
  match xs,h with
  | p::l,_=>rfl
 | i+2,h,hj=>by
  rw [uD Om Om,xO (i+1) Om (fun j h1 h2=>hj j h1 Om),if_neg (hj (i+1) Om Om),←Kg Om]
  exact(jjt Om).symm
def clo (xs:List Pn) (i:Nat) :List Pn:=QY (xs.take i) ++xs.drop (QY (xs.take i)).length
theorem Cn (h:i≤xs.length) : (clo xs i).length=xs.length:=by
 have:=He (xs.take i)
 rw [jjC] at this
 rw [clo,jjk,jjO]
 omega
theorem jb7 {j:Nat} (h: (QY (xs.take i)).length≤j) :pt (clo xs i) j=pt xs j:=by
 simp only [pt,px,py,List.getD,clo,List.getElem?_append_right h,List.getElem?_drop]
 rw [show(QY (xs.take i)).length+ (j- (QY (xs.take i)).length) =j by omega]
theorem jg7 (h1:1≤i) (h:i<xs.length) (he:pt xs (i- 1) =pt xs i) :clo xs (i+1) =clo xs i:=by rw [clo,uD h1 h,if_pos he,jjL];rfl
theorem jeZ (h1:1≤i) (h:i<xs.length) (he:¬pt xs (i- 1) =pt xs i) (hk: (QY (xs.take i)).length<xs.length) : (clo xs (i+1)).flatMap Jr=qP ((clo xs i).flatMap Jr) ((QY (xs.take i)).length*2) (Jr (pt xs i)) :=by
 rw [clo,clo,uD h1 h,if_neg he]
 generalize QY (xs.take i) =C at*
 rw [jj5 hk,jjk,jk0,jjv,jjv,jjv,jjH]
 have hC:C.length*2= (C.flatMap Jr).length:= (Qh C).symm
 rw [hC]
 simp only [Jr,qP,jjH,List.flatMap_nil,jjL,jjN,jj2]
 rw [jkK _ _ (jjm _),Nat.sub_self,List.set_cons_zero,jkK _ _ Om,show(C.flatMap Jr).length+1- (C.flatMap Jr).length=1 by omega]
 simp [Jr]
def B9 (m:Nat) :List Value:= (Builtin.zeroCells (Value.agg #[.int .i64 0, .int .i64 0]).cells m).toList
theorem Da (m:Nat) : (B9 m).length=m*2:=by
 rw [B9,Array.length_toList,size_zeroCells]
 rfl
theorem P9 (m:Nat) : (B9 m).all (·.oneCell') =true:=by
 rw [jkj]
 intro v hv
 rw [B9,Array.mem_toList_iff,Builtin.zeroCells] at hv
 obtain ⟨i,hi,rfl⟩ :=Array.mem_map.1 hv
 have:i % 2<2:=jkR _ Dc
 show(#[Value.int .i64 0,Value.int .i64 0][i % 2]!).oneCell'=true
 rcases(show i % 2=0∨i % 2=1 by omega) with e | e<;>rw [e] <;>rfl
def kc (xs:List Pn) (i:Nat) :Nat:= (QY (xs.take i)).length
theorem Iw (h1:1≤i) (h:i<xs.length) (he:pt xs (i- 1) =pt xs i) :kc xs (i+1) =kc xs i:=by rw [kc,uD h1 h,if_pos he,jjL];rfl
theorem CK (h1:1≤i) (h:i<xs.length) (he:¬pt xs (i- 1) =pt xs i) :kc xs (i+1) =kc xs i+1:=by rw [kc,uD h1 h,if_neg he,jjk];rfl
theorem TK {j:Nat} : ((px xs j==px xs i) && (py xs j==py xs i)) =decide (pt xs i=pt xs j) :=by
 rw [jjT]
 simp [pt,Prod.ext_iff]
 constructor<;> (rintro⟨h1,h2⟩;exact⟨h1.symm,h2.symm⟩)
theorem z6 (h:∀j,1≤j→j<xs.length→¬pt xs (j- 1) =pt xs j) :QY xs=xs:=by
 have:=xO xs.length (jjm _) h
 rwa [jj3] at this
theorem BQ : (xs.flatMap Jr++rest).take (xs.length*2) =xs.flatMap Jr:=List.take_left' (Qh xs)
theorem PS {zs:List Value} (hn:xs.length=n) (hl: ((clo xs n).flatMap Jr++rest).length=c*2) (hK:kc xs n*2+zs.length≤c*2) :
  (qP ((clo xs n).flatMap Jr++rest) (0+kc xs n*2) zs).take ((QY xs).length*2) = (QY xs).flatMap Jr:=by
 have e: (QY xs).length=kc xs n:=by rw [kc,←hn,jj3]
 have ec:QY (xs.take n) =QY xs:=by rw [←hn,jj3]
 apply List.ext_getElem?
 intro i
 rw [List.getElem?_take,e,jjP]
 by_cases hi:i<kc xs n*2
 ·rw [if_pos hi,BJ i Om,if_neg Om,clo,jjv,jjq,List.getElem?_append_left (by rw [Qh];exact hi),ec]
 ·rw [if_neg hi,List.getElem?_eq_none (by rw [Qh,e];omega)]
theorem RL (b T c n:Nat) (xs:List Pn) (rest:List Value) (w:World) (hh:w.heap[b]? =some (.cells (xs.flatMap Jr++rest).toArray T (0,0))) (hc:n≤c) (hl: ((xs.flatMap Jr) ++rest).length=c*2) (hn:xs.length=n) (hn2:n≤1048577) :
  Calls Tryz.prog 113 #[.slice (some ⟨b,0,none⟩) n c] w fun e w'=>e= .returned (.slice (some ⟨b,0,none⟩) (QY xs).length c)∧Wr b w w'∧∃cs:List Value,w'.heap[b]? =some (.cells cs.toArray T (0,0))∧cs.length=c*2∧cs.take ((QY xs).length*2) = (QY xs).flatMap Jr:=by
 have hr2:∀(zs:List Pn),zs.length=n→∀k,k<n→∀w':World,w'.heap[b]? =some (.cells (zs.flatMap Jr++rest).toArray T (0,0))→∀(q:Nat) (v:Value),[Value.int .i64 (px zs k),Value.int .i64 (py zs k)][q]? =some v→w'.cell? ⟨b,0+k*2+q,none⟩ =some v:=fun zs hz k hk w' hw q v hv=>by
  have hq:q<2:=by have:= (List.getElem?_eq_some_iff.1 hv).1;simpa using this
  rw [cell_of_row w' b _ _ T (0,0) hw,jjP]
  have hf:=Xh zs k q Om hq
  rw [yU Om] at hf
  have: (zs.flatMap Jr++rest).toArray[k*2+q]? = (zs.flatMap Jr)[k*2+q]? :=by
   rw [List.getElem?_toArray,List.getElem?_append_left (by rw [Qh];omega)]
  rw [this,hf]
  exact hv
 refine QX (m:=61) (Tryz.func113) J J (lb J) (hh) ?_;refine S11 ?_;refine cZ (fun c1=> ?_) (fun c1=> ?_)
 ·refine S7 ?_;refine jK J (.tmp J) ?_
  intro w' hs
  exact⟨by rw [z6 fun j h1 h2=>absurd h2 Om,hn],hs.over.wr,_,hs.cel (k:=0) rfl,hl,by rw [z6 fun j h1 h2=>absurd h2 Om];exact BQ⟩
 ·refine S8 ?_;refine qv (X:=Nat) (fun k=>1≤k∧k≤n∧(∀j,1≤j→j<k→¬pt xs (j- 1) =pt xs j)) (fun k=>n- k) (fun k=> [(3, .int .i64 (k:Int))]) (kK [0,2]) 1 (⟨jjm _,by omega,fun j h1 h2=>absurd h2 Om⟩) ⟨J,sz⟩ ?_
  intro k hk L hL1
  refine V8 ?_;refine cZ (fun c2=> ?_) (fun c2=> ?_)
  ·refine S6 ?_;refine JS 10 ?_;refine dK 0 ?_;refine dK 1 ?_;refine dK 2 ?_;refine dZ 3 J (jl J J jk J (fun w' hs=>hr2 xs hn k Om w' (hs.cel (k:=0) J))) ?_;refine dK 4 ?_;refine dK 5 ?_;refine dZ 6 J ((JF J J J Om Om).as (congrArg _ (show((k:Int) - 1) = ((k- 1:Nat) :Int) by omega))) ?_;refine dK 7 ?_;refine dZ 8 J (jl J J jk J (fun w' hs=>hr2 xs hn (k- 1) Om w' (hs.cel (k:=0) J))) ?_;refine dK 9 ?_;refine JJ Kr ?_;refine S1 ?_;refine cZ (fun c3=> ?_) (fun c3=> ?_)
   ·have hkn:k<n:=Om
    have hdup:pt xs (k- 1) =pt xs k:=of_decide_eq_true (TK▸c3)
    have hoff:zJ 0 k c 2=0+k*2:=by rw [zJ,if_neg Om]
    have hcs:QY (xs.take k) =xs.take k:=xO k Om hk.2.2
    have hck:kc xs k=k:=by rw [kc,hcs,jjC];omega
    have hck1:kc xs (k+1) =k:=by rw [Iw hk.1 Om hdup,hck]
    have hclo:clo xs (k+1) =xs:=by rw [clo,uD hk.1 Om,if_pos hdup,jjL,hcs,jjC,jku Om,jjA]
    refine S4 ?_;refine a9 ((VM J J J jD Om).as ((UK (b:=b) (o:=0) (l:=k) (h:=n) (m:=c) (s:=2) hc Om).trans (by rw [hoff]))) ?_;refine S8 ?_;refine JX (X:=Nat) (fun j=>1≤j∧k+j≤n∧kc xs (k+j) +1≤k+j) (fun j=>n- j) (fun j=> [(3, .int .i64 (kc xs (k+j) :Int)),(5, .int .i64 (j:Int))]) (kK [0,2,10,11,12,13,16,17,18,19,20,21,22,23,24,25,26,27,28,4]) (fun j=> [.cel b T ((clo xs (k+j)).flatMap Jr++rest)]) 1 (⟨jjm _,by omega,by omega⟩) ⟨(by rw [hck1];rfl),sz⟩ (fun _ h=>h.upto ⟨by rw [hclo],trivial⟩) ?_
    intro j hj L hL2
    refine v9 ?_;refine r9 ?_
    have hcl: (clo xs (k+j)).length=n:= (Cn Om).trans hn
    refine S8 ?_;refine cZ (fun c4=> ?_) (fun c4=> ?_)
    ·have hjl:k+j<n:=Om
     have hrd:∀i,kc xs (k+j)≤i→i<n→∀w':World,w'.heap[b]? =some (.cells ((clo xs (k+j)).flatMap Jr++rest).toArray T (0,0))→∀(q:Nat) (v:Value),[Value.int .i64 (px xs i),Value.int .i64 (py xs i)][q]? =some v→w'.cell? ⟨b,0+i*2+q,none⟩ =some v:=fun i h1 h2 w' hw q v hv=>hr2 (clo xs (k+j)) hcl i h2 w' hw q v (by rw [show px (clo xs (k+j)) i=px xs i from congrArg Prod.fst (jb7 h1),show py (clo xs (k+j)) i=py xs i from congrArg Prod.snd (jb7 h1)];exact hv)
     refine S6 ?_;refine JS 10 ?_;refine dK 0 ?_;refine dK 1 ?_;refine dK 2 ?_;refine dZ 3 J (jl J J jk J (fun w' hs q v hv=>by rw [show 0+k*2+j*2+q=0+ (k+j) *2+q by omega];exact hrd (k+j) Om hjl w' (hs.cel (k:=0) J) q v hv)) ?_;refine dK 4 ?_;refine dK 5 ?_;refine dZ 6 J ((JF J J J Om Om).as (congrArg _ (show((j:Int) - 1) = ((j- 1:Nat) :Int) by omega))) ?_;refine dK 7 ?_;refine dZ 8 J (jl J J jk J (fun w' hs q v hv=>by rw [show 0+k*2+ (j- 1) *2+q=0+ (k+j- 1) *2+q by omega];exact hrd (k+j- 1) Om Om w' (hs.cel (k:=0) J) q v hv)) ?_;refine dK 9 ?_;refine JJ Kr ?_;refine S1 ?_;refine cZ (fun c5=> ?_) (fun c5=> ?_)
     ·refine S7 ?_;refine a9 (jl J J jk J (fun w' hs q v hv=>by rw [show 0+k*2+j*2+q=0+ (k+j) *2+q by omega];exact hrd (k+j) Om hjl w' (hs.cel (k:=0) J) q v hv)) ?_;refine S2 ?_;refine qG (k:=0) J J J J J (by rfl) jI.szx J J (by rw [jjk,Qh,hcl];simp only [jjr,jjK];omega) ?_;refine S13 ?_
      exact Jq hL2 (j+1) (⟨by omega,by omega,by rw [←jkz,CK Om Om (of_decide_eq_false (TK▸c5))];omega⟩) Om ⟨vi (by rw [←jkz,CK Om Om (of_decide_eq_false (TK▸c5))];omega),vi Om,sz⟩ (fun _ h=>h.upto ⟨by rw [←jkz,jeZ Om Om (of_decide_eq_false (TK▸c5)) (by show kc xs (k+j) <xs.length;omega),ZJ (by rw [Qh,hcl];exact(show 0+kc xs (k+j) *2+2≤n*2 by omega)),jjP];rfl,trivial⟩)
     ·refine S8 ?_
      exact Jq hL2 (j+1) (⟨by omega,by omega,by rw [←jkz,Iw Om Om (of_decide_eq_true (TK▸c5))];omega⟩) Om ⟨vi (by rw [←jkz,Iw Om Om (of_decide_eq_true (TK▸c5))]),vi Om,sz⟩ (fun _ h=>h.upto ⟨by rw [←jkz,jg7 Om Om (of_decide_eq_true (TK▸c5))],trivial⟩)
    ·refine S9 ?_;refine a9 ((VM J J J jD Om).as (UK (b:=b) (o:=0) (l:=kc xs (k+j)) (h:=n) (m:=c) (s:=2) hc Om)) ?_;refine S1 ?_;refine TB (k:=0) (zs:=B9 (n- kc xs (k+j))) J jD jI J J Om J J (P9 _) (by rw [jjk,Qh,hcl,Da,zJ,if_neg Om];omega) ?_;refine N5 ?_;refine a9 ((Kv J J J jD Om).as (ue _ _ _ _ _)) ?_;refine S8 ?_;refine jK J (.tmp J) ?_
     intro w' hs
     have hkj:k+j=n:=by omega
     have hK: (QY xs).length=kc xs n:=by rw [kc,←hn,jj3]
     have hlc: ((clo xs n).flatMap Jr++rest).length=c*2:=by rw [←hl,jjk,jjk,Qh,Qh,Cn Om]
     have hoK:zJ 0 (kc xs n) c 2=0+kc xs n*2:=by rw [zJ,if_neg (by rw [←hkj];omega)]
     rw [hkj,hoK] at hs
     rw [hkj] at hj
     exact⟨by rw [hK,hkj],hs.over.wr,_,hs.cel (k:=0) rfl,by rw [kG];exact hlc,PS hn hlc (by rw [Da];omega)⟩
   ·have hne:¬pt xs (k- 1) =pt xs k:=of_decide_eq_false (TK▸c3)
    refine S8 ?_
    exact qf hL1 (k+1) (⟨by omega,by omega,fun j h1 h2=> (jkv j k).elim (fun h3=>hk.2.2 j h1 h3) (fun h3=> (show k=j by omega)▸hne)⟩) Om ⟨vi Om,sz⟩ (u9 J)
  ·refine S11 ?_;refine jK J (.tmp J) ?_
   intro w' hs
   have hkn:k=n:=by omega
   have hw:=z6 (xs:=xs) fun j h1 h2=>hk.2.2 j h1 Om
   exact⟨by rw [hw,hn],hs.over.wr,_,hs.cel (k:=0) rfl,hl,by rw [hw];exact BQ⟩
theorem RN {N:Nat} (h:w.ownsRow N 28 2 (.slice A n c) n (xs.flatMap Jr)) (hn:xs.length=n) (h0:0<n) (hn2:n≤1048577) :
  Calls Tryz.prog 113 #[.slice A n c] w fun e w'=>e= .returned (.slice A (QY xs).length c)∧Wrs (J3 N 28 2 n (xs.flatMap Jr) (A,c)).F w w'∧(J3 N 28 2 (QY xs).length ((QY xs).flatMap Jr) (A,c)).P w':=by
 rcases h.2 with⟨_,e⟩ |⟨g,cap,cur,e,hb,hg,hcap,hmax,hsz,htk⟩
 ·omega
 ·injection e with e1 e2 e3
  subst e1 e3
  have hcur:cur.toList=xs.flatMap Jr++cur.toList.drop (n*2) :=by rw [←htk,jjA]
  have hg':w.heap[g]? =some (.cells (xs.flatMap Jr++cur.toList.drop (n*2)).toArray 28 (0,0)) :=by rw [←hcur,jkB];exact hg
  have hle:=He xs
  refine(RL g _ c n xs (cur.toList.drop (n*2)) w hg' hcap (by rw [←hcur];simpa using hsz) hn hn2).mono ?_
  rintro e w' ⟨rfl,hw,cs,hh,hcl,htk'⟩
  refine⟨rfl,⟨hw.os,hw.tape,hw.output,hw.size,fun q hq hne=>hw.block q hq (fun e=>hne (by subst e;rfl))⟩,?_⟩
  exact⟨Qh _, .inr ⟨g,c,_,rfl,hb,hh,by omega,hmax,by simpa using hcl,by rw [jkr];exact htk'⟩⟩
theorem Xg (ls:List Leg) (i:Nat) : (Um ls i 0).flatMap Jr= (yf ls i).flatMap Jr++ [.int .i64 (lg ls i).ax, .int .i64 (lg ls i).ay, .int .i64 (lg ls i).bx, .int .i64 (lg ls i).b_y]∧(Um ls i 0).length= (yf ls i).length+2:=by
 unfold Um cz
 rw [jjL,jjv,jjk]
 exact⟨rfl,rfl⟩
theorem Eb {k:Nat} (h:Qd (lA (lg ls i)) (lB (lg ls i)) (lA (lg ls k)) (lB (lg ls k)) =2) :Um ls i (k+1) =Um ls i k++ [Hg (lA (lg ls i)) (lB (lg ls i)) (lA (lg ls k)) (lB (lg ls k))] :=by
 rw [Um,cz,if_pos h,←jjq]
 rfl
theorem jdD {k:Nat} (h:¬Qd (lA (lg ls i)) (lB (lg ls i)) (lA (lg ls k)) (lB (lg ls k)) =2) :Um ls i (k+1) =Um ls i k:=by
 rw [Um,cz,if_neg h,jjL]
 rfl
theorem jgA {ls:List Leg} (hok:∀l∈ls,qM l) {i:Nat} (hi:i<ls.length) :∀k,k≤i→∀p∈cz ls i k,xe p
 | 0,_,p,hp=>by simp [cz] at hp
 | k+1,hk,p,hp=>by
  unfold cz at hp
  rcases jjz.1 hp with h | h
  ·exact jgA hok hi k Om p h
  ·split at h
   ·rename_i hm
    rw [jjp.1 h]
    exact jg8 (wP (kC hok hi)) (WM (kC hok hi)) (wP (kC hok Om)) (WM (kC hok Om)) (jc3 hm).2
   ·simp at h
theorem jcD {ls:List Leg} (hok:∀l∈ls,qM l) :∀i,i≤ls.length→∀p∈yf ls i,xe p
 | 0,_,p,hp=>by simp [yf] at hp
 | i+1,hi,p,hp=>by
  unfold yf at hp
  rcases jjz.1 hp with h | h
  ·rcases jjz.1 h with h | h
   ·exact jcD hok i Om p h
   ·simp only [jjw,jj8,or_false] at h
    rcases h with rfl | rfl
    ·exact(wP (kC hok Om)).wide
    ·exact(WM (kC hok Om)).wide
  ·exact jgA hok Om i (jjm _) p h
theorem jfl (h:0<i) :0< (yf ls i).length:=by
 obtain ⟨j,rfl⟩ :∃j,i=j+1:=⟨i- 1,by omega⟩
 unfold yf
 simp
 omega
theorem jec {B g:Nat} (h: (J3 B 28 2 n (xs.flatMap Jr) (some ⟨g,0,none⟩,c)).P w) (hl:xs.length=n) (hx:∀p∈xs,xe p) (hn:n≤1048576) (h0:0<n) :
  Calls Tryz.prog 111 #[.slice (some ⟨g,0,none⟩) n c, .func (.func 112) #[] #[]] w fun e w'=>∃x: {ys:List Pn//ys.Perm xs∧Ris ys},e= .returned (.tuple #[])∧Wrs (J3 B 28 2 n (xs.flatMap Jr) (some ⟨g,0,none⟩,c)).F w w'∧(J3 0 28 2 n (x.1.flatMap Jr) (some ⟨g,0,none⟩,c)).P w'∧(∀b,(J3 0 28 2 n (x.1.flatMap Jr) (some ⟨g,0,none⟩,c)).F b→(J3 B 28 2 n (xs.flatMap Jr) (some ⟨g,0,none⟩,c)).F b∨w.heap.size≤b)∧(J3 0 28 2 n (x.1.flatMap Jr) (some ⟨g,0,none⟩,c)).B=0:=by
 refine(jed h hl hx hn h0).mono ?_
 rintro e w' ⟨rfl,ys,hp,hr,hw,ho⟩
 exact⟨⟨ys,hp,hr⟩,rfl,hw.mono fun b hb=>by subst hb;rfl,ho,fun b hb=> .inl hb,rfl⟩
theorem Ds (A:Option Addr) (n c:Nat) (ls:List Leg) (w:World) (h:Legs w A n ls) (hok:∀l∈ls,qM l) (hn:n≤400) (hc:n≤c) (h0:0<n) :
  Calls Tryz.prog 57 #[.slice A n c] w fun e w'=>∃v,e= .returned v∧w'.ownsRow w.heap.size 28 2 v (kJ (yf ls n)).length ((kJ (yf ls n)).flatMap Jr)∧Over w w':=by
 have hl:=h.1
 refine j6 (m:=64) (Tryz.func57) J J (lb J) ?_;refine S7 ?_;refine kt (T:=28) (s:=2) ?_;refine N9 ?_;refine JX (X:=Nat×Option Addr×Nat) (fun x=>x.1≤n) (fun x=>n- x.1) (fun x=> [(3, .slice x.2.1 (yf ls x.1).length x.2.2),(12, .int .i64 (x.1:Int))]) (kK [0,2,10,11]) (fun x=> [J3 (Bs.N ⟨w,[]⟩) 28 2 (yf ls x.1).length ((yf ls x.1).flatMap Jr) x.2]) (0,none,0) (jjo _) ⟨J,sz⟩ (fun _ h=>h) ?_
 intro⟨i,rA,rc⟩ hi L hL1
 refine v9 ?_;refine r9 ?_
 have hi:i≤n:=hi
 refine S5 ?_;refine cZ (fun c1=> ?_) (fun c1=> ?_)
 ·have hlt:i<n:=Om
  obtain ⟨eb,eo,rfl,_⟩ :=h.2 Om
  have hhl:=YN ls i
  have hh2:i* (i+2)≤400*402:=jkH Om Om
  refine S8 ?_;refine a9 (jl J J qI J (zB (fun w' hs=>h.over hs.fin) hlt)) ?_;refine S1 ?_;refine aL (fun b1=> ?_);refine N12 ?_;refine Jy J J (V0 J J) J (lb J) (fun b2=> ?_);refine N1 ?_;refine JY (k:=0) J jD jI Dc J Dc J J J (fun w' hs=>Qb hs (k:=2) J J) (by simp [Value.oneCell']) (by unfold maxLen;omega) Om (jjm _) (fun r1=> ?_);refine N6 ?_;refine a9 ((Kv J J J Jk Om).as (ue _ _ _ _ _)) ?_;refine S4 ?_;refine JX (X:=Nat×Option Addr×Nat) (fun x=>x.1≤i) (fun x=>i- x.1) (fun x=> [(3, .slice x.2.1 (Um ls i x.1).length x.2.2),(28, .int .i64 (x.1:Int))]) (kK [0,2,10,11,12,13,14,15,16,5,4,17,18,19,20,21,22,23,24,25,26,27]) (fun x=> [J3 (Bs.N ⟨w,[]⟩) 28 2 (Um ls i x.1).length ((Um ls i x.1).flatMap Jr) x.2, .cel b1 96 [.int .i64 (lg ls i).ax, .int .i64 (lg ls i).ay, .int .i64 (lg ls i).bx, .int .i64 (lg ls i).b_y], .cel b2 28 [.int .i64 (lg ls i).ax, .int .i64 (lg ls i).ay, .int .i64 (lg ls i).bx, .int .i64 (lg ls i).b_y]]) (0,r1) (jjo _) ⟨(by rw [(Xg ls i).2];rfl),sz⟩ (fun _ h=>h.upto ⟨by rw [(Xg ls i).1,(Xg ls i).2],sz⟩) ?_
  intro⟨k,qA,qc⟩ hk L hL2
  refine v9 ?_;refine r9 ?_
  have hk:k≤i:=hk
  refine S5 ?_;refine cZ (fun c2=> ?_) (fun c2=> ?_)
  ·have hkt:k<i:=Om
   have hpl:=Ea (ls:=ls) (k:=k) (show i<400 by omega) hk
   refine S7 ?_;refine a9 (jl J J qI J (zB (fun w' hs=>h.over hs.fin) (show k<n by omega))) ?_;refine S1 ?_;refine aL (fun b3=> ?_);refine N13 ?_;refine a9 (jM Mi J J (fun w _=>Ts (lA (lg ls i)) (lB (lg ls i)) (lA (lg ls k)) (lB (lg ls k)) w (wP (kC hok Om)) (WM (kC hok Om)) (wP (kC hok Om)) (WM (kC hok Om)))) ?_;refine S4 ?_;refine aL (fun b4=> ?_);refine N9 ?_;refine cZ (fun c3=> ?_) (fun c3=> ?_)
   ·have hm2:Qd (lA (lg ls i)) (lB (lg ls i)) (lA (lg ls k)) (lB (lg ls k)) =2:=by rw [←(Hx (wP (kC hok Om)) (WM (kC hok Om)) (wP (kC hok Om)) (WM (kC hok Om))).1];exact c3
    refine S10 ?_;refine a9 (jM HB J J (fun w _=>NC (lA (lg ls i)) (lB (lg ls i)) (lA (lg ls k)) (lB (lg ls k)) w (wP (kC hok Om)) (WM (kC hok Om)) (wP (kC hok Om)) (WM (kC hok Om)) (jc3 hm2).2)) ?_;refine S1 ?_;refine Jy J J (qT J) J (lb J) (fun b5=> ?_);refine N1 ?_;refine JY (k:=0) J jD jI Dc J Dc J J J (fun w' hs=>Qb hs (k:=5) J J) (by simp [Value.oneCell']) (by unfold maxLen;omega) Om (jjm _) (fun r2=> ?_);refine N8 ?_
    exact Jq hL2 ((k+1,r2)) ((show k+1≤i by omega)) (by simp only;omega) ⟨(by rw [Eb hm2,jjk];rfl),vi Om,sz⟩ (fun _ h=>h.upto ⟨by rw [Eb hm2,jjk,jjv];rfl,sz⟩)
   ·have hm2:¬Qd (lA (lg ls i)) (lB (lg ls i)) (lA (lg ls k)) (lB (lg ls k)) =2:=by rw [←(Hx (wP (kC hok Om)) (WM (kC hok Om)) (wP (kC hok Om)) (WM (kC hok Om))).1];exact c3
    refine S7 ?_
    exact Jq hL2 ((k+1,qA,qc)) ((show k+1≤i by omega)) (by simp only;omega) ⟨(by rw [jdD hm2];rfl),vi Om,sz⟩ (fun _ h=>h.upto ⟨by rw [jdD hm2],sz⟩)
  ·refine S10 ?_
   exact Jq hL1 ((i+1,qA,qc)) ((show i+1≤n by omega)) (by simp only;omega) ⟨(by rw [show k=i by omega];rfl),vi Om,sz⟩ (fun _ h=>h.upto ⟨by rw [show k=i by omega];rfl,trivial⟩)
 ·have hin:i=n:=by omega
  subst hin
  have hpos:=jfl (ls:=ls) h0
  have hbd:=jcD hok i Om
  have hhl:=YN ls i
  have hh2:i* (i+2)≤400*402:=jkH Om Om
  refine S6 ?_;refine kL (fun w hs=>wH (k:=0) J hs hpos) ?_
  rintro⟨eg,rfl⟩
  refine S3 ?_;refine qN (k:=0) (X:= {ys:List Pn//ys.Perm (yf ls i)∧Ris ys}) (v:=fun _=> .tuple #[]) (r':=fun x=>J3 0 28 2 _ (x.1.flatMap Jr) (some ⟨eg,0,none⟩,rc)) Kq J J J Dc J (fun w1 hs=>jec (hs.all 0 _ J).1 J hbd Om hpos) ?_
  rintro⟨ys,hperm,hris⟩
  refine N5 ?_;refine Zx (k:=0) (r':=J3 0 28 2 (QY ys).length ((QY ys).flatMap Jr) (some ⟨eg,0,none⟩,rc)) KE J J J Dc J (fun w1 hs=>RN (hs.all 0 _ J).1 hperm.length_eq hpos Om) (fun _ h=>h) J ?_;refine N3 ?_;refine jK J (.tmp J) ?_
  intro w' hs
  have hr:=hs.all 0 _ rfl
  have he:=jcc hris (fun q=>hperm.mem_iff)
  exact⟨_,rfl,by rw [←he];exact vy hr.1 (fun b hb=> (hr.2.1 b hb).elim id (fun h=>by cases h)),hs.fin⟩
theorem jfm (v:Value) (w:World) :Calls Tryz.prog 218 #[.slice none 0 0, .int .i64 0, .int .i64 0,v] w fun e w'=>e= .returned (.tuple #[])∧Over w w':=by
 refine j6 (m:=53) (Tryz.func218) J J (lb J) ?_;refine S7 ?_;refine qv (X:=Unit) (fun u=>True) (fun u=>0) (fun u=> [(8, .int .i64 1)]) (kK [0,1,2,3]) () (trivial) ⟨J,sz⟩ ?_
 intro u hu L hL1
 refine V7 ?_;refine cZ (fun c1=> ?_) (fun c1=> ?_)
 ·omega
 ·refine S4 ?_;refine ky J ?_
  intro w' hs
  exact⟨rfl,hs.fin⟩
theorem jfW (l:Int) (v:Value) (w:World) :Calls Tryz.prog 167 #[.slice none 0 0, .int .i64 0, .int .i64 0, .int .i64 l,v] w fun e w'=>e= .returned (.tuple #[])∧Over w w':=by
 refine j6 (m:=148) (Tryz.func167) J J (lb J) ?_;refine S9 ?_;refine qv (X:=Unit) (fun u=>True) (fun u=>0) (fun u=> []) (kK [0,1,2,3,4,10,11]) () (trivial) sz ?_
 intro u hu L hL1
 refine V14 ?_;refine cZ (fun c1=> ?_) (fun c1=> ?_)
 ·refine S6 ?_;refine a9 (jM wh J J (fun w h=>jfm v w)) ?_;refine S6 ?_;refine ZQ J ?_
  intro w' hs
  exact⟨rfl,hs.fin⟩
 ·omega
theorem jfs (w:World) :Calls Tryz.prog 168 #[.int .u64 0] w fun e w'=> (∃l:Int,e= .returned (.int .i64 l))∧w=w':=
 (Any.bits_Len (SlLaysF0.n15.bits (P:=Tryz.prog) (ρ:=Y6) {jea with}) 0 w Om Om).mono fun _ _ ⟨he,hw⟩ =>⟨⟨_,he⟩,hw.symm⟩
theorem jeb (w:World) :Calls Tryz.prog 111 #[.slice none 0 0, .func (.func 112) #[] #[]] w fun e w'=>e= .returned (.tuple #[])∧Over w w':=by
 go_enter Tryz.func111,Tryz.ntmps111
 go_wp2_with fail
 go_at_call 168
 refine(jfs _).mono ?_
 rintro e w1 ⟨⟨l,rfl⟩,rfl⟩
 go_wp2_with fail
 go_at_call 167
 refine(jfW _ _ _).mono ?_
 rintro e w1 ⟨rfl,hb⟩
 go_wp2_with fail
 go_end0
 exact⟨rfl,hb⟩
theorem RM (w:World) :Calls Tryz.prog 113 #[.slice none 0 0] w fun e w'=>e= .returned (.slice none 0 0)∧Over w w':=by
 refine j6 (m:=61) (Tryz.func113) J J (lb J) ?_;refine S11 ?_;refine cZ (fun c1=> ?_) (fun c1=> ?_)
 ·refine S7 ?_;refine jK J (.tmp J) ?_
  intro w' hs
  exact⟨rfl,hs.fin⟩
 ·omega
theorem Dr (A:Option Addr) (c:Nat) (w:World) :
  Calls Tryz.prog 57 #[.slice A 0 c] w fun e w'=>e= .returned (.slice none 0 0)∧Over w w':=by
 refine j6 (m:=64) (Tryz.func57) J J (lb J) ?_;refine S16 ?_;refine qv (X:=Unit) (fun u=>True) (fun u=>0) (fun u=> [(3, .slice none 0 0),(12, .int .i64 0)]) (kK [0,2,10,11]) () (trivial) ⟨J,sz⟩ ?_
 intro u hu L hL1
 refine V5 ?_;refine cZ (fun c1=> ?_) (fun c1=> ?_)
 ·omega
 ·refine S8 ?_;refine a9 (jM Kq J J (fun w h=>jeb w)) ?_;refine S4 ?_;refine a9 (jM KE J J (fun w h=>RM w)) ?_;refine S3 ?_;refine jK J (.tmp J) ?_
  intro w' hs
  exact⟨rfl,hs.fin⟩
theorem Dq (A:Option Addr) (n c:Nat) (ls:List Leg) (w:World) (h:Legs w A n ls) (hok:∀l∈ls,qM l) (hn:n≤400) (hc:n≤c) :
  Calls Tryz.prog 57 #[.slice A n c] w fun e w'=>∃v,e= .returned v∧w'.ownsRow w.heap.size 28 2 v (kJ (yf ls n)).length ((kJ (yf ls n)).flatMap Jr)∧Over w w':=by
 by_cases h0:0<n
 ·exact Ds A n c ls w h hok hn hc h0
 ·obtain rfl:n=0:=by omega
  refine(Dr A c w).mono ?_
  rintro e w' ⟨rfl,hO⟩
  exact⟨_,rfl,⟨rfl, .inl ⟨rfl,rfl⟩⟩,hO⟩
theorem YY {rs:List jO} (h:Jp rs=true) : (jt rs).length≤400:=by
 simp only [Jp,jjl,decide_eq_true_eq] at h
 exact h.2
end Go.Proofs.YtbahojdbmmjkcaaGreat
