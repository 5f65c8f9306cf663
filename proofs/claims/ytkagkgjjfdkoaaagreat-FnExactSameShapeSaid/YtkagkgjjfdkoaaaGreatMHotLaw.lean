import Derived.Test.YtkagkgjjfdkoaaaGreatMRounds
import Derived.Test.YtkagkgjjfdkoaaaGreatMEnds
import Derived.Test.YtkagkgjjfdkoaaaGreatMCmp
set_option linter.unusedVariables false
set_option linter.unusedSimpArgs false
namespace Go.Proofs.YtkagkgjjfdkoaaaGreat
open Go Go.RowKit
set_option maxRecDepth 100000
set_option maxHeartbeats 4000000
open Go Go.Shelf Go.RowKit
open Go Go.Shelf
open Go Go.Shelf Go.RowKit Go.Lib Go.Sort
structure Pw where
 val:Pn
 ok:zJ val
instance:Inhabited Pw:=⟨⟨(0,0),⟨⟨by decide,by decide⟩,by decide,by decide⟩⟩⟩
def Hh (x:Pw) :List Value:=j7 x.val
theorem TK (x y:Pw) :ltOf (fun x y:Pw=>VQ x.val y.val) x y=decide (wq x.val y.val) :=by
 unfold ltOf
 rw [jfo,decide_eq_true_iff,decide_eq_true_iff]
 exact Lw _ _
theorem jet:SWO (ltOf fun x y:Pw=>VQ x.val y.val) where
 irrefl x:=by rw [TK];exact decide_eq_false (Q7 _)
 trans x y z h1 h2:=by rw [TK,decide_eq_true_iff] at*;exact vP h1 h2
 ntrans x y z h1 h2:=by
  rw [TK] at*
  simp only [decide_eq_false_iff_not] at*
  unfold wq at*
  omega
theorem CM (blk off size:Nat) (w:World) :CmpLays Tryz.prog 76 #[] Hh 2 (fun x y:Pw=>VQ x.val y.val) blk off size w:=
 fun _ _ _ _ x y=>u7 x.val y.val x.ok y.ok _
theorem jeb (w:World) : (isAgg (yG.t 24)).run Tryz.prog w= .ok true w:=Tryz.isAgg54 w
theorem jer (w:World) : (Go.sizeOf (yG.t 24)).run Tryz.prog w= .ok 2 w:=Tryz.sizeOf54 w
def yO (xs:List Pn) (hx:∀p∈xs,zJ p) :List Pw:=xs.attach.map fun p=>Pw.mk p.1 (hx p.1 p.2)
theorem SY (xs:List Pn) (hx:∀p∈xs,zJ p) : (yO xs hx).length=xs.length:=by simp [yO]
theorem SZ (xs:List Pn) (hx:∀p∈xs,zJ p) : (yO xs hx).map (·.val) =xs:=by
 rw [yO,List.map_map]
 exact List.attach_map_subtype_val xs
theorem Id (d:Array Pw) (j:Nat) (h:j<d.size*2) : ((d.toList.map (·.val)).flatMap j7)[j]? =some (flatK Hh 2 d)[j]! :=by
 rw [get_flatK _ _ _ _ h,I8 _ _ (by simpa using h)]
 have hj:j/2<d.size:=by omega
 rw [getElem!_pos d (j/2) hj]
 simp only [jfK,Array.getElem_toList]
 have h2:j % 2< (Hh d[j/2]).length:=by simp [Hh,j7];omega
 rw [getElem!_pos (Hh d[j/2]) (j % 2) h2]
 exact List.getElem?_eq_getElem h2
theorem BC {w:World} {g m T:Nat} {cur:Array Value} {d':Array Pw} {os:Array Obj} (hg:w.heap[g]? =some (.cells cur T (0,0))) (b:Nat) (hb:b<w.heap.size) :
  (sortWorldK Hh 2 w g 0 m d' os).heap[b]? =if g=b then some (.cells (Sort.putCells id 0 (flatK Hh 2 d') cur) T (0,0)) else w.heap[b]? :=by
 show((w.heap.modify g (Sort.onCells (Sort.putCells id 0 (flatK Hh 2 d')))) ++os)[b]? =_
 rw [Array.getElem?_append_left (by simpa using hb),Array.getElem?_modify]
 split
 ·rename_i e
  subst e
  rw [hg]
  rfl
 ·rfl
theorem jaG {B g c n:Nat} {xs:List Pn} {w:World} (h:w.ownsRow B 54 2 (.slice (some ⟨g,0,none⟩) n c) n (xs.flatMap j7)) (hl:xs.length=n) (hx:∀p∈xs,zJ p) (hn:n≤1048576) (h0:0<n) :
  Calls Tryz.prog 75 #[.slice (some ⟨g,0,none⟩) n c, .func (.func 76) #[] #[]] w fun e w'=>e= .returned (.tuple #[])∧∃ys,ys.Perm xs∧Ris ys∧Wrs (· =g) w w'∧w'.ownsRow 0 54 2 (.slice (some ⟨g,0,none⟩) n c) n (ys.flatMap j7) :=by
 rcases h.2 with⟨_,e⟩ |⟨g',cap,cur,e,hb,hg,hcap,hmax,hsz,htk⟩
 ·omega
 ·injection e with e1 e2 e3
  injection e1 with e1
  injection e1 with e1
  subst e1 e3
  have hds: (yO xs hx).toArray.size=n:=by simp [SY,hl]
  have hval: ((yO xs hx).toArray.toList.map (·.val)) =xs:=by rw [jeK];exact SZ xs hx
  have hH:HoldsK Hh 2 w g 0 (yO xs hx).toArray:=by
   intro j hj
   rw [size_flatK,hds] at hj
   refine⟨?_,?_⟩
   ·rw [je3,cell_of_row w g j cur _ (0,0) hg]
    have:=Id (yO xs hx).toArray j (by rw [hds];exact hj)
    rw [hval,←htk,List.getElem?_take,if_pos hj] at this
    simpa using this
   ·unfold World.frozen?
    simp only [hg]
    simp
  have eg:∀args w,(callFunc 76 args).run Tryz.prog w= .ok (.enter 76 args) w:=enters_of Tryz.func76 (by kernel_rfl) rfl
  have hcon:=AnyQ.slices_SortFunc jaD 2 jeb jer Hh (fun _=>rfl) (fun x v hv=>by simp [Hh,j7] at hv;rcases hv with rfl | rfl<;>rfl) (fun x y:Pw=>VQ x.val y.val) jet 76 #[] g 0 c (yO xs hx).toArray w eg (CM g 0 _ w) hH (JQ hg) (by omega)
  rw [hds] at hcon
  refine hcon.mono ?_
  rintro e w' ⟨rfl,d',m,os,hp,hs,rfl⟩
  have hd':d'.size=n:=hp.1.trans hds
  refine⟨J,d'.toList.map (·.val),?_,?_,?_,?_⟩
  ·have:=hp.2.2.map (·.val)
   rw [←hd',Array.extract_size,hd',←hds,Array.extract_size,hval] at this
   exact this
  ·refine jfH.2 fun i j hi hj hij=> ?_
   simp only [jeX,Array.length_toList] at hi hj
   have:=hs i j (jeE _) hij (by omega)
   rw [TK,decide_eq_false_iff_not,getElem!_pos d' j hj,getElem!_pos d' i hi] at this
   simpa using this
  ·refine⟨J,J,J,by exact size_sortWorldK_c _ _ _ _ _ _ _ _,fun b hb hne=> ?_⟩
   rw [BC hg b hb,if_neg (fun e=>hne e.symm)]
  ·refine⟨by rw [qn];simp [hd'], .inr ⟨g,c,Sort.putCells id 0 (flatK Hh 2 d') cur,J,jeE _,?_,hcap,hmax,by simp [Sort.putCells,hsz],?_⟩⟩
   ·rw [BC hg g (JQ hg),if_pos rfl]
   ·apply List.ext_getElem?
    intro j
    rw [List.getElem?_take]
    by_cases hj:j<n*2
    ·rw [if_pos hj,Id d' j (by rw [hd'];exact hj),Array.getElem?_toList]
     have hjc:j<cur.size:=by omega
     simp only [Sort.putCells,Array.getElem?_mapIdx,Array.getElem?_eq_getElem hjc,jf7,size_flatK,hd']
     rw [if_pos ⟨jeE _,by omega⟩,Nat.sub_zero]
     rfl
    ·rw [if_neg hj,List.getElem?_eq_none (by rw [qn];simp [hd'];omega)]
theorem Zm:∀(l:List Pn) (q p:Pn),QG (l++ [q] ++ [p]) =QG (l++ [q]) ++ (if q=p then [] else [p])
 | [],q,p=>by
  simp only [jeL,List.singleton_append,QG]
  split
  ·rename_i h;rw [h]
  ·rfl
 | [a],q,p=>by
  have h:=Zm [] q p
  simp only [jeL,List.singleton_append,jeG] at h⊢
  rw [QG,h]
  conv=>rhs;rw [QG]
  split<;>rfl
 | a::b::l,q,p=>by
  have h:=Zm (b::l) q p
  simp only [jeG] at h⊢
  rw [QG,h]
  conv=>rhs;rw [QG]
  split<;>rfl
theorem WD {xs:List Pn} {i:Nat} (h1:1≤i) (h:i<xs.length) :QG (xs.take (i+1)) =QG (xs.take i) ++ (if pt xs (i- 1) =pt xs i then [] else [pt xs i]) :=by
 obtain ⟨j,rfl⟩ :∃j,i=j+1:=⟨i- 1,by omega⟩
 rw [jeS h,jeS (show j<xs.length by omega),Zm,Kl h,Kl (show j<xs.length by omega)]
 rfl
theorem XI:∀l:List Pn,(QG l).length≤l.length
 | [] =>jeD _
 | [_] =>jeD _
 | p::q::l=>by
  have:=XI (q::l)
  unfold QG
  simp only [jeP] at*
  split
  ·omega
  ·rw [jeP];omega
theorem Zl {xs:List Pn} :∀i,i≤xs.length→(∀j,1≤j→j<i→¬pt xs (j- 1) =pt xs j)→QG (xs.take i) =xs.take i
 | 0,_,_=>rfl
 | 1,h,_=>by
  match xs,h with
  | p::l,_=>rfl
 | i+2,h,hj=>by
  rw [WD (by omega) (by omega),Zl (i+1) (by omega) (fun j h1 h2=>hj j h1 (by omega)),if_neg (hj (i+1) (by omega) (by omega)),←Kl (by omega)]
  exact(jeS (by omega)).symm
def clo (xs:List Pn) (i:Nat) :List Pn:=QG (xs.take i) ++xs.drop (QG (xs.take i)).length
theorem Tl {xs:List Pn} {i:Nat} (h:i≤xs.length) : (clo xs i).length=xs.length:=by
 have:=XI (xs.take i)
 rw [jeV] at this
 rw [clo,jeC,je2]
 omega
theorem CK {xs:List Pn} {i j:Nat} (h: (QG (xs.take i)).length≤j) :pt (clo xs i) j=pt xs j:=by
 simp only [pt,px,py,List.getD,clo,List.getElem?_append_right h,List.getElem?_drop]
 rw [show(QG (xs.take i)).length+ (j- (QG (xs.take i)).length) =j by omega]
theorem jc2 {xs:List Pn} {i:Nat} (h1:1≤i) (h:i<xs.length) (he:pt xs (i- 1) =pt xs i) :clo xs (i+1) =clo xs i:=by rw [clo,WD h1 h,if_pos he,je8];rfl
theorem jbg {xs:List Pn} {i:Nat} (h1:1≤i) (h:i<xs.length) (he:¬pt xs (i- 1) =pt xs i) (hk: (QG (xs.take i)).length<xs.length) : (clo xs (i+1)).flatMap j7=qk ((clo xs i).flatMap j7) ((QG (xs.take i)).length*2) (j7 (pt xs i)) :=by
 rw [clo,clo,WD h1 h,if_neg he]
 generalize QG (xs.take i) =C at*
 rw [jfi hk,jeC,jgc,jeQ,jeQ,jeQ,je4]
 have hC:C.length*2= (C.flatMap j7).length:= (qn C).symm
 rw [hC]
 simp only [j7,qk,je4,List.flatMap_nil,je8,jeG,jeL]
 rw [jfU _ _ (jeD _),Nat.sub_self,jeM,jfU _ _ (by omega),show(C.flatMap j7).length+1- (C.flatMap j7).length=1 by omega]
 simp [j7]
def MZ (m:Nat) :List Value:= (Builtin.zeroCells (Value.agg #[.int .i64 0, .int .i64 0]).cells m).toList
theorem M0 (m:Nat) : (MZ m).length=m*2:=by
 rw [MZ,Array.length_toList,size_zeroCells]
 rfl
theorem Ta (m:Nat) : (MZ m).all (·.oneCell') =true:=by
 rw [jfP]
 intro v hv
 rw [MZ,Array.mem_toList_iff,Builtin.zeroCells] at hv
 obtain ⟨i,hi,rfl⟩ :=Array.mem_map.1 hv
 have:i % 2<2:=Nat.mod_lt _ (by decide)
 show(#[Value.int .i64 0,Value.int .i64 0][i % 2]!).oneCell'=true
 rcases(show i % 2=0∨i % 2=1 by omega) with e | e<;>rw [e] <;>rfl
def kc (xs:List Pn) (i:Nat) :Nat:= (QG (xs.take i)).length
theorem Ds {xs:List Pn} {i:Nat} (h1:1≤i) (h:i<xs.length) (he:pt xs (i- 1) =pt xs i) :kc xs (i+1) =kc xs i:=by rw [kc,WD h1 h,if_pos he,je8];rfl
theorem TA {xs:List Pn} {i:Nat} (h1:1≤i) (h:i<xs.length) (he:¬pt xs (i- 1) =pt xs i) :kc xs (i+1) =kc xs i+1:=by rw [kc,WD h1 h,if_neg he,jeC];rfl
theorem I9 {xs:List Pn} {j i:Nat} : ((px xs j==px xs i) && (py xs j==py xs i)) =decide (pt xs i=pt xs j) :=by
 rw [jfo]
 simp [pt,Prod.ext_iff]
 constructor<;> (rintro⟨h1,h2⟩;exact⟨h1.symm,h2.symm⟩)
theorem Yx {xs:List Pn} (h:∀j,1≤j→j<xs.length→¬pt xs (j- 1) =pt xs j) :QG xs=xs:=by
 have:=Zl xs.length (jeD _) h
 rwa [jfr] at this
theorem MN {xs:List Pn} {rest:List Value} : (xs.flatMap j7++rest).take (xs.length*2) =xs.flatMap j7:=List.take_left' (qn xs)
theorem SO {xs:List Pn} {rest zs:List Value} {n c:Nat} (hn:xs.length=n) (hl: ((clo xs n).flatMap j7++rest).length=c*2) (hK:kc xs n*2+zs.length≤c*2) :
  (qk ((clo xs n).flatMap j7++rest) (0+kc xs n*2) zs).take ((QG xs).length*2) = (QG xs).flatMap j7:=by
 have e: (QG xs).length=kc xs n:=by rw [kc,←hn,jfr]
 have ec:QG (xs.take n) =QG xs:=by rw [←hn,jfr]
 apply List.ext_getElem?
 intro i
 rw [List.getElem?_take,e,je3]
 by_cases hi:i<kc xs n*2
 ·rw [if_pos hi,yH i (by omega),if_neg (by omega),clo,jeQ,jeN,List.getElem?_append_left (by rw [qn];exact hi),ec]
 ·rw [if_neg hi,List.getElem?_eq_none (by rw [qn,e];omega)]
theorem Ft (b T c n:Nat) (xs:List Pn) (rest:List Value) (w:World) (hh:w.heap[b]? =some (.cells (xs.flatMap j7++rest).toArray T (0,0))) (hc:n≤c) (hl: ((xs.flatMap j7) ++rest).length=c*2) (hn:xs.length=n) (hn2:n≤1048577) :
  Calls Tryz.prog 77 #[.slice (some ⟨b,0,none⟩) n c] w fun e w'=>e= .returned (.slice (some ⟨b,0,none⟩) (QG xs).length c)∧Wr b w w'∧∃cs:List Value,w'.heap[b]? =some (.cells cs.toArray T (0,0))∧cs.length=c*2∧cs.take ((QG xs).length*2) = (QG xs).flatMap j7:=by
 have hr2:∀(zs:List Pn),zs.length=n→∀k,k<n→∀w':World,w'.heap[b]? =some (.cells (zs.flatMap j7++rest).toArray T (0,0))→∀(q:Nat) (v:Value),[Value.int .i64 (px zs k),Value.int .i64 (py zs k)][q]? =some v→w'.cell? ⟨b,0+k*2+q,none⟩ =some v:=fun zs hz k hk w' hw q v hv=>by
  have hq:q<2:=by have:= (List.getElem?_eq_some_iff.1 hv).1;simpa using this
  rw [cell_of_row w' b _ _ T (0,0) hw,je3]
  have hf:=X7 zs k q (by omega) hq
  rw [Ya (by omega)] at hf
  have: (zs.flatMap j7++rest).toArray[k*2+q]? = (zs.flatMap j7)[k*2+q]? :=by
   rw [List.getElem?_toArray,List.getElem?_append_left (by rw [qn];omega)]
  rw [this,hf]
  exact hv
 refine Qv (m:=61) (Tryz.func77) J J (lb J) (hh) ?_;refine S11 ?_;refine cZ (fun c1=> ?_) (fun c1=> ?_)
 ·refine S7 ?_;refine jL J (.tmp J) ?_
  intro w' hs
  exact⟨by rw [Yx fun j h1 h2=>absurd h2 (by omega),hn],hs.over.wr,_,hs.cel (k:=0) rfl,hl,by rw [Yx fun j h1 h2=>absurd h2 (by omega)];exact MN⟩
 ·refine S8 ?_;refine qi (X:=Nat) (fun k=>1≤k∧k≤n∧(∀j,1≤j→j<k→¬pt xs (j- 1) =pt xs j)) (fun k=>n- k) (fun k=> [(3, .int .i64 (k:Int))]) (kK [0,2]) 1 (⟨jeD _,by omega,fun j h1 h2=>absurd h2 (by omega)⟩) ⟨J,sz⟩ ?_
  intro k hk L hL1
  refine V8 ?_;refine cZ (fun c2=> ?_) (fun c2=> ?_)
  ·refine S6 ?_;refine Jw 10 ?_;refine dK 0 ?_;refine dK 1 ?_;refine dK 2 ?_;refine dZ 3 J (jj J J jl J (fun w' hs=>hr2 xs hn k (by omega) w' (hs.cel (k:=0) J))) ?_;refine dK 4 ?_;refine dK 5 ?_;refine dZ 6 J ((JC J J J (by omega) (by omega)).as (congrArg _ (show((k:Int) - 1) = ((k- 1:Nat) :Int) by omega))) ?_;refine dK 7 ?_;refine dZ 8 J (jj J J jl J (fun w' hs=>hr2 xs hn (k- 1) (by omega) w' (hs.cel (k:=0) J))) ?_;refine dK 9 ?_;refine Jj (by kernel_rfl) ?_;refine S1 ?_;refine cZ (fun c3=> ?_) (fun c3=> ?_)
   ·have hkn:k<n:= (by omega)
    have hdup:pt xs (k- 1) =pt xs k:=of_decide_eq_true (I9▸c3)
    have hoff:Ut 0 k c 2=0+k*2:=by rw [Ut,if_neg (by omega)]
    have hcs:QG (xs.take k) =xs.take k:=Zl k (by omega) hk.2.2
    have hck:kc xs k=k:=by rw [kc,hcs,jeV];omega
    have hck1:kc xs (k+1) =k:=by rw [Ds hk.1 (by omega) hdup,hck]
    have hclo:clo xs (k+1) =xs:=by rw [clo,WD hk.1 (by omega),if_pos hdup,je8,hcs,jeV,jfI (by omega),jeU]
    refine S4 ?_;refine a9 ((KL J J J jt (by omega)).as ((wg (b:=b) (o:=0) (l:=k) (h:=n) (m:=c) (s:=2) hc (by omega)).trans (by rw [hoff]))) ?_;refine S8 ?_;refine JI (X:=Nat) (fun j=>1≤j∧k+j≤n∧kc xs (k+j) +1≤k+j) (fun j=>n- j) (fun j=> [(3, .int .i64 (kc xs (k+j) :Int)),(5, .int .i64 (j:Int))]) (kK [0,2,10,11,12,13,16,17,18,19,20,21,22,23,24,25,26,27,28,4]) (fun j=> [.cel b T ((clo xs (k+j)).flatMap j7++rest)]) 1 (⟨jeD _,by omega,by omega⟩) ⟨(by rw [hck1];rfl),sz⟩ (fun _ h=>h.upto ⟨by rw [hclo],trivial⟩) ?_
    intro j hj L hL2
    refine v9 ?_;refine ji (by first | (dsimp only;done) | (dsimp only;rfl) | rfl) ?_
    have hcl: (clo xs (k+j)).length=n:= (Tl (by omega)).trans hn
    refine S8 ?_;refine cZ (fun c4=> ?_) (fun c4=> ?_)
    ·have hjl:k+j<n:= (by omega)
     have hrd:∀i,kc xs (k+j)≤i→i<n→∀w':World,w'.heap[b]? =some (.cells ((clo xs (k+j)).flatMap j7++rest).toArray T (0,0))→∀(q:Nat) (v:Value),[Value.int .i64 (px xs i),Value.int .i64 (py xs i)][q]? =some v→w'.cell? ⟨b,0+i*2+q,none⟩ =some v:=fun i h1 h2 w' hw q v hv=>hr2 (clo xs (k+j)) hcl i h2 w' hw q v (by rw [show px (clo xs (k+j)) i=px xs i from congrArg Prod.fst (CK h1),show py (clo xs (k+j)) i=py xs i from congrArg Prod.snd (CK h1)];exact hv)
     refine S6 ?_;refine Jw 10 ?_;refine dK 0 ?_;refine dK 1 ?_;refine dK 2 ?_;refine dZ 3 J (jj J J jl J (fun w' hs q v hv=>by rw [show 0+k*2+j*2+q=0+ (k+j) *2+q by omega];exact hrd (k+j) (by omega) hjl w' (hs.cel (k:=0) J) q v hv)) ?_;refine dK 4 ?_;refine dK 5 ?_;refine dZ 6 J ((JC J J J (by omega) (by omega)).as (congrArg _ (show((j:Int) - 1) = ((j- 1:Nat) :Int) by omega))) ?_;refine dK 7 ?_;refine dZ 8 J (jj J J jl J (fun w' hs q v hv=>by rw [show 0+k*2+ (j- 1) *2+q=0+ (k+j- 1) *2+q by omega];exact hrd (k+j- 1) (by omega) (by omega) w' (hs.cel (k:=0) J) q v hv)) ?_;refine dK 9 ?_;refine Jj (by kernel_rfl) ?_;refine S1 ?_;refine cZ (fun c5=> ?_) (fun c5=> ?_)
     ·refine S7 ?_;refine a9 (jj J J jl J (fun w' hs q v hv=>by rw [show 0+k*2+j*2+q=0+ (k+j) *2+q by omega];exact hrd (k+j) (by omega) hjl w' (hs.cel (k:=0) J) q v hv)) ?_;refine S2 ?_;refine qr (k:=0) J J J J J (by rfl) jO.szx J J (by rw [jeC,qn,hcl];simp only [jeP,je6];omega) ?_;refine S13 ?_
      exact j8 hL2 (j+1) (⟨by omega,by omega,by rw [←jfN,TA (by omega) (by omega) (of_decide_eq_false (I9▸c5))];omega⟩) (by omega) ⟨vi (by rw [←jfN,TA (by omega) (by omega) (of_decide_eq_false (I9▸c5))];omega),vi (by omega),sz⟩ (fun _ h=>h.upto ⟨by rw [←jfN,jbg (by omega) (by omega) (of_decide_eq_false (I9▸c5)) (by show kc xs (k+j) <xs.length;omega),Y4 (by rw [qn,hcl];exact(show 0+kc xs (k+j) *2+2≤n*2 by omega)),je3];rfl,trivial⟩)
     ·refine S8 ?_
      exact j8 hL2 (j+1) (⟨by omega,by omega,by rw [←jfN,Ds (by omega) (by omega) (of_decide_eq_true (I9▸c5))];omega⟩) (by omega) ⟨vi (by rw [←jfN,Ds (by omega) (by omega) (of_decide_eq_true (I9▸c5))]),vi (by omega),sz⟩ (fun _ h=>h.upto ⟨by rw [←jfN,jc2 (by omega) (by omega) (of_decide_eq_true (I9▸c5))],trivial⟩)
    ·refine S9 ?_;refine a9 ((KL J J J jt (by omega)).as (wg (b:=b) (o:=0) (l:=kc xs (k+j)) (h:=n) (m:=c) (s:=2) hc (by omega))) ?_;refine S1 ?_;refine Ma (k:=0) (zs:=MZ (n- kc xs (k+j))) J jt jO J J (by omega) J J (Ta _) (by rw [jeC,qn,hcl,M0,Ut,if_neg (by omega)];omega) ?_;refine N5 ?_;refine a9 ((kb J J J jt (by omega)).as (VG _ _ _ _ _)) ?_;refine S8 ?_;refine jL J (.tmp J) ?_
     intro w' hs
     have hkj:k+j=n:=by omega
     have hK: (QG xs).length=kc xs n:=by rw [kc,←hn,jfr]
     have hlc: ((clo xs n).flatMap j7++rest).length=c*2:=by rw [←hl,jeC,jeC,qn,qn,Tl (by omega)]
     have hoK:Ut 0 (kc xs n) c 2=0+kc xs n*2:=by rw [Ut,if_neg (by rw [←hkj];omega)]
     rw [hkj,hoK] at hs
     rw [hkj] at hj
     exact⟨by rw [hK,hkj],hs.over.wr,_,hs.cel (k:=0) rfl,by rw [Qe];exact hlc,SO hn hlc (by rw [M0];omega)⟩
   ·have hne:¬pt xs (k- 1) =pt xs k:=of_decide_eq_false (I9▸c3)
    refine S8 ?_
    exact J8 hL1 (k+1) (⟨by omega,by omega,fun j h1 h2=> (jfG j k).elim (fun h3=>hk.2.2 j h1 h3) (fun h3=> (show k=j by omega)▸hne)⟩) (by omega) ⟨vi (by omega),sz⟩ (u9 J)
  ·refine S11 ?_;refine jL J (.tmp J) ?_
   intro w' hs
   have hkn:k=n:=by omega
   have hw:=Yx (xs:=xs) fun j h1 h2=>hk.2.2 j h1 (by omega)
   exact⟨by rw [hw,hn],hs.over.wr,_,hs.cel (k:=0) rfl,hl,by rw [hw];exact MN⟩
theorem Fv {N c n:Nat} {A:Option Addr} {xs:List Pn} {w:World} (h:w.ownsRow N 54 2 (.slice A n c) n (xs.flatMap j7)) (hn:xs.length=n) (h0:0<n) (hn2:n≤1048577) :
  Calls Tryz.prog 77 #[.slice A n c] w fun e w'=>e= .returned (.slice A (QG xs).length c)∧Wrs (JP N 54 2 n (xs.flatMap j7) (A,c)).F w w'∧(JP N 54 2 (QG xs).length ((QG xs).flatMap j7) (A,c)).P w':=by
 rcases h.2 with⟨_,e⟩ |⟨g,cap,cur,e,hb,hg,hcap,hmax,hsz,htk⟩
 ·omega
 ·injection e with e1 e2 e3
  subst e1 e3
  have hcur:cur.toList=xs.flatMap j7++cur.toList.drop (n*2) :=by rw [←htk,jeU]
  have hg':w.heap[g]? =some (.cells (xs.flatMap j7++cur.toList.drop (n*2)).toArray 54 (0,0)) :=by rw [←hcur,jfJ];exact hg
  have hle:=XI xs
  refine(Ft g _ c n xs (cur.toList.drop (n*2)) w hg' hcap (by rw [←hcur];simpa using hsz) hn hn2).mono ?_
  rintro e w' ⟨rfl,hw,cs,hh,hcl,htk'⟩
  refine⟨rfl,⟨hw.os,hw.tape,hw.output,hw.size,fun q hq hne=>hw.block q hq (fun e=>hne (by subst e;rfl))⟩,?_⟩
  exact⟨qn _, .inr ⟨g,c,_,rfl,hb,hh,by omega,hmax,by simpa using hcl,by rw [jeK];exact htk'⟩⟩
theorem ZI (ls:List Leg) (i:Nat) : (W7 ls i 0).flatMap j7= (Yf ls i).flatMap j7++ [.int .i64 (lg ls i).ax, .int .i64 (lg ls i).ay, .int .i64 (lg ls i).bx, .int .i64 (lg ls i).b_y]∧(W7 ls i 0).length= (Yf ls i).length+2:=by
 unfold W7 cz
 rw [je8,jeQ,jeC]
 exact⟨rfl,rfl⟩
theorem TZ {ls:List Leg} {i k:Nat} (h:Q1 (lA (lg ls i)) (lB (lg ls i)) (lA (lg ls k)) (lB (lg ls k)) =2) :W7 ls i (k+1) =W7 ls i k++ [Da (lA (lg ls i)) (lB (lg ls i)) (lA (lg ls k)) (lB (lg ls k))] :=by
 rw [W7,cz,if_pos h,←jeN]
 rfl
theorem E6 {ls:List Leg} {i k:Nat} (h:¬Q1 (lA (lg ls i)) (lB (lg ls i)) (lA (lg ls k)) (lB (lg ls k)) =2) :W7 ls i (k+1) =W7 ls i k:=by
 rw [W7,cz,if_neg h,je8]
 rfl
theorem jcu {ls:List Leg} (hok:∀l∈ls,qO l) {i:Nat} (hi:i<ls.length) :∀k,k≤i→∀p∈cz ls i k,zJ p
 | 0,_,p,hp=>by simp [cz] at hp
 | k+1,hk,p,hp=>by
  unfold cz at hp
  rcases jeY.1 hp with h | h
  ·exact jcu hok hi k (by omega) p h
  ·split at h
   ·rename_i hm
    rw [jeT.1 h]
    exact jc3 (wL (Q6 hok hi)) (Wt (Q6 hok hi)) (wL (Q6 hok (by omega))) (Wt (Q6 hok (by omega))) (EA hm).2
   ·simp at h
theorem Eb {ls:List Leg} (hok:∀l∈ls,qO l) :∀i,i≤ls.length→∀p∈Yf ls i,zJ p
 | 0,_,p,hp=>by simp [Yf] at hp
 | i+1,hi,p,hp=>by
  unfold Yf at hp
  rcases jeY.1 hp with h | h
  ·rcases jeY.1 h with h | h
   ·exact Eb hok i (by omega) p h
   ·simp only [je0,jfQ,or_false] at h
    rcases h with rfl | rfl
    ·exact(wL (Q6 hok (by omega))).wide
    ·exact(Wt (Q6 hok (by omega))).wide
  ·exact jcu hok (by omega) i (jeD _) p h
theorem jbx {ls:List Leg} {i:Nat} (h:0<i) :0< (Yf ls i).length:=by
 obtain ⟨j,rfl⟩ :∃j,i=j+1:=⟨i- 1,by omega⟩
 unfold Yf
 simp
 omega
theorem jaF {B g c n:Nat} {xs:List Pn} {w:World} (h: (JP B 54 2 n (xs.flatMap j7) (some ⟨g,0,none⟩,c)).P w) (hl:xs.length=n) (hx:∀p∈xs,zJ p) (hn:n≤1048576) (h0:0<n) :
  Calls Tryz.prog 75 #[.slice (some ⟨g,0,none⟩) n c, .func (.func 76) #[] #[]] w fun e w'=>∃x: {ys:List Pn//ys.Perm xs∧Ris ys},e= .returned (.tuple #[])∧Wrs (JP B 54 2 n (xs.flatMap j7) (some ⟨g,0,none⟩,c)).F w w'∧(JP 0 54 2 n (x.1.flatMap j7) (some ⟨g,0,none⟩,c)).P w'∧(∀b,(JP 0 54 2 n (x.1.flatMap j7) (some ⟨g,0,none⟩,c)).F b→(JP B 54 2 n (xs.flatMap j7) (some ⟨g,0,none⟩,c)).F b∨w.heap.size≤b)∧(JP 0 54 2 n (x.1.flatMap j7) (some ⟨g,0,none⟩,c)).B=0:=by
 refine(jaG h hl hx hn h0).mono ?_
 rintro e w' ⟨rfl,ys,hp,hr,hw,ho⟩
 exact⟨⟨ys,hp,hr⟩,rfl,hw.mono fun b hb=>by subst hb;rfl,ho,fun b hb=> .inl hb,rfl⟩
theorem Og (A:Option Addr) (n c:Nat) (ls:List Leg) (w:World) (h:Legs w A n ls) (hok:∀l∈ls,qO l) (hn:n≤400) (hc:n≤c) (h0:0<n) :
  Calls Tryz.prog 43 #[.slice A n c] w fun e w'=>∃v,e= .returned v∧w'.ownsRow w.heap.size 54 2 v (kh (Yf ls n)).length ((kh (Yf ls n)).flatMap j7)∧Over w w':=by
 have hl:=h.1
 refine jU (m:=64) (Tryz.func43) J J (lb J) ?_;refine S7 ?_;refine kz (T:=54) (s:=2) ?_;refine N9 ?_;refine JI (X:=Nat×Option Addr×Nat) (fun x=>x.1≤n) (fun x=>n- x.1) (fun x=> [(3, .slice x.2.1 (Yf ls x.1).length x.2.2),(12, .int .i64 (x.1:Int))]) (kK [0,2,10,11]) (fun x=> [JP (Bs.N ⟨w,[]⟩) 54 2 (Yf ls x.1).length ((Yf ls x.1).flatMap j7) x.2]) (0,none,0) (jeE _) ⟨J,sz⟩ (fun _ h=>h) ?_
 intro⟨i,rA,rc⟩ hi L hL1
 refine v9 ?_;refine ji (by first | (dsimp only;done) | (dsimp only;rfl) | rfl) ?_
 have hi:i≤n:=hi
 refine S5 ?_;refine cZ (fun c1=> ?_) (fun c1=> ?_)
 ·have hlt:i<n:= (by omega)
  obtain ⟨eb,eo,rfl,_⟩ :=h.2 (by omega)
  have hhl:=zt ls i
  have hh2:i* (i+2)≤400*402:=Nat.mul_le_mul (by omega) (by omega)
  refine S8 ?_;refine a9 (jj J J qp J (y6 (fun w' hs=>h.over hs.fin) hlt)) ?_;refine S1 ?_;refine aL (fun b1=> ?_);refine N12 ?_;refine Jp J J (vZ J J) J (lb J) (fun b2=> ?_);refine N1 ?_;refine JL (k:=0) J jt jO (by decide) J (by decide) J J J (fun w' hs=>q6 hs (k:=2) J J) (by simp [Value.oneCell']) (by unfold maxLen;omega) (by omega) (jeD _) (fun r1=> ?_);refine N6 ?_;refine a9 ((kb J J J j5 (by omega)).as (VG _ _ _ _ _)) ?_;refine S4 ?_;refine JI (X:=Nat×Option Addr×Nat) (fun x=>x.1≤i) (fun x=>i- x.1) (fun x=> [(3, .slice x.2.1 (W7 ls i x.1).length x.2.2),(28, .int .i64 (x.1:Int))]) (kK [0,2,10,11,12,13,14,15,16,5,4,17,18,19,20,21,22,23,24,25,26,27]) (fun x=> [JP (Bs.N ⟨w,[]⟩) 54 2 (W7 ls i x.1).length ((W7 ls i x.1).flatMap j7) x.2, .cel b1 56 [.int .i64 (lg ls i).ax, .int .i64 (lg ls i).ay, .int .i64 (lg ls i).bx, .int .i64 (lg ls i).b_y], .cel b2 54 [.int .i64 (lg ls i).ax, .int .i64 (lg ls i).ay, .int .i64 (lg ls i).bx, .int .i64 (lg ls i).b_y]]) (0,r1) (jeE _) ⟨(by rw [(ZI ls i).2];rfl),sz⟩ (fun _ h=>h.upto ⟨by rw [(ZI ls i).1,(ZI ls i).2],sz⟩) ?_
  intro⟨k,qA,qc⟩ hk L hL2
  refine v9 ?_;refine ji (by first | (dsimp only;done) | (dsimp only;rfl) | rfl) ?_
  have hk:k≤i:=hk
  refine S5 ?_;refine cZ (fun c2=> ?_) (fun c2=> ?_)
  ·have hkt:k<i:= (by omega)
   have hpl:=TY (ls:=ls) (k:=k) (show i<400 by omega) hk
   refine S7 ?_;refine a9 (jj J J qp J (y6 (fun w' hs=>h.over hs.fin) (show k<n by omega))) ?_;refine S1 ?_;refine aL (fun b3=> ?_);refine N13 ?_;refine a9 (jH Hn J J (fun w _=>IR (lA (lg ls i)) (lB (lg ls i)) (lA (lg ls k)) (lB (lg ls k)) w (wL (Q6 hok (by omega))) (Wt (Q6 hok (by omega))) (wL (Q6 hok (by omega))) (Wt (Q6 hok (by omega))))) ?_;refine S4 ?_;refine aL (fun b4=> ?_);refine N9 ?_;refine cZ (fun c3=> ?_) (fun c3=> ?_)
   ·have hm2:Q1 (lA (lg ls i)) (lB (lg ls i)) (lA (lg ls k)) (lB (lg ls k)) =2:=by rw [←(Bh (wL (Q6 hok (by omega))) (Wt (Q6 hok (by omega))) (wL (Q6 hok (by omega))) (Wt (Q6 hok (by omega)))).1];exact c3
    refine S10 ?_;refine a9 (jH XW J J (fun w _=>RP (lA (lg ls i)) (lB (lg ls i)) (lA (lg ls k)) (lB (lg ls k)) w (wL (Q6 hok (by omega))) (Wt (Q6 hok (by omega))) (wL (Q6 hok (by omega))) (Wt (Q6 hok (by omega))) (EA hm2).2)) ?_;refine S1 ?_;refine Jp J J (qP J) J (lb J) (fun b5=> ?_);refine N1 ?_;refine JL (k:=0) J jt jO (by decide) J (by decide) J J J (fun w' hs=>q6 hs (k:=5) J J) (by simp [Value.oneCell']) (by unfold maxLen;omega) (by omega) (jeD _) (fun r2=> ?_);refine N8 ?_
    exact j8 hL2 ((k+1,r2)) ((show k+1≤i by omega)) (by simp only;omega) ⟨(by rw [TZ hm2,jeC];rfl),vi (by omega),sz⟩ (fun _ h=>h.upto ⟨by rw [TZ hm2,jeC,jeQ];rfl,sz⟩)
   ·have hm2:¬Q1 (lA (lg ls i)) (lB (lg ls i)) (lA (lg ls k)) (lB (lg ls k)) =2:=by rw [←(Bh (wL (Q6 hok (by omega))) (Wt (Q6 hok (by omega))) (wL (Q6 hok (by omega))) (Wt (Q6 hok (by omega)))).1];exact c3
    refine S7 ?_
    exact j8 hL2 ((k+1,qA,qc)) ((show k+1≤i by omega)) (by simp only;omega) ⟨(by rw [E6 hm2];rfl),vi (by omega),sz⟩ (fun _ h=>h.upto ⟨by rw [E6 hm2],sz⟩)
  ·refine S10 ?_
   exact j8 hL1 ((i+1,qA,qc)) ((show i+1≤n by omega)) (by simp only;omega) ⟨(by rw [show k=i by omega];rfl),vi (by omega),sz⟩ (fun _ h=>h.upto ⟨by rw [show k=i by omega];rfl,trivial⟩)
 ·have hin:i=n:=by omega
  subst hin
  have hpos:=jbx (ls:=ls) h0
  have hbd:=Eb hok i (by omega)
  have hhl:=zt ls i
  have hh2:i* (i+2)≤400*402:=Nat.mul_le_mul (by omega) (by omega)
  refine S6 ?_;refine QF (fun w hs=>K2 (k:=0) J hs hpos) ?_
  rintro⟨eg,rfl⟩
  refine S3 ?_;refine WZ (k:=0) (X:= {ys:List Pn//ys.Perm (Yf ls i)∧Ris ys}) (v:=fun _=> .tuple #[]) (r':=fun x=>JP 0 54 2 _ (x.1.flatMap j7) (some ⟨eg,0,none⟩,rc)) kO J J J (by decide) J (fun w1 hs=>jaF (hs.all 0 _ J).1 J hbd (by omega) hpos) ?_
  rintro⟨ys,hperm,hris⟩
  refine N5 ?_;refine QB (k:=0) (r':=JP 0 54 2 (QG ys).length ((QG ys).flatMap j7) (some ⟨eg,0,none⟩,rc)) Kc J J J (by decide) J (fun w1 hs=>Fv (hs.all 0 _ J).1 hperm.length_eq hpos (by omega)) (fun _ h=>h) J ?_;refine N3 ?_;refine jL J (.tmp J) ?_
  intro w' hs
  have hr:=hs.all 0 _ rfl
  have he:=CO hris (fun q=>hperm.mem_iff)
  exact⟨_,rfl,by rw [←he];exact KS hr.1 (fun b hb=> (hr.2.1 b hb).elim id (fun h=>by cases h)),hs.fin⟩
theorem jby (v:Value) (w:World) :Calls Tryz.prog 151 #[.slice none 0 0, .int .i64 0, .int .i64 0,v] w fun e w'=>e= .returned (.tuple #[])∧Over w w':=by
 refine jU (m:=53) (Tryz.func151) J J (lb J) ?_;refine S7 ?_;refine qi (X:=Unit) (fun u=>True) (fun u=>0) (fun u=> [(8, .int .i64 1)]) (kK [0,1,2,3]) () (trivial) ⟨J,sz⟩ ?_
 intro u hu L hL1
 refine V7 ?_;refine cZ (fun c1=> ?_) (fun c1=> ?_)
 ·omega
 ·refine S4 ?_;refine Q2 J ?_
  intro w' hs
  exact⟨rfl,hs.fin⟩
theorem jbY (l:Int) (v:Value) (w:World) :Calls Tryz.prog 114 #[.slice none 0 0, .int .i64 0, .int .i64 0, .int .i64 l,v] w fun e w'=>e= .returned (.tuple #[])∧Over w w':=by
 refine jU (m:=148) (Tryz.func114) J J (lb J) ?_;refine S9 ?_;refine qi (X:=Unit) (fun u=>True) (fun u=>0) (fun u=> []) (kK [0,1,2,3,4,10,11]) () (trivial) sz ?_
 intro u hu L hL1
 refine V14 ?_;refine cZ (fun c1=> ?_) (fun c1=> ?_)
 ·refine S6 ?_;refine a9 (jH Vh J J (fun w h=>jby v w)) ?_;refine S6 ?_;refine zm J ?_
  intro w' hs
  exact⟨rfl,hs.fin⟩
 ·omega
theorem jbD (w:World) :Calls Tryz.prog 115 #[.int .u64 0] w fun e w'=> (∃l:Int,e= .returned (.int .i64 l))∧w=w':=
 (Any.bits_Len (SlLaysF0.n15.bits (P:=Tryz.prog) (ρ:=yG) {jaD with}) 0 w (by omega) (by omega)).mono fun _ _ ⟨he,hw⟩ =>⟨⟨_,he⟩,hw.symm⟩
theorem jaE (w:World) :Calls Tryz.prog 75 #[.slice none 0 0, .func (.func 76) #[] #[]] w fun e w'=>e= .returned (.tuple #[])∧Over w w':=by
 go_enter Tryz.func75,Tryz.ntmps75
 go_wp2_with fail
 go_at_call 115
 refine(jbD _).mono ?_
 rintro e w1 ⟨⟨l,rfl⟩,rfl⟩
 go_wp2_with fail
 go_at_call 114
 refine(jbY _ _ _).mono ?_
 rintro e w1 ⟨rfl,hb⟩
 go_wp2_with fail
 go_end0
 exact⟨rfl,hb⟩
theorem Fu (w:World) :Calls Tryz.prog 77 #[.slice none 0 0] w fun e w'=>e= .returned (.slice none 0 0)∧Over w w':=by
 refine jU (m:=61) (Tryz.func77) J J (lb J) ?_;refine S11 ?_;refine cZ (fun c1=> ?_) (fun c1=> ?_)
 ·refine S7 ?_;refine jL J (.tmp J) ?_
  intro w' hs
  exact⟨rfl,hs.fin⟩
 ·omega
theorem Of (A:Option Addr) (c:Nat) (w:World) :
  Calls Tryz.prog 43 #[.slice A 0 c] w fun e w'=>e= .returned (.slice none 0 0)∧Over w w':=by
 refine jU (m:=64) (Tryz.func43) J J (lb J) ?_;refine S16 ?_;refine qi (X:=Unit) (fun u=>True) (fun u=>0) (fun u=> [(3, .slice none 0 0),(12, .int .i64 0)]) (kK [0,2,10,11]) () (trivial) ⟨J,sz⟩ ?_
 intro u hu L hL1
 refine V5 ?_;refine cZ (fun c1=> ?_) (fun c1=> ?_)
 ·omega
 ·refine S8 ?_;refine a9 (jH kO J J (fun w h=>jaE w)) ?_;refine S4 ?_;refine a9 (jH Kc J J (fun w h=>Fu w)) ?_;refine S3 ?_;refine jL J (.tmp J) ?_
  intro w' hs
  exact⟨rfl,hs.fin⟩
theorem Oe (A:Option Addr) (n c:Nat) (ls:List Leg) (w:World) (h:Legs w A n ls) (hok:∀l∈ls,qO l) (hn:n≤400) (hc:n≤c) :
  Calls Tryz.prog 43 #[.slice A n c] w fun e w'=>∃v,e= .returned v∧w'.ownsRow w.heap.size 54 2 v (kh (Yf ls n)).length ((kh (Yf ls n)).flatMap j7)∧Over w w':=by
 by_cases h0:0<n
 ·exact Og A n c ls w h hok hn hc h0
 ·obtain rfl:n=0:=by omega
  refine(Of A c w).mono ?_
  rintro e w' ⟨rfl,hO⟩
  exact⟨_,rfl,⟨rfl, .inl ⟨rfl,rfl⟩⟩,hO⟩
theorem Ga {rs:List jS} (h:JO rs=true) : (Jm rs).length≤400:=by
 simp only [JO,jeF,decide_eq_true_eq] at h
 exact h.2
end Go.Proofs.YtkagkgjjfdkoaaaGreat
