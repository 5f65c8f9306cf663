import Derived.Test.YtpncbbcmoiiipaaMSortLay
import Derived.Test.YtpncbbcmoiiipaaMSlc
import Derived.Test.YtpncbbcmoiiipaaMOpen3
set_option linter.unusedVariables false
set_option linter.unusedSimpArgs false
namespace Go.Proofs.Ytpncbbcmoiiipaa
open Go Go.RowKit
set_option maxRecDepth 100000
set_option maxHeartbeats 4000000
open Go Go.Shelf Go.RowKit
open Go Go.Shelf
open Go Go.Shelf Go.RowKit Go.Lib Go.Sort
structure Pw where
 val:Pn
 ok:Z1 val
instance:Inhabited Pw:=⟨⟨(0,0),⟨⟨by decide,by decide⟩,by decide,by decide⟩⟩⟩
def uR (x:Pw) :List Value:=jI x.val
theorem XA (x y:Pw) :ltOf (fun x y:Pw=>Wj x.val y.val) x y=decide (Wb x.val y.val) :=by
 unfold ltOf
 rw [FJ,decide_eq_true_iff,decide_eq_true_iff]
 exact Hq _ _
theorem BW:SWO (ltOf fun x y:Pw=>Wj x.val y.val) where
 irrefl x:=by rw [XA];exact decide_eq_false (KQ _)
 trans x y z h1 h2:=by rw [XA,decide_eq_true_iff] at*;exact W7 h1 h2
 ntrans x y z h1 h2:=by
  rw [XA] at*
  simp only [decide_eq_false_iff_not] at*
  unfold Wb at*
  omega
theorem Ho (blk off size:Nat) (w:World) :CmpLays Try.prog 35 #[] uR 2 (fun x y:Pw=>Wj x.val y.val) blk off size w:=
 fun _ _ _ _ x y=>zI x.val y.val x.ok y.ok _
theorem BG (w:World) : (isAgg (Vj.t 24)).run Try.prog w= .ok true w:=Try.isAgg27 w
theorem BV (w:World) : (Go.sizeOf (Vj.t 24)).run Try.prog w= .ok 2 w:=Try.sizeOf27 w
def Vp (xs:List Pn) (hx:∀p∈xs,Z1 p) :List Pw:=xs.attach.map fun p=>Pw.mk p.1 (hx p.1 p.2)
theorem Xa (xs:List Pn) (hx:∀p∈xs,Z1 p) : (Vp xs hx).length=xs.length:=by simp [Vp]
theorem Xb (xs:List Pn) (hx:∀p∈xs,Z1 p) : (Vp xs hx).map (·.val) =xs:=by
 rw [Vp,List.map_map]
 exact List.attach_map_subtype_val xs
theorem zS (d:Array Pw) (j:Nat) (h:j<d.size*2) : ((d.toList.map (·.val)).flatMap jI)[j]? =some (flatK uR 2 d)[j]! :=by
 rw [get_flatK _ _ _ _ h,Zr _ _ (by simpa using h)]
 have hj:j/2<d.size:=by omega
 rw [getElem!_pos d (j/2) hj]
 simp only [F2,Array.getElem_toList]
 have h2:j % 2< (uR d[j/2]).length:=by simp [uR,jI];omega
 rw [getElem!_pos (uR d[j/2]) (j % 2) h2]
 exact List.getElem?_eq_getElem h2
theorem Ys {w:World} {g m T:Nat} {cur:Array Value} {d':Array Pw} {os:Array Obj} (hg:w.heap[g]? =some (.cells cur T (0,0))) (b:Nat) (hb:b<w.heap.size) :
  (sortWorldK uR 2 w g 0 m d' os).heap[b]? =if g=b then some (.cells (Sort.putCells id 0 (flatK uR 2 d') cur) T (0,0)) else w.heap[b]? :=by
 show((w.heap.modify g (Sort.onCells (Sort.putCells id 0 (flatK uR 2 d')))) ++os)[b]? =_
 rw [Array.getElem?_append_left (by simpa using hb),Array.getElem?_modify]
 split
 ·rename_i e
  subst e
  rw [hg]
  rfl
 ·rfl
theorem LD {B g c n:Nat} {xs:List Pn} {w:World} (h:w.ownsRow B 27 2 (.slice (some ⟨g,0,none⟩) n c) n (xs.flatMap jI)) (hl:xs.length=n) (hx:∀p∈xs,Z1 p) (hn:n≤1048576) (h0:0<n) :
  Calls Try.prog 34 #[.slice (some ⟨g,0,none⟩) n c, .func (.func 35) #[] #[]] w fun e w'=>e= .returned (.tuple #[])∧∃ys,ys.Perm xs∧OZ ys∧Wrs (· =g) w w'∧w'.ownsRow 0 27 2 (.slice (some ⟨g,0,none⟩) n c) n (ys.flatMap jI) :=by
 rcases h.2 with⟨_,e⟩ |⟨g',cap,cur,e,hb,hg,hcap,hmax,hsz,htk⟩
 ·omega
 ·injection e with e1 e2 e3
  injection e1 with e1
  injection e1 with e1
  subst e1 e3
  have hds: (Vp xs hx).toArray.size=n:=by simp [Xa,hl]
  have hval: ((Vp xs hx).toArray.toList.map (·.val)) =xs:=by rw [Ic];exact Xb xs hx
  have hH:HoldsK uR 2 w g 0 (Vp xs hx).toArray:=by
   intro j hj
   rw [size_flatK,hds] at hj
   refine⟨?_,?_⟩
   ·rw [Fo,cell_of_row w g j cur _ (0,0) hg]
    have:=zS (Vp xs hx).toArray j (by rw [hds];exact hj)
    rw [hval,←htk,List.getElem?_take,if_pos hj] at this
    simpa using this
   ·unfold World.frozen?
    simp only [hg]
    simp
  have eg:∀args w,(callFunc 35 args).run Try.prog w= .ok (.enter 35 args) w:=enters_of Try.func35 Kr rfl
  have hcon:=AnyQ.slices_SortFunc LA 2 BG BV uR (fun _=>rfl) (fun x v hv=>by simp [uR,jI] at hv;rcases hv with rfl | rfl<;>rfl) (fun x y:Pw=>Wj x.val y.val) BW 35 #[] g 0 c (Vp xs hx).toArray w eg (Ho g 0 _ w) hH (JE hg) Om
  rw [hds] at hcon
  refine hcon.mono ?_
  rintro e w' ⟨rfl,d',m,os,hp,hs,rfl⟩
  have hd':d'.size=n:=hp.1.trans hds
  refine⟨J,d'.toList.map (·.val),?_,?_,?_,?_⟩
  ·have:=hp.2.2.map (·.val)
   rw [←hd',Array.extract_size,hd',←hds,Array.extract_size,hval] at this
   exact this
  ·refine FX.2 fun i j hi hj hij=> ?_
   simp only [Fc,Array.length_toList] at hi hj
   have:=hs i j (DQ _) hij Om
   rw [XA,decide_eq_false_iff_not,getElem!_pos d' j hj,getElem!_pos d' i hi] at this
   simpa using this
  ·refine⟨J,J,J,by exact size_sortWorldK_c _ _ _ _ _ _ _ _,fun b hb hne=> ?_⟩
   rw [Ys hg b hb,if_neg (fun e=>hne e.symm)]
  ·refine⟨by rw [J6];simp [hd'], .inr ⟨g,c,Sort.putCells id 0 (flatK uR 2 d') cur,J,DQ _,?_,hcap,hmax,by simp [Sort.putCells,hsz],?_⟩⟩
   ·rw [Ys hg g (JE hg),if_pos rfl]
   ·apply List.ext_getElem?
    intro j
    rw [List.getElem?_take]
    by_cases hj:j<n*2
    ·rw [if_pos hj,zS d' j (by rw [hd'];exact hj),Array.getElem?_toList]
     have hjc:j<cur.size:=by omega
     simp only [Sort.putCells,Array.getElem?_mapIdx,Array.getElem?_eq_getElem hjc,Option.map_some,size_flatK,hd']
     rw [if_pos ⟨DQ _,by omega⟩,Nat.sub_zero]
     rfl
    ·rw [if_neg hj,List.getElem?_eq_none (by rw [J6];simp [hd'];omega)]
theorem wI:∀(l:List Pn) (q p:Pn),qj (l++ [q] ++ [p]) =qj (l++ [q]) ++ (if q=p then [] else [p])
 | [],q,p=>by
  simp only [Fl,List.singleton_append,qj]
  split
  ·rename_i h;rw [h]
  ·rfl
 | [a],q,p=>by
  have h:=wI [] q p
  simp only [Fl,List.singleton_append,D6] at h⊢
  rw [qj,h]
  conv=>rhs;rw [qj]
  split<;>rfl
 | a::b::l,q,p=>by
  have h:=wI (b::l) q p
  simp only [D6] at h⊢
  rw [qj,h]
  conv=>rhs;rw [qj]
  split<;>rfl
theorem Kc {xs:List Pn} {i:Nat} (h1:1≤i) (h:i<xs.length) :qj (xs.take (i+1)) =qj (xs.take i) ++ (if pt xs (i- 1) =pt xs i then [] else [pt xs i]) :=by
 obtain ⟨j,rfl⟩ :∃j,i=j+1:=⟨i- 1,by omega⟩
 rw [DY h,DY (show j<xs.length by omega),wI,QK h,QK (show j<xs.length by omega)]
 rfl
theorem WY:∀l:List Pn,(qj l).length≤l.length
 | [] =>DM _
 | [_] =>DM _
 | p::q::l=>by
  have:=WY (q::l)
  unfold qj
  simp only [DT] at*
  split
  ·omega
  ·rw [DT];omega
theorem wH {xs:List Pn} :∀i,i≤xs.length→(∀j,1≤j→j<i→¬pt xs (j- 1) =pt xs j)→qj (xs.take i) =xs.take i
 | 0,_,_=>rfl
 | 1,h,_=>by
  match xs,h with
  | p::l,_=>rfl
 | i+2,h,hj=>by
  rw [Kc Om Om,wH (i+1) Om (fun j h1 h2=>hj j h1 Om),if_neg (hj (i+1) Om Om),←QK Om]
  exact(DY Om).symm
def clo (xs:List Pn) (i:Nat) :List Pn:=qj (xs.take i) ++xs.drop (qj (xs.take i)).length
theorem Xm {xs:List Pn} {i:Nat} (h:i≤xs.length) : (clo xs i).length=xs.length:=by
 have:=WY (xs.take i)
 rw [Ff] at this
 rw [clo,DK,D5]
 omega
theorem Hn {xs:List Pn} {i j:Nat} (h: (qj (xs.take i)).length≤j) :pt (clo xs i) j=pt xs j:=by
 simp only [pt,px,py,List.getD,clo,List.getElem?_append_right h,List.getElem?_drop]
 rw [show(qj (xs.take i)).length+ (j- (qj (xs.take i)).length) =j by omega]
theorem M6 {xs:List Pn} {i:Nat} (h1:1≤i) (h:i<xs.length) (he:pt xs (i- 1) =pt xs i) :clo xs (i+1) =clo xs i:=by rw [clo,Kc h1 h,if_pos he,D7];rfl
theorem L0 {xs:List Pn} {i:Nat} (h1:1≤i) (h:i<xs.length) (he:¬pt xs (i- 1) =pt xs i) (hk: (qj (xs.take i)).length<xs.length) : (clo xs (i+1)).flatMap jI=qi ((clo xs i).flatMap jI) ((qj (xs.take i)).length*2) (jI (pt xs i)) :=by
 rw [clo,clo,Kc h1 h,if_neg he]
 generalize qj (xs.take i) =C at*
 rw [Fw hk,DK,List.length_singleton,Fs,Fs,Fs,D9]
 have hC:C.length*2= (C.flatMap jI).length:= (J6 C).symm
 rw [hC]
 simp only [jI,qi,D9,List.flatMap_nil,D7,D6,Fl]
 rw [FP _ _ (DM _),Nat.sub_self,List.set_cons_zero,FP _ _ Om,show(C.flatMap jI).length+1- (C.flatMap jI).length=1 by omega]
 simp [jI]
def yu (m:Nat) :List Value:= (Builtin.zeroCells (Value.agg #[.int .i64 0, .int .i64 0]).cells m).toList
theorem yv (m:Nat) : (yu m).length=m*2:=by
 rw [yu,Array.length_toList,size_zeroCells]
 rfl
theorem Xc (m:Nat) : (yu m).all (·.oneCell') =true:=by
 rw [FG]
 intro v hv
 rw [yu,Array.mem_toList_iff,Builtin.zeroCells] at hv
 obtain ⟨i,hi,rfl⟩ :=Array.mem_map.1 hv
 have:i % 2<2:=Nat.mod_lt _ Dc
 show(#[Value.int .i64 0,Value.int .i64 0][i % 2]!).oneCell'=true
 rcases(show i % 2=0∨i % 2=1 by omega) with e | e<;>rw [e] <;>rfl
def kc (xs:List Pn) (i:Nat) :Nat:= (qj (xs.take i)).length
theorem YT {xs:List Pn} {i:Nat} (h1:1≤i) (h:i<xs.length) (he:pt xs (i- 1) =pt xs i) :kc xs (i+1) =kc xs i:=by rw [kc,Kc h1 h,if_pos he,D7];rfl
theorem Xx {xs:List Pn} {i:Nat} (h1:1≤i) (h:i<xs.length) (he:¬pt xs (i- 1) =pt xs i) :kc xs (i+1) =kc xs i+1:=by rw [kc,Kc h1 h,if_neg he,DK];rfl
theorem Zt {xs:List Pn} {j i:Nat} : ((px xs j==px xs i) && (py xs j==py xs i)) =decide (pt xs i=pt xs j) :=by
 rw [FJ]
 simp [pt,Prod.ext_iff]
 constructor<;> (rintro⟨h1,h2⟩;exact⟨h1.symm,h2.symm⟩)
theorem VD {xs:List Pn} (h:∀j,1≤j→j<xs.length→¬pt xs (j- 1) =pt xs j) :qj xs=xs:=by
 have:=wH xs.length (DM _) h
 rwa [FR] at this
theorem ym {xs:List Pn} {rest:List Value} : (xs.flatMap jI++rest).take (xs.length*2) =xs.flatMap jI:=List.take_left' (J6 xs)
theorem xZ {xs:List Pn} {rest zs:List Value} {n c:Nat} (hn:xs.length=n) (hl: ((clo xs n).flatMap jI++rest).length=c*2) (hK:kc xs n*2+zs.length≤c*2) :
  (qi ((clo xs n).flatMap jI++rest) (0+kc xs n*2) zs).take ((qj xs).length*2) = (qj xs).flatMap jI:=by
 have e: (qj xs).length=kc xs n:=by rw [kc,←hn,FR]
 have ec:qj (xs.take n) =qj xs:=by rw [←hn,FR]
 apply List.ext_getElem?
 intro i
 rw [List.getElem?_take,e,Fo]
 by_cases hi:i<kc xs n*2
 ·rw [if_pos hi,xU i Om,if_neg Om,clo,Fs,DN,List.getElem?_append_left (by rw [J6];exact hi),ec]
 ·rw [if_neg hi,List.getElem?_eq_none (by rw [J6,e];omega)]
theorem zw (b T c n:Nat) (xs:List Pn) (rest:List Value) (w:World) (hh:w.heap[b]? =some (.cells (xs.flatMap jI++rest).toArray T (0,0))) (hc:n≤c) (hl: ((xs.flatMap jI) ++rest).length=c*2) (hn:xs.length=n) (hn2:n≤1048577) :
  Calls Try.prog 36 #[.slice (some ⟨b,0,none⟩) n c] w fun e w'=>e= .returned (.slice (some ⟨b,0,none⟩) (qj xs).length c)∧Wr b w w'∧∃cs:List Value,w'.heap[b]? =some (.cells cs.toArray T (0,0))∧cs.length=c*2∧cs.take ((qj xs).length*2) = (qj xs).flatMap jI:=by
 have hr2:∀(zs:List Pn),zs.length=n→∀k,k<n→∀w':World,w'.heap[b]? =some (.cells (zs.flatMap jI++rest).toArray T (0,0))→∀(q:Nat) (v:Value),[Value.int .i64 (px zs k),Value.int .i64 (py zs k)][q]? =some v→w'.cell? ⟨b,0+k*2+q,none⟩ =some v:=fun zs hz k hk w' hw q v hv=>by
  have hq:q<2:=by have:= (List.getElem?_eq_some_iff.1 hv).1;simpa using this
  rw [cell_of_row w' b _ _ T (0,0) hw,Fo]
  have hf:=wT zs k q Om hq
  rw [Vz Om] at hf
  have: (zs.flatMap jI++rest).toArray[k*2+q]? = (zs.flatMap jI)[k*2+q]? :=by
   rw [List.getElem?_toArray,List.getElem?_append_left (by rw [J6];omega)]
  rw [this,hf]
  exact hv
 refine QU (m:=61) (Try.func36) J J (lb J) (hh) ?_;refine Dh ?_;refine cZ (fun c1=> ?_) (fun c1=> ?_)
 ·refine S7 ?_;refine jG J (.tmp J) ?_
  intro w' hs
  exact⟨by rw [VD fun j h1 h2=>absurd h2 Om,hn],hs.over.wr,_,hs.cel (k:=0) rfl,hl,by rw [VD fun j h1 h2=>absurd h2 Om];exact ym⟩
 ·refine S8 ?_;refine qC (X:=Nat) (fun k=>1≤k∧k≤n∧(∀j,1≤j→j<k→¬pt xs (j- 1) =pt xs j)) (fun k=>n- k) (fun k=> [(3, .int .i64 (k:Int))]) (kK [0,2]) 1 (⟨DM _,by omega,fun j h1 h2=>absurd h2 Om⟩) ⟨J,sz⟩ ?_
  intro k hk L hL1
  refine V8 ?_;refine cZ (fun c2=> ?_) (fun c2=> ?_)
  ·refine S6 ?_;refine qb 10 ?_;refine dK 0 ?_;refine dK 1 ?_;refine dK 2 ?_;refine dZ 3 J (jj J J jh J (fun w' hs=>hr2 xs hn k Om w' (hs.cel (k:=0) J))) ?_;refine dK 4 ?_;refine dK 5 ?_;refine dZ 6 J ((Jy J J J Om Om).as (congrArg _ (show((k:Int) - 1) = ((k- 1:Nat) :Int) by omega))) ?_;refine dK 7 ?_;refine dZ 8 J (jj J J jh J (fun w' hs=>hr2 xs hn (k- 1) Om w' (hs.cel (k:=0) J))) ?_;refine dK 9 ?_;refine JI Kr ?_;refine S1 ?_;refine cZ (fun c3=> ?_) (fun c3=> ?_)
   ·have hkn:k<n:=Om
    have hdup:pt xs (k- 1) =pt xs k:=of_decide_eq_true (Zt▸c3)
    have hoff:Y2 0 k c 2=0+k*2:=by rw [Y2,if_neg Om]
    have hcs:qj (xs.take k) =xs.take k:=wH k Om hk.2.2
    have hck:kc xs k=k:=by rw [kc,hcs,Ff];omega
    have hck1:kc xs (k+1) =k:=by rw [YT hk.1 Om hdup,hck]
    have hclo:clo xs (k+1) =xs:=by rw [clo,Kc hk.1 Om,if_pos hdup,D7,hcs,Ff,Nat.min_eq_left Om,D1]
    refine S4 ?_;refine a9 ((uk J J J js Om).as ((zf (b:=b) (o:=0) (l:=k) (h:=n) (m:=c) (s:=2) hc Om).trans (by rw [hoff]))) ?_;refine S8 ?_;refine JR (X:=Nat) (fun j=>1≤j∧k+j≤n∧kc xs (k+j) +1≤k+j) (fun j=>n- j) (fun j=> [(3, .int .i64 (kc xs (k+j) :Int)),(5, .int .i64 (j:Int))]) (kK [0,2,10,11,12,13,16,17,18,19,20,21,22,23,24,25,26,27,28,4]) (fun j=> [.cel b T ((clo xs (k+j)).flatMap jI++rest)]) 1 (⟨DM _,by omega,by omega⟩) ⟨(by rw [hck1];rfl),sz⟩ (fun _ h=>h.upto ⟨by rw [hclo],trivial⟩) ?_
    intro j hj L hL2
    refine v9 ?_;refine r9 ?_
    have hcl: (clo xs (k+j)).length=n:= (Xm Om).trans hn
    refine S8 ?_;refine cZ (fun c4=> ?_) (fun c4=> ?_)
    ·have hjl:k+j<n:=Om
     have hrd:∀i,kc xs (k+j)≤i→i<n→∀w':World,w'.heap[b]? =some (.cells ((clo xs (k+j)).flatMap jI++rest).toArray T (0,0))→∀(q:Nat) (v:Value),[Value.int .i64 (px xs i),Value.int .i64 (py xs i)][q]? =some v→w'.cell? ⟨b,0+i*2+q,none⟩ =some v:=fun i h1 h2 w' hw q v hv=>hr2 (clo xs (k+j)) hcl i h2 w' hw q v (by rw [show px (clo xs (k+j)) i=px xs i from congrArg Prod.fst (Hn h1),show py (clo xs (k+j)) i=py xs i from congrArg Prod.snd (Hn h1)];exact hv)
     refine S6 ?_;refine qb 10 ?_;refine dK 0 ?_;refine dK 1 ?_;refine dK 2 ?_;refine dZ 3 J (jj J J jh J (fun w' hs q v hv=>by rw [show 0+k*2+j*2+q=0+ (k+j) *2+q by omega];exact hrd (k+j) Om hjl w' (hs.cel (k:=0) J) q v hv)) ?_;refine dK 4 ?_;refine dK 5 ?_;refine dZ 6 J ((Jy J J J Om Om).as (congrArg _ (show((j:Int) - 1) = ((j- 1:Nat) :Int) by omega))) ?_;refine dK 7 ?_;refine dZ 8 J (jj J J jh J (fun w' hs q v hv=>by rw [show 0+k*2+ (j- 1) *2+q=0+ (k+j- 1) *2+q by omega];exact hrd (k+j- 1) Om Om w' (hs.cel (k:=0) J) q v hv)) ?_;refine dK 9 ?_;refine JI Kr ?_;refine S1 ?_;refine cZ (fun c5=> ?_) (fun c5=> ?_)
     ·refine S7 ?_;refine a9 (jj J J jh J (fun w' hs q v hv=>by rw [show 0+k*2+j*2+q=0+ (k+j) *2+q by omega];exact hrd (k+j) Om hjl w' (hs.cel (k:=0) J) q v hv)) ?_;refine S2 ?_;refine qZ (k:=0) J J J J J (by rfl) jJ.szx J J (by rw [DK,J6,hcl];simp only [DT,D8];omega) ?_;refine Dj ?_
      exact Jo hL2 (j+1) (⟨by omega,by omega,by rw [←Nat.add_assoc,Xx Om Om (of_decide_eq_false (Zt▸c5))];omega⟩) Om ⟨vi (by rw [←Nat.add_assoc,Xx Om Om (of_decide_eq_false (Zt▸c5))];omega),vi Om,sz⟩ (fun _ h=>h.upto ⟨by rw [←Nat.add_assoc,L0 Om Om (of_decide_eq_false (Zt▸c5)) (by show kc xs (k+j) <xs.length;omega),ZD (by rw [J6,hcl];exact(show 0+kc xs (k+j) *2+2≤n*2 by omega)),Fo];rfl,trivial⟩)
     ·refine S8 ?_
      exact Jo hL2 (j+1) (⟨by omega,by omega,by rw [←Nat.add_assoc,YT Om Om (of_decide_eq_true (Zt▸c5))];omega⟩) Om ⟨vi (by rw [←Nat.add_assoc,YT Om Om (of_decide_eq_true (Zt▸c5))]),vi Om,sz⟩ (fun _ h=>h.upto ⟨by rw [←Nat.add_assoc,M6 Om Om (of_decide_eq_true (Zt▸c5))],trivial⟩)
    ·refine S9 ?_;refine a9 ((uk J J J js Om).as (zf (b:=b) (o:=0) (l:=kc xs (k+j)) (h:=n) (m:=c) (s:=2) hc Om)) ?_;refine S1 ?_;refine Le (k:=0) (zs:=yu (n- kc xs (k+j))) J js jJ J J Om J J (Xc _) (by rw [DK,J6,hcl,yv,Y2,if_neg Om];omega) ?_;refine N5 ?_;refine a9 ((wd J J J js Om).as (Uq _ _ _ _ _)) ?_;refine S8 ?_;refine jG J (.tmp J) ?_
     intro w' hs
     have hkj:k+j=n:=by omega
     have hK: (qj xs).length=kc xs n:=by rw [kc,←hn,FR]
     have hlc: ((clo xs n).flatMap jI++rest).length=c*2:=by rw [←hl,DK,DK,J6,J6,Xm Om]
     have hoK:Y2 0 (kc xs n) c 2=0+kc xs n*2:=by rw [Y2,if_neg (by rw [←hkj];omega)]
     rw [hkj,hoK] at hs
     rw [hkj] at hj
     exact⟨by rw [hK,hkj],hs.over.wr,_,hs.cel (k:=0) rfl,by rw [Kg];exact hlc,xZ hn hlc (by rw [yv];omega)⟩
   ·have hne:¬pt xs (k- 1) =pt xs k:=of_decide_eq_false (Zt▸c3)
    refine S8 ?_
    exact qy hL1 (k+1) (⟨by omega,by omega,fun j h1 h2=> (FI j k).elim (fun h3=>hk.2.2 j h1 h3) (fun h3=> (show k=j by omega)▸hne)⟩) Om ⟨vi Om,sz⟩ (u9 J)
  ·refine Dh ?_;refine jG J (.tmp J) ?_
   intro w' hs
   have hkn:k=n:=by omega
   have hw:=VD (xs:=xs) fun j h1 h2=>hk.2.2 j h1 Om
   exact⟨by rw [hw,hn],hs.over.wr,_,hs.cel (k:=0) rfl,hl,by rw [hw];exact ym⟩
theorem zy {N c n:Nat} {A:Option Addr} {xs:List Pn} {w:World} (h:w.ownsRow N 27 2 (.slice A n c) n (xs.flatMap jI)) (hn:xs.length=n) (h0:0<n) (hn2:n≤1048577) :
  Calls Try.prog 36 #[.slice A n c] w fun e w'=>e= .returned (.slice A (qj xs).length c)∧Wrs (qx N 27 2 n (xs.flatMap jI) (A,c)).F w w'∧(qx N 27 2 (qj xs).length ((qj xs).flatMap jI) (A,c)).P w':=by
 rcases h.2 with⟨_,e⟩ |⟨g,cap,cur,e,hb,hg,hcap,hmax,hsz,htk⟩
 ·omega
 ·injection e with e1 e2 e3
  subst e1 e3
  have hcur:cur.toList=xs.flatMap jI++cur.toList.drop (n*2) :=by rw [←htk,D1]
  have hg':w.heap[g]? =some (.cells (xs.flatMap jI++cur.toList.drop (n*2)).toArray 27 (0,0)) :=by rw [←hcur,Array.toArray_toList];exact hg
  have hle:=WY xs
  refine(zw g _ c n xs (cur.toList.drop (n*2)) w hg' hcap (by rw [←hcur];simpa using hsz) hn hn2).mono ?_
  rintro e w' ⟨rfl,hw,cs,hh,hcl,htk'⟩
  refine⟨rfl,⟨hw.os,hw.tape,hw.output,hw.size,fun q hq hne=>hw.block q hq (fun e=>hne (by subst e;rfl))⟩,?_⟩
  exact⟨J6 _, .inr ⟨g,c,_,rfl,hb,hh,by omega,hmax,by simpa using hcl,by rw [Ic];exact htk'⟩⟩
theorem wS (ls:List Leg) (i:Nat) : (WH ls i 0).flatMap jI= (VJ ls i).flatMap jI++ [.int .i64 (lg ls i).ax, .int .i64 (lg ls i).ay, .int .i64 (lg ls i).bx, .int .i64 (lg ls i).b_y]∧(WH ls i 0).length= (VJ ls i).length+2:=by
 unfold WH cz
 rw [D7,Fs,DK]
 exact⟨rfl,rfl⟩
theorem XK {ls:List Leg} {i k:Nat} (h:Qx (lA (lg ls i)) (lB (lg ls i)) (lA (lg ls k)) (lB (lg ls k)) =2) :WH ls i (k+1) =WH ls i k++ [Xn (lA (lg ls i)) (lB (lg ls i)) (lA (lg ls k)) (lB (lg ls k))] :=by
 rw [WH,cz,if_pos h,←DN]
 rfl
theorem Lh {ls:List Leg} {i k:Nat} (h:¬Qx (lA (lg ls i)) (lB (lg ls i)) (lA (lg ls k)) (lB (lg ls k)) =2) :WH ls i (k+1) =WH ls i k:=by
 rw [WH,cz,if_neg h,D7]
 rfl
theorem MR {ls:List Leg} (hok:∀l∈ls,kq l) {i:Nat} (hi:i<ls.length) :∀k,k≤i→∀p∈cz ls i k,Z1 p
 | 0,_,p,hp=>by simp [cz] at hp
 | k+1,hk,p,hp=>by
  unfold cz at hp
  rcases DV.1 hp with h | h
  ·exact MR hok hi k Om p h
  ·split at h
   ·rename_i hm
    rw [DP.1 h]
    exact M8 (Kb (Qw hok hi)) (Ko (Qw hok hi)) (Kb (Qw hok Om)) (Ko (Qw hok Om)) (MW hm).2
   ·simp at h
theorem HH {ls:List Leg} (hok:∀l∈ls,kq l) :∀i,i≤ls.length→∀p∈VJ ls i,Z1 p
 | 0,_,p,hp=>by simp [VJ] at hp
 | i+1,hi,p,hp=>by
  unfold VJ at hp
  rcases DV.1 hp with h | h
  ·rcases DV.1 h with h | h
   ·exact HH hok i Om p h
   ·simp only [DZ,Fp,or_false] at h
    rcases h with rfl | rfl
    ·exact(Kb (Qw hok Om)).wide
    ·exact(Ko (Qw hok Om)).wide
  ·exact MR hok Om i (DM _) p h
theorem Mb {ls:List Leg} {i:Nat} (h:0<i) :0< (VJ ls i).length:=by
 obtain ⟨j,rfl⟩ :∃j,i=j+1:=⟨i- 1,by omega⟩
 unfold VJ
 simp
 omega
theorem LC {B g c n:Nat} {xs:List Pn} {w:World} (h: (qx B 27 2 n (xs.flatMap jI) (some ⟨g,0,none⟩,c)).P w) (hl:xs.length=n) (hx:∀p∈xs,Z1 p) (hn:n≤1048576) (h0:0<n) :
  Calls Try.prog 34 #[.slice (some ⟨g,0,none⟩) n c, .func (.func 35) #[] #[]] w fun e w'=>∃x: {ys:List Pn//ys.Perm xs∧OZ ys},e= .returned (.tuple #[])∧Wrs (qx B 27 2 n (xs.flatMap jI) (some ⟨g,0,none⟩,c)).F w w'∧(qx 0 27 2 n (x.1.flatMap jI) (some ⟨g,0,none⟩,c)).P w'∧(∀b,(qx 0 27 2 n (x.1.flatMap jI) (some ⟨g,0,none⟩,c)).F b→(qx B 27 2 n (xs.flatMap jI) (some ⟨g,0,none⟩,c)).F b∨w.heap.size≤b)∧(qx 0 27 2 n (x.1.flatMap jI) (some ⟨g,0,none⟩,c)).B=0:=by
 refine(LD h hl hx hn h0).mono ?_
 rintro e w' ⟨rfl,ys,hp,hr,hw,ho⟩
 exact⟨⟨ys,hp,hr⟩,rfl,hw.mono fun b hb=>by subst hb;rfl,ho,fun b hb=> .inl hb,rfl⟩
theorem yF (A:Option Addr) (n c:Nat) (ls:List Leg) (w:World) (h:Legs w A n ls) (hok:∀l∈ls,kq l) (hn:n≤400) (hc:n≤c) (h0:0<n) :
  Calls Try.prog 15 #[.slice A n c] w fun e w'=>∃v,e= .returned v∧w'.ownsRow w.heap.size 27 2 v (Kf (VJ ls n)).length ((Kf (VJ ls n)).flatMap jI)∧Over w w':=by
 have hl:=h.1
 refine Jh (m:=64) (Try.func15) J J (lb J) ?_;refine S7 ?_;refine Ki (T:=27) (s:=2) ?_;refine N9 ?_;refine JR (X:=Nat×Option Addr×Nat) (fun x=>x.1≤n) (fun x=>n- x.1) (fun x=> [(3, .slice x.2.1 (VJ ls x.1).length x.2.2),(12, .int .i64 (x.1:Int))]) (kK [0,2,10,11]) (fun x=> [qx (Bs.N ⟨w,[]⟩) 27 2 (VJ ls x.1).length ((VJ ls x.1).flatMap jI) x.2]) (0,none,0) (DQ _) ⟨J,sz⟩ (fun _ h=>h) ?_
 intro⟨i,rA,rc⟩ hi L hL1
 refine v9 ?_;refine r9 ?_
 have hi:i≤n:=hi
 refine S5 ?_;refine cZ (fun c1=> ?_) (fun c1=> ?_)
 ·have hlt:i<n:=Om
  obtain ⟨eb,eo,rfl,_⟩ :=h.2 Om
  have hhl:=Ws ls i
  have hh2:i* (i+2)≤400*402:=FW Om Om
  refine S8 ?_;refine a9 (jj J J Qa J (U4 (fun w' hs=>h.over hs.fin) hlt)) ?_;refine S1 ?_;refine aL (fun b1=> ?_);refine Da ?_;refine JY J J (Km J J) J (lb J) (fun b2=> ?_);refine N1 ?_;refine Qe (k:=0) J js jJ Dc J Dc J J J (fun w' hs=>Kl hs (k:=2) J J) (by simp [Value.oneCell']) (by unfold maxLen;omega) Om (DM _) (fun r1=> ?_);refine N6 ?_;refine a9 ((wd J J J JG Om).as (Uq _ _ _ _ _)) ?_;refine S4 ?_;refine JR (X:=Nat×Option Addr×Nat) (fun x=>x.1≤i) (fun x=>i- x.1) (fun x=> [(3, .slice x.2.1 (WH ls i x.1).length x.2.2),(28, .int .i64 (x.1:Int))]) (kK [0,2,10,11,12,13,14,15,16,5,4,17,18,19,20,21,22,23,24,25,26,27]) (fun x=> [qx (Bs.N ⟨w,[]⟩) 27 2 (WH ls i x.1).length ((WH ls i x.1).flatMap jI) x.2, .cel b1 54 [.int .i64 (lg ls i).ax, .int .i64 (lg ls i).ay, .int .i64 (lg ls i).bx, .int .i64 (lg ls i).b_y], .cel b2 27 [.int .i64 (lg ls i).ax, .int .i64 (lg ls i).ay, .int .i64 (lg ls i).bx, .int .i64 (lg ls i).b_y]]) (0,r1) (DQ _) ⟨(by rw [(wS ls i).2];rfl),sz⟩ (fun _ h=>h.upto ⟨by rw [(wS ls i).1,(wS ls i).2],sz⟩) ?_
  intro⟨k,qA,qc⟩ hk L hL2
  refine v9 ?_;refine r9 ?_
  have hk:k≤i:=hk
  refine S5 ?_;refine cZ (fun c2=> ?_) (fun c2=> ?_)
  ·have hkt:k<i:=Om
   have hpl:=Mx (ls:=ls) (k:=k) (show i<400 by omega) hk
   refine S7 ?_;refine a9 (jj J J Qa J (U4 (fun w' hs=>h.over hs.fin) (show k<n by omega))) ?_;refine S1 ?_;refine aL (fun b3=> ?_);refine Db ?_;refine a9 (jN Vq J J (fun w _=>uC (lA (lg ls i)) (lB (lg ls i)) (lA (lg ls k)) (lB (lg ls k)) w (Kb (Qw hok Om)) (Ko (Qw hok Om)) (Kb (Qw hok Om)) (Ko (Qw hok Om)))) ?_;refine S4 ?_;refine aL (fun b4=> ?_);refine N9 ?_;refine cZ (fun c3=> ?_) (fun c3=> ?_)
   ·have hm2:Qx (lA (lg ls i)) (lB (lg ls i)) (lA (lg ls k)) (lB (lg ls k)) =2:=by rw [←(W8 (Kb (Qw hok Om)) (Ko (Qw hok Om)) (Kb (Qw hok Om)) (Ko (Qw hok Om))).1];exact c3
    refine Dg ?_;refine a9 (jN uc J J (fun w _=>Z4 (lA (lg ls i)) (lB (lg ls i)) (lA (lg ls k)) (lB (lg ls k)) w (Kb (Qw hok Om)) (Ko (Qw hok Om)) (Kb (Qw hok Om)) (Ko (Qw hok Om)) (MW hm2).2)) ?_;refine S1 ?_;refine JY J J (QL J) J (lb J) (fun b5=> ?_);refine N1 ?_;refine Qe (k:=0) J js jJ Dc J Dc J J J (fun w' hs=>Kl hs (k:=5) J J) (by simp [Value.oneCell']) (by unfold maxLen;omega) Om (DM _) (fun r2=> ?_);refine N8 ?_
    exact Jo hL2 ((k+1,r2)) ((show k+1≤i by omega)) (by simp only;omega) ⟨(by rw [XK hm2,DK];rfl),vi Om,sz⟩ (fun _ h=>h.upto ⟨by rw [XK hm2,DK,Fs];rfl,sz⟩)
   ·have hm2:¬Qx (lA (lg ls i)) (lB (lg ls i)) (lA (lg ls k)) (lB (lg ls k)) =2:=by rw [←(W8 (Kb (Qw hok Om)) (Ko (Qw hok Om)) (Kb (Qw hok Om)) (Ko (Qw hok Om))).1];exact c3
    refine S7 ?_
    exact Jo hL2 ((k+1,qA,qc)) ((show k+1≤i by omega)) (by simp only;omega) ⟨(by rw [Lh hm2];rfl),vi Om,sz⟩ (fun _ h=>h.upto ⟨by rw [Lh hm2],sz⟩)
  ·refine Dg ?_
   exact Jo hL1 ((i+1,qA,qc)) ((show i+1≤n by omega)) (by simp only;omega) ⟨(by rw [show k=i by omega];rfl),vi Om,sz⟩ (fun _ h=>h.upto ⟨by rw [show k=i by omega];rfl,trivial⟩)
 ·have hin:i=n:=by omega
  subst hin
  have hpos:=Mb (ls:=ls) h0
  have hbd:=HH hok i Om
  have hhl:=Ws ls i
  have hh2:i* (i+2)≤400*402:=FW Om Om
  refine S6 ?_;refine Kh (fun w hs=>WL (k:=0) J hs hpos) ?_
  rintro⟨eg,rfl⟩
  refine S3 ?_;refine JT (k:=0) (X:= {ys:List Pn//ys.Perm (VJ ls i)∧OZ ys}) (v:=fun _=> .tuple #[]) (r':=fun x=>qx 0 27 2 _ (x.1.flatMap jI) (some ⟨eg,0,none⟩,rc)) qU J J J Dc J (fun w1 hs=>LC (hs.all 0 _ J).1 J hbd Om hpos) ?_
  rintro⟨ys,hperm,hris⟩
  refine N5 ?_;refine Zm (k:=0) (r':=qx 0 27 2 (qj ys).length ((qj ys).flatMap jI) (some ⟨eg,0,none⟩,rc)) qY J J J Dc J (fun w1 hs=>zy (hs.all 0 _ J).1 hperm.length_eq hpos Om) (fun _ h=>h) J ?_;refine N3 ?_;refine jG J (.tmp J) ?_
  intro w' hs
  have hr:=hs.all 0 _ rfl
  have he:=Hr hris (fun q=>hperm.mem_iff)
  exact⟨_,rfl,by rw [←he];exact Zy hr.1 (fun b hb=> (hr.2.1 b hb).elim id (fun h=>by cases h)),hs.fin⟩
theorem Mc (v:Value) (w:World) :Calls Try.prog 74 #[.slice none 0 0, .int .i64 0, .int .i64 0,v] w fun e w'=>e= .returned (.tuple #[])∧Over w w':=by
 refine Jh (m:=53) (Try.func74) J J (lb J) ?_;refine S7 ?_;refine qC (X:=Unit) (fun u=>True) (fun u=>0) (fun u=> [(8, .int .i64 1)]) (kK [0,1,2,3]) () (trivial) ⟨J,sz⟩ ?_
 intro u hu L hL1
 refine V7 ?_;refine cZ (fun c1=> ?_) (fun c1=> ?_)
 ·omega
 ·refine S4 ?_;refine kQ J ?_
  intro w' hs
  exact⟨rfl,hs.fin⟩
theorem Mw (l:Int) (v:Value) (w:World) :Calls Try.prog 55 #[.slice none 0 0, .int .i64 0, .int .i64 0, .int .i64 l,v] w fun e w'=>e= .returned (.tuple #[])∧Over w w':=by
 refine Jh (m:=148) (Try.func55) J J (lb J) ?_;refine S9 ?_;refine qC (X:=Unit) (fun u=>True) (fun u=>0) (fun u=> []) (kK [0,1,2,3,4,10,11]) () (trivial) sz ?_
 intro u hu L hL1
 refine Dx ?_;refine cZ (fun c1=> ?_) (fun c1=> ?_)
 ·refine S6 ?_;refine a9 (jN Q7 J J (fun w h=>Mc v w)) ?_;refine S6 ?_;refine YF J ?_
  intro w' hs
  exact⟨rfl,hs.fin⟩
 ·omega
theorem Mh (w:World) :Calls Try.prog 56 #[.int .u64 0] w fun e w'=> (∃l:Int,e= .returned (.int .i64 l))∧w=w':=
 (Any.bits_Len (SlLaysF0.n15.bits (P:=Try.prog) (ρ:=Vj) {LA with}) 0 w Om Om).mono fun _ _ ⟨he,hw⟩ =>⟨⟨_,he⟩,hw.symm⟩
theorem LB (w:World) :Calls Try.prog 34 #[.slice none 0 0, .func (.func 35) #[] #[]] w fun e w'=>e= .returned (.tuple #[])∧Over w w':=by
 go_enter Try.func34,Try.ntmps34
 go_wp2_with fail
 go_at_call 56
 refine(Mh _).mono ?_
 rintro e w1 ⟨⟨l,rfl⟩,rfl⟩
 go_wp2_with fail
 go_at_call 55
 refine(Mw _ _ _).mono ?_
 rintro e w1 ⟨rfl,hb⟩
 go_wp2_with fail
 go_end0
 exact⟨rfl,hb⟩
theorem zx (w:World) :Calls Try.prog 36 #[.slice none 0 0] w fun e w'=>e= .returned (.slice none 0 0)∧Over w w':=by
 refine Jh (m:=61) (Try.func36) J J (lb J) ?_;refine Dh ?_;refine cZ (fun c1=> ?_) (fun c1=> ?_)
 ·refine S7 ?_;refine jG J (.tmp J) ?_
  intro w' hs
  exact⟨rfl,hs.fin⟩
 ·omega
theorem yE (A:Option Addr) (c:Nat) (w:World) :
  Calls Try.prog 15 #[.slice A 0 c] w fun e w'=>e= .returned (.slice none 0 0)∧Over w w':=by
 refine Jh (m:=64) (Try.func15) J J (lb J) ?_;refine Dm ?_;refine qC (X:=Unit) (fun u=>True) (fun u=>0) (fun u=> [(3, .slice none 0 0),(12, .int .i64 0)]) (kK [0,2,10,11]) () (trivial) ⟨J,sz⟩ ?_
 intro u hu L hL1
 refine V5 ?_;refine cZ (fun c1=> ?_) (fun c1=> ?_)
 ·omega
 ·refine S8 ?_;refine a9 (jN qU J J (fun w h=>LB w)) ?_;refine S4 ?_;refine a9 (jN qY J J (fun w h=>zx w)) ?_;refine S3 ?_;refine jG J (.tmp J) ?_
  intro w' hs
  exact⟨rfl,hs.fin⟩
theorem wA (A:Option Addr) (n c:Nat) (ls:List Leg) (w:World) (h:Legs w A n ls) (hok:∀l∈ls,kq l) (hn:n≤400) (hc:n≤c) :
  Calls Try.prog 15 #[.slice A n c] w fun e w'=>∃v,e= .returned v∧w'.ownsRow w.heap.size 27 2 v (Kf (VJ ls n)).length ((Kf (VJ ls n)).flatMap jI)∧Over w w':=by
 by_cases h0:0<n
 ·exact yF A n c ls w h hok hn hc h0
 ·obtain rfl:n=0:=by omega
  refine(yE A c w).mono ?_
  rintro e w' ⟨rfl,hO⟩
  exact⟨_,rfl,⟨rfl, .inl ⟨rfl,rfl⟩⟩,hO⟩
def xl (rs:List jx) :List Pn:=if Je rs=true then Kf (VJ (jv rs) (jv rs).length) else []
def Oh (rs:List jx) :Int:=if Je rs=true then 0 else 1
theorem Lu {rs:List jx} (h:Je rs=true) : (jv rs).length≤400:=by
 simp only [Je,DL,decide_eq_true_eq] at h
 exact h.2
theorem yx (A:Option Addr) (n c:Nat) (rs:List jx) (w:World) (h:Rings w A n rs) (ht: (Qq rs:Int)≤1048577) :
  Calls Try.prog 5 #[kP A n c] w fun e w'=>∃A' c',e= .returned (.tuple #[.slice A' (xl rs).length c', .int .i64 (Oh rs)])∧OwnP w.heap.size w'.heap.size w' A' (xl rs).length (xl rs)∧Over w w':=by
 have hl:=h.1
 refine Jh (m:=10) (Try.func5) J J (lb J) ?_;refine S3 ?_;refine aX (fun b1=> ?_);refine N7 ?_;refine a9 (jN Qz J J (fun w1 hs=>Kt A n c rs w1 (h.over hs.fin) ht)) ?_;refine S2 ?_;refine cZ (fun c1=> ?_) (fun c1=> ?_)
 ·refine S7 ?_;refine qS J (.tmp J) (.tmp J) ?_
  intro w' hs
  exact⟨none,0,by simp [xl,Oh,c1],by simp only [xl,c1];exact OwnP.nil none,hs.fin⟩
 ·have hr:Je rs=true:=by simpa using c1
  have hok:=U5 hr
  have h4:=Lu hr
  refine S6 ?_;refine QQ Kx (v:=fun x=> .slice x.1 _ x.2) (r:=fun x=>qx 0 54 4 _ _ x) (H:=fun _=>True) J J J (lb J) (fun w1 hs=>KH (VF A n c rs w1 (h.over hs.fin) ht)) ?_
  rintro⟨eA,ec⟩ -
  refine N1 ?_;refine QQ ve (v:=fun x=> .slice x.1 _ x.2) (r:=fun x=>qx 0 27 2 _ _ x) (H:=fun _=>True) J J J (lb J) (fun w1 hs=>KH (wA eA _ ec (jv rs) w1 (Vh (k:=1) J J w1 hs) hok h4 (U6 (hs.all 1 _ J).1))) ?_
  rintro⟨pA,pc⟩ -
  refine N4 ?_;refine qS J (.tmp J) (.tmp J) ?_
  intro w' hs
  have e1:xl rs=Kf (VJ (jv rs) (jv rs).length) :=if_pos hr
  have e2:Oh rs=0:=if_pos hr
  exact⟨pA,pc,by rw [e1,e2],by rw [e1];exact MD hs (k:=2) rfl rfl,hs.fin⟩
end Go.Proofs.Ytpncbbcmoiiipaa
