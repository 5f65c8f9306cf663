import Derived.Test.YtbahojdbmmjkcaaGreatPRounds
import Derived.Test.YtbahojdbmmjkcaaGreatPSlc
import Derived.Test.YtbahojdbmmjkcaaGreatPCmp
set_option linter.unusedVariables false
set_option linter.unusedSimpArgs false
namespace Go.Proofs.YtbahojdbmmjkcaaGreat
open Go Go.RowKit
variable {A:Option Addr} {c i n:Nat} {cur:Array Value} {ls:List Leg} {os:Array Obj} {rest:List Value} {w:World} {xs:List Pn}
set_option maxRecDepth 100000
set_option maxHeartbeats 4000000
open Go Go.Shelf Go.RowKit
open Go Go.Shelf
open Go Go.Shelf Go.RowKit Go.Lib Go.Sort
structure Pw where
 val:Pn
 ok:zQ val
instance:Inhabited Pw:=⟨⟨(0,0),⟨⟨by decide,by decide⟩,by decide,by decide⟩⟩⟩
def Hr (x:Pw) :List Value:=Ju x.val
theorem NG (x y:Pw) :ltOf (fun x y:Pw=>VN x.val y.val) x y=decide (wc x.val y.val) :=by
 unfold ltOf
 rw [jhc,decide_eq_true_iff,decide_eq_true_iff]
 exact LM _ _
theorem jgs:SWO (ltOf fun x y:Pw=>VN x.val y.val) where
 irrefl x:=by rw [NG];exact decide_eq_false (Q7 _)
 trans x y z h1 h2:=by rw [NG,decide_eq_true_iff] at*;exact vF h1 h2
 ntrans x y z h1 h2:=by
  rw [NG] at*
  simp only [decide_eq_false_iff_not] at*
  unfold wc at*
  omega
theorem EX (blk off size:Nat) (w:World) :CmpLays Tryz.prog 112 #[] Hr 2 (fun x y:Pw=>VN x.val y.val) blk off size w:=
 fun _ _ _ _ x y=>Uh x.val y.val x.ok y.ok _
theorem jgd (w:World) : (isAgg (yU.t 24)).run Tryz.prog w= .ok true w:=Tryz.isAgg28 w
theorem jgq (w:World) : (Go.sizeOf (yU.t 24)).run Tryz.prog w= .ok 2 w:=Tryz.sizeOf28 w
def y3 (xs:List Pn) (hx:∀p∈xs,zQ p) :List Pw:=xs.attach.map fun p=>Pw.mk p.1 (hx p.1 p.2)
theorem TV (xs:List Pn) (hx:∀p∈xs,zQ p) : (y3 xs hx).length=xs.length:=by simp [y3]
theorem TW (xs:List Pn) (hx:∀p∈xs,zQ p) : (y3 xs hx).map (·.val) =xs:=by
 rw [y3,List.map_map]
 exact List.attach_map_subtype_val xs
theorem I4 (d:Array Pw) (j:Nat) (h:j<d.size*2) : ((d.toList.map (·.val)).flatMap Ju)[j]? =some (flatK Hr 2 d)[j]! :=by
 rw [get_flatK _ _ _ _ h,RT _ _ (by simpa using h)]
 have hj:j/2<d.size:=by omega
 rw [getElem!_pos d (j/2) hj]
 simp only [jhx,Array.getElem_toList]
 have h2:j % 2< (Hr d[j/2]).length:=by simp [Hr,Ju];omega
 rw [getElem!_pos (Hr d[j/2]) (j % 2) h2]
 exact List.getElem?_eq_getElem h2
theorem B9 {g m T:Nat} {d':Array Pw} (hg:w.heap[g]? =some (.cells cur T (0,0))) (b:Nat) (hb:b<w.heap.size) :
  (sortWorldK Hr 2 w g 0 m d' os).heap[b]? =if g=b then some (.cells (Sort.putCells id 0 (flatK Hr 2 d') cur) T (0,0)) else w.heap[b]? :=by
 show((w.heap.modify g (Sort.onCells (Sort.putCells id 0 (flatK Hr 2 d')))) ++os)[b]? =_
 rw [Array.getElem?_append_left (by simpa using hb),Array.getElem?_modify]
 split
 ·rename_i e
  subst e
  rw [hg]
  rfl
 ·rfl
theorem jca {B g:Nat} (h:w.ownsRow B 28 2 (.slice (some ⟨g,0,none⟩) n c) n (xs.flatMap Ju)) (hl:xs.length=n) (hx:∀p∈xs,zQ p) (hn:n≤1048576) (h0:0<n) :
  Calls Tryz.prog 111 #[.slice (some ⟨g,0,none⟩) n c, .func (.func 112) #[] #[]] w fun e w'=>e= .returned (.tuple #[])∧∃ys,ys.Perm xs∧Ris ys∧Wrs (· =g) w w'∧w'.ownsRow 0 28 2 (.slice (some ⟨g,0,none⟩) n c) n (ys.flatMap Ju) :=by
 rcases h.2 with⟨_,e⟩ |⟨g',cap,cur,e,hb,hg,hcap,hmax,hsz,htk⟩
 ·omega
 ·injection e with e1 e2 e3
  injection e1 with e1
  injection e1 with e1
  subst e1 e3
  have hds: (y3 xs hx).toArray.size=n:=by simp [TV,hl]
  have hval: ((y3 xs hx).toArray.toList.map (·.val)) =xs:=by rw [jhw];exact TW xs hx
  have hH:HoldsK Hr 2 w g 0 (y3 xs hx).toArray:=by
   intro j hj
   rw [size_flatK,hds] at hj
   refine⟨?_,?_⟩
   ·rw [jgT,cell_of_row w g j cur _ (0,0) hg]
    have:=I4 (y3 xs hx).toArray j (by rw [hds];exact hj)
    rw [hval,←htk,List.getElem?_take,if_pos hj] at this
    simpa using this
   ·unfold World.frozen?
    simp only [hg]
    simp
  have eg:∀args w,(callFunc 112 args).run Tryz.prog w= .ok (.enter 112 args) w:=enters_of Tryz.func112 Kr rfl
  have hcon:=AnyQ.slices_SortFunc jb7 2 jgd jgq Hr (fun _=>rfl) (fun x v hv=>by simp [Hr,Ju] at hv;rcases hv with rfl | rfl<;>rfl) (fun x y:Pw=>VN x.val y.val) jgs 112 #[] g 0 c (y3 xs hx).toArray w eg (EX g 0 _ w) hH (JZ hg) Om
  rw [hds] at hcon
  refine hcon.mono ?_
  rintro e w' ⟨rfl,d',m,os,hp,hs,rfl⟩
  have hd':d'.size=n:=hp.1.trans hds
  refine⟨J,d'.toList.map (·.val),?_,?_,?_,?_⟩
  ·have:=hp.2.2.map (·.val)
   rw [←hd',Array.extract_size,hd',←hds,Array.extract_size,hval] at this
   exact this
  ·refine jho.2 fun i j hi hj hij=> ?_
   simp only [jgF,Array.length_toList] at hi hj
   have:=hs i j (jgw _) hij Om
   rw [NG,decide_eq_false_iff_not,getElem!_pos d' j hj,getElem!_pos d' i hi] at this
   simpa using this
  ·refine⟨J,J,J,by exact size_sortWorldK_c _ _ _ _ _ _ _ _,fun b hb hne=> ?_⟩
   rw [B9 hg b hb,if_neg (fun e=>hne e.symm)]
  ·refine⟨by rw [q5];simp [hd'], .inr ⟨g,c,Sort.putCells id 0 (flatK Hr 2 d') cur,J,jgw _,?_,hcap,hmax,by simp [Sort.putCells,hsz],?_⟩⟩
   ·rw [B9 hg g (JZ hg),if_pos rfl]
   ·apply List.ext_getElem?
    intro j
    rw [List.getElem?_take]
    by_cases hj:j<n*2
    ·rw [if_pos hj,I4 d' j (by rw [hd'];exact hj),Array.getElem?_toList]
     have hjc:j<cur.size:=by omega
     simp only [Sort.putCells,Array.getElem?_mapIdx,Array.getElem?_eq_getElem hjc,jh6,size_flatK,hd']
     rw [if_pos ⟨jgw _,by omega⟩,Nat.sub_zero]
     rfl
    ·rw [if_neg hj,List.getElem?_eq_none (by rw [q5];simp [hd'];omega)]
theorem ZA:∀(l:List Pn) (q p:Pn),QG (l++ [q] ++ [p]) =QG (l++ [q]) ++ (if q=p then [] else [p])
 | [],q,p=>by
  simp only [jhb,List.singleton_append,QG]
  split
  ·rename_i h;rw [h]
  ·rfl
 | [a],q,p=>by
  have h:=ZA [] q p
  simp only [jhb,List.singleton_append,jg0] at h⊢
  rw [QG,h]
  conv=>rhs;rw [QG]
  split<;>rfl
 | a::b::l,q,p=>by
  have h:=ZA (b::l) q p
  simp only [jg0] at h⊢
  rw [QG,h]
  conv=>rhs;rw [QG]
  split<;>rfl
theorem Ww (h1:1≤i) (h:i<xs.length) :QG (xs.take (i+1)) =QG (xs.take i) ++ (if pt xs (i- 1) =pt xs i then [] else [pt xs i]) :=by
 obtain ⟨j,rfl⟩ :∃j,i=j+1:=⟨i- 1,by omega⟩
 rw [jgE h,jgE (show j<xs.length by omega),ZA,Kl h,Kl (show j<xs.length by omega)]
 rfl
theorem XM:∀l:List Pn,(QG l).length≤l.length
 | [] =>jgx _
 | [_] =>jgx _
 | p::q::l=>by
  have:=XM (q::l)
  unfold QG
  simp only [jgD] at*
  split
  ·omega
  ·rw [jgD];omega
theorem Zz {xs:List Pn} :∀i,i≤xs.length→(∀j,1≤j→j<i→¬pt xs (j- 1) =pt xs j)→QG (xs.take i) =xs.take i
 | 0,_,_=>rfl
 | 1,h,_=>by
  match xs,h with
  | p::l,_=>rfl
 | i+2,h,hj=>by
  rw [Ww Om Om,Zz (i+1) Om (fun j h1 h2=>hj j h1 Om),if_neg (hj (i+1) Om Om),←Kl Om]
  exact(jgE Om).symm
def clo (xs:List Pn) (i:Nat) :List Pn:=QG (xs.take i) ++xs.drop (QG (xs.take i)).length
theorem Ni (h:i≤xs.length) : (clo xs i).length=xs.length:=by
 have:=XM (xs.take i)
 rw [jgJ] at this
 rw [clo,jgv,jgQ]
 omega
theorem EV {j:Nat} (h: (QG (xs.take i)).length≤j) :pt (clo xs i) j=pt xs j:=by
 simp only [pt,px,py,List.getD,clo,List.getElem?_append_right h,List.getElem?_drop]
 rw [show(QG (xs.take i)).length+ (j- (QG (xs.take i)).length) =j by omega]
theorem jeL (h1:1≤i) (h:i<xs.length) (he:pt xs (i- 1) =pt xs i) :clo xs (i+1) =clo xs i:=by rw [clo,Ww h1 h,if_pos he,jgW];rfl
theorem jcM (h1:1≤i) (h:i<xs.length) (he:¬pt xs (i- 1) =pt xs i) (hk: (QG (xs.take i)).length<xs.length) : (clo xs (i+1)).flatMap Ju=qB ((clo xs i).flatMap Ju) ((QG (xs.take i)).length*2) (Ju (pt xs i)) :=by
 rw [clo,clo,Ww h1 h,if_neg he]
 generalize QG (xs.take i) =C at*
 rw [jg3 hk,jgv,jh0,jgG,jgG,jgG,jgU]
 have hC:C.length*2= (C.flatMap Ju).length:= (q5 C).symm
 rw [hC]
 simp only [Ju,qB,jgU,List.flatMap_nil,jgW,jg0,jhb]
 rw [jhF _ _ (jgx _),Nat.sub_self,jh4,jhF _ _ Om,show(C.flatMap Ju).length+1- (C.flatMap Ju).length=1 by omega]
 simp [Ju]
def Ok (m:Nat) :List Value:= (Builtin.zeroCells (Value.agg #[.int .i64 0, .int .i64 0]).cells m).toList
theorem Ol (m:Nat) : (Ok m).length=m*2:=by
 rw [Ok,Array.length_toList,size_zeroCells]
 rfl
theorem TY (m:Nat) : (Ok m).all (·.oneCell') =true:=by
 rw [jhR]
 intro v hv
 rw [Ok,Array.mem_toList_iff,Builtin.zeroCells] at hv
 obtain ⟨i,hi,rfl⟩ :=Array.mem_map.1 hv
 have:i % 2<2:=Nat.mod_lt _ Dc
 show(#[Value.int .i64 0,Value.int .i64 0][i % 2]!).oneCell'=true
 rcases(show i % 2=0∨i % 2=1 by omega) with e | e<;>rw [e] <;>rfl
def kc (xs:List Pn) (i:Nat) :Nat:= (QG (xs.take i)).length
theorem DY (h1:1≤i) (h:i<xs.length) (he:pt xs (i- 1) =pt xs i) :kc xs (i+1) =kc xs i:=by rw [kc,Ww h1 h,if_pos he,jgW];rfl
theorem Nx (h1:1≤i) (h:i<xs.length) (he:¬pt xs (i- 1) =pt xs i) :kc xs (i+1) =kc xs i+1:=by rw [kc,Ww h1 h,if_neg he,jgv];rfl
theorem RU {j:Nat} : ((px xs j==px xs i) && (py xs j==py xs i)) =decide (pt xs i=pt xs j) :=by
 rw [jhc]
 simp [pt,Prod.ext_iff]
 constructor<;> (rintro⟨h1,h2⟩;exact⟨h1.symm,h2.symm⟩)
theorem YO (h:∀j,1≤j→j<xs.length→¬pt xs (j- 1) =pt xs j) :QG xs=xs:=by
 have:=Zz xs.length (jgx _) h
 rwa [jhf] at this
theorem M7 : (xs.flatMap Ju++rest).take (xs.length*2) =xs.flatMap Ju:=List.take_left' (q5 xs)
theorem TK {zs:List Value} (hn:xs.length=n) (hl: ((clo xs n).flatMap Ju++rest).length=c*2) (hK:kc xs n*2+zs.length≤c*2) :
  (qB ((clo xs n).flatMap Ju++rest) (0+kc xs n*2) zs).take ((QG xs).length*2) = (QG xs).flatMap Ju:=by
 have e: (QG xs).length=kc xs n:=by rw [kc,←hn,jhf]
 have ec:QG (xs.take n) =QG xs:=by rw [←hn,jhf]
 apply List.ext_getElem?
 intro i
 rw [List.getElem?_take,e,jgT]
 by_cases hi:i<kc xs n*2
 ·rw [if_pos hi,MX i Om,if_neg Om,clo,jgG,jgB,List.getElem?_append_left (by rw [q5];exact hi),ec]
 ·rw [if_neg hi,List.getElem?_eq_none (by rw [q5,e];omega)]
theorem Id (b T c n:Nat) (xs:List Pn) (rest:List Value) (w:World) (hh:w.heap[b]? =some (.cells (xs.flatMap Ju++rest).toArray T (0,0))) (hc:n≤c) (hl: ((xs.flatMap Ju) ++rest).length=c*2) (hn:xs.length=n) (hn2:n≤1048577) :
  Calls Tryz.prog 113 #[.slice (some ⟨b,0,none⟩) n c] w fun e w'=>e= .returned (.slice (some ⟨b,0,none⟩) (QG xs).length c)∧Wr b w w'∧∃cs:List Value,w'.heap[b]? =some (.cells cs.toArray T (0,0))∧cs.length=c*2∧cs.take ((QG xs).length*2) = (QG xs).flatMap Ju:=by
 have hr2:∀(zs:List Pn),zs.length=n→∀k,k<n→∀w':World,w'.heap[b]? =some (.cells (zs.flatMap Ju++rest).toArray T (0,0))→∀(q:Nat) (v:Value),[Value.int .i64 (px zs k),Value.int .i64 (py zs k)][q]? =some v→w'.cell? ⟨b,0+k*2+q,none⟩ =some v:=fun zs hz k hk w' hw q v hv=>by
  have hq:q<2:=by have:= (List.getElem?_eq_some_iff.1 hv).1;simpa using this
  rw [cell_of_row w' b _ _ T (0,0) hw,jgT]
  have hf:=Gg zs k q Om hq
  rw [yq Om] at hf
  have: (zs.flatMap Ju++rest).toArray[k*2+q]? = (zs.flatMap Ju)[k*2+q]? :=by
   rw [List.getElem?_toArray,List.getElem?_append_left (by rw [q5];omega)]
  rw [this,hf]
  exact hv
 refine QF (m:=61) (Tryz.func113) J J (lb J) (hh) ?_;refine S11 ?_;refine cZ (fun c1=> ?_) (fun c1=> ?_)
 ·refine S7 ?_;refine jL J (.tmp J) ?_
  intro w' hs
  exact⟨by rw [YO fun j h1 h2=>absurd h2 Om,hn],hs.over.wr,_,hs.cel (k:=0) rfl,hl,by rw [YO fun j h1 h2=>absurd h2 Om];exact M7⟩
 ·refine S8 ?_;refine J9 (X:=Nat) (fun k=>1≤k∧k≤n∧(∀j,1≤j→j<k→¬pt xs (j- 1) =pt xs j)) (fun k=>n- k) (fun k=> [(3, .int .i64 (k:Int))]) (kK [0,2]) 1 (⟨jgx _,by omega,fun j h1 h2=>absurd h2 Om⟩) ⟨J,sz⟩ ?_
  intro k hk L hL1
  refine V8 ?_;refine cZ (fun c2=> ?_) (fun c2=> ?_)
  ·refine S6 ?_;refine JS 10 ?_;refine dK 0 ?_;refine dK 1 ?_;refine dK 2 ?_;refine dZ 3 J (jk J J jj J (fun w' hs=>hr2 xs hn k Om w' (hs.cel (k:=0) J))) ?_;refine dK 4 ?_;refine dK 5 ?_;refine dZ 6 J ((JL J J J Om Om).as (congrArg _ (show((k:Int) - 1) = ((k- 1:Nat) :Int) by omega))) ?_;refine dK 7 ?_;refine dZ 8 J (jk J J jj J (fun w' hs=>hr2 xs hn (k- 1) Om w' (hs.cel (k:=0) J))) ?_;refine dK 9 ?_;refine JI Kr ?_;refine S1 ?_;refine cZ (fun c3=> ?_) (fun c3=> ?_)
   ·have hkn:k<n:=Om
    have hdup:pt xs (k- 1) =pt xs k:=of_decide_eq_true (RU▸c3)
    have hoff:Ys 0 k c 2=0+k*2:=by rw [Ys,if_neg Om]
    have hcs:QG (xs.take k) =xs.take k:=Zz k Om hk.2.2
    have hck:kc xs k=k:=by rw [kc,hcs,jgJ];omega
    have hck1:kc xs (k+1) =k:=by rw [DY hk.1 Om hdup,hck]
    have hclo:clo xs (k+1) =xs:=by rw [clo,Ww hk.1 Om,if_pos hdup,jgW,hcs,jgJ,jhu Om,jgI]
    refine S4 ?_;refine a9 ((vG J J J jB Om).as ((ut (b:=b) (o:=0) (l:=k) (h:=n) (m:=c) (s:=2) hc Om).trans (by rw [hoff]))) ?_;refine S8 ?_;refine JN (X:=Nat) (fun j=>1≤j∧k+j≤n∧kc xs (k+j) +1≤k+j) (fun j=>n- j) (fun j=> [(3, .int .i64 (kc xs (k+j) :Int)),(5, .int .i64 (j:Int))]) (kK [0,2,10,11,12,13,16,17,18,19,20,21,22,23,24,25,26,27,28,4]) (fun j=> [.cel b T ((clo xs (k+j)).flatMap Ju++rest)]) 1 (⟨jgx _,by omega,by omega⟩) ⟨(by rw [hck1];rfl),sz⟩ (fun _ h=>h.upto ⟨by rw [hclo],trivial⟩) ?_
    intro j hj L hL2
    refine v9 ?_;refine r9 ?_
    have hcl: (clo xs (k+j)).length=n:= (Ni Om).trans hn
    refine S8 ?_;refine cZ (fun c4=> ?_) (fun c4=> ?_)
    ·have hjl:k+j<n:=Om
     have hrd:∀i,kc xs (k+j)≤i→i<n→∀w':World,w'.heap[b]? =some (.cells ((clo xs (k+j)).flatMap Ju++rest).toArray T (0,0))→∀(q:Nat) (v:Value),[Value.int .i64 (px xs i),Value.int .i64 (py xs i)][q]? =some v→w'.cell? ⟨b,0+i*2+q,none⟩ =some v:=fun i h1 h2 w' hw q v hv=>hr2 (clo xs (k+j)) hcl i h2 w' hw q v (by rw [show px (clo xs (k+j)) i=px xs i from congrArg Prod.fst (EV h1),show py (clo xs (k+j)) i=py xs i from congrArg Prod.snd (EV h1)];exact hv)
     refine S6 ?_;refine JS 10 ?_;refine dK 0 ?_;refine dK 1 ?_;refine dK 2 ?_;refine dZ 3 J (jk J J jj J (fun w' hs q v hv=>by rw [show 0+k*2+j*2+q=0+ (k+j) *2+q by omega];exact hrd (k+j) Om hjl w' (hs.cel (k:=0) J) q v hv)) ?_;refine dK 4 ?_;refine dK 5 ?_;refine dZ 6 J ((JL J J J Om Om).as (congrArg _ (show((j:Int) - 1) = ((j- 1:Nat) :Int) by omega))) ?_;refine dK 7 ?_;refine dZ 8 J (jk J J jj J (fun w' hs q v hv=>by rw [show 0+k*2+ (j- 1) *2+q=0+ (k+j- 1) *2+q by omega];exact hrd (k+j- 1) Om Om w' (hs.cel (k:=0) J) q v hv)) ?_;refine dK 9 ?_;refine JI Kr ?_;refine S1 ?_;refine cZ (fun c5=> ?_) (fun c5=> ?_)
     ·refine S7 ?_;refine a9 (jk J J jj J (fun w' hs q v hv=>by rw [show 0+k*2+j*2+q=0+ (k+j) *2+q by omega];exact hrd (k+j) Om hjl w' (hs.cel (k:=0) J) q v hv)) ?_;refine S2 ?_;refine qt (k:=0) J J J J J (by rfl) jH.szx J J (by rw [jgv,q5,hcl];simp only [jgD,jgY];omega) ?_;refine S13 ?_
      exact j4 hL2 (j+1) (⟨by omega,by omega,by rw [←jhD,Nx Om Om (of_decide_eq_false (RU▸c5))];omega⟩) Om ⟨vi (by rw [←jhD,Nx Om Om (of_decide_eq_false (RU▸c5))];omega),vi Om,sz⟩ (fun _ h=>h.upto ⟨by rw [←jhD,jcM Om Om (of_decide_eq_false (RU▸c5)) (by show kc xs (k+j) <xs.length;omega),zn (by rw [q5,hcl];exact(show 0+kc xs (k+j) *2+2≤n*2 by omega)),jgT];rfl,trivial⟩)
     ·refine S8 ?_
      exact j4 hL2 (j+1) (⟨by omega,by omega,by rw [←jhD,DY Om Om (of_decide_eq_true (RU▸c5))];omega⟩) Om ⟨vi (by rw [←jhD,DY Om Om (of_decide_eq_true (RU▸c5))]),vi Om,sz⟩ (fun _ h=>h.upto ⟨by rw [←jhD,jeL Om Om (of_decide_eq_true (RU▸c5))],trivial⟩)
    ·refine S9 ?_;refine a9 ((vG J J J jB Om).as (ut (b:=b) (o:=0) (l:=kc xs (k+j)) (h:=n) (m:=c) (s:=2) hc Om)) ?_;refine S1 ?_;refine RL (k:=0) (zs:=Ok (n- kc xs (k+j))) J jB jH J J Om J J (TY _) (by rw [jgv,q5,hcl,Ol,Ys,if_neg Om];omega) ?_;refine N5 ?_;refine a9 ((kS J J J jB Om).as (w6 _ _ _ _ _)) ?_;refine S8 ?_;refine jL J (.tmp J) ?_
     intro w' hs
     have hkj:k+j=n:=by omega
     have hK: (QG xs).length=kc xs n:=by rw [kc,←hn,jhf]
     have hlc: ((clo xs n).flatMap Ju++rest).length=c*2:=by rw [←hl,jgv,jgv,q5,q5,Ni Om]
     have hoK:Ys 0 (kc xs n) c 2=0+kc xs n*2:=by rw [Ys,if_neg (by rw [←hkj];omega)]
     rw [hkj,hoK] at hs
     rw [hkj] at hj
     exact⟨by rw [hK,hkj],hs.over.wr,_,hs.cel (k:=0) rfl,by rw [QE];exact hlc,TK hn hlc (by rw [Ol];omega)⟩
   ·have hne:¬pt xs (k- 1) =pt xs k:=of_decide_eq_false (RU▸c3)
    refine S8 ?_
    exact JY hL1 (k+1) (⟨by omega,by omega,fun j h1 h2=> (jhj j k).elim (fun h3=>hk.2.2 j h1 h3) (fun h3=> (show k=j by omega)▸hne)⟩) Om ⟨vi Om,sz⟩ (u9 J)
  ·refine S11 ?_;refine jL J (.tmp J) ?_
   intro w' hs
   have hkn:k=n:=by omega
   have hw:=YO (xs:=xs) fun j h1 h2=>hk.2.2 j h1 Om
   exact⟨by rw [hw,hn],hs.over.wr,_,hs.cel (k:=0) rfl,hl,by rw [hw];exact M7⟩
theorem Ig {N:Nat} (h:w.ownsRow N 28 2 (.slice A n c) n (xs.flatMap Ju)) (hn:xs.length=n) (h0:0<n) (hn2:n≤1048577) :
  Calls Tryz.prog 113 #[.slice A n c] w fun e w'=>e= .returned (.slice A (QG xs).length c)∧Wrs (JQ N 28 2 n (xs.flatMap Ju) (A,c)).F w w'∧(JQ N 28 2 (QG xs).length ((QG xs).flatMap Ju) (A,c)).P w':=by
 rcases h.2 with⟨_,e⟩ |⟨g,cap,cur,e,hb,hg,hcap,hmax,hsz,htk⟩
 ·omega
 ·injection e with e1 e2 e3
  subst e1 e3
  have hcur:cur.toList=xs.flatMap Ju++cur.toList.drop (n*2) :=by rw [←htk,jgI]
  have hg':w.heap[g]? =some (.cells (xs.flatMap Ju++cur.toList.drop (n*2)).toArray 28 (0,0)) :=by rw [←hcur,jhB];exact hg
  have hle:=XM xs
  refine(Id g _ c n xs (cur.toList.drop (n*2)) w hg' hcap (by rw [←hcur];simpa using hsz) hn hn2).mono ?_
  rintro e w' ⟨rfl,hw,cs,hh,hcl,htk'⟩
  refine⟨rfl,⟨hw.os,hw.tape,hw.output,hw.size,fun q hq hne=>hw.block q hq (fun e=>hne (by subst e;rfl))⟩,?_⟩
  exact⟨q5 _, .inr ⟨g,c,_,rfl,hb,hh,by omega,hmax,by simpa using hcl,by rw [jhw];exact htk'⟩⟩
theorem ZV (ls:List Leg) (i:Nat) : (W7 ls i 0).flatMap Ju= (Yr ls i).flatMap Ju++ [.int .i64 (lg ls i).ax, .int .i64 (lg ls i).ay, .int .i64 (lg ls i).bx, .int .i64 (lg ls i).b_y]∧(W7 ls i 0).length= (Yr ls i).length+2:=by
 unfold W7 cz
 rw [jgW,jgG,jgv]
 exact⟨rfl,rfl⟩
theorem Pf {k:Nat} (h:Q4 (lA (lg ls i)) (lB (lg ls i)) (lA (lg ls k)) (lB (lg ls k)) =2) :W7 ls i (k+1) =W7 ls i k++ [DF (lA (lg ls i)) (lB (lg ls i)) (lA (lg ls k)) (lB (lg ls k))] :=by
 rw [W7,cz,if_pos h,←jgB]
 rfl
theorem jbx {k:Nat} (h:¬Q4 (lA (lg ls i)) (lB (lg ls i)) (lA (lg ls k)) (lB (lg ls k)) =2) :W7 ls i (k+1) =W7 ls i k:=by
 rw [W7,cz,if_neg h,jgW]
 rfl
theorem jef {ls:List Leg} (hok:∀l∈ls,qr l) {i:Nat} (hi:i<ls.length) :∀k,k≤i→∀p∈cz ls i k,zQ p
 | 0,_,p,hp=>by simp [cz] at hp
 | k+1,hk,p,hp=>by
  unfold cz at hp
  rcases jgL.1 hp with h | h
  ·exact jef hok hi k Om p h
  ·split at h
   ·rename_i hm
    rw [jgC.1 h]
    exact jeM (VR (QK hok hi)) (wM (QK hok hi)) (VR (QK hok Om)) (wM (QK hok Om)) (jaV hm).2
   ·simp at h
theorem jaq {ls:List Leg} (hok:∀l∈ls,qr l) :∀i,i≤ls.length→∀p∈Yr ls i,zQ p
 | 0,_,p,hp=>by simp [Yr] at hp
 | i+1,hi,p,hp=>by
  unfold Yr at hp
  rcases jgL.1 hp with h | h
  ·rcases jgL.1 h with h | h
   ·exact jaq hok i Om p h
   ·simp only [jgK,jhz,or_false] at h
    rcases h with rfl | rfl
    ·exact(VR (QK hok Om)).wide
    ·exact(wM (QK hok Om)).wide
  ·exact jef hok Om i (jgx _) p h
theorem jc4 (h:0<i) :0< (Yr ls i).length:=by
 obtain ⟨j,rfl⟩ :∃j,i=j+1:=⟨i- 1,by omega⟩
 unfold Yr
 simp
 omega
theorem jb9 {B g:Nat} (h: (JQ B 28 2 n (xs.flatMap Ju) (some ⟨g,0,none⟩,c)).P w) (hl:xs.length=n) (hx:∀p∈xs,zQ p) (hn:n≤1048576) (h0:0<n) :
  Calls Tryz.prog 111 #[.slice (some ⟨g,0,none⟩) n c, .func (.func 112) #[] #[]] w fun e w'=>∃x: {ys:List Pn//ys.Perm xs∧Ris ys},e= .returned (.tuple #[])∧Wrs (JQ B 28 2 n (xs.flatMap Ju) (some ⟨g,0,none⟩,c)).F w w'∧(JQ 0 28 2 n (x.1.flatMap Ju) (some ⟨g,0,none⟩,c)).P w'∧(∀b,(JQ 0 28 2 n (x.1.flatMap Ju) (some ⟨g,0,none⟩,c)).F b→(JQ B 28 2 n (xs.flatMap Ju) (some ⟨g,0,none⟩,c)).F b∨w.heap.size≤b)∧(JQ 0 28 2 n (x.1.flatMap Ju) (some ⟨g,0,none⟩,c)).B=0:=by
 refine(jca h hl hx hn h0).mono ?_
 rintro e w' ⟨rfl,ys,hp,hr,hw,ho⟩
 exact⟨⟨ys,hp,hr⟩,rfl,hw.mono fun b hb=>by subst hb;rfl,ho,fun b hb=> .inl hb,rfl⟩
theorem OF (A:Option Addr) (n c:Nat) (ls:List Leg) (w:World) (h:Legs w A n ls) (hok:∀l∈ls,qr l) (hn:n≤400) (hc:n≤c) (h0:0<n) :
  Calls Tryz.prog 57 #[.slice A n c] w fun e w'=>∃v,e= .returned v∧w'.ownsRow w.heap.size 28 2 v (kf (Yr ls n)).length ((kf (Yr ls n)).flatMap Ju)∧Over w w':=by
 have hl:=h.1
 refine jT (m:=64) (Tryz.func57) J J (lb J) ?_;refine S7 ?_;refine kh (T:=28) (s:=2) ?_;refine N9 ?_;refine JN (X:=Nat×Option Addr×Nat) (fun x=>x.1≤n) (fun x=>n- x.1) (fun x=> [(3, .slice x.2.1 (Yr ls x.1).length x.2.2),(12, .int .i64 (x.1:Int))]) (kK [0,2,10,11]) (fun x=> [JQ (Bs.N ⟨w,[]⟩) 28 2 (Yr ls x.1).length ((Yr ls x.1).flatMap Ju) x.2]) (0,none,0) (jgw _) ⟨J,sz⟩ (fun _ h=>h) ?_
 intro⟨i,rA,rc⟩ hi L hL1
 refine v9 ?_;refine r9 ?_
 have hi:i≤n:=hi
 refine S5 ?_;refine cZ (fun c1=> ?_) (fun c1=> ?_)
 ·have hlt:i<n:=Om
  obtain ⟨eb,eo,rfl,_⟩ :=h.2 Om
  have hhl:=zD ls i
  have hh2:i* (i+2)≤400*402:=Nat.mul_le_mul Om Om
  refine S8 ?_;refine a9 (jk J J qm J (uV (fun w' hs=>h.over hs.fin) hlt)) ?_;refine S1 ?_;refine aL (fun b1=> ?_);refine N12 ?_;refine Jw J J (vT J J) J (lb J) (fun b2=> ?_);refine N1 ?_;refine JV (k:=0) J jB jH Dc J Dc J J J (fun w' hs=>qR hs (k:=2) J J) (by simp [Value.oneCell']) (by unfold maxLen;omega) Om (jgx _) (fun r1=> ?_);refine N6 ?_;refine a9 ((kS J J J jV Om).as (w6 _ _ _ _ _)) ?_;refine S4 ?_;refine JN (X:=Nat×Option Addr×Nat) (fun x=>x.1≤i) (fun x=>i- x.1) (fun x=> [(3, .slice x.2.1 (W7 ls i x.1).length x.2.2),(28, .int .i64 (x.1:Int))]) (kK [0,2,10,11,12,13,14,15,16,5,4,17,18,19,20,21,22,23,24,25,26,27]) (fun x=> [JQ (Bs.N ⟨w,[]⟩) 28 2 (W7 ls i x.1).length ((W7 ls i x.1).flatMap Ju) x.2, .cel b1 96 [.int .i64 (lg ls i).ax, .int .i64 (lg ls i).ay, .int .i64 (lg ls i).bx, .int .i64 (lg ls i).b_y], .cel b2 28 [.int .i64 (lg ls i).ax, .int .i64 (lg ls i).ay, .int .i64 (lg ls i).bx, .int .i64 (lg ls i).b_y]]) (0,r1) (jgw _) ⟨(by rw [(ZV ls i).2];rfl),sz⟩ (fun _ h=>h.upto ⟨by rw [(ZV ls i).1,(ZV ls i).2],sz⟩) ?_
  intro⟨k,qA,qc⟩ hk L hL2
  refine v9 ?_;refine r9 ?_
  have hk:k≤i:=hk
  refine S5 ?_;refine cZ (fun c2=> ?_) (fun c2=> ?_)
  ·have hkt:k<i:=Om
   have hpl:=Pe (ls:=ls) (k:=k) (show i<400 by omega) hk
   refine S7 ?_;refine a9 (jk J J qm J (uV (fun w' hs=>h.over hs.fin) (show k<n by omega))) ?_;refine S1 ?_;refine aL (fun b3=> ?_);refine N13 ?_;refine a9 (jJ HA J J (fun w _=>RC (lA (lg ls i)) (lB (lg ls i)) (lA (lg ls k)) (lB (lg ls k)) w (VR (QK hok Om)) (wM (QK hok Om)) (VR (QK hok Om)) (wM (QK hok Om)))) ?_;refine S4 ?_;refine aL (fun b4=> ?_);refine N9 ?_;refine cZ (fun c3=> ?_) (fun c3=> ?_)
   ·have hm2:Q4 (lA (lg ls i)) (lB (lg ls i)) (lA (lg ls k)) (lB (lg ls k)) =2:=by rw [←(BJ (VR (QK hok Om)) (wM (QK hok Om)) (VR (QK hok Om)) (wM (QK hok Om))).1];exact c3
    refine S10 ?_;refine a9 (jJ X0 J J (fun w _=>SB (lA (lg ls i)) (lB (lg ls i)) (lA (lg ls k)) (lB (lg ls k)) w (VR (QK hok Om)) (wM (QK hok Om)) (VR (QK hok Om)) (wM (QK hok Om)) (jaV hm2).2)) ?_;refine S1 ?_;refine Jw J J (qX J) J (lb J) (fun b5=> ?_);refine N1 ?_;refine JV (k:=0) J jB jH Dc J Dc J J J (fun w' hs=>qR hs (k:=5) J J) (by simp [Value.oneCell']) (by unfold maxLen;omega) Om (jgx _) (fun r2=> ?_);refine N8 ?_
    exact j4 hL2 ((k+1,r2)) ((show k+1≤i by omega)) (by simp only;omega) ⟨(by rw [Pf hm2,jgv];rfl),vi Om,sz⟩ (fun _ h=>h.upto ⟨by rw [Pf hm2,jgv,jgG];rfl,sz⟩)
   ·have hm2:¬Q4 (lA (lg ls i)) (lB (lg ls i)) (lA (lg ls k)) (lB (lg ls k)) =2:=by rw [←(BJ (VR (QK hok Om)) (wM (QK hok Om)) (VR (QK hok Om)) (wM (QK hok Om))).1];exact c3
    refine S7 ?_
    exact j4 hL2 ((k+1,qA,qc)) ((show k+1≤i by omega)) (by simp only;omega) ⟨(by rw [jbx hm2];rfl),vi Om,sz⟩ (fun _ h=>h.upto ⟨by rw [jbx hm2],sz⟩)
  ·refine S10 ?_
   exact j4 hL1 ((i+1,qA,qc)) ((show i+1≤n by omega)) (by simp only;omega) ⟨(by rw [show k=i by omega];rfl),vi Om,sz⟩ (fun _ h=>h.upto ⟨by rw [show k=i by omega];rfl,trivial⟩)
 ·have hin:i=n:=by omega
  subst hin
  have hpos:=jc4 (ls:=ls) h0
  have hbd:=jaq hok i Om
  have hhl:=zD ls i
  have hh2:i* (i+2)≤400*402:=Nat.mul_le_mul Om Om
  refine S6 ?_;refine Q1 (fun w hs=>KX (k:=0) J hs hpos) ?_
  rintro⟨eg,rfl⟩
  refine S3 ?_;refine W2 (k:=0) (X:= {ys:List Pn//ys.Perm (Yr ls i)∧Ris ys}) (v:=fun _=> .tuple #[]) (r':=fun x=>JQ 0 28 2 _ (x.1.flatMap Ju) (some ⟨eg,0,none⟩,rc)) kM J J J Dc J (fun w1 hs=>jb9 (hs.all 0 _ J).1 J hbd Om hpos) ?_
  rintro⟨ys,hperm,hris⟩
  refine N5 ?_;refine Va (k:=0) (r':=JQ 0 28 2 (QG ys).length ((QG ys).flatMap Ju) (some ⟨eg,0,none⟩,rc)) Kb J J J Dc J (fun w1 hs=>Ig (hs.all 0 _ J).1 hperm.length_eq hpos Om) (fun _ h=>h) J ?_;refine N3 ?_;refine jL J (.tmp J) ?_
  intro w' hs
  have hr:=hs.all 0 _ rfl
  have he:=EZ hris (fun q=>hperm.mem_iff)
  exact⟨_,rfl,by rw [←he];exact KN hr.1 (fun b hb=> (hr.2.1 b hb).elim id (fun h=>by cases h)),hs.fin⟩
theorem jc5 (v:Value) (w:World) :Calls Tryz.prog 218 #[.slice none 0 0, .int .i64 0, .int .i64 0,v] w fun e w'=>e= .returned (.tuple #[])∧Over w w':=by
 refine jT (m:=53) (Tryz.func218) J J (lb J) ?_;refine S7 ?_;refine J9 (X:=Unit) (fun u=>True) (fun u=>0) (fun u=> [(8, .int .i64 1)]) (kK [0,1,2,3]) () (trivial) ⟨J,sz⟩ ?_
 intro u hu L hL1
 refine V7 ?_;refine cZ (fun c1=> ?_) (fun c1=> ?_)
 ·omega
 ·refine S4 ?_;refine Q5 J ?_
  intro w' hs
  exact⟨rfl,hs.fin⟩
theorem jdz (l:Int) (v:Value) (w:World) :Calls Tryz.prog 167 #[.slice none 0 0, .int .i64 0, .int .i64 0, .int .i64 l,v] w fun e w'=>e= .returned (.tuple #[])∧Over w w':=by
 refine jT (m:=148) (Tryz.func167) J J (lb J) ?_;refine S9 ?_;refine J9 (X:=Unit) (fun u=>True) (fun u=>0) (fun u=> []) (kK [0,1,2,3,4,10,11]) () (trivial) sz ?_
 intro u hu L hL1
 refine V14 ?_;refine cZ (fun c1=> ?_) (fun c1=> ?_)
 ·refine S6 ?_;refine a9 (jJ vZ J J (fun w h=>jc5 v w)) ?_;refine S6 ?_;refine zu J ?_
  intro w' hs
  exact⟨rfl,hs.fin⟩
 ·omega
theorem jdb (w:World) :Calls Tryz.prog 168 #[.int .u64 0] w fun e w'=> (∃l:Int,e= .returned (.int .i64 l))∧w=w':=
 (Any.bits_Len (SlLaysF0.n15.bits (P:=Tryz.prog) (ρ:=yU) {jb7 with}) 0 w Om Om).mono fun _ _ ⟨he,hw⟩ =>⟨⟨_,he⟩,hw.symm⟩
theorem jb8 (w:World) :Calls Tryz.prog 111 #[.slice none 0 0, .func (.func 112) #[] #[]] w fun e w'=>e= .returned (.tuple #[])∧Over w w':=by
 go_enter Tryz.func111,Tryz.ntmps111
 go_wp2_with fail
 go_at_call 168
 refine(jdb _).mono ?_
 rintro e w1 ⟨⟨l,rfl⟩,rfl⟩
 go_wp2_with fail
 go_at_call 167
 refine(jdz _ _ _).mono ?_
 rintro e w1 ⟨rfl,hb⟩
 go_wp2_with fail
 go_end0
 exact⟨rfl,hb⟩
theorem Ie (w:World) :Calls Tryz.prog 113 #[.slice none 0 0] w fun e w'=>e= .returned (.slice none 0 0)∧Over w w':=by
 refine jT (m:=61) (Tryz.func113) J J (lb J) ?_;refine S11 ?_;refine cZ (fun c1=> ?_) (fun c1=> ?_)
 ·refine S7 ?_;refine jL J (.tmp J) ?_
  intro w' hs
  exact⟨rfl,hs.fin⟩
 ·omega
theorem OE (A:Option Addr) (c:Nat) (w:World) :
  Calls Tryz.prog 57 #[.slice A 0 c] w fun e w'=>e= .returned (.slice none 0 0)∧Over w w':=by
 refine jT (m:=64) (Tryz.func57) J J (lb J) ?_;refine S16 ?_;refine J9 (X:=Unit) (fun u=>True) (fun u=>0) (fun u=> [(3, .slice none 0 0),(12, .int .i64 0)]) (kK [0,2,10,11]) () (trivial) ⟨J,sz⟩ ?_
 intro u hu L hL1
 refine V5 ?_;refine cZ (fun c1=> ?_) (fun c1=> ?_)
 ·omega
 ·refine S8 ?_;refine a9 (jJ kM J J (fun w h=>jb8 w)) ?_;refine S4 ?_;refine a9 (jJ Kb J J (fun w h=>Ie w)) ?_;refine S3 ?_;refine jL J (.tmp J) ?_
  intro w' hs
  exact⟨rfl,hs.fin⟩
theorem OD (A:Option Addr) (n c:Nat) (ls:List Leg) (w:World) (h:Legs w A n ls) (hok:∀l∈ls,qr l) (hn:n≤400) (hc:n≤c) :
  Calls Tryz.prog 57 #[.slice A n c] w fun e w'=>∃v,e= .returned v∧w'.ownsRow w.heap.size 28 2 v (kf (Yr ls n)).length ((kf (Yr ls n)).flatMap Ju)∧Over w w':=by
 by_cases h0:0<n
 ·exact OF A n c ls w h hok hn hc h0
 ·obtain rfl:n=0:=by omega
  refine(OE A c w).mono ?_
  rintro e w' ⟨rfl,hO⟩
  exact⟨_,rfl,⟨rfl, .inl ⟨rfl,rfl⟩⟩,hO⟩
theorem Gj {rs:List jK} (h:JW rs=true) : (Jx rs).length≤400:=by
 simp only [JW,jgy,decide_eq_true_eq] at h
 exact h.2
end Go.Proofs.YtbahojdbmmjkcaaGreat
