import Derived.Test.YtkagkgjjfdkoaaaGreatMHot
import Derived.Shelf.SlSortCmp.WholeK
import Derived.Test.YtkagkgjjfdkoaaaGreatMReg3
import Derived.Test.YtkagkgjjfdkoaaaGreatMSnapped
import Derived.Test.YtkagkgjjfdkoaaaGreatMSimp
import Derived.MapKept
set_option linter.unusedVariables false
set_option linter.unusedSimpArgs false
namespace Go.Proofs.YtkagkgjjfdkoaaaGreat
open Go Go.Shelf Go.RowKit Go.Lib Go.Sort
def VQ (p q:Pn) :Int:=if p.2=q.2 then Wh (p.1- q.1) else Wh (p.2- q.2)
theorem Lw (p q:Pn) :VQ p q<0↔wq p q:=by
 have h1:=W9 (p.1- q.1)
 have h2:=W9 (p.2- q.2)
 unfold VQ wq
 split<;>omega
set_option maxHeartbeats 1000000 in
theorem u7 (p q:Pn) (hp:zJ p) (hq:zJ q) (W:World) :Calls Tryz.prog 76 #[.agg #[.int .i64 p.1, .int .i64 p.2], .agg #[.int .i64 q.1, .int .i64 q.2]] W fun e w'=>e= .returned (.int .i64 (VQ p q))∧∃q' os',w'=grow (W.drewN q') os':=by
 obtain ⟨⟨p1,p2⟩,p3,p4⟩ :=hp
 obtain ⟨⟨q1,q2⟩,q3,q4⟩ :=hq
 by_cases h:p.2=q.2
 ·have e:VQ p q=Wh (p.1- q.1) :=if_pos h
  have hc:=Ka (p.1- q.1)
  rw [e]
  generalize Wh (p.1- q.1) =r at hc⊢
  go_enter Tryz.func76,Tryz.ntmps76
  go_wp2_with (go_at_call 107;refine(hc _).mono ?_;rintro e w' ⟨rfl,rfl⟩)
  go_ret
  exact⟨rfl,0,_,by rw [alloc_eq_grow,alloc_eq_grow,grow_grow];rfl⟩
 ·have e:VQ p q=Wh (p.2- q.2) :=if_neg h
  have hc:=Ka (p.2- q.2)
  rw [e]
  generalize Wh (p.2- q.2) =r at hc⊢
  go_enter Tryz.func76,Tryz.ntmps76
  go_wp2_with (go_at_call 107;refine(hc _).mono ?_;rintro e w' ⟨rfl,rfl⟩)
  go_ret
  exact⟨rfl,0,_,by rw [alloc_eq_grow,alloc_eq_grow,grow_grow];rfl⟩
theorem Y4 {l r vs:List Value} :∀ {off:Nat},off+vs.length≤l.length→qk (l++r) off vs=qk l off vs++r:=by
 induction vs generalizing l with
 | nil=>intro off _;rfl
 | cons v vs ih=>
  intro off h
  simp only [jeP] at h
  rw [qk,qk,List.set_append_left _ _ (by omega)]
  exact ih (by simp;omega)
end Go.Proofs.YtkagkgjjfdkoaaaGreat
namespace Go.Proofs.YtkagkgjjfdkoaaaGreat
open Go Go.RowKit
section
variable {P:Program} {n:Nat} {env:List (Nat×Value)} {w0:Bs} {Rs:List Res} {o:Oper} {Q:Exit→Act→World→Prop} {K:Act→World→Prop}
theorem jb9 {w:World} {B T s m:Nat} {xs:List Value} {x:Option Addr×Nat} (h: (JP B T s m xs x).P w) (h0:0<m) :x.1=some ⟨wN x.1,0,none⟩ :=by
 have h:w.ownsRow B T s (.slice x.1 m x.2) m xs:=h
 rcases h.2 with⟨_,e⟩ |⟨g,cap,cur,e,_⟩
 ·omega
 ·injection e with e1
  rw [e1]
  rfl
theorem Xc {w:World} {B T s m i:Nat} {xs:List Value} {x:Option Addr×Nat} {v:Value} (h: (JP B T s m xs x).P w) (hv:xs[i]? =some v) :w.cell? ⟨wN x.1,i,none⟩ =some v:=by
 have h:w.ownsRow B T s (.slice x.1 m x.2) m xs:=h
 have hi:= (List.getElem?_eq_some_iff.1 hv).1
 rcases h.2 with⟨_,e⟩ |⟨g,cap,cur,e,hb,hg,hcap,hmax,hsz,htk⟩
 ·have:=h.1
  rw [e,Nat.zero_mul] at this
  omega
 ·injection e with e1
  rw [e1,wN,cell_of_row w g i cur T (0,0) hg]
  have h1:=h.1
  rw [←htk,List.getElem?_take,if_pos (by omega)] at hv
  simpa using hv
theorem Ua {α:Type} (f:α→List Value) {m:Nat} (hf:∀a,(f a).length=m) {l:List α} {k off:Nat} {a a':α} (hk:l[k]? =some a) (pre old vs post:List Value) (h1:f a=pre++old++post) (h2:f a'=pre++vs++post) (hl:old.length=vs.length) (ho:off=k*m+pre.length) :qk (l.flatMap f) off vs= (l.set k a').flatMap f:=by
 obtain ⟨hj,e⟩ :=List.getElem?_eq_some_iff.1 hk
 have e1:l=l.take k++a::l.drop (k+1) :=by rw [←e,←jfi hj,jeU]
 have e2:l.set k a'=l.take k++a'::l.drop (k+1) :=List.set_eq_take_append_cons_drop .. |>.trans (if_pos hj)
 have e3: ((l.take k).flatMap f).length=k*m:=by rw [wZ f m hf,jeV,jfI (by omega)]
 have s:=uT vs ((l.take k).flatMap f++pre) old (post++ (l.drop (k+1)).flatMap f) hl
 rw [jeC,e3,←ho] at s
 rw [e2,jeQ,je4,h2]
 conv=>lhs;rw [e1,jeQ,je4,h1]
 simp only [jeN] at s⊢
 exact s
theorem P4 {w:World} {B T s m j:Nat} {xs:List Value} {x:Option Addr×Nat} (h: (JP B T s m xs x).P w) (hj:j≤m) :Src s (sliced x.1 0 j x.2 s) j (xs.take (j*s)) w:=by
 have h:w.ownsRow B T s (.slice x.1 m x.2) m xs:=h
 have hm:j*s≤m*s:=Nat.mul_le_mul_right s hj
 refine⟨by rw [jeV,h.1];omega,?_⟩
 rcases h.2 with⟨e,e0⟩ |⟨g,cap,cur,e,hb,hg,hcap,hmax,hsz,htk⟩
 ·left
  have hj0:j=0:=by omega
  injection e with e1 _ e3
  rw [e1,e3,hj0]
  exact⟨rfl,rfl⟩
 ·right
  injection e with e1 _ e3
  refine⟨⟨g,0,none⟩,x.2,?_,fun q u hu=> ?_⟩
  ·rw [e1]
   unfold sliced
   split
   ·rfl
   ·simp [Qz]
  ·have hq:= (List.getElem?_eq_some_iff.1 hu).1
   rw [jeV] at hq
   rw [List.getElem?_take,if_pos (by omega),←htk,List.getElem?_take,if_pos (by have:=h.1;omega)] at hu
   rw [Qz,je3,cell_of_row w g q cur T (0,0) hg]
   simpa using hu
theorem PZ {w:World} {B T s m j:Nat} {xs:List Value} {x:Option Addr×Nat} (h: (JP B T s m xs x).P w) (hj:j≤m) :Src s (sliced x.1 j m x.2 s) (m- j) (xs.drop (j*s)) w:=by
 have h:w.ownsRow B T s (.slice x.1 m x.2) m xs:=h
 refine⟨by rw [je2,h.1,Nat.sub_mul],?_⟩
 rcases h.2 with⟨e,e0⟩ |⟨g,cap,cur,e,hb,hg,hcap,hmax,hsz,htk⟩
 ·left
  subst e0
  have hj0:j=0:=by omega
  injection e with e1 _ e3
  rw [e1,e3,hj0]
  exact⟨rfl,rfl⟩
 ·right
  injection e with e1 _ e3
  by_cases hz:x.2=j
  ·refine⟨⟨g,0,none⟩,x.2- j,by rw [e1];unfold sliced;rw [if_pos hz],fun q u hu=> ?_⟩
   have hq:= (List.getElem?_eq_some_iff.1 hu).1
   have hjm:j=m:=by omega
   rw [je2,h.1,hjm] at hq
   omega
  ·refine⟨⟨g,0+j*s,none⟩,x.2- j,by rw [e1];unfold sliced;rw [if_neg hz];simp [Qz],fun q u hu=> ?_⟩
   have hq:= (List.getElem?_eq_some_iff.1 hu).1
   rw [je2,h.1] at hq
   rw [List.getElem?_drop,←htk,List.getElem?_take,if_pos (by omega)] at hu
   rw [Qz,je3,cell_of_row w g _ cur T (0,0) hg]
   simpa using hu
theorem uz {T U m:Nat} {x y:Operand} {k B s q off:Nat} {r:Option Addr×Nat} {cs vs:List Value} {v:Value} (ho:o.op= .store T x y) (hd:o.dst=none) (hx:ev env x=some (.pointer (some ⟨wN r.1,off,none⟩))) (hy:ev env y=some v) (hv:v.cells=vs.toArray) (h1:vs.all (·.oneCell') =true)
  (hz: (P.info? T).map (·.size) =some m) (hm:vs.length=m) (hk:Rs[k]? =some (JP B U s q cs r)) (h0:0<vs.length) (hlt:off+vs.length≤cs.length) (h:At n env w0 (Rs.set k (JP B U s q (qk cs off vs) r)) K) :At n env w0 Rs (fun a w=>o.wp P a w K Q) :=fun a w hf hs=>by
 have hr:w.ownsRow B U s (.slice r.1 q r.2) q cs:= (hs.all k _ hk).1
 have hlow:=fun b hb=> (hs.all k _ hk).2.1 b hb
 rcases hr.2 with⟨_,e0⟩ |⟨g,cap,cur,e,hb,hg,hcap,hmax,hsz,htk⟩
 ·have:=hr.1
  rw [e0,Nat.zero_mul] at this
  omega
 ·injection e with e1 _ e3
  have hgb:wN r.1=g:=by rw [e1];rfl
  rw [hgb] at hx
  have hcl:cs.length=q*s:=hr.1
  have hcur:cur.toList=cs++cur.toList.drop (q*s) :=by rw [←htk,jeU]
  have hlen:cs.length≤cur.toList.length:=by rw [hcur,jeC];omega
  have hh:w.heap[g]? =some (.cells cur.toList.toArray U (0,0)) :=by rw [jfJ];exact hg
  have hso: (sizeOf T).run P w= .ok m w:=by
   obtain ⟨i,hi,hs'⟩ :=jga.1 hz
   simp [sizeOf,typeInfo,hi,hs']
  have hst:=Vo (P:=P) vs off 0 cur.toList w hh (by omega) h1
  have hrun: (execOp a.eval o).run P w= .ok .skip (w.setRow g (qk cur.toList off vs).toArray) :=by
   unfold execOp
   simp only [ho,hf.ev hx,hf.ev hy,Instr.storeAt,Instr.sureAddr,storeVar,hv]
   simp only [Sem.run_bind,Sem.run_pure,Result.andThen_ok,hso]
   have:¬(vs.toArray.size≠m) :=by simp [hm]
   simp only [this,if_false,hst,Result.andThen_ok]
   rfl
  show o.upon P a K Q ((execOp a.eval o).run P w)
  rw [hrun,Oper.upon_skip,hd]
  refine h _ _ hf (hs.upd hk ⟨by simpa using hs.over.os,by simpa using hs.over.tape,by simpa using hs.over.output,by simpa using hs.over.size,fun c hc hx'=> ?_⟩ (by simp) (fun c _ hne=>setRow_other w g c _ (fun e=>hne (by rw [e];show Value.ownBlock (.slice r.1 q r.2) =some g;rw [e1];rfl))) ?_ (fun c hc=> .inl hc) J)
  ·have:=hlow g (by show Value.ownBlock (.slice r.1 q r.2) =some g;rw [e1];rfl)
   rw [setRow_other w g c _ (fun e=>this.elim (fun h1=>by omega) (fun h1=>hx' (e▸h1)))]
   exact hs.over.block c hc hx'
  ·refine⟨by rw [Qe];exact hr.1, .inr ⟨g,cap,(qk cur.toList off vs).toArray,by rw [e1,e3],hb,setRow_heap w g _ _ U (0,0) hg,hcap,hmax,by simp [Qe,hsz],?_⟩⟩
   rw [jeK,hcur,Y4 (by omega),List.take_left' (by rw [Qe];exact hr.1)]
end
end Go.Proofs.YtkagkgjjfdkoaaaGreat
namespace Go.Proofs.YtkagkgjjfdkoaaaGreat
open Go Go.RowKit Go.MapKept
def VL:List (Pn×Value)→Nat→List MapEntry
 | [],_=> []
 | (p,v) ::l,i=>⟨pV p,v,i⟩ ::VL l (i+1)
def zM (G:List (Pn×Value)) :Obj:= .map (VL G 0).toArray G.length
def Res.mp (b:Nat) (G:List (Pn×Value)) :Res where
 F:= (· =b)
 P w:=w.heap[b]? =some (zM G)
 low _ h _ hc:=hc▸JQ h
 B:=0
 dep w w' h _ hb:= (hb b (JQ h) (.inr rfl)).trans h
def Kr (p:Pn) :List (Pn×Value)→Nat→Option (Nat×Value)
 | [],_=>none
 | (q,v) ::l,i=>if p=q then some (i,v) else Kr p l (i+1)
structure MapTy (P:Program) (T K E:TypeId) :Prop where
 map:P.underlying T=some (.map K E)
 chk:∀e p w,(Instr.checkKey e 10000 K (pV p)).run P w= .ok () w
 eq:∀p q w,(Op.equal K (pV p) (pV q)).run P w= .ok (p.1==q.1&&p.2==q.2) w
 now:∃d,P.underlying K=some d∧∀p q,Instr.sameNow d (pV p) (pV q) =none
 zero:∀w,(zeroValue E).run P w= .ok (.slice none 0 0) w
theorem jcU {p q:Pn} : (p.1==q.1&&p.2==q.2) =decide (p=q) :=by
 rw [jfo]
 simp [Prod.ext_iff]
section
variable {P:Program} {T K E:TypeId} {w:World}
theorem F9 (H:MapTy P T K E) (p:Pn) :∀(G:List (Pn×Value)) (i:Nat),(Instr.findAsking K (pV p) (VL G i) i).run P w= .ok (Kr p G i) w
 | [],i=>by simp [Instr.findAsking,VL,Kr]
 | (q,v) ::l,i=>by
  have ih:=F9 H p l (i+1)
  simp only [Instr.findAsking,VL,Kr,Sem.run_bind,H.eq,Result.andThen_ok,jcU]
  by_cases h:p=q
  ·simp [h]
  ·simp [h,ih]
theorem Ia (H:MapTy P T K E) (p:Pn) (G:List (Pn×Value)) : (Instr.findKey K (pV p) (VL G 0)).run P w= .ok (Kr p G 0) w:=by
 obtain ⟨d,hd,hn⟩ :=H.now
 unfold Instr.findKey
 simp only [Sem.run_bind,run_underlying hd,Result.andThen_ok]
 cases G with
 | nil=>simp [VL,Instr.findNow,Kr]
 | cons a l=>
  obtain ⟨q,v⟩ :=a
  have:Instr.findNow d (pV p) (VL ((q,v) ::l) 0) 0=none:=by simp [VL,Instr.findNow,hn]
  rw [this]
  exact F9 H p _ 0
theorem HT:∀(G:List (Pn×Value)) (i j:Nat),(VL G i)[j]? = (G[j]?).map fun e=>⟨pV e.1,e.2,i+j⟩
 | [],_,_=>by simp [VL]
 | (p,v) ::l,i,0=>by simp [VL]
 | (p,v) ::l,i,j+1=>by
  simp only [VL,List.getElem?_cons_succ,HT l (i+1) j]
  rw [show i+1+j=i+ (j+1) by omega]
theorem Bf:∀(G:List (Pn×Value)) (i:Nat) (p:Pn) (v:Value),VL G i++ [⟨pV p,v,i+G.length⟩] =VL (G++ [(p,v)]) i
 | [],i,p,v=>by simp [VL]
 | (q,u) ::l,i,p,v=>by
  have:=Bf l (i+1) p v
  simp only [VL,jeG,jeP]
  rw [←this,show i+1+l.length=i+ (l.length+1) by omega]
theorem LD {p:Pn} :∀ {G:List (Pn×Value)} {i j:Nat} {v:Value},Kr p G i=some (j,v)→i≤j∧G[j- i]? =some (p,v)
 | [],_,_,_,h=>by cases h
 | (q,u) ::l,i,j,v,h=>by
  unfold Kr at h
  split at h
  ·rename_i e
   injection h with h
   injection h with h1 h2
   subst h1 h2 e
   simp
  ·have:=LD h
   refine⟨by omega,?_⟩
   rw [show j- i= (j- (i+1)) +1 by omega]
   simpa using this.2
theorem Em (p:Pn) : (Instr.keyThatStays (pV p) (pV p)).run P w= .ok (pV p) w:=by
 have hs:Instr.sameBits 10000 (pV p) (pV p) =true:=by
  show Instr.sameBits (9999+1) (pV p) (pV p) =true
  simp [Instr.sameBits,pV]
 simp [Instr.keyThatStays,hs]
def NH (p:Pn) (G:List (Pn×Value)) :List (Pn×Value) :=match Kr p G 0 with
 | some _=>G
 | none=>G++ [(p, .slice none 0 0)]
def Pz (p:Pn) (G:List (Pn×Value)) :Nat:=match Kr p G 0 with
 | some x=>x.1
 | none=>G.length
def MR (p:Pn) (G:List (Pn×Value)) :Value:=match Kr p G 0 with
 | some x=>x.2
 | none=> .slice none 0 0
theorem C6 {w:World} {b:Nat} {o o':Obj} (h:w.heap[b]? =some o) : ({w with heap:=w.heap.setIfInBounds b o'} :World).heap[b]? =some o':=by
 have:=JQ h
 simp [Array.getElem?_setIfInBounds,this]
theorem PL (H:MapTy P T K E) {b:Nat} {G:List (Pn×Value)} (hb:w.heap[b]? =some (zM G)) (p:Pn) :
  (Instr.mapEntry T (.map (some b)) (pV p)).run P w= .ok (.tuple #[MR p G, .int .i64 (Pz p G:Nat)]) {w with heap:=w.heap.setIfInBounds b (zM (NH p G))} :=by
 have hb':w.heap[b]? =some (.map (VL G 0).toArray G.length) :=hb
 have hf: (Instr.findKey K (pV p) (VL G 0).toArray.toList).run P w= .ok (Kr p G 0) w:=by rw [jeK];exact Ia H p G
 unfold MR Pz NH
 cases hg:Kr p G 0 with
 | none=>
  rw [hg] at hf
  have e: (VL G 0).toArray.push ⟨pV p, .slice none 0 0,G.length⟩ = (VL (G++ [(p, .slice none 0 0)]) 0).toArray:=by
   rw [←Bf,je3]
   simp
  simp only [Instr.mapEntry,Sem.run_bind,run_underlying H.map,Result.andThen_ok,MapKept.run_getObj_map hb',H.chk,hf,H.zero,MapKept.run_setObj_map _ hb',e,Sem.run_pure,goInt]
  unfold zM
  rw [jeC]
  rfl
 | some x=>
  obtain ⟨j,v⟩ :=x
  rw [hg] at hf
  obtain ⟨_,hj⟩ :=LD hg
  rw [Nat.sub_zero] at hj
  have hj': (VL G 0).toArray[j]? =some ⟨pV p,v,j⟩ :=by
   rw [List.getElem?_toArray,HT,hj]
   simp
  have hsame: (VL G 0).toArray.modify j (fun e=> {e with key:=pV p}) = (VL G 0).toArray:=by
   apply Array.ext'
   rw [Array.toList_modify]
   refine List.ext_getElem? fun i=> ?_
   rw [List.getElem?_modify]
   by_cases hi:j=i
   ·subst hi
    rw [List.getElem?_toArray] at hj'
    simp [hj']
   ·simp [hi]
  simp only [Instr.mapEntry,Sem.run_bind,run_underlying H.map,Result.andThen_ok,MapKept.run_getObj_map hb',H.chk,hf,hj',jf7,Option.getD_some,Em,hsame,MapKept.run_setObj_map _ hb',Sem.run_pure,goInt]
  rfl
theorem FM:∀(G:List (Pn×Value)) (i j:Nat),j<G.length→(VL G i).findIdx? (fun e=> ((e.born:Nat) :Int) == ((i+j:Nat) :Int)) =some j
 | [],_,_,h=>absurd h (by simp)
 | (p,v) ::l,i,0,_=>by simp [VL,List.findIdx?_cons]
 | (p,v) ::l,i,j+1,h=>by
  have ih:=FM l (i+1) j (by simpa using h)
  rw [show i+1+j=i+ (j+1) by omega] at ih
  have hb: (((i:Nat) :Int) == ((i+ (j+1) :Nat) :Int)) =false:=by rw [beq_eq_false_iff_ne];omega
  simp only [VL,List.findIdx?_cons,hb,ih]
  simp
theorem Ex {G:List (Pn×Value)} {j:Nat} {p:Pn} {u v:Value} (h:G[j]? =some (p,u)) : (VL G 0).toArray.modify j (fun e=> {e with val:=v}) = (VL (G.set j (p,v)) 0).toArray:=by
 apply Array.ext'
 rw [Array.toList_modify]
 refine List.ext_getElem? fun i=> ?_
 have hj:= (List.getElem?_eq_some_iff.1 h).1
 rw [List.getElem?_modify,jeK,HT,HT,List.getElem?_set]
 by_cases hi:j=i
 ·subst hi
  obtain ⟨_,e⟩ :=List.getElem?_eq_some_iff.1 h
  simp [hj,e]
 ·simp [hi]
theorem run_store {b:Nat} {G:List (Pn×Value)} (hb:w.heap[b]? =some (zM G)) {j:Nat} {p:Pn} {u v:Value} (h:G[j]? =some (p,u)) :
  (Instr.entryStore T (.map (some b)) (.int .i64 (j:Nat)) v).run P w= .ok () {w with heap:=w.heap.setIfInBounds b (zM (G.set j (p,v)))} :=by
 have hb':w.heap[b]? =some (.map (VL G 0).toArray G.length) :=hb
 have hj:= (List.getElem?_eq_some_iff.1 h).1
 have hidx: (VL G 0).toArray.findIdx? (fun e=> ((e.born:Nat) :Int) == ((j:Nat) :Int)) =some j:=by
  have:=FM G 0 j hj
  rw [je3] at this
  simpa using this
 simp only [Instr.entryStore,Sem.run_bind,Sem.run_pure,Result.andThen_ok,MapKept.run_getObj_map hb',asInt,asIntOf,hidx,Ex h,MapKept.run_setObj_map _ hb']
 unfold zM
 rw [jfM]
theorem jap (H:MapTy P T K E) {b:Nat} {G:List (Pn×Value)} (hb:w.heap[b]? =some (zM G)) (p:Pn) :
  (Instr.lookup T (.map (some b)) (pV p) false).run P w= .ok (MR p G) w:=by
 have hb':w.heap[b]? =some (.map (VL G 0).toArray G.length) :=hb
 have hf: (Instr.findKey K (pV p) (VL G 0).toArray.toList).run P w= .ok (Kr p G 0) w:=by rw [jeK];exact Ia H p G
 unfold MR
 cases hg:Kr p G 0 with
 | none=>
  rw [hg] at hf
  simp [Instr.lookup,run_underlying H.map,MapKept.run_getObj_map hb',H.chk,hf,H.zero,Result.andThen]
 | some x=>
  rw [hg] at hf
  simp [Instr.lookup,run_underlying H.map,MapKept.run_getObj_map hb',H.chk,hf,Result.andThen]
end
section
variable {P:Program} {n:Nat} {env:List (Nat×Value)} {w0:Bs} {Rs:List Res} {o:Oper} {Q:Exit→Act→World→Prop} {K:Act→World→Prop}
theorem Sw {T d:Nat} (ho:o.op= .makeMap T none) (hd:o.dst=some d) (hn:d<n) (h:∀b,At n ((d, .map (some b)) ::env) w0 (Rs++ [.mp b []]) K) :At n env w0 Rs (fun a w=>o.wp P a w K Q) :=fun a w hF hs=>by
 have: (execOp a.eval o).run P w= .ok (.value (.map (some w.heap.size))) (w.alloc (.map #[] 0)) :=by
  unfold execOp
  simp only [ho]
  simp [Instr.makeMap]
 show o.upon P a K Q ((execOp a.eval o).run P w)
 rw [this,Oper.upon_value,hd]
 exact h _ _ _ (hF.put hn _) (hs.add (Over.alloc _ _) (by show(w.alloc (.map #[] 0)).heap[w.heap.size]? =some (.map #[] 0);exact(MapKept.heap_alloc w _).1) (fun b hb=>Nat.le_of_eq hb.symm) ⟨jeE _,fun _ _=>jeE _⟩)
theorem EH {w:World} {k b:Nat} {G G':List (Pn×Value)} (hs:St w0 Rs w) (hk:Rs[k]? =some (.mp b G)) :St w0 (Rs.set k (.mp b G')) {w with heap:=w.heap.setIfInBounds b (zM G')} :=by
 have hh:w.heap[b]? =some (zM G) := (hs.all k _ hk).1
 have hlow:= (hs.all k _ hk).2.1 b rfl
 have hne:∀c,c≠b→({w with heap:=w.heap.setIfInBounds b (zM G')} :World).heap[c]? =w.heap[c]? :=fun c hc=>by simp [Array.getElem?_setIfInBounds,Ne.symm hc]
 refine hs.upd hk ⟨hs.over.os,hs.over.tape,hs.over.output,by simpa using hs.over.size,fun c hc hx=> ?_⟩ (by simp) (fun c _ h=>hne c h) (C6 hh) (fun c hc=> .inl hc) J
 have:c≠b:=fun e=>by
  subst e
  rcases hlow with h | h
  ·have h:w0.N≤c:=h
   omega
  ·exact hx h
 rw [hne c this]
 exact hs.over.block c hc hx
theorem I1 {T Kt E:TypeId} {k b d:Nat} {x y:Operand} {G:List (Pn×Value)} (H:MapTy P T Kt E) (p:Pn) (ho:o.op= .mapEntry T x y) (hx:ev env x=some (.map (some b))) (hy:ev env y=some (pV p)) (hk:Rs[k]? =some (.mp b G)) (hd:o.dst=some d) (hn:d<n)
  (h:At n ((d, .tuple #[MR p G, .int .i64 (Pz p G:Nat)]) ::env) w0 (Rs.set k (.mp b (NH p G))) K) :At n env w0 Rs (fun a w=>o.wp P a w K Q) :=fun a w hF hs=>by
 have hh:w.heap[b]? =some (zM G) := (hs.all k _ hk).1
 have hrun: (execOp a.eval o).run P w= .ok (.value (.tuple #[MR p G, .int .i64 (Pz p G:Nat)])) {w with heap:=w.heap.setIfInBounds b (zM (NH p G))} :=by
  unfold execOp
  simp only [ho,hF.ev hx,hF.ev hy,Sem.run_bind,PL H hh p,Result.andThen_ok,Sem.run_pure]
 show o.upon P a K Q ((execOp a.eval o).run P w)
 rw [hrun,Oper.upon_value,hd]
 exact h _ _ (hF.put hn _) (EH hs hk)
theorem Oy {T:TypeId} {k b j:Nat} {x y z:Operand} {G:List (Pn×Value)} {p:Pn} {u v:Value} (ho:o.op= .entryStore T x y z) (hd:o.dst=none) (hx:ev env x=some (.map (some b))) (hy:ev env y=some (.int .i64 (j:Nat))) (hz:ev env z=some v) (hk:Rs[k]? =some (.mp b G)) (hg:G[j]? =some (p,u))
  (h:At n env w0 (Rs.set k (.mp b (G.set j (p,v)))) K) :At n env w0 Rs (fun a w=>o.wp P a w K Q) :=fun a w hF hs=>by
 have hh:w.heap[b]? =some (zM G) := (hs.all k _ hk).1
 have hrun: (execOp a.eval o).run P w= .ok .skip {w with heap:=w.heap.setIfInBounds b (zM (G.set j (p,v)))} :=by
  unfold execOp
  simp only [ho,hF.ev hx,hF.ev hy,hF.ev hz,Sem.run_bind,run_store hh hg,Result.andThen_ok,Sem.run_pure]
 show o.upon P a K Q ((execOp a.eval o).run P w)
 rw [hrun,Oper.upon_skip,hd]
 exact h _ _ hF (EH hs hk)
theorem PE {T Kt E:TypeId} {k b:Nat} {x y:Operand} {G:List (Pn×Value)} (H:MapTy P T Kt E) (p:Pn) (hk:Rs[k]? =some (.mp b G)) (ho:o.op= .lookup T x y false) (hx:ev env x=some (.map (some b))) (hy:ev env y=some (pV p)) :Qt P o n env w0 Rs (MR p G) :=
 QV fun a w hF hs=>by
  have hh:w.heap[b]? =some (zM G) := (hs.all k _ hk).1
  unfold execOp
  simp only [ho,hF.ev hx,hF.ev hy,Sem.run_bind,jap H hh p,Result.andThen_ok,Sem.run_pure]
end
theorem jcE:MapTy Tryz.prog 104 54 105 where
 map:=by kernel_rfl
 chk:=fun e p w=>by kernel_rfl
 eq:=fun p q w=>by
  show(Op.equalIn (9999+1) 54 (.agg #[.int .i64 p.1, .int .i64 p.2]) (.agg #[.int .i64 q.1, .int .i64 q.2])).run Tryz.prog w=_
  have hp:Tryz.prog.stoodInHeld 54=false:=by kernel_rfl
  rw [run_equalIn_agg w 9999 54 _ _ (by kernel_rfl) hp]
  simp only [Program.fieldsOf,Tryz.underlying54]
  cases h1: (p.1==q.1) <;>cases h2: (p.2==q.2)
  all_goals
   simp only [beq_iff_eq,beq_eq_false_iff_ne] at h1 h2
   simp [Op.eqFields,go_sem, *]
 now:=⟨_,Tryz.underlying54,fun p q=>rfl⟩
 zero:=fun w=>by kernel_rfl
end Go.Proofs.YtkagkgjjfdkoaaaGreat
