import Derived.Test.YtpncbbcmoiiipaaGreatKValidRegion
import Derived.Test.YtpncbbcmoiiipaaGreatKOwn
import Derived.Test.YtpncbbcmoiiipaaGreatKSnapped
import Derived.Test.YtpncbbcmoiiipaaGreatKSimp
import Derived.Test.YtpncbbcmoiiipaaGreatKHull
import Derived.MapKept
set_option linter.unusedVariables false
set_option linter.unusedSimpArgs false
namespace Go.Proofs.YtpncbbcmoiiipaaGreat
open Go Go.RowKit
section
variable {P:Program} {n:Nat} {env:List (Nat×Value)} {w0:Bs} {Rs:List Res} {o:Oper} {Q:Exit→Act→World→Prop} {K:Act→World→Prop}
theorem jfm {w:World} {B T s m:Nat} {xs:List Value} {x:Option Addr×Nat} (h: (JY B T s m xs x).P w) (h0:0<m) :x.1=some ⟨W3 x.1,0,none⟩ :=by
 have h:w.ownsRow B T s (.slice x.1 m x.2) m xs:=h
 rcases h.2 with⟨_,e⟩ |⟨g,cap,cur,e,_⟩
 ·omega
 ·injection e with e1
  rw [e1]
  rfl
theorem X5 {w:World} {B T s m i:Nat} {xs:List Value} {x:Option Addr×Nat} {v:Value} (h: (JY B T s m xs x).P w) (hv:xs[i]? =some v) :w.cell? ⟨W3 x.1,i,none⟩ =some v:=by
 have h:w.ownsRow B T s (.slice x.1 m x.2) m xs:=h
 have hi:= (List.getElem?_eq_some_iff.1 hv).1
 rcases h.2 with⟨_,e⟩ |⟨g,cap,cur,e,hb,hg,hcap,hmax,hsz,htk⟩
 ·have:=h.1
  rw [e,Nat.zero_mul] at this
  omega
 ·injection e with e1
  rw [e1,W3,cell_of_row w g i cur T (0,0) hg]
  have h1:=h.1
  rw [←htk,List.getElem?_take,if_pos Om] at hv
  simpa using hv
theorem UZ {α:Type} (f:α→List Value) {m:Nat} (hf:∀a,(f a).length=m) {l:List α} {k off:Nat} {a a':α} (hk:l[k]? =some a) (pre old vs post:List Value) (h1:f a=pre++old++post) (h2:f a'=pre++vs++post) (hl:old.length=vs.length) (ho:off=k*m+pre.length) :qP (l.flatMap f) off vs= (l.set k a').flatMap f:=by
 obtain ⟨hj,e⟩ :=List.getElem?_eq_some_iff.1 hk
 have e1:l=l.take k++a::l.drop (k+1) :=by rw [←e,←jiY hj,jiw]
 have e2:l.set k a'=l.take k++a'::l.drop (k+1) :=List.set_eq_take_append_cons_drop .. |>.trans (if_pos hj)
 have e3: ((l.take k).flatMap f).length=k*m:=by rw [WG f m hf,jiy,jjm Om]
 have s:=UR vs ((l.take k).flatMap f++pre) old (post++ (l.drop (k+1)).flatMap f) hl
 rw [jif,e3,←ho] at s
 rw [e2,jio,jiB,h2]
 conv=>lhs;rw [e1,jio,jiB,h1]
 simp only [jil] at s⊢
 exact s
theorem jaA {w:World} {B T s m j:Nat} {xs:List Value} {x:Option Addr×Nat} (h: (JY B T s m xs x).P w) (hj:j≤m) :Src s (sliced x.1 0 j x.2 s) j (xs.take (j*s)) w:=by
 have h:w.ownsRow B T s (.slice x.1 m x.2) m xs:=h
 have hm:j*s≤m*s:=Nat.mul_le_mul_right s hj
 refine⟨by rw [jiy,h.1];omega,?_⟩
 rcases h.2 with⟨e,e0⟩ |⟨g,cap,cur,e,hb,hg,hcap,hmax,hsz,htk⟩
 ·left
  have hj0:j=0:=by omega
  injection e with e1 _ e3
  rw [e1,e3,hj0]
  exact⟨rfl,rfl⟩
 ·right
  injection e with e1 _ e3
  refine⟨⟨g,0,none⟩,x.2,?_,fun q u hu=> ?_⟩
  ·rw [e1]
   unfold sliced
   split
   ·rfl
   ·simp [Q1]
  ·have hq:= (List.getElem?_eq_some_iff.1 hu).1
   rw [jiy] at hq
   rw [List.getElem?_take,if_pos Om,←htk,List.getElem?_take,if_pos (by have:=h.1;omega)] at hu
   rw [Q1,jiL,cell_of_row w g q cur T (0,0) hg]
   simpa using hu
theorem jaz {w:World} {B T s m j:Nat} {xs:List Value} {x:Option Addr×Nat} (h: (JY B T s m xs x).P w) (hj:j≤m) :Src s (sliced x.1 j m x.2 s) (m- j) (xs.drop (j*s)) w:=by
 have h:w.ownsRow B T s (.slice x.1 m x.2) m xs:=h
 refine⟨by rw [jiI,h.1,Nat.sub_mul],?_⟩
 rcases h.2 with⟨e,e0⟩ |⟨g,cap,cur,e,hb,hg,hcap,hmax,hsz,htk⟩
 ·left
  subst e0
  have hj0:j=0:=by omega
  injection e with e1 _ e3
  rw [e1,e3,hj0]
  exact⟨rfl,rfl⟩
 ·right
  injection e with e1 _ e3
  by_cases hz:x.2=j
  ·refine⟨⟨g,0,none⟩,x.2- j,by rw [e1];unfold sliced;rw [if_pos hz],fun q u hu=> ?_⟩
   have hq:= (List.getElem?_eq_some_iff.1 hu).1
   have hjm:j=m:=by omega
   rw [jiI,h.1,hjm] at hq
   omega
  ·refine⟨⟨g,0+j*s,none⟩,x.2- j,by rw [e1];unfold sliced;rw [if_neg hz];simp [Q1],fun q u hu=> ?_⟩
   have hq:= (List.getElem?_eq_some_iff.1 hu).1
   rw [jiI,h.1] at hq
   rw [List.getElem?_drop,←htk,List.getElem?_take,if_pos Om] at hu
   rw [Q1,jiL,cell_of_row w g _ cur T (0,0) hg]
   simpa using hu
theorem Uw {T U m:Nat} {x y:Operand} {k B s q off:Nat} {r:Option Addr×Nat} {cs vs:List Value} {v:Value} (ho:o.op= .store T x y) (hd:o.dst=none) (hx:ev env x=some (.pointer (some ⟨W3 r.1,off,none⟩))) (hy:ev env y=some v) (hv:v.cells=vs.toArray) (h1:vs.all (·.oneCell') =true)
  (hz: (P.info? T).map (·.size) =some m) (hm:vs.length=m) (hk:Rs[k]? =some (JY B U s q cs r)) (h0:0<vs.length) (hlt:off+vs.length≤cs.length) (h:At n env w0 (Rs.set k (JY B U s q (qP cs off vs) r)) K) :At n env w0 Rs (fun a w=>o.wp P a w K Q) :=fun a w hf hs=>by
 have hr:w.ownsRow B U s (.slice r.1 q r.2) q cs:= (hs.all k _ hk).1
 have hlow:=fun b hb=> (hs.all k _ hk).2.1 b hb
 rcases hr.2 with⟨_,e0⟩ |⟨g,cap,cur,e,hb,hg,hcap,hmax,hsz,htk⟩
 ·have:=hr.1
  rw [e0,Nat.zero_mul] at this
  omega
 ·injection e with e1 _ e3
  have hgb:W3 r.1=g:=by rw [e1];rfl
  rw [hgb] at hx
  have hcl:cs.length=q*s:=hr.1
  have hcur:cur.toList=cs++cur.toList.drop (q*s) :=by rw [←htk,jiw]
  have hlen:cs.length≤cur.toList.length:=by rw [hcur,jif];omega
  have hh:w.heap[g]? =some (.cells cur.toList.toArray U (0,0)) :=by rw [jjy];exact hg
  have hso: (sizeOf T).run P w= .ok m w:=by
   obtain ⟨i,hi,hs'⟩ :=jjQ.1 hz
   simp [sizeOf,typeInfo,hi,hs']
  have hst:=WS (P:=P) vs off 0 cur.toList w hh Om h1
  have hrun: (execOp a.eval o).run P w= .ok .skip (w.setRow g (qP cur.toList off vs).toArray) :=by
   unfold execOp
   simp only [ho,hf.ev hx,hf.ev hy,Instr.storeAt,Instr.sureAddr,storeVar,hv]
   simp only [Sem.run_bind,Sem.run_pure,Result.andThen_ok,hso]
   have:¬(vs.toArray.size≠m) :=by simp [hm]
   simp only [this,if_false,hst,Result.andThen_ok]
   rfl
  show o.upon P a K Q ((execOp a.eval o).run P w)
  rw [hrun,Oper.upon_skip,hd]
  refine h _ _ hf (hs.upd hk ⟨by simpa using hs.over.os,by simpa using hs.over.tape,by simpa using hs.over.output,by simpa using hs.over.size,fun c hc hx'=> ?_⟩ (by simp) (fun c _ hne=>setRow_other w g c _ (fun e=>hne (by rw [e];show Value.ownBlock (.slice r.1 q r.2) =some g;rw [e1];rfl))) ?_ (fun c hc=> .inl hc) J)
  ·have:=hlow g (by show Value.ownBlock (.slice r.1 q r.2) =some g;rw [e1];rfl)
   rw [setRow_other w g c _ (fun e=>this.elim (fun h1=>by omega) (fun h1=>hx' (e▸h1)))]
   exact hs.over.block c hc hx'
  ·refine⟨by rw [kD];exact hr.1, .inr ⟨g,cap,(qP cur.toList off vs).toArray,by rw [e1,e3],hb,setRow_heap w g _ _ U (0,0) hg,hcap,hmax,by simp [kD,hsz],?_⟩⟩
   rw [jjj,hcur,Zk Om,List.take_left' (by rw [kD];exact hr.1)]
end
end Go.Proofs.YtpncbbcmoiiipaaGreat
namespace Go.Proofs.YtpncbbcmoiiipaaGreat
open Go Go.RowKit Go.MapKept
def ww:List (Pn×Value)→Nat→List MapEntry
 | [],_=> []
 | (p,v) ::l,i=>⟨pV p,v,i⟩ ::ww l (i+1)
def ZS (G:List (Pn×Value)) :Obj:= .map (ww G 0).toArray G.length
def Res.mp (b:Nat) (G:List (Pn×Value)) :Res where
 F:= (· =b)
 P w:=w.heap[b]? =some (ZS G)
 low _ h _ hc:=hc▸J3 h
 B:=0
 dep w w' h _ hb:= (hb b (J3 h) (.inr rfl)).trans h
def KR (p:Pn) :List (Pn×Value)→Nat→Option (Nat×Value)
 | [],_=>none
 | (q,v) ::l,i=>if p=q then some (i,v) else KR p l (i+1)
structure MapTy (P:Program) (T K E:TypeId) :Prop where
 map:P.underlying T=some (.map K E)
 chk:∀e p w,(Instr.checkKey e 10000 K (pV p)).run P w= .ok () w
 eq:∀p q w,(Op.equal K (pV p) (pV q)).run P w= .ok (p.1==q.1&&p.2==q.2) w
 now:∃d,P.underlying K=some d∧∀p q,Instr.sameNow d (pV p) (pV q) =none
 zero:∀w,(zeroValue E).run P w= .ok (.slice none 0 0) w
theorem jgc {p q:Pn} : (p.1==q.1&&p.2==q.2) =decide (p=q) :=by
 rw [jiN]
 simp [Prod.ext_iff]
section
variable {P:Program} {T K E:TypeId} {w:World}
theorem RW (H:MapTy P T K E) (p:Pn) :∀(G:List (Pn×Value)) (i:Nat),(Instr.findAsking K (pV p) (ww G i) i).run P w= .ok (KR p G i) w
 | [],i=>by simp [Instr.findAsking,ww,KR]
 | (q,v) ::l,i=>by
  have ih:=RW H p l (i+1)
  simp only [Instr.findAsking,ww,KR,Sem.run_bind,H.eq,Result.andThen_ok,jgc]
  by_cases h:p=q
  ·simp [h]
  ·simp [h,ih]
theorem RX (H:MapTy P T K E) (p:Pn) (G:List (Pn×Value)) : (Instr.findKey K (pV p) (ww G 0)).run P w= .ok (KR p G 0) w:=by
 obtain ⟨d,hd,hn⟩ :=H.now
 unfold Instr.findKey
 simp only [Sem.run_bind,run_underlying hd,Result.andThen_ok]
 cases G with
 | nil=>simp [ww,Instr.findNow,KR]
 | cons a l=>
  obtain ⟨q,v⟩ :=a
  have:Instr.findNow d (pV p) (ww ((q,v) ::l) 0) 0=none:=by simp [ww,Instr.findNow,hn]
  rw [this]
  exact RW H p _ 0
theorem Mh:∀(G:List (Pn×Value)) (i j:Nat),(ww G i)[j]? = (G[j]?).map fun e=>⟨pV e.1,e.2,i+j⟩
 | [],_,_=>by simp [ww]
 | (p,v) ::l,i,0=>by simp [ww]
 | (p,v) ::l,i,j+1=>by
  simp only [ww,List.getElem?_cons_succ,Mh l (i+1) j]
  rw [show i+1+j=i+ (j+1) by omega]
theorem DM:∀(G:List (Pn×Value)) (i:Nat) (p:Pn) (v:Value),ww G i++ [⟨pV p,v,i+G.length⟩] =ww (G++ [(p,v)]) i
 | [],i,p,v=>by simp [ww]
 | (q,u) ::l,i,p,v=>by
  have:=DM l (i+1) p v
  simp only [ww,jiJ,jim]
  rw [←this,show i+1+l.length=i+ (l.length+1) by omega]
theorem MX {p:Pn} :∀ {G:List (Pn×Value)} {i j:Nat} {v:Value},KR p G i=some (j,v)→i≤j∧G[j- i]? =some (p,v)
 | [],_,_,_,h=>by cases h
 | (q,u) ::l,i,j,v,h=>by
  unfold KR at h
  split at h
  ·rename_i e
   injection h with h
   injection h with h1 h2
   subst h1 h2 e
   simp
  ·have:=MX h
   refine⟨by omega,?_⟩
   rw [show j- i= (j- (i+1)) +1 by omega]
   simpa using this.2
theorem jb5 (p:Pn) : (Instr.keyThatStays (pV p) (pV p)).run P w= .ok (pV p) w:=by
 have hs:Instr.sameBits 10000 (pV p) (pV p) =true:=by
  show Instr.sameBits (9999+1) (pV p) (pV p) =true
  simp [Instr.sameBits,pV]
 simp [Instr.keyThatStays,hs]
def Ee (p:Pn) (G:List (Pn×Value)) :List (Pn×Value) :=match KR p G 0 with
 | some _=>G
 | none=>G++ [(p, .slice none 0 0)]
def jaa (p:Pn) (G:List (Pn×Value)) :Nat:=match KR p G 0 with
 | some x=>x.1
 | none=>G.length
def Bj (p:Pn) (G:List (Pn×Value)) :Value:=match KR p G 0 with
 | some x=>x.2
 | none=> .slice none 0 0
theorem jbP {w:World} {b:Nat} {o o':Obj} (h:w.heap[b]? =some o) : ({w with heap:=w.heap.setIfInBounds b o'} :World).heap[b]? =some o':=by
 have:=J3 h
 simp [Array.getElem?_setIfInBounds,this]
theorem jam (H:MapTy P T K E) {b:Nat} {G:List (Pn×Value)} (hb:w.heap[b]? =some (ZS G)) (p:Pn) :
  (Instr.mapEntry T (.map (some b)) (pV p)).run P w= .ok (.tuple #[Bj p G, .int .i64 (jaa p G:Nat)]) {w with heap:=w.heap.setIfInBounds b (ZS (Ee p G))} :=by
 have hb':w.heap[b]? =some (.map (ww G 0).toArray G.length) :=hb
 have hf: (Instr.findKey K (pV p) (ww G 0).toArray.toList).run P w= .ok (KR p G 0) w:=by rw [jjj];exact RX H p G
 unfold Bj jaa Ee
 cases hg:KR p G 0 with
 | none=>
  rw [hg] at hf
  have e: (ww G 0).toArray.push ⟨pV p, .slice none 0 0,G.length⟩ = (ww (G++ [(p, .slice none 0 0)]) 0).toArray:=by
   rw [←DM,jiL]
   simp
  simp only [Instr.mapEntry,Sem.run_bind,run_underlying H.map,Result.andThen_ok,MapKept.run_getObj_map hb',H.chk,hf,H.zero,MapKept.run_setObj_map _ hb',e,Sem.run_pure,goInt]
  unfold ZS
  rw [jif]
  rfl
 | some x=>
  obtain ⟨j,v⟩ :=x
  rw [hg] at hf
  obtain ⟨_,hj⟩ :=MX hg
  rw [jp4] at hj
  have hj': (ww G 0).toArray[j]? =some ⟨pV p,v,j⟩ :=by
   rw [List.getElem?_toArray,Mh,hj]
   simp
  have hsame: (ww G 0).toArray.modify j (fun e=> {e with key:=pV p}) = (ww G 0).toArray:=by
   apply Array.ext'
   rw [Array.toList_modify]
   refine List.ext_getElem? fun i=> ?_
   rw [List.getElem?_modify]
   by_cases hi:j=i
   ·subst hi
    rw [List.getElem?_toArray] at hj'
    simp [hj']
   ·simp [hi]
  simp only [Instr.mapEntry,Sem.run_bind,run_underlying H.map,Result.andThen_ok,MapKept.run_getObj_map hb',H.chk,hf,hj',jj4,Option.getD_some,jb5,hsame,MapKept.run_setObj_map _ hb',Sem.run_pure,goInt]
  rfl
theorem Ru:∀(G:List (Pn×Value)) (i j:Nat),j<G.length→(ww G i).findIdx? (fun e=> ((e.born:Nat) :Int) == ((i+j:Nat) :Int)) =some j
 | [],_,_,h=>absurd h (by simp)
 | (p,v) ::l,i,0,_=>by simp [ww,List.findIdx?_cons]
 | (p,v) ::l,i,j+1,h=>by
  have ih:=Ru l (i+1) j (by simpa using h)
  rw [show i+1+j=i+ (j+1) by omega] at ih
  have hb: (((i:Nat) :Int) == ((i+ (j+1) :Nat) :Int)) =false:=by rw [beq_eq_false_iff_ne];omega
  simp only [ww,List.findIdx?_cons,hb,ih]
  simp
theorem jcf {G:List (Pn×Value)} {j:Nat} {p:Pn} {u v:Value} (h:G[j]? =some (p,u)) : (ww G 0).toArray.modify j (fun e=> {e with val:=v}) = (ww (G.set j (p,v)) 0).toArray:=by
 apply Array.ext'
 rw [Array.toList_modify]
 refine List.ext_getElem? fun i=> ?_
 have hj:= (List.getElem?_eq_some_iff.1 h).1
 rw [List.getElem?_modify,jjj,Mh,Mh,List.getElem?_set]
 by_cases hi:j=i
 ·subst hi
  obtain ⟨_,e⟩ :=List.getElem?_eq_some_iff.1 h
  simp [hj,e]
 ·simp [hi]
theorem run_store {b:Nat} {G:List (Pn×Value)} (hb:w.heap[b]? =some (ZS G)) {j:Nat} {p:Pn} {u v:Value} (h:G[j]? =some (p,u)) :
  (Instr.entryStore T (.map (some b)) (.int .i64 (j:Nat)) v).run P w= .ok () {w with heap:=w.heap.setIfInBounds b (ZS (G.set j (p,v)))} :=by
 have hb':w.heap[b]? =some (.map (ww G 0).toArray G.length) :=hb
 have hj:= (List.getElem?_eq_some_iff.1 h).1
 have hidx: (ww G 0).toArray.findIdx? (fun e=> ((e.born:Nat) :Int) == ((j:Nat) :Int)) =some j:=by
  have:=Ru G 0 j hj
  rw [jiL] at this
  simpa using this
 simp only [Instr.entryStore,Sem.run_bind,Sem.run_pure,Result.andThen_ok,MapKept.run_getObj_map hb',asInt,asIntOf,hidx,jcf h,MapKept.run_setObj_map _ hb']
 unfold ZS
 rw [jjv]
theorem jdd (H:MapTy P T K E) {b:Nat} {G:List (Pn×Value)} (hb:w.heap[b]? =some (ZS G)) (p:Pn) :
  (Instr.lookup T (.map (some b)) (pV p) false).run P w= .ok (Bj p G) w:=by
 have hb':w.heap[b]? =some (.map (ww G 0).toArray G.length) :=hb
 have hf: (Instr.findKey K (pV p) (ww G 0).toArray.toList).run P w= .ok (KR p G 0) w:=by rw [jjj];exact RX H p G
 unfold Bj
 cases hg:KR p G 0 with
 | none=>
  rw [hg] at hf
  simp [Instr.lookup,run_underlying H.map,MapKept.run_getObj_map hb',H.chk,hf,H.zero,Result.andThen]
 | some x=>
  rw [hg] at hf
  simp [Instr.lookup,run_underlying H.map,MapKept.run_getObj_map hb',H.chk,hf,Result.andThen]
end
section
variable {P:Program} {n:Nat} {env:List (Nat×Value)} {w0:Bs} {Rs:List Res} {o:Oper} {Q:Exit→Act→World→Prop} {K:Act→World→Prop}
theorem NE {T d:Nat} (ho:o.op= .makeMap T none) (hd:o.dst=some d) (hn:d<n) (h:∀b,At n ((d, .map (some b)) ::env) w0 (Rs++ [.mp b []]) K) :At n env w0 Rs (fun a w=>o.wp P a w K Q) :=fun a w hF hs=>by
 have: (execOp a.eval o).run P w= .ok (.value (.map (some w.heap.size))) (w.alloc (.map #[] 0)) :=by
  unfold execOp
  simp only [ho]
  simp [Instr.makeMap]
 show o.upon P a K Q ((execOp a.eval o).run P w)
 rw [this,Oper.upon_value,hd]
 exact h _ _ _ (hF.put hn _) (hs.add (Over.alloc _ _) (by show(w.alloc (.map #[] 0)).heap[w.heap.size]? =some (.map #[] 0);exact(MapKept.heap_alloc w _).1) (fun b hb=>Nat.le_of_eq hb.symm) ⟨jii _,fun _ _=>jii _⟩)
theorem jco {w:World} {k b:Nat} {G G':List (Pn×Value)} (hs:St w0 Rs w) (hk:Rs[k]? =some (.mp b G)) :St w0 (Rs.set k (.mp b G')) {w with heap:=w.heap.setIfInBounds b (ZS G')} :=by
 have hh:w.heap[b]? =some (ZS G) := (hs.all k _ hk).1
 have hlow:= (hs.all k _ hk).2.1 b rfl
 have hne:∀c,c≠b→({w with heap:=w.heap.setIfInBounds b (ZS G')} :World).heap[c]? =w.heap[c]? :=fun c hc=>by simp [Array.getElem?_setIfInBounds,Ne.symm hc]
 refine hs.upd hk ⟨hs.over.os,hs.over.tape,hs.over.output,by simpa using hs.over.size,fun c hc hx=> ?_⟩ (by simp) (fun c _ h=>hne c h) (jbP hh) (fun c hc=> .inl hc) J
 have:c≠b:=fun e=>by
  subst e
  rcases hlow with h | h
  ·have h:w0.N≤c:=h
   omega
  ·exact hx h
 rw [hne c this]
 exact hs.over.block c hc hx
theorem SS {T Kt E:TypeId} {k b d:Nat} {x y:Operand} {G:List (Pn×Value)} (H:MapTy P T Kt E) (p:Pn) (ho:o.op= .mapEntry T x y) (hx:ev env x=some (.map (some b))) (hy:ev env y=some (pV p)) (hk:Rs[k]? =some (.mp b G)) (hd:o.dst=some d) (hn:d<n)
  (h:At n ((d, .tuple #[Bj p G, .int .i64 (jaa p G:Nat)]) ::env) w0 (Rs.set k (.mp b (Ee p G))) K) :At n env w0 Rs (fun a w=>o.wp P a w K Q) :=fun a w hF hs=>by
 have hh:w.heap[b]? =some (ZS G) := (hs.all k _ hk).1
 have hrun: (execOp a.eval o).run P w= .ok (.value (.tuple #[Bj p G, .int .i64 (jaa p G:Nat)])) {w with heap:=w.heap.setIfInBounds b (ZS (Ee p G))} :=by
  unfold execOp
  simp only [ho,hF.ev hx,hF.ev hy,Sem.run_bind,jam H hh p,Result.andThen_ok,Sem.run_pure]
 show o.upon P a K Q ((execOp a.eval o).run P w)
 rw [hrun,Oper.upon_value,hd]
 exact h _ _ (hF.put hn _) (jco hs hk)
theorem BX {T:TypeId} {k b j:Nat} {x y z:Operand} {G:List (Pn×Value)} {p:Pn} {u v:Value} (ho:o.op= .entryStore T x y z) (hd:o.dst=none) (hx:ev env x=some (.map (some b))) (hy:ev env y=some (.int .i64 (j:Nat))) (hz:ev env z=some v) (hk:Rs[k]? =some (.mp b G)) (hg:G[j]? =some (p,u))
  (h:At n env w0 (Rs.set k (.mp b (G.set j (p,v)))) K) :At n env w0 Rs (fun a w=>o.wp P a w K Q) :=fun a w hF hs=>by
 have hh:w.heap[b]? =some (ZS G) := (hs.all k _ hk).1
 have hrun: (execOp a.eval o).run P w= .ok .skip {w with heap:=w.heap.setIfInBounds b (ZS (G.set j (p,v)))} :=by
  unfold execOp
  simp only [ho,hF.ev hx,hF.ev hy,hF.ev hz,Sem.run_bind,run_store hh hg,Result.andThen_ok,Sem.run_pure]
 show o.upon P a K Q ((execOp a.eval o).run P w)
 rw [hrun,Oper.upon_skip,hd]
 exact h _ _ hF (jco hs hk)
theorem jaf {T Kt E:TypeId} {k b:Nat} {x y:Operand} {G:List (Pn×Value)} (H:MapTy P T Kt E) (p:Pn) (hk:Rs[k]? =some (.mp b G)) (ho:o.op= .lookup T x y false) (hx:ev env x=some (.map (some b))) (hy:ev env y=some (pV p)) :Qt P o n env w0 Rs (Bj p G) :=
 Q9 fun a w hF hs=>by
  have hh:w.heap[b]? =some (ZS G) := (hs.all k _ hk).1
  unfold execOp
  simp only [ho,hF.ev hx,hF.ev hy,Sem.run_bind,jdd H hh p,Result.andThen_ok,Sem.run_pure]
end
theorem jfV:MapTy Tryz.prog 197 56 198 where
 map:=by kernel_rfl
 chk:=fun e p w=>by kernel_rfl
 eq:=fun p q w=>by
  show(Op.equalIn (9999+1) 56 (.agg #[.int .i64 p.1, .int .i64 p.2]) (.agg #[.int .i64 q.1, .int .i64 q.2])).run Tryz.prog w=_
  have hp:Tryz.prog.stoodInHeld 56=false:=by kernel_rfl
  rw [run_equalIn_agg w 9999 56 _ _ Kr hp]
  simp only [Program.fieldsOf,Tryz.underlying56]
  cases h1: (p.1==q.1) <;>cases h2: (p.2==q.2)
  all_goals
   simp only [beq_iff_eq,beq_eq_false_iff_ne] at h1 h2
   simp [Op.eqFields,go_sem, *]
 now:=⟨_,Tryz.underlying56,fun p q=>rfl⟩
 zero:=fun w=>by kernel_rfl
end Go.Proofs.YtpncbbcmoiiipaaGreat
