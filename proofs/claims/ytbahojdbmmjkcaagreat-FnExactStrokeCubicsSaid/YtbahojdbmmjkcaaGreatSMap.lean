import Derived.Test.YtbahojdbmmjkcaaGreatSCmp
import Derived.MapKept
set_option linter.unusedVariables false
set_option linter.unusedSimpArgs false
namespace Go.Proofs.YtbahojdbmmjkcaaGreat
open Go Go.RowKit Go.MapKept
variable {G:List (Pn×Value)} {T:TypeId} {b j k:Nat} {p:Pn} {u v:Value} {w:World} {x y:Operand}
def VS:List (Pn×Value)→Nat→List MapEntry
 | [],_=> []
 | (p,v) ::l,i=>⟨pV p,v,i⟩ ::VS l (i+1)
def ZF (G:List (Pn×Value)) :Obj:= .map (VS G 0).toArray G.length
def Res.mp (b:Nat) (G:List (Pn×Value)) :Res where
 F:= (· =b)
 P w:=w.heap[b]? =some (ZF G)
 low _ h _ hc:=hc▸J4 h
 B:=0
 dep w w' h _ hb:= (hb b (J4 h) (.inr rfl)).trans h
def KH (p:Pn) :List (Pn×Value)→Nat→Option (Nat×Value)
 | [],_=>none
 | (q,v) ::l,i=>if p=q then some (i,v) else KH p l (i+1)
structure MapTy (P:Program) (T K E:TypeId) :Prop where
 map:P.underlying T=some (.map K E)
 chk:∀e p w,(Instr.checkKey e 10000 K (pV p)).run P w= .ok () w
 eq:∀p q w,(Op.equal K (pV p) (pV q)).run P w= .ok (p.1==q.1&&p.2==q.2) w
 now:∃d,P.underlying K=some d∧∀p q,Instr.sameNow d (pV p) (pV q) =none
 zero:∀w,(zeroValue E).run P w= .ok (.slice none 0 0) w
theorem jf9 {q:Pn} : (p.1==q.1&&p.2==q.2) =decide (p=q) :=by
 rw [jiK]
 simp [Prod.ext_iff]
section
variable {P:Program} {T K E:TypeId} {w:World}
theorem Sq (H:MapTy P T K E) (p:Pn) :∀(G:List (Pn×Value)) (i:Nat),(Instr.findAsking K (pV p) (VS G i) i).run P w= .ok (KH p G i) w
 | [],i=>by simp [Instr.findAsking,VS,KH]
 | (q,v) ::l,i=>by
  have ih:=Sq H p l (i+1)
  simp only [Instr.findAsking,VS,KH,Sem.run_bind,H.eq,Result.andThen_ok,jf9]
  by_cases h:p=q
  ·simp [h]
  ·simp [h,ih]
theorem Sr (H:MapTy P T K E) (p:Pn) (G:List (Pn×Value)) : (Instr.findKey K (pV p) (VS G 0)).run P w= .ok (KH p G 0) w:=by
 obtain ⟨d,hd,hn⟩ :=H.now
 unfold Instr.findKey
 simp only [Sem.run_bind,run_underlying hd,Result.andThen_ok]
 cases G with
 | nil=>simp [VS,Instr.findNow,KH]
 | cons a l=>
  obtain ⟨q,v⟩ :=a
  have:Instr.findNow d (pV p) (VS ((q,v) ::l) 0) 0=none:=by simp [VS,Instr.findNow,hn]
  rw [this]
  exact Sq H p _ 0
theorem LX:∀(G:List (Pn×Value)) (i j:Nat),(VS G i)[j]? = (G[j]?).map fun e=>⟨pV e.1,e.2,i+j⟩
 | [],_,_=>by simp [VS]
 | (p,v) ::l,i,0=>by simp [VS]
 | (p,v) ::l,i,j+1=>by
  simp only [VS,List.getElem?_cons_succ,LX l (i+1) j]
  rw [show i+1+j=i+ (j+1) by omega]
theorem D9:∀(G:List (Pn×Value)) (i:Nat) (p:Pn) (v:Value),VS G i++ [⟨pV p,v,i+G.length⟩] =VS (G++ [(p,v)]) i
 | [],i,p,v=>by simp [VS]
 | (q,u) ::l,i,p,v=>by
  have:=D9 l (i+1) p v
  simp only [VS,jiI,jij]
  rw [←this,show i+1+l.length=i+ (l.length+1) by omega]
theorem MN {p:Pn} :∀ {G:List (Pn×Value)} {i j:Nat} {v:Value},KH p G i=some (j,v)→i≤j∧G[j- i]? =some (p,v)
 | [],_,_,_,h=>by cases h
 | (q,u) ::l,i,j,v,h=>by
  unfold KH at h
  split at h
  ·rename_i e
   injection h with h
   injection h with h1 h2
   subst h1 h2 e
   simp
  ·have:=MN h
   refine⟨by omega,?_⟩
   rw [show j- i= (j- (i+1)) +1 by omega]
   simpa using this.2
theorem jcj (p:Pn) : (Instr.keyThatStays (pV p) (pV p)).run P w= .ok (pV p) w:=by
 have hs:Instr.sameBits 10000 (pV p) (pV p) =true:=by
  show Instr.sameBits (9999+1) (pV p) (pV p) =true
  simp [Instr.sameBits,pV]
 simp [Instr.keyThatStays,hs]
def EI (p:Pn) (G:List (Pn×Value)) :List (Pn×Value) :=match KH p G 0 with
 | some _=>G
 | none=>G++ [(p, .slice none 0 0)]
def jaC (p:Pn) (G:List (Pn×Value)) :Nat:=match KH p G 0 with
 | some x=>x.1
 | none=>G.length
def Bz (p:Pn) (G:List (Pn×Value)) :Value:=match KH p G 0 with
 | some x=>x.2
 | none=> .slice none 0 0
theorem jb3 {o o':Obj} (h:w.heap[b]? =some o) : ({w with heap:=w.heap.setIfInBounds b o'} :World).heap[b]? =some o':=by
 have:=J4 h
 simp [Array.getElem?_setIfInBounds,this]
theorem jaP (H:MapTy P T K E) (hb:w.heap[b]? =some (ZF G)) (p:Pn) :
  (Instr.mapEntry T (.map (some b)) (pV p)).run P w= .ok (.tuple #[Bz p G, .int .i64 (jaC p G:Nat)]) {w with heap:=w.heap.setIfInBounds b (ZF (EI p G))} :=by
 have hb':w.heap[b]? =some (.map (VS G 0).toArray G.length) :=hb
 have hf: (Instr.findKey K (pV p) (VS G 0).toArray.toList).run P w= .ok (KH p G 0) w:=by rw [jjj];exact Sr H p G
 unfold Bz jaC EI
 cases hg:KH p G 0 with
 | none=>
  rw [hg] at hf
  have e: (VS G 0).toArray.push ⟨pV p, .slice none 0 0,G.length⟩ = (VS (G++ [(p, .slice none 0 0)]) 0).toArray:=by
   rw [←D9,jiB]
   simp
  simp only [Instr.mapEntry,Sem.run_bind,run_underlying H.map,Result.andThen_ok,MapKept.run_getObj_map hb',H.chk,hf,H.zero,MapKept.run_setObj_map _ hb',e,Sem.run_pure,goInt]
  unfold ZF
  rw [jid]
  rfl
 | some x=>
  obtain ⟨j,v⟩ :=x
  rw [hg] at hf
  obtain ⟨_,hj⟩ :=MN hg
  rw [jjR] at hj
  have hj': (VS G 0).toArray[j]? =some ⟨pV p,v,j⟩ :=by
   rw [List.getElem?_toArray,LX,hj]
   simp
  have hsame: (VS G 0).toArray.modify j (fun e=> {e with key:=pV p}) = (VS G 0).toArray:=by
   apply Array.ext'
   rw [Array.toList_modify]
   refine List.ext_getElem? fun i=> ?_
   rw [List.getElem?_modify]
   by_cases hi:j=i
   ·subst hi
    rw [List.getElem?_toArray] at hj'
    simp [hj']
   ·simp [hi]
  simp only [Instr.mapEntry,Sem.run_bind,run_underlying H.map,Result.andThen_ok,MapKept.run_getObj_map hb',H.chk,hf,hj',jjU,Option.getD_some,jcj,hsame,MapKept.run_setObj_map _ hb',Sem.run_pure,goInt]
  rfl
theorem RS:∀(G:List (Pn×Value)) (i j:Nat),j<G.length→(VS G i).findIdx? (fun e=> ((e.born:Nat) :Int) == ((i+j:Nat) :Int)) =some j
 | [],_,_,h=>absurd h (by simp)
 | (p,v) ::l,i,0,_=>by simp [VS,List.findIdx?_cons]
 | (p,v) ::l,i,j+1,h=>by
  have ih:=RS l (i+1) j (by simpa using h)
  rw [show i+1+j=i+ (j+1) by omega] at ih
  have hb: (((i:Nat) :Int) == ((i+ (j+1) :Nat) :Int)) =false:=by rw [beq_eq_false_iff_ne];omega
  simp only [VS,List.findIdx?_cons,hb,ih]
  simp
theorem jcu (h:G[j]? =some (p,u)) : (VS G 0).toArray.modify j (fun e=> {e with val:=v}) = (VS (G.set j (p,v)) 0).toArray:=by
 apply Array.ext'
 rw [Array.toList_modify]
 refine List.ext_getElem? fun i=> ?_
 have hj:= (List.getElem?_eq_some_iff.1 h).1
 rw [List.getElem?_modify,jjj,LX,LX,List.getElem?_set]
 by_cases hi:j=i
 ·subst hi
  obtain ⟨_,e⟩ :=List.getElem?_eq_some_iff.1 h
  simp [hj,e]
 ·simp [hi]
theorem run_store (hb:w.heap[b]? =some (ZF G)) (h:G[j]? =some (p,u)) :
  (Instr.entryStore T (.map (some b)) (.int .i64 (j:Nat)) v).run P w= .ok () {w with heap:=w.heap.setIfInBounds b (ZF (G.set j (p,v)))} :=by
 have hb':w.heap[b]? =some (.map (VS G 0).toArray G.length) :=hb
 have hj:= (List.getElem?_eq_some_iff.1 h).1
 have hidx: (VS G 0).toArray.findIdx? (fun e=> ((e.born:Nat) :Int) == ((j:Nat) :Int)) =some j:=by
  have:=RS G 0 j hj
  rw [jiB] at this
  simpa using this
 simp only [Instr.entryStore,Sem.run_bind,Sem.run_pure,Result.andThen_ok,MapKept.run_getObj_map hb',asInt,asIntOf,hidx,jcu h,MapKept.run_setObj_map _ hb']
 unfold ZF
 rw [jjf]
theorem jdm (H:MapTy P T K E) (hb:w.heap[b]? =some (ZF G)) (p:Pn) :
  (Instr.lookup T (.map (some b)) (pV p) false).run P w= .ok (Bz p G) w:=by
 have hb':w.heap[b]? =some (.map (VS G 0).toArray G.length) :=hb
 have hf: (Instr.findKey K (pV p) (VS G 0).toArray.toList).run P w= .ok (KH p G 0) w:=by rw [jjj];exact Sr H p G
 unfold Bz
 cases hg:KH p G 0 with
 | none=>
  rw [hg] at hf
  simp [Instr.lookup,run_underlying H.map,MapKept.run_getObj_map hb',H.chk,hf,H.zero,Result.andThen]
 | some x=>
  rw [hg] at hf
  simp [Instr.lookup,run_underlying H.map,MapKept.run_getObj_map hb',H.chk,hf,Result.andThen]
end
section
variable {P:Program} {n:Nat} {env:List (Nat×Value)} {w0:Bs} {Rs:List Res} {o:Oper} {Q:Exit→Act→World→Prop} {K:Act→World→Prop}
theorem Pm {T d:Nat} (ho:o.op= .makeMap T none) (hd:o.dst=some d) (hn:d<n) (h:∀b,At n ((d, .map (some b)) ::env) w0 (Rs++ [.mp b []]) K) :At n env w0 Rs (fun a w=>o.wp P a w K Q) :=fun a w hF hs=>by
 have: (execOp a.eval o).run P w= .ok (.value (.map (some w.heap.size))) (w.alloc (.map #[] 0)) :=by
  unfold execOp
  simp only [ho]
  simp [Instr.makeMap]
 show o.upon P a K Q ((execOp a.eval o).run P w)
 rw [this,Oper.upon_value,hd]
 exact h _ _ _ (hF.put hn _) (hs.add (Over.alloc _ _) (by show(w.alloc (.map #[] 0)).heap[w.heap.size]? =some (.map #[] 0);exact(MapKept.heap_alloc w _).1) (fun b hb=>Nat.le_of_eq hb.symm) ⟨jie _,fun _ _=>jie _⟩)
theorem jcF {G':List (Pn×Value)} (hs:St w0 Rs w) (hk:Rs[k]? =some (.mp b G)) :St w0 (Rs.set k (.mp b G')) {w with heap:=w.heap.setIfInBounds b (ZF G')} :=by
 have hh:w.heap[b]? =some (ZF G) := (hs.all k _ hk).1
 have hlow:= (hs.all k _ hk).2.1 b rfl
 have hne:∀c,c≠b→({w with heap:=w.heap.setIfInBounds b (ZF G')} :World).heap[c]? =w.heap[c]? :=fun c hc=>by simp [Array.getElem?_setIfInBounds,Ne.symm hc]
 refine hs.upd hk ⟨hs.over.os,hs.over.tape,hs.over.output,by simpa using hs.over.size,fun c hc hx=> ?_⟩ (by simp) (fun c _ h=>hne c h) (jb3 hh) (fun c hc=> .inl hc) J
 have:c≠b:=fun e=>by
  subst e
  rcases hlow with h | h
  ·have h:w0.N≤c:=h
   omega
  ·exact hx h
 rw [hne c this]
 exact hs.over.block c hc hx
theorem Tu {Kt E:TypeId} {d:Nat} (H:MapTy P T Kt E) (p:Pn) (ho:o.op= .mapEntry T x y) (hx:ev env x=some (.map (some b))) (hy:ev env y=some (pV p)) (hk:Rs[k]? =some (.mp b G)) (hd:o.dst=some d) (hn:d<n) (h:At n ((d, .tuple #[Bz p G, .int .i64 (jaC p G:Nat)]) ::env) w0 (Rs.set k (.mp b (EI p G))) K) :At n env w0 Rs (fun a w=>o.wp P a w K Q) :=fun a w hF hs=>by
 have hh:w.heap[b]? =some (ZF G) := (hs.all k _ hk).1
 have hrun: (execOp a.eval o).run P w= .ok (.value (.tuple #[Bz p G, .int .i64 (jaC p G:Nat)])) {w with heap:=w.heap.setIfInBounds b (ZF (EI p G))} :=by
  unfold execOp
  simp only [ho,hF.ev hx,hF.ev hy,Sem.run_bind,jaP H hh p,Result.andThen_ok,Sem.run_pure]
 show o.upon P a K Q ((execOp a.eval o).run P w)
 rw [hrun,Oper.upon_value,hd]
 exact h _ _ (hF.put hn _) (jcF hs hk)
theorem Dl {z:Operand} (ho:o.op= .entryStore T x y z) (hd:o.dst=none) (hx:ev env x=some (.map (some b))) (hy:ev env y=some (.int .i64 (j:Nat))) (hz:ev env z=some v) (hk:Rs[k]? =some (.mp b G)) (hg:G[j]? =some (p,u)) (h:At n env w0 (Rs.set k (.mp b (G.set j (p,v)))) K) :At n env w0 Rs (fun a w=>o.wp P a w K Q) :=fun a w hF hs=>by
 have hh:w.heap[b]? =some (ZF G) := (hs.all k _ hk).1
 have hrun: (execOp a.eval o).run P w= .ok .skip {w with heap:=w.heap.setIfInBounds b (ZF (G.set j (p,v)))} :=by
  unfold execOp
  simp only [ho,hF.ev hx,hF.ev hy,hF.ev hz,Sem.run_bind,run_store hh hg,Result.andThen_ok,Sem.run_pure]
 show o.upon P a K Q ((execOp a.eval o).run P w)
 rw [hrun,Oper.upon_skip,hd]
 exact h _ _ hF (jcF hs hk)
theorem jaJ {Kt E:TypeId} (H:MapTy P T Kt E) (p:Pn) (hk:Rs[k]? =some (.mp b G)) (ho:o.op= .lookup T x y false) (hx:ev env x=some (.map (some b))) (hy:ev env y=some (pV p)) :Qt P o n env w0 Rs (Bz p G) :=
 kC fun a w hF hs=>by
  have hh:w.heap[b]? =some (ZF G) := (hs.all k _ hk).1
  unfold execOp
  simp only [ho,hF.ev hx,hF.ev hy,Sem.run_bind,jdm H hh p,Result.andThen_ok,Sem.run_pure]
end
theorem jfO:MapTy Tryz.prog 165 28 166 where
 map:=by kernel_rfl
 chk:=fun e p w=>by kernel_rfl
 eq:=fun p q w=>by
  show(Op.equalIn (9999+1) 28 (.agg #[.int .i64 p.1, .int .i64 p.2]) (.agg #[.int .i64 q.1, .int .i64 q.2])).run Tryz.prog w=_
  have hp:Tryz.prog.stoodInHeld 28=false:=by kernel_rfl
  rw [run_equalIn_agg w 9999 28 _ _ Kr hp]
  simp only [Program.fieldsOf,Tryz.underlying28]
  cases h1: (p.1==q.1) <;>cases h2: (p.2==q.2)
  all_goals
   simp only [beq_iff_eq,beq_eq_false_iff_ne] at h1 h2
   simp [Op.eqFields,go_sem, *]
 now:=⟨_,Tryz.underlying28,fun p q=>rfl⟩
 zero:=fun w=>by kernel_rfl
end Go.Proofs.YtbahojdbmmjkcaaGreat
