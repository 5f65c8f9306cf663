import Derived.Test.YtpncbbcmoiiipaaGreatKSd
set_option linter.unusedVariables false
set_option linter.unusedSimpArgs false
namespace Go.Proofs.YtpncbbcmoiiipaaGreat
open Go Go.RowKit
section
variable {P:Program} {n:Nat} {env:List (Nat×Value)} {w0:Bs} {Rs:List Res} {ops:Array Oper} {Q:Exit→Act→World→Prop} {K:Act→World→Prop} {o:Oper}
section
variable {x y:Operand} {ts:Array TypeId} {p q:Int}
theorem jc2 (ho:o.op= .call {callee:= .builtin .min,args:= #[x,y],argTypes:=ts}) (hx:ev env x=some (.int .i64 p)) (hy:ev env y=some (.int .i64 q)) :Qt P o n env w0 Rs (.int .i64 (min p q)) :=
 Q9 fun a w hF _=>by
  have e:min p q=if q<p then q else p:=by split<;>omega
  unfold execOp;simp only [ho];simp [resolve,invoke,builtin,hF.ev hx,hF.ev hy,run_min_int2,e]
theorem jc1 (ho:o.op= .call {callee:= .builtin .max,args:= #[x,y],argTypes:=ts}) (hx:ev env x=some (.int .i64 p)) (hy:ev env y=some (.int .i64 q)) :Qt P o n env w0 Rs (.int .i64 (max p q)) :=
 Q9 fun a w hF _=>by
  have e:max p q=if q>p then q else p:=by split<;>omega
  unfold execOp;simp only [ho];simp [resolve,invoke,builtin,hF.ev hx,hF.ev hy,run_max_int2,e]
end
theorem Th {T m:Nat} (h: (P.info? T).map (·.size) =some m) (w:World) : (sizeOf T).run P w= .ok m w:=by
 obtain ⟨i,hi,hs'⟩ :=jjQ.1 h
 simp [sizeOf,typeInfo,hi,hs']
theorem TyL.elem {T U m:Nat} (h:TyL P T U m) :P.elem T=U:=by simp [Program.elem,h.desc]
theorem Vy {T U s len cap l:Nat} {x y:Operand} {a:Option Addr} (ho:o.op= .slice T x (some y) none none) (hx:ev env x=some (.slice a len cap)) (hy:ev env y=some (.int .i64 (l:Int))) (hT:TyL P T U s) (hl:l≤len) :Qt P o n env w0 Rs (sliced a l len cap s) :=
 Q9 fun a' w hF _=>by
  have h1:=run_sliceAt_slice (P:=P) w T (.slice a len cap) (some (.int .i64 (l:Int))) none none (by rw [hT.elem];exact hT.desc)
  have h2:=run_slice_l (P:=P) w T a len cap (by rw [hT.elem];exact hT.desc) .i64 (l:Int) Om Om
  unfold execOp;simp only [ho,hF.ev hx,jj4,Option.map_none,hF.ev hy]
  simp [h1,h2,hT.elem,Th hT.size]
theorem Kl {T U s len cap h:Nat} {x y:Operand} {a:Option Addr} (ho:o.op= .slice T x none (some y) none) (hx:ev env x=some (.slice a len cap)) (hy:ev env y=some (.int .i64 (h:Int))) (hT:TyL P T U s) (hl:h≤cap) :Qt P o n env w0 Rs (sliced a 0 h cap s) :=
 Q9 fun a' w hF _=>by
  have h1:=run_sliceAt_slice (P:=P) w T (.slice a len cap) none (some (.int .i64 (h:Int))) none (by rw [hT.elem];exact hT.desc)
  have h2:=run_slice_h (P:=P) w T a len cap (by rw [hT.elem];exact hT.desc) .i64 (h:Int) Om Om
  unfold execOp;simp only [ho,hF.ev hx,jj4,Option.map_none,hF.ev hy]
  simp [h1,h2,hT.elem,Th hT.size]
structure Src (s:Nat) (v2:Value) (m:Nat) (news:List Value) (w:World) :Prop where
 len:news.length=m*s
 src: (v2= .slice none 0 0∧m=0)∨∃ad c,v2= .slice (some ad) m c∧∀j u,news[j]? =some u→w.cell? (ad.add j) =some u
theorem jfx {w:World} {k B U s m:Nat} {v:Value} {xs:List Value} (hs:St w0 Rs w) (hk:Rs[k]? =some (.row B U s v m xs)) :Src s v m xs w:=by
 have h:w.ownsRow B U s v m xs:= (hs.all k _ hk).1
 refine⟨h.1,?_⟩
 rcases h.2 with⟨rfl,rfl⟩ |⟨g,cap,cur,rfl,hb,hg,hcap,_⟩
 ·exact .inl ⟨rfl,rfl⟩
 ·exact .inr ⟨_,_,rfl,h.cells rfl⟩
theorem Qb {w:World} {k b U s m c:Nat} {cs:List Value} (hs:St w0 Rs w) (hk:Rs[k]? =some (.cel b U cs)) (hl:cs.length=m*s) :Src s (.slice (some ⟨b,0,none⟩) m c) m cs w:=
 ⟨hl, .inr ⟨_,_,rfl,fun j u hu=>by rw [Q1,cell_of_row w b _ _ U (0,0) (hs.cel hk),jiL];simpa using hu⟩⟩
theorem ND {x y:Operand} {T U s bytes k B0 m d nn:Nat} {z v v2:Value} {xs news:List Value} (ho:o.op= .call {callee:= .builtin .append,args:= #[x,y],argTypes:= #[T,T]}) (hT:TyL P T U s) (hZ:TyZ P U s bytes z) (hs0:0<s) (hd:o.dst=some d) (hn:d<n)
  (hx:ev env x=some v) (hy:ev env y=some v2) (hk:Rs[k]? =some (.row B0 U s v nn xs)) (hsrc:∀w,St w0 Rs w→Src s v2 m news w) (h1:∀u∈news,u.oneCell'=true)
  (h63:nn+m≤maxLen) (hbytes: (nn+m) *bytes≤140737488355328) (hB:B0≤w0.N)
  (h:∀v',At n ((d,v') ::env) w0 (Rs.set k (.row B0 U s v' (nn+m) (xs++news))) K) :At n env w0 Rs (fun a w=>o.wp P a w K Q) :=fun a w hf hs=>by
 have hS:=hsrc w hs
 rcases hS.src with⟨rfl,rfl⟩ |⟨ad,c,rfl,hnews⟩
 ·obtain ⟨i,hi,hz0,hz1,hz2⟩ :=hZ.info
  have hown:w.ownsRow B0 U s v nn xs:= (hs.all k _ hk).1
  have hr:=run_append_owned_none (P:=P) w B0 T o.type U i s hT.desc hi v nn xs hown
  have hrun: (execOp a.eval o).run P w= .ok (.value v) w:=by
   unfold execOp
   simp only [ho,resolve,invoke,builtin,Sem.run_bind,Sem.run_pure,Result.andThen_ok,jiD,jiA,jiM,hf.ev hx,hf.ev hy,hr]
  have hnil:news= [] :=jiQ (by simpa using hS.len)
  subst hnil
  show o.upon P a K Q ((execOp a.eval o).run P w)
  rw [hrun,Oper.upon_value,hd]
  refine h v _ w (hf.put hn v) (hs.chg hk (fun hP=> ?_) (fun b hb=>hb) J)
  rw [jiG]
  exact hP
 ·exact EY ho hT hZ hs0 hd hn hx hy hk hS.len (fun w' hs'=>by
   rcases(hsrc w' hs').src with⟨e,_⟩ |⟨ad',c',e,hn'⟩
   ·cases e
   ·injection e with e1 e2 e3
    injection e1 with e1
    subst e1
    exact hn') h1 h63 hbytes hB h a w hf hs
theorem Cj {T U s bytes m d:Nat} {z:Value} {x y:Operand} (ho:o.op= .makeSlice T x y) (hx:ev env x=some (.int .i64 (m:Int))) (hy:ev env y=some (.int .i64 (m:Int))) (hT:TyL P T U s) (hZ:TyZ P U s bytes z) (hd:o.dst=some d) (hn:d<n) (hb:bytes*m≤281474976710656) (hm:m≤9223372036854775807)
  (h:∀b,At n ((d, .slice (some ⟨b,0,none⟩) m m) ::env) w0 (Rs++ [.cel b U (madeCells z.cells (m*s)).toList]) K) :At n env w0 Rs (fun a w=>o.wp P a w K Q) :=fun a w hf hs=>by
 obtain ⟨i,hi,hz0,hz1,hz2⟩ :=hZ.info
 have hmk:=run_make (P:=P) w T U i z hT.desc hi hz0 .i64 .i64 (m:Int) (m:Int) Om Om (by rw [hz2];omega) Om
 rw [hz1,Int.toNat_natCast] at hmk
 have hrun: (execOp a.eval o).run P w= .ok (.value (.slice (some ⟨w.heap.size,0,none⟩) m m)) (w.alloc (.cells (madeCells z.cells (m*s)) U)) :=by
  unfold execOp
  simp only [ho,hf.ev hx,hf.ev hy,Sem.run_bind,hmk,Result.andThen_ok,Sem.run_pure]
 show o.upon P a K Q ((execOp a.eval o).run P w)
 rw [hrun,Oper.upon_value,hd]
 exact h _ _ _ (hf.put hn _) (hs.add (Over.alloc _ _) (by show(w.alloc _).heap[w.heap.size]? =some (.cells (madeCells z.cells (m*s)).toList.toArray U (0,0));rw [heap_alloc_new,jjy]) (fun b hb=>Nat.le_of_eq hb.symm) ⟨jii _,fun _ _=>jii _⟩)
theorem jnX {f:FuncId} {xs:List Operand} {vs:List Value} (ho:o.op= .makeFunc (.func f) #[] xs.toArray) (hx:TF env xs=some vs) :Qt P o n env w0 Rs (.func (.func f) #[] vs.toArray) :=
 Q9 fun a w hF _=>by
  have he:xs.map a.eval=vs:=hF.evs hx
  unfold execOp;simp only [ho];simp [Instr.makeFunc,he]
theorem joN {f:FuncId} (hfn:FnOk P f) {g:Operand} {cs:List Value} {xs:List Operand} {vs:List Value} {ts:Array TypeId} (ho:o.op= .call {callee:= .value g,args:=xs.toArray,argTypes:=ts}) (hg:ev env g=some (.func (.func f) #[] cs.toArray)) (hx:TF env xs=some vs) {a:Act} {w:World} (hF:Frm n env a) :
  (execOp a.eval o).run P w= .ok (.enter f (vs++cs).toArray) w:=by
 have he:xs.map a.eval=vs:=hF.evs hx
 unfold execOp
 simp only [ho]
 simp only [resolve,Deferred.ofValue,hF.ev hg]
 simp [invoke,hfn.run,he]
theorem jph {f:FuncId} (hfn:FnOk P f) {g:Operand} {cs:List Value} {xs:List Operand} {vs:List Value} {ts:Array TypeId} {v:Value} (ho:o.op= .call {callee:= .value g,args:=xs.toArray,argTypes:=ts}) (hg:ev env g=some (.func (.func f) #[] cs.toArray)) (hx:TF env xs=some vs)
  (hc:∀w,St w0 Rs w→Calls P f (vs++cs).toArray w fun e w'=>e= .returned v∧Over w w') :Qt P o n env w0 Rs v:=fun a w hF hs=>by
 rw [joN hfn ho hg hx hF]
 exact hc w hs
end
section
variable {P:Program} {ops:Array Oper} {Q:Exit→Act→World→Prop} {md:Region.Mode} {B B' S:Base}
theorem Settles.weak {o:Oper} {v:Value} {a:Act} (h:Settles P ops S o v a) (hB:∀w,B.holds w→S.holds w) :Settles P ops B o v a:=by
 rcases h with⟨h1,h2⟩ | h
 ·exact .inl ⟨h1,fun w hw=>h2 w (hB w hw)⟩
 ·exact .inr h
def orB (B B':Base) :Base:=⟨fun w=>B.holds w∨B'.holds w,fun w w' h k=>h.elim (fun h=> .inl (B.keep w w' h k)) (fun h=> .inr (B'.keep w w' h k))⟩
def Wl (P:Program) (md:Region.Mode) (ops:Array Oper) (Q:Exit→Act→World→Prop) (B B':Base) (g f:Nat) :Nat→Array Bool→Act→World→Prop
 | 0,listed,a,W=>Region.ready md ops listed= []∧∀w,Over W w→Q .normal a w
 | fuel+1,listed,a,W=>
  (Region.ready md ops listed= []→∀w,Over W w→Q .normal a w)∧
  ∀i∈Region.ready md ops listed,∀w,Over W w→(i≠g→wpOp P ops Q i (fun a' w'=>B.holds w'∧Wl P md ops Q B B' g f fuel (listed.setIfInBounds i true) a' w') a w)∧
   (i=g→wpOp P ops Q g (fun a' w'=>B'.holds w'∧Qr P md ops Q B' f fuel (listed.setIfInBounds g true) a' w') a w)
theorem LB {g f:Nat} :∀(fuel:Nat) (listed:Array Bool) (a:Act) (W W':World),Over W W'→Wl P md ops Q B B' g f fuel listed a W→Wl P md ops Q B B' g f fuel listed a W'
 | 0,_,_,_,_,ho,h=>⟨h.1,fun w hw=>h.2 w (ho.trans hw)⟩
 | _+1,_,_,_,_,ho,h=>⟨fun h0 w hw=>h.1 h0 w (ho.trans hw),fun i hi w hw=>h.2 i hi w (ho.trans hw)⟩
theorem Bn {g f:Nat} :∀(fuel:Nat) (listed:Array Bool) (a:Act) (W:World),Wl P md ops Q B B' g f fuel listed a W→∀w,Over W w→wpAny P md ops Q fuel listed a w
 | 0,listed,a,W,h,w,hS=>⟨h.1,h.2 w hS⟩
 | fuel+1,listed,a,_,h,w,hS=>⟨fun h0=>h.1 h0 w hS,fun i hi=>by
   by_cases hig:i=g
   ·subst hig
    exact wpOp_mono (fun a' w' h'=>YR fuel _ a' w' h'.2 w' (Over.refl _)) ((h.2 i hi w hS).2 rfl)
   ·exact wpOp_mono (fun a' w' h'=>Bn fuel _ a' w' h'.2 w' (Over.refl _)) ((h.2 i hi w hS).1 hig)⟩
theorem IX {g f i:Nat} {oi:Oper} {v:Value} (hi:ops[i]? =some oi) (hsel:∀(j:Nat) (o:Oper) cs b,ops[j]? =some o→o.op≠ .select cs b)
  (hQ:∀c a w,Q (.panic c) (a.put oi.dst v) w→Q (.panic c) a w) (ms:List Nat) (late:Bool) (hne:i≠g) (hnf:i≠f) (hBS:∀w,B.holds w→S.holds w) (hB'S:late=true→∀w,B'.holds w→S.holds w) :
  ∀(fuel:Nat) (listed:Array Bool) (a:Act) (W:World),B.holds W→
   (∀j oj,ops[j]? =some oj→j≠i→listed.getD j true=false→(∀e∈oj.after,Region.binds md e=true→e.on≠i)→oi.apart ops oj=true)→
   i∈Region.ready md ops listed→(vF md ops listed i ms (if late then f else g) =true)→Settles P ops S oi v a→
   Wl P md ops Q B B' g f fuel (listed.setIfInBounds i true) (a.put oi.dst v) W→Wl P md ops Q B B' g f (fuel+1) listed a W:=by
 intro fuel
 induction fuel with
 | zero=>
  intro listed a W hBW _ hr hfi hy H
  refine⟨fun h=> (by rw [h] at hr;cases hr),fun j hj w hS=>⟨fun _=> ?_,fun hjg=> ?_⟩⟩
  ·by_cases hji:j=i
   ·subst hji;exact hy.wpOp hi (hBS _ (B.keep _ _ hBW hS)) fun w' hw'=>⟨B.keep _ _ (B.keep _ _ hBW hS) hw',LB _ _ _ _ _ (hS.trans hw') H⟩
   ·have:=ready_mono hj hji
    rw [H.1] at this
    cases this
  ·have:=ready_mono hj (fun e=>hne (e.symm.trans hjg))
   rw [H.1] at this
   cases this
 | succ fuel ih=>
  intro listed a W hBW hfree hr hfi hy H
  have rest:∀j,j∈Region.ready md ops listed→j≠i→∃oj,ops[j]? =some oj∧oi.apart ops oj=true∧(∀k ok,ops[k]? =some ok→k≠i→(listed.setIfInBounds j true).getD k true=false→
     (∀e∈ok.after,Region.binds md e=true→e.on≠i)→oi.apart ops ok=true) :=by
   intro j hj hji
   obtain ⟨hjun,oj,hoj,hall⟩ :=mem_ready.1 hj
   have hnot:∀e∈oj.after,Region.binds md e=true→e.on≠i:=fun e he hb heq=>by
    have h1:=hall e he hb
    have h0:= (mem_ready.1 hr).1
    rw [heq] at h1
    rcases jjk i listed.size with h' | h'
    ·simp [h'] at h0 h1;rw [h0] at h1;cases h1
    ·simp [Array.getElem?_eq_none h'] at h1
   refine⟨oj,hoj,hfree j oj hoj hji hjun hnot,fun k ok hk hki hun hno=> ?_⟩
   refine hfree k ok hk hki ?_ hno
   by_cases hjk:j=k
   ·subst hjk;exact hjun
   ·rw [getD_set_ne true hjk] at hun;exact hun
  refine⟨fun h=> (by rw [h] at hr;cases hr),fun j hj w hS=>⟨fun hjg=> ?_,fun hjg=> ?_⟩⟩
  ·by_cases hji:j=i
   ·subst hji;exact hy.wpOp hi (hBS _ (B.keep _ _ hBW hS)) fun w' hw'=>⟨B.keep _ _ (B.keep _ _ hBW hS) hw',LB _ _ _ _ _ (hS.trans hw') H⟩
   ·have h1:= (H.2 j (ready_mono hj hji) w hS).1 hjg
    obtain ⟨oj,hoj,hap,hfree'⟩ :=rest j hj hji
    have h2:=Yf hoj hap (fun cs b=>hsel i oi cs b hi) (fun cs b=>hsel j oj cs b hoj) hQ hy h1
    refine wpOp_mono (fun a' w' h3=>⟨h3.2.1,ih (listed.setIfInBounds j true) a' w' h3.2.1 hfree' (ready_mono hr (Ne.symm hji)) (Yo hj ms i (mem_ready.1 hr).1 hfi) h3.1 ?_⟩) h2
    rw [jjB _ _ hji]
    exact h3.2.2
  ·by_cases hl:late=true
   ·have hji:j≠i:=fun e=>hne (e.symm.trans hjg)
    subst hjg
    have h1:= (H.2 j (ready_mono hj hji) w hS).2 rfl
    obtain ⟨oj,hoj,hap,hfree'⟩ :=rest j hj hji
    have h2:=Yf hoj hap (fun cs b=>hsel i oi cs b hi) (fun cs b=>hsel j oj cs b hoj) hQ hy h1
    rw [hl,if_pos rfl] at hfi
    refine wpOp_mono (fun a' w' h3=>⟨h3.2.1,?_⟩) h2
    refine Gs hi hsel hQ ms hnf fuel (listed.setIfInBounds j true) a' w' h3.2.1 hfree' (ready_mono hr (Ne.symm hji)) (Yo hj ms i (mem_ready.1 hr).1 hfi) (h3.1.weak (hB'S hl)) ?_
    rw [jjB _ _ hji]
    exact h3.2.2
   ·rw [if_neg hl] at hfi
    exact absurd hj (hjg▸wP ms i (mem_ready.1 hr).1 hfi)
theorem LC {g f i:Nat} {oi:Oper} {v:Value} {fuel:Nat} {listed:Array Bool} {a:Act} {W:World} (late:Bool) (hBS:∀w,B.holds w→S.holds w) (hB'S:late=true→∀w,B'.holds w→S.holds w) (hBW:B.holds W) (hi:ops[i]? =some oi)
  (hs:Region.noSelect ops=true) (hf:Region.free md ops listed i=true) (hr: (Region.ready md ops listed).contains i=true)
  (hQ:∀c a w,Q (.panic c) (a.put oi.dst v) w→Q (.panic c) a w) {ms:List Nat} (hfi: (vF md ops listed i ms (if late then f else g) &&i !=g&&i !=f) =true)
  (hy:Settles P ops S oi v a) (h:Wl P md ops Q B B' g f fuel (listed.setIfInBounds i true) (a.put oi.dst v) W) :Wl P md ops Q B B' g f (fuel+1) listed a W:=by
 rw [jig,jig] at hfi
 exact IX hi (Region.noSelect_spec hs) hQ ms late (by simpa using hfi.1.2) (by simpa using hfi.2) hBS hB'S fuel listed a W hBW (Region.free_spec hi hf) (by simpa using hr) hfi.1.1 hy h
theorem Pf {g f:Nat} {oi:Oper} {fuel:Nat} {listed:Array Bool} {a:Act} {W:World} (hi:ops[g]? =some oi)
  (hr:Region.ready md ops listed= [g]) (hw:Region.wanted oi (yielded ops a.tmps) =true)
  (h:∀w,Over W w→Oper.wp P oi a w (fun a' w'=>B'.holds w'∧Qr P md ops Q B' f fuel (listed.setIfInBounds g true) a' w') Q) :Wl P md ops Q B B' g f (fuel+1) listed a W:=by
 refine⟨fun h0=> (by rw [h0] at hr;cases hr),fun j hj w hS=> ?_⟩
 rw [hr] at hj
 simp only [jik] at hj
 subst hj
 refine⟨fun hne=>absurd J hne,fun _=> ?_⟩
 unfold Go.wpOp
 simp only [hi,hw,if_true]
 exact .inl (h w hS)
end
section
variable {P:Program} {n:Nat} {env:List (Nat×Value)} {w0:Bs} {Rs:List Res} {ops:Array Oper} {Q:Exit→Act→World→Prop} {K:Act→World→Prop} {o:Oper}
variable {Rs0 Rs1:List Res} {fuel g f:Nat} {listed:Array Bool}
theorem uD (g f:Nat) (ks:List Nat) (h:At n env w0 Rs (fun a w=>Wl P .any ops Q (UX w0 Rs) (UX w0 (wks ks Rs)) g f fuel listed a w)) :At n env w0 Rs (fun a w=>wpAny P .any ops Q fuel listed a w) :=
 fun a w hf hs=>Bn _ _ _ _ (h a w hf hs) w (Over.refl _)
theorem qI {i d:Nat} {v:Value} (hi:ops[i]? =some o) (hS:Region.noSelect ops=true) (hfr:Region.free .any ops listed i=true) (hrd: (Region.ready .any ops listed).contains i=true) (ms:List Nat) (hfi: (vF .any ops listed i ms g&&i !=g&&i !=f) =true) (hQ:∀c a w,Q (.panic c) (a.put o.dst v) w→Q (.panic c) a w)
  (hg:o.guard=none) (hd:o.dst=some d) (hn:d<n) (hsub:∀w,St w0 Rs w→St w0 Rs0 w) (hq:Qt P o n env w0 Rs0 v)
  (h:At n ((d,v) ::env) w0 Rs (fun a w=>Wl P .any ops Q (UX w0 Rs0) (UX w0 Rs1) g f fuel (listed.setIfInBounds i true) a w)) :At n env w0 Rs (fun a w=>Wl P .any ops Q (UX w0 Rs0) (UX w0 Rs1) g f (fuel+1) listed a w) :=
 fun a w hf hs=>LC (S:=UX w0 Rs0) false (fun _ h=>h) (fun h=>by cases h) (hsub w hs) hi hS hfr hrd hQ hfi (.inl ⟨by simp [Region.wanted,hg],fun w' hs'=> (hq a w' hf hs').gives⟩) (hd▸h _ w (hf.put hn v) hs)
theorem k9 {d:Nat} {v:Value} (i:Nat) (hi:ops[i]? =some o) (ms:List Nat) (hsub:∀w,St w0 Rs w→St w0 Rs0 w) (hq:Qt P o n env w0 Rs0 v) (h:At n ((d,v) ::env) w0 Rs (fun a w=>Wl P .any ops Q (UX w0 Rs0) (UX w0 Rs1) g f fuel (listed.setIfInBounds i true) a w)) (hg:o.guard=none:=by exact rfl) (hd:o.dst=some d:=by exact rfl) (hn:d<n:=by decide) (hS:Region.noSelect ops=true:=by kernel_rfl) (hfr:Region.free .any ops listed i=true:=by kernel_rfl) (hrd: (Region.ready .any ops listed).contains i=true:=by kernel_rfl) (hfi: (vF .any ops listed i ms g&&i !=g&&i !=f) =true:=by kernel_rfl) (hQ:∀c a w,Q (.panic c) (a.put o.dst v) w→Q (.panic c) a w:=by exact fun _ _ _ h=>h) :At n env w0 Rs (fun a w=>Wl P .any ops Q (UX w0 Rs0) (UX w0 Rs1) g f (fuel+1) listed a w) :=qI hi hS hfr hrd ms hfi hQ hg hd hn hsub hq h
theorem vZ {i d:Nat} {v:Value} (hi:ops[i]? =some o) (hS:Region.noSelect ops=true) (hfr:Region.free .any ops listed i=true) (hrd: (Region.ready .any ops listed).contains i=true) (ms:List Nat) (hfi: (vF .any ops listed i ms f&&i !=g&&i !=f) =true) (hQ:∀c a w,Q (.panic c) (a.put o.dst v) w→Q (.panic c) a w)
  (hg:o.guard=none) (hd:o.dst=some d) (hn:d<n) (hsub:∀w,St w0 Rs w→St w0 Rs0 w) (hq:Qt P o n env w0 Rs0 v) (hq1:Qt P o n env w0 Rs1 v)
  (h:At n ((d,v) ::env) w0 Rs (fun a w=>Wl P .any ops Q (UX w0 Rs0) (UX w0 Rs1) g f fuel (listed.setIfInBounds i true) a w)) :At n env w0 Rs (fun a w=>Wl P .any ops Q (UX w0 Rs0) (UX w0 Rs1) g f (fuel+1) listed a w) :=
 fun a w hf hs=>LC (S:=orB (UX w0 Rs0) (UX w0 Rs1)) true (fun _ h=> .inl h) (fun _ _ h=> .inr h) (hsub w hs) hi hS hfr hrd hQ hfi (.inl ⟨by simp [Region.wanted,hg],fun w' hs'=>hs'.elim (fun h=> (hq a w' hf h).gives) (fun h=> (hq1 a w' hf h).gives)⟩) (hd▸h _ w (hf.put hn v) hs)
theorem zM (hi:ops[g]? =some o) (hr:Region.ready .any ops listed= [g]) (hg:o.guard=none)
  (h:At n env w0 Rs (fun a w=>o.wp P a w (fun a' w'=>St w0 Rs1 w'∧Qr P .any ops Q (UX w0 Rs1) f fuel (listed.setIfInBounds g true) a' w') Q)) :At n env w0 Rs (fun a w=>Wl P .any ops Q (UX w0 Rs0) (UX w0 Rs1) g f (fuel+1) listed a w) :=
 fun a w hf hs=>Pf hi hr (by simp [Region.wanted,hg]) (fun w' hw'=>h a w' hf (hs.over_ hw'))
end
section
variable {P:Program} {n:Nat} {env:List (Nat×Value)} {w0:Bs} {Rs:List Res} {ops:Array Oper} {Q:Exit→Act→World→Prop} {K:Act→World→Prop} {o:Oper}
theorem jal {f:FuncId} (hfn:FnOk P f) {y:Operand} {xs:List Operand} {vs:List Value} {ts:Array TypeId} (ho:o.op= .call {callee:= .value y,args:=xs.toArray,argTypes:=ts}) (hy:ev env y=some (.func (.func f) #[] #[])) (hx:TF env xs=some vs) {a:Act} {w:World} (hF:Frm n env a) : (execOp a.eval o).run P w= .ok (.enter f vs.toArray) w:=by
 have he:xs.map a.eval=vs:=hF.evs hx
 unfold execOp
 simp only [ho]
 simp only [resolve,hF.ev hy,Deferred.ofValue]
 simp [invoke,hfn.run,he]
theorem Vw {f:FuncId} (hfn:FnOk P f) {y:Operand} {xs:List Operand} {vs:List Value} {ts:Array TypeId} {v:Value} (ho:o.op= .call {callee:= .value y,args:=xs.toArray,argTypes:=ts}) (hy:ev env y=some (.func (.func f) #[] #[])) (hx:TF env xs=some vs)
  (hc:∀w,St w0 Rs w→Calls P f vs.toArray w fun e w'=>e= .returned v∧Over w w') :Qt P o n env w0 Rs v:=fun a w hF hs=>by
 rw [jal hfn ho hy hx hF]
 exact hc w hs
theorem jnR {f:FuncId} (hfn:FnOk P f) {y:Operand} {xs:List Operand} {vs:List Value} {ts:Array TypeId} {d:Nat} {X:Type} {v:X→Value} {r:X→Res} {H:X→Prop} (ho:o.op= .call {callee:= .value y,args:=xs.toArray,argTypes:=ts}) (hy:ev env y=some (.func (.func f) #[] #[])) (hx:TF env xs=some vs) (hd:o.dst=some d) (hn:d<n)
  (hc:∀w,St w0 Rs w→Calls P f vs.toArray w fun e w'=>∃x,e= .returned (v x)∧Over w w'∧(r x).P w'∧(∀b,(r x).F b→w.heap.size≤b)∧(r x).B=0∧H x)
  (h:∀x,H x→At n ((d,v x) ::env) w0 (Rs++ [r x]) K) :At n env w0 Rs (fun a w=>o.wp P a w K Q) :=fun a w hF hs=>by
 show o.upon P a K Q ((execOp a.eval o).run P w)
 rw [jal hfn ho hy hx hF]
 refine Calls.mono (hc w hs) ?_
 rintro e w' ⟨x,rfl,hO,hP,hF',hB,hH⟩
 exact hd▸h x hH _ _ (hF.put hn _) (hs.add hO hP hF' ⟨by rw [hB];exact jii _,fun _ _=>by rw [hB];exact jii _⟩)
end
end Go.Proofs.YtpncbbcmoiiipaaGreat
