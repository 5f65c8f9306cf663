import Derived.Test.YtbahojdbmmjkcaaGreatSHot
import Derived.Test.YtbahojdbmmjkcaaGreatSSd
import Derived.Test.YtbahojdbmmjkcaaGreatSTo
set_option linter.unusedVariables false
set_option linter.unusedSimpArgs false
namespace Go.Proofs.YtbahojdbmmjkcaaGreat
open Go Go.RowKit
variable {A:Option Addr} {w:World} {xs:List Int}
def nth (xs:List Int) (k:Nat) :Int:=xs.getD k 0
theorem Ph {k:Nat} (h:k<xs.length) :xs[k] =nth xs k:=by simp [nth,List.getD,h]
def Nums (w:World) (A:Option Addr) (n:Nat) (xs:List Int) :Prop:=xs.length=n∧(0<n→∃b o,A=some ⟨b,o,none⟩∧b<w.heap.size∧∀k,k<n→w.cell? ⟨b,o+k,none⟩ =some (.int .i64 (nth xs k)))
theorem Nums.over {w':World} {n:Nat} (h:Nums w A n xs) (hb:Over w w') :Nums w' A n xs:=by
 refine⟨h.1,fun hn=> ?_⟩
 obtain ⟨b,o,hA,hlt,hc⟩ :=h.2 hn
 exact⟨b,o,hA,jio hlt hb.size,fun k hk=> ((Jr hb).1 b _ hlt).trans (hc k hk)⟩
theorem jdc {b o m j:Nat} {Rs:List Res} (h:Nums w (some ⟨b,o,none⟩) m xs) (hj:j<m) :∀w',St ⟨w,[]⟩ Rs w'→w'.cell? ⟨b,o+j*1,none⟩ =some (.int .i64 (nth xs j)) :=fun w' hs=>by
 obtain ⟨b',o',e,_,hc⟩ := (h.over hs.fin).2 Om
 injection e with e
 injection e with e1 e2 _
 subst e1 e2
 rw [jja]
 exact hc j hj
end Go.Proofs.YtbahojdbmmjkcaaGreat
namespace Go.Proofs.YtbahojdbmmjkcaaGreat
open Go Go.RowKit
variable {A:Option Addr} {n:Nat} {w w':World} {zs:List Int}
set_option maxRecDepth 100000
set_option maxHeartbeats 4000000
section
variable {P:Program} {n:Nat} {env:List (Nat×Value)} {w0:Bs} {Rs:List Res} {o:Oper}
variable {x y:Operand} {T T':TypeId} {p q:Int}
theorem uV (ho:o.op= .binOp .shr T x y T') (hx:ev env x=some (.int .u64 p)) (hy:ev env y=some (.int .u64 q)) (hq:0≤q) (hq2:q<64) :Qt P o n env w0 Rs (.int .u64 (p/2^q.toNat)) :=
 kC fun a w hf _=>by unfold execOp;simp only [ho,hf.ev hx,hf.ev hy];simp [go_sem]
theorem ku {k k':IntKind} {d:TypeDesc} (ho:o.op= .convert T T' x) (hs:P.underlying T=some d) (hd:P.underlying T'=some (.int k')) (hx:ev env x=some (.int k p)) (hw:k'.wrap p=p) :Qt P o n env w0 Rs (.int k' p) :=
 kC fun a w hf _=>by
  have h1: (convert T T' (.int k p)).run P w= .ok (.int k' p) w:=by
   unfold convert
   simp only [Sem.run_bind,run_underlying hs,run_underlying hd,Result.andThen_ok]
   simp [Conv.intToInt,hw]
  unfold execOp;simp only [ho,hf.ev hx];simp [go_sem,h1]
end
theorem Ua (a:Int) (h1: -9223372036854775808≤a) (h2:a≤9223372036854775807) :IntKind.i64.wrap a=a:=by simp [IntKind.wrap,IntKind.bits,IntKind.signed];omega
theorem Yk (a:Int) (h:0≤a) (h2:a<18446744073709551616) :IntKind.u64.wrap a=a:=by simp [IntKind.wrap,IntKind.bits,IntKind.signed];omega
def Byts (w:World) (A:Option Addr) (n:Nat) (zs:List Int) :Prop:=zs.length=n∧(∀z∈zs,0≤z∧z≤255)∧(0<n→∃b o,A=some ⟨b,o,none⟩∧b<w.heap.size∧∀k,k<n→w.cell? ⟨b,o+k,none⟩ =some (.int .u8 (nth zs k)))
theorem Byts.agree (h:Byts w A n zs) (hz:w.heap.size≤w'.heap.size) (ha:∀p,A=some p→w'.heap[p.block]? =w.heap[p.block]?) :Byts w' A n zs:=by
 refine⟨h.1,h.2.1,fun hn=> ?_⟩
 obtain ⟨b,o,rfl,hlt,hc⟩ :=h.2.2 hn
 refine⟨b,o,J,by omega,fun k hk=> ?_⟩
 rw [←hc k hk]
 have:=ha _ rfl
 simp only [World.cell?,this]
theorem Byts.over (h:Byts w A n zs) (hb:Over w w') :Byts w' A n zs:=by
 refine⟨h.1,h.2.1,fun hn=> ?_⟩
 obtain ⟨b,o,hA,hlt,hc⟩ :=h.2.2 hn
 exact⟨b,o,hA,jio hlt hb.size,fun k hk=> ((Jr hb).1 b _ hlt).trans (hc k hk)⟩
theorem Byts.ovx {b:Nat} (h:Byts w A n zs) (ho:Ovx ⟨w,[b]⟩ w') (hne:0<n→∀p,A=some p→p.block≠b) :Byts w' A n zs:=by
 refine⟨h.1,h.2.1,fun hn=> ?_⟩
 obtain ⟨b',o,rfl,hlt,hc⟩ :=h.2.2 hn
 have hs:w.heap.size≤w'.heap.size:=ho.size
 have hb:=ho.block b' hlt (by simpa using hne hn _ rfl)
 refine⟨b',o,J,by omega,fun k hk=> ?_⟩
 rw [←hc k hk]
 simp only [World.cell?,hb]
def srcR (b:Nat) (A:Option Addr) (n c K:Nat) :Res where
 F:= (· =b)
 P:=fun w=>∃(k:Nat) (s:Int),k≤K∧0≤s∧s<18446744073709551616∧w.heap[b]? =some (.cells #[.slice A n c, .int .i64 (k:Int), .int .u64 s] 141 (0,0))
 low:=fun w h q hq=>by obtain ⟨k,s,_,_,_,hh⟩ :=h;exact hq▸J4 hh
 B:=0
 dep:=fun w w' h hz hb=>by
  obtain ⟨k,s,h1,h2,h3,hh⟩ :=h
  exact⟨k,s,h1,h2,h3,(hb b (J4 hh) (.inr rfl)).trans hh⟩
theorem srcR.more {b c K K':Nat} (h: (srcR b A n c K).P w) (hk:K≤K') : (srcR b A n c K').P w:=by
 obtain ⟨k,s,h1,h2⟩ :=h
 exact⟨k,s,jiY h1 hk,h2⟩
end Go.Proofs.YtbahojdbmmjkcaaGreat
namespace Go.Proofs.YtbahojdbmmjkcaaGreat
open Go Go.RowKit
variable {W:World} {a:Act} {d f fuel g i:Nat} {listed:Array Bool} {oi:Oper} {ts:Array TypeId} {v:Value} {vs:List Value} {xs:List Operand} {y:Operand}
section
variable {P:Program} {ops:Array Oper} {Q:Exit→Act→World→Prop} {md:Region.Mode} {B B' S:Base}
theorem Settles.weak {o:Oper} (h:Settles P ops S o v a) (hB:∀w,B.holds w→S.holds w) :Settles P ops B o v a:=by
 rcases h with⟨h1,h2⟩ | h
 ·exact .inl ⟨h1,fun w hw=>h2 w (hB w hw)⟩
 ·exact .inr h
def orB (B B':Base) :Base:=⟨fun w=>B.holds w∨B'.holds w,fun w w' h k=>h.elim (fun h=> .inl (B.keep w w' h k)) (fun h=> .inr (B'.keep w w' h k))⟩
def wI (P:Program) (md:Region.Mode) (ops:Array Oper) (Q:Exit→Act→World→Prop) (B B':Base) (g f:Nat) :Nat→Array Bool→Act→World→Prop
 | 0,listed,a,W=>Region.ready md ops listed= []∧∀w,Over W w→Q .normal a w
 | fuel+1,listed,a,W=>
  (Region.ready md ops listed= []→∀w,Over W w→Q .normal a w)∧
  ∀i∈Region.ready md ops listed,∀w,Over W w→(i≠g→wpOp P ops Q i (fun a' w'=>B.holds w'∧wI P md ops Q B B' g f fuel (listed.setIfInBounds i true) a' w') a w)∧
   (i=g→wpOp P ops Q g (fun a' w'=>B'.holds w'∧Qr P md ops Q B' f fuel (listed.setIfInBounds g true) a' w') a w)
theorem Lj :∀(fuel:Nat) (listed:Array Bool) (a:Act) (W W':World),Over W W'→wI P md ops Q B B' g f fuel listed a W→wI P md ops Q B B' g f fuel listed a W'
 | 0,_,_,_,_,ho,h=>⟨h.1,fun w hw=>h.2 w (ho.trans hw)⟩
 | _+1,_,_,_,_,ho,h=>⟨fun h0 w hw=>h.1 h0 w (ho.trans hw),fun i hi w hw=>h.2 i hi w (ho.trans hw)⟩
theorem BC {g f:Nat} :∀(fuel:Nat) (listed:Array Bool) (a:Act) (W:World),wI P md ops Q B B' g f fuel listed a W→∀w,Over W w→wpAny P md ops Q fuel listed a w
 | 0,listed,a,W,h,w,hS=>⟨h.1,h.2 w hS⟩
 | fuel+1,listed,a,_,h,w,hS=>⟨fun h0=>h.1 h0 w hS,fun i hi=>by
   by_cases hig:i=g
   ·subst hig
    exact wpOp_mono (fun a' w' h'=>Yn fuel _ a' w' h'.2 w' (Over.refl _)) ((h.2 i hi w hS).2 rfl)
   ·exact wpOp_mono (fun a' w' h'=>BC fuel _ a' w' h'.2 w' (Over.refl _)) ((h.2 i hi w hS).1 hig)⟩
theorem Ro (hi:ops[i]? =some oi) (hsel:∀(j:Nat) (o:Oper) cs b,ops[j]? =some o→o.op≠ .select cs b) (hQ:∀c a w,Q (.panic c) (a.put oi.dst v) w→Q (.panic c) a w) (ms:List Nat) (late:Bool) (hne:i≠g) (hnf:i≠f) (hBS:∀w,B.holds w→S.holds w) (hB'S:late=true→∀w,B'.holds w→S.holds w) :
  ∀(fuel:Nat) (listed:Array Bool) (a:Act) (W:World),B.holds W→
   (∀j oj,ops[j]? =some oj→j≠i→listed.getD j true=false→(∀e∈oj.after,Region.binds md e=true→e.on≠i)→oi.apart ops oj=true)→
   i∈Region.ready md ops listed→(vd md ops listed i ms (if late then f else g) =true)→Settles P ops S oi v a→
   wI P md ops Q B B' g f fuel (listed.setIfInBounds i true) (a.put oi.dst v) W→wI P md ops Q B B' g f (fuel+1) listed a W:=by
 intro fuel
 induction fuel with
 | zero=>
  intro listed a W hBW _ hr hfi hy H
  refine⟨fun h=> (by rw [h] at hr;cases hr),fun j hj w hS=>⟨fun _=> ?_,fun hjg=> ?_⟩⟩
  ·by_cases hji:j=i
   ·subst hji;exact hy.wpOp hi (hBS _ (B.keep _ _ hBW hS)) fun w' hw'=>⟨B.keep _ _ (B.keep _ _ hBW hS) hw',Lj _ _ _ _ _ (hS.trans hw') H⟩
   ·have:=ready_mono hj hji
    rw [H.1] at this
    cases this
  ·have:=ready_mono hj (fun e=>hne (e.symm.trans hjg))
   rw [H.1] at this
   cases this
 | succ fuel ih=>
  intro listed a W hBW hfree hr hfi hy H
  have rest:∀j,j∈Region.ready md ops listed→j≠i→∃oj,ops[j]? =some oj∧oi.apart ops oj=true∧(∀k ok,ops[k]? =some ok→k≠i→(listed.setIfInBounds j true).getD k true=false→
     (∀e∈ok.after,Region.binds md e=true→e.on≠i)→oi.apart ops ok=true) :=by
   intro j hj hji
   obtain ⟨hjun,oj,hoj,hall⟩ :=mem_ready.1 hj
   have hnot:∀e∈oj.after,Region.binds md e=true→e.on≠i:=fun e he hb heq=>by
    have h1:=hall e he hb
    have h0:= (mem_ready.1 hr).1
    rw [heq] at h1
    rcases ji9 i listed.size with h' | h'
    ·simp [h'] at h0 h1;rw [h0] at h1;cases h1
    ·simp [Array.getElem?_eq_none h'] at h1
   refine⟨oj,hoj,hfree j oj hoj hji hjun hnot,fun k ok hk hki hun hno=> ?_⟩
   refine hfree k ok hk hki ?_ hno
   by_cases hjk:j=k
   ·subst hjk;exact hjun
   ·rw [getD_set_ne true hjk] at hun;exact hun
  refine⟨fun h=> (by rw [h] at hr;cases hr),fun j hj w hS=>⟨fun hjg=> ?_,fun hjg=> ?_⟩⟩
  ·by_cases hji:j=i
   ·subst hji;exact hy.wpOp hi (hBS _ (B.keep _ _ hBW hS)) fun w' hw'=>⟨B.keep _ _ (B.keep _ _ hBW hS) hw',Lj _ _ _ _ _ (hS.trans hw') H⟩
   ·have h1:= (H.2 j (ready_mono hj hji) w hS).1 hjg
    obtain ⟨oj,hoj,hap,hfree'⟩ :=rest j hj hji
    have h2:=yM hoj hap (fun cs b=>hsel i oi cs b hi) (fun cs b=>hsel j oj cs b hoj) hQ hy h1
    refine wpOp_mono (fun a' w' h3=>⟨h3.2.1,ih (listed.setIfInBounds j true) a' w' h3.2.1 hfree' (ready_mono hr (Ne.symm hji)) (yW hj ms i (mem_ready.1 hr).1 hfi) h3.1 ?_⟩) h2
    rw [jjr _ _ hji]
    exact h3.2.2
  ·by_cases hl:late=true
   ·have hji:j≠i:=fun e=>hne (e.symm.trans hjg)
    subst hjg
    have h1:= (H.2 j (ready_mono hj hji) w hS).2 rfl
    obtain ⟨oj,hoj,hap,hfree'⟩ :=rest j hj hji
    have h2:=yM hoj hap (fun cs b=>hsel i oi cs b hi) (fun cs b=>hsel j oj cs b hoj) hQ hy h1
    rw [hl,if_pos rfl] at hfi
    refine wpOp_mono (fun a' w' h3=>⟨h3.2.1,?_⟩) h2
    refine X9 hi hsel hQ ms hnf fuel (listed.setIfInBounds j true) a' w' h3.2.1 hfree' (ready_mono hr (Ne.symm hji)) (yW hj ms i (mem_ready.1 hr).1 hfi) (h3.1.weak (hB'S hl)) ?_
    rw [jjr _ _ hji]
    exact h3.2.2
   ·rw [if_neg hl] at hfi
    exact absurd hj (hjg▸wl ms i (mem_ready.1 hr).1 hfi)
theorem Ll (late:Bool) (hBS:∀w,B.holds w→S.holds w) (hB'S:late=true→∀w,B'.holds w→S.holds w) (hBW:B.holds W) (hi:ops[i]? =some oi) (hs:Region.noSelect ops=true) (hf:Region.free md ops listed i=true) (hr: (Region.ready md ops listed).contains i=true) (hQ:∀c a w,Q (.panic c) (a.put oi.dst v) w→Q (.panic c) a w) {ms:List Nat} (hfi: (vd md ops listed i ms (if late then f else g) &&i !=g&&i !=f) =true) (hy:Settles P ops S oi v a) (h:wI P md ops Q B B' g f fuel (listed.setIfInBounds i true) (a.put oi.dst v) W) :wI P md ops Q B B' g f (fuel+1) listed a W:=by
 rw [jig,jig] at hfi
 exact Ro hi (Region.noSelect_spec hs) hQ ms late (by simpa using hfi.1.2) (by simpa using hfi.2) hBS hB'S fuel listed a W hBW (Region.free_spec hi hf) (by simpa using hr) hfi.1.1 hy h
theorem PN (hi:ops[g]? =some oi) (hr:Region.ready md ops listed= [g]) (hw:Region.wanted oi (yielded ops a.tmps) =true) (h:∀w,Over W w→Oper.wp P oi a w (fun a' w'=>B'.holds w'∧Qr P md ops Q B' f fuel (listed.setIfInBounds g true) a' w') Q) :wI P md ops Q B B' g f (fuel+1) listed a W:=by
 refine⟨fun h0=> (by rw [h0] at hr;cases hr),fun j hj w hS=> ?_⟩
 rw [hr] at hj
 simp only [jin] at hj
 subst hj
 refine⟨fun hne=>absurd J hne,fun _=> ?_⟩
 unfold Go.wpOp
 simp only [hi,hw,if_true]
 exact .inl (h w hS)
end
section
variable {P:Program} {n:Nat} {env:List (Nat×Value)} {w0:Bs} {Rs:List Res} {ops:Array Oper} {Q:Exit→Act→World→Prop} {K:Act→World→Prop} {o:Oper}
variable {Rs0 Rs1:List Res} {fuel g f:Nat} {listed:Array Bool}
theorem ue (g f:Nat) (ks:List Nat) (h:At n env w0 Rs (fun a w=>wI P .any ops Q (Uy w0 Rs) (Uy w0 (wks ks Rs)) g f fuel listed a w)) :At n env w0 Rs (fun a w=>wpAny P .any ops Q fuel listed a w) :=
 fun a w hf hs=>BC _ _ _ _ (h a w hf hs) w (Over.refl _)
theorem qJ (hi:ops[i]? =some o) (hS:Region.noSelect ops=true) (hfr:Region.free .any ops listed i=true) (hrd: (Region.ready .any ops listed).contains i=true) (ms:List Nat) (hfi: (vd .any ops listed i ms g&&i !=g&&i !=f) =true) (hQ:∀c a w,Q (.panic c) (a.put o.dst v) w→Q (.panic c) a w) (hg:o.guard=none) (hd:o.dst=some d) (hn:d<n) (hsub:∀w,St w0 Rs w→St w0 Rs0 w) (hq:Qt P o n env w0 Rs0 v) (h:At n ((d,v) ::env) w0 Rs (fun a w=>wI P .any ops Q (Uy w0 Rs0) (Uy w0 Rs1) g f fuel (listed.setIfInBounds i true) a w)) :At n env w0 Rs (fun a w=>wI P .any ops Q (Uy w0 Rs0) (Uy w0 Rs1) g f (fuel+1) listed a w) :=
 fun a w hf hs=>Ll (S:=Uy w0 Rs0) false (fun _ h=>h) (fun h=>by cases h) (hsub w hs) hi hS hfr hrd hQ hfi (.inl ⟨by simp [Region.wanted,hg],fun w' hs'=> (hq a w' hf hs').gives⟩) (hd▸h _ w (hf.put hn v) hs)
theorem k9 (i:Nat) (hi:ops[i]? =some o) (ms:List Nat) (hsub:∀w,St w0 Rs w→St w0 Rs0 w) (hq:Qt P o n env w0 Rs0 v) (h:At n ((d,v) ::env) w0 Rs (fun a w=>wI P .any ops Q (Uy w0 Rs0) (Uy w0 Rs1) g f fuel (listed.setIfInBounds i true) a w)) (hg:o.guard=none:=by exact rfl) (hd:o.dst=some d:=by exact rfl) (hn:d<n:=by decide) (hS:Region.noSelect ops=true:=by kernel_rfl) (hfr:Region.free .any ops listed i=true:=by kernel_rfl) (hrd: (Region.ready .any ops listed).contains i=true:=by kernel_rfl) (hfi: (vd .any ops listed i ms g&&i !=g&&i !=f) =true:=by kernel_rfl) (hQ:∀c a w,Q (.panic c) (a.put o.dst v) w→Q (.panic c) a w:=by exact fun _ _ _ h=>h) :At n env w0 Rs (fun a w=>wI P .any ops Q (Uy w0 Rs0) (Uy w0 Rs1) g f (fuel+1) listed a w) :=qJ hi hS hfr hrd ms hfi hQ hg hd hn hsub hq h
theorem vz (hi:ops[i]? =some o) (hS:Region.noSelect ops=true) (hfr:Region.free .any ops listed i=true) (hrd: (Region.ready .any ops listed).contains i=true) (ms:List Nat) (hfi: (vd .any ops listed i ms f&&i !=g&&i !=f) =true) (hQ:∀c a w,Q (.panic c) (a.put o.dst v) w→Q (.panic c) a w) (hg:o.guard=none) (hd:o.dst=some d) (hn:d<n) (hsub:∀w,St w0 Rs w→St w0 Rs0 w) (hq:Qt P o n env w0 Rs0 v) (hq1:Qt P o n env w0 Rs1 v) (h:At n ((d,v) ::env) w0 Rs (fun a w=>wI P .any ops Q (Uy w0 Rs0) (Uy w0 Rs1) g f fuel (listed.setIfInBounds i true) a w)) :At n env w0 Rs (fun a w=>wI P .any ops Q (Uy w0 Rs0) (Uy w0 Rs1) g f (fuel+1) listed a w) :=
 fun a w hf hs=>Ll (S:=orB (Uy w0 Rs0) (Uy w0 Rs1)) true (fun _ h=> .inl h) (fun _ _ h=> .inr h) (hsub w hs) hi hS hfr hrd hQ hfi (.inl ⟨by simp [Region.wanted,hg],fun w' hs'=>hs'.elim (fun h=> (hq a w' hf h).gives) (fun h=> (hq1 a w' hf h).gives)⟩) (hd▸h _ w (hf.put hn v) hs)
theorem zk (hi:ops[g]? =some o) (hr:Region.ready .any ops listed= [g]) (hg:o.guard=none) (h:At n env w0 Rs (fun a w=>o.wp P a w (fun a' w'=>St w0 Rs1 w'∧Qr P .any ops Q (Uy w0 Rs1) f fuel (listed.setIfInBounds g true) a' w') Q)) :At n env w0 Rs (fun a w=>wI P .any ops Q (Uy w0 Rs0) (Uy w0 Rs1) g f (fuel+1) listed a w) :=
 fun a w hf hs=>PN hi hr (by simp [Region.wanted,hg]) (fun w' hw'=>h a w' hf (hs.over_ hw'))
end
section
variable {P:Program} {n:Nat} {env:List (Nat×Value)} {w0:Bs} {Rs:List Res} {ops:Array Oper} {Q:Exit→Act→World→Prop} {K:Act→World→Prop} {o:Oper}
theorem Fr {f:FuncId} (hfn:FnOk P f) (ho:o.op= .call {callee:= .value y,args:=xs.toArray,argTypes:=ts}) (hy:ev env y=some (.func (.func f) #[] #[])) (hx:So env xs=some vs) {w:World} (hF:Frm n env a) : (execOp a.eval o).run P w= .ok (.enter f vs.toArray) w:=by
 have he:xs.map a.eval=vs:=hF.evs hx
 unfold execOp
 simp only [ho]
 simp only [resolve,hF.ev hy,Deferred.ofValue]
 simp [invoke,hfn.run,he]
theorem vV {f:FuncId} (hfn:FnOk P f) (ho:o.op= .call {callee:= .value y,args:=xs.toArray,argTypes:=ts}) (hy:ev env y=some (.func (.func f) #[] #[])) (hx:So env xs=some vs) (hc:∀w,St w0 Rs w→Calls P f vs.toArray w fun e w'=>e= .returned v∧Over w w') :Qt P o n env w0 Rs v:=fun a w hF hs=>by
 rw [Fr hfn ho hy hx hF]
 exact hc w hs
theorem Tr {f:FuncId} (hfn:FnOk P f) {X:Type} {v:X→Value} {r:X→Res} {H:X→Prop} (ho:o.op= .call {callee:= .value y,args:=xs.toArray,argTypes:=ts}) (hy:ev env y=some (.func (.func f) #[] #[])) (hx:So env xs=some vs) (hd:o.dst=some d) (hn:d<n) (hc:∀w,St w0 Rs w→Calls P f vs.toArray w fun e w'=>∃x,e= .returned (v x)∧Over w w'∧(r x).P w'∧(∀b,(r x).F b→w.heap.size≤b)∧(r x).B=0∧H x) (h:∀x,H x→At n ((d,v x) ::env) w0 (Rs++ [r x]) K) :At n env w0 Rs (fun a w=>o.wp P a w K Q) :=fun a w hF hs=>by
 show o.upon P a K Q ((execOp a.eval o).run P w)
 rw [Fr hfn ho hy hx hF]
 refine Calls.mono (hc w hs) ?_
 rintro e w' ⟨x,rfl,hO,hP,hF',hB,hH⟩
 exact hd▸h x hH _ _ (hF.put hn _) (hs.add hO hP hF' ⟨by rw [hB];exact jie _,fun _ _=>by rw [hB];exact jie _⟩)
end
end Go.Proofs.YtbahojdbmmjkcaaGreat
namespace Go.Proofs.YtbahojdbmmjkcaaGreat
open Go Go.RowKit
variable {cs:List Value} {n:Nat} {pl:Nat→Option Addr×Nat} {rs:List Jp} {x:Option Addr×Nat} {xs:List (Int×Int)}
set_option maxRecDepth 100000
set_option maxHeartbeats 4000000
theorem Hx (A:Option Addr) (n c:Nat) (xs:List (Int×Int)) (w:World) (h:Pts w A n xs) (hn:0<n) (hn2:n≤1048577) :
  Calls Tryz.prog 75 #[.slice A n c] w fun e w'=>∃v,e= .returned v∧w'.ownsRow w.heap.size 28 2 v n (xs.flatMap jV)∧Over w w':=by
 obtain ⟨b,o,rfl,_⟩ :=h.2 hn
 refine jK (m:=8) (Tryz.func75) J J (lb J) ?_;refine S8 ?_;refine a9 (jaI jl J J) ?_;refine S1 ?_;refine va J (J) ?_;refine S5 ?_;refine jX J J (Qk) J (lb J) (fun b1=> ?_);refine KQ 0 2 J J ?_;refine N2 ?_;refine JK (k:=0) J jl jD Dc J Dc J J J (fun w' hs=>Bh (h.over hs.fin) hn) (Kf _) (by unfold maxLen;omega) Om (jif _) (fun r1=> ?_);refine N3 ?_;refine jJ J (.tmp J) ?_
 intro w' hs
 have hr0:w'.ownsRow w.heap.size 28 2 (.slice r1.1 (0+n) r1.2) (0+n) (xs.flatMap jV) := (hs.all 0 _ rfl).1
 exact⟨_,rfl,by rw [jiB] at hr0⊢;exact hr0,hs.fin⟩
theorem XM {w w':World} {Rs:List Res} (hs:St ⟨w,[]⟩ Rs w') {kr kp B T:Nat} {l:List Pc} (hr:Rs[kr]? =some (JS B T 1 n (l.map Pc.val) x)) (hp:Rs[kp]? =some (vu l)) (hne:kr≠kp) (_e:w=w) (hl:l.length=n) (hrs:l.map (·.xs) =rs) (hm:∀j,j<rs.length→(rg rs j).length≤1099511627776) :OwnG w.heap.size w'.heap.size w' x.1 n rs:=by
 have hrow:w'.ownsRow B T 1 (.slice x.1 n x.2) n (l.map Pc.val) := (hs.all kr _ hr).1
 have hX:=hs.all kp _ hp
 rcases hrow.2 with⟨_,e⟩ |⟨g,cap,cur,e,hb,hg,hcap,hmax,hsz,htk⟩
 ·subst e
  obtain rfl:l= [] :=jiE hl
  subst hrs
  exact OwnG.nil _
 ·injection e with e1 e2 e3
  rw [e1]
  have hF: (JS B T 1 n (l.map Pc.val) x).F g:=by show Value.ownBlock (.slice x.1 n x.2) =some g;rw [e1];rfl
  have hown:=CN (lo:=w.heap.size) (o:=0) hg (((hs.all kr _ hr).2.1 g hF).elim id (fun h=>by cases h)) (fun j hj=> ?_) hX.1 (fun h=>hs.apart kr kp _ _ hne hr hp g hF h) (fun q hq=> (hX.2.1 q hq).elim id (fun h=>by cases h)) (fun e he=> ?_)
  ·rw [hrs,hl] at hown
   exact hown
  ·have hc:cur[j]? = (l.map Pc.val)[j]? :=by rw [←htk,List.getElem?_take,if_pos Om];simp
   rw [jiB,hc]
   simp [hj]
  ·have:e.xs∈rs:=hrs▸jiD.2 ⟨e,he,rfl⟩
   obtain ⟨j,hj,e2⟩ :=jiU this
   have:=hm j hj
   rw [←Wc hj,e2] at this
   omega
theorem Pp {k:Nat} (h:k<xs.length) :px xs.reverse k=px xs (xs.length- 1- k)∧py xs.reverse k=py xs (xs.length- 1- k) :=by
 have e:xs.reverse[k]? =xs[xs.length- 1- k]? :=List.getElem?_reverse h
 simp only [px,py,List.getD_eq_getElem?_getD,e]
 exact⟨trivial,trivial⟩
def RevTo (cs:List Value) (o n i:Nat) (xs:List (Int×Int)) :Prop:=∀q,q<n→cs[o+q*2]? =some (.int .i64 (px xs (if q<i∨n- 1- i<q then n- 1- q else q)))∧cs[o+q*2+1]? =some (.int .i64 (py xs (if q<i∨n- 1- i<q then n- 1- q else q)))
theorem RevTo.step {o i:Nat} (h:RevTo cs o n i xs) (hi:2*i+1<n) (hl:∀q,q<n→o+q*2+1<cs.length) :
  RevTo (qL (qL cs (o+i*2) [.int .i64 (px xs (n- 1- i)), .int .i64 (py xs (n- 1- i))]) (o+ (n- 1- i) *2) [.int .i64 (px xs i), .int .i64 (py xs i)]) o n (i+1) xs:=by
 intro q hq
 have h1:=hl i Om
 have h2:=hl (n- 1- i) Om
 simp only [qL]
 by_cases e1:q=i
 ·subst e1
  rw [if_pos Om,List.getElem?_set_ne Om,List.getElem?_set_ne Om,List.getElem?_set_ne Om,List.getElem?_set_self Om,List.getElem?_set_ne Om,List.getElem?_set_ne Om,List.getElem?_set_self (by simp;omega)]
  exact⟨rfl,rfl⟩
 ·by_cases e2:q=n- 1- i
  ·subst e2
   rw [if_pos Om,List.getElem?_set_ne Om,List.getElem?_set_self (by simp;omega),List.getElem?_set_self (by simp;omega),show n- 1- (n- 1- i) =i by omega]
   exact⟨rfl,rfl⟩
  ·have:=h q hq
   have hif: (q<i+1∨n- 1- (i+1) <q)↔(q<i∨n- 1- i<q) :=by omega
   simp only [hif]
   rw [List.getElem?_set_ne Om,List.getElem?_set_ne Om,List.getElem?_set_ne Om,List.getElem?_set_ne Om,List.getElem?_set_ne Om,List.getElem?_set_ne Om,List.getElem?_set_ne Om,List.getElem?_set_ne Om]
   exact this
theorem RevTo.at_ {o i q:Nat} (h:RevTo cs o n i xs) (h1:i≤q) (h2:q≤n- 1- i) (hq:q<n) :cs[o+q*2]? =some (.int .i64 (px xs q))∧cs[o+q*2+1]? =some (.int .i64 (py xs q)) :=by
 have:=h q hq
 rwa [if_neg Om] at this
theorem Ml (b o T:Nat) (cs:List Value) (n c:Nat) (xs:List (Int×Int)) (w:World) (hh:w.heap[b]? =some (.cells cs.toArray T (0,0))) (hl:∀k,k<n→o+k*2+1<cs.length) (h0:RevTo cs o n 0 xs) (hn:n≤4611686018427387904) :
  Calls Tryz.prog 204 #[.slice (some ⟨b,o,none⟩) n c] w fun e w'=>e= .returned (.tuple #[])∧Wr b w w'∧∃(cs':List Value) (i:Nat),w'.heap[b]? =some (.cells cs'.toArray T (0,0))∧RevTo cs' o n i xs∧n≤2*i+1:=by
 refine QD (m:=28) (Tryz.func204) J J (lb J) (hh) ?_;refine S9 ?_;refine JE (X:=Nat×List Value) (fun x=>2*x.1≤n∧x.2.length=cs.length∧RevTo x.2 o n x.1 xs) (fun x=>n- x.1) (fun x=> [(2, .int .i64 (x.1:Int)),(3, .int .i64 ((n:Int) - 1- (x.1:Int)))]) (kK [0]) (fun x=> [.cel b T x.2]) (0,cs) (⟨jie _,J,h0⟩) ⟨J,vi Om,sz⟩ (fun _ h=>h) ?_
 intro⟨k,ds⟩ hx L hL1
 refine v9 ?_;refine r9 ?_
 have hk:2*k≤n:=hx.1
 have hlen:ds.length=cs.length:=hx.2.1
 have hrv:RevTo ds o n k xs:=hx.2.2
 refine S7 ?_;refine cZ (fun c1=> ?_) (fun c1=> ?_)
 ·have hlt:2*k+1<n:=Om
  have hl2:=hl k Om
  have hl3:=hl (n- 1- k) Om
  obtain ⟨r1,r2⟩ :=hrv.at_ (q:=k) Om Om Om
  obtain ⟨r3,r4⟩ :=hrv.at_ (q:=n- 1- k) Om Om Om
  refine uE 3 (.int .i64 ((n- 1- k:Nat) :Int)) J (congrArg _ Om) ?_;refine S5 ?_;refine jhn (i:=2) J Kr Kr Kr (fun _ _ _ h=>h) J J Dc (CX J J) ?_;refine jhn (i:=3) J Kr Kr Kr (fun _ _ _ h=>h) J J Dc (CX J J) ?_;refine JH 13 ?_;refine dK 0 ?_;refine dK 1 ?_;refine dK 4 ?_;refine dK 5 ?_;refine dK 6 ?_;refine dZ 7 J (jk J J jj J (w6 (k:=0) J r3 r4)) ?_;refine dV 8 [10,11] ?_;refine dV 9 [10,11] ?_;refine dV 10 [11] ?_;refine dZ 11 J (jk J J jj J (w6 (k:=0) J r1 r2)) ?_;refine dK 12 ?_;refine kN J Kr J ?_;refine qe (k:=0) J J J J J (by rfl) jD.szx J J (by simp;omega) ?_;refine JH 15 ?_;refine dK 14 ?_;refine kN J Kr J ?_;refine qe (k:=0) J J J J J (by rfl) jD.szx J J (by rw [qz];simp;omega) ?_;refine uq Kr ?_;refine S10 ?_
  exact Jd hL1 ((k+1,_)) (⟨show 2* (k+1)≤n by omega,(by show(List.set (List.set _ _ _) _ _).length=_;rw [jjf,jjf,qz];exact hlen),hrv.step hlt (fun q hq=>by rw [hlen];exact hl q hq)⟩) (by simp only;omega) ⟨vi Om,vi Om,sz⟩ (u9 J)
 ·refine S4 ?_;refine Q6 J ?_
  intro w' hs
  exact⟨rfl,hs.over.wr,ds,k,hs.cel (k:=0) rfl,hrv,by omega⟩
theorem Mk (A:Option Addr) (c:Nat) (w:World) :Calls Tryz.prog 204 #[.slice A 0 c] w fun e w'=>e= .returned (.tuple #[])∧Over w w':=by
 refine jK (m:=28) (Tryz.func204) J J (lb J) ?_;refine S9 ?_;refine qj (X:=Nat) (fun k=>k=0) (fun k=>k) (fun k=> [(2, .int .i64 (k:Int)),(3, .int .i64 (-1))]) (kK [0]) 0 (J) ⟨J,sz⟩ ?_
 intro k hk L hL1
 refine V7 ?_;refine cZ (fun c1=> ?_) (fun c1=> ?_)
 ·omega
 ·refine S4 ?_;refine Q6 J ?_
  intro w' hs
  exact⟨rfl,hs.fin⟩
theorem BO (lo hi:Nat) (A:Option Addr) (n c:Nat) (xs:List (Int×Int)) (w:World) (h:OwnP lo hi w A n xs) (hn2:n≤4611686018427387904) :
  Calls Tryz.prog 204 #[.slice A n c] w fun e w'=>e= .returned (.tuple #[])∧Wrs (fun b=>0<n∧b=VW A∧Ds lo hi b) w w'∧OwnP lo hi w' A n xs.reverse:=by
 have hl:=h.1
 by_cases hn:0<n
 ·obtain ⟨b,o,T,cs,rfl,h1,h2,hh,hc⟩ :=h.2 hn
  have hh':w.heap[b]? =some (.cells cs.toList.toArray T (0,0)) :=by rw [hh,jjd]
  refine(Ml b o T cs.toList n c xs w hh' (fun k hk=> ?_) (fun q hq=> ?_) hn2).mono ?_
  ·have:= (hc k hk).2
   have:= (Array.getElem?_eq_some_iff.1 this).1
   simpa using this
  ·have:=hc q hq
   rw [if_neg Om]
   simpa using this
  ·rintro e w' ⟨rfl,hw,cs',i,hh2,hrv,hi2⟩
   refine⟨rfl,⟨hw.os,hw.tape,hw.output,hw.size,fun q hq hne=>hw.block q hq (fun e=>hne ⟨hn,e,by subst e;exact⟨h1,h2⟩⟩)⟩,by simpa using hl,fun _=>⟨b,o,T,cs'.toArray,rfl,h1,h2,hh2,fun k hk=> ?_⟩⟩
   obtain ⟨e1,e2⟩ :=Pp (xs:=xs) (k:=k) Om
   have:=hrv k hk
   rw [e1,e2,hl]
   by_cases hm:k<i∨n- 1- i<k
   ·rw [if_pos hm] at this;simpa using this
   ·rw [if_neg hm] at this
    rw [show n- 1- k=k by omega]
    simpa using this
 ·obtain rfl:n=0:=by omega
  obtain rfl:xs= [] :=jiE hl
  refine(Mk A c w).mono ?_
  rintro e w' ⟨rfl,hO⟩
  exact⟨rfl,Wrs.of hO,OwnP.nil A⟩
theorem OwnGd.put {lo hi:Nat} {w w':World} {b o T:Nat} {cs:Array Value} {k:Nat} (ys:Jp) (h:OwnGd lo hi w b o T cs pl n rs) (hl:rs.length=n) (hk:k<n) (hy:ys.length= (rg rs k).length) (hw:Wrs (fun q=>0< (rg rs k).length∧q=VW (pl k).1∧Ds lo hi q) w w') (hp:OwnP lo hi w' (pl k).1 (rg rs k).length ys) :OwnGd lo hi w' b o T cs pl n (rs.set k ys) :=by
 have hse:∀j,j<n→rg (rs.set k ys) j=if j=k then ys else rg rs j:=fun j hj=>by
  simp only [rg,List.getD_eq_getElem?_getD]
  by_cases e:j=k
  ·subst e;rw [if_pos rfl,List.getElem?_set_self Om];rfl
  ·rw [if_neg e,List.getElem?_set_ne (fun e'=>e e'.symm)]
 have hlen:∀j,j<n→(rg (rs.set k ys) j).length= (rg rs j).length:=fun j hj=>by
  rw [hse j hj]
  by_cases e:j=k
  ·subst e;rw [if_pos rfl,hy]
  ·rw [if_neg e]
 refine⟨h.low,h.high,(hw.block b (J4 h.blk) fun hq=> ?_).trans h.blk,fun j hj=> ?_,fun j hj=> ?_,fun j hj=> ?_,fun i j hi hj hij=> ?_⟩
 ·exact h.off k hk hq.1 hq.2.1.symm
 ·rw [hlen _ hj];exact h.cell j hj
 ·rw [hse j hj]
  by_cases hjk:j=k
  ·subst hjk
   rw [if_pos rfl,hy]
   exact hp
  ·rw [if_neg hjk]
   by_cases h0:0< (rg rs j).length
   ·refine(h.pts j hj).agree fun p hp' h1 h2=> ?_
    obtain ⟨b',o',T',cs',e',_,_,hh',_⟩ := (h.pts j hj).2 h0
    rw [e'] at hp'
    injection hp' with hp'
    subst hp'
    refine hw.block b' (J4 hh') fun hq=> ?_
    refine h.apart j k hj hk hjk h0 hq.1 ?_
    rw [e']
    exact hq.2.1
   ·exact⟨(h.pts j hj).1,fun h1=>absurd h1 h0⟩
 ·rw [hlen _ hj];exact h.off j hj
 ·rw [hlen _ hi,hlen _ hj];exact h.apart i j hi hj hij
def OY (xs:List (Int×Int)) (j:Nat) :List (Int×Int) :=xs.reverse.take j
theorem TJ {j:Nat} (h:j<xs.length) : (OY xs j).flatMap jV++ [.int .i64 (px xs (xs.length- 1- j)), .int .i64 (py xs (xs.length- 1- j))] = (OY xs (j+1)).flatMap jV:=by
 unfold OY
 rw [jik (by simpa using h),jii]
 congr 1
 rw [U5 (by simpa using h),(Pp h).1,(Pp h).2]
 rfl
theorem Pr (xs:List (Int×Int)) :OY xs xs.length=xs.reverse:=jiu (by simp)
end Go.Proofs.YtbahojdbmmjkcaaGreat
