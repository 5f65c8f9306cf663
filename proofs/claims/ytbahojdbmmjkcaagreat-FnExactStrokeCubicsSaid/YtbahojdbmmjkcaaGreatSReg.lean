import Derived.Orders
import Derived.Test.YtbahojdbmmjkcaaGreatSMem
set_option linter.unusedVariables false
set_option linter.unusedSimpArgs false
namespace Go.Proofs.YtbahojdbmmjkcaaGreat
open Go Go.RowKit
variable {K:Act→World→Prop} {T t ti:TypeId} {W w:World} {a:Act} {b fuel i j:Nat} {di:Tmp} {dst:Option Tmp} {listed:Array Bool} {new:Array Value} {o oi oj:Oper} {r:Result Next} {v zi:Value} {x y:Operand}
section
variable {P:Program} {ops:Array Oper} {Q:Exit→Act→World→Prop} {md:Region.Mode}
structure Base where
 holds:World→Prop
 keep:∀w w',holds w→Over w w'→holds w'
def ob (B:World) :Base:=⟨Over B,fun _ _ h k=>Over.trans h k⟩
def pb (B:World) (b:Nat) (x y:Value) :Base:=⟨fun w=>Over B w∧b<w.heap.size∧w.cell? ⟨b,0,none⟩ =some x∧w.cell? ⟨b,1,none⟩ =some y,
 fun _ _ h k=>⟨h.1.trans k,jio h.2.1 k.size,((Jr k).1 b 0 h.2.1).trans h.2.2.1,((Jr k).1 b 1 h.2.1).trans h.2.2.2⟩⟩
def KV (P:Program) (md:Region.Mode) (ops:Array Oper) (Q:Exit→Act→World→Prop) (B:Base) :Nat→Array Bool→Act→World→Prop
 | 0,listed,a,W=>Region.ready md ops listed= []∧∀w,Over W w→Q .normal a w
 | fuel+1,listed,a,W=>
  (Region.ready md ops listed= []→∀w,Over W w→Q .normal a w)∧
  ∀i∈Region.ready md ops listed,∀w,Over W w→wpOp P ops Q i (fun a' w'=>B.holds w'∧KV P md ops Q B fuel (listed.setIfInBounds i true) a' w') a w
variable {B:Base}
theorem Lm:∀(fuel:Nat) (listed:Array Bool) (a:Act) (W W':World),Over W W'→KV P md ops Q B fuel listed a W→KV P md ops Q B fuel listed a W'
 | 0,_,_,_,_,ho,h=>⟨h.1,fun w hw=>h.2 w (ho.trans hw)⟩
 | _+1,_,_,_,_,ho,h=>⟨fun h0 w hw=>h.1 h0 w (ho.trans hw),fun i hi w hw=>h.2 i hi w (ho.trans hw)⟩
theorem BD:∀(fuel:Nat) (listed:Array Bool) (a:Act) (W:World),KV P md ops Q B fuel listed a W→∀w,Over W w→wpAny P md ops Q fuel listed a w
 | 0,_,_,_,h,w,hS=>⟨h.1,h.2 w hS⟩
 | fuel+1,_,_,_,h,w,hS=>⟨fun h0=>h.1 h0 w hS,fun i hi=>wpOp_mono (fun a' w' h'=>BD fuel _ a' w' h'.2 w' (Over.refl _)) (h.2 i hi w hS)⟩
def RE (P:Program) (dst:Option Tmp) (n:Nat) (v:Value) (w:World) :Result Next→Prop
 | .ok (.value u) w'=> (∀a:Act,a.tmps.size=n→a.put dst u=a.put dst v)∧Over w w'
 | .ok .skip w'=> (∀a:Act,a.tmps.size=n→a.put dst undef=a.put dst v)∧Over w w'
 | .ok (.enter f args) w'=>Calls P f args w' fun e w''=>∃u,e= .returned u∧(∀a:Act,a.tmps.size=n→a.put dst u=a.put dst v)∧Over w w''
 | .ok (.row row args) w'=>Rows P row args w' fun u w''=> (∀a:Act,a.tmps.size=n→a.put dst u=a.put dst v)∧Over w w''
 | _=>False
def Settles (P:Program) (ops:Array Oper) (B:Base) (o:Oper) (v:Value) (a:Act) :Prop:=
 (Region.wanted o (yielded ops a.tmps) =true∧∀w,B.holds w→RE P o.dst a.tmps.size v w ((execOp a.eval o).run P w))∨
 (Region.wanted o (yielded ops a.tmps) =false∧v=undef)
theorem Settles.of_same {a':Act} (hy:Settles P ops B o v a) (hz:a'.tmps.size=a.tmps.size) (he:execOp a'.eval o=execOp a.eval o) (hw:Region.wanted o (yielded ops a'.tmps) =Region.wanted o (yielded ops a.tmps)) :Settles P ops B o v a':=by
 unfold Settles at*
 rw [he,hw,hz]
 exact hy
theorem jc8 (a:Act) (d:Option Tmp) (v:Value) : (a.put d v).tmps.size=a.tmps.size:=by
 cases d<;>simp [Act.put]
theorem Settles.wpOp (hi:ops[i]? =some o) (hy:Settles P ops B o v a) (hS:B.holds w) (h:∀w',Over w w'→K (a.put o.dst v) w') :wpOp P ops Q i K a w:=by
 unfold Go.wpOp
 simp only [hi]
 rcases hy with⟨hw,hv⟩ |⟨hw,rfl⟩
 ·simp only [hw,if_true]
  refine .inl ?_
  have hg:=hv w hS
  unfold Oper.wp
  generalize (execOp a.eval o).run P w=r at*
  cases r with
  | ok n w'=>
   cases n<;>simp only [RE] at hg<;>simp only [Oper.upon]
   case value u=>rw [hg.1 a rfl];exact h _ hg.2
   case skip=>rw [hg.1 a rfl];exact h _ hg.2
   case enter f args=>
    refine Calls.mono hg fun e w'' he=> ?_
    obtain ⟨u,rfl,he,hs⟩ :=he
    show K (a.put o.dst u) w''
    rw [he a rfl];exact h _ hs
   case row row args=>
    refine Rows.mono hg fun u w'' he=> ?_
    rw [he.1 a rfl];exact h _ he.2
  | halt x w'=>exact absurd hg (by simp [RE])
 ·simp only [hw,jjb,if_false];exact h _ (Over.refl _)
theorem yM (hj:ops[j]? =some oj) (hap:oi.apart ops oj=true) (hsi:∀cs b,oi.op≠ .select cs b) (hsj:∀cs b,oj.op≠ .select cs b) (hQ:∀c a w,Q (.panic c) (a.put oi.dst v) w→Q (.panic c) a w) (hy:Settles P ops B oi v a) (h:wpOp P ops Q j K (a.put oi.dst v) w) :
  wpOp P ops Q j (fun a' w'=>Settles P ops B oi v a'∧K (a'.put oi.dst v) w') a w:=by
 obtain ⟨h1,h2,h3⟩ :=Oper.apart_spec hap
 have keep:∀(a:Act),Settles P ops B oi v a→∀u,Settles P ops B oi v (a.put oj.dst u) :=fun a hy u=>
  hy.of_same (jc8 _ _ _) (execOp_put oi hsi a oj.dst u h3) (wanted_put oi a oj.dst u h3)
 have keepD:∀d,Settles P ops B oi v {a with defers:=d::a.defers} :=fun d=>hy.of_same rfl rfl rfl
 unfold Go.wpOp at*
 simp only [hj] at*
 rw [wanted_put oj a oi.dst v h1] at h
 split
 ·rename_i hw
  simp only [hw,if_true] at h
  rcases h with h |⟨hasks,hlets⟩
  case inr=>exact .inr ⟨by unfold Oper.asks at*;rw [execOp_put oj hsj a oi.dst v h1] at hasks;exact hasks,hlets⟩
  refine .inl ?_
  unfold Oper.wp at*
  rw [execOp_put oj hsj a oi.dst v h1] at h
  generalize (execOp a.eval oj).run P w=r at*
  cases r with
  | ok n w'=>
   cases n<;>simp only [Oper.upon] at h⊢
   case value u=>exact⟨keep a hy u,by rw [←Act.put_comm a v u h2];exact h⟩
   case skip=>exact⟨keep a hy _,by rw [←Act.put_comm a v undef h2];exact h⟩
   case defer d=>
    refine⟨keep _ (keepD d) _,?_⟩
    rw [←Act.put_comm _ v undef h2,←Act.put_defers]
    exact h
   case enter f args=>
    refine Calls.mono h fun e w'' he=> ?_
    cases e with
    | returned u=>exact⟨keep a hy u,by rw [←Act.put_comm a v u h2];exact he⟩
    | panicked c=>exact hQ _ _ _ he
    | outgrown=>exact he
   case row row args=>exact Rows.mono h fun u w'' he=>⟨keep a hy u,by rw [←Act.put_comm a v u h2];exact he⟩
  | halt x w'=>
   cases x<;>simp only [Oper.upon] at h⊢
   case panic u=>exact hQ _ _ _ h
 ·rename_i hw
  simp only [hw] at h
  exact⟨keep a hy _,by rw [←Act.put_comm a v undef h2];exact h⟩
theorem Ga (hi:ops[i]? =some oi) (hsel:∀(j:Nat) (o:Oper) cs b,ops[j]? =some o→o.op≠ .select cs b) (hQ:∀c a w,Q (.panic c) (a.put oi.dst v) w→Q (.panic c) a w) :
  ∀(fuel:Nat) (listed:Array Bool) (a:Act) (W:World),B.holds W→
   (∀j oj,ops[j]? =some oj→j≠i→listed.getD j true=false→(∀e∈oj.after,Region.binds md e=true→e.on≠i)→oi.apart ops oj=true)→
   i∈Region.ready md ops listed→Settles P ops B oi v a→
   KV P md ops Q B fuel (listed.setIfInBounds i true) (a.put oi.dst v) W→KV P md ops Q B (fuel+1) listed a W:=by
 intro fuel
 induction fuel with
 | zero=>
  intro listed a W hBW _ hr hy H
  refine⟨fun h=> (by rw [h] at hr;cases hr),fun j hj w hS=> ?_⟩
  by_cases hji:j=i
  ·subst hji;exact hy.wpOp hi (B.keep _ _ hBW hS) fun w' hw'=>⟨B.keep _ _ (B.keep _ _ hBW hS) hw',Lm _ _ _ _ _ (hS.trans hw') H⟩
  ·have:=ready_mono hj hji
   rw [H.1] at this
   cases this
 | succ fuel ih=>
  intro listed a W hBW hfree hr hy H
  refine⟨fun h=> (by rw [h] at hr;cases hr),fun j hj w hS=> ?_⟩
  by_cases hji:j=i
  ·subst hji;exact hy.wpOp hi (B.keep _ _ hBW hS) fun w' hw'=>⟨B.keep _ _ (B.keep _ _ hBW hS) hw',Lm _ _ _ _ _ (hS.trans hw') H⟩
  ·have h1:=H.2 j (ready_mono hj hji) w hS
   obtain ⟨hjun,oj,hoj,hall⟩ :=mem_ready.1 hj
   have hnot:∀e∈oj.after,Region.binds md e=true→e.on≠i:=fun e he hb heq=>by
    have h1:=hall e he hb
    have h0:= (mem_ready.1 hr).1
    rw [heq] at h1
    rcases ji9 i listed.size with h' | h'
    ·simp [h'] at h0 h1;rw [h0] at h1;cases h1
    ·simp [Array.getElem?_eq_none h'] at h1
   have h2:=yM hoj (hfree j oj hoj hji hjun hnot) (fun cs b=>hsel i oi cs b hi) (fun cs b=>hsel j oj cs b hoj) hQ hy h1
   have hfree':∀k ok,ops[k]? =some ok→k≠i→(listed.setIfInBounds j true).getD k true=false→
     (∀e∈ok.after,Region.binds md e=true→e.on≠i)→oi.apart ops ok=true:=fun k ok hk hki hun hno=>by
    refine hfree k ok hk hki ?_ hno
    by_cases hjk:j=k
    ·subst hjk;exact hjun
    ·rw [getD_set_ne true hjk] at hun;exact hun
   refine wpOp_mono (fun a' w' h3=>⟨h3.2.1,ih (listed.setIfInBounds j true) a' w' h3.2.1 hfree' (ready_mono hr (Ne.symm hji)) h3.1 ?_⟩) h2
   rw [jjr _ _ hji]
   exact h3.2.2
def Gv (P:Program) (v:Value) (w:World) :Result Next→Prop
 | .ok (.value u) w'=>u=v∧Over w w'
 | .ok .skip w'=>undef=v∧Over w w'
 | .ok (.enter f args) w'=>Calls P f args w' fun e w''=>e= .returned v∧Over w w''
 | _=>False
theorem Gv.gives {n:Nat} (h:Gv P v w r) :RE P dst n v w r:=by
 cases r with
 | ok x w'=>
  cases x<;>simp only [Gv] at h<;>simp only [RE]
  case value u=>obtain ⟨rfl,h⟩ :=h;exact⟨fun _ _=>rfl,h⟩
  case skip=>obtain ⟨rfl,h⟩ :=h;exact⟨fun _ _=>rfl,h⟩
  case enter f args=>exact Calls.mono h fun e w'' he=>⟨v,he.1,fun _ _=>rfl,he.2⟩
 | halt x w'=>exact absurd h (by simp [Gv])
theorem js (hBW:B.holds W) (hi:ops[i]? =some oi) (hs:Region.noSelect ops=true) (hf:Region.free md ops listed i=true) (hr: (Region.ready md ops listed).contains i=true) (hQ:∀c a w,Q (.panic c) (a.put oi.dst v) w→Q (.panic c) a w) (hw:Region.wanted oi (yielded ops a.tmps) =true) (hy:∀w,B.holds w→Gv P v w ((execOp a.eval oi).run P w)) (h:KV P md ops Q B fuel (listed.setIfInBounds i true) (a.put oi.dst v) W) :KV P md ops Q B (fuel+1) listed a W:=
 Ga hi (Region.noSelect_spec hs) hQ fuel listed a W hBW (Region.free_spec hi hf) (by simpa using hr) (.inl ⟨hw,fun w hS=> (hy w hS).gives⟩) h
theorem w9 (i:Nat) (hBW:B.holds W:=by assumption) (hi:ops[i]? =some oi:=by simp only [qt,qv,qE];rfl) (hs:Region.noSelect ops=true:=by kernel_rfl) (hf:Region.free md ops listed i=true:=by kernel_rfl) (hr: (Region.ready md ops listed).contains i=true:=by kernel_rfl) (hQ:∀c a w,Q (.panic c) (a.put oi.dst v) w→Q (.panic c) a w:=by exact fun _ _ _ h=>h) (hw:Region.wanted oi (yielded ops a.tmps) =true:=by kernel_rfl) (hy:∀w,B.holds w→Gv P v w ((execOp a.eval oi).run P w)) (h:KV P md ops Q B fuel (listed.setIfInBounds i true) (a.put oi.dst v) W) :KV P md ops Q B (fuel+1) listed a W:=js hBW hi hs hf hr hQ hw hy h
theorem w8 (i:Nat) (hBW:B.holds W:=by assumption) (hi:ops[i]? =some oi:=by simp only [qt,qv,qE];rfl) (hs:Region.noSelect ops=true:=by kernel_rfl) (hf:Region.free md ops listed i=true:=by kernel_rfl) (hr: (Region.ready md ops listed).contains i=true:=by kernel_rfl) (hQ:∀c a w,Q (.panic c) (a.put oi.dst v) w→Q (.panic c) a w:=by exact fun _ _ _ h=>h) (hw:Region.wanted oi (yielded ops a.tmps) =true:=by kernel_rfl) (hy:∀w,B.holds w→Gv P v w ((execOp a.eval oi).run P w) :=by intro wx hS;obtain ⟨hc,hf⟩ :=Jr hS;clear hS;go_simp; (try go_bits);exact⟨rfl,Over.refl _⟩) (h:KV P md ops Q B fuel (listed.setIfInBounds i true) (a.put oi.dst v) W) :KV P md ops Q B (fuel+1) listed a W:=js hBW hi hs hf hr hQ hw hy h
theorem i8 (i:Nat) {X:Act} (h:KV P md ops Q B fuel (listed.setIfInBounds i true) X W) (hBW:B.holds W:=by assumption) (hi:ops[i]? =some oi:=by simp only [qt,qv,qE];rfl) (hs:Region.noSelect ops=true:=by kernel_rfl) (hf:Region.free md ops listed i=true:=by kernel_rfl) (hr: (Region.ready md ops listed).contains i=true:=by kernel_rfl) (hQ:∀c a w,Q (.panic c) (a.put oi.dst v) w→Q (.panic c) a w:=by exact fun _ _ _ h=>h) (hw:Region.wanted oi (yielded ops a.tmps) =true:=by kernel_rfl) (hy:∀w,B.holds w→Gv P v w ((execOp a.eval oi).run P w) :=by intro wx hS;obtain ⟨hc,hf⟩ :=Jr hS;clear hS;go_simp; (try go_bits);exact⟨rfl,Over.refl _⟩) (e:a.put oi.dst v=X:=by simp only [Act.put,qC,jN,jO];rfl) :KV P md ops Q B (fuel+1) listed a W:=js hBW hi hs hf hr hQ hw hy (e▸h)
theorem ov9 {p:Prop} (h:p:=by repeat (first | exact Over.refl _ | (with_reducible assumption) | refine Over.alloc_ ?_ _ | refine Over.trans ?_ (by with_reducible assumption) | refine Over.drew_ ?_ | refine Over.set_ ?_ (by simp;try omega) _)) :p:=h
theorem BA (hi:ops[i]? =some oi) (hr:Region.ready md ops listed= [i]) (hw:Region.wanted oi (yielded ops a.tmps) =true) (h:∀w,Over W w→∀K:Act→World→Prop,Hid (∀a' w',B.holds w'→(B.holds w'→KV P md ops Q B fuel (listed.setIfInBounds i true) a' w')→K a' w')→Oper.wp P oi a w K Q) :
  KV P md ops Q B (fuel+1) listed a W:=by
 refine⟨fun h0=> (by rw [h0] at hr;cases hr),fun j hj w hS=> ?_⟩
 rw [hr] at hj
 simp only [jin] at hj
 subst hj
 unfold Go.wpOp
 simp only [hi,hw,if_true]
 exact .inl (h w hS _ fun a' w' hB hk=>⟨hB,hk hB⟩)
theorem FH {x y:Value} (h:w.heap[b]? =some (.cells (Value.agg #[x,y]).cells t (0,0))) :
  w.cell? ⟨b,0,none⟩ =some x∧w.cell? ⟨b,1,none⟩ =some y∧w.frozen? ⟨b,0,none⟩ =false∧w.frozen? ⟨b,1,none⟩ =false:=by
 refine⟨(cell_of_row w b 0 _ t (0,0) h).trans J,(cell_of_row w b 1 _ t (0,0) h).trans J,?_,?_⟩ <;>simp [World.frozen?,h]
theorem Dx {tj:TypeId} {dj:Tmp} {zj:Value} (hBW:B.holds W) (hi:ops[i]? =some oi) (hj:ops[j]? =some oj) (hij:i≠j) (hoi:oi.op= .alloc ti) (hoj:oj.op= .alloc tj) (hdi:oi.dst=some di) (hdj:oj.dst=some dj) (hdd:di≠dj) (hgi:oi.guard=none) (hgj:oj.guard=none) (hzi:∀w,(zeroValue ti).run P w= .ok zi w) (hzj:∀w,(zeroValue tj).run P w= .ok zj w) (hr:Region.ready md ops listed= [i,j]) (hri:Region.ready md ops (listed.setIfInBounds i true) = [j]) (hrj:Region.ready md ops (listed.setIfInBounds j true) = [i]) (h:∀w b c,Over W w→W.heap.size≤b→W.heap.size≤c→b≠c→b<w.heap.size→c<w.heap.size→w.heap[b]? =some (.cells zi.cells ti (0,0))→w.heap[c]? =some (.cells zj.cells tj (0,0))→
   KV P md ops Q B fuel ((listed.setIfInBounds i true).setIfInBounds j true) ((a.put (some di) (.pointer (some ⟨b,0,none⟩))).put (some dj) (.pointer (some ⟨c,0,none⟩))) w) :
  KV P md ops Q B (fuel+1+1) listed a W:=by
 have run:∀(o:Oper) (t:TypeId) (z:Value) (a:Act) (w:World),o.op= .alloc t→(∀w,(zeroValue t).run P w= .ok z w)→
   (execOp a.eval o).run P w= .ok (.value (.pointer (some ⟨w.heap.size,0,none⟩))) (w.alloc (.cells z.cells t)) :=by
  intro o t z a w ho hz
  unfold execOp
  simp only [ho,Instr.alloc]
  simp [hz,go_sem]
 have wnt:∀(o:Oper) (t:Array Value),o.guard=none→Region.wanted o (yielded ops t) =true:=by
  intro o t ho;simp [Region.wanted,ho]
 refine⟨fun h0=> (by rw [h0] at hr;cases hr),fun k hk w hS=> ?_⟩
 rw [hr] at hk
 have hnew:∀(w:World) (o:Obj),(w.alloc o).heap[w.heap.size]? =some o:=fun w o=>heap_alloc_new w o
 rcases jis.1 hk with rfl | hk
 ·unfold Go.wpOp
  simp only [hi,wnt oi _ hgi,if_true]
  refine .inl ?_
  unfold Oper.wp
  rw [run oi ti zi a w hoi hzi]
  refine⟨B.keep _ _ (B.keep _ _ hBW hS) (Over.alloc _ _),⟨fun h0=> (by rw [h0] at hri;cases hri),fun k2 hk2 w2 hS2=> ?_⟩⟩
  rw [hri] at hk2
  simp only [jin] at hk2
  subst hk2
  unfold Go.wpOp
  simp only [hj,wnt oj _ hgj,if_true]
  refine .inl ?_
  unfold Oper.wp
  rw [run oj tj zj _ w2 hoj hzj]
  have h12:Over w w2:= (Over.alloc _ _).trans hS2
  have hlt:w.heap.size<w2.heap.size:=by have:=hS2.out.size;simp at this;omega
  have hle:W.heap.size≤w.heap.size:=hS.out.size
  refine⟨B.keep _ _ (B.keep _ _ (B.keep _ _ hBW hS) h12) (Over.alloc _ _),?_⟩
  rw [hdi,hdj]
  refine h _ w.heap.size w2.heap.size ((hS.trans h12).trans (Over.alloc _ _)) hle Om Om (by simp;omega) (by simp) ?_ (hnew _ _)
  rw [Below.heap_alloc _ _ _ hlt,hS2.out.block _ (by simp),hnew]
 ·simp only [jin] at hk
  subst hk
  unfold Go.wpOp
  simp only [hj,wnt oj _ hgj,if_true]
  refine .inl ?_
  unfold Oper.wp
  rw [run oj tj zj a w hoj hzj]
  refine⟨B.keep _ _ (B.keep _ _ hBW hS) (Over.alloc _ _),⟨fun h0=> (by rw [h0] at hrj;cases hrj),fun k2 hk2 w2 hS2=> ?_⟩⟩
  rw [hrj] at hk2
  simp only [jin] at hk2
  subst hk2
  unfold Go.wpOp
  simp only [hi,wnt oi _ hgi,if_true]
  refine .inl ?_
  unfold Oper.wp
  rw [run oi ti zi _ w2 hoi hzi]
  have h12:Over w w2:= (Over.alloc _ _).trans hS2
  have hlt:w.heap.size<w2.heap.size:=by have:=hS2.out.size;simp at this;omega
  have hle:W.heap.size≤w.heap.size:=hS.out.size
  refine⟨B.keep _ _ (B.keep _ _ (B.keep _ _ hBW hS) h12) (Over.alloc _ _),?_⟩
  rw [hdi,hdj,jjr _ _ (Ne.symm hij),Act.put_comm _ _ _ (by intro d hd;cases hd;intro e;cases e;exact hdd rfl)]
  refine h _ w2.heap.size w.heap.size ((hS.trans h12).trans (Over.alloc _ _)) Om hle Om (by simp) (by simp;omega) (hnew _ _) ?_
  rw [Below.heap_alloc _ _ _ hlt,hS2.out.block _ (by simp),hnew]
theorem Ym {old:Array Value} (hi:ops[i]? =some oi) (ho:oi.op= .store T x y) (hd:oi.dst=none) (hg:oi.guard=none) (hr:Region.ready md ops listed= [i]) (hx:a.eval x= .pointer (some ⟨b,0,none⟩)) (hy:a.eval y= .agg new) (hh:W.heap[b]? =some (.cells old t (0,0))) (hinfo: (P.info? T).map (·.size) =some new.size) (hsz:old.size=new.size) (h1:new.all (·.oneCell') =true) (hkeep:∀w,Over W w→B.holds (w.setRow b new)) (h:∀w',(∀k,k<W.heap.size→k≠b→w'.heap[k]? =W.heap[k]?)→W.heap.size≤w'.heap.size→w'.heap[b]? =some (.cells new t (0,0))→w'.os=W.os→w'.tape=W.tape→w'.output=W.output→B.holds w'→
   KV P md ops Q B fuel (listed.setIfInBounds i true) a w') :KV P md ops Q B (fuel+1) listed a W:=by
 refine⟨fun h0=> (by rw [h0] at hr;cases hr),fun j hj w hS=> ?_⟩
 rw [hr] at hj
 simp only [jin] at hj
 subst hj
 have hlt:b<W.heap.size:=by
  rcases ji9 b W.heap.size with h | h
  ·exact h
  ·rw [Array.getElem?_eq_none h] at hh;cases hh
 have hh':w.heap[b]? =some (.cells old t (0,0)) := (hS.out.block b hlt).trans hh
 have hrun: (execOp a.eval oi).run P w= .ok .skip (w.setRow b new) :=by
  unfold execOp
  simp only [ho,hx,hy,Instr.storeAt]
  have:=run_storeVar_row (P:=P) w b t T old new hh' hinfo hsz h1
  simp [Instr.sureAddr,this]
 unfold Go.wpOp
 simp only [hi,Region.wanted,hg,if_true]
 refine .inl ?_
 unfold Oper.wp
 rw [hrun,Oper.upon_skip,hd]
 have hle:W.heap.size≤w.heap.size:=hS.out.size
 have hB2:=hkeep w hS
 exact⟨hB2,h _ (fun k hk hne=> (setRow_other w b k new hne).trans (hS.out.block k hk)) (by simpa using hle) (setRow_heap w b old new t (0,0) hh') (by simpa using hS.out.os) (by simpa using hS.out.tape) (by simpa using hS.out.output) hB2⟩
theorem Ln {k:Nat} {ok:Oper} (hBW:B.holds W) (hi:ops[i]? =some oi) (hk:ops[k]? =some ok) (hoi:oi.op= .alloc ti) (hok:ok.op= .store T x y) (hdi:oi.dst=some di) (hdk:ok.dst=none) (hgi:oi.guard=none) (hgk:ok.guard=none) (hzi:∀w,(zeroValue ti).run P w= .ok zi w) (hr:Region.ready md ops listed= [i]) (hrk:Region.ready md ops (listed.setIfInBounds i true) = [k]) (hx:∀v,(a.put (some di) v).eval x=v) (hy:∀v,(a.put (some di) v).eval y= .agg new) (hinfo: (P.info? T).map (·.size) =some new.size) (hsz:zi.cells.size=new.size) (h1:new.all (·.oneCell') =true) (h:∀w b,Over W w→W.heap.size≤b→b<w.heap.size→w.heap[b]? =some (.cells new ti (0,0))→B.holds w→
   KV P md ops Q B fuel ((listed.setIfInBounds i true).setIfInBounds k true) (a.put (some di) (.pointer (some ⟨b,0,none⟩))) w) :
  KV P md ops Q B (fuel+1+1) listed a W:=by
 refine⟨fun h0=> (by rw [h0] at hr;cases hr),fun j hj w hS=> ?_⟩
 rw [hr] at hj
 simp only [jin] at hj
 subst hj
 have hrun: (execOp a.eval oi).run P w= .ok (.value (.pointer (some ⟨w.heap.size,0,none⟩))) (w.alloc (.cells zi.cells ti)) :=by
  unfold execOp
  simp only [hoi,Instr.alloc]
  simp [hzi,go_sem]
 unfold Go.wpOp
 simp only [hi,Region.wanted,hgi,if_true]
 refine .inl ?_
 unfold Oper.wp
 rw [hrun,Oper.upon_value,hdi]
 have hBw:=B.keep _ _ hBW hS
 have hle:W.heap.size≤w.heap.size:=hS.out.size
 have hz: (w.alloc (Obj.cells zi.cells ti)).heap.size=w.heap.size+1:=by simp
 refine⟨B.keep _ _ hBw (Over.alloc _ _),?_⟩
 have hrow:∀w3,Over (w.alloc (Obj.cells zi.cells ti)) w3→Over w (w3.setRow w.heap.size new) :=by
  intro w3 h3
  refine⟨h3.out.os,h3.out.tape,h3.out.output,by have:=h3.size;simp at this⊢;omega,fun c hc=> ?_⟩
  rw [setRow_other w3 w.heap.size c new Om,h3.out.block c Om,Below.heap_alloc _ _ _ hc]
 refine Ym hk hok hdk hgk hrk (hx _) (hy _) (heap_alloc_new w _) hinfo hsz h1 (fun w3 h3=>B.keep _ _ hBw (hrow w3 h3)) ?_
 intro w' hother hsize hnew ho1 ho2 ho3 hB'
 rw [hz] at hother hsize
 have hB2:Over W w':=by
  refine⟨ho1.trans hS.out.os,ho2.trans hS.out.tape,ho3.trans hS.out.output,by omega,fun c hc=> ?_⟩
  rw [hother c Om Om,Below.heap_alloc _ _ _ Om]
  exact hS.out.block c hc
 exact h w' w.heap.size hB2 hle Om hnew hB'
theorem Lo {k l:Nat} {ok ol:Oper} {tj T':TypeId} {x' y':Operand} {dj:Tmp} {zj:Value} {new':Array Value} (hBW:B.holds W) (hi:ops[i]? =some oi) (hj:ops[j]? =some oj) (hk:ops[k]? =some ok) (hl:ops[l]? =some ol) (hij:i≠j) (hoi:oi.op= .alloc ti) (hoj:oj.op= .alloc tj) (hok:ok.op= .store T x y) (hol:ol.op= .store T' x' y') (hdi:oi.dst=some di) (hdj:oj.dst=some dj) (hdd:di≠dj) (hdk:ok.dst=none) (hdl:ol.dst=none) (hgi:oi.guard=none) (hgj:oj.guard=none) (hgk:ok.guard=none) (hgl:ol.guard=none) (hzi:∀w,(zeroValue ti).run P w= .ok zi w) (hzj:∀w,(zeroValue tj).run P w= .ok zj w) (hr:Region.ready md ops listed= [i,j]) (hri:Region.ready md ops (listed.setIfInBounds i true) = [j]) (hrj:Region.ready md ops (listed.setIfInBounds j true) = [i]) (hrk:Region.ready md ops ((listed.setIfInBounds i true).setIfInBounds j true) = [k]) (hrl:Region.ready md ops (((listed.setIfInBounds i true).setIfInBounds j true).setIfInBounds k true) = [l]) (hx:∀u v,((a.put (some di) u).put (some dj) v).eval x=u) (hy:∀u v,((a.put (some di) u).put (some dj) v).eval y= .agg new) (hx':∀u v,((a.put (some di) u).put (some dj) v).eval x'=v) (hy':∀u v,((a.put (some di) u).put (some dj) v).eval y'= .agg new') (hinfo: (P.info? T).map (·.size) =some new.size) (hsz:zi.cells.size=new.size) (h1:new.all (·.oneCell') =true) (hinfo': (P.info? T').map (·.size) =some new'.size) (hsz':zj.cells.size=new'.size) (h1':new'.all (·.oneCell') =true) (h:∀w b c,Over W w→W.heap.size≤b→W.heap.size≤c→b≠c→b<w.heap.size→c<w.heap.size→w.heap[b]? =some (.cells new ti (0,0))→w.heap[c]? =some (.cells new' tj (0,0))→B.holds w→
   KV P md ops Q B fuel ((((listed.setIfInBounds i true).setIfInBounds j true).setIfInBounds k true).setIfInBounds l true) ((a.put (some di) (.pointer (some ⟨b,0,none⟩))).put (some dj) (.pointer (some ⟨c,0,none⟩))) w) :
  KV P md ops Q B (fuel+1+1+1+1) listed a W:=by
 refine Dx hBW hi hj hij hoi hoj hdi hdj hdd hgi hgj hzi hzj hr hri hrj ?_
 intro w b c hWw hb hc hne hbl hcl hhb hhc
 have hle:=hWw.out.size
 have hrow:∀(w1 w3:World) (g:Nat) (cs:Array Value),Over W w1→Over w1 w3→W.heap.size≤g→Over W (w3.setRow g cs) :=by
  intro w1 w3 g cs h1 h3 hg
  have h4:=h1.trans h3
  refine⟨h4.out.os,h4.out.tape,h4.out.output,by simpa using h4.size,fun e he=> ?_⟩
  rw [setRow_other w3 g e cs Om,h4.out.block e he]
 refine Ym hk hok hdk hgk hrk (hx _ _) (hy _ _) hhb hinfo hsz h1 (fun w3 h3=>B.keep _ _ hBW (hrow w w3 b new hWw h3 hb)) ?_
 intro w1 ho1 hs1 hn1 p1 p2 p3 _
 have hW1:Over W w1:=by
  refine⟨p1.trans hWw.out.os,p2.trans hWw.out.tape,p3.trans hWw.out.output,by omega,fun e he=> ?_⟩
  rw [ho1 e Om Om]
  exact hWw.out.block e he
 refine Ym hl hol hdl hgl hrl (hx' _ _) (hy' _ _) ((ho1 c hcl (Ne.symm hne)).trans hhc) hinfo' hsz' h1' (fun w3 h3=>B.keep _ _ hBW (hrow w1 w3 c new' hW1 h3 hc)) ?_
 intro w2 ho2 hs2 hn2 q1 q2 q3 hB2
 refine h w2 b c ⟨q1.trans hW1.out.os,q2.trans hW1.out.tape,q3.trans hW1.out.output,by omega,fun e he=> ?_⟩ hb hc hne Om Om ((ho2 b Om hne).trans hn1) hn2 hB2
 rw [ho2 e Om Om]
 exact hW1.out.block e he
theorem QM (hr:Region.ready md ops listed= []) (h:∀w,Over W w→Q .normal a w) :
  ∀fuel,KV P md ops Q B fuel listed a W
 | 0=>⟨hr,h⟩
 | _+1=>⟨fun _=>h,by rw [hr];simp⟩
theorem QN {id n:Nat} (hB:B.holds w) (hm:P.follows .mixedOrders=true) (hn:ops.size=n) (h:B.holds w→KV P .any ops Q B n (Array.replicate n false) a w) : (Code.region id ops true).wp P Q a w:=by
 subst hn
 exact wp_region_any hm (BD _ _ _ _ (h hB) _ (Below.refl _ _).drew)
end
end Go.Proofs.YtbahojdbmmjkcaaGreat
