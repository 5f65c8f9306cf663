import Derived.Test.YtpncbbcmoiiipaaGreatKSx
import Derived.Maps.AppendAt
set_option linter.unusedVariables false
set_option linter.unusedSimpArgs false
namespace Go.Proofs.YtpncbbcmoiiipaaGreat
open Go Go.RowKit
section
variable {P:Program} {n:Nat} {env:List (Nat×Value)} {w0:Bs} {Rs:List Res} {ops:Array Oper} {Q:Exit→Act→World→Prop} {K:Act→World→Prop} {o:Oper}
theorem Q9 {v:Value} (h:∀a w,Frm n env a→St w0 Rs w→(execOp a.eval o).run P w= .ok (.value v) w) :Qt P o n env w0 Rs v:=fun a w hf hs=>by rw [h a w hf hs];exact⟨rfl,Over.refl _⟩
theorem Qt.as {v v':Value} (h:Qt P o n env w0 Rs v) (e:v=v') :Qt P o n env w0 Rs v':=e▸h
theorem ja {x:Operand} {v:Value} (ho:o.op= .move x) (hx:ev env x=some v) :Qt P o n env w0 Rs v:=Q9 fun a w hf _=>by unfold execOp;simp only [ho,hf.ev hx];simp []
theorem jd {x:Operand} {v:Value} (ho:o.op= .assign x) (hx:ev env x=some v) :Qt P o n env w0 Rs v:=Q9 fun a w hf _=>by unfold execOp;simp only [ho,hf.ev hx];simp []
section ints
variable {x y:Operand} {T T':TypeId} {p q:Int}
theorem jX (ho:o.op= .binOp .add T x y T') (hx:ev env x=some (.int .i64 p)) (hy:ev env y=some (.int .i64 q)) (h1: -9223372036854775808≤p+q) (h2:p+q≤9223372036854775807) :Qt P o n env w0 Rs (.int .i64 (p+q)) :=
 Q9 fun a w hf _=>by unfold execOp;simp only [ho,hf.ev hx,hf.ev hy];simp [go_sem,IntWalk.i64_in _ ⟨h1,h2⟩]
theorem JJ (ho:o.op= .binOp .sub T x y T') (hx:ev env x=some (.int .i64 p)) (hy:ev env y=some (.int .i64 q)) (h1: -9223372036854775808≤p- q) (h2:p- q≤9223372036854775807) :Qt P o n env w0 Rs (.int .i64 (p- q)) :=
 Q9 fun a w hf _=>by unfold execOp;simp only [ho,hf.ev hx,hf.ev hy];simp [go_sem,IntWalk.i64_in _ ⟨h1,h2⟩]
theorem qZ (ho:o.op= .binOp .mul T x y T') (hx:ev env x=some (.int .i64 p)) (hy:ev env y=some (.int .i64 q)) (h1: -9223372036854775808≤p*q) (h2:p*q≤9223372036854775807) :Qt P o n env w0 Rs (.int .i64 (p*q)) :=
 Q9 fun a w hf _=>by unfold execOp;simp only [ho,hf.ev hx,hf.ev hy];simp [go_sem,IntWalk.i64_in _ ⟨h1,h2⟩]
theorem YD (ho:o.op= .unOp .neg T x) (hx:ev env x=some (.int .i64 p)) (h1: -9223372036854775807≤p) (h2:p≤9223372036854775807) :Qt P o n env w0 Rs (.int .i64 (-p)) :=
 Q9 fun a w hf _=>by unfold execOp;simp only [ho,hf.ev hx];simp [go_sem,IntWalk.i64_in (-p) ⟨by omega,by omega⟩]
theorem jpi (ho:o.op= .binOp .quo T x y T') (hx:ev env x=some (.int .i64 p)) (hy:ev env y=some (.int .i64 q)) (hq:0<q) (h1: -9223372036854775807≤p) (h2:p≤9223372036854775807) :Qt P o n env w0 Rs (.int .i64 (p.tdiv q)) :=
 Q9 fun a w hf _=>by
  have hq0:¬q=0:=by omega
  have hb: -9223372036854775808≤p.tdiv q∧p.tdiv q≤9223372036854775807:=by
   have:=Int.natAbs_tdiv_le_natAbs p q
   omega
  unfold execOp;simp only [ho,hf.ev hx,hf.ev hy];simp [go_sem,hq0,IntWalk.i64_in _ hb]
theorem Hl (ho:o.op= .binOp .rem T x y T') (hx:ev env x=some (.int .i64 p)) (hy:ev env y=some (.int .i64 q)) (hq:0<q) (h1: -9223372036854775807≤p) (h2:p≤9223372036854775807) :Qt P o n env w0 Rs (.int .i64 (p.tmod q)) :=
 Q9 fun a w hf _=>by
  have hq0:¬q=0:=by omega
  have hb: -9223372036854775808≤p.tmod q∧p.tmod q≤9223372036854775807:=by
   have h3:=Int.natAbs_tmod p q
   have h4:=Nat.mod_le p.natAbs q.natAbs
   omega
  unfold execOp;simp only [ho,hf.ev hx,hf.ev hy];simp [go_sem,hq0,IntWalk.i64_in _ hb]
theorem qF (ho:o.op= .binOp .eql T x y T') (hx:ev env x=some (.int .i64 p)) (hy:ev env y=some (.int .i64 q)) :Qt P o n env w0 Rs (.bool (p==q)) :=Q9 fun a w hf _=>by unfold execOp;simp only [ho,hf.ev hx,hf.ev hy];simp [go_sem]
theorem qa (ho:o.op= .binOp .neq T x y T') (hx:ev env x=some (.int .i64 p)) (hy:ev env y=some (.int .i64 q)) :Qt P o n env w0 Rs (.bool (!(p==q))) :=Q9 fun a w hf _=>by
 have: (p !=q) = !(p==q) :=rfl
 unfold execOp;simp only [ho,hf.ev hx,hf.ev hy];simp [binOp_neq,this,go_sem]
theorem Ju (ho:o.op= .binOp .lss T x y T') (hx:ev env x=some (.int .i64 p)) (hy:ev env y=some (.int .i64 q)) :Qt P o n env w0 Rs (.bool (decide (p<q))) :=Q9 fun a w hf _=>by unfold execOp;simp only [ho,hf.ev hx,hf.ev hy];simp [go_sem]
theorem kv (ho:o.op= .binOp .leq T x y T') (hx:ev env x=some (.int .i64 p)) (hy:ev env y=some (.int .i64 q)) :Qt P o n env w0 Rs (.bool (decide (p≤q))) :=Q9 fun a w hf _=>by unfold execOp;simp only [ho,hf.ev hx,hf.ev hy];simp [go_sem]
theorem Qa (ho:o.op= .binOp .gtr T x y T') (hx:ev env x=some (.int .i64 p)) (hy:ev env y=some (.int .i64 q)) :Qt P o n env w0 Rs (.bool (decide (q<p))) :=Q9 fun a w hf _=>by unfold execOp;simp only [ho,hf.ev hx,hf.ev hy];simp [go_sem]
theorem YC (ho:o.op= .binOp .geq T x y T') (hx:ev env x=some (.int .i64 p)) (hy:ev env y=some (.int .i64 q)) :Qt P o n env w0 Rs (.bool (decide (q≤p))) :=Q9 fun a w hf _=>by unfold execOp;simp only [ho,hf.ev hx,hf.ev hy];simp [go_sem]
end ints
section bools
variable {x y:Operand} {T T':TypeId} {p q:Bool}
theorem qS (ho:o.op= .unOp .not T x) (hx:ev env x=some (.bool p)) :Qt P o n env w0 Rs (.bool (!p)) :=Q9 fun a w hf _=>by unfold execOp;simp only [ho,hf.ev hx];simp [go_sem]
theorem Iq (hT:P.underlying T=some .bool) (ho:o.op= .binOp .neq T x y T') (hx:ev env x=some (.bool p)) (hy:ev env y=some (.bool q)) :Qt P o n env w0 Rs (.bool (!(p==q))) :=
 Q9 fun a w hf _=>by unfold execOp;simp only [ho,hf.ev hx,hf.ev hy];simp [run_neq_bool w T p q hT,go_sem]
end bools
def RY:TypeDesc→Bool
 | .struct _ | .array _ _=>false
 | _=>true
structure Ty1 (P:Program) (T:TypeId) :Prop where
 flat:∃d,P.underlying T=some d∧RY d=true
 size: (P.info? T).map (·.size) =some 1
structure TyS (P:Program) (T:TypeId) (m:Nat) :Prop where
 flat:∃d,P.underlying T=some d∧RY d=false
 size: (P.info? T).map (·.size) =some m
structure TyZ (P:Program) (T:TypeId) (m k:Nat) (z:Value) :Prop where
 info:∃i,P.info? T=some i∧i.zero=some z∧i.size=m∧i.bytes=k
 cells:z.cells.size=m
structure TyL (P:Program) (T U:TypeId) (m:Nat) :Prop where
 desc:P.underlying T=some (.slice U)
 size: (P.info? U).map (·.size) =some m
structure TyF (P:Program) (T:TypeId) (i c:Nat) :Prop where
 fld:∃fs f,P.underlying T=some (.struct fs)∧fs[i]? =some f∧f.offset=c∧∃m,(P.info? f.type).map (·.size) =some (m+1)
theorem TyZ.run {T:TypeId} {m k:Nat} {z:Value} (h:TyZ P T m k z) (w:World) : (zeroValue T).run P w= .ok z w:=by
 obtain ⟨i,hi,hz,_⟩ :=h.info
 simp [zeroValue,typeInfo,hi,hz]
theorem D8 {T:TypeId} {d:TypeDesc} (hT:P.underlying T=some d) (w:World) : (isAgg T).run P w= .ok (!RY d) w:=by
 unfold isAgg
 rw [Sem.run_bind,run_underlying hT]
 simp only [Result.andThen_ok]
 cases d<;>rfl
theorem Q1 (b o j:Nat) : (⟨b,o,none⟩ :Addr).add j=⟨b,o+j,none⟩ :=by unfold Addr.add;split<;>simp_all
theorem jan {T:TypeId} {d:TypeDesc} (hT:P.underlying T=some d) (hd:RY d=true) {p:Addr} {v:Value} {w:World} (hc:w.cell? p=some v) : (loadVar T p).run P w= .ok v w:=by
 unfold loadVar
 rw [Sem.run_bind,D8 hT,hd]
 simp [hc]
theorem D9 {T:TypeId} {d:TypeDesc} (hT:P.underlying T=some d) (hd:RY d=false) {m:Nat} (hz: (P.info? T).map (·.size) =some m) {b o:Nat} {cs:List Value} (hl:cs.length=m) {w:World}
  (hc:∀j v,cs[j]? =some v→w.cell? ⟨b,o+j,none⟩ =some v) : (loadVar T ⟨b,o,none⟩).run P w= .ok (.agg cs.toArray) w:=by
 unfold loadVar
 rw [Sem.run_bind,D8 hT,hd]
 obtain ⟨i,hi,hs⟩ :=jjQ.1 hz
 have hso: (sizeOf T).run P w= .ok m w:=by simp [sizeOf,typeInfo,hi,hs]
 have hl':=run_loadCells (P:=P) w ⟨b,o,none⟩ m (fun j=>cs.getD j undef) (fun j hj=>by
  rw [Q1]
  refine hc j _ ?_
  rw [List.getD_eq_getElem?_getD]
  have:j<cs.length:=by omega
  simp [this])
 simp only [Bool.not_false,Result.andThen_ok,if_true,Sem.run_bind,hso,hl']
 simp only [Sem.run_pure]
 congr 2
 apply Array.ext'
 simp only [jjj]
 apply jjz
 ·simp;omega
 ·intro j h1 h2
  simp [List.getD_eq_getElem?_getD,h2]
theorem jn {T:TypeId} {x:Operand} {p:Addr} {v:Value} (ho:o.op= .load T x) (hx:ev env x=some (.pointer (some p))) (hT:Ty1 P T) (hc:∀w,St w0 Rs w→w.cell? p=some v) :Qt P o n env w0 Rs v:=
 Q9 fun a w hf hs=>by
  obtain ⟨d,h1,h2⟩ :=hT.flat
  unfold execOp;simp only [ho,hf.ev hx];simp [Instr.loadAt,Instr.sureAddr,jan h1 h2 (hc w hs)]
theorem jk {T:TypeId} {m:Nat} {x:Operand} {b off:Nat} {cs:List Value} (ho:o.op= .load T x) (hx:ev env x=some (.pointer (some ⟨b,off,none⟩))) (hT:TyS P T m) (hl:cs.length=m)
  (hc:∀w,St w0 Rs w→∀j v,cs[j]? =some v→w.cell? ⟨b,off+j,none⟩ =some v) :Qt P o n env w0 Rs (.agg cs.toArray) :=
 Q9 fun a w hf hs=>by
  obtain ⟨d,h1,h2⟩ :=hT.flat
  unfold execOp;simp only [ho,hf.ev hx];simp [Instr.loadAt,Instr.sureAddr,D9 h1 h2 hT.size hl (hc w hs)]
theorem St.cel {w:World} (h:St w0 Rs w) {k b:Nat} {T:TypeId} {cs:List Value} (hk:Rs[k]? =some (.cel b T cs)) :w.heap[b]? =some (.cells cs.toArray T (0,0)) := (h.all k _ hk).1
theorem qo {k b T off:Nat} {cs:List Value} {v:Value} (hk:Rs[k]? =some (.cel b T cs)) (hv:cs[off]? =some v) :∀w,St w0 Rs w→w.cell? ⟨b,off,none⟩ =some v:=fun w h=>by
 rw [cell_of_row w b off _ T (0,0) (h.cel hk)]
 simpa using hv
theorem jY {k b T:Nat} {cs:List Value} (hk:Rs[k]? =some (.cel b T cs)) :∀w,St w0 Rs w→∀j v,cs[j]? =some v→w.cell? ⟨b,0+j,none⟩ =some v:=fun w h j v hv=>by
 rw [cell_of_row w b _ _ T (0,0) (h.cel hk),jiL]
 simpa using hv
theorem Yg {k b T off:Nat} {cs:List Value} {u v:Value} (hk:Rs[k]? =some (.cel b T cs)) (hu:cs[off]? =some u) (hv:cs[off+1]? =some v) :∀w,St w0 Rs w→∀j x,[u,v][j]? =some x→w.cell? ⟨b,off+j,none⟩ =some x:=fun w h j x hx=>by
 match j,hx with
 | 0,hx=>rw [cell_of_row w b _ _ T (0,0) (h.cel hk)];simp at hx;subst hx;simpa using hu
 | 1,hx=>rw [cell_of_row w b _ _ T (0,0) (h.cel hk)];simp at hx;subst hx;simpa using hv
theorem rd3 {k b T off:Nat} {cs:List Value} {u v y:Value} (hk:Rs[k]? =some (.cel b T cs)) (hu:cs[off]? =some u) (hv:cs[off+1]? =some v) (hy:cs[off+2]? =some y) :∀w,St w0 Rs w→∀j x,[u,v,y][j]? =some x→w.cell? ⟨b,off+j,none⟩ =some x:=fun w h j x hx=>by
 match j,hx with
 | 0,hx=>rw [cell_of_row w b _ _ T (0,0) (h.cel hk)];simp at hx;subst hx;simpa using hu
 | 1,hx=>rw [cell_of_row w b _ _ T (0,0) (h.cel hk)];simp at hx;subst hx;simpa using hv
 | 2,hx=>rw [cell_of_row w b _ _ T (0,0) (h.cel hk)];simp at hx;subst hx;simpa using hy
theorem jf {T:TypeId} {x:Operand} {i c b off:Nat} (ho:o.op= .fieldAddr T x i) (hx:ev env x=some (.pointer (some ⟨b,off,none⟩))) (hT:TyF P T i c) :
  Qt P o n env w0 Rs (.pointer (some ⟨b,off+c,none⟩)) :=
 Q9 fun a w hF _=>by
  obtain ⟨fs,f,h1,h2,h3,m,h4⟩ :=hT.fld
  obtain ⟨i0,hi,hs⟩ :=jjQ.1 h4
  have hso: (sizeOf f.type).run P w= .ok (m+1) w:=by simp [sizeOf,typeInfo,hi,hs]
  unfold execOp;simp only [ho,hF.ev hx];simp [Instr.fieldAt,Instr.sureAddr,run_underlying h1,h2,h3,hso,fieldPlace,Q1]
theorem JI {x:Operand} {i:Nat} {vs:List Value} {v:Value} (ho:o.op= .extract x i) (hx:ev env x=some (.tuple vs.toArray)) (hv:vs[i]? =some v) :Qt P o n env w0 Rs v:=
 Q9 fun a w hF _=>by unfold execOp;simp only [ho,hF.ev hx];simp [Instr.extract,hv]
theorem JN {x:Operand} {T U:TypeId} {A:Option Addr} {m c s:Nat} (ho:o.op= .call {callee:= .builtin .len,args:= #[x],argTypes:= #[T]}) (hx:ev env x=some (.slice A m c)) (hT:TyL P T U s) :Qt P o n env w0 Rs (.int .i64 (m:Int)) :=
 Q9 fun a w hF _=>by
  have hT:=hT.desc
  have hE:P.elem T=U:=by simp [Program.elem,hT]
  have:=run_len_slice (P:=P) w T o.type A m c (by rw [hE];exact hT)
  unfold execOp;simp only [ho];simp [resolve,invoke,builtin,hF.ev hx,this,goInt]
theorem jN {T U:TypeId} {x y:Operand} {b off m c j s:Nat} (ho:o.op= .indexAddr T x y) (hx:ev env x=some (.slice (some ⟨b,off,none⟩) m c)) (hy:ev env y=some (.int .i64 (j:Int))) (hT:TyL P T U s) (hj:j<m) :
  Qt P o n env w0 Rs (.pointer (some ⟨b,off+j*s,none⟩)) :=
 Q9 fun a w hF _=>by
  have hs:=hT.size
  have hT:=hT.desc
  have hE:P.elem T=U:=by simp [Program.elem,hT]
  have:=run_indexAt_slice (P:=P) w T ⟨b,off,none⟩ m c .i64 j (by rw [hE];exact hT)
  obtain ⟨i,hi,hs'⟩ :=jjQ.1 hs
  have hso: (sizeOf U).run P w= .ok s w:=by simp [sizeOf,typeInfo,hi,hs']
  rw [if_pos Om,hE,hso] at this
  unfold execOp;simp only [ho,hF.ev hx,hF.ev hy];simp [this,Q1]
structure FnOk (P:Program) (f:FuncId) :Prop where
 fn:∃fn,P.funcs[f]? =some fn∧(fn.name== "runtime.NumGoroutine") =false∧fn.body.isNone=false
theorem FnOk.run {f:FuncId} (h:FnOk P f) (vs:Array Value) (w:World) : (callFunc f vs).run P w= .ok (.enter f vs) w:=by
 obtain ⟨fn,h1,h2,h3⟩ :=h.fn
 unfold callFunc
 simp only [Sem.run_bind,run_program,Result.andThen_ok,h1,h2,h3,jjg,if_false,Sem.run_pure]
theorem Zh {f:FuncId} (hfn:FnOk P f) {xs:List Operand} {vs:List Value} {ts:Array TypeId} (ho:o.op= .call {callee:= .value (.func f),args:=xs.toArray,argTypes:=ts}) (hx:TF env xs=some vs) {a:Act} {w:World} (hF:Frm n env a) : (execOp a.eval o).run P w= .ok (.enter f vs.toArray) w:=by
 have he:xs.map a.eval=vs:=hF.evs hx
 unfold execOp
 simp only [ho]
 simp only [resolve,Deferred.ofValue,Act.eval]
 simp [invoke,hfn.run,he]
theorem jT {f:FuncId} (hfn:FnOk P f) {xs:List Operand} {vs:List Value} {ts:Array TypeId} {v:Value} (ho:o.op= .call {callee:= .value (.func f),args:=xs.toArray,argTypes:=ts}) (hx:TF env xs=some vs)
  (hc:∀w,St w0 Rs w→Calls P f vs.toArray w fun e w'=>e= .returned v∧Over w w') :Qt P o n env w0 Rs v:=fun a w hF hs=>by
 rw [Zh hfn ho hx hF]
 exact hc w hs
theorem J4 {f:FuncId} (hfn:FnOk P f) {xs:List Operand} {vs:List Value} {ts:Array TypeId} {d:Nat} {X:Type} {v:X→Value} {r:X→Res} {H:X→Prop} (ho:o.op= .call {callee:= .value (.func f),args:=xs.toArray,argTypes:=ts}) (hx:TF env xs=some vs) (hd:o.dst=some d) (hn:d<n)
  (hc:∀w,St w0 Rs w→Calls P f vs.toArray w fun e w'=>∃x,e= .returned (v x)∧Over w w'∧(r x).P w'∧(∀b,(r x).F b→w.heap.size≤b)∧(r x).B=0∧H x)
  (h:∀x,H x→At n ((d,v x) ::env) w0 (Rs++ [r x]) K) :At n env w0 Rs (fun a w=>o.wp P a w K Q) :=fun a w hF hs=>by
 show o.upon P a K Q ((execOp a.eval o).run P w)
 rw [Zh hfn ho hx hF]
 refine Calls.mono (hc w hs) ?_
 rintro e w' ⟨x,rfl,hO,hP,hF',hB,hH⟩
 exact hd▸h x hH _ _ (hF.put hn _) (hs.add hO hP hF' ⟨by rw [hB];exact jii _,fun _ _=>by rw [hB];exact jii _⟩)
theorem Jj {T:TypeId} {d m k:Nat} {z:Value} (ho:o.op= .alloc T) (hT:TyZ P T m k z) (hd:o.dst=some d) (hn:d<n)
  (h:∀b,At n ((d, .pointer (some ⟨b,0,none⟩)) ::env) w0 (Rs++ [.cel b T z.cells.toList]) K) :At n env w0 Rs (fun a w=>o.wp P a w K Q) :=fun a w hF hs=>by
 have: (execOp a.eval o).run P w= .ok (.value (.pointer (some ⟨w.heap.size,0,none⟩))) (w.alloc (.cells z.cells T)) :=by
  unfold execOp
  simp only [ho,Instr.alloc]
  simp [hT.run,go_sem]
 show o.upon P a K Q ((execOp a.eval o).run P w)
 rw [this,Oper.upon_value,hd]
 exact h _ _ _ (hF.put hn _) (hs.add (Over.alloc _ _) (by show(w.alloc (.cells z.cells T)).heap[w.heap.size]? =some (.cells z.cells.toList.toArray T (0,0));rw [heap_alloc_new,jjy]) (fun b hb=>Nat.le_of_eq hb.symm) ⟨jii _,fun _ _=>jii _⟩)
theorem JP {T:TypeId} {x:Operand} {d:Nat} {v:Value} {cs:List Value} (ho:o.op= .box T x) (hx:ev env x=some v) (hv:v.cells=cs.toArray) (hd:o.dst=some d) (hn:d<n)
  (h:∀b,At n ((d, .pointer (some ⟨b,0,none⟩)) ::env) w0 (Rs++ [.cel b T cs]) K) :At n env w0 Rs (fun a w=>o.wp P a w K Q) :=fun a w hF hs=>by
 have: (execOp a.eval o).run P w= .ok (.value (.pointer (some ⟨w.heap.size,0,none⟩))) (w.alloc (.cells cs.toArray T)) :=by
  unfold execOp
  simp only [ho,Instr.box,hF.ev hx]
  simp [newVar,newRow,hv]
 show o.upon P a K Q ((execOp a.eval o).run P w)
 rw [this,Oper.upon_value,hd]
 exact h _ _ _ (hF.put hn _) (hs.add (Over.alloc _ _) (heap_alloc_new w _) (fun b hb=>Nat.le_of_eq hb.symm) ⟨jii _,fun _ _=>jii _⟩)
theorem St.store {w:World} (h:St w0 Rs w) {k b T:Nat} {cs cs':List Value} (hk:Rs[k]? =some (.cel b T cs)) :St w0 (Rs.set k (.cel b T cs')) (w.setRow b cs'.toArray) :=by
 have hh:=h.cel hk
 have hlow:= (h.all k _ hk).2.1 b rfl
 refine h.upd hk ⟨by simpa using h.over.os,by simpa using h.over.tape,by simpa using h.over.output,by simpa using h.over.size,fun c hc hx=> ?_⟩ (by simp) (fun c _ hne=>setRow_other w b c _ hne) (setRow_heap w b _ _ T (0,0) hh) (fun c hc=> .inl hc) J
 rw [setRow_other w b c _ (fun e=>hlow.elim (fun h1=>by omega) (fun h1=>hx (e▸h1)))]
 exact h.over.block c hc hx
end
section
variable {P:Program} {n:Nat} {env:List (Nat×Value)} {w0:Bs} {Rs:List Res} {ops:Array Oper} {Q:Exit→Act→World→Prop} {K:Act→World→Prop} {o:Oper}
theorem a9 {rest:List Oper} {v:Value} {d:Nat} (hq:Qt P o n env w0 Rs v) (h:At n ((d,v) ::env) w0 Rs (fun a w=>wpList P ops Q rest a w)) (hg:o.guard=none:=by exact rfl) (hd:o.dst=some d:=by exact rfl) (hn:d<n:=by decide) :At n env w0 Rs (fun a w=>wpList P ops Q (o::rest) a w) :=jc hg hd hn hq h
theorem o9 {v:Value} {d:Nat} (hq:Qt P o n env w0 Rs v) (h:At n ((d,v) ::env) w0 Rs K) (hd:o.dst=some d:=by exact rfl) (hn:d<n:=by decide) :At n env w0 Rs (fun a w=>o.wp P a w K Q) :=Jg hd hn hq h
theorem h9 {rest:List Oper} {j:Nat} {c:Bool} {oj:Oper} {dj:Nat} (h:At n env w0 Rs (fun a w=>o.wp P a w (wpList P ops Q rest) Q)) (hg:o.guard=some (j,c) :=by exact rfl) (hj:ops[j]? =some oj:=by exact rfl) (hdj:oj.dst=some dj:=by exact rfl) (hb:look env dj=some (.bool c) :=by exact rfl) :At n env w0 Rs (fun a w=>wpList P ops Q (o::rest) a w) :=jD hg hj hdj hb h
theorem g9 {rest:List Oper} {j d:Nat} {b c:Bool} {oj:Oper} {dj:Nat} (h:At n ((d,undef) ::env) w0 Rs (fun a w=>wpList P ops Q rest a w)) (hg:o.guard=some (j,c) :=by exact rfl) (hj:ops[j]? =some oj:=by exact rfl) (hdj:oj.dst=some dj:=by exact rfl) (hb:look env dj=some (.bool b) :=by exact rfl) (hne:b≠c:=by decide) (hd:o.dst=some d:=by exact rfl) (hn:d<n:=by decide) :At n env w0 Rs (fun a w=>wpList P ops Q (o::rest) a w) :=jm hg hj hdj hb hne hd hn h
theorem p9 {x y:Operand} {T T':TypeId} {p q:Int} (ho:o.op= .binOp .add T x y T':=by exact rfl) (hx:ev env x=some (.int .i64 p) :=by exact rfl) (hy:ev env y=some (.int .i64 q) :=by exact rfl) (h1: -9223372036854775808≤p+q:=by omega) (h2:p+q≤9223372036854775807:=by omega) :Qt P o n env w0 Rs (.int .i64 (p+q)) :=jX ho hx hy h1 h2
theorem m9 {x y:Operand} {T T':TypeId} {p q:Int} (ho:o.op= .binOp .sub T x y T':=by exact rfl) (hx:ev env x=some (.int .i64 p) :=by exact rfl) (hy:ev env y=some (.int .i64 q) :=by exact rfl) (h1: -9223372036854775808≤p- q:=by omega) (h2:p- q≤9223372036854775807:=by omega) :Qt P o n env w0 Rs (.int .i64 (p- q)) :=JJ ho hx hy h1 h2
theorem q9 {x:Operand} {v:Value} (ho:o.op= .move x:=by exact rfl) (hx:ev env x=some v:=by exact rfl) :Qt P o n env w0 Rs v:=ja ho hx
theorem s9 {x:Operand} {v:Value} (ho:o.op= .assign x:=by exact rfl) (hx:ev env x=some v:=by exact rfl) :Qt P o n env w0 Rs v:=jd ho hx
end
theorem TyZ.szx {P:Program} {T:TypeId} {m k:Nat} {z:Value} (h:TyZ P T m k z) : (P.info? T).map (·.size) =some m:=by
 obtain ⟨i,hi,_,hs,_⟩ :=h.info
 simp [hi,hs]
theorem MW (place:Nat→Option (Nat×Nat)) :∀(l:List (Nat×Value)) (cells:Array Value),Instr.fill place cells l=Instr.fill place cells (l.map fun p=> (p.1,Value.agg p.2.cells))
 | [],_=>rfl
 | (i,v) ::r,cells=>by
  simp only [jiA,Instr.fill]
  have e: (Value.agg v.cells).cells=v.cells:=rfl
  rw [e]
  split
  ·rfl
  ·split
   ·rfl
   ·exact MW place r _
theorem QM (t:TypeId) (parts:Array (Nat×Value)) :Instr.build t parts=Instr.build t (parts.map fun p=> (p.1,Value.agg p.2.cells)) :=by
 unfold Instr.build
 simp only [MW _ parts.toList,Array.toList_map]
theorem qB (t:TypeId) (m:Nat) (parts:Array (Nat×Value)) :Instr.buildSlice t m parts=Instr.buildSlice t m (parts.map fun p=> (p.1,Value.agg p.2.cells)) :=by
 unfold Instr.buildSlice
 simp only [MW _ parts.toList,Array.toList_map]
section
variable {P:Program} {n:Nat} {env:List (Nat×Value)} {w0:Bs} {Rs:List Res} {ops:Array Oper} {Q:Exit→Act→World→Prop} {K:Act→World→Prop} {o:Oper}
theorem JL {id:Nat} (h:At n env w0 Rs (fun a w=>Q .ret a w)) :At n env w0 Rs (fun a w=>Exit.inBlock id Q .ret a w) :=h
theorem jO {K':Act→World→Prop} (h:At n env w0 Rs (fun a w=>Q .ret a w)) :At n env w0 Rs (fun a w=>Exit.then K' Q .ret a w) :=h
inductive RV (P:Program) (env:List (Nat×Value)) (w0:Bs) (Rs:List Res) :ResultVar→Value→Prop
 | tmp {t:Nat} {v:Value} :look env t=some v→RV P env w0 Rs (.tmp t) v
 | cell {t:Nat} {T:TypeId} {p:Addr} {v:Value} :look env t=some (.pointer (some p))→(∀w,St w0 Rs w→(loadVar T p).run P w= .ok v w)→RV P env w0 Rs (.cell t T) v
def CD (ts:Array Value) :ResultVar→Sem Value
 | .tmp t=>pure (ts.getD t undef)
 | .cell p T=>do loadVar T (←asAddr (ts.getD p undef))
theorem xL (fn:Func) (ts:Array Value) :results fn ts= (do let vs←fn.results.mapM (CD ts);pure (if h:vs.size=1 then vs[0] else .tuple vs)) :=rfl
theorem RV.run {rv:ResultVar} {v:Value} (h:RV P env w0 Rs rv v) {a:Act} {w:World} (hf:Frm n env a) (hs:St w0 Rs w) : (CD a.tmps rv).run P w= .ok v w:=by
 cases h with
 | tmp h1=>simp only [CD,hf.get _ _ h1,Sem.run_pure]
 | cell h1 h2=>simp only [CD,hf.get _ _ h1,asAddr,Sem.run_bind,Sem.run_pure,Result.andThen_ok,h2 w hs]
theorem qh {t k b T U m:Nat} {cs:List Value} (hp:look env t=some (.pointer (some ⟨b,0,none⟩))) (hT:TyS P T m) (hk:Rs[k]? =some (.cel b U cs)) (hl:cs.length=m) :RV P env w0 Rs (.cell t T) (.agg cs.toArray) :=
 .cell hp fun w hs=>by
  obtain ⟨d,h1,h2⟩ :=hT.flat
  exact D9 h1 h2 hT.size hl (jY hk w hs)
theorem jM {fn:Func} {R:Ending→World→Prop} {r1:ResultVar} {v1:Value} (hr:fn.results= #[r1]) (h1:RV P env w0 Rs r1 v1) (h:∀w,St w0 Rs w→R (.returned v1) w) :At n env w0 Rs (fun a w=>bodyPost P fn R .ret a w) :=fun a w hf hs=>by
 refine bodyPost_ret (v:=v1) ?_ hf.defers (h w hs)
 rw [xL,hr]
 have e1:=h1.run hf hs
 simp [List.mapM_toArray,Sem.run_bind,e1]
theorem qv {fn:Func} {R:Ending→World→Prop} {r1 r2:ResultVar} {v1 v2:Value} (hr:fn.results= #[r1,r2]) (h1:RV P env w0 Rs r1 v1) (h2:RV P env w0 Rs r2 v2) (h:∀w,St w0 Rs w→R (.returned (.tuple #[v1,v2])) w) :At n env w0 Rs (fun a w=>bodyPost P fn R .ret a w) :=fun a w hf hs=>by
 refine bodyPost_ret (v:= .tuple #[v1,v2]) ?_ hf.defers (h w hs)
 rw [xL,hr]
 have e1:=h1.run hf hs
 have e2:=h2.run hf hs
 simp [e1,e2]
theorem L9 {fn:Func} {R:Ending→World→Prop} {r1 r2 r3:ResultVar} {v1 v2 v3:Value} (hr:fn.results= #[r1,r2,r3]) (h1:RV P env w0 Rs r1 v1) (h2:RV P env w0 Rs r2 v2) (h3:RV P env w0 Rs r3 v3) (h:∀w,St w0 Rs w→R (.returned (.tuple #[v1,v2,v3])) w) :
  At n env w0 Rs (fun a w=>bodyPost P fn R .ret a w) :=fun a w hf hs=>by
 refine bodyPost_ret (v:= .tuple #[v1,v2,v3]) ?_ hf.defers (h w hs)
 rw [xL,hr]
 have e1:=h1.run hf hs
 have e2:=h2.run hf hs
 have e3:=h3.run hf hs
 simp [e1,e2,e3]
theorem Zr {fn:Func} {R:Ending→World→Prop} (hr:fn.results= #[]) (h:∀w,St w0 Rs w→R (.returned (.tuple #[])) w) :At n env w0 Rs (fun a w=>bodyPost P fn R .ret a w) :=fun a w hf hs=>
 bodyPost_ret (results_none hr _ _ _) hf.defers (h w hs)
theorem kw {fn:Func} {R:Ending→World→Prop} (hr:fn.results= #[]) (h:∀w,St w0 Rs w→R (.returned (.tuple #[])) w) :At n env w0 Rs (fun a w=>bodyPost P fn R .normal a w) :=fun a w hf hs=>
 bodyPost_end (results_none hr _ _ _) hf.defers (h w hs)
variable {Rs0:List Res} {fuel:Nat} {listed:Array Bool}
theorem Bq {j dj:Nat} {b:Bool} {oj:Oper} {a:Act} (hf:Frm n env a) (hj:ops[j]? =some oj) (hdj:oj.dst=some dj) (hb:look env dj=some (.bool b)) :yielded ops a.tmps j=some b:=by
 have:=hf.get _ _ hb
 simp only [yielded,hj,hdj,Option.bind_some]
 rw [Array.getD_eq_getD_getElem?] at this
 cases h':a.tmps[dj]? with
 | none=>rw [h'] at this;simp [undef] at this
 | some u=>rw [h'] at this;simp at this;subst this;simp
theorem JO (hsub:∀w,St w0 Rs w→St w0 Rs0 w) (h:At n env w0 Rs K) :At n env w0 Rs (fun a w=>St w0 Rs0 w∧K a w) :=fun a w hf hs=>⟨hsub w hs,h a w hf hs⟩
theorem St.add' {w:World} {r:Res} (h:St w0 Rs w) (hP:r.P w) (hlow:∀b,r.F b→w0.mine b) (hap:∀(i:Nat) (s:Res),Rs[i]? =some s→∀b,r.F b→¬s.F b) (hB:r.B=0) :St w0 (Rs++ [r]) w:=by
 have hget:∀(i:Nat) (s:Res),(Rs++ [r])[i]? =some s→(i=Rs.length∧s=r)∨(i≠Rs.length∧Rs[i]? =some s) :=by
  intro i s hi
  rcases jjk i Rs.length with hlt | hge
  ·rw [List.getElem?_append_left hlt] at hi
   exact .inr ⟨by omega,hi⟩
  ·rw [List.getElem?_append_right hge] at hi
   have:i- Rs.length=0:=by
    rcases jjk 0 (i- Rs.length) with h0 | h0
    ·rw [List.getElem?_eq_none (by simp only [jjW];omega)] at hi;cases hi
    ·omega
   rw [this] at hi
   exact .inl ⟨by omega,by simpa using hi.symm⟩
 refine⟨h.over,fun i s hi=> ?_,fun i j s t hij hi hj b hs ht=> ?_⟩
 ·rcases hget i s hi with⟨_,rfl⟩ |⟨_,hi'⟩
  ·exact⟨hP,hlow,by rw [hB];exact jii _,fun _ _=>by rw [hB];exact jii _⟩
  ·exact h.all i s hi'
 ·rcases hget i s hi with⟨e1,rfl⟩ |⟨_,hi'⟩
  ·rcases hget j t hj with⟨e2,rfl⟩ |⟨_,hj'⟩
   ·exact hij (e1.trans e2.symm)
   ·exact hap j t hj' b hs ht
  ·rcases hget j t hj with⟨_,rfl⟩ |⟨_,hj'⟩
   ·exact hap i s hi' b ht hs
   ·exact h.apart i j s t hij hi' hj' b hs ht
theorem Q7 {T s:Nat} (h:At n env w0 (Rs++ [.row w0.N T s (.slice none 0 0) 0 []]) K) :At n env w0 Rs K:=fun a w hf hs=>
 h a w hf (hs.add (Over.refl _) (World.ownsRow_nil _ _ _ _) (fun b hb=>by simp [Res.row,Value.ownBlock] at hb) ⟨jii _,fun _ _=>jii _⟩)
theorem EY {x y:Operand} {T U s bytes k B0 m c d nn:Nat} {z v:Value} {ad:Addr} {xs news:List Value} (ho:o.op= .call {callee:= .builtin .append,args:= #[x,y],argTypes:= #[T,T]}) (hT:TyL P T U s) (hZ:TyZ P U s bytes z) (hs0:0<s) (hd:o.dst=some d) (hn:d<n)
  (hx:ev env x=some v) (hy:ev env y=some (.slice (some ad) m c)) (hk:Rs[k]? =some (.row B0 U s v nn xs)) (hl:news.length=m*s) (hnews:∀w,St w0 Rs w→∀j u,news[j]? =some u→w.cell? (ad.add j) =some u) (h1:∀u∈news,u.oneCell'=true)
  (h63:nn+m≤maxLen) (hbytes: (nn+m) *bytes≤140737488355328) (hB:B0≤w0.N)
  (h:∀v',At n ((d,v') ::env) w0 (Rs.set k (.row B0 U s v' (nn+m) (xs++news))) K) :At n env w0 Rs (fun a w=>o.wp P a w K Q) :=fun a w hf hs=>by
 obtain ⟨i,hi,hz0,hz1,hz2⟩ :=hZ.info
 have hown:w.ownsRow B0 U s v nn xs:= (hs.all k _ hk).1
 obtain ⟨v',w',hr,h2,h3,_,h5⟩ :=run_append_own_at (P:=P) w B0 T o.type U i z s bytes hT.desc hi hz0 hz1 hz2 hZ.cells hs0 v nn xs hown ad m c news hl (hnews w hs) h1 h63 hbytes (jjb hB hs.over.size)
 have hrun: (execOp a.eval o).run P w= .ok (.value v') w':=by
  unfold execOp
  simp only [ho,resolve,invoke,builtin,Sem.run_bind,Sem.run_pure,Result.andThen_ok,jiD,jiA,jiM,hf.ev hx,hf.ev hy,hr]
 show o.upon P a K Q ((execOp a.eval o).run P w)
 rw [hrun,Oper.upon_value,hd]
 refine h v' _ w' (hf.put hn v') ?_
 have hlow:= (hs.all k _ hk).2.1
 refine hs.upd hk ⟨h3.os.trans hs.over.os,h3.tape.trans hs.over.tape,h3.output.trans hs.over.output,jjb hs.over.size h3.size,fun c hc hx=> ?_⟩ h3.size (fun b hb hne=>h3.block b hb (fun e=>hne e.symm)) h2 (fun b hb=> ?_) J
 ·rw [h3.block c (jiu hc hs.over.size) (fun e=> (hlow c e.symm).elim (fun h1=>by omega) (fun h1=>hx h1))]
  exact hs.over.block c hc hx
 rcases h5 with h5 | h5
 ·left
  have hb':v'.ownBlock=some b:=hb
  rw [h5] at hb'
  exact hb'
 ·right
  have hb':v'.ownBlock=some b:=hb
  rw [h5] at hb'
  injection hb' with hb'
  omega
end
end Go.Proofs.YtpncbbcmoiiipaaGreat
