import Derived.Test.YtpncbbcmoiiipaaMSw
set_option linter.unusedVariables false
set_option linter.unusedSimpArgs false
namespace Go.Proofs.Ytpncbbcmoiiipaa
open Go Go.RowKit
theorem w6:∀(vs a cs c:List Value),cs.length=vs.length→qi (a++cs++c) a.length vs=a++vs++c
 | [],a,cs,c,h=>by
  have:cs= [] :=Fd (by simpa using h)
  subst this
  rfl
 | v::r,a,[],c,h=>by simp at h
 | v::r,a,x::cs,c,h=>by
  have e: (a++x::cs++c).set a.length v= (a++ [v]) ++cs++c:=by
   rw [DN,FP _ _ (DM _),Nat.sub_self]
   simp
  rw [qi,e]
  have:=w6 r (a++ [v]) cs c (by simpa using h)
  rw [DK] at this
  rw [show a.length+1=a.length+ [v].length from rfl,this]
  simp
theorem xT (vs cs:List Value) (h:cs.length=vs.length) :qi cs 0 vs=vs:=by
 have:=w6 vs [] cs [] h
 simpa using this
section
variable {P:Program} {n:Nat} {env:List (Nat×Value)} {w0:Bs} {Rs:List Res} {ops:Array Oper} {Q:Exit→Act→World→Prop} {K:Act→World→Prop} {o:Oper}
theorem jq {T U m:Nat} {x y:Operand} {k b:Nat} {cs vs:List Value} {v:Value} (ho:o.op= .store T x y) (hd:o.dst=none) (hx:ev env x=some (.pointer (some ⟨b,0,none⟩))) (hy:ev env y=some v) (hv:v.cells=vs.toArray) (h1:vs.all (·.oneCell') =true)
  (hz: (P.info? T).map (·.size) =some m) (hm:vs.length=m) (hk:Rs[k]? =some (.cel b U cs)) (hl:cs.length=m) (h:At n env w0 (Rs.set k (.cel b U vs)) K) :At n env w0 Rs (fun a w=>o.wp P a w K Q) :=
 qZ ho hd hx hy hv h1 hz hm hk Om (by rw [xT vs cs Om];exact h)
theorem j9 {T U m:Nat} {x y:Operand} {b:Nat} {cs vs:List Value} {v:Value} (k:Nat) (hz: (P.info? T).map (·.size) =some m) (h:At n env w0 (Rs.set k (.cel b U vs)) K) (ho:o.op= .store T x y:=by exact rfl) (hd:o.dst=none:=by exact rfl) (hx:ev env x=some (.pointer (some ⟨b,0,none⟩)) :=by exact rfl) (hy:ev env y=some v:=by exact rfl) (hv:v.cells=vs.toArray:=by exact rfl) (h1:vs.all (·.oneCell') =true:=by rfl) (hm:vs.length=m:=by exact rfl) (hk:Rs[k]? =some (.cel b U cs) :=by exact rfl) (hl:cs.length=m:=by exact rfl) :At n env w0 Rs (fun a w=>o.wp P a w K Q) :=jq ho hd hx hy hv h1 hz hm hk hl h
theorem U0 {T U:Nat} {x y:Operand} {k b:Nat} {c0 c1 v0 v:Value} (ho:o.op= .store T x y) (hd:o.dst=none) (hx:ev env x=some (.pointer (some ⟨b,1,none⟩))) (hy:ev env y=some v) (hv:v.cells= #[v0]) (h1: [v0].all (·.oneCell') =true) (hz: (P.info? T).map (·.size) =some 1) (hk:Rs[k]? =some (.cel b U [c0,c1])) (h:At n env w0 (Rs.set k (.cel b U [c0,v0])) K) :At n env w0 Rs (fun a w=>o.wp P a w K Q) :=qZ (off:=1) (vs:= [v0]) ho hd hx hy hv h1 hz rfl hk (lb rfl) h
theorem VQ {T U:Nat} {x y:Operand} {k b:Nat} {c0 c1 c2 v0 v:Value} (ho:o.op= .store T x y) (hd:o.dst=none) (hx:ev env x=some (.pointer (some ⟨b,1,none⟩))) (hy:ev env y=some v) (hv:v.cells= #[v0]) (h1: [v0].all (·.oneCell') =true) (hz: (P.info? T).map (·.size) =some 1) (hk:Rs[k]? =some (.cel b U [c0,c1,c2])) (h:At n env w0 (Rs.set k (.cel b U [c0,v0,c2])) K) :At n env w0 Rs (fun a w=>o.wp P a w K Q) :=qZ (off:=1) (vs:= [v0]) ho hd hx hy hv h1 hz rfl hk (lb rfl) h
theorem VR {T U:Nat} {x y:Operand} {k b:Nat} {c0 c1 c2 v0 v:Value} (ho:o.op= .store T x y) (hd:o.dst=none) (hx:ev env x=some (.pointer (some ⟨b,2,none⟩))) (hy:ev env y=some v) (hv:v.cells= #[v0]) (h1: [v0].all (·.oneCell') =true) (hz: (P.info? T).map (·.size) =some 1) (hk:Rs[k]? =some (.cel b U [c0,c1,c2])) (h:At n env w0 (Rs.set k (.cel b U [c0,c1,v0])) K) :At n env w0 Rs (fun a w=>o.wp P a w K Q) :=qZ (off:=2) (vs:= [v0]) ho hd hx hy hv h1 hz rfl hk (lb rfl) h
theorem U1 {T U:Nat} {x y:Operand} {k b:Nat} {c0 c1 c2 c3 c4 c5 v0 v1 v2 v:Value} (ho:o.op= .store T x y) (hd:o.dst=none) (hx:ev env x=some (.pointer (some ⟨b,0,none⟩))) (hy:ev env y=some v) (hv:v.cells= #[v0,v1,v2]) (h1: [v0,v1,v2].all (·.oneCell') =true) (hz: (P.info? T).map (·.size) =some 3) (hk:Rs[k]? =some (.cel b U [c0,c1,c2,c3,c4,c5])) (h:At n env w0 (Rs.set k (.cel b U [v0,v1,v2,c3,c4,c5])) K) :At n env w0 Rs (fun a w=>o.wp P a w K Q) :=qZ (off:=0) (vs:= [v0,v1,v2]) ho hd hx hy hv h1 hz rfl hk (lb rfl) h
theorem U2 {T U:Nat} {x y:Operand} {k b:Nat} {c0 c1 c2 c3 c4 c5 v0 v1 v2 v:Value} (ho:o.op= .store T x y) (hd:o.dst=none) (hx:ev env x=some (.pointer (some ⟨b,3,none⟩))) (hy:ev env y=some v) (hv:v.cells= #[v0,v1,v2]) (h1: [v0,v1,v2].all (·.oneCell') =true) (hz: (P.info? T).map (·.size) =some 3) (hk:Rs[k]? =some (.cel b U [c0,c1,c2,c3,c4,c5])) (h:At n env w0 (Rs.set k (.cel b U [c0,c1,c2,v0,v1,v2])) K) :At n env w0 Rs (fun a w=>o.wp P a w K Q) :=qZ (off:=3) (vs:= [v0,v1,v2]) ho hd hx hy hv h1 hz rfl hk (lb rfl) h
theorem U3 {T U:Nat} {x y:Operand} {k b:Nat} {c0 c1 c2 c3 c4 c5 c6 c7 v0 v1 v:Value} (ho:o.op= .store T x y) (hd:o.dst=none) (hx:ev env x=some (.pointer (some ⟨b,4,none⟩))) (hy:ev env y=some v) (hv:v.cells= #[v0,v1]) (h1: [v0,v1].all (·.oneCell') =true) (hz: (P.info? T).map (·.size) =some 2) (hk:Rs[k]? =some (.cel b U [c0,c1,c2,c3,c4,c5,c6,c7])) (h:At n env w0 (Rs.set k (.cel b U [c0,c1,c2,c3,v0,v1,c6,c7])) K) :At n env w0 Rs (fun a w=>o.wp P a w K Q) :=qZ (off:=4) (vs:= [v0,v1]) ho hd hx hy hv h1 hz rfl hk (lb rfl) h
end
end Go.Proofs.Ytpncbbcmoiiipaa
