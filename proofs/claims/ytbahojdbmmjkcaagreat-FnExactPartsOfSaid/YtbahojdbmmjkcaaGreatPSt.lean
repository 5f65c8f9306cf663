import Derived.Test.YtbahojdbmmjkcaaGreatPSz
set_option linter.unusedVariables false
set_option linter.unusedSimpArgs false
namespace Go.Proofs.YtbahojdbmmjkcaaGreat
open Go Go.RowKit
variable {T U b k:Nat} {c0 c1 c2 c3 c4 c5 v v0 v1:Value} {cs vs:List Value} {x y:Operand}
theorem uZ:∀(vs a cs c:List Value),cs.length=vs.length→qB (a++cs++c) a.length vs=a++vs++c
 | [],a,cs,c,h=>by
  have:cs= [] :=jgX (by simpa using h)
  subst this
  rfl
 | v::r,a,[],c,h=>by simp at h
 | v::r,a,x::cs,c,h=>by
  have e: (a++x::cs++c).set a.length v= (a++ [v]) ++cs++c:=by
   rw [jgB,jhF _ _ (jgx _),Nat.sub_self]
   simp
  rw [qB,e]
  have:=uZ r (a++ [v]) cs c (by simpa using h)
  rw [jgv] at this
  rw [show a.length+1=a.length+ [v].length from rfl,this]
  simp
theorem TD (vs cs:List Value) (h:cs.length=vs.length) :qB cs 0 vs=vs:=by
 have:=uZ vs [] cs [] h
 simpa using this
section
variable {P:Program} {n:Nat} {env:List (Nat×Value)} {w0:Bs} {Rs:List Res} {ops:Array Oper} {Q:Exit→Act→World→Prop} {K:Act→World→Prop} {o:Oper}
theorem jo {m:Nat} (ho:o.op= .store T x y) (hd:o.dst=none) (hx:ev env x=some (.pointer (some ⟨b,0,none⟩))) (hy:ev env y=some v) (hv:v.cells=vs.toArray) (h1:vs.all (·.oneCell') =true) (hz: (P.info? T).map (·.size) =some m) (hm:vs.length=m) (hk:Rs[k]? =some (.cel b U cs)) (hl:cs.length=m) (h:At n env w0 (Rs.set k (.cel b U vs)) K) :At n env w0 Rs (fun a w=>o.wp P a w K Q) :=
 qt ho hd hx hy hv h1 hz hm hk Om (by rw [TD vs cs Om];exact h)
theorem j9 {m:Nat} (k:Nat) (hz: (P.info? T).map (·.size) =some m) (h:At n env w0 (Rs.set k (.cel b U vs)) K) (ho:o.op= .store T x y:=by exact rfl) (hd:o.dst=none:=by exact rfl) (hx:ev env x=some (.pointer (some ⟨b,0,none⟩)) :=by exact rfl) (hy:ev env y=some v:=by exact rfl) (hv:v.cells=vs.toArray:=by exact rfl) (h1:vs.all (·.oneCell') =true:=by rfl) (hm:vs.length=m:=by exact rfl) (hk:Rs[k]? =some (.cel b U cs) :=by exact rfl) (hl:cs.length=m:=by exact rfl) :At n env w0 Rs (fun a w=>o.wp P a w K Q) :=jo ho hd hx hy hv h1 hz hm hk hl h
theorem Ms (ho:o.op= .store T x y) (hd:o.dst=none) (hx:ev env x=some (.pointer (some ⟨b,0,none⟩))) (hy:ev env y=some v) (hv:v.cells= #[v0,v1]) (h1: [v0,v1].all (·.oneCell') =true) (hz: (P.info? T).map (·.size) =some 2) (hk:Rs[k]? =some (.cel b U [c0,c1,c2,c3])) (h:At n env w0 (Rs.set k (.cel b U [v0,v1,c2,c3])) K) :At n env w0 Rs (fun a w=>o.wp P a w K Q) :=qt (off:=0) (vs:= [v0,v1]) ho hd hx hy hv h1 hz rfl hk (lb rfl) h
theorem Mt (ho:o.op= .store T x y) (hd:o.dst=none) (hx:ev env x=some (.pointer (some ⟨b,2,none⟩))) (hy:ev env y=some v) (hv:v.cells= #[v0,v1]) (h1: [v0,v1].all (·.oneCell') =true) (hz: (P.info? T).map (·.size) =some 2) (hk:Rs[k]? =some (.cel b U [c0,c1,c2,c3])) (h:At n env w0 (Rs.set k (.cel b U [c0,c1,v0,v1])) K) :At n env w0 Rs (fun a w=>o.wp P a w K Q) :=qt (off:=2) (vs:= [v0,v1]) ho hd hx hy hv h1 hz rfl hk (lb rfl) h
theorem Mu (ho:o.op= .store T x y) (hd:o.dst=none) (hx:ev env x=some (.pointer (some ⟨b,0,none⟩))) (hy:ev env y=some v) (hv:v.cells= #[v0]) (h1: [v0].all (·.oneCell') =true) (hz: (P.info? T).map (·.size) =some 1) (hk:Rs[k]? =some (.cel b U [c0,c1,c2,c3,c4,c5])) (h:At n env w0 (Rs.set k (.cel b U [v0,c1,c2,c3,c4,c5])) K) :At n env w0 Rs (fun a w=>o.wp P a w K Q) :=qt (off:=0) (vs:= [v0]) ho hd hx hy hv h1 hz rfl hk (lb rfl) h
theorem Mw (ho:o.op= .store T x y) (hd:o.dst=none) (hx:ev env x=some (.pointer (some ⟨b,1,none⟩))) (hy:ev env y=some v) (hv:v.cells= #[v0]) (h1: [v0].all (·.oneCell') =true) (hz: (P.info? T).map (·.size) =some 1) (hk:Rs[k]? =some (.cel b U [c0,c1,c2,c3,c4,c5])) (h:At n env w0 (Rs.set k (.cel b U [c0,v0,c2,c3,c4,c5])) K) :At n env w0 Rs (fun a w=>o.wp P a w K Q) :=qt (off:=1) (vs:= [v0]) ho hd hx hy hv h1 hz rfl hk (lb rfl) h
theorem Mx (ho:o.op= .store T x y) (hd:o.dst=none) (hx:ev env x=some (.pointer (some ⟨b,2,none⟩))) (hy:ev env y=some v) (hv:v.cells= #[v0]) (h1: [v0].all (·.oneCell') =true) (hz: (P.info? T).map (·.size) =some 1) (hk:Rs[k]? =some (.cel b U [c0,c1,c2,c3,c4,c5])) (h:At n env w0 (Rs.set k (.cel b U [c0,c1,v0,c3,c4,c5])) K) :At n env w0 Rs (fun a w=>o.wp P a w K Q) :=qt (off:=2) (vs:= [v0]) ho hd hx hy hv h1 hz rfl hk (lb rfl) h
theorem My (ho:o.op= .store T x y) (hd:o.dst=none) (hx:ev env x=some (.pointer (some ⟨b,3,none⟩))) (hy:ev env y=some v) (hv:v.cells= #[v0]) (h1: [v0].all (·.oneCell') =true) (hz: (P.info? T).map (·.size) =some 1) (hk:Rs[k]? =some (.cel b U [c0,c1,c2,c3,c4,c5])) (h:At n env w0 (Rs.set k (.cel b U [c0,c1,c2,v0,c4,c5])) K) :At n env w0 Rs (fun a w=>o.wp P a w K Q) :=qt (off:=3) (vs:= [v0]) ho hd hx hy hv h1 hz rfl hk (lb rfl) h
theorem MA (ho:o.op= .store T x y) (hd:o.dst=none) (hx:ev env x=some (.pointer (some ⟨b,4,none⟩))) (hy:ev env y=some v) (hv:v.cells= #[v0]) (h1: [v0].all (·.oneCell') =true) (hz: (P.info? T).map (·.size) =some 1) (hk:Rs[k]? =some (.cel b U [c0,c1,c2,c3,c4,c5])) (h:At n env w0 (Rs.set k (.cel b U [c0,c1,c2,c3,v0,c5])) K) :At n env w0 Rs (fun a w=>o.wp P a w K Q) :=qt (off:=4) (vs:= [v0]) ho hd hx hy hv h1 hz rfl hk (lb rfl) h
theorem MB (ho:o.op= .store T x y) (hd:o.dst=none) (hx:ev env x=some (.pointer (some ⟨b,5,none⟩))) (hy:ev env y=some v) (hv:v.cells= #[v0]) (h1: [v0].all (·.oneCell') =true) (hz: (P.info? T).map (·.size) =some 1) (hk:Rs[k]? =some (.cel b U [c0,c1,c2,c3,c4,c5])) (h:At n env w0 (Rs.set k (.cel b U [c0,c1,c2,c3,c4,v0])) K) :At n env w0 Rs (fun a w=>o.wp P a w K Q) :=qt (off:=5) (vs:= [v0]) ho hd hx hy hv h1 hz rfl hk (lb rfl) h
theorem Mv {v2:Value} (ho:o.op= .store T x y) (hd:o.dst=none) (hx:ev env x=some (.pointer (some ⟨b,0,none⟩))) (hy:ev env y=some v) (hv:v.cells= #[v0,v1,v2]) (h1: [v0,v1,v2].all (·.oneCell') =true) (hz: (P.info? T).map (·.size) =some 3) (hk:Rs[k]? =some (.cel b U [c0,c1,c2,c3,c4,c5])) (h:At n env w0 (Rs.set k (.cel b U [v0,v1,v2,c3,c4,c5])) K) :At n env w0 Rs (fun a w=>o.wp P a w K Q) :=qt (off:=0) (vs:= [v0,v1,v2]) ho hd hx hy hv h1 hz rfl hk (lb rfl) h
theorem Mz {v2:Value} (ho:o.op= .store T x y) (hd:o.dst=none) (hx:ev env x=some (.pointer (some ⟨b,3,none⟩))) (hy:ev env y=some v) (hv:v.cells= #[v0,v1,v2]) (h1: [v0,v1,v2].all (·.oneCell') =true) (hz: (P.info? T).map (·.size) =some 3) (hk:Rs[k]? =some (.cel b U [c0,c1,c2,c3,c4,c5])) (h:At n env w0 (Rs.set k (.cel b U [c0,c1,c2,v0,v1,v2])) K) :At n env w0 Rs (fun a w=>o.wp P a w K Q) :=qt (off:=3) (vs:= [v0,v1,v2]) ho hd hx hy hv h1 hz rfl hk (lb rfl) h
theorem Y5 {c6:Value} (ho:o.op= .store T x y) (hd:o.dst=none) (hx:ev env x=some (.pointer (some ⟨b,4,none⟩))) (hy:ev env y=some v) (hv:v.cells= #[v0]) (h1: [v0].all (·.oneCell') =true) (hz: (P.info? T).map (·.size) =some 1) (hk:Rs[k]? =some (.cel b U [c0,c1,c2,c3,c4,c5,c6])) (h:At n env w0 (Rs.set k (.cel b U [c0,c1,c2,c3,v0,c5,c6])) K) :At n env w0 Rs (fun a w=>o.wp P a w K Q) :=qt (off:=4) (vs:= [v0]) ho hd hx hy hv h1 hz rfl hk (lb rfl) h
theorem Y6 {c6:Value} (ho:o.op= .store T x y) (hd:o.dst=none) (hx:ev env x=some (.pointer (some ⟨b,5,none⟩))) (hy:ev env y=some v) (hv:v.cells= #[v0]) (h1: [v0].all (·.oneCell') =true) (hz: (P.info? T).map (·.size) =some 1) (hk:Rs[k]? =some (.cel b U [c0,c1,c2,c3,c4,c5,c6])) (h:At n env w0 (Rs.set k (.cel b U [c0,c1,c2,c3,c4,v0,c6])) K) :At n env w0 Rs (fun a w=>o.wp P a w K Q) :=qt (off:=5) (vs:= [v0]) ho hd hx hy hv h1 hz rfl hk (lb rfl) h
theorem Y7 {c6:Value} (ho:o.op= .store T x y) (hd:o.dst=none) (hx:ev env x=some (.pointer (some ⟨b,6,none⟩))) (hy:ev env y=some v) (hv:v.cells= #[v0]) (h1: [v0].all (·.oneCell') =true) (hz: (P.info? T).map (·.size) =some 1) (hk:Rs[k]? =some (.cel b U [c0,c1,c2,c3,c4,c5,c6])) (h:At n env w0 (Rs.set k (.cel b U [c0,c1,c2,c3,c4,c5,v0])) K) :At n env w0 Rs (fun a w=>o.wp P a w K Q) :=qt (off:=6) (vs:= [v0]) ho hd hx hy hv h1 hz rfl hk (lb rfl) h
end
end Go.Proofs.YtbahojdbmmjkcaaGreat
