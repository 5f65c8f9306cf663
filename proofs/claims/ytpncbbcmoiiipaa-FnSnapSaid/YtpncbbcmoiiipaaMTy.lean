import Derived.Test.YtpncbbcmoiiipaaMSv
set_option linter.unusedVariables false
set_option linter.unusedSimpArgs false
namespace Go.Proofs.Ytpncbbcmoiiipaa
open Go Go.RowKit
set_option maxRecDepth 100000
theorem Kz {P:Program} {T m k:Nat} {z:Value} (h: (P.info? T).map (fun i=> (i.zero,i.size,i.bytes)) =some (some z,m,k)) (hc:z.cells.size=m) :TyZ P T m k z:=by
 cases hi:P.info? T with
 | none=>simp [hi] at h
 | some i=>
  simp only [hi,Option.map_some,Option.some.injEq,Prod.mk.injEq] at h
  exact⟨⟨i,hi,h.1,h.2.1,h.2.2⟩,hc⟩
theorem jC:Ty1 Try.prog 2:=⟨⟨_,Try.underlying2,rfl⟩,by kernel_rfl⟩
theorem G2:TyZ Try.prog 2 1 8 (.int .i64 0) :=Kz Kr rfl
theorem wl:Ty1 Try.prog 3:=⟨⟨_,Try.underlying3,rfl⟩,by kernel_rfl⟩
theorem X7:TyZ Try.prog 3 1 8 (.int .i64 0) :=Kz Kr rfl
theorem kx:Ty1 Try.prog 4:=⟨⟨_,Try.underlying4,rfl⟩,by kernel_rfl⟩
theorem G1:Ty1 Try.prog 5:=⟨⟨_,Try.underlying5,rfl⟩,by kernel_rfl⟩
theorem KJ:Ty1 Try.prog 22:=⟨⟨_,Try.underlying22,rfl⟩,by kernel_rfl⟩
theorem kY:TyL Try.prog 22 5 1:=⟨Try.underlying22,by kernel_rfl⟩
theorem JC:Ty1 Try.prog 23:=⟨⟨_,Try.underlying23,rfl⟩,by kernel_rfl⟩
theorem Jl:TyL Try.prog 23 38 1:=⟨Try.underlying23,by kernel_rfl⟩
theorem kj:TyZ Try.prog 23 1 24 (.slice none 0 0) :=Kz Kr rfl
theorem jL:TyS Try.prog 25 1:=⟨⟨_,Try.underlying25,rfl⟩,by kernel_rfl⟩
theorem Jm:TyF Try.prog 25 0 0:=⟨_,_,Try.underlying25,rfl,rfl,0,by kernel_rfl⟩
theorem jR:TyZ Try.prog 25 1 24 (.agg #[.slice none 0 0]) :=Kz Kr rfl
theorem jh:TyS Try.prog 27 2:=⟨⟨_,Try.underlying27,rfl⟩,by kernel_rfl⟩
theorem jV:TyF Try.prog 27 0 0:=⟨_,_,Try.underlying27,rfl,rfl,0,by kernel_rfl⟩
theorem jM:TyF Try.prog 27 1 1:=⟨_,_,Try.underlying27,rfl,rfl,0,by kernel_rfl⟩
theorem jJ:TyZ Try.prog 27 2 16 (.agg #[.int .i64 0, .int .i64 0]) :=Kz Kr rfl
theorem JN:Ty1 Try.prog 30:=⟨⟨_,Try.underlying30,rfl⟩,by kernel_rfl⟩
theorem js:TyL Try.prog 30 27 2:=⟨Try.underlying30,by kernel_rfl⟩
theorem VX:TyZ Try.prog 30 1 24 (.slice none 0 0) :=Kz Kr rfl
theorem qg:TyS Try.prog 38 1:=⟨⟨_,Try.underlying38,rfl⟩,by kernel_rfl⟩
theorem JA:TyF Try.prog 38 0 0:=⟨_,_,Try.underlying38,rfl,rfl,0,by kernel_rfl⟩
theorem JD:TyZ Try.prog 38 1 24 (.agg #[.slice none 0 0]) :=Kz Kr rfl
theorem JG:TyL Try.prog 48 54 4:=⟨Try.underlying48,by kernel_rfl⟩
theorem Qa:TyS Try.prog 54 4:=⟨⟨_,Try.underlying54,rfl⟩,by kernel_rfl⟩
theorem JV:TyF Try.prog 54 0 0:=⟨_,_,Try.underlying54,rfl,rfl,1,by kernel_rfl⟩
theorem JW:TyF Try.prog 54 1 2:=⟨_,_,Try.underlying54,rfl,rfl,1,by kernel_rfl⟩
theorem qJ:TyZ Try.prog 54 4 32 (.agg #[.int .i64 0, .int .i64 0, .int .i64 0, .int .i64 0]) :=Kz Kr rfl
theorem qz:TyL Try.prog 56 85 4:=⟨Try.underlying56,by kernel_rfl⟩
theorem Vm:Ty1 Try.prog 64:=⟨⟨_,Try.underlying64,rfl⟩,by kernel_rfl⟩
theorem yn:TyZ Try.prog 64 1 8 (.int .u64 0) :=Kz Kr rfl
theorem Q4:TyF Try.prog 66 0 0:=⟨_,_,Try.underlying66,rfl,rfl,0,by kernel_rfl⟩
theorem ql:TyF Try.prog 66 1 1:=⟨_,_,Try.underlying66,rfl,rfl,0,by kernel_rfl⟩
theorem qW:TyF Try.prog 66 2 2:=⟨_,_,Try.underlying66,rfl,rfl,0,by kernel_rfl⟩
theorem K4:TyF Try.prog 85 0 0:=⟨_,_,Try.underlying85,rfl,rfl,1,by kernel_rfl⟩
theorem K5:TyF Try.prog 85 1 2:=⟨_,_,Try.underlying85,rfl,rfl,1,by kernel_rfl⟩
theorem WN:TyL Try.prog 88 2 1:=⟨Try.underlying88,by kernel_rfl⟩
theorem jz:TyL Try.prog 102 110 5:=⟨Try.underlying102,by kernel_rfl⟩
theorem qe:TyS Try.prog 104 3:=⟨⟨_,Try.underlying104,rfl⟩,by kernel_rfl⟩
theorem vP:TyF Try.prog 104 0 0:=⟨_,_,Try.underlying104,rfl,rfl,0,by kernel_rfl⟩
theorem vQ:TyF Try.prog 104 1 1:=⟨_,_,Try.underlying104,rfl,rfl,0,by kernel_rfl⟩
theorem J5:TyF Try.prog 104 2 2:=⟨_,_,Try.underlying104,rfl,rfl,0,by kernel_rfl⟩
theorem qQ:TyZ Try.prog 104 3 24 (.agg #[.int .i64 0, .int .i64 0, .bool false]) :=Kz Kr rfl
theorem QT:TyS Try.prog 106 6:=⟨⟨_,Try.underlying106,rfl⟩,by kernel_rfl⟩
theorem qP:TyF Try.prog 106 0 0:=⟨_,_,Try.underlying106,rfl,rfl,2,by kernel_rfl⟩
theorem Qr:TyF Try.prog 106 1 3:=⟨_,_,Try.underlying106,rfl,rfl,2,by kernel_rfl⟩
theorem qq:TyZ Try.prog 106 6 48 (.agg #[.int .i64 0, .int .i64 0, .bool false, .int .i64 0, .int .i64 0, .bool false]) :=Kz Kr rfl
theorem Jr:TyS Try.prog 110 5:=⟨⟨_,Try.underlying110,rfl⟩,by kernel_rfl⟩
theorem wv:TyF Try.prog 110 0 0:=⟨_,_,Try.underlying110,rfl,rfl,1,by kernel_rfl⟩
theorem J7:TyF Try.prog 110 1 2:=⟨_,_,Try.underlying110,rfl,rfl,2,by kernel_rfl⟩
theorem JO:TyZ Try.prog 110 5 40 (.agg #[.int .i64 0, .int .i64 0, .int .i64 0, .int .i64 0, .bool false]) :=Kz Kr rfl
theorem uf:FnOk Try.prog 4:=⟨_,Try.func4,by kernel_rfl,rfl⟩
theorem WB:FnOk Try.prog 5:=⟨_,Try.func5,by kernel_rfl,rfl⟩
theorem KR:FnOk Try.prog 6:=⟨_,Try.func6,by kernel_rfl,rfl⟩
theorem wQ:FnOk Try.prog 7:=⟨_,Try.func7,by kernel_rfl,rfl⟩
theorem WC:FnOk Try.prog 8:=⟨_,Try.func8,by kernel_rfl,rfl⟩
theorem vf:FnOk Try.prog 9:=⟨_,Try.func9,by kernel_rfl,rfl⟩
theorem UX:FnOk Try.prog 10:=⟨_,Try.func10,by kernel_rfl,rfl⟩
theorem uT:FnOk Try.prog 11:=⟨_,Try.func11,by kernel_rfl,rfl⟩
theorem uX:FnOk Try.prog 12:=⟨_,Try.func12,by kernel_rfl,rfl⟩
theorem Js:FnOk Try.prog 13:=⟨_,Try.func13,by kernel_rfl,rfl⟩
theorem Qz:FnOk Try.prog 14:=⟨_,Try.func14,by kernel_rfl,rfl⟩
theorem ve:FnOk Try.prog 15:=⟨_,Try.func15,by kernel_rfl,rfl⟩
theorem Kx:FnOk Try.prog 16:=⟨_,Try.func16,by kernel_rfl,rfl⟩
theorem wq:FnOk Try.prog 17:=⟨_,Try.func17,by kernel_rfl,rfl⟩
theorem wP:FnOk Try.prog 18:=⟨_,Try.func18,by kernel_rfl,rfl⟩
theorem wt:FnOk Try.prog 20:=⟨_,Try.func20,by kernel_rfl,rfl⟩
theorem UZ:FnOk Try.prog 21:=⟨_,Try.func21,by kernel_rfl,rfl⟩
theorem yJ:FnOk Try.prog 22:=⟨_,Try.func22,by kernel_rfl,rfl⟩
theorem Kk:FnOk Try.prog 23:=⟨_,Try.func23,by kernel_rfl,rfl⟩
theorem uh:FnOk Try.prog 24:=⟨_,Try.func24,by kernel_rfl,rfl⟩
theorem wR:FnOk Try.prog 25:=⟨_,Try.func25,by kernel_rfl,rfl⟩
theorem wu:FnOk Try.prog 26:=⟨_,Try.func26,by kernel_rfl,rfl⟩
theorem Kq:FnOk Try.prog 27:=⟨_,Try.func27,by kernel_rfl,rfl⟩
theorem uW:FnOk Try.prog 28:=⟨_,Try.func28,by kernel_rfl,rfl⟩
theorem Qi:FnOk Try.prog 29:=⟨_,Try.func29,by kernel_rfl,rfl⟩
theorem WD:FnOk Try.prog 30:=⟨_,Try.func30,by kernel_rfl,rfl⟩
theorem KE:FnOk Try.prog 31:=⟨_,Try.func31,by kernel_rfl,rfl⟩
theorem Vq:FnOk Try.prog 32:=⟨_,Try.func32,by kernel_rfl,rfl⟩
theorem uc:FnOk Try.prog 33:=⟨_,Try.func33,by kernel_rfl,rfl⟩
theorem qU:FnOk Try.prog 34:=⟨_,Try.func34,by kernel_rfl,rfl⟩
theorem qY:FnOk Try.prog 36:=⟨_,Try.func36,by kernel_rfl,rfl⟩
theorem ud:FnOk Try.prog 37:=⟨_,Try.func37,by kernel_rfl,rfl⟩
theorem wO:FnOk Try.prog 38:=⟨_,Try.func38,by kernel_rfl,rfl⟩
theorem yH:FnOk Try.prog 41:=⟨_,Try.func41,by kernel_rfl,rfl⟩
theorem yI:FnOk Try.prog 42:=⟨_,Try.func42,by kernel_rfl,rfl⟩
theorem kB:FnOk Try.prog 43:=⟨_,Try.func43,by kernel_rfl,rfl⟩
theorem uV:FnOk Try.prog 44:=⟨_,Try.func44,by kernel_rfl,rfl⟩
theorem Va:FnOk Try.prog 45:=⟨_,Try.func45,by kernel_rfl,rfl⟩
theorem uU:FnOk Try.prog 46:=⟨_,Try.func46,by kernel_rfl,rfl⟩
theorem UW:FnOk Try.prog 47:=⟨_,Try.func47,by kernel_rfl,rfl⟩
theorem qL:FnOk Try.prog 48:=⟨_,Try.func48,by kernel_rfl,rfl⟩
theorem kV:FnOk Try.prog 49:=⟨_,Try.func49,by kernel_rfl,rfl⟩
theorem kU:FnOk Try.prog 50:=⟨_,Try.func50,by kernel_rfl,rfl⟩
theorem Ke:FnOk Try.prog 51:=⟨_,Try.func51,by kernel_rfl,rfl⟩
theorem kT:FnOk Try.prog 52:=⟨_,Try.func52,by kernel_rfl,rfl⟩
theorem Q3:FnOk Try.prog 53:=⟨_,Try.func53,by kernel_rfl,rfl⟩
theorem ub:FnOk Try.prog 57:=⟨_,Try.func57,by kernel_rfl,rfl⟩
theorem Qd:FnOk Try.prog 58:=⟨_,Try.func58,by kernel_rfl,rfl⟩
theorem KS:FnOk Try.prog 59:=⟨_,Try.func59,by kernel_rfl,rfl⟩
theorem WE:FnOk Try.prog 60:=⟨_,Try.func60,by kernel_rfl,rfl⟩
theorem qR:FnOk Try.prog 61:=⟨_,Try.func61,by kernel_rfl,rfl⟩
theorem QP:FnOk Try.prog 62:=⟨_,Try.func62,by kernel_rfl,rfl⟩
theorem Qp:FnOk Try.prog 63:=⟨_,Try.func63,by kernel_rfl,rfl⟩
theorem qv:FnOk Try.prog 64:=⟨_,Try.func64,by kernel_rfl,rfl⟩
theorem VM:FnOk Try.prog 65:=⟨_,Try.func65,by kernel_rfl,rfl⟩
theorem kG:FnOk Try.prog 66:=⟨_,Try.func66,by kernel_rfl,rfl⟩
theorem UY:FnOk Try.prog 68:=⟨_,Try.func68,by kernel_rfl,rfl⟩
theorem kv:FnOk Try.prog 69:=⟨_,Try.func69,by kernel_rfl,rfl⟩
theorem Vr:FnOk Try.prog 70:=⟨_,Try.func70,by kernel_rfl,rfl⟩
theorem vG:FnOk Try.prog 71:=⟨_,Try.func71,by kernel_rfl,rfl⟩
theorem ue:FnOk Try.prog 72:=⟨_,Try.func72,by kernel_rfl,rfl⟩
theorem Q7:FnOk Try.prog 74:=⟨_,Try.func74,by kernel_rfl,rfl⟩
theorem ku:FnOk Try.prog 84:=⟨_,Try.func84,by kernel_rfl,rfl⟩
theorem qV:FnOk Try.prog 85:=⟨_,Try.func85,by kernel_rfl,rfl⟩
theorem VO:FnOk Try.prog 86:=⟨_,Try.func86,by kernel_rfl,rfl⟩
theorem VN:FnOk Try.prog 87:=⟨_,Try.func87,by kernel_rfl,rfl⟩
theorem Vs:FnOk Try.prog 88:=⟨_,Try.func88,by kernel_rfl,rfl⟩
theorem JS:FnOk Try.prog 95:=⟨_,Try.func95,by kernel_rfl,rfl⟩
theorem JL:FnOk Try.prog 96:=⟨_,Try.func96,by kernel_rfl,rfl⟩
theorem kf:FnOk Try.prog 98:=⟨_,Try.func98,by kernel_rfl,rfl⟩
theorem J8:FnOk Try.prog 99:=⟨_,Try.func99,by kernel_rfl,rfl⟩
theorem kb (w:World) : (Instr.build 25 #[]).run Try.prog w= .ok (.agg #[.slice none 0 0]) w:=by
 rw [QY]
 simp only [Fh,Fb,Ft]
 simp [Instr.build,Instr.fill,go_sem]
theorem vU (w:World) : (Instr.build 27 #[]).run Try.prog w= .ok (.agg #[.int .i64 0, .int .i64 0]) w:=by
 rw [QY]
 simp only [Fh,Fb,Ft]
 simp [Instr.build,Instr.fill,go_sem]
theorem yB {v0 a0_0:Value} (h0:v0.cells= #[a0_0]) (w:World) : (Instr.build 27 #[(0,v0)]).run Try.prog w= .ok (.agg #[a0_0, .int .i64 0]) w:=by
 rw [QY]
 simp only [Fh,Fb,Ft,h0]
 simp [Instr.build,Instr.fill,go_sem]
theorem Qm {v0 a0_0:Value} (h0:v0.cells= #[a0_0]) {v1 a1_0:Value} (h1:v1.cells= #[a1_0]) (w:World) : (Instr.build 27 #[(0,v0),(1,v1)]).run Try.prog w= .ok (.agg #[a0_0,a1_0]) w:=by
 rw [QY]
 simp only [Fh,Fb,Ft,h0,h1]
 simp [Instr.build,Instr.fill,go_sem]
theorem UE (w:World) : (Instr.build 38 #[]).run Try.prog w= .ok (.agg #[.slice none 0 0]) w:=by
 rw [QY]
 simp only [Fh,Fb,Ft]
 simp [Instr.build,Instr.fill,go_sem]
theorem Kv {v0 a0_0:Value} (h0:v0.cells= #[a0_0]) (w:World) : (Instr.build 38 #[(0,v0)]).run Try.prog w= .ok (.agg #[a0_0]) w:=by
 rw [QY]
 simp only [Fh,Fb,Ft,h0]
 simp [Instr.build,Instr.fill,go_sem]
theorem Wh {v0 a0_0:Value} (h0:v0.cells= #[a0_0]) (w:World) : (Instr.build 66 #[(0,v0)]).run Try.prog w= .ok (.agg #[a0_0, .int .i64 0, .int .u64 0]) w:=by
 rw [QY]
 simp only [Fh,Fb,Ft,h0]
 simp [Instr.build,Instr.fill,go_sem]
theorem qs {v0 a0_0:Value} (h0:v0.cells= #[a0_0]) {v1 a1_0:Value} (h1:v1.cells= #[a1_0]) {v2 a2_0:Value} (h2:v2.cells= #[a2_0]) (w:World) : (Instr.build 104 #[(0,v0),(1,v1),(2,v2)]).run Try.prog w= .ok (.agg #[a0_0,a1_0,a2_0]) w:=by
 rw [QY]
 simp only [Fh,Fb,Ft,h0,h1,h2]
 simp [Instr.build,Instr.fill,go_sem]
theorem vV {v0 a0_0 a0_1 a0_2:Value} (h0:v0.cells= #[a0_0,a0_1,a0_2]) {v1 a1_0 a1_1 a1_2:Value} (h1:v1.cells= #[a1_0,a1_1,a1_2]) (w:World) : (Instr.build 106 #[(0,v0),(1,v1)]).run Try.prog w= .ok (.agg #[a0_0,a0_1,a0_2,a1_0,a1_1,a1_2]) w:=by
 rw [QY]
 simp only [Fh,Fb,Ft,h0,h1]
 simp [Instr.build,Instr.fill,go_sem]
theorem Vv {v0 a0_0 a0_1:Value} (h0:v0.cells= #[a0_0,a0_1]) {v1 a1_0 a1_1 a1_2:Value} (h1:v1.cells= #[a1_0,a1_1,a1_2]) (w:World) : (Instr.build 110 #[(0,v0),(1,v1)]).run Try.prog w= .ok (.agg #[a0_0,a0_1,a1_0,a1_1,a1_2]) w:=by
 rw [QY]
 simp only [Fh,Fb,Ft,h0,h1]
 simp [Instr.build,Instr.fill,go_sem]
theorem Qo {v0 a0_0:Value} (h0:v0.cells= #[a0_0]) (w:World) : (Instr.buildSlice 23 1 #[(0,v0)]).run Try.prog w= .ok (.slice (some ⟨w.heap.size,0,none⟩) 1 1) (w.alloc (.cells [a0_0].toArray 38)) :=by
 rw [QA]
 simp only [Fh,Fb,Ft,h0]
 simp [Instr.buildSlice,Instr.fill,go_sem]
theorem QL {v0 a0_0 a0_1:Value} (h0:v0.cells= #[a0_0,a0_1]) (w:World) : (Instr.buildSlice 30 1 #[(0,v0)]).run Try.prog w= .ok (.slice (some ⟨w.heap.size,0,none⟩) 1 1) (w.alloc (.cells [a0_0,a0_1].toArray 27)) :=by
 rw [QA]
 simp only [Fh,Fb,Ft,h0]
 simp [Instr.buildSlice,Instr.fill,go_sem]
theorem Km {v0 a0_0 a0_1:Value} (h0:v0.cells= #[a0_0,a0_1]) {v1 a1_0 a1_1:Value} (h1:v1.cells= #[a1_0,a1_1]) (w:World) : (Instr.buildSlice 30 2 #[(0,v0),(1,v1)]).run Try.prog w= .ok (.slice (some ⟨w.heap.size,0,none⟩) 2 2) (w.alloc (.cells [a0_0,a0_1,a1_0,a1_1].toArray 27)) :=by
 rw [QA]
 simp only [Fh,Fb,Ft,h0,h1]
 simp [Instr.buildSlice,Instr.fill,go_sem]
theorem ko {v0 a0_0 a0_1:Value} (h0:v0.cells= #[a0_0,a0_1]) {v1 a1_0 a1_1:Value} (h1:v1.cells= #[a1_0,a1_1]) {v2 a2_0 a2_1:Value} (h2:v2.cells= #[a2_0,a2_1]) {v3 a3_0 a3_1:Value} (h3:v3.cells= #[a3_0,a3_1]) (w:World) : (Instr.buildSlice 30 4 #[(0,v0),(1,v1),(2,v2),(3,v3)]).run Try.prog w= .ok (.slice (some ⟨w.heap.size,0,none⟩) 4 4) (w.alloc (.cells [a0_0,a0_1,a1_0,a1_1,a2_0,a2_1,a3_0,a3_1].toArray 27)) :=by
 rw [QA]
 simp only [Fh,Fb,Ft,h0,h1,h2,h3]
 simp [Instr.buildSlice,Instr.fill,go_sem]
theorem vo {v0 a0_0:Value} (h0:v0.cells= #[a0_0]) {v1 a1_0:Value} (h1:v1.cells= #[a1_0]) {v2 a2_0:Value} (h2:v2.cells= #[a2_0]) {v3 a3_0:Value} (h3:v3.cells= #[a3_0]) {v4 a4_0:Value} (h4:v4.cells= #[a4_0]) (w:World) : (Instr.buildSlice 88 5 #[(0,v0),(1,v1),(2,v2),(3,v3),(4,v4)]).run Try.prog w= .ok (.slice (some ⟨w.heap.size,0,none⟩) 5 5) (w.alloc (.cells [a0_0,a1_0,a2_0,a3_0,a4_0].toArray 2)) :=by
 rw [QA]
 simp only [Fh,Fb,Ft,h0,h1,h2,h3,h4]
 simp [Instr.buildSlice,Instr.fill,go_sem]
theorem vn {v0 a0_0 a0_1 a0_2 a0_3 a0_4:Value} (h0:v0.cells= #[a0_0,a0_1,a0_2,a0_3,a0_4]) (w:World) : (Instr.buildSlice 102 1 #[(0,v0)]).run Try.prog w= .ok (.slice (some ⟨w.heap.size,0,none⟩) 1 1) (w.alloc (.cells [a0_0,a0_1,a0_2,a0_3,a0_4].toArray 110)) :=by
 rw [QA]
 simp only [Fh,Fb,Ft,h0]
 simp [Instr.buildSlice,Instr.fill,go_sem]
theorem qf {o:Oper} {n:Nat} {env:List (Nat×Value)} {w0:Bs} {Rs:List Res} {x y:Operand} {T':TypeId} {a0 a1 b0 b1:Int} (ho:o.op= .binOp .eql 27 x y T') (hx:ev env x=some (.agg #[.int .i64 a0, .int .i64 a1])) (hy:ev env y=some (.agg #[.int .i64 b0, .int .i64 b1])) :Qt Try.prog o n env w0 Rs (.bool ((a0==b0) && (a1==b1))) :=
 qI fun a w hF _=>by
  unfold execOp;simp only [ho,hF.ev hx,hF.ev hy]
  cases h0: (a0==b0);all_goals cases h1: (a1==b1)
  all_goals simp [go_sem, *]
theorem Ky {o:Oper} {n:Nat} {env:List (Nat×Value)} {w0:Bs} {Rs:List Res} {x y:Operand} {T':TypeId} {a0 a1 b0 b1:Int} (ho:o.op= .binOp .neq 27 x y T') (hx:ev env x=some (.agg #[.int .i64 a0, .int .i64 a1])) (hy:ev env y=some (.agg #[.int .i64 b0, .int .i64 b1])) :Qt Try.prog o n env w0 Rs (.bool (!((a0==b0) && (a1==b1)))) :=
 qI fun a w hF _=>by
  unfold execOp;simp only [ho,hF.ev hx,hF.ev hy]
  cases h0: (a0==b0);all_goals cases h1: (a1==b1)
  all_goals simp [go_sem, *]
theorem uj {o:Oper} {n:Nat} {env:List (Nat×Value)} {w0:Bs} {Rs:List Res} {x y:Operand} {T':TypeId} {a0 a1 a2 a3 b0 b1 b2 b3:Int} (ho:o.op= .binOp .eql 54 x y T') (hx:ev env x=some (.agg #[.int .i64 a0, .int .i64 a1, .int .i64 a2, .int .i64 a3])) (hy:ev env y=some (.agg #[.int .i64 b0, .int .i64 b1, .int .i64 b2, .int .i64 b3])) :Qt Try.prog o n env w0 Rs (.bool ((a0==b0) && (a1==b1) && (a2==b2) && (a3==b3))) :=
 qI fun a w hF _=>by
  unfold execOp;simp only [ho,hF.ev hx,hF.ev hy]
  cases h0: (a0==b0);all_goals cases h1: (a1==b1);all_goals cases h2: (a2==b2);all_goals cases h3: (a3==b3)
  all_goals simp [go_sem, *]
theorem mixed:Try.prog.follows .mixedOrders=true:=by kernel_rfl
theorem DI {p:Prop} (h:p:=by first|exact jJ|exact jR|exact JD|exact qJ|exact qq|exact qQ|exact kj|exact VX|exact JO) :p:=h
section
variable {P:Program} {n:Nat} {env:List (Nat×Value)} {w0:Bs} {Rs:List Res} {ops:Array Oper} {Q:Exit→Act→World→Prop} {K:Act→World→Prop} {o:Oper}
theorem DF {T:TypeId} {m:Nat} {x:Operand} {b off:Nat} {cs:List Value} (ho:o.op= .load T x) (hx:ev env x=some (.pointer (some ⟨b,off,none⟩))) (hT:TyS P T m) (hc:∀w,St w0 Rs w→∀j v,cs[j]? =some v→w.cell? ⟨b,off+j,none⟩ =some v) (hl:cs.length=m) :Qt P o n env w0 Rs (.agg cs.toArray) :=jj ho hx hT hl hc
def DD (env:List (Nat×Value)) :Op→Option Value
  | .move x=>ev env x
  | .assign x=>ev env x
  | .nilCheck x=>match ev env x with
    | some (.pointer (some p)) =>some (.pointer (some p))
    | _=>none
  | .extract x i=>match ev env x with
    | some (.tuple vs) =>vs.toList[i]?
    | _=>none
  | .pick c x y=>match ev env c with
    | some (.bool true) =>ev env x
    | some (.bool false) =>ev env y
    | _=>none
  | .binOp b _ x y _=>match ev env x,ev env y with
    | some (.int .i64 p),some (.int .i64 q) =>match b with
      | .lss=>some (.bool (decide (p<q)))
      | .leq=>some (.bool (decide (p≤q)))
      | .gtr=>some (.bool (decide (q<p)))
      | .geq=>some (.bool (decide (q≤p)))
      | .eql=>some (.bool (p==q))
      | .neq=>some (.bool (!(p==q)))
      | _=>none
    | _,_=>none
  | .unOp .not _ x=>match ev env x with
    | some (.bool p) =>some (.bool (!p))
    | _=>none
  | _=>none
theorem DG {v:Value} (h:DD env o.op=some v) :Qt P o n env w0 Rs v:=by
 unfold DD at h
 split at h
 ·rename_i x ho;exact ja ho h
 ·rename_i x ho;exact jd ho h
 ·rename_i x ho
  split at h
  ·rename_i p hx;injection h with h;subst h;exact Jv ho hx
  ·cases h
 ·rename_i x i ho
  split at h
  ·rename_i vs hx;exact Jt (vs:=vs.toList) ho hx h
  ·cases h
 ·rename_i c x y ho
  split at h
  ·rename_i hc;exact jT ho hc h
  ·rename_i hc;exact jK ho hc h
  ·cases h
 ·rename_i b T x y T' ho
  split at h
  ·rename_i p q hx hy
   split at h
   ·injection h with h;subst h;exact Ju ho hx hy
   ·injection h with h;subst h;exact q6 ho hx hy
   ·injection h with h;subst h;exact kH ho hx hy
   ·injection h with h;subst h;exact Y8 ho hx hy
   ·injection h with h;subst h;exact qX ho hx hy
   ·injection h with h;subst h;exact Ve ho hx hy
   ·cases h
  ·cases h
 ·rename_i T x ho
  split at h
  ·rename_i p hx;injection h with h;subst h;exact QR ho hx
  ·cases h
 ·cases h
end
section
variable {P:Program} {n:Nat} {env:List (Nat×Value)} {w0:Bs} {Rs:List Res} {ops:Array Oper} {Q:Exit→Act→World→Prop} {K:Act→World→Prop} {o:Oper}
theorem jA {T U m:Nat} {x y:Operand} {b:Nat} {cs vs:List Value} {v:Value} (k:Nat) (h:At n env w0 (Rs.set k (.cel b U vs)) K) (ho:o.op= .store T x y:=by exact rfl) (hd:o.dst=none:=by exact rfl) (hx:ev env x=some (.pointer (some ⟨b,0,none⟩)) :=by exact rfl) (hk:Rs[k]? =some (.cel b U cs) :=by exact rfl) (hz: (P.info? T).map (·.size) =some m:=by exact TyZ.szx DI) (hy:ev env y=some v:=by exact rfl) (hv:v.cells=vs.toArray:=by exact rfl) (h1:vs.all (·.oneCell') =true:=by rfl) (hm:vs.length=m:=by exact rfl) (hl:cs.length=m:=by exact rfl) :At n env w0 Rs (fun a w=>o.wp P a w K Q) :=j9 k hz h ho hd hx hy hv h1 hm hk hl
end
theorem DE {p:Prop} (h:p:=by first|exact DG rfl|exact DF rfl rfl (by first|exact jh|exact jL|exact qe|exact qg|exact Qa|exact QT) (by first|exact jO (k:=0) rfl|exact jO (k:=1) rfl|exact jO (k:=2) rfl|exact jO (k:=3) rfl|exact jO (k:=4) rfl|exact jO (k:=5) rfl|exact jO (k:=6) rfl|exact jO (k:=7) rfl|exact jO (k:=8) rfl|exact jO (k:=9) rfl) (by rfl)|exact DF rfl rfl (by first|exact jh|exact jL|exact qe|exact qg|exact Qa|exact QT) (by first|exact wV (k:=0) rfl rfl rfl|exact wV (k:=1) rfl rfl rfl|exact wV (k:=2) rfl rfl rfl|exact wV (k:=3) rfl rfl rfl|exact wV (k:=4) rfl rfl rfl|exact wV (k:=5) rfl rfl rfl|exact wV (k:=6) rfl rfl rfl|exact wV (k:=7) rfl rfl rfl|exact wV (k:=8) rfl rfl rfl|exact wV (k:=9) rfl rfl rfl) (by rfl)|exact DF rfl rfl (by first|exact jh|exact jL|exact qe|exact qg|exact Qa|exact QT) (by first|exact OJ (k:=0) rfl rfl rfl rfl|exact OJ (k:=1) rfl rfl rfl rfl|exact OJ (k:=2) rfl rfl rfl rfl|exact OJ (k:=3) rfl rfl rfl rfl|exact OJ (k:=4) rfl rfl rfl rfl|exact OJ (k:=5) rfl rfl rfl rfl|exact OJ (k:=6) rfl rfl rfl rfl|exact OJ (k:=7) rfl rfl rfl rfl|exact OJ (k:=8) rfl rfl rfl rfl|exact OJ (k:=9) rfl rfl rfl rfl) (by rfl)|exact jo rfl rfl (by first|exact jC|exact JC|exact JN|exact kx|exact wl|exact KJ|exact Vm) (by first|exact qr (k:=0) rfl rfl|exact qr (k:=1) rfl rfl|exact qr (k:=2) rfl rfl|exact qr (k:=3) rfl rfl|exact qr (k:=4) rfl rfl|exact qr (k:=5) rfl rfl|exact qr (k:=6) rfl rfl|exact qr (k:=7) rfl rfl|exact qr (k:=8) rfl rfl|exact qr (k:=9) rfl rfl)|exact qf rfl rfl rfl|exact uj rfl rfl rfl|exact jg rfl rfl (by first|exact jM|exact jV|exact Jm|exact JA|exact JV|exact JW|exact J5|exact J7|exact ql|exact qW|exact qP|exact Qr|exact Q4|exact vP|exact vQ|exact K4|exact K5|exact wv)|exact JM rfl rfl (by first|exact js|exact Jl|exact JG|exact qz|exact kY|exact jz|exact WN)|exact jS rfl rfl rfl (by first|exact js|exact Jl|exact JG|exact qz|exact kY|exact jz|exact WN) Om|exact Ky rfl rfl rfl|exact jU rfl rfl rfl Om Om|exact Jy rfl rfl rfl Om Om|exact q7 rfl rfl rfl Om Om) :p:=h
section
variable {P:Program} {n:Nat} {env:List (Nat×Value)} {w0:Bs} {Rs:List Res} {ops:Array Oper} {Q:Exit→Act→World→Prop} {K:Act→World→Prop} {o:Oper}
theorem uw (ks:List Nat) {Rs0 X:List Res} (e:Rs0++X=BE ks Rs) :∀w,St w0 Rs w→St w0 Rs0 w:=fun w h=> (h.wk ks).upto (e▸DC Rs0 X)
theorem Dy {rest:List Oper} {v:Value} {d:Nat} (h:At n ((d,v) ::env) w0 Rs (fun a w=>wpList P ops Q rest a w)) (hg:o.guard=none:=by exact rfl) (hd:o.dst=some d:=by exact rfl) (hn:d<n:=by decide) (hq:Qt P o n env w0 Rs v:=by exact DE) :At n env w0 Rs (fun a w=>wpList P ops Q (o::rest) a w) :=jb hg hd hn hq h
theorem DA {v:Value} {d:Nat} (h:At n ((d,v) ::env) w0 Rs K) (hd:o.dst=some d:=by exact rfl) (hn:d<n:=by decide) (hq:Qt P o n env w0 Rs v:=by exact DE) :At n env w0 Rs (fun a w=>o.wp P a w K Q) :=jE hd hn hq h
theorem DH {p:Prop} (h:p:=by first|exact u9 rfl|exact uw [0] rfl|exact uw [1] rfl|exact uw [2] rfl|exact uw [3] rfl|exact uw [4] rfl|exact uw [5] rfl|exact uw [6] rfl|exact uw [7] rfl|exact uw [8] rfl|exact uw [9] rfl) :p:=h
theorem dK {o:Oper} {listed:Array Bool} {f fuel:Nat} {Rs0:List Res} {d:Nat} {v:Value} (i:Nat) (h:At n ((d,v) ::env) w0 Rs (fun a w=>qH P .any ops Q (Wd w0 Rs0) f fuel (listed.setIfInBounds i true) a w)) (hi:ops[i]? =some o:=by exact rfl) (hsub:∀w,St w0 Rs w→St w0 Rs0 w:=by exact DH) (hg:o.guard=none:=by exact rfl) (hd:o.dst=some d:=by exact rfl) (hn:d<n:=by decide) (hS:Region.noSelect ops=true:=by kernel_rfl) (hfr:Region.free .any ops listed i=true:=by kernel_rfl) (hrd: (Region.ready .any ops listed).contains i=true:=by kernel_rfl) (hfi: (QM .any ops listed i [] f&&i !=f) =true:=by kernel_rfl) (hq:Qt P o n env w0 Rs0 v:=by exact DE) (hQ:∀c a w,Q (.panic c) (a.put o.dst v) w→Q (.panic c) a w:=by exact fun _ _ _ h=>h) :At n env w0 Rs (fun a w=>qH P .any ops Q (Wd w0 Rs0) f (fuel+1) listed a w) :=d9 i hi [] hsub hq h hg hd hn hS hfr hrd hfi hQ
theorem eK {o:Oper} {listed:Array Bool} {f fuel:Nat} {Rs0:List Res} {d j dj:Nat} {v:Value} {oj:Oper} {c:Bool} (i:Nat) (h:At n ((d,v) ::env) w0 Rs (fun a w=>qH P .any ops Q (Wd w0 Rs0) f fuel (listed.setIfInBounds i true) a w)) (hi:ops[i]? =some o:=by exact rfl) (hsub:∀w,St w0 Rs w→St w0 Rs0 w:=by exact DH) (hg:o.guard=some (j,c) :=by exact rfl) (hj:ops[j]? =some oj:=by exact rfl) (hdj:oj.dst=some dj:=by exact rfl) (hb:kt env dj=some (.bool c) :=by exact rfl) (hd:o.dst=some d:=by exact rfl) (hn:d<n:=by decide) (hS:Region.noSelect ops=true:=by kernel_rfl) (hfr:Region.free .any ops listed i=true:=by kernel_rfl) (hrd: (Region.ready .any ops listed).contains i=true:=by kernel_rfl) (hfi: (QM .any ops listed i [] f&&i !=f) =true:=by kernel_rfl) (hq:Qt P o n env w0 Rs0 v:=by exact DE) (hQ:∀c a w,Q (.panic c) (a.put o.dst v) w→Q (.panic c) a w:=by exact fun _ _ _ h=>h) :At n env w0 Rs (fun a w=>qH P .any ops Q (Wd w0 Rs0) f (fuel+1) listed a w) :=e9 i hi [] hsub hq h hg hj hdj hb hd hn hS hfr hrd hfi hQ
theorem fK {o:Oper} {listed:Array Bool} {f fuel:Nat} {Rs0:List Res} {d j dj:Nat} {oj:Oper} {b c:Bool} (i:Nat) (h:At n ((d,undef) ::env) w0 Rs (fun a w=>qH P .any ops Q (Wd w0 Rs0) f fuel (listed.setIfInBounds i true) a w)) (hi:ops[i]? =some o:=by exact rfl) (hsub:∀w,St w0 Rs w→St w0 Rs0 w:=by exact DH) (hg:o.guard=some (j,c) :=by exact rfl) (hj:ops[j]? =some oj:=by exact rfl) (hdj:oj.dst=some dj:=by exact rfl) (hb:kt env dj=some (.bool b) :=by exact rfl) (hne:b≠c:=by decide) (hd:o.dst=some d:=by exact rfl) (hn:d<n:=by decide) (hS:Region.noSelect ops=true:=by kernel_rfl) (hfr:Region.free .any ops listed i=true:=by kernel_rfl) (hrd: (Region.ready .any ops listed).contains i=true:=by kernel_rfl) (hfi: (QM .any ops listed i [] f&&i !=f) =true:=by kernel_rfl) (hQ:∀c a w,Q (.panic c) (a.put o.dst undef) w→Q (.panic c) a w:=by exact fun _ _ _ h=>h) :At n env w0 Rs (fun a w=>qH P .any ops Q (Wd w0 Rs0) f (fuel+1) listed a w) :=f9 i hi [] hsub h hg hj hdj hb hne hd hn hS hfr hrd hfi hQ
theorem dV {o:Oper} {listed:Array Bool} {f fuel:Nat} {Rs0:List Res} {d:Nat} {v:Value} (i:Nat) (ms:List Nat) (h:At n ((d,v) ::env) w0 Rs (fun a w=>qH P .any ops Q (Wd w0 Rs0) f fuel (listed.setIfInBounds i true) a w)) (hi:ops[i]? =some o:=by exact rfl) (hsub:∀w,St w0 Rs w→St w0 Rs0 w:=by exact DH) (hg:o.guard=none:=by exact rfl) (hd:o.dst=some d:=by exact rfl) (hn:d<n:=by decide) (hS:Region.noSelect ops=true:=by kernel_rfl) (hfr:Region.free .any ops listed i=true:=by kernel_rfl) (hrd: (Region.ready .any ops listed).contains i=true:=by kernel_rfl) (hfi: (QM .any ops listed i ms f&&i !=f) =true:=by kernel_rfl) (hq:Qt P o n env w0 Rs0 v:=by exact DE) (hQ:∀c a w,Q (.panic c) (a.put o.dst v) w→Q (.panic c) a w:=by exact fun _ _ _ h=>h) :At n env w0 Rs (fun a w=>qH P .any ops Q (Wd w0 Rs0) f (fuel+1) listed a w) :=d9 i hi ms hsub hq h hg hd hn hS hfr hrd hfi hQ
theorem eV {o:Oper} {listed:Array Bool} {f fuel:Nat} {Rs0:List Res} {d j dj:Nat} {v:Value} {oj:Oper} {c:Bool} (i:Nat) (ms:List Nat) (h:At n ((d,v) ::env) w0 Rs (fun a w=>qH P .any ops Q (Wd w0 Rs0) f fuel (listed.setIfInBounds i true) a w)) (hi:ops[i]? =some o:=by exact rfl) (hsub:∀w,St w0 Rs w→St w0 Rs0 w:=by exact DH) (hg:o.guard=some (j,c) :=by exact rfl) (hj:ops[j]? =some oj:=by exact rfl) (hdj:oj.dst=some dj:=by exact rfl) (hb:kt env dj=some (.bool c) :=by exact rfl) (hd:o.dst=some d:=by exact rfl) (hn:d<n:=by decide) (hS:Region.noSelect ops=true:=by kernel_rfl) (hfr:Region.free .any ops listed i=true:=by kernel_rfl) (hrd: (Region.ready .any ops listed).contains i=true:=by kernel_rfl) (hfi: (QM .any ops listed i ms f&&i !=f) =true:=by kernel_rfl) (hq:Qt P o n env w0 Rs0 v:=by exact DE) (hQ:∀c a w,Q (.panic c) (a.put o.dst v) w→Q (.panic c) a w:=by exact fun _ _ _ h=>h) :At n env w0 Rs (fun a w=>qH P .any ops Q (Wd w0 Rs0) f (fuel+1) listed a w) :=e9 i hi ms hsub hq h hg hj hdj hb hd hn hS hfr hrd hfi hQ
theorem fV {o:Oper} {listed:Array Bool} {f fuel:Nat} {Rs0:List Res} {d j dj:Nat} {oj:Oper} {b c:Bool} (i:Nat) (ms:List Nat) (h:At n ((d,undef) ::env) w0 Rs (fun a w=>qH P .any ops Q (Wd w0 Rs0) f fuel (listed.setIfInBounds i true) a w)) (hi:ops[i]? =some o:=by exact rfl) (hsub:∀w,St w0 Rs w→St w0 Rs0 w:=by exact DH) (hg:o.guard=some (j,c) :=by exact rfl) (hj:ops[j]? =some oj:=by exact rfl) (hdj:oj.dst=some dj:=by exact rfl) (hb:kt env dj=some (.bool b) :=by exact rfl) (hne:b≠c:=by decide) (hd:o.dst=some d:=by exact rfl) (hn:d<n:=by decide) (hS:Region.noSelect ops=true:=by kernel_rfl) (hfr:Region.free .any ops listed i=true:=by kernel_rfl) (hrd: (Region.ready .any ops listed).contains i=true:=by kernel_rfl) (hfi: (QM .any ops listed i ms f&&i !=f) =true:=by kernel_rfl) (hQ:∀c a w,Q (.panic c) (a.put o.dst undef) w→Q (.panic c) a w:=by exact fun _ _ _ h=>h) :At n env w0 Rs (fun a w=>qH P .any ops Q (Wd w0 Rs0) f (fuel+1) listed a w) :=f9 i hi ms hsub h hg hj hdj hb hne hd hn hS hfr hrd hfi hQ
theorem dZ {o:Oper} {listed:Array Bool} {f fuel:Nat} {Rs0:List Res} {d:Nat} {v:Value} (i:Nat) (hi:ops[i]? =some o) (hq:Qt P o n env w0 Rs0 v) (h:At n ((d,v) ::env) w0 Rs (fun a w=>qH P .any ops Q (Wd w0 Rs0) f fuel (listed.setIfInBounds i true) a w)) (hsub:∀w,St w0 Rs w→St w0 Rs0 w:=by exact DH) (hg:o.guard=none:=by exact rfl) (hd:o.dst=some d:=by exact rfl) (hn:d<n:=by decide) (hS:Region.noSelect ops=true:=by kernel_rfl) (hfr:Region.free .any ops listed i=true:=by kernel_rfl) (hrd: (Region.ready .any ops listed).contains i=true:=by kernel_rfl) (hfi: (QM .any ops listed i [] f&&i !=f) =true:=by kernel_rfl) (hQ:∀c a w,Q (.panic c) (a.put o.dst v) w→Q (.panic c) a w:=by exact fun _ _ _ h=>h) :At n env w0 Rs (fun a w=>qH P .any ops Q (Wd w0 Rs0) f (fuel+1) listed a w) :=d9 i hi [] hsub hq h hg hd hn hS hfr hrd hfi hQ
theorem eZ {o:Oper} {listed:Array Bool} {f fuel:Nat} {Rs0:List Res} {d j dj:Nat} {v:Value} {oj:Oper} {c:Bool} (i:Nat) (hi:ops[i]? =some o) (hq:Qt P o n env w0 Rs0 v) (h:At n ((d,v) ::env) w0 Rs (fun a w=>qH P .any ops Q (Wd w0 Rs0) f fuel (listed.setIfInBounds i true) a w)) (hsub:∀w,St w0 Rs w→St w0 Rs0 w:=by exact DH) (hg:o.guard=some (j,c) :=by exact rfl) (hj:ops[j]? =some oj:=by exact rfl) (hdj:oj.dst=some dj:=by exact rfl) (hb:kt env dj=some (.bool c) :=by exact rfl) (hd:o.dst=some d:=by exact rfl) (hn:d<n:=by decide) (hS:Region.noSelect ops=true:=by kernel_rfl) (hfr:Region.free .any ops listed i=true:=by kernel_rfl) (hrd: (Region.ready .any ops listed).contains i=true:=by kernel_rfl) (hfi: (QM .any ops listed i [] f&&i !=f) =true:=by kernel_rfl) (hQ:∀c a w,Q (.panic c) (a.put o.dst v) w→Q (.panic c) a w:=by exact fun _ _ _ h=>h) :At n env w0 Rs (fun a w=>qH P .any ops Q (Wd w0 Rs0) f (fuel+1) listed a w) :=e9 i hi [] hsub hq h hg hj hdj hb hd hn hS hfr hrd hfi hQ
theorem aL {T:TypeId} {d m q:Nat} {z:Value} (h:∀b,At n ((d, .pointer (some ⟨b,0,none⟩)) ::env) w0 (Rs++ [.cel b T z.cells.toList]) K) (ho:o.op= .alloc T:=by exact rfl) (hz:TyZ P T m q z:=by exact DI) (hd:o.dst=some d:=by exact rfl) (hn:d<n:=by exact lb rfl) :At n env w0 Rs (fun a w=>o.wp P a w K Q) :=Jk ho hz hd hn h
theorem aX {T:TypeId} {x:Operand} {v:Value} {cs:List Value} {d:Nat} (h:∀b,At n ((d, .pointer (some ⟨b,0,none⟩)) ::env) w0 (Rs++ [.cel b T cs]) K) (ho:o.op= .box T x:=by exact rfl) (hx:ev env x=some v:=by exact rfl) (hv:v.cells=cs.toArray:=by exact rfl) (hd:o.dst=some d:=by exact rfl) (hn:d<n:=by exact lb rfl) :At n env w0 Rs (fun a w=>o.wp P a w K Q) :=Jx ho hx hv hd hn h
end
structure Hk (B:Prop) :Prop where
  o:B
theorem S1 {A B:Prop} (h:B) (s:Hk B→A:=by intro h; (first|with_reducible refine je ?_|with_reducible refine jc ?_|with_reducible refine jf ?_|with_reducible refine ji ?_|refine Dy ?_|refine g9 ?_|refine h9 ?_|refine DA ?_|refine jr (fun h=>by cases h) ?_|with_reducible refine jF ?_|with_reducible refine jy ?_|with_reducible refine jt ?_|with_reducible refine jB ?_|with_reducible refine jH ?_|with_reducible refine JF ?_|with_reducible refine Jn ?_|refine GK Dc ?_|with_reducible refine Jw ?_|with_reducible refine qm ?_|refine YG rfl rfl ?_|refine yS rfl rfl ?_|refine Jz mixed rfl ?_|refine jp rfl ?_|refine JX rfl rfl rfl rfl rfl Dc ?_|(refine jA 0 ?_;refine n9 ?_)|(refine jA 1 ?_;refine n9 ?_)|(refine jA 2 ?_;refine n9 ?_)|(refine jA 3 ?_;refine n9 ?_)|(refine jA 4 ?_;refine n9 ?_)|(refine jA 5 ?_;refine n9 ?_)|(refine jA 6 ?_;refine n9 ?_)|(refine jA 7 ?_;refine n9 ?_)|(refine jA 8 ?_;refine n9 ?_)|(refine jA 9 ?_;refine n9 ?_));exact h.o) :A:=s ⟨h⟩
theorem S2 {A B:Prop} (h:B) (s:Hk B→A:=by intro h; (iterate 2 refine S1 ?_);exact h.o) :A:=s ⟨h⟩
theorem S3 {A B:Prop} (h:B) (s:Hk B→A:=by intro h; (iterate 3 refine S1 ?_);exact h.o) :A:=s ⟨h⟩
theorem S4 {A B:Prop} (h:B) (s:Hk B→A:=by intro h; (iterate 4 refine S1 ?_);exact h.o) :A:=s ⟨h⟩
theorem S5 {A B:Prop} (h:B) (s:Hk B→A:=by intro h; (iterate 5 refine S1 ?_);exact h.o) :A:=s ⟨h⟩
theorem S6 {A B:Prop} (h:B) (s:Hk B→A:=by intro h; (iterate 6 refine S1 ?_);exact h.o) :A:=s ⟨h⟩
theorem S7 {A B:Prop} (h:B) (s:Hk B→A:=by intro h; (iterate 7 refine S1 ?_);exact h.o) :A:=s ⟨h⟩
theorem S8 {A B:Prop} (h:B) (s:Hk B→A:=by intro h; (iterate 8 refine S1 ?_);exact h.o) :A:=s ⟨h⟩
theorem S9 {A B:Prop} (h:B) (s:Hk B→A:=by intro h; (iterate 9 refine S1 ?_);exact h.o) :A:=s ⟨h⟩
theorem Dg {A B:Prop} (h:B) (s:Hk B→A:=by intro h; (iterate 10 refine S1 ?_);exact h.o) :A:=s ⟨h⟩
theorem Dh {A B:Prop} (h:B) (s:Hk B→A:=by intro h; (iterate 11 refine S1 ?_);exact h.o) :A:=s ⟨h⟩
theorem Di {A B:Prop} (h:B) (s:Hk B→A:=by intro h; (iterate 12 refine S1 ?_);exact h.o) :A:=s ⟨h⟩
theorem Dj {A B:Prop} (h:B) (s:Hk B→A:=by intro h; (iterate 13 refine S1 ?_);exact h.o) :A:=s ⟨h⟩
theorem Dk {A B:Prop} (h:B) (s:Hk B→A:=by intro h; (iterate 14 refine S1 ?_);exact h.o) :A:=s ⟨h⟩
theorem Dl {A B:Prop} (h:B) (s:Hk B→A:=by intro h; (iterate 15 refine S1 ?_);exact h.o) :A:=s ⟨h⟩
theorem Dm {A B:Prop} (h:B) (s:Hk B→A:=by intro h; (iterate 16 refine S1 ?_);exact h.o) :A:=s ⟨h⟩
theorem Dn {A B:Prop} (h:B) (s:Hk B→A:=by intro h; (iterate 18 refine S1 ?_);exact h.o) :A:=s ⟨h⟩
theorem Dp {A B:Prop} (h:B) (s:Hk B→A:=by intro h; (iterate 19 refine S1 ?_);exact h.o) :A:=s ⟨h⟩
theorem Dq {A B:Prop} (h:B) (s:Hk B→A:=by intro h; (iterate 20 refine S1 ?_);exact h.o) :A:=s ⟨h⟩
theorem Dr {A B:Prop} (h:B) (s:Hk B→A:=by intro h; (iterate 22 refine S1 ?_);exact h.o) :A:=s ⟨h⟩
theorem Ds {A B:Prop} (h:B) (s:Hk B→A:=by intro h; (iterate 26 refine S1 ?_);exact h.o) :A:=s ⟨h⟩
theorem Dt {A B:Prop} (h:B) (s:Hk B→A:=by intro h; (iterate 27 refine S1 ?_);exact h.o) :A:=s ⟨h⟩
theorem Du {A B:Prop} (h:B) (s:Hk B→A:=by intro h; (iterate 32 refine S1 ?_);exact h.o) :A:=s ⟨h⟩
theorem Dv {A B:Prop} (h:B) (s:Hk B→A:=by intro h; (iterate 35 refine S1 ?_);exact h.o) :A:=s ⟨h⟩
theorem Dw {A B:Prop} (h:B) (s:Hk B→A:=by intro h; (iterate 42 refine S1 ?_);exact h.o) :A:=s ⟨h⟩
theorem N1 {A B:Prop} (h:B) (s:Hk B→A:=by intro h;refine n9 ?_; (iterate 1 refine S1 ?_);exact h.o) :A:=s ⟨h⟩
theorem N2 {A B:Prop} (h:B) (s:Hk B→A:=by intro h;refine n9 ?_; (iterate 2 refine S1 ?_);exact h.o) :A:=s ⟨h⟩
theorem N3 {A B:Prop} (h:B) (s:Hk B→A:=by intro h;refine n9 ?_; (iterate 3 refine S1 ?_);exact h.o) :A:=s ⟨h⟩
theorem N4 {A B:Prop} (h:B) (s:Hk B→A:=by intro h;refine n9 ?_; (iterate 4 refine S1 ?_);exact h.o) :A:=s ⟨h⟩
theorem N5 {A B:Prop} (h:B) (s:Hk B→A:=by intro h;refine n9 ?_; (iterate 5 refine S1 ?_);exact h.o) :A:=s ⟨h⟩
theorem N6 {A B:Prop} (h:B) (s:Hk B→A:=by intro h;refine n9 ?_; (iterate 6 refine S1 ?_);exact h.o) :A:=s ⟨h⟩
theorem N7 {A B:Prop} (h:B) (s:Hk B→A:=by intro h;refine n9 ?_; (iterate 7 refine S1 ?_);exact h.o) :A:=s ⟨h⟩
theorem N8 {A B:Prop} (h:B) (s:Hk B→A:=by intro h;refine n9 ?_; (iterate 8 refine S1 ?_);exact h.o) :A:=s ⟨h⟩
theorem N9 {A B:Prop} (h:B) (s:Hk B→A:=by intro h;refine n9 ?_; (iterate 9 refine S1 ?_);exact h.o) :A:=s ⟨h⟩
theorem B8 {A B:Prop} (h:B) (s:Hk B→A:=by intro h;refine n9 ?_; (iterate 10 refine S1 ?_);exact h.o) :A:=s ⟨h⟩
theorem B9 {A B:Prop} (h:B) (s:Hk B→A:=by intro h;refine n9 ?_; (iterate 11 refine S1 ?_);exact h.o) :A:=s ⟨h⟩
theorem Da {A B:Prop} (h:B) (s:Hk B→A:=by intro h;refine n9 ?_; (iterate 12 refine S1 ?_);exact h.o) :A:=s ⟨h⟩
theorem Db {A B:Prop} (h:B) (s:Hk B→A:=by intro h;refine n9 ?_; (iterate 13 refine S1 ?_);exact h.o) :A:=s ⟨h⟩
theorem Dd {A B:Prop} (h:B) (s:Hk B→A:=by intro h;refine n9 ?_; (iterate 14 refine S1 ?_);exact h.o) :A:=s ⟨h⟩
theorem De {A B:Prop} (h:B) (s:Hk B→A:=by intro h;refine n9 ?_; (iterate 15 refine S1 ?_);exact h.o) :A:=s ⟨h⟩
theorem Df {A B:Prop} (h:B) (s:Hk B→A:=by intro h;refine n9 ?_; (iterate 30 refine S1 ?_);exact h.o) :A:=s ⟨h⟩
theorem V2 {A B:Prop} (h:B) (s:Hk B→A:=by intro h;refine v9 ?_; (iterate 2 refine S1 ?_);exact h.o) :A:=s ⟨h⟩
theorem V3 {A B:Prop} (h:B) (s:Hk B→A:=by intro h;refine v9 ?_; (iterate 3 refine S1 ?_);exact h.o) :A:=s ⟨h⟩
theorem V5 {A B:Prop} (h:B) (s:Hk B→A:=by intro h;refine v9 ?_; (iterate 5 refine S1 ?_);exact h.o) :A:=s ⟨h⟩
theorem V7 {A B:Prop} (h:B) (s:Hk B→A:=by intro h;refine v9 ?_; (iterate 7 refine S1 ?_);exact h.o) :A:=s ⟨h⟩
theorem V8 {A B:Prop} (h:B) (s:Hk B→A:=by intro h;refine v9 ?_; (iterate 8 refine S1 ?_);exact h.o) :A:=s ⟨h⟩
theorem Dx {A B:Prop} (h:B) (s:Hk B→A:=by intro h;refine v9 ?_; (iterate 14 refine S1 ?_);exact h.o) :A:=s ⟨h⟩
end Go.Proofs.Ytpncbbcmoiiipaa
