import Derived.Test.YtkagkgjjfdkoaaaGreatMSd
set_option linter.unusedVariables false
set_option linter.unusedSimpArgs false
namespace Go.Proofs.YtkagkgjjfdkoaaaGreat
open Go Go.RowKit
set_option maxRecDepth 100000
theorem Vt {P:Program} {T m k:Nat} {z:Value} (h: (P.info? T).map (fun i=> (i.zero,i.size,i.bytes)) =some (some z,m,k)) (hc:z.cells.size=m) :TyZ P T m k z:=by
 cases hi:P.info? T with
 | none=>simp [hi] at h
 | some i=>
  simp only [hi,jf7,Option.some.injEq,Prod.mk.injEq] at h
  exact⟨⟨i,hi,h.1,h.2.1,h.2.2⟩,hc⟩
theorem jz:Ty1 Tryz.prog 2:=⟨⟨_,Tryz.underlying2,rfl⟩,by kernel_rfl⟩
theorem kd:TyZ Tryz.prog 2 1 8 (.int .i64 0) :=Vt (by kernel_rfl) rfl
theorem jco:Ty1 Tryz.prog 3:=⟨⟨_,Tryz.underlying3,rfl⟩,by kernel_rfl⟩
theorem jcp:TyZ Tryz.prog 3 1 8 (.int .i64 0) :=Vt (by kernel_rfl) rfl
theorem QC:Ty1 Tryz.prog 4:=⟨⟨_,Tryz.underlying4,rfl⟩,by kernel_rfl⟩
theorem Y9:Tryz.prog.underlying 4=some .bool:=Tryz.underlying4
theorem U6:TyZ Tryz.prog 4 1 1 (.bool false) :=Vt (by kernel_rfl) rfl
theorem Gl:Ty1 Tryz.prog 22:=⟨⟨_,Tryz.underlying22,rfl⟩,by kernel_rfl⟩
theorem WN:TyL Tryz.prog 22 68 1:=⟨Tryz.underlying22,by kernel_rfl⟩
theorem Ja:TyS Tryz.prog 24 1:=⟨⟨_,Tryz.underlying24,rfl⟩,by kernel_rfl⟩
theorem Xs:TyF Tryz.prog 24 0 0:=⟨_,_,Tryz.underlying24,rfl,rfl,0,by kernel_rfl⟩
theorem JN:Ty1 Tryz.prog 27:=⟨⟨_,Tryz.underlying27,rfl⟩,by kernel_rfl⟩
theorem jI:TyL Tryz.prog 27 71 1:=⟨Tryz.underlying27,by kernel_rfl⟩
theorem QW:TyZ Tryz.prog 27 1 24 (.slice none 0 0) :=Vt (by kernel_rfl) rfl
theorem jn:TyS Tryz.prog 29 1:=⟨⟨_,Tryz.underlying29,rfl⟩,by kernel_rfl⟩
theorem Js:TyF Tryz.prog 29 0 0:=⟨_,_,Tryz.underlying29,rfl,rfl,0,by kernel_rfl⟩
theorem jk:TyZ Tryz.prog 29 1 24 (.agg #[.slice none 0 0]) :=Vt (by kernel_rfl) rfl
theorem y7:Ty1 Tryz.prog 51:=⟨⟨_,Tryz.underlying51,rfl⟩,by kernel_rfl⟩
theorem j5:TyL Tryz.prog 51 56 4:=⟨Tryz.underlying51,by kernel_rfl⟩
theorem jl:TyS Tryz.prog 54 2:=⟨⟨_,Tryz.underlying54,rfl⟩,by kernel_rfl⟩
theorem Jg:TyF Tryz.prog 54 0 0:=⟨_,_,Tryz.underlying54,rfl,rfl,0,by kernel_rfl⟩
theorem jQ:TyF Tryz.prog 54 1 1:=⟨_,_,Tryz.underlying54,rfl,rfl,0,by kernel_rfl⟩
theorem jO:TyZ Tryz.prog 54 2 16 (.agg #[.int .i64 0, .int .i64 0]) :=Vt (by kernel_rfl) rfl
theorem qp:TyS Tryz.prog 56 4:=⟨⟨_,Tryz.underlying56,rfl⟩,by kernel_rfl⟩
theorem ql:TyF Tryz.prog 56 0 0:=⟨_,_,Tryz.underlying56,rfl,rfl,1,by kernel_rfl⟩
theorem J9:TyF Tryz.prog 56 1 2:=⟨_,_,Tryz.underlying56,rfl,rfl,1,by kernel_rfl⟩
theorem qa:TyZ Tryz.prog 56 4 32 (.agg #[.int .i64 0, .int .i64 0, .int .i64 0, .int .i64 0]) :=Vt (by kernel_rfl) rfl
theorem JG:Ty1 Tryz.prog 58:=⟨⟨_,Tryz.underlying58,rfl⟩,by kernel_rfl⟩
theorem jt:TyL Tryz.prog 58 54 2:=⟨Tryz.underlying58,by kernel_rfl⟩
theorem Wo:TyZ Tryz.prog 58 1 24 (.slice none 0 0) :=Vt (by kernel_rfl) rfl
theorem OF:TyS Tryz.prog 68 1:=⟨⟨_,Tryz.underlying68,rfl⟩,by kernel_rfl⟩
theorem JH:TyS Tryz.prog 71 1:=⟨⟨_,Tryz.underlying71,rfl⟩,by kernel_rfl⟩
theorem Jx:TyF Tryz.prog 71 0 0:=⟨_,_,Tryz.underlying71,rfl,rfl,0,by kernel_rfl⟩
theorem Jn:TyZ Tryz.prog 71 1 24 (.agg #[.slice none 0 0]) :=Vt (by kernel_rfl) rfl
theorem Jr:TyL Tryz.prog 77 118 4:=⟨Tryz.underlying77,by kernel_rfl⟩
theorem Jz:TyL Tryz.prog 82 125 8:=⟨Tryz.underlying82,by kernel_rfl⟩
theorem vD:TyL Tryz.prog 91 51 1:=⟨Tryz.underlying91,by kernel_rfl⟩
theorem ZV:TyL Tryz.prog 105 3 1:=⟨Tryz.underlying105,by kernel_rfl⟩
theorem vp:TyL Tryz.prog 106 4 1:=⟨Tryz.underlying106,by kernel_rfl⟩
theorem VH:TyS Tryz.prog 110 7:=⟨⟨_,Tryz.underlying110,rfl⟩,by kernel_rfl⟩
theorem kv:TyF Tryz.prog 110 2 4:=⟨_,_,Tryz.underlying110,rfl,rfl,0,by kernel_rfl⟩
theorem vz:TyF Tryz.prog 110 3 5:=⟨_,_,Tryz.underlying110,rfl,rfl,0,by kernel_rfl⟩
theorem vA:TyF Tryz.prog 110 4 6:=⟨_,_,Tryz.underlying110,rfl,rfl,0,by kernel_rfl⟩
theorem Qy:TyZ Tryz.prog 110 7 56 (.agg #[.int .i64 0, .int .i64 0, .int .i64 0, .int .i64 0, .int .i64 0, .int .i64 0, .int .i64 0]) :=Vt (by kernel_rfl) rfl
theorem Kq:TyS Tryz.prog 118 4:=⟨⟨_,Tryz.underlying118,rfl⟩,by kernel_rfl⟩
theorem Jy:TyF Tryz.prog 118 0 0:=⟨_,_,Tryz.underlying118,rfl,rfl,1,by kernel_rfl⟩
theorem JB:TyF Tryz.prog 118 1 2:=⟨_,_,Tryz.underlying118,rfl,rfl,1,by kernel_rfl⟩
theorem QX:TyZ Tryz.prog 118 4 32 (.agg #[.int .i64 0, .int .i64 0, .int .i64 0, .int .i64 0]) :=Vt (by kernel_rfl) rfl
theorem q7:TyF Tryz.prog 125 0 0:=⟨_,_,Tryz.underlying125,rfl,rfl,3,by kernel_rfl⟩
theorem kV:TyF Tryz.prog 125 1 4:=⟨_,_,Tryz.underlying125,rfl,rfl,0,by kernel_rfl⟩
theorem kW:TyF Tryz.prog 125 2 5:=⟨_,_,Tryz.underlying125,rfl,rfl,0,by kernel_rfl⟩
theorem Wm:TyF Tryz.prog 125 3 6:=⟨_,_,Tryz.underlying125,rfl,rfl,0,by kernel_rfl⟩
theorem Wn:TyF Tryz.prog 125 4 7:=⟨_,_,Tryz.underlying125,rfl,rfl,0,by kernel_rfl⟩
theorem ud:TyZ Tryz.prog 125 8 64 (.agg #[.int .i64 0, .int .i64 0, .int .i64 0, .int .i64 0, .int .i64 0, .int .i64 0, .int .i64 0, .int .i64 0]) :=Vt (by kernel_rfl) rfl
theorem Jt:TyL Tryz.prog 147 155 5:=⟨Tryz.underlying147,by kernel_rfl⟩
theorem Qu:TyS Tryz.prog 149 3:=⟨⟨_,Tryz.underlying149,rfl⟩,by kernel_rfl⟩
theorem U4:TyF Tryz.prog 149 0 0:=⟨_,_,Tryz.underlying149,rfl,rfl,0,by kernel_rfl⟩
theorem U5:TyF Tryz.prog 149 1 1:=⟨_,_,Tryz.underlying149,rfl,rfl,0,by kernel_rfl⟩
theorem Qk:TyF Tryz.prog 149 2 2:=⟨_,_,Tryz.underlying149,rfl,rfl,0,by kernel_rfl⟩
theorem kJ:TyZ Tryz.prog 149 3 24 (.agg #[.int .i64 0, .int .i64 0, .bool false]) :=Vt (by kernel_rfl) rfl
theorem vE:TyS Tryz.prog 151 6:=⟨⟨_,Tryz.underlying151,rfl⟩,by kernel_rfl⟩
theorem kI:TyF Tryz.prog 151 0 0:=⟨_,_,Tryz.underlying151,rfl,rfl,2,by kernel_rfl⟩
theorem KU:TyF Tryz.prog 151 1 3:=⟨_,_,Tryz.underlying151,rfl,rfl,2,by kernel_rfl⟩
theorem QP:TyZ Tryz.prog 151 6 48 (.agg #[.int .i64 0, .int .i64 0, .bool false, .int .i64 0, .int .i64 0, .bool false]) :=Vt (by kernel_rfl) rfl
theorem J7:TyS Tryz.prog 155 5:=⟨⟨_,Tryz.underlying155,rfl⟩,by kernel_rfl⟩
theorem zR:TyF Tryz.prog 155 0 0:=⟨_,_,Tryz.underlying155,rfl,rfl,1,by kernel_rfl⟩
theorem Ql:TyF Tryz.prog 155 1 2:=⟨_,_,Tryz.underlying155,rfl,rfl,2,by kernel_rfl⟩
theorem qN:TyZ Tryz.prog 155 5 40 (.agg #[.int .i64 0, .int .i64 0, .int .i64 0, .int .i64 0, .bool false]) :=Vt (by kernel_rfl) rfl
theorem vV:TyL Tryz.prog 190 58 1:=⟨Tryz.underlying190,by kernel_rfl⟩
theorem qV:TyL Tryz.prog 209 217 8:=⟨Tryz.underlying209,by kernel_rfl⟩
theorem qh:TyS Tryz.prog 211 6:=⟨⟨_,Tryz.underlying211,rfl⟩,by kernel_rfl⟩
theorem QN:TyF Tryz.prog 211 0 0:=⟨_,_,Tryz.underlying211,rfl,rfl,0,by kernel_rfl⟩
theorem QO:TyF Tryz.prog 211 1 1:=⟨_,_,Tryz.underlying211,rfl,rfl,0,by kernel_rfl⟩
theorem Kx:TyF Tryz.prog 211 2 2:=⟨_,_,Tryz.underlying211,rfl,rfl,0,by kernel_rfl⟩
theorem Ky:TyF Tryz.prog 211 3 3:=⟨_,_,Tryz.underlying211,rfl,rfl,0,by kernel_rfl⟩
theorem kw:TyF Tryz.prog 211 4 4:=⟨_,_,Tryz.underlying211,rfl,rfl,0,by kernel_rfl⟩
theorem vC:TyF Tryz.prog 211 5 5:=⟨_,_,Tryz.underlying211,rfl,rfl,0,by kernel_rfl⟩
theorem JW:TyZ Tryz.prog 211 6 40 (.agg #[.int .i64 0, .int .i64 0, .int .i64 0, .int .i64 0, .bool false, .bool false]) :=Vt (by kernel_rfl) rfl
theorem ZT:TyF Tryz.prog 217 0 0:=⟨_,_,Tryz.underlying217,rfl,rfl,1,by kernel_rfl⟩
theorem ZU:TyF Tryz.prog 217 1 2:=⟨_,_,Tryz.underlying217,rfl,rfl,5,by kernel_rfl⟩
theorem WO:TyZ Tryz.prog 217 8 56 (.agg #[.int .i64 0, .int .i64 0, .int .i64 0, .int .i64 0, .int .i64 0, .int .i64 0, .bool false, .bool false]) :=Vt (by kernel_rfl) rfl
theorem qI:FnOk Tryz.prog 10:=⟨_,Tryz.func10,by kernel_rfl,rfl⟩
theorem Hv:FnOk Tryz.prog 11:=⟨_,Tryz.func11,by kernel_rfl,rfl⟩
theorem jN:FnOk Tryz.prog 12:=⟨_,Tryz.func12,by kernel_rfl,rfl⟩
theorem Hm:FnOk Tryz.prog 13:=⟨_,Tryz.func13,by kernel_rfl,rfl⟩
theorem JM:FnOk Tryz.prog 14:=⟨_,Tryz.func14,by kernel_rfl,rfl⟩
theorem KA:FnOk Tryz.prog 15:=⟨_,Tryz.func15,by kernel_rfl,rfl⟩
theorem kk:FnOk Tryz.prog 16:=⟨_,Tryz.func16,by kernel_rfl,rfl⟩
theorem qj:FnOk Tryz.prog 17:=⟨_,Tryz.func17,by kernel_rfl,rfl⟩
theorem qQ:FnOk Tryz.prog 18:=⟨_,Tryz.func18,by kernel_rfl,rfl⟩
theorem Qb:FnOk Tryz.prog 19:=⟨_,Tryz.func19,by kernel_rfl,rfl⟩
theorem qK:FnOk Tryz.prog 20:=⟨_,Tryz.func20,by kernel_rfl,rfl⟩
theorem We:FnOk Tryz.prog 21:=⟨_,Tryz.func21,by kernel_rfl,rfl⟩
theorem Vg:FnOk Tryz.prog 22:=⟨_,Tryz.func22,by kernel_rfl,rfl⟩
theorem V9:FnOk Tryz.prog 23:=⟨_,Tryz.func23,by kernel_rfl,rfl⟩
theorem vK:FnOk Tryz.prog 24:=⟨_,Tryz.func24,by kernel_rfl,rfl⟩
theorem wa:FnOk Tryz.prog 25:=⟨_,Tryz.func25,by kernel_rfl,rfl⟩
theorem KI:FnOk Tryz.prog 26:=⟨_,Tryz.func26,by kernel_rfl,rfl⟩
theorem xN:FnOk Tryz.prog 27:=⟨_,Tryz.func27,by kernel_rfl,rfl⟩
theorem xG:FnOk Tryz.prog 28:=⟨_,Tryz.func28,by kernel_rfl,rfl⟩
theorem wy:FnOk Tryz.prog 30:=⟨_,Tryz.func30,by kernel_rfl,rfl⟩
theorem Hu:FnOk Tryz.prog 31:=⟨_,Tryz.func31,by kernel_rfl,rfl⟩
theorem wv:FnOk Tryz.prog 32:=⟨_,Tryz.func32,by kernel_rfl,rfl⟩
theorem KW:FnOk Tryz.prog 34:=⟨_,Tryz.func34,by kernel_rfl,rfl⟩
theorem uS:FnOk Tryz.prog 35:=⟨_,Tryz.func35,by kernel_rfl,rfl⟩
theorem xM:FnOk Tryz.prog 36:=⟨_,Tryz.func36,by kernel_rfl,rfl⟩
theorem xL:FnOk Tryz.prog 37:=⟨_,Tryz.func37,by kernel_rfl,rfl⟩
theorem zZ:FnOk Tryz.prog 38:=⟨_,Tryz.func38,by kernel_rfl,rfl⟩
theorem ka:FnOk Tryz.prog 39:=⟨_,Tryz.func39,by kernel_rfl,rfl⟩
theorem uj:FnOk Tryz.prog 40:=⟨_,Tryz.func40,by kernel_rfl,rfl⟩
theorem kN:FnOk Tryz.prog 41:=⟨_,Tryz.func41,by kernel_rfl,rfl⟩
theorem kY:FnOk Tryz.prog 42:=⟨_,Tryz.func42,by kernel_rfl,rfl⟩
theorem xI:FnOk Tryz.prog 43:=⟨_,Tryz.func43,by kernel_rfl,rfl⟩
theorem uM:FnOk Tryz.prog 44:=⟨_,Tryz.func44,by kernel_rfl,rfl⟩
theorem QL:FnOk Tryz.prog 45:=⟨_,Tryz.func45,by kernel_rfl,rfl⟩
theorem Ks:FnOk Tryz.prog 46:=⟨_,Tryz.func46,by kernel_rfl,rfl⟩
theorem K1:FnOk Tryz.prog 47:=⟨_,Tryz.func47,by kernel_rfl,rfl⟩
theorem y5:FnOk Tryz.prog 48:=⟨_,Tryz.func48,by kernel_rfl,rfl⟩
theorem uN:FnOk Tryz.prog 49:=⟨_,Tryz.func49,by kernel_rfl,rfl⟩
theorem LZ:FnOk Tryz.prog 52:=⟨_,Tryz.func52,by kernel_rfl,rfl⟩
theorem QU:FnOk Tryz.prog 53:=⟨_,Tryz.func53,by kernel_rfl,rfl⟩
theorem YM:FnOk Tryz.prog 54:=⟨_,Tryz.func54,by kernel_rfl,rfl⟩
theorem ww:FnOk Tryz.prog 55:=⟨_,Tryz.func55,by kernel_rfl,rfl⟩
theorem Hx:FnOk Tryz.prog 57:=⟨_,Tryz.func57,by kernel_rfl,rfl⟩
theorem Vj:FnOk Tryz.prog 58:=⟨_,Tryz.func58,by kernel_rfl,rfl⟩
theorem L9:FnOk Tryz.prog 59:=⟨_,Tryz.func59,by kernel_rfl,rfl⟩
theorem yY:FnOk Tryz.prog 60:=⟨_,Tryz.func60,by kernel_rfl,rfl⟩
theorem Ue:FnOk Tryz.prog 61:=⟨_,Tryz.func61,by kernel_rfl,rfl⟩
theorem YP:FnOk Tryz.prog 62:=⟨_,Tryz.func62,by kernel_rfl,rfl⟩
theorem X1:FnOk Tryz.prog 63:=⟨_,Tryz.func63,by kernel_rfl,rfl⟩
theorem L8:FnOk Tryz.prog 64:=⟨_,Tryz.func64,by kernel_rfl,rfl⟩
theorem UR:FnOk Tryz.prog 65:=⟨_,Tryz.func65,by kernel_rfl,rfl⟩
theorem X2:FnOk Tryz.prog 66:=⟨_,Tryz.func66,by kernel_rfl,rfl⟩
theorem xS:FnOk Tryz.prog 67:=⟨_,Tryz.func67,by kernel_rfl,rfl⟩
theorem Hr:FnOk Tryz.prog 68:=⟨_,Tryz.func68,by kernel_rfl,rfl⟩
theorem Hq:FnOk Tryz.prog 69:=⟨_,Tryz.func69,by kernel_rfl,rfl⟩
theorem xH:FnOk Tryz.prog 70:=⟨_,Tryz.func70,by kernel_rfl,rfl⟩
theorem uk:FnOk Tryz.prog 71:=⟨_,Tryz.func71,by kernel_rfl,rfl⟩
theorem VW:FnOk Tryz.prog 72:=⟨_,Tryz.func72,by kernel_rfl,rfl⟩
theorem Hn:FnOk Tryz.prog 73:=⟨_,Tryz.func73,by kernel_rfl,rfl⟩
theorem XW:FnOk Tryz.prog 74:=⟨_,Tryz.func74,by kernel_rfl,rfl⟩
theorem kO:FnOk Tryz.prog 75:=⟨_,Tryz.func75,by kernel_rfl,rfl⟩
theorem Wc:FnOk Tryz.prog 76:=⟨_,Tryz.func76,by kernel_rfl,rfl⟩
theorem Kc:FnOk Tryz.prog 77:=⟨_,Tryz.func77,by kernel_rfl,rfl⟩
theorem XX:FnOk Tryz.prog 78:=⟨_,Tryz.func78,by kernel_rfl,rfl⟩
theorem XY:FnOk Tryz.prog 79:=⟨_,Tryz.func79,by kernel_rfl,rfl⟩
theorem KQ:FnOk Tryz.prog 80:=⟨_,Tryz.func80,by kernel_rfl,rfl⟩
theorem KO:FnOk Tryz.prog 81:=⟨_,Tryz.func81,by kernel_rfl,rfl⟩
theorem uK:FnOk Tryz.prog 82:=⟨_,Tryz.func82,by kernel_rfl,rfl⟩
theorem Wa:FnOk Tryz.prog 83:=⟨_,Tryz.func83,by kernel_rfl,rfl⟩
theorem Ho:FnOk Tryz.prog 84:=⟨_,Tryz.func84,by kernel_rfl,rfl⟩
theorem yV:FnOk Tryz.prog 85:=⟨_,Tryz.func85,by kernel_rfl,rfl⟩
theorem yU:FnOk Tryz.prog 86:=⟨_,Tryz.func86,by kernel_rfl,rfl⟩
theorem xV:FnOk Tryz.prog 87:=⟨_,Tryz.func87,by kernel_rfl,rfl⟩
theorem YO:FnOk Tryz.prog 88:=⟨_,Tryz.func88,by kernel_rfl,rfl⟩
theorem xP:FnOk Tryz.prog 92:=⟨_,Tryz.func92,by kernel_rfl,rfl⟩
theorem UQ:FnOk Tryz.prog 93:=⟨_,Tryz.func93,by kernel_rfl,rfl⟩
theorem uO:FnOk Tryz.prog 94:=⟨_,Tryz.func94,by kernel_rfl,rfl⟩
theorem X0:FnOk Tryz.prog 95:=⟨_,Tryz.func95,by kernel_rfl,rfl⟩
theorem Zx:FnOk Tryz.prog 96:=⟨_,Tryz.func96,by kernel_rfl,rfl⟩
theorem zN:FnOk Tryz.prog 97:=⟨_,Tryz.func97,by kernel_rfl,rfl⟩
theorem Zz:FnOk Tryz.prog 98:=⟨_,Tryz.func98,by kernel_rfl,rfl⟩
theorem kT:FnOk Tryz.prog 99:=⟨_,Tryz.func99,by kernel_rfl,rfl⟩
theorem xR:FnOk Tryz.prog 100:=⟨_,Tryz.func100,by kernel_rfl,rfl⟩
theorem xU:FnOk Tryz.prog 101:=⟨_,Tryz.func101,by kernel_rfl,rfl⟩
theorem Hz:FnOk Tryz.prog 102:=⟨_,Tryz.func102,by kernel_rfl,rfl⟩
theorem xT:FnOk Tryz.prog 103:=⟨_,Tryz.func103,by kernel_rfl,rfl⟩
theorem y4:FnOk Tryz.prog 104:=⟨_,Tryz.func104,by kernel_rfl,rfl⟩
theorem Uf:FnOk Tryz.prog 105:=⟨_,Tryz.func105,by kernel_rfl,rfl⟩
theorem LY:FnOk Tryz.prog 106:=⟨_,Tryz.func106,by kernel_rfl,rfl⟩
theorem QI:FnOk Tryz.prog 107:=⟨_,Tryz.func107,by kernel_rfl,rfl⟩
theorem kC:FnOk Tryz.prog 108:=⟨_,Tryz.func108,by kernel_rfl,rfl⟩
theorem Wd:FnOk Tryz.prog 109:=⟨_,Tryz.func109,by kernel_rfl,rfl⟩
theorem WI:FnOk Tryz.prog 110:=⟨_,Tryz.func110,by kernel_rfl,rfl⟩
theorem Wb:FnOk Tryz.prog 111:=⟨_,Tryz.func111,by kernel_rfl,rfl⟩
theorem vU:FnOk Tryz.prog 112:=⟨_,Tryz.func112,by kernel_rfl,rfl⟩
theorem XV:FnOk Tryz.prog 116:=⟨_,Tryz.func116,by kernel_rfl,rfl⟩
theorem Kp:FnOk Tryz.prog 117:=⟨_,Tryz.func117,by kernel_rfl,rfl⟩
theorem uL:FnOk Tryz.prog 118:=⟨_,Tryz.func118,by kernel_rfl,rfl⟩
theorem xJ:FnOk Tryz.prog 119:=⟨_,Tryz.func119,by kernel_rfl,rfl⟩
theorem kL:FnOk Tryz.prog 120:=⟨_,Tryz.func120,by kernel_rfl,rfl⟩
theorem vw:FnOk Tryz.prog 121:=⟨_,Tryz.func121,by kernel_rfl,rfl⟩
theorem KN:FnOk Tryz.prog 122:=⟨_,Tryz.func122,by kernel_rfl,rfl⟩
theorem Ku:FnOk Tryz.prog 123:=⟨_,Tryz.func123,by kernel_rfl,rfl⟩
theorem VU:FnOk Tryz.prog 124:=⟨_,Tryz.func124,by kernel_rfl,rfl⟩
theorem KD:FnOk Tryz.prog 125:=⟨_,Tryz.func125,by kernel_rfl,rfl⟩
theorem ko:FnOk Tryz.prog 126:=⟨_,Tryz.func126,by kernel_rfl,rfl⟩
theorem Wu:FnOk Tryz.prog 127:=⟨_,Tryz.func127,by kernel_rfl,rfl⟩
theorem ky:FnOk Tryz.prog 128:=⟨_,Tryz.func128,by kernel_rfl,rfl⟩
theorem kE:FnOk Tryz.prog 130:=⟨_,Tryz.func130,by kernel_rfl,rfl⟩
theorem xK:FnOk Tryz.prog 131:=⟨_,Tryz.func131,by kernel_rfl,rfl⟩
theorem HA:FnOk Tryz.prog 132:=⟨_,Tryz.func132,by kernel_rfl,rfl⟩
theorem VV:FnOk Tryz.prog 133:=⟨_,Tryz.func133,by kernel_rfl,rfl⟩
theorem vc:FnOk Tryz.prog 137:=⟨_,Tryz.func137,by kernel_rfl,rfl⟩
theorem vd:FnOk Tryz.prog 138:=⟨_,Tryz.func138,by kernel_rfl,rfl⟩
theorem yW:FnOk Tryz.prog 139:=⟨_,Tryz.func139,by kernel_rfl,rfl⟩
theorem KJ:FnOk Tryz.prog 140:=⟨_,Tryz.func140,by kernel_rfl,rfl⟩
theorem Qi:FnOk Tryz.prog 141:=⟨_,Tryz.func141,by kernel_rfl,rfl⟩
theorem VC:FnOk Tryz.prog 142:=⟨_,Tryz.func142,by kernel_rfl,rfl⟩
theorem Hy:FnOk Tryz.prog 143:=⟨_,Tryz.func143,by kernel_rfl,rfl⟩
theorem L3:FnOk Tryz.prog 144:=⟨_,Tryz.func144,by kernel_rfl,rfl⟩
theorem Wg:FnOk Tryz.prog 145:=⟨_,Tryz.func145,by kernel_rfl,rfl⟩
theorem UP:FnOk Tryz.prog 146:=⟨_,Tryz.func146,by kernel_rfl,rfl⟩
theorem ZF:FnOk Tryz.prog 147:=⟨_,Tryz.func147,by kernel_rfl,rfl⟩
theorem Ug:FnOk Tryz.prog 148:=⟨_,Tryz.func148,by kernel_rfl,rfl⟩
theorem XZ:FnOk Tryz.prog 149:=⟨_,Tryz.func149,by kernel_rfl,rfl⟩
theorem Vh:FnOk Tryz.prog 151:=⟨_,Tryz.func151,by kernel_rfl,rfl⟩
theorem VT:FnOk Tryz.prog 161:=⟨_,Tryz.func161,by kernel_rfl,rfl⟩
theorem kS:FnOk Tryz.prog 162:=⟨_,Tryz.func162,by kernel_rfl,rfl⟩
theorem wQ:FnOk Tryz.prog 163:=⟨_,Tryz.func163,by kernel_rfl,rfl⟩
theorem Qn:FnOk Tryz.prog 164:=⟨_,Tryz.func164,by kernel_rfl,rfl⟩
theorem qZ:FnOk Tryz.prog 165:=⟨_,Tryz.func165,by kernel_rfl,rfl⟩
theorem YN:FnOk Tryz.prog 167:=⟨_,Tryz.func167,by kernel_rfl,rfl⟩
theorem z6:FnOk Tryz.prog 168:=⟨_,Tryz.func168,by kernel_rfl,rfl⟩
theorem Hw:FnOk Tryz.prog 169:=⟨_,Tryz.func169,by kernel_rfl,rfl⟩
theorem Wf:FnOk Tryz.prog 170:=⟨_,Tryz.func170,by kernel_rfl,rfl⟩
theorem qX:FnOk Tryz.prog 177:=⟨_,Tryz.func177,by kernel_rfl,rfl⟩
theorem qH:FnOk Tryz.prog 178:=⟨_,Tryz.func178,by kernel_rfl,rfl⟩
theorem wR:FnOk Tryz.prog 179:=⟨_,Tryz.func179,by kernel_rfl,rfl⟩
theorem vW:FnOk Tryz.prog 180:=⟨_,Tryz.func180,by kernel_rfl,rfl⟩
theorem L0:FnOk Tryz.prog 188:=⟨_,Tryz.func188,by kernel_rfl,rfl⟩
theorem Zy:FnOk Tryz.prog 189:=⟨_,Tryz.func189,by kernel_rfl,rfl⟩
theorem xO:FnOk Tryz.prog 190:=⟨_,Tryz.func190,by kernel_rfl,rfl⟩
theorem xQ:FnOk Tryz.prog 191:=⟨_,Tryz.func191,by kernel_rfl,rfl⟩
theorem yX:FnOk Tryz.prog 192:=⟨_,Tryz.func192,by kernel_rfl,rfl⟩
theorem VA:FnOk Tryz.prog 194:=⟨_,Tryz.func194,by kernel_rfl,rfl⟩
theorem QD:FnOk Tryz.prog 195:=⟨_,Tryz.func195,by kernel_rfl,rfl⟩
theorem yZ:FnOk Tryz.prog 199:=⟨_,Tryz.func199,by kernel_rfl,rfl⟩
theorem y3:FnOk Tryz.prog 200:=⟨_,Tryz.func200,by kernel_rfl,rfl⟩
theorem Qo:FnOk Tryz.prog 201:=⟨_,Tryz.func201,by kernel_rfl,rfl⟩
theorem qf (w:World) : (Instr.build 29 #[]).run Tryz.prog w= .ok (.agg #[.slice none 0 0]) w:=by
 rw [QR]
 simp only [je1,jeZ,jfc]
 simp [Instr.build,Instr.fill,go_sem]
theorem Z1 {v0 a0_0:Value} (h0:v0.cells= #[a0_0]) (w:World) : (Instr.build 29 #[(0,v0)]).run Tryz.prog w= .ok (.agg #[a0_0]) w:=by
 rw [QR]
 simp only [je1,jeZ,jfc,h0]
 simp [Instr.build,Instr.fill,go_sem]
theorem yk (w:World) : (Instr.build 54 #[]).run Tryz.prog w= .ok (.agg #[.int .i64 0, .int .i64 0]) w:=by
 rw [QR]
 simp only [je1,jeZ,jfc]
 simp [Instr.build,Instr.fill,go_sem]
theorem kX {v0 a0_0:Value} (h0:v0.cells= #[a0_0]) {v1 a1_0:Value} (h1:v1.cells= #[a1_0]) (w:World) : (Instr.build 54 #[(0,v0),(1,v1)]).run Tryz.prog w= .ok (.agg #[a0_0,a1_0]) w:=by
 rw [QR]
 simp only [je1,jeZ,jfc,h0,h1]
 simp [Instr.build,Instr.fill,go_sem]
theorem UA {v0 a0_0 a0_1:Value} (h0:v0.cells= #[a0_0,a0_1]) {v1 a1_0 a1_1:Value} (h1:v1.cells= #[a1_0,a1_1]) (w:World) : (Instr.build 56 #[(0,v0),(1,v1)]).run Tryz.prog w= .ok (.agg #[a0_0,a0_1,a1_0,a1_1]) w:=by
 rw [QR]
 simp only [je1,jeZ,jfc,h0,h1]
 simp [Instr.build,Instr.fill,go_sem]
theorem wX (w:World) : (Instr.build 71 #[]).run Tryz.prog w= .ok (.agg #[.slice none 0 0]) w:=by
 rw [QR]
 simp only [je1,jeZ,jfc]
 simp [Instr.build,Instr.fill,go_sem]
theorem KH {v0 a0_0:Value} (h0:v0.cells= #[a0_0]) (w:World) : (Instr.build 71 #[(0,v0)]).run Tryz.prog w= .ok (.agg #[a0_0]) w:=by
 rw [QR]
 simp only [je1,jeZ,jfc,h0]
 simp [Instr.build,Instr.fill,go_sem]
theorem Yn {v0 a0_0 a0_1:Value} (h0:v0.cells= #[a0_0,a0_1]) {v1 a1_0 a1_1:Value} (h1:v1.cells= #[a1_0,a1_1]) (w:World) : (Instr.build 110 #[(0,v0),(1,v1)]).run Tryz.prog w= .ok (.agg #[a0_0,a0_1,a1_0,a1_1, .int .i64 0, .int .i64 0, .int .i64 0]) w:=by
 rw [QR]
 simp only [je1,jeZ,jfc,h0,h1]
 simp [Instr.build,Instr.fill,go_sem]
theorem WS {v0 a0_0 a0_1:Value} (h0:v0.cells= #[a0_0,a0_1]) {v1 a1_0 a1_1:Value} (h1:v1.cells= #[a1_0,a1_1]) (w:World) : (Instr.build 118 #[(0,v0),(1,v1)]).run Tryz.prog w= .ok (.agg #[a0_0,a0_1,a1_0,a1_1]) w:=by
 rw [QR]
 simp only [je1,jeZ,jfc,h0,h1]
 simp [Instr.build,Instr.fill,go_sem]
theorem Z2 {v0 a0_0 a0_1 a0_2 a0_3:Value} (h0:v0.cells= #[a0_0,a0_1,a0_2,a0_3]) (w:World) : (Instr.build 125 #[(0,v0)]).run Tryz.prog w= .ok (.agg #[a0_0,a0_1,a0_2,a0_3, .int .i64 0, .int .i64 0, .int .i64 0, .int .i64 0]) w:=by
 rw [QR]
 simp only [je1,jeZ,jfc,h0]
 simp [Instr.build,Instr.fill,go_sem]
theorem QQ {v0 a0_0:Value} (h0:v0.cells= #[a0_0]) {v1 a1_0:Value} (h1:v1.cells= #[a1_0]) {v2 a2_0:Value} (h2:v2.cells= #[a2_0]) (w:World) : (Instr.build 149 #[(0,v0),(1,v1),(2,v2)]).run Tryz.prog w= .ok (.agg #[a0_0,a1_0,a2_0]) w:=by
 rw [QR]
 simp only [je1,jeZ,jfc,h0,h1,h2]
 simp [Instr.build,Instr.fill,go_sem]
theorem yl {v0 a0_0 a0_1 a0_2:Value} (h0:v0.cells= #[a0_0,a0_1,a0_2]) {v1 a1_0 a1_1 a1_2:Value} (h1:v1.cells= #[a1_0,a1_1,a1_2]) (w:World) : (Instr.build 151 #[(0,v0),(1,v1)]).run Tryz.prog w= .ok (.agg #[a0_0,a0_1,a0_2,a1_0,a1_1,a1_2]) w:=by
 rw [QR]
 simp only [je1,jeZ,jfc,h0,h1]
 simp [Instr.build,Instr.fill,go_sem]
theorem Yb {v0 a0_0 a0_1:Value} (h0:v0.cells= #[a0_0,a0_1]) {v1 a1_0 a1_1 a1_2:Value} (h1:v1.cells= #[a1_0,a1_1,a1_2]) (w:World) : (Instr.build 155 #[(0,v0),(1,v1)]).run Tryz.prog w= .ok (.agg #[a0_0,a0_1,a1_0,a1_1,a1_2]) w:=by
 rw [QR]
 simp only [je1,jeZ,jfc,h0,h1]
 simp [Instr.build,Instr.fill,go_sem]
theorem uD {v0 a0_0:Value} (h0:v0.cells= #[a0_0]) {v1 a1_0:Value} (h1:v1.cells= #[a1_0]) {v2 a2_0:Value} (h2:v2.cells= #[a2_0]) {v3 a3_0:Value} (h3:v3.cells= #[a3_0]) {v4 a4_0:Value} (h4:v4.cells= #[a4_0]) (w:World) : (Instr.build 211 #[(0,v0),(1,v1),(2,v2),(3,v3),(4,v4)]).run Tryz.prog w= .ok (.agg #[a0_0,a1_0,a2_0,a3_0,a4_0, .bool false]) w:=by
 rw [QR]
 simp only [je1,jeZ,jfc,h0,h1,h2,h3,h4]
 simp [Instr.build,Instr.fill,go_sem]
theorem vH {v0 a0_0:Value} (h0:v0.cells= #[a0_0]) {v1 a1_0:Value} (h1:v1.cells= #[a1_0]) {v2 a2_0:Value} (h2:v2.cells= #[a2_0]) {v3 a3_0:Value} (h3:v3.cells= #[a3_0]) {v4 a4_0:Value} (h4:v4.cells= #[a4_0]) {v5 a5_0:Value} (h5:v5.cells= #[a5_0]) (w:World) : (Instr.build 211 #[(0,v0),(1,v1),(2,v2),(3,v3),(4,v4),(5,v5)]).run Tryz.prog w= .ok (.agg #[a0_0,a1_0,a2_0,a3_0,a4_0,a5_0]) w:=by
 rw [QR]
 simp only [je1,jeZ,jfc,h0,h1,h2,h3,h4,h5]
 simp [Instr.build,Instr.fill,go_sem]
theorem uE {v0 a0_0:Value} (h0:v0.cells= #[a0_0]) {v1 a1_0:Value} (h1:v1.cells= #[a1_0]) {v2 a2_0:Value} (h2:v2.cells= #[a2_0]) {v3 a3_0:Value} (h3:v3.cells= #[a3_0]) {v4 a4_0:Value} (h4:v4.cells= #[a4_0]) (w:World) : (Instr.build 211 #[(0,v0),(1,v1),(2,v2),(3,v3),(5,v4)]).run Tryz.prog w= .ok (.agg #[a0_0,a1_0,a2_0,a3_0, .bool false,a4_0]) w:=by
 rw [QR]
 simp only [je1,jeZ,jfc,h0,h1,h2,h3,h4]
 simp [Instr.build,Instr.fill,go_sem]
theorem Yo {v0 a0_0 a0_1:Value} (h0:v0.cells= #[a0_0,a0_1]) {v1 a1_0 a1_1 a1_2 a1_3 a1_4 a1_5:Value} (h1:v1.cells= #[a1_0,a1_1,a1_2,a1_3,a1_4,a1_5]) (w:World) : (Instr.build 217 #[(0,v0),(1,v1)]).run Tryz.prog w= .ok (.agg #[a0_0,a0_1,a1_0,a1_1,a1_2,a1_3,a1_4,a1_5]) w:=by
 rw [QR]
 simp only [je1,jeZ,jfc,h0,h1]
 simp [Instr.build,Instr.fill,go_sem]
theorem vr (w:World) : (Instr.buildSlice 27 0 #[]).run Tryz.prog w= .ok (.slice (some ⟨w.heap.size,0,none⟩) 0 0) (w.alloc (.cells [].toArray 71)) :=by
 rw [qq]
 simp only [je1,jeZ,jfc]
 simp [Instr.buildSlice,Instr.fill,go_sem]
theorem qz {v0 a0_0:Value} (h0:v0.cells= #[a0_0]) (w:World) : (Instr.buildSlice 27 1 #[(0,v0)]).run Tryz.prog w= .ok (.slice (some ⟨w.heap.size,0,none⟩) 1 1) (w.alloc (.cells [a0_0].toArray 71)) :=by
 rw [qq]
 simp only [je1,jeZ,jfc,h0]
 simp [Instr.buildSlice,Instr.fill,go_sem]
theorem Kb {v0 a0_0 a0_1 a0_2 a0_3:Value} (h0:v0.cells= #[a0_0,a0_1,a0_2,a0_3]) (w:World) : (Instr.buildSlice 51 1 #[(0,v0)]).run Tryz.prog w= .ok (.slice (some ⟨w.heap.size,0,none⟩) 1 1) (w.alloc (.cells [a0_0,a0_1,a0_2,a0_3].toArray 56)) :=by
 rw [qq]
 simp only [je1,jeZ,jfc,h0]
 simp [Instr.buildSlice,Instr.fill,go_sem]
theorem kt (w:World) : (Instr.buildSlice 58 0 #[]).run Tryz.prog w= .ok (.slice (some ⟨w.heap.size,0,none⟩) 0 0) (w.alloc (.cells [].toArray 54)) :=by
 rw [qq]
 simp only [je1,jeZ,jfc]
 simp [Instr.buildSlice,Instr.fill,go_sem]
theorem qP {v0 a0_0 a0_1:Value} (h0:v0.cells= #[a0_0,a0_1]) (w:World) : (Instr.buildSlice 58 1 #[(0,v0)]).run Tryz.prog w= .ok (.slice (some ⟨w.heap.size,0,none⟩) 1 1) (w.alloc (.cells [a0_0,a0_1].toArray 54)) :=by
 rw [qq]
 simp only [je1,jeZ,jfc,h0]
 simp [Instr.buildSlice,Instr.fill,go_sem]
theorem vZ {v0 a0_0 a0_1:Value} (h0:v0.cells= #[a0_0,a0_1]) {v1 a1_0 a1_1:Value} (h1:v1.cells= #[a1_0,a1_1]) (w:World) : (Instr.buildSlice 58 2 #[(0,v0),(1,v1)]).run Tryz.prog w= .ok (.slice (some ⟨w.heap.size,0,none⟩) 2 2) (w.alloc (.cells [a0_0,a0_1,a1_0,a1_1].toArray 54)) :=by
 rw [qq]
 simp only [je1,jeZ,jfc,h0,h1]
 simp [Instr.buildSlice,Instr.fill,go_sem]
theorem Um {v0 a0_0 a0_1:Value} (h0:v0.cells= #[a0_0,a0_1]) {v1 a1_0 a1_1:Value} (h1:v1.cells= #[a1_0,a1_1]) {v2 a2_0 a2_1:Value} (h2:v2.cells= #[a2_0,a2_1]) {v3 a3_0 a3_1:Value} (h3:v3.cells= #[a3_0,a3_1]) (w:World) : (Instr.buildSlice 58 4 #[(0,v0),(1,v1),(2,v2),(3,v3)]).run Tryz.prog w= .ok (.slice (some ⟨w.heap.size,0,none⟩) 4 4) (w.alloc (.cells [a0_0,a0_1,a1_0,a1_1,a2_0,a2_1,a3_0,a3_1].toArray 54)) :=by
 rw [qq]
 simp only [je1,jeZ,jfc,h0,h1,h2,h3]
 simp [Instr.buildSlice,Instr.fill,go_sem]
theorem Yc (w:World) : (Instr.buildSlice 77 0 #[]).run Tryz.prog w= .ok (.slice (some ⟨w.heap.size,0,none⟩) 0 0) (w.alloc (.cells [].toArray 118)) :=by
 rw [qq]
 simp only [je1,jeZ,jfc]
 simp [Instr.buildSlice,Instr.fill,go_sem]
theorem wH {v0 a0_0 a0_1 a0_2 a0_3:Value} (h0:v0.cells= #[a0_0,a0_1,a0_2,a0_3]) (w:World) : (Instr.buildSlice 77 1 #[(0,v0)]).run Tryz.prog w= .ok (.slice (some ⟨w.heap.size,0,none⟩) 1 1) (w.alloc (.cells [a0_0,a0_1,a0_2,a0_3].toArray 118)) :=by
 rw [qq]
 simp only [je1,jeZ,jfc,h0]
 simp [Instr.buildSlice,Instr.fill,go_sem]
theorem Yr (w:World) : (Instr.buildSlice 82 0 #[]).run Tryz.prog w= .ok (.slice (some ⟨w.heap.size,0,none⟩) 0 0) (w.alloc (.cells [].toArray 125)) :=by
 rw [qq]
 simp only [je1,jeZ,jfc]
 simp [Instr.buildSlice,Instr.fill,go_sem]
theorem ym {v0 a0_0 a0_1 a0_2 a0_3 a0_4 a0_5 a0_6 a0_7:Value} (h0:v0.cells= #[a0_0,a0_1,a0_2,a0_3,a0_4,a0_5,a0_6,a0_7]) (w:World) : (Instr.buildSlice 82 1 #[(0,v0)]).run Tryz.prog w= .ok (.slice (some ⟨w.heap.size,0,none⟩) 1 1) (w.alloc (.cells [a0_0,a0_1,a0_2,a0_3,a0_4,a0_5,a0_6,a0_7].toArray 125)) :=by
 rw [qq]
 simp only [je1,jeZ,jfc,h0]
 simp [Instr.buildSlice,Instr.fill,go_sem]
theorem VO {v0 a0_0:Value} (h0:v0.cells= #[a0_0]) {v1 a1_0:Value} (h1:v1.cells= #[a1_0]) (w:World) : (Instr.buildSlice 91 2 #[(0,v0),(1,v1)]).run Tryz.prog w= .ok (.slice (some ⟨w.heap.size,0,none⟩) 2 2) (w.alloc (.cells [a0_0,a1_0].toArray 51)) :=by
 rw [qq]
 simp only [je1,jeZ,jfc,h0,h1]
 simp [Instr.buildSlice,Instr.fill,go_sem]
theorem Lr {v0 a0_0:Value} (h0:v0.cells= #[a0_0]) (w:World) : (Instr.buildSlice 105 1 #[(0,v0)]).run Tryz.prog w= .ok (.slice (some ⟨w.heap.size,0,none⟩) 1 1) (w.alloc (.cells [a0_0].toArray 3)) :=by
 rw [qq]
 simp only [je1,jeZ,jfc,h0]
 simp [Instr.buildSlice,Instr.fill,go_sem]
theorem Un {v0 a0_0 a0_1 a0_2 a0_3 a0_4:Value} (h0:v0.cells= #[a0_0,a0_1,a0_2,a0_3,a0_4]) (w:World) : (Instr.buildSlice 147 1 #[(0,v0)]).run Tryz.prog w= .ok (.slice (some ⟨w.heap.size,0,none⟩) 1 1) (w.alloc (.cells [a0_0,a0_1,a0_2,a0_3,a0_4].toArray 155)) :=by
 rw [qq]
 simp only [je1,jeZ,jfc,h0]
 simp [Instr.buildSlice,Instr.fill,go_sem]
theorem UC {v0 a0_0:Value} (h0:v0.cells= #[a0_0]) {v1 a1_0:Value} (h1:v1.cells= #[a1_0]) (w:World) : (Instr.buildSlice 190 2 #[(0,v0),(1,v1)]).run Tryz.prog w= .ok (.slice (some ⟨w.heap.size,0,none⟩) 2 2) (w.alloc (.cells [a0_0,a1_0].toArray 58)) :=by
 rw [qq]
 simp only [je1,jeZ,jfc,h0,h1]
 simp [Instr.buildSlice,Instr.fill,go_sem]
theorem Ws (w:World) : (Instr.buildSlice 209 0 #[]).run Tryz.prog w= .ok (.slice (some ⟨w.heap.size,0,none⟩) 0 0) (w.alloc (.cells [].toArray 217)) :=by
 rw [qq]
 simp only [je1,jeZ,jfc]
 simp [Instr.buildSlice,Instr.fill,go_sem]
theorem UD {v0 a0_0 a0_1 a0_2 a0_3 a0_4 a0_5 a0_6 a0_7:Value} (h0:v0.cells= #[a0_0,a0_1,a0_2,a0_3,a0_4,a0_5,a0_6,a0_7]) (w:World) : (Instr.buildSlice 209 1 #[(0,v0)]).run Tryz.prog w= .ok (.slice (some ⟨w.heap.size,0,none⟩) 1 1) (w.alloc (.cells [a0_0,a0_1,a0_2,a0_3,a0_4,a0_5,a0_6,a0_7].toArray 217)) :=by
 rw [qq]
 simp only [je1,jeZ,jfc,h0]
 simp [Instr.buildSlice,Instr.fill,go_sem]
theorem vN {o:Oper} {n:Nat} {env:List (Nat×Value)} {w0:Bs} {Rs:List Res} {x y:Operand} {T':TypeId} {a0 a1 b0 b1:Int} (ho:o.op= .binOp .eql 54 x y T') (hx:ev env x=some (.agg #[.int .i64 a0, .int .i64 a1])) (hy:ev env y=some (.agg #[.int .i64 b0, .int .i64 b1])) :Qt Tryz.prog o n env w0 Rs (.bool ((a0==b0) && (a1==b1))) :=
 QV fun a w hF _=>by
  unfold execOp;simp only [ho,hF.ev hx,hF.ev hy]
  cases h0: (a0==b0);all_goals cases h1: (a1==b1)
  all_goals simp [go_sem, *]
theorem KK {o:Oper} {n:Nat} {env:List (Nat×Value)} {w0:Bs} {Rs:List Res} {x y:Operand} {T':TypeId} {a0 a1 b0 b1:Int} (ho:o.op= .binOp .neq 54 x y T') (hx:ev env x=some (.agg #[.int .i64 a0, .int .i64 a1])) (hy:ev env y=some (.agg #[.int .i64 b0, .int .i64 b1])) :Qt Tryz.prog o n env w0 Rs (.bool (!((a0==b0) && (a1==b1)))) :=
 QV fun a w hF _=>by
  unfold execOp;simp only [ho,hF.ev hx,hF.ev hy]
  cases h0: (a0==b0);all_goals cases h1: (a1==b1)
  all_goals simp [go_sem, *]
theorem WK {o:Oper} {n:Nat} {env:List (Nat×Value)} {w0:Bs} {Rs:List Res} {x y:Operand} {T':TypeId} {a0 a1 a2 a3 b0 b1 b2 b3:Int} (ho:o.op= .binOp .eql 56 x y T') (hx:ev env x=some (.agg #[.int .i64 a0, .int .i64 a1, .int .i64 a2, .int .i64 a3])) (hy:ev env y=some (.agg #[.int .i64 b0, .int .i64 b1, .int .i64 b2, .int .i64 b3])) :Qt Tryz.prog o n env w0 Rs (.bool ((a0==b0) && (a1==b1) && (a2==b2) && (a3==b3))) :=
 QV fun a w hF _=>by
  unfold execOp;simp only [ho,hF.ev hx,hF.ev hy]
  cases h0: (a0==b0);all_goals cases h1: (a1==b1);all_goals cases h2: (a2==b2);all_goals cases h3: (a3==b3)
  all_goals simp [go_sem, *]
theorem X8 {o:Oper} {n:Nat} {env:List (Nat×Value)} {w0:Bs} {Rs:List Res} {x y:Operand} {T':TypeId} {a0 a1 a2 a3 b0 b1 b2 b3:Int} (ho:o.op= .binOp .neq 56 x y T') (hx:ev env x=some (.agg #[.int .i64 a0, .int .i64 a1, .int .i64 a2, .int .i64 a3])) (hy:ev env y=some (.agg #[.int .i64 b0, .int .i64 b1, .int .i64 b2, .int .i64 b3])) :Qt Tryz.prog o n env w0 Rs (.bool (!((a0==b0) && (a1==b1) && (a2==b2) && (a3==b3)))) :=
 QV fun a w hF _=>by
  unfold execOp;simp only [ho,hF.ev hx,hF.ev hy]
  cases h0: (a0==b0);all_goals cases h1: (a1==b1);all_goals cases h2: (a2==b2);all_goals cases h3: (a3==b3)
  all_goals simp [go_sem, *]
theorem YU {o:Oper} {n:Nat} {env:List (Nat×Value)} {w0:Bs} {Rs:List Res} {x y:Operand} {T':TypeId} {a0 a1 a2 a3 b0 b1 b2 b3:Int} (ho:o.op= .binOp .neq 118 x y T') (hx:ev env x=some (.agg #[.int .i64 a0, .int .i64 a1, .int .i64 a2, .int .i64 a3])) (hy:ev env y=some (.agg #[.int .i64 b0, .int .i64 b1, .int .i64 b2, .int .i64 b3])) :Qt Tryz.prog o n env w0 Rs (.bool (!((a0==b0) && (a1==b1) && (a2==b2) && (a3==b3)))) :=
 QV fun a w hF _=>by
  unfold execOp;simp only [ho,hF.ev hx,hF.ev hy]
  cases h0: (a0==b0);all_goals cases h1: (a1==b1);all_goals cases h2: (a2==b2);all_goals cases h3: (a3==b3)
  all_goals simp [go_sem, *]
theorem mixed:Tryz.prog.follows .mixedOrders=true:=by kernel_rfl
theorem tzA {p:Prop} (h:p:=by first|exact jk|exact jO|exact Jn|exact JW|exact qa|exact QW|exact Qy|exact QP|exact kJ|exact QX|exact Wo|exact qN) :p:=h
section
variable {P:Program} {n:Nat} {env:List (Nat×Value)} {w0:Bs} {Rs:List Res} {ops:Array Oper} {Q:Exit→Act→World→Prop} {K:Act→World→Prop} {o:Oper}
theorem qlS {T:TypeId} {m:Nat} {x:Operand} {b off:Nat} {cs:List Value} (ho:o.op= .load T x) (hx:ev env x=some (.pointer (some ⟨b,off,none⟩))) (hT:TyS P T m) (hc:∀w,St w0 Rs w→∀j v,cs[j]? =some v→w.cell? ⟨b,off+j,none⟩ =some v) (hl:cs.length=m) :Qt P o n env w0 Rs (.agg cs.toArray) :=jj ho hx hT hl hc
def pqV (env:List (Nat×Value)) :Op→Option Value
  | .move x=>ev env x
  | .assign x=>ev env x
  | .nilCheck x=>match ev env x with
    | some (.pointer (some p)) =>some (.pointer (some p))
    | _=>none
  | .extract x i=>match ev env x with
    | some (.tuple vs) =>vs.toList[i]?
    | _=>none
  | .pick c x y=>match ev env c with
    | some (.bool true) =>ev env x
    | some (.bool false) =>ev env y
    | _=>none
  | .binOp b _ x y _=>match ev env x,ev env y with
    | some (.int .i64 p),some (.int .i64 q) =>match b with
      | .lss=>some (.bool (decide (p<q)))
      | .leq=>some (.bool (decide (p≤q)))
      | .gtr=>some (.bool (decide (q<p)))
      | .geq=>some (.bool (decide (q≤p)))
      | .eql=>some (.bool (p==q))
      | .neq=>some (.bool (!(p==q)))
      | _=>none
    | _,_=>none
  | .unOp .not _ x=>match ev env x with
    | some (.bool p) =>some (.bool (!p))
    | _=>none
  | _=>none
theorem jeB {v:Value} (h:pqV env o.op=some v) :Qt P o n env w0 Rs v:=by
 unfold pqV at h
 split at h
 ·rename_i x ho;exact ja ho h
 ·rename_i x ho;exact jd ho h
 ·rename_i x ho
  split at h
  ·rename_i p hx;injection h with h;subst h;exact Jk ho hx
  ·cases h
 ·rename_i x i ho
  split at h
  ·rename_i vs hx;exact jG (vs:=vs.toList) ho hx h
  ·cases h
 ·rename_i c x y ho
  split at h
  ·rename_i hc;exact Jc ho hc h
  ·rename_i hc;exact jM ho hc h
  ·cases h
 ·rename_i b T x y T' ho
  split at h
  ·rename_i p q hx hy
   split at h
   ·injection h with h;subst h;exact j6 ho hx hy
   ·injection h with h;subst h;exact kZ ho hx hy
   ·injection h with h;subst h;exact qY ho hx hy
   ·injection h with h;subst h;exact Mp ho hx hy
   ·injection h with h;subst h;exact qB ho hx hy
   ·injection h with h;subst h;exact qC ho hx hy
   ·cases h
  ·cases h
 ·rename_i T x ho
  split at h
  ·rename_i p hx;injection h with h;subst h;exact J5 ho hx
  ·cases h
 ·cases h
end
section
variable {P:Program} {n:Nat} {env:List (Nat×Value)} {w0:Bs} {Rs:List Res} {ops:Array Oper} {Q:Exit→Act→World→Prop} {K:Act→World→Prop} {o:Oper}
theorem jA {T U m:Nat} {x y:Operand} {b:Nat} {cs vs:List Value} {v:Value} (k:Nat) (h:At n env w0 (Rs.set k (.cel b U vs)) K) (ho:o.op= .store T x y:=by exact rfl) (hd:o.dst=none:=by exact rfl) (hx:ev env x=some (.pointer (some ⟨b,0,none⟩)) :=by exact rfl) (hk:Rs[k]? =some (.cel b U cs) :=by exact rfl) (hz: (P.info? T).map (·.size) =some m:=by exact TyZ.szx tzA) (hy:ev env y=some v:=by exact rfl) (hv:v.cells=vs.toArray:=by exact rfl) (h1:vs.all (·.oneCell') =true:=by rfl) (hm:vs.length=m:=by exact rfl) (hl:cs.length=m:=by exact rfl) :At n env w0 Rs (fun a w=>o.wp P a w K Q) :=j9 k hz h ho hd hx hy hv h1 hm hk hl
end
theorem qA9 {p:Prop} (h:p:=by first|exact jeB rfl|exact qlS rfl rfl (by first|exact jl|exact jn|exact Ja|exact JH|exact Qu|exact qp|exact qh|exact VH|exact vE|exact Kq) (by first|exact jF (k:=0) rfl|exact jF (k:=1) rfl|exact jF (k:=2) rfl|exact jF (k:=3) rfl|exact jF (k:=4) rfl|exact jF (k:=5) rfl|exact jF (k:=6) rfl|exact jF (k:=7) rfl|exact jF (k:=8) rfl|exact jF (k:=9) rfl) (by rfl)|exact qlS rfl rfl (by first|exact jl|exact jn|exact Ja|exact JH|exact Qu|exact qp|exact qh|exact VH|exact vE|exact Kq) (by first|exact Yg (k:=0) rfl rfl rfl|exact Yg (k:=1) rfl rfl rfl|exact Yg (k:=2) rfl rfl rfl|exact Yg (k:=3) rfl rfl rfl|exact Yg (k:=4) rfl rfl rfl|exact Yg (k:=5) rfl rfl rfl|exact Yg (k:=6) rfl rfl rfl|exact Yg (k:=7) rfl rfl rfl|exact Yg (k:=8) rfl rfl rfl|exact Yg (k:=9) rfl rfl rfl) (by rfl)|exact qlS rfl rfl (by first|exact jl|exact jn|exact Ja|exact JH|exact Qu|exact qp|exact qh|exact VH|exact vE|exact Kq) (by first|exact rd3 (k:=0) rfl rfl rfl rfl|exact rd3 (k:=1) rfl rfl rfl rfl|exact rd3 (k:=2) rfl rfl rfl rfl|exact rd3 (k:=3) rfl rfl rfl rfl|exact rd3 (k:=4) rfl rfl rfl rfl|exact rd3 (k:=5) rfl rfl rfl rfl|exact rd3 (k:=6) rfl rfl rfl rfl|exact rd3 (k:=7) rfl rfl rfl rfl|exact rd3 (k:=8) rfl rfl rfl rfl|exact rd3 (k:=9) rfl rfl rfl rfl) (by rfl)|exact jr rfl rfl (by first|exact jz|exact JG|exact JN|exact QC|exact Gl) (by first|exact qo (k:=0) rfl rfl|exact qo (k:=1) rfl rfl|exact qo (k:=2) rfl rfl|exact qo (k:=3) rfl rfl|exact qo (k:=4) rfl rfl|exact qo (k:=5) rfl rfl|exact qo (k:=6) rfl rfl|exact qo (k:=7) rfl rfl|exact qo (k:=8) rfl rfl|exact qo (k:=9) rfl rfl)|exact vN rfl rfl rfl|exact WK rfl rfl rfl|exact jh rfl rfl (by first|exact jQ|exact Jg|exact Jx|exact Js|exact ql|exact JB|exact Jy|exact J9|exact Qk|exact Ql|exact QN|exact QO|exact kV|exact kW|exact q7|exact kv|exact kw|exact kI|exact Kx|exact Ky|exact vz|exact vA|exact KU|exact vC|exact Wm|exact Wn|exact U4|exact U5|exact ZU|exact ZT|exact zR|exact Xs)|exact JA rfl rfl (by first|exact jt|exact jI|exact j5|exact Jr|exact vD|exact vV|exact Jz|exact Jt|exact WN|exact qV|exact ZV)|exact jT rfl rfl rfl (by first|exact jt|exact jI|exact j5|exact Jr|exact vD|exact vV|exact Jz|exact Jt|exact WN|exact qV|exact ZV) (by omega)|exact KK rfl rfl rfl|exact X8 rfl rfl rfl|exact j4 rfl rfl rfl (by omega) (by omega)|exact JC rfl rfl rfl (by omega) (by omega)|exact qL rfl rfl rfl (by omega) (by omega)) :p:=h
section
variable {P:Program} {n:Nat} {env:List (Nat×Value)} {w0:Bs} {Rs:List Res} {ops:Array Oper} {Q:Exit→Act→World→Prop} {K:Act→World→Prop} {o:Oper}
theorem uw (ks:List Nat) {Rs0 X:List Res} (e:Rs0++X=wks ks Rs) :∀w,St w0 Rs w→St w0 Rs0 w:=fun w h=> (h.wk ks).upto (e▸jeA Rs0 X)
theorem aA9 {rest:List Oper} {v:Value} {d:Nat} (h:At n ((d,v) ::env) w0 Rs (fun a w=>wpList P ops Q rest a w)) (hg:o.guard=none:=by exact rfl) (hd:o.dst=some d:=by exact rfl) (hn:d<n:=by decide) (hq:Qt P o n env w0 Rs v:=by exact qA9) :At n env w0 Rs (fun a w=>wpList P ops Q (o::rest) a w) :=jc hg hd hn hq h
theorem oA9 {v:Value} {d:Nat} (h:At n ((d,v) ::env) w0 Rs K) (hd:o.dst=some d:=by exact rfl) (hn:d<n:=by decide) (hq:Qt P o n env w0 Rs v:=by exact qA9) :At n env w0 Rs (fun a w=>o.wp P a w K Q) :=jY hd hn hq h
theorem suA {p:Prop} (h:p:=by first|exact u9 rfl|exact uw [0] rfl|exact uw [1] rfl|exact uw [2] rfl|exact uw [3] rfl|exact uw [4] rfl|exact uw [5] rfl|exact uw [6] rfl|exact uw [7] rfl|exact uw [8] rfl|exact uw [9] rfl) :p:=h
theorem dK {o:Oper} {listed:Array Bool} {f fuel:Nat} {Rs0:List Res} {d:Nat} {v:Value} (i:Nat) (h:At n ((d,v) ::env) w0 Rs (fun a w=>q8 P .any ops Q (uZ w0 Rs0) f fuel (listed.setIfInBounds i true) a w)) (hi:ops[i]? =some o:=by exact rfl) (hsub:∀w,St w0 Rs w→St w0 Rs0 w:=by exact suA) (hg:o.guard=none:=by exact rfl) (hd:o.dst=some d:=by exact rfl) (hn:d<n:=by decide) (hS:Region.noSelect ops=true:=by kernel_rfl) (hfr:Region.free .any ops listed i=true:=by kernel_rfl) (hrd: (Region.ready .any ops listed).contains i=true:=by kernel_rfl) (hfi: (K0 .any ops listed i [] f&&i !=f) =true:=by kernel_rfl) (hq:Qt P o n env w0 Rs0 v:=by exact qA9) (hQ:∀c a w,Q (.panic c) (a.put o.dst v) w→Q (.panic c) a w:=by exact fun _ _ _ h=>h) :At n env w0 Rs (fun a w=>q8 P .any ops Q (uZ w0 Rs0) f (fuel+1) listed a w) :=d9 i hi [] hsub hq h hg hd hn hS hfr hrd hfi hQ
theorem eK {o:Oper} {listed:Array Bool} {f fuel:Nat} {Rs0:List Res} {d j dj:Nat} {v:Value} {oj:Oper} {c:Bool} (i:Nat) (h:At n ((d,v) ::env) w0 Rs (fun a w=>q8 P .any ops Q (uZ w0 Rs0) f fuel (listed.setIfInBounds i true) a w)) (hi:ops[i]? =some o:=by exact rfl) (hsub:∀w,St w0 Rs w→St w0 Rs0 w:=by exact suA) (hg:o.guard=some (j,c) :=by exact rfl) (hj:ops[j]? =some oj:=by exact rfl) (hdj:oj.dst=some dj:=by exact rfl) (hb:look env dj=some (.bool c) :=by exact rfl) (hd:o.dst=some d:=by exact rfl) (hn:d<n:=by decide) (hS:Region.noSelect ops=true:=by kernel_rfl) (hfr:Region.free .any ops listed i=true:=by kernel_rfl) (hrd: (Region.ready .any ops listed).contains i=true:=by kernel_rfl) (hfi: (K0 .any ops listed i [] f&&i !=f) =true:=by kernel_rfl) (hq:Qt P o n env w0 Rs0 v:=by exact qA9) (hQ:∀c a w,Q (.panic c) (a.put o.dst v) w→Q (.panic c) a w:=by exact fun _ _ _ h=>h) :At n env w0 Rs (fun a w=>q8 P .any ops Q (uZ w0 Rs0) f (fuel+1) listed a w) :=e9 i hi [] hsub hq h hg hj hdj hb hd hn hS hfr hrd hfi hQ
theorem fK {o:Oper} {listed:Array Bool} {f fuel:Nat} {Rs0:List Res} {d j dj:Nat} {oj:Oper} {b c:Bool} (i:Nat) (h:At n ((d,undef) ::env) w0 Rs (fun a w=>q8 P .any ops Q (uZ w0 Rs0) f fuel (listed.setIfInBounds i true) a w)) (hi:ops[i]? =some o:=by exact rfl) (hsub:∀w,St w0 Rs w→St w0 Rs0 w:=by exact suA) (hg:o.guard=some (j,c) :=by exact rfl) (hj:ops[j]? =some oj:=by exact rfl) (hdj:oj.dst=some dj:=by exact rfl) (hb:look env dj=some (.bool b) :=by exact rfl) (hne:b≠c:=by decide) (hd:o.dst=some d:=by exact rfl) (hn:d<n:=by decide) (hS:Region.noSelect ops=true:=by kernel_rfl) (hfr:Region.free .any ops listed i=true:=by kernel_rfl) (hrd: (Region.ready .any ops listed).contains i=true:=by kernel_rfl) (hfi: (K0 .any ops listed i [] f&&i !=f) =true:=by kernel_rfl) (hQ:∀c a w,Q (.panic c) (a.put o.dst undef) w→Q (.panic c) a w:=by exact fun _ _ _ h=>h) :At n env w0 Rs (fun a w=>q8 P .any ops Q (uZ w0 Rs0) f (fuel+1) listed a w) :=f9 i hi [] hsub h hg hj hdj hb hne hd hn hS hfr hrd hfi hQ
theorem dV {o:Oper} {listed:Array Bool} {f fuel:Nat} {Rs0:List Res} {d:Nat} {v:Value} (i:Nat) (ms:List Nat) (h:At n ((d,v) ::env) w0 Rs (fun a w=>q8 P .any ops Q (uZ w0 Rs0) f fuel (listed.setIfInBounds i true) a w)) (hi:ops[i]? =some o:=by exact rfl) (hsub:∀w,St w0 Rs w→St w0 Rs0 w:=by exact suA) (hg:o.guard=none:=by exact rfl) (hd:o.dst=some d:=by exact rfl) (hn:d<n:=by decide) (hS:Region.noSelect ops=true:=by kernel_rfl) (hfr:Region.free .any ops listed i=true:=by kernel_rfl) (hrd: (Region.ready .any ops listed).contains i=true:=by kernel_rfl) (hfi: (K0 .any ops listed i ms f&&i !=f) =true:=by kernel_rfl) (hq:Qt P o n env w0 Rs0 v:=by exact qA9) (hQ:∀c a w,Q (.panic c) (a.put o.dst v) w→Q (.panic c) a w:=by exact fun _ _ _ h=>h) :At n env w0 Rs (fun a w=>q8 P .any ops Q (uZ w0 Rs0) f (fuel+1) listed a w) :=d9 i hi ms hsub hq h hg hd hn hS hfr hrd hfi hQ
theorem eV {o:Oper} {listed:Array Bool} {f fuel:Nat} {Rs0:List Res} {d j dj:Nat} {v:Value} {oj:Oper} {c:Bool} (i:Nat) (ms:List Nat) (h:At n ((d,v) ::env) w0 Rs (fun a w=>q8 P .any ops Q (uZ w0 Rs0) f fuel (listed.setIfInBounds i true) a w)) (hi:ops[i]? =some o:=by exact rfl) (hsub:∀w,St w0 Rs w→St w0 Rs0 w:=by exact suA) (hg:o.guard=some (j,c) :=by exact rfl) (hj:ops[j]? =some oj:=by exact rfl) (hdj:oj.dst=some dj:=by exact rfl) (hb:look env dj=some (.bool c) :=by exact rfl) (hd:o.dst=some d:=by exact rfl) (hn:d<n:=by decide) (hS:Region.noSelect ops=true:=by kernel_rfl) (hfr:Region.free .any ops listed i=true:=by kernel_rfl) (hrd: (Region.ready .any ops listed).contains i=true:=by kernel_rfl) (hfi: (K0 .any ops listed i ms f&&i !=f) =true:=by kernel_rfl) (hq:Qt P o n env w0 Rs0 v:=by exact qA9) (hQ:∀c a w,Q (.panic c) (a.put o.dst v) w→Q (.panic c) a w:=by exact fun _ _ _ h=>h) :At n env w0 Rs (fun a w=>q8 P .any ops Q (uZ w0 Rs0) f (fuel+1) listed a w) :=e9 i hi ms hsub hq h hg hj hdj hb hd hn hS hfr hrd hfi hQ
theorem fV {o:Oper} {listed:Array Bool} {f fuel:Nat} {Rs0:List Res} {d j dj:Nat} {oj:Oper} {b c:Bool} (i:Nat) (ms:List Nat) (h:At n ((d,undef) ::env) w0 Rs (fun a w=>q8 P .any ops Q (uZ w0 Rs0) f fuel (listed.setIfInBounds i true) a w)) (hi:ops[i]? =some o:=by exact rfl) (hsub:∀w,St w0 Rs w→St w0 Rs0 w:=by exact suA) (hg:o.guard=some (j,c) :=by exact rfl) (hj:ops[j]? =some oj:=by exact rfl) (hdj:oj.dst=some dj:=by exact rfl) (hb:look env dj=some (.bool b) :=by exact rfl) (hne:b≠c:=by decide) (hd:o.dst=some d:=by exact rfl) (hn:d<n:=by decide) (hS:Region.noSelect ops=true:=by kernel_rfl) (hfr:Region.free .any ops listed i=true:=by kernel_rfl) (hrd: (Region.ready .any ops listed).contains i=true:=by kernel_rfl) (hfi: (K0 .any ops listed i ms f&&i !=f) =true:=by kernel_rfl) (hQ:∀c a w,Q (.panic c) (a.put o.dst undef) w→Q (.panic c) a w:=by exact fun _ _ _ h=>h) :At n env w0 Rs (fun a w=>q8 P .any ops Q (uZ w0 Rs0) f (fuel+1) listed a w) :=f9 i hi ms hsub h hg hj hdj hb hne hd hn hS hfr hrd hfi hQ
theorem dZ {o:Oper} {listed:Array Bool} {f fuel:Nat} {Rs0:List Res} {d:Nat} {v:Value} (i:Nat) (hi:ops[i]? =some o) (hq:Qt P o n env w0 Rs0 v) (h:At n ((d,v) ::env) w0 Rs (fun a w=>q8 P .any ops Q (uZ w0 Rs0) f fuel (listed.setIfInBounds i true) a w)) (hsub:∀w,St w0 Rs w→St w0 Rs0 w:=by exact suA) (hg:o.guard=none:=by exact rfl) (hd:o.dst=some d:=by exact rfl) (hn:d<n:=by decide) (hS:Region.noSelect ops=true:=by kernel_rfl) (hfr:Region.free .any ops listed i=true:=by kernel_rfl) (hrd: (Region.ready .any ops listed).contains i=true:=by kernel_rfl) (hfi: (K0 .any ops listed i [] f&&i !=f) =true:=by kernel_rfl) (hQ:∀c a w,Q (.panic c) (a.put o.dst v) w→Q (.panic c) a w:=by exact fun _ _ _ h=>h) :At n env w0 Rs (fun a w=>q8 P .any ops Q (uZ w0 Rs0) f (fuel+1) listed a w) :=d9 i hi [] hsub hq h hg hd hn hS hfr hrd hfi hQ
theorem eZ {o:Oper} {listed:Array Bool} {f fuel:Nat} {Rs0:List Res} {d j dj:Nat} {v:Value} {oj:Oper} {c:Bool} (i:Nat) (hi:ops[i]? =some o) (hq:Qt P o n env w0 Rs0 v) (h:At n ((d,v) ::env) w0 Rs (fun a w=>q8 P .any ops Q (uZ w0 Rs0) f fuel (listed.setIfInBounds i true) a w)) (hsub:∀w,St w0 Rs w→St w0 Rs0 w:=by exact suA) (hg:o.guard=some (j,c) :=by exact rfl) (hj:ops[j]? =some oj:=by exact rfl) (hdj:oj.dst=some dj:=by exact rfl) (hb:look env dj=some (.bool c) :=by exact rfl) (hd:o.dst=some d:=by exact rfl) (hn:d<n:=by decide) (hS:Region.noSelect ops=true:=by kernel_rfl) (hfr:Region.free .any ops listed i=true:=by kernel_rfl) (hrd: (Region.ready .any ops listed).contains i=true:=by kernel_rfl) (hfi: (K0 .any ops listed i [] f&&i !=f) =true:=by kernel_rfl) (hQ:∀c a w,Q (.panic c) (a.put o.dst v) w→Q (.panic c) a w:=by exact fun _ _ _ h=>h) :At n env w0 Rs (fun a w=>q8 P .any ops Q (uZ w0 Rs0) f (fuel+1) listed a w) :=e9 i hi [] hsub hq h hg hj hdj hb hd hn hS hfr hrd hfi hQ
theorem aL {T:TypeId} {d m q:Nat} {z:Value} (h:∀b,At n ((d, .pointer (some ⟨b,0,none⟩)) ::env) w0 (Rs++ [.cel b T z.cells.toList]) K) (ho:o.op= .alloc T:=by exact rfl) (hz:TyZ P T m q z:=by exact tzA) (hd:o.dst=some d:=by exact rfl) (hn:d<n:=by exact lb rfl) :At n env w0 Rs (fun a w=>o.wp P a w K Q) :=jK ho hz hd hn h
theorem aX {T:TypeId} {x:Operand} {v:Value} {cs:List Value} {d:Nat} (h:∀b,At n ((d, .pointer (some ⟨b,0,none⟩)) ::env) w0 (Rs++ [.cel b T cs]) K) (ho:o.op= .box T x:=by exact rfl) (hx:ev env x=some v:=by exact rfl) (hv:v.cells=cs.toArray:=by exact rfl) (hd:o.dst=some d:=by exact rfl) (hn:d<n:=by exact lb rfl) :At n env w0 Rs (fun a w=>o.wp P a w K Q) :=Jv ho hx hv hd hn h
end
structure Hk (B:Prop) :Prop where
  o:B
theorem S1 {A B:Prop} (h:B) (s:Hk B→A:=by intro h; (first|with_reducible refine je ?_|with_reducible refine jb ?_|with_reducible refine jf ?_|with_reducible refine jg ?_|refine aA9 ?_|refine g9 ?_|refine h9 ?_|refine oA9 ?_|refine js (fun h=>by cases h) ?_|with_reducible refine jv ?_|with_reducible refine jB ?_|with_reducible refine jD ?_|with_reducible refine jC ?_|with_reducible refine jW ?_|with_reducible refine JK ?_|with_reducible refine Jd ?_|refine UU (by decide) ?_|with_reducible refine Jo ?_|with_reducible refine JR ?_|refine jcT rfl rfl ?_|refine qJ rfl rfl ?_|refine Jq mixed rfl ?_|refine jo rfl ?_|refine qv rfl rfl rfl rfl rfl (by decide) ?_|(refine jA 0 ?_;refine n9 ?_)|(refine jA 1 ?_;refine n9 ?_)|(refine jA 2 ?_;refine n9 ?_)|(refine jA 3 ?_;refine n9 ?_)|(refine jA 4 ?_;refine n9 ?_)|(refine jA 5 ?_;refine n9 ?_)|(refine jA 6 ?_;refine n9 ?_)|(refine jA 7 ?_;refine n9 ?_)|(refine jA 8 ?_;refine n9 ?_)|(refine jA 9 ?_;refine n9 ?_));exact h.o) :A:=s ⟨h⟩
theorem S2 {A B:Prop} (h:B) (s:Hk B→A:=by intro h; (iterate 2 refine S1 ?_);exact h.o) :A:=s ⟨h⟩
theorem S3 {A B:Prop} (h:B) (s:Hk B→A:=by intro h; (iterate 3 refine S1 ?_);exact h.o) :A:=s ⟨h⟩
theorem S4 {A B:Prop} (h:B) (s:Hk B→A:=by intro h; (iterate 4 refine S1 ?_);exact h.o) :A:=s ⟨h⟩
theorem S5 {A B:Prop} (h:B) (s:Hk B→A:=by intro h; (iterate 5 refine S1 ?_);exact h.o) :A:=s ⟨h⟩
theorem S6 {A B:Prop} (h:B) (s:Hk B→A:=by intro h; (iterate 6 refine S1 ?_);exact h.o) :A:=s ⟨h⟩
theorem S7 {A B:Prop} (h:B) (s:Hk B→A:=by intro h; (iterate 7 refine S1 ?_);exact h.o) :A:=s ⟨h⟩
theorem S8 {A B:Prop} (h:B) (s:Hk B→A:=by intro h; (iterate 8 refine S1 ?_);exact h.o) :A:=s ⟨h⟩
theorem S9 {A B:Prop} (h:B) (s:Hk B→A:=by intro h; (iterate 9 refine S1 ?_);exact h.o) :A:=s ⟨h⟩
theorem S10 {A B:Prop} (h:B) (s:Hk B→A:=by intro h; (iterate 10 refine S1 ?_);exact h.o) :A:=s ⟨h⟩
theorem S11 {A B:Prop} (h:B) (s:Hk B→A:=by intro h; (iterate 11 refine S1 ?_);exact h.o) :A:=s ⟨h⟩
theorem S12 {A B:Prop} (h:B) (s:Hk B→A:=by intro h; (iterate 12 refine S1 ?_);exact h.o) :A:=s ⟨h⟩
theorem S13 {A B:Prop} (h:B) (s:Hk B→A:=by intro h; (iterate 13 refine S1 ?_);exact h.o) :A:=s ⟨h⟩
theorem S14 {A B:Prop} (h:B) (s:Hk B→A:=by intro h; (iterate 14 refine S1 ?_);exact h.o) :A:=s ⟨h⟩
theorem S15 {A B:Prop} (h:B) (s:Hk B→A:=by intro h; (iterate 15 refine S1 ?_);exact h.o) :A:=s ⟨h⟩
theorem S16 {A B:Prop} (h:B) (s:Hk B→A:=by intro h; (iterate 16 refine S1 ?_);exact h.o) :A:=s ⟨h⟩
theorem S18 {A B:Prop} (h:B) (s:Hk B→A:=by intro h; (iterate 18 refine S1 ?_);exact h.o) :A:=s ⟨h⟩
theorem S19 {A B:Prop} (h:B) (s:Hk B→A:=by intro h; (iterate 19 refine S1 ?_);exact h.o) :A:=s ⟨h⟩
theorem S20 {A B:Prop} (h:B) (s:Hk B→A:=by intro h; (iterate 20 refine S1 ?_);exact h.o) :A:=s ⟨h⟩
theorem S22 {A B:Prop} (h:B) (s:Hk B→A:=by intro h; (iterate 22 refine S1 ?_);exact h.o) :A:=s ⟨h⟩
theorem S24 {A B:Prop} (h:B) (s:Hk B→A:=by intro h; (iterate 24 refine S1 ?_);exact h.o) :A:=s ⟨h⟩
theorem S26 {A B:Prop} (h:B) (s:Hk B→A:=by intro h; (iterate 26 refine S1 ?_);exact h.o) :A:=s ⟨h⟩
theorem S27 {A B:Prop} (h:B) (s:Hk B→A:=by intro h; (iterate 27 refine S1 ?_);exact h.o) :A:=s ⟨h⟩
theorem S32 {A B:Prop} (h:B) (s:Hk B→A:=by intro h; (iterate 32 refine S1 ?_);exact h.o) :A:=s ⟨h⟩
theorem S42 {A B:Prop} (h:B) (s:Hk B→A:=by intro h; (iterate 42 refine S1 ?_);exact h.o) :A:=s ⟨h⟩
theorem N1 {A B:Prop} (h:B) (s:Hk B→A:=by intro h;refine n9 ?_; (iterate 1 refine S1 ?_);exact h.o) :A:=s ⟨h⟩
theorem N2 {A B:Prop} (h:B) (s:Hk B→A:=by intro h;refine n9 ?_; (iterate 2 refine S1 ?_);exact h.o) :A:=s ⟨h⟩
theorem N3 {A B:Prop} (h:B) (s:Hk B→A:=by intro h;refine n9 ?_; (iterate 3 refine S1 ?_);exact h.o) :A:=s ⟨h⟩
theorem N4 {A B:Prop} (h:B) (s:Hk B→A:=by intro h;refine n9 ?_; (iterate 4 refine S1 ?_);exact h.o) :A:=s ⟨h⟩
theorem N5 {A B:Prop} (h:B) (s:Hk B→A:=by intro h;refine n9 ?_; (iterate 5 refine S1 ?_);exact h.o) :A:=s ⟨h⟩
theorem N6 {A B:Prop} (h:B) (s:Hk B→A:=by intro h;refine n9 ?_; (iterate 6 refine S1 ?_);exact h.o) :A:=s ⟨h⟩
theorem N7 {A B:Prop} (h:B) (s:Hk B→A:=by intro h;refine n9 ?_; (iterate 7 refine S1 ?_);exact h.o) :A:=s ⟨h⟩
theorem N8 {A B:Prop} (h:B) (s:Hk B→A:=by intro h;refine n9 ?_; (iterate 8 refine S1 ?_);exact h.o) :A:=s ⟨h⟩
theorem N9 {A B:Prop} (h:B) (s:Hk B→A:=by intro h;refine n9 ?_; (iterate 9 refine S1 ?_);exact h.o) :A:=s ⟨h⟩
theorem N10 {A B:Prop} (h:B) (s:Hk B→A:=by intro h;refine n9 ?_; (iterate 10 refine S1 ?_);exact h.o) :A:=s ⟨h⟩
theorem N11 {A B:Prop} (h:B) (s:Hk B→A:=by intro h;refine n9 ?_; (iterate 11 refine S1 ?_);exact h.o) :A:=s ⟨h⟩
theorem N12 {A B:Prop} (h:B) (s:Hk B→A:=by intro h;refine n9 ?_; (iterate 12 refine S1 ?_);exact h.o) :A:=s ⟨h⟩
theorem N13 {A B:Prop} (h:B) (s:Hk B→A:=by intro h;refine n9 ?_; (iterate 13 refine S1 ?_);exact h.o) :A:=s ⟨h⟩
theorem N14 {A B:Prop} (h:B) (s:Hk B→A:=by intro h;refine n9 ?_; (iterate 14 refine S1 ?_);exact h.o) :A:=s ⟨h⟩
theorem N15 {A B:Prop} (h:B) (s:Hk B→A:=by intro h;refine n9 ?_; (iterate 15 refine S1 ?_);exact h.o) :A:=s ⟨h⟩
theorem N16 {A B:Prop} (h:B) (s:Hk B→A:=by intro h;refine n9 ?_; (iterate 16 refine S1 ?_);exact h.o) :A:=s ⟨h⟩
theorem N20 {A B:Prop} (h:B) (s:Hk B→A:=by intro h;refine n9 ?_; (iterate 20 refine S1 ?_);exact h.o) :A:=s ⟨h⟩
theorem N22 {A B:Prop} (h:B) (s:Hk B→A:=by intro h;refine n9 ?_; (iterate 22 refine S1 ?_);exact h.o) :A:=s ⟨h⟩
theorem N23 {A B:Prop} (h:B) (s:Hk B→A:=by intro h;refine n9 ?_; (iterate 23 refine S1 ?_);exact h.o) :A:=s ⟨h⟩
theorem V1 {A B:Prop} (h:B) (s:Hk B→A:=by intro h;refine v9 ?_; (iterate 1 refine S1 ?_);exact h.o) :A:=s ⟨h⟩
theorem V2 {A B:Prop} (h:B) (s:Hk B→A:=by intro h;refine v9 ?_; (iterate 2 refine S1 ?_);exact h.o) :A:=s ⟨h⟩
theorem V3 {A B:Prop} (h:B) (s:Hk B→A:=by intro h;refine v9 ?_; (iterate 3 refine S1 ?_);exact h.o) :A:=s ⟨h⟩
theorem V4 {A B:Prop} (h:B) (s:Hk B→A:=by intro h;refine v9 ?_; (iterate 4 refine S1 ?_);exact h.o) :A:=s ⟨h⟩
theorem V5 {A B:Prop} (h:B) (s:Hk B→A:=by intro h;refine v9 ?_; (iterate 5 refine S1 ?_);exact h.o) :A:=s ⟨h⟩
theorem V6 {A B:Prop} (h:B) (s:Hk B→A:=by intro h;refine v9 ?_; (iterate 6 refine S1 ?_);exact h.o) :A:=s ⟨h⟩
theorem V7 {A B:Prop} (h:B) (s:Hk B→A:=by intro h;refine v9 ?_; (iterate 7 refine S1 ?_);exact h.o) :A:=s ⟨h⟩
theorem V8 {A B:Prop} (h:B) (s:Hk B→A:=by intro h;refine v9 ?_; (iterate 8 refine S1 ?_);exact h.o) :A:=s ⟨h⟩
theorem V14 {A B:Prop} (h:B) (s:Hk B→A:=by intro h;refine v9 ?_; (iterate 14 refine S1 ?_);exact h.o) :A:=s ⟨h⟩
theorem V15 {A B:Prop} (h:B) (s:Hk B→A:=by intro h;refine v9 ?_; (iterate 15 refine S1 ?_);exact h.o) :A:=s ⟨h⟩
end Go.Proofs.YtkagkgjjfdkoaaaGreat
