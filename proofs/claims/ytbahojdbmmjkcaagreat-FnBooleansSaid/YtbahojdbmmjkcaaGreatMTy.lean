import Derived.Test.YtbahojdbmmjkcaaGreatMSd
set_option linter.unusedVariables false
set_option linter.unusedSimpArgs false
namespace Go.Proofs.YtbahojdbmmjkcaaGreat
open Go Go.RowKit
variable {A B p:Prop} {Rs Rs0:List Res} {T T':TypeId} {a0 a1 b0 b1:Int} {a0_0 a0_1 a0_2 a0_3 a0_4 a1_0 a1_1 a1_2 a2_0 a3_0 a4_0 v v0 v1 v2 v3 v4 z:Value} {c:Bool} {cs:List Value} {d dj f fuel j m n:Nat} {listed:Array Bool} {o oj:Oper} {rest:List Oper} {w0:Bs} {x y:Operand}
set_option maxRecDepth 100000
theorem VQ {P:Program} {T k:Nat} (h: (P.info? T).map (fun i=> (i.zero,i.size,i.bytes)) =some (some z,m,k)) (hc:z.cells.size=m) :TyZ P T m k z:=by
 cases hi:P.info? T with
 | none=>simp [hi] at h
 | some i=>
  simp only [hi,jla,Option.some.injEq,Prod.mk.injEq] at h
  exact⟨⟨i,hi,h.1,h.2.1,h.2.2⟩,hc⟩
theorem ju:Ty1 Tryz.prog 2:=⟨⟨_,Tryz.underlying2,rfl⟩,by kernel_rfl⟩
theorem kY:TyZ Tryz.prog 2 1 8 (.int .i64 0) :=VQ Kr rfl
theorem Y9:Ty1 Tryz.prog 3:=⟨⟨_,Tryz.underlying3,rfl⟩,by kernel_rfl⟩
theorem Rt:TyZ Tryz.prog 3 1 8 (.int .i64 0) :=VQ Kr rfl
theorem QT:Ty1 Tryz.prog 4:=⟨⟨_,Tryz.underlying4,rfl⟩,by kernel_rfl⟩
theorem Kh:Tryz.prog.underlying 4=some .bool:=Tryz.underlying4
theorem Yw:TyZ Tryz.prog 4 1 1 (.bool false) :=VQ Kr rfl
theorem jbo:Ty1 Tryz.prog 5:=⟨⟨_,Tryz.underlying5,rfl⟩,by kernel_rfl⟩
theorem UM:Ty1 Tryz.prog 22:=⟨⟨_,Tryz.underlying22,rfl⟩,by kernel_rfl⟩
theorem wL:TyL Tryz.prog 22 5 1:=⟨Tryz.underlying22,by kernel_rfl⟩
theorem JL:Ty1 Tryz.prog 24:=⟨⟨_,Tryz.underlying24,rfl⟩,by kernel_rfl⟩
theorem jJ:TyL Tryz.prog 24 74 1:=⟨Tryz.underlying24,by kernel_rfl⟩
theorem Qy:TyZ Tryz.prog 24 1 24 (.slice none 0 0) :=VQ Kr rfl
theorem jv:TyS Tryz.prog 26 1:=⟨⟨_,Tryz.underlying26,rfl⟩,by kernel_rfl⟩
theorem Jv:TyF Tryz.prog 26 0 0:=⟨_,_,Tryz.underlying26,rfl,rfl,0,by kernel_rfl⟩
theorem jq:TyZ Tryz.prog 26 1 24 (.agg #[.slice none 0 0]) :=VQ Kr rfl
theorem jk:TyS Tryz.prog 28 2:=⟨⟨_,Tryz.underlying28,rfl⟩,by kernel_rfl⟩
theorem Jn:TyF Tryz.prog 28 0 0:=⟨_,_,Tryz.underlying28,rfl,rfl,0,by kernel_rfl⟩
theorem jH:TyF Tryz.prog 28 1 1:=⟨_,_,Tryz.underlying28,rfl,rfl,0,by kernel_rfl⟩
theorem jI:TyZ Tryz.prog 28 2 16 (.agg #[.int .i64 0, .int .i64 0]) :=VQ Kr rfl
theorem JH:Ty1 Tryz.prog 58:=⟨⟨_,Tryz.underlying58,rfl⟩,by kernel_rfl⟩
theorem jD:TyL Tryz.prog 58 28 2:=⟨Tryz.underlying58,by kernel_rfl⟩
theorem Va:TyZ Tryz.prog 58 1 24 (.slice none 0 0) :=VQ Kr rfl
theorem GW:TyL Tryz.prog 68 2 1:=⟨Tryz.underlying68,by kernel_rfl⟩
theorem JP:TyS Tryz.prog 74 1:=⟨⟨_,Tryz.underlying74,rfl⟩,by kernel_rfl⟩
theorem JA:TyF Tryz.prog 74 0 0:=⟨_,_,Tryz.underlying74,rfl,rfl,0,by kernel_rfl⟩
theorem Jw:TyZ Tryz.prog 74 1 24 (.agg #[.slice none 0 0]) :=VQ Kr rfl
theorem Ju:TyL Tryz.prog 89 147 4:=⟨Tryz.underlying89,by kernel_rfl⟩
theorem zD:Ty1 Tryz.prog 93:=⟨⟨_,Tryz.underlying93,rfl⟩,by kernel_rfl⟩
theorem Jk:TyL Tryz.prog 93 96 4:=⟨Tryz.underlying93,by kernel_rfl⟩
theorem qI:TyS Tryz.prog 96 4:=⟨⟨_,Tryz.underlying96,rfl⟩,by kernel_rfl⟩
theorem qx:TyF Tryz.prog 96 0 0:=⟨_,_,Tryz.underlying96,rfl,rfl,1,by kernel_rfl⟩
theorem ql:TyF Tryz.prog 96 1 2:=⟨_,_,Tryz.underlying96,rfl,rfl,1,by kernel_rfl⟩
theorem qm:TyZ Tryz.prog 96 4 32 (.agg #[.int .i64 0, .int .i64 0, .int .i64 0, .int .i64 0]) :=VQ Kr rfl
theorem za:Ty1 Tryz.prog 139:=⟨⟨_,Tryz.underlying139,rfl⟩,by kernel_rfl⟩
theorem BV:TyZ Tryz.prog 139 1 8 (.int .u64 0) :=VQ Kr rfl
theorem VV:TyF Tryz.prog 141 0 0:=⟨_,_,Tryz.underlying141,rfl,rfl,0,by kernel_rfl⟩
theorem QZ:TyF Tryz.prog 141 1 1:=⟨_,_,Tryz.underlying141,rfl,rfl,0,by kernel_rfl⟩
theorem Kx:TyF Tryz.prog 141 2 2:=⟨_,_,Tryz.underlying141,rfl,rfl,0,by kernel_rfl⟩
theorem KT:TyS Tryz.prog 147 4:=⟨⟨_,Tryz.underlying147,rfl⟩,by kernel_rfl⟩
theorem JD:TyF Tryz.prog 147 0 0:=⟨_,_,Tryz.underlying147,rfl,rfl,1,by kernel_rfl⟩
theorem JG:TyF Tryz.prog 147 1 2:=⟨_,_,Tryz.underlying147,rfl,rfl,1,by kernel_rfl⟩
theorem kq:TyZ Tryz.prog 147 4 32 (.agg #[.int .i64 0, .int .i64 0, .int .i64 0, .int .i64 0]) :=VQ Kr rfl
theorem Vw:TyL Tryz.prog 154 93 1:=⟨Tryz.underlying154,by kernel_rfl⟩
theorem Xu:TyL Tryz.prog 166 3 1:=⟨Tryz.underlying166,by kernel_rfl⟩
theorem Vg:TyL Tryz.prog 167 4 1:=⟨Tryz.underlying167,by kernel_rfl⟩
theorem wM:TyS Tryz.prog 171 7:=⟨⟨_,Tryz.underlying171,rfl⟩,by kernel_rfl⟩
theorem kW:TyF Tryz.prog 171 2 4:=⟨_,_,Tryz.underlying171,rfl,rfl,0,by kernel_rfl⟩
theorem Vt:TyF Tryz.prog 171 3 5:=⟨_,_,Tryz.underlying171,rfl,rfl,0,by kernel_rfl⟩
theorem Vu:TyF Tryz.prog 171 4 6:=⟨_,_,Tryz.underlying171,rfl,rfl,0,by kernel_rfl⟩
theorem QR:TyZ Tryz.prog 171 7 56 (.agg #[.int .i64 0, .int .i64 0, .int .i64 0, .int .i64 0, .int .i64 0, .int .i64 0, .int .i64 0]) :=VQ Kr rfl
theorem JC:TyL Tryz.prog 202 210 5:=⟨Tryz.underlying202,by kernel_rfl⟩
theorem QL:TyS Tryz.prog 204 3:=⟨⟨_,Tryz.underlying204,rfl⟩,by kernel_rfl⟩
theorem Yu:TyF Tryz.prog 204 0 0:=⟨_,_,Tryz.underlying204,rfl,rfl,0,by kernel_rfl⟩
theorem Yv:TyF Tryz.prog 204 1 1:=⟨_,_,Tryz.underlying204,rfl,rfl,0,by kernel_rfl⟩
theorem Qx:TyF Tryz.prog 204 2 2:=⟨_,_,Tryz.underlying204,rfl,rfl,0,by kernel_rfl⟩
theorem Kj:TyZ Tryz.prog 204 3 24 (.agg #[.int .i64 0, .int .i64 0, .bool false]) :=VQ Kr rfl
theorem Vx:TyS Tryz.prog 206 6:=⟨⟨_,Tryz.underlying206,rfl⟩,by kernel_rfl⟩
theorem Ki:TyF Tryz.prog 206 0 0:=⟨_,_,Tryz.underlying206,rfl,rfl,2,by kernel_rfl⟩
theorem vC:TyF Tryz.prog 206 1 3:=⟨_,_,Tryz.underlying206,rfl,rfl,2,by kernel_rfl⟩
theorem Q9:TyZ Tryz.prog 206 6 48 (.agg #[.int .i64 0, .int .i64 0, .bool false, .int .i64 0, .int .i64 0, .bool false]) :=VQ Kr rfl
theorem qj:TyS Tryz.prog 210 5:=⟨⟨_,Tryz.underlying210,rfl⟩,by kernel_rfl⟩
theorem xq:TyF Tryz.prog 210 0 0:=⟨_,_,Tryz.underlying210,rfl,rfl,1,by kernel_rfl⟩
theorem QA:TyF Tryz.prog 210 1 2:=⟨_,_,Tryz.underlying210,rfl,rfl,2,by kernel_rfl⟩
theorem Qc:TyZ Tryz.prog 210 5 40 (.agg #[.int .i64 0, .int .i64 0, .int .i64 0, .int .i64 0, .bool false]) :=VQ Kr rfl
theorem JI:TyL Tryz.prog 222 262 8:=⟨Tryz.underlying222,by kernel_rfl⟩
theorem VW:TyL Tryz.prog 255 58 1:=⟨Tryz.underlying255,by kernel_rfl⟩
theorem Qs:TyF Tryz.prog 262 0 0:=⟨_,_,Tryz.underlying262,rfl,rfl,3,by kernel_rfl⟩
theorem Ky:TyF Tryz.prog 262 1 4:=⟨_,_,Tryz.underlying262,rfl,rfl,0,by kernel_rfl⟩
theorem Kz:TyF Tryz.prog 262 2 5:=⟨_,_,Tryz.underlying262,rfl,rfl,0,by kernel_rfl⟩
theorem uk:TyF Tryz.prog 262 3 6:=⟨_,_,Tryz.underlying262,rfl,rfl,0,by kernel_rfl⟩
theorem ul:TyF Tryz.prog 262 4 7:=⟨_,_,Tryz.underlying262,rfl,rfl,0,by kernel_rfl⟩
theorem Us:TyZ Tryz.prog 262 8 64 (.agg #[.int .i64 0, .int .i64 0, .int .i64 0, .int .i64 0, .int .i64 0, .int .i64 0, .int .i64 0, .int .i64 0]) :=VQ Kr rfl
theorem Qj:TyL Tryz.prog 271 279 8:=⟨Tryz.underlying271,by kernel_rfl⟩
theorem qp:TyS Tryz.prog 273 6:=⟨⟨_,Tryz.underlying273,rfl⟩,by kernel_rfl⟩
theorem Q7:TyF Tryz.prog 273 0 0:=⟨_,_,Tryz.underlying273,rfl,rfl,0,by kernel_rfl⟩
theorem Q8:TyF Tryz.prog 273 1 1:=⟨_,_,Tryz.underlying273,rfl,rfl,0,by kernel_rfl⟩
theorem K9:TyF Tryz.prog 273 2 2:=⟨_,_,Tryz.underlying273,rfl,rfl,0,by kernel_rfl⟩
theorem va:TyF Tryz.prog 273 3 3:=⟨_,_,Tryz.underlying273,rfl,rfl,0,by kernel_rfl⟩
theorem kX:TyF Tryz.prog 273 4 4:=⟨_,_,Tryz.underlying273,rfl,rfl,0,by kernel_rfl⟩
theorem Vv:TyF Tryz.prog 273 5 5:=⟨_,_,Tryz.underlying273,rfl,rfl,0,by kernel_rfl⟩
theorem qd:TyZ Tryz.prog 273 6 40 (.agg #[.int .i64 0, .int .i64 0, .int .i64 0, .int .i64 0, .bool false, .bool false]) :=VQ Kr rfl
theorem Xs:TyF Tryz.prog 279 0 0:=⟨_,_,Tryz.underlying279,rfl,rfl,1,by kernel_rfl⟩
theorem Xt:TyF Tryz.prog 279 1 2:=⟨_,_,Tryz.underlying279,rfl,rfl,5,by kernel_rfl⟩
theorem uT:TyZ Tryz.prog 279 8 56 (.agg #[.int .i64 0, .int .i64 0, .int .i64 0, .int .i64 0, .int .i64 0, .int .i64 0, .bool false, .bool false]) :=VQ Kr rfl
theorem O5:FnOk Tryz.prog 7:=⟨_,Tryz.func7,by kernel_rfl,rfl⟩
theorem Yg:FnOk Tryz.prog 8:=⟨_,Tryz.func8,by kernel_rfl,rfl⟩
theorem xh:FnOk Tryz.prog 9:=⟨_,Tryz.func9,by kernel_rfl,rfl⟩
theorem x8:FnOk Tryz.prog 10:=⟨_,Tryz.func10,by kernel_rfl,rfl⟩
theorem Mh:FnOk Tryz.prog 11:=⟨_,Tryz.func11,by kernel_rfl,rfl⟩
theorem O3:FnOk Tryz.prog 12:=⟨_,Tryz.func12,by kernel_rfl,rfl⟩
theorem zn:FnOk Tryz.prog 13:=⟨_,Tryz.func13,by kernel_rfl,rfl⟩
theorem KF:FnOk Tryz.prog 14:=⟨_,Tryz.func14,by kernel_rfl,rfl⟩
theorem Mk:FnOk Tryz.prog 15:=⟨_,Tryz.func15,by kernel_rfl,rfl⟩
theorem vv:FnOk Tryz.prog 16:=⟨_,Tryz.func16,by kernel_rfl,rfl⟩
theorem O6:FnOk Tryz.prog 17:=⟨_,Tryz.func17,by kernel_rfl,rfl⟩
theorem VF:FnOk Tryz.prog 18:=⟨_,Tryz.func18,by kernel_rfl,rfl⟩
theorem Ml:FnOk Tryz.prog 43:=⟨_,Tryz.func43,by kernel_rfl,rfl⟩
theorem Mt:FnOk Tryz.prog 44:=⟨_,Tryz.func44,by kernel_rfl,rfl⟩
theorem qk:FnOk Tryz.prog 45:=⟨_,Tryz.func45,by kernel_rfl,rfl⟩
theorem kw:FnOk Tryz.prog 46:=⟨_,Tryz.func46,by kernel_rfl,rfl⟩
theorem Zt:FnOk Tryz.prog 47:=⟨_,Tryz.func47,by kernel_rfl,rfl⟩
theorem Mp:FnOk Tryz.prog 48:=⟨_,Tryz.func48,by kernel_rfl,rfl⟩
theorem Ul:FnOk Tryz.prog 49:=⟨_,Tryz.func49,by kernel_rfl,rfl⟩
theorem W7:FnOk Tryz.prog 50:=⟨_,Tryz.func50,by kernel_rfl,rfl⟩
theorem Zu:FnOk Tryz.prog 51:=⟨_,Tryz.func51,by kernel_rfl,rfl⟩
theorem K3:FnOk Tryz.prog 52:=⟨_,Tryz.func52,by kernel_rfl,rfl⟩
theorem vL:FnOk Tryz.prog 53:=⟨_,Tryz.func53,by kernel_rfl,rfl⟩
theorem Uw:FnOk Tryz.prog 54:=⟨_,Tryz.func54,by kernel_rfl,rfl⟩
theorem Kp:FnOk Tryz.prog 55:=⟨_,Tryz.func55,by kernel_rfl,rfl⟩
theorem KA:FnOk Tryz.prog 56:=⟨_,Tryz.func56,by kernel_rfl,rfl⟩
theorem Gj:FnOk Tryz.prog 57:=⟨_,Tryz.func57,by kernel_rfl,rfl⟩
theorem U6:FnOk Tryz.prog 58:=⟨_,Tryz.func58,by kernel_rfl,rfl⟩
theorem kT:FnOk Tryz.prog 59:=⟨_,Tryz.func59,by kernel_rfl,rfl⟩
theorem K0:FnOk Tryz.prog 60:=⟨_,Tryz.func60,by kernel_rfl,rfl⟩
theorem vM:FnOk Tryz.prog 61:=⟨_,Tryz.func61,by kernel_rfl,rfl⟩
theorem YV:FnOk Tryz.prog 62:=⟨_,Tryz.func62,by kernel_rfl,rfl⟩
theorem HL:FnOk Tryz.prog 63:=⟨_,Tryz.func63,by kernel_rfl,rfl⟩
theorem xi:FnOk Tryz.prog 64:=⟨_,Tryz.func64,by kernel_rfl,rfl⟩
theorem uV:FnOk Tryz.prog 65:=⟨_,Tryz.func65,by kernel_rfl,rfl⟩
theorem HH:FnOk Tryz.prog 66:=⟨_,Tryz.func66,by kernel_rfl,rfl⟩
theorem Xf:FnOk Tryz.prog 67:=⟨_,Tryz.func67,by kernel_rfl,rfl⟩
theorem Zv:FnOk Tryz.prog 71:=⟨_,Tryz.func71,by kernel_rfl,rfl⟩
theorem Ux:FnOk Tryz.prog 74:=⟨_,Tryz.func74,by kernel_rfl,rfl⟩
theorem WB:FnOk Tryz.prog 75:=⟨_,Tryz.func75,by kernel_rfl,rfl⟩
theorem Mr:FnOk Tryz.prog 95:=⟨_,Tryz.func95,by kernel_rfl,rfl⟩
theorem Xb:FnOk Tryz.prog 96:=⟨_,Tryz.func96,by kernel_rfl,rfl⟩
theorem Gi:FnOk Tryz.prog 97:=⟨_,Tryz.func97,by kernel_rfl,rfl⟩
theorem Ub:FnOk Tryz.prog 98:=⟨_,Tryz.func98,by kernel_rfl,rfl⟩
theorem Mo:FnOk Tryz.prog 99:=⟨_,Tryz.func99,by kernel_rfl,rfl⟩
theorem vc:FnOk Tryz.prog 100:=⟨_,Tryz.func100,by kernel_rfl,rfl⟩
theorem Yj:FnOk Tryz.prog 101:=⟨_,Tryz.func101,by kernel_rfl,rfl⟩
theorem Xc:FnOk Tryz.prog 102:=⟨_,Tryz.func102,by kernel_rfl,rfl⟩
theorem x7:FnOk Tryz.prog 103:=⟨_,Tryz.func103,by kernel_rfl,rfl⟩
theorem U7:FnOk Tryz.prog 104:=⟨_,Tryz.func104,by kernel_rfl,rfl⟩
theorem HG:FnOk Tryz.prog 105:=⟨_,Tryz.func105,by kernel_rfl,rfl⟩
theorem Xa:FnOk Tryz.prog 106:=⟨_,Tryz.func106,by kernel_rfl,rfl⟩
theorem xj:FnOk Tryz.prog 107:=⟨_,Tryz.func107,by kernel_rfl,rfl⟩
theorem We:FnOk Tryz.prog 108:=⟨_,Tryz.func108,by kernel_rfl,rfl⟩
theorem Mi:FnOk Tryz.prog 109:=⟨_,Tryz.func109,by kernel_rfl,rfl⟩
theorem HB:FnOk Tryz.prog 110:=⟨_,Tryz.func110,by kernel_rfl,rfl⟩
theorem Kq:FnOk Tryz.prog 111:=⟨_,Tryz.func111,by kernel_rfl,rfl⟩
theorem W4:FnOk Tryz.prog 112:=⟨_,Tryz.func112,by kernel_rfl,rfl⟩
theorem KE:FnOk Tryz.prog 113:=⟨_,Tryz.func113,by kernel_rfl,rfl⟩
theorem HC:FnOk Tryz.prog 114:=⟨_,Tryz.func114,by kernel_rfl,rfl⟩
theorem x6:FnOk Tryz.prog 115:=⟨_,Tryz.func115,by kernel_rfl,rfl⟩
theorem HE:FnOk Tryz.prog 116:=⟨_,Tryz.func116,by kernel_rfl,rfl⟩
theorem vu:FnOk Tryz.prog 117:=⟨_,Tryz.func117,by kernel_rfl,rfl⟩
theorem vt:FnOk Tryz.prog 118:=⟨_,Tryz.func118,by kernel_rfl,rfl⟩
theorem U4:FnOk Tryz.prog 119:=⟨_,Tryz.func119,by kernel_rfl,rfl⟩
theorem W2:FnOk Tryz.prog 120:=⟨_,Tryz.func120,by kernel_rfl,rfl⟩
theorem Mj:FnOk Tryz.prog 121:=⟨_,Tryz.func121,by kernel_rfl,rfl⟩
theorem zp:FnOk Tryz.prog 122:=⟨_,Tryz.func122,by kernel_rfl,rfl⟩
theorem zo:FnOk Tryz.prog 123:=⟨_,Tryz.func123,by kernel_rfl,rfl⟩
theorem yI:FnOk Tryz.prog 124:=⟨_,Tryz.func124,by kernel_rfl,rfl⟩
theorem Xd:FnOk Tryz.prog 125:=⟨_,Tryz.func125,by kernel_rfl,rfl⟩
theorem Mn:FnOk Tryz.prog 126:=⟨_,Tryz.func126,by kernel_rfl,rfl⟩
theorem yJ:FnOk Tryz.prog 127:=⟨_,Tryz.func127,by kernel_rfl,rfl⟩
theorem Qa:FnOk Tryz.prog 128:=⟨_,Tryz.func128,by kernel_rfl,rfl⟩
theorem Gn:FnOk Tryz.prog 135:=⟨_,Tryz.func135,by kernel_rfl,rfl⟩
theorem HF:FnOk Tryz.prog 141:=⟨_,Tryz.func141,by kernel_rfl,rfl⟩
theorem WC:FnOk Tryz.prog 142:=⟨_,Tryz.func142,by kernel_rfl,rfl⟩
theorem vV:FnOk Tryz.prog 150:=⟨_,Tryz.func150,by kernel_rfl,rfl⟩
theorem vU:FnOk Tryz.prog 151:=⟨_,Tryz.func151,by kernel_rfl,rfl⟩
theorem O4:FnOk Tryz.prog 152:=⟨_,Tryz.func152,by kernel_rfl,rfl⟩
theorem YU:FnOk Tryz.prog 153:=⟨_,Tryz.func153,by kernel_rfl,rfl⟩
theorem Mm:FnOk Tryz.prog 154:=⟨_,Tryz.func154,by kernel_rfl,rfl⟩
theorem Ms:FnOk Tryz.prog 155:=⟨_,Tryz.func155,by kernel_rfl,rfl⟩
theorem Ku:FnOk Tryz.prog 156:=⟨_,Tryz.func156,by kernel_rfl,rfl⟩
theorem zq:FnOk Tryz.prog 157:=⟨_,Tryz.func157,by kernel_rfl,rfl⟩
theorem vn:FnOk Tryz.prog 158:=⟨_,Tryz.func158,by kernel_rfl,rfl⟩
theorem wC:FnOk Tryz.prog 159:=⟨_,Tryz.func159,by kernel_rfl,rfl⟩
theorem Q4:FnOk Tryz.prog 160:=⟨_,Tryz.func160,by kernel_rfl,rfl⟩
theorem KG:FnOk Tryz.prog 161:=⟨_,Tryz.func161,by kernel_rfl,rfl⟩
theorem W5:FnOk Tryz.prog 162:=⟨_,Tryz.func162,by kernel_rfl,rfl⟩
theorem uK:FnOk Tryz.prog 163:=⟨_,Tryz.func163,by kernel_rfl,rfl⟩
theorem W3:FnOk Tryz.prog 164:=⟨_,Tryz.func164,by kernel_rfl,rfl⟩
theorem VS:FnOk Tryz.prog 165:=⟨_,Tryz.func165,by kernel_rfl,rfl⟩
theorem HA:FnOk Tryz.prog 169:=⟨_,Tryz.func169,by kernel_rfl,rfl⟩
theorem KS:FnOk Tryz.prog 170:=⟨_,Tryz.func170,by kernel_rfl,rfl⟩
theorem U5:FnOk Tryz.prog 171:=⟨_,Tryz.func171,by kernel_rfl,rfl⟩
theorem Gk:FnOk Tryz.prog 172:=⟨_,Tryz.func172,by kernel_rfl,rfl⟩
theorem Km:FnOk Tryz.prog 173:=⟨_,Tryz.func173,by kernel_rfl,rfl⟩
theorem Vn:FnOk Tryz.prog 174:=⟨_,Tryz.func174,by kernel_rfl,rfl⟩
theorem vr:FnOk Tryz.prog 175:=⟨_,Tryz.func175,by kernel_rfl,rfl⟩
theorem ko:FnOk Tryz.prog 176:=⟨_,Tryz.func176,by kernel_rfl,rfl⟩
theorem Zr:FnOk Tryz.prog 177:=⟨_,Tryz.func177,by kernel_rfl,rfl⟩
theorem Wd:FnOk Tryz.prog 178:=⟨_,Tryz.func178,by kernel_rfl,rfl⟩
theorem vf:FnOk Tryz.prog 179:=⟨_,Tryz.func179,by kernel_rfl,rfl⟩
theorem kM:FnOk Tryz.prog 180:=⟨_,Tryz.func180,by kernel_rfl,rfl⟩
theorem ux:FnOk Tryz.prog 181:=⟨_,Tryz.func181,by kernel_rfl,rfl⟩
theorem Ka:FnOk Tryz.prog 182:=⟨_,Tryz.func182,by kernel_rfl,rfl⟩
theorem Ke:FnOk Tryz.prog 184:=⟨_,Tryz.func184,by kernel_rfl,rfl⟩
theorem Gl:FnOk Tryz.prog 185:=⟨_,Tryz.func185,by kernel_rfl,rfl⟩
theorem Zw:FnOk Tryz.prog 186:=⟨_,Tryz.func186,by kernel_rfl,rfl⟩
theorem HJ:FnOk Tryz.prog 187:=⟨_,Tryz.func187,by kernel_rfl,rfl⟩
theorem HI:FnOk Tryz.prog 188:=⟨_,Tryz.func188,by kernel_rfl,rfl⟩
theorem HK:FnOk Tryz.prog 189:=⟨_,Tryz.func189,by kernel_rfl,rfl⟩
theorem Gs:FnOk Tryz.prog 190:=⟨_,Tryz.func190,by kernel_rfl,rfl⟩
theorem Wf:FnOk Tryz.prog 191:=⟨_,Tryz.func191,by kernel_rfl,rfl⟩
theorem zu:FnOk Tryz.prog 192:=⟨_,Tryz.func192,by kernel_rfl,rfl⟩
theorem O7:FnOk Tryz.prog 193:=⟨_,Tryz.func193,by kernel_rfl,rfl⟩
theorem Yh:FnOk Tryz.prog 215:=⟨_,Tryz.func215,by kernel_rfl,rfl⟩
theorem Mq:FnOk Tryz.prog 216:=⟨_,Tryz.func216,by kernel_rfl,rfl⟩
theorem wh:FnOk Tryz.prog 218:=⟨_,Tryz.func218,by kernel_rfl,rfl⟩
theorem Wc:FnOk Tryz.prog 228:=⟨_,Tryz.func228,by kernel_rfl,rfl⟩
theorem Ks:FnOk Tryz.prog 229:=⟨_,Tryz.func229,by kernel_rfl,rfl⟩
theorem WT:FnOk Tryz.prog 230:=⟨_,Tryz.func230,by kernel_rfl,rfl⟩
theorem QD:FnOk Tryz.prog 231:=⟨_,Tryz.func231,by kernel_rfl,rfl⟩
theorem Qq:FnOk Tryz.prog 232:=⟨_,Tryz.func232,by kernel_rfl,rfl⟩
theorem Zs:FnOk Tryz.prog 234:=⟨_,Tryz.func234,by kernel_rfl,rfl⟩
theorem Gr:FnOk Tryz.prog 235:=⟨_,Tryz.func235,by kernel_rfl,rfl⟩
theorem Gu:FnOk Tryz.prog 236:=⟨_,Tryz.func236,by kernel_rfl,rfl⟩
theorem Mu:FnOk Tryz.prog 237:=⟨_,Tryz.func237,by kernel_rfl,rfl⟩
theorem Gt:FnOk Tryz.prog 238:=⟨_,Tryz.func238,by kernel_rfl,rfl⟩
theorem zy:FnOk Tryz.prog 239:=⟨_,Tryz.func239,by kernel_rfl,rfl⟩
theorem yn:FnOk Tryz.prog 240:=⟨_,Tryz.func240,by kernel_rfl,rfl⟩
theorem zv:FnOk Tryz.prog 241:=⟨_,Tryz.func241,by kernel_rfl,rfl⟩
theorem Yi:FnOk Tryz.prog 242:=⟨_,Tryz.func242,by kernel_rfl,rfl⟩
theorem Gm:FnOk Tryz.prog 249:=⟨_,Tryz.func249,by kernel_rfl,rfl⟩
theorem Gq:FnOk Tryz.prog 250:=⟨_,Tryz.func250,by kernel_rfl,rfl⟩
theorem Qm:FnOk Tryz.prog 256:=⟨_,Tryz.func256,by kernel_rfl,rfl⟩
theorem qY:FnOk Tryz.prog 257:=⟨_,Tryz.func257,by kernel_rfl,rfl⟩
theorem WU:FnOk Tryz.prog 258:=⟨_,Tryz.func258,by kernel_rfl,rfl⟩
theorem VX:FnOk Tryz.prog 259:=⟨_,Tryz.func259,by kernel_rfl,rfl⟩
theorem O8:FnOk Tryz.prog 267:=⟨_,Tryz.func267,by kernel_rfl,rfl⟩
theorem W8:FnOk Tryz.prog 268:=⟨_,Tryz.func268,by kernel_rfl,rfl⟩
theorem Xe:FnOk Tryz.prog 269:=⟨_,Tryz.func269,by kernel_rfl,rfl⟩
theorem yo:FnOk Tryz.prog 270:=⟨_,Tryz.func270,by kernel_rfl,rfl⟩
theorem zw:FnOk Tryz.prog 272:=⟨_,Tryz.func272,by kernel_rfl,rfl⟩
theorem zx:FnOk Tryz.prog 273:=⟨_,Tryz.func273,by kernel_rfl,rfl⟩
theorem wB:FnOk Tryz.prog 275:=⟨_,Tryz.func275,by kernel_rfl,rfl⟩
theorem QU:FnOk Tryz.prog 276:=⟨_,Tryz.func276,by kernel_rfl,rfl⟩
theorem W6:FnOk Tryz.prog 280:=⟨_,Tryz.func280,by kernel_rfl,rfl⟩
theorem QE:FnOk Tryz.prog 281:=⟨_,Tryz.func281,by kernel_rfl,rfl⟩
theorem zt:FnOk Tryz.prog 283:=⟨_,Tryz.func283,by kernel_rfl,rfl⟩
theorem J9 (w:World) : (Instr.build 26 #[]).run Tryz.prog w= .ok (.agg #[.slice none 0 0]) w:=by
 rw [QN]
 simp only [jjI,jjF,jjS]
 simp [Instr.build,Instr.fill,go_sem]
theorem XH (h0:v0.cells= #[a0_0]) (w:World) : (Instr.build 26 #[(0,v0)]).run Tryz.prog w= .ok (.agg #[a0_0]) w:=by
 rw [QN]
 simp only [jjI,jjF,jjS,h0]
 simp [Instr.build,Instr.fill,go_sem]
theorem YF (w:World) : (Instr.build 28 #[]).run Tryz.prog w= .ok (.agg #[.int .i64 0, .int .i64 0]) w:=by
 rw [QN]
 simp only [jjI,jjF,jjS]
 simp [Instr.build,Instr.fill,go_sem]
theorem Dj (h0:v0.cells= #[a0_0]) (w:World) : (Instr.build 28 #[(0,v0)]).run Tryz.prog w= .ok (.agg #[a0_0, .int .i64 0]) w:=by
 rw [QN]
 simp only [jjI,jjF,jjS,h0]
 simp [Instr.build,Instr.fill,go_sem]
theorem q8 (h0:v0.cells= #[a0_0]) (h1:v1.cells= #[a1_0]) (w:World) : (Instr.build 28 #[(0,v0),(1,v1)]).run Tryz.prog w= .ok (.agg #[a0_0,a1_0]) w:=by
 rw [QN]
 simp only [jjI,jjF,jjS,h0,h1]
 simp [Instr.build,Instr.fill,go_sem]
theorem VZ (w:World) : (Instr.build 74 #[]).run Tryz.prog w= .ok (.agg #[.slice none 0 0]) w:=by
 rw [QN]
 simp only [jjI,jjF,jjS]
 simp [Instr.build,Instr.fill,go_sem]
theorem vm (h0:v0.cells= #[a0_0]) (w:World) : (Instr.build 74 #[(0,v0)]).run Tryz.prog w= .ok (.agg #[a0_0]) w:=by
 rw [QN]
 simp only [jjI,jjF,jjS,h0]
 simp [Instr.build,Instr.fill,go_sem]
theorem yX (h0:v0.cells= #[a0_0,a0_1]) (h1:v1.cells= #[a1_0,a1_1]) (w:World) : (Instr.build 96 #[(0,v0),(1,v1)]).run Tryz.prog w= .ok (.agg #[a0_0,a0_1,a1_0,a1_1]) w:=by
 rw [QN]
 simp only [jjI,jjF,jjS,h0,h1]
 simp [Instr.build,Instr.fill,go_sem]
theorem XI (h0:v0.cells= #[a0_0]) (w:World) : (Instr.build 141 #[(0,v0)]).run Tryz.prog w= .ok (.agg #[a0_0, .int .i64 0, .int .u64 0]) w:=by
 rw [QN]
 simp only [jjI,jjF,jjS,h0]
 simp [Instr.build,Instr.fill,go_sem]
theorem uX (h0:v0.cells= #[a0_0,a0_1]) (h1:v1.cells= #[a1_0,a1_1]) (w:World) : (Instr.build 147 #[(0,v0),(1,v1)]).run Tryz.prog w= .ok (.agg #[a0_0,a0_1,a1_0,a1_1]) w:=by
 rw [QN]
 simp only [jjI,jjF,jjS,h0,h1]
 simp [Instr.build,Instr.fill,go_sem]
theorem zS (h0:v0.cells= #[a0_0,a0_1]) (h1:v1.cells= #[a1_0,a1_1]) (w:World) : (Instr.build 171 #[(0,v0),(1,v1)]).run Tryz.prog w= .ok (.agg #[a0_0,a0_1,a1_0,a1_1, .int .i64 0, .int .i64 0, .int .i64 0]) w:=by
 rw [QN]
 simp only [jjI,jjF,jjS,h0,h1]
 simp [Instr.build,Instr.fill,go_sem]
theorem kb (h0:v0.cells= #[a0_0]) (h1:v1.cells= #[a1_0]) (h2:v2.cells= #[a2_0]) (w:World) : (Instr.build 204 #[(0,v0),(1,v1),(2,v2)]).run Tryz.prog w= .ok (.agg #[a0_0,a1_0,a2_0]) w:=by
 rw [QN]
 simp only [jjI,jjF,jjS,h0,h1,h2]
 simp [Instr.build,Instr.fill,go_sem]
theorem YG (h0:v0.cells= #[a0_0,a0_1,a0_2]) (h1:v1.cells= #[a1_0,a1_1,a1_2]) (w:World) : (Instr.build 206 #[(0,v0),(1,v1)]).run Tryz.prog w= .ok (.agg #[a0_0,a0_1,a0_2,a1_0,a1_1,a1_2]) w:=by
 rw [QN]
 simp only [jjI,jjF,jjS,h0,h1]
 simp [Instr.build,Instr.fill,go_sem]
theorem zE (h0:v0.cells= #[a0_0,a0_1]) (h1:v1.cells= #[a1_0,a1_1,a1_2]) (w:World) : (Instr.build 210 #[(0,v0),(1,v1)]).run Tryz.prog w= .ok (.agg #[a0_0,a0_1,a1_0,a1_1,a1_2]) w:=by
 rw [QN]
 simp only [jjI,jjF,jjS,h0,h1]
 simp [Instr.build,Instr.fill,go_sem]
theorem XJ (h0:v0.cells= #[a0_0,a0_1,a0_2,a0_3]) (w:World) : (Instr.build 262 #[(0,v0)]).run Tryz.prog w= .ok (.agg #[a0_0,a0_1,a0_2,a0_3, .int .i64 0, .int .i64 0, .int .i64 0, .int .i64 0]) w:=by
 rw [QN]
 simp only [jjI,jjF,jjS,h0]
 simp [Instr.build,Instr.fill,go_sem]
theorem UW (h0:v0.cells= #[a0_0]) (h1:v1.cells= #[a1_0]) (h2:v2.cells= #[a2_0]) (h3:v3.cells= #[a3_0]) (h4:v4.cells= #[a4_0]) (w:World) : (Instr.build 273 #[(0,v0),(1,v1),(2,v2),(3,v3),(4,v4)]).run Tryz.prog w= .ok (.agg #[a0_0,a1_0,a2_0,a3_0,a4_0, .bool false]) w:=by
 rw [QN]
 simp only [jjI,jjF,jjS,h0,h1,h2,h3,h4]
 simp [Instr.build,Instr.fill,go_sem]
theorem VC (h0:v0.cells= #[a0_0]) (h1:v1.cells= #[a1_0]) (h2:v2.cells= #[a2_0]) (h3:v3.cells= #[a3_0]) (h4:v4.cells= #[a4_0]) {v5 a5_0:Value} (h5:v5.cells= #[a5_0]) (w:World) : (Instr.build 273 #[(0,v0),(1,v1),(2,v2),(3,v3),(4,v4),(5,v5)]).run Tryz.prog w= .ok (.agg #[a0_0,a1_0,a2_0,a3_0,a4_0,a5_0]) w:=by
 rw [QN]
 simp only [jjI,jjF,jjS,h0,h1,h2,h3,h4,h5]
 simp [Instr.build,Instr.fill,go_sem]
theorem UX (h0:v0.cells= #[a0_0]) (h1:v1.cells= #[a1_0]) (h2:v2.cells= #[a2_0]) (h3:v3.cells= #[a3_0]) (h4:v4.cells= #[a4_0]) (w:World) : (Instr.build 273 #[(0,v0),(1,v1),(2,v2),(3,v3),(5,v4)]).run Tryz.prog w= .ok (.agg #[a0_0,a1_0,a2_0,a3_0, .bool false,a4_0]) w:=by
 rw [QN]
 simp only [jjI,jjF,jjS,h0,h1,h2,h3,h4]
 simp [Instr.build,Instr.fill,go_sem]
theorem zT (h0:v0.cells= #[a0_0,a0_1]) {a1_3 a1_4 a1_5:Value} (h1:v1.cells= #[a1_0,a1_1,a1_2,a1_3,a1_4,a1_5]) (w:World) : (Instr.build 279 #[(0,v0),(1,v1)]).run Tryz.prog w= .ok (.agg #[a0_0,a0_1,a1_0,a1_1,a1_2,a1_3,a1_4,a1_5]) w:=by
 rw [QN]
 simp only [jjI,jjF,jjS,h0,h1]
 simp [Instr.build,Instr.fill,go_sem]
theorem Wv (w:World) : (Instr.buildSlice 24 0 #[]).run Tryz.prog w= .ok (.slice (some ⟨w.heap.size,0,none⟩) 0 0) (w.alloc (.cells [].toArray 74)) :=by
 rw [qB]
 simp only [jjI,jjF,jjS]
 simp [Instr.buildSlice,Instr.fill,go_sem]
theorem qz (h0:v0.cells= #[a0_0]) (w:World) : (Instr.buildSlice 24 1 #[(0,v0)]).run Tryz.prog w= .ok (.slice (some ⟨w.heap.size,0,none⟩) 1 1) (w.alloc (.cells [a0_0].toArray 74)) :=by
 rw [qB]
 simp only [jjI,jjF,jjS,h0]
 simp [Instr.buildSlice,Instr.fill,go_sem]
theorem KR (w:World) : (Instr.buildSlice 58 0 #[]).run Tryz.prog w= .ok (.slice (some ⟨w.heap.size,0,none⟩) 0 0) (w.alloc (.cells [].toArray 28)) :=by
 rw [qB]
 simp only [jjI,jjF,jjS]
 simp [Instr.buildSlice,Instr.fill,go_sem]
theorem qT (h0:v0.cells= #[a0_0,a0_1]) (w:World) : (Instr.buildSlice 58 1 #[(0,v0)]).run Tryz.prog w= .ok (.slice (some ⟨w.heap.size,0,none⟩) 1 1) (w.alloc (.cells [a0_0,a0_1].toArray 28)) :=by
 rw [qB]
 simp only [jjI,jjF,jjS,h0]
 simp [Instr.buildSlice,Instr.fill,go_sem]
theorem V0 (h0:v0.cells= #[a0_0,a0_1]) (h1:v1.cells= #[a1_0,a1_1]) (w:World) : (Instr.buildSlice 58 2 #[(0,v0),(1,v1)]).run Tryz.prog w= .ok (.slice (some ⟨w.heap.size,0,none⟩) 2 2) (w.alloc (.cells [a0_0,a0_1,a1_0,a1_1].toArray 28)) :=by
 rw [qB]
 simp only [jjI,jjF,jjS,h0,h1]
 simp [Instr.buildSlice,Instr.fill,go_sem]
theorem vD (h0:v0.cells= #[a0_0,a0_1]) (h1:v1.cells= #[a1_0,a1_1]) {a2_1:Value} (h2:v2.cells= #[a2_0,a2_1]) {a3_1:Value} (h3:v3.cells= #[a3_0,a3_1]) (w:World) : (Instr.buildSlice 58 4 #[(0,v0),(1,v1),(2,v2),(3,v3)]).run Tryz.prog w= .ok (.slice (some ⟨w.heap.size,0,none⟩) 4 4) (w.alloc (.cells [a0_0,a0_1,a1_0,a1_1,a2_0,a2_1,a3_0,a3_1].toArray 28)) :=by
 rw [qB]
 simp only [jjI,jjF,jjS,h0,h1,h2,h3]
 simp [Instr.buildSlice,Instr.fill,go_sem]
theorem yx (h0:v0.cells= #[a0_0]) (h1:v1.cells= #[a1_0]) (h2:v2.cells= #[a2_0]) (h3:v3.cells= #[a3_0]) (h4:v4.cells= #[a4_0]) (w:World) : (Instr.buildSlice 68 5 #[(0,v0),(1,v1),(2,v2),(3,v3),(4,v4)]).run Tryz.prog w= .ok (.slice (some ⟨w.heap.size,0,none⟩) 5 5) (w.alloc (.cells [a0_0,a1_0,a2_0,a3_0,a4_0].toArray 2)) :=by
 rw [qB]
 simp only [jjI,jjF,jjS,h0,h1,h2,h3,h4]
 simp [Instr.buildSlice,Instr.fill,go_sem]
theorem zG (w:World) : (Instr.buildSlice 89 0 #[]).run Tryz.prog w= .ok (.slice (some ⟨w.heap.size,0,none⟩) 0 0) (w.alloc (.cells [].toArray 147)) :=by
 rw [qB]
 simp only [jjI,jjF,jjS]
 simp [Instr.buildSlice,Instr.fill,go_sem]
theorem WG (h0:v0.cells= #[a0_0,a0_1,a0_2,a0_3]) (w:World) : (Instr.buildSlice 89 1 #[(0,v0)]).run Tryz.prog w= .ok (.slice (some ⟨w.heap.size,0,none⟩) 1 1) (w.alloc (.cells [a0_0,a0_1,a0_2,a0_3].toArray 147)) :=by
 rw [qB]
 simp only [jjI,jjF,jjS,h0]
 simp [Instr.buildSlice,Instr.fill,go_sem]
theorem KD (h0:v0.cells= #[a0_0,a0_1,a0_2,a0_3]) (w:World) : (Instr.buildSlice 93 1 #[(0,v0)]).run Tryz.prog w= .ok (.slice (some ⟨w.heap.size,0,none⟩) 1 1) (w.alloc (.cells [a0_0,a0_1,a0_2,a0_3].toArray 96)) :=by
 rw [qB]
 simp only [jjI,jjF,jjS,h0]
 simp [Instr.buildSlice,Instr.fill,go_sem]
theorem wX (h0:v0.cells= #[a0_0]) (h1:v1.cells= #[a1_0]) (w:World) : (Instr.buildSlice 154 2 #[(0,v0),(1,v1)]).run Tryz.prog w= .ok (.slice (some ⟨w.heap.size,0,none⟩) 2 2) (w.alloc (.cells [a0_0,a1_0].toArray 93)) :=by
 rw [qB]
 simp only [jjI,jjF,jjS,h0,h1]
 simp [Instr.buildSlice,Instr.fill,go_sem]
theorem Oh (h0:v0.cells= #[a0_0]) (w:World) : (Instr.buildSlice 166 1 #[(0,v0)]).run Tryz.prog w= .ok (.slice (some ⟨w.heap.size,0,none⟩) 1 1) (w.alloc (.cells [a0_0].toArray 3)) :=by
 rw [qB]
 simp only [jjI,jjF,jjS,h0]
 simp [Instr.buildSlice,Instr.fill,go_sem]
theorem yw (h0:v0.cells= #[a0_0,a0_1,a0_2,a0_3,a0_4]) (w:World) : (Instr.buildSlice 202 1 #[(0,v0)]).run Tryz.prog w= .ok (.slice (some ⟨w.heap.size,0,none⟩) 1 1) (w.alloc (.cells [a0_0,a0_1,a0_2,a0_3,a0_4].toArray 210)) :=by
 rw [qB]
 simp only [jjI,jjF,jjS,h0]
 simp [Instr.buildSlice,Instr.fill,go_sem]
theorem zV (w:World) : (Instr.buildSlice 222 0 #[]).run Tryz.prog w= .ok (.slice (some ⟨w.heap.size,0,none⟩) 0 0) (w.alloc (.cells [].toArray 262)) :=by
 rw [qB]
 simp only [jjI,jjF,jjS]
 simp [Instr.buildSlice,Instr.fill,go_sem]
theorem YH {a0_5 a0_6 a0_7:Value} (h0:v0.cells= #[a0_0,a0_1,a0_2,a0_3,a0_4,a0_5,a0_6,a0_7]) (w:World) : (Instr.buildSlice 222 1 #[(0,v0)]).run Tryz.prog w= .ok (.slice (some ⟨w.heap.size,0,none⟩) 1 1) (w.alloc (.cells [a0_0,a0_1,a0_2,a0_3,a0_4,a0_5,a0_6,a0_7].toArray 262)) :=by
 rw [qB]
 simp only [jjI,jjF,jjS,h0]
 simp [Instr.buildSlice,Instr.fill,go_sem]
theorem yY (h0:v0.cells= #[a0_0]) (h1:v1.cells= #[a1_0]) (w:World) : (Instr.buildSlice 255 2 #[(0,v0),(1,v1)]).run Tryz.prog w= .ok (.slice (some ⟨w.heap.size,0,none⟩) 2 2) (w.alloc (.cells [a0_0,a1_0].toArray 58)) :=by
 rw [qB]
 simp only [jjI,jjF,jjS,h0,h1]
 simp [Instr.buildSlice,Instr.fill,go_sem]
theorem uv (w:World) : (Instr.buildSlice 271 0 #[]).run Tryz.prog w= .ok (.slice (some ⟨w.heap.size,0,none⟩) 0 0) (w.alloc (.cells [].toArray 279)) :=by
 rw [qB]
 simp only [jjI,jjF,jjS]
 simp [Instr.buildSlice,Instr.fill,go_sem]
theorem yZ {a0_5 a0_6 a0_7:Value} (h0:v0.cells= #[a0_0,a0_1,a0_2,a0_3,a0_4,a0_5,a0_6,a0_7]) (w:World) : (Instr.buildSlice 271 1 #[(0,v0)]).run Tryz.prog w= .ok (.slice (some ⟨w.heap.size,0,none⟩) 1 1) (w.alloc (.cells [a0_0,a0_1,a0_2,a0_3,a0_4,a0_5,a0_6,a0_7].toArray 279)) :=by
 rw [qB]
 simp only [jjI,jjF,jjS,h0]
 simp [Instr.buildSlice,Instr.fill,go_sem]
theorem VJ {env:List (Nat×Value)} (ho:o.op= .binOp .eql 28 x y T') (hx:ev env x=some (.agg #[.int .i64 a0, .int .i64 a1])) (hy:ev env y=some (.agg #[.int .i64 b0, .int .i64 b1])) :Qt Tryz.prog o n env w0 Rs (.bool ((a0==b0) && (a1==b1))) :=
 Q5 fun a w hF _=>by
  unfold execOp;simp only [ho,hF.ev hx,hF.ev hy]
  cases h0: (a0==b0);all_goals cases h1: (a1==b1)
  all_goals simp [go_sem, *]
theorem vp {env:List (Nat×Value)} (ho:o.op= .binOp .neq 28 x y T') (hx:ev env x=some (.agg #[.int .i64 a0, .int .i64 a1])) (hy:ev env y=some (.agg #[.int .i64 b0, .int .i64 b1])) :Qt Tryz.prog o n env w0 Rs (.bool (!((a0==b0) && (a1==b1)))) :=
 Q5 fun a w hF _=>by
  unfold execOp;simp only [ho,hF.ev hx,hF.ev hy]
  cases h0: (a0==b0);all_goals cases h1: (a1==b1)
  all_goals simp [go_sem, *]
theorem uM {env:List (Nat×Value)} {a2 a3 b2 b3:Int} (ho:o.op= .binOp .eql 96 x y T') (hx:ev env x=some (.agg #[.int .i64 a0, .int .i64 a1, .int .i64 a2, .int .i64 a3])) (hy:ev env y=some (.agg #[.int .i64 b0, .int .i64 b1, .int .i64 b2, .int .i64 b3])) :Qt Tryz.prog o n env w0 Rs (.bool ((a0==b0) && (a1==b1) && (a2==b2) && (a3==b3))) :=
 Q5 fun a w hF _=>by
  unfold execOp;simp only [ho,hF.ev hx,hF.ev hy]
  cases h0: (a0==b0);all_goals cases h1: (a1==b1);all_goals cases h2: (a2==b2);all_goals cases h3: (a3==b3)
  all_goals simp [go_sem, *]
theorem HX {env:List (Nat×Value)} {a2 a3 b2 b3:Int} (ho:o.op= .binOp .neq 96 x y T') (hx:ev env x=some (.agg #[.int .i64 a0, .int .i64 a1, .int .i64 a2, .int .i64 a3])) (hy:ev env y=some (.agg #[.int .i64 b0, .int .i64 b1, .int .i64 b2, .int .i64 b3])) :Qt Tryz.prog o n env w0 Rs (.bool (!((a0==b0) && (a1==b1) && (a2==b2) && (a3==b3)))) :=
 Q5 fun a w hF _=>by
  unfold execOp;simp only [ho,hF.ev hx,hF.ev hy]
  cases h0: (a0==b0);all_goals cases h1: (a1==b1);all_goals cases h2: (a2==b2);all_goals cases h3: (a3==b3)
  all_goals simp [go_sem, *]
theorem ZE {env:List (Nat×Value)} {a2 a3 b2 b3:Int} (ho:o.op= .binOp .neq 147 x y T') (hx:ev env x=some (.agg #[.int .i64 a0, .int .i64 a1, .int .i64 a2, .int .i64 a3])) (hy:ev env y=some (.agg #[.int .i64 b0, .int .i64 b1, .int .i64 b2, .int .i64 b3])) :Qt Tryz.prog o n env w0 Rs (.bool (!((a0==b0) && (a1==b1) && (a2==b2) && (a3==b3)))) :=
 Q5 fun a w hF _=>by
  unfold execOp;simp only [ho,hF.ev hx,hF.ev hy]
  cases h0: (a0==b0);all_goals cases h1: (a1==b1);all_goals cases h2: (a2==b2);all_goals cases h3: (a3==b3)
  all_goals simp [go_sem, *]
theorem mixed:Tryz.prog.follows .mixedOrders=true:=by kernel_rfl
theorem tzA (h:p:=by first|exact jq|exact jI|exact Jw|exact qd|exact qm|exact Qy|exact QR|exact Q9|exact Va|exact Kj|exact kq|exact Qc) :p:=h
section
variable {P:Program} {n:Nat} {env:List (Nat×Value)} {w0:Bs} {Rs:List Res} {ops:Array Oper} {Q:Exit→Act→World→Prop} {K:Act→World→Prop} {o:Oper}
theorem qlS {b off:Nat} (ho:o.op= .load T x) (hx:ev env x=some (.pointer (some ⟨b,off,none⟩))) (hT:TyS P T m) (hc:∀w,St w0 Rs w→∀j v,cs[j]? =some v→w.cell? ⟨b,off+j,none⟩ =some v) (hl:cs.length=m) :Qt P o n env w0 Rs (.agg cs.toArray) :=jl ho hx hT hl hc
def pqV (env:List (Nat×Value)) :Op→Option Value
  | .move x=>ev env x
  | .assign x=>ev env x
  | .nilCheck x=>match ev env x with
    | some (.pointer (some p)) =>some (.pointer (some p))
    | _=>none
  | .extract x i=>match ev env x with
    | some (.tuple vs) =>vs.toList[i]?
    | _=>none
  | .pick c x y=>match ev env c with
    | some (.bool true) =>ev env x
    | some (.bool false) =>ev env y
    | _=>none
  | .binOp b _ x y _=>match ev env x,ev env y with
    | some (.int .i64 p),some (.int .i64 q) =>match b with
      | .lss=>some (.bool (decide (p<q)))
      | .leq=>some (.bool (decide (p≤q)))
      | .gtr=>some (.bool (decide (q<p)))
      | .geq=>some (.bool (decide (q≤p)))
      | .eql=>some (.bool (p==q))
      | .neq=>some (.bool (!(p==q)))
      | _=>none
    | _,_=>none
  | .unOp .not _ x=>match ev env x with
    | some (.bool p) =>some (.bool (!p))
    | _=>none
  | _=>none
theorem jjj (h:pqV env o.op=some v) :Qt P o n env w0 Rs v:=by
 unfold pqV at h
 split at h
 ·rename_i x ho;exact ja ho h
 ·rename_i x ho;exact je ho h
 ·rename_i x ho
  split at h
  ·rename_i p hx;injection h with h;subst h;exact j4 ho hx
  ·cases h
 ·rename_i x i ho
  split at h
  ·rename_i vs hx;exact Jl (vs:=vs.toList) ho hx h
  ·cases h
 ·rename_i c x y ho
  split at h
  ·rename_i hc;exact jN ho hc h
  ·rename_i hc;exact jL ho hc h
  ·cases h
 ·rename_i b T x y T' ho
  split at h
  ·rename_i p q hx hy
   split at h
   ·injection h with h;subst h;exact Jt ho hx hy
   ·injection h with h;subst h;exact QQ ho hx hy
   ·injection h with h;subst h;exact qZ ho hx hy
   ·injection h with h;subst h;exact HW ho hx hy
   ·injection h with h;subst h;exact qD ho hx hy
   ·injection h with h;subst h;exact KB ho hx hy
   ·cases h
  ·cases h
 ·rename_i T x ho
  split at h
  ·rename_i p hx;injection h with h;subst h;exact qO ho hx
  ·cases h
 ·cases h
end
section
variable {P:Program} {n:Nat} {env:List (Nat×Value)} {w0:Bs} {Rs:List Res} {ops:Array Oper} {Q:Exit→Act→World→Prop} {K:Act→World→Prop} {o:Oper}
theorem jA {T U:Nat} {b:Nat} {vs:List Value} (k:Nat) (h:At n env w0 (Rs.set k (.cel b U vs)) K) (ho:o.op= .store T x y:=by exact rfl) (hd:o.dst=none:=by exact rfl) (hx:ev env x=some (.pointer (some ⟨b,0,none⟩)) :=by exact rfl) (hk:Rs[k]? =some (.cel b U cs) :=by exact rfl) (hz: (P.info? T).map (·.size) =some m:=by exact TyZ.szx tzA) (hy:ev env y=some v:=by exact rfl) (hv:v.cells=vs.toArray:=by exact rfl) (h1:vs.all (·.oneCell') =true:=by rfl) (hm:vs.length=m:=by exact rfl) (hl:cs.length=m:=by exact rfl) :At n env w0 Rs (fun a w=>o.wp P a w K Q) :=j9 k hz h ho hd hx hy hv h1 hm hk hl
end
theorem qA9 (h:p:=by first|exact jjj rfl|exact qlS rfl rfl (by first|exact jk|exact jv|exact JP|exact QL|exact qI|exact qp|exact wM|exact Vx|exact KT) (by first|exact jR (k:=0) rfl|exact jR (k:=1) rfl|exact jR (k:=2) rfl|exact jR (k:=3) rfl|exact jR (k:=4) rfl|exact jR (k:=5) rfl|exact jR (k:=6) rfl|exact jR (k:=7) rfl|exact jR (k:=8) rfl|exact jR (k:=9) rfl) (by rfl)|exact qlS rfl rfl (by first|exact jk|exact jv|exact JP|exact QL|exact qI|exact qp|exact wM|exact Vx|exact KT) (by first|exact YA (k:=0) rfl rfl rfl|exact YA (k:=1) rfl rfl rfl|exact YA (k:=2) rfl rfl rfl|exact YA (k:=3) rfl rfl rfl|exact YA (k:=4) rfl rfl rfl|exact YA (k:=5) rfl rfl rfl|exact YA (k:=6) rfl rfl rfl|exact YA (k:=7) rfl rfl rfl|exact YA (k:=8) rfl rfl rfl|exact YA (k:=9) rfl rfl rfl) (by rfl)|exact qlS rfl rfl (by first|exact jk|exact jv|exact JP|exact QL|exact qI|exact qp|exact wM|exact Vx|exact KT) (by first|exact rd3 (k:=0) rfl rfl rfl rfl|exact rd3 (k:=1) rfl rfl rfl rfl|exact rd3 (k:=2) rfl rfl rfl rfl|exact rd3 (k:=3) rfl rfl rfl rfl|exact rd3 (k:=4) rfl rfl rfl rfl|exact rd3 (k:=5) rfl rfl rfl rfl|exact rd3 (k:=6) rfl rfl rfl rfl|exact rd3 (k:=7) rfl rfl rfl rfl|exact rd3 (k:=8) rfl rfl rfl rfl|exact rd3 (k:=9) rfl rfl rfl rfl) (by rfl)|exact jo rfl rfl (by first|exact ju|exact JL|exact JH|exact QT|exact Y9|exact UM|exact za) (by first|exact qi (k:=0) rfl rfl|exact qi (k:=1) rfl rfl|exact qi (k:=2) rfl rfl|exact qi (k:=3) rfl rfl|exact qi (k:=4) rfl rfl|exact qi (k:=5) rfl rfl|exact qi (k:=6) rfl rfl|exact qi (k:=7) rfl rfl|exact qi (k:=8) rfl rfl|exact qi (k:=9) rfl rfl)|exact VJ rfl rfl rfl|exact uM rfl rfl rfl|exact jg rfl rfl (by first|exact jH|exact Jn|exact JA|exact Jv|exact JG|exact JD|exact qx|exact ql|exact Qx|exact QA|exact QZ|exact Q7|exact Q8|exact Ky|exact Kz|exact Qs|exact kW|exact kX|exact Kx|exact Ki|exact K9|exact va|exact Vt|exact Vu|exact vC|exact Vv|exact VV|exact uk|exact ul|exact Yu|exact Yv|exact Xt|exact Xs|exact xq)|exact JM rfl rfl (by first|exact jD|exact jJ|exact Jk|exact Ju|exact wL|exact Vw|exact VW|exact JI|exact JC|exact Qj|exact GW|exact Xu)|exact jV rfl rfl rfl (by first|exact jD|exact jJ|exact Jk|exact Ju|exact wL|exact Vw|exact VW|exact JI|exact JC|exact Qj|exact GW|exact Xu) Om|exact vp rfl rfl rfl|exact HX rfl rfl rfl|exact jY rfl rfl rfl Om Om|exact JF rfl rfl rfl Om Om|exact qH rfl rfl rfl Om Om) :p:=h
section
variable {P:Program} {n:Nat} {env:List (Nat×Value)} {w0:Bs} {Rs:List Res} {ops:Array Oper} {Q:Exit→Act→World→Prop} {K:Act→World→Prop} {o:Oper}
theorem uw (ks:List Nat) {X:List Res} (e:Rs0++X=wks ks Rs) :∀w,St w0 Rs w→St w0 Rs0 w:=fun w h=> (h.wk ks).upto (e▸jji Rs0 X)
theorem aA9 (h:At n ((d,v) ::env) w0 Rs (fun a w=>wpList P ops Q rest a w)) (hg:o.guard=none:=by exact rfl) (hd:o.dst=some d:=by exact rfl) (hn:d<n:=by decide) (hq:Qt P o n env w0 Rs v:=by exact qA9) :At n env w0 Rs (fun a w=>wpList P ops Q (o::rest) a w) :=jd hg hd hn hq h
theorem oA9 (h:At n ((d,v) ::env) w0 Rs K) (hd:o.dst=some d:=by exact rfl) (hn:d<n:=by decide) (hq:Qt P o n env w0 Rs v:=by exact qA9) :At n env w0 Rs (fun a w=>o.wp P a w K Q) :=jU hd hn hq h
theorem suA (h:p:=by first|exact u9 rfl|exact uw [0] rfl|exact uw [1] rfl|exact uw [2] rfl|exact uw [3] rfl|exact uw [4] rfl|exact uw [5] rfl|exact uw [6] rfl|exact uw [7] rfl|exact uw [8] rfl|exact uw [9] rfl) :p:=h
theorem dK (i:Nat) (h:At n ((d,v) ::env) w0 Rs (fun a w=>Qu P .any ops Q (yh w0 Rs0) f fuel (listed.setIfInBounds i true) a w)) (hi:ops[i]? =some o:=by exact rfl) (hsub:∀w,St w0 Rs w→St w0 Rs0 w:=by exact suA) (hg:o.guard=none:=by exact rfl) (hd:o.dst=some d:=by exact rfl) (hn:d<n:=by decide) (hS:Region.noSelect ops=true:=by kernel_rfl) (hfr:Region.free .any ops listed i=true:=by kernel_rfl) (hrd: (Region.ready .any ops listed).contains i=true:=by kernel_rfl) (hfi: (vK .any ops listed i [] f&&i !=f) =true:=by kernel_rfl) (hq:Qt P o n env w0 Rs0 v:=by exact qA9) (hQ:∀c a w,Q (.panic c) (a.put o.dst v) w→Q (.panic c) a w:=by exact fun _ _ _ h=>h) :At n env w0 Rs (fun a w=>Qu P .any ops Q (yh w0 Rs0) f (fuel+1) listed a w) :=d9 i hi [] hsub hq h hg hd hn hS hfr hrd hfi hQ
theorem eK (i:Nat) (h:At n ((d,v) ::env) w0 Rs (fun a w=>Qu P .any ops Q (yh w0 Rs0) f fuel (listed.setIfInBounds i true) a w)) (hi:ops[i]? =some o:=by exact rfl) (hsub:∀w,St w0 Rs w→St w0 Rs0 w:=by exact suA) (hg:o.guard=some (j,c) :=by exact rfl) (hj:ops[j]? =some oj:=by exact rfl) (hdj:oj.dst=some dj:=by exact rfl) (hb:look env dj=some (.bool c) :=by exact rfl) (hd:o.dst=some d:=by exact rfl) (hn:d<n:=by decide) (hS:Region.noSelect ops=true:=by kernel_rfl) (hfr:Region.free .any ops listed i=true:=by kernel_rfl) (hrd: (Region.ready .any ops listed).contains i=true:=by kernel_rfl) (hfi: (vK .any ops listed i [] f&&i !=f) =true:=by kernel_rfl) (hq:Qt P o n env w0 Rs0 v:=by exact qA9) (hQ:∀c a w,Q (.panic c) (a.put o.dst v) w→Q (.panic c) a w:=by exact fun _ _ _ h=>h) :At n env w0 Rs (fun a w=>Qu P .any ops Q (yh w0 Rs0) f (fuel+1) listed a w) :=e9 i hi [] hsub hq h hg hj hdj hb hd hn hS hfr hrd hfi hQ
theorem fK {b:Bool} (i:Nat) (h:At n ((d,undef) ::env) w0 Rs (fun a w=>Qu P .any ops Q (yh w0 Rs0) f fuel (listed.setIfInBounds i true) a w)) (hi:ops[i]? =some o:=by exact rfl) (hsub:∀w,St w0 Rs w→St w0 Rs0 w:=by exact suA) (hg:o.guard=some (j,c) :=by exact rfl) (hj:ops[j]? =some oj:=by exact rfl) (hdj:oj.dst=some dj:=by exact rfl) (hb:look env dj=some (.bool b) :=by exact rfl) (hne:b≠c:=by decide) (hd:o.dst=some d:=by exact rfl) (hn:d<n:=by decide) (hS:Region.noSelect ops=true:=by kernel_rfl) (hfr:Region.free .any ops listed i=true:=by kernel_rfl) (hrd: (Region.ready .any ops listed).contains i=true:=by kernel_rfl) (hfi: (vK .any ops listed i [] f&&i !=f) =true:=by kernel_rfl) (hQ:∀c a w,Q (.panic c) (a.put o.dst undef) w→Q (.panic c) a w:=by exact fun _ _ _ h=>h) :At n env w0 Rs (fun a w=>Qu P .any ops Q (yh w0 Rs0) f (fuel+1) listed a w) :=f9 i hi [] hsub h hg hj hdj hb hne hd hn hS hfr hrd hfi hQ
theorem dV (i:Nat) (ms:List Nat) (h:At n ((d,v) ::env) w0 Rs (fun a w=>Qu P .any ops Q (yh w0 Rs0) f fuel (listed.setIfInBounds i true) a w)) (hi:ops[i]? =some o:=by exact rfl) (hsub:∀w,St w0 Rs w→St w0 Rs0 w:=by exact suA) (hg:o.guard=none:=by exact rfl) (hd:o.dst=some d:=by exact rfl) (hn:d<n:=by decide) (hS:Region.noSelect ops=true:=by kernel_rfl) (hfr:Region.free .any ops listed i=true:=by kernel_rfl) (hrd: (Region.ready .any ops listed).contains i=true:=by kernel_rfl) (hfi: (vK .any ops listed i ms f&&i !=f) =true:=by kernel_rfl) (hq:Qt P o n env w0 Rs0 v:=by exact qA9) (hQ:∀c a w,Q (.panic c) (a.put o.dst v) w→Q (.panic c) a w:=by exact fun _ _ _ h=>h) :At n env w0 Rs (fun a w=>Qu P .any ops Q (yh w0 Rs0) f (fuel+1) listed a w) :=d9 i hi ms hsub hq h hg hd hn hS hfr hrd hfi hQ
theorem eV (i:Nat) (ms:List Nat) (h:At n ((d,v) ::env) w0 Rs (fun a w=>Qu P .any ops Q (yh w0 Rs0) f fuel (listed.setIfInBounds i true) a w)) (hi:ops[i]? =some o:=by exact rfl) (hsub:∀w,St w0 Rs w→St w0 Rs0 w:=by exact suA) (hg:o.guard=some (j,c) :=by exact rfl) (hj:ops[j]? =some oj:=by exact rfl) (hdj:oj.dst=some dj:=by exact rfl) (hb:look env dj=some (.bool c) :=by exact rfl) (hd:o.dst=some d:=by exact rfl) (hn:d<n:=by decide) (hS:Region.noSelect ops=true:=by kernel_rfl) (hfr:Region.free .any ops listed i=true:=by kernel_rfl) (hrd: (Region.ready .any ops listed).contains i=true:=by kernel_rfl) (hfi: (vK .any ops listed i ms f&&i !=f) =true:=by kernel_rfl) (hq:Qt P o n env w0 Rs0 v:=by exact qA9) (hQ:∀c a w,Q (.panic c) (a.put o.dst v) w→Q (.panic c) a w:=by exact fun _ _ _ h=>h) :At n env w0 Rs (fun a w=>Qu P .any ops Q (yh w0 Rs0) f (fuel+1) listed a w) :=e9 i hi ms hsub hq h hg hj hdj hb hd hn hS hfr hrd hfi hQ
theorem fV {b:Bool} (i:Nat) (ms:List Nat) (h:At n ((d,undef) ::env) w0 Rs (fun a w=>Qu P .any ops Q (yh w0 Rs0) f fuel (listed.setIfInBounds i true) a w)) (hi:ops[i]? =some o:=by exact rfl) (hsub:∀w,St w0 Rs w→St w0 Rs0 w:=by exact suA) (hg:o.guard=some (j,c) :=by exact rfl) (hj:ops[j]? =some oj:=by exact rfl) (hdj:oj.dst=some dj:=by exact rfl) (hb:look env dj=some (.bool b) :=by exact rfl) (hne:b≠c:=by decide) (hd:o.dst=some d:=by exact rfl) (hn:d<n:=by decide) (hS:Region.noSelect ops=true:=by kernel_rfl) (hfr:Region.free .any ops listed i=true:=by kernel_rfl) (hrd: (Region.ready .any ops listed).contains i=true:=by kernel_rfl) (hfi: (vK .any ops listed i ms f&&i !=f) =true:=by kernel_rfl) (hQ:∀c a w,Q (.panic c) (a.put o.dst undef) w→Q (.panic c) a w:=by exact fun _ _ _ h=>h) :At n env w0 Rs (fun a w=>Qu P .any ops Q (yh w0 Rs0) f (fuel+1) listed a w) :=f9 i hi ms hsub h hg hj hdj hb hne hd hn hS hfr hrd hfi hQ
theorem dZ (i:Nat) (hi:ops[i]? =some o) (hq:Qt P o n env w0 Rs0 v) (h:At n ((d,v) ::env) w0 Rs (fun a w=>Qu P .any ops Q (yh w0 Rs0) f fuel (listed.setIfInBounds i true) a w)) (hsub:∀w,St w0 Rs w→St w0 Rs0 w:=by exact suA) (hg:o.guard=none:=by exact rfl) (hd:o.dst=some d:=by exact rfl) (hn:d<n:=by decide) (hS:Region.noSelect ops=true:=by kernel_rfl) (hfr:Region.free .any ops listed i=true:=by kernel_rfl) (hrd: (Region.ready .any ops listed).contains i=true:=by kernel_rfl) (hfi: (vK .any ops listed i [] f&&i !=f) =true:=by kernel_rfl) (hQ:∀c a w,Q (.panic c) (a.put o.dst v) w→Q (.panic c) a w:=by exact fun _ _ _ h=>h) :At n env w0 Rs (fun a w=>Qu P .any ops Q (yh w0 Rs0) f (fuel+1) listed a w) :=d9 i hi [] hsub hq h hg hd hn hS hfr hrd hfi hQ
theorem eZ (i:Nat) (hi:ops[i]? =some o) (hq:Qt P o n env w0 Rs0 v) (h:At n ((d,v) ::env) w0 Rs (fun a w=>Qu P .any ops Q (yh w0 Rs0) f fuel (listed.setIfInBounds i true) a w)) (hsub:∀w,St w0 Rs w→St w0 Rs0 w:=by exact suA) (hg:o.guard=some (j,c) :=by exact rfl) (hj:ops[j]? =some oj:=by exact rfl) (hdj:oj.dst=some dj:=by exact rfl) (hb:look env dj=some (.bool c) :=by exact rfl) (hd:o.dst=some d:=by exact rfl) (hn:d<n:=by decide) (hS:Region.noSelect ops=true:=by kernel_rfl) (hfr:Region.free .any ops listed i=true:=by kernel_rfl) (hrd: (Region.ready .any ops listed).contains i=true:=by kernel_rfl) (hfi: (vK .any ops listed i [] f&&i !=f) =true:=by kernel_rfl) (hQ:∀c a w,Q (.panic c) (a.put o.dst v) w→Q (.panic c) a w:=by exact fun _ _ _ h=>h) :At n env w0 Rs (fun a w=>Qu P .any ops Q (yh w0 Rs0) f (fuel+1) listed a w) :=e9 i hi [] hsub hq h hg hj hdj hb hd hn hS hfr hrd hfi hQ
theorem aL {q:Nat} (h:∀b,At n ((d, .pointer (some ⟨b,0,none⟩)) ::env) w0 (Rs++ [.cel b T z.cells.toList]) K) (ho:o.op= .alloc T:=by exact rfl) (hz:TyZ P T m q z:=by exact tzA) (hd:o.dst=some d:=by exact rfl) (hn:d<n:=by exact lb rfl) :At n env w0 Rs (fun a w=>o.wp P a w K Q) :=Jj ho hz hd hn h
theorem aX (h:∀b,At n ((d, .pointer (some ⟨b,0,none⟩)) ::env) w0 (Rs++ [.cel b T cs]) K) (ho:o.op= .box T x:=by exact rfl) (hx:ev env x=some v:=by exact rfl) (hv:v.cells=cs.toArray:=by exact rfl) (hd:o.dst=some d:=by exact rfl) (hn:d<n:=by exact lb rfl) :At n env w0 Rs (fun a w=>o.wp P a w K Q) :=JK ho hx hv hd hn h
end
structure Hk (B:Prop) :Prop where
  o:B
theorem S1 (h:B) (s:Hk B→A:=by intro h; (first|with_reducible refine jf ?_|with_reducible refine jb ?_|with_reducible refine jh ?_|with_reducible refine ji ?_|refine aA9 ?_|refine g9 ?_|refine h9 ?_|refine oA9 ?_|refine js (fun h=>by cases h) ?_|with_reducible refine jG ?_|with_reducible refine jE ?_|with_reducible refine jB ?_|with_reducible refine jC ?_|with_reducible refine jW ?_|with_reducible refine JW ?_|with_reducible refine Js ?_|refine HT Dc ?_|with_reducible refine JB ?_|with_reducible refine J5 ?_|refine Od rfl rfl ?_|refine Oc rfl rfl ?_|refine JE mixed rfl ?_|refine jp rfl ?_|refine qF rfl rfl rfl rfl rfl Dc ?_|(refine jA 0 ?_;refine n9 ?_)|(refine jA 1 ?_;refine n9 ?_)|(refine jA 2 ?_;refine n9 ?_)|(refine jA 3 ?_;refine n9 ?_)|(refine jA 4 ?_;refine n9 ?_)|(refine jA 5 ?_;refine n9 ?_)|(refine jA 6 ?_;refine n9 ?_)|(refine jA 7 ?_;refine n9 ?_)|(refine jA 8 ?_;refine n9 ?_)|(refine jA 9 ?_;refine n9 ?_));exact h.o) :A:=s ⟨h⟩
theorem S2 (h:B) (s:Hk B→A:=by intro h; (iterate 2 refine S1 ?_);exact h.o) :A:=s ⟨h⟩
theorem S3 (h:B) (s:Hk B→A:=by intro h; (iterate 3 refine S1 ?_);exact h.o) :A:=s ⟨h⟩
theorem S4 (h:B) (s:Hk B→A:=by intro h; (iterate 4 refine S1 ?_);exact h.o) :A:=s ⟨h⟩
theorem S5 (h:B) (s:Hk B→A:=by intro h; (iterate 5 refine S1 ?_);exact h.o) :A:=s ⟨h⟩
theorem S6 (h:B) (s:Hk B→A:=by intro h; (iterate 6 refine S1 ?_);exact h.o) :A:=s ⟨h⟩
theorem S7 (h:B) (s:Hk B→A:=by intro h; (iterate 7 refine S1 ?_);exact h.o) :A:=s ⟨h⟩
theorem S8 (h:B) (s:Hk B→A:=by intro h; (iterate 8 refine S1 ?_);exact h.o) :A:=s ⟨h⟩
theorem S9 (h:B) (s:Hk B→A:=by intro h; (iterate 9 refine S1 ?_);exact h.o) :A:=s ⟨h⟩
theorem S10 (h:B) (s:Hk B→A:=by intro h; (iterate 10 refine S1 ?_);exact h.o) :A:=s ⟨h⟩
theorem S11 (h:B) (s:Hk B→A:=by intro h; (iterate 11 refine S1 ?_);exact h.o) :A:=s ⟨h⟩
theorem S12 (h:B) (s:Hk B→A:=by intro h; (iterate 12 refine S1 ?_);exact h.o) :A:=s ⟨h⟩
theorem S13 (h:B) (s:Hk B→A:=by intro h; (iterate 13 refine S1 ?_);exact h.o) :A:=s ⟨h⟩
theorem S14 (h:B) (s:Hk B→A:=by intro h; (iterate 14 refine S1 ?_);exact h.o) :A:=s ⟨h⟩
theorem S15 (h:B) (s:Hk B→A:=by intro h; (iterate 15 refine S1 ?_);exact h.o) :A:=s ⟨h⟩
theorem S16 (h:B) (s:Hk B→A:=by intro h; (iterate 16 refine S1 ?_);exact h.o) :A:=s ⟨h⟩
theorem S17 (h:B) (s:Hk B→A:=by intro h; (iterate 17 refine S1 ?_);exact h.o) :A:=s ⟨h⟩
theorem S18 (h:B) (s:Hk B→A:=by intro h; (iterate 18 refine S1 ?_);exact h.o) :A:=s ⟨h⟩
theorem S19 (h:B) (s:Hk B→A:=by intro h; (iterate 19 refine S1 ?_);exact h.o) :A:=s ⟨h⟩
theorem S20 (h:B) (s:Hk B→A:=by intro h; (iterate 20 refine S1 ?_);exact h.o) :A:=s ⟨h⟩
theorem S22 (h:B) (s:Hk B→A:=by intro h; (iterate 22 refine S1 ?_);exact h.o) :A:=s ⟨h⟩
theorem S24 (h:B) (s:Hk B→A:=by intro h; (iterate 24 refine S1 ?_);exact h.o) :A:=s ⟨h⟩
theorem S26 (h:B) (s:Hk B→A:=by intro h; (iterate 26 refine S1 ?_);exact h.o) :A:=s ⟨h⟩
theorem S27 (h:B) (s:Hk B→A:=by intro h; (iterate 27 refine S1 ?_);exact h.o) :A:=s ⟨h⟩
theorem S32 (h:B) (s:Hk B→A:=by intro h; (iterate 32 refine S1 ?_);exact h.o) :A:=s ⟨h⟩
theorem S35 (h:B) (s:Hk B→A:=by intro h; (iterate 35 refine S1 ?_);exact h.o) :A:=s ⟨h⟩
theorem S42 (h:B) (s:Hk B→A:=by intro h; (iterate 42 refine S1 ?_);exact h.o) :A:=s ⟨h⟩
theorem N1 (h:B) (s:Hk B→A:=by intro h;refine n9 ?_; (iterate 1 refine S1 ?_);exact h.o) :A:=s ⟨h⟩
theorem N2 (h:B) (s:Hk B→A:=by intro h;refine n9 ?_; (iterate 2 refine S1 ?_);exact h.o) :A:=s ⟨h⟩
theorem N3 (h:B) (s:Hk B→A:=by intro h;refine n9 ?_; (iterate 3 refine S1 ?_);exact h.o) :A:=s ⟨h⟩
theorem N4 (h:B) (s:Hk B→A:=by intro h;refine n9 ?_; (iterate 4 refine S1 ?_);exact h.o) :A:=s ⟨h⟩
theorem N5 (h:B) (s:Hk B→A:=by intro h;refine n9 ?_; (iterate 5 refine S1 ?_);exact h.o) :A:=s ⟨h⟩
theorem N6 (h:B) (s:Hk B→A:=by intro h;refine n9 ?_; (iterate 6 refine S1 ?_);exact h.o) :A:=s ⟨h⟩
theorem N7 (h:B) (s:Hk B→A:=by intro h;refine n9 ?_; (iterate 7 refine S1 ?_);exact h.o) :A:=s ⟨h⟩
theorem N8 (h:B) (s:Hk B→A:=by intro h;refine n9 ?_; (iterate 8 refine S1 ?_);exact h.o) :A:=s ⟨h⟩
theorem N9 (h:B) (s:Hk B→A:=by intro h;refine n9 ?_; (iterate 9 refine S1 ?_);exact h.o) :A:=s ⟨h⟩
theorem N10 (h:B) (s:Hk B→A:=by intro h;refine n9 ?_; (iterate 10 refine S1 ?_);exact h.o) :A:=s ⟨h⟩
theorem N11 (h:B) (s:Hk B→A:=by intro h;refine n9 ?_; (iterate 11 refine S1 ?_);exact h.o) :A:=s ⟨h⟩
theorem N12 (h:B) (s:Hk B→A:=by intro h;refine n9 ?_; (iterate 12 refine S1 ?_);exact h.o) :A:=s ⟨h⟩
theorem N13 (h:B) (s:Hk B→A:=by intro h;refine n9 ?_; (iterate 13 refine S1 ?_);exact h.o) :A:=s ⟨h⟩
theorem N14 (h:B) (s:Hk B→A:=by intro h;refine n9 ?_; (iterate 14 refine S1 ?_);exact h.o) :A:=s ⟨h⟩
theorem N15 (h:B) (s:Hk B→A:=by intro h;refine n9 ?_; (iterate 15 refine S1 ?_);exact h.o) :A:=s ⟨h⟩
theorem N16 (h:B) (s:Hk B→A:=by intro h;refine n9 ?_; (iterate 16 refine S1 ?_);exact h.o) :A:=s ⟨h⟩
theorem N20 (h:B) (s:Hk B→A:=by intro h;refine n9 ?_; (iterate 20 refine S1 ?_);exact h.o) :A:=s ⟨h⟩
theorem N22 (h:B) (s:Hk B→A:=by intro h;refine n9 ?_; (iterate 22 refine S1 ?_);exact h.o) :A:=s ⟨h⟩
theorem N23 (h:B) (s:Hk B→A:=by intro h;refine n9 ?_; (iterate 23 refine S1 ?_);exact h.o) :A:=s ⟨h⟩
theorem N30 (h:B) (s:Hk B→A:=by intro h;refine n9 ?_; (iterate 30 refine S1 ?_);exact h.o) :A:=s ⟨h⟩
theorem V1 (h:B) (s:Hk B→A:=by intro h;refine v9 ?_; (iterate 1 refine S1 ?_);exact h.o) :A:=s ⟨h⟩
theorem V2 (h:B) (s:Hk B→A:=by intro h;refine v9 ?_; (iterate 2 refine S1 ?_);exact h.o) :A:=s ⟨h⟩
theorem V3 (h:B) (s:Hk B→A:=by intro h;refine v9 ?_; (iterate 3 refine S1 ?_);exact h.o) :A:=s ⟨h⟩
theorem V5 (h:B) (s:Hk B→A:=by intro h;refine v9 ?_; (iterate 5 refine S1 ?_);exact h.o) :A:=s ⟨h⟩
theorem V7 (h:B) (s:Hk B→A:=by intro h;refine v9 ?_; (iterate 7 refine S1 ?_);exact h.o) :A:=s ⟨h⟩
theorem V8 (h:B) (s:Hk B→A:=by intro h;refine v9 ?_; (iterate 8 refine S1 ?_);exact h.o) :A:=s ⟨h⟩
theorem V9 (h:B) (s:Hk B→A:=by intro h;refine v9 ?_; (iterate 9 refine S1 ?_);exact h.o) :A:=s ⟨h⟩
theorem V14 (h:B) (s:Hk B→A:=by intro h;refine v9 ?_; (iterate 14 refine S1 ?_);exact h.o) :A:=s ⟨h⟩
theorem V15 (h:B) (s:Hk B→A:=by intro h;refine v9 ?_; (iterate 15 refine S1 ?_);exact h.o) :A:=s ⟨h⟩
end Go.Proofs.YtbahojdbmmjkcaaGreat
