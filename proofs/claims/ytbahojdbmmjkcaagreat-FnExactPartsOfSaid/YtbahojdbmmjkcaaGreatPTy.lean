import Derived.Test.YtbahojdbmmjkcaaGreatPSd
set_option linter.unusedVariables false
set_option linter.unusedSimpArgs false
namespace Go.Proofs.YtbahojdbmmjkcaaGreat
open Go Go.RowKit
variable {A B p:Prop} {Rs Rs0:List Res} {T T':TypeId} {a0 a1 b0 b1:Int} {a0_0 a0_1 a0_2 a0_3 a0_4 a1_0 a1_1 a1_2 a2_0 a3_0 a4_0 v v0 v1 v2 v3 v4 z:Value} {c:Bool} {cs:List Value} {d dj f fuel j m n:Nat} {listed:Array Bool} {o oj:Oper} {rest:List Oper} {w0:Bs} {x y:Operand}
set_option maxRecDepth 100000
theorem Vk {P:Program} {T k:Nat} (h: (P.info? T).map (fun i=> (i.zero,i.size,i.bytes)) =some (some z,m,k)) (hc:z.cells.size=m) :TyZ P T m k z:=by
 cases hi:P.info? T with
 | none=>simp [hi] at h
 | some i=>
  simp only [hi,jh6,Option.some.injEq,Prod.mk.injEq] at h
  exact⟨⟨i,hi,h.1,h.2.1,h.2.2⟩,hc⟩
theorem jt:Ty1 Tryz.prog 2:=⟨⟨_,Tryz.underlying2,rfl⟩,by kernel_rfl⟩
theorem QI:TyZ Tryz.prog 2 1 8 (.int .i64 0) :=Vk Kr rfl
theorem jd8:Ty1 Tryz.prog 3:=⟨⟨_,Tryz.underlying3,rfl⟩,by kernel_rfl⟩
theorem jd9:TyZ Tryz.prog 3 1 8 (.int .i64 0) :=Vk Kr rfl
theorem Qv:Ty1 Tryz.prog 4:=⟨⟨_,Tryz.underlying4,rfl⟩,by kernel_rfl⟩
theorem Ob:Tryz.prog.underlying 4=some .bool:=Tryz.underlying4
theorem yk:TyZ Tryz.prog 4 1 1 (.bool false) :=Vk Kr rfl
theorem Jz:Ty1 Tryz.prog 24:=⟨⟨_,Tryz.underlying24,rfl⟩,by kernel_rfl⟩
theorem jw:TyL Tryz.prog 24 74 1:=⟨Tryz.underlying24,by kernel_rfl⟩
theorem Qz:TyZ Tryz.prog 24 1 24 (.slice none 0 0) :=Vk Kr rfl
theorem jI:TyS Tryz.prog 26 1:=⟨⟨_,Tryz.underlying26,rfl⟩,by kernel_rfl⟩
theorem Ji:TyF Tryz.prog 26 0 0:=⟨_,_,Tryz.underlying26,rfl,rfl,0,by kernel_rfl⟩
theorem jD:TyZ Tryz.prog 26 1 24 (.agg #[.slice none 0 0]) :=Vk Kr rfl
theorem jj:TyS Tryz.prog 28 2:=⟨⟨_,Tryz.underlying28,rfl⟩,by kernel_rfl⟩
theorem Jm:TyF Tryz.prog 28 0 0:=⟨_,_,Tryz.underlying28,rfl,rfl,0,by kernel_rfl⟩
theorem jF:TyF Tryz.prog 28 1 1:=⟨_,_,Tryz.underlying28,rfl,rfl,0,by kernel_rfl⟩
theorem jH:TyZ Tryz.prog 28 2 16 (.agg #[.int .i64 0, .int .i64 0]) :=Vk Kr rfl
theorem Gy:Ty1 Tryz.prog 40:=⟨⟨_,Tryz.underlying40,rfl⟩,by kernel_rfl⟩
theorem WM:TyL Tryz.prog 40 179 1:=⟨Tryz.underlying40,by kernel_rfl⟩
theorem vE:TyS Tryz.prog 42 1:=⟨⟨_,Tryz.underlying42,rfl⟩,by kernel_rfl⟩
theorem Xu:TyF Tryz.prog 42 0 0:=⟨_,_,Tryz.underlying42,rfl,rfl,0,by kernel_rfl⟩
theorem qM:TyL Tryz.prog 44 26 1:=⟨Tryz.underlying44,by kernel_rfl⟩
theorem JK:Ty1 Tryz.prog 58:=⟨⟨_,Tryz.underlying58,rfl⟩,by kernel_rfl⟩
theorem jB:TyL Tryz.prog 58 28 2:=⟨Tryz.underlying58,by kernel_rfl⟩
theorem Wf:TyZ Tryz.prog 58 1 24 (.slice none 0 0) :=Vk Kr rfl
theorem ux:TyL Tryz.prog 68 2 1:=⟨Tryz.underlying68,by kernel_rfl⟩
theorem JB:TyS Tryz.prog 74 1:=⟨⟨_,Tryz.underlying74,rfl⟩,by kernel_rfl⟩
theorem JD:TyF Tryz.prog 74 0 0:=⟨_,_,Tryz.underlying74,rfl,rfl,0,by kernel_rfl⟩
theorem Js:TyZ Tryz.prog 74 1 24 (.agg #[.slice none 0 0]) :=Vk Kr rfl
theorem j5:TyL Tryz.prog 89 147 4:=⟨Tryz.underlying89,by kernel_rfl⟩
theorem Ym:Ty1 Tryz.prog 93:=⟨⟨_,Tryz.underlying93,rfl⟩,by kernel_rfl⟩
theorem jV:TyL Tryz.prog 93 96 4:=⟨Tryz.underlying93,by kernel_rfl⟩
theorem qm:TyS Tryz.prog 96 4:=⟨⟨_,Tryz.underlying96,rfl⟩,by kernel_rfl⟩
theorem qa:TyF Tryz.prog 96 0 0:=⟨_,_,Tryz.underlying96,rfl,rfl,1,by kernel_rfl⟩
theorem J7:TyF Tryz.prog 96 1 2:=⟨_,_,Tryz.underlying96,rfl,rfl,1,by kernel_rfl⟩
theorem qd:TyZ Tryz.prog 96 4 32 (.agg #[.int .i64 0, .int .i64 0, .int .i64 0, .int .i64 0]) :=Vk Kr rfl
theorem Kp:TyS Tryz.prog 147 4:=⟨⟨_,Tryz.underlying147,rfl⟩,by kernel_rfl⟩
theorem JA:TyF Tryz.prog 147 0 0:=⟨_,_,Tryz.underlying147,rfl,rfl,1,by kernel_rfl⟩
theorem JC:TyF Tryz.prog 147 1 2:=⟨_,_,Tryz.underlying147,rfl,rfl,1,by kernel_rfl⟩
theorem QA:TyZ Tryz.prog 147 4 32 (.agg #[.int .i64 0, .int .i64 0, .int .i64 0, .int .i64 0]) :=Vk Kr rfl
theorem vr:TyL Tryz.prog 154 93 1:=⟨Tryz.underlying154,by kernel_rfl⟩
theorem Z4:TyL Tryz.prog 166 3 1:=⟨Tryz.underlying166,by kernel_rfl⟩
theorem vh:TyL Tryz.prog 167 4 1:=⟨Tryz.underlying167,by kernel_rfl⟩
theorem VD:TyS Tryz.prog 171 7:=⟨⟨_,Tryz.underlying171,rfl⟩,by kernel_rfl⟩
theorem ku:TyF Tryz.prog 171 2 4:=⟨_,_,Tryz.underlying171,rfl,rfl,0,by kernel_rfl⟩
theorem vo:TyF Tryz.prog 171 3 5:=⟨_,_,Tryz.underlying171,rfl,rfl,0,by kernel_rfl⟩
theorem vp:TyF Tryz.prog 171 4 6:=⟨_,_,Tryz.underlying171,rfl,rfl,0,by kernel_rfl⟩
theorem Qy:TyZ Tryz.prog 171 7 56 (.agg #[.int .i64 0, .int .i64 0, .int .i64 0, .int .i64 0, .int .i64 0, .int .i64 0, .int .i64 0]) :=Vk Kr rfl
theorem O0:TyS Tryz.prog 179 1:=⟨⟨_,Tryz.underlying179,rfl⟩,by kernel_rfl⟩
theorem JF:TyL Tryz.prog 202 210 5:=⟨Tryz.underlying202,by kernel_rfl⟩
theorem Qw:TyS Tryz.prog 204 3:=⟨⟨_,Tryz.underlying204,rfl⟩,by kernel_rfl⟩
theorem yi:TyF Tryz.prog 204 0 0:=⟨_,_,Tryz.underlying204,rfl,rfl,0,by kernel_rfl⟩
theorem yj:TyF Tryz.prog 204 1 1:=⟨_,_,Tryz.underlying204,rfl,rfl,0,by kernel_rfl⟩
theorem Qj:TyF Tryz.prog 204 2 2:=⟨_,_,Tryz.underlying204,rfl,rfl,0,by kernel_rfl⟩
theorem kD:TyZ Tryz.prog 204 3 24 (.agg #[.int .i64 0, .int .i64 0, .bool false]) :=Vk Kr rfl
theorem vt:TyS Tryz.prog 206 6:=⟨⟨_,Tryz.underlying206,rfl⟩,by kernel_rfl⟩
theorem kC:TyF Tryz.prog 206 0 0:=⟨_,_,Tryz.underlying206,rfl,rfl,2,by kernel_rfl⟩
theorem KQ:TyF Tryz.prog 206 1 3:=⟨_,_,Tryz.underlying206,rfl,rfl,2,by kernel_rfl⟩
theorem QS:TyZ Tryz.prog 206 6 48 (.agg #[.int .i64 0, .int .i64 0, .bool false, .int .i64 0, .int .i64 0, .bool false]) :=Vk Kr rfl
theorem qe:TyS Tryz.prog 210 5:=⟨⟨_,Tryz.underlying210,rfl⟩,by kernel_rfl⟩
theorem z7:TyF Tryz.prog 210 0 0:=⟨_,_,Tryz.underlying210,rfl,rfl,1,by kernel_rfl⟩
theorem Qk:TyF Tryz.prog 210 1 2:=⟨_,_,Tryz.underlying210,rfl,rfl,2,by kernel_rfl⟩
theorem qV:TyZ Tryz.prog 210 5 40 (.agg #[.int .i64 0, .int .i64 0, .int .i64 0, .int .i64 0, .bool false]) :=Vk Kr rfl
theorem JJ:TyL Tryz.prog 222 262 8:=⟨Tryz.underlying222,by kernel_rfl⟩
theorem vP:TyL Tryz.prog 255 58 1:=⟨Tryz.underlying255,by kernel_rfl⟩
theorem Qd:TyF Tryz.prog 262 0 0:=⟨_,_,Tryz.underlying262,rfl,rfl,3,by kernel_rfl⟩
theorem kT:TyF Tryz.prog 262 1 4:=⟨_,_,Tryz.underlying262,rfl,rfl,0,by kernel_rfl⟩
theorem kU:TyF Tryz.prog 262 2 5:=⟨_,_,Tryz.underlying262,rfl,rfl,0,by kernel_rfl⟩
theorem Wd:TyF Tryz.prog 262 3 6:=⟨_,_,Tryz.underlying262,rfl,rfl,0,by kernel_rfl⟩
theorem We:TyF Tryz.prog 262 4 7:=⟨_,_,Tryz.underlying262,rfl,rfl,0,by kernel_rfl⟩
theorem uc:TyZ Tryz.prog 262 8 64 (.agg #[.int .i64 0, .int .i64 0, .int .i64 0, .int .i64 0, .int .i64 0, .int .i64 0, .int .i64 0, .int .i64 0]) :=Vk Kr rfl
theorem q6:TyL Tryz.prog 271 279 8:=⟨Tryz.underlying271,by kernel_rfl⟩
theorem qk:TyS Tryz.prog 273 6:=⟨⟨_,Tryz.underlying273,rfl⟩,by kernel_rfl⟩
theorem QQ:TyF Tryz.prog 273 0 0:=⟨_,_,Tryz.underlying273,rfl,rfl,0,by kernel_rfl⟩
theorem QR:TyF Tryz.prog 273 1 1:=⟨_,_,Tryz.underlying273,rfl,rfl,0,by kernel_rfl⟩
theorem Kv:TyF Tryz.prog 273 2 2:=⟨_,_,Tryz.underlying273,rfl,rfl,0,by kernel_rfl⟩
theorem Kw:TyF Tryz.prog 273 3 3:=⟨_,_,Tryz.underlying273,rfl,rfl,0,by kernel_rfl⟩
theorem kv:TyF Tryz.prog 273 4 4:=⟨_,_,Tryz.underlying273,rfl,rfl,0,by kernel_rfl⟩
theorem vq:TyF Tryz.prog 273 5 5:=⟨_,_,Tryz.underlying273,rfl,rfl,0,by kernel_rfl⟩
theorem J5:TyZ Tryz.prog 273 6 40 (.agg #[.int .i64 0, .int .i64 0, .int .i64 0, .int .i64 0, .bool false, .bool false]) :=Vk Kr rfl
theorem Z2:TyF Tryz.prog 279 0 0:=⟨_,_,Tryz.underlying279,rfl,rfl,1,by kernel_rfl⟩
theorem Z3:TyF Tryz.prog 279 1 2:=⟨_,_,Tryz.underlying279,rfl,rfl,5,by kernel_rfl⟩
theorem WN:TyZ Tryz.prog 279 8 56 (.agg #[.int .i64 0, .int .i64 0, .int .i64 0, .int .i64 0, .int .i64 0, .int .i64 0, .bool false, .bool false]) :=Vk Kr rfl
theorem Hz:FnOk Tryz.prog 11:=⟨_,Tryz.func11,by kernel_rfl,rfl⟩
theorem yN:FnOk Tryz.prog 14:=⟨_,Tryz.func14,by kernel_rfl,rfl⟩
theorem X4:FnOk Tryz.prog 19:=⟨_,Tryz.func19,by kernel_rfl,rfl⟩
theorem HI:FnOk Tryz.prog 20:=⟨_,Tryz.func20,by kernel_rfl,rfl⟩
theorem Vt:FnOk Tryz.prog 21:=⟨_,Tryz.func21,by kernel_rfl,rfl⟩
theorem Yc:FnOk Tryz.prog 22:=⟨_,Tryz.func22,by kernel_rfl,rfl⟩
theorem wU:FnOk Tryz.prog 23:=⟨_,Tryz.func23,by kernel_rfl,rfl⟩
theorem U7:FnOk Tryz.prog 24:=⟨_,Tryz.func24,by kernel_rfl,rfl⟩
theorem ZL:FnOk Tryz.prog 25:=⟨_,Tryz.func25,by kernel_rfl,rfl⟩
theorem zW:FnOk Tryz.prog 26:=⟨_,Tryz.func26,by kernel_rfl,rfl⟩
theorem uh:FnOk Tryz.prog 27:=⟨_,Tryz.func27,by kernel_rfl,rfl⟩
theorem Yf:FnOk Tryz.prog 36:=⟨_,Tryz.func36,by kernel_rfl,rfl⟩
theorem xO:FnOk Tryz.prog 40:=⟨_,Tryz.func40,by kernel_rfl,rfl⟩
theorem WQ:FnOk Tryz.prog 46:=⟨_,Tryz.func46,by kernel_rfl,rfl⟩
theorem Mp:FnOk Tryz.prog 47:=⟨_,Tryz.func47,by kernel_rfl,rfl⟩
theorem Yi:FnOk Tryz.prog 49:=⟨_,Tryz.func49,by kernel_rfl,rfl⟩
theorem Un:FnOk Tryz.prog 50:=⟨_,Tryz.func50,by kernel_rfl,rfl⟩
theorem Mq:FnOk Tryz.prog 51:=⟨_,Tryz.func51,by kernel_rfl,rfl⟩
theorem v6:FnOk Tryz.prog 52:=⟨_,Tryz.func52,by kernel_rfl,rfl⟩
theorem Ka:FnOk Tryz.prog 53:=⟨_,Tryz.func53,by kernel_rfl,rfl⟩
theorem uf:FnOk Tryz.prog 54:=⟨_,Tryz.func54,by kernel_rfl,rfl⟩
theorem kL:FnOk Tryz.prog 55:=⟨_,Tryz.func55,by kernel_rfl,rfl⟩
theorem kW:FnOk Tryz.prog 56:=⟨_,Tryz.func56,by kernel_rfl,rfl⟩
theorem xQ:FnOk Tryz.prog 57:=⟨_,Tryz.func57,by kernel_rfl,rfl⟩
theorem uS:FnOk Tryz.prog 58:=⟨_,Tryz.func58,by kernel_rfl,rfl⟩
theorem kq:FnOk Tryz.prog 59:=⟨_,Tryz.func59,by kernel_rfl,rfl⟩
theorem Ks:FnOk Tryz.prog 60:=⟨_,Tryz.func60,by kernel_rfl,rfl⟩
theorem KW:FnOk Tryz.prog 61:=⟨_,Tryz.func61,by kernel_rfl,rfl⟩
theorem U8:FnOk Tryz.prog 63:=⟨_,Tryz.func63,by kernel_rfl,rfl⟩
theorem X6:FnOk Tryz.prog 66:=⟨_,Tryz.func66,by kernel_rfl,rfl⟩
theorem ZR:FnOk Tryz.prog 67:=⟨_,Tryz.func67,by kernel_rfl,rfl⟩
theorem Mr:FnOk Tryz.prog 69:=⟨_,Tryz.func69,by kernel_rfl,rfl⟩
theorem ZS:FnOk Tryz.prog 70:=⟨_,Tryz.func70,by kernel_rfl,rfl⟩
theorem Y3:FnOk Tryz.prog 71:=⟨_,Tryz.func71,by kernel_rfl,rfl⟩
theorem HG:FnOk Tryz.prog 72:=⟨_,Tryz.func72,by kernel_rfl,rfl⟩
theorem Uk:FnOk Tryz.prog 73:=⟨_,Tryz.func73,by kernel_rfl,rfl⟩
theorem ka:FnOk Tryz.prog 74:=⟨_,Tryz.func74,by kernel_rfl,rfl⟩
theorem QP:FnOk Tryz.prog 75:=⟨_,Tryz.func75,by kernel_rfl,rfl⟩
theorem Um:FnOk Tryz.prog 77:=⟨_,Tryz.func77,by kernel_rfl,rfl⟩
theorem xU:FnOk Tryz.prog 78:=⟨_,Tryz.func78,by kernel_rfl,rfl⟩
theorem Yu:FnOk Tryz.prog 92:=⟨_,Tryz.func92,by kernel_rfl,rfl⟩
theorem Hy:FnOk Tryz.prog 93:=⟨_,Tryz.func93,by kernel_rfl,rfl⟩
theorem xR:FnOk Tryz.prog 94:=⟨_,Tryz.func94,by kernel_rfl,rfl⟩
theorem HK:FnOk Tryz.prog 95:=⟨_,Tryz.func95,by kernel_rfl,rfl⟩
theorem ZN:FnOk Tryz.prog 96:=⟨_,Tryz.func96,by kernel_rfl,rfl⟩
theorem xP:FnOk Tryz.prog 97:=⟨_,Tryz.func97,by kernel_rfl,rfl⟩
theorem WD:FnOk Tryz.prog 101:=⟨_,Tryz.func101,by kernel_rfl,rfl⟩
theorem ZO:FnOk Tryz.prog 102:=⟨_,Tryz.func102,by kernel_rfl,rfl⟩
theorem uT:FnOk Tryz.prog 103:=⟨_,Tryz.func103,by kernel_rfl,rfl⟩
theorem uU:FnOk Tryz.prog 104:=⟨_,Tryz.func104,by kernel_rfl,rfl⟩
theorem X5:FnOk Tryz.prog 105:=⟨_,Tryz.func105,by kernel_rfl,rfl⟩
theorem ZM:FnOk Tryz.prog 106:=⟨_,Tryz.func106,by kernel_rfl,rfl⟩
theorem zX:FnOk Tryz.prog 107:=⟨_,Tryz.func107,by kernel_rfl,rfl⟩
theorem VV:FnOk Tryz.prog 108:=⟨_,Tryz.func108,by kernel_rfl,rfl⟩
theorem HA:FnOk Tryz.prog 109:=⟨_,Tryz.func109,by kernel_rfl,rfl⟩
theorem X0:FnOk Tryz.prog 110:=⟨_,Tryz.func110,by kernel_rfl,rfl⟩
theorem kM:FnOk Tryz.prog 111:=⟨_,Tryz.func111,by kernel_rfl,rfl⟩
theorem wQ:FnOk Tryz.prog 112:=⟨_,Tryz.func112,by kernel_rfl,rfl⟩
theorem Kb:FnOk Tryz.prog 113:=⟨_,Tryz.func113,by kernel_rfl,rfl⟩
theorem X1:FnOk Tryz.prog 114:=⟨_,Tryz.func114,by kernel_rfl,rfl⟩
theorem uL:FnOk Tryz.prog 115:=⟨_,Tryz.func115,by kernel_rfl,rfl⟩
theorem X2:FnOk Tryz.prog 116:=⟨_,Tryz.func116,by kernel_rfl,rfl⟩
theorem KJ:FnOk Tryz.prog 117:=⟨_,Tryz.func117,by kernel_rfl,rfl⟩
theorem KI:FnOk Tryz.prog 118:=⟨_,Tryz.func118,by kernel_rfl,rfl⟩
theorem uM:FnOk Tryz.prog 119:=⟨_,Tryz.func119,by kernel_rfl,rfl⟩
theorem wO:FnOk Tryz.prog 120:=⟨_,Tryz.func120,by kernel_rfl,rfl⟩
theorem HE:FnOk Tryz.prog 121:=⟨_,Tryz.func121,by kernel_rfl,rfl⟩
theorem Ye:FnOk Tryz.prog 122:=⟨_,Tryz.func122,by kernel_rfl,rfl⟩
theorem Yd:FnOk Tryz.prog 123:=⟨_,Tryz.func123,by kernel_rfl,rfl⟩
theorem OS:FnOk Tryz.prog 124:=⟨_,Tryz.func124,by kernel_rfl,rfl⟩
theorem ZP:FnOk Tryz.prog 125:=⟨_,Tryz.func125,by kernel_rfl,rfl⟩
theorem UH:FnOk Tryz.prog 127:=⟨_,Tryz.func127,by kernel_rfl,rfl⟩
theorem q7:FnOk Tryz.prog 128:=⟨_,Tryz.func128,by kernel_rfl,rfl⟩
theorem HH:FnOk Tryz.prog 130:=⟨_,Tryz.func130,by kernel_rfl,rfl⟩
theorem Ur:FnOk Tryz.prog 131:=⟨_,Tryz.func131,by kernel_rfl,rfl⟩
theorem Mm:FnOk Tryz.prog 132:=⟨_,Tryz.func132,by kernel_rfl,rfl⟩
theorem HF:FnOk Tryz.prog 134:=⟨_,Tryz.func134,by kernel_rfl,rfl⟩
theorem xW:FnOk Tryz.prog 135:=⟨_,Tryz.func135,by kernel_rfl,rfl⟩
theorem X3:FnOk Tryz.prog 141:=⟨_,Tryz.func141,by kernel_rfl,rfl⟩
theorem wi:FnOk Tryz.prog 142:=⟨_,Tryz.func142,by kernel_rfl,rfl⟩
theorem Yt:FnOk Tryz.prog 147:=⟨_,Tryz.func147,by kernel_rfl,rfl⟩
theorem uN:FnOk Tryz.prog 149:=⟨_,Tryz.func149,by kernel_rfl,rfl⟩
theorem K7:FnOk Tryz.prog 150:=⟨_,Tryz.func150,by kernel_rfl,rfl⟩
theorem K6:FnOk Tryz.prog 151:=⟨_,Tryz.func151,by kernel_rfl,rfl⟩
theorem Ml:FnOk Tryz.prog 152:=⟨_,Tryz.func152,by kernel_rfl,rfl⟩
theorem HL:FnOk Tryz.prog 155:=⟨_,Tryz.func155,by kernel_rfl,rfl⟩
theorem kO:FnOk Tryz.prog 156:=⟨_,Tryz.func156,by kernel_rfl,rfl⟩
theorem Yg:FnOk Tryz.prog 157:=⟨_,Tryz.func157,by kernel_rfl,rfl⟩
theorem KF:FnOk Tryz.prog 158:=⟨_,Tryz.func158,by kernel_rfl,rfl⟩
theorem Vv:FnOk Tryz.prog 159:=⟨_,Tryz.func159,by kernel_rfl,rfl⟩
theorem QM:FnOk Tryz.prog 160:=⟨_,Tryz.func160,by kernel_rfl,rfl⟩
theorem Ke:FnOk Tryz.prog 161:=⟨_,Tryz.func161,by kernel_rfl,rfl⟩
theorem wT:FnOk Tryz.prog 162:=⟨_,Tryz.func162,by kernel_rfl,rfl⟩
theorem WC:FnOk Tryz.prog 163:=⟨_,Tryz.func163,by kernel_rfl,rfl⟩
theorem wP:FnOk Tryz.prog 164:=⟨_,Tryz.func164,by kernel_rfl,rfl⟩
theorem kJ:FnOk Tryz.prog 165:=⟨_,Tryz.func165,by kernel_rfl,rfl⟩
theorem XZ:FnOk Tryz.prog 169:=⟨_,Tryz.func169,by kernel_rfl,rfl⟩
theorem Ko:FnOk Tryz.prog 170:=⟨_,Tryz.func170,by kernel_rfl,rfl⟩
theorem uO:FnOk Tryz.prog 171:=⟨_,Tryz.func171,by kernel_rfl,rfl⟩
theorem xT:FnOk Tryz.prog 172:=⟨_,Tryz.func172,by kernel_rfl,rfl⟩
theorem kH:FnOk Tryz.prog 173:=⟨_,Tryz.func173,by kernel_rfl,rfl⟩
theorem vm:FnOk Tryz.prog 174:=⟨_,Tryz.func174,by kernel_rfl,rfl⟩
theorem KH:FnOk Tryz.prog 175:=⟨_,Tryz.func175,by kernel_rfl,rfl⟩
theorem QX:FnOk Tryz.prog 176:=⟨_,Tryz.func176,by kernel_rfl,rfl⟩
theorem Y2:FnOk Tryz.prog 177:=⟨_,Tryz.func177,by kernel_rfl,rfl⟩
theorem VU:FnOk Tryz.prog 178:=⟨_,Tryz.func178,by kernel_rfl,rfl⟩
theorem KA:FnOk Tryz.prog 179:=⟨_,Tryz.func179,by kernel_rfl,rfl⟩
theorem kk:FnOk Tryz.prog 180:=⟨_,Tryz.func180,by kernel_rfl,rfl⟩
theorem Wm:FnOk Tryz.prog 181:=⟨_,Tryz.func181,by kernel_rfl,rfl⟩
theorem kw:FnOk Tryz.prog 182:=⟨_,Tryz.func182,by kernel_rfl,rfl⟩
theorem kz:FnOk Tryz.prog 184:=⟨_,Tryz.func184,by kernel_rfl,rfl⟩
theorem Ul:FnOk Tryz.prog 185:=⟨_,Tryz.func185,by kernel_rfl,rfl⟩
theorem Y4:FnOk Tryz.prog 186:=⟨_,Tryz.func186,by kernel_rfl,rfl⟩
theorem X8:FnOk Tryz.prog 187:=⟨_,Tryz.func187,by kernel_rfl,rfl⟩
theorem X7:FnOk Tryz.prog 188:=⟨_,Tryz.func188,by kernel_rfl,rfl⟩
theorem X9:FnOk Tryz.prog 189:=⟨_,Tryz.func189,by kernel_rfl,rfl⟩
theorem xZ:FnOk Tryz.prog 190:=⟨_,Tryz.func190,by kernel_rfl,rfl⟩
theorem Mn:FnOk Tryz.prog 193:=⟨_,Tryz.func193,by kernel_rfl,rfl⟩
theorem Us:FnOk Tryz.prog 194:=⟨_,Tryz.func194,by kernel_rfl,rfl⟩
theorem HC:FnOk Tryz.prog 214:=⟨_,Tryz.func214,by kernel_rfl,rfl⟩
theorem HJ:FnOk Tryz.prog 216:=⟨_,Tryz.func216,by kernel_rfl,rfl⟩
theorem vZ:FnOk Tryz.prog 218:=⟨_,Tryz.func218,by kernel_rfl,rfl⟩
theorem VT:FnOk Tryz.prog 228:=⟨_,Tryz.func228,by kernel_rfl,rfl⟩
theorem kN:FnOk Tryz.prog 229:=⟨_,Tryz.func229,by kernel_rfl,rfl⟩
theorem wD:FnOk Tryz.prog 230:=⟨_,Tryz.func230,by kernel_rfl,rfl⟩
theorem Ql:FnOk Tryz.prog 231:=⟨_,Tryz.func231,by kernel_rfl,rfl⟩
theorem Qb:FnOk Tryz.prog 232:=⟨_,Tryz.func232,by kernel_rfl,rfl⟩
theorem wR:FnOk Tryz.prog 234:=⟨_,Tryz.func234,by kernel_rfl,rfl⟩
theorem xY:FnOk Tryz.prog 235:=⟨_,Tryz.func235,by kernel_rfl,rfl⟩
theorem x6:FnOk Tryz.prog 236:=⟨_,Tryz.func236,by kernel_rfl,rfl⟩
theorem HM:FnOk Tryz.prog 237:=⟨_,Tryz.func237,by kernel_rfl,rfl⟩
theorem x5:FnOk Tryz.prog 238:=⟨_,Tryz.func238,by kernel_rfl,rfl⟩
theorem Yl:FnOk Tryz.prog 239:=⟨_,Tryz.func239,by kernel_rfl,rfl⟩
theorem Uo:FnOk Tryz.prog 240:=⟨_,Tryz.func240,by kernel_rfl,rfl⟩
theorem Vw:FnOk Tryz.prog 242:=⟨_,Tryz.func242,by kernel_rfl,rfl⟩
theorem vd:FnOk Tryz.prog 247:=⟨_,Tryz.func247,by kernel_rfl,rfl⟩
theorem xS:FnOk Tryz.prog 248:=⟨_,Tryz.func248,by kernel_rfl,rfl⟩
theorem xV:FnOk Tryz.prog 249:=⟨_,Tryz.func249,by kernel_rfl,rfl⟩
theorem xX:FnOk Tryz.prog 250:=⟨_,Tryz.func250,by kernel_rfl,rfl⟩
theorem Qa:FnOk Tryz.prog 256:=⟨_,Tryz.func256,by kernel_rfl,rfl⟩
theorem qQ:FnOk Tryz.prog 257:=⟨_,Tryz.func257,by kernel_rfl,rfl⟩
theorem wE:FnOk Tryz.prog 258:=⟨_,Tryz.func258,by kernel_rfl,rfl⟩
theorem vQ:FnOk Tryz.prog 259:=⟨_,Tryz.func259,by kernel_rfl,rfl⟩
theorem Mo:FnOk Tryz.prog 267:=⟨_,Tryz.func267,by kernel_rfl,rfl⟩
theorem wW:FnOk Tryz.prog 268:=⟨_,Tryz.func268,by kernel_rfl,rfl⟩
theorem ZQ:FnOk Tryz.prog 269:=⟨_,Tryz.func269,by kernel_rfl,rfl⟩
theorem Uq:FnOk Tryz.prog 270:=⟨_,Tryz.func270,by kernel_rfl,rfl⟩
theorem vH:FnOk Tryz.prog 271:=⟨_,Tryz.func271,by kernel_rfl,rfl⟩
theorem Yj:FnOk Tryz.prog 272:=⟨_,Tryz.func272,by kernel_rfl,rfl⟩
theorem Yk:FnOk Tryz.prog 273:=⟨_,Tryz.func273,by kernel_rfl,rfl⟩
theorem Vu:FnOk Tryz.prog 275:=⟨_,Tryz.func275,by kernel_rfl,rfl⟩
theorem QC:FnOk Tryz.prog 276:=⟨_,Tryz.func276,by kernel_rfl,rfl⟩
theorem wV:FnOk Tryz.prog 280:=⟨_,Tryz.func280,by kernel_rfl,rfl⟩
theorem Qm:FnOk Tryz.prog 281:=⟨_,Tryz.func281,by kernel_rfl,rfl⟩
theorem Yh:FnOk Tryz.prog 283:=⟨_,Tryz.func283,by kernel_rfl,rfl⟩
theorem qq (w:World) : (Instr.build 26 #[]).run Tryz.prog w= .ok (.agg #[.slice none 0 0]) w:=by
 rw [QU]
 simp only [jgN,jgM,jgV]
 simp [Instr.build,Instr.fill,go_sem]
theorem wH (h0:v0.cells= #[a0_0]) (w:World) : (Instr.build 26 #[(0,v0)]).run Tryz.prog w= .ok (.agg #[a0_0]) w:=by
 rw [QU]
 simp only [jgN,jgM,jgV,h0]
 simp [Instr.build,Instr.fill,go_sem]
theorem yv (w:World) : (Instr.build 28 #[]).run Tryz.prog w= .ok (.agg #[.int .i64 0, .int .i64 0]) w:=by
 rw [QU]
 simp only [jgN,jgM,jgV]
 simp [Instr.build,Instr.fill,go_sem]
theorem QN (h0:v0.cells= #[a0_0]) (h1:v1.cells= #[a1_0]) (w:World) : (Instr.build 28 #[(0,v0),(1,v1)]).run Tryz.prog w= .ok (.agg #[a0_0,a1_0]) w:=by
 rw [QU]
 simp only [jgN,jgM,jgV,h0,h1]
 simp [Instr.build,Instr.fill,go_sem]
theorem wI (w:World) : (Instr.build 74 #[]).run Tryz.prog w= .ok (.agg #[.slice none 0 0]) w:=by
 rw [QU]
 simp only [jgN,jgM,jgV]
 simp [Instr.build,Instr.fill,go_sem]
theorem kV (h0:v0.cells= #[a0_0]) (w:World) : (Instr.build 74 #[(0,v0)]).run Tryz.prog w= .ok (.agg #[a0_0]) w:=by
 rw [QU]
 simp only [jgN,jgM,jgV,h0]
 simp [Instr.build,Instr.fill,go_sem]
theorem UQ (h0:v0.cells= #[a0_0,a0_1]) (h1:v1.cells= #[a1_0,a1_1]) (w:World) : (Instr.build 96 #[(0,v0),(1,v1)]).run Tryz.prog w= .ok (.agg #[a0_0,a0_1,a1_0,a1_1]) w:=by
 rw [QU]
 simp only [jgN,jgM,jgV,h0,h1]
 simp [Instr.build,Instr.fill,go_sem]
theorem vS (h0:v0.cells= #[a0_0,a0_1]) (h1:v1.cells= #[a1_0,a1_1]) (w:World) : (Instr.build 147 #[(0,v0),(1,v1)]).run Tryz.prog w= .ok (.agg #[a0_0,a0_1,a1_0,a1_1]) w:=by
 rw [QU]
 simp only [jgN,jgM,jgV,h0,h1]
 simp [Instr.build,Instr.fill,go_sem]
theorem YD (h0:v0.cells= #[a0_0,a0_1]) (h1:v1.cells= #[a1_0,a1_1]) (w:World) : (Instr.build 171 #[(0,v0),(1,v1)]).run Tryz.prog w= .ok (.agg #[a0_0,a0_1,a1_0,a1_1, .int .i64 0, .int .i64 0, .int .i64 0]) w:=by
 rw [QU]
 simp only [jgN,jgM,jgV,h0,h1]
 simp [Instr.build,Instr.fill,go_sem]
theorem QT (h0:v0.cells= #[a0_0]) (h1:v1.cells= #[a1_0]) (h2:v2.cells= #[a2_0]) (w:World) : (Instr.build 204 #[(0,v0),(1,v1),(2,v2)]).run Tryz.prog w= .ok (.agg #[a0_0,a1_0,a2_0]) w:=by
 rw [QU]
 simp only [jgN,jgM,jgV,h0,h1,h2]
 simp [Instr.build,Instr.fill,go_sem]
theorem yw (h0:v0.cells= #[a0_0,a0_1,a0_2]) (h1:v1.cells= #[a1_0,a1_1,a1_2]) (w:World) : (Instr.build 206 #[(0,v0),(1,v1)]).run Tryz.prog w= .ok (.agg #[a0_0,a0_1,a0_2,a1_0,a1_1,a1_2]) w:=by
 rw [QU]
 simp only [jgN,jgM,jgV,h0,h1]
 simp [Instr.build,Instr.fill,go_sem]
theorem Yn (h0:v0.cells= #[a0_0,a0_1]) (h1:v1.cells= #[a1_0,a1_1,a1_2]) (w:World) : (Instr.build 210 #[(0,v0),(1,v1)]).run Tryz.prog w= .ok (.agg #[a0_0,a0_1,a1_0,a1_1,a1_2]) w:=by
 rw [QU]
 simp only [jgN,jgM,jgV,h0,h1]
 simp [Instr.build,Instr.fill,go_sem]
theorem xe (h0:v0.cells= #[a0_0,a0_1,a0_2,a0_3]) (w:World) : (Instr.build 262 #[(0,v0)]).run Tryz.prog w= .ok (.agg #[a0_0,a0_1,a0_2,a0_3, .int .i64 0, .int .i64 0, .int .i64 0, .int .i64 0]) w:=by
 rw [QU]
 simp only [jgN,jgM,jgV,h0]
 simp [Instr.build,Instr.fill,go_sem]
theorem uD (h0:v0.cells= #[a0_0]) (h1:v1.cells= #[a1_0]) (h2:v2.cells= #[a2_0]) (h3:v3.cells= #[a3_0]) (h4:v4.cells= #[a4_0]) (w:World) : (Instr.build 273 #[(0,v0),(1,v1),(2,v2),(3,v3),(4,v4)]).run Tryz.prog w= .ok (.agg #[a0_0,a1_0,a2_0,a3_0,a4_0, .bool false]) w:=by
 rw [QU]
 simp only [jgN,jgM,jgV,h0,h1,h2,h3,h4]
 simp [Instr.build,Instr.fill,go_sem]
theorem vw (h0:v0.cells= #[a0_0]) (h1:v1.cells= #[a1_0]) (h2:v2.cells= #[a2_0]) (h3:v3.cells= #[a3_0]) (h4:v4.cells= #[a4_0]) {v5 a5_0:Value} (h5:v5.cells= #[a5_0]) (w:World) : (Instr.build 273 #[(0,v0),(1,v1),(2,v2),(3,v3),(4,v4),(5,v5)]).run Tryz.prog w= .ok (.agg #[a0_0,a1_0,a2_0,a3_0,a4_0,a5_0]) w:=by
 rw [QU]
 simp only [jgN,jgM,jgV,h0,h1,h2,h3,h4,h5]
 simp [Instr.build,Instr.fill,go_sem]
theorem uE (h0:v0.cells= #[a0_0]) (h1:v1.cells= #[a1_0]) (h2:v2.cells= #[a2_0]) (h3:v3.cells= #[a3_0]) (h4:v4.cells= #[a4_0]) (w:World) : (Instr.build 273 #[(0,v0),(1,v1),(2,v2),(3,v3),(5,v4)]).run Tryz.prog w= .ok (.agg #[a0_0,a1_0,a2_0,a3_0, .bool false,a4_0]) w:=by
 rw [QU]
 simp only [jgN,jgM,jgV,h0,h1,h2,h3,h4]
 simp [Instr.build,Instr.fill,go_sem]
theorem YE (h0:v0.cells= #[a0_0,a0_1]) {a1_3 a1_4 a1_5:Value} (h1:v1.cells= #[a1_0,a1_1,a1_2,a1_3,a1_4,a1_5]) (w:World) : (Instr.build 279 #[(0,v0),(1,v1)]).run Tryz.prog w= .ok (.agg #[a0_0,a0_1,a1_0,a1_1,a1_2,a1_3,a1_4,a1_5]) w:=by
 rw [QU]
 simp only [jgN,jgM,jgV,h0,h1]
 simp [Instr.build,Instr.fill,go_sem]
theorem wa (w:World) : (Instr.buildSlice 24 0 #[]).run Tryz.prog w= .ok (.slice (some ⟨w.heap.size,0,none⟩) 0 0) (w.alloc (.cells [].toArray 74)) :=by
 rw [qf]
 simp only [jgN,jgM,jgV]
 simp [Instr.buildSlice,Instr.fill,go_sem]
theorem qp (h0:v0.cells= #[a0_0]) (w:World) : (Instr.buildSlice 24 1 #[(0,v0)]).run Tryz.prog w= .ok (.slice (some ⟨w.heap.size,0,none⟩) 1 1) (w.alloc (.cells [a0_0].toArray 74)) :=by
 rw [qf]
 simp only [jgN,jgM,jgV,h0]
 simp [Instr.buildSlice,Instr.fill,go_sem]
theorem YH (w:World) : (Instr.buildSlice 44 0 #[]).run Tryz.prog w= .ok (.slice (some ⟨w.heap.size,0,none⟩) 0 0) (w.alloc (.cells [].toArray 26)) :=by
 rw [qf]
 simp only [jgN,jgM,jgV]
 simp [Instr.buildSlice,Instr.fill,go_sem]
theorem wJ (h0:v0.cells= #[a0_0]) (w:World) : (Instr.buildSlice 44 1 #[(0,v0)]).run Tryz.prog w= .ok (.slice (some ⟨w.heap.size,0,none⟩) 1 1) (w.alloc (.cells [a0_0].toArray 26)) :=by
 rw [qf]
 simp only [jgN,jgM,jgV,h0]
 simp [Instr.buildSlice,Instr.fill,go_sem]
theorem Kn (w:World) : (Instr.buildSlice 58 0 #[]).run Tryz.prog w= .ok (.slice (some ⟨w.heap.size,0,none⟩) 0 0) (w.alloc (.cells [].toArray 28)) :=by
 rw [qf]
 simp only [jgN,jgM,jgV]
 simp [Instr.buildSlice,Instr.fill,go_sem]
theorem qX (h0:v0.cells= #[a0_0,a0_1]) (w:World) : (Instr.buildSlice 58 1 #[(0,v0)]).run Tryz.prog w= .ok (.slice (some ⟨w.heap.size,0,none⟩) 1 1) (w.alloc (.cells [a0_0,a0_1].toArray 28)) :=by
 rw [qf]
 simp only [jgN,jgM,jgV,h0]
 simp [Instr.buildSlice,Instr.fill,go_sem]
theorem vT (h0:v0.cells= #[a0_0,a0_1]) (h1:v1.cells= #[a1_0,a1_1]) (w:World) : (Instr.buildSlice 58 2 #[(0,v0),(1,v1)]).run Tryz.prog w= .ok (.slice (some ⟨w.heap.size,0,none⟩) 2 2) (w.alloc (.cells [a0_0,a0_1,a1_0,a1_1].toArray 28)) :=by
 rw [qf]
 simp only [jgN,jgM,jgV,h0,h1]
 simp [Instr.buildSlice,Instr.fill,go_sem]
theorem Uz (h0:v0.cells= #[a0_0,a0_1]) (h1:v1.cells= #[a1_0,a1_1]) {a2_1:Value} (h2:v2.cells= #[a2_0,a2_1]) {a3_1:Value} (h3:v3.cells= #[a3_0,a3_1]) (w:World) : (Instr.buildSlice 58 4 #[(0,v0),(1,v1),(2,v2),(3,v3)]).run Tryz.prog w= .ok (.slice (some ⟨w.heap.size,0,none⟩) 4 4) (w.alloc (.cells [a0_0,a0_1,a1_0,a1_1,a2_0,a2_1,a3_0,a3_1].toArray 28)) :=by
 rw [qf]
 simp only [jgN,jgM,jgV,h0,h1,h2,h3]
 simp [Instr.buildSlice,Instr.fill,go_sem]
theorem LG (w:World) : (Instr.buildSlice 68 0 #[]).run Tryz.prog w= .ok (.slice (some ⟨w.heap.size,0,none⟩) 0 0) (w.alloc (.cells [].toArray 2)) :=by
 rw [qf]
 simp only [jgN,jgM,jgV]
 simp [Instr.buildSlice,Instr.fill,go_sem]
theorem US (h0:v0.cells= #[a0_0]) (w:World) : (Instr.buildSlice 68 1 #[(0,v0)]).run Tryz.prog w= .ok (.slice (some ⟨w.heap.size,0,none⟩) 1 1) (w.alloc (.cells [a0_0].toArray 2)) :=by
 rw [qf]
 simp only [jgN,jgM,jgV,h0]
 simp [Instr.buildSlice,Instr.fill,go_sem]
theorem Yo (w:World) : (Instr.buildSlice 89 0 #[]).run Tryz.prog w= .ok (.slice (some ⟨w.heap.size,0,none⟩) 0 0) (w.alloc (.cells [].toArray 147)) :=by
 rw [qf]
 simp only [jgN,jgM,jgV]
 simp [Instr.buildSlice,Instr.fill,go_sem]
theorem wq (h0:v0.cells= #[a0_0,a0_1,a0_2,a0_3]) (w:World) : (Instr.buildSlice 89 1 #[(0,v0)]).run Tryz.prog w= .ok (.slice (some ⟨w.heap.size,0,none⟩) 1 1) (w.alloc (.cells [a0_0,a0_1,a0_2,a0_3].toArray 147)) :=by
 rw [qf]
 simp only [jgN,jgM,jgV,h0]
 simp [Instr.buildSlice,Instr.fill,go_sem]
theorem kZ (h0:v0.cells= #[a0_0,a0_1,a0_2,a0_3]) (w:World) : (Instr.buildSlice 93 1 #[(0,v0)]).run Tryz.prog w= .ok (.slice (some ⟨w.heap.size,0,none⟩) 1 1) (w.alloc (.cells [a0_0,a0_1,a0_2,a0_3].toArray 96)) :=by
 rw [qf]
 simp only [jgN,jgM,jgV,h0]
 simp [Instr.buildSlice,Instr.fill,go_sem]
theorem VL (h0:v0.cells= #[a0_0]) (h1:v1.cells= #[a1_0]) (w:World) : (Instr.buildSlice 154 2 #[(0,v0),(1,v1)]).run Tryz.prog w= .ok (.slice (some ⟨w.heap.size,0,none⟩) 2 2) (w.alloc (.cells [a0_0,a1_0].toArray 93)) :=by
 rw [qf]
 simp only [jgN,jgM,jgV,h0,h1]
 simp [Instr.buildSlice,Instr.fill,go_sem]
theorem LH (h0:v0.cells= #[a0_0]) (w:World) : (Instr.buildSlice 166 1 #[(0,v0)]).run Tryz.prog w= .ok (.slice (some ⟨w.heap.size,0,none⟩) 1 1) (w.alloc (.cells [a0_0].toArray 3)) :=by
 rw [qf]
 simp only [jgN,jgM,jgV,h0]
 simp [Instr.buildSlice,Instr.fill,go_sem]
theorem UA (h0:v0.cells= #[a0_0,a0_1,a0_2,a0_3,a0_4]) (w:World) : (Instr.buildSlice 202 1 #[(0,v0)]).run Tryz.prog w= .ok (.slice (some ⟨w.heap.size,0,none⟩) 1 1) (w.alloc (.cells [a0_0,a0_1,a0_2,a0_3,a0_4].toArray 210)) :=by
 rw [qf]
 simp only [jgN,jgM,jgV,h0]
 simp [Instr.buildSlice,Instr.fill,go_sem]
theorem YI (w:World) : (Instr.buildSlice 222 0 #[]).run Tryz.prog w= .ok (.slice (some ⟨w.heap.size,0,none⟩) 0 0) (w.alloc (.cells [].toArray 262)) :=by
 rw [qf]
 simp only [jgN,jgM,jgV]
 simp [Instr.buildSlice,Instr.fill,go_sem]
theorem yx {a0_5 a0_6 a0_7:Value} (h0:v0.cells= #[a0_0,a0_1,a0_2,a0_3,a0_4,a0_5,a0_6,a0_7]) (w:World) : (Instr.buildSlice 222 1 #[(0,v0)]).run Tryz.prog w= .ok (.slice (some ⟨w.heap.size,0,none⟩) 1 1) (w.alloc (.cells [a0_0,a0_1,a0_2,a0_3,a0_4,a0_5,a0_6,a0_7].toArray 262)) :=by
 rw [qf]
 simp only [jgN,jgM,jgV,h0]
 simp [Instr.buildSlice,Instr.fill,go_sem]
theorem UT (h0:v0.cells= #[a0_0]) (h1:v1.cells= #[a1_0]) (w:World) : (Instr.buildSlice 255 2 #[(0,v0),(1,v1)]).run Tryz.prog w= .ok (.slice (some ⟨w.heap.size,0,none⟩) 2 2) (w.alloc (.cells [a0_0,a1_0].toArray 58)) :=by
 rw [qf]
 simp only [jgN,jgM,jgV,h0,h1]
 simp [Instr.buildSlice,Instr.fill,go_sem]
theorem Wj (w:World) : (Instr.buildSlice 271 0 #[]).run Tryz.prog w= .ok (.slice (some ⟨w.heap.size,0,none⟩) 0 0) (w.alloc (.cells [].toArray 279)) :=by
 rw [qf]
 simp only [jgN,jgM,jgV]
 simp [Instr.buildSlice,Instr.fill,go_sem]
theorem UU {a0_5 a0_6 a0_7:Value} (h0:v0.cells= #[a0_0,a0_1,a0_2,a0_3,a0_4,a0_5,a0_6,a0_7]) (w:World) : (Instr.buildSlice 271 1 #[(0,v0)]).run Tryz.prog w= .ok (.slice (some ⟨w.heap.size,0,none⟩) 1 1) (w.alloc (.cells [a0_0,a0_1,a0_2,a0_3,a0_4,a0_5,a0_6,a0_7].toArray 279)) :=by
 rw [qf]
 simp only [jgN,jgM,jgV,h0]
 simp [Instr.buildSlice,Instr.fill,go_sem]
theorem vC {env:List (Nat×Value)} (ho:o.op= .binOp .eql 28 x y T') (hx:ev env x=some (.agg #[.int .i64 a0, .int .i64 a1])) (hy:ev env y=some (.agg #[.int .i64 b0, .int .i64 b1])) :Qt Tryz.prog o n env w0 Rs (.bool ((a0==b0) && (a1==b1))) :=
 QY fun a w hF _=>by
  unfold execOp;simp only [ho,hF.ev hx,hF.ev hy]
  cases h0: (a0==b0);all_goals cases h1: (a1==b1)
  all_goals simp [go_sem, *]
theorem KG {env:List (Nat×Value)} (ho:o.op= .binOp .neq 28 x y T') (hx:ev env x=some (.agg #[.int .i64 a0, .int .i64 a1])) (hy:ev env y=some (.agg #[.int .i64 b0, .int .i64 b1])) :Qt Tryz.prog o n env w0 Rs (.bool (!((a0==b0) && (a1==b1)))) :=
 QY fun a w hF _=>by
  unfold execOp;simp only [ho,hF.ev hx,hF.ev hy]
  cases h0: (a0==b0);all_goals cases h1: (a1==b1)
  all_goals simp [go_sem, *]
theorem WJ {env:List (Nat×Value)} {a2 a3 b2 b3:Int} (ho:o.op= .binOp .eql 96 x y T') (hx:ev env x=some (.agg #[.int .i64 a0, .int .i64 a1, .int .i64 a2, .int .i64 a3])) (hy:ev env y=some (.agg #[.int .i64 b0, .int .i64 b1, .int .i64 b2, .int .i64 b3])) :Qt Tryz.prog o n env w0 Rs (.bool ((a0==b0) && (a1==b1) && (a2==b2) && (a3==b3))) :=
 QY fun a w hF _=>by
  unfold execOp;simp only [ho,hF.ev hx,hF.ev hy]
  cases h0: (a0==b0);all_goals cases h1: (a1==b1);all_goals cases h2: (a2==b2);all_goals cases h3: (a3==b3)
  all_goals simp [go_sem, *]
theorem Gi {env:List (Nat×Value)} {a2 a3 b2 b3:Int} (ho:o.op= .binOp .neq 96 x y T') (hx:ev env x=some (.agg #[.int .i64 a0, .int .i64 a1, .int .i64 a2, .int .i64 a3])) (hy:ev env y=some (.agg #[.int .i64 b0, .int .i64 b1, .int .i64 b2, .int .i64 b3])) :Qt Tryz.prog o n env w0 Rs (.bool (!((a0==b0) && (a1==b1) && (a2==b2) && (a3==b3)))) :=
 QY fun a w hF _=>by
  unfold execOp;simp only [ho,hF.ev hx,hF.ev hy]
  cases h0: (a0==b0);all_goals cases h1: (a1==b1);all_goals cases h2: (a2==b2);all_goals cases h3: (a3==b3)
  all_goals simp [go_sem, *]
theorem zb {env:List (Nat×Value)} {a2 a3 b2 b3:Int} (ho:o.op= .binOp .neq 147 x y T') (hx:ev env x=some (.agg #[.int .i64 a0, .int .i64 a1, .int .i64 a2, .int .i64 a3])) (hy:ev env y=some (.agg #[.int .i64 b0, .int .i64 b1, .int .i64 b2, .int .i64 b3])) :Qt Tryz.prog o n env w0 Rs (.bool (!((a0==b0) && (a1==b1) && (a2==b2) && (a3==b3)))) :=
 QY fun a w hF _=>by
  unfold execOp;simp only [ho,hF.ev hx,hF.ev hy]
  cases h0: (a0==b0);all_goals cases h1: (a1==b1);all_goals cases h2: (a2==b2);all_goals cases h3: (a3==b3)
  all_goals simp [go_sem, *]
theorem mixed:Tryz.prog.follows .mixedOrders=true:=by kernel_rfl
theorem tzA (h:p:=by first|exact jD|exact jH|exact Js|exact J5|exact qd|exact Qz|exact Qy|exact QS|exact kD|exact QA|exact Wf|exact qV) :p:=h
section
variable {P:Program} {n:Nat} {env:List (Nat×Value)} {w0:Bs} {Rs:List Res} {ops:Array Oper} {Q:Exit→Act→World→Prop} {K:Act→World→Prop} {o:Oper}
theorem qlS {b off:Nat} (ho:o.op= .load T x) (hx:ev env x=some (.pointer (some ⟨b,off,none⟩))) (hT:TyS P T m) (hc:∀w,St w0 Rs w→∀j v,cs[j]? =some v→w.cell? ⟨b,off+j,none⟩ =some v) (hl:cs.length=m) :Qt P o n env w0 Rs (.agg cs.toArray) :=jk ho hx hT hl hc
def pqV (env:List (Nat×Value)) :Op→Option Value
  | .move x=>ev env x
  | .assign x=>ev env x
  | .nilCheck x=>match ev env x with
    | some (.pointer (some p)) =>some (.pointer (some p))
    | _=>none
  | .extract x i=>match ev env x with
    | some (.tuple vs) =>vs.toList[i]?
    | _=>none
  | .pick c x y=>match ev env c with
    | some (.bool true) =>ev env x
    | some (.bool false) =>ev env y
    | _=>none
  | .binOp b _ x y _=>match ev env x,ev env y with
    | some (.int .i64 p),some (.int .i64 q) =>match b with
      | .lss=>some (.bool (decide (p<q)))
      | .leq=>some (.bool (decide (p≤q)))
      | .gtr=>some (.bool (decide (q<p)))
      | .geq=>some (.bool (decide (q≤p)))
      | .eql=>some (.bool (p==q))
      | .neq=>some (.bool (!(p==q)))
      | _=>none
    | _,_=>none
  | .unOp .not _ x=>match ev env x with
    | some (.bool p) =>some (.bool (!p))
    | _=>none
  | _=>none
theorem jgu (h:pqV env o.op=some v) :Qt P o n env w0 Rs v:=by
 unfold pqV at h
 split at h
 ·rename_i x ho;exact ja ho h
 ·rename_i x ho;exact jd ho h
 ·rename_i x ho
  split at h
  ·rename_i p hx;injection h with h;subst h;exact Jo ho hx
  ·cases h
 ·rename_i x i ho
  split at h
  ·rename_i vs hx;exact JP (vs:=vs.toList) ho hx h
  ·cases h
 ·rename_i c x y ho
  split at h
  ·rename_i hc;exact Jk ho hc h
  ·rename_i hc;exact jN ho hc h
  ·cases h
 ·rename_i b T x y T' ho
  split at h
  ·rename_i p q hx hy
   split at h
   ·injection h with h;subst h;exact Jj ho hx hy
   ·injection h with h;subst h;exact Q8 ho hx hy
   ·injection h with h;subst h;exact Qg ho hx hy
   ·injection h with h;subst h;exact Gh ho hx hy
   ·injection h with h;subst h;exact qL ho hx hy
   ·injection h with h;subst h;exact kg ho hx hy
   ·cases h
  ·cases h
 ·rename_i T x ho
  split at h
  ·rename_i p hx;injection h with h;subst h;exact qH ho hx
  ·cases h
 ·cases h
end
section
variable {P:Program} {n:Nat} {env:List (Nat×Value)} {w0:Bs} {Rs:List Res} {ops:Array Oper} {Q:Exit→Act→World→Prop} {K:Act→World→Prop} {o:Oper}
theorem jA {T U:Nat} {b:Nat} {vs:List Value} (k:Nat) (h:At n env w0 (Rs.set k (.cel b U vs)) K) (ho:o.op= .store T x y:=by exact rfl) (hd:o.dst=none:=by exact rfl) (hx:ev env x=some (.pointer (some ⟨b,0,none⟩)) :=by exact rfl) (hk:Rs[k]? =some (.cel b U cs) :=by exact rfl) (hz: (P.info? T).map (·.size) =some m:=by exact TyZ.szx tzA) (hy:ev env y=some v:=by exact rfl) (hv:v.cells=vs.toArray:=by exact rfl) (h1:vs.all (·.oneCell') =true:=by rfl) (hm:vs.length=m:=by exact rfl) (hl:cs.length=m:=by exact rfl) :At n env w0 Rs (fun a w=>o.wp P a w K Q) :=j9 k hz h ho hd hx hy hv h1 hm hk hl
end
theorem qA9 (h:p:=by first|exact jgu rfl|exact qlS rfl rfl (by first|exact jj|exact jI|exact JB|exact Qw|exact qm|exact qk|exact vE|exact VD|exact vt|exact Kp) (by first|exact jX (k:=0) rfl|exact jX (k:=1) rfl|exact jX (k:=2) rfl|exact jX (k:=3) rfl|exact jX (k:=4) rfl|exact jX (k:=5) rfl|exact jX (k:=6) rfl|exact jX (k:=7) rfl|exact jX (k:=8) rfl|exact jX (k:=9) rfl) (by rfl)|exact qlS rfl rfl (by first|exact jj|exact jI|exact JB|exact Qw|exact qm|exact qk|exact vE|exact VD|exact vt|exact Kp) (by first|exact yo (k:=0) rfl rfl rfl|exact yo (k:=1) rfl rfl rfl|exact yo (k:=2) rfl rfl rfl|exact yo (k:=3) rfl rfl rfl|exact yo (k:=4) rfl rfl rfl|exact yo (k:=5) rfl rfl rfl|exact yo (k:=6) rfl rfl rfl|exact yo (k:=7) rfl rfl rfl|exact yo (k:=8) rfl rfl rfl|exact yo (k:=9) rfl rfl rfl) (by rfl)|exact qlS rfl rfl (by first|exact jj|exact jI|exact JB|exact Qw|exact qm|exact qk|exact vE|exact VD|exact vt|exact Kp) (by first|exact rd3 (k:=0) rfl rfl rfl rfl|exact rd3 (k:=1) rfl rfl rfl rfl|exact rd3 (k:=2) rfl rfl rfl rfl|exact rd3 (k:=3) rfl rfl rfl rfl|exact rd3 (k:=4) rfl rfl rfl rfl|exact rd3 (k:=5) rfl rfl rfl rfl|exact rd3 (k:=6) rfl rfl rfl rfl|exact rd3 (k:=7) rfl rfl rfl rfl|exact rd3 (k:=8) rfl rfl rfl rfl|exact rd3 (k:=9) rfl rfl rfl rfl) (by rfl)|exact jl rfl rfl (by first|exact jt|exact Jz|exact JK|exact Qv|exact Gy) (by first|exact ql (k:=0) rfl rfl|exact ql (k:=1) rfl rfl|exact ql (k:=2) rfl rfl|exact ql (k:=3) rfl rfl|exact ql (k:=4) rfl rfl|exact ql (k:=5) rfl rfl|exact ql (k:=6) rfl rfl|exact ql (k:=7) rfl rfl|exact ql (k:=8) rfl rfl|exact ql (k:=9) rfl rfl)|exact vC rfl rfl rfl|exact WJ rfl rfl rfl|exact jg rfl rfl (by first|exact jF|exact Jm|exact Ji|exact JD|exact JC|exact qa|exact JA|exact J7|exact Qj|exact Qk|exact QQ|exact QR|exact kT|exact kU|exact Qd|exact ku|exact kv|exact kC|exact Kv|exact Kw|exact vo|exact vp|exact KQ|exact vq|exact Wd|exact We|exact yi|exact yj|exact Z3|exact Z2|exact z7|exact Xu)|exact JH rfl rfl (by first|exact jB|exact jw|exact jV|exact j5|exact qM|exact vr|exact vP|exact JJ|exact JF|exact WM|exact q6|exact Z4)|exact jG rfl rfl rfl (by first|exact jB|exact jw|exact jV|exact j5|exact qM|exact vr|exact vP|exact JJ|exact JF|exact WM|exact q6|exact Z4) Om|exact KG rfl rfl rfl|exact Gi rfl rfl rfl|exact jO rfl rfl rfl Om Om|exact JL rfl rfl rfl Om Om|exact qT rfl rfl rfl Om Om) :p:=h
section
variable {P:Program} {n:Nat} {env:List (Nat×Value)} {w0:Bs} {Rs:List Res} {ops:Array Oper} {Q:Exit→Act→World→Prop} {K:Act→World→Prop} {o:Oper}
theorem uw (ks:List Nat) {X:List Res} (e:Rs0++X=wks ks Rs) :∀w,St w0 Rs w→St w0 Rs0 w:=fun w h=> (h.wk ks).upto (e▸jgt Rs0 X)
theorem aA9 (h:At n ((d,v) ::env) w0 Rs (fun a w=>wpList P ops Q rest a w)) (hg:o.guard=none:=by exact rfl) (hd:o.dst=some d:=by exact rfl) (hn:d<n:=by decide) (hq:Qt P o n env w0 Rs v:=by exact qA9) :At n env w0 Rs (fun a w=>wpList P ops Q (o::rest) a w) :=jc hg hd hn hq h
theorem oA9 (h:At n ((d,v) ::env) w0 Rs K) (hd:o.dst=some d:=by exact rfl) (hn:d<n:=by decide) (hq:Qt P o n env w0 Rs v:=by exact qA9) :At n env w0 Rs (fun a w=>o.wp P a w K Q) :=Jl hd hn hq h
theorem suA (h:p:=by first|exact u9 rfl|exact uw [0] rfl|exact uw [1] rfl|exact uw [2] rfl|exact uw [3] rfl|exact uw [4] rfl|exact uw [5] rfl|exact uw [6] rfl|exact uw [7] rfl|exact uw [8] rfl|exact uw [9] rfl) :p:=h
theorem dK (i:Nat) (h:At n ((d,v) ::env) w0 Rs (fun a w=>Qf P .any ops Q (Ue w0 Rs0) f fuel (listed.setIfInBounds i true) a w)) (hi:ops[i]? =some o:=by exact rfl) (hsub:∀w,St w0 Rs w→St w0 Rs0 w:=by exact suA) (hg:o.guard=none:=by exact rfl) (hd:o.dst=some d:=by exact rfl) (hn:d<n:=by decide) (hS:Region.noSelect ops=true:=by kernel_rfl) (hfr:Region.free .any ops listed i=true:=by kernel_rfl) (hrd: (Region.ready .any ops listed).contains i=true:=by kernel_rfl) (hfi: (KV .any ops listed i [] f&&i !=f) =true:=by kernel_rfl) (hq:Qt P o n env w0 Rs0 v:=by exact qA9) (hQ:∀c a w,Q (.panic c) (a.put o.dst v) w→Q (.panic c) a w:=by exact fun _ _ _ h=>h) :At n env w0 Rs (fun a w=>Qf P .any ops Q (Ue w0 Rs0) f (fuel+1) listed a w) :=d9 i hi [] hsub hq h hg hd hn hS hfr hrd hfi hQ
theorem eK (i:Nat) (h:At n ((d,v) ::env) w0 Rs (fun a w=>Qf P .any ops Q (Ue w0 Rs0) f fuel (listed.setIfInBounds i true) a w)) (hi:ops[i]? =some o:=by exact rfl) (hsub:∀w,St w0 Rs w→St w0 Rs0 w:=by exact suA) (hg:o.guard=some (j,c) :=by exact rfl) (hj:ops[j]? =some oj:=by exact rfl) (hdj:oj.dst=some dj:=by exact rfl) (hb:look env dj=some (.bool c) :=by exact rfl) (hd:o.dst=some d:=by exact rfl) (hn:d<n:=by decide) (hS:Region.noSelect ops=true:=by kernel_rfl) (hfr:Region.free .any ops listed i=true:=by kernel_rfl) (hrd: (Region.ready .any ops listed).contains i=true:=by kernel_rfl) (hfi: (KV .any ops listed i [] f&&i !=f) =true:=by kernel_rfl) (hq:Qt P o n env w0 Rs0 v:=by exact qA9) (hQ:∀c a w,Q (.panic c) (a.put o.dst v) w→Q (.panic c) a w:=by exact fun _ _ _ h=>h) :At n env w0 Rs (fun a w=>Qf P .any ops Q (Ue w0 Rs0) f (fuel+1) listed a w) :=e9 i hi [] hsub hq h hg hj hdj hb hd hn hS hfr hrd hfi hQ
theorem fK {b:Bool} (i:Nat) (h:At n ((d,undef) ::env) w0 Rs (fun a w=>Qf P .any ops Q (Ue w0 Rs0) f fuel (listed.setIfInBounds i true) a w)) (hi:ops[i]? =some o:=by exact rfl) (hsub:∀w,St w0 Rs w→St w0 Rs0 w:=by exact suA) (hg:o.guard=some (j,c) :=by exact rfl) (hj:ops[j]? =some oj:=by exact rfl) (hdj:oj.dst=some dj:=by exact rfl) (hb:look env dj=some (.bool b) :=by exact rfl) (hne:b≠c:=by decide) (hd:o.dst=some d:=by exact rfl) (hn:d<n:=by decide) (hS:Region.noSelect ops=true:=by kernel_rfl) (hfr:Region.free .any ops listed i=true:=by kernel_rfl) (hrd: (Region.ready .any ops listed).contains i=true:=by kernel_rfl) (hfi: (KV .any ops listed i [] f&&i !=f) =true:=by kernel_rfl) (hQ:∀c a w,Q (.panic c) (a.put o.dst undef) w→Q (.panic c) a w:=by exact fun _ _ _ h=>h) :At n env w0 Rs (fun a w=>Qf P .any ops Q (Ue w0 Rs0) f (fuel+1) listed a w) :=f9 i hi [] hsub h hg hj hdj hb hne hd hn hS hfr hrd hfi hQ
theorem dV (i:Nat) (ms:List Nat) (h:At n ((d,v) ::env) w0 Rs (fun a w=>Qf P .any ops Q (Ue w0 Rs0) f fuel (listed.setIfInBounds i true) a w)) (hi:ops[i]? =some o:=by exact rfl) (hsub:∀w,St w0 Rs w→St w0 Rs0 w:=by exact suA) (hg:o.guard=none:=by exact rfl) (hd:o.dst=some d:=by exact rfl) (hn:d<n:=by decide) (hS:Region.noSelect ops=true:=by kernel_rfl) (hfr:Region.free .any ops listed i=true:=by kernel_rfl) (hrd: (Region.ready .any ops listed).contains i=true:=by kernel_rfl) (hfi: (KV .any ops listed i ms f&&i !=f) =true:=by kernel_rfl) (hq:Qt P o n env w0 Rs0 v:=by exact qA9) (hQ:∀c a w,Q (.panic c) (a.put o.dst v) w→Q (.panic c) a w:=by exact fun _ _ _ h=>h) :At n env w0 Rs (fun a w=>Qf P .any ops Q (Ue w0 Rs0) f (fuel+1) listed a w) :=d9 i hi ms hsub hq h hg hd hn hS hfr hrd hfi hQ
theorem eV (i:Nat) (ms:List Nat) (h:At n ((d,v) ::env) w0 Rs (fun a w=>Qf P .any ops Q (Ue w0 Rs0) f fuel (listed.setIfInBounds i true) a w)) (hi:ops[i]? =some o:=by exact rfl) (hsub:∀w,St w0 Rs w→St w0 Rs0 w:=by exact suA) (hg:o.guard=some (j,c) :=by exact rfl) (hj:ops[j]? =some oj:=by exact rfl) (hdj:oj.dst=some dj:=by exact rfl) (hb:look env dj=some (.bool c) :=by exact rfl) (hd:o.dst=some d:=by exact rfl) (hn:d<n:=by decide) (hS:Region.noSelect ops=true:=by kernel_rfl) (hfr:Region.free .any ops listed i=true:=by kernel_rfl) (hrd: (Region.ready .any ops listed).contains i=true:=by kernel_rfl) (hfi: (KV .any ops listed i ms f&&i !=f) =true:=by kernel_rfl) (hq:Qt P o n env w0 Rs0 v:=by exact qA9) (hQ:∀c a w,Q (.panic c) (a.put o.dst v) w→Q (.panic c) a w:=by exact fun _ _ _ h=>h) :At n env w0 Rs (fun a w=>Qf P .any ops Q (Ue w0 Rs0) f (fuel+1) listed a w) :=e9 i hi ms hsub hq h hg hj hdj hb hd hn hS hfr hrd hfi hQ
theorem fV {b:Bool} (i:Nat) (ms:List Nat) (h:At n ((d,undef) ::env) w0 Rs (fun a w=>Qf P .any ops Q (Ue w0 Rs0) f fuel (listed.setIfInBounds i true) a w)) (hi:ops[i]? =some o:=by exact rfl) (hsub:∀w,St w0 Rs w→St w0 Rs0 w:=by exact suA) (hg:o.guard=some (j,c) :=by exact rfl) (hj:ops[j]? =some oj:=by exact rfl) (hdj:oj.dst=some dj:=by exact rfl) (hb:look env dj=some (.bool b) :=by exact rfl) (hne:b≠c:=by decide) (hd:o.dst=some d:=by exact rfl) (hn:d<n:=by decide) (hS:Region.noSelect ops=true:=by kernel_rfl) (hfr:Region.free .any ops listed i=true:=by kernel_rfl) (hrd: (Region.ready .any ops listed).contains i=true:=by kernel_rfl) (hfi: (KV .any ops listed i ms f&&i !=f) =true:=by kernel_rfl) (hQ:∀c a w,Q (.panic c) (a.put o.dst undef) w→Q (.panic c) a w:=by exact fun _ _ _ h=>h) :At n env w0 Rs (fun a w=>Qf P .any ops Q (Ue w0 Rs0) f (fuel+1) listed a w) :=f9 i hi ms hsub h hg hj hdj hb hne hd hn hS hfr hrd hfi hQ
theorem dZ (i:Nat) (hi:ops[i]? =some o) (hq:Qt P o n env w0 Rs0 v) (h:At n ((d,v) ::env) w0 Rs (fun a w=>Qf P .any ops Q (Ue w0 Rs0) f fuel (listed.setIfInBounds i true) a w)) (hsub:∀w,St w0 Rs w→St w0 Rs0 w:=by exact suA) (hg:o.guard=none:=by exact rfl) (hd:o.dst=some d:=by exact rfl) (hn:d<n:=by decide) (hS:Region.noSelect ops=true:=by kernel_rfl) (hfr:Region.free .any ops listed i=true:=by kernel_rfl) (hrd: (Region.ready .any ops listed).contains i=true:=by kernel_rfl) (hfi: (KV .any ops listed i [] f&&i !=f) =true:=by kernel_rfl) (hQ:∀c a w,Q (.panic c) (a.put o.dst v) w→Q (.panic c) a w:=by exact fun _ _ _ h=>h) :At n env w0 Rs (fun a w=>Qf P .any ops Q (Ue w0 Rs0) f (fuel+1) listed a w) :=d9 i hi [] hsub hq h hg hd hn hS hfr hrd hfi hQ
theorem eZ (i:Nat) (hi:ops[i]? =some o) (hq:Qt P o n env w0 Rs0 v) (h:At n ((d,v) ::env) w0 Rs (fun a w=>Qf P .any ops Q (Ue w0 Rs0) f fuel (listed.setIfInBounds i true) a w)) (hsub:∀w,St w0 Rs w→St w0 Rs0 w:=by exact suA) (hg:o.guard=some (j,c) :=by exact rfl) (hj:ops[j]? =some oj:=by exact rfl) (hdj:oj.dst=some dj:=by exact rfl) (hb:look env dj=some (.bool c) :=by exact rfl) (hd:o.dst=some d:=by exact rfl) (hn:d<n:=by decide) (hS:Region.noSelect ops=true:=by kernel_rfl) (hfr:Region.free .any ops listed i=true:=by kernel_rfl) (hrd: (Region.ready .any ops listed).contains i=true:=by kernel_rfl) (hfi: (KV .any ops listed i [] f&&i !=f) =true:=by kernel_rfl) (hQ:∀c a w,Q (.panic c) (a.put o.dst v) w→Q (.panic c) a w:=by exact fun _ _ _ h=>h) :At n env w0 Rs (fun a w=>Qf P .any ops Q (Ue w0 Rs0) f (fuel+1) listed a w) :=e9 i hi [] hsub hq h hg hj hdj hb hd hn hS hfr hrd hfi hQ
theorem aL {q:Nat} (h:∀b,At n ((d, .pointer (some ⟨b,0,none⟩)) ::env) w0 (Rs++ [.cel b T z.cells.toList]) K) (ho:o.op= .alloc T:=by exact rfl) (hz:TyZ P T m q z:=by exact tzA) (hd:o.dst=some d:=by exact rfl) (hn:d<n:=by exact lb rfl) :At n env w0 Rs (fun a w=>o.wp P a w K Q) :=Jp ho hz hd hn h
theorem aX (h:∀b,At n ((d, .pointer (some ⟨b,0,none⟩)) ::env) w0 (Rs++ [.cel b T cs]) K) (ho:o.op= .box T x:=by exact rfl) (hx:ev env x=some v:=by exact rfl) (hv:v.cells=cs.toArray:=by exact rfl) (hd:o.dst=some d:=by exact rfl) (hn:d<n:=by exact lb rfl) :At n env w0 Rs (fun a w=>o.wp P a w K Q) :=JM ho hx hv hd hn h
end
structure Hk (B:Prop) :Prop where
  o:B
theorem S1 (h:B) (s:Hk B→A:=by intro h; (first|with_reducible refine je ?_|with_reducible refine jb ?_|with_reducible refine jf ?_|with_reducible refine jh ?_|refine aA9 ?_|refine g9 ?_|refine h9 ?_|refine oA9 ?_|refine jn (fun h=>by cases h) ?_|with_reducible refine jz ?_|with_reducible refine ju ?_|with_reducible refine jC ?_|with_reducible refine jr ?_|with_reducible refine jY ?_|with_reducible refine JT ?_|with_reducible refine Jh ?_|refine Ge Dc ?_|with_reducible refine Jv ?_|with_reducible refine JX ?_|refine Dw rfl rfl ?_|refine vJ rfl rfl ?_|refine JG mixed rfl ?_|refine jp rfl ?_|refine qC rfl rfl rfl rfl rfl Dc ?_|(refine jA 0 ?_;refine n9 ?_)|(refine jA 1 ?_;refine n9 ?_)|(refine jA 2 ?_;refine n9 ?_)|(refine jA 3 ?_;refine n9 ?_)|(refine jA 4 ?_;refine n9 ?_)|(refine jA 5 ?_;refine n9 ?_)|(refine jA 6 ?_;refine n9 ?_)|(refine jA 7 ?_;refine n9 ?_)|(refine jA 8 ?_;refine n9 ?_)|(refine jA 9 ?_;refine n9 ?_));exact h.o) :A:=s ⟨h⟩
theorem S2 (h:B) (s:Hk B→A:=by intro h; (iterate 2 refine S1 ?_);exact h.o) :A:=s ⟨h⟩
theorem S3 (h:B) (s:Hk B→A:=by intro h; (iterate 3 refine S1 ?_);exact h.o) :A:=s ⟨h⟩
theorem S4 (h:B) (s:Hk B→A:=by intro h; (iterate 4 refine S1 ?_);exact h.o) :A:=s ⟨h⟩
theorem S5 (h:B) (s:Hk B→A:=by intro h; (iterate 5 refine S1 ?_);exact h.o) :A:=s ⟨h⟩
theorem S6 (h:B) (s:Hk B→A:=by intro h; (iterate 6 refine S1 ?_);exact h.o) :A:=s ⟨h⟩
theorem S7 (h:B) (s:Hk B→A:=by intro h; (iterate 7 refine S1 ?_);exact h.o) :A:=s ⟨h⟩
theorem S8 (h:B) (s:Hk B→A:=by intro h; (iterate 8 refine S1 ?_);exact h.o) :A:=s ⟨h⟩
theorem S9 (h:B) (s:Hk B→A:=by intro h; (iterate 9 refine S1 ?_);exact h.o) :A:=s ⟨h⟩
theorem S10 (h:B) (s:Hk B→A:=by intro h; (iterate 10 refine S1 ?_);exact h.o) :A:=s ⟨h⟩
theorem S11 (h:B) (s:Hk B→A:=by intro h; (iterate 11 refine S1 ?_);exact h.o) :A:=s ⟨h⟩
theorem S12 (h:B) (s:Hk B→A:=by intro h; (iterate 12 refine S1 ?_);exact h.o) :A:=s ⟨h⟩
theorem S13 (h:B) (s:Hk B→A:=by intro h; (iterate 13 refine S1 ?_);exact h.o) :A:=s ⟨h⟩
theorem S14 (h:B) (s:Hk B→A:=by intro h; (iterate 14 refine S1 ?_);exact h.o) :A:=s ⟨h⟩
theorem S15 (h:B) (s:Hk B→A:=by intro h; (iterate 15 refine S1 ?_);exact h.o) :A:=s ⟨h⟩
theorem S16 (h:B) (s:Hk B→A:=by intro h; (iterate 16 refine S1 ?_);exact h.o) :A:=s ⟨h⟩
theorem S18 (h:B) (s:Hk B→A:=by intro h; (iterate 18 refine S1 ?_);exact h.o) :A:=s ⟨h⟩
theorem S19 (h:B) (s:Hk B→A:=by intro h; (iterate 19 refine S1 ?_);exact h.o) :A:=s ⟨h⟩
theorem S20 (h:B) (s:Hk B→A:=by intro h; (iterate 20 refine S1 ?_);exact h.o) :A:=s ⟨h⟩
theorem S22 (h:B) (s:Hk B→A:=by intro h; (iterate 22 refine S1 ?_);exact h.o) :A:=s ⟨h⟩
theorem S24 (h:B) (s:Hk B→A:=by intro h; (iterate 24 refine S1 ?_);exact h.o) :A:=s ⟨h⟩
theorem S26 (h:B) (s:Hk B→A:=by intro h; (iterate 26 refine S1 ?_);exact h.o) :A:=s ⟨h⟩
theorem S27 (h:B) (s:Hk B→A:=by intro h; (iterate 27 refine S1 ?_);exact h.o) :A:=s ⟨h⟩
theorem S32 (h:B) (s:Hk B→A:=by intro h; (iterate 32 refine S1 ?_);exact h.o) :A:=s ⟨h⟩
theorem S42 (h:B) (s:Hk B→A:=by intro h; (iterate 42 refine S1 ?_);exact h.o) :A:=s ⟨h⟩
theorem N1 (h:B) (s:Hk B→A:=by intro h;refine n9 ?_; (iterate 1 refine S1 ?_);exact h.o) :A:=s ⟨h⟩
theorem N2 (h:B) (s:Hk B→A:=by intro h;refine n9 ?_; (iterate 2 refine S1 ?_);exact h.o) :A:=s ⟨h⟩
theorem N3 (h:B) (s:Hk B→A:=by intro h;refine n9 ?_; (iterate 3 refine S1 ?_);exact h.o) :A:=s ⟨h⟩
theorem N4 (h:B) (s:Hk B→A:=by intro h;refine n9 ?_; (iterate 4 refine S1 ?_);exact h.o) :A:=s ⟨h⟩
theorem N5 (h:B) (s:Hk B→A:=by intro h;refine n9 ?_; (iterate 5 refine S1 ?_);exact h.o) :A:=s ⟨h⟩
theorem N6 (h:B) (s:Hk B→A:=by intro h;refine n9 ?_; (iterate 6 refine S1 ?_);exact h.o) :A:=s ⟨h⟩
theorem N7 (h:B) (s:Hk B→A:=by intro h;refine n9 ?_; (iterate 7 refine S1 ?_);exact h.o) :A:=s ⟨h⟩
theorem N8 (h:B) (s:Hk B→A:=by intro h;refine n9 ?_; (iterate 8 refine S1 ?_);exact h.o) :A:=s ⟨h⟩
theorem N9 (h:B) (s:Hk B→A:=by intro h;refine n9 ?_; (iterate 9 refine S1 ?_);exact h.o) :A:=s ⟨h⟩
theorem N10 (h:B) (s:Hk B→A:=by intro h;refine n9 ?_; (iterate 10 refine S1 ?_);exact h.o) :A:=s ⟨h⟩
theorem N11 (h:B) (s:Hk B→A:=by intro h;refine n9 ?_; (iterate 11 refine S1 ?_);exact h.o) :A:=s ⟨h⟩
theorem N12 (h:B) (s:Hk B→A:=by intro h;refine n9 ?_; (iterate 12 refine S1 ?_);exact h.o) :A:=s ⟨h⟩
theorem N13 (h:B) (s:Hk B→A:=by intro h;refine n9 ?_; (iterate 13 refine S1 ?_);exact h.o) :A:=s ⟨h⟩
theorem N14 (h:B) (s:Hk B→A:=by intro h;refine n9 ?_; (iterate 14 refine S1 ?_);exact h.o) :A:=s ⟨h⟩
theorem N15 (h:B) (s:Hk B→A:=by intro h;refine n9 ?_; (iterate 15 refine S1 ?_);exact h.o) :A:=s ⟨h⟩
theorem N16 (h:B) (s:Hk B→A:=by intro h;refine n9 ?_; (iterate 16 refine S1 ?_);exact h.o) :A:=s ⟨h⟩
theorem N17 (h:B) (s:Hk B→A:=by intro h;refine n9 ?_; (iterate 17 refine S1 ?_);exact h.o) :A:=s ⟨h⟩
theorem N19 (h:B) (s:Hk B→A:=by intro h;refine n9 ?_; (iterate 19 refine S1 ?_);exact h.o) :A:=s ⟨h⟩
theorem N20 (h:B) (s:Hk B→A:=by intro h;refine n9 ?_; (iterate 20 refine S1 ?_);exact h.o) :A:=s ⟨h⟩
theorem N22 (h:B) (s:Hk B→A:=by intro h;refine n9 ?_; (iterate 22 refine S1 ?_);exact h.o) :A:=s ⟨h⟩
theorem N23 (h:B) (s:Hk B→A:=by intro h;refine n9 ?_; (iterate 23 refine S1 ?_);exact h.o) :A:=s ⟨h⟩
theorem V1 (h:B) (s:Hk B→A:=by intro h;refine v9 ?_; (iterate 1 refine S1 ?_);exact h.o) :A:=s ⟨h⟩
theorem V2 (h:B) (s:Hk B→A:=by intro h;refine v9 ?_; (iterate 2 refine S1 ?_);exact h.o) :A:=s ⟨h⟩
theorem V3 (h:B) (s:Hk B→A:=by intro h;refine v9 ?_; (iterate 3 refine S1 ?_);exact h.o) :A:=s ⟨h⟩
theorem V5 (h:B) (s:Hk B→A:=by intro h;refine v9 ?_; (iterate 5 refine S1 ?_);exact h.o) :A:=s ⟨h⟩
theorem V7 (h:B) (s:Hk B→A:=by intro h;refine v9 ?_; (iterate 7 refine S1 ?_);exact h.o) :A:=s ⟨h⟩
theorem V8 (h:B) (s:Hk B→A:=by intro h;refine v9 ?_; (iterate 8 refine S1 ?_);exact h.o) :A:=s ⟨h⟩
theorem V14 (h:B) (s:Hk B→A:=by intro h;refine v9 ?_; (iterate 14 refine S1 ?_);exact h.o) :A:=s ⟨h⟩
theorem V15 (h:B) (s:Hk B→A:=by intro h;refine v9 ?_; (iterate 15 refine S1 ?_);exact h.o) :A:=s ⟨h⟩
end Go.Proofs.YtbahojdbmmjkcaaGreat
