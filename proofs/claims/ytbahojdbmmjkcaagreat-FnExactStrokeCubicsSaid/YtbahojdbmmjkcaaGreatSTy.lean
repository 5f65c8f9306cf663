import Derived.Test.YtbahojdbmmjkcaaGreatSSd
set_option linter.unusedVariables false
set_option linter.unusedSimpArgs false
namespace Go.Proofs.YtbahojdbmmjkcaaGreat
open Go Go.RowKit
variable {A B p:Prop} {Rs Rs0:List Res} {T T':TypeId} {a0 a1 b0 b1:Int} {a0_0 a0_1 a0_2 a0_3 a0_4 a1_0 a1_1 a1_2 a2_0 a3_0 a4_0 v v0 v1 v2 v3 v4 z:Value} {c:Bool} {cs:List Value} {d dj f fuel j m n:Nat} {listed:Array Bool} {o oj:Oper} {rest:List Oper} {w0:Bs} {x y:Operand}
set_option maxRecDepth 100000
theorem Va {P:Program} {T k:Nat} (h: (P.info? T).map (fun i=> (i.zero,i.size,i.bytes)) =some (some z,m,k)) (hc:z.cells.size=m) :TyZ P T m k z:=by
 cases hi:P.info? T with
 | none=>simp [hi] at h
 | some i=>
  simp only [hi,jjU,Option.some.injEq,Prod.mk.injEq] at h
  exact⟨⟨i,hi,h.1,h.2.1,h.2.2⟩,hc⟩
theorem jt:Ty1 Tryz.prog 2:=⟨⟨_,Tryz.underlying2,rfl⟩,by kernel_rfl⟩
theorem qW:TyZ Tryz.prog 2 1 8 (.int .i64 0) :=Va Kr rfl
theorem jfw:Ty1 Tryz.prog 3:=⟨⟨_,Tryz.underlying3,rfl⟩,by kernel_rfl⟩
theorem jfx:TyZ Tryz.prog 3 1 8 (.int .i64 0) :=Va Kr rfl
theorem QV:Ty1 Tryz.prog 4:=⟨⟨_,Tryz.underlying4,rfl⟩,by kernel_rfl⟩
theorem Bw:Tryz.prog.underlying 4=some .bool:=Tryz.underlying4
theorem yK:TyZ Tryz.prog 4 1 1 (.bool false) :=Va Kr rfl
theorem J3:Ty1 Tryz.prog 24:=⟨⟨_,Tryz.underlying24,rfl⟩,by kernel_rfl⟩
theorem jS:TyL Tryz.prog 24 74 1:=⟨Tryz.underlying24,by kernel_rfl⟩
theorem kv:TyZ Tryz.prog 24 1 24 (.slice none 0 0) :=Va Kr rfl
theorem jE:TyS Tryz.prog 26 1:=⟨⟨_,Tryz.underlying26,rfl⟩,by kernel_rfl⟩
theorem JI:TyF Tryz.prog 26 0 0:=⟨_,_,Tryz.underlying26,rfl,rfl,0,by kernel_rfl⟩
theorem ju:TyZ Tryz.prog 26 1 24 (.agg #[.slice none 0 0]) :=Va Kr rfl
theorem jj:TyS Tryz.prog 28 2:=⟨⟨_,Tryz.underlying28,rfl⟩,by kernel_rfl⟩
theorem jU:TyF Tryz.prog 28 0 0:=⟨_,_,Tryz.underlying28,rfl,rfl,0,by kernel_rfl⟩
theorem jF:TyF Tryz.prog 28 1 1:=⟨_,_,Tryz.underlying28,rfl,rfl,0,by kernel_rfl⟩
theorem jD:TyZ Tryz.prog 28 2 16 (.agg #[.int .i64 0, .int .i64 0]) :=Va Kr rfl
theorem Vg:TyL Tryz.prog 54 130 8:=⟨Tryz.underlying54,by kernel_rfl⟩
theorem JV:Ty1 Tryz.prog 58:=⟨⟨_,Tryz.underlying58,rfl⟩,by kernel_rfl⟩
theorem jl:TyL Tryz.prog 58 28 2:=⟨Tryz.underlying58,by kernel_rfl⟩
theorem WC:TyZ Tryz.prog 58 1 24 (.slice none 0 0) :=Va Kr rfl
theorem JP:TyL Tryz.prog 60 122 8:=⟨Tryz.underlying60,by kernel_rfl⟩
theorem X6:TyL Tryz.prog 68 2 1:=⟨Tryz.underlying68,by kernel_rfl⟩
theorem JW:TyS Tryz.prog 74 1:=⟨⟨_,Tryz.underlying74,rfl⟩,by kernel_rfl⟩
theorem JN:TyF Tryz.prog 74 0 0:=⟨_,_,Tryz.underlying74,rfl,rfl,0,by kernel_rfl⟩
theorem JA:TyZ Tryz.prog 74 1 24 (.agg #[.slice none 0 0]) :=Va Kr rfl
theorem Ju:TyL Tryz.prog 89 147 4:=⟨Tryz.underlying89,by kernel_rfl⟩
theorem YH:Ty1 Tryz.prog 93:=⟨⟨_,Tryz.underlying93,rfl⟩,by kernel_rfl⟩
theorem Jf:TyL Tryz.prog 93 96 4:=⟨Tryz.underlying93,by kernel_rfl⟩
theorem qx:TyS Tryz.prog 96 4:=⟨⟨_,Tryz.underlying96,rfl⟩,by kernel_rfl⟩
theorem qn:TyF Tryz.prog 96 0 0:=⟨_,_,Tryz.underlying96,rfl,rfl,1,by kernel_rfl⟩
theorem qi:TyF Tryz.prog 96 1 2:=⟨_,_,Tryz.underlying96,rfl,rfl,1,by kernel_rfl⟩
theorem qg:TyZ Tryz.prog 96 4 32 (.agg #[.int .i64 0, .int .i64 0, .int .i64 0, .int .i64 0]) :=Va Kr rfl
theorem qQ:TyS Tryz.prog 122 8:=⟨⟨_,Tryz.underlying122,rfl⟩,by kernel_rfl⟩
theorem qB:TyF Tryz.prog 122 0 0:=⟨_,_,Tryz.underlying122,rfl,rfl,1,by kernel_rfl⟩
theorem q7:TyF Tryz.prog 122 1 2:=⟨_,_,Tryz.underlying122,rfl,rfl,1,by kernel_rfl⟩
theorem q8:TyF Tryz.prog 122 2 4:=⟨_,_,Tryz.underlying122,rfl,rfl,1,by kernel_rfl⟩
theorem qP:TyF Tryz.prog 122 3 6:=⟨_,_,Tryz.underlying122,rfl,rfl,1,by kernel_rfl⟩
theorem kJ:TyZ Tryz.prog 122 8 64 (.agg #[.int .i64 0, .int .i64 0, .int .i64 0, .int .i64 0, .int .i64 0, .int .i64 0, .int .i64 0, .int .i64 0]) :=Va Kr rfl
theorem UO:TyS Tryz.prog 127 2:=⟨⟨_,Tryz.underlying127,rfl⟩,by kernel_rfl⟩
theorem Bx:TyS Tryz.prog 130 8:=⟨⟨_,Tryz.underlying130,rfl⟩,by kernel_rfl⟩
theorem Hn:TyF Tryz.prog 130 0 0:=⟨_,_,Tryz.underlying130,rfl,rfl,1,by kernel_rfl⟩
theorem Ho:TyF Tryz.prog 130 1 2:=⟨_,_,Tryz.underlying130,rfl,rfl,1,by kernel_rfl⟩
theorem Hq:TyF Tryz.prog 130 2 4:=⟨_,_,Tryz.underlying130,rfl,rfl,1,by kernel_rfl⟩
theorem Hr:TyF Tryz.prog 130 3 6:=⟨_,_,Tryz.underlying130,rfl,rfl,1,by kernel_rfl⟩
theorem KG:TyS Tryz.prog 147 4:=⟨⟨_,Tryz.underlying147,rfl⟩,by kernel_rfl⟩
theorem JG:TyF Tryz.prog 147 0 0:=⟨_,_,Tryz.underlying147,rfl,rfl,1,by kernel_rfl⟩
theorem JL:TyF Tryz.prog 147 1 2:=⟨_,_,Tryz.underlying147,rfl,rfl,1,by kernel_rfl⟩
theorem Qx:TyZ Tryz.prog 147 4 32 (.agg #[.int .i64 0, .int .i64 0, .int .i64 0, .int .i64 0]) :=Va Kr rfl
theorem vN:TyL Tryz.prog 154 93 1:=⟨Tryz.underlying154,by kernel_rfl⟩
theorem xI:TyL Tryz.prog 166 3 1:=⟨Tryz.underlying166,by kernel_rfl⟩
theorem vC:TyL Tryz.prog 167 4 1:=⟨Tryz.underlying167,by kernel_rfl⟩
theorem VN:TyS Tryz.prog 171 7:=⟨⟨_,Tryz.underlying171,rfl⟩,by kernel_rfl⟩
theorem kU:TyF Tryz.prog 171 2 4:=⟨_,_,Tryz.underlying171,rfl,rfl,0,by kernel_rfl⟩
theorem vK:TyF Tryz.prog 171 3 5:=⟨_,_,Tryz.underlying171,rfl,rfl,0,by kernel_rfl⟩
theorem vL:TyF Tryz.prog 171 4 6:=⟨_,_,Tryz.underlying171,rfl,rfl,0,by kernel_rfl⟩
theorem QT:TyZ Tryz.prog 171 7 56 (.agg #[.int .i64 0, .int .i64 0, .int .i64 0, .int .i64 0, .int .i64 0, .int .i64 0, .int .i64 0]) :=Va Kr rfl
theorem JD:TyL Tryz.prog 202 210 5:=⟨Tryz.underlying202,by kernel_rfl⟩
theorem QL:TyS Tryz.prog 204 3:=⟨⟨_,Tryz.underlying204,rfl⟩,by kernel_rfl⟩
theorem yI:TyF Tryz.prog 204 0 0:=⟨_,_,Tryz.underlying204,rfl,rfl,0,by kernel_rfl⟩
theorem yJ:TyF Tryz.prog 204 1 1:=⟨_,_,Tryz.underlying204,rfl,rfl,0,by kernel_rfl⟩
theorem Qw:TyF Tryz.prog 204 2 2:=⟨_,_,Tryz.underlying204,rfl,rfl,0,by kernel_rfl⟩
theorem Kh:TyZ Tryz.prog 204 3 24 (.agg #[.int .i64 0, .int .i64 0, .bool false]) :=Va Kr rfl
theorem vO:TyS Tryz.prog 206 6:=⟨⟨_,Tryz.underlying206,rfl⟩,by kernel_rfl⟩
theorem Kg:TyF Tryz.prog 206 0 0:=⟨_,_,Tryz.underlying206,rfl,rfl,2,by kernel_rfl⟩
theorem K5:TyF Tryz.prog 206 1 3:=⟨_,_,Tryz.underlying206,rfl,rfl,2,by kernel_rfl⟩
theorem ke:TyZ Tryz.prog 206 6 48 (.agg #[.int .i64 0, .int .i64 0, .bool false, .int .i64 0, .int .i64 0, .bool false]) :=Va Kr rfl
theorem qk:TyS Tryz.prog 210 5:=⟨⟨_,Tryz.underlying210,rfl⟩,by kernel_rfl⟩
theorem ZK:TyF Tryz.prog 210 0 0:=⟨_,_,Tryz.underlying210,rfl,rfl,1,by kernel_rfl⟩
theorem QA:TyF Tryz.prog 210 1 2:=⟨_,_,Tryz.underlying210,rfl,rfl,2,by kernel_rfl⟩
theorem Qd:TyZ Tryz.prog 210 5 40 (.agg #[.int .i64 0, .int .i64 0, .int .i64 0, .int .i64 0, .bool false]) :=Va Kr rfl
theorem JM:TyL Tryz.prog 222 262 8:=⟨Tryz.underlying222,by kernel_rfl⟩
theorem Vh:TyL Tryz.prog 255 58 1:=⟨Tryz.underlying255,by kernel_rfl⟩
theorem Qo:TyF Tryz.prog 262 0 0:=⟨_,_,Tryz.underlying262,rfl,rfl,3,by kernel_rfl⟩
theorem Ko:TyF Tryz.prog 262 1 4:=⟨_,_,Tryz.underlying262,rfl,rfl,0,by kernel_rfl⟩
theorem Kp:TyF Tryz.prog 262 2 5:=⟨_,_,Tryz.underlying262,rfl,rfl,0,by kernel_rfl⟩
theorem WA:TyF Tryz.prog 262 3 6:=⟨_,_,Tryz.underlying262,rfl,rfl,0,by kernel_rfl⟩
theorem WB:TyF Tryz.prog 262 4 7:=⟨_,_,Tryz.underlying262,rfl,rfl,0,by kernel_rfl⟩
theorem uC:TyZ Tryz.prog 262 8 64 (.agg #[.int .i64 0, .int .i64 0, .int .i64 0, .int .i64 0, .int .i64 0, .int .i64 0, .int .i64 0, .int .i64 0]) :=Va Kr rfl
theorem Qh:TyL Tryz.prog 271 279 8:=⟨Tryz.underlying271,by kernel_rfl⟩
theorem qo:TyS Tryz.prog 273 6:=⟨⟨_,Tryz.underlying273,rfl⟩,by kernel_rfl⟩
theorem Q9:TyF Tryz.prog 273 0 0:=⟨_,_,Tryz.underlying273,rfl,rfl,0,by kernel_rfl⟩
theorem kd:TyF Tryz.prog 273 1 1:=⟨_,_,Tryz.underlying273,rfl,rfl,0,by kernel_rfl⟩
theorem KN:TyF Tryz.prog 273 2 2:=⟨_,_,Tryz.underlying273,rfl,rfl,0,by kernel_rfl⟩
theorem KO:TyF Tryz.prog 273 3 3:=⟨_,_,Tryz.underlying273,rfl,rfl,0,by kernel_rfl⟩
theorem kV:TyF Tryz.prog 273 4 4:=⟨_,_,Tryz.underlying273,rfl,rfl,0,by kernel_rfl⟩
theorem vM:TyF Tryz.prog 273 5 5:=⟨_,_,Tryz.underlying273,rfl,rfl,0,by kernel_rfl⟩
theorem J8:TyZ Tryz.prog 273 6 40 (.agg #[.int .i64 0, .int .i64 0, .int .i64 0, .int .i64 0, .bool false, .bool false]) :=Va Kr rfl
theorem xG:TyF Tryz.prog 279 0 0:=⟨_,_,Tryz.underlying279,rfl,rfl,1,by kernel_rfl⟩
theorem xH:TyF Tryz.prog 279 1 2:=⟨_,_,Tryz.underlying279,rfl,rfl,5,by kernel_rfl⟩
theorem W5:TyZ Tryz.prog 279 8 56 (.agg #[.int .i64 0, .int .i64 0, .int .i64 0, .int .i64 0, .int .i64 0, .int .i64 0, .bool false, .bool false]) :=Va Kr rfl
theorem LA:FnOk Tryz.prog 11:=⟨_,Tryz.func11,by kernel_rfl,rfl⟩
theorem Yc:FnOk Tryz.prog 14:=⟨_,Tryz.func14,by kernel_rfl,rfl⟩
theorem WZ:FnOk Tryz.prog 24:=⟨_,Tryz.func24,by kernel_rfl,rfl⟩
theorem xp:FnOk Tryz.prog 25:=⟨_,Tryz.func25,by kernel_rfl,rfl⟩
theorem Di:FnOk Tryz.prog 28:=⟨_,Tryz.func28,by kernel_rfl,rfl⟩
theorem GP:FnOk Tryz.prog 29:=⟨_,Tryz.func29,by kernel_rfl,rfl⟩
theorem zG:FnOk Tryz.prog 30:=⟨_,Tryz.func30,by kernel_rfl,rfl⟩
theorem W6:FnOk Tryz.prog 31:=⟨_,Tryz.func31,by kernel_rfl,rfl⟩
theorem VG:FnOk Tryz.prog 32:=⟨_,Tryz.func32,by kernel_rfl,rfl⟩
theorem ul:FnOk Tryz.prog 33:=⟨_,Tryz.func33,by kernel_rfl,rfl⟩
theorem Dh:FnOk Tryz.prog 34:=⟨_,Tryz.func34,by kernel_rfl,rfl⟩
theorem GO:FnOk Tryz.prog 35:=⟨_,Tryz.func35,by kernel_rfl,rfl⟩
theorem Yy:FnOk Tryz.prog 36:=⟨_,Tryz.func36,by kernel_rfl,rfl⟩
theorem xo:FnOk Tryz.prog 37:=⟨_,Tryz.func37,by kernel_rfl,rfl⟩
theorem Ur:FnOk Tryz.prog 38:=⟨_,Tryz.func38,by kernel_rfl,rfl⟩
theorem W9:FnOk Tryz.prog 46:=⟨_,Tryz.func46,by kernel_rfl,rfl⟩
theorem zL:FnOk Tryz.prog 47:=⟨_,Tryz.func47,by kernel_rfl,rfl⟩
theorem YD:FnOk Tryz.prog 49:=⟨_,Tryz.func49,by kernel_rfl,rfl⟩
theorem UH:FnOk Tryz.prog 50:=⟨_,Tryz.func50,by kernel_rfl,rfl⟩
theorem Ow:FnOk Tryz.prog 51:=⟨_,Tryz.func51,by kernel_rfl,rfl⟩
theorem Vr:FnOk Tryz.prog 52:=⟨_,Tryz.func52,by kernel_rfl,rfl⟩
theorem Kv:FnOk Tryz.prog 53:=⟨_,Tryz.func53,by kernel_rfl,rfl⟩
theorem uJ:FnOk Tryz.prog 54:=⟨_,Tryz.func54,by kernel_rfl,rfl⟩
theorem Kl:FnOk Tryz.prog 55:=⟨_,Tryz.func55,by kernel_rfl,rfl⟩
theorem Kq:FnOk Tryz.prog 56:=⟨_,Tryz.func56,by kernel_rfl,rfl⟩
theorem Xv:FnOk Tryz.prog 57:=⟨_,Tryz.func57,by kernel_rfl,rfl⟩
theorem Uq:FnOk Tryz.prog 58:=⟨_,Tryz.func58,by kernel_rfl,rfl⟩
theorem kS:FnOk Tryz.prog 59:=⟨_,Tryz.func59,by kernel_rfl,rfl⟩
theorem KJ:FnOk Tryz.prog 60:=⟨_,Tryz.func60,by kernel_rfl,rfl⟩
theorem ve:FnOk Tryz.prog 61:=⟨_,Tryz.func61,by kernel_rfl,rfl⟩
theorem W8:FnOk Tryz.prog 65:=⟨_,Tryz.func65,by kernel_rfl,rfl⟩
theorem uK:FnOk Tryz.prog 74:=⟨_,Tryz.func74,by kernel_rfl,rfl⟩
theorem KK:FnOk Tryz.prog 75:=⟨_,Tryz.func75,by kernel_rfl,rfl⟩
theorem Xz:FnOk Tryz.prog 77:=⟨_,Tryz.func77,by kernel_rfl,rfl⟩
theorem Xy:FnOk Tryz.prog 78:=⟨_,Tryz.func78,by kernel_rfl,rfl⟩
theorem zK:FnOk Tryz.prog 79:=⟨_,Tryz.func79,by kernel_rfl,rfl⟩
theorem ZW:FnOk Tryz.prog 80:=⟨_,Tryz.func80,by kernel_rfl,rfl⟩
theorem zF:FnOk Tryz.prog 81:=⟨_,Tryz.func81,by kernel_rfl,rfl⟩
theorem GQ:FnOk Tryz.prog 82:=⟨_,Tryz.func82,by kernel_rfl,rfl⟩
theorem uU:FnOk Tryz.prog 83:=⟨_,Tryz.func83,by kernel_rfl,rfl⟩
theorem LG:FnOk Tryz.prog 84:=⟨_,Tryz.func84,by kernel_rfl,rfl⟩
theorem ZU:FnOk Tryz.prog 85:=⟨_,Tryz.func85,by kernel_rfl,rfl⟩
theorem Um:FnOk Tryz.prog 86:=⟨_,Tryz.func86,by kernel_rfl,rfl⟩
theorem zx:FnOk Tryz.prog 87:=⟨_,Tryz.func87,by kernel_rfl,rfl⟩
theorem GH:FnOk Tryz.prog 88:=⟨_,Tryz.func88,by kernel_rfl,rfl⟩
theorem uT:FnOk Tryz.prog 89:=⟨_,Tryz.func89,by kernel_rfl,rfl⟩
theorem LE:FnOk Tryz.prog 90:=⟨_,Tryz.func90,by kernel_rfl,rfl⟩
theorem YP:FnOk Tryz.prog 92:=⟨_,Tryz.func92,by kernel_rfl,rfl⟩
theorem LL:FnOk Tryz.prog 95:=⟨_,Tryz.func95,by kernel_rfl,rfl⟩
theorem xt:FnOk Tryz.prog 96:=⟨_,Tryz.func96,by kernel_rfl,rfl⟩
theorem Xu:FnOk Tryz.prog 97:=⟨_,Tryz.func97,by kernel_rfl,rfl⟩
theorem yt:FnOk Tryz.prog 101:=⟨_,Tryz.func101,by kernel_rfl,rfl⟩
theorem xu:FnOk Tryz.prog 102:=⟨_,Tryz.func102,by kernel_rfl,rfl⟩
theorem xq:FnOk Tryz.prog 103:=⟨_,Tryz.func103,by kernel_rfl,rfl⟩
theorem Wo:FnOk Tryz.prog 104:=⟨_,Tryz.func104,by kernel_rfl,rfl⟩
theorem GS:FnOk Tryz.prog 105:=⟨_,Tryz.func105,by kernel_rfl,rfl⟩
theorem xr:FnOk Tryz.prog 106:=⟨_,Tryz.func106,by kernel_rfl,rfl⟩
theorem ZH:FnOk Tryz.prog 107:=⟨_,Tryz.func107,by kernel_rfl,rfl⟩
theorem wd:FnOk Tryz.prog 108:=⟨_,Tryz.func108,by kernel_rfl,rfl⟩
theorem LC:FnOk Tryz.prog 109:=⟨_,Tryz.func109,by kernel_rfl,rfl⟩
theorem GK:FnOk Tryz.prog 110:=⟨_,Tryz.func110,by kernel_rfl,rfl⟩
theorem QR:FnOk Tryz.prog 111:=⟨_,Tryz.func111,by kernel_rfl,rfl⟩
theorem Wl:FnOk Tryz.prog 112:=⟨_,Tryz.func112,by kernel_rfl,rfl⟩
theorem QX:FnOk Tryz.prog 113:=⟨_,Tryz.func113,by kernel_rfl,rfl⟩
theorem GM:FnOk Tryz.prog 114:=⟨_,Tryz.func114,by kernel_rfl,rfl⟩
theorem xn:FnOk Tryz.prog 115:=⟨_,Tryz.func115,by kernel_rfl,rfl⟩
theorem GN:FnOk Tryz.prog 116:=⟨_,Tryz.func116,by kernel_rfl,rfl⟩
theorem K2:FnOk Tryz.prog 117:=⟨_,Tryz.func117,by kernel_rfl,rfl⟩
theorem K1:FnOk Tryz.prog 118:=⟨_,Tryz.func118,by kernel_rfl,rfl⟩
theorem Un:FnOk Tryz.prog 119:=⟨_,Tryz.func119,by kernel_rfl,rfl⟩
theorem Wj:FnOk Tryz.prog 120:=⟨_,Tryz.func120,by kernel_rfl,rfl⟩
theorem LD:FnOk Tryz.prog 121:=⟨_,Tryz.func121,by kernel_rfl,rfl⟩
theorem Yx:FnOk Tryz.prog 122:=⟨_,Tryz.func122,by kernel_rfl,rfl⟩
theorem Yw:FnOk Tryz.prog 123:=⟨_,Tryz.func123,by kernel_rfl,rfl⟩
theorem W7:FnOk Tryz.prog 124:=⟨_,Tryz.func124,by kernel_rfl,rfl⟩
theorem xv:FnOk Tryz.prog 125:=⟨_,Tryz.func125,by kernel_rfl,rfl⟩
theorem ZV:FnOk Tryz.prog 127:=⟨_,Tryz.func127,by kernel_rfl,rfl⟩
theorem Qu:FnOk Tryz.prog 128:=⟨_,Tryz.func128,by kernel_rfl,rfl⟩
theorem LF:FnOk Tryz.prog 134:=⟨_,Tryz.func134,by kernel_rfl,rfl⟩
theorem Vf:FnOk Tryz.prog 135:=⟨_,Tryz.func135,by kernel_rfl,rfl⟩
theorem LM:FnOk Tryz.prog 136:=⟨_,Tryz.func136,by kernel_rfl,rfl⟩
theorem YC:FnOk Tryz.prog 137:=⟨_,Tryz.func137,by kernel_rfl,rfl⟩
theorem Ot:FnOk Tryz.prog 138:=⟨_,Tryz.func138,by kernel_rfl,rfl⟩
theorem Dj:FnOk Tryz.prog 139:=⟨_,Tryz.func139,by kernel_rfl,rfl⟩
theorem Ov:FnOk Tryz.prog 140:=⟨_,Tryz.func140,by kernel_rfl,rfl⟩
theorem VF:FnOk Tryz.prog 141:=⟨_,Tryz.func141,by kernel_rfl,rfl⟩
theorem KL:FnOk Tryz.prog 142:=⟨_,Tryz.func142,by kernel_rfl,rfl⟩
theorem zC:FnOk Tryz.prog 143:=⟨_,Tryz.func143,by kernel_rfl,rfl⟩
theorem GG:FnOk Tryz.prog 144:=⟨_,Tryz.func144,by kernel_rfl,rfl⟩
theorem LB:FnOk Tryz.prog 145:=⟨_,Tryz.func145,by kernel_rfl,rfl⟩
theorem Xt:FnOk Tryz.prog 146:=⟨_,Tryz.func146,by kernel_rfl,rfl⟩
theorem YO:FnOk Tryz.prog 147:=⟨_,Tryz.func147,by kernel_rfl,rfl⟩
theorem vq:FnOk Tryz.prog 150:=⟨_,Tryz.func150,by kernel_rfl,rfl⟩
theorem kD:FnOk Tryz.prog 151:=⟨_,Tryz.func151,by kernel_rfl,rfl⟩
theorem zD:FnOk Tryz.prog 152:=⟨_,Tryz.func152,by kernel_rfl,rfl⟩
theorem LN:FnOk Tryz.prog 155:=⟨_,Tryz.func155,by kernel_rfl,rfl⟩
theorem Kn:FnOk Tryz.prog 156:=⟨_,Tryz.func156,by kernel_rfl,rfl⟩
theorem Yz:FnOk Tryz.prog 157:=⟨_,Tryz.func157,by kernel_rfl,rfl⟩
theorem KX:FnOk Tryz.prog 158:=⟨_,Tryz.func158,by kernel_rfl,rfl⟩
theorem vr:FnOk Tryz.prog 159:=⟨_,Tryz.func159,by kernel_rfl,rfl⟩
theorem Q3:FnOk Tryz.prog 160:=⟨_,Tryz.func160,by kernel_rfl,rfl⟩
theorem kZ:FnOk Tryz.prog 161:=⟨_,Tryz.func161,by kernel_rfl,rfl⟩
theorem Wm:FnOk Tryz.prog 162:=⟨_,Tryz.func162,by kernel_rfl,rfl⟩
theorem WY:FnOk Tryz.prog 163:=⟨_,Tryz.func163,by kernel_rfl,rfl⟩
theorem Wk:FnOk Tryz.prog 164:=⟨_,Tryz.func164,by kernel_rfl,rfl⟩
theorem Ve:FnOk Tryz.prog 165:=⟨_,Tryz.func165,by kernel_rfl,rfl⟩
theorem yo:FnOk Tryz.prog 166:=⟨_,Tryz.func166,by kernel_rfl,rfl⟩
theorem GJ:FnOk Tryz.prog 169:=⟨_,Tryz.func169,by kernel_rfl,rfl⟩
theorem KF:FnOk Tryz.prog 170:=⟨_,Tryz.func170,by kernel_rfl,rfl⟩
theorem Uo:FnOk Tryz.prog 171:=⟨_,Tryz.func171,by kernel_rfl,rfl⟩
theorem Xw:FnOk Tryz.prog 172:=⟨_,Tryz.func172,by kernel_rfl,rfl⟩
theorem Kj:FnOk Tryz.prog 173:=⟨_,Tryz.func173,by kernel_rfl,rfl⟩
theorem vH:FnOk Tryz.prog 174:=⟨_,Tryz.func174,by kernel_rfl,rfl⟩
theorem K0:FnOk Tryz.prog 175:=⟨_,Tryz.func175,by kernel_rfl,rfl⟩
theorem kt:FnOk Tryz.prog 176:=⟨_,Tryz.func176,by kernel_rfl,rfl⟩
theorem zy:FnOk Tryz.prog 177:=⟨_,Tryz.func177,by kernel_rfl,rfl⟩
theorem wc:FnOk Tryz.prog 178:=⟨_,Tryz.func178,by kernel_rfl,rfl⟩
theorem KT:FnOk Tryz.prog 179:=⟨_,Tryz.func179,by kernel_rfl,rfl⟩
theorem kO:FnOk Tryz.prog 180:=⟨_,Tryz.func180,by kernel_rfl,rfl⟩
theorem WL:FnOk Tryz.prog 181:=⟨_,Tryz.func181,by kernel_rfl,rfl⟩
theorem kX:FnOk Tryz.prog 182:=⟨_,Tryz.func182,by kernel_rfl,rfl⟩
theorem Kd:FnOk Tryz.prog 184:=⟨_,Tryz.func184,by kernel_rfl,rfl⟩
theorem Xx:FnOk Tryz.prog 185:=⟨_,Tryz.func185,by kernel_rfl,rfl⟩
theorem zM:FnOk Tryz.prog 186:=⟨_,Tryz.func186,by kernel_rfl,rfl⟩
theorem GU:FnOk Tryz.prog 187:=⟨_,Tryz.func187,by kernel_rfl,rfl⟩
theorem GT:FnOk Tryz.prog 188:=⟨_,Tryz.func188,by kernel_rfl,rfl⟩
theorem GV:FnOk Tryz.prog 189:=⟨_,Tryz.func189,by kernel_rfl,rfl⟩
theorem XD:FnOk Tryz.prog 190:=⟨_,Tryz.func190,by kernel_rfl,rfl⟩
theorem Oq:FnOk Tryz.prog 193:=⟨_,Tryz.func193,by kernel_rfl,rfl⟩
theorem yr:FnOk Tryz.prog 195:=⟨_,Tryz.func195,by kernel_rfl,rfl⟩
theorem zJ:FnOk Tryz.prog 196:=⟨_,Tryz.func196,by kernel_rfl,rfl⟩
theorem LH:FnOk Tryz.prog 197:=⟨_,Tryz.func197,by kernel_rfl,rfl⟩
theorem zH:FnOk Tryz.prog 198:=⟨_,Tryz.func198,by kernel_rfl,rfl⟩
theorem LJ:FnOk Tryz.prog 199:=⟨_,Tryz.func199,by kernel_rfl,rfl⟩
theorem LI:FnOk Tryz.prog 200:=⟨_,Tryz.func200,by kernel_rfl,rfl⟩
theorem GR:FnOk Tryz.prog 201:=⟨_,Tryz.func201,by kernel_rfl,rfl⟩
theorem yp:FnOk Tryz.prog 203:=⟨_,Tryz.func203,by kernel_rfl,rfl⟩
theorem VT:FnOk Tryz.prog 204:=⟨_,Tryz.func204,by kernel_rfl,rfl⟩
theorem ZG:FnOk Tryz.prog 205:=⟨_,Tryz.func205,by kernel_rfl,rfl⟩
theorem GL:FnOk Tryz.prog 206:=⟨_,Tryz.func206,by kernel_rfl,rfl⟩
theorem Ol:FnOk Tryz.prog 207:=⟨_,Tryz.func207,by kernel_rfl,rfl⟩
theorem Dg:FnOk Tryz.prog 208:=⟨_,Tryz.func208,by kernel_rfl,rfl⟩
theorem ur:FnOk Tryz.prog 209:=⟨_,Tryz.func209,by kernel_rfl,rfl⟩
theorem uk:FnOk Tryz.prog 210:=⟨_,Tryz.func210,by kernel_rfl,rfl⟩
theorem On:FnOk Tryz.prog 211:=⟨_,Tryz.func211,by kernel_rfl,rfl⟩
theorem Oo:FnOk Tryz.prog 212:=⟨_,Tryz.func212,by kernel_rfl,rfl⟩
theorem LK:FnOk Tryz.prog 216:=⟨_,Tryz.func216,by kernel_rfl,rfl⟩
theorem Vq:FnOk Tryz.prog 218:=⟨_,Tryz.func218,by kernel_rfl,rfl⟩
theorem wb:FnOk Tryz.prog 228:=⟨_,Tryz.func228,by kernel_rfl,rfl⟩
theorem Km:FnOk Tryz.prog 229:=⟨_,Tryz.func229,by kernel_rfl,rfl⟩
theorem wY:FnOk Tryz.prog 230:=⟨_,Tryz.func230,by kernel_rfl,rfl⟩
theorem QB:FnOk Tryz.prog 231:=⟨_,Tryz.func231,by kernel_rfl,rfl⟩
theorem Qm:FnOk Tryz.prog 232:=⟨_,Tryz.func232,by kernel_rfl,rfl⟩
theorem zB:FnOk Tryz.prog 234:=⟨_,Tryz.func234,by kernel_rfl,rfl⟩
theorem XC:FnOk Tryz.prog 235:=⟨_,Tryz.func235,by kernel_rfl,rfl⟩
theorem XF:FnOk Tryz.prog 236:=⟨_,Tryz.func236,by kernel_rfl,rfl⟩
theorem LO:FnOk Tryz.prog 237:=⟨_,Tryz.func237,by kernel_rfl,rfl⟩
theorem XE:FnOk Tryz.prog 238:=⟨_,Tryz.func238,by kernel_rfl,rfl⟩
theorem YG:FnOk Tryz.prog 239:=⟨_,Tryz.func239,by kernel_rfl,rfl⟩
theorem UI:FnOk Tryz.prog 240:=⟨_,Tryz.func240,by kernel_rfl,rfl⟩
theorem yq:FnOk Tryz.prog 242:=⟨_,Tryz.func242,by kernel_rfl,rfl⟩
theorem YB:FnOk Tryz.prog 243:=⟨_,Tryz.func243,by kernel_rfl,rfl⟩
theorem UG:FnOk Tryz.prog 244:=⟨_,Tryz.func244,by kernel_rfl,rfl⟩
theorem Ou:FnOk Tryz.prog 245:=⟨_,Tryz.func245,by kernel_rfl,rfl⟩
theorem zE:FnOk Tryz.prog 246:=⟨_,Tryz.func246,by kernel_rfl,rfl⟩
theorem XA:FnOk Tryz.prog 249:=⟨_,Tryz.func249,by kernel_rfl,rfl⟩
theorem XB:FnOk Tryz.prog 250:=⟨_,Tryz.func250,by kernel_rfl,rfl⟩
theorem Ql:FnOk Tryz.prog 256:=⟨_,Tryz.func256,by kernel_rfl,rfl⟩
theorem q5:FnOk Tryz.prog 257:=⟨_,Tryz.func257,by kernel_rfl,rfl⟩
theorem wZ:FnOk Tryz.prog 258:=⟨_,Tryz.func258,by kernel_rfl,rfl⟩
theorem Vj:FnOk Tryz.prog 259:=⟨_,Tryz.func259,by kernel_rfl,rfl⟩
theorem zI:FnOk Tryz.prog 267:=⟨_,Tryz.func267,by kernel_rfl,rfl⟩
theorem Wp:FnOk Tryz.prog 268:=⟨_,Tryz.func268,by kernel_rfl,rfl⟩
theorem xw:FnOk Tryz.prog 269:=⟨_,Tryz.func269,by kernel_rfl,rfl⟩
theorem UJ:FnOk Tryz.prog 270:=⟨_,Tryz.func270,by kernel_rfl,rfl⟩
theorem YE:FnOk Tryz.prog 272:=⟨_,Tryz.func272,by kernel_rfl,rfl⟩
theorem YF:FnOk Tryz.prog 273:=⟨_,Tryz.func273,by kernel_rfl,rfl⟩
theorem VH:FnOk Tryz.prog 275:=⟨_,Tryz.func275,by kernel_rfl,rfl⟩
theorem QY:FnOk Tryz.prog 276:=⟨_,Tryz.func276,by kernel_rfl,rfl⟩
theorem Wn:FnOk Tryz.prog 280:=⟨_,Tryz.func280,by kernel_rfl,rfl⟩
theorem QC:FnOk Tryz.prog 281:=⟨_,Tryz.func281,by kernel_rfl,rfl⟩
theorem YA:FnOk Tryz.prog 283:=⟨_,Tryz.func283,by kernel_rfl,rfl⟩
theorem JJ (w:World) : (Instr.build 26 #[]).run Tryz.prog w= .ok (.agg #[.slice none 0 0]) w:=by
 rw [kh]
 simp only [jix,jiv,jiF]
 simp [Instr.build,Instr.fill,go_sem]
theorem xQ (h0:v0.cells= #[a0_0]) (w:World) : (Instr.build 26 #[(0,v0)]).run Tryz.prog w= .ok (.agg #[a0_0]) w:=by
 rw [kh]
 simp only [jix,jiv,jiF,h0]
 simp [Instr.build,Instr.fill,go_sem]
theorem yR (w:World) : (Instr.build 28 #[]).run Tryz.prog w= .ok (.agg #[.int .i64 0, .int .i64 0]) w:=by
 rw [kh]
 simp only [jix,jiv,jiF]
 simp [Instr.build,Instr.fill,go_sem]
theorem Qi (h0:v0.cells= #[a0_0]) (h1:v1.cells= #[a1_0]) (w:World) : (Instr.build 28 #[(0,v0),(1,v1)]).run Tryz.prog w= .ok (.agg #[a0_0,a1_0]) w:=by
 rw [kh]
 simp only [jix,jiv,jiF,h0,h1]
 simp [Instr.build,Instr.fill,go_sem]
theorem Wd (w:World) : (Instr.build 74 #[]).run Tryz.prog w= .ok (.agg #[.slice none 0 0]) w:=by
 rw [kh]
 simp only [jix,jiv,jiF]
 simp [Instr.build,Instr.fill,go_sem]
theorem KW (h0:v0.cells= #[a0_0]) (w:World) : (Instr.build 74 #[(0,v0)]).run Tryz.prog w= .ok (.agg #[a0_0]) w:=by
 rw [kh]
 simp only [jix,jiv,jiF,h0]
 simp [Instr.build,Instr.fill,go_sem]
theorem vh (h0:v0.cells= #[a0_0,a0_1]) (h1:v1.cells= #[a1_0,a1_1]) (w:World) : (Instr.build 96 #[(0,v0),(1,v1)]).run Tryz.prog w= .ok (.agg #[a0_0,a0_1,a1_0,a1_1]) w:=by
 rw [kh]
 simp only [jix,jiv,jiF,h0,h1]
 simp [Instr.build,Instr.fill,go_sem]
theorem Kb (h0:v0.cells= #[a0_0,a0_1]) (h1:v1.cells= #[a1_0,a1_1]) (w:World) : (Instr.build 147 #[(0,v0),(1,v1)]).run Tryz.prog w= .ok (.agg #[a0_0,a0_1,a1_0,a1_1]) w:=by
 rw [kh]
 simp only [jix,jiv,jiF,h0,h1]
 simp [Instr.build,Instr.fill,go_sem]
theorem Y0 (h0:v0.cells= #[a0_0,a0_1]) (h1:v1.cells= #[a1_0,a1_1]) (w:World) : (Instr.build 171 #[(0,v0),(1,v1)]).run Tryz.prog w= .ok (.agg #[a0_0,a0_1,a1_0,a1_1, .int .i64 0, .int .i64 0, .int .i64 0]) w:=by
 rw [kh]
 simp only [jix,jiv,jiF,h0,h1]
 simp [Instr.build,Instr.fill,go_sem]
theorem kf (h0:v0.cells= #[a0_0]) (h1:v1.cells= #[a1_0]) (h2:v2.cells= #[a2_0]) (w:World) : (Instr.build 204 #[(0,v0),(1,v1),(2,v2)]).run Tryz.prog w= .ok (.agg #[a0_0,a1_0,a2_0]) w:=by
 rw [kh]
 simp only [jix,jiv,jiF,h0,h1,h2]
 simp [Instr.build,Instr.fill,go_sem]
theorem yS (h0:v0.cells= #[a0_0,a0_1,a0_2]) (h1:v1.cells= #[a1_0,a1_1,a1_2]) (w:World) : (Instr.build 206 #[(0,v0),(1,v1)]).run Tryz.prog w= .ok (.agg #[a0_0,a0_1,a0_2,a1_0,a1_1,a1_2]) w:=by
 rw [kh]
 simp only [jix,jiv,jiF,h0,h1]
 simp [Instr.build,Instr.fill,go_sem]
theorem YJ (h0:v0.cells= #[a0_0,a0_1]) (h1:v1.cells= #[a1_0,a1_1,a1_2]) (w:World) : (Instr.build 210 #[(0,v0),(1,v1)]).run Tryz.prog w= .ok (.agg #[a0_0,a0_1,a1_0,a1_1,a1_2]) w:=by
 rw [kh]
 simp only [jix,jiv,jiF,h0,h1]
 simp [Instr.build,Instr.fill,go_sem]
theorem xR (h0:v0.cells= #[a0_0,a0_1,a0_2,a0_3]) (w:World) : (Instr.build 262 #[(0,v0)]).run Tryz.prog w= .ok (.agg #[a0_0,a0_1,a0_2,a0_3, .int .i64 0, .int .i64 0, .int .i64 0, .int .i64 0]) w:=by
 rw [kh]
 simp only [jix,jiv,jiF,h0]
 simp [Instr.build,Instr.fill,go_sem]
theorem Ug (h0:v0.cells= #[a0_0]) (h1:v1.cells= #[a1_0]) (h2:v2.cells= #[a2_0]) (h3:v3.cells= #[a3_0]) (h4:v4.cells= #[a4_0]) (w:World) : (Instr.build 273 #[(0,v0),(1,v1),(2,v2),(3,v3),(4,v4)]).run Tryz.prog w= .ok (.agg #[a0_0,a1_0,a2_0,a3_0,a4_0, .bool false]) w:=by
 rw [kh]
 simp only [jix,jiv,jiF,h0,h1,h2,h3,h4]
 simp [Instr.build,Instr.fill,go_sem]
theorem vQ (h0:v0.cells= #[a0_0]) (h1:v1.cells= #[a1_0]) (h2:v2.cells= #[a2_0]) (h3:v3.cells= #[a3_0]) (h4:v4.cells= #[a4_0]) {v5 a5_0:Value} (h5:v5.cells= #[a5_0]) (w:World) : (Instr.build 273 #[(0,v0),(1,v1),(2,v2),(3,v3),(4,v4),(5,v5)]).run Tryz.prog w= .ok (.agg #[a0_0,a1_0,a2_0,a3_0,a4_0,a5_0]) w:=by
 rw [kh]
 simp only [jix,jiv,jiF,h0,h1,h2,h3,h4,h5]
 simp [Instr.build,Instr.fill,go_sem]
theorem Uh (h0:v0.cells= #[a0_0]) (h1:v1.cells= #[a1_0]) (h2:v2.cells= #[a2_0]) (h3:v3.cells= #[a3_0]) (h4:v4.cells= #[a4_0]) (w:World) : (Instr.build 273 #[(0,v0),(1,v1),(2,v2),(3,v3),(5,v4)]).run Tryz.prog w= .ok (.agg #[a0_0,a1_0,a2_0,a3_0, .bool false,a4_0]) w:=by
 rw [kh]
 simp only [jix,jiv,jiF,h0,h1,h2,h3,h4]
 simp [Instr.build,Instr.fill,go_sem]
theorem Y1 (h0:v0.cells= #[a0_0,a0_1]) {a1_3 a1_4 a1_5:Value} (h1:v1.cells= #[a1_0,a1_1,a1_2,a1_3,a1_4,a1_5]) (w:World) : (Instr.build 279 #[(0,v0),(1,v1)]).run Tryz.prog w= .ok (.agg #[a0_0,a0_1,a1_0,a1_1,a1_2,a1_3,a1_4,a1_5]) w:=by
 rw [kh]
 simp only [jix,jiv,jiF,h0,h1]
 simp [Instr.build,Instr.fill,go_sem]
theorem wu (w:World) : (Instr.buildSlice 24 0 #[]).run Tryz.prog w= .ok (.slice (some ⟨w.heap.size,0,none⟩) 0 0) (w.alloc (.cells [].toArray 74)) :=by
 rw [qy]
 simp only [jix,jiv,jiF]
 simp [Instr.buildSlice,Instr.fill,go_sem]
theorem qN (h0:v0.cells= #[a0_0]) (w:World) : (Instr.buildSlice 24 1 #[(0,v0)]).run Tryz.prog w= .ok (.slice (some ⟨w.heap.size,0,none⟩) 1 1) (w.alloc (.cells [a0_0].toArray 74)) :=by
 rw [qy]
 simp only [jix,jiv,jiF,h0]
 simp [Instr.buildSlice,Instr.fill,go_sem]
theorem Qk (w:World) : (Instr.buildSlice 58 0 #[]).run Tryz.prog w= .ok (.slice (some ⟨w.heap.size,0,none⟩) 0 0) (w.alloc (.cells [].toArray 28)) :=by
 rw [qy]
 simp only [jix,jiv,jiF]
 simp [Instr.buildSlice,Instr.fill,go_sem]
theorem J9 (h0:v0.cells= #[a0_0,a0_1]) (w:World) : (Instr.buildSlice 58 1 #[(0,v0)]).run Tryz.prog w= .ok (.slice (some ⟨w.heap.size,0,none⟩) 1 1) (w.alloc (.cells [a0_0,a0_1].toArray 28)) :=by
 rw [qy]
 simp only [jix,jiv,jiF,h0]
 simp [Instr.buildSlice,Instr.fill,go_sem]
theorem Kc (h0:v0.cells= #[a0_0,a0_1]) (h1:v1.cells= #[a1_0,a1_1]) (w:World) : (Instr.buildSlice 58 2 #[(0,v0),(1,v1)]).run Tryz.prog w= .ok (.slice (some ⟨w.heap.size,0,none⟩) 2 2) (w.alloc (.cells [a0_0,a0_1,a1_0,a1_1].toArray 28)) :=by
 rw [qy]
 simp only [jix,jiv,jiF,h0,h1]
 simp [Instr.buildSlice,Instr.fill,go_sem]
theorem K6 (h0:v0.cells= #[a0_0,a0_1]) (h1:v1.cells= #[a1_0,a1_1]) {a2_1:Value} (h2:v2.cells= #[a2_0,a2_1]) {a3_1:Value} (h3:v3.cells= #[a3_0,a3_1]) (w:World) : (Instr.buildSlice 58 4 #[(0,v0),(1,v1),(2,v2),(3,v3)]).run Tryz.prog w= .ok (.slice (some ⟨w.heap.size,0,none⟩) 4 4) (w.alloc (.cells [a0_0,a0_1,a1_0,a1_1,a2_0,a2_1,a3_0,a3_1].toArray 28)) :=by
 rw [qy]
 simp only [jix,jiv,jiF,h0,h1,h2,h3]
 simp [Instr.buildSlice,Instr.fill,go_sem]
theorem vE (h0:v0.cells= #[a0_0]) (h1:v1.cells= #[a1_0]) (h2:v2.cells= #[a2_0]) (h3:v3.cells= #[a3_0]) (w:World) : (Instr.buildSlice 68 4 #[(0,v0),(1,v1),(2,v2),(3,v3)]).run Tryz.prog w= .ok (.slice (some ⟨w.heap.size,0,none⟩) 4 4) (w.alloc (.cells [a0_0,a1_0,a2_0,a3_0].toArray 2)) :=by
 rw [qy]
 simp only [jix,jiv,jiF,h0,h1,h2,h3]
 simp [Instr.buildSlice,Instr.fill,go_sem]
theorem WI (w:World) : (Instr.buildSlice 89 0 #[]).run Tryz.prog w= .ok (.slice (some ⟨w.heap.size,0,none⟩) 0 0) (w.alloc (.cells [].toArray 147)) :=by
 rw [qy]
 simp only [jix,jiv,jiF]
 simp [Instr.buildSlice,Instr.fill,go_sem]
theorem kg (h0:v0.cells= #[a0_0,a0_1,a0_2,a0_3]) (w:World) : (Instr.buildSlice 89 1 #[(0,v0)]).run Tryz.prog w= .ok (.slice (some ⟨w.heap.size,0,none⟩) 1 1) (w.alloc (.cells [a0_0,a0_1,a0_2,a0_3].toArray 147)) :=by
 rw [qy]
 simp only [jix,jiv,jiF,h0]
 simp [Instr.buildSlice,Instr.fill,go_sem]
theorem Qy (h0:v0.cells= #[a0_0,a0_1,a0_2,a0_3]) (w:World) : (Instr.buildSlice 93 1 #[(0,v0)]).run Tryz.prog w= .ok (.slice (some ⟨w.heap.size,0,none⟩) 1 1) (w.alloc (.cells [a0_0,a0_1,a0_2,a0_3].toArray 96)) :=by
 rw [qy]
 simp only [jix,jiv,jiF,h0]
 simp [Instr.buildSlice,Instr.fill,go_sem]
theorem VX (h0:v0.cells= #[a0_0]) (h1:v1.cells= #[a1_0]) (w:World) : (Instr.buildSlice 154 2 #[(0,v0),(1,v1)]).run Tryz.prog w= .ok (.slice (some ⟨w.heap.size,0,none⟩) 2 2) (w.alloc (.cells [a0_0,a1_0].toArray 93)) :=by
 rw [qy]
 simp only [jix,jiv,jiF,h0,h1]
 simp [Instr.buildSlice,Instr.fill,go_sem]
theorem Mz (h0:v0.cells= #[a0_0]) (w:World) : (Instr.buildSlice 166 1 #[(0,v0)]).run Tryz.prog w= .ok (.slice (some ⟨w.heap.size,0,none⟩) 1 1) (w.alloc (.cells [a0_0].toArray 3)) :=by
 rw [qy]
 simp only [jix,jiv,jiF,h0]
 simp [Instr.buildSlice,Instr.fill,go_sem]
theorem US (h0:v0.cells= #[a0_0,a0_1,a0_2,a0_3,a0_4]) (w:World) : (Instr.buildSlice 202 1 #[(0,v0)]).run Tryz.prog w= .ok (.slice (some ⟨w.heap.size,0,none⟩) 1 1) (w.alloc (.cells [a0_0,a0_1,a0_2,a0_3,a0_4].toArray 210)) :=by
 rw [qy]
 simp only [jix,jiv,jiF,h0]
 simp [Instr.buildSlice,Instr.fill,go_sem]
theorem Y4 (w:World) : (Instr.buildSlice 222 0 #[]).run Tryz.prog w= .ok (.slice (some ⟨w.heap.size,0,none⟩) 0 0) (w.alloc (.cells [].toArray 262)) :=by
 rw [qy]
 simp only [jix,jiv,jiF]
 simp [Instr.buildSlice,Instr.fill,go_sem]
theorem yT {a0_5 a0_6 a0_7:Value} (h0:v0.cells= #[a0_0,a0_1,a0_2,a0_3,a0_4,a0_5,a0_6,a0_7]) (w:World) : (Instr.buildSlice 222 1 #[(0,v0)]).run Tryz.prog w= .ok (.slice (some ⟨w.heap.size,0,none⟩) 1 1) (w.alloc (.cells [a0_0,a0_1,a0_2,a0_3,a0_4,a0_5,a0_6,a0_7].toArray 262)) :=by
 rw [qy]
 simp only [jix,jiv,jiF,h0]
 simp [Instr.buildSlice,Instr.fill,go_sem]
theorem U8 (h0:v0.cells= #[a0_0]) (h1:v1.cells= #[a1_0]) (w:World) : (Instr.buildSlice 255 2 #[(0,v0),(1,v1)]).run Tryz.prog w= .ok (.slice (some ⟨w.heap.size,0,none⟩) 2 2) (w.alloc (.cells [a0_0,a1_0].toArray 58)) :=by
 rw [qy]
 simp only [jix,jiv,jiF,h0,h1]
 simp [Instr.buildSlice,Instr.fill,go_sem]
theorem WJ (w:World) : (Instr.buildSlice 271 0 #[]).run Tryz.prog w= .ok (.slice (some ⟨w.heap.size,0,none⟩) 0 0) (w.alloc (.cells [].toArray 279)) :=by
 rw [qy]
 simp only [jix,jiv,jiF]
 simp [Instr.buildSlice,Instr.fill,go_sem]
theorem U9 {a0_5 a0_6 a0_7:Value} (h0:v0.cells= #[a0_0,a0_1,a0_2,a0_3,a0_4,a0_5,a0_6,a0_7]) (w:World) : (Instr.buildSlice 271 1 #[(0,v0)]).run Tryz.prog w= .ok (.slice (some ⟨w.heap.size,0,none⟩) 1 1) (w.alloc (.cells [a0_0,a0_1,a0_2,a0_3,a0_4,a0_5,a0_6,a0_7].toArray 279)) :=by
 rw [qy]
 simp only [jix,jiv,jiF,h0]
 simp [Instr.buildSlice,Instr.fill,go_sem]
theorem KY {env:List (Nat×Value)} (ho:o.op= .binOp .eql 28 x y T') (hx:ev env x=some (.agg #[.int .i64 a0, .int .i64 a1])) (hy:ev env y=some (.agg #[.int .i64 b0, .int .i64 b1])) :Qt Tryz.prog o n env w0 Rs (.bool ((a0==b0) && (a1==b1))) :=
 kC fun a w hF _=>by
  unfold execOp;simp only [ho,hF.ev hx,hF.ev hy]
  cases h0: (a0==b0);all_goals cases h1: (a1==b1)
  all_goals simp [go_sem, *]
theorem Ks {env:List (Nat×Value)} (ho:o.op= .binOp .neq 28 x y T') (hx:ev env x=some (.agg #[.int .i64 a0, .int .i64 a1])) (hy:ev env y=some (.agg #[.int .i64 b0, .int .i64 b1])) :Qt Tryz.prog o n env w0 Rs (.bool (!((a0==b0) && (a1==b1)))) :=
 kC fun a w hF _=>by
  unfold execOp;simp only [ho,hF.ev hx,hF.ev hy]
  cases h0: (a0==b0);all_goals cases h1: (a1==b1)
  all_goals simp [go_sem, *]
theorem W1 {env:List (Nat×Value)} {a2 a3 b2 b3:Int} (ho:o.op= .binOp .eql 96 x y T') (hx:ev env x=some (.agg #[.int .i64 a0, .int .i64 a1, .int .i64 a2, .int .i64 a3])) (hy:ev env y=some (.agg #[.int .i64 b0, .int .i64 b1, .int .i64 b2, .int .i64 b3])) :Qt Tryz.prog o n env w0 Rs (.bool ((a0==b0) && (a1==b1) && (a2==b2) && (a3==b3))) :=
 kC fun a w hF _=>by
  unfold execOp;simp only [ho,hF.ev hx,hF.ev hy]
  cases h0: (a0==b0);all_goals cases h1: (a1==b1);all_goals cases h2: (a2==b2);all_goals cases h3: (a3==b3)
  all_goals simp [go_sem, *]
theorem G3 {env:List (Nat×Value)} {a2 a3 b2 b3:Int} (ho:o.op= .binOp .neq 96 x y T') (hx:ev env x=some (.agg #[.int .i64 a0, .int .i64 a1, .int .i64 a2, .int .i64 a3])) (hy:ev env y=some (.agg #[.int .i64 b0, .int .i64 b1, .int .i64 b2, .int .i64 b3])) :Qt Tryz.prog o n env w0 Rs (.bool (!((a0==b0) && (a1==b1) && (a2==b2) && (a3==b3)))) :=
 kC fun a w hF _=>by
  unfold execOp;simp only [ho,hF.ev hx,hF.ev hy]
  cases h0: (a0==b0);all_goals cases h1: (a1==b1);all_goals cases h2: (a2==b2);all_goals cases h3: (a3==b3)
  all_goals simp [go_sem, *]
theorem zU {env:List (Nat×Value)} {a2 a3 b2 b3:Int} (ho:o.op= .binOp .neq 147 x y T') (hx:ev env x=some (.agg #[.int .i64 a0, .int .i64 a1, .int .i64 a2, .int .i64 a3])) (hy:ev env y=some (.agg #[.int .i64 b0, .int .i64 b1, .int .i64 b2, .int .i64 b3])) :Qt Tryz.prog o n env w0 Rs (.bool (!((a0==b0) && (a1==b1) && (a2==b2) && (a3==b3)))) :=
 kC fun a w hF _=>by
  unfold execOp;simp only [ho,hF.ev hx,hF.ev hy]
  cases h0: (a0==b0);all_goals cases h1: (a1==b1);all_goals cases h2: (a2==b2);all_goals cases h3: (a3==b3)
  all_goals simp [go_sem, *]
theorem mixed:Tryz.prog.follows .mixedOrders=true:=by kernel_rfl
theorem tzA (h:p:=by first|exact ju|exact jD|exact JA|exact J8|exact qg|exact kv|exact QT|exact kJ|exact ke|exact Kh|exact Qx|exact WC|exact Qd) :p:=h
section
variable {P:Program} {n:Nat} {env:List (Nat×Value)} {w0:Bs} {Rs:List Res} {ops:Array Oper} {Q:Exit→Act→World→Prop} {K:Act→World→Prop} {o:Oper}
theorem qlS {b off:Nat} (ho:o.op= .load T x) (hx:ev env x=some (.pointer (some ⟨b,off,none⟩))) (hT:TyS P T m) (hc:∀w,St w0 Rs w→∀j v,cs[j]? =some v→w.cell? ⟨b,off+j,none⟩ =some v) (hl:cs.length=m) :Qt P o n env w0 Rs (.agg cs.toArray) :=jk ho hx hT hl hc
def pqV (env:List (Nat×Value)) :Op→Option Value
  | .move x=>ev env x
  | .assign x=>ev env x
  | .nilCheck x=>match ev env x with
    | some (.pointer (some p)) =>some (.pointer (some p))
    | _=>none
  | .extract x i=>match ev env x with
    | some (.tuple vs) =>vs.toList[i]?
    | _=>none
  | .pick c x y=>match ev env c with
    | some (.bool true) =>ev env x
    | some (.bool false) =>ev env y
    | _=>none
  | .binOp b _ x y _=>match ev env x,ev env y with
    | some (.int .i64 p),some (.int .i64 q) =>match b with
      | .lss=>some (.bool (decide (p<q)))
      | .leq=>some (.bool (decide (p≤q)))
      | .gtr=>some (.bool (decide (q<p)))
      | .geq=>some (.bool (decide (q≤p)))
      | .eql=>some (.bool (p==q))
      | .neq=>some (.bool (!(p==q)))
      | _=>none
    | _,_=>none
  | .unOp .not _ x=>match ev env x with
    | some (.bool p) =>some (.bool (!p))
    | _=>none
  | _=>none
theorem jic (h:pqV env o.op=some v) :Qt P o n env w0 Rs v:=by
 unfold pqV at h
 split at h
 ·rename_i x ho;exact ja ho h
 ·rename_i x ho;exact jd ho h
 ·rename_i x ho
  split at h
  ·rename_i p hx;injection h with h;subst h;exact Jl ho hx
  ·cases h
 ·rename_i x i ho
  split at h
  ·rename_i vs hx;exact Jv (vs:=vs.toList) ho hx h
  ·cases h
 ·rename_i c x y ho
  split at h
  ·rename_i hc;exact Ji ho hc h
  ·rename_i hc;exact jM ho hc h
  ·cases h
 ·rename_i b T x y T' ho
  split at h
  ·rename_i p q hx hy
   split at h
   ·injection h with h;subst h;exact Jq ho hx hy
   ·injection h with h;subst h;exact QK ho hx hy
   ·injection h with h;subst h;exact qY ho hx hy
   ·injection h with h;subst h;exact zT ho hx hy
   ·injection h with h;subst h;exact qX ho hx hy
   ·injection h with h;subst h;exact kG ho hx hy
   ·cases h
  ·cases h
 ·rename_i T x ho
  split at h
  ·rename_i p hx;injection h with h;subst h;exact qp ho hx
  ·cases h
 ·cases h
end
section
variable {P:Program} {n:Nat} {env:List (Nat×Value)} {w0:Bs} {Rs:List Res} {ops:Array Oper} {Q:Exit→Act→World→Prop} {K:Act→World→Prop} {o:Oper}
theorem jA {T U:Nat} {b:Nat} {vs:List Value} (k:Nat) (h:At n env w0 (Rs.set k (.cel b U vs)) K) (ho:o.op= .store T x y:=by exact rfl) (hd:o.dst=none:=by exact rfl) (hx:ev env x=some (.pointer (some ⟨b,0,none⟩)) :=by exact rfl) (hk:Rs[k]? =some (.cel b U cs) :=by exact rfl) (hz: (P.info? T).map (·.size) =some m:=by exact TyZ.szx tzA) (hy:ev env y=some v:=by exact rfl) (hv:v.cells=vs.toArray:=by exact rfl) (h1:vs.all (·.oneCell') =true:=by rfl) (hm:vs.length=m:=by exact rfl) (hl:cs.length=m:=by exact rfl) :At n env w0 Rs (fun a w=>o.wp P a w K Q) :=j9 k hz h ho hd hx hy hv h1 hm hk hl
end
theorem qA9 (h:p:=by first|exact jic rfl|exact qlS rfl rfl (by first|exact jj|exact jE|exact JW|exact QL|exact qQ|exact qx|exact qo|exact UO|exact VN|exact vO|exact KG) (by first|exact Jj (k:=0) rfl|exact Jj (k:=1) rfl|exact Jj (k:=2) rfl|exact Jj (k:=3) rfl|exact Jj (k:=4) rfl|exact Jj (k:=5) rfl|exact Jj (k:=6) rfl|exact Jj (k:=7) rfl|exact Jj (k:=8) rfl|exact Jj (k:=9) rfl) (by rfl)|exact qlS rfl rfl (by first|exact jj|exact jE|exact JW|exact QL|exact qQ|exact qx|exact qo|exact UO|exact VN|exact vO|exact KG) (by first|exact w6 (k:=0) rfl rfl rfl|exact w6 (k:=1) rfl rfl rfl|exact w6 (k:=2) rfl rfl rfl|exact w6 (k:=3) rfl rfl rfl|exact w6 (k:=4) rfl rfl rfl|exact w6 (k:=5) rfl rfl rfl|exact w6 (k:=6) rfl rfl rfl|exact w6 (k:=7) rfl rfl rfl|exact w6 (k:=8) rfl rfl rfl|exact w6 (k:=9) rfl rfl rfl) (by rfl)|exact qlS rfl rfl (by first|exact jj|exact jE|exact JW|exact QL|exact qQ|exact qx|exact qo|exact UO|exact VN|exact vO|exact KG) (by first|exact rd3 (k:=0) rfl rfl rfl rfl|exact rd3 (k:=1) rfl rfl rfl rfl|exact rd3 (k:=2) rfl rfl rfl rfl|exact rd3 (k:=3) rfl rfl rfl rfl|exact rd3 (k:=4) rfl rfl rfl rfl|exact rd3 (k:=5) rfl rfl rfl rfl|exact rd3 (k:=6) rfl rfl rfl rfl|exact rd3 (k:=7) rfl rfl rfl rfl|exact rd3 (k:=8) rfl rfl rfl rfl|exact rd3 (k:=9) rfl rfl rfl rfl) (by rfl)|exact jq rfl rfl (by first|exact jt|exact J3|exact JV|exact QV) (by first|exact qq (k:=0) rfl rfl|exact qq (k:=1) rfl rfl|exact qq (k:=2) rfl rfl|exact qq (k:=3) rfl rfl|exact qq (k:=4) rfl rfl|exact qq (k:=5) rfl rfl|exact qq (k:=6) rfl rfl|exact qq (k:=7) rfl rfl|exact qq (k:=8) rfl rfl|exact qq (k:=9) rfl rfl)|exact KY rfl rfl rfl|exact W1 rfl rfl rfl|exact jg rfl rfl (by first|exact jF|exact jU|exact JN|exact JI|exact qn|exact JL|exact JG|exact qi|exact qB|exact qP|exact q7|exact q8|exact Qw|exact QA|exact Q9|exact kd|exact Ko|exact Kp|exact Qo|exact kU|exact kV|exact Kg|exact KN|exact KO|exact vK|exact vL|exact K5|exact vM|exact WA|exact WB|exact yI|exact yJ|exact Hn|exact Ho|exact Hq|exact Hr|exact xH|exact xG|exact ZK)|exact Jx rfl rfl (by first|exact jl|exact Jf|exact jS|exact JP|exact Ju|exact vN|exact Vg|exact Vh|exact JM|exact JD|exact X6|exact Qh|exact xI)|exact jH rfl rfl rfl (by first|exact jl|exact Jf|exact jS|exact JP|exact Ju|exact vN|exact Vg|exact Vh|exact JM|exact JD|exact X6|exact Qh|exact xI) Om|exact Ks rfl rfl rfl|exact G3 rfl rfl rfl|exact jT rfl rfl rfl Om Om|exact JC rfl rfl rfl Om Om|exact J7 rfl rfl rfl Om Om) :p:=h
section
variable {P:Program} {n:Nat} {env:List (Nat×Value)} {w0:Bs} {Rs:List Res} {ops:Array Oper} {Q:Exit→Act→World→Prop} {K:Act→World→Prop} {o:Oper}
theorem uw (ks:List Nat) {X:List Res} (e:Rs0++X=wks ks Rs) :∀w,St w0 Rs w→St w0 Rs0 w:=fun w h=> (h.wk ks).upto (e▸jib Rs0 X)
theorem aA9 (h:At n ((d,v) ::env) w0 Rs (fun a w=>wpList P ops Q rest a w)) (hg:o.guard=none:=by exact rfl) (hd:o.dst=some d:=by exact rfl) (hn:d<n:=by decide) (hq:Qt P o n env w0 Rs v:=by exact qA9) :At n env w0 Rs (fun a w=>wpList P ops Q (o::rest) a w) :=jc hg hd hn hq h
theorem oA9 (h:At n ((d,v) ::env) w0 Rs K) (hd:o.dst=some d:=by exact rfl) (hn:d<n:=by decide) (hq:Qt P o n env w0 Rs v:=by exact qA9) :At n env w0 Rs (fun a w=>o.wp P a w K Q) :=Jo hd hn hq h
theorem suA (h:p:=by first|exact u9 rfl|exact uw [0] rfl|exact uw [1] rfl|exact uw [2] rfl|exact uw [3] rfl|exact uw [4] rfl|exact uw [5] rfl|exact uw [6] rfl|exact uw [7] rfl|exact uw [8] rfl|exact uw [9] rfl) :p:=h
theorem dK (i:Nat) (h:At n ((d,v) ::env) w0 Rs (fun a w=>Qr P .any ops Q (Uy w0 Rs0) f fuel (listed.setIfInBounds i true) a w)) (hi:ops[i]? =some o:=by exact rfl) (hsub:∀w,St w0 Rs w→St w0 Rs0 w:=by exact suA) (hg:o.guard=none:=by exact rfl) (hd:o.dst=some d:=by exact rfl) (hn:d<n:=by decide) (hS:Region.noSelect ops=true:=by kernel_rfl) (hfr:Region.free .any ops listed i=true:=by kernel_rfl) (hrd: (Region.ready .any ops listed).contains i=true:=by kernel_rfl) (hfi: (vd .any ops listed i [] f&&i !=f) =true:=by kernel_rfl) (hq:Qt P o n env w0 Rs0 v:=by exact qA9) (hQ:∀c a w,Q (.panic c) (a.put o.dst v) w→Q (.panic c) a w:=by exact fun _ _ _ h=>h) :At n env w0 Rs (fun a w=>Qr P .any ops Q (Uy w0 Rs0) f (fuel+1) listed a w) :=d9 i hi [] hsub hq h hg hd hn hS hfr hrd hfi hQ
theorem eK (i:Nat) (h:At n ((d,v) ::env) w0 Rs (fun a w=>Qr P .any ops Q (Uy w0 Rs0) f fuel (listed.setIfInBounds i true) a w)) (hi:ops[i]? =some o:=by exact rfl) (hsub:∀w,St w0 Rs w→St w0 Rs0 w:=by exact suA) (hg:o.guard=some (j,c) :=by exact rfl) (hj:ops[j]? =some oj:=by exact rfl) (hdj:oj.dst=some dj:=by exact rfl) (hb:look env dj=some (.bool c) :=by exact rfl) (hd:o.dst=some d:=by exact rfl) (hn:d<n:=by decide) (hS:Region.noSelect ops=true:=by kernel_rfl) (hfr:Region.free .any ops listed i=true:=by kernel_rfl) (hrd: (Region.ready .any ops listed).contains i=true:=by kernel_rfl) (hfi: (vd .any ops listed i [] f&&i !=f) =true:=by kernel_rfl) (hq:Qt P o n env w0 Rs0 v:=by exact qA9) (hQ:∀c a w,Q (.panic c) (a.put o.dst v) w→Q (.panic c) a w:=by exact fun _ _ _ h=>h) :At n env w0 Rs (fun a w=>Qr P .any ops Q (Uy w0 Rs0) f (fuel+1) listed a w) :=e9 i hi [] hsub hq h hg hj hdj hb hd hn hS hfr hrd hfi hQ
theorem fK {b:Bool} (i:Nat) (h:At n ((d,undef) ::env) w0 Rs (fun a w=>Qr P .any ops Q (Uy w0 Rs0) f fuel (listed.setIfInBounds i true) a w)) (hi:ops[i]? =some o:=by exact rfl) (hsub:∀w,St w0 Rs w→St w0 Rs0 w:=by exact suA) (hg:o.guard=some (j,c) :=by exact rfl) (hj:ops[j]? =some oj:=by exact rfl) (hdj:oj.dst=some dj:=by exact rfl) (hb:look env dj=some (.bool b) :=by exact rfl) (hne:b≠c:=by decide) (hd:o.dst=some d:=by exact rfl) (hn:d<n:=by decide) (hS:Region.noSelect ops=true:=by kernel_rfl) (hfr:Region.free .any ops listed i=true:=by kernel_rfl) (hrd: (Region.ready .any ops listed).contains i=true:=by kernel_rfl) (hfi: (vd .any ops listed i [] f&&i !=f) =true:=by kernel_rfl) (hQ:∀c a w,Q (.panic c) (a.put o.dst undef) w→Q (.panic c) a w:=by exact fun _ _ _ h=>h) :At n env w0 Rs (fun a w=>Qr P .any ops Q (Uy w0 Rs0) f (fuel+1) listed a w) :=f9 i hi [] hsub h hg hj hdj hb hne hd hn hS hfr hrd hfi hQ
theorem dV (i:Nat) (ms:List Nat) (h:At n ((d,v) ::env) w0 Rs (fun a w=>Qr P .any ops Q (Uy w0 Rs0) f fuel (listed.setIfInBounds i true) a w)) (hi:ops[i]? =some o:=by exact rfl) (hsub:∀w,St w0 Rs w→St w0 Rs0 w:=by exact suA) (hg:o.guard=none:=by exact rfl) (hd:o.dst=some d:=by exact rfl) (hn:d<n:=by decide) (hS:Region.noSelect ops=true:=by kernel_rfl) (hfr:Region.free .any ops listed i=true:=by kernel_rfl) (hrd: (Region.ready .any ops listed).contains i=true:=by kernel_rfl) (hfi: (vd .any ops listed i ms f&&i !=f) =true:=by kernel_rfl) (hq:Qt P o n env w0 Rs0 v:=by exact qA9) (hQ:∀c a w,Q (.panic c) (a.put o.dst v) w→Q (.panic c) a w:=by exact fun _ _ _ h=>h) :At n env w0 Rs (fun a w=>Qr P .any ops Q (Uy w0 Rs0) f (fuel+1) listed a w) :=d9 i hi ms hsub hq h hg hd hn hS hfr hrd hfi hQ
theorem eV (i:Nat) (ms:List Nat) (h:At n ((d,v) ::env) w0 Rs (fun a w=>Qr P .any ops Q (Uy w0 Rs0) f fuel (listed.setIfInBounds i true) a w)) (hi:ops[i]? =some o:=by exact rfl) (hsub:∀w,St w0 Rs w→St w0 Rs0 w:=by exact suA) (hg:o.guard=some (j,c) :=by exact rfl) (hj:ops[j]? =some oj:=by exact rfl) (hdj:oj.dst=some dj:=by exact rfl) (hb:look env dj=some (.bool c) :=by exact rfl) (hd:o.dst=some d:=by exact rfl) (hn:d<n:=by decide) (hS:Region.noSelect ops=true:=by kernel_rfl) (hfr:Region.free .any ops listed i=true:=by kernel_rfl) (hrd: (Region.ready .any ops listed).contains i=true:=by kernel_rfl) (hfi: (vd .any ops listed i ms f&&i !=f) =true:=by kernel_rfl) (hq:Qt P o n env w0 Rs0 v:=by exact qA9) (hQ:∀c a w,Q (.panic c) (a.put o.dst v) w→Q (.panic c) a w:=by exact fun _ _ _ h=>h) :At n env w0 Rs (fun a w=>Qr P .any ops Q (Uy w0 Rs0) f (fuel+1) listed a w) :=e9 i hi ms hsub hq h hg hj hdj hb hd hn hS hfr hrd hfi hQ
theorem fV {b:Bool} (i:Nat) (ms:List Nat) (h:At n ((d,undef) ::env) w0 Rs (fun a w=>Qr P .any ops Q (Uy w0 Rs0) f fuel (listed.setIfInBounds i true) a w)) (hi:ops[i]? =some o:=by exact rfl) (hsub:∀w,St w0 Rs w→St w0 Rs0 w:=by exact suA) (hg:o.guard=some (j,c) :=by exact rfl) (hj:ops[j]? =some oj:=by exact rfl) (hdj:oj.dst=some dj:=by exact rfl) (hb:look env dj=some (.bool b) :=by exact rfl) (hne:b≠c:=by decide) (hd:o.dst=some d:=by exact rfl) (hn:d<n:=by decide) (hS:Region.noSelect ops=true:=by kernel_rfl) (hfr:Region.free .any ops listed i=true:=by kernel_rfl) (hrd: (Region.ready .any ops listed).contains i=true:=by kernel_rfl) (hfi: (vd .any ops listed i ms f&&i !=f) =true:=by kernel_rfl) (hQ:∀c a w,Q (.panic c) (a.put o.dst undef) w→Q (.panic c) a w:=by exact fun _ _ _ h=>h) :At n env w0 Rs (fun a w=>Qr P .any ops Q (Uy w0 Rs0) f (fuel+1) listed a w) :=f9 i hi ms hsub h hg hj hdj hb hne hd hn hS hfr hrd hfi hQ
theorem dZ (i:Nat) (hi:ops[i]? =some o) (hq:Qt P o n env w0 Rs0 v) (h:At n ((d,v) ::env) w0 Rs (fun a w=>Qr P .any ops Q (Uy w0 Rs0) f fuel (listed.setIfInBounds i true) a w)) (hsub:∀w,St w0 Rs w→St w0 Rs0 w:=by exact suA) (hg:o.guard=none:=by exact rfl) (hd:o.dst=some d:=by exact rfl) (hn:d<n:=by decide) (hS:Region.noSelect ops=true:=by kernel_rfl) (hfr:Region.free .any ops listed i=true:=by kernel_rfl) (hrd: (Region.ready .any ops listed).contains i=true:=by kernel_rfl) (hfi: (vd .any ops listed i [] f&&i !=f) =true:=by kernel_rfl) (hQ:∀c a w,Q (.panic c) (a.put o.dst v) w→Q (.panic c) a w:=by exact fun _ _ _ h=>h) :At n env w0 Rs (fun a w=>Qr P .any ops Q (Uy w0 Rs0) f (fuel+1) listed a w) :=d9 i hi [] hsub hq h hg hd hn hS hfr hrd hfi hQ
theorem eZ (i:Nat) (hi:ops[i]? =some o) (hq:Qt P o n env w0 Rs0 v) (h:At n ((d,v) ::env) w0 Rs (fun a w=>Qr P .any ops Q (Uy w0 Rs0) f fuel (listed.setIfInBounds i true) a w)) (hsub:∀w,St w0 Rs w→St w0 Rs0 w:=by exact suA) (hg:o.guard=some (j,c) :=by exact rfl) (hj:ops[j]? =some oj:=by exact rfl) (hdj:oj.dst=some dj:=by exact rfl) (hb:look env dj=some (.bool c) :=by exact rfl) (hd:o.dst=some d:=by exact rfl) (hn:d<n:=by decide) (hS:Region.noSelect ops=true:=by kernel_rfl) (hfr:Region.free .any ops listed i=true:=by kernel_rfl) (hrd: (Region.ready .any ops listed).contains i=true:=by kernel_rfl) (hfi: (vd .any ops listed i [] f&&i !=f) =true:=by kernel_rfl) (hQ:∀c a w,Q (.panic c) (a.put o.dst v) w→Q (.panic c) a w:=by exact fun _ _ _ h=>h) :At n env w0 Rs (fun a w=>Qr P .any ops Q (Uy w0 Rs0) f (fuel+1) listed a w) :=e9 i hi [] hsub hq h hg hj hdj hb hd hn hS hfr hrd hfi hQ
theorem aL {q:Nat} (h:∀b,At n ((d, .pointer (some ⟨b,0,none⟩)) ::env) w0 (Rs++ [.cel b T z.cells.toList]) K) (ho:o.op= .alloc T:=by exact rfl) (hz:TyZ P T m q z:=by exact tzA) (hd:o.dst=some d:=by exact rfl) (hn:d<n:=by exact lb rfl) :At n env w0 Rs (fun a w=>o.wp P a w K Q) :=Jn ho hz hd hn h
theorem aX (h:∀b,At n ((d, .pointer (some ⟨b,0,none⟩)) ::env) w0 (Rs++ [.cel b T cs]) K) (ho:o.op= .box T x:=by exact rfl) (hx:ev env x=some v:=by exact rfl) (hv:v.cells=cs.toArray:=by exact rfl) (hd:o.dst=some d:=by exact rfl) (hn:d<n:=by exact lb rfl) :At n env w0 Rs (fun a w=>o.wp P a w K Q) :=JO ho hx hv hd hn h
end
structure Hk (B:Prop) :Prop where
  o:B
theorem S1 (h:B) (s:Hk B→A:=by intro h; (first|with_reducible refine je ?_|with_reducible refine jb ?_|with_reducible refine jf ?_|with_reducible refine jh ?_|refine aA9 ?_|refine g9 ?_|refine h9 ?_|refine oA9 ?_|refine jp (fun h=>by cases h) ?_|with_reducible refine jC ?_|with_reducible refine jv ?_|with_reducible refine jz ?_|with_reducible refine jB ?_|with_reducible refine jL ?_|with_reducible refine JR ?_|with_reducible refine Jh ?_|refine GZ Dc ?_|with_reducible refine Jt ?_|with_reducible refine JY ?_|refine Mv rfl rfl ?_|refine va rfl rfl ?_|refine Jz mixed rfl ?_|refine jn rfl ?_|refine qK rfl rfl rfl rfl rfl Dc ?_|(refine jA 0 ?_;refine n9 ?_)|(refine jA 1 ?_;refine n9 ?_)|(refine jA 2 ?_;refine n9 ?_)|(refine jA 3 ?_;refine n9 ?_)|(refine jA 4 ?_;refine n9 ?_)|(refine jA 5 ?_;refine n9 ?_)|(refine jA 6 ?_;refine n9 ?_)|(refine jA 7 ?_;refine n9 ?_)|(refine jA 8 ?_;refine n9 ?_)|(refine jA 9 ?_;refine n9 ?_));exact h.o) :A:=s ⟨h⟩
theorem S2 (h:B) (s:Hk B→A:=by intro h; (iterate 2 refine S1 ?_);exact h.o) :A:=s ⟨h⟩
theorem S3 (h:B) (s:Hk B→A:=by intro h; (iterate 3 refine S1 ?_);exact h.o) :A:=s ⟨h⟩
theorem S4 (h:B) (s:Hk B→A:=by intro h; (iterate 4 refine S1 ?_);exact h.o) :A:=s ⟨h⟩
theorem S5 (h:B) (s:Hk B→A:=by intro h; (iterate 5 refine S1 ?_);exact h.o) :A:=s ⟨h⟩
theorem S6 (h:B) (s:Hk B→A:=by intro h; (iterate 6 refine S1 ?_);exact h.o) :A:=s ⟨h⟩
theorem S7 (h:B) (s:Hk B→A:=by intro h; (iterate 7 refine S1 ?_);exact h.o) :A:=s ⟨h⟩
theorem S8 (h:B) (s:Hk B→A:=by intro h; (iterate 8 refine S1 ?_);exact h.o) :A:=s ⟨h⟩
theorem S9 (h:B) (s:Hk B→A:=by intro h; (iterate 9 refine S1 ?_);exact h.o) :A:=s ⟨h⟩
theorem S10 (h:B) (s:Hk B→A:=by intro h; (iterate 10 refine S1 ?_);exact h.o) :A:=s ⟨h⟩
theorem S11 (h:B) (s:Hk B→A:=by intro h; (iterate 11 refine S1 ?_);exact h.o) :A:=s ⟨h⟩
theorem S12 (h:B) (s:Hk B→A:=by intro h; (iterate 12 refine S1 ?_);exact h.o) :A:=s ⟨h⟩
theorem S13 (h:B) (s:Hk B→A:=by intro h; (iterate 13 refine S1 ?_);exact h.o) :A:=s ⟨h⟩
theorem S14 (h:B) (s:Hk B→A:=by intro h; (iterate 14 refine S1 ?_);exact h.o) :A:=s ⟨h⟩
theorem S15 (h:B) (s:Hk B→A:=by intro h; (iterate 15 refine S1 ?_);exact h.o) :A:=s ⟨h⟩
theorem S16 (h:B) (s:Hk B→A:=by intro h; (iterate 16 refine S1 ?_);exact h.o) :A:=s ⟨h⟩
theorem S17 (h:B) (s:Hk B→A:=by intro h; (iterate 17 refine S1 ?_);exact h.o) :A:=s ⟨h⟩
theorem S18 (h:B) (s:Hk B→A:=by intro h; (iterate 18 refine S1 ?_);exact h.o) :A:=s ⟨h⟩
theorem S19 (h:B) (s:Hk B→A:=by intro h; (iterate 19 refine S1 ?_);exact h.o) :A:=s ⟨h⟩
theorem S20 (h:B) (s:Hk B→A:=by intro h; (iterate 20 refine S1 ?_);exact h.o) :A:=s ⟨h⟩
theorem S22 (h:B) (s:Hk B→A:=by intro h; (iterate 22 refine S1 ?_);exact h.o) :A:=s ⟨h⟩
theorem S23 (h:B) (s:Hk B→A:=by intro h; (iterate 23 refine S1 ?_);exact h.o) :A:=s ⟨h⟩
theorem S24 (h:B) (s:Hk B→A:=by intro h; (iterate 24 refine S1 ?_);exact h.o) :A:=s ⟨h⟩
theorem S26 (h:B) (s:Hk B→A:=by intro h; (iterate 26 refine S1 ?_);exact h.o) :A:=s ⟨h⟩
theorem S27 (h:B) (s:Hk B→A:=by intro h; (iterate 27 refine S1 ?_);exact h.o) :A:=s ⟨h⟩
theorem S32 (h:B) (s:Hk B→A:=by intro h; (iterate 32 refine S1 ?_);exact h.o) :A:=s ⟨h⟩
theorem S42 (h:B) (s:Hk B→A:=by intro h; (iterate 42 refine S1 ?_);exact h.o) :A:=s ⟨h⟩
theorem N1 (h:B) (s:Hk B→A:=by intro h;refine n9 ?_; (iterate 1 refine S1 ?_);exact h.o) :A:=s ⟨h⟩
theorem N2 (h:B) (s:Hk B→A:=by intro h;refine n9 ?_; (iterate 2 refine S1 ?_);exact h.o) :A:=s ⟨h⟩
theorem N3 (h:B) (s:Hk B→A:=by intro h;refine n9 ?_; (iterate 3 refine S1 ?_);exact h.o) :A:=s ⟨h⟩
theorem N4 (h:B) (s:Hk B→A:=by intro h;refine n9 ?_; (iterate 4 refine S1 ?_);exact h.o) :A:=s ⟨h⟩
theorem N5 (h:B) (s:Hk B→A:=by intro h;refine n9 ?_; (iterate 5 refine S1 ?_);exact h.o) :A:=s ⟨h⟩
theorem N6 (h:B) (s:Hk B→A:=by intro h;refine n9 ?_; (iterate 6 refine S1 ?_);exact h.o) :A:=s ⟨h⟩
theorem N7 (h:B) (s:Hk B→A:=by intro h;refine n9 ?_; (iterate 7 refine S1 ?_);exact h.o) :A:=s ⟨h⟩
theorem N8 (h:B) (s:Hk B→A:=by intro h;refine n9 ?_; (iterate 8 refine S1 ?_);exact h.o) :A:=s ⟨h⟩
theorem N9 (h:B) (s:Hk B→A:=by intro h;refine n9 ?_; (iterate 9 refine S1 ?_);exact h.o) :A:=s ⟨h⟩
theorem N10 (h:B) (s:Hk B→A:=by intro h;refine n9 ?_; (iterate 10 refine S1 ?_);exact h.o) :A:=s ⟨h⟩
theorem N11 (h:B) (s:Hk B→A:=by intro h;refine n9 ?_; (iterate 11 refine S1 ?_);exact h.o) :A:=s ⟨h⟩
theorem N12 (h:B) (s:Hk B→A:=by intro h;refine n9 ?_; (iterate 12 refine S1 ?_);exact h.o) :A:=s ⟨h⟩
theorem N13 (h:B) (s:Hk B→A:=by intro h;refine n9 ?_; (iterate 13 refine S1 ?_);exact h.o) :A:=s ⟨h⟩
theorem N14 (h:B) (s:Hk B→A:=by intro h;refine n9 ?_; (iterate 14 refine S1 ?_);exact h.o) :A:=s ⟨h⟩
theorem N15 (h:B) (s:Hk B→A:=by intro h;refine n9 ?_; (iterate 15 refine S1 ?_);exact h.o) :A:=s ⟨h⟩
theorem N16 (h:B) (s:Hk B→A:=by intro h;refine n9 ?_; (iterate 16 refine S1 ?_);exact h.o) :A:=s ⟨h⟩
theorem N20 (h:B) (s:Hk B→A:=by intro h;refine n9 ?_; (iterate 20 refine S1 ?_);exact h.o) :A:=s ⟨h⟩
theorem N21 (h:B) (s:Hk B→A:=by intro h;refine n9 ?_; (iterate 21 refine S1 ?_);exact h.o) :A:=s ⟨h⟩
theorem N22 (h:B) (s:Hk B→A:=by intro h;refine n9 ?_; (iterate 22 refine S1 ?_);exact h.o) :A:=s ⟨h⟩
theorem N23 (h:B) (s:Hk B→A:=by intro h;refine n9 ?_; (iterate 23 refine S1 ?_);exact h.o) :A:=s ⟨h⟩
theorem V1 (h:B) (s:Hk B→A:=by intro h;refine v9 ?_; (iterate 1 refine S1 ?_);exact h.o) :A:=s ⟨h⟩
theorem V2 (h:B) (s:Hk B→A:=by intro h;refine v9 ?_; (iterate 2 refine S1 ?_);exact h.o) :A:=s ⟨h⟩
theorem V3 (h:B) (s:Hk B→A:=by intro h;refine v9 ?_; (iterate 3 refine S1 ?_);exact h.o) :A:=s ⟨h⟩
theorem V5 (h:B) (s:Hk B→A:=by intro h;refine v9 ?_; (iterate 5 refine S1 ?_);exact h.o) :A:=s ⟨h⟩
theorem V6 (h:B) (s:Hk B→A:=by intro h;refine v9 ?_; (iterate 6 refine S1 ?_);exact h.o) :A:=s ⟨h⟩
theorem V7 (h:B) (s:Hk B→A:=by intro h;refine v9 ?_; (iterate 7 refine S1 ?_);exact h.o) :A:=s ⟨h⟩
theorem V8 (h:B) (s:Hk B→A:=by intro h;refine v9 ?_; (iterate 8 refine S1 ?_);exact h.o) :A:=s ⟨h⟩
theorem V14 (h:B) (s:Hk B→A:=by intro h;refine v9 ?_; (iterate 14 refine S1 ?_);exact h.o) :A:=s ⟨h⟩
theorem V15 (h:B) (s:Hk B→A:=by intro h;refine v9 ?_; (iterate 15 refine S1 ?_);exact h.o) :A:=s ⟨h⟩
end Go.Proofs.YtbahojdbmmjkcaaGreat
