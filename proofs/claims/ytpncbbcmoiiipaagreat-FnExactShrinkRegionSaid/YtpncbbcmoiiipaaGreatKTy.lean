import Derived.Test.YtpncbbcmoiiipaaGreatKSv
set_option linter.unusedVariables false
set_option linter.unusedSimpArgs false
namespace Go.Proofs.YtpncbbcmoiiipaaGreat
open Go Go.RowKit
set_option maxRecDepth 100000
theorem VC {P:Program} {T m k:Nat} {z:Value} (h: (P.info? T).map (fun i=> (i.zero,i.size,i.bytes)) =some (some z,m,k)) (hc:z.cells.size=m) :TyZ P T m k z:=by
 cases hi:P.info? T with
 | none=>simp [hi] at h
 | some i=>
  simp only [hi,jj4,Option.some.injEq,Prod.mk.injEq] at h
  exact⟨⟨i,hi,h.1,h.2.1,h.2.2⟩,hc⟩
theorem jt:Ty1 Tryz.prog 2:=⟨⟨_,Tryz.underlying2,rfl⟩,by kernel_rfl⟩
theorem kS:TyZ Tryz.prog 2 1 8 (.int .i64 0) :=VC Kr rfl
theorem YO:Ty1 Tryz.prog 3:=⟨⟨_,Tryz.underlying3,rfl⟩,by kernel_rfl⟩
theorem IT:TyZ Tryz.prog 3 1 8 (.int .i64 0) :=VC Kr rfl
theorem QT:Ty1 Tryz.prog 4:=⟨⟨_,Tryz.underlying4,rfl⟩,by kernel_rfl⟩
theorem Bh:Tryz.prog.underlying 4=some .bool:=Tryz.underlying4
theorem Yb:TyZ Tryz.prog 4 1 1 (.bool false) :=VC Kr rfl
theorem JR:Ty1 Tryz.prog 24:=⟨⟨_,Tryz.underlying24,rfl⟩,by kernel_rfl⟩
theorem jK:TyL Tryz.prog 24 77 1:=⟨Tryz.underlying24,by kernel_rfl⟩
theorem QQ:TyZ Tryz.prog 24 1 24 (.slice none 0 0) :=VC Kr rfl
theorem jG:TyS Tryz.prog 26 1:=⟨⟨_,Tryz.underlying26,rfl⟩,by kernel_rfl⟩
theorem JA:TyF Tryz.prog 26 0 0:=⟨_,_,Tryz.underlying26,rfl,rfl,0,by kernel_rfl⟩
theorem jr:TyZ Tryz.prog 26 1 24 (.agg #[.slice none 0 0]) :=VC Kr rfl
theorem JG:Ty1 Tryz.prog 29:=⟨⟨_,Tryz.underlying29,rfl⟩,by kernel_rfl⟩
theorem jw:TyL Tryz.prog 29 56 2:=⟨Tryz.underlying29,by kernel_rfl⟩
theorem K7:TyZ Tryz.prog 29 1 24 (.slice none 0 0) :=VC Kr rfl
theorem jmi:Ty1 Tryz.prog 36:=⟨⟨_,Tryz.underlying36,rfl⟩,by kernel_rfl⟩
theorem jkz:TyL Tryz.prog 36 161 1:=⟨Tryz.underlying36,by kernel_rfl⟩
theorem qb:TyS Tryz.prog 38 1:=⟨⟨_,Tryz.underlying38,rfl⟩,by kernel_rfl⟩
theorem jl9:TyF Tryz.prog 38 0 0:=⟨_,_,Tryz.underlying38,rfl,rfl,0,by kernel_rfl⟩
theorem Gm:TyL Tryz.prog 43 2 1:=⟨Tryz.underlying43,by kernel_rfl⟩
theorem jj:TyS Tryz.prog 56 2:=⟨⟨_,Tryz.underlying56,rfl⟩,by kernel_rfl⟩
theorem Jt:TyF Tryz.prog 56 0 0:=⟨_,_,Tryz.underlying56,rfl,rfl,0,by kernel_rfl⟩
theorem jI:TyF Tryz.prog 56 1 1:=⟨_,_,Tryz.underlying56,rfl,rfl,0,by kernel_rfl⟩
theorem jH:TyZ Tryz.prog 56 2 16 (.agg #[.int .i64 0, .int .i64 0]) :=VC Kr rfl
theorem JM:TyS Tryz.prog 77 1:=⟨⟨_,Tryz.underlying77,rfl⟩,by kernel_rfl⟩
theorem Jz:TyF Tryz.prog 77 0 0:=⟨_,_,Tryz.underlying77,rfl,rfl,0,by kernel_rfl⟩
theorem Jw:TyZ Tryz.prog 77 1 24 (.agg #[.slice none 0 0]) :=VC Kr rfl
theorem Y8:Ty1 Tryz.prog 106:=⟨⟨_,Tryz.underlying106,rfl⟩,by kernel_rfl⟩
theorem Jf:TyL Tryz.prog 106 131 4:=⟨Tryz.underlying106,by kernel_rfl⟩
theorem Jm:TyL Tryz.prog 113 120 4:=⟨Tryz.underlying113,by kernel_rfl⟩
theorem KQ:TyS Tryz.prog 120 4:=⟨⟨_,Tryz.underlying120,rfl⟩,by kernel_rfl⟩
theorem Jl:TyF Tryz.prog 120 0 0:=⟨_,_,Tryz.underlying120,rfl,rfl,1,by kernel_rfl⟩
theorem Jp:TyF Tryz.prog 120 1 2:=⟨_,_,Tryz.underlying120,rfl,rfl,1,by kernel_rfl⟩
theorem ku:TyZ Tryz.prog 120 4 32 (.agg #[.int .i64 0, .int .i64 0, .int .i64 0, .int .i64 0]) :=VC Kr rfl
theorem qG:TyS Tryz.prog 131 4:=⟨⟨_,Tryz.underlying131,rfl⟩,by kernel_rfl⟩
theorem qx:TyF Tryz.prog 131 0 0:=⟨_,_,Tryz.underlying131,rfl,rfl,1,by kernel_rfl⟩
theorem ql:TyF Tryz.prog 131 1 2:=⟨_,_,Tryz.underlying131,rfl,rfl,1,by kernel_rfl⟩
theorem qn:TyZ Tryz.prog 131 4 32 (.agg #[.int .i64 0, .int .i64 0, .int .i64 0, .int .i64 0]) :=VC Kr rfl
theorem jnb:TyS Tryz.prog 161 1:=⟨⟨_,Tryz.underlying161,rfl⟩,by kernel_rfl⟩
theorem JH:TyL Tryz.prog 163 212 8:=⟨Tryz.underlying163,by kernel_rfl⟩
theorem Vn:TyL Tryz.prog 186 106 1:=⟨Tryz.underlying186,by kernel_rfl⟩
theorem xV:TyL Tryz.prog 198 3 1:=⟨Tryz.underlying198,by kernel_rfl⟩
theorem Va:TyL Tryz.prog 199 4 1:=⟨Tryz.underlying199,by kernel_rfl⟩
theorem wn:TyS Tryz.prog 203 7:=⟨⟨_,Tryz.underlying203,rfl⟩,by kernel_rfl⟩
theorem kN:TyF Tryz.prog 203 2 4:=⟨_,_,Tryz.underlying203,rfl,rfl,0,by kernel_rfl⟩
theorem Vk:TyF Tryz.prog 203 3 5:=⟨_,_,Tryz.underlying203,rfl,rfl,0,by kernel_rfl⟩
theorem Vl:TyF Tryz.prog 203 4 6:=⟨_,_,Tryz.underlying203,rfl,rfl,0,by kernel_rfl⟩
theorem QP:TyZ Tryz.prog 203 7 56 (.agg #[.int .i64 0, .int .i64 0, .int .i64 0, .int .i64 0, .int .i64 0, .int .i64 0, .int .i64 0]) :=VC Kr rfl
theorem Qq:TyF Tryz.prog 212 0 0:=⟨_,_,Tryz.underlying212,rfl,rfl,3,by kernel_rfl⟩
theorem Kp:TyF Tryz.prog 212 1 4:=⟨_,_,Tryz.underlying212,rfl,rfl,0,by kernel_rfl⟩
theorem Kq:TyF Tryz.prog 212 2 5:=⟨_,_,Tryz.underlying212,rfl,rfl,0,by kernel_rfl⟩
theorem WZ:TyF Tryz.prog 212 3 6:=⟨_,_,Tryz.underlying212,rfl,rfl,0,by kernel_rfl⟩
theorem W0:TyF Tryz.prog 212 4 7:=⟨_,_,Tryz.underlying212,rfl,rfl,0,by kernel_rfl⟩
theorem Ub:TyZ Tryz.prog 212 8 64 (.agg #[.int .i64 0, .int .i64 0, .int .i64 0, .int .i64 0, .int .i64 0, .int .i64 0, .int .i64 0, .int .i64 0]) :=VC Kr rfl
theorem JD:TyL Tryz.prog 230 238 5:=⟨Tryz.underlying230,by kernel_rfl⟩
theorem QK:TyS Tryz.prog 232 3:=⟨⟨_,Tryz.underlying232,rfl⟩,by kernel_rfl⟩
theorem y8:TyF Tryz.prog 232 0 0:=⟨_,_,Tryz.underlying232,rfl,rfl,0,by kernel_rfl⟩
theorem Ya:TyF Tryz.prog 232 1 1:=⟨_,_,Tryz.underlying232,rfl,rfl,0,by kernel_rfl⟩
theorem Qz:TyF Tryz.prog 232 2 2:=⟨_,_,Tryz.underlying232,rfl,rfl,0,by kernel_rfl⟩
theorem Kb:TyZ Tryz.prog 232 3 24 (.agg #[.int .i64 0, .int .i64 0, .bool false]) :=VC Kr rfl
theorem Vo:TyS Tryz.prog 234 6:=⟨⟨_,Tryz.underlying234,rfl⟩,by kernel_rfl⟩
theorem Ka:TyF Tryz.prog 234 0 0:=⟨_,_,Tryz.underlying234,rfl,rfl,2,by kernel_rfl⟩
theorem vx:TyF Tryz.prog 234 1 3:=⟨_,_,Tryz.underlying234,rfl,rfl,2,by kernel_rfl⟩
theorem kd:TyZ Tryz.prog 234 6 48 (.agg #[.int .i64 0, .int .i64 0, .bool false, .int .i64 0, .int .i64 0, .bool false]) :=VC Kr rfl
theorem qj:TyS Tryz.prog 238 5:=⟨⟨_,Tryz.underlying238,rfl⟩,by kernel_rfl⟩
theorem ZX:TyF Tryz.prog 238 0 0:=⟨_,_,Tryz.underlying238,rfl,rfl,1,by kernel_rfl⟩
theorem QB:TyF Tryz.prog 238 1 2:=⟨_,_,Tryz.underlying238,rfl,rfl,2,by kernel_rfl⟩
theorem Qc:TyZ Tryz.prog 238 5 40 (.agg #[.int .i64 0, .int .i64 0, .int .i64 0, .int .i64 0, .bool false]) :=VC Kr rfl
theorem VL:TyL Tryz.prog 273 29 1:=⟨Tryz.underlying273,by kernel_rfl⟩
theorem Qi:TyL Tryz.prog 281 289 8:=⟨Tryz.underlying281,by kernel_rfl⟩
theorem qr:TyS Tryz.prog 283 6:=⟨⟨_,Tryz.underlying283,rfl⟩,by kernel_rfl⟩
theorem vc:TyF Tryz.prog 283 0 0:=⟨_,_,Tryz.underlying283,rfl,rfl,0,by kernel_rfl⟩
theorem vA:TyF Tryz.prog 283 1 1:=⟨_,_,Tryz.underlying283,rfl,rfl,0,by kernel_rfl⟩
theorem K5:TyF Tryz.prog 283 2 2:=⟨_,_,Tryz.underlying283,rfl,rfl,0,by kernel_rfl⟩
theorem K6:TyF Tryz.prog 283 3 3:=⟨_,_,Tryz.underlying283,rfl,rfl,0,by kernel_rfl⟩
theorem kO:TyF Tryz.prog 283 4 4:=⟨_,_,Tryz.underlying283,rfl,rfl,0,by kernel_rfl⟩
theorem Vm:TyF Tryz.prog 283 5 5:=⟨_,_,Tryz.underlying283,rfl,rfl,0,by kernel_rfl⟩
theorem J9:TyZ Tryz.prog 283 6 40 (.agg #[.int .i64 0, .int .i64 0, .int .i64 0, .int .i64 0, .bool false, .bool false]) :=VC Kr rfl
theorem xT:TyF Tryz.prog 289 0 0:=⟨_,_,Tryz.underlying289,rfl,rfl,1,by kernel_rfl⟩
theorem xU:TyF Tryz.prog 289 1 2:=⟨_,_,Tryz.underlying289,rfl,rfl,5,by kernel_rfl⟩
theorem uz:TyZ Tryz.prog 289 8 56 (.agg #[.int .i64 0, .int .i64 0, .int .i64 0, .int .i64 0, .int .i64 0, .int .i64 0, .bool false, .bool false]) :=VC Kr rfl
theorem jkB:FnOk Tryz.prog 12:=⟨_,Tryz.func12,by kernel_rfl,rfl⟩
theorem jmd:FnOk Tryz.prog 13:=⟨_,Tryz.func13,by kernel_rfl,rfl⟩
theorem kf:FnOk Tryz.prog 14:=⟨_,Tryz.func14,by kernel_rfl,rfl⟩
theorem jkY:FnOk Tryz.prog 15:=⟨_,Tryz.func15,by kernel_rfl,rfl⟩
theorem kx:FnOk Tryz.prog 16:=⟨_,Tryz.func16,by kernel_rfl,rfl⟩
theorem jkA:FnOk Tryz.prog 17:=⟨_,Tryz.func17,by kernel_rfl,rfl⟩
theorem jkc:FnOk Tryz.prog 18:=⟨_,Tryz.func18,by kernel_rfl,rfl⟩
theorem zr:FnOk Tryz.prog 19:=⟨_,Tryz.func19,by kernel_rfl,rfl⟩
theorem wv:FnOk Tryz.prog 20:=⟨_,Tryz.func20,by kernel_rfl,rfl⟩
theorem jky:FnOk Tryz.prog 21:=⟨_,Tryz.func21,by kernel_rfl,rfl⟩
theorem jlx:FnOk Tryz.prog 22:=⟨_,Tryz.func22,by kernel_rfl,rfl⟩
theorem kB:FnOk Tryz.prog 23:=⟨_,Tryz.func23,by kernel_rfl,rfl⟩
theorem jkD:FnOk Tryz.prog 24:=⟨_,Tryz.func24,by kernel_rfl,rfl⟩
theorem jle:FnOk Tryz.prog 25:=⟨_,Tryz.func25,by kernel_rfl,rfl⟩
theorem jkC:FnOk Tryz.prog 26:=⟨_,Tryz.func26,by kernel_rfl,rfl⟩
theorem jl4:FnOk Tryz.prog 27:=⟨_,Tryz.func27,by kernel_rfl,rfl⟩
theorem jkO:FnOk Tryz.prog 28:=⟨_,Tryz.func28,by kernel_rfl,rfl⟩
theorem jkx:FnOk Tryz.prog 29:=⟨_,Tryz.func29,by kernel_rfl,rfl⟩
theorem jlK:FnOk Tryz.prog 30:=⟨_,Tryz.func30,by kernel_rfl,rfl⟩
theorem jkH:FnOk Tryz.prog 31:=⟨_,Tryz.func31,by kernel_rfl,rfl⟩
theorem K8:FnOk Tryz.prog 38:=⟨_,Tryz.func38,by kernel_rfl,rfl⟩
theorem zg:FnOk Tryz.prog 39:=⟨_,Tryz.func39,by kernel_rfl,rfl⟩
theorem Wh:FnOk Tryz.prog 43:=⟨_,Tryz.func43,by kernel_rfl,rfl⟩
theorem LQ:FnOk Tryz.prog 44:=⟨_,Tryz.func44,by kernel_rfl,rfl⟩
theorem LR:FnOk Tryz.prog 49:=⟨_,Tryz.func49,by kernel_rfl,rfl⟩
theorem jmq:FnOk Tryz.prog 51:=⟨_,Tryz.func51,by kernel_rfl,rfl⟩
theorem Yz:FnOk Tryz.prog 52:=⟨_,Tryz.func52,by kernel_rfl,rfl⟩
theorem jlf:FnOk Tryz.prog 65:=⟨_,Tryz.func65,by kernel_rfl,rfl⟩
theorem jkP:FnOk Tryz.prog 67:=⟨_,Tryz.func67,by kernel_rfl,rfl⟩
theorem jl3:FnOk Tryz.prog 70:=⟨_,Tryz.func70,by kernel_rfl,rfl⟩
theorem jl2:FnOk Tryz.prog 71:=⟨_,Tryz.func71,by kernel_rfl,rfl⟩
theorem vD:FnOk Tryz.prog 73:=⟨_,Tryz.func73,by kernel_rfl,rfl⟩
theorem jkI:FnOk Tryz.prog 74:=⟨_,Tryz.func74,by kernel_rfl,rfl⟩
theorem jkQ:FnOk Tryz.prog 75:=⟨_,Tryz.func75,by kernel_rfl,rfl⟩
theorem xD:FnOk Tryz.prog 76:=⟨_,Tryz.func76,by kernel_rfl,rfl⟩
theorem jmt:FnOk Tryz.prog 77:=⟨_,Tryz.func77,by kernel_rfl,rfl⟩
theorem jkZ:FnOk Tryz.prog 78:=⟨_,Tryz.func78,by kernel_rfl,rfl⟩
theorem jm0:FnOk Tryz.prog 79:=⟨_,Tryz.func79,by kernel_rfl,rfl⟩
theorem jlL:FnOk Tryz.prog 80:=⟨_,Tryz.func80,by kernel_rfl,rfl⟩
theorem vG:FnOk Tryz.prog 81:=⟨_,Tryz.func81,by kernel_rfl,rfl⟩
theorem jl0:FnOk Tryz.prog 82:=⟨_,Tryz.func82,by kernel_rfl,rfl⟩
theorem Ug:FnOk Tryz.prog 86:=⟨_,Tryz.func86,by kernel_rfl,rfl⟩
theorem Wf:FnOk Tryz.prog 87:=⟨_,Tryz.func87,by kernel_rfl,rfl⟩
theorem KW:FnOk Tryz.prog 91:=⟨_,Tryz.func91,by kernel_rfl,rfl⟩
theorem G6:FnOk Tryz.prog 93:=⟨_,Tryz.func93,by kernel_rfl,rfl⟩
theorem xF:FnOk Tryz.prog 94:=⟨_,Tryz.func94,by kernel_rfl,rfl⟩
theorem jmx:FnOk Tryz.prog 95:=⟨_,Tryz.func95,by kernel_rfl,rfl⟩
theorem UI:FnOk Tryz.prog 96:=⟨_,Tryz.func96,by kernel_rfl,rfl⟩
theorem yU:FnOk Tryz.prog 97:=⟨_,Tryz.func97,by kernel_rfl,rfl⟩
theorem UM:FnOk Tryz.prog 98:=⟨_,Tryz.func98,by kernel_rfl,rfl⟩
theorem Ou:FnOk Tryz.prog 99:=⟨_,Tryz.func99,by kernel_rfl,rfl⟩
theorem Y3:FnOk Tryz.prog 101:=⟨_,Tryz.func101,by kernel_rfl,rfl⟩
theorem U6:FnOk Tryz.prog 102:=⟨_,Tryz.func102,by kernel_rfl,rfl⟩
theorem Ov:FnOk Tryz.prog 103:=⟨_,Tryz.func103,by kernel_rfl,rfl⟩
theorem Uf:FnOk Tryz.prog 104:=⟨_,Tryz.func104,by kernel_rfl,rfl⟩
theorem Kg:FnOk Tryz.prog 105:=⟨_,Tryz.func105,by kernel_rfl,rfl⟩
theorem Ks:FnOk Tryz.prog 106:=⟨_,Tryz.func106,by kernel_rfl,rfl⟩
theorem XK:FnOk Tryz.prog 107:=⟨_,Tryz.func107,by kernel_rfl,rfl⟩
theorem UL:FnOk Tryz.prog 108:=⟨_,Tryz.func108,by kernel_rfl,rfl⟩
theorem kM:FnOk Tryz.prog 109:=⟨_,Tryz.func109,by kernel_rfl,rfl⟩
theorem KV:FnOk Tryz.prog 110:=⟨_,Tryz.func110,by kernel_rfl,rfl⟩
theorem vH:FnOk Tryz.prog 111:=⟨_,Tryz.func111,by kernel_rfl,rfl⟩
theorem LY:FnOk Tryz.prog 115:=⟨_,Tryz.func115,by kernel_rfl,rfl⟩
theorem xB:FnOk Tryz.prog 116:=⟨_,Tryz.func116,by kernel_rfl,rfl⟩
theorem XJ:FnOk Tryz.prog 117:=⟨_,Tryz.func117,by kernel_rfl,rfl⟩
theorem jlE:FnOk Tryz.prog 121:=⟨_,Tryz.func121,by kernel_rfl,rfl⟩
theorem jmw:FnOk Tryz.prog 125:=⟨_,Tryz.func125,by kernel_rfl,rfl⟩
theorem jmv:FnOk Tryz.prog 126:=⟨_,Tryz.func126,by kernel_rfl,rfl⟩
theorem jme:FnOk Tryz.prog 127:=⟨_,Tryz.func127,by kernel_rfl,rfl⟩
theorem Oo:FnOk Tryz.prog 128:=⟨_,Tryz.func128,by kernel_rfl,rfl⟩
theorem jmW:FnOk Tryz.prog 129:=⟨_,Tryz.func129,by kernel_rfl,rfl⟩
theorem jmX:FnOk Tryz.prog 130:=⟨_,Tryz.func130,by kernel_rfl,rfl⟩
theorem jms:FnOk Tryz.prog 132:=⟨_,Tryz.func132,by kernel_rfl,rfl⟩
theorem BU:FnOk Tryz.prog 134:=⟨_,Tryz.func134,by kernel_rfl,rfl⟩
theorem XR:FnOk Tryz.prog 135:=⟨_,Tryz.func135,by kernel_rfl,rfl⟩
theorem jk7:FnOk Tryz.prog 136:=⟨_,Tryz.func136,by kernel_rfl,rfl⟩
theorem z6:FnOk Tryz.prog 137:=⟨_,Tryz.func137,by kernel_rfl,rfl⟩
theorem G8:FnOk Tryz.prog 138:=⟨_,Tryz.func138,by kernel_rfl,rfl⟩
theorem G7:FnOk Tryz.prog 139:=⟨_,Tryz.func139,by kernel_rfl,rfl⟩
theorem G9:FnOk Tryz.prog 140:=⟨_,Tryz.func140,by kernel_rfl,rfl⟩
theorem XU:FnOk Tryz.prog 141:=⟨_,Tryz.func141,by kernel_rfl,rfl⟩
theorem jmY:FnOk Tryz.prog 142:=⟨_,Tryz.func142,by kernel_rfl,rfl⟩
theorem jmu:FnOk Tryz.prog 143:=⟨_,Tryz.func143,by kernel_rfl,rfl⟩
theorem jkR:FnOk Tryz.prog 144:=⟨_,Tryz.func144,by kernel_rfl,rfl⟩
theorem jkG:FnOk Tryz.prog 145:=⟨_,Tryz.func145,by kernel_rfl,rfl⟩
theorem yV:FnOk Tryz.prog 149:=⟨_,Tryz.func149,by kernel_rfl,rfl⟩
theorem yt:FnOk Tryz.prog 150:=⟨_,Tryz.func150,by kernel_rfl,rfl⟩
theorem Qj:FnOk Tryz.prog 151:=⟨_,Tryz.func151,by kernel_rfl,rfl⟩
theorem kt:FnOk Tryz.prog 152:=⟨_,Tryz.func152,by kernel_rfl,rfl⟩
theorem zY:FnOk Tryz.prog 153:=⟨_,Tryz.func153,by kernel_rfl,rfl⟩
theorem Wg:FnOk Tryz.prog 154:=⟨_,Tryz.func154,by kernel_rfl,rfl⟩
theorem vQ:FnOk Tryz.prog 155:=⟨_,Tryz.func155,by kernel_rfl,rfl⟩
theorem vR:FnOk Tryz.prog 156:=⟨_,Tryz.func156,by kernel_rfl,rfl⟩
theorem Y1:FnOk Tryz.prog 157:=⟨_,Tryz.func157,by kernel_rfl,rfl⟩
theorem vm:FnOk Tryz.prog 158:=⟨_,Tryz.func158,by kernel_rfl,rfl⟩
theorem xC:FnOk Tryz.prog 159:=⟨_,Tryz.func159,by kernel_rfl,rfl⟩
theorem UN:FnOk Tryz.prog 160:=⟨_,Tryz.func160,by kernel_rfl,rfl⟩
theorem ZT:FnOk Tryz.prog 161:=⟨_,Tryz.func161,by kernel_rfl,rfl⟩
theorem wJ:FnOk Tryz.prog 162:=⟨_,Tryz.func162,by kernel_rfl,rfl⟩
theorem LS:FnOk Tryz.prog 163:=⟨_,Tryz.func163,by kernel_rfl,rfl⟩
theorem G1:FnOk Tryz.prog 164:=⟨_,Tryz.func164,by kernel_rfl,rfl⟩
theorem Kh:FnOk Tryz.prog 165:=⟨_,Tryz.func165,by kernel_rfl,rfl⟩
theorem WK:FnOk Tryz.prog 166:=⟨_,Tryz.func166,by kernel_rfl,rfl⟩
theorem Kz:FnOk Tryz.prog 167:=⟨_,Tryz.func167,by kernel_rfl,rfl⟩
theorem G2:FnOk Tryz.prog 168:=⟨_,Tryz.func168,by kernel_rfl,rfl⟩
theorem G3:FnOk Tryz.prog 169:=⟨_,Tryz.func169,by kernel_rfl,rfl⟩
theorem vu:FnOk Tryz.prog 170:=⟨_,Tryz.func170,by kernel_rfl,rfl⟩
theorem vt:FnOk Tryz.prog 171:=⟨_,Tryz.func171,by kernel_rfl,rfl⟩
theorem UJ:FnOk Tryz.prog 172:=⟨_,Tryz.func172,by kernel_rfl,rfl⟩
theorem WI:FnOk Tryz.prog 173:=⟨_,Tryz.func173,by kernel_rfl,rfl⟩
theorem LT:FnOk Tryz.prog 174:=⟨_,Tryz.func174,by kernel_rfl,rfl⟩
theorem Y0:FnOk Tryz.prog 175:=⟨_,Tryz.func175,by kernel_rfl,rfl⟩
theorem YZ:FnOk Tryz.prog 176:=⟨_,Tryz.func176,by kernel_rfl,rfl⟩
theorem G4:FnOk Tryz.prog 181:=⟨_,Tryz.func181,by kernel_rfl,rfl⟩
theorem jld:FnOk Tryz.prog 182:=⟨_,Tryz.func182,by kernel_rfl,rfl⟩
theorem jmZ:FnOk Tryz.prog 185:=⟨_,Tryz.func185,by kernel_rfl,rfl⟩
theorem jk1:FnOk Tryz.prog 186:=⟨_,Tryz.func186,by kernel_rfl,rfl⟩
theorem Kj:FnOk Tryz.prog 187:=⟨_,Tryz.func187,by kernel_rfl,rfl⟩
theorem XT:FnOk Tryz.prog 188:=⟨_,Tryz.func188,by kernel_rfl,rfl⟩
theorem XW:FnOk Tryz.prog 189:=⟨_,Tryz.func189,by kernel_rfl,rfl⟩
theorem L3:FnOk Tryz.prog 190:=⟨_,Tryz.func190,by kernel_rfl,rfl⟩
theorem XV:FnOk Tryz.prog 191:=⟨_,Tryz.func191,by kernel_rfl,rfl⟩
theorem Y6:FnOk Tryz.prog 192:=⟨_,Tryz.func192,by kernel_rfl,rfl⟩
theorem U7:FnOk Tryz.prog 193:=⟨_,Tryz.func193,by kernel_rfl,rfl⟩
theorem jkS:FnOk Tryz.prog 194:=⟨_,Tryz.func194,by kernel_rfl,rfl⟩
theorem jmr:FnOk Tryz.prog 195:=⟨_,Tryz.func195,by kernel_rfl,rfl⟩
theorem XM:FnOk Tryz.prog 196:=⟨_,Tryz.func196,by kernel_rfl,rfl⟩
theorem Oq:FnOk Tryz.prog 199:=⟨_,Tryz.func199,by kernel_rfl,rfl⟩
theorem LZ:FnOk Tryz.prog 200:=⟨_,Tryz.func200,by kernel_rfl,rfl⟩
theorem wg:FnOk Tryz.prog 201:=⟨_,Tryz.func201,by kernel_rfl,rfl⟩
theorem Q6:FnOk Tryz.prog 202:=⟨_,Tryz.func202,by kernel_rfl,rfl⟩
theorem KD:FnOk Tryz.prog 203:=⟨_,Tryz.func203,by kernel_rfl,rfl⟩
theorem WL:FnOk Tryz.prog 204:=⟨_,Tryz.func204,by kernel_rfl,rfl⟩
theorem ur:FnOk Tryz.prog 205:=⟨_,Tryz.func205,by kernel_rfl,rfl⟩
theorem WJ:FnOk Tryz.prog 206:=⟨_,Tryz.func206,by kernel_rfl,rfl⟩
theorem VH:FnOk Tryz.prog 207:=⟨_,Tryz.func207,by kernel_rfl,rfl⟩
theorem G0:FnOk Tryz.prog 211:=⟨_,Tryz.func211,by kernel_rfl,rfl⟩
theorem KO:FnOk Tryz.prog 212:=⟨_,Tryz.func212,by kernel_rfl,rfl⟩
theorem UK:FnOk Tryz.prog 213:=⟨_,Tryz.func213,by kernel_rfl,rfl⟩
theorem XL:FnOk Tryz.prog 214:=⟨_,Tryz.func214,by kernel_rfl,rfl⟩
theorem Ke:FnOk Tryz.prog 215:=⟨_,Tryz.func215,by kernel_rfl,rfl⟩
theorem Vf:FnOk Tryz.prog 216:=⟨_,Tryz.func216,by kernel_rfl,rfl⟩
theorem vr:FnOk Tryz.prog 217:=⟨_,Tryz.func217,by kernel_rfl,rfl⟩
theorem wI:FnOk Tryz.prog 218:=⟨_,Tryz.func218,by kernel_rfl,rfl⟩
theorem vd:FnOk Tryz.prog 219:=⟨_,Tryz.func219,by kernel_rfl,rfl⟩
theorem kJ:FnOk Tryz.prog 220:=⟨_,Tryz.func220,by kernel_rfl,rfl⟩
theorem W9:FnOk Tryz.prog 221:=⟨_,Tryz.func221,by kernel_rfl,rfl⟩
theorem kT:FnOk Tryz.prog 222:=⟨_,Tryz.func222,by kernel_rfl,rfl⟩
theorem kY:FnOk Tryz.prog 224:=⟨_,Tryz.func224,by kernel_rfl,rfl⟩
theorem jk0:FnOk Tryz.prog 232:=⟨_,Tryz.func232,by kernel_rfl,rfl⟩
theorem jki:FnOk Tryz.prog 233:=⟨_,Tryz.func233,by kernel_rfl,rfl⟩
theorem Ot:FnOk Tryz.prog 240:=⟨_,Tryz.func240,by kernel_rfl,rfl⟩
theorem WN:FnOk Tryz.prog 241:=⟨_,Tryz.func241,by kernel_rfl,rfl⟩
theorem yT:FnOk Tryz.prog 242:=⟨_,Tryz.func242,by kernel_rfl,rfl⟩
theorem xE:FnOk Tryz.prog 243:=⟨_,Tryz.func243,by kernel_rfl,rfl⟩
theorem U8:FnOk Tryz.prog 244:=⟨_,Tryz.func244,by kernel_rfl,rfl⟩
theorem jkb:FnOk Tryz.prog 245:=⟨_,Tryz.func245,by kernel_rfl,rfl⟩
theorem jl1:FnOk Tryz.prog 246:=⟨_,Tryz.func246,by kernel_rfl,rfl⟩
theorem zZ:FnOk Tryz.prog 247:=⟨_,Tryz.func247,by kernel_rfl,rfl⟩
theorem LX:FnOk Tryz.prog 249:=⟨_,Tryz.func249,by kernel_rfl,rfl⟩
theorem VV:FnOk Tryz.prog 251:=⟨_,Tryz.func251,by kernel_rfl,rfl⟩
theorem wH:FnOk Tryz.prog 261:=⟨_,Tryz.func261,by kernel_rfl,rfl⟩
theorem Ki:FnOk Tryz.prog 262:=⟨_,Tryz.func262,by kernel_rfl,rfl⟩
theorem WA:FnOk Tryz.prog 263:=⟨_,Tryz.func263,by kernel_rfl,rfl⟩
theorem QC:FnOk Tryz.prog 264:=⟨_,Tryz.func264,by kernel_rfl,rfl⟩
theorem Qo:FnOk Tryz.prog 265:=⟨_,Tryz.func265,by kernel_rfl,rfl⟩
theorem WM:FnOk Tryz.prog 271:=⟨_,Tryz.func271,by kernel_rfl,rfl⟩
theorem jke:FnOk Tryz.prog 272:=⟨_,Tryz.func272,by kernel_rfl,rfl⟩
theorem XQ:FnOk Tryz.prog 273:=⟨_,Tryz.func273,by kernel_rfl,rfl⟩
theorem XS:FnOk Tryz.prog 274:=⟨_,Tryz.func274,by kernel_rfl,rfl⟩
theorem Ql:FnOk Tryz.prog 280:=⟨_,Tryz.func280,by kernel_rfl,rfl⟩
theorem q5:FnOk Tryz.prog 281:=⟨_,Tryz.func281,by kernel_rfl,rfl⟩
theorem WB:FnOk Tryz.prog 282:=⟨_,Tryz.func282,by kernel_rfl,rfl⟩
theorem VM:FnOk Tryz.prog 283:=⟨_,Tryz.func283,by kernel_rfl,rfl⟩
theorem Y2:FnOk Tryz.prog 291:=⟨_,Tryz.func291,by kernel_rfl,rfl⟩
theorem Y4:FnOk Tryz.prog 292:=⟨_,Tryz.func292,by kernel_rfl,rfl⟩
theorem Y5:FnOk Tryz.prog 293:=⟨_,Tryz.func293,by kernel_rfl,rfl⟩
theorem we:FnOk Tryz.prog 295:=⟨_,Tryz.func295,by kernel_rfl,rfl⟩
theorem QV:FnOk Tryz.prog 296:=⟨_,Tryz.func296,by kernel_rfl,rfl⟩
theorem QD:FnOk Tryz.prog 300:=⟨_,Tryz.func300,by kernel_rfl,rfl⟩
theorem qg (w:World) : (Instr.build 26 #[]).run Tryz.prog w= .ok (.agg #[.slice none 0 0]) w:=by
 rw [QM]
 simp only [jiD,jiA,jiM]
 simp [Instr.build,Instr.fill,go_sem]
theorem Xa {v0 a0_0:Value} (h0:v0.cells= #[a0_0]) (w:World) : (Instr.build 26 #[(0,v0)]).run Tryz.prog w= .ok (.agg #[a0_0]) w:=by
 rw [QM]
 simp only [jiD,jiA,jiM,h0]
 simp [Instr.build,Instr.fill,go_sem]
theorem Yl (w:World) : (Instr.build 56 #[]).run Tryz.prog w= .ok (.agg #[.int .i64 0, .int .i64 0]) w:=by
 rw [QM]
 simp only [jiD,jiA,jiM]
 simp [Instr.build,Instr.fill,go_sem]
theorem q8 {v0 a0_0:Value} (h0:v0.cells= #[a0_0]) {v1 a1_0:Value} (h1:v1.cells= #[a1_0]) (w:World) : (Instr.build 56 #[(0,v0),(1,v1)]).run Tryz.prog w= .ok (.agg #[a0_0,a1_0]) w:=by
 rw [QM]
 simp only [jiD,jiA,jiM,h0,h1]
 simp [Instr.build,Instr.fill,go_sem]
theorem vJ (w:World) : (Instr.build 77 #[]).run Tryz.prog w= .ok (.agg #[.slice none 0 0]) w:=by
 rw [QM]
 simp only [jiD,jiA,jiM]
 simp [Instr.build,Instr.fill,go_sem]
theorem Vs {v0 a0_0:Value} (h0:v0.cells= #[a0_0]) (w:World) : (Instr.build 77 #[(0,v0)]).run Tryz.prog w= .ok (.agg #[a0_0]) w:=by
 rw [QM]
 simp only [jiD,jiA,jiM,h0]
 simp [Instr.build,Instr.fill,go_sem]
theorem uC {v0 a0_0 a0_1:Value} (h0:v0.cells= #[a0_0,a0_1]) {v1 a1_0 a1_1:Value} (h1:v1.cells= #[a1_0,a1_1]) (w:World) : (Instr.build 120 #[(0,v0),(1,v1)]).run Tryz.prog w= .ok (.agg #[a0_0,a0_1,a1_0,a1_1]) w:=by
 rw [QM]
 simp only [jiD,jiA,jiM,h0,h1]
 simp [Instr.build,Instr.fill,go_sem]
theorem yD {v0 a0_0 a0_1:Value} (h0:v0.cells= #[a0_0,a0_1]) {v1 a1_0 a1_1:Value} (h1:v1.cells= #[a1_0,a1_1]) (w:World) : (Instr.build 131 #[(0,v0),(1,v1)]).run Tryz.prog w= .ok (.agg #[a0_0,a0_1,a1_0,a1_1]) w:=by
 rw [QM]
 simp only [jiD,jiA,jiM,h0,h1]
 simp [Instr.build,Instr.fill,go_sem]
theorem zy {v0 a0_0 a0_1:Value} (h0:v0.cells= #[a0_0,a0_1]) {v1 a1_0 a1_1:Value} (h1:v1.cells= #[a1_0,a1_1]) (w:World) : (Instr.build 203 #[(0,v0),(1,v1)]).run Tryz.prog w= .ok (.agg #[a0_0,a0_1,a1_0,a1_1, .int .i64 0, .int .i64 0, .int .i64 0]) w:=by
 rw [QM]
 simp only [jiD,jiA,jiM,h0,h1]
 simp [Instr.build,Instr.fill,go_sem]
theorem Xc {v0 a0_0 a0_1 a0_2 a0_3:Value} (h0:v0.cells= #[a0_0,a0_1,a0_2,a0_3]) (w:World) : (Instr.build 212 #[(0,v0)]).run Tryz.prog w= .ok (.agg #[a0_0,a0_1,a0_2,a0_3, .int .i64 0, .int .i64 0, .int .i64 0, .int .i64 0]) w:=by
 rw [QM]
 simp only [jiD,jiA,jiM,h0]
 simp [Instr.build,Instr.fill,go_sem]
theorem kh {v0 a0_0:Value} (h0:v0.cells= #[a0_0]) {v1 a1_0:Value} (h1:v1.cells= #[a1_0]) {v2 a2_0:Value} (h2:v2.cells= #[a2_0]) (w:World) : (Instr.build 232 #[(0,v0),(1,v1),(2,v2)]).run Tryz.prog w= .ok (.agg #[a0_0,a1_0,a2_0]) w:=by
 rw [QM]
 simp only [jiD,jiA,jiM,h0,h1,h2]
 simp [Instr.build,Instr.fill,go_sem]
theorem Ym {v0 a0_0 a0_1 a0_2:Value} (h0:v0.cells= #[a0_0,a0_1,a0_2]) {v1 a1_0 a1_1 a1_2:Value} (h1:v1.cells= #[a1_0,a1_1,a1_2]) (w:World) : (Instr.build 234 #[(0,v0),(1,v1)]).run Tryz.prog w= .ok (.agg #[a0_0,a0_1,a0_2,a1_0,a1_1,a1_2]) w:=by
 rw [QM]
 simp only [jiD,jiA,jiM,h0,h1]
 simp [Instr.build,Instr.fill,go_sem]
theorem Y9 {v0 a0_0 a0_1:Value} (h0:v0.cells= #[a0_0,a0_1]) {v1 a1_0 a1_1 a1_2:Value} (h1:v1.cells= #[a1_0,a1_1,a1_2]) (w:World) : (Instr.build 238 #[(0,v0),(1,v1)]).run Tryz.prog w= .ok (.agg #[a0_0,a0_1,a1_0,a1_1,a1_2]) w:=by
 rw [QM]
 simp only [jiD,jiA,jiM,h0,h1]
 simp [Instr.build,Instr.fill,go_sem]
theorem UA {v0 a0_0:Value} (h0:v0.cells= #[a0_0]) {v1 a1_0:Value} (h1:v1.cells= #[a1_0]) {v2 a2_0:Value} (h2:v2.cells= #[a2_0]) {v3 a3_0:Value} (h3:v3.cells= #[a3_0]) {v4 a4_0:Value} (h4:v4.cells= #[a4_0]) (w:World) : (Instr.build 283 #[(0,v0),(1,v1),(2,v2),(3,v3),(4,v4)]).run Tryz.prog w= .ok (.agg #[a0_0,a1_0,a2_0,a3_0,a4_0, .bool false]) w:=by
 rw [QM]
 simp only [jiD,jiA,jiM,h0,h1,h2,h3,h4]
 simp [Instr.build,Instr.fill,go_sem]
theorem Vt {v0 a0_0:Value} (h0:v0.cells= #[a0_0]) {v1 a1_0:Value} (h1:v1.cells= #[a1_0]) {v2 a2_0:Value} (h2:v2.cells= #[a2_0]) {v3 a3_0:Value} (h3:v3.cells= #[a3_0]) {v4 a4_0:Value} (h4:v4.cells= #[a4_0]) {v5 a5_0:Value} (h5:v5.cells= #[a5_0]) (w:World) : (Instr.build 283 #[(0,v0),(1,v1),(2,v2),(3,v3),(4,v4),(5,v5)]).run Tryz.prog w= .ok (.agg #[a0_0,a1_0,a2_0,a3_0,a4_0,a5_0]) w:=by
 rw [QM]
 simp only [jiD,jiA,jiM,h0,h1,h2,h3,h4,h5]
 simp [Instr.build,Instr.fill,go_sem]
theorem UB {v0 a0_0:Value} (h0:v0.cells= #[a0_0]) {v1 a1_0:Value} (h1:v1.cells= #[a1_0]) {v2 a2_0:Value} (h2:v2.cells= #[a2_0]) {v3 a3_0:Value} (h3:v3.cells= #[a3_0]) {v4 a4_0:Value} (h4:v4.cells= #[a4_0]) (w:World) : (Instr.build 283 #[(0,v0),(1,v1),(2,v2),(3,v3),(5,v4)]).run Tryz.prog w= .ok (.agg #[a0_0,a1_0,a2_0,a3_0, .bool false,a4_0]) w:=by
 rw [QM]
 simp only [jiD,jiA,jiM,h0,h1,h2,h3,h4]
 simp [Instr.build,Instr.fill,go_sem]
theorem zB {v0 a0_0 a0_1:Value} (h0:v0.cells= #[a0_0,a0_1]) {v1 a1_0 a1_1 a1_2 a1_3 a1_4 a1_5:Value} (h1:v1.cells= #[a1_0,a1_1,a1_2,a1_3,a1_4,a1_5]) (w:World) : (Instr.build 289 #[(0,v0),(1,v1)]).run Tryz.prog w= .ok (.agg #[a0_0,a0_1,a1_0,a1_1,a1_2,a1_3,a1_4,a1_5]) w:=by
 rw [QM]
 simp only [jiD,jiA,jiM,h0,h1]
 simp [Instr.build,Instr.fill,go_sem]
theorem Wb (w:World) : (Instr.buildSlice 24 0 #[]).run Tryz.prog w= .ok (.slice (some ⟨w.heap.size,0,none⟩) 0 0) (w.alloc (.cells [].toArray 77)) :=by
 rw [qB]
 simp only [jiD,jiA,jiM]
 simp [Instr.buildSlice,Instr.fill,go_sem]
theorem qH {v0 a0_0:Value} (h0:v0.cells= #[a0_0]) (w:World) : (Instr.buildSlice 24 1 #[(0,v0)]).run Tryz.prog w= .ok (.slice (some ⟨w.heap.size,0,none⟩) 1 1) (w.alloc (.cells [a0_0].toArray 77)) :=by
 rw [qB]
 simp only [jiD,jiA,jiM,h0]
 simp [Instr.buildSlice,Instr.fill,go_sem]
theorem vK (w:World) : (Instr.buildSlice 29 0 #[]).run Tryz.prog w= .ok (.slice (some ⟨w.heap.size,0,none⟩) 0 0) (w.alloc (.cells [].toArray 56)) :=by
 rw [qB]
 simp only [jiD,jiA,jiM]
 simp [Instr.buildSlice,Instr.fill,go_sem]
theorem qM {v0 a0_0 a0_1:Value} (h0:v0.cells= #[a0_0,a0_1]) (w:World) : (Instr.buildSlice 29 1 #[(0,v0)]).run Tryz.prog w= .ok (.slice (some ⟨w.heap.size,0,none⟩) 1 1) (w.alloc (.cells [a0_0,a0_1].toArray 56)) :=by
 rw [qB]
 simp only [jiD,jiA,jiM,h0]
 simp [Instr.buildSlice,Instr.fill,go_sem]
theorem VO {v0 a0_0 a0_1:Value} (h0:v0.cells= #[a0_0,a0_1]) {v1 a1_0 a1_1:Value} (h1:v1.cells= #[a1_0,a1_1]) (w:World) : (Instr.buildSlice 29 2 #[(0,v0),(1,v1)]).run Tryz.prog w= .ok (.slice (some ⟨w.heap.size,0,none⟩) 2 2) (w.alloc (.cells [a0_0,a0_1,a1_0,a1_1].toArray 56)) :=by
 rw [qB]
 simp only [jiD,jiA,jiM,h0,h1]
 simp [Instr.buildSlice,Instr.fill,go_sem]
theorem vy {v0 a0_0 a0_1:Value} (h0:v0.cells= #[a0_0,a0_1]) {v1 a1_0 a1_1:Value} (h1:v1.cells= #[a1_0,a1_1]) {v2 a2_0 a2_1:Value} (h2:v2.cells= #[a2_0,a2_1]) {v3 a3_0 a3_1:Value} (h3:v3.cells= #[a3_0,a3_1]) (w:World) : (Instr.buildSlice 29 4 #[(0,v0),(1,v1),(2,v2),(3,v3)]).run Tryz.prog w= .ok (.slice (some ⟨w.heap.size,0,none⟩) 4 4) (w.alloc (.cells [a0_0,a0_1,a1_0,a1_1,a2_0,a2_1,a3_0,a3_1].toArray 56)) :=by
 rw [qB]
 simp only [jiD,jiA,jiM,h0,h1,h2,h3]
 simp [Instr.buildSlice,Instr.fill,go_sem]
theorem jmH (w:World) : (Instr.buildSlice 43 0 #[]).run Tryz.prog w= .ok (.slice (some ⟨w.heap.size,0,none⟩) 0 0) (w.alloc (.cells [].toArray 2)) :=by
 rw [qB]
 simp only [jiD,jiA,jiM]
 simp [Instr.buildSlice,Instr.fill,go_sem]
theorem jkV {v0 a0_0:Value} (h0:v0.cells= #[a0_0]) (w:World) : (Instr.buildSlice 43 1 #[(0,v0)]).run Tryz.prog w= .ok (.slice (some ⟨w.heap.size,0,none⟩) 1 1) (w.alloc (.cells [a0_0].toArray 2)) :=by
 rw [qB]
 simp only [jiD,jiA,jiM,h0]
 simp [Instr.buildSlice,Instr.fill,go_sem]
theorem Kx {v0 a0_0 a0_1 a0_2 a0_3:Value} (h0:v0.cells= #[a0_0,a0_1,a0_2,a0_3]) (w:World) : (Instr.buildSlice 106 1 #[(0,v0)]).run Tryz.prog w= .ok (.slice (some ⟨w.heap.size,0,none⟩) 1 1) (w.alloc (.cells [a0_0,a0_1,a0_2,a0_3].toArray 131)) :=by
 rw [qB]
 simp only [jiD,jiA,jiM,h0]
 simp [Instr.buildSlice,Instr.fill,go_sem]
theorem zb (w:World) : (Instr.buildSlice 113 0 #[]).run Tryz.prog w= .ok (.slice (some ⟨w.heap.size,0,none⟩) 0 0) (w.alloc (.cells [].toArray 120)) :=by
 rw [qB]
 simp only [jiD,jiA,jiM]
 simp [Instr.buildSlice,Instr.fill,go_sem]
theorem Wm {v0 a0_0 a0_1 a0_2 a0_3:Value} (h0:v0.cells= #[a0_0,a0_1,a0_2,a0_3]) (w:World) : (Instr.buildSlice 113 1 #[(0,v0)]).run Tryz.prog w= .ok (.slice (some ⟨w.heap.size,0,none⟩) 1 1) (w.alloc (.cells [a0_0,a0_1,a0_2,a0_3].toArray 120)) :=by
 rw [qB]
 simp only [jiD,jiA,jiM,h0]
 simp [Instr.buildSlice,Instr.fill,go_sem]
theorem zD (w:World) : (Instr.buildSlice 163 0 #[]).run Tryz.prog w= .ok (.slice (some ⟨w.heap.size,0,none⟩) 0 0) (w.alloc (.cells [].toArray 212)) :=by
 rw [qB]
 simp only [jiD,jiA,jiM]
 simp [Instr.buildSlice,Instr.fill,go_sem]
theorem Yn {v0 a0_0 a0_1 a0_2 a0_3 a0_4 a0_5 a0_6 a0_7:Value} (h0:v0.cells= #[a0_0,a0_1,a0_2,a0_3,a0_4,a0_5,a0_6,a0_7]) (w:World) : (Instr.buildSlice 163 1 #[(0,v0)]).run Tryz.prog w= .ok (.slice (some ⟨w.heap.size,0,none⟩) 1 1) (w.alloc (.cells [a0_0,a0_1,a0_2,a0_3,a0_4,a0_5,a0_6,a0_7].toArray 212)) :=by
 rw [qB]
 simp only [jiD,jiA,jiM,h0]
 simp [Instr.buildSlice,Instr.fill,go_sem]
theorem wB {v0 a0_0:Value} (h0:v0.cells= #[a0_0]) {v1 a1_0:Value} (h1:v1.cells= #[a1_0]) (w:World) : (Instr.buildSlice 186 2 #[(0,v0),(1,v1)]).run Tryz.prog w= .ok (.slice (some ⟨w.heap.size,0,none⟩) 2 2) (w.alloc (.cells [a0_0,a1_0].toArray 106)) :=by
 rw [qB]
 simp only [jiD,jiA,jiM,h0,h1]
 simp [Instr.buildSlice,Instr.fill,go_sem]
theorem MJ {v0 a0_0:Value} (h0:v0.cells= #[a0_0]) (w:World) : (Instr.buildSlice 198 1 #[(0,v0)]).run Tryz.prog w= .ok (.slice (some ⟨w.heap.size,0,none⟩) 1 1) (w.alloc (.cells [a0_0].toArray 3)) :=by
 rw [qB]
 simp only [jiD,jiA,jiM,h0]
 simp [Instr.buildSlice,Instr.fill,go_sem]
theorem yj {v0 a0_0 a0_1 a0_2 a0_3 a0_4:Value} (h0:v0.cells= #[a0_0,a0_1,a0_2,a0_3,a0_4]) (w:World) : (Instr.buildSlice 230 1 #[(0,v0)]).run Tryz.prog w= .ok (.slice (some ⟨w.heap.size,0,none⟩) 1 1) (w.alloc (.cells [a0_0,a0_1,a0_2,a0_3,a0_4].toArray 238)) :=by
 rw [qB]
 simp only [jiD,jiA,jiM,h0]
 simp [Instr.buildSlice,Instr.fill,go_sem]
theorem yE {v0 a0_0:Value} (h0:v0.cells= #[a0_0]) {v1 a1_0:Value} (h1:v1.cells= #[a1_0]) (w:World) : (Instr.buildSlice 273 2 #[(0,v0),(1,v1)]).run Tryz.prog w= .ok (.slice (some ⟨w.heap.size,0,none⟩) 2 2) (w.alloc (.cells [a0_0,a1_0].toArray 29)) :=by
 rw [qB]
 simp only [jiD,jiA,jiM,h0,h1]
 simp [Instr.buildSlice,Instr.fill,go_sem]
theorem W8 (w:World) : (Instr.buildSlice 281 0 #[]).run Tryz.prog w= .ok (.slice (some ⟨w.heap.size,0,none⟩) 0 0) (w.alloc (.cells [].toArray 289)) :=by
 rw [qB]
 simp only [jiD,jiA,jiM]
 simp [Instr.buildSlice,Instr.fill,go_sem]
theorem yF {v0 a0_0 a0_1 a0_2 a0_3 a0_4 a0_5 a0_6 a0_7:Value} (h0:v0.cells= #[a0_0,a0_1,a0_2,a0_3,a0_4,a0_5,a0_6,a0_7]) (w:World) : (Instr.buildSlice 281 1 #[(0,v0)]).run Tryz.prog w= .ok (.slice (some ⟨w.heap.size,0,none⟩) 1 1) (w.alloc (.cells [a0_0,a0_1,a0_2,a0_3,a0_4,a0_5,a0_6,a0_7].toArray 289)) :=by
 rw [qB]
 simp only [jiD,jiA,jiM,h0]
 simp [Instr.buildSlice,Instr.fill,go_sem]
theorem Qv {o:Oper} {n:Nat} {env:List (Nat×Value)} {w0:Bs} {Rs:List Res} {x y:Operand} {T':TypeId} {a0 a1 b0 b1:Int} (ho:o.op= .binOp .eql 56 x y T') (hx:ev env x=some (.agg #[.int .i64 a0, .int .i64 a1])) (hy:ev env y=some (.agg #[.int .i64 b0, .int .i64 b1])) :Qt Tryz.prog o n env w0 Rs (.bool ((a0==b0) && (a1==b1))) :=
 Q9 fun a w hF _=>by
  unfold execOp;simp only [ho,hF.ev hx,hF.ev hy]
  cases h0: (a0==b0);all_goals cases h1: (a1==b1)
  all_goals simp [go_sem, *]
theorem QL {o:Oper} {n:Nat} {env:List (Nat×Value)} {w0:Bs} {Rs:List Res} {x y:Operand} {T':TypeId} {a0 a1 b0 b1:Int} (ho:o.op= .binOp .neq 56 x y T') (hx:ev env x=some (.agg #[.int .i64 a0, .int .i64 a1])) (hy:ev env y=some (.agg #[.int .i64 b0, .int .i64 b1])) :Qt Tryz.prog o n env w0 Rs (.bool (!((a0==b0) && (a1==b1)))) :=
 Q9 fun a w hF _=>by
  unfold execOp;simp only [ho,hF.ev hx,hF.ev hy]
  cases h0: (a0==b0);all_goals cases h1: (a1==b1)
  all_goals simp [go_sem, *]
theorem Zf {o:Oper} {n:Nat} {env:List (Nat×Value)} {w0:Bs} {Rs:List Res} {x y:Operand} {T':TypeId} {a0 a1 a2 a3 b0 b1 b2 b3:Int} (ho:o.op= .binOp .neq 120 x y T') (hx:ev env x=some (.agg #[.int .i64 a0, .int .i64 a1, .int .i64 a2, .int .i64 a3])) (hy:ev env y=some (.agg #[.int .i64 b0, .int .i64 b1, .int .i64 b2, .int .i64 b3])) :Qt Tryz.prog o n env w0 Rs (.bool (!((a0==b0) && (a1==b1) && (a2==b2) && (a3==b3)))) :=
 Q9 fun a w hF _=>by
  unfold execOp;simp only [ho,hF.ev hx,hF.ev hy]
  cases h0: (a0==b0);all_goals cases h1: (a1==b1);all_goals cases h2: (a2==b2);all_goals cases h3: (a3==b3)
  all_goals simp [go_sem, *]
theorem uv {o:Oper} {n:Nat} {env:List (Nat×Value)} {w0:Bs} {Rs:List Res} {x y:Operand} {T':TypeId} {a0 a1 a2 a3 b0 b1 b2 b3:Int} (ho:o.op= .binOp .eql 131 x y T') (hx:ev env x=some (.agg #[.int .i64 a0, .int .i64 a1, .int .i64 a2, .int .i64 a3])) (hy:ev env y=some (.agg #[.int .i64 b0, .int .i64 b1, .int .i64 b2, .int .i64 b3])) :Qt Tryz.prog o n env w0 Rs (.bool ((a0==b0) && (a1==b1) && (a2==b2) && (a3==b3))) :=
 Q9 fun a w hF _=>by
  unfold execOp;simp only [ho,hF.ev hx,hF.ev hy]
  cases h0: (a0==b0);all_goals cases h1: (a1==b1);all_goals cases h2: (a2==b2);all_goals cases h3: (a3==b3)
  all_goals simp [go_sem, *]
theorem Hj {o:Oper} {n:Nat} {env:List (Nat×Value)} {w0:Bs} {Rs:List Res} {x y:Operand} {T':TypeId} {a0 a1 a2 a3 b0 b1 b2 b3:Int} (ho:o.op= .binOp .neq 131 x y T') (hx:ev env x=some (.agg #[.int .i64 a0, .int .i64 a1, .int .i64 a2, .int .i64 a3])) (hy:ev env y=some (.agg #[.int .i64 b0, .int .i64 b1, .int .i64 b2, .int .i64 b3])) :Qt Tryz.prog o n env w0 Rs (.bool (!((a0==b0) && (a1==b1) && (a2==b2) && (a3==b3)))) :=
 Q9 fun a w hF _=>by
  unfold execOp;simp only [ho,hF.ev hx,hF.ev hy]
  cases h0: (a0==b0);all_goals cases h1: (a1==b1);all_goals cases h2: (a2==b2);all_goals cases h3: (a3==b3)
  all_goals simp [go_sem, *]
theorem mixed:Tryz.prog.follows .mixedOrders=true:=by kernel_rfl
theorem tzA {p:Prop} (h:p:=by first|exact jr|exact jH|exact Jw|exact J9|exact qn|exact QQ|exact QP|exact kd|exact Kb|exact ku|exact K7|exact Qc) :p:=h
section
variable {P:Program} {n:Nat} {env:List (Nat×Value)} {w0:Bs} {Rs:List Res} {ops:Array Oper} {Q:Exit→Act→World→Prop} {K:Act→World→Prop} {o:Oper}
theorem qlS {T:TypeId} {m:Nat} {x:Operand} {b off:Nat} {cs:List Value} (ho:o.op= .load T x) (hx:ev env x=some (.pointer (some ⟨b,off,none⟩))) (hT:TyS P T m) (hc:∀w,St w0 Rs w→∀j v,cs[j]? =some v→w.cell? ⟨b,off+j,none⟩ =some v) (hl:cs.length=m) :Qt P o n env w0 Rs (.agg cs.toArray) :=jk ho hx hT hl hc
def pqV (env:List (Nat×Value)) :Op→Option Value
  | .move x=>ev env x
  | .assign x=>ev env x
  | .nilCheck x=>match ev env x with
    | some (.pointer (some p)) =>some (.pointer (some p))
    | _=>none
  | .extract x i=>match ev env x with
    | some (.tuple vs) =>vs.toList[i]?
    | _=>none
  | .pick c x y=>match ev env c with
    | some (.bool true) =>ev env x
    | some (.bool false) =>ev env y
    | _=>none
  | .binOp b _ x y _=>match ev env x,ev env y with
    | some (.int .i64 p),some (.int .i64 q) =>match b with
      | .lss=>some (.bool (decide (p<q)))
      | .leq=>some (.bool (decide (p≤q)))
      | .gtr=>some (.bool (decide (q<p)))
      | .geq=>some (.bool (decide (q≤p)))
      | .eql=>some (.bool (p==q))
      | .neq=>some (.bool (!(p==q)))
      | _=>none
    | _,_=>none
  | .unOp .not _ x=>match ev env x with
    | some (.bool p) =>some (.bool (!p))
    | _=>none
  | _=>none
theorem jie {v:Value} (h:pqV env o.op=some v) :Qt P o n env w0 Rs v:=by
 unfold pqV at h
 split at h
 ·rename_i x ho;exact ja ho h
 ·rename_i x ho;exact jd ho h
 ·rename_i x ho
  split at h
  ·rename_i p hx;injection h with h;subst h;exact jJ ho hx
  ·cases h
 ·rename_i x i ho
  split at h
  ·rename_i vs hx;exact JI (vs:=vs.toList) ho hx h
  ·cases h
 ·rename_i c x y ho
  split at h
  ·rename_i hc;exact jW ho hc h
  ·rename_i hc;exact jL ho hc h
  ·cases h
 ·rename_i b T x y T' ho
  split at h
  ·rename_i p q hx hy
   split at h
   ·injection h with h;subst h;exact Ju ho hx hy
   ·injection h with h;subst h;exact kv ho hx hy
   ·injection h with h;subst h;exact Qa ho hx hy
   ·injection h with h;subst h;exact YC ho hx hy
   ·injection h with h;subst h;exact qF ho hx hy
   ·injection h with h;subst h;exact qa ho hx hy
   ·cases h
  ·cases h
 ·rename_i T x ho
  split at h
  ·rename_i p hx;injection h with h;subst h;exact qS ho hx
  ·cases h
 ·cases h
end
section
variable {P:Program} {n:Nat} {env:List (Nat×Value)} {w0:Bs} {Rs:List Res} {ops:Array Oper} {Q:Exit→Act→World→Prop} {K:Act→World→Prop} {o:Oper}
theorem jA {T U m:Nat} {x y:Operand} {b:Nat} {cs vs:List Value} {v:Value} (k:Nat) (h:At n env w0 (Rs.set k (.cel b U vs)) K) (ho:o.op= .store T x y:=by exact rfl) (hd:o.dst=none:=by exact rfl) (hx:ev env x=some (.pointer (some ⟨b,0,none⟩)) :=by exact rfl) (hk:Rs[k]? =some (.cel b U cs) :=by exact rfl) (hz: (P.info? T).map (·.size) =some m:=by exact TyZ.szx tzA) (hy:ev env y=some v:=by exact rfl) (hv:v.cells=vs.toArray:=by exact rfl) (h1:vs.all (·.oneCell') =true:=by rfl) (hm:vs.length=m:=by exact rfl) (hl:cs.length=m:=by exact rfl) :At n env w0 Rs (fun a w=>o.wp P a w K Q) :=j9 k hz h ho hd hx hy hv h1 hm hk hl
end
theorem qA9 {p:Prop} (h:p:=by first|exact jie rfl|exact qlS rfl rfl (by first|exact jj|exact jG|exact JM|exact qb|exact QK|exact qG|exact qr|exact wn|exact Vo|exact KQ) (by first|exact jY (k:=0) rfl|exact jY (k:=1) rfl|exact jY (k:=2) rfl|exact jY (k:=3) rfl|exact jY (k:=4) rfl|exact jY (k:=5) rfl|exact jY (k:=6) rfl|exact jY (k:=7) rfl|exact jY (k:=8) rfl|exact jY (k:=9) rfl) (by rfl)|exact qlS rfl rfl (by first|exact jj|exact jG|exact JM|exact qb|exact QK|exact qG|exact qr|exact wn|exact Vo|exact KQ) (by first|exact Yg (k:=0) rfl rfl rfl|exact Yg (k:=1) rfl rfl rfl|exact Yg (k:=2) rfl rfl rfl|exact Yg (k:=3) rfl rfl rfl|exact Yg (k:=4) rfl rfl rfl|exact Yg (k:=5) rfl rfl rfl|exact Yg (k:=6) rfl rfl rfl|exact Yg (k:=7) rfl rfl rfl|exact Yg (k:=8) rfl rfl rfl|exact Yg (k:=9) rfl rfl rfl) (by rfl)|exact qlS rfl rfl (by first|exact jj|exact jG|exact JM|exact qb|exact QK|exact qG|exact qr|exact wn|exact Vo|exact KQ) (by first|exact rd3 (k:=0) rfl rfl rfl rfl|exact rd3 (k:=1) rfl rfl rfl rfl|exact rd3 (k:=2) rfl rfl rfl rfl|exact rd3 (k:=3) rfl rfl rfl rfl|exact rd3 (k:=4) rfl rfl rfl rfl|exact rd3 (k:=5) rfl rfl rfl rfl|exact rd3 (k:=6) rfl rfl rfl rfl|exact rd3 (k:=7) rfl rfl rfl rfl|exact rd3 (k:=8) rfl rfl rfl rfl|exact rd3 (k:=9) rfl rfl rfl rfl) (by rfl)|exact jn rfl rfl (by first|exact jt|exact JR|exact JG|exact QT|exact jmi) (by first|exact qo (k:=0) rfl rfl|exact qo (k:=1) rfl rfl|exact qo (k:=2) rfl rfl|exact qo (k:=3) rfl rfl|exact qo (k:=4) rfl rfl|exact qo (k:=5) rfl rfl|exact qo (k:=6) rfl rfl|exact qo (k:=7) rfl rfl|exact qo (k:=8) rfl rfl|exact qo (k:=9) rfl rfl)|exact Qv rfl rfl rfl|exact uv rfl rfl rfl|exact jf rfl rfl (by first|exact jI|exact Jt|exact JA|exact Jz|exact Jp|exact qx|exact Jl|exact ql|exact Qz|exact QB|exact vc|exact vA|exact Kp|exact Kq|exact Qq|exact kN|exact kO|exact Ka|exact K5|exact K6|exact Vk|exact Vl|exact vx|exact Vm|exact WZ|exact W0|exact y8|exact Ya|exact xU|exact xT|exact ZX|exact jl9)|exact JN rfl rfl (by first|exact jw|exact jK|exact Jf|exact Jm|exact Gm|exact Vn|exact VL|exact JH|exact JD|exact jkz|exact Qi|exact xV)|exact jN rfl rfl rfl (by first|exact jw|exact jK|exact Jf|exact Jm|exact Gm|exact Vn|exact VL|exact JH|exact JD|exact jkz|exact Qi|exact xV) Om|exact QL rfl rfl rfl|exact Hj rfl rfl rfl|exact jX rfl rfl rfl Om Om|exact JJ rfl rfl rfl Om Om|exact qZ rfl rfl rfl Om Om) :p:=h
section
variable {P:Program} {n:Nat} {env:List (Nat×Value)} {w0:Bs} {Rs:List Res} {ops:Array Oper} {Q:Exit→Act→World→Prop} {K:Act→World→Prop} {o:Oper}
theorem uw (ks:List Nat) {Rs0 X:List Res} (e:Rs0++X=wks ks Rs) :∀w,St w0 Rs w→St w0 Rs0 w:=fun w h=> (h.wk ks).upto (e▸jid Rs0 X)
theorem aA9 {rest:List Oper} {v:Value} {d:Nat} (h:At n ((d,v) ::env) w0 Rs (fun a w=>wpList P ops Q rest a w)) (hg:o.guard=none:=by exact rfl) (hd:o.dst=some d:=by exact rfl) (hn:d<n:=by decide) (hq:Qt P o n env w0 Rs v:=by exact qA9) :At n env w0 Rs (fun a w=>wpList P ops Q (o::rest) a w) :=jc hg hd hn hq h
theorem oA9 {v:Value} {d:Nat} (h:At n ((d,v) ::env) w0 Rs K) (hd:o.dst=some d:=by exact rfl) (hn:d<n:=by decide) (hq:Qt P o n env w0 Rs v:=by exact qA9) :At n env w0 Rs (fun a w=>o.wp P a w K Q) :=Jg hd hn hq h
theorem suA {p:Prop} (h:p:=by first|exact u9 rfl|exact uw [0] rfl|exact uw [1] rfl|exact uw [2] rfl|exact uw [3] rfl|exact uw [4] rfl|exact uw [5] rfl|exact uw [6] rfl|exact uw [7] rfl|exact uw [8] rfl|exact uw [9] rfl) :p:=h
theorem dK {o:Oper} {listed:Array Bool} {f fuel:Nat} {Rs0:List Res} {d:Nat} {v:Value} (i:Nat) (h:At n ((d,v) ::env) w0 Rs (fun a w=>Qr P .any ops Q (UX w0 Rs0) f fuel (listed.setIfInBounds i true) a w)) (hi:ops[i]? =some o:=by exact rfl) (hsub:∀w,St w0 Rs w→St w0 Rs0 w:=by exact suA) (hg:o.guard=none:=by exact rfl) (hd:o.dst=some d:=by exact rfl) (hn:d<n:=by decide) (hS:Region.noSelect ops=true:=by kernel_rfl) (hfr:Region.free .any ops listed i=true:=by kernel_rfl) (hrd: (Region.ready .any ops listed).contains i=true:=by kernel_rfl) (hfi: (vF .any ops listed i [] f&&i !=f) =true:=by kernel_rfl) (hq:Qt P o n env w0 Rs0 v:=by exact qA9) (hQ:∀c a w,Q (.panic c) (a.put o.dst v) w→Q (.panic c) a w:=by exact fun _ _ _ h=>h) :At n env w0 Rs (fun a w=>Qr P .any ops Q (UX w0 Rs0) f (fuel+1) listed a w) :=d9 i hi [] hsub hq h hg hd hn hS hfr hrd hfi hQ
theorem eK {o:Oper} {listed:Array Bool} {f fuel:Nat} {Rs0:List Res} {d j dj:Nat} {v:Value} {oj:Oper} {c:Bool} (i:Nat) (h:At n ((d,v) ::env) w0 Rs (fun a w=>Qr P .any ops Q (UX w0 Rs0) f fuel (listed.setIfInBounds i true) a w)) (hi:ops[i]? =some o:=by exact rfl) (hsub:∀w,St w0 Rs w→St w0 Rs0 w:=by exact suA) (hg:o.guard=some (j,c) :=by exact rfl) (hj:ops[j]? =some oj:=by exact rfl) (hdj:oj.dst=some dj:=by exact rfl) (hb:look env dj=some (.bool c) :=by exact rfl) (hd:o.dst=some d:=by exact rfl) (hn:d<n:=by decide) (hS:Region.noSelect ops=true:=by kernel_rfl) (hfr:Region.free .any ops listed i=true:=by kernel_rfl) (hrd: (Region.ready .any ops listed).contains i=true:=by kernel_rfl) (hfi: (vF .any ops listed i [] f&&i !=f) =true:=by kernel_rfl) (hq:Qt P o n env w0 Rs0 v:=by exact qA9) (hQ:∀c a w,Q (.panic c) (a.put o.dst v) w→Q (.panic c) a w:=by exact fun _ _ _ h=>h) :At n env w0 Rs (fun a w=>Qr P .any ops Q (UX w0 Rs0) f (fuel+1) listed a w) :=e9 i hi [] hsub hq h hg hj hdj hb hd hn hS hfr hrd hfi hQ
theorem fK {o:Oper} {listed:Array Bool} {f fuel:Nat} {Rs0:List Res} {d j dj:Nat} {oj:Oper} {b c:Bool} (i:Nat) (h:At n ((d,undef) ::env) w0 Rs (fun a w=>Qr P .any ops Q (UX w0 Rs0) f fuel (listed.setIfInBounds i true) a w)) (hi:ops[i]? =some o:=by exact rfl) (hsub:∀w,St w0 Rs w→St w0 Rs0 w:=by exact suA) (hg:o.guard=some (j,c) :=by exact rfl) (hj:ops[j]? =some oj:=by exact rfl) (hdj:oj.dst=some dj:=by exact rfl) (hb:look env dj=some (.bool b) :=by exact rfl) (hne:b≠c:=by decide) (hd:o.dst=some d:=by exact rfl) (hn:d<n:=by decide) (hS:Region.noSelect ops=true:=by kernel_rfl) (hfr:Region.free .any ops listed i=true:=by kernel_rfl) (hrd: (Region.ready .any ops listed).contains i=true:=by kernel_rfl) (hfi: (vF .any ops listed i [] f&&i !=f) =true:=by kernel_rfl) (hQ:∀c a w,Q (.panic c) (a.put o.dst undef) w→Q (.panic c) a w:=by exact fun _ _ _ h=>h) :At n env w0 Rs (fun a w=>Qr P .any ops Q (UX w0 Rs0) f (fuel+1) listed a w) :=f9 i hi [] hsub h hg hj hdj hb hne hd hn hS hfr hrd hfi hQ
theorem dV {o:Oper} {listed:Array Bool} {f fuel:Nat} {Rs0:List Res} {d:Nat} {v:Value} (i:Nat) (ms:List Nat) (h:At n ((d,v) ::env) w0 Rs (fun a w=>Qr P .any ops Q (UX w0 Rs0) f fuel (listed.setIfInBounds i true) a w)) (hi:ops[i]? =some o:=by exact rfl) (hsub:∀w,St w0 Rs w→St w0 Rs0 w:=by exact suA) (hg:o.guard=none:=by exact rfl) (hd:o.dst=some d:=by exact rfl) (hn:d<n:=by decide) (hS:Region.noSelect ops=true:=by kernel_rfl) (hfr:Region.free .any ops listed i=true:=by kernel_rfl) (hrd: (Region.ready .any ops listed).contains i=true:=by kernel_rfl) (hfi: (vF .any ops listed i ms f&&i !=f) =true:=by kernel_rfl) (hq:Qt P o n env w0 Rs0 v:=by exact qA9) (hQ:∀c a w,Q (.panic c) (a.put o.dst v) w→Q (.panic c) a w:=by exact fun _ _ _ h=>h) :At n env w0 Rs (fun a w=>Qr P .any ops Q (UX w0 Rs0) f (fuel+1) listed a w) :=d9 i hi ms hsub hq h hg hd hn hS hfr hrd hfi hQ
theorem eV {o:Oper} {listed:Array Bool} {f fuel:Nat} {Rs0:List Res} {d j dj:Nat} {v:Value} {oj:Oper} {c:Bool} (i:Nat) (ms:List Nat) (h:At n ((d,v) ::env) w0 Rs (fun a w=>Qr P .any ops Q (UX w0 Rs0) f fuel (listed.setIfInBounds i true) a w)) (hi:ops[i]? =some o:=by exact rfl) (hsub:∀w,St w0 Rs w→St w0 Rs0 w:=by exact suA) (hg:o.guard=some (j,c) :=by exact rfl) (hj:ops[j]? =some oj:=by exact rfl) (hdj:oj.dst=some dj:=by exact rfl) (hb:look env dj=some (.bool c) :=by exact rfl) (hd:o.dst=some d:=by exact rfl) (hn:d<n:=by decide) (hS:Region.noSelect ops=true:=by kernel_rfl) (hfr:Region.free .any ops listed i=true:=by kernel_rfl) (hrd: (Region.ready .any ops listed).contains i=true:=by kernel_rfl) (hfi: (vF .any ops listed i ms f&&i !=f) =true:=by kernel_rfl) (hq:Qt P o n env w0 Rs0 v:=by exact qA9) (hQ:∀c a w,Q (.panic c) (a.put o.dst v) w→Q (.panic c) a w:=by exact fun _ _ _ h=>h) :At n env w0 Rs (fun a w=>Qr P .any ops Q (UX w0 Rs0) f (fuel+1) listed a w) :=e9 i hi ms hsub hq h hg hj hdj hb hd hn hS hfr hrd hfi hQ
theorem fV {o:Oper} {listed:Array Bool} {f fuel:Nat} {Rs0:List Res} {d j dj:Nat} {oj:Oper} {b c:Bool} (i:Nat) (ms:List Nat) (h:At n ((d,undef) ::env) w0 Rs (fun a w=>Qr P .any ops Q (UX w0 Rs0) f fuel (listed.setIfInBounds i true) a w)) (hi:ops[i]? =some o:=by exact rfl) (hsub:∀w,St w0 Rs w→St w0 Rs0 w:=by exact suA) (hg:o.guard=some (j,c) :=by exact rfl) (hj:ops[j]? =some oj:=by exact rfl) (hdj:oj.dst=some dj:=by exact rfl) (hb:look env dj=some (.bool b) :=by exact rfl) (hne:b≠c:=by decide) (hd:o.dst=some d:=by exact rfl) (hn:d<n:=by decide) (hS:Region.noSelect ops=true:=by kernel_rfl) (hfr:Region.free .any ops listed i=true:=by kernel_rfl) (hrd: (Region.ready .any ops listed).contains i=true:=by kernel_rfl) (hfi: (vF .any ops listed i ms f&&i !=f) =true:=by kernel_rfl) (hQ:∀c a w,Q (.panic c) (a.put o.dst undef) w→Q (.panic c) a w:=by exact fun _ _ _ h=>h) :At n env w0 Rs (fun a w=>Qr P .any ops Q (UX w0 Rs0) f (fuel+1) listed a w) :=f9 i hi ms hsub h hg hj hdj hb hne hd hn hS hfr hrd hfi hQ
theorem dZ {o:Oper} {listed:Array Bool} {f fuel:Nat} {Rs0:List Res} {d:Nat} {v:Value} (i:Nat) (hi:ops[i]? =some o) (hq:Qt P o n env w0 Rs0 v) (h:At n ((d,v) ::env) w0 Rs (fun a w=>Qr P .any ops Q (UX w0 Rs0) f fuel (listed.setIfInBounds i true) a w)) (hsub:∀w,St w0 Rs w→St w0 Rs0 w:=by exact suA) (hg:o.guard=none:=by exact rfl) (hd:o.dst=some d:=by exact rfl) (hn:d<n:=by decide) (hS:Region.noSelect ops=true:=by kernel_rfl) (hfr:Region.free .any ops listed i=true:=by kernel_rfl) (hrd: (Region.ready .any ops listed).contains i=true:=by kernel_rfl) (hfi: (vF .any ops listed i [] f&&i !=f) =true:=by kernel_rfl) (hQ:∀c a w,Q (.panic c) (a.put o.dst v) w→Q (.panic c) a w:=by exact fun _ _ _ h=>h) :At n env w0 Rs (fun a w=>Qr P .any ops Q (UX w0 Rs0) f (fuel+1) listed a w) :=d9 i hi [] hsub hq h hg hd hn hS hfr hrd hfi hQ
theorem eZ {o:Oper} {listed:Array Bool} {f fuel:Nat} {Rs0:List Res} {d j dj:Nat} {v:Value} {oj:Oper} {c:Bool} (i:Nat) (hi:ops[i]? =some o) (hq:Qt P o n env w0 Rs0 v) (h:At n ((d,v) ::env) w0 Rs (fun a w=>Qr P .any ops Q (UX w0 Rs0) f fuel (listed.setIfInBounds i true) a w)) (hsub:∀w,St w0 Rs w→St w0 Rs0 w:=by exact suA) (hg:o.guard=some (j,c) :=by exact rfl) (hj:ops[j]? =some oj:=by exact rfl) (hdj:oj.dst=some dj:=by exact rfl) (hb:look env dj=some (.bool c) :=by exact rfl) (hd:o.dst=some d:=by exact rfl) (hn:d<n:=by decide) (hS:Region.noSelect ops=true:=by kernel_rfl) (hfr:Region.free .any ops listed i=true:=by kernel_rfl) (hrd: (Region.ready .any ops listed).contains i=true:=by kernel_rfl) (hfi: (vF .any ops listed i [] f&&i !=f) =true:=by kernel_rfl) (hQ:∀c a w,Q (.panic c) (a.put o.dst v) w→Q (.panic c) a w:=by exact fun _ _ _ h=>h) :At n env w0 Rs (fun a w=>Qr P .any ops Q (UX w0 Rs0) f (fuel+1) listed a w) :=e9 i hi [] hsub hq h hg hj hdj hb hd hn hS hfr hrd hfi hQ
theorem aL {T:TypeId} {d m q:Nat} {z:Value} (h:∀b,At n ((d, .pointer (some ⟨b,0,none⟩)) ::env) w0 (Rs++ [.cel b T z.cells.toList]) K) (ho:o.op= .alloc T:=by exact rfl) (hz:TyZ P T m q z:=by exact tzA) (hd:o.dst=some d:=by exact rfl) (hn:d<n:=by exact lb rfl) :At n env w0 Rs (fun a w=>o.wp P a w K Q) :=Jj ho hz hd hn h
theorem aX {T:TypeId} {x:Operand} {v:Value} {cs:List Value} {d:Nat} (h:∀b,At n ((d, .pointer (some ⟨b,0,none⟩)) ::env) w0 (Rs++ [.cel b T cs]) K) (ho:o.op= .box T x:=by exact rfl) (hx:ev env x=some v:=by exact rfl) (hv:v.cells=cs.toArray:=by exact rfl) (hd:o.dst=some d:=by exact rfl) (hn:d<n:=by exact lb rfl) :At n env w0 Rs (fun a w=>o.wp P a w K Q) :=JP ho hx hv hd hn h
end
structure Hk (B:Prop) :Prop where
  o:B
theorem S1 {A B:Prop} (h:B) (s:Hk B→A:=by intro h; (first|with_reducible refine je ?_|with_reducible refine jb ?_|with_reducible refine jg ?_|with_reducible refine jh ?_|refine aA9 ?_|refine g9 ?_|refine h9 ?_|refine oA9 ?_|refine jq (fun h=>by cases h) ?_|with_reducible refine jF ?_|with_reducible refine jv ?_|with_reducible refine jB ?_|with_reducible refine ju ?_|with_reducible refine jO ?_|with_reducible refine JL ?_|with_reducible refine Jr ?_|refine Hh Dc ?_|with_reducible refine JB ?_|with_reducible refine J6 ?_|refine TM rfl rfl ?_|refine Dh rfl rfl ?_|refine JF mixed rfl ?_|refine jo rfl ?_|refine qK rfl rfl rfl rfl rfl Dc ?_|(refine jA 0 ?_;refine n9 ?_)|(refine jA 1 ?_;refine n9 ?_)|(refine jA 2 ?_;refine n9 ?_)|(refine jA 3 ?_;refine n9 ?_)|(refine jA 4 ?_;refine n9 ?_)|(refine jA 5 ?_;refine n9 ?_)|(refine jA 6 ?_;refine n9 ?_)|(refine jA 7 ?_;refine n9 ?_)|(refine jA 8 ?_;refine n9 ?_)|(refine jA 9 ?_;refine n9 ?_));exact h.o) :A:=s ⟨h⟩
theorem S2 {A B:Prop} (h:B) (s:Hk B→A:=by intro h; (iterate 2 refine S1 ?_);exact h.o) :A:=s ⟨h⟩
theorem S3 {A B:Prop} (h:B) (s:Hk B→A:=by intro h; (iterate 3 refine S1 ?_);exact h.o) :A:=s ⟨h⟩
theorem S4 {A B:Prop} (h:B) (s:Hk B→A:=by intro h; (iterate 4 refine S1 ?_);exact h.o) :A:=s ⟨h⟩
theorem S5 {A B:Prop} (h:B) (s:Hk B→A:=by intro h; (iterate 5 refine S1 ?_);exact h.o) :A:=s ⟨h⟩
theorem S6 {A B:Prop} (h:B) (s:Hk B→A:=by intro h; (iterate 6 refine S1 ?_);exact h.o) :A:=s ⟨h⟩
theorem S7 {A B:Prop} (h:B) (s:Hk B→A:=by intro h; (iterate 7 refine S1 ?_);exact h.o) :A:=s ⟨h⟩
theorem S8 {A B:Prop} (h:B) (s:Hk B→A:=by intro h; (iterate 8 refine S1 ?_);exact h.o) :A:=s ⟨h⟩
theorem S9 {A B:Prop} (h:B) (s:Hk B→A:=by intro h; (iterate 9 refine S1 ?_);exact h.o) :A:=s ⟨h⟩
theorem S10 {A B:Prop} (h:B) (s:Hk B→A:=by intro h; (iterate 10 refine S1 ?_);exact h.o) :A:=s ⟨h⟩
theorem S11 {A B:Prop} (h:B) (s:Hk B→A:=by intro h; (iterate 11 refine S1 ?_);exact h.o) :A:=s ⟨h⟩
theorem S12 {A B:Prop} (h:B) (s:Hk B→A:=by intro h; (iterate 12 refine S1 ?_);exact h.o) :A:=s ⟨h⟩
theorem S13 {A B:Prop} (h:B) (s:Hk B→A:=by intro h; (iterate 13 refine S1 ?_);exact h.o) :A:=s ⟨h⟩
theorem S14 {A B:Prop} (h:B) (s:Hk B→A:=by intro h; (iterate 14 refine S1 ?_);exact h.o) :A:=s ⟨h⟩
theorem S15 {A B:Prop} (h:B) (s:Hk B→A:=by intro h; (iterate 15 refine S1 ?_);exact h.o) :A:=s ⟨h⟩
theorem S16 {A B:Prop} (h:B) (s:Hk B→A:=by intro h; (iterate 16 refine S1 ?_);exact h.o) :A:=s ⟨h⟩
theorem S17 {A B:Prop} (h:B) (s:Hk B→A:=by intro h; (iterate 17 refine S1 ?_);exact h.o) :A:=s ⟨h⟩
theorem S18 {A B:Prop} (h:B) (s:Hk B→A:=by intro h; (iterate 18 refine S1 ?_);exact h.o) :A:=s ⟨h⟩
theorem S19 {A B:Prop} (h:B) (s:Hk B→A:=by intro h; (iterate 19 refine S1 ?_);exact h.o) :A:=s ⟨h⟩
theorem S20 {A B:Prop} (h:B) (s:Hk B→A:=by intro h; (iterate 20 refine S1 ?_);exact h.o) :A:=s ⟨h⟩
theorem S22 {A B:Prop} (h:B) (s:Hk B→A:=by intro h; (iterate 22 refine S1 ?_);exact h.o) :A:=s ⟨h⟩
theorem S24 {A B:Prop} (h:B) (s:Hk B→A:=by intro h; (iterate 24 refine S1 ?_);exact h.o) :A:=s ⟨h⟩
theorem S26 {A B:Prop} (h:B) (s:Hk B→A:=by intro h; (iterate 26 refine S1 ?_);exact h.o) :A:=s ⟨h⟩
theorem S27 {A B:Prop} (h:B) (s:Hk B→A:=by intro h; (iterate 27 refine S1 ?_);exact h.o) :A:=s ⟨h⟩
theorem S32 {A B:Prop} (h:B) (s:Hk B→A:=by intro h; (iterate 32 refine S1 ?_);exact h.o) :A:=s ⟨h⟩
theorem S42 {A B:Prop} (h:B) (s:Hk B→A:=by intro h; (iterate 42 refine S1 ?_);exact h.o) :A:=s ⟨h⟩
theorem N1 {A B:Prop} (h:B) (s:Hk B→A:=by intro h;refine n9 ?_; (iterate 1 refine S1 ?_);exact h.o) :A:=s ⟨h⟩
theorem N2 {A B:Prop} (h:B) (s:Hk B→A:=by intro h;refine n9 ?_; (iterate 2 refine S1 ?_);exact h.o) :A:=s ⟨h⟩
theorem N3 {A B:Prop} (h:B) (s:Hk B→A:=by intro h;refine n9 ?_; (iterate 3 refine S1 ?_);exact h.o) :A:=s ⟨h⟩
theorem N4 {A B:Prop} (h:B) (s:Hk B→A:=by intro h;refine n9 ?_; (iterate 4 refine S1 ?_);exact h.o) :A:=s ⟨h⟩
theorem N5 {A B:Prop} (h:B) (s:Hk B→A:=by intro h;refine n9 ?_; (iterate 5 refine S1 ?_);exact h.o) :A:=s ⟨h⟩
theorem N6 {A B:Prop} (h:B) (s:Hk B→A:=by intro h;refine n9 ?_; (iterate 6 refine S1 ?_);exact h.o) :A:=s ⟨h⟩
theorem N7 {A B:Prop} (h:B) (s:Hk B→A:=by intro h;refine n9 ?_; (iterate 7 refine S1 ?_);exact h.o) :A:=s ⟨h⟩
theorem N8 {A B:Prop} (h:B) (s:Hk B→A:=by intro h;refine n9 ?_; (iterate 8 refine S1 ?_);exact h.o) :A:=s ⟨h⟩
theorem N9 {A B:Prop} (h:B) (s:Hk B→A:=by intro h;refine n9 ?_; (iterate 9 refine S1 ?_);exact h.o) :A:=s ⟨h⟩
theorem N10 {A B:Prop} (h:B) (s:Hk B→A:=by intro h;refine n9 ?_; (iterate 10 refine S1 ?_);exact h.o) :A:=s ⟨h⟩
theorem N11 {A B:Prop} (h:B) (s:Hk B→A:=by intro h;refine n9 ?_; (iterate 11 refine S1 ?_);exact h.o) :A:=s ⟨h⟩
theorem N12 {A B:Prop} (h:B) (s:Hk B→A:=by intro h;refine n9 ?_; (iterate 12 refine S1 ?_);exact h.o) :A:=s ⟨h⟩
theorem N13 {A B:Prop} (h:B) (s:Hk B→A:=by intro h;refine n9 ?_; (iterate 13 refine S1 ?_);exact h.o) :A:=s ⟨h⟩
theorem N14 {A B:Prop} (h:B) (s:Hk B→A:=by intro h;refine n9 ?_; (iterate 14 refine S1 ?_);exact h.o) :A:=s ⟨h⟩
theorem N15 {A B:Prop} (h:B) (s:Hk B→A:=by intro h;refine n9 ?_; (iterate 15 refine S1 ?_);exact h.o) :A:=s ⟨h⟩
theorem N16 {A B:Prop} (h:B) (s:Hk B→A:=by intro h;refine n9 ?_; (iterate 16 refine S1 ?_);exact h.o) :A:=s ⟨h⟩
theorem N17 {A B:Prop} (h:B) (s:Hk B→A:=by intro h;refine n9 ?_; (iterate 17 refine S1 ?_);exact h.o) :A:=s ⟨h⟩
theorem N19 {A B:Prop} (h:B) (s:Hk B→A:=by intro h;refine n9 ?_; (iterate 19 refine S1 ?_);exact h.o) :A:=s ⟨h⟩
theorem N20 {A B:Prop} (h:B) (s:Hk B→A:=by intro h;refine n9 ?_; (iterate 20 refine S1 ?_);exact h.o) :A:=s ⟨h⟩
theorem N22 {A B:Prop} (h:B) (s:Hk B→A:=by intro h;refine n9 ?_; (iterate 22 refine S1 ?_);exact h.o) :A:=s ⟨h⟩
theorem N23 {A B:Prop} (h:B) (s:Hk B→A:=by intro h;refine n9 ?_; (iterate 23 refine S1 ?_);exact h.o) :A:=s ⟨h⟩
theorem V1 {A B:Prop} (h:B) (s:Hk B→A:=by intro h;refine v9 ?_; (iterate 1 refine S1 ?_);exact h.o) :A:=s ⟨h⟩
theorem V2 {A B:Prop} (h:B) (s:Hk B→A:=by intro h;refine v9 ?_; (iterate 2 refine S1 ?_);exact h.o) :A:=s ⟨h⟩
theorem V3 {A B:Prop} (h:B) (s:Hk B→A:=by intro h;refine v9 ?_; (iterate 3 refine S1 ?_);exact h.o) :A:=s ⟨h⟩
theorem V5 {A B:Prop} (h:B) (s:Hk B→A:=by intro h;refine v9 ?_; (iterate 5 refine S1 ?_);exact h.o) :A:=s ⟨h⟩
theorem V7 {A B:Prop} (h:B) (s:Hk B→A:=by intro h;refine v9 ?_; (iterate 7 refine S1 ?_);exact h.o) :A:=s ⟨h⟩
theorem V8 {A B:Prop} (h:B) (s:Hk B→A:=by intro h;refine v9 ?_; (iterate 8 refine S1 ?_);exact h.o) :A:=s ⟨h⟩
theorem V14 {A B:Prop} (h:B) (s:Hk B→A:=by intro h;refine v9 ?_; (iterate 14 refine S1 ?_);exact h.o) :A:=s ⟨h⟩
theorem V15 {A B:Prop} (h:B) (s:Hk B→A:=by intro h;refine v9 ?_; (iterate 15 refine S1 ?_);exact h.o) :A:=s ⟨h⟩
end Go.Proofs.YtpncbbcmoiiipaaGreat
