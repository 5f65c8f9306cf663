import Derived.Test.YtjbahemkhphndaaGreatNSd
set_option linter.unusedVariables false
set_option linter.unusedSimpArgs false
namespace Go.Proofs.YtjbahemkhphndaaGreat
open Go Go.RowKit
variable{A B p:Prop}{P:Program}{Rs Rs0:List Res}{T T':TypeId}{a0 a1 b0 b1:Int}{c:Bool}{cs:List Value}{d dj f fuel j m n:Nat}{fs:Array Field}{listed:Array Bool}{o oj:Oper}{rest:List Oper}{v z:Value}{w0:Bs}
set_option maxRecDepth 100000
theorem jkB{T k:Nat}(h:(P.info? T).map (λi=>(i.zero,i.size,i.bytes))=some (some z,m,k))(hc:z.cells.size=m):TyZ P T m k z:=by
 cases hi:P.info? T with
 |none=>simp[hi] at h
 |some i=>
  simp only[hi,jnE,Option.some.injEq,Prod.mk.injEq] at h;exact⟨⟨i,hi,h.1,h.2.1,h.2.2⟩,hc⟩
theorem Za{d:TypeDesc}(h:P.underlying T=some d)(h1:BA d=true:=by exact rfl)(h2:(P.info? T).map (·.size)=some 1:=by kernel_rfl):Ty1 P T:=⟨⟨_,h,h1⟩,h2⟩
theorem Yw{d:TypeDesc}(m:Nat)(h:P.underlying T=some d)(h1:BA d=false:=by exact rfl)(h2:(P.info? T).map (·.size)=some m:=by kernel_rfl):TyS P T m:=⟨⟨_,h,h1⟩,h2⟩
theorem uo{U:TypeId}(m:Nat)(h:P.underlying T=some (.slice U))(h2:(P.info? U).map (·.size)=some m:=by kernel_rfl):TyL P T U m:=⟨h,h2⟩
theorem Q1{f:Field}(i c s:Nat)(h:P.underlying T=some (.struct fs))(h1:fs[i]? =some f:=by exact rfl)(h2:f.offset=c:=by exact rfl)(h3:(P.info? f.type).map (·.size)=some (s+1):=by kernel_rfl):TyF P T i c:=⟨_,_,h,h1,h2,s,h3⟩
theorem uG(T m k:Nat)(z:Value)(h:(Tryz.prog.info? T).map (λi=>(i.zero,i.size,i.bytes))=some (some z,m,k):=by kernel_rfl)(hc:z.cells.size=m:=by exact rfl):TyZ Tryz.prog T m k z:=jkB h hc
theorem JU{f:FuncId}{fn:Func}(h:P.funcs[f]? =some fn)(h2:(fn.name== "runtime.NumGoroutine")=false:=by kernel_rfl)(h3:fn.body.isNone=false:=by exact rfl):FnOk P f:=⟨_,h,h2,h3⟩
abbrev FN(T:TypeId)(l:List (Nat×Value))(r:List Value):Prop:=∀w:World,(Instr.build T l.toArray).run Tryz.prog w=.ok (.agg r.toArray) w
abbrev D8(T:TypeId)(m:Nat)(l:List (Nat×Value))(U:TypeId)(r:List Value):Prop:=∀w:World,(Instr.buildSlice T m l.toArray).run Tryz.prog w=.ok (.slice (some ⟨w.heap.size,0,none⟩) m m) (w.alloc (.cells r.toArray U))
theorem WB(h:p:=by intro w;rw[jbX];simp only[jny,jmA,jnB, *];simp[Instr.build,Instr.fill,go_sem]):p:=h
theorem wM(h:p:=by intro w;rw[Bg];simp only[jny,jmA,jnB, *];simp[Instr.buildSlice,Instr.fill,go_sem]):p:=h
abbrev ju:=Za Tryz.underlying2
abbrev Kl:=uG 2 1 8 (.int .i64 0)
abbrev z8:=Za Tryz.underlying3
abbrev SW:=uG 3 1 8 (.int .i64 0)
abbrev QT:=Za Tryz.underlying4
theorem DS:Tryz.prog.underlying 4=some .bool:=Tryz.underlying4
abbrev Y7:=uG 4 1 1 (.bool false)
abbrev jde:=Za Tryz.underlying5
abbrev U3:=Za Tryz.underlying22
abbrev uq:=uo 1 Tryz.underlying22
abbrev JA:=Za Tryz.underlying23
abbrev jC:=uo 1 Tryz.underlying23
abbrev qT:=uG 23 1 24 (.slice none 0 0)
abbrev jD:=Yw 1 Tryz.underlying25
abbrev jU:=Q1 0 0 0 Tryz.underlying25
abbrev jp:=uG 25 1 24 (.agg #[.slice none 0 0])
abbrev wK:=uo 1 Tryz.underlying27
abbrev VG:=uo 1 Tryz.underlying30
abbrev jk:=Yw 2 Tryz.underlying36
abbrev Jq:=Q1 0 0 0 Tryz.underlying36
abbrev jJ:=Q1 1 1 0 Tryz.underlying36
abbrev jG:=uG 36 2 16 (.agg #[.int .i64 0,.int .i64 0])
abbrev JH:=Za Tryz.underlying39
abbrev jw:=uo 2 Tryz.underlying39
abbrev kZ:=uG 39 1 24 (.slice none 0 0)
abbrev Jz:=Yw 1 Tryz.underlying41
abbrev Jw:=Q1 0 0 0 Tryz.underlying41
abbrev Jl:=uG 41 1 24 (.agg #[.slice none 0 0])
abbrev Zy:=Za Tryz.underlying52
abbrev jV:=uo 4 Tryz.underlying52
abbrev Zb:=Za Tryz.underlying63
abbrev DT:=uG 63 1 8 (.int .u64 0)
abbrev V6:=Q1 0 0 0 Tryz.underlying65
abbrev kh:=Q1 1 1 0 Tryz.underlying65
abbrev KR:=Q1 2 2 0 Tryz.underlying65
abbrev qF:=Yw 4 Tryz.underlying72
abbrev qn:=Q1 0 0 1 Tryz.underlying72
abbrev qk:=Q1 1 2 1 Tryz.underlying72
abbrev qp:=uG 72 4 32 (.agg #[.int .i64 0,.int .i64 0,.int .i64 0,.int .i64 0])
abbrev JF:=uo 4 Tryz.underlying73
abbrev JM:=uo 8 Tryz.underlying83
abbrev vf:=Yw 4 Tryz.underlying101
abbrev JL:=Q1 0 0 1 Tryz.underlying101
abbrev JO:=Q1 1 2 1 Tryz.underlying101
abbrev kO:=uG 101 4 32 (.agg #[.int .i64 0,.int .i64 0,.int .i64 0,.int .i64 0])
abbrev Qs:=Q1 0 0 3 Tryz.underlying109
abbrev KS:=Q1 1 4 0 Tryz.underlying109
abbrev KT:=Q1 2 5 0 Tryz.underlying109
abbrev um:=Q1 3 6 0 Tryz.underlying109
abbrev un:=Q1 4 7 0 Tryz.underlying109
abbrev UI:=uG 109 8 64 (.agg #[.int .i64 0,.int .i64 0,.int .i64 0,.int .i64 0,.int .i64 0,.int .i64 0,.int .i64 0,.int .i64 0])
abbrev Vu:=uo 1 Tryz.underlying113
abbrev VH:=uo 1 Tryz.underlying143
abbrev Gz:=uo 1 Tryz.underlying154
abbrev wL:=Yw 7 Tryz.underlying157
abbrev Kj:=Q1 2 4 0 Tryz.underlying157
abbrev VD:=Q1 3 5 0 Tryz.underlying157
abbrev VE:=Q1 4 6 0 Tryz.underlying157
abbrev Q2:=uG 157 7 56 (.agg #[.int .i64 0,.int .i64 0,.int .i64 0,.int .i64 0,.int .i64 0,.int .i64 0,.int .i64 0])
abbrev Qm:=uo 8 Tryz.underlying159
abbrev qB:=Yw 6 Tryz.underlying161
abbrev kC:=Q1 0 0 0 Tryz.underlying161
abbrev kD:=Q1 1 1 0 Tryz.underlying161
abbrev vr:=Q1 2 2 0 Tryz.underlying161
abbrev vt:=Q1 3 3 0 Tryz.underlying161
abbrev Kk:=Q1 4 4 0 Tryz.underlying161
abbrev VF:=Q1 5 5 0 Tryz.underlying161
abbrev qf:=uG 161 6 40 (.agg #[.int .i64 0,.int .i64 0,.int .i64 0,.int .i64 0,.bool false,.bool false])
abbrev Gx:=Q1 0 0 1 Tryz.underlying167
abbrev Gy:=Q1 1 2 5 Tryz.underlying167
abbrev Uf:=uG 167 8 56 (.agg #[.int .i64 0,.int .i64 0,.int .i64 0,.int .i64 0,.int .i64 0,.int .i64 0,.bool false,.bool false])
abbrev JI:=uo 5 Tryz.underlying174
abbrev QU:=Yw 3 Tryz.underlying176
abbrev Y5:=Q1 0 0 0 Tryz.underlying176
abbrev Y6:=Q1 1 1 0 Tryz.underlying176
abbrev QG:=Q1 2 2 0 Tryz.underlying176
abbrev Kz:=uG 176 3 24 (.agg #[.int .i64 0,.int .i64 0,.bool false])
abbrev VJ:=Yw 6 Tryz.underlying178
abbrev Ky:=Q1 0 0 2 Tryz.underlying178
abbrev vP:=Q1 1 3 2 Tryz.underlying178
abbrev kE:=uG 178 6 48 (.agg #[.int .i64 0,.int .i64 0,.bool false,.int .i64 0,.int .i64 0,.bool false])
abbrev qv:=Yw 5 Tryz.underlying182
abbrev Xq:=Q1 0 0 1 Tryz.underlying182
abbrev QH:=Q1 1 2 2 Tryz.underlying182
abbrev Qe:=uG 182 5 40 (.agg #[.int .i64 0,.int .i64 0,.int .i64 0,.int .i64 0,.bool false])
abbrev wa:=uo 1 Tryz.underlying205
abbrev Oh:=JU Tryz.func4
abbrev yW:=JU Tryz.func5
abbrev Oc:=JU Tryz.func6
abbrev y3:=JU Tryz.func7
abbrev yr:=JU Tryz.func8
abbrev yX:=JU Tryz.func9
abbrev Oi:=JU Tryz.func10
abbrev LQ:=JU Tryz.func11
abbrev VU:=JU Tryz.func12
abbrev K5:=JU Tryz.func13
abbrev Ob:=JU Tryz.func14
abbrev Hn:=JU Tryz.func15
abbrev yY:=JU Tryz.func16
abbrev Ka:=JU Tryz.func17
abbrev kz:=JU Tryz.func18
abbrev Uk:=JU Tryz.func19
abbrev LP:=JU Tryz.func20
abbrev Ol:=JU Tryz.func21
abbrev Gd:=JU Tryz.func22
abbrev Hl:=JU Tryz.func23
abbrev Oo:=JU Tryz.func24
abbrev kJ:=JU Tryz.func25
abbrev J9:=JU Tryz.func26
abbrev Gf:=JU Tryz.func27
abbrev ZH:=JU Tryz.func28
abbrev ym:=JU Tryz.func29
abbrev yo:=JU Tryz.func30
abbrev wu:=JU Tryz.func31
abbrev FB:=JU Tryz.func32
abbrev Hu:=JU Tryz.func33
abbrev Vk:=JU Tryz.func34
abbrev Vj:=JU Tryz.func35
abbrev BV:=JU Tryz.func36
abbrev Oj:=JU Tryz.func37
abbrev Oq:=JU Tryz.func38
abbrev vw:=JU Tryz.func39
abbrev B4:=JU Tryz.func40
abbrev Zr:=JU Tryz.func41
abbrev y4:=JU Tryz.func42
abbrev xg:=JU Tryz.func43
abbrev LN:=JU Tryz.func44
abbrev B3:=JU Tryz.func45
abbrev LM:=JU Tryz.func46
abbrev LO:=JU Tryz.func47
abbrev Hx:=JU Tryz.func48
abbrev Od:=JU Tryz.func49
abbrev kL:=JU Tryz.func50
abbrev xf:=JU Tryz.func51
abbrev Wt:=JU Tryz.func52
abbrev Of:=JU Tryz.func53
abbrev yZ:=JU Tryz.func54
abbrev YW:=JU Tryz.func55
abbrev LK:=JU Tryz.func57
abbrev Zt:=JU Tryz.func58
abbrev yt:=JU Tryz.func59
abbrev LL:=JU Tryz.func60
abbrev Gc:=JU Tryz.func61
abbrev Xl:=JU Tryz.func62
abbrev Ge:=JU Tryz.func63
abbrev Gb:=JU Tryz.func64
abbrev KK:=JU Tryz.func65
abbrev Hw:=JU Tryz.func66
abbrev Hz:=JU Tryz.func67
abbrev Ot:=JU Tryz.func68
abbrev Hy:=JU Tryz.func69
abbrev Zv:=JU Tryz.func70
abbrev y5:=JU Tryz.func71
abbrev zL:=JU Tryz.func72
abbrev Vp:=JU Tryz.func73
abbrev Ho:=JU Tryz.func74
abbrev KG:=JU Tryz.func75
abbrev W7:=JU Tryz.func76
abbrev K8:=JU Tryz.func77
abbrev W9:=JU Tryz.func79
abbrev Zo:=JU Tryz.func80
abbrev Zp:=JU Tryz.func81
abbrev vD:=JU Tryz.func82
abbrev QV:=JU Tryz.func83
abbrev wG:=JU Tryz.func84
abbrev On:=JU Tryz.func85
abbrev BZ:=JU Tryz.func87
abbrev uc:=JU Tryz.func88
abbrev YV:=JU Tryz.func89
abbrev Gg:=JU Tryz.func90
abbrev y6:=JU Tryz.func91
abbrev UO:=JU Tryz.func92
abbrev KH:=JU Tryz.func93
abbrev KU:=JU Tryz.func94
abbrev Hm:=JU Tryz.func95
abbrev yq:=JU Tryz.func96
abbrev Kh:=JU Tryz.func97
abbrev vk:=JU Tryz.func98
abbrev vZ:=JU Tryz.func99
abbrev VT:=JU Tryz.func100
abbrev YU:=JU Tryz.func101
abbrev XC:=JU Tryz.func102
abbrev Ok:=JU Tryz.func103
abbrev ub:=JU Tryz.func104
abbrev Wc:=JU Tryz.func105
abbrev Oe:=JU Tryz.func106
abbrev LH:=JU Tryz.func107
abbrev KI:=JU Tryz.func108
abbrev W6:=JU Tryz.func109
abbrev K6:=JU Tryz.func110
abbrev LI:=JU Tryz.func111
abbrev LJ:=JU Tryz.func112
abbrev vK:=JU Tryz.func113
abbrev vJ:=JU Tryz.func114
abbrev yn:=JU Tryz.func115
abbrev W4:=JU Tryz.func116
abbrev Og:=JU Tryz.func117
abbrev Zn:=JU Tryz.func118
abbrev Zm:=JU Tryz.func119
abbrev BW:=JU Tryz.func120
abbrev Hr:=JU Tryz.func121
abbrev Hv:=JU Tryz.func122
abbrev Zq:=JU Tryz.func123
abbrev kv:=JU Tryz.func124
abbrev W8:=JU Tryz.func125
abbrev uU:=JU Tryz.func126
abbrev W5:=JU Tryz.func127
abbrev LG:=JU Tryz.func131
abbrev vd:=JU Tryz.func132
abbrev yp:=JU Tryz.func133
abbrev Hq:=JU Tryz.func134
abbrev KC:=JU Tryz.func135
abbrev Vz:=JU Tryz.func136
abbrev vH:=JU Tryz.func137
abbrev Wb:=JU Tryz.func138
abbrev vy:=JU Tryz.func139
abbrev Kg:=JU Tryz.func140
abbrev uC:=JU Tryz.func141
abbrev Kn:=JU Tryz.func142
abbrev Kv:=JU Tryz.func144
abbrev Zs:=JU Tryz.func145
abbrev Zu:=JU Tryz.func146
abbrev wq:=JU Tryz.func148
abbrev Wa:=JU Tryz.func158
abbrev KJ:=JU Tryz.func159
abbrev WU:=JU Tryz.func160
abbrev QI:=JU Tryz.func161
abbrev Qq:=JU Tryz.func162
abbrev Qo:=JU Tryz.func169
abbrev Qa:=JU Tryz.func170
abbrev WV:=JU Tryz.func171
abbrev wc:=JU Tryz.func172
abbrev wF:=JU Tryz.func181
abbrev Q6:=JU Tryz.func182
abbrev QJ:=JU Tryz.func186
section
variable{u v x y z s t r c0 c1 c2 c3 c4 c5 c6 c7 c8 c9 c10 c11 c12 c13 c14 c15 c16 c17 c18 c19 c20 c21 c22 c23 c24 c25 c26 c27 c28 c29 c30 c31 c32 c33 c34 c35 c36 c37 c38 c39:Value}
theorem qo:FN 25 [] [.slice none 0 0]:=WB
theorem VY(h0:u.cells=#[c0]):FN 25 [(0,u)] [c0]:=WB
theorem US:FN 36 [] [.int .i64 0,.int .i64 0]:=WB
theorem Xt(h0:u.cells=#[c0]):FN 36 [(0,u)] [c0,.int .i64 0]:=WB
theorem J8(h0:u.cells=#[c0])(h1:v.cells=#[c1]):FN 36 [(0,u),(1,v)] [c0,c1]:=WB
theorem Fg(h0:u.cells=#[c0]):FN 36 [(1,u)] [.int .i64 0,c0]:=WB
theorem Ks:FN 41 [] [.slice none 0 0]:=WB
theorem Qn(h0:u.cells=#[c0]):FN 41 [(0,u)] [c0]:=WB
theorem GM(h0:u.cells=#[c0]):FN 65 [(0,u)] [c0,.int .i64 0,.int .u64 0]:=WB
theorem YE(h0:u.cells=#[c0,c1])(h1:v.cells=#[c2,c3]):FN 72 [(0,u),(1,v)] [c0,c1,c2,c3]:=WB
theorem Uq(h0:u.cells=#[c0,c1])(h1:v.cells=#[c2,c3]):FN 101 [(0,u),(1,v)] [c0,c1,c2,c3]:=WB
theorem GN(h0:u.cells=#[c0,c1,c2,c3]):FN 109 [(0,u)] [c0,c1,c2,c3,.int .i64 0,.int .i64 0,.int .i64 0,.int .i64 0]:=WB
theorem ZR(h0:u.cells=#[c0,c1])(h1:v.cells=#[c2,c3]):FN 157 [(0,u),(1,v)] [c0,c1,c2,c3,.int .i64 0,.int .i64 0,.int .i64 0]:=WB
theorem yc(h0:u.cells=#[c0])(h1:v.cells=#[c1])(h2:x.cells=#[c2])(h3:y.cells=#[c3])(h4:z.cells=#[c4]):FN 161 [(0,u),(1,v),(2,x),(3,y),(4,z)] [c0,c1,c2,c3,c4,.bool false]:=WB
theorem VM(h0:u.cells=#[c0])(h1:v.cells=#[c1])(h2:x.cells=#[c2])(h3:y.cells=#[c3])(h4:z.cells=#[c4])(h5:s.cells=#[c5]):FN 161 [(0,u),(1,v),(2,x),(3,y),(4,z),(5,s)] [c0,c1,c2,c3,c4,c5]:=WB
theorem yd(h0:u.cells=#[c0])(h1:v.cells=#[c1])(h2:x.cells=#[c2])(h3:y.cells=#[c3])(h4:z.cells=#[c4]):FN 161 [(0,u),(1,v),(2,x),(3,y),(5,z)] [c0,c1,c2,c3,.bool false,c4]:=WB
theorem ZS(h0:u.cells=#[c0,c1])(h1:v.cells=#[c2,c3,c4,c5,c6,c7]):FN 167 [(0,u),(1,v)] [c0,c1,c2,c3,c4,c5,c6,c7]:=WB
theorem kG(h0:u.cells=#[c0])(h1:v.cells=#[c1])(h2:x.cells=#[c2]):FN 176 [(0,u),(1,v),(2,x)] [c0,c1,c2]:=WB
theorem zm(h0:u.cells=#[c0,c1,c2])(h1:v.cells=#[c3,c4,c5]):FN 178 [(0,u),(1,v)] [c0,c1,c2,c3,c4,c5]:=WB
theorem ZA(h0:u.cells=#[c0,c1])(h1:v.cells=#[c2,c3,c4]):FN 182 [(0,u),(1,v)] [c0,c1,c2,c3,c4]:=WB
theorem Vv:D8 23 0 [] 41 []:=wM
theorem qe(h0:u.cells=#[c0]):D8 23 1 [(0,u)] 41 [c0]:=wM
theorem Yl(h0:u.cells=#[c0])(h1:v.cells=#[c1])(h2:x.cells=#[c2]):D8 23 3 [(0,u),(1,v),(2,x)] 41 [c0,c1,c2]:=wM
theorem Ll(h0:u.cells=#[c0]):D8 27 1 [(0,u)] 2 [c0]:=wM
theorem wW(h0:u.cells=#[c0])(h1:v.cells=#[c1])(h2:x.cells=#[c2])(h3:y.cells=#[c3])(h4:z.cells=#[c4]):D8 27 5 [(0,u),(1,v),(2,x),(3,y),(4,z)] 2 [c0,c1,c2,c3,c4]:=wM
theorem zo(h0:u.cells=#[c0]):D8 30 1 [(0,u)] 25 [c0]:=wM
theorem Vc:D8 39 0 [] 36 []:=wM
theorem qq(h0:u.cells=#[c0,c1]):D8 39 1 [(0,u)] 36 [c0,c1]:=wM
theorem wh(h0:u.cells=#[c0,c1])(h1:v.cells=#[c2,c3]):D8 39 2 [(0,u),(1,v)] 36 [c0,c1,c2,c3]:=wM
theorem zn(h0:u.cells=#[c0,c1])(h1:v.cells=#[c2,c3])(h2:x.cells=#[c4,c5]):D8 39 3 [(0,u),(1,v),(2,x)] 36 [c0,c1,c2,c3,c4,c5]:=wM
theorem kt(h0:u.cells=#[c0,c1])(h1:v.cells=#[c2,c3])(h2:x.cells=#[c4,c5])(h3:y.cells=#[c6,c7]):D8 39 4 [(0,u),(1,v),(2,x),(3,y)] 36 [c0,c1,c2,c3,c4,c5,c6,c7]:=wM
theorem KZ(h0:u.cells=#[c0,c1,c2,c3]):D8 52 1 [(0,u)] 72 [c0,c1,c2,c3]:=wM
theorem ZC:D8 73 0 [] 101 []:=wM
theorem WC(h0:u.cells=#[c0,c1,c2,c3]):D8 73 1 [(0,u)] 101 [c0,c1,c2,c3]:=wM
theorem ZU:D8 83 0 [] 109 []:=wM
theorem zp(h0:u.cells=#[c0,c1,c2,c3,c4,c5,c6,c7]):D8 83 1 [(0,u)] 109 [c0,c1,c2,c3,c4,c5,c6,c7]:=wM
theorem wX(h0:u.cells=#[c0])(h1:v.cells=#[c1]):D8 143 2 [(0,u),(1,v)] 52 [c0,c1]:=wM
theorem Bf(h0:u.cells=#[c0]):D8 154 1 [(0,u)] 3 [c0]:=wM
theorem uz:D8 159 0 [] 167 []:=wM
theorem YG(h0:u.cells=#[c0,c1,c2,c3,c4,c5,c6,c7]):D8 159 1 [(0,u)] 167 [c0,c1,c2,c3,c4,c5,c6,c7]:=wM
theorem Ym(h0:u.cells=#[c0,c1,c2,c3,c4]):D8 174 1 [(0,u)] 182 [c0,c1,c2,c3,c4]:=wM
theorem YF(h0:u.cells=#[c0])(h1:v.cells=#[c1]):D8 205 2 [(0,u),(1,v)] 39 [c0,c1]:=wM
end
theorem VP{env:List (Nat×Value)}{x y:Operand}(ho:o.op=.binOp .eql 36 x y T')(hx:ev env x=some (.agg #[.int .i64 a0,.int .i64 a1]))(hy:ev env y=some (.agg #[.int .i64 b0,.int .i64 b1])):Qt Tryz.prog o n env w0 Rs (.bool ((a0==b0) && (a1==b1))):=
 kd λa w hF _=>by
  unfold execOp;simp only[ho,hF.ev hx,hF.ev hy];cases h0:(a0==b0);all_goals cases h1:(a1==b1)
  all_goals simp[go_sem, *]
theorem vE{env:List (Nat×Value)}{x y:Operand}(ho:o.op=.binOp .neq 36 x y T')(hx:ev env x=some (.agg #[.int .i64 a0,.int .i64 a1]))(hy:ev env y=some (.agg #[.int .i64 b0,.int .i64 b1])):Qt Tryz.prog o n env w0 Rs (.bool (!((a0==b0) && (a1==b1)))):=
 kd λa w hF _=>by
  unfold execOp;simp only[ho,hF.ev hx,hF.ev hy];cases h0:(a0==b0);all_goals cases h1:(a1==b1)
  all_goals simp[go_sem, *]
theorem u7{env:List (Nat×Value)}{x y:Operand}{a2 a3 b2 b3:Int}(ho:o.op=.binOp .eql 72 x y T')(hx:ev env x=some (.agg #[.int .i64 a0,.int .i64 a1,.int .i64 a2,.int .i64 a3]))(hy:ev env y=some (.agg #[.int .i64 b0,.int .i64 b1,.int .i64 b2,.int .i64 b3])):Qt Tryz.prog o n env w0 Rs (.bool ((a0==b0) && (a1==b1) && (a2==b2) && (a3==b3))):=
 kd λa w hF _=>by
  unfold execOp;simp only[ho,hF.ev hx,hF.ev hy];cases h0:(a0==b0);all_goals cases h1:(a1==b1);all_goals cases h2:(a2==b2);all_goals cases h3:(a3==b3)
  all_goals simp[go_sem, *]
theorem LW{env:List (Nat×Value)}{x y:Operand}{a2 a3 b2 b3:Int}(ho:o.op=.binOp .neq 72 x y T')(hx:ev env x=some (.agg #[.int .i64 a0,.int .i64 a1,.int .i64 a2,.int .i64 a3]))(hy:ev env y=some (.agg #[.int .i64 b0,.int .i64 b1,.int .i64 b2,.int .i64 b3])):Qt Tryz.prog o n env w0 Rs (.bool (!((a0==b0) && (a1==b1) && (a2==b2) && (a3==b3)))):=
 kd λa w hF _=>by
  unfold execOp;simp only[ho,hF.ev hx,hF.ev hy];cases h0:(a0==b0);all_goals cases h1:(a1==b1);all_goals cases h2:(a2==b2);all_goals cases h3:(a3==b3)
  all_goals simp[go_sem, *]
theorem xq{env:List (Nat×Value)}{x y:Operand}{a2 a3 b2 b3:Int}(ho:o.op=.binOp .neq 101 x y T')(hx:ev env x=some (.agg #[.int .i64 a0,.int .i64 a1,.int .i64 a2,.int .i64 a3]))(hy:ev env y=some (.agg #[.int .i64 b0,.int .i64 b1,.int .i64 b2,.int .i64 b3])):Qt Tryz.prog o n env w0 Rs (.bool (!((a0==b0) && (a1==b1) && (a2==b2) && (a3==b3)))):=
 kd λa w hF _=>by
  unfold execOp;simp only[ho,hF.ev hx,hF.ev hy];cases h0:(a0==b0);all_goals cases h1:(a1==b1);all_goals cases h2:(a2==b2);all_goals cases h3:(a3==b3)
  all_goals simp[go_sem, *]
theorem mixed:Tryz.prog.follows .mixedOrders=true:=by kernel_rfl
theorem tzA(h:p:=by first|exact jp|exact jG|exact Jl|exact qf|exact qp|exact qT|exact kZ|exact Q2|exact kE|exact Kz|exact kO|exact Qe):p:=h
section
variable{P:Program}{n:Nat}{env:List (Nat×Value)}{w0:Bs}{Rs:List Res}{ops:Array Oper}{Q:Exit->Act->World->Prop}{K:Act->World->Prop}{o:Oper}
theorem qlS{x:Operand}{b off:Nat}(ho:o.op=.load T x)(hx:ev env x=some (.pointer (some ⟨b,off,none⟩)))(hT:TyS P T m)(hc:∀w,St w0 Rs w->∀j v,cs[j]? =some v->w.cell? ⟨b,off+j,none⟩=some v)(hl:cs.length=m):Qt P o n env w0 Rs (.agg cs.toArray):=jj ho hx hT hl hc
def pqV(env:List (Nat×Value)):Op->Option Value
  |.move x=>ev env x
  |.assign x=>ev env x
  |.nilCheck x=>match ev env x with
    |some (.pointer (some p))=>some (.pointer (some p))
    |_=>none
  |.extract x i=>match ev env x with
    |some (.tuple vs)=>vs.toList[i]?
    |_=>none
  |.pick c x y=>match ev env c with
    |some (.bool true)=>ev env x
    |some (.bool false)=>ev env y
    |_=>none
  |.binOp b _ x y _=>match ev env x,ev env y with
    |some (.int .i64 p),some (.int .i64 q)=>match b with
      |.lss=>some (.bool (decide (p<q)))
      |.leq=>some (.bool (decide (p<=q)))
      |.gtr=>some (.bool (decide (q<p)))
      |.geq=>some (.bool (decide (q<=p)))
      |.eql=>some (.bool (p==q))
      |.neq=>some (.bool (!(p==q)))
      |_=>none
    |_,_=>none
  |.unOp .not _ x=>match ev env x with
    |some (.bool p)=>some (.bool (!p))
    |_=>none
  |_=>none
theorem jlI(h:pqV env o.op=some v):Qt P o n env w0 Rs v:=by
 unfold pqV at h;split at h
 .rename_i x ho;exact ja ho h
 .rename_i x ho;exact jd ho h
 .rename_i x ho;split at h
  .rename_i p hx;injection h with h;subst h;exact Jj ho hx
  .cases h
 .rename_i x i ho;split at h
  .rename_i vs hx;exact JE (vs:=vs.toList) ho hx h
  .cases h
 .rename_i c x y ho;split at h
  .rename_i hc;exact Jp ho hc h
  .rename_i hc;exact jP ho hc h
  .cases h
 .rename_i b T x y T' ho;split at h
  .rename_i p q hx hy;split at h
   .injection h with h;subst h;exact Ju ho hx hy
   .injection h with h;subst h;exact kT ho hx hy
   .injection h with h;subst h;exact qO ho hx hy
   .injection h with h;subst h;exact xp ho hx hy
   .injection h with h;subst h;exact qE ho hx hy
   .injection h with h;subst h;exact KW ho hx hy
   .cases h
  .cases h
 .rename_i T x ho;split at h
  .rename_i p hx;injection h with h;subst h;exact Qu ho hx
  .cases h
 .cases h
end
section
variable{P:Program}{n:Nat}{env:List (Nat×Value)}{w0:Bs}{Rs:List Res}{ops:Array Oper}{Q:Exit->Act->World->Prop}{K:Act->World->Prop}{o:Oper}
theorem jA{T U:Nat}{x y:Operand}{b:Nat}{vs:List Value}(k:Nat)(h:At n env w0 (Rs.set k (.cel b U vs)) K)(ho:o.op=.store T x y:=by exact rfl)(hd:o.dst=none:=by exact rfl)(hx:ev env x=some (.pointer (some ⟨b,0,none⟩)):=by exact rfl)(hk:Rs[k]? =some (.cel b U cs):=by exact rfl)(hz:(P.info? T).map (·.size)=some m:=by exact TyZ.szx tzA)(hy:ev env y=some v:=by exact rfl)(hv:v.cells=vs.toArray:=by exact rfl)(h1:vs.all (·.oneCell')=true:=by rfl)(hm:vs.length=m:=by exact rfl)(hl:cs.length=m:=by exact rfl):At n env w0 Rs (λa w=>o.wp P a w K Q):=j9 k hz h ho hd hx hy hv h1 hm hk hl
end
theorem qA9(h:p:=by first|exact jlI rfl|exact qlS rfl rfl (by first|exact jk|exact jD|exact Jz|exact QU|exact qF|exact qB|exact wL|exact VJ|exact vf) (by first|exact jZ (k:=0) rfl|exact jZ (k:=1) rfl|exact jZ (k:=2) rfl|exact jZ (k:=3) rfl|exact jZ (k:=4) rfl|exact jZ (k:=5) rfl|exact jZ (k:=6) rfl|exact jZ (k:=7) rfl|exact jZ (k:=8) rfl|exact jZ (k:=9) rfl) (by rfl)|exact qlS rfl rfl (by first|exact jk|exact jD|exact Jz|exact QU|exact qF|exact qB|exact wL|exact VJ|exact vf) (by first|exact y8 (k:=0) rfl rfl rfl|exact y8 (k:=1) rfl rfl rfl|exact y8 (k:=2) rfl rfl rfl|exact y8 (k:=3) rfl rfl rfl|exact y8 (k:=4) rfl rfl rfl|exact y8 (k:=5) rfl rfl rfl|exact y8 (k:=6) rfl rfl rfl|exact y8 (k:=7) rfl rfl rfl|exact y8 (k:=8) rfl rfl rfl|exact y8 (k:=9) rfl rfl rfl) (by rfl)|exact qlS rfl rfl (by first|exact jk|exact jD|exact Jz|exact QU|exact qF|exact qB|exact wL|exact VJ|exact vf) (by first|exact rd3 (k:=0) rfl rfl rfl rfl|exact rd3 (k:=1) rfl rfl rfl rfl|exact rd3 (k:=2) rfl rfl rfl rfl|exact rd3 (k:=3) rfl rfl rfl rfl|exact rd3 (k:=4) rfl rfl rfl rfl|exact rd3 (k:=5) rfl rfl rfl rfl|exact rd3 (k:=6) rfl rfl rfl rfl|exact rd3 (k:=7) rfl rfl rfl rfl|exact rd3 (k:=8) rfl rfl rfl rfl|exact rd3 (k:=9) rfl rfl rfl rfl) (by rfl)|exact jn rfl rfl (by first|exact ju|exact JA|exact JH|exact QT|exact z8|exact U3|exact Zb) (by first|exact qr (k:=0) rfl rfl|exact qr (k:=1) rfl rfl|exact qr (k:=2) rfl rfl|exact qr (k:=3) rfl rfl|exact qr (k:=4) rfl rfl|exact qr (k:=5) rfl rfl|exact qr (k:=6) rfl rfl|exact qr (k:=7) rfl rfl|exact qr (k:=8) rfl rfl|exact qr (k:=9) rfl rfl)|exact VP rfl rfl rfl|exact u7 rfl rfl rfl|exact jf rfl rfl (by first|exact jJ|exact jU|exact Jq|exact Jw|exact qn|exact qk|exact JO|exact JL|exact QG|exact QH|exact kh|exact kC|exact kD|exact KS|exact KT|exact Qs|exact Kj|exact Kk|exact KR|exact Ky|exact vr|exact vt|exact VD|exact VE|exact vP|exact VF|exact V6|exact um|exact un|exact Y5|exact Y6|exact Gy|exact Gx|exact Xq)|exact JN rfl rfl (by first|exact jw|exact jC|exact jV|exact JF|exact uq|exact VH|exact wK|exact wa|exact JM|exact VG|exact JI|exact Qm|exact Gz)|exact jQ rfl rfl rfl (by first|exact jw|exact jC|exact jV|exact JF|exact uq|exact VH|exact wK|exact wa|exact JM|exact VG|exact JI|exact Qm|exact Gz) Om|exact vE rfl rfl rfl|exact LW rfl rfl rfl|exact jR rfl rfl rfl Om Om|exact JP rfl rfl rfl Om Om|exact qZ rfl rfl rfl Om Om):p:=h
section
variable{P:Program}{n:Nat}{env:List (Nat×Value)}{w0:Bs}{Rs:List Res}{ops:Array Oper}{Q:Exit->Act->World->Prop}{K:Act->World->Prop}{o:Oper}
theorem uw(ks:List Nat){X:List Res}(e:Rs0++X=wks ks Rs):∀w,St w0 Rs w->St w0 Rs0 w:=λw h=>(h.wk ks).upto (e▸jlH Rs0 X)
theorem aA9(h:At n ((d,v)::env) w0 Rs (λa w=>wpList P ops Q rest a w))(hg:o.guard=none:=by exact rfl)(hd:o.dst=some d:=by exact rfl)(hn:d<n:=by decide)(hq:Qt P o n env w0 Rs v:=by exact qA9):At n env w0 Rs (λa w=>wpList P ops Q (o::rest) a w):=jc hg hd hn hq h
theorem oA9(h:At n ((d,v)::env) w0 Rs K)(hd:o.dst=some d:=by exact rfl)(hn:d<n:=by decide)(hq:Qt P o n env w0 Rs v:=by exact qA9):At n env w0 Rs (λa w=>o.wp P a w K Q):=Jo hd hn hq h
theorem suA(h:p:=by first|exact u9 rfl|exact uw [0] rfl|exact uw [1] rfl|exact uw [2] rfl|exact uw [3] rfl|exact uw [4] rfl|exact uw [5] rfl|exact uw [6] rfl|exact uw [7] rfl|exact uw [8] rfl|exact uw [9] rfl):p:=h
theorem dK(i:Nat)(h:At n ((d,v)::env) w0 Rs (λa w=>Qv P .any ops Q (yI w0 Rs0) f fuel (listed.setIfInBounds i true) a w))(hi:ops[i]? =some o:=by exact rfl)(hsub:∀w,St w0 Rs w->St w0 Rs0 w:=by exact suA)(hg:o.guard=none:=by exact rfl)(hd:o.dst=some d:=by exact rfl)(hn:d<n:=by decide)(hS:Region.noSelect ops=true:=by kernel_rfl)(hfr:Region.free .any ops listed i=true:=by kernel_rfl)(hrd:(Region.ready .any ops listed).contains i=true:=by kernel_rfl)(hfi:(vY .any ops listed i [] f&&i !=f)=true:=by kernel_rfl)(hq:Qt P o n env w0 Rs0 v:=by exact qA9)(hQ:∀c a w,Q (.panic c) (a.put o.dst v) w->Q (.panic c) a w:=by exact λ_ _ _ h=>h):At n env w0 Rs (λa w=>Qv P .any ops Q (yI w0 Rs0) f (fuel+1) listed a w):=d9 i hi [] hsub hq h hg hd hn hS hfr hrd hfi hQ
theorem eK(i:Nat)(h:At n ((d,v)::env) w0 Rs (λa w=>Qv P .any ops Q (yI w0 Rs0) f fuel (listed.setIfInBounds i true) a w))(hi:ops[i]? =some o:=by exact rfl)(hsub:∀w,St w0 Rs w->St w0 Rs0 w:=by exact suA)(hg:o.guard=some (j,c):=by exact rfl)(hj:ops[j]? =some oj:=by exact rfl)(hdj:oj.dst=some dj:=by exact rfl)(hb:look env dj=some (.bool c):=by exact rfl)(hd:o.dst=some d:=by exact rfl)(hn:d<n:=by decide)(hS:Region.noSelect ops=true:=by kernel_rfl)(hfr:Region.free .any ops listed i=true:=by kernel_rfl)(hrd:(Region.ready .any ops listed).contains i=true:=by kernel_rfl)(hfi:(vY .any ops listed i [] f&&i !=f)=true:=by kernel_rfl)(hq:Qt P o n env w0 Rs0 v:=by exact qA9)(hQ:∀c a w,Q (.panic c) (a.put o.dst v) w->Q (.panic c) a w:=by exact λ_ _ _ h=>h):At n env w0 Rs (λa w=>Qv P .any ops Q (yI w0 Rs0) f (fuel+1) listed a w):=e9 i hi [] hsub hq h hg hj hdj hb hd hn hS hfr hrd hfi hQ
theorem fK{b:Bool}(i:Nat)(h:At n ((d,undef)::env) w0 Rs (λa w=>Qv P .any ops Q (yI w0 Rs0) f fuel (listed.setIfInBounds i true) a w))(hi:ops[i]? =some o:=by exact rfl)(hsub:∀w,St w0 Rs w->St w0 Rs0 w:=by exact suA)(hg:o.guard=some (j,c):=by exact rfl)(hj:ops[j]? =some oj:=by exact rfl)(hdj:oj.dst=some dj:=by exact rfl)(hb:look env dj=some (.bool b):=by exact rfl)(hne:b≠c:=by decide)(hd:o.dst=some d:=by exact rfl)(hn:d<n:=by decide)(hS:Region.noSelect ops=true:=by kernel_rfl)(hfr:Region.free .any ops listed i=true:=by kernel_rfl)(hrd:(Region.ready .any ops listed).contains i=true:=by kernel_rfl)(hfi:(vY .any ops listed i [] f&&i !=f)=true:=by kernel_rfl)(hQ:∀c a w,Q (.panic c) (a.put o.dst undef) w->Q (.panic c) a w:=by exact λ_ _ _ h=>h):At n env w0 Rs (λa w=>Qv P .any ops Q (yI w0 Rs0) f (fuel+1) listed a w):=f9 i hi [] hsub h hg hj hdj hb hne hd hn hS hfr hrd hfi hQ
theorem dV(i:Nat)(ms:List Nat)(h:At n ((d,v)::env) w0 Rs (λa w=>Qv P .any ops Q (yI w0 Rs0) f fuel (listed.setIfInBounds i true) a w))(hi:ops[i]? =some o:=by exact rfl)(hsub:∀w,St w0 Rs w->St w0 Rs0 w:=by exact suA)(hg:o.guard=none:=by exact rfl)(hd:o.dst=some d:=by exact rfl)(hn:d<n:=by decide)(hS:Region.noSelect ops=true:=by kernel_rfl)(hfr:Region.free .any ops listed i=true:=by kernel_rfl)(hrd:(Region.ready .any ops listed).contains i=true:=by kernel_rfl)(hfi:(vY .any ops listed i ms f&&i !=f)=true:=by kernel_rfl)(hq:Qt P o n env w0 Rs0 v:=by exact qA9)(hQ:∀c a w,Q (.panic c) (a.put o.dst v) w->Q (.panic c) a w:=by exact λ_ _ _ h=>h):At n env w0 Rs (λa w=>Qv P .any ops Q (yI w0 Rs0) f (fuel+1) listed a w):=d9 i hi ms hsub hq h hg hd hn hS hfr hrd hfi hQ
theorem eV(i:Nat)(ms:List Nat)(h:At n ((d,v)::env) w0 Rs (λa w=>Qv P .any ops Q (yI w0 Rs0) f fuel (listed.setIfInBounds i true) a w))(hi:ops[i]? =some o:=by exact rfl)(hsub:∀w,St w0 Rs w->St w0 Rs0 w:=by exact suA)(hg:o.guard=some (j,c):=by exact rfl)(hj:ops[j]? =some oj:=by exact rfl)(hdj:oj.dst=some dj:=by exact rfl)(hb:look env dj=some (.bool c):=by exact rfl)(hd:o.dst=some d:=by exact rfl)(hn:d<n:=by decide)(hS:Region.noSelect ops=true:=by kernel_rfl)(hfr:Region.free .any ops listed i=true:=by kernel_rfl)(hrd:(Region.ready .any ops listed).contains i=true:=by kernel_rfl)(hfi:(vY .any ops listed i ms f&&i !=f)=true:=by kernel_rfl)(hq:Qt P o n env w0 Rs0 v:=by exact qA9)(hQ:∀c a w,Q (.panic c) (a.put o.dst v) w->Q (.panic c) a w:=by exact λ_ _ _ h=>h):At n env w0 Rs (λa w=>Qv P .any ops Q (yI w0 Rs0) f (fuel+1) listed a w):=e9 i hi ms hsub hq h hg hj hdj hb hd hn hS hfr hrd hfi hQ
theorem fV{b:Bool}(i:Nat)(ms:List Nat)(h:At n ((d,undef)::env) w0 Rs (λa w=>Qv P .any ops Q (yI w0 Rs0) f fuel (listed.setIfInBounds i true) a w))(hi:ops[i]? =some o:=by exact rfl)(hsub:∀w,St w0 Rs w->St w0 Rs0 w:=by exact suA)(hg:o.guard=some (j,c):=by exact rfl)(hj:ops[j]? =some oj:=by exact rfl)(hdj:oj.dst=some dj:=by exact rfl)(hb:look env dj=some (.bool b):=by exact rfl)(hne:b≠c:=by decide)(hd:o.dst=some d:=by exact rfl)(hn:d<n:=by decide)(hS:Region.noSelect ops=true:=by kernel_rfl)(hfr:Region.free .any ops listed i=true:=by kernel_rfl)(hrd:(Region.ready .any ops listed).contains i=true:=by kernel_rfl)(hfi:(vY .any ops listed i ms f&&i !=f)=true:=by kernel_rfl)(hQ:∀c a w,Q (.panic c) (a.put o.dst undef) w->Q (.panic c) a w:=by exact λ_ _ _ h=>h):At n env w0 Rs (λa w=>Qv P .any ops Q (yI w0 Rs0) f (fuel+1) listed a w):=f9 i hi ms hsub h hg hj hdj hb hne hd hn hS hfr hrd hfi hQ
theorem dZ(i:Nat)(hi:ops[i]? =some o)(hq:Qt P o n env w0 Rs0 v)(h:At n ((d,v)::env) w0 Rs (λa w=>Qv P .any ops Q (yI w0 Rs0) f fuel (listed.setIfInBounds i true) a w))(hsub:∀w,St w0 Rs w->St w0 Rs0 w:=by exact suA)(hg:o.guard=none:=by exact rfl)(hd:o.dst=some d:=by exact rfl)(hn:d<n:=by decide)(hS:Region.noSelect ops=true:=by kernel_rfl)(hfr:Region.free .any ops listed i=true:=by kernel_rfl)(hrd:(Region.ready .any ops listed).contains i=true:=by kernel_rfl)(hfi:(vY .any ops listed i [] f&&i !=f)=true:=by kernel_rfl)(hQ:∀c a w,Q (.panic c) (a.put o.dst v) w->Q (.panic c) a w:=by exact λ_ _ _ h=>h):At n env w0 Rs (λa w=>Qv P .any ops Q (yI w0 Rs0) f (fuel+1) listed a w):=d9 i hi [] hsub hq h hg hd hn hS hfr hrd hfi hQ
theorem eZ(i:Nat)(hi:ops[i]? =some o)(hq:Qt P o n env w0 Rs0 v)(h:At n ((d,v)::env) w0 Rs (λa w=>Qv P .any ops Q (yI w0 Rs0) f fuel (listed.setIfInBounds i true) a w))(hsub:∀w,St w0 Rs w->St w0 Rs0 w:=by exact suA)(hg:o.guard=some (j,c):=by exact rfl)(hj:ops[j]? =some oj:=by exact rfl)(hdj:oj.dst=some dj:=by exact rfl)(hb:look env dj=some (.bool c):=by exact rfl)(hd:o.dst=some d:=by exact rfl)(hn:d<n:=by decide)(hS:Region.noSelect ops=true:=by kernel_rfl)(hfr:Region.free .any ops listed i=true:=by kernel_rfl)(hrd:(Region.ready .any ops listed).contains i=true:=by kernel_rfl)(hfi:(vY .any ops listed i [] f&&i !=f)=true:=by kernel_rfl)(hQ:∀c a w,Q (.panic c) (a.put o.dst v) w->Q (.panic c) a w:=by exact λ_ _ _ h=>h):At n env w0 Rs (λa w=>Qv P .any ops Q (yI w0 Rs0) f (fuel+1) listed a w):=e9 i hi [] hsub hq h hg hj hdj hb hd hn hS hfr hrd hfi hQ
theorem aL{q:Nat}(h:∀b,At n ((d,.pointer (some ⟨b,0,none⟩))::env) w0 (Rs++[.cel b T z.cells.toList]) K)(ho:o.op=.alloc T:=by exact rfl)(hz:TyZ P T m q z:=by exact tzA)(hd:o.dst=some d:=by exact rfl)(hn:d<n:=by exact lb rfl):At n env w0 Rs (λa w=>o.wp P a w K Q):=Ji ho hz hd hn h
theorem aX{x:Operand}(h:∀b,At n ((d,.pointer (some ⟨b,0,none⟩))::env) w0 (Rs++[.cel b T cs]) K)(ho:o.op=.box T x:=by exact rfl)(hx:ev env x=some v:=by exact rfl)(hv:v.cells=cs.toArray:=by exact rfl)(hd:o.dst=some d:=by exact rfl)(hn:d<n:=by exact lb rfl):At n env w0 Rs (λa w=>o.wp P a w K Q):=JX ho hx hv hd hn h
end
structure Hk (B:Prop):Prop where
  o:B
theorem S1(h:B)(s:Hk B->A:=by intro h;(first|with_reducible refine je ?_|with_reducible refine jb ?_|with_reducible refine jg ?_|with_reducible refine jh ?_|refine aA9 ?_|refine g9 ?_|refine h9 ?_|refine oA9 ?_|refine jq (λh=>by cases h) ?_|with_reducible refine jz ?_|with_reducible refine jv ?_|with_reducible refine jE ?_|with_reducible refine js ?_|with_reducible refine jY ?_|with_reducible refine J0 ?_|with_reducible refine Jr ?_|refine LV Dc ?_|with_reducible refine JB ?_|with_reducible refine JZ ?_|refine jdD rfl rfl ?_|refine Un rfl rfl ?_|refine JJ mixed rfl ?_|refine jm rfl ?_|refine qR rfl rfl rfl rfl rfl Dc ?_|(refine jA 0 ?_;refine n9 ?_)|(refine jA 1 ?_;refine n9 ?_)|(refine jA 2 ?_;refine n9 ?_)|(refine jA 3 ?_;refine n9 ?_)|(refine jA 4 ?_;refine n9 ?_)|(refine jA 5 ?_;refine n9 ?_)|(refine jA 6 ?_;refine n9 ?_)|(refine jA 7 ?_;refine n9 ?_)|(refine jA 8 ?_;refine n9 ?_)|(refine jA 9 ?_;refine n9 ?_));exact h.o):A:=s ⟨h⟩
theorem S2(h:B)(s:Hk B->A:=by intro h;(iterate 2 refine S1 ?_);exact h.o):A:=s ⟨h⟩
theorem S3(h:B)(s:Hk B->A:=by intro h;(iterate 3 refine S1 ?_);exact h.o):A:=s ⟨h⟩
theorem S4(h:B)(s:Hk B->A:=by intro h;(iterate 4 refine S1 ?_);exact h.o):A:=s ⟨h⟩
theorem S5(h:B)(s:Hk B->A:=by intro h;(iterate 5 refine S1 ?_);exact h.o):A:=s ⟨h⟩
theorem S6(h:B)(s:Hk B->A:=by intro h;(iterate 6 refine S1 ?_);exact h.o):A:=s ⟨h⟩
theorem S7(h:B)(s:Hk B->A:=by intro h;(iterate 7 refine S1 ?_);exact h.o):A:=s ⟨h⟩
theorem S8(h:B)(s:Hk B->A:=by intro h;(iterate 8 refine S1 ?_);exact h.o):A:=s ⟨h⟩
theorem S9(h:B)(s:Hk B->A:=by intro h;(iterate 9 refine S1 ?_);exact h.o):A:=s ⟨h⟩
theorem S10(h:B)(s:Hk B->A:=by intro h;(iterate 10 refine S1 ?_);exact h.o):A:=s ⟨h⟩
theorem S11(h:B)(s:Hk B->A:=by intro h;(iterate 11 refine S1 ?_);exact h.o):A:=s ⟨h⟩
theorem S12(h:B)(s:Hk B->A:=by intro h;(iterate 12 refine S1 ?_);exact h.o):A:=s ⟨h⟩
theorem S13(h:B)(s:Hk B->A:=by intro h;(iterate 13 refine S1 ?_);exact h.o):A:=s ⟨h⟩
theorem S14(h:B)(s:Hk B->A:=by intro h;(iterate 14 refine S1 ?_);exact h.o):A:=s ⟨h⟩
theorem S15(h:B)(s:Hk B->A:=by intro h;(iterate 15 refine S1 ?_);exact h.o):A:=s ⟨h⟩
theorem S16(h:B)(s:Hk B->A:=by intro h;(iterate 16 refine S1 ?_);exact h.o):A:=s ⟨h⟩
theorem S18(h:B)(s:Hk B->A:=by intro h;(iterate 18 refine S1 ?_);exact h.o):A:=s ⟨h⟩
theorem S19(h:B)(s:Hk B->A:=by intro h;(iterate 19 refine S1 ?_);exact h.o):A:=s ⟨h⟩
theorem S20(h:B)(s:Hk B->A:=by intro h;(iterate 20 refine S1 ?_);exact h.o):A:=s ⟨h⟩
theorem S22(h:B)(s:Hk B->A:=by intro h;(iterate 22 refine S1 ?_);exact h.o):A:=s ⟨h⟩
theorem S24(h:B)(s:Hk B->A:=by intro h;(iterate 24 refine S1 ?_);exact h.o):A:=s ⟨h⟩
theorem S26(h:B)(s:Hk B->A:=by intro h;(iterate 26 refine S1 ?_);exact h.o):A:=s ⟨h⟩
theorem S27(h:B)(s:Hk B->A:=by intro h;(iterate 27 refine S1 ?_);exact h.o):A:=s ⟨h⟩
theorem S32(h:B)(s:Hk B->A:=by intro h;(iterate 32 refine S1 ?_);exact h.o):A:=s ⟨h⟩
theorem S42(h:B)(s:Hk B->A:=by intro h;(iterate 42 refine S1 ?_);exact h.o):A:=s ⟨h⟩
theorem N1(h:B)(s:Hk B->A:=by intro h;refine n9 ?_;(iterate 1 refine S1 ?_);exact h.o):A:=s ⟨h⟩
theorem N2(h:B)(s:Hk B->A:=by intro h;refine n9 ?_;(iterate 2 refine S1 ?_);exact h.o):A:=s ⟨h⟩
theorem N3(h:B)(s:Hk B->A:=by intro h;refine n9 ?_;(iterate 3 refine S1 ?_);exact h.o):A:=s ⟨h⟩
theorem N4(h:B)(s:Hk B->A:=by intro h;refine n9 ?_;(iterate 4 refine S1 ?_);exact h.o):A:=s ⟨h⟩
theorem N5(h:B)(s:Hk B->A:=by intro h;refine n9 ?_;(iterate 5 refine S1 ?_);exact h.o):A:=s ⟨h⟩
theorem N6(h:B)(s:Hk B->A:=by intro h;refine n9 ?_;(iterate 6 refine S1 ?_);exact h.o):A:=s ⟨h⟩
theorem N7(h:B)(s:Hk B->A:=by intro h;refine n9 ?_;(iterate 7 refine S1 ?_);exact h.o):A:=s ⟨h⟩
theorem N8(h:B)(s:Hk B->A:=by intro h;refine n9 ?_;(iterate 8 refine S1 ?_);exact h.o):A:=s ⟨h⟩
theorem N9(h:B)(s:Hk B->A:=by intro h;refine n9 ?_;(iterate 9 refine S1 ?_);exact h.o):A:=s ⟨h⟩
theorem N10(h:B)(s:Hk B->A:=by intro h;refine n9 ?_;(iterate 10 refine S1 ?_);exact h.o):A:=s ⟨h⟩
theorem N11(h:B)(s:Hk B->A:=by intro h;refine n9 ?_;(iterate 11 refine S1 ?_);exact h.o):A:=s ⟨h⟩
theorem N12(h:B)(s:Hk B->A:=by intro h;refine n9 ?_;(iterate 12 refine S1 ?_);exact h.o):A:=s ⟨h⟩
theorem N13(h:B)(s:Hk B->A:=by intro h;refine n9 ?_;(iterate 13 refine S1 ?_);exact h.o):A:=s ⟨h⟩
theorem N14(h:B)(s:Hk B->A:=by intro h;refine n9 ?_;(iterate 14 refine S1 ?_);exact h.o):A:=s ⟨h⟩
theorem N15(h:B)(s:Hk B->A:=by intro h;refine n9 ?_;(iterate 15 refine S1 ?_);exact h.o):A:=s ⟨h⟩
theorem N16(h:B)(s:Hk B->A:=by intro h;refine n9 ?_;(iterate 16 refine S1 ?_);exact h.o):A:=s ⟨h⟩
theorem N17(h:B)(s:Hk B->A:=by intro h;refine n9 ?_;(iterate 17 refine S1 ?_);exact h.o):A:=s ⟨h⟩
theorem N19(h:B)(s:Hk B->A:=by intro h;refine n9 ?_;(iterate 19 refine S1 ?_);exact h.o):A:=s ⟨h⟩
theorem N20(h:B)(s:Hk B->A:=by intro h;refine n9 ?_;(iterate 20 refine S1 ?_);exact h.o):A:=s ⟨h⟩
theorem N22(h:B)(s:Hk B->A:=by intro h;refine n9 ?_;(iterate 22 refine S1 ?_);exact h.o):A:=s ⟨h⟩
theorem N23(h:B)(s:Hk B->A:=by intro h;refine n9 ?_;(iterate 23 refine S1 ?_);exact h.o):A:=s ⟨h⟩
theorem V1(h:B)(s:Hk B->A:=by intro h;refine v9 ?_;(iterate 1 refine S1 ?_);exact h.o):A:=s ⟨h⟩
theorem V2(h:B)(s:Hk B->A:=by intro h;refine v9 ?_;(iterate 2 refine S1 ?_);exact h.o):A:=s ⟨h⟩
theorem V3(h:B)(s:Hk B->A:=by intro h;refine v9 ?_;(iterate 3 refine S1 ?_);exact h.o):A:=s ⟨h⟩
theorem V5(h:B)(s:Hk B->A:=by intro h;refine v9 ?_;(iterate 5 refine S1 ?_);exact h.o):A:=s ⟨h⟩
theorem V7(h:B)(s:Hk B->A:=by intro h;refine v9 ?_;(iterate 7 refine S1 ?_);exact h.o):A:=s ⟨h⟩
theorem V8(h:B)(s:Hk B->A:=by intro h;refine v9 ?_;(iterate 8 refine S1 ?_);exact h.o):A:=s ⟨h⟩
theorem V9(h:B)(s:Hk B->A:=by intro h;refine v9 ?_;(iterate 9 refine S1 ?_);exact h.o):A:=s ⟨h⟩
theorem V14(h:B)(s:Hk B->A:=by intro h;refine v9 ?_;(iterate 14 refine S1 ?_);exact h.o):A:=s ⟨h⟩
theorem V15(h:B)(s:Hk B->A:=by intro h;refine v9 ?_;(iterate 15 refine S1 ?_);exact h.o):A:=s ⟨h⟩
end Go.Proofs.YtjbahemkhphndaaGreat
