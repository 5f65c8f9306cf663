import Derived.Test.YtjbahemkhphndaaGreatNTrQ
import Derived.Test.YtjbahemkhphndaaGreatNNetI
import Derived.Test.YtjbahemkhphndaaGreatNOrder
import Derived.Test.YtjbahemkhphndaaGreatNSnapB
set_option linter.unusedVariables false
set_option linter.unusedSimpArgs false
namespace Go.Proofs.YtjbahemkhphndaaGreat
open Go Go.RowKit
variable{B:List Leg}{K:Act->World->Prop}{S:Nat->Bool}{b:Option Nat}{cs:List Value}{env:List (Nat×Value)}{f i k n:Nat}{lt:Nat->Nat->Bool}{ps:List Pn}{r:Option Addr×Nat}{u u0:List Bool}{v:Pn}
set_option maxRecDepth 100000
set_option maxHeartbeats 4000000
theorem Ij(o a:Pn)(w:World):Calls Tryz.prog 123 #[pV o,pV a] w λe w'=>e=.returned (.int .i64 (U4 o a))/\Over w w':=by
 refine Jm (m:=24) (Tryz.func123) J J (lb J) ?_;refine S3 ?_;refine aX (λb1=>?_);refine N1 ?_;refine aX (λb2=>?_);refine N3 ?_;refine qH [(23,.bool (decide (a.2>o.2\/(a.2=o.2/\a.1>o.1))))] (kK [4]) (λL h_1=>?_) ?_
 .refine S7 ?_;refine cV 10 (λg1=>?_) (λg1=>?_)
  .refine S14 ?_;exact Jx h_1 ⟨vb (decide_eq_true (.inl Om)).symm,sz⟩ (u9 J)
  .refine S12 ?_;refine cV 16 (λg2=>?_) (λg2=>?_)
   .refine S14 ?_;exact Jx h_1 ⟨vb (by rw[jl8,decide_eq_true_iff,decide_eq_true_iff];omega),sz⟩ (u9 J)
   .refine S9 ?_;exact Jx h_1 ⟨vb (decide_eq_false Om).symm,sz⟩ (u9 J)
 .refine v9 ?_;refine cZ (λc1=>?_) (λc1=>?_)
  .refine S6 ?_;refine jK J (.tmp J) ?_;intro w' hs;exact⟨Y1 (by rw[U4,if_pos c1]),hs.fin⟩
  .refine S7 ?_;refine jK J (.tmp J) ?_;intro w' hs;exact⟨Y1 (by rw[U4,if_neg c1]),hs.fin⟩
theorem Z8(o a b:Pn)(w:World)(ho:bd2 o)(ha:bd2 a)(hb:bd2 b):Calls Tryz.prog 104 #[pV o,pV a,pV b] w λe w'=>e=.returned (.int .i64 (yb o a b))/\Over w w':=by
 have h1:=yO o a;have h2:=yO o b
 have h3:=jkr (tn o a b);refine Jm (m:=28) (Tryz.func104) J J (lb J) ?_;refine S3 ?_;refine aX (λb1=>?_);refine N1 ?_;refine aX (λb2=>?_);refine N1 ?_;refine aX (λb3=>?_);refine N6 ?_;refine a9 (jT Zq J J (λw1 hs=>Ij o a w1)) ?_;refine S6 ?_;refine a9 (jT Zq J J (λw1 hs=>Ij o b w1)) ?_;refine S9 ?_;refine cZ (λc1=>?_) (λc1=>?_)
 .refine S5 ?_;refine a9 (jT vD J J (λw1 hs=>WE _ w1)) ?_;refine S4 ?_;refine jK J (.tmp J) ?_;intro w' hs;exact⟨Y1 (by rw[yb,if_pos c1]),hs.fin⟩
 .refine S7 ?_;refine a9 (jT QV J J (λw1 hs=>uO o a b w1 ho ha hb)) ?_;refine a9 (jT vD J J (λw1 hs=>WE _ w1)) ?_;refine a9 (zN J J Om Om) ?_;refine S3 ?_;refine jK J (.tmp J) ?_;intro w' hs;exact⟨Y1 (by rw[yb,if_neg (by simpa using c1)]),hs.fin⟩
theorem MB(v f p q:Pn)(w:World)(hv:bd2 v)(hf:bd2 f)(hp:bd2 p)(hq:bd2 q):Calls Tryz.prog 91 #[pV v,pV f,pV p,pV q] w λe w'=>e=.returned (.bool (Ue v f p q))/\Over w w':=by
 refine Jm (m:=30) (Tryz.func91) J J (lb J) ?_;refine S3 ?_;refine aX (λb1=>?_);refine N1 ?_;refine aX (λb2=>?_);refine N1 ?_;refine aX (λb3=>?_);refine N1 ?_;refine aX (λb4=>?_);refine N7 ?_;refine a9 (jT ub J J (λw1 hs=>Z8 v p f w1 hv hp hf)) ?_;refine S8 ?_;refine a9 (jT ub J J (λw1 hs=>Z8 v q f w1 hv hq hf)) ?_;refine S8 ?_;refine a9 (Su DS J J J) ?_;refine S1 ?_;refine cZ (λc1=>?_) (λc1=>?_)
 .refine S7 ?_;refine jK J (.tmp J) ?_;intro w' hs;exact⟨Q4 (by rw[Ue,if_pos c1]),hs.fin⟩
 .refine S7 ?_;refine a9 (jT ub J J (λw1 hs=>Z8 v p q w1 hv hp hq)) ?_;refine S4 ?_;refine jK J (.tmp J) ?_;intro w' hs;exact⟨Q4 (by rw[Ue,if_neg (by simpa using c1)]),hs.fin⟩
def ZE:Option Nat->Int
 |none=> -1
 |some m=>(m:Int)
theorem YI(h:0<=ZE b):∃m,b=some m:=by
 cases b with
 |none=>simp[ZE] at h
 |some m=>exact⟨m,rfl⟩
theorem YH(h:ZE b<0):b=none:=by
 cases b with
 |none=>rfl
 |some m=>exact absurd (show(m:Int)<0 from h) (jmS.2 (Int.natCast_nonneg m))
abbrev boR(n:Nat)(u:List Bool)(x:Option Addr×Nat):Res:=JV 0 4 1 n (u.map Value.bool) x
theorem jjl(h:k<u.length):(u.map Value.bool)[k]? =some (.bool (WR u k)):=by simp[WR,List.getD,h]
section
variable{w0:Bs}{Rs:List Res}
theorem jif(hr:∀w,St w0 Rs w->(boR n u r).P w)(h:k<u.length):∀w,St w0 Rs w->w.cell? ⟨VK r.1,0+k*1,none⟩=some (.bool (WR u k)):=λw hs=>by
 rw[jmd,jmL];exact yw (hr w hs) (jjl h)
end
theorem jjo(h:WR u i=true):true= !(vF B u v i):=by simp[vF,h]
theorem jjp(h:WR u i=false):(!((lg B i).ax==v.1&& (lg B i).ay==v.2))= !(vF B u v i):=by
 have e:((lg B i).ax==v.1&& (lg B i).ay==v.2)=decide (lA (lg B i)=v):=by
  rw[jl8];simp[lA,Prod.ext_iff]
 rw[e,vF,h];rfl
theorem jip(h:S i=false):VW S lt (i+1)=VW S lt i:=by
 rw[VS];unfold MN;cases VW S lt i<;>simp[h]
def XI(lt:Nat->Nat->Bool)(b:Option Nat)(i:Nat):Bool:=match b with
 |none=>true
 |some m=>lt i m
theorem jcX(h:S i=true)(ht:XI lt (VW S lt i) i=true):VW S lt (i+1)=some i:=by
 rw[VS];unfold MN;unfold XI at ht;cases e:VW S lt i<;>rw[e] at ht<;>simp_all
theorem jcW(h:S i=true)(ht:XI lt (VW S lt i) i=false):VW S lt (i+1)=VW S lt i:=by
 rw[VS];unfold MN;unfold XI at ht;cases e:VW S lt i<;>rw[e] at ht<;>simp_all
theorem Fx(hok:∀l∈B,qK l)(h:k<B.length):bd2 (lA (lg B k))/\bd2 (lB (lg B k)):=by
 have:=ky hok h;exact⟨⟨this.1,this.2.1⟩,this.2.2.1,this.2.2.2⟩
theorem MA(A:Option Addr)(n c:Nat)(B:List Leg)(x:Option Addr×Nat)(u:List Bool)(a:Nat)(w:World)(h:Legs w A n B)(hok:∀l∈B,qK l)(hn:n<=1048576)(hu:(boR n u x).P w)(hul:u.length=n)(ha:a<n):
  Calls Tryz.prog 70 #[.slice A n c,.slice x.1 n x.2,.int .i64 (a:Int)] w λe w'=>e=.returned (.int .i64 (ZE (Zk B u a)))/\Over w w':=by
 have hl:=h.1;obtain⟨eb,eo,rfl,_⟩:=h.2 Om;obtain⟨hb1,hb2⟩:=Fx hok (show a<B.length by omega);obtain⟨S,hS⟩:∃S,S=vF B u (lB (lg B a)):=⟨_,rfl⟩;obtain⟨lt,hlt⟩:∃lt,lt=ltS B (lB (lg B a)) (lA (lg B a)):=⟨_,rfl⟩;refine Jm (m:=59) (Tryz.func70) J J (lb J) ?_;refine S8 ?_;refine a9 (jQ (j:=a) J J J JF Om) ?_;refine S1 ?_;refine a9 (jj J J jk J (Qg (λw' hs=>h.over hs.fin) ha)) ?_;refine S1 ?_;refine aL (λb1=>?_);refine N7 ?_;refine a9 (jQ (j:=a) J J J JF Om) ?_;refine S1 ?_;refine a9 (jj J J jk J (QB (λw' hs=>h.over hs.fin) ha)) ?_;refine S1 ?_;refine aL (λb2=>?_);refine N13 ?_;refine qD (X:=Nat) (λi=>i<=n) (λi=>n-i) (λi=>[(9,.int .i64 (ZE (VW S lt i))),(10,.int .i64 (i:Int))]) (kK [0,1,6,7,8]) 0 (jlN _) ⟨J,sz⟩ ?_;intro i hi L hL1;refine V8 ?_;refine cZ (λc1=>?_) (λc1=>?_)
 .have hil:i<n:=Om;obtain⟨hi1,hi2⟩:=Fx hok (show i<B.length by omega);refine S5 ?_;refine qH [(39,.bool (!(S i)))] (kK [0,1,6,7,8,9,10,21,22,23,24]) (λL h_7=>?_) ?_
  .refine S1 ?_;refine JY 13 ?_;refine dK 0 ?_;refine dK 1 ?_;refine dZ 2 J (qS (j:=i) (λw hs=>Qr hu hs.fin) J J J Vu hil) ?_;refine dZ 3 J (jn J J QT (jif (λw hs=>Qr hu hs.fin) Om)) ?_;refine dK 4 ?_;refine cV 31 (λg1=>?_) (λg1=>?_)
   .refine fK 5 ?_;refine fK 6 ?_;refine fK 7 ?_;refine fK 8 ?_;refine fK 9 ?_;refine fK 10 ?_;refine fK 11 ?_;refine dK 12 ?_;refine JK Kr ?_;refine S1 ?_;exact Jx h_7 ⟨vb (by rw[hS];exact jjo g1),sz⟩ (u9 J)
   .refine eK 5 ?_;refine eK 6 ?_;refine eZ 7 J (jQ (j:=i) J J J JF Om) ?_;refine eK 8 ?_;refine eZ 9 J (jj J J jk J (QB (λw' hs=>h.over hs.fin) hil)) ?_;refine eK 10 ?_;refine eK 11 ?_;refine dK 12 ?_;refine JK Kr ?_;refine S1 ?_;exact Jx h_7 ⟨vb (by rw[hS];exact jjp (v:=lB (lg B a)) g1),sz⟩ (u9 J)
  .refine v9 ?_;refine cZ (λc2=>?_) (λc2=>?_)
   .refine S9 ?_;exact J6 hL1 (i+1) Om Om ⟨vi (by rw[jip c2]),vi Om,sz⟩ (u9 J)
   .refine S2 ?_;refine qH [(56,.bool (XI lt (VW S lt i) i))] (kK [0,1,6,7,8,9,10,21,22,23,24,39]) (λL h_8=>?_) ?_
    .refine S1 ?_;refine JY 17 ?_;refine dK 0 ?_;refine dK 1 ?_;refine dK 2 ?_;refine cV 42 (λg2=>?_) (λg2=>?_)
     .refine fK 3 ?_;refine fK 4 ?_;refine fK 5 ?_;refine fK 6 ?_;refine fK 7 ?_;refine fK 8 ?_;refine fK 9 ?_;refine fK 10 ?_;refine fK 11 ?_;refine fK 12 ?_;refine fK 13 ?_;refine fK 14 ?_;refine fK 15 ?_;refine dK 16 ?_;refine JK Kr ?_;refine S1 ?_;exact Jx h_8 ⟨vb (by rw[YH g2];rfl),sz⟩ (u9 J)
     .obtain⟨m,hm⟩:=YI g2;have hmi:=(yx hm).1
      obtain⟨hm1,hm2⟩:=Fx hok (show m<B.length by omega);refine eK 3 ?_;refine eK 4 ?_;refine eK 5 ?_;refine eK 6 ?_;refine eZ 7 J (jQ (j:=i) J J J JF Om) ?_;refine eK 8 ?_;refine eZ 9 J (jj J J jk J (Qg (λw' hs=>h.over hs.fin) hil)) ?_;refine eK 10 ?_;refine eZ 11 J ((ja J J).as (congrArg _ (show ZE (VW S lt i)=((m:Nat):Int) by rw[hm];rfl))) ?_;refine eZ 12 J (jQ (j:=m) J J J JF Om) ?_;refine eK 13 ?_;refine eZ 14 J (jj J J jk J (Qg (j:=m) (λw' hs=>h.over hs.fin) Om)) ?_;refine eZ 15 J (jT y6 J J (λw1 hs=>MB (lB (lg B a)) (lA (lg B a)) (lB (lg B i)) (lB (lg B m)) w1 hb2 hb1 hi2 hm2)) ?_;refine dK 16 ?_;refine JK Kr ?_;refine S1 ?_;exact Jx h_8 ⟨vb (by rw[hm,hlt];rfl),sz⟩ (u9 J)
    .refine v9 ?_;refine cZ (λc3=>?_) (λc3=>?_)
     .refine S11 ?_;exact J6 hL1 (i+1) Om Om ⟨vi (by rw[jcX c2 c3];rfl),vi Om,sz⟩ (u9 J)
     .refine S8 ?_;exact J6 hL1 (i+1) Om Om ⟨vi (by rw[jcW c2 c3]),vi Om,sz⟩ (u9 J)
 .have hin:i=n:=Om;refine S11 ?_;refine jK J (.tmp J) ?_;intro w' hs;exact⟨Y1 (by rw[hin,<-hl,hS,hlt];rfl),hs.fin⟩
theorem Fv(A:Option Addr)(n c:Nat)(B:List Leg)(x:Option Addr×Nat)(u:List Bool)(a f:Nat)(w:World)(h:Legs w A n B)(hok:∀l∈B,qK l)(hn:n<=1048576)(hu:(boR n u x).P w)(hul:u.length=n)(ha:a<n)(hf:f<n):
  Calls Tryz.prog 69 #[.slice A n c,.slice x.1 n x.2,.int .i64 (a:Int),.int .i64 (f:Int)] w λe w'=>e=.returned (.bool (yf B u a f))/\Over w w':=by
 have hl:=h.1;obtain⟨eb,eo,rfl,_⟩:=h.2 Om;obtain⟨hb1,hb2⟩:=Fx hok (show a<B.length by omega);obtain⟨hf1,hf2⟩:=Fx hok (show f<B.length by omega);refine Jm (m:=37) (Tryz.func69) J J (lb J) ?_;refine S9 ?_;refine a9 (jT Zv J J (λw1 hs=>MA _ n c B x u a w1 (h.over hs.fin) hok hn (Qr hu hs.fin) hul ha)) ?_;refine S8 ?_;refine cZ (λc1=>?_) (λc1=>?_)
 .refine S6 ?_;refine jK J (.tmp J) ?_;intro w' hs;exact⟨Q4 (by rw[yf,YH c1]),hs.fin⟩
 .obtain⟨m,hm⟩:=YI c1;have hmi:=(yx hm).1
  obtain⟨hm1,hm2⟩:=Fx hok (show m<B.length by omega);rw[hm];refine S4 ?_;refine JY 22 ?_;refine dK 0 ?_;refine dK 1 ?_;refine dZ 2 J (jQ (j:=a) J J J JF Om) ?_;refine dK 3 ?_;refine dZ 4 J (jj J J jk J (Qg (λw' hs=>h.over hs.fin) ha)) ?_;refine dK 5 ?_;refine dK 6 ?_;refine dZ 7 J (jQ (j:=a) J J J JF Om) ?_;refine dK 8 ?_;refine dZ 9 J (jj J J jk J (QB (λw' hs=>h.over hs.fin) ha)) ?_;refine dK 10 ?_;refine dK 11 ?_;refine dZ 12 J (jQ (j:=f) J J J JF Om) ?_;refine dK 13 ?_;refine dZ 14 J (jj J J jk J (Qg (λw' hs=>h.over hs.fin) hf)) ?_;refine dK 15 ?_;refine dZ 16 J ((ja J J).as (congrArg _ (show ZE (some m)=((m:Nat):Int) from J))) ?_;refine dZ 17 J (jQ (j:=m) J J J JF Om) ?_;refine dK 18 ?_;refine dZ 19 J (jj J J jk J (Qg (j:=m) (λw' hs=>h.over hs.fin) Om)) ?_;refine dZ 20 J (jT y6 J J (λw1 hs=>MB (lB (lg B a)) (lA (lg B a)) (lB (lg B f)) (lB (lg B m)) w1 hb2 hb1 hf2 hm2)) ?_;refine dK 21 ?_;refine JK Kr ?_;refine S2 ?_;refine jK J (.tmp J) ?_;intro w' hs;exact⟨Q4 (by rw[yf,hm];rfl),hs.fin⟩
theorem Fq9{w0:Bs}{Rs:List Res}(k s m:Nat){b U:Nat}(hk:Rs[k]? =some (.cel b U cs))(hl:cs.length=m*s)(hm:m<=1048576)(h:At n env w0 (Rs.set k (.row 0 U s (.slice (some ⟨b,0,none⟩) m m) m cs)) K):At n env w0 Rs K:=λa w hf hs=>by
 refine h a w hf (hs.chg hk (λhP=>?_) (λc hc=>?_) J)
 .have hP:w.heap[b]? =some (.cells cs.toArray U (0,0)):=hP;exact⟨hl,.inr ⟨b,m,cs.toArray,rfl,jlN _,hP,jlL _,by unfold maxLen;omega,by simpa using hl,by rw[<-hl];simp⟩⟩
 .have:some b=some c:=hc;injection this with this
  exact this.symm
theorem jeh(n:Nat):(madeCells #[Value.bool false] n).toList=(List.replicate n false).map Value.bool:=by
 refine jm5 (by simp[madeCells]) λk h1 h2=>?_
 simp[madeCells,Nat.mod_one]
theorem jdH(h:k<u.length):qV (u.map Value.bool) (0+k*1) [.bool true]=(u.set k true).map Value.bool:=by
 rw[jmd,jmL,qV,qV,List.map_set]
structure BoOk (B:List Leg):Prop where
 ok:∀l∈B,qK l
 len:B.length<=4096
def MM(B:List Leg)(u:List Bool)(f a:Nat):Bool:=decide (lB (lg B a)=lA (lg B f)) &&yf B u a f
theorem jdc{a:Nat}(h:MM B u f a=true):Uv B u f a=none:=if_pos h
theorem jiD{a:Nat}(h:MM B u f a=false):Uv B u f a=Zk B u a:=if_neg (by rw[show(decide (lB (lg B a)=lA (lg B f)) &&yf B u a f)=false from h];simp)
def RunX(B:List Leg)(f:Nat)(u0 u:List Bool)(a:Option Nat)(ps:List Pn):Prop:=match a with
 |some k=>RunI B f u0 u k ps
 |none=>VV B f (WS u0) u0 f []=(u,ps)/\u.length=B.length
theorem RunX.go(h:RunI B f u0 u k ps)(hz:MM B (u.set k true) f k=false):RunX B f u0 (u.set k true) (Zk B (u.set k true) k) (ps++[lA (lg B k)]):=by
 have hs:=jiD hz;cases e:Zk B (u.set k true) k with
 |none=>exact⟨h.stop (by rw[hs,e]),by rw[jmV];exact h.len⟩
 |some m=>exact h.more (by rw[hs,e])
theorem jiB(h:((lg B k).bx==(lg B f).ax&& (lg B k).b_y==(lg B f).ay)=true):yf B u k f=MM B u f k:=by
 simp only[jlK,beq_iff_eq] at h;have e:lB (lg B k)=lA (lg B f):=Prod.ext h.1 h.2
 rw[MM,decide_eq_true e,jlZ]
theorem jiC(h:((lg B k).bx==(lg B f).ax&& (lg B k).b_y==(lg B f).ay)=false):false=MM B u f k:=by
 have e:¬lB (lg B k)=lA (lg B f):=λe=>by
  rw[show(lg B k).bx=(lg B f).ax from congrArg Prod.fst e,show(lg B k).b_y=(lg B f).ay from congrArg Prod.snd e] at h;simp at h
 rw[MM,decide_eq_false e,jmg]
def msr(u:List Bool)(a:Option Nat):Nat:=match a with
 |some _=>WS u+1
 |none=>0
theorem je8(h:RunI B f u0 u k ps)(a:Option Nat):msr (u.set k true) a<msr u (some k):=by
 have:=h.pos;cases a<;>simp only[msr]<;>omega
theorem HY(h:WR (kN B i).1 i=true):kN B (i+1)=kN B i:=by
 rw[kN,if_pos h]
theorem jbv(h:WR (kN B i).1 i=false):kN B (i+1)=((VV B i (WS (kN B i).1) (kN B i).1 i []).1,(kN B i).2++[(VV B i (WS (kN B i).1) (kN B i).1 i []).2]):=by
 rw[kN,if_neg (by rw[h];simp)]
theorem RP(A:Option Addr)(n c:Nat)(B:List Leg)(w:World)(h:Legs w A n B)(hB:BoOk B):
  Calls Tryz.prog 47 #[.slice A n c] w λe w'=>∃A' c',e=.returned (.slice A' (Ki B).length c')/\OwnG w.heap.size w'.heap.size w' A' (Ki B).length (Ki B)/\Over w w':=by
 have hl:=h.1;have hn:=hB.len
 rw[hl] at hn;have hok:=hB.ok
 refine Jm (m:=66) (Tryz.func47) J J (lb J) ?_;refine S9 ?_;refine jaP J J J Vu Y7 J Dc Om Om (λb1=>?_);refine N2 ?_;refine Fq9 0 1 n (b:=b1) (U:=4) (cs:=(List.replicate n false).map Value.bool) (by rw[<-jeh];simp) (by simp) Om ?_;refine t9 ?_;refine S3 ?_;refine j5 J J (Vv) J (lb J) (λb2=>?_);refine W0 1 1 J J ?_;refine N2 ?_;refine KY ?_;refine t9 ?_;refine S6 ?_;refine JW (X:=Nat×(Option Addr×Nat)×List Pc) (λx=>x.1<=n/\x.2.2.map (·.xs)=(kN B x.1).2) (λx=>n-x.1) (λx=>[(4,.slice x.2.1.1 x.2.2.length x.2.1.2),(5,.int .i64 (x.1:Int))]) (kK [0,2,3]) (λx=>[boR n (kN B x.1).1 (some ⟨b1,0,none⟩,n),JV (Bs.N ⟨w,[]⟩) 41 1 x.2.2.length (x.2.2.map Pc.val) x.2.1,KD x.2.2]) (0,(some ⟨b2,0,none⟩,0),[]) (⟨jlN _,J⟩) ⟨J,sz⟩ (λ_ h=>by rw[show(kN B 0).1=List.replicate n false by rw[<-hl];rfl];exact h) ?_;intro⟨i,⟨rA,rc⟩,l⟩ hx L hL1;refine v9 ?_;refine r9 ?_;obtain⟨hi,hmp⟩:i<=n/\l.map (·.xs)=(kN B i).2:=hx;have hul:(kN B i).1.length=n:=(by rw[yD,hl])
 obtain⟨tl1,tl2⟩:=Y4 (B:=B) i Om;have hll:l.length<=4096:=(by have:=congrArg List.length hmp;rw[jlV] at this;omega)
 refine S8 ?_;refine cZ (λc1=>?_) (λc1=>?_)
 .have hil:i<n:=Om;refine S9 ?_;refine a9 (qS (r:=(some ⟨b1,0,none⟩,n)) (j:=i) (λw hs=>(hs.all 0 _ J).1) J J J Vu hil) ?_;refine a9 (jn J J QT (jif (r:=(some ⟨b1,0,none⟩,n)) (λw hs=>(hs.all 0 _ J).1) Om)) ?_;refine S1 ?_;refine cZ (λc2=>?_) (λc2=>?_)
  .refine S9 ?_;exact Jn hL1 ((i+1,(rA,rc),l)) (⟨(show i+1<=n by omega),(by rw[HY c2];exact hmp)⟩) (by simp only;omega) ⟨J,vi Om,sz⟩ (λ_ h=>h.upto ⟨by rw[HY c2],sz⟩)
  .obtain⟨u0,hu0⟩:∃u0,u0=(kN B i).1:=⟨_,rfl⟩;have hst:WR u0 i=false:=(by rw[hu0];exact c2)
   obtain⟨R,hR⟩:∃R,R=VV B i (WS u0) u0 i []:=⟨_,rfl⟩;have hnx:kN B (i+1)=(R.1,(kN B i).2++[R.2]):=(by rw[jbv c2,hR,hu0])
   rw[<-hu0] at hul⊢;obtain⟨_,hRl⟩:=Y4 (B:=B) (i+1) Om;have hRs:R.2.length<=4096:=(by have:=(hRl R.2 (by rw[hnx];simp)).2.1;omega)
   obtain⟨eb,eo,rfl,_⟩:=h.2 Om;refine S4 ?_;refine a9 (JD J J (Ks)) ?_;refine S1 ?_;refine aL (λb3=>?_);refine N3 ?_;refine QO (T:=36) (s:=2) ?_;refine t9 ?_;refine S5 ?_;refine WZ (X:=(Option Addr×Nat)×Int) (λx=>True) (λx=>[(7,.int .i64 x.2)]) (kK [0,2,3,4,5,12,13,14,15,18,19,20,21,22,6,23]) (λx=>[boR n R.1 (some ⟨b1,0,none⟩,n),JV (Bs.N ⟨w,[]⟩) 41 1 l.length (l.map Pc.val) (rA,rc),KD l,.cel b3 41 [.slice x.1.1 R.2.length x.1.2],JV (Bs.N ⟨w,[]⟩) 36 2 R.2.length (R.2.flatMap Jt) x.1]) (λL h_2=>?_) ?_
   .refine S1 ?_;refine JW (X:=List Bool×Option Nat×List Pn×Option Addr×Nat) (λy=>RunX B i u0 y.1 y.2.1 y.2.2.1/\y.2.2.1.length+WS y.1<=4096) (λy=>msr y.1 y.2.1) (λy=>[(7,.int .i64 (ZE y.2.1))]) (kK [0,2,3,4,5,12,13,14,15,18,19,20,21,22,6,23]) (λy=>[boR n y.1 (some ⟨b1,0,none⟩,n),JV (Bs.N ⟨w,[]⟩) 41 1 l.length (l.map Pc.val) (rA,rc),KD l,.cel b3 41 [.slice y.2.2.2.1 y.2.2.1.length y.2.2.2.2],JV (Bs.N ⟨w,[]⟩) 36 2 y.2.2.1.length (y.2.2.1.flatMap Jt) y.2.2.2]) (u0,some i,[],none,0) (⟨RunI.start Om Om hst,(by have:=Rq u0;simp;omega)⟩) ⟨J,sz⟩ (λ_ h=>h) ?_;intro⟨u,ao,ps,qA,qc⟩ hy L hL2;refine v9 ?_;refine r9 ?_;obtain⟨hy1,hy2⟩:RunX B i u0 u ao ps/\ps.length+WS u<=4096:=hy;refine S6 ?_;refine cZ (λc3=>?_) (λc3=>?_)
    .obtain⟨k,rfl⟩:=YI c3;have hI:RunI B i u0 u k ps:=hy1
     have hkB:=hI.la;have hun:u.length=n:=(by rw[hI.len,hl])
     have hkn:k<n:=Om;have hpos:=hI.pos
     refine S6 ?_;refine a9 ((ja J J).as (congrArg _ (show ZE (some k)=((k:Nat):Int) from J))) ?_;refine a9 (qS (r:=(some ⟨b1,0,none⟩,n)) (j:=k) (λw hs=>(hs.all 0 _ J).1) J J J Vu hkn) ?_;refine S1 ?_;refine uW (k:=0) (r:=(some ⟨b1,0,none⟩,n)) (vs:=[.bool true]) J J J J (by rfl) (by rfl) Y7.szx J J (by simp) (by rw[jlV];simp only[jlS,jl5];omega) ?_;refine n9 ?_;rw[jdH Om];refine S3 ?_;refine JY 8 ?_;refine dV 0 [1] ?_;refine dK 1 ?_;refine dV 2 [4,5,6,7] ?_;refine d9 3 J [4,5,6,7] (u9 J) ((ja J J).as (congrArg _ (show ZE (some k)=((k:Nat):Int) from J))) ?_;refine d9 4 J [5,6,7] (u9 J) (jQ (j:=k) J J J JF Om) ?_;refine dV 5 [6,7] ?_;refine d9 6 J [7] (u9 J) (jj J J jk J (QB (λw' hs=>h.over hs.fin) hkn)) ?_;refine qg (i:=7) J Dc Kr J ?_;refine j5 J J (qq J) J (lb J) (λb4=>?_);refine n9 ?_;refine JS (u9 J) ?_;refine vg J Kr J ?_;refine JQ (k:=4) J jw jG Dc J Dc J J J (λw' hs=>qL hs (k:=5) J J) (by simp[Value.oneCell']) (by unfold maxLen;omega) Om (jlL _) (λr1=>?_);refine n9 ?_;refine Qy 11 [3] ?_;refine dK 9 ?_;refine qg (i:=10) J Dc Kr J ?_;refine S1 ?_;refine JS (uw [3] J) ?_;refine JK Kr ?_;refine S2 ?_;refine qH [(56,.bool (MM B (u.set k true) i k))] (kK [0,2,3,4,5,12,13,14,15,18,19,20,21,22,6,23,7,24,25,26,27,28,29,30,31,32,33,34,35,36,37,38]) (λL h_12=>?_) ?_
     .refine S1 ?_;refine JY 18 ?_;refine dK 0 ?_;refine dZ 1 J ((ja J J).as (congrArg _ (show ZE (some k)=((k:Nat):Int) from J))) ?_;refine dZ 2 J (jQ (j:=k) J J J JF Om) ?_;refine dK 3 ?_;refine dZ 4 J (jj J J jk J (Qg (λw' hs=>h.over hs.fin) hkn)) ?_;refine dK 5 ?_;refine dK 6 ?_;refine dZ 7 J (jQ (j:=i) J J J JF Om) ?_;refine dK 8 ?_;refine dZ 9 J (jj J J jk J (QB (λw' hs=>h.over hs.fin) hil)) ?_;refine dK 10 ?_;refine dK 11 ?_;refine cV 50 (λg1=>?_) (λg1=>?_)
      .refine eK 12 ?_;refine eK 13 ?_;refine eZ 14 J ((ja J J).as (congrArg _ (show ZE (some k)=((k:Nat):Int) from J))) ?_;refine eK 15 ?_;refine eZ 16 J (jT Hy J J (λw1 hs=>Fv _ n c B (some ⟨b1,0,none⟩,n) (u.set k true) k i w1 (h.over hs.fin) hok Om (hs.all 0 _ J).1 (by rw[jmV];exact hun) hkn hil)) ?_;refine dK 17 ?_;refine JK Kr ?_;refine S1 ?_;exact Jx h_12 ⟨vb (jiB g1),sz⟩ (u9 J)
      .refine fK 12 ?_;refine fK 13 ?_;refine fK 14 ?_;refine fK 15 ?_;refine fK 16 ?_;refine dK 17 ?_;refine JK Kr ?_;refine S1 ?_;exact Jx h_12 ⟨vb (jiC g1),sz⟩ (u9 J)
     .refine v9 ?_;refine cZ (λc4=>?_) (λc4=>?_)
      .have hRe:R=(u.set k true,ps++[lA (lg B k)]):=(by rw[hR];exact hI.stop (jdc c4));refine S6 ?_;exact Qd h_2 ((r1,(k:Int))) (trivial) ⟨J,sz⟩ (λ_ h=>(h.picks [0,1,2,3,4] Dc).upto ⟨by rw[hRe],J,J,by rw[hRe,jlJ];rfl,by rw[hRe,jlJ,jlW];rfl,trivial⟩)
      .refine S5 ?_;refine a9 ((ja J J).as (congrArg _ (show ZE (some k)=((k:Nat):Int) from J))) ?_;refine a9 (jT Zv J J (λw1 hs=>MA _ n c B (some ⟨b1,0,none⟩,n) (u.set k true) k w1 (h.over hs.fin) hok Om (hs.all 0 _ J).1 (by rw[jmV];exact hun) hkn)) ?_;refine S4 ?_;exact Jn hL2 ((u.set k true,Zk B (u.set k true) k,ps++[lA (lg B k)],r1)) (⟨RunX.go hI c4,(by simp only[jlJ,jlS,jl5];omega)⟩) (je8 hI _) ⟨J,sz⟩ (λ_ h=>(h.picks [0,1,2,3,4] Dc).upto ⟨J,J,J,by rw[jlJ];rfl,by rw[jlJ,jlW];rfl,trivial⟩)
    .obtain rfl:=YH c3;have hRe:R=(u,ps):=(by rw[hR];exact hy1.1)
     refine S5 ?_;exact Qd h_2 (((qA,qc),-1)) (trivial) ⟨J,sz⟩ (λ_ h=>(h.picks [0,1,2,3,4] Dc).upto ⟨by rw[hRe],J,J,by rw[hRe],by rw[hRe],trivial⟩)
   .rintro⟨⟨pA,pc⟩,_⟩-;refine v9 ?_;refine r9 ?_;refine S4 ?_;refine j5 J J (qe J) J (lb J) (λb5=>?_);refine N1 ?_;refine JQ (k:=1) J jC Jl Dc J Dc J J J (λw' hs=>qL hs (k:=5) J J) (by simp[Value.oneCell']) (by unfold maxLen;omega) Om (jlL _) (λr2=>?_);refine N2 ?_;refine YC 4 J J (λclo chi=>?_);refine t9 ?_;refine Ke 2 4 J J Dc J ?_;refine t9 ?_;refine S7 ?_;exact Jn hL1 ((i+1,r2,l++[⟨R.2,pA,pc,clo,chi⟩])) (⟨(show i+1<=n by omega),(by rw[jma,hmp,hnx];rfl)⟩) (by simp only;omega) ⟨(by rw[jlJ];rfl),vi Om,sz⟩ (λ_ h=>h.upto ⟨by rw[hnx],by rw[jlJ,jma];rfl,(ve _ _).symm,trivial⟩)
 .have hin:i=n:=Om;have htr:l.map (·.xs)=Ki B:=(by rw[hmp,hin,<-hl];rfl)
  have htl:(Ki B).length=l.length:=(by rw[<-htr,jlV]);refine S11 ?_;refine jK J (.tmp J) ?_;intro w' hs;exact⟨rA,rc,by rw[htl],by rw[htl];exact Y0 hs (kr:=1) (kp:=2) rfl rfl Dc rfl rfl htr (λj hj=>by rw[<-wb hj];have:=(tl2 _ (by rw[<-hmp,htr];exact jlY hj)).2.1;omega),hs.fin⟩
end Go.Proofs.YtjbahemkhphndaaGreat
