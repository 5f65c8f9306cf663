import Derived.Test.YtjbahemkhphndaaGreatNSd2
import Derived.Test.YtjbahemkhphndaaGreatNPathP
import Derived.Test.YtjbahemkhphndaaGreatNRev
import Derived.Lib.AppendZeros
import Derived.Test.YtjbahemkhphndaaGreatNSnapped
import Derived.Test.YtjbahemkhphndaaGreatNSimp
set_option linter.unusedVariables false
set_option linter.unusedSimpArgs false
namespace Go.Proofs.YtjbahemkhphndaaGreat
open Go Go.RowKit
section
variable{A:Option Addr}{b k:Nat}{w:World}{x:Operand}{xs ys:List Pn}
set_option maxRecDepth 100000
set_option maxHeartbeats 4000000
theorem M0(A B:Option Addr)(n c m d:Nat)(xs ys:List Pn)(w:World)(h:Pts w A n xs)(h':Pts w B m ys)(hx:∀p∈xs,Xh p)(hy:∀p∈ys,Xh p)(hn:n<=1099511627776)(hm:m<=1099511627776):
  Calls Tryz.prog 140 #[.slice A n c,.slice B m d,.func (.func 109) #[] #[]] w λe w'=>e=.returned (.int .i64 (uS xs ys))/\Over w w':=by
 have hl:=h.1;have hl':=h'.1
 refine Jm (m:=39) (Tryz.func140) J J (lb J) ?_;refine S12 ?_;refine qD (X:=Nat) (λk=>k<=n/\k<=m/\uS (xs.drop k) (ys.drop k)=uS xs ys) (λk=>n-k) (λk=>[(13,.int .i64 (k:Int))]) (kK [0,1,2,6,11,12]) 0 (⟨jlN _,jlN _,J⟩) ⟨J,sz⟩ ?_;intro k hk L hL1;refine v9 ?_;obtain⟨hk1,hk2,hk3⟩:=hk;refine S5 ?_;refine cZ (λc1=>?_) (λc1=>?_)
 .have hlt:k<n:=Om;obtain⟨eb,eo,rfl,_⟩:=h.2 Om;refine S8 ?_;refine a9 (jj J J jk J (WM (b:=eb) (o:=eo) h hlt)) ?_;refine S1 ?_;refine aL (λb1=>?_);refine N12 ?_;refine cZ (λc2=>?_) (λc2=>?_)
  .have hmk:m<=k:=Om;refine S11 ?_;refine jK J (.tmp J) ?_;intro w' hs;exact⟨by rw[<-hk3,NM Om Om],hs.fin⟩
  .have hmk:k<m:=Om;obtain⟨fb,fo,rfl,_⟩:=h'.2 Om;refine S7 ?_;refine a9 (jj J J jk J (WM (b:=fb) (o:=fo) h' hmk)) ?_;refine S1 ?_;refine aL (λb2=>?_);refine N8 ?_;refine a9 (VO W6 J J J (λw1 hs=>Mp (pt xs k) (pt ys k) w1 (hx _ (by rw[<-KO Om];exact jlY _)) (hy _ (by rw[<-KO Om];exact jlY _)))) ?_;refine S7 ?_;refine cZ (λc3=>?_) (λc3=>?_)
   .refine S11 ?_;refine jK J (.tmp J) ?_;intro w' hs;exact⟨by rw[<-hk3,RY Om Om (λe=>c3 (yF.2 e))],hs.fin⟩
   .refine S7 ?_;exact J6 hL1 (k+1) (⟨by omega,by omega,by rw[<-RX Om Om (yF.1 Om)];exact hk3⟩) Om ⟨vi Om,sz⟩ (u9 J)
 .have hkn:k=n:=Om;refine S14 ?_;refine cZ (λc4=>?_) (λc4=>?_)
  .refine S6 ?_;refine jK J (.tmp J) ?_;intro w' hs;exact⟨by rw[<-hk3,G9 Om Om,if_pos Om],hs.fin⟩
  .refine S7 ?_;refine jK J (.tmp J) ?_;intro w' hs;exact⟨by rw[<-hk3,G9 Om Om,if_neg Om],hs.fin⟩
theorem ZZ(A B:Option Addr)(n c m d:Nat)(xs ys:List Pn)(w:World)(h:Pts w A n xs)(h':Pts w B m ys)(hx:∀p∈xs,Xh p)(hy:∀p∈ys,Xh p)(hn:n<=1099511627776)(hm:m<=1099511627776):
  Calls Tryz.prog 115 #[.slice A n c,.slice B m d] w λe w'=>e=.returned (.int .i64 (uS xs ys))/\Over w w':=by
 refine Jm (m:=8) (Tryz.func115) J J (lb J) ?_;refine S8 ?_;refine a9 (jT Kg J J (λw1 hs=>M0 A B n c m d xs ys w1 (h.over hs.fin) (h'.over hs.fin) hx hy hn hm)) ?_;refine S3 ?_;refine jK J (.tmp J) ?_;intro w' hs;exact⟨rfl,hs.fin⟩
theorem Ou(A B:Option Addr)(n c m d:Nat)(xs ys:List Pn)(w:World)(h:Pts w A n xs)(h':Pts w B m ys)(hx:∀p∈xs,Xh p)(hy:∀p∈ys,Xh p)(hn:n<=1099511627776)(hm:m<=1099511627776):
  Calls Tryz.prog 114 #[.agg #[.slice A n c],.agg #[.slice B m d]] w λe w'=>e=.returned (.int .i64 (uS xs ys))/\Over w w':=by
 refine Jm (m:=10) (Tryz.func114) J J (lb J) ?_;refine S3 ?_;refine aX (λb1=>?_);refine N1 ?_;refine aX (λb2=>?_);refine N8 ?_;refine a9 (jT yn J J (λw1 hs=>ZZ A B n c m d xs ys w1 (h.over hs.fin) (h'.over hs.fin) hx hy hn hm)) ?_;refine S3 ?_;refine jK J (.tmp J) ?_;intro w' hs;exact⟨rfl,hs.fin⟩
section
variable{P:Program}{n:Nat}{env:List (Nat×Value)}{w0:Bs}{Rs:List Res}{Q:Exit->Act->World->Prop}{K:Act->World->Prop}{o:Oper}
theorem Dr{T U:TypeId}{m c s:Nat}(ho:o.op=.call {callee:=.builtin .cap,args:=#[x],argTypes:=#[T]})(hx:ev env x=some (.slice A m c))(hT:TyL P T U s):Qt P o n env w0 Rs (.int .i64 (c:Int)):=
 kd λa w hF _=>by
  have hT:=hT.desc;have hE:P.elem T=U:=by simp[Program.elem,hT]
  have:=run_cap_slice (P:=P) w T o.type A m c (by rw[hE];exact hT);unfold execOp;simp only[ho,resolve,invoke,builtin,Sem.run_bind,Sem.run_pure,Result.andThen_ok,jny,jmA,jnB,hF.ev hx,this];rfl
theorem Pi{T Tn U s bytes m d:Nat}{kn:IntKind}{z:Value}{y:Operand}(ho:o.op=.call {callee:=.builtin .append,args:=#[x,y],argTypes:=#[T,Tn]})(hT:TyL P T U s)(hN:P.underlying Tn=some (.int kn))(hZ:TyZ P U s bytes z)(hs0:0<s)(hx:ev env x=some (.slice none 0 0))(hy:ev env y=some (.int .i64 (m:Int)))(h0:0<m)(hm:m<=maxLen)(hb:m*bytes<=281474976710656)(hd:o.dst=some d)(hn:d<n)(h:∀b cap,At n ((d,.slice (some ⟨b,0,none⟩) m cap)::env) w0 (Rs++[JV 0 U s 0 [] (some ⟨b,0,none⟩,cap)]) K):At n env w0 Rs (λa w=>o.wp P a w K Q):=λa w hf hs=>by
 obtain⟨i,hi,hz0,hz1,hz2⟩:=hZ.info;have hmx:m<=9223372036854775807:=by unfold maxLen at hm;omega
 have hr:=Go.Lib.run_append_nil_zeros (P:=P) w T Tn o.type U i z .i64 kn hT.desc hN hi hz0 m h0 Om Om (by rw[hz2];exact hb);have hrun:(execOp a.eval o).run P w=.ok (.value (.slice (some ⟨w.heap.size,0,none⟩) m (grownCap w m 0 U))) (w.drew.alloc (.cells (Builtin.zeroCells z.cells m++Builtin.zeroCells z.cells (grownCap w m 0 U-m)) U)):=by
  unfold execOp;simp only[ho,resolve,invoke,builtin,Sem.run_bind,Sem.run_pure,Result.andThen_ok,jny,jmA,jnB,hf.ev hx,hf.ev hy,hr]
 show o.upon P a K Q ((execOp a.eval o).run P w);rw[hrun,Oper.upon_value,hd];have hge:=grownCap_ge w m 0 U
 have hown:(w.drew.alloc (.cells (Builtin.zeroCells z.cells m++Builtin.zeroCells z.cells (grownCap w m 0 U-m)) U)).ownsRow 0 U s (.slice (some ⟨w.drew.heap.size,0,none⟩) 0 (grownCap w m 0 U)) 0 []:=
  World.ownsRow_made w.drew _ _ (jlN _) (grownCap_le_maxLen w m 0 U hm) (by
   rw[Array.size_append,size_zeroCells,size_zeroCells,hZ.cells,<-Nat.add_mul];congr 1;omega)
 exact h _ _ _ _ (hf.put hn _) (hs.add ((Over.refl w).drew_.alloc_ _) hown (λb hb=>(hown.lt b hb).elim λ_ _=>by
  have:Value.ownBlock (.slice (some ⟨w.drew.heap.size,0,none⟩) 0 (grownCap w m 0 U))=some b:=hb;injection this with this
  rw[<-this];exact jlL _) ⟨jlN _,λ_ _=>jlN _⟩)
end
theorem jdh(m:Nat)(w:World)(h0:0<m)(hm:m<=1099511627776):Calls Tryz.prog 160 #[.slice none 0 0,.int .i64 (m:Int)] w λe w'=>∃v,e=.returned v/\w'.ownsRow w.heap.size 36 2 v 0 []/\Over w w':=by
 refine Jm (m:=27) (Tryz.func160) J J (lb J) ?_;refine S10 ?_;refine cZ (λc1=>?_) (λc1=>?_)
 .omega
 .refine S7 ?_;refine a9 (Dr J J jw) ?_;refine S11 ?_;refine cZ (λc2=>?_) (λc2=>?_)
  .refine S3 ?_;refine a9 (Dr J J jw) ?_;refine a9 ((KQ (h:=0) J J J jw (jlL _)).as (show sliced none 0 0 0 2=.slice none 0 0 from J)) ?_;refine S1 ?_;refine wg 21 (.int .i64 (m:Int)) J (congrArg _ Om) ?_;refine S1 ?_;refine Pi J jw Tryz.underlying3 jG Dc J J h0 (by unfold maxLen;omega) Om J Dc (λgb gcap=>?_);refine N2 ?_;refine a9 ((KQ (h:=0) J J J jw (jlN _)).as (ui _ _ _ _ _)) ?_;refine S8 ?_;refine jK J (.tmp J) ?_;intro w' hs;have hr:=hs.all 0 _ rfl
   exact⟨_,rfl,vM hr.1 (λb hb=>(hr.2.1 b hb).elim id (λh=>by cases h)),hs.fin⟩
  .omega
theorem jii{Rs:List Res}{o:Nat}{v:Value}(hc:w.cell? ⟨b,o+k,none⟩=some v)(hb:b<w.heap.size)(w':World)(hs:St ⟨w,[]⟩ Rs w'):w'.cell? ⟨b,o+k*1,none⟩=some v:=by rw[jmL];exact Ql hc hb w' hs
abbrev Sl:=Option Addr×Nat×List Pn
def sl(ss:List Sl)(k:Nat):Sl:=ss.getD k (none,0,[])
def Vr(ss:List Sl)(k:Nat):List Pn:=(ss.take k).flatMap (·.2.2)
theorem Bi{ss:List Sl}(h:k<ss.length):Vr ss (k+1)=Vr ss k++(sl ss k).2.2:=by
 unfold Vr sl;rw[jlX h,jlW];simp[List.getD,h]
theorem TI{ss:List Sl}{j:Nat}(h:k<=j):(Vr ss k).length<=(Vr ss j).length:=by
 have e:ss.take k=(ss.take j).take k:=by rw[List.take_take,jmO h]
 unfold Vr;rw[e]
 conv=>rhs;rw[<-jl1 k (ss.take j)]
 rw[jlW,jlJ];omega
theorem Cc(b o N C:Nat)(ss:List Sl)(w:World)(hN:ss.length=N)(hb:b<w.heap.size)(hc:∀k,k<N->w.cell? ⟨b,o+k,none⟩=some (.slice (sl ss k).1 (sl ss k).2.2.length (sl ss k).2.1))(hp:∀k,k<N->Pts w (sl ss k).1 (sl ss k).2.2.length (sl ss k).2.2/\0<(sl ss k).2.2.length)(h0:0<(Vr ss N).length)(hm:(Vr ss N).length<=1048577)(hN2:N<=1048577):
  Calls Tryz.prog 138 #[.slice (some ⟨b,o,none⟩) N C] w λe w'=>∃v,e=.returned v/\w'.ownsRow w.heap.size 36 2 v (Vr ss N).length ((Vr ss N).flatMap Jt)/\Over w w':=by
 refine Jm (m:=36) (Tryz.func138) J J (lb J) ?_;refine S16 ?_;refine qD (X:=Nat) (λk=>k<=N) (λk=>N-k) (λk=>[(3,.int .i64 ((Vr ss k).length:Int)),(11,.int .i64 (k:Int))]) (kK [0,2,9,10]) 0 (jlN _) ⟨J,sz⟩ ?_;intro k hk L hL1;refine V5 ?_;refine cZ (λc1=>?_) (λc1=>?_)
 .have hlt:k<N:=Om;have hst:(Vr ss (k+1)).length=(Vr ss k).length+(sl ss k).2.2.length:=(by rw[Bi Om,jlJ])
  have hle:(Vr ss (k+1)).length<=(Vr ss N).length:=TI Om;refine S7 ?_;refine a9 (jn J J JH (jii (hc k hlt) hb)) ?_;refine S15 ?_;refine cZ (λc2=>?_) (λc2=>?_)
  .omega
  .refine S7 ?_;exact J6 hL1 (k+1) Om Om ⟨vi Om,vi Om,sz⟩ (u9 J)
 .have hkN:k=N:=Om;subst hkN;refine S9 ?_;refine J4 WU (v:=λx=>.slice x.1 0 x.2) (r:=λx=>JV 0 36 2 0 [] x) (H:=λ_=>True) J J J (lb J) (λw1 hs=>q6 (jdh _ w1 h0 Om)) ?_;rintro⟨cA,cc⟩-;refine N10 ?_;refine JW (X:=Nat×Option Addr×Nat) (λx=>x.1<=k) (λx=>k-x.1) (λx=>[(6,.slice x.2.1 (Vr ss x.1).length x.2.2),(27,.int .i64 (x.1:Int))]) (kK [2,25,26]) (λx=>[JV 0 36 2 (Vr ss x.1).length ((Vr ss x.1).flatMap Jt) x.2]) (0,cA,cc) (jlN _) ⟨J,sz⟩ (λ_ h=>h) ?_;intro⟨j,rA,rc⟩ hj L hL2;refine v9 ?_;refine r9 ?_;have hj:j<=k:=hj
  refine S5 ?_;refine cZ (λc3=>?_) (λc3=>?_)
  .have hlt:j<k:=Om;have hst:Vr ss (j+1)=Vr ss j++(sl ss j).2.2:=Bi Om
   have hst2:(Vr ss (j+1)).length=(Vr ss j).length+(sl ss j).2.2.length:=(by rw[hst,jlJ]);have hle:(Vr ss (j+1)).length<=(Vr ss k).length:=TI Om
   refine S7 ?_;refine a9 (jn J J JH (jii (hc j hlt) hb)) ?_;refine S6 ?_;refine JQ (k:=0) J jw jG Dc J Dc J J J (λw' hs=>SJ ((hp j hlt).1.over hs.fin) (hp j hlt).2) (WL _) (by unfold maxLen;omega) Om (jlN _) (λr1=>?_);refine N8 ?_;exact Jn hL2 ((j+1,r1)) ((show j+1<=k by omega)) (by simp only;omega) ⟨(by rw[hst2];rfl),vi Om,sz⟩ (λ_ h=>h.upto ⟨by rw[hst2,hst,jlW],trivial⟩)
  .have hjk:j=k:=Om;subst hjk;refine S11 ?_;refine jK J (.tmp J) ?_;intro w' hs;have hr:=hs.all 0 _ rfl
   exact⟨_,rfl,vM hr.1 (λb hb=>(hr.2.1 b hb).elim id (λh=>by cases h)),hs.fin⟩
theorem jil(xs:List Pn)(k:Nat):xs.drop k++xs.take k=Yd xs k:=rfl
theorem jlr{n U:Nat}{A1 A2:Option Addr}{c1 c2:Nat}(_e:xs.drop k++xs.take k=ys)(hb:w.heap[b]? =some (.cells [.slice A1 (n-k) c1,.slice A2 k c2].toArray U (0,0)))(h1:Pts w A1 (n-k) (xs.drop k))(h2:Pts w A2 k (xs.take k))(hk:1<=k)(hkn:k<n)(hl:xs.length=n)(hn:n<=1048577):
  Calls Tryz.prog 138 #[.slice (some ⟨b,0,none⟩) 2 2] w λe w'=>∃v,e=.returned v/\w'.ownsRow w.heap.size 36 2 v n (ys.flatMap Jt)/\Over w w':=by
 have ex:Vr [(A1,c1,xs.drop k),(A2,c2,xs.take k)] 2=ys:=by rw[<-_e];simp[Vr]
 have el:ys.length=n:=by rw[<-_e];simp;omega
 have:=Cc b 0 2 2 [(A1,c1,xs.drop k),(A2,c2,xs.take k)] w rfl (J3 hb) (λj hj=>?_) (λj hj=>?_) (by rw[ex];omega) (by rw[ex];omega) Dc
 .rw[ex,el] at this;exact this
 .rw[cell_of_row w b _ _ U (0,0) hb]
  match j,hj with
  |0,_=>simp[sl,hl]
  |1,_=>simp[sl];omega
 .match j,hj with
  |0,_=>simp only[sl,List.getD_cons_zero,h1.1];exact⟨h1,by omega⟩
  |1,_=>simp only[sl,List.getD_cons_succ,List.getD_cons_zero,h2.1];exact⟨h2,by omega⟩
theorem SU(A:Option Addr)(n c:Nat)(xs:List Pn)(w:World)(h:Pts w A n xs)(h0:0<n)(hc:n<=c)(hx:∀p∈xs,Xh p)(hn:n<=1048577):
  Calls Tryz.prog 112 #[XE A n c] w λe w'=>∃v,e=.returned (.agg #[v])/\w'.ownsRow w.heap.size 36 2 v n ((wQ xs).flatMap Jt)/\Over w w':=by
 have hl:=h.1;have hbd:∀k p,p∈Yd xs k->Xh p:=λk p hp=>hx p (ja4.1 hp)
 refine Jm (m:=43) (Tryz.func112) J J (lb J) ?_;refine S3 ?_;refine aX (λb1=>?_);refine N1 ?_;refine aL (λb2=>?_);refine N6 ?_;refine J4 kz (v:=λx=>.slice x.1 n x.2) (r:=λx=>JV 0 36 2 n _ x) (H:=λ_=>True) J J J (lb J) (λw1 hs=>q6 (ZI A n c xs w1 (h.over hs.fin) h0 hn)) ?_;rintro⟨cA,cc⟩-;refine N8 ?_;refine JW (X:=Nat×Option Addr×Nat) (λx=>1<=x.1/\x.1<=n) (λx=>n-x.1) (λx=>[(3,.slice x.2.1 n x.2.2),(4,.int .i64 (x.1:Int))]) (kK [1,2]) (λx=>[.cel b1 41 [.slice A n c],.cel b2 41 [.slice none 0 0],JV 0 36 2 n ((Yd xs (Vt xs x.1)).flatMap Jt) x.2]) (1,cA,cc) (⟨jlL _,h0⟩) ⟨J,sz⟩ (λ_ h=>h.upto ⟨J,J,by rw[Me,jfN],trivial⟩) ?_;intro⟨k,rA,rc⟩ hk L hL1;refine v9 ?_;refine r9 ?_;obtain⟨hk1,hk2⟩:1<=k/\k<=n:=hk;have htk:=H0 xs k hk1
 refine S9 ?_;refine cZ (λc1=>?_) (λc1=>?_)
 .have hlt:k<n:=Om;obtain⟨eb,eo,rfl,_⟩:=h.2 h0;refine kW (λw hs=>V4 (k:=2) J hs h0) ?_;rintro⟨eg,rfl⟩;refine S7 ?_;refine JY 10 ?_;refine dK 0 ?_;refine dK 1 ?_;refine dK 2 ?_;refine dK 3 ?_;refine dZ 4 J (jj J J jk J (WM (b:=eb) (o:=eo) h hlt)) ?_;refine dK 5 ?_;refine dZ 6 J (jQ (j:=0) J J J jw Om) ?_;refine dZ 7 J (jj J J jk J (jfF (b:=eg) (o:=0) (j:=0) (λw hs=>uZ (hs.all 2 _ J).1 (by rw[Wi,hl])) h0)) ?_;refine dZ 8 J (jT W6 J J (λw1 hs=>Mp (pt xs k) (pt (Yd xs (Vt xs k)) 0) w1 (hx _ (by rw[<-KO Om];exact jlY _)) (hbd (Vt xs k) _ (by rw[<-KO (by rw[Wi];omega)];exact jlY _)))) ?_;refine dK 9 ?_;refine JK Kr ?_;refine S1 ?_;refine cZ (λc2=>?_) (λc2=>?_)
  .refine S9 ?_;exact Jn hL1 ((k+1,some ⟨eg,0,none⟩,rc)) (⟨show 1<=k+1 by omega,show k+1<=n by omega⟩) (by simp only;omega) ⟨J,vi Om,sz⟩ (λ_ h=>h.upto ⟨J,J,by rw[DP (jcl (by rw[Wi];omega) (by rw[Wi];omega) (by rw[jia Om];exact c2))],trivial⟩)
  .refine S4 ?_;refine JY 11 ?_;refine dK 0 ?_;refine dK 1 ?_;refine dK 2 ?_;refine dZ 3 J ((VR J J J jw Om).as (U0 (b:=eb) (o:=eo) (l:=k) (h:=n) (m:=c) (s:=2) hc Om)) ?_;refine dK 4 ?_;refine dK 5 ?_;refine dK 6 ?_;refine dZ 7 J ((KQ J J J jw Om).as (ui _ _ _ _ _)) ?_;refine qg (i:=8) J Dc Kr J ?_;refine j5 J J (YF J J) J (lb J) (λb3=>?_);refine n9 ?_;refine JS (u9 J) ?_;refine qg (i:=9) J Dc Kr J ?_;refine J4 Wb (v:=λx=>.slice x.1 n x.2) (r:=λx=>JV 0 36 2 n ((Yd xs k).flatMap Jt) x) (H:=λ_=>True) J J J (lb J) (λw1 hs=>q6 (jlr (jil xs k) (hs.cel (k:=3) J) ((h.over hs.fin).dropT (k:=k) Om hc) ((h.over hs.fin).takeT (k:=k) Om) hk1 hlt hl hn)) ?_;rintro⟨dA,dc⟩-;refine n9 ?_;refine JS (u9 J) ?_;refine dK 10 ?_;refine JK Kr ?_;refine S5 ?_;refine a9 (jT yn J J (λw1 hs=>ZZ _ _ n _ n _ (Yd xs k) (Yd xs (Vt xs k)) w1 (uZ (hs.all 4 _ J).1 (by rw[Wi,hl])) (uZ (hs.all 2 _ J).1 (by rw[Wi,hl])) (hbd _) (hbd _) Om Om)) ?_;refine S2 ?_;refine cZ (λc3=>?_) (λc3=>?_)
   .refine S11 ?_;exact Jn hL1 ((k+1,dA,dc)) (⟨show 1<=k+1 by omega,show k+1<=n by omega⟩) (by simp only;omega) ⟨J,vi Om,sz⟩ (λ_ h=>(h.picks [0,1,4] Dc).upto ⟨J,J,by rw[I4 (decide_eq_true c3)],trivial⟩)
   .refine S8 ?_;exact Jn hL1 ((k+1,some ⟨eg,0,none⟩,rc)) (⟨show 1<=k+1 by omega,show k+1<=n by omega⟩) (by simp only;omega) ⟨J,vi Om,sz⟩ (λ_ h=>h.upto ⟨J,J,by rw[DP (decide_eq_false Om)],trivial⟩)
 .have hkn:k=n:=Om;refine S8 ?_;refine a9 (JD J J (Qn J)) ?_;refine S4 ?_;refine jK J (qj (k:=1) J Jz J J) ?_;intro w' hs;have hr:=hs.all 2 _ rfl
  exact⟨_,rfl,vM (show _ by subst hkn;rw[wQ,hl];exact hr.1) (λb hb=>(hr.2.1 b hb).elim id (λh=>by cases h)),hs.fin⟩
theorem R7(i j n:Nat):((i:Int)+(j:Int)).tmod (n:Int)=(((i+j) % n:Nat):Int):=by
 rw[show(i:Int)+(j:Int)=((i+j:Nat):Int) by omega];rfl
theorem ji2{a:Nat}(h:(px xs a==px ys b&&py xs a==py ys b)=false):pt xs a≠pt ys b:=λe=>by
 injection e with e1 e2
 simp[e1,e2] at h
theorem ji0{a:Nat}(h:(px xs a==px ys b&&py xs a==py ys b)=true):pt xs a=pt ys b:=by
 simp at h;exact Prod.ext h.1 h.2
theorem MC(h1:k<xs.length)(h2:k<ys.length)(h:pt xs k≠pt ys k)(he:uS (xs.drop k) (ys.drop k)=uS xs ys):decide (vv (pt xs k) (pt ys k))=uT xs ys:=by
 unfold uT;rw[<-he,RY h1 h2 h];exact decide_eq_decide.2 jbD.symm
theorem BN(A:Option Addr)(n c i k:Nat)(xs:List Pn)(w:World)(h:Pts w A n xs)(hi:i<n)(hk:k<n)(hn:n<=1099511627776):
  Calls Tryz.prog 90 #[.slice A n c,.int .i64 (i:Int),.int .i64 (k:Int)] w λe w'=>e=.returned (.bool (uT (Yd xs i) (Yd xs k)))/\Over w w':=by
 have hl:=h.1;have hri:(Yd xs i).length=n:=Wi.trans hl
 have hrk:(Yd xs k).length=n:=Wi.trans hl;refine Jm (m:=40) (Tryz.func90) J J (lb J) ?_;refine S16 ?_;refine qD (X:=Nat) (λj=>j<=n/\uS ((Yd xs i).drop j) ((Yd xs k).drop j)=uS (Yd xs i) (Yd xs k)) (λj=>n-j) (λj=>[(8,.int .i64 (j:Int))]) (kK [0,1,2,6,7]) 0 (⟨jlN _,J⟩) ⟨J,sz⟩ ?_;intro j hj L hL1;refine v9 ?_;obtain⟨hj1,hj2⟩:=hj;refine S7 ?_;refine cZ (λc1=>?_) (λc1=>?_)
 .have hlt:j<n:=Om;obtain⟨eb,eo,rfl,_⟩:=h.2 Om;have m1:(i+j) % n<n:=jnA _ Om
  have m2:(k+j) % n<n:=jnA _ Om;have p1:pt (Yd xs i) j=pt xs ((i+j) % n):=(by rw[Ss Om Om,hl])
  have p2:pt (Yd xs k) j=pt xs ((k+j) % n):=(by rw[Ss Om Om,hl]);refine S11 ?_;refine a9 ((LX J J J Om Om Om).as (congrArg _ (R7 i j n))) ?_;refine a9 (jQ (j:=(i+j) % n) J J J jw Om) ?_;refine a9 (jj J J jk J (WM (b:=eb) (o:=eo) h m1)) ?_;refine S1 ?_;refine aL (λb1=>?_);refine N10 ?_;refine a9 ((LX J J J Om Om Om).as (congrArg _ (R7 k j n))) ?_;refine a9 (jQ (j:=(k+j) % n) J J J jw Om) ?_;refine a9 (jj J J jk J (WM (b:=eb) (o:=eo) h m2)) ?_;refine S1 ?_;refine aL (λb2=>?_);refine N9 ?_;refine cZ (λc2=>?_) (λc2=>?_)
  .have hne:pt (Yd xs i) j≠pt (Yd xs k) j:=(by rw[p1,p2];exact ji2 c2);refine S4 ?_;refine a9 (jT KK J J (λw1 hs=>WF (pt xs ((i+j) % n)) (pt xs ((k+j) % n)) w1)) ?_;refine S8 ?_;refine jK J (.tmp J) ?_;intro w' hs;exact⟨by rw[<-MC Om Om hne hj2,p1,p2],hs.fin⟩
  .have hne:pt (Yd xs i) j=pt (Yd xs k) j:=(by rw[p1,p2];exact ji0 c2);refine S8 ?_;exact J6 hL1 (j+1) (⟨by omega,by rw[<-RX Om Om hne];exact hj2⟩) Om ⟨vi Om,sz⟩ (u9 J)
 .refine S10 ?_;refine jK J (.tmp J) ?_;intro w' hs;exact⟨by rw[uT,<-hj2,G9 Om Om,if_neg Om];rfl,hs.fin⟩
theorem Fw(bb oo:Nat)(A:Option Addr)(n c:Nat)(xs:List Pn)(w:World)(hcell:w.cell? ⟨bb,oo,none⟩=some (.slice A n c))(hbB:bb<w.heap.size)(h:Pts w A n xs)(h0:0<n)(hn:n<=1048577):
  Calls Tryz.prog 67 #[.pointer (some ⟨bb,oo,none⟩)] w λe w'=>∃v,e=.returned (.agg #[v])/\w'.ownsRow w.heap.size 36 2 v n ((wQ xs).flatMap Jt)/\Over w w':=by
 have hl:=h.1;have htn:=H0 xs n h0
 obtain⟨eb,eo,rfl,_⟩:=h.2 h0;have hrl:(Yd xs (Vt xs n)).length=n:=Wi.trans hl
 refine Jm (m:=49) (Tryz.func67) J J (lb J) ?_;refine S3 ?_;refine aL (λb1=>?_);refine N6 ?_;refine a9 (jn J J JH (QZ hcell hbB)) ?_;refine S13 ?_;refine qD (X:=Nat) (λk=>1<=k/\k<=n) (λk=>n-k) (λk=>[(4,.int .i64 ((Vt xs k:Nat):Int)),(5,.int .i64 (k:Int))]) (kK [0,2,3]) 1 (⟨jlL _,h0⟩) ⟨vi (by rw[Me];rfl),sz⟩ ?_;intro k hk L hL1;refine v9 ?_;have htk:=H0 xs k hk.1
 refine S7 ?_;refine cZ (λc1=>?_) (λc1=>?_)
 .refine S9 ?_;refine a9 (jn J J JH (QZ hcell hbB)) ?_;refine S2 ?_;refine a9 (jT Gg J J (λw1 hs=>BN _ n c k (Vt xs k) xs w1 (h.over hs.fin) Om Om Om)) ?_;refine S1 ?_;refine cZ (λc2=>?_) (λc2=>?_)
  .refine S11 ?_;exact J6 hL1 (k+1) Om Om ⟨vi (by rw[I4 c2]),vi Om,sz⟩ (u9 J)
  .refine S8 ?_;exact J6 hL1 (k+1) Om Om ⟨vi (by rw[DP c2]),vi Om,sz⟩ (u9 J)
 .have hkn:k=n:=Om;subst hkn;refine S7 ?_;refine a9 (JD J J (Ks)) ?_;refine S1 ?_;refine aL (λb2=>?_);refine N3 ?_;refine QO (T:=36) (s:=2) ?_;refine t9 ?_;refine S6 ?_;refine JW (X:=Nat×Option Addr×Nat) (λy=>y.1<=k) (λy=>k-y.1) (λy=>[(7,.int .i64 (y.1:Int))]) (kK [0,2,3,4,6]) (λy=>[.cel b1 41 [.slice none 0 0],.cel b2 41 [.slice y.2.1 y.1 y.2.2],JV (Bs.N ⟨w,[]⟩) 36 2 y.1 (((Yd xs (Vt xs k)).take y.1).flatMap Jt) y.2]) (0,none,0) (jlN _) ⟨J,sz⟩ (λ_ h=>h) ?_;intro⟨j,qA,qc⟩ hy L hL2;refine v9 ?_;refine r9 ?_;have hj:j<=k:=hy
  refine S7 ?_;refine cZ (λc3=>?_) (λc3=>?_)
  .have hjl:j<k:=Om;have m1:(Vt xs k+j) % k<k:=jnA _ Om
   refine S5 ?_;refine JY 14 ?_;refine dV 0 [1] ?_;refine dK 1 ?_;refine dV 2 [3,4,5,11,12,13] ?_;refine dV 3 [4,5,11,12,13] ?_;refine dV 4 [5,11,12,13] ?_;refine d9 5 J [11,12,13] (u9 J) (jn J J JH (QZ hcell hbB)) ?_;refine dV 6 [8,10,11,12,13] ?_;refine dV 7 [8,10,11,12,13] ?_;refine dV 8 [10,11,12,13] ?_;refine dV 9 [10,11,12,13] ?_;refine d9 10 J [11,12,13] (u9 J) ((LX J J J Om Om Om).as (congrArg _ (R7 (Vt xs k) j k))) ?_;refine d9 11 J [12,13] (u9 J) (jQ (j:=(Vt xs k+j) % k) J J J jw Om) ?_;refine d9 12 J [13] (u9 J) (jj J J jk J (WM (b:=eb) (o:=eo) h m1)) ?_;refine qg (i:=13) J Dc Kr J ?_;refine j5 J J (qq J) J (lb J) (λb3=>?_);refine n9 ?_;refine JS (u9 J) ?_;refine vg J Kr J ?_;refine JQ (k:=2) J jw jG Dc J Dc J J J (λw' hs=>qL hs (k:=3) J J) (by simp[Value.oneCell']) (by unfold maxLen;omega) Om (jlL _) (λr1=>?_);refine n9 ?_;refine Qy 17 [1] ?_;refine dK 15 ?_;refine qg (i:=16) J Dc Kr J ?_;refine S1 ?_;refine JS (uw [1] J) ?_;refine JK Kr ?_;refine S7 ?_;exact Jn hL2 ((j+1,r1)) ((show j+1<=k by omega)) (by simp only;omega) ⟨vi Om,sz⟩ (λ_ h=>h.upto ⟨J,J,by have:=FD (xs:=xs) (k:=Vt xs k) (j:=j) Om Om;rw[hl] at this;rw[<-this];rfl,trivial⟩)
  .have hje:j=k:=Om;subst hje;rw[jme Om];refine S12 ?_;refine jK J (qj (k:=0) J Jz J J) ?_;intro w' hs;have hr:=hs.all 2 _ rfl
   exact⟨_,rfl,vM (show _ by rw[wQ,hl];exact hr.1) (λb hb=>(hr.2.1 b hb).elim id (λh=>by cases h)),hs.fin⟩
theorem ND(b1 o1 b2 o2:Nat)(A B:Option Addr)(n c m d:Nat)(xs ys:List Pn)(w:World)(h1c:w.cell? ⟨b1,o1,none⟩=some (.slice A n c))(hb1:b1<w.heap.size)(h2c:w.cell? ⟨b2,o2,none⟩=some (.slice B m d))(hb2:b2<w.heap.size)(h:Pts w A n xs)(h':Pts w B m ys)(hn:n<=1099511627776)(hm:m<=1099511627776):
  Calls Tryz.prog 68 #[.pointer (some ⟨b1,o1,none⟩),.pointer (some ⟨b2,o2,none⟩)] w λe w'=>e=.returned (.bool (uT xs ys))/\Over w w':=by
 have hl:=h.1;have hl':=h'.1
 refine Jm (m:=65) (Tryz.func68) J J (lb J) ?_;refine S10 ?_;refine qD (X:=Nat) (λk=>k<=n/\k<=m/\uS (xs.drop k) (ys.drop k)=uS xs ys) (λk=>n-k) (λk=>[(5,.int .i64 (k:Int))]) (kK [0,1,4]) 0 (⟨jlN _,jlN _,J⟩) ⟨J,sz⟩ ?_;intro k hk L hL1;refine v9 ?_;obtain⟨hk1,hk2,hk3⟩:=hk;refine S1 ?_;refine qH [(21,.bool (decide (k<n) &&decide (k<m)))] (kK [0,1,4,5]) (λL h_2=>?_) ?_
 .refine S5 ?_;refine a9 (jn rfl rfl JH (by first|exact QZ h1c hb1|exact QZ h2c hb2)) ?_;refine S3 ?_;refine cV 13 (λg1=>?_) (λg1=>?_)
  .refine S9 ?_;refine o9 (jn rfl rfl JH (by first|exact QZ h1c hb1|exact QZ h2c hb2)) ?_;refine S6 ?_
   exact Jx h_2 ⟨vb (by rw[show decide (k<n)=true from decide_eq_true Om,jlZ];exact decide_eq_decide.2 Om),sz⟩ (u9 J)
  .refine S9 ?_;exact Jx h_2 ⟨vb (by rw[show decide (k<n)=false from decide_eq_false Om,jmg]),sz⟩ (u9 J)
 .refine v9 ?_;refine cZ (λc1=>?_) (λc1=>?_)
  .simp only[jlK,decide_eq_true_eq] at c1;obtain⟨hlt,hmk⟩:=c1;obtain⟨eb,eo,rfl,_⟩:=h.2 Om;obtain⟨fb,fo,rfl,_⟩:=h'.2 Om;refine S6 ?_;refine JY 15 ?_;refine dK 0 ?_;refine dK 1 ?_;refine dK 2 ?_;refine dZ 3 rfl (jn rfl rfl JH (by first|exact QZ h1c hb1|exact QZ h2c hb2)) ?_;refine dK 4 ?_;refine dK 5 ?_;refine dZ 6 J (jj J J jk J (WM (b:=eb) (o:=eo) h hlt)) ?_;refine dK 7 ?_;refine dK 8 ?_;refine dK 9 ?_;refine dZ 10 rfl (jn rfl rfl JH (by first|exact QZ h1c hb1|exact QZ h2c hb2)) ?_;refine dK 11 ?_;refine dK 12 ?_;refine dZ 13 J (jj J J jk J (WM (b:=fb) (o:=fo) h' hmk)) ?_;refine dK 14 ?_;refine JK Kr ?_;refine S1 ?_;refine cZ (λc2=>?_) (λc2=>?_)
   .refine S2 ?_;refine JY 16 ?_;refine dK 0 ?_;refine dK 1 ?_;refine dK 2 ?_;refine dZ 3 rfl (jn rfl rfl JH (by first|exact QZ h1c hb1|exact QZ h2c hb2)) ?_;refine dK 4 ?_;refine dK 5 ?_;refine dZ 6 J (jj J J jk J (WM (b:=eb) (o:=eo) h hlt)) ?_;refine dK 7 ?_;refine dK 8 ?_;refine dK 9 ?_;refine dZ 10 rfl (jn rfl rfl JH (by first|exact QZ h1c hb1|exact QZ h2c hb2)) ?_;refine dK 11 ?_;refine dK 12 ?_;refine dZ 13 J (jj J J jk J (WM (b:=fb) (o:=fo) h' hmk)) ?_;refine dZ 14 J (jT KK J J (λw1 hs=>WF (pt xs k) (pt ys k) w1)) ?_;refine dK 15 ?_;refine JK Kr ?_;refine S7 ?_;refine jK J (.tmp J) ?_
    intro w' hs;exact⟨by rw[<-MC Om Om (ji2 c2) hk3],hs.fin⟩
   .refine S8 ?_;exact J6 hL1 (k+1) (⟨by omega,by omega,by rw[<-RX Om Om (ji0 c2)];exact hk3⟩) Om ⟨vi Om,sz⟩ (u9 J)
  .simp only[jnn,decide_eq_false_iff_not] at c1;refine S7 ?_;refine JY 12 ?_;refine dK 0 ?_;refine dK 1 ?_;refine dK 2 ?_;refine dZ 3 rfl (jn rfl rfl JH (by first|exact QZ h1c hb1|exact QZ h2c hb2)) ?_;refine dK 4 ?_;refine dK 5 ?_;refine dK 6 ?_;refine dK 7 ?_;refine dZ 8 rfl (jn rfl rfl JH (by first|exact QZ h1c hb1|exact QZ h2c hb2)) ?_;refine dK 9 ?_;refine dK 10 ?_;refine dK 11 ?_;refine JK Kr ?_;refine S2 ?_;refine jK J (.tmp J) ?_
   intro w' hs;refine⟨?_,hs.fin⟩;unfold uT;rw[<-hk3];by_cases hkn:k<n
   .rw[NM Om Om];exact congrArg (λb=>Ending.returned (Value.bool b)) (decide_eq_decide.2 Om)
   .rw[G9 Om Om];split<;>exact congrArg (λb=>Ending.returned (Value.bool b)) (decide_eq_decide.2 Om)
end
section
end
end Go.Proofs.YtjbahemkhphndaaGreat
