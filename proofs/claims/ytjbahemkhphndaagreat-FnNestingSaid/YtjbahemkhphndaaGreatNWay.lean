import Derived.Test.YtjbahemkhphndaaGreatNStabP
import Derived.Test.YtjbahemkhphndaaGreatNSimp
import Derived.Test.YtjbahemkhphndaaGreatNSd2
import Derived.Test.YtjbahemkhphndaaGreatNNums
set_option linter.unusedVariables false
set_option linter.unusedSimpArgs false
namespace Go.Proofs.YtjbahemkhphndaaGreat
open Go Go.RowKit
variable{T b i:Nat}{tl:List Value}
set_option maxRecDepth 100000
set_option maxHeartbeats 4000000
structure Wy where
 x:Int
 y:Int
 num:Int
 den:Int
 cl:Bool
 pos:0<den
def Wy.cells(e:Wy):List Value:=[.int .i64 e.x,.int .i64 e.y,.int .i64 e.num,.int .i64 e.den,.bool e.cl]
abbrev Wy.val(e:Wy):Value:=.agg #[.int .i64 e.x,.int .i64 e.y,.int .i64 e.num,.int .i64 e.den,.bool e.cl]
def ut(ds:List Wy)(tl:List Value):List Value:=ds.flatMap Wy.cells++tl
theorem Lc(ds:List Wy):(ds.flatMap Wy.cells).length=ds.length*5:=by
 induction ds with
 |nil=>rfl
 |cons e l ih=>rw[jl4,jlJ,ih,jlS];simp only[Wy.cells,jlS,jl5];omega
theorem Yi(ds:List Wy)(tl:List Value):(ut ds tl).length=ds.length*5+tl.length:=by rw[ut,jlJ,Lc]
theorem S0(ds es:List Wy)(tl:List Value):ut (ds++es) tl=ut ds (ut es tl):=by simp[ut]
theorem jgB{ds:List Wy}{e:Wy}(h:ds[i]? =some e){j:Nat}{v:Value}(hv:e.cells[j]? =some v):(ut ds tl)[i*5+j]? =some v:=by
 obtain⟨hi,rfl⟩:=List.getElem?_eq_some_iff.1 h;have hj:j<5:=by have:=(List.getElem?_eq_some_iff.1 hv).1;simpa[Wy.cells] using this
 have e1:ds=ds.take i++(ds[i]::ds.drop (i+1)):=by rw[<-jmu hi,jl1]
 have e2:ut ds tl=(ds.take i).flatMap Wy.cells++(ds[i].cells++ut (ds.drop (i+1)) tl):=by
  conv=>lhs;rw[e1]
  rw[S0];simp only[ut,jl4,jlT]
 rw[e2,List.getElem?_append_right (by rw[Lc,jl3];omega),Lc,jl3,show i*5+j-min i ds.length*5=j by omega,List.getElem?_append_left (by simpa[Wy.cells] using hj)];exact hv
theorem IW{ds:List Wy}(e:Wy)(hi:i<ds.length):qV (ut ds tl) (0+i*5) e.cells=ut (ds.set i e) tl:=by
 have e1:ds=ds.take i++(ds[i]::ds.drop (i+1)):=by rw[<-jmu hi,jl1]
 have e2:ut ds tl=(ds.take i).flatMap Wy.cells++ds[i].cells++ut (ds.drop (i+1)) tl:=by
  conv=>lhs;rw[e1]
  rw[S0];simp only[ut,jl4,jlT]
 have e3:ut (ds.set i e) tl=(ds.take i).flatMap Wy.cells++e.cells++ut (ds.drop (i+1)) tl:=by
  rw[List.set_eq_take_append_cons_drop,if_pos hi,S0];simp only[ut,jl4,jlT]
 have hlen:((ds.take i).flatMap Wy.cells).length=0+i*5:=by rw[Lc,jl3];omega
 rw[e2,e3,<-hlen];exact yz e.cells _ ds[i].cells _ rfl
theorem O1{ds:List Wy}{j:Nat}{x y:Wy}(hx:ds[i]? =some x)(hy:ds[j]? =some y):ut (wy ds i j) tl=qV (qV (ut ds tl) (0+i*5) y.cells) (0+j*5) x.cells:=by
 have hi:=(List.getElem?_eq_some_iff.1 hx).1;have hj:=(List.getElem?_eq_some_iff.1 hy).1
 rw[IW y hi,IW x (by simpa using hj),vN hx hy]
section
variable{P:Program}{w0:Bs}{Rs:List Res}
theorem Cb{k off:Nat}{ds:List Wy}{e:Wy}(hk:Rs[k]? =some (.cel b T (ut ds tl)))(hv:ds[i]? =some e)(he:off=0+i*5):∀w,St w0 Rs w->∀j x,e.cells[j]? =some x->w.cell? ⟨b,off+j,none⟩=some x:=λw h j x hx=>by
 subst he;rw[jmd,cell_of_row w b _ _ T (0,0) (h.cel hk)];have:=jgB (tl:=tl) hv hx
 simpa using this
end
theorem z6(b T:Nat)(tl:List Value)(cs:List Wy)(n c i j m:Nat)(fv:Value)(w:World)(hh:w.heap[b]? =some (.cells (ut (cs) tl).toArray T (0,0)))(hl:n<=cs.length)(h1:i+m<=n)(h2:j+m<=n)(hn:n<=1099511627776)(hone:Up n (λ_:Wy=>True) cs):
  Calls Tryz.prog 186 #[.slice (some ⟨b,0,none⟩) n c,.int .i64 (i:Int),.int .i64 (j:Int),.int .i64 (m:Int),fv] w λe w'=>e=.returned (.tuple #[])/\Wr b w w'/\w'.heap[b]? =some (.cells (ut (ul cs i j m) tl).toArray T (0,0)):=by
 refine Q8 (m:=38) (Tryz.func186) J J (lb J) (hh) ?_;refine S5 ?_;refine JW (X:=Nat×List Wy) (λx=>x.1<=m/\x.2=ul cs i j x.1) (λx=>m-x.1) (λx=>[(10,.int .i64 (x.1:Int))]) (kK [0,1,2,3]) (λx=>[.cel b T (ut x.2 tl)]) (0,cs) (⟨jlN _,J⟩) ⟨J,sz⟩ (λ_ h=>h) ?_;intro⟨k,ds⟩ hx L hL1;refine v9 ?_;refine r9 ?_;have hk:k<=m:=hx.1
 have hds:ds=ul cs i j k:=hx.2;have hlen:ds.length=cs.length:=by rw[hds,I1]
 refine S7 ?_;refine cZ (λc1=>?_) (λc1=>?_)
 .have hlt:k<m:=Om;obtain⟨x,hx1⟩:∃x,ds[i+k]? =some x:=⟨_,List.getElem?_eq_getElem Om⟩;obtain⟨y,hy1⟩:∃y,ds[j+k]? =some y:=⟨_,List.getElem?_eq_getElem Om⟩;have hxo:(Wy.cells x).all (·.oneCell')=true:=rfl
  have hyo:(Wy.cells y).all (·.oneCell')=true:=rfl;refine S5 ?_;refine Ur 21 23 [0] ?_;refine k9 0 J [] (u9 J) q9 ?_;refine k9 1 J [] (u9 J) q9 ?_;refine k9 2 J [] (u9 J) q9 ?_;refine k9 3 J [] (u9 J) p9 ?_;refine Vs (i:=4) J Kr Kr Kr [] Kr (λ_ _ _ h=>h) J J Dc (u9 J) q9 q9 ?_;refine Vs (i:=5) J Kr Kr Kr [] Kr (λ_ _ _ h=>h) J J Dc (u9 J) q9 q9 ?_;refine Vs (i:=6) J Kr Kr Kr [] Kr (λ_ _ _ h=>h) J J Dc (u9 J) q9 q9 ?_;refine Vs (i:=7) J Kr Kr Kr [] Kr (λ_ _ _ h=>h) J J Dc (u9 J) p9 p9 ?_;refine k9 8 J [] (u9 J) q9 ?_;refine k9 9 J [] (u9 J) q9 ?_;refine k9 10 J [] (u9 J) q9 ?_;refine k9 11 J [] (u9 J) p9 ?_;refine k9 12 J [] (u9 J) (jQ (j:=j+k) J J J JI Om) ?_;refine k9 13 J [] (u9 J) (jj J J qv J (Cb (k:=0) J hy1 Om)) ?_;refine k9 14 J [18,19] (u9 J) q9 ?_;refine k9 15 J [17,18,19] (u9 J) q9 ?_;refine k9 16 J [17,18,19] (u9 J) q9 ?_;refine k9 17 J [18,19] (u9 J) p9 ?_;refine k9 18 J [19] (u9 J) (jQ (j:=i+k) J J J JI Om) ?_;refine k9 19 J [] (u9 J) (jj J J qv J (Cb (k:=0) J hx1 Om)) ?_;refine k9 20 J [] (u9 J) (jQ (j:=i+k) J J J JI Om) ?_;refine Z1 J Kr J ?_;refine qN (k:=0) J J J J J hyo Qe.szx J J (by rw[Yi];simp[Wy.cells];omega) ?_;refine JS (uw [0] J) ?_;refine n9 ?_;refine dZ 22 J (jQ (j:=j+k) J J J JI Om) ?_;refine vg J Kr J ?_;refine qN (k:=0) J J J J J hxo Qe.szx J J (by rw[kY,Yi];simp[Wy.cells];omega) ?_;refine Yp Kr ?_;refine S7 ?_;exact Jn hL1 ((k+1,wy ds (i+k) (j+k))) (⟨show k+1<=m by omega,by rw[ul,<-hds]⟩) (by simp only;omega) ⟨vi Om,sz⟩ (λ_ h=>h.upto ⟨congrArg (Res.cel b T) (O1 hx1 hy1),trivial⟩)
 .refine S4 ?_;refine kV J ?_;intro w' hs;have hkm:k=m:=Om
  subst hkm;exact⟨rfl,hs.over.wr,hds▸hs.cel (k:=0) rfl⟩
theorem jcQ(b T:Nat)(tl:List Value)(A G R B:List Wy)(n c a m e_:Nat)(fv:Value)(w:World)(hh:w.heap[b]? =some (.cells (ut (A++G++R++B) tl).toArray T (0,0)))(ha:A.length=a)(hm:a+G.length=m)(he:m+R.length=e_)(hG:0<G.length)(hR:0<R.length)(hen:e_<=n)(hl:n<=(A++G++R++B).length)(hn:n<=1099511627776)(hone:Up n (λ_:Wy=>True) (A++G++R++B)):
  Calls Tryz.prog 181 #[.slice (some ⟨b,0,none⟩) n c,.int .i64 (a:Int),.int .i64 (m:Int),.int .i64 (e_:Int),fv] w λe w'=>e=.returned (.tuple #[])/\Wr b w w'/\w'.heap[b]? =some (.cells (ut (A++R++G++B) tl).toArray T (0,0)):=by
 have hlt:n<=(A++R++G++B).length:=by simp at hl⊢;omega
 refine Q8 (m:=58) (Tryz.func181) J J (lb J) (hh) ?_;refine S16 ?_;refine JW (X:=Nat×Nat×List Wy) (λx=>RotI (λ_:Wy=>True) (A++R++G++B) m n x.1 x.2.1 x.2.2) (λx=>x.1+x.2.1) (λx=>[(10,.int .i64 (x.1:Int)),(11,.int .i64 (x.2.1:Int))]) (kK [0,2,4]) (λx=>[.cel b T (ut x.2.2 tl)]) (G.length,R.length,A++G++R++B) (⟨⟨A,G,R,B,J,(by show A.length+G.length=m;omega),J,J,J⟩,hG,hR,(by show m+R.length<=n;omega),hone⟩) ⟨vi Om,vi (by show(e_:Int)-(m:Int)=((R.length:Nat):Int);omega),sz⟩ (λ_ h=>h) ?_;intro⟨i,j,ds⟩ hx L hL1;refine v9 ?_;refine r9 ?_;have hx':RotI (λ_:Wy=>True) (A++R++G++B) m n i j ds:=hx
 have hlen:=hx'.len;have hle:=hx'.le
 have hi0:=hx'.i0;have hj0:=hx'.j0
 refine S7 ?_;refine cZ (λc1=>?_) (λc1=>?_)
 .have hne:i≠j:=Om;refine S9 ?_;refine cZ (λc2=>?_) (λc2=>?_)
  .have hji:j<i:=Om;refine S9 ?_;refine wg 27 (.int .i64 ((m-i:Nat):Int)) J (congrArg _ Om) ?_;refine S1 ?_;refine QL (k:=0) QJ J J J Dc J (λw1 h1=>z6 b T tl ds n c (m-i) m j fv w1 (h1.cel (k:=0) J) Om Om Om hn hx'.one) ?_;refine N9 ?_;exact Jn hL1 ((i-j,j,_)) (hx'.left hji) (by simp only;omega) ⟨vi Om,sz⟩ (u9 J)
  .have hji:i<j:=(by simp at c2;omega);refine S13 ?_;refine wg 38 (.int .i64 ((m-i:Nat):Int)) J (congrArg _ Om) ?_;refine wg 43 (.int .i64 ((m+j-i:Nat):Int)) J (congrArg _ Om) ?_;refine S1 ?_;refine QL (k:=0) QJ J J J Dc J (λw1 h1=>z6 b T tl ds n c (m-i) (m+j-i) i fv w1 (h1.cel (k:=0) J) Om Om Om hn hx'.one) ?_;refine N9 ?_;exact Jn hL1 ((i,j-i,_)) (hx'.right hji) (by simp only;omega) ⟨J,vi (by show(j:Int)-(i:Int)=((j-i:Nat):Int);omega),sz⟩ (u9 J)
 .refine S13 ?_;refine wg 53 (.int .i64 ((m-i:Nat):Int)) J (congrArg _ Om) ?_;refine S1 ?_;refine QL (k:=0) QJ J J J Dc J (λw1 h1=>z6 b T tl ds n c (m-i) m i fv w1 (h1.cel (k:=0) J) Om Om Om hn hx'.one) ?_;refine N1 ?_;refine kV J ?_;intro w' hs;have hij:i=j:=Om
  subst hij;exact⟨rfl,hs.over.wr,by rw[<-hx'.fin];exact hs.cel (k:=0) rfl⟩
structure CmpW (w:World) (b:Nat) (S:Wy->Prop) (cr:Wy->Wy->Int):Prop where
 call:∀x,S x->∀y,S y->∀w',Ovx ⟨w,[b]⟩ w'->Calls Tryz.prog 136 #[x.val,y.val] w' λe w''=>e=.returned (.int .i64 (cr x y))/\Over w' w''
 weak:Weak (QP cr)
theorem CmpW.over{w w1:World}{S:Wy->Prop}{cr:Wy->Wy->Int}(h:CmpW w b S cr)(ho:Ovx ⟨w,[b]⟩ w1):CmpW w1 b S cr:=
 ⟨λx hx y hy w' hw=>h.call x hx y hy w' ⟨hw.os.trans ho.os,hw.tape.trans ho.tape,hw.output.trans ho.output,jmC ho.size hw.size,λq hq hne=>(hw.block q (jlU hq ho.size) hne).trans (ho.block q hq hne)⟩,h.weak⟩
theorem G2(b T:Nat)(tl:List Value)(A X B:List Wy)(n c a e_:Nat)(S:Wy->Prop)(cr:Wy->Wy->Int)(w:World)(hC:CmpW w b S cr)(hh:w.heap[b]? =some (.cells (ut (A++X++B) tl).toArray T (0,0)))(ha:A.length=a)(he:a+X.length=e_)(hen:e_<=n)(hl:n<=(A++X++B).length)(hn:n<=1099511627776)(hS:Up n S (A++X++B)):
  Calls Tryz.prog 169 #[.slice (some ⟨b,0,none⟩) n c,.int .i64 (a:Int),.int .i64 (e_:Int),.func (.func 136) #[] #[]] w λe w'=>e=.returned (.tuple #[])/\Wr b w w'/\w'.heap[b]? =some (.cells (ut (A++Kq (QP cr) X++B) tl).toArray T (0,0)):=by
 subst ha;refine Q8 (m:=53) (Tryz.func169) J J (lb J) (hh) ?_;refine S7 ?_;refine JW (X:=Nat×List Wy) (λx=>InsO (QP cr) A X B x.1 x.2/\Up n S x.2) (λx=>e_-x.1) (λx=>[(8,.int .i64 (x.1:Int))]) (kK [0,1,2,3]) (λx=>[.cel b T (ut x.2 tl)]) (A.length+1,A++X++B) (⟨InsO.start,hS⟩) ⟨J,sz⟩ (λ_ h=>h) ?_;intro⟨i,ds⟩ hx L hL1;refine v9 ?_;refine r9 ?_;have hx1:InsO (QP cr) A X B i ds:=hx.1
 have hSd:Up n S ds:=hx.2;have hlo:=hx1.lo
 refine S7 ?_;refine cZ (λc1=>?_) (λc1=>?_)
 .have hlt:i<e_:=Om;obtain⟨x,hin,hout⟩:=hx1.in_ Om;refine S10 ?_;refine JW (X:=Nat×List Wy) (λy=>InsI (QP cr) A (Kq (QP cr) (X.take (i-A.length))) (X.drop (i-A.length+1)++B) x y.1 y.2/\A.length<=y.1/\y.1<=i/\y.2.length=(A++X++B).length/\Up n S y.2) (λy=>y.1) (λy=>[(9,.int .i64 (y.1:Int))]) (kK [0,1,2,3,8,12,13,14,17]) (λy=>[.cel b T (ut y.2 tl)]) (i,ds) (⟨hin,by show A.length<=i;omega,jlL _,hx1.len,hSd⟩) ⟨J,sz⟩ (λ_ h=>h) ?_;intro⟨j,fs⟩ hy L hL2;refine v9 ?_;refine r9 ?_;have hy1:InsI (QP cr) A (Kq (QP cr) (X.take (i-A.length))) (X.drop (i-A.length+1)++B) x j fs:=hy.1
  have hy2:A.length<=j:=hy.2.1;have hy3:j<=i:=hy.2.2.1
  have hy4:fs.length=(A++X++B).length:=hy.2.2.2.1;have hSf:Up n S fs:=hy.2.2.2.2
  refine S3 ?_;refine JY 17 ?_;refine dK 0 ?_;refine dK 1 ?_;refine dK 2 ?_;refine dK 3 ?_;refine cV 21 (λg1=>?_) (λg1=>?_)
  .have hjl:A.length<j:=(by simp at g1;omega);obtain⟨p,u1,u2,hstop,hgo⟩:=hy1.last hjl;have hSx:=hSf j x Om u1
   have hSp:=hSf (j-1) p Om u2;have hxo:(Wy.cells x).all (·.oneCell')=true:=rfl
   have hpo:(Wy.cells p).all (·.oneCell')=true:=rfl;refine eK 4 ?_;refine eK 5 ?_;refine eK 6 ?_;refine eZ 7 J (jQ (j:=j) J J J JI Om) ?_;refine eZ 8 J (jj J J qv J (Cb (k:=0) J u1 Om)) ?_;refine eK 9 ?_;refine eK 10 ?_;refine eZ 11 J ((JP J J J Om Om).as (show Value.int .i64 ((j:Int)-1)=Value.int .i64 ((j-1:Nat):Int) from congrArg _ Om)) ?_;refine eZ 12 J (jQ (j:=j-1) J J J JI Om) ?_;refine eZ 13 J (jj J J qv J (Cb (k:=0) J u2 Om)) ?_;refine eZ 14 J (VO Vz J J J (λw1 h1=>hC.call x hSx p hSp w1 h1.over)) ?_;refine eK 15 ?_;refine dK 16 ?_;refine JK Kr ?_;refine S1 ?_;refine cZ (λc2=>?_) (λc2=>?_)
   .have hlx:QP cr x p=true:=(by simpa[QP] using c2);refine S5 ?_;refine Ur 15 17 [0] ?_;refine k9 0 J [] (u9 J) q9 ?_;refine k9 1 J [] (u9 J) q9 ?_;refine Vs (i:=2) J Kr Kr Kr [] Kr (λ_ _ _ h=>h) J J Dc (u9 J) q9 q9 ?_;refine Vs (i:=3) J Kr Kr Kr [] Kr (λ_ _ _ h=>h) J J Dc (u9 J) q9 q9 ?_;refine Vs (i:=4) J Kr Kr Kr [] Kr (λ_ _ _ h=>h) J J Dc (u9 J) ((JP J J J Om Om).as (show Value.int .i64 ((j:Int)-1)=Value.int .i64 ((j-1:Nat):Int) from congrArg _ Om)) ((JP J J J Om Om).as (show Value.int .i64 ((j:Int)-1)=Value.int .i64 ((j-1:Nat):Int) from congrArg _ Om)) ?_;refine k9 5 J [] (u9 J) q9 ?_;refine k9 6 J [] (u9 J) q9 ?_;refine k9 7 J [] (u9 J) ((JP J J J Om Om).as (show Value.int .i64 ((j:Int)-1)=Value.int .i64 ((j-1:Nat):Int) from congrArg _ Om)) ?_;refine k9 8 J [] (u9 J) (jQ (j:=j-1) J J J JI Om) ?_;refine k9 9 J [] (u9 J) (jj J J qv J (Cb (k:=0) J u2 Om)) ?_;refine k9 10 J [12,13] (u9 J) q9 ?_;refine k9 11 J [12,13] (u9 J) q9 ?_;refine k9 12 J [13] (u9 J) (jQ (j:=j) J J J JI Om) ?_;refine k9 13 J [] (u9 J) (jj J J qv J (Cb (k:=0) J u1 Om)) ?_;refine k9 14 J [] (u9 J) (jQ (j:=j) J J J JI Om) ?_;refine Z1 J Kr J ?_;refine qN (k:=0) J J J J J hpo Qe.szx J J (by rw[Yi];simp[Wy.cells];omega) ?_;refine JS (uw [0] J) ?_;refine n9 ?_;refine dZ 16 J (jQ (j:=j-1) J J J JI Om) ?_;refine vg J Kr J ?_;refine qN (k:=0) J J J J J hxo Qe.szx J J (by rw[kY,Yi];simp[Wy.cells];omega) ?_;refine Yp Kr ?_;refine S7 ?_;exact Jn hL2 ((j-1,wy fs j (j-1))) (⟨hgo hlx,(by show A.length<=j-1;omega),(by show j-1<=i;omega),by rw[IZ];exact hy4,hSf.swap2 Om Om⟩) (by simp only;omega) ⟨vi Om,sz⟩ (λ_ h=>h.upto ⟨congrArg (Res.cel b T) (O1 u1 u2),trivial⟩)
   .have hlx:QP cr x p=false:=(by simpa[QP] using c2);refine S11 ?_;exact Jn hL1 ((i+1,_)) (⟨hout _ (hstop hC.weak (Wj hC.weak _) hlx),hSf⟩) (by simp only;omega) ⟨vi Om,sz⟩ (u9 J)
  .have hjl:j<=A.length:=(by simp at g1;omega);refine fK 4 ?_;refine fK 5 ?_;refine fK 6 ?_;refine fK 7 ?_;refine fK 8 ?_;refine fK 9 ?_;refine fK 10 ?_;refine fK 11 ?_;refine fK 12 ?_;refine fK 13 ?_;refine fK 14 ?_;refine fK 15 ?_;refine dK 16 ?_;refine JK Kr ?_;refine S13 ?_;exact Jn hL1 ((i+1,_)) (⟨hout _ (hy1.low hjl),hSf⟩) (by simp only;omega) ⟨vi Om,sz⟩ (u9 J)
 .refine S4 ?_;refine kV J ?_;intro w' hs;exact⟨rfl,hs.over.wr,by rw[<-hx1.fin Om];exact hs.cel (k:=0) rfl⟩
theorem D2{l l':List Wy}(e:l=l'):some (Obj.cells (ut l tl).toArray T (0,0))=some (Obj.cells (ut l' tl).toArray T (0,0)):=by rw[e]
theorem jc8(b T:Nat)(tl:List Value)(X B:List Wy)(n c:Nat)(S:Wy->Prop)(cr:Wy->Wy->Int)(w:World)(hC:CmpW w b S cr)(hh:w.heap[b]? =some (.cells (ut (X++B) tl).toArray T (0,0)))(hX:X.length=n)(hn:n<=1099511627776)(hS:∀x∈X,S x)(hM:∀(A L R Z:List Wy) (a m e_:Nat) (w1:World),CmpW w1 b S cr->w1.heap[b]? =some (.cells (ut (A++L++R++Z) tl).toArray T (0,0))->A.length=a->a+L.length=m->m+R.length=e_->0<L.length->0<R.length->e_<=n->n<=(A++L++R++Z).length->ya (QP cr) L->ya (QP cr) R->Up n S (A++L++R++Z)->
   Calls Tryz.prog 170 #[.slice (some ⟨b,0,none⟩) n c,.int .i64 (a:Int),.int .i64 (m:Int),.int .i64 (e_:Int),.func (.func 136) #[] #[]] w1 λe w'=>e=.returned (.tuple #[])/\Wr b w1 w'/\w'.heap[b]? =some (.cells (ut (A++Ws (QP cr) L R++Z) tl).toArray T (0,0))):
  Calls Tryz.prog 159 #[.slice (some ⟨b,0,none⟩) n c,.int .i64 (n:Int),.func (.func 136) #[] #[]] w λe w'=>e=.returned (.tuple #[])/\Wr b w w'/\w'.heap[b]? =some (.cells (ut (Kq (QP cr) X++B) tl).toArray T (0,0)):=by
 have W:=hC.weak;refine Q8 (m:=63) (Tryz.func159) J J (lb J) (hh) ?_;refine S12 ?_;refine JW (X:=Nat×List Wy) (λx=>PreI (QP cr) X 20 x.1 x.2) (λx=>n+20-x.1) (λx=>[(7,.int .i64 (x.1:Int)),(8,.int .i64 ((x.1+20:Nat):Int))]) (kK [0,1,2,6]) (λx=>[.cel b T (ut (x.2++(X.drop x.1++B)) tl)]) (0,[]) (PreI.zero) ⟨J,sz⟩ (λ_ h=>h) ?_;intro⟨a,F⟩ hx L hL1;refine v9 ?_;refine r9 ?_;have hx1:PreI (QP cr) X 20 a F:=hx
 have hle:=hx1.le;have hfl:=hx1.len
 refine S7 ?_;refine cZ (λc1=>?_) (λc1=>?_)
 .have hlt:a+20<=n:=Om;refine S10 ?_;refine QL (k:=0) Qo J J J Dc J (λw1 h1=>G2 b T tl F ((X.drop a).take 20) (X.drop (a+20)++B) n c a (a+20) S cr w1 (hC.over h1.over) ((h1.cel (k:=0) J).trans (D2 PreI.cut)) hfl (by simp;omega) hlt (by rw[<-PreI.cut,<-hX];exact(hx1.lens (q:=0)).1) hn (by rw[<-PreI.cut];exact(hx1.all (q:=0) hS hX).1)) ?_;refine N14 ?_;exact Jn hL1 ((a+20,F++Kq (QP cr) ((X.drop a).take 20))) (hx1.step Dc Om) (by simp only;omega) ⟨J,vi Om,sz⟩ (u9 J)
 .refine S12 ?_;refine QL (k:=0) Qo J J J Dc J (λw1 h1=>G2 b T tl F (X.drop a) B n c a n S cr w1 (hC.over h1.over) ((h1.cel (k:=0) J).trans (D2 (jlT ..).symm)) hfl (by simp;omega) (jlL _) (by rw[jlT,<-hX];exact(hx1.lens (q:=0)).1) hn (by rw[jlT];exact(hx1.all (q:=0) hS hX).1)) ?_;refine n9 ?_;rw[show F++Kq (QP cr) (X.drop a)=blk (QP cr) 20 X from hx1.fin Om];refine S2 ?_;refine JW (X:=Nat×Value×Value) (λx=>20<=x.1/\x.1<=2*n+40) (λx=>n-x.1) (λx=>[(6,.int .i64 (x.1:Int)),(7,x.2.1),(8,x.2.2)]) (kK [0,1,2]) (λx=>[.cel b T (ut (blk (QP cr) x.1 X++B) tl)]) (20,.int .i64 (a:Int),.int .i64 ((a+20:Nat):Int)) (⟨jlL _,(by show 20<=2*n+40;omega)⟩) ⟨J,sz⟩ (λ_ h=>h) ?_;intro⟨k,v7,v8⟩ hk L hL2;refine v9 ?_;refine r9 ?_;have hk1:20<=k:=hk.1
  have hk2:k<=2*n+40:=hk.2;refine S7 ?_;refine cZ (λc2=>?_) (λc2=>?_)
  .have hkn:k<n:=Om;refine S12 ?_;refine JW (X:=Nat×List Wy) (λy=>PreI (QP cr) X (2*k) y.1 y.2) (λy=>n+2*k-y.1) (λy=>[(7,.int .i64 (y.1:Int)),(8,.int .i64 ((y.1+2*k:Nat):Int))]) (kK [0,1,2,6,28,29,30,31,32]) (λy=>[.cel b T (ut (y.2++(blk (QP cr) k (X.drop y.1)++B)) tl)]) (0,[]) (PreI.zero) ⟨J,vi Om,sz⟩ (λ_ h=>h) ?_;intro⟨d,G⟩ hy L hL3;refine v9 ?_;refine r9 ?_;have hy1:PreI (QP cr) X (2*k) d G:=hy
   have hld:=hy1.le;have hgl:=hy1.len
   refine S7 ?_;refine cZ (λc3=>?_) (λc3=>?_)
   .have hd2:d+2*k<=n:=Om;obtain⟨e1,e2⟩:=hy1.two W (B:=B) Om Om;refine S13 ?_;refine QL (k:=0) Qa J J J Dc J (λw1 h1=>hM G (Kq (QP cr) ((X.drop d).take k)) (Kq (QP cr) (((X.drop d).drop k).take k)) (blk (QP cr) k (X.drop (d+2*k))++B) d (d+k) (d+2*k) w1 (hC.over h1.over) ((h1.cel (k:=0) J).trans (D2 e1)) hgl (by rw[QC];simp;omega) (by rw[QC];simp;omega) (by rw[QC];simp;omega) (by rw[QC];simp;omega) hd2 (by rw[<-e1,<-hX];exact(hy1.lens (q:=k)).2) (Wj W _) (Wj W _) (by rw[<-e1];exact(hy1.all (q:=k) hS hX).2)) ?_;refine N15 ?_;exact Jn hL3 ((d+2*k,G++Ws (QP cr) (Kq (QP cr) ((X.drop d).take k)) (Kq (QP cr) (((X.drop d).drop k).take k)))) (e2) (by simp only;omega) ⟨J,vi Om,sz⟩ (u9 J)
   .refine S19 ?_;refine cZ (λc4=>?_) (λc4=>?_)
    .have hdk:d+k<n:=Om;obtain⟨e3,e4⟩:=hy1.last W (B:=B) Om Om Om;refine S7 ?_;refine QL (k:=0) Qa J J J Dc J (λw1 h1=>hM G (Kq (QP cr) ((X.drop d).take k)) (Kq (QP cr) ((X.drop d).drop k)) B d (d+k) n w1 (hC.over h1.over) ((h1.cel (k:=0) J).trans (D2 e3)) hgl (by rw[QC];simp;omega) (by rw[QC];simp;omega) (by rw[QC];simp;omega) (by rw[QC];simp;omega) (jlL _) (by rw[<-e3,<-hX];exact(hy1.lens (q:=k)).2) (Wj W _) (Wj W _) (by rw[<-e3];exact(hy1.all (q:=k) hS hX).2)) ?_;refine n9 ?_;rw[e4];refine S8 ?_;exact Jn hL2 ((2*k,.int .i64 (d:Int),.int .i64 ((d+2*k:Nat):Int))) (⟨show 20<=2*k by omega,show 2*k<=2*n+40 by omega⟩) (by simp only;omega) ⟨vi (by show(k:Int)*2=((2*k:Nat):Int);omega),sz⟩ (u9 J)
    .rw[show G++(blk (QP cr) k (X.drop d)++B)=blk (QP cr) (2*k) X++B from hy1.none Om];refine S9 ?_;exact Jn hL2 ((2*k,.int .i64 (d:Int),.int .i64 ((d+2*k:Nat):Int))) (⟨show 20<=2*k by omega,show 2*k<=2*n+40 by omega⟩) (by simp only;omega) ⟨vi (by show(k:Int)*2=((2*k:Nat):Int);omega),sz⟩ (u9 J)
  .refine S4 ?_;refine kV J ?_;intro w' hs;exact⟨rfl,hs.over.wr,by rw[<-wA (lt:=QP cr) (k:=k) (xs:=X) Om];exact hs.cel (k:=0) rfl⟩
def MrgW(b T n c:Nat)(tl:List Value)(S:Wy->Prop)(cr:Wy->Wy->Int)(top:Nat):Prop:=
 ∀(A L R Z:List Wy) (a m e_:Nat) (w1:World),L.length+R.length<top->CmpW w1 b S cr->w1.heap[b]? =some (.cells (ut (A++L++R++Z) tl).toArray T (0,0))->A.length=a->a+L.length=m->m+R.length=e_->0<L.length->0<R.length->e_<=n->n<=(A++L++R++Z).length->ya (QP cr) L->ya (QP cr) R->Up n S (A++L++R++Z)->
   Calls Tryz.prog 170 #[.slice (some ⟨b,0,none⟩) n c,.int .i64 (a:Int),.int .i64 (m:Int),.int .i64 (e_:Int),.func (.func 136) #[] #[]] w1 λe w'=>e=.returned (.tuple #[])/\Wr b w1 w'/\w'.heap[b]? =some (.cells (ut (A++Ws (QP cr) L R++Z) tl).toArray T (0,0))
theorem PU(b T n c:Nat)(tl:List Value)(S:Wy->Prop)(cr:Wy->Wy->Int)(hn:n<=1099511627776)(A G R Z:List Wy)(a m e_:Nat)(w:World)(ih:MrgW b T n c tl S cr (G.length+R.length))(hC:CmpW w b S cr)(hh:w.heap[b]? =some (.cells (ut (A++G++R++Z) tl).toArray T (0,0)))(ha:A.length=a)(hm:a+G.length=m)(he:m+R.length=e_)(hG:0<G.length)(hR:0<R.length)(hen:e_<=n)(hl:n<=(A++G++R++Z).length)(hsG:ya (QP cr) G)(hsR:ya (QP cr) R)(hS:Up n S (A++G++R++Z)):
  Calls Tryz.prog 170 #[.slice (some ⟨b,0,none⟩) n c,.int .i64 (a:Int),.int .i64 (m:Int),.int .i64 (e_:Int),.func (.func 136) #[] #[]] w λe w'=>e=.returned (.tuple #[])/\Wr b w w'/\w'.heap[b]? =some (.cells (ut (A++Ws (QP cr) G R++Z) tl).toArray T (0,0)):=by
 have W:=hC.weak;have hlen:(A++G++R++Z).length=e_+Z.length:=by simp;omega
 have hRat:∀i,i<R.length->(A++G++R++Z)[m+i]? =R[i]? :=λi hi=>by
  rw[List.getElem?_append_left (by simp;omega),List.getElem?_append_right (by simp;omega)];congr 1;simp;omega
 have hGat:∀i,i<G.length->(A++G++R++Z)[a+i]? =G[i]? :=λi hi=>by
  rw[List.getElem?_append_left (by simp;omega),List.getElem?_append_left (by simp;omega),List.getElem?_append_right Om];congr 1;omega
 refine Q8 (m:=220) (Tryz.func170) J J (lb J) (hh) ?_;refine S8 ?_;refine cZ (λc1=>?_) (λc1=>?_)
 .have hG1:G.length=1:=Om;obtain⟨x,hx0⟩:∃x,G[0]? =some x:=⟨_,List.getElem?_eq_getElem hG⟩;have hGx:G=[x]:=(by match G,hG1,hx0 with|[y],_,h=>(cases h;rfl))
  have hxa:(A++G++R++Z)[a]? =some x:=(hGat 0 hG).trans hx0;have hSx:S x:=hS _ x Om hxa
  refine S12 ?_;refine JW (X:=Nat×Nat) (λy=>S1I (QP cr) R x y.1 y.2) (λy=>y.2-y.1) (λy=>[(10,.int .i64 ((m+y.1:Nat):Int)),(11,.int .i64 ((m+y.2:Nat):Int))]) (kK [0,1,2,3,4]) (λy=>[.cel b T (ut (A++G++R++Z) tl)]) (0,R.length) (S1I.start) ⟨J,vi Om,sz⟩ (λ_ h=>h) ?_;intro⟨i,j⟩ hy L hL1;refine v9 ?_;refine r9 ?_;have hy1:S1I (QP cr) R x i j:=hy
  have hle:=hy1.le;refine S7 ?_;refine cZ (λc2=>?_) (λc2=>?_)
  .have hij:i<j:=Om;obtain⟨r,hr⟩:∃r,R[(i+j)/2]? =some r:=⟨_,List.getElem?_eq_getElem Om⟩;have hra:(A++G++R++Z)[m+(i+j)/2]? =some r:=(hRat _ Om).trans hr
   have hSr:S r:=hS _ r Om hra;refine S8 ?_;refine a9 (QS J Tryz.underlying3 Tryz.underlying98 J (UJ _ Om Om)) ?_;refine a9 (ue (q:=1) J J J Dc Dc) ?_;refine a9 ((QS J Tryz.underlying98 Tryz.underlying3 J (Wk _ (by simp;omega) (by simp;omega))).as (congrArg _ (show((((m+i:Nat):Int)+((m+j:Nat):Int))/2^ (Int.toNat 1))=((m+(i+j)/2:Nat):Int) by simp;omega))) ?_;refine S4 ?_;refine JY 11 ?_;refine dK 0 ?_;refine dK 1 ?_;refine dK 2 ?_;refine dZ 3 J (jQ (j:=m+(i+j)/2) J J J JI Om) ?_;refine dZ 4 J (jj J J qv J (Cb (k:=0) J hra Om)) ?_;refine dK 5 ?_;refine dK 6 ?_;refine dZ 7 J (jQ (j:=a) J J J JI Om) ?_;refine dZ 8 J (jj J J qv J (Cb (k:=0) J hxa Om)) ?_;refine dZ 9 J (VO Vz J J J (λw1 h1=>hC.call r hSr x hSx w1 h1.over)) ?_;refine dK 10 ?_;refine JK Kr ?_;refine S1 ?_;refine cZ (λc3=>?_) (λc3=>?_)
   .refine S7 ?_;exact Jn hL1 (((i+j)/2+1,j)) (hy1.yes W hsR Om Om hr (by simpa[QP] using c3)) (by simp only;omega) ⟨vi Om,sz⟩ (u9 J)
   .refine S6 ?_;exact Jn hL1 ((i,(i+j)/2)) (hy1.no W hsR Om Om hr (by simpa[QP] using c3)) (by simp only;omega) ⟨J,sz⟩ (u9 J)
  .have hij:i=j:=Om;subst hij;have hG0:A++G++R++Z=A++(R.take 0++x::R.drop 0)++Z:=(by rw[hGx];simp)
   refine S12 ?_;refine JW (X:=Nat×List Wy) (λy=>y.1<=i/\y.2=A++(R.take y.1++x::R.drop y.1)++Z) (λy=>i-y.1) (λy=>[(13,.int .i64 ((a+y.1:Nat):Int))]) (kK [0,1,2,3,4,10]) (λy=>[.cel b T (ut y.2 tl)]) (0,A++G++R++Z) (⟨jlN _,hG0⟩) ⟨J,sz⟩ (λ_ h=>h) ?_;intro⟨k,ds⟩ hk L hL2;refine v9 ?_;refine r9 ?_;have hk1:k<=i:=hk.1
   have hds:ds=A++(R.take k++x::R.drop k)++Z:=hk.2;have hdl:ds.length=(A++G++R++Z).length:=(by rw[hds,hGx];simp;omega)
   have hmem:Up n S ds:=(by rw[hds];rw[jlT A G] at hS;refine xE hS (λy hy=>?_) (by simp[hGx];omega) (by simp;omega);simp only[hGx,jl0,jlP,jlM,jmi,or_false] at hy⊢;rcases hy with h|h|h;exact .inr (jmp h);exact .inl h;exact .inr (jmy h))
   refine S8 ?_;refine cZ (λc4=>?_) (λc4=>?_)
   .have hki:k<i:=Om;obtain⟨x1,u1⟩:∃q,ds[a+k]? =some q:=⟨_,List.getElem?_eq_getElem Om⟩;obtain⟨x2,u2⟩:∃q,ds[a+k+1]? =some q:=⟨_,List.getElem?_eq_getElem Om⟩;have hxo1:(Wy.cells x1).all (·.oneCell')=true:=rfl
    have hxo2:(Wy.cells x2).all (·.oneCell')=true:=rfl;have hmv:(ds.set (a+k) x2).set (a+k+1) x1=A++(R.take (k+1)++x::R.drop (k+1))++Z:=(by rw[<-vN u1 u2,hds,<-ha];exact R8 A R Z x Om)
    refine S5 ?_;refine Ur 15 17 [0] ?_;refine k9 0 J [] (u9 J) q9 ?_;refine k9 1 J [] (u9 J) q9 ?_;refine Vs (i:=2) J Kr Kr Kr [] Kr (λ_ _ _ h=>h) J J Dc (u9 J) q9 q9 ?_;refine Vs (i:=3) J Kr Kr Kr [] Kr (λ_ _ _ h=>h) J J Dc (u9 J) q9 q9 ?_;refine Vs (i:=4) J Kr Kr Kr [] Kr (λ_ _ _ h=>h) J J Dc (u9 J) p9 p9 ?_;refine k9 5 J [] (u9 J) q9 ?_;refine k9 6 J [] (u9 J) q9 ?_;refine k9 7 J [] (u9 J) p9 ?_;refine k9 8 J [] (u9 J) (jQ (j:=a+k+1) J J J JI Om) ?_;refine k9 9 J [] (u9 J) (jj J J qv J (Cb (k:=0) J u2 Om)) ?_;refine k9 10 J [12,13] (u9 J) q9 ?_;refine k9 11 J [12,13] (u9 J) q9 ?_;refine k9 12 J [13] (u9 J) (jQ (j:=a+k) J J J JI Om) ?_;refine k9 13 J [] (u9 J) (jj J J qv J (Cb (k:=0) J u1 Om)) ?_;refine k9 14 J [] (u9 J) (jQ (j:=a+k) J J J JI Om) ?_;refine Z1 J Kr J ?_;refine qN (k:=0) J J J J J hxo2 Qe.szx J J (by rw[Yi];simp[Wy.cells];omega) ?_;refine JS (uw [0] J) ?_;refine n9 ?_;refine dZ 16 J (jQ (j:=a+k+1) J J J JI Om) ?_;refine vg J Kr J ?_;refine qN (k:=0) J J J J J hxo1 Qe.szx J J (by rw[kY,Yi];simp[Wy.cells];omega) ?_;refine Yp Kr ?_;refine S7 ?_;exact Jn hL2 ((k+1,wy ds (a+k) (a+k+1))) (⟨show k+1<=i by omega,(by rw[vN u1 u2];exact hmv)⟩) (by simp only;omega) ⟨vi Om,sz⟩ (λ_ h=>h.upto ⟨congrArg (Res.cel b T) (O1 u1 u2),trivial⟩)
   .have hki:k=i:=Om;subst hki;refine S7 ?_;refine xH J ?_;intro w' hs;exact⟨rfl,hs.over.wr,by rw[hGx,hy1.fin,<-hds];exact hs.cel (k:=0) rfl⟩
 .refine S10 ?_;refine cZ (λc5=>?_) (λc5=>?_)
  .have hR1:R.length=1:=Om;obtain⟨y,hy0⟩:∃y,R[0]? =some y:=⟨_,List.getElem?_eq_getElem hR⟩;have hRy:R=[y]:=(by match R,hR1,hy0 with|[y],_,h=>(cases h;rfl))
   have hya:(A++G++R++Z)[m]? =some y:=(hRat 0 hR).trans hy0;have hSy:S y:=hS _ y Om hya
   refine S12 ?_;refine JW (X:=Nat×Nat) (λq=>S2I (QP cr) G y q.1 q.2) (λq=>q.2-q.1) (λq=>[(14,.int .i64 ((a+q.1:Nat):Int)),(15,.int .i64 ((a+q.2:Nat):Int))]) (kK [0,1,2,3,4]) (λq=>[.cel b T (ut (A++G++R++Z) tl)]) (0,G.length) (S2I.start) ⟨J,vi Om,sz⟩ (λ_ h=>h) ?_;intro⟨i,j⟩ hq L hL3;refine v9 ?_;refine r9 ?_;have hq1:S2I (QP cr) G y i j:=hq
   have hle:=hq1.le;refine S7 ?_;refine cZ (λc6=>?_) (λc6=>?_)
   .have hij:i<j:=Om;obtain⟨r,hr⟩:∃r,G[(i+j)/2]? =some r:=⟨_,List.getElem?_eq_getElem Om⟩;have hra:(A++G++R++Z)[a+(i+j)/2]? =some r:=(hGat _ Om).trans hr
    have hSr:S r:=hS _ r Om hra;refine S8 ?_;refine a9 (QS J Tryz.underlying3 Tryz.underlying98 J (UJ _ Om Om)) ?_;refine a9 (ue (q:=1) J J J Dc Dc) ?_;refine a9 ((QS J Tryz.underlying98 Tryz.underlying3 J (Wk _ (by simp;omega) (by simp;omega))).as (congrArg _ (show((((a+i:Nat):Int)+((a+j:Nat):Int))/2^ (Int.toNat 1))=((a+(i+j)/2:Nat):Int) by simp;omega))) ?_;refine S4 ?_;refine JY 12 ?_;refine dK 0 ?_;refine dK 1 ?_;refine dK 2 ?_;refine dZ 3 J (jQ (j:=m) J J J JI Om) ?_;refine dZ 4 J (jj J J qv J (Cb (k:=0) J hya Om)) ?_;refine dK 5 ?_;refine dK 6 ?_;refine dZ 7 J (jQ (j:=a+(i+j)/2) J J J JI Om) ?_;refine dZ 8 J (jj J J qv J (Cb (k:=0) J hra Om)) ?_;refine dZ 9 J (VO Vz J J J (λw1 h1=>hC.call y hSy r hSr w1 h1.over)) ?_;refine dK 10 ?_;refine dK 11 ?_;refine JK Kr ?_;refine S1 ?_;refine cZ (λc7=>?_) (λc7=>?_)
    .refine S7 ?_;exact Jn hL3 (((i+j)/2+1,j)) (hq1.yes W hsG Om Om hr (by simpa[QP] using c7)) (by simp only;omega) ⟨vi Om,sz⟩ (u9 J)
    .refine S6 ?_;exact Jn hL3 ((i,(i+j)/2)) (hq1.no W hsG Om Om hr (by simpa[QP] using c7)) (by simp only;omega) ⟨J,sz⟩ (u9 J)
   .have hij:i=j:=Om;subst hij;have hG0:A++G++R++Z=A++(G.take G.length++y::G.drop G.length)++Z:=(by rw[hRy];simp)
    refine S12 ?_;refine JW (X:=Nat×List Wy) (λq=>i<=q.1/\q.1<=G.length/\q.2=A++(G.take q.1++y::G.drop q.1)++Z) (λq=>q.1) (λq=>[(17,.int .i64 ((a+q.1:Nat):Int))]) (kK [0,1,2,3,4,14]) (λq=>[.cel b T (ut q.2 tl)]) (G.length,A++G++R++Z) (⟨hle.2,jlL _,hG0⟩) ⟨vi Om,sz⟩ (λ_ h=>h) ?_;intro⟨k,ds⟩ hk L hL4;refine v9 ?_;refine r9 ?_;have hk1:i<=k:=hk.1
    have hk2:k<=G.length:=hk.2.1;have hds:ds=A++(G.take k++y::G.drop k)++Z:=hk.2.2
    have hdl:ds.length=(A++G++R++Z).length:=(by rw[hds,hRy];simp;omega);have hmem:Up n S ds:=(by rw[hds];rw[jlT A G] at hS;refine xE hS (λy hy=>?_) (by simp[hRy];omega) (by simp;omega);simp only[hRy,jl0,jlP,jlM,jmi,or_false] at hy⊢;rcases hy with h|h|h;exact .inl (jmp h);exact .inr h;exact .inl (jmy h))
    refine S7 ?_;refine cZ (λc8=>?_) (λc8=>?_)
    .have hki:i<k:=Om;obtain⟨x1,u1⟩:∃q,ds[a+k]? =some q:=⟨_,List.getElem?_eq_getElem Om⟩;obtain⟨x2,u2⟩:∃q,ds[a+k-1]? =some q:=⟨_,List.getElem?_eq_getElem Om⟩;have hxo1:(Wy.cells x1).all (·.oneCell')=true:=rfl
     have hxo2:(Wy.cells x2).all (·.oneCell')=true:=rfl;have hmv:(ds.set (a+k) x2).set (a+k-1) x1=A++(G.take (k-1)++y::G.drop (k-1))++Z:=(by rw[<-vN u1 u2,hds,<-ha];exact Iw A G Z y Om hk2)
     refine S5 ?_;refine Ur 15 17 [0] ?_;refine k9 0 J [] (u9 J) q9 ?_;refine k9 1 J [] (u9 J) q9 ?_;refine Vs (i:=2) J Kr Kr Kr [] Kr (λ_ _ _ h=>h) J J Dc (u9 J) q9 q9 ?_;refine Vs (i:=3) J Kr Kr Kr [] Kr (λ_ _ _ h=>h) J J Dc (u9 J) q9 q9 ?_;refine Vs (i:=4) J Kr Kr Kr [] Kr (λ_ _ _ h=>h) J J Dc (u9 J) ((JP J J J Om Om).as (congrArg _ (show(((a+k:Nat):Int)-1)=((a+k-1:Nat):Int) by omega))) ((JP J J J Om Om).as (congrArg _ (show(((a+k:Nat):Int)-1)=((a+k-1:Nat):Int) by omega))) ?_;refine k9 5 J [] (u9 J) q9 ?_;refine k9 6 J [] (u9 J) q9 ?_;refine k9 7 J [] (u9 J) ((JP J J J Om Om).as (congrArg _ (show(((a+k:Nat):Int)-1)=((a+k-1:Nat):Int) by omega))) ?_;refine k9 8 J [] (u9 J) (jQ (j:=a+k-1) J J J JI Om) ?_;refine k9 9 J [] (u9 J) (jj J J qv J (Cb (k:=0) J u2 Om)) ?_;refine k9 10 J [12,13] (u9 J) q9 ?_;refine k9 11 J [12,13] (u9 J) q9 ?_;refine k9 12 J [13] (u9 J) (jQ (j:=a+k) J J J JI Om) ?_;refine k9 13 J [] (u9 J) (jj J J qv J (Cb (k:=0) J u1 Om)) ?_;refine k9 14 J [] (u9 J) (jQ (j:=a+k) J J J JI Om) ?_;refine Z1 J Kr J ?_;refine qN (k:=0) J J J J J hxo2 Qe.szx J J (by rw[Yi];simp[Wy.cells];omega) ?_;refine JS (uw [0] J) ?_;refine n9 ?_;refine dZ 16 J (jQ (j:=a+k-1) J J J JI Om) ?_;refine vg J Kr J ?_;refine qN (k:=0) J J J J J hxo1 Qe.szx J J (by rw[kY,Yi];simp[Wy.cells];omega) ?_;refine Yp Kr ?_;refine S7 ?_;exact Jn hL4 ((k-1,wy ds (a+k) (a+k-1))) (⟨show i<=k-1 by omega,show k-1<=G.length by omega,(by rw[vN u1 u2];exact hmv)⟩) (by simp only;omega) ⟨vi Om,sz⟩ (λ_ h=>h.upto ⟨congrArg (Res.cel b T) (O1 u1 u2),trivial⟩)
    .have hki:k=i:=Om;subst hki;refine S7 ?_;refine xH J ?_;intro w' hs;exact⟨rfl,hs.over.wr,by rw[hRy,hq1.fin,<-hds];exact hs.cel (k:=0) rfl⟩
  .refine S3 ?_;obtain⟨h,hh2⟩:∃h,h=(G.length+R.length)/2:=⟨_,rfl⟩;have hG2:2<=G.length:=Om
   have hR2:2<=R.length:=Om;have hone:Up n (λ_:Wy=>True) (A++G++R++Z):=λ_ _ _ _=>trivial
   refine S4 ?_;refine a9 (QS J Tryz.underlying3 Tryz.underlying98 J (UJ _ Om Om)) ?_;refine a9 (ue (q:=1) J J J Dc Dc) ?_;refine a9 ((QS J Tryz.underlying98 Tryz.underlying3 J (Wk _ (by simp;omega) (by simp;omega))).as (congrArg _ (show(((a:Int)+(e_:Int))/2^ (Int.toNat 1))=((a+h:Nat):Int) by simp;omega))) ?_;refine S6 ?_;refine a9 ((jR J J J Om Om).as (congrArg _ (show(((a+h:Nat):Int)+(m:Int))=((a+h+m:Nat):Int) by omega))) ?_;refine S7 ?_;refine qH [(20,.int .i64 ((a+(h-R.length):Nat):Int)),(21,.int .i64 ((a+min G.length h:Nat):Int))] (kK [0,1,2,3,4,18,19]) (λL h_t140=>?_) ?_
   .refine S6 ?_;refine cZ (λc9=>?_) (λc9=>?_)
    .refine S11 ?_;exact Jx h_t140 ⟨vi Om,vi Om,sz⟩ (u9 J)
    .refine S9 ?_;exact Jx h_t140 ⟨vi Om,vi Om,sz⟩ (u9 J)
   .refine V3 ?_;refine a9 ((JP J J J Om Om).as (congrArg _ (show(((a+h+m:Nat):Int)-1)=((a+h+m-1:Nat):Int) by omega))) ?_;refine S4 ?_;refine JW (X:=Nat×Nat) (λq=>GI (QP cr) G R h q.1 q.2) (λq=>q.2-q.1) (λq=>[(20,.int .i64 ((a+q.1:Nat):Int)),(21,.int .i64 ((a+q.2:Nat):Int))]) (kK [0,1,2,3,4,18,19,22]) (λq=>[.cel b T (ut (A++G++R++Z) tl)]) (h-R.length,min G.length h) (GI.start hh2) ⟨J,sz⟩ (λ_ h=>h) ?_;intro⟨sg,ug⟩ hq L hL5;refine v9 ?_;refine r9 ?_;have hq1:GI (QP cr) G R h sg ug:=hq
    have hle:=hq1.b;refine S7 ?_;refine cZ (λc10=>?_) (λc10=>?_)
    .have hij:sg<ug:=Om;obtain⟨x,hx⟩:∃r,G[(sg+ug)/2]? =some r:=⟨_,List.getElem?_eq_getElem Om⟩;obtain⟨y,hy⟩:∃r,R[h-(sg+ug)/2-1]? =some r:=⟨_,List.getElem?_eq_getElem Om⟩;have hxa:(A++G++R++Z)[a+(sg+ug)/2]? =some x:=(hGat _ Om).trans hx
     have hya:(A++G++R++Z)[m+(h-(sg+ug)/2-1)]? =some y:=(hRat _ Om).trans hy;have hSx:S x:=hS _ x Om hxa
     have hSy:S y:=hS _ y Om hya;refine S8 ?_;refine a9 (QS J Tryz.underlying3 Tryz.underlying98 J (UJ _ Om Om)) ?_;refine a9 (ue (q:=1) J J J Dc Dc) ?_;refine a9 ((QS J Tryz.underlying98 Tryz.underlying3 J (Wk _ (by simp;omega) (by simp;omega))).as (congrArg _ (show((((a+sg:Nat):Int)+((a+ug:Nat):Int))/2^ (Int.toNat 1))=((a+(sg+ug)/2:Nat):Int) by simp;omega))) ?_;refine S4 ?_;refine JY 14 ?_;refine dK 0 ?_;refine dK 1 ?_;refine dK 2 ?_;refine dK 3 ?_;refine dZ 4 J ((JP J J J Om Om).as (congrArg _ (show(((a+h+m-1:Nat):Int)-((a+(sg+ug)/2:Nat):Int))=((m+(h-(sg+ug)/2-1):Nat):Int) by omega))) ?_;refine dZ 5 J (jQ (j:=m+(h-(sg+ug)/2-1)) J J J JI Om) ?_;refine dZ 6 J (jj J J qv J (Cb (k:=0) J hya Om)) ?_;refine dK 7 ?_;refine dK 8 ?_;refine dZ 9 J (jQ (j:=a+(sg+ug)/2) J J J JI Om) ?_;refine dZ 10 J (jj J J qv J (Cb (k:=0) J hxa Om)) ?_;refine dZ 11 J (VO Vz J J J (λw1 h1=>hC.call y hSy x hSx w1 h1.over)) ?_;refine dK 12 ?_;refine dK 13 ?_;refine JK Kr ?_;refine S1 ?_;refine cZ (λc11=>?_) (λc11=>?_)
     .refine S7 ?_;exact Jn hL5 (((sg+ug)/2+1,ug)) (hq1.yes Om Om hx hy (by simpa[QP] using c11)) (by simp only;omega) ⟨vi Om,sz⟩ (u9 J)
     .refine S6 ?_;exact Jn hL5 ((sg,(sg+ug)/2)) (hq1.no Om Om hx hy (by simpa[QP] using c11)) (by simp only;omega) ⟨J,sz⟩ (u9 J)
    .have hij:sg=ug:=Om;subst hij;have hsG1:ya (QP cr) (G.take sg):=hsG.sublist (List.take_sublist _ _)
     have hsG2:ya (QP cr) (G.drop sg):=hsG.sublist (List.drop_sublist _ _);have hsR1:ya (QP cr) (R.take (h-sg)):=hsR.sublist (List.take_sublist _ _)
     have hsR2:ya (QP cr) (R.drop (h-sg)):=hsR.sublist (List.drop_sublist _ _);have hfin:=hq1.fin W hsG hsR
     have hl1:(A++(G.take sg++R.take (h-sg))++(G.drop sg++R.drop (h-sg))++Z).length=(A++G++R++Z).length:=(by rw[<-HK,UZ (G:=G) (R:=R) (s:=sg) (t:=h-sg)];simp only[jlJ];omega);have hS1:Up n S (A++(G.take sg++R.take (h-sg))++(G.drop sg++R.drop (h-sg))++Z):=(by rw[jlT A G] at hS;rw[jlT A (G.take sg++R.take (h-sg))];refine xE hS (λy hy=>?_) (by simp;omega) (by simp;omega);simp only[jl0] at hy⊢;rcases hy with(hy|hy)|(hy|hy);exact .inl (jmp hy);exact .inr (jmp hy);exact .inl (jmy hy);exact .inr (jmy hy))
     have hl2:(A++Ws (QP cr) (G.take sg) (R.take (h-sg))++(G.drop sg++R.drop (h-sg))++Z).length=(A++G++R++Z).length:=(by rw[<-hl1];simp only[jlJ,zI]);have hS2:Up n S (A++Ws (QP cr) (G.take sg) (R.take (h-sg))++(G.drop sg++R.drop (h-sg))++Z):=(by rw[jlT (A++_)] at hS1⊢;exact xE hS1 (λy hy=>jl0.2 ((jaE _ _ y).1 hy)) (by simp[zI]) (by simp;omega))
     refine S9 ?_;refine a9 ((JP J J J Om Om).as (congrArg _ (show(((a+h+m:Nat):Int)-((a+sg:Nat):Int))=((m+(h-sg):Nat):Int) by omega))) ?_;refine S2 ?_;refine uI [] ([.cel b T (ut (A++(G.take sg++R.take (h-sg))++(G.drop sg++R.drop (h-sg))++Z) tl)]) (kK [0,1,3,4,18,20,24]) (λL h_t185=>?_) ?_
     .refine qH [(185,.bool (decide (sg<G.length) &&decide (sg<h)))] (kK [0,1,2,3,4,18,20,24]) (λL h_39=>?_) ?_
      .refine S5 ?_;refine cV 181 (λg1=>?_) (λg1=>?_)
       .refine S8 ?_;exact Jx h_39 ⟨vb (by rw[show decide (sg<G.length)=true from decide_eq_true Om,jlZ];exact decide_eq_decide.2 Om),sz⟩ (u9 J)
       .refine S5 ?_;exact Jx h_39 ⟨vb (by rw[show decide (sg<G.length)=false from decide_eq_false Om,jmg]),sz⟩ (u9 J)
      .refine v9 ?_;refine cZ (λc12=>?_) (λc12=>?_)
       .simp only[jlK,decide_eq_true_eq] at c12;refine S7 ?_;refine QL (k:=0) wF J J J Dc J (λw1 h1=>jcQ b T tl (A++G.take sg) (G.drop sg) (R.take (h-sg)) (R.drop (h-sg)++Z) n c (a+sg) m (m+(h-sg)) _ w1 ((h1.cel (k:=0) J).trans (D2 UZ)) (by simp;omega) (by simp;omega) (by simp;omega) (by simp;omega) (by simp;omega) Om (by rw[<-UZ];omega) hn (by rw[<-UZ];exact hone)) ?_;refine n9 ?_;rw[HK];refine S1 ?_;exact Jx h_t185 ⟨J,sz⟩ (u9 J)
       .rw[show A++G++R++Z=A++(G.take sg++R.take (h-sg))++(G.drop sg++R.drop (h-sg))++Z from jfL (by simp at c12;omega)];refine S2 ?_;exact Jx h_t185 ⟨J,sz⟩ (u9 J)
     .refine v9 ?_;refine uI [] ([.cel b T (ut (A++Ws (QP cr) (G.take sg) (R.take (h-sg))++(G.drop sg++R.drop (h-sg))++Z) tl)]) (kK [0,3,4,18,24]) (λL h_t199=>?_) ?_
      .refine qH [(199,.bool (decide (0<sg) &&decide (sg<h)))] (kK [0,1,3,4,18,20,24]) (λL h_41=>?_) ?_
       .refine S5 ?_;refine cV 195 (λg2=>?_) (λg2=>?_)
        .refine S8 ?_;exact Jx h_41 ⟨vb (by rw[show decide (0<sg)=true from decide_eq_true Om,jlZ];exact decide_eq_decide.2 Om),sz⟩ (u9 J)
        .refine S5 ?_;exact Jx h_41 ⟨vb (by rw[show decide (0<sg)=false from decide_eq_false Om,jmg]),sz⟩ (u9 J)
       .refine v9 ?_;refine cZ (λc13=>?_) (λc13=>?_)
        .simp only[jlK,decide_eq_true_eq] at c13;refine S7 ?_;refine QL (k:=0) Qa J J J Dc J (λw1 h1=>ih A (G.take sg) (R.take (h-sg)) (G.drop sg++R.drop (h-sg)++Z) a (a+sg) (a+h) w1 (by simp;omega) (hC.over h1.over) ((h1.cel (k:=0) J).trans (D2 xS)) ha (by simp;omega) (by simp;omega) (by simp;omega) (by simp;omega) Om (by rw[<-xS];omega) hsG1 hsR1 (by rw[<-xS];exact hS1)) ?_;refine n9 ?_;rw[jaB];refine S1 ?_;exact Jx h_t199 ⟨J,sz⟩ (u9 J)
        .rw[show G.take sg++R.take (h-sg)=Ws (QP cr) (G.take sg) (R.take (h-sg)) from je1 (by simp at c13;omega)];refine S2 ?_;exact Jx h_t199 ⟨J,sz⟩ (u9 J)
      .refine v9 ?_;refine qH [(213,.bool (decide (sg<G.length) &&decide (h-sg<R.length)))] (kK [0,3,4,18,24]) (λL h_43=>?_) ?_
       .refine S5 ?_;refine cV 209 (λg3=>?_) (λg3=>?_)
        .refine S8 ?_;exact Jx h_43 ⟨vb (by rw[show decide (sg<G.length)=true from decide_eq_true Om,jlZ];exact decide_eq_decide.2 Om),sz⟩ (u9 J)
        .refine S5 ?_;exact Jx h_43 ⟨vb (by rw[show decide (sg<G.length)=false from decide_eq_false Om,jmg]),sz⟩ (u9 J)
       .refine v9 ?_;refine cZ (λc14=>?_) (λc14=>?_)
        .simp only[jlK,decide_eq_true_eq] at c14;refine S7 ?_;refine QL (k:=0) Qa J J J Dc J (λw1 h1=>ih (A++Ws (QP cr) (G.take sg) (R.take (h-sg))) (G.drop sg) (R.drop (h-sg)) Z (a+h) (m+(h-sg)) e_ w1 (by simp;omega) (hC.over h1.over) ((h1.cel (k:=0) J).trans (D2 xT)) (by simp[zI];omega) (by simp;omega) (by simp;omega) (by simp;omega) (by simp;omega) Om (by rw[<-xT];omega) hsG2 hsR2 (by rw[<-xT];exact hS2)) ?_;refine N1 ?_;refine kV J ?_;intro w' hs;exact⟨rfl,hs.over.wr,by rw[hfin,<-jaC];exact hs.cel (k:=0) rfl⟩
        .refine S1 ?_;refine kV J ?_;intro w' hs;exact⟨rfl,hs.over.wr,by rw[hfin,<-je2 (by simp at c14;omega),<-jlT A];exact hs.cel (k:=0) rfl⟩
theorem MrgW.le{n c:Nat}{S:Wy->Prop}{cr:Wy->Wy->Int}{k top:Nat}(h:MrgW b T n c tl S cr top)(hk:k<=top):MrgW b T n c tl S cr k:=
 λA L R Z a m e_ w1 hlt=>h A L R Z a m e_ w1 Om
theorem NZ(b T n c:Nat)(tl:List Value)(S:Wy->Prop)(cr:Wy->Wy->Int)(hn:n<=1099511627776):∀top,MrgW b T n c tl S cr top
 |0=>λA L R Z a m e_ w1 hlt=>absurd hlt Om
 |top+1=>λA L R Z a m e_ w1 hlt hC hh ha hm he hL hR hen hl hsL hsR hS=>
  PU b T n c tl S cr hn A L R Z a m e_ w1 ((NZ b T n c tl S cr hn top).le Om) hC hh ha hm he hL hR hen hl hsL hsR hS
theorem jiv(b T:Nat)(tl:List Value)(X B:List Wy)(n c:Nat)(S:Wy->Prop)(cr:Wy->Wy->Int)(w:World)(hC:CmpW w b S cr)(hh:w.heap[b]? =some (.cells (ut (X++B) tl).toArray T (0,0)))(hX:X.length=n)(hn:n<=1099511627776)(hS:∀x∈X,S x):
  Calls Tryz.prog 135 #[.slice (some ⟨b,0,none⟩) n c,.func (.func 136) #[] #[]] w λe w'=>e=.returned (.tuple #[])/\Wr b w w'/\w'.heap[b]? =some (.cells (ut (Kq (QP cr) X++B) tl).toArray T (0,0)):=by
 refine Q8 (m:=9) (Tryz.func135) J J (lb J) (hh) ?_;refine S6 ?_;refine QL (k:=0) KJ J J J Dc J (λw1 h1=>jc8 b T tl X B n c S cr w1 (hC.over h1.over) (h1.cel (k:=0) J) hX hn hS (λA L R Z a m e_ w2=>NZ b T n c tl S cr hn (L.length+R.length+1) A L R Z a m e_ w2 (Nat.lt_succ_self _))) ?_;refine N1 ?_;refine kV J ?_;intro w' hs;exact⟨rfl,hs.over.wr,hs.cel (k:=0) rfl⟩
theorem M9(A:Option Addr)(c:Nat)(fv:Value)(w:World):Calls Tryz.prog 169 #[.slice A 0 c,.int .i64 0,.int .i64 0,fv] w λe w'=>e=.returned (.tuple #[])/\Over w w':=by
 refine Jm (m:=53) (Tryz.func169) J J (lb J) ?_;refine S7 ?_;refine qD (X:=Nat) (λk=>k=0) (λk=>k) (λk=>[(8,.int .i64 ((k:Int)+1))]) (kK [0,1,2,3]) 0 (J) ⟨J,sz⟩ ?_;intro k hk L hL1;refine V7 ?_;refine cZ (λc1=>?_) (λc1=>?_)
 .omega
 .refine S4 ?_;refine kV J ?_;intro w' hs;exact⟨rfl,hs.fin⟩
theorem SR(A:Option Addr)(c:Nat)(fv:Value)(w:World):Calls Tryz.prog 159 #[.slice A 0 c,.int .i64 0,fv] w λe w'=>e=.returned (.tuple #[])/\Over w w':=by
 refine Jm (m:=63) (Tryz.func159) J J (lb J) ?_;refine S12 ?_;refine qD (X:=Nat) (λk=>k=0) (λk=>k) (λk=>[(7,.int .i64 (k:Int)),(8,.int .i64 ((k:Int)+20))]) (kK [0,1,2,6]) 0 (J) ⟨J,sz⟩ ?_;intro k hk L hL1;refine V7 ?_;refine cZ (λc1=>?_) (λc1=>?_)
 .omega
 .subst hk;refine S11 ?_;refine a9 (jT Qo J J (λw1 h1=>M9 A c fv w1)) ?_;refine S2 ?_;refine qD (X:=Nat) (λq=>q=0) (λq=>q) (λq=>[(6,.int .i64 ((q:Int)+20))]) (kK [0,1,2,7,8]) 0 (J) ⟨J,sz⟩ ?_;intro q hq L hL2;refine V7 ?_;refine cZ (λc2=>?_) (λc2=>?_)
  .omega
  .refine S4 ?_;refine kV J ?_;intro w' hs;exact⟨rfl,hs.fin⟩
theorem Es(A:Option Addr)(c:Nat)(fv:Value)(w:World):Calls Tryz.prog 135 #[.slice A 0 c,fv] w λe w'=>e=.returned (.tuple #[])/\Over w w':=by
 refine Jm (m:=9) (Tryz.func135) J J (lb J) ?_;refine S5 ?_;refine a9 (jT KJ J J (λw1 h1=>SR A c fv w1)) ?_;refine S1 ?_;refine kV J ?_;intro w' hs;exact⟨rfl,hs.fin⟩
end Go.Proofs.YtjbahemkhphndaaGreat
