import Derived.Test.YtjbahemkhphndaaGreatNHot
import Derived.Test.YtjbahemkhphndaaGreatNMem
import Derived.ChangeSlices
set_option linter.unusedVariables false
set_option linter.unusedSimpArgs false
namespace Go.Proofs.YtjbahemkhphndaaGreat
open Go Go.RowKit
variable{A:Option Addr}{xs:List Int}
def nth(xs:List Int)(k:Nat):Int:=xs.getD k 0
theorem C7{k:Nat}(h:k<xs.length):xs[k]=nth xs k:=by simp[nth,List.getD,h]
def Nums(w:World)(A:Option Addr)(n:Nat)(xs:List Int):Prop:=xs.length=n/\(0<n->∃b o,A=some ⟨b,o,none⟩/\b<w.heap.size/\∀k,k<n->w.cell? ⟨b,o+k,none⟩=some (.int .i64 (nth xs k)))
theorem Nums.over{w w':World}{n:Nat}(h:Nums w A n xs)(hb:Over w w'):Nums w' A n xs:=by
 refine⟨h.1,λhn=>?_⟩;obtain⟨b,o,hA,hlt,hc⟩:=h.2 hn;exact⟨b,o,hA,jlU hlt hb.size,λk hk=>((Jy hb).1 b _ hlt).trans (hc k hk)⟩
end Go.Proofs.YtjbahemkhphndaaGreat
namespace Go.Proofs.YtjbahemkhphndaaGreat
open Go Go.RowKit
variable{A:Option Addr}{Rs:List Res}{b n:Nat}{w w':World}{zs:List Int}
set_option maxRecDepth 100000
set_option maxHeartbeats 4000000
section
variable{P:Program}{n:Nat}{env:List (Nat×Value)}{w0:Bs}{Rs:List Res}{o:Oper}
variable{x y:Operand}{T T':TypeId}{p q:Int}
theorem jaZ(ho:o.op=.binOp .mul T x y T')(hx:ev env x=some (.int .u64 p))(hy:ev env y=some (.int .u64 q)):Qt P o n env w0 Rs (.int .u64 (IntKind.u64.wrap (p*q))):=
 kd λa w hf _=>by unfold execOp;simp only[ho,hf.ev hx,hf.ev hy];simp[go_sem]
theorem OS(ho:o.op=.binOp .add T x y T')(hx:ev env x=some (.int .u64 p))(hy:ev env y=some (.int .u64 q)):Qt P o n env w0 Rs (.int .u64 (IntKind.u64.wrap (p+q))):=
 kd λa w hf _=>by unfold execOp;simp only[ho,hf.ev hx,hf.ev hy];simp[go_sem]
theorem ue(ho:o.op=.binOp .shr T x y T')(hx:ev env x=some (.int .u64 p))(hy:ev env y=some (.int .u64 q))(hq:0<=q)(hq2:q<64):Qt P o n env w0 Rs (.int .u64 (p/2^q.toNat)):=
 kd λa w hf _=>by unfold execOp;simp only[ho,hf.ev hx,hf.ev hy];simp[go_sem]
theorem jaY(ho:o.op=.binOp .and T x y T')(hx:ev env x=some (.int .u64 p))(hy:ev env y=some (.int .u64 q)):Qt P o n env w0 Rs (.int .u64 (bits .and .u64 p q)):=
 kd λa w hf _=>by unfold execOp;simp only[ho,hf.ev hx,hf.ev hy];simp[go_sem]
theorem QS{k k':IntKind}{d:TypeDesc}(ho:o.op=.convert T T' x)(hs:P.underlying T=some d)(hd:P.underlying T'=some (.int k'))(hx:ev env x=some (.int k p))(hw:k'.wrap p=p):Qt P o n env w0 Rs (.int k' p):=
 kd λa w hf _=>by
  have h1:(convert T T' (.int k p)).run P w=.ok (.int k' p) w:=by
   unfold convert;simp only[Sem.run_bind,run_underlying hs,run_underlying hd,Result.andThen_ok];simp[Conv.intToInt,hw]
  unfold execOp;simp only[ho,hf.ev hx];simp[go_sem,h1]
end
theorem Wk(a:Int)(h1: -9223372036854775808<=a)(h2:a<=9223372036854775807):IntKind.i64.wrap a=a:=by simp[IntKind.wrap,IntKind.bits,IntKind.signed];omega
theorem Y8(a:Int):0<=IntKind.u64.wrap a/\IntKind.u64.wrap a<18446744073709551616:=by
 simp[IntKind.wrap,IntKind.bits,IntKind.signed];omega
theorem UJ(a:Int)(h:0<=a)(h2:a<18446744073709551616):IntKind.u64.wrap a=a:=by simp[IntKind.wrap,IntKind.bits,IntKind.signed];omega
theorem jdr(a:Int):0<=bits .and .u64 a 255/\bits .and .u64 a 255<=255:=by
 have h:(BitVec.ofInt 64 a&&&BitVec.ofInt 64 255).toNat<=255:=by
  rw[BitVec.toNat_and];exact Nat.and_le_right
 have e:bits .and .u64 a 255=IntKind.u64.wrap ((BitVec.ofInt 64 a&&&BitVec.ofInt 64 255).toNat:Int):=rfl;rw[e,UJ _ Om Om];omega
def Byts(w:World)(A:Option Addr)(n:Nat)(zs:List Int):Prop:=zs.length=n/\(∀z∈zs,0<=z/\z<=255)/\(0<n->∃b o,A=some ⟨b,o,none⟩/\b<w.heap.size/\∀k,k<n->w.cell? ⟨b,o+k,none⟩=some (.int .u8 (nth zs k)))
theorem Byts.agree(h:Byts w A n zs)(hz:w.heap.size<=w'.heap.size)(ha:∀p,A=some p->w'.heap[p.block]? =w.heap[p.block]?):Byts w' A n zs:=by
 refine⟨h.1,h.2.1,λhn=>?_⟩;obtain⟨b,o,rfl,hlt,hc⟩:=h.2.2 hn;refine⟨b,o,J,by omega,λk hk=>?_⟩;rw[<-hc k hk];have:=ha _ rfl
 simp only[World.cell?,this]
theorem Byts.over(h:Byts w A n zs)(hb:Over w w'):Byts w' A n zs:=by
 refine⟨h.1,h.2.1,λhn=>?_⟩;obtain⟨b,o,hA,hlt,hc⟩:=h.2.2 hn;exact⟨b,o,hA,jlU hlt hb.size,λk hk=>((Jy hb).1 b _ hlt).trans (hc k hk)⟩
theorem Byts.ovx(h:Byts w A n zs)(ho:Ovx ⟨w,[b]⟩ w')(hne:0<n->∀p,A=some p->p.block≠b):Byts w' A n zs:=by
 refine⟨h.1,h.2.1,λhn=>?_⟩;obtain⟨b',o,rfl,hlt,hc⟩:=h.2.2 hn;have hs:w.heap.size<=w'.heap.size:=ho.size
 have hb:=ho.block b' hlt (by simpa using hne hn _ rfl);refine⟨b',o,J,by omega,λk hk=>?_⟩;rw[<-hc k hk];simp only[World.cell?,hb]
theorem jla{bb oo j:Nat}(h:Byts w (some ⟨bb,oo,none⟩) n zs)(hne:bb≠b)(hj:j<n):∀w',St ⟨w,[b]⟩ Rs w'->w'.cell? ⟨bb,oo+j*1,none⟩=some (.int .u8 (nth zs j)):=λw' hs=>by
 obtain⟨b',o',e,_,hc⟩:=(h.ovx hs.over (λ_ p hp=>by injection hp with hp;subst hp;exact hne)).2.2 Om
 injection e with e
 injection e with e1 e2 _
 subst e1 e2;rw[jmL];exact hc j hj
def srcR(b:Nat)(A:Option Addr)(n c K:Nat):Res where
 F:=(· =b)
 P:=λw=>∃(k:Nat) (s:Int),k<=K/\0<=s/\s<18446744073709551616/\w.heap[b]? =some (.cells #[.slice A n c,.int .i64 (k:Int),.int .u64 s] 65 (0,0))
 low:=λw h q hq=>by obtain⟨k,s,_,_,_,hh⟩:=h;exact hq▸J3 hh
 B:=0
 dep:=λw w' h hz hb=>by
  obtain⟨k,s,h1,h2,h3,hh⟩:=h;exact⟨k,s,h1,h2,h3,(hb b (J3 hh) (.inr rfl)).trans hh⟩
theorem srcR.more{c K K':Nat}(h:(srcR b A n c K).P w)(hk:K<=K'):(srcR b A n c K').P w:=by
 obtain⟨k,s,h1,h2⟩:=h;exact⟨k,s,jmC h1 hk,h2⟩
abbrev Drw(P:Program)(f:FuncId)(args:Array Value)(w:World)(b:Nat)(A:Option Addr)(n c K K':Nat)(p:Int->Prop):Prop:=
 Calls P f args w λe w'=>∃x:{v:Int//p v},e=.returned (.int .i64 x.1)/\Wrs (srcR b A n c K).F w w'/\(srcR b A n c K').P w'/\(∀q,(srcR b A n c K').F q->(srcR b A n c K).F q\/w.heap.size<=q)/\(srcR b A n c K').B=0
theorem WA(hs:St ⟨w,[b]⟩ Rs w'):Wrs (· =b) w w':=hs.over.wrs.mono λq hq=>by simpa using hq
theorem Hh(b:Nat)(A:Option Addr)(n c:Nat)(zs:List Int)(K:Nat)(w:World)(hB:Byts w A n zs)(hne:0<n->∀p,A=some p->p.block≠b)(hP:(srcR b A n c K).P w)(hn:n<=1048576)(hK:K<=1000000):
  Drw Tryz.prog 39 #[.pointer (some ⟨b,0,none⟩)] w b A n c K (K+1) (λv=>0<=v/\v<=255):=by
 obtain⟨k,s,hk,hs0,hs1,hh⟩:=hP;have hl:=hB.1
 have u1:=Y8 (s*6364136223846793005);refine Q8 (m:=62) (Tryz.func39) J J (lb J) (hh) ?_;refine S11 ?_;refine JY 10 ?_;refine dK 0 ?_;refine dK 1 ?_;refine dK 2 ?_;refine dK 3 ?_;refine dK 4 ?_;refine dK 5 ?_;refine dK 6 ?_;refine dK 7 ?_;refine dK 8 ?_;refine dK 9 ?_;refine JK Kr ?_;refine S1 ?_;refine cZ (λc1=>?_) (λc1=>?_)
 .have hlt:k<n:=Om;obtain⟨bb,bo,rfl,_⟩:=hB.2.2 Om;have hz:=hB.2.1 _ (jlY (show k<zs.length by omega))
  rw[C7 Om] at hz;have u2:=Y8 (IntKind.u64.wrap (s*6364136223846793005)+nth zs k)
  have u3:=Y8 (IntKind.u64.wrap (IntKind.u64.wrap (s*6364136223846793005)+nth zs k)+1442695040888963407);have u4:=jdr (IntKind.u64.wrap (IntKind.u64.wrap (IntKind.u64.wrap (s*6364136223846793005)+nth zs k)+1442695040888963407)/2^ (40:Int).toNat)
  refine S1 ?_;refine JY 12 ?_;refine dK 0 ?_;refine dK 1 ?_;refine dK 2 ?_;refine dK 3 ?_;refine dK 4 ?_;refine dK 5 ?_;refine dK 6 ?_;refine dK 7 ?_;refine dK 8 ?_;refine dZ 9 J (jn J J jde (jla hB (hne Om _ J) hlt)) ?_;refine dZ 10 J (QS J Tryz.underlying5 Tryz.underlying3 J (Wk _ Om Om)) ?_;refine dK 11 ?_;refine JK Kr ?_;refine S11 ?_;refine xi (k:=0) J J J J (J) (by rfl) SW.szx J ?_;refine N8 ?_;refine a9 (jaZ J J J) ?_;refine S1 ?_;refine a9 (QS J Tryz.underlying3 Tryz.underlying63 J (UJ _ Om Om)) ?_;refine a9 (OS J J J) ?_;refine a9 (OS J J J) ?_;refine S3 ?_;refine xj (k:=0) J J J J (J) (by rfl) DT.szx J ?_;refine N4 ?_;refine JY 10 ?_;refine dK 0 ?_;refine dK 1 ?_;refine dK 2 ?_;refine dK 3 ?_;refine dK 4 ?_;refine dK 5 ?_;refine dK 6 ?_;refine dK 7 ?_;refine dK 8 ?_;refine dK 9 ?_;refine JK Kr ?_;refine S1 ?_;refine cZ (λc2=>?_) (λc2=>?_)
  .refine S7 ?_;refine jK J (.tmp J) ?_;intro w' hs;have hc:=hs.cel (k:=0) rfl
   first|exact⟨⟨_,hz⟩,rfl,WA hs,⟨k+1,_,by omega,u3.1,u3.2,hc⟩,λq hq=>.inl hq,rfl⟩|exact⟨⟨_,u4⟩,rfl,WA hs,⟨k+1,_,by omega,u3.1,u3.2,hc⟩,λq hq=>.inl hq,rfl⟩|exact⟨⟨0,by decide⟩,rfl,WA hs,⟨k+1,_,by omega,u3.1,u3.2,hc⟩,λq hq=>.inl hq,rfl⟩
  .refine S8 ?_;refine a9 (ue (q:=40) J J J Dc Dc) ?_;refine a9 (jaY J J J) ?_;refine a9 (QS J Tryz.underlying63 Tryz.underlying2 J (Wk _ Om Om)) ?_;refine S3 ?_;refine jK J (.tmp J) ?_;intro w' hs;have hc:=hs.cel (k:=0) rfl
   first|exact⟨⟨_,hz⟩,rfl,WA hs,⟨k+1,_,by omega,u3.1,u3.2,hc⟩,λq hq=>.inl hq,rfl⟩|exact⟨⟨_,u4⟩,rfl,WA hs,⟨k+1,_,by omega,u3.1,u3.2,hc⟩,λq hq=>.inl hq,rfl⟩|exact⟨⟨0,by decide⟩,rfl,WA hs,⟨k+1,_,by omega,u3.1,u3.2,hc⟩,λq hq=>.inl hq,rfl⟩
 .have u2:=Y8 (IntKind.u64.wrap (s*6364136223846793005)+0);have u3:=Y8 (IntKind.u64.wrap (IntKind.u64.wrap (s*6364136223846793005)+0)+1442695040888963407)
  have u4:=jdr (IntKind.u64.wrap (IntKind.u64.wrap (IntKind.u64.wrap (s*6364136223846793005)+0)+1442695040888963407)/2^ (40:Int).toNat);refine S12 ?_;refine xi (k:=0) J J J J (J) (by rfl) SW.szx J ?_;refine N8 ?_;refine a9 (jaZ J J J) ?_;refine S1 ?_;refine a9 (QS J Tryz.underlying3 Tryz.underlying63 J (UJ _ Om Om)) ?_;refine a9 (OS J J J) ?_;refine a9 (OS J J J) ?_;refine S3 ?_;refine xj (k:=0) J J J J (J) (by rfl) DT.szx J ?_;refine N4 ?_;refine JY 10 ?_;refine dK 0 ?_;refine dK 1 ?_;refine dK 2 ?_;refine dK 3 ?_;refine dK 4 ?_;refine dK 5 ?_;refine dK 6 ?_;refine dK 7 ?_;refine dK 8 ?_;refine dK 9 ?_;refine JK Kr ?_;refine S1 ?_;refine cZ (λc3=>?_) (λc3=>?_)
  .refine S7 ?_;refine jK J (.tmp J) ?_;intro w' hs;have hc:=hs.cel (k:=0) rfl
   first|exact⟨⟨_,hz⟩,rfl,WA hs,⟨k+1,_,by omega,u3.1,u3.2,hc⟩,λq hq=>.inl hq,rfl⟩|exact⟨⟨_,u4⟩,rfl,WA hs,⟨k+1,_,by omega,u3.1,u3.2,hc⟩,λq hq=>.inl hq,rfl⟩|exact⟨⟨0,by decide⟩,rfl,WA hs,⟨k+1,_,by omega,u3.1,u3.2,hc⟩,λq hq=>.inl hq,rfl⟩
  .refine S8 ?_;refine a9 (ue (q:=40) J J J Dc Dc) ?_;refine a9 (jaY J J J) ?_;refine a9 (QS J Tryz.underlying63 Tryz.underlying2 J (Wk _ Om Om)) ?_;refine S3 ?_;refine jK J (.tmp J) ?_;intro w' hs;have hc:=hs.cel (k:=0) rfl
   first|exact⟨⟨_,hz⟩,rfl,WA hs,⟨k+1,_,by omega,u3.1,u3.2,hc⟩,λq hq=>.inl hq,rfl⟩|exact⟨⟨_,u4⟩,rfl,WA hs,⟨k+1,_,by omega,u3.1,u3.2,hc⟩,λq hq=>.inl hq,rfl⟩|exact⟨⟨0,by decide⟩,rfl,WA hs,⟨k+1,_,by omega,u3.1,u3.2,hc⟩,λq hq=>.inl hq,rfl⟩
end Go.Proofs.YtjbahemkhphndaaGreat
namespace Go.Proofs.YtjbahemkhphndaaGreat
open Go Go.ChangeShapes Go.WideShapes Go.ChangeAt Go.RowKit Go.Joins Go.Deep
section
variable{H:Type}{enc:TypeId×Value->H}{w:World}{base:Nat}{spare:Nat->Bool}{held:Bool}
set_option maxRecDepth 100000 in
theorem Eb{r:Reach}{b0:Nat}{v:Value}{d:DataW H}{p:List MemPlace}(hv:Value.okWide Tryz.prog w r b0 22 v)(h:DataW.Trod enc Tryz.prog w base spare held 22 v d p):
  ∃(A:Option Addr) (n c:Nat) (zs:List Int),v=.slice A n c/\Byts w A n zs/\(n:Int)<=9223372036854775807:=by
 have hC:Tryz.prog.cellsOf 5=1:=by kernel_rfl
 obtain⟨A,n,c,rfl⟩:=okWide_slice Tryz.underlying22 hv;obtain⟨fuel,hf⟩:=h;rcases open_ints Tryz.underlying22 Tryz.underlying5 hC hf with⟨e,_⟩|⟨a,len,cap,zs,e,_,hl,hm,hz,_,hc,hw⟩
 .simp[Value.cells] at e;obtain⟨rfl,rfl,rfl⟩:=e;exact⟨none,0,0,[],rfl,⟨rfl,λz hz=>absurd hz (by simp),λh=>absurd h Om⟩,by omega⟩
 .simp[Value.cells] at e;obtain⟨rfl,rfl,rfl⟩:=e;have hlz:n<=zs.length:=by rw[hz];split<;>omega
  have hwf:∀z∈zs,0<=z/\z<=255:=λz hz=>by
   have:=hw z hz;simp[Lit.wf,IntKind.min,IntKind.max,IntKind.bits,IntKind.signed] at this;omega
  refine⟨some a,n,c,zs.take n,J,⟨by rw[jl3];omega,λz hz=>hwf z (jmp hz),λh0=>?_⟩,by unfold maxLen at hm;omega⟩;obtain⟨b,o,sp⟩:=a;have hsp:sp=none:=by
   have:=World.cell?_spot (hc 0 Om);simpa[Addr.add] using this
  subst hsp;have hadd:∀j,(⟨b,o,none⟩:Addr).add j=⟨b,o+j,none⟩:=λj=>by unfold Addr.add;split<;>simp_all
  have hlt:=World.block_lt_of_cell? w _ (hc 0 Om);rw[hadd] at hlt;refine⟨b,o,J,hlt,λk hk=>?_⟩;have h1:=hc k Om
  rw[hadd] at h1;rw[h1];have:nth (zs.take n) k=zs.getD k 0:=by simp[nth,List.getD,List.getElem?_take,hk]
  rw[this]
end
end Go.Proofs.YtjbahemkhphndaaGreat
namespace Go.Proofs.YtjbahemkhphndaaGreat
open Go Go.RowKit
set_option maxRecDepth 100000
set_option maxHeartbeats 4000000
theorem Nums.ovx{w w':World}{b:Nat}{A:Option Addr}{n:Nat}{zs:List Int}(h:Nums w A n zs)(ho:Ovx ⟨w,[b]⟩ w')(hne:∀p,A=some p->p.block≠b):Nums w' A n zs:=by
 refine⟨h.1,λhn=>?_⟩;obtain⟨b',o,rfl,hlt,hc⟩:=h.2 hn;have hs:w.heap.size<=w'.heap.size:=ho.size
 have hb:=ho.block b' hlt (by simpa using hne _ rfl);refine⟨b',o,J,by omega,λk hk=>?_⟩;rw[<-hc k hk];simp only[World.cell?,hb]
theorem jbu{a m:Int}(ha:0<=a)(hm:0<m):0<=a.tmod m/\a.tmod m<m:=⟨Int.tmod_nonneg _ ha,Int.tmod_lt_of_pos _ hm⟩
section
variable{b n c K:Nat}{A:Option Addr}{zs:List Int}{w:World}
theorem Kw(m:Int)(hm:1<m)(hm2:m<=200)(hB:Byts w A n zs)(hne:0<n->∀p,A=some p->p.block≠b)(hP:(srcR b A n c K).P w)(hn:n<=1048576)(hK:K<=1000000):
  Drw Tryz.prog 26 #[.pointer (some ⟨b,0,none⟩),.int .i64 m] w b A n c K (K+1) (λv=>0<=v/\v<m):=by
 refine Km (m:=20) ([b]) (srcR b A n c K) (hP) (λq hq=>jlM.2 hq) J (Tryz.func26) J J (lb J) ?_;refine S10 ?_;refine cZ (λc1=>?_) (λc1=>?_)
 .omega
 .refine S6 ?_;refine qm (k:=0) (X:={v:Int//0<=v/\v<=255}) (v:=λx=>.int .i64 x.1) (r':=λ_=>srcR b A n c (K+1)) vw J J J Dc J (λw1 hs=>Hh b A n c zs K w1 (hB.ovx hs.over hne) hne (hs.all 0 _ J).1 hn hK) ?_;rintro⟨v1,hv1⟩;refine n9 ?_
  try dsimp only
  refine S8 ?_;refine cZ (λc2=>?_) (λc2=>?_)
  .omega
  .refine S6 ?_;refine a9 (LX J J J Om Om Om) ?_;refine S3 ?_;refine jK J (.tmp J) ?_;intro w' hs;exact⟨⟨_,jbu hv1.1 Om⟩,rfl,WA hs,(hs.all 0 _ rfl).1,λq hq=>.inl hq,rfl⟩
abbrev jkF{X:Type}(P:Program)(f:FuncId)(args:Array Value)(w:World)(b:Nat)(A:Option Addr)(n c K K':Nat)(v:X->Value):Prop:=
 Calls P f args w λe w'=>∃x:X,e=.returned (v x)/\Wrs (srcR b A n c K).F w w'/\(srcR b A n c K').P w'/\(∀q,(srcR b A n c K').F q->(srcR b A n c K).F q\/w.heap.size<=q)/\(srcR b A n c K').B=0
theorem xW(m:Int)(hm:1<m)(hm2:m<=200)(hB:Byts w A n zs)(hne:0<n->∀p,A=some p->p.block≠b)(hP:(srcR b A n c K).P w)(hn:n<=1048576)(hK:K<=1000000):
  jkF Tryz.prog 25 #[.pointer (some ⟨b,0,none⟩),.int .i64 m] w b A n c K (K+1) (λx:Bool=>.bool x):=by
 refine Km (m:=9) ([b]) (srcR b A n c K) (hP) (λq hq=>jlM.2 hq) J (Tryz.func25) J J (lb J) ?_;refine S9 ?_;refine qm (k:=0) (X:={v:Int//0<=v/\v<m}) (v:=λx=>.int .i64 x.1) (r':=λ_=>srcR b A n c (K+1)) J9 J J J Dc J (λw1 hs=>Kw (zs:=zs) m hm hm2 (hB.ovx hs.over hne) hne (hs.all 0 _ J).1 hn hK) ?_;rintro⟨v1,hv1⟩;refine N4 ?_;refine jK J (.tmp J) ?_;intro w' hs;exact⟨_,rfl,WA hs,(hs.all 0 _ rfl).1,λq hq=>.inl hq,rfl⟩
theorem FQ(B:Option Addr)(m d:Nat)(xs:List Int)(hN:Nums w B m xs)(hm:1<m)(hm2:m<=200)(hne2:∀p,B=some p->p.block≠b)(hB:Byts w A n zs)(hne:0<n->∀p,A=some p->p.block≠b)(hP:(srcR b A n c K).P w)(hn:n<=1048576)(hK:K<=1000000):
  Drw Tryz.prog 79 #[.pointer (some ⟨b,0,none⟩),.slice B m d] w b A n c K (K+1) (λv=>v∈xs):=by
 obtain⟨gb,go,rfl,_⟩:=hN.2 Om;have hl:=hN.1
 refine Km (m:=12) ([b]) (srcR b A n c K) (hP) (λq hq=>jlM.2 hq) J (Tryz.func79) J J (lb J) ?_;refine S11 ?_;refine qm (k:=0) (X:={v:Int//0<=v/\v<(m:Int)}) (v:=λx=>.int .i64 x.1) (r':=λ_=>srcR b A n c (K+1)) J9 J J J Dc J (λw1 hs=>Kw (zs:=zs) (m:Int) Om Om (hB.ovx hs.over hne) hne (hs.all 0 _ J).1 hn hK) ?_;rintro⟨v1,hv1⟩;refine n9 ?_
 try dsimp only
 obtain⟨i,rfl⟩:∃i:Nat,v1=(i:Int):=⟨v1.toNat,by omega⟩;refine S1 ?_;refine a9 (jn rfl rfl ju (λw' hs=>by obtain⟨b',o',e,_,hc⟩:=(hN.ovx hs.over hne2).2 Om;injection e with e;injection e with e1 e2 _;subst e1 e2;rw[jmL];exact hc i Om)) ?_;refine S3 ?_;refine jK J (.tmp J) ?_
 intro w' hs;exact⟨⟨_,by show nth xs i∈xs;rw[<-C7 (show i<xs.length by omega)];exact jlY _⟩,rfl,WA hs,(hs.all 0 _ rfl).1,λq hq=>.inl hq,rfl⟩
theorem F6(m:Int)(hm:0<=m)(hm2:m<=262144)(hB:Byts w A n zs)(hne:0<n->∀p,A=some p->p.block≠b)(hP:(srcR b A n c K).P w)(hn:n<=1048576)(hK:K<=999990):
  Drw Tryz.prog 101 #[.pointer (some ⟨b,0,none⟩),.int .i64 m] w b A n c K (K+4) (λv=> -m<=v/\v<=m):=by
 refine Km (m:=24) ([b]) (srcR b A n c K) (hP) (λq hq=>jlM.2 hq) J (Tryz.func101) J J (lb J) ?_;refine S8 ?_;refine qm (k:=0) (X:={v:Int//0<=v/\v<=255}) (v:=λx=>.int .i64 x.1) (r':=λ_=>srcR b A n c (K+1)) vw J J J Dc J (λw1 hs=>Hh b A n c zs K w1 (hB.ovx hs.over hne) hne (hs.all 0 _ J).1 hn Om) ?_;rintro⟨v1,hv1⟩;refine n9 ?_
 try dsimp only
 refine S3 ?_;refine qm (k:=0) (X:={v:Int//0<=v/\v<=255}) (v:=λx=>.int .i64 x.1) (r':=λ_=>srcR b A n c (K+2)) vw J J J Dc J (λw1 hs=>Hh b A n c zs (K+1) w1 (hB.ovx hs.over hne) hne (hs.all 0 _ J).1 hn Om) ?_;rintro⟨v2,hv2⟩;refine n9 ?_
 try dsimp only
 refine S4 ?_;refine qm (k:=0) (X:={v:Int//0<=v/\v<=255}) (v:=λx=>.int .i64 x.1) (r':=λ_=>srcR b A n c (K+3)) vw J J J Dc J (λw1 hs=>Hh b A n c zs (K+2) w1 (hB.ovx hs.over hne) hne (hs.all 0 _ J).1 hn Om) ?_;rintro⟨v3,hv3⟩;refine n9 ?_
 try dsimp only
 refine S3 ?_;refine a9 (LX J J J Om Om Om) ?_;have hr:=jbu (a:=v1*65536+v2*256+v3) (m:=m+1) Om Om
 obtain⟨r,hrr⟩:∃r,r=(v1*65536+v2*256+v3).tmod (m+1):=⟨_,rfl⟩;rw[<-hrr] at hr⊢;refine S7 ?_;refine qm (k:=0) (X:=Bool) (v:=λx=>.bool x) (r':=λ_=>srcR b A n c (K+4)) kJ J J J Dc J (λw1 hs=>xW (zs:=zs) (K:=K+3) 2 Dc Dc (hB.ovx hs.over hne) hne (hs.all 0 _ J).1 hn Om) ?_;rintro ob;refine N1 ?_;refine cZ (λc1=>?_) (λc1=>?_)
 .refine S3 ?_;refine a9 (zN J J Om Om) ?_;refine S4 ?_;refine jK J (.tmp J) ?_;intro w' hs;exact⟨⟨_,by omega⟩,rfl,WA hs,(hs.all 0 _ rfl).1,λq hq=>.inl hq,rfl⟩
 .refine S8 ?_;refine jK J (.tmp J) ?_;intro w' hs;exact⟨⟨_,by omega⟩,rfl,WA hs,(hs.all 0 _ rfl).1,λq hq=>.inl hq,rfl⟩
def EQ(m:Int)(p:Pn):Prop:=(-m<=p.1/\p.1<=m)∧-m<=p.2/\p.2<=m
theorem T5(m:Int)(hm:0<=m)(hm2:m<=262144)(hB:Byts w A n zs)(hne:0<n->∀p,A=some p->p.block≠b)(hP:(srcR b A n c K).P w)(hn:n<=1048576)(hK:K<=999980):
  jkF Tryz.prog 80 #[.pointer (some ⟨b,0,none⟩),.int .i64 m] w b A n c K (K+8) (λx:{p:Pn//EQ m p}=>pV x.1):=by
 refine Km (m:=14) ([b]) (srcR b A n c K) (hP) (λq hq=>jlM.2 hq) J (Tryz.func80) J J (lb J) ?_;refine S3 ?_;refine aL (λb1=>?_);refine N6 ?_;refine qm (k:=0) (X:={v:Int// -m<=v/\v<=m}) (v:=λx=>.int .i64 x.1) (r':=λ_=>srcR b A n c (K+4)) YU J J J Dc J (λw1 hs=>F6 (zs:=zs) m hm hm2 (hB.ovx hs.over hne) hne (hs.all 0 _ J).1 hn Om) ?_;rintro⟨v1,hv1⟩;refine n9 ?_
 try dsimp only
 refine S8 ?_;refine qm (k:=0) (X:={v:Int// -m<=v/\v<=m}) (v:=λx=>.int .i64 x.1) (r':=λ_=>srcR b A n c (K+8)) YU J J J Dc J (λw1 hs=>F6 (zs:=zs) (K:=K+4) m hm hm2 (hB.ovx hs.over hne) hne (hs.all 0 _ J).1 hn Om) ?_;rintro⟨v2,hv2⟩;refine n9 ?_
 try dsimp only
 refine a9 (JD J J (J8 J J)) ?_;refine S4 ?_;refine jK J (qj (k:=1) J jk J J) ?_;intro w' hs;exact⟨⟨(v1,v2),hv1,hv2⟩,rfl,WA hs,(hs.all 0 _ rfl).1,λq hq=>.inl hq,rfl⟩
end
theorem Nv(A:Option Addr)(n c:Nat)(w:World):
  Calls Tryz.prog 10 #[.slice A n c] w λe w'=>∃g:Nat,e=.returned (.pointer (some ⟨g,0,none⟩))/\Over w w'/\(srcR g A n c 0).P w'/\(∀q,(srcR g A n c 0).F q->w.heap.size<=q)/\(srcR g A n c 0).B=0/\True:=by
 refine Jm (m:=6) (Tryz.func10) J J (lb J) ?_;refine S7 ?_;refine a9 (JD J J (GM J)) ?_;refine S1 ?_;refine aX (λb1=>?_);refine N3 ?_;refine jK J (.tmp J) ?_;intro w' hs;exact⟨b1,rfl,hs.fin,⟨0,0,jlL _,by decide,by decide,hs.cel (k:=0) rfl⟩,λq hq=>hq▸((hs.all 0 _ rfl).2.1 b1 rfl).elim id (λh=>by cases h),sz⟩
theorem jaO{w0:Bs}{Rs:List Res}{k b T m:Nat}(xs:List Int)(hk:Rs[k]? =some (.cel b T (xs.map (Value.int .i64))))(hm:xs.length=m):∀w,St w0 Rs w->Nums w (some ⟨b,0,none⟩) m xs:=λw hs=>by
 have hh:=hs.cel hk;refine⟨hm,λ_=>⟨b,0,J,J3 hh,λj hj=>?_⟩⟩;rw[jmd,cell_of_row w b _ _ T (0,0) hh,List.getElem?_toArray,List.getElem?_map,List.getElem?_eq_getElem (show j<xs.length by omega),C7 Om];rfl
section
variable{n c:Nat}{A:Option Addr}{zs:List Int}{w:World}
theorem jlq(hB:Byts w A n zs){g:Nat}(hg:w.heap.size<=g):0<n->∀p,A=some p->p.block≠g:=λh0 p hp e=>by
 obtain⟨b,o,hA,hlt,_⟩:=hB.2.2 h0;rw[hA] at hp;injection hp with hp
 subst hp;have:b=g:=e
 omega
end
end Go.Proofs.YtjbahemkhphndaaGreat
