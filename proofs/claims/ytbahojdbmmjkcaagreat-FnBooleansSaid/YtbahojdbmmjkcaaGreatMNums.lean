import Derived.Test.YtbahojdbmmjkcaaGreatMHot
import Derived.Test.YtbahojdbmmjkcaaGreatMMem
import Derived.ChangeSlices
set_option linter.unusedVariables false
set_option linter.unusedSimpArgs false
namespace Go.Proofs.YtbahojdbmmjkcaaGreat
open Go Go.RowKit
variable {A:Option Addr} {xs:List Int}
def nth (xs:List Int) (k:Nat) :Int:=xs.getD k 0
theorem Px {k:Nat} (h:k<xs.length) :xs[k] =nth xs k:=by simp [nth,List.getD,h]
def Nums (w:World) (A:Option Addr) (n:Nat) (xs:List Int) :Prop:=xs.length=n∧(0<n→∃b o,A=some ⟨b,o,none⟩∧b<w.heap.size∧∀k,k<n→w.cell? ⟨b,o+k,none⟩ =some (.int .i64 (nth xs k)))
theorem Nums.over {w w':World} {n:Nat} (h:Nums w A n xs) (hb:Over w w') :Nums w' A n xs:=by
 refine⟨h.1,fun hn=> ?_⟩
 obtain ⟨b,o,hA,hlt,hc⟩ :=h.2 hn
 exact⟨b,o,hA,jjy hlt hb.size,fun k hk=> ((Jz hb).1 b _ hlt).trans (hc k hk)⟩
end Go.Proofs.YtbahojdbmmjkcaaGreat
namespace Go.Proofs.YtbahojdbmmjkcaaGreat
open Go Go.RowKit
variable {A:Option Addr} {Rs:List Res} {b n:Nat} {w w':World} {zs:List Int}
set_option maxRecDepth 100000
set_option maxHeartbeats 4000000
section
variable {P:Program} {n:Nat} {env:List (Nat×Value)} {w0:Bs} {Rs:List Res} {o:Oper}
variable {x y:Operand} {T T':TypeId} {p q:Int}
theorem Ef (ho:o.op= .binOp .mul T x y T') (hx:ev env x=some (.int .u64 p)) (hy:ev env y=some (.int .u64 q)) :Qt P o n env w0 Rs (.int .u64 (IntKind.u64.wrap (p*q))) :=
 Q5 fun a w hf _=>by unfold execOp;simp only [ho,hf.ev hx,hf.ev hy];simp [go_sem]
theorem MR (ho:o.op= .binOp .add T x y T') (hx:ev env x=some (.int .u64 p)) (hy:ev env y=some (.int .u64 q)) :Qt P o n env w0 Rs (.int .u64 (IntKind.u64.wrap (p+q))) :=
 Q5 fun a w hf _=>by unfold execOp;simp only [ho,hf.ev hx,hf.ev hy];simp [go_sem]
theorem uc (ho:o.op= .binOp .shr T x y T') (hx:ev env x=some (.int .u64 p)) (hy:ev env y=some (.int .u64 q)) (hq:0≤q) (hq2:q<64) :Qt P o n env w0 Rs (.int .u64 (p/2^q.toNat)) :=
 Q5 fun a w hf _=>by unfold execOp;simp only [ho,hf.ev hx,hf.ev hy];simp [go_sem]
theorem Ee (ho:o.op= .binOp .and T x y T') (hx:ev env x=some (.int .u64 p)) (hy:ev env y=some (.int .u64 q)) :Qt P o n env w0 Rs (.int .u64 (bits .and .u64 p q)) :=
 Q5 fun a w hf _=>by unfold execOp;simp only [ho,hf.ev hx,hf.ev hy];simp [go_sem]
theorem QK {k k':IntKind} {d:TypeDesc} (ho:o.op= .convert T T' x) (hs:P.underlying T=some d) (hd:P.underlying T'=some (.int k')) (hx:ev env x=some (.int k p)) (hw:k'.wrap p=p) :Qt P o n env w0 Rs (.int k' p) :=
 Q5 fun a w hf _=>by
  have h1: (convert T T' (.int k p)).run P w= .ok (.int k' p) w:=by
   unfold convert
   simp only [Sem.run_bind,run_underlying hs,run_underlying hd,Result.andThen_ok]
   simp [Conv.intToInt,hw]
  unfold execOp;simp only [ho,hf.ev hx];simp [go_sem,h1]
end
theorem Wp (a:Int) (h1: -9223372036854775808≤a) (h2:a≤9223372036854775807) :IntKind.i64.wrap a=a:=by simp [IntKind.wrap,IntKind.bits,IntKind.signed];omega
theorem Yx (a:Int) :0≤IntKind.u64.wrap a∧IntKind.u64.wrap a<18446744073709551616:=by
 simp [IntKind.wrap,IntKind.bits,IntKind.signed]
 omega
theorem Ut (a:Int) (h:0≤a) (h2:a<18446744073709551616) :IntKind.u64.wrap a=a:=by simp [IntKind.wrap,IntKind.bits,IntKind.signed];omega
theorem jbC (a:Int) :0≤bits .and .u64 a 255∧bits .and .u64 a 255≤255:=by
 have h: (BitVec.ofInt 64 a&&&BitVec.ofInt 64 255).toNat≤255:=by
  rw [BitVec.toNat_and]
  exact Nat.and_le_right
 have e:bits .and .u64 a 255=IntKind.u64.wrap ((BitVec.ofInt 64 a&&&BitVec.ofInt 64 255).toNat:Int) :=rfl
 rw [e,Ut _ Om Om]
 omega
def Byts (w:World) (A:Option Addr) (n:Nat) (zs:List Int) :Prop:=zs.length=n∧(∀z∈zs,0≤z∧z≤255)∧(0<n→∃b o,A=some ⟨b,o,none⟩∧b<w.heap.size∧∀k,k<n→w.cell? ⟨b,o+k,none⟩ =some (.int .u8 (nth zs k)))
theorem Byts.agree (h:Byts w A n zs) (hz:w.heap.size≤w'.heap.size) (ha:∀p,A=some p→w'.heap[p.block]? =w.heap[p.block]?) :Byts w' A n zs:=by
 refine⟨h.1,h.2.1,fun hn=> ?_⟩
 obtain ⟨b,o,rfl,hlt,hc⟩ :=h.2.2 hn
 refine⟨b,o,J,by omega,fun k hk=> ?_⟩
 rw [←hc k hk]
 have:=ha _ rfl
 simp only [World.cell?,this]
theorem Byts.over (h:Byts w A n zs) (hb:Over w w') :Byts w' A n zs:=by
 refine⟨h.1,h.2.1,fun hn=> ?_⟩
 obtain ⟨b,o,hA,hlt,hc⟩ :=h.2.2 hn
 exact⟨b,o,hA,jjy hlt hb.size,fun k hk=> ((Jz hb).1 b _ hlt).trans (hc k hk)⟩
theorem Byts.ovx (h:Byts w A n zs) (ho:Ovx ⟨w,[b]⟩ w') (hne:0<n→∀p,A=some p→p.block≠b) :Byts w' A n zs:=by
 refine⟨h.1,h.2.1,fun hn=> ?_⟩
 obtain ⟨b',o,rfl,hlt,hc⟩ :=h.2.2 hn
 have hs:w.heap.size≤w'.heap.size:=ho.size
 have hb:=ho.block b' hlt (by simpa using hne hn _ rfl)
 refine⟨b',o,J,by omega,fun k hk=> ?_⟩
 rw [←hc k hk]
 simp only [World.cell?,hb]
theorem jiD {bb oo j:Nat} (h:Byts w (some ⟨bb,oo,none⟩) n zs) (hne:bb≠b) (hj:j<n) :∀w',St ⟨w,[b]⟩ Rs w'→w'.cell? ⟨bb,oo+j*1,none⟩ =some (.int .u8 (nth zs j)) :=fun w' hs=>by
 obtain ⟨b',o',e,_,hc⟩ := (h.ovx hs.over (fun _ p hp=>by injection hp with hp;subst hp;exact hne)).2.2 Om
 injection e with e
 injection e with e1 e2 _
 subst e1 e2
 rw [jki]
 exact hc j hj
def srcR (b:Nat) (A:Option Addr) (n c K:Nat) :Res where
 F:= (· =b)
 P:=fun w=>∃(k:Nat) (s:Int),k≤K∧0≤s∧s<18446744073709551616∧w.heap[b]? =some (.cells #[.slice A n c, .int .i64 (k:Int), .int .u64 s] 141 (0,0))
 low:=fun w h q hq=>by obtain ⟨k,s,_,_,_,hh⟩ :=h;exact hq▸JT hh
 B:=0
 dep:=fun w w' h hz hb=>by
  obtain ⟨k,s,h1,h2,h3,hh⟩ :=h
  exact⟨k,s,h1,h2,h3,(hb b (JT hh) (.inr rfl)).trans hh⟩
theorem srcR.more {c K K':Nat} (h: (srcR b A n c K).P w) (hk:K≤K') : (srcR b A n c K').P w:=by
 obtain ⟨k,s,h1,h2⟩ :=h
 exact⟨k,s,jkh h1 hk,h2⟩
abbrev Drw (P:Program) (f:FuncId) (args:Array Value) (w:World) (b:Nat) (A:Option Addr) (n c K K':Nat) (p:Int→Prop) :Prop:=
 Calls P f args w fun e w'=>∃x: {v:Int//p v},e= .returned (.int .i64 x.1)∧Wrs (srcR b A n c K).F w w'∧(srcR b A n c K').P w'∧(∀q,(srcR b A n c K').F q→(srcR b A n c K).F q∨w.heap.size≤q)∧(srcR b A n c K').B=0
theorem yR (hs:St ⟨w,[b]⟩ Rs w') :Wrs (· =b) w w':=hs.over.wrs.mono fun q hq=>by simpa using hq
theorem Gf (b:Nat) (A:Option Addr) (n c:Nat) (zs:List Int) (K:Nat) (w:World) (hB:Byts w A n zs) (hne:0<n→∀p,A=some p→p.block≠b) (hP: (srcR b A n c K).P w) (hn:n≤1048576) (hK:K≤1000000) :
  Drw Tryz.prog 100 #[.pointer (some ⟨b,0,none⟩)] w b A n c K (K+1) (fun v=>0≤v∧v≤255) :=by
 obtain ⟨k,s,hk,hs0,hs1,hh⟩ :=hP
 have hl:=hB.1
 have u1:=Yx (s*6364136223846793005)
 refine QX (m:=62) (Tryz.func100) J J (lb J) (hh) ?_;refine S11 ?_;refine JS 10 ?_;refine dK 0 ?_;refine dK 1 ?_;refine dK 2 ?_;refine dK 3 ?_;refine dK 4 ?_;refine dK 5 ?_;refine dK 6 ?_;refine dK 7 ?_;refine dK 8 ?_;refine dK 9 ?_;refine JJ Kr ?_;refine S1 ?_;refine cZ (fun c1=> ?_) (fun c1=> ?_)
 ·have hlt:k<n:=Om
  obtain ⟨bb,bo,rfl,_⟩ :=hB.2.2 Om
  have hz:=hB.2.1 _ (jju (show k<zs.length by omega))
  rw [Px Om] at hz
  have u2:=Yx (IntKind.u64.wrap (s*6364136223846793005) +nth zs k)
  have u3:=Yx (IntKind.u64.wrap (IntKind.u64.wrap (s*6364136223846793005) +nth zs k) +1442695040888963407)
  have u4:=jbC (IntKind.u64.wrap (IntKind.u64.wrap (IntKind.u64.wrap (s*6364136223846793005) +nth zs k) +1442695040888963407) /2^ (40:Int).toNat)
  refine S1 ?_;refine JS 12 ?_;refine dK 0 ?_;refine dK 1 ?_;refine dK 2 ?_;refine dK 3 ?_;refine dK 4 ?_;refine dK 5 ?_;refine dK 6 ?_;refine dK 7 ?_;refine dK 8 ?_;refine dZ 9 J (jo J J jbo (jiD hB (hne Om _ J) hlt)) ?_;refine dZ 10 J (QK J Tryz.underlying5 Tryz.underlying3 J (Wp _ Om Om)) ?_;refine dK 11 ?_;refine JJ Kr ?_;refine S11 ?_;refine Zy (k:=0) J J J J (J) (by rfl) Rt.szx J ?_;refine N8 ?_;refine a9 (Ef J J J) ?_;refine S1 ?_;refine a9 (QK J Tryz.underlying3 Tryz.underlying139 J (Ut _ Om Om)) ?_;refine a9 (MR J J J) ?_;refine a9 (MR J J J) ?_;refine S3 ?_;refine Zz (k:=0) J J J J (J) (by rfl) BV.szx J ?_;refine N4 ?_;refine JS 10 ?_;refine dK 0 ?_;refine dK 1 ?_;refine dK 2 ?_;refine dK 3 ?_;refine dK 4 ?_;refine dK 5 ?_;refine dK 6 ?_;refine dK 7 ?_;refine dK 8 ?_;refine dK 9 ?_;refine JJ Kr ?_;refine S1 ?_;refine cZ (fun c2=> ?_) (fun c2=> ?_)
  ·refine S7 ?_;refine jK J (.tmp J) ?_
   intro w' hs
   have hc:=hs.cel (k:=0) rfl
   first | exact⟨⟨_,hz⟩,rfl,yR hs,⟨k+1,_,by omega,u3.1,u3.2,hc⟩,fun q hq=> .inl hq,rfl⟩ | exact⟨⟨_,u4⟩,rfl,yR hs,⟨k+1,_,by omega,u3.1,u3.2,hc⟩,fun q hq=> .inl hq,rfl⟩ | exact⟨⟨0,by decide⟩,rfl,yR hs,⟨k+1,_,by omega,u3.1,u3.2,hc⟩,fun q hq=> .inl hq,rfl⟩
  ·refine S8 ?_;refine a9 (uc (q:=40) J J J Dc Dc) ?_;refine a9 (Ee J J J) ?_;refine a9 (QK J Tryz.underlying139 Tryz.underlying2 J (Wp _ Om Om)) ?_;refine S3 ?_;refine jK J (.tmp J) ?_
   intro w' hs
   have hc:=hs.cel (k:=0) rfl
   first | exact⟨⟨_,hz⟩,rfl,yR hs,⟨k+1,_,by omega,u3.1,u3.2,hc⟩,fun q hq=> .inl hq,rfl⟩ | exact⟨⟨_,u4⟩,rfl,yR hs,⟨k+1,_,by omega,u3.1,u3.2,hc⟩,fun q hq=> .inl hq,rfl⟩ | exact⟨⟨0,by decide⟩,rfl,yR hs,⟨k+1,_,by omega,u3.1,u3.2,hc⟩,fun q hq=> .inl hq,rfl⟩
 ·have u2:=Yx (IntKind.u64.wrap (s*6364136223846793005) +0)
  have u3:=Yx (IntKind.u64.wrap (IntKind.u64.wrap (s*6364136223846793005) +0) +1442695040888963407)
  have u4:=jbC (IntKind.u64.wrap (IntKind.u64.wrap (IntKind.u64.wrap (s*6364136223846793005) +0) +1442695040888963407) /2^ (40:Int).toNat)
  refine S12 ?_;refine Zy (k:=0) J J J J (J) (by rfl) Rt.szx J ?_;refine N8 ?_;refine a9 (Ef J J J) ?_;refine S1 ?_;refine a9 (QK J Tryz.underlying3 Tryz.underlying139 J (Ut _ Om Om)) ?_;refine a9 (MR J J J) ?_;refine a9 (MR J J J) ?_;refine S3 ?_;refine Zz (k:=0) J J J J (J) (by rfl) BV.szx J ?_;refine N4 ?_;refine JS 10 ?_;refine dK 0 ?_;refine dK 1 ?_;refine dK 2 ?_;refine dK 3 ?_;refine dK 4 ?_;refine dK 5 ?_;refine dK 6 ?_;refine dK 7 ?_;refine dK 8 ?_;refine dK 9 ?_;refine JJ Kr ?_;refine S1 ?_;refine cZ (fun c3=> ?_) (fun c3=> ?_)
  ·refine S7 ?_;refine jK J (.tmp J) ?_
   intro w' hs
   have hc:=hs.cel (k:=0) rfl
   first | exact⟨⟨_,hz⟩,rfl,yR hs,⟨k+1,_,by omega,u3.1,u3.2,hc⟩,fun q hq=> .inl hq,rfl⟩ | exact⟨⟨_,u4⟩,rfl,yR hs,⟨k+1,_,by omega,u3.1,u3.2,hc⟩,fun q hq=> .inl hq,rfl⟩ | exact⟨⟨0,by decide⟩,rfl,yR hs,⟨k+1,_,by omega,u3.1,u3.2,hc⟩,fun q hq=> .inl hq,rfl⟩
  ·refine S8 ?_;refine a9 (uc (q:=40) J J J Dc Dc) ?_;refine a9 (Ee J J J) ?_;refine a9 (QK J Tryz.underlying139 Tryz.underlying2 J (Wp _ Om Om)) ?_;refine S3 ?_;refine jK J (.tmp J) ?_
   intro w' hs
   have hc:=hs.cel (k:=0) rfl
   first | exact⟨⟨_,hz⟩,rfl,yR hs,⟨k+1,_,by omega,u3.1,u3.2,hc⟩,fun q hq=> .inl hq,rfl⟩ | exact⟨⟨_,u4⟩,rfl,yR hs,⟨k+1,_,by omega,u3.1,u3.2,hc⟩,fun q hq=> .inl hq,rfl⟩ | exact⟨⟨0,by decide⟩,rfl,yR hs,⟨k+1,_,by omega,u3.1,u3.2,hc⟩,fun q hq=> .inl hq,rfl⟩
end Go.Proofs.YtbahojdbmmjkcaaGreat
namespace Go.Proofs.YtbahojdbmmjkcaaGreat
open Go Go.ChangeShapes Go.WideShapes Go.ChangeAt Go.RowKit Go.Joins Go.Deep
section
variable {H:Type} {enc:TypeId×Value→H} {w:World} {base:Nat} {spare:Nat→Bool} {held:Bool}
set_option maxRecDepth 100000 in
theorem Bm {r:Reach} {b0:Nat} {v:Value} {d:DataW H} {p:List MemPlace} (hv:Value.okWide Tryz.prog w r b0 22 v) (h:DataW.Trod enc Tryz.prog w base spare held 22 v d p) :
  ∃(A:Option Addr) (n c:Nat) (zs:List Int),v= .slice A n c∧Byts w A n zs∧(n:Int)≤9223372036854775807:=by
 have hC:Tryz.prog.cellsOf 5=1:=by kernel_rfl
 obtain ⟨A,n,c,rfl⟩ :=okWide_slice Tryz.underlying22 hv
 obtain ⟨fuel,hf⟩ :=h
 rcases open_ints Tryz.underlying22 Tryz.underlying5 hC hf with⟨e,_⟩ |⟨a,len,cap,zs,e,_,hl,hm,hz,_,hc,hw⟩
 ·simp [Value.cells] at e
  obtain ⟨rfl,rfl,rfl⟩ :=e
  exact⟨none,0,0,[],rfl,⟨rfl,fun z hz=>absurd hz (by simp),fun h=>absurd h Om⟩,by omega⟩
 ·simp [Value.cells] at e
  obtain ⟨rfl,rfl,rfl⟩ :=e
  have hlz:n≤zs.length:=by rw [hz];split<;>omega
  have hwf:∀z∈zs,0≤z∧z≤255:=fun z hz=>by
   have:=hw z hz
   simp [Lit.wf,IntKind.min,IntKind.max,IntKind.bits,IntKind.signed] at this
   omega
  refine⟨some a,n,c,zs.take n,J,⟨by rw [jjC];omega,fun z hz=>hwf z (jj6 hz),fun h0=> ?_⟩,by unfold maxLen at hm;omega⟩
  obtain ⟨b,o,sp⟩ :=a
  have hsp:sp=none:=by
   have:=World.cell?_spot (hc 0 Om)
   simpa [Addr.add] using this
  subst hsp
  have hadd:∀j,(⟨b,o,none⟩ :Addr).add j=⟨b,o+j,none⟩ :=fun j=>by unfold Addr.add;split<;>simp_all
  have hlt:=World.block_lt_of_cell? w _ (hc 0 Om)
  rw [hadd] at hlt
  refine⟨b,o,J,hlt,fun k hk=> ?_⟩
  have h1:=hc k Om
  rw [hadd] at h1
  rw [h1]
  have:nth (zs.take n) k=zs.getD k 0:=by simp [nth,List.getD,List.getElem?_take,hk]
  rw [this]
end
end Go.Proofs.YtbahojdbmmjkcaaGreat
