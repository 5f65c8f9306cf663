import Derived.Test.YtpncbbcmoiiipaaMMem
import Derived.Test.YtpncbbcmoiiipaaMNums
import Derived.ChangeSlices
import Derived.Test.YtpncbbcmoiiipaaMRegBounds
import Derived.Test.YtpncbbcmoiiipaaMHot
import Derived.Shelf.SlSortCmp.WholeK
import Derived.Test.YtpncbbcmoiiipaaMReg3
import Derived.Test.YtpncbbcmoiiipaaMOwn
import Derived.Test.YtpncbbcmoiiipaaMSnapped
import Derived.Test.YtpncbbcmoiiipaaMSimp
set_option linter.unusedVariables false
set_option linter.unusedSimpArgs false
namespace Go.Proofs.Ytpncbbcmoiiipaa
open Go Go.ChangeShapes Go.WideShapes Go.ChangeAt Go.RowKit Go.Joins Go.Deep
section
variable {H:Type} {enc:TypeId×Value→H} {w:World} {base:Nat} {spare:Nat→Bool} {held:Bool}
set_option maxRecDepth 100000 in
theorem xD {r:Reach} {b0:Nat} {v:Value} {d:DataW H} {p:List MemPlace} (hv:Value.okWide Try.prog w r b0 22 v) (h:DataW.Trod enc Try.prog w base spare held 22 v d p) :
  ∃(A:Option Addr) (n c:Nat) (zs:List Int),v= .slice A n c∧Byts w A n zs∧(n:Int)≤9223372036854775807:=by
 have hC:Try.prog.cellsOf 5=1:=by kernel_rfl
 obtain ⟨A,n,c,rfl⟩ :=okWide_slice Try.underlying22 hv
 obtain ⟨fuel,hf⟩ :=h
 rcases open_ints Try.underlying22 Try.underlying5 hC hf with⟨e,_⟩ |⟨a,len,cap,zs,e,_,hl,hm,hz,_,hc,hw⟩
 ·simp [Value.cells] at e
  obtain ⟨rfl,rfl,rfl⟩ :=e
  exact⟨none,0,0,[],rfl,⟨rfl,fun z hz=>absurd hz (by simp),fun h=>absurd h Om⟩,by omega⟩
 ·simp [Value.cells] at e
  obtain ⟨rfl,rfl,rfl⟩ :=e
  have hlz:n≤zs.length:=by rw [hz];split<;>omega
  have hwf:∀z∈zs,0≤z∧z≤255:=fun z hz=>by
   have:=hw z hz
   simp [Lit.wf,IntKind.min,IntKind.max,IntKind.bits,IntKind.signed] at this
   omega
  refine⟨some a,n,c,zs.take n,J,⟨by rw [Ff];omega,fun z hz=>hwf z (FL hz),fun h0=> ?_⟩,by unfold maxLen at hm;omega⟩
  obtain ⟨b,o,sp⟩ :=a
  have hsp:sp=none:=by
   have:=World.cell?_spot (hc 0 Om)
   simpa [Addr.add] using this
  subst hsp
  have hadd:∀j,(⟨b,o,none⟩ :Addr).add j=⟨b,o+j,none⟩ :=fun j=>by unfold Addr.add;split<;>simp_all
  have hlt:=World.block_lt_of_cell? w _ (hc 0 Om)
  rw [hadd] at hlt
  refine⟨b,o,J,hlt,fun k hk=> ?_⟩
  have h1:=hc k Om
  rw [hadd] at h1
  rw [h1]
  have:Lc (zs.take n) k=zs.getD k 0:=by simp [Lc,List.getD,List.getElem?_take,hk]
  rw [this]
end
end Go.Proofs.Ytpncbbcmoiiipaa
namespace Go.Proofs.Ytpncbbcmoiiipaa
open Go Go.RowKit
set_option maxRecDepth 100000
set_option maxHeartbeats 4000000
theorem Nums.ovx {w w':World} {b:Nat} {A:Option Addr} {n:Nat} {zs:List Int} (h:Nums w A n zs) (ho:Ovx ⟨w,[b]⟩ w') (hne:∀p,A=some p→p.block≠b) :Nums w' A n zs:=by
 refine⟨h.1,fun hn=> ?_⟩
 obtain ⟨b',o,rfl,hlt,hc⟩ :=h.2 hn
 have hs:w.heap.size≤w'.heap.size:=ho.size
 have hb:=ho.block b' hlt (by simpa using hne _ rfl)
 refine⟨b',o,J,by omega,fun k hk=> ?_⟩
 rw [←hc k hk]
 simp only [World.cell?,hb]
theorem X6 {a m:Int} (ha:0≤a) (hm:0<m) :0≤a.tmod m∧a.tmod m<m:=⟨Int.tmod_nonneg _ ha,Int.tmod_lt_of_pos _ hm⟩
section
variable {b n c K:Nat} {A:Option Addr} {zs:List Int} {w:World}
theorem QF (m:Int) (hm:1<m) (hm2:m≤200) (hB:Byts w A n zs) (hne:0<n→∀p,A=some p→p.block≠b) (hP: (srcR b A n c K).P w) (hn:n≤1048576) (hK:K≤1000000) :
  BB Try.prog 13 #[.pointer (some ⟨b,0,none⟩), .int .i64 m] w b A n c K (K+1) (fun v=>0≤v∧v<m) :=by
 refine kI (m:=20) ([b]) (srcR b A n c K) (hP) (fun q hq=>DP.2 hq) J (Try.func13) J J (lb J) ?_;refine Dg ?_;refine cZ (fun c1=> ?_) (fun c1=> ?_)
 ·omega
 ·refine S6 ?_;refine JT (k:=0) (X:= {v:Int//0≤v∧v≤255}) (v:=fun x=> .int .i64 x.1) (r':=fun _=>srcR b A n c (K+1)) Qi J J J Dc J (fun w1 hs=>WA b A n c zs K w1 (hB.ovx hs.over hne) hne (hs.all 0 _ J).1 hn hK) ?_
  rintro⟨v1,hv1⟩
  refine n9 ?_
  try dsimp only
  refine S8 ?_;refine cZ (fun c2=> ?_) (fun c2=> ?_)
  ·omega
  ·refine S6 ?_;refine a9 (za J J J Om Om Om) ?_;refine S3 ?_;refine jG J (.tmp J) ?_
   intro w' hs
   exact⟨⟨_,X6 hv1.1 Om⟩,rfl,vt hs,(hs.all 0 _ rfl).1,fun q hq=> .inl hq,rfl⟩
abbrev OX {X:Type} (P:Program) (f:FuncId) (args:Array Value) (w:World) (b:Nat) (A:Option Addr) (n c K K':Nat) (v:X→Value) :Prop:=
 Calls P f args w fun e w'=>∃x:X,e= .returned (v x)∧Wrs (srcR b A n c K).F w w'∧(srcR b A n c K').P w'∧(∀q,(srcR b A n c K').F q→(srcR b A n c K).F q∨w.heap.size≤q)∧(srcR b A n c K').B=0
theorem XF (m:Int) (hm:1<m) (hm2:m≤200) (hB:Byts w A n zs) (hne:0<n→∀p,A=some p→p.block≠b) (hP: (srcR b A n c K).P w) (hn:n≤1048576) (hK:K≤1000000) :
  OX Try.prog 27 #[.pointer (some ⟨b,0,none⟩), .int .i64 m] w b A n c K (K+1) (fun x:Bool=> .bool x) :=by
 refine kI (m:=9) ([b]) (srcR b A n c K) (hP) (fun q hq=>DP.2 hq) J (Try.func27) J J (lb J) ?_;refine S9 ?_;refine JT (k:=0) (X:= {v:Int//0≤v∧v<m}) (v:=fun x=> .int .i64 x.1) (r':=fun _=>srcR b A n c (K+1)) Js J J J Dc J (fun w1 hs=>QF (zs:=zs) m hm hm2 (hB.ovx hs.over hne) hne (hs.all 0 _ J).1 hn hK) ?_
 rintro⟨v1,hv1⟩
 refine N4 ?_;refine jG J (.tmp J) ?_
 intro w' hs
 exact⟨_,rfl,vt hs,(hs.all 0 _ rfl).1,fun q hq=> .inl hq,rfl⟩
theorem Ge (B:Option Addr) (m d:Nat) (xs:List Int) (hN:Nums w B m xs) (hm:1<m) (hm2:m≤200) (hne2:∀p,B=some p→p.block≠b) (hB:Byts w A n zs) (hne:0<n→∀p,A=some p→p.block≠b) (hP: (srcR b A n c K).P w) (hn:n≤1048576) (hK:K≤1000000) :
  BB Try.prog 45 #[.pointer (some ⟨b,0,none⟩), .slice B m d] w b A n c K (K+1) (fun v=>v∈xs) :=by
 obtain ⟨gb,go,rfl,_⟩ :=hN.2 Om
 have hl:=hN.1
 refine kI (m:=12) ([b]) (srcR b A n c K) (hP) (fun q hq=>DP.2 hq) J (Try.func45) J J (lb J) ?_;refine Dh ?_;refine JT (k:=0) (X:= {v:Int//0≤v∧v< (m:Int)}) (v:=fun x=> .int .i64 x.1) (r':=fun _=>srcR b A n c (K+1)) Js J J J Dc J (fun w1 hs=>QF (zs:=zs) (m:Int) Om Om (hB.ovx hs.over hne) hne (hs.all 0 _ J).1 hn hK) ?_
 rintro⟨v1,hv1⟩
 refine n9 ?_
 try dsimp only
 obtain ⟨i,rfl⟩ :∃i:Nat,v1= (i:Int) :=⟨v1.toNat,by omega⟩
 refine S1 ?_;refine a9 (jo rfl rfl jC (fun w' hs=>by obtain ⟨b',o',e,_,hc⟩ := (hN.ovx hs.over hne2).2 Om;injection e with e;injection e with e1 e2 _;subst e1 e2;rw [Nat.mul_one];exact hc i Om)) ?_;refine S3 ?_;refine jG J (.tmp J) ?_
 intro w' hs
 exact⟨⟨_,by show Lc xs i∈xs;rw [←xz (show i<xs.length by omega)];exact DR _⟩,rfl,vt hs,(hs.all 0 _ rfl).1,fun q hq=> .inl hq,rfl⟩
theorem yW (m:Int) (hm:0≤m) (hm2:m≤262144) (hB:Byts w A n zs) (hne:0<n→∀p,A=some p→p.block≠b) (hP: (srcR b A n c K).P w) (hn:n≤1048576) (hK:K≤999990) :
  BB Try.prog 71 #[.pointer (some ⟨b,0,none⟩), .int .i64 m] w b A n c K (K+4) (fun v=> -m≤v∧v≤m) :=by
 refine kI (m:=24) ([b]) (srcR b A n c K) (hP) (fun q hq=>DP.2 hq) J (Try.func71) J J (lb J) ?_;refine S8 ?_;refine JT (k:=0) (X:= {v:Int//0≤v∧v≤255}) (v:=fun x=> .int .i64 x.1) (r':=fun _=>srcR b A n c (K+1)) Qi J J J Dc J (fun w1 hs=>WA b A n c zs K w1 (hB.ovx hs.over hne) hne (hs.all 0 _ J).1 hn Om) ?_
 rintro⟨v1,hv1⟩
 refine n9 ?_
 try dsimp only
 refine S3 ?_;refine JT (k:=0) (X:= {v:Int//0≤v∧v≤255}) (v:=fun x=> .int .i64 x.1) (r':=fun _=>srcR b A n c (K+2)) Qi J J J Dc J (fun w1 hs=>WA b A n c zs (K+1) w1 (hB.ovx hs.over hne) hne (hs.all 0 _ J).1 hn Om) ?_
 rintro⟨v2,hv2⟩
 refine n9 ?_
 try dsimp only
 refine S4 ?_;refine JT (k:=0) (X:= {v:Int//0≤v∧v≤255}) (v:=fun x=> .int .i64 x.1) (r':=fun _=>srcR b A n c (K+3)) Qi J J J Dc J (fun w1 hs=>WA b A n c zs (K+2) w1 (hB.ovx hs.over hne) hne (hs.all 0 _ J).1 hn Om) ?_
 rintro⟨v3,hv3⟩
 refine n9 ?_
 try dsimp only
 refine S3 ?_;refine a9 (za J J J Om Om Om) ?_
 have hr:=X6 (a:=v1*65536+v2*256+v3) (m:=m+1) Om Om
 obtain ⟨r,hrr⟩ :∃r,r= (v1*65536+v2*256+v3).tmod (m+1) :=⟨_,rfl⟩
 rw [←hrr] at hr⊢
 refine S7 ?_;refine JT (k:=0) (X:=Bool) (v:=fun x=> .bool x) (r':=fun _=>srcR b A n c (K+4)) Kq J J J Dc J (fun w1 hs=>XF (zs:=zs) (K:=K+3) 2 Dc Dc (hB.ovx hs.over hne) hne (hs.all 0 _ J).1 hn Om) ?_
 rintro ob
 refine N1 ?_;refine cZ (fun c1=> ?_) (fun c1=> ?_)
 ·refine S3 ?_;refine a9 (Y9 J J Om Om) ?_;refine S4 ?_;refine jG J (.tmp J) ?_
  intro w' hs
  exact⟨⟨_,by omega⟩,rfl,vt hs,(hs.all 0 _ rfl).1,fun q hq=> .inl hq,rfl⟩
 ·refine S8 ?_;refine jG J (.tmp J) ?_
  intro w' hs
  exact⟨⟨_,by omega⟩,rfl,vt hs,(hs.all 0 _ rfl).1,fun q hq=> .inl hq,rfl⟩
def Gj (m:Int) (p:Pn) :Prop:= (-m≤p.1∧p.1≤m)∧-m≤p.2∧p.2≤m
theorem Hz (m:Int) (hm:0≤m) (hm2:m≤262144) (hB:Byts w A n zs) (hne:0<n→∀p,A=some p→p.block≠b) (hP: (srcR b A n c K).P w) (hn:n≤1048576) (hK:K≤999980) :
  OX Try.prog 46 #[.pointer (some ⟨b,0,none⟩), .int .i64 m] w b A n c K (K+8) (fun x: {p:Pn//Gj m p} =>pV x.1) :=by
 refine kI (m:=14) ([b]) (srcR b A n c K) (hP) (fun q hq=>DP.2 hq) J (Try.func46) J J (lb J) ?_;refine S3 ?_;refine aL (fun b1=> ?_);refine N6 ?_;refine JT (k:=0) (X:= {v:Int// -m≤v∧v≤m}) (v:=fun x=> .int .i64 x.1) (r':=fun _=>srcR b A n c (K+4)) vG J J J Dc J (fun w1 hs=>yW (zs:=zs) m hm hm2 (hB.ovx hs.over hne) hne (hs.all 0 _ J).1 hn Om) ?_
 rintro⟨v1,hv1⟩
 refine n9 ?_
 try dsimp only
 refine S8 ?_;refine JT (k:=0) (X:= {v:Int// -m≤v∧v≤m}) (v:=fun x=> .int .i64 x.1) (r':=fun _=>srcR b A n c (K+8)) vG J J J Dc J (fun w1 hs=>yW (zs:=zs) (K:=K+4) m hm hm2 (hB.ovx hs.over hne) hne (hs.all 0 _ J).1 hn Om) ?_
 rintro⟨v2,hv2⟩
 refine n9 ?_
 try dsimp only
 refine a9 (JU J J (Qm J J)) ?_;refine S4 ?_;refine jG J (qO (k:=1) J jh J J) ?_
 intro w' hs
 exact⟨⟨(v1,v2),hv1,hv2⟩,rfl,vt hs,(hs.all 0 _ rfl).1,fun q hq=> .inl hq,rfl⟩
end
theorem MQ {m:Int} {p:Pn} (h:Gj m p) (hm:m≤262144) :bd2 p:=by
 obtain ⟨⟨h1,h2⟩,h3,h4⟩ :=h
 exact⟨⟨by omega,by omega⟩,by omega,by omega⟩
theorem z7 (A:Option Addr) (n c:Nat) (w:World) :
  Calls Try.prog 11 #[.slice A n c] w fun e w'=>∃g:Nat,e= .returned (.pointer (some ⟨g,0,none⟩))∧Over w w'∧(srcR g A n c 0).P w'∧(∀q,(srcR g A n c 0).F q→w.heap.size≤q)∧(srcR g A n c 0).B=0∧True:=by
 refine Jh (m:=6) (Try.func11) J J (lb J) ?_;refine S7 ?_;refine a9 (JU J J (Wh J)) ?_;refine S1 ?_;refine aX (fun b1=> ?_);refine N3 ?_;refine jG J (.tmp J) ?_
 intro w' hs
 exact⟨b1,rfl,hs.fin,⟨0,0,DM _,by decide,by decide,hs.cel (k:=0) rfl⟩,fun q hq=>hq▸((hs.all 0 _ rfl).2.1 b1 rfl).elim id (fun h=>by cases h),sz⟩
theorem Mt {w0:Bs} {Rs:List Res} {k b T m:Nat} (xs:List Int) (hk:Rs[k]? =some (.cel b T (xs.map (Value.int .i64)))) (hm:xs.length=m) :∀w,St w0 Rs w→Nums w (some ⟨b,0,none⟩) m xs:=fun w hs=>by
 have hh:=hs.cel hk
 refine⟨hm,fun _=>⟨b,0,J,JE hh,fun j hj=> ?_⟩⟩
 rw [Fo,cell_of_row w b _ _ T (0,0) hh,List.getElem?_toArray,List.getElem?_map,List.getElem?_eq_getElem (show j<xs.length by omega),xz Om]
 rfl
section
variable {n c:Nat} {A:Option Addr} {zs:List Int} {w:World}
theorem BI (hB:Byts w A n zs) {g:Nat} (hg:w.heap.size≤g) :0<n→∀p,A=some p→p.block≠g:=fun h0 p hp e=>by
 obtain ⟨b,o,hA,hlt,_⟩ :=hB.2.2 h0
 rw [hA] at hp
 injection hp with hp
 subst hp
 have:b=g:=e
 omega
end
end Go.Proofs.Ytpncbbcmoiiipaa
namespace Go.Proofs.Ytpncbbcmoiiipaa
open Go Go.RowKit
def RevTo (cs:List Value) (o n i:Nat) (xs:List (Int×Int)) :Prop:=∀q,q<n→cs[o+q*2]? =some (.int .i64 (px xs (if q<i∨n- 1- i<q then n- 1- q else q)))∧cs[o+q*2+1]? =some (.int .i64 (py xs (if q<i∨n- 1- i<q then n- 1- q else q)))
theorem RevTo.step {cs:List Value} {o n i:Nat} {xs:List (Int×Int)} (h:RevTo cs o n i xs) (hi:2*i+1<n) (hl:∀q,q<n→o+q*2+1<cs.length) :
  RevTo (qi (qi cs (o+i*2) [.int .i64 (px xs (n- 1- i)), .int .i64 (py xs (n- 1- i))]) (o+ (n- 1- i) *2) [.int .i64 (px xs i), .int .i64 (py xs i)]) o n (i+1) xs:=by
 intro q hq
 have h1:=hl i Om
 have h2:=hl (n- 1- i) Om
 simp only [qi]
 by_cases e1:q=i
 ·subst e1
  rw [if_pos Om,List.getElem?_set_ne Om,List.getElem?_set_ne Om,List.getElem?_set_ne Om,List.getElem?_set_self Om,List.getElem?_set_ne Om,List.getElem?_set_ne Om,List.getElem?_set_self (by simp;omega)]
  exact⟨rfl,rfl⟩
 ·by_cases e2:q=n- 1- i
  ·subst e2
   rw [if_pos Om,List.getElem?_set_ne Om,List.getElem?_set_self (by simp;omega),List.getElem?_set_self (by simp;omega),show n- 1- (n- 1- i) =i by omega]
   exact⟨rfl,rfl⟩
  ·have:=h q hq
   have hif: (q<i+1∨n- 1- (i+1) <q)↔(q<i∨n- 1- i<q) :=by omega
   simp only [hif]
   rw [List.getElem?_set_ne Om,List.getElem?_set_ne Om,List.getElem?_set_ne Om,List.getElem?_set_ne Om,List.getElem?_set_ne Om,List.getElem?_set_ne Om,List.getElem?_set_ne Om,List.getElem?_set_ne Om]
   exact this
theorem RevTo.at_ {cs:List Value} {o n i q:Nat} {xs:List (Int×Int)} (h:RevTo cs o n i xs) (h1:i≤q) (h2:q≤n- 1- i) (hq:q<n) :cs[o+q*2]? =some (.int .i64 (px xs q))∧cs[o+q*2+1]? =some (.int .i64 (py xs q)) :=by
 have:=h q hq
 rwa [if_neg Om] at this
theorem OwnGd.put {lo hi:Nat} {w w':World} {b o T:Nat} {cs:Array Value} {pl:Nat→Option Addr×Nat} {n k:Nat} {rs:List jx} (ys:jx) (h:OwnGd lo hi w b o T cs pl n rs) (hl:rs.length=n) (hk:k<n) (hy:ys.length= (rg rs k).length)
  (hw:Wrs (fun q=>0< (rg rs k).length∧q=WV (pl k).1∧Bx lo hi q) w w') (hp:OwnP lo hi w' (pl k).1 (rg rs k).length ys) :OwnGd lo hi w' b o T cs pl n (rs.set k ys) :=by
 have hse:∀j,j<n→rg (rs.set k ys) j=if j=k then ys else rg rs j:=fun j hj=>by
  simp only [rg,List.getD_eq_getElem?_getD]
  by_cases e:j=k
  ·subst e;rw [if_pos rfl,List.getElem?_set_self Om];rfl
  ·rw [if_neg e,List.getElem?_set_ne (fun e'=>e e'.symm)]
 have hlen:∀j,j<n→(rg (rs.set k ys) j).length= (rg rs j).length:=fun j hj=>by
  rw [hse j hj]
  by_cases e:j=k
  ·subst e;rw [if_pos rfl,hy]
  ·rw [if_neg e]
 refine⟨h.low,h.high,(hw.block b (JE h.blk) fun hq=> ?_).trans h.blk,fun j hj=> ?_,fun j hj=> ?_,fun j hj=> ?_,fun i j hi hj hij=> ?_⟩
 ·exact h.off k hk hq.1 hq.2.1.symm
 ·rw [hlen _ hj];exact h.cell j hj
 ·rw [hse j hj]
  by_cases hjk:j=k
  ·subst hjk
   rw [if_pos rfl,hy]
   exact hp
  ·rw [if_neg hjk]
   by_cases h0:0< (rg rs j).length
   ·refine(h.pts j hj).agree fun p hp' h1 h2=> ?_
    obtain ⟨b',o',T',cs',e',_,_,hh',_⟩ := (h.pts j hj).2 h0
    rw [e'] at hp'
    injection hp' with hp'
    subst hp'
    refine hw.block b' (JE hh') fun hq=> ?_
    refine h.apart j k hj hk hjk h0 hq.1 ?_
    rw [e']
    exact hq.2.1
   ·exact⟨(h.pts j hj).1,fun h1=>absurd h1 h0⟩
 ·rw [hlen _ hj];exact h.off j hj
 ·rw [hlen _ hi,hlen _ hj];exact h.apart i j hi hj hij
end Go.Proofs.Ytpncbbcmoiiipaa
namespace Go.Proofs.Ytpncbbcmoiiipaa
open Go Go.Shelf Go.RowKit Go.Lib Go.Sort
def Wj (p q:Pn) :Int:=if p.2=q.2 then KN (p.1- q.1) else KN (p.2- q.2)
theorem Hq (p q:Pn) :Wj p q<0↔Wb p q:=by
 have h1:=um (p.1- q.1)
 have h2:=um (p.2- q.2)
 unfold Wj Wb
 split<;>omega
set_option maxHeartbeats 1000000 in
theorem zI (p q:Pn) (hp:Z1 p) (hq:Z1 q) (W:World) :Calls Try.prog 35 #[.agg #[.int .i64 p.1, .int .i64 p.2], .agg #[.int .i64 q.1, .int .i64 q.2]] W fun e w'=>e= .returned (.int .i64 (Wj p q))∧∃q' os',w'=grow (W.drewN q') os':=by
 obtain ⟨⟨p1,p2⟩,p3,p4⟩ :=hp
 obtain ⟨⟨q1,q2⟩,q3,q4⟩ :=hq
 by_cases h:p.2=q.2
 ·have e:Wj p q=KN (p.1- q.1) :=if_pos h
  have hc:=Qv (p.1- q.1)
  rw [e]
  generalize KN (p.1- q.1) =r at hc⊢
  go_enter Try.func35,Try.ntmps35
  go_wp2_with (go_at_call 48;refine(hc _).mono ?_;rintro e w' ⟨rfl,rfl⟩)
  go_ret
  exact⟨rfl,0,_,by rw [alloc_eq_grow,alloc_eq_grow,grow_grow];rfl⟩
 ·have e:Wj p q=KN (p.2- q.2) :=if_neg h
  have hc:=Qv (p.2- q.2)
  rw [e]
  generalize KN (p.2- q.2) =r at hc⊢
  go_enter Try.func35,Try.ntmps35
  go_wp2_with (go_at_call 48;refine(hc _).mono ?_;rintro e w' ⟨rfl,rfl⟩)
  go_ret
  exact⟨rfl,0,_,by rw [alloc_eq_grow,alloc_eq_grow,grow_grow];rfl⟩
theorem ZD {l r vs:List Value} :∀ {off:Nat},off+vs.length≤l.length→qi (l++r) off vs=qi l off vs++r:=by
 induction vs generalizing l with
 | nil=>intro off _;rfl
 | cons v vs ih=>
  intro off h
  simp only [DT] at h
  rw [qi,qi,List.set_append_left _ _ Om]
  exact ih (by simp;omega)
end Go.Proofs.Ytpncbbcmoiiipaa
namespace Go.Proofs.Ytpncbbcmoiiipaa
open Go Go.RowKit
section
variable {P:Program} {n:Nat} {env:List (Nat×Value)} {w0:Bs} {Rs:List Res} {o:Oper} {Q:Exit→Act→World→Prop} {K:Act→World→Prop}
end
end Go.Proofs.Ytpncbbcmoiiipaa
