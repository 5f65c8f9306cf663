import Derived.Test.YtjbahemkhphndaaGreatNLegs
import Derived.Test.YtjbahemkhphndaaGreatNBounds
set_option linter.unusedVariables false
set_option linter.unusedSimpArgs false
namespace Go.Proofs.YtjbahemkhphndaaGreat
open Go Go.RowKit
variable{C:List (Nat×Value)}{K:Act->World->Prop}{P:Program}{Q:Exit->Act->World->Prop}{Rs:List Res}{T k n s:Nat}{X:Type}{args:Array Value}{f:FuncId}{listed:Array Bool}{o:Oper}{ops:Array Oper}{rest:List Oper}{rs:List jI}{v:Value}{w w1:World}{w0:Bs}{x:Option Addr×Nat}{xs:List Value}
theorem T7:(Tryz.prog.info? 101).map (λi=>(i.zero,i.size,i.bytes))=some (some (.agg #[.int .i64 0,.int .i64 0,.int .i64 0,.int .i64 0]),4,32):=by kernel_rfl
theorem CD{b:Nat}{x y z u:Value}{t:TypeId}(h:w.heap[b]? =some (.cells (Value.agg #[x,y,z,u]).cells t (0,0))):
  w.cell? ⟨b,0,none⟩=some x/\w.cell? ⟨b,1,none⟩=some y/\w.cell? ⟨b,2,none⟩=some z/\w.cell? ⟨b,3,none⟩=some u:=
 ⟨(cell_of_row w b 0 _ t (0,0) h).trans rfl,(cell_of_row w b 1 _ t (0,0) h).trans rfl,(cell_of_row w b 2 _ t (0,0) h).trans rfl,(cell_of_row w b 3 _ t (0,0) h).trans rfl⟩
theorem IB(w:World)(T s:Nat):(w.alloc (.cells #[] T)).ownsRow w.heap.size T s (.slice (some ⟨w.heap.size,0,none⟩) 0 0) 0 []:=
 ⟨by simp,.inr ⟨w.heap.size,0,#[],rfl,jlL _,heap_alloc_new w _,jlL _,by unfold maxLen;omega,by simp,by simp⟩⟩
set_option maxHeartbeats 2000000 in
set_option maxRecDepth 100000 in
theorem zE(b1 o1:Nat)(A:Option Addr)(n c:Nat)(xs:List (Int×Int))(w:World)(hcell:w.cell? ⟨b1,o1,none⟩=some (.slice A n c))(hb1:b1<w.heap.size)(h:Pts w A n xs)(hn:(n:Int)<=1048577):
  Calls Tryz.prog 55 #[.pointer (some ⟨b1,o1,none⟩)] w λe w'=>∃v,e=.returned v/\v≠ .slice none 0 0/\w'.ownsRow w.heap.size 101 4 v (Jh xs).length ((Jh xs).flatMap jW)/\Over w w':=by
 obtain⟨i0,hi,hz0,hz1,hz2⟩:=yP T7
 go_enter Tryz.func55,Tryz.ntmps55
 go_wp2
 go_loopw [3,5] (λs i wr=>∃k:Nat,k<=n/\i=.int .i64 k/\s≠ .slice none 0 0/\wr.ownsRow w.heap.size 101 4 s (qI xs k).length ((qI xs k).flatMap jW)/\Over w wr) (λ_ i _=>n-(intOf i).toNat)
 case atStart=>exact⟨0,jlN _,rfl,by simp,IB _ _ _,Over.alloc _ _⟩
 case round=>
  rename_i wr;have hl0:=h.1
  obtain⟨k,hk,rfl,hnn,hown,hO⟩:=hrel;by_cases hlt:k<n
  .have hl:=h.1;obtain⟨b,o,rfl,hbB,hc1,hc2⟩:=(h.over hO).at_ hlt;obtain⟨b',o',e,hbB',hc1',hc2'⟩:=(h.over hO).at_ (k:=nx xs k) (by have:=Hj (xs:=xs) k Om;omega);injection e with e
   injection e with e1 e2 _
   subst e1 e2;have hnx:((k:Int)+1).tmod (n:Int)=((nx xs k:Nat):Int):=by rw[Int.tmod_eq_emod_of_nonneg Om];exact Sf hl k
   have hnl:=Hj k (show 0<xs.length by omega);have hbx:wr.cell? ⟨b1,o1,none⟩=some (.slice (some ⟨b,o,none⟩) n c):=((Jy hO).1 _ _ hb1).trans hcell
   have hbz:b1<wr.heap.size:=jlU hb1 hO.size;rw[hl] at hnl;have hn0:¬n=0:=by omega
   have Hown:=Lib.hid hown;have Hnn:=Lib.hid hnn
   have HO:=Lib.hid hO;have hs:=Lib.hid (K7 xs k)
   generalize px xs k=x at hc1 hs;generalize py xs k=y at hc2 hs;generalize px xs (nx xs k)=x' at hc1' hs;generalize py xs (nx xs k)=y' at hc2' hs;clear h hl hown hO hnn;go_wp2;refine KB (B:=ob _) (Over.refl _) Kr (by simp only[jmJ,jlS,jl5,Nat.reduceAdd];rfl) (λhBW=>?_);refine i8 0 ?_;refine i8 1 ?_;refine i8 2 ?_;refine i8 3 ?_;refine i8 4 ?_;refine i8 5 ?_;refine i8 6 ?_;refine i8 7 ?_;refine i8 8 ?_;refine i8 9 ?_;refine i8 10 ?_;refine i8 11 ?_;refine i8 12 ?_;refine i8 13 ?_;refine i8 14 ?_;refine i8 15 ?_;refine i8 16 ?_;refine i8 17 ?_;refine MX (i:=18) (k:=19) (by assumption) (by simp only[qX,qY,Qb];rfl) (by simp only[qX,qY,Qb];rfl) (by rfl) (by rfl) (by rfl) (by rfl) (by rfl) (by rfl) (λ_=>by(go_simp;rfl)) Kr Kr (λ_=>by rfl) (λ_=>by rfl) Kr (by rfl) (by simp[Value.oneCell']) ?_;intro w2 q1 ho hq1 hl1 hh1 hBx;replace hBW:=hBx;clear hBx;simp only[Act.put,Qc,jL,jM];obtain⟨k1,k2,k3,k4⟩:=CD hh1;refine KA Kr (λw3 h3=>?_) _
   try clear hBW
   have H3:=Lib.hid (ho.trans h3);have l1:=((Jy h3).1 q1 0 hl1).trans k1
   have l2:=((Jy h3).1 q1 1 hl1).trans k2;have l3:=((Jy h3).1 q1 2 hl1).trans k3
   have l4:=((Jy h3).1 q1 3 hl1).trans k4;have hl3:q1<w3.heap.size:=jlU hl1 h3.size
   have hw3:=H3.out.size;clear k1 k2 k3 k4 ho h3 hh1;have key:(x=x'/\y=y')\/(¬x=x')\/(x=x'/\¬y=y'):=by omega
   rcases key with⟨rfl,rfl⟩|hne|⟨rfl,hne⟩
   .replace hs:Hid (qI xs (k+1)=qI xs k):=by have:=hs.out;rw[if_pos ⟨rfl,rfl⟩] at this;exact this
    go_wp2
    go_roundw
    case rel=>exact⟨k+1,by omega,by go_num,Hnn.out,by rw[hs.out];exact Y3 Hown.out H3.out,HO.out.trans H3.out⟩
    case measure=>simp[intOf];omega
   all_goals
    replace hs:=Lib.hid (hs.out.trans (if_neg Om));have hlen:=Ku xs k
    go_wp2_with (at_builtin;refine wpList_append_own _ rfl _ _ 73 rfl w.heap.size 101 i0 _ 4 32 Tryz.underlying73 hi hz0 hz1 hz2 rfl Dc _ _ _ rfl ((Y3 Hown.out H3.out).alloc _) ⟨w3.heap.size,0,none⟩ 1 1 (jW ⟨x,y,_,y'⟩) rfl rfl (IA rfl) (by simp[jW,Value.oneCell']) (by unfold maxLen;omega) Om (by have:=HO.out.size;have:=H3.out.size;simp at*;omega) ?_)
    intro v' w5 hown5 hgrow5 hnn5;have R0:Hid (v'≠ .slice none 0 0):=hnn5
    have R1:Hid (Over w w5):=zM HO.out Hown.out (jlL _) (Over.alloc_ H3.out _) hgrow5;have R2:Hid (w5.ownsRow w.heap.size 101 4 v' (qI xs (k+1)).length ((qI xs (k+1)).flatMap jW)):=by
     unfold Hid;rw[hs.out];simpa using hown5
    clear hown5 hgrow5 hnn5;go_wp2
    go_roundw
    case rel=>exact⟨k+1,by omega,by go_num,R0.out,R2.out,R1.out⟩
    case measure=>simp[intOf];omega
  .clear h;have hkn:k=n:=by omega
   have hb':=Lib.hid hO;have hr:Hid (u3≠ .slice none 0 0/\wr.ownsRow w.heap.size 101 4 u3 (Jh xs).length ((Jh xs).flatMap jW)):=by
    unfold Hid Jh;rw[hl0,<-hkn];exact⟨hnn,hown⟩
   clear hown hO hnn;go_wp2;go_ret;exact⟨_,rfl,hr.out.1,hr.out.2,hb'.out⟩
def qx(rs:List jI):Nat->List Leg
 |0=>[]
 |k+1=>qx rs k++Jh (rg rs k)
theorem Bt(xs:jI):(Jh xs).length<=xs.length:=Ku xs _
theorem YA(rs:List jI):∀k,(qx rs k).length<=uk rs k
 |0=>by simp[qx]
 |k+1=>by
  have:=YA rs k;have:=Bt (rg rs k)
  simp only[qx,uk,jlJ];omega
def jH(rs:List jI):List Leg:=qx rs rs.length
theorem Dv{B:Nat}(h:w.ownsRow B T s v n xs)(hv:v≠ .slice none 0 0):
  ∃g cap,v=.slice (some ⟨g,0,none⟩) n cap/\xs.length=n*s/\∀j u,xs[j]? =some u->w.cell? ((⟨g,0,none⟩:Addr).add j)=some u:=by
 rcases h.2 with⟨e,_⟩|⟨g,cap,cur,e,hb,hg,hcap,_⟩
 .exact absurd e hv
 .exact⟨g,cap,e,h.1,λj u hj=>h.cells (by rw[e];rfl) j u hj⟩
theorem BP:∀ls:List Leg,∀u∈ls.flatMap jW,u.oneCell'=true:=by
 intro ls u hu;obtain⟨l,_,hl⟩:=jm8.1 hu;simp[jW] at hl;rcases hl with rfl|rfl|rfl|rfl<;>rfl
set_option maxHeartbeats 2000000 in
set_option maxRecDepth 100000 in
theorem X4(b1 o1:Nat)(A:Option Addr)(n c:Nat)(rs:List jI)(w:World)(hcell:w.cell? ⟨b1,o1,none⟩=some (.slice A n c))(hb1:b1<w.heap.size)(h:Rings w A n rs)(ht:(total rs:Int)<=1048577):
  Calls Tryz.prog 31 #[.pointer (some ⟨b1,o1,none⟩)] w λe w'=>∃v,e=.returned v/\v≠ .slice none 0 0/\w'.ownsRow w.heap.size 101 4 v (jH rs).length ((jH rs).flatMap jW)/\Over w w':=by
 obtain⟨i0,hi,hz0,hz1,hz2⟩:=yP T7;have hl0:=Lib.hid h.1
 have Ht:=Lib.hid ht;have hn:(n:Int)<=1048577:=by have:=hl0.out;unfold total at ht;omega
 clear ht
 go_enter Tryz.func31,Tryz.ntmps31
 go_wp2
 go_loopw [3,4] (λs i wr=>∃k:Nat,k<=n/\i=.int .i64 k/\s≠ .slice none 0 0/\wr.ownsRow w.heap.size 101 4 s (qx rs k).length ((qx rs k).flatMap jW)/\Over w wr) (λ_ i _=>n-(intOf i).toNat)
 case atStart=>exact⟨0,jlN _,rfl,by simp,IB _ _ _,Over.alloc _ _⟩
 case round=>
  rename_i wr;obtain⟨k,hk,rfl,hnn,hown,hO⟩:=hrel;have hbx:wr.cell? ⟨b1,o1,none⟩=some (.slice A n c):=((Jy hO).1 _ _ hb1).trans hcell
  have hbz:b1<wr.heap.size:=jlU hb1 hO.size;by_cases hlt:k<n
  .obtain⟨b,o,Ak,ck,rfl,hbB,hcell2,hpts,hmax⟩:=(h.over hO).at_ hlt;have hr:((rg rs k).length:Int)<=1048577:=by have:=Ht.out;have:=WN rs (k:=k) (by rw[hl0.out];exact hlt);omega
   have hs:Hid (qx rs (k+1)=qx rs k++Jh (rg rs k)):=rfl;have hsum:(qx rs k).length+(Jh (rg rs k)).length<=1048577:=by
    have h1:=YA rs (k+1);have h2:=zZ rs (show k+1<=n by omega)
    have h3:=Ht.out;have h4:=hl0.out
    unfold total at h3;rw[h4] at h3;simp only[qx,jlJ] at h1;omega
   have Hown:=Lib.hid hown;have Hnn:=Lib.hid hnn
   have HO:=Lib.hid hO;clear h hown hO hnn hmax
   go_wp2_with fail
   refine(zE _ _ Ak _ ck (rg rs k) _ hcell2 hbB hpts hr).mono ?_;rintro e w2 ⟨v,rfl,hv,hrow,h2⟩;obtain⟨g2,cap2,rfl,hlen2,hcells2⟩:=Dv hrow hv;have H2:=Lib.hid h2
   clear hrow hv h2 hpts
   go_wp2_with (at_builtin;refine wpList_append_own _ rfl _ _ 73 rfl w.heap.size 101 i0 _ 4 32 Tryz.underlying73 hi hz0 hz1 hz2 rfl Dc _ _ _ rfl (Y3 Hown.out H2.out) ⟨g2,0,none⟩ (Jh (rg rs k)).length cap2 ((Jh (rg rs k)).flatMap jW) rfl hlen2 hcells2 (BP _) (by unfold maxLen;omega) Om (by have:=HO.out.size;have:=H2.out.size;omega) ?_)
   intro v' w5 hown5 hgrow5 hnn5;have R0:Hid (v'≠ .slice none 0 0):=λe=>Hnn.out (hnn5.1 e).1
   have R1:Hid (Over w w5):=zM HO.out Hown.out (jlL _) H2.out hgrow5;have R2:Hid (w5.ownsRow w.heap.size 101 4 v' (qx rs (k+1)).length ((qx rs (k+1)).flatMap jW)):=by
    unfold Hid;rw[hs.out];simpa using hown5
   clear hown5 hgrow5 hnn5 hcells2;go_wp2
   go_roundw
   case rel=>exact⟨k+1,by omega,by go_num,R0.out,R2.out,R1.out⟩
   case measure=>simp[intOf];omega
  .clear h;have hkn:k=n:=by omega
   have hb':=Lib.hid hO;have hr:Hid (u3≠ .slice none 0 0/\wr.ownsRow w.heap.size 101 4 u3 (jH rs).length ((jH rs).flatMap jW)):=by
    unfold Hid jH;rw[hl0.out,<-hkn];exact⟨hnn,hown⟩
   clear hown hO hnn;go_wp2;go_ret;exact⟨_,rfl,hr.out.1,hr.out.2,hb'.out⟩
def JG(rs:List jI):Bool:=decide (rs.length<=40) &&rs.all qM&&decide ((jH rs).length<=400)
theorem UY(h:¬rs.length<=40):JG rs=false:=by simp[JG,h]
theorem Yb(hk:k<rs.length)(h:qM (rg rs k)=false):JG rs=false:=by
 have:rs.all qM=false:=List.all_eq_false.2 ⟨rs[k],jlY hk,by rw[wb hk,h];simp⟩;simp[JG,this]
theorem Ua(h:rs.length<=40)(ha:rs.all qM=true):JG rs=decide ((jH rs).length<=400):=by simp[JG,h,ha]
theorem HW(hk:k<rs.length)(h:(rs.take k).all qM=true)(h2:qM (rg rs k)=true):(rs.take (k+1)).all qM=true:=by
 rw[jlX hk,List.all_append,h,wb hk];simp[h2]
set_option maxHeartbeats 1000000 in
set_option maxRecDepth 100000 in
theorem jch(b1 o1:Nat)(A:Option Addr)(n c:Nat)(rs:List jI)(w:World)(hcell:w.cell? ⟨b1,o1,none⟩=some (.slice A n c))(hb1:b1<w.heap.size)(h:Rings w A n rs)(ht:(total rs:Int)<=1048577):
  Calls Tryz.prog 19 #[.pointer (some ⟨b1,o1,none⟩)] w λe w'=>e=.returned (.bool (JG rs))/\Over w w':=by
 have hl:=Lib.hid h.1;have Ht:=Lib.hid ht
 have hn:(n:Int)<=1048577:=by have:=hl.out;unfold total at ht;omega
 clear ht;by_cases h40:(n:Int)<=40
 .go_enter Tryz.func19,Tryz.ntmps19
  go_wp2
  go_loopw [3] (λi wr=>∃k:Nat,k<=n/\i=.int .i64 k/\Over w wr/\Hid ((rs.take k).all qM=true)) (λi _=>n-(intOf i).toNat)
  case atStart=>exact⟨0,jlN _,rfl,Over.refl _,by simp[Hid]⟩
  case round=>
   rename_i wr;obtain⟨k,hk,rfl,hO,hall⟩:=hrel;have hbx:wr.cell? ⟨b1,o1,none⟩=some (.slice A n c):=((Jy hO).1 _ _ hb1).trans hcell
   have hbz:b1<wr.heap.size:=jlU hb1 hO.size;by_cases hlt:k<n
   .obtain⟨b,o,Ak,ck,rfl,hbB,hcell2,hpts,hmax⟩:=(h.over hO).at_ hlt;have hr:((rg rs k).length:Int)<=1048577:=by have:=Ht.out;have:=WN rs (k:=k) (by rw[hl.out];exact hlt);omega
    have HO:=Lib.hid hO;clear h hO hmax;cases hv:qM (rg rs k)
    .have hq:=Lib.hid (Yb (by rw[hl.out];exact hlt) hv)
     go_wp2_with fail
     refine(yS _ _ Ak _ ck (rg rs k) _ hcell2 hpts hr).mono ?_;rw[hv];rintro e w2 ⟨rfl,h2⟩;go_wp2;go_ret;exact⟨by rw[hq.out];rfl,HO.out.trans h2⟩
    .have hs:=Lib.hid (HW (by rw[hl.out];exact hlt) hall.out hv);clear hall
     go_wp2_with fail
     refine(yS _ _ Ak _ ck (rg rs k) _ hcell2 hpts hr).mono ?_;rw[hv];rintro e w2 ⟨rfl,h2⟩;go_wp2
     go_roundw
     case rel=>exact⟨k+1,by omega,by go_num,HO.out.trans h2,hs⟩
     case measure=>simp[intOf];omega
   .have hkn:k=n:=by omega
    have ha:rs.all qM=true:=by have:=hall.out;rwa [jme (by rw[hl.out];omega)] at this
    have hq:=Lib.hid (Ua (by rw[hl.out];omega) ha);clear ha hall
    go_wp2_with fail
    refine(X4 _ _ A n c rs _ hbx hbz (h.over hO) Ht.out).mono ?_;rintro e w2 ⟨v,rfl,hv,hrow,h2⟩;obtain⟨g2,cap2,rfl,-,-⟩:=Dv hrow hv;clear hrow hv;go_wp2;go_ret;exact⟨by rw[hq.out];simp;omega,hO.trans h2⟩
 .have hq:=Lib.hid (UY (rs:=rs) (by rw[hl.out];omega));clear h
  go_enter Tryz.func19,Tryz.ntmps19
  go_wp2;go_ret;exact⟨by rw[hq.out];rfl,ov9⟩
set_option maxHeartbeats 1000000 in
set_option maxRecDepth 100000 in
theorem M1(A:Option Addr)(n c:Nat)(rs:List jI)(w:World)(h:Rings w A n rs)(ht:(total rs:Int)<=1048577):
  Calls Tryz.prog 13 #[qU A n c] w λe w'=>e=.returned (.bool (JG rs))/\Over w w':=by
 have hl:=Lib.hid h.1;have Ht:=Lib.hid ht
 have hn:(n:Int)<=1048577:=by have:=hl.out;unfold total at ht;omega
 clear ht;by_cases h40:(n:Int)<=40
 .go_enter Tryz.func13,Tryz.ntmps13
  go_wp2
  go_loopw [3,13] (λs i wr=>∃k:Nat,k<=n/\i=.int .i64 k/\s=.int .i64 (qx rs k).length/\Over w wr/\Hid ((rs.take k).all qM=true)) (λ_ i _=>n-(intOf i).toNat)
  case atStart=>exact⟨0,jlN _,rfl,rfl,Over.alloc _ _,by simp[Hid]⟩
  case round=>
   rename_i wr;obtain⟨k,hk,rfl,rfl,hO,hall⟩:=hrel;by_cases hlt:k<n
   .obtain⟨b,o,Ak,ck,rfl,hbB,hcell2,hpts,hmax⟩:=(h.over hO).at_ hlt;have hr:((rg rs k).length:Int)<=1048577:=by have:=Ht.out;have:=WN rs (k:=k) (by rw[hl.out];exact hlt);omega
    have hs2:Hid (qx rs (k+1)=qx rs k++Jh (rg rs k)):=rfl;have hsum:(qx rs k).length+(Jh (rg rs k)).length<=1048577:=by
     have h1:=YA rs (k+1);have h2:=zZ rs (show k+1<=n by omega)
     have h3:=Ht.out;have h4:=hl.out
     unfold total at h3;rw[h4] at h3;simp only[qx,jlJ] at h1;omega
    have HO:=Lib.hid hO;have HP:=Lib.hid hpts
    clear h hO hmax hpts;cases hv:qM (rg rs k)
    .have hq:=Lib.hid (Yb (by rw[hl.out];exact hlt) hv)
     go_wp2_with fail
     refine(Ug _ _ _ (rg rs k) _ (HP.out.over ov9) hr).mono ?_;rw[hv];rintro e w2 ⟨rfl,h2⟩;have HO2:=Lib.hid (HO.out.trans ((Over.alloc _ _).trans h2))
     go_wp2;go_ret;exact⟨by rw[hq.out];rfl,HO2.out⟩
    .have hs:=Lib.hid (HW (by rw[hl.out];exact hlt) hall.out hv);clear hall
     go_wp2_with fail
     refine(Ug _ _ _ (rg rs k) _ (HP.out.over ov9) hr).mono ?_;rw[hv];rintro e w2 ⟨rfl,h2⟩;obtain⟨hc,hf⟩:=Jy h2
     go_wp2_with fail
     refine(kw _ _ _ (rg rs k) _ (HP.out.over ((Over.alloc _ _).trans h2)) hr).mono ?_;rintro e w3 ⟨v,rfl,hrow,h3⟩;obtain⟨A2,c2,rfl,-,-⟩:=yT hrow rfl;have HO2:=Lib.hid (HO.out.trans ((Over.alloc _ _).trans (h2.trans h3)))
     clear hrow h2 h3 hc hf;go_wp2
     go_roundw
     case rel=>exact⟨k+1,by omega,by go_num,by rw[hs2.out,jlJ];go_num,HO2.out,hs⟩
     case measure=>simp[intOf];omega
   .have hkn:k=n:=by omega
    have ha:rs.all qM=true:=by have:=hall.out;rwa [jme (by rw[hl.out];omega)] at this
    have hq:=Lib.hid (Ua (by rw[hl.out];omega) ha);have he:Hid (qx rs n=jH rs):=by unfold Hid jH;rw[hl.out]
    clear ha hall h;go_wp2;go_ret;exact⟨by rw[hq.out];simp;rw[he.out];omega,hO⟩
 .have hq:=Lib.hid (UY (rs:=rs) (by rw[hl.out];omega));clear h
  go_enter Tryz.func13,Tryz.ntmps13
  go_wp2;go_ret;exact⟨by rw[hq.out];rfl,ov9⟩
theorem La(w:World){a:Act}(hgd:o.guard=none)(s x:Operand)(t:TypeId)(ho:o.op=.call {callee:=.builtin .append,args:=#[s,x],argTypes:=#[t,t]})(base:Nat)(e:TypeId)(i:TypeInfo)(z:Value)(size bytes:Nat)(ht:P.underlying t=some (.slice e))(hi:P.info? e=some i)(hz:i.zero=some z)(hsize:i.size=size)(hby:i.bytes=bytes)(hzs:z.cells.size=size)(hsz:0<size)(v:Value)(n:Nat)(xs:List Value)(hs:a.eval s=v)(hown:w.ownsRow base e size v n xs)(B2:Nat)(v2:Value)(m:Nat)(news:List Value)(hx:a.eval x=v2)(hrow:w.ownsRow B2 e size v2 m news)(h1:∀u∈news,u.oneCell'=true)(h63:n+m<=maxLen)(hbytes:(n+m)*bytes<=140737488355328)(hbase:base<=w.heap.size)(h:∀v' w',w'.ownsRow base e size v' (n+m) (xs++news)->w.grownBy w' v.ownBlock->wpList P ops Q rest (a.put o.dst v') w'):wpList P ops Q (o::rest) a w:=by
 by_cases hv:v2=.slice none 0 0
 .subst hv;have hm:m=0:=by
   rcases hrow.2 with⟨_,hm⟩|⟨g,cap,cur,e,_⟩
   .exact hm
   .cases e
  subst hm;have hnews:news=[]:=jmh (by simpa using hrow.1)
  subst hnews;refine wpList_plain hgd λK hK'=>?_
  have hrun:=run_append_owned_none (P:=P) w base t o.type e i size ht hi v n xs hown;unfold Oper.wp;simp[execOp,ho,resolve,invoke,builtin,hs,hx,hrun,Result.andThen];exact hK' _ _ (by simpa using h v w (by simpa using hown) (World.grownBy.refl _ _))
 .obtain⟨g,cap,rfl,hl,hc⟩:=Dv hrow hv;exact wpList_append_own w hgd s x t ho base e i z size bytes ht hi hz hsize hby hzs hsz v n xs hs hown ⟨g,0,none⟩ m cap news hx hl hc h1 h63 hbytes hbase (λv' w' h2 h3 _=>h v' w' h2 h3)
set_option maxHeartbeats 2000000 in
set_option maxRecDepth 100000 in
theorem wj(A:Option Addr)(n c:Nat)(rs:List jI)(w:World)(h:Rings w A n rs)(ht:(total rs:Int)<=1048577):
  Calls Tryz.prog 94 #[qU A n c] w λe w'=>∃v,e=.returned v/\w'.ownsRow w.heap.size 72 4 v (jH rs).length ((jH rs).flatMap jW)/\Over w w':=by
 obtain⟨i0,hi,hz0,hz1,hz2⟩:=yP jap;have hl0:=Lib.hid h.1
 have Ht:=Lib.hid ht;have hn:(n:Int)<=1048577:=by have:=hl0.out;unfold total at ht;omega
 clear ht
 go_enter Tryz.func94,Tryz.ntmps94
 go_wp2
 go_loopw [3,9] (λs i wr=>∃k:Nat,k<=n/\i=.int .i64 k/\wr.ownsRow w.heap.size 72 4 s (qx rs k).length ((qx rs k).flatMap jW)/\Over w wr) (λ_ i _=>n-(intOf i).toNat)
 case atStart=>exact⟨0,jlN _,rfl,World.ownsRow_nil _ _ _ _,Over.alloc _ _⟩
 case round=>
  rename_i wr;obtain⟨k,hk,rfl,hown,hO⟩:=hrel;by_cases hlt:k<n
  .obtain⟨b,o,Ak,ck,rfl,hbB,hcell2,hpts,hmax⟩:=(h.over hO).at_ hlt;have hr:((rg rs k).length:Int)<=1048577:=by have:=Ht.out;have:=WN rs (k:=k) (by rw[hl0.out];exact hlt);omega
   have hs:Hid (qx rs (k+1)=qx rs k++Jh (rg rs k)):=rfl;have hsum:(qx rs k).length+(Jh (rg rs k)).length<=1048577:=by
    have h1:=YA rs (k+1);have h2:=zZ rs (show k+1<=n by omega)
    have h3:=Ht.out;have h4:=hl0.out
    unfold total at h3;rw[h4] at h3;simp only[qx,jlJ] at h1;omega
   have Hown:=Lib.hid hown;have HO:=Lib.hid hO
   have HP:=Lib.hid hpts;clear h hown hO hmax hpts
   go_wp2_with fail
   refine(kw _ _ _ (rg rs k) _ (HP.out.over ov9) hr).mono ?_;rintro e w2 ⟨v,rfl,hrow,h2⟩;have H2:=Lib.hid ((Over.alloc wr (.cells #[.slice Ak (rg rs k).length ck] 41)).trans h2)
   have Hrow:=Lib.hid hrow;clear hrow h2
   go_wp2_with (at_builtin;refine La _ rfl _ _ 52 rfl w.heap.size 72 i0 _ 4 32 Tryz.underlying52 hi hz0 hz1 hz2 rfl Dc _ _ _ rfl (Y3 Hown.out H2.out) _ _ _ _ rfl Hrow.out (BP _) (by unfold maxLen;omega) Om (by have:=HO.out.size;have:=H2.out.size;omega) ?_)
   intro v' w5 hown5 hgrow5;have R1:Hid (Over w w5):=zM HO.out Hown.out (jlL _) H2.out hgrow5
   have R2:Hid (w5.ownsRow w.heap.size 72 4 v' (qx rs (k+1)).length ((qx rs (k+1)).flatMap jW)):=by
    unfold Hid;rw[hs.out];simpa using hown5
   clear hown5 hgrow5;go_wp2
   go_roundw
   case rel=>exact⟨k+1,by omega,by go_num,R2.out,R1.out⟩
   case measure=>simp[intOf];omega
  .clear h;have hkn:k=n:=by omega
   have hb':=Lib.hid hO;have hr:Hid (wr.ownsRow w.heap.size 72 4 u3 (jH rs).length ((jH rs).flatMap jW)):=by
    unfold Hid jH;rw[hl0.out,<-hkn];exact hown
   clear hown hO;go_wp2;go_ret;exact⟨_,rfl,hr.out,hb'.out⟩
theorem Ub{B:Nat}(h:w.ownsRow B T s v n xs):∃x:Option Addr×Nat,v=.slice x.1 n x.2:=by
 rcases h.2 with⟨rfl,rfl⟩|⟨g,cap,cur,rfl,_⟩
 .exact⟨(none,0),rfl⟩
 .exact⟨(some ⟨g,0,none⟩,cap),rfl⟩
abbrev JV(B T s n:Nat)(xs:List Value)(x:Option Addr×Nat):Res:=.row B T s (.slice x.1 n x.2) n xs
theorem newRow{X:Value->Prop}(h:Calls P f args w1 λe w'=>∃v,e=.returned v/\X v/\w'.ownsRow w1.heap.size T s v n xs/\Over w1 w'):
  Calls P f args w1 λe w'=>∃x:Option Addr×Nat,e=.returned (.slice x.1 n x.2)/\Over w1 w'/\(JV 0 T s n xs x).P w'/\(∀b,(JV 0 T s n xs x).F b->w1.heap.size<=b)/\(JV 0 T s n xs x).B=0/\X (.slice x.1 n x.2):=by
 refine h.mono ?_;rintro e w' ⟨v,rfl,hX,hr,hO⟩;obtain⟨x,rfl⟩:=Ub hr;exact⟨x,rfl,hO,wI hr (jlN _),λb hb=>(hr.lt b hb).1,rfl,hX⟩
theorem q6(h:Calls P f args w1 λe w'=>∃v,e=.returned v/\w'.ownsRow w1.heap.size T s v n xs/\Over w1 w'):
  Calls P f args w1 λe w'=>∃x:Option Addr×Nat,e=.returned (.slice x.1 n x.2)/\Over w1 w'/\(JV 0 T s n xs x).P w'/\(∀b,(JV 0 T s n xs x).F b->w1.heap.size<=b)/\(JV 0 T s n xs x).B=0/\True:=
 newRow (X:=λ_=>True) (h.mono λe w' ⟨v,h1,h2,h3⟩=>⟨v,h1,trivial,h2,h3⟩)
section
variable{w:World}{w0:Bs}{Rs:List Res}
theorem vL{ls:List Leg}(hk:Rs[k]? =some (JV 0 T 4 n (ls.flatMap jW) x))(hn:ls.length=n)(w:World)(hs:St w0 Rs w):Legs w x.1 n ls:=by
 obtain⟨A,c,e,hl,_⟩:=yT (hs.all k _ hk).1 hn;injection e with e1 e2 e3
 exact e1▸hl
end
theorem kg(h:JG rs=true)(hk:k<rs.length):qM (rg rs k)=true:=by
 simp[JG] at h;have:=h.1.2 rs[k] (jlY hk)
 rwa [wb hk] at this
theorem ja1{rs:List jI}(h:JG rs=true):∀k,k<=rs.length->∀l∈qx rs k,qK l
 |0,_,l,hl=>by simp[qx] at hl
 |k+1,hk,l,hl=>by
  simp only[qx,jl0] at hl;rcases hl with h1|h1
  .exact ja1 h k Om l h1
  .exact uL (kM (kg h (show k<rs.length by omega))).2.2 _ (jlL _) l h1
theorem PF(h:JG rs=true):∀l∈jH rs,qK l:=ja1 h _ (jlL _)
section
variable{P:Program}{n:Nat}{env:List (Nat×Value)}{w0:Bs}{Rs:List Res}{ops:Array Oper}{Q:Exit->Act->World->Prop}{o:Oper}{fuel:Nat}{listed:Array Bool}
end
theorem W0{env:List (Nat×Value)}(k s:Nat)(hX:w0.X=[]){b U:Nat}(hk:Rs[k]? =some (.cel b U []))(h:At n env w0 (Rs.set k (.row w0.N U s (.slice (some ⟨b,0,none⟩) 0 0) 0 [])) K):At n env w0 Rs K:=jgO (m:=0) k hX hk h
theorem JQ{env:List (Nat×Value)}{x y:Operand}{U bytes B0 m d nn:Nat}{z v2:Value}{news:List Value}(ho:o.op=.call {callee:=.builtin .append,args:=#[x,y],argTypes:=#[T,T]})(hT:TyL P T U s)(hZ:TyZ P U s bytes z)(hs0:0<s)(hd:o.dst=some d)(hn:d<n)(hx:ev env x=some v)(hy:ev env y=some v2)(hk:Rs[k]? =some (.row B0 U s v nn xs))(hsrc:∀w,St w0 Rs w->Src s v2 m news w)(h1:∀u∈news,u.oneCell'=true)(h63:nn+m<=maxLen)(hbytes:(nn+m)*bytes<=140737488355328)(hB:B0<=w0.N)(h:∀r:Option Addr×Nat,At n ((d,.slice r.1 (nn+m) r.2)::env) w0 (Rs.set k (.row B0 U s (.slice r.1 (nn+m) r.2) (nn+m) (xs++news))) K):At n env w0 Rs (λa w=>o.wp P a w K Q):=
 C9 ho hT hZ hs0 hd hn hx hy hk hsrc h1 h63 hbytes hB λv'=>kW (X:=∃r:Option Addr×Nat,v'=.slice r.1 (nn+m) r.2) (λw hs=>by
  have hkl:k<Rs.length:=(List.getElem?_eq_some_iff.1 hk).1;exact Ub (hs.all k _ (by rw[List.getElem?_set,if_pos rfl,if_pos hkl])).1) (by rintro⟨r,rfl⟩;exact h r)
section
variable{P:Program}{n:Nat}{env:List (Nat×Value)}{w0:Bs}{Rs:List Res}{ops:Array Oper}{Q:Exit->Act->World->Prop}{K:Act->World->Prop}
theorem WZ{x y:Code}(H:X->Prop)(E:X->List (Nat×Value))(hC:sub env C)(Rs':X->List Res)(h1:∀L:Act->World->Prop,(∀x,H x->At n (E x++C) w0 (Rs' x) L)->At n env w0 Rs (λa w=>x.wp P (Exit.then L Q) a w))(h2:∀x,H x->At n (E x++C) w0 (Rs' x) (λa w=>y.wp P Q a w)):At n env w0 Rs (λa w=>(Code.seq x y).wp P Q a w):=je (h1 _ h2)
theorem Qd{H:X->Prop}{E:X->List (Nat×Value)}{Rs':X->List Res}(hL:∀x,H x->At n (E x++C) w0 (Rs' x) K)(x:X)(hx:H x)(he:sub env (E x++C))(hr:∀w,St w0 Rs w->St w0 (Rs' x) w):At n env w0 Rs K:=EN he hr (hL x hx)
theorem St.picks(l:List Nat)(h:St w0 Rs w)(hn:l.Nodup):St w0 (l.filterMap (Rs[·]?)) w:=by
 have key:∀(l:List Nat),l.Nodup->∃f:Nat->Nat,(∀i j,i<(l.filterMap (Rs[·]?)).length->j<(l.filterMap (Rs[·]?)).length->f i=f j->i=j)/\(∀i,i<(l.filterMap (Rs[·]?)).length->Rs[f i]? =(l.filterMap (Rs[·]?))[i]?)/\∀i,i<(l.filterMap (Rs[·]?)).length->f i∈l:=by
  intro l
  induction l with
  |nil=>exact λ_=>⟨id,λi j hi=>absurd hi (by simp),λi hi=>absurd hi (by simp),λi hi=>absurd hi (by simp)⟩
  |cons a l ih=>
   intro hn;obtain⟨hna,hnl⟩:=jmY.1 hn;obtain⟨f,h1,h2,h3⟩:=ih hnl;cases ha:Rs[a]? with
   |none=>
    have e:(a::l).filterMap (Rs[·]?)=l.filterMap (Rs[·]?):=by simp[List.filterMap_cons,ha]
    rw[e];exact⟨f,h1,h2,λi hi=>jlQ _ (h3 i hi)⟩
   |some r=>
    have e:(a::l).filterMap (Rs[·]?)=r::l.filterMap (Rs[·]?):=by simp[List.filterMap_cons,ha]
    rw[e];refine⟨λi=>match i with|0=>a|i+1=>f i,λi j hi hj hij=>?_,λi hi=>?_,λi hi=>?_⟩
    .match i,j with
     |0,0=>rfl
     |0,j+1=>have e:a=f j:=hij;exact absurd (e.symm▸h3 j (by simpa using hj)) hna
     |i+1,0=>have e:f i=a:=hij;exact absurd (e▸h3 i (by simpa using hi)) hna
     |i+1,j+1=>rw[h1 i j (by simpa using hi) (by simpa using hj) hij]
    .match i with
     |0=>simpa using ha
     |i+1=>simpa using h2 i (by simpa using hi)
    .match i with
     |0=>exact jl7
     |i+1=>exact jlQ _ (h3 i (by simpa using hi))
 obtain⟨f,h1,h2,_⟩:=key l hn;exact h.sel f h1 h2
theorem Bq{Rs0:List Res}{fuel f i j:Nat}{oi oj:Oper}(hi:ops[i]? =some oi)(hj:ops[j]? =some oj)(hfi:(i !=f)=true)(hfj:(j !=f)=true)(hr:Region.ready .any ops listed=[i,j])(hgi:oi.guard=none)(hgj:oj.guard=none)(h1:At n env w0 Rs (λa w=>oi.wp P a w (λa' w'=>St w0 Rs0 w'/\Qv P .any ops Q (yI w0 Rs0) f fuel (listed.setIfInBounds i true) a' w') Q))(h2:At n env w0 Rs (λa w=>oj.wp P a w (λa' w'=>St w0 Rs0 w'/\Qv P .any ops Q (yI w0 Rs0) f fuel (listed.setIfInBounds j true) a' w') Q)):At n env w0 Rs (λa w=>Qv P .any ops Q (yI w0 Rs0) f (fuel+1) listed a w):=by
 intro a W hf hs;refine⟨λh0=>(by rw[h0] at hr;cases hr),λk hk w hS=>?_⟩;rw[hr] at hk;simp only[jlP,jmi,or_false] at hk;rcases hk with rfl|rfl
 .refine⟨λ_=>?_,λe=>absurd e (by simpa using hfi)⟩;unfold Go.wpOp;have hw:Region.wanted oi (yielded ops a.tmps)=true:=by simp[Region.wanted,hgi]
  simp only[hi,hw,if_true];exact .inl (h1 a w hf (hs.over_ hS))
 .refine⟨λ_=>?_,λe=>absurd e (by simpa using hfj)⟩;unfold Go.wpOp;have hw:Region.wanted oj (yielded ops a.tmps)=true:=by simp[Region.wanted,hgj]
  simp only[hj,hw,if_true];exact .inl (h2 a w hf (hs.over_ hS))
end
end Go.Proofs.YtjbahemkhphndaaGreat
