import Derived.Test.YtjbahemkhphndaaGreatNOwn
import Derived.Test.YtjbahemkhphndaaGreatNFit
import Derived.Test.YtjbahemkhphndaaGreatNRev
import Derived.Test.YtjbahemkhphndaaGreatNPart
import Derived.Test.YtjbahemkhphndaaGreatNBounds
import Derived.Test.YtjbahemkhphndaaGreatNSect9
import Derived.Test.YtjbahemkhphndaaGreatNCmbS
set_option linter.unusedVariables false
set_option linter.unusedSimpArgs false
namespace Go.Proofs.YtjbahemkhphndaaGreat
open Go Go.RowKit
section
variable{ps:List Rp}{rs:List jI}{x:Option Addr×Nat}
set_option maxRecDepth 100000
set_option maxHeartbeats 4000000
section
variable{n:Nat}{env:List (Nat×Value)}{w0:Bs}{Rs:List Res}{K:Act->World->Prop}
end
theorem jhH{k j:Nat}(h:j<k):nI (uX rs k) j=Qh rs j rs.length:=by simp[nI,uX,List.getD,h]
abbrev PaR(rs:List jI)(e:Ending)(w w':World):Prop:=∃y:(Option Addr×Nat)×List Rp,e=.returned (.tuple #[.slice y.1.1 y.2.length y.1.2,.int .i64 (zg rs)])/\Over w w'/\(ppR y.1 y.2).P w'/\(∀b,(ppR y.1 y.2).F b->w.heap.size<=b)/\(ppR y.1 y.2).B=0/\y.2.map Rp.rs=paL rs
theorem jeU(w:World):(Res.many []).P w:=⟨λr h=>(by cases h),List.Pairwise.nil⟩
theorem jh0{w w':World}(h:¬zg rs=0)(ho:Over w w'):PaR rs (.returned (.tuple #[.slice none 0 0,.int .i64 (zg rs)])) w w':=by
 have e:paL rs=[]:=by rw[paL,if_neg h]
 refine⟨((none,0),[]),J,ho,?_,?_,J,e.symm⟩
 .exact It (Ek _ _ _ _) (jeU _) rfl rfl (λb hb=>by have h2:=zO.1 hb;simp[Sv] at h2)
 .intro b hb;obtain⟨r,hr,hb⟩:=hb;rcases jlP.1 hr with rfl|hr
  .have h2:=zO.1 hb;simp[Sv] at h2
  .rw[jlM.1 hr] at hb;obtain⟨s,hs,_⟩:=hb;cases hs
theorem jh1{w w':World}{Rs:List Res}(hs:St ⟨w,[]⟩ Rs w'){kr kp B:Nat}(hr:Rs[kr]? =some (JV B 25 1 ps.length (ps.map Rp.val) x))(hp:Rs[kp]? =some (.many (ps.map Rp.res)))(hne:kr≠kp)(h0:zg rs=0)(hm:ps.map Rp.rs=UA rs rs.length):
  PaR rs (.returned (.tuple #[.slice x.1 ps.length x.2,.int .i64 0])) w w':=by
 refine⟨(x,ps),by rw[h0],hs.fin,?_,?_,J,by rw[paL,if_pos h0];exact hm⟩
 .exact It (wI (hs.all kr _ hr).1 (jlN _)) (hs.all kp _ hp).1 rfl rfl (λb h1=>hs.apart kr kp _ _ hne hr hp b h1)
 .intro b hb;obtain⟨r,hr2,hb⟩:=hb;rcases jlP.1 hr2 with rfl|hr2
  .exact((hs.all kr _ hr).2.1 b hb).elim id (λh=>by cases h)
  .rw[jlM.1 hr2] at hb;exact((hs.all kp _ hp).2.1 b hb).elim id (λh=>by cases h)
theorem jin(ps:List Rp)(A:Option Addr)(c:Nat)(l:List Pc):Res.many (ps.map Rp.res++[Res.many [JV 0 41 1 l.length (l.map Pc.val) (A,c),KD l]])=.many ((ps++[Rp.mk A c l]).map Rp.res):=by rw[jma];rfl
theorem Tm(A:Option Addr)(n c:Nat)(rs:List jI)(w:World)(h:Rings w A n rs)(ht:(total rs:Int)<=1048577):
  Calls Tryz.prog 6 #[qU A n c] w λe w'=>PaR rs e w w':=by
 have hl:=h.1;refine Jm (m:=74) (Tryz.func6) J J (lb J) ?_;refine S3 ?_;refine aX (λb1=>?_);refine N7 ?_;refine J4 yW (X:=Option Addr×Nat) (v:=λx=>.tuple #[.slice x.1 (Fz rs).length x.2,.int .i64 (zg rs)]) (r:=λx=>Z7 (Fz rs) x) (H:=λ_=>True) J J J (lb J) (λw1 hs=>Xr A n c rs w1 (h.over hs.fin) ht) ?_;rintro⟨gA,gc⟩-;refine N12 ?_;refine cZ (λc1=>?_) (λc1=>?_)
 .refine S8 ?_;refine qG J (.tmp J) (.tmp J) ?_;intro w' hs;exact jh0 c1 hs.fin
 .have h0:zg rs=0:=c1;obtain⟨hr,hcl⟩:=jdu h0;obtain⟨_,e2⟩:=Re hr hcl;have hn40:=V0 hr
  have hng:(Fz rs).length=n:=(by rw[e2,Dm,hl]);refine S5 ?_;refine QO (T:=25) (s:=1) ?_;refine n9 ?_;refine KY ?_;refine N10 ?_;refine JW (X:=Nat×(Option Addr×Nat)×List Rp) (λx=>x.1<=n/\x.2.2.map Rp.rs=UA rs x.1) (λx=>n-x.1) (λx=>[(6,.slice x.2.1.1 x.2.2.length x.2.1.2),(23,.int .i64 (x.1:Int))]) (kK [1,2,3,4,21,22]) (λx=>[.cel b1 25 [.slice A n c],Z7 (Fz rs) (gA,gc),JV (Bs.N ⟨w,[]⟩) 25 1 x.2.2.length (x.2.2.map Rp.val) x.2.1,.many (x.2.2.map Rp.res)]) (0,(none,0),[]) (⟨jlN _,J⟩) ⟨J,sz⟩ (λ_ h=>h) ?_;intro⟨i,⟨rA,rc⟩,ps⟩ hx L hL1;refine v9 ?_;refine r9 ?_;have hi:i<=n:=hx.1
  have hmp:ps.map Rp.rs=UA rs i:=hx.2;refine S5 ?_;refine cZ (λc2=>?_) (λc2=>?_)
  .have hlt:i<n:=Om;obtain⟨eb,eo,Ai,ci,rfl,ibB,icell,ipts,imax⟩:=h.at_ hlt;have hri:qM (rg rs i)=true:=rgB hr hl hlt
   have hpos:=Qj hri;have hok:=Rz hri
   have h4:=OB hri;have hpsl:ps.length<=40:=(by have:=congrArg List.length hmp;rw[jlV] at this;have:=jfq rs i;omega)
   refine S8 ?_;refine a9 (jj J J Jz J (Wv icell ibB)) ?_;refine S1 ?_;refine aL (λb2=>?_);refine N9 ?_;refine J4 Ka (v:=λx=>.slice x.1 (Jh (rg rs i)).length x.2) (r:=λx=>JV 0 72 4 (Jh (rg rs i)).length ((Jh (rg rs i)).flatMap jW) x) (H:=λ_=>True) J J J (lb J) (λw1 hs=>q6 (kw Ai _ ci (rg rs i) w1 (ipts.over hs.fin) Om)) ?_;rintro⟨eA,ec⟩-;refine n9 ?_;refine a9 ((jT yY J J (λw1 hs=>Yj eA _ ec (Jh (rg rs i)) w1 (vL (k:=5) J J w1 hs) Om hok)).as (congrArg _ (UV (rg rs i) (rg rs i).length))) ?_;refine S2 ?_;refine cZ (λc3=>?_) (λc3=>?_)
   .refine S8 ?_;exact Jn hL1 ((i+1,(rA,rc),ps)) (⟨show i+1<=n by omega,by rw[OL c3];exact hmp⟩) (by simp only;omega) ⟨J,vi Om,sz⟩ (u9 J)
   .refine S7 ?_;refine J4 kz (v:=λx=>.slice x.1 _ x.2) (r:=λx=>JV 0 36 2 _ _ x) (H:=λ_=>True) J J J (lb J) (λw1 hs=>q6 (ZI Ai _ ci (rg rs i) w1 (ipts.over hs.fin) hpos.1 Om)) ?_;rintro⟨cA,cc⟩-;refine n9 ?_;refine a9 (JD J J (Qn J)) ?_;refine S1 ?_;refine j5 J J (qe J) J (lb J) (λb3=>?_);refine n9 ?_;refine a9 (JD J J (VY J)) ?_;refine S1 ?_;refine aL (λb4=>?_);refine N3 ?_;refine jgP 7 1 1 J J J (by unfold maxLen;omega) ?_;refine t9 ?_;refine YC 6 J J (λplo phi=>?_);refine t9 ?_;refine jdy 6 J J ?_;refine t9 ?_;refine S9 ?_;refine JW (X:=Nat×(Option Addr×Nat)×List Pc) (λy=>y.1<=n/\y.2.2.map (·.xs)=rg rs i::M8 rs i y.1) (λy=>n-y.1) (λy=>[(41,.int .i64 (y.1:Int))]) (kK [1,2,3,4,21,22,6,23,24,25,26,27,8,7,28,29,30,31,32,33,34,35,36,37,9,38,39,40]) (λy=>[.cel b1 25 [.slice (some ⟨eb,eo,none⟩) n c],Z7 (Fz rs) (gA,gc),JV (Bs.N ⟨w,[]⟩) 25 1 ps.length (ps.map Rp.val) (rA,rc),.many (ps.map Rp.res),.cel b2 41 [.slice Ai (rg rs i).length ci],JV 0 72 4 (Jh (rg rs i)).length ((Jh (rg rs i)).flatMap jW) (eA,ec),KD y.2.2,JV (Bs.N ⟨w,[]⟩) 41 1 y.2.2.length (y.2.2.map Pc.val) y.2.1,.cel b4 25 [.slice y.2.1.1 y.2.2.length y.2.1.2]]) (0,(some ⟨b3,0,none⟩,1),[⟨rg rs i,cA,cc,plo,phi⟩]) (⟨jlN _,J⟩) ⟨J,sz⟩ (λ_ h=>h) ?_;intro⟨j,⟨qA,qc⟩,l⟩ hy L hL2;refine v9 ?_;refine r9 ?_;have hj:j<=n:=hy.1
    have hml:l.map (·.xs)=rg rs i::M8 rs i j:=hy.2;have hll:l.length<=41:=(by have:=congrArg List.length hml;rw[jlV,jlS] at this;have:=jep rs i j;omega)
    refine S5 ?_;refine cZ (λc4=>?_) (λc4=>?_)
    .have hjl:j<n:=Om;obtain⟨fb,fo,Aj,cj,e0,jbB,jcell,jpts,jmax⟩:=h.at_ hjl;injection e0 with e0
     injection e0 with e1 e3 _
     subst e1 e3;have hrj:qM (rg rs j)=true:=rgB hr hl hjl
     have hposj:=Qj hrj;have hokj:=Rz hrj
     have h4j:=OB hrj;refine S8 ?_;refine a9 (jj J J Jz J (Wv jcell jbB)) ?_;refine S1 ?_;refine aL (λb5=>?_);refine N8 ?_;refine a9 (qS (j:=j) (λw hs=>(hs.all 1 _ J).1) J J J wK Om) ?_;refine a9 ((jn J J ju (rdG (i:=0) (m:=1) (f:=jeI) (λ_=>rfl) (λw hs=>(hs.all 1 _ J).1) (jfa (show j<(Fz rs).length by omega)) Om J)).as (congrArg _ (show nI (Fz rs) j=Qh rs j rs.length by rw[e2];exact jhH Om))) ?_;refine S3 ?_;refine cV 52 (λg1=>?_) (λg1=>?_)
     .refine S3 ?_;refine J4 Ka (v:=λx=>.slice x.1 (Jh (rg rs j)).length x.2) (r:=λx=>JV 0 72 4 (Jh (rg rs j)).length ((Jh (rg rs j)).flatMap jW) x) (H:=λ_=>True) J J J (lb J) (λw1 hs=>q6 (kw Aj _ cj (rg rs j) w1 (jpts.over hs.fin) Om)) ?_;rintro⟨fA,fc⟩-;refine N1 ?_;refine o9 ((jT yY J J (λw1 hs=>Yj fA _ fc (Jh (rg rs j)) w1 (vL (k:=10) J J w1 hs) Om hokj)).as (congrArg _ (UV (rg rs j) (rg rs j).length))) ?_;refine S4 ?_;refine cZ (λc5=>?_) (λc5=>?_)
      .refine S1 ?_;refine JY 7 ?_;refine dV 0 [1] ?_;refine dK 1 ?_;refine dV 2 [3,4] ?_;refine dV 3 [4] ?_;refine qg (i:=4) J Dc Kr J ?_;refine J4 kz (v:=λx=>.slice x.1 _ x.2) (r:=λx=>JV 0 36 2 _ _ x) (H:=λ_=>True) J J J (lb J) (λw1 hs=>q6 (ZI Aj _ cj (rg rs j) w1 (jpts.over hs.fin) hposj.1 Om)) ?_;rintro⟨dA,dc⟩-;refine n9 ?_;refine yL (u9 J) ?_;refine d9 5 J [6] (u9 J) (JD J J (Qn J)) ?_;refine qg (i:=6) J Dc Kr J ?_;refine j5 J J (qe J) J (lb J) (λb6=>?_);refine n9 ?_;refine JS (u9 J) ?_;refine vg J Kr J ?_;refine JQ (k:=7) J jC Jl Dc J Dc J J J (λw' hs=>qL hs (k:=12) J J) (by simp[Value.oneCell']) (by unfold maxLen;omega) Om (jlL _) (λr1=>?_);refine n9 ?_;refine Qy 10 [8] ?_;refine dK 8 ?_;refine qg (i:=9) J Dc Kr J ?_;refine S1 ?_;refine JS (uw [8] J) ?_;refine JK Kr ?_;refine YC 11 J J (λclo chi=>?_);refine t9 ?_;refine Ke 6 11 J J Dc J ?_;refine t9 ?_;refine S6 ?_;exact Jn hL2 ((j+1,r1,l++[⟨rg rs j,dA,dc,clo,chi⟩])) (⟨show j+1<=n by omega,by rw[jma,hml,jer g1 c5];rfl⟩) (by simp only;omega) ⟨vi Om,sz⟩ (λ_ h=>h.upto ⟨J,J,J,J,J,J,(ve _ _).symm,by rw[jma,jlJ];rfl,by rw[jlJ];rfl,trivial⟩)
      .refine S7 ?_;exact Jn hL2 ((j+1,(qA,qc),l)) (⟨show j+1<=n by omega,by rw[jeq λk=>by have:=k.2;unfold uy at this;omega];exact hml⟩) (by simp only;omega) ⟨vi Om,sz⟩ (u9 J)
     .refine S14 ?_;exact Jn hL2 ((j+1,(qA,qc),l)) (⟨show j+1<=n by omega,by rw[jeq λk=>g1 k.1];exact hml⟩) (by simp only;omega) ⟨vi Om,sz⟩ (u9 J)
    .have hjn:j=rs.length:=Om;subst hjn;refine S9 ?_;refine j5 J J (zo J) J (lb J) (λb7=>?_);refine N1 ?_;refine JQ (k:=2) J VG jp Dc J Dc J J J (λw' hs=>qL hs (k:=9) J J) (by simp[Value.oneCell']) (by unfold maxLen;omega) Om (jlL _) (λr2=>?_);refine N2 ?_;refine jbO 7 J ?_;refine t9 ?_;refine jdy 7 J J ?_;refine t9 ?_;refine Ke 7 6 J J Dc J ?_;refine t9 ?_;refine Ke 3 6 J J Dc J ?_;refine t9 ?_;refine S6 ?_;exact Jn hL1 ((i+1,r2,ps++[⟨qA,qc,l⟩])) (⟨show i+1<=n by omega,by rw[jma,hmp,Sk (by unfold uy;omega)];exact congrArg (λz=>UA rs i++[z]) hml⟩) (by simp only;omega) ⟨(by rw[jlJ];rfl),vi Om,sz⟩ (λ_ h=>h.upto ⟨J,J,by rw[jma,jlJ];rfl,(jin ..).symm,trivial⟩)
  .have hin:i=rs.length:=Om;subst hin;refine S12 ?_;refine qG J (.tmp J) (.tmp J) ?_;intro w' hs;exact jh1 (x:=(rA,rc)) hs (kr:=2) (kp:=3) rfl rfl Dc h0 hmp
theorem jkn{k:Nat}(h:k<ps.length):(ps.map Rp.rs)[k]? =some (rpN ps k).rs:=by rw[List.getElem?_map,SA h];rfl
section
variable{w:World}{Rs:List Res}
end
end
section
def rbV(xs:List (Int×Int)):Value:=
 if qM xs=true then .tuple #[Wh (X7 xs xs.length) (X8 xs xs.length),Wh (X0 xs xs.length) (X1 xs xs.length),.int .i64 0]
 else .tuple #[Wh 0 0,Wh 0 0,.int .i64 1]
set_option maxHeartbeats 1000000 in
set_option maxRecDepth 100000 in
theorem yy(A:Option Addr)(n c:Nat)(xs:List (Int×Int))(w:World)(h:Pts w A n xs)(hn:(n:Int)<=1048576):
  Calls Tryz.prog 8 #[XE A n c] w λe w'=>e=.returned (rbV xs)/\Over w w':=by
 have hl:=h.1;cases hb:qM xs
 .have hv:Hid (rbV xs=.tuple #[Wh 0 0,Wh 0 0,.int .i64 1]):=by simp[Hid,rbV,hb]
  clear hl
  go_enter Tryz.func8,Tryz.ntmps8
  go_wp2_with (go_at_call 21;refine(yS _ _ A n c xs _ (by go_simp) (h.over ov9) (jmN hn Dc)).mono ?_;rw[hb];rintro e wx ⟨rfl,hb⟩;(first|(replace hO:=Over.trans hO hb)|(replace hO:=Over.trans (Over.alloc_ hO _) hb)|(replace hO:=Over.trans (Over.alloc_ (Over.alloc_ hO _) _) hb)|(have hO:=hb));(try clear hc hf);obtain⟨hc,hf⟩:=Jy hO;(try clear hb);(try clear hz0 hz1 hz2);have hz0:w.heap.size<wx.heap.size:=jlU (by simp<;>omega) (Over.size hO);have hz1:w.heap.size+1<wx.heap.size:=jlU (by simp<;>omega) (Over.size hO);have hz2:w.heap.size+1+1<wx.heap.size:=jlU (by simp<;>omega) (Over.size hO))
  exact bodyPost_ret (v:=.tuple #[Wh 0 0,Wh 0 0,.int .i64 1]) (by simp[results,Tryz.results8,go_sem, *]) rfl ⟨by rw[hv.out],ov9⟩
 .have hv:Hid (rbV xs=.tuple #[Wh (X7 xs n) (X8 xs n),Wh (X0 xs n) (X1 xs n),.int .i64 0]):=by simp[Hid,rbV,hb,hl]
  have hp1:=(kM hb).1;rw[hl] at hp1;clear hl
  go_enter Tryz.func8,Tryz.ntmps8
  go_wp2_with (first|(go_at_call 21;refine(yS _ _ A n c xs _ (by go_simp) (h.over ov9) (jmN hn Dc)).mono ?_;rw[hb];rintro e wx ⟨rfl,hb⟩;(first|(replace hO:=Over.trans hO hb)|(replace hO:=Over.trans (Over.alloc_ hO _) hb)|(replace hO:=Over.trans (Over.alloc_ (Over.alloc_ hO _) _) hb)|(have hO:=hb));(try clear hc hf);obtain⟨hc,hf⟩:=Jy hO;(try clear hb);(try clear hz0 hz1 hz2);have hz0:w.heap.size<wx.heap.size:=jlU (by simp<;>omega) (Over.size hO);have hz1:w.heap.size+1<wx.heap.size:=jlU (by simp<;>omega) (Over.size hO);have hz2:w.heap.size+1+1<wx.heap.size:=jlU (by simp<;>omega) (Over.size hO))|(go_at_call 22;refine(Z9 _ _ _ xs _ (h.over ov9) hn hp1).mono ?_;rintro e wx ⟨rfl,hb⟩;(first|(replace hO:=Over.trans hO hb)|(replace hO:=Over.trans (Over.alloc_ hO _) hb)|(replace hO:=Over.trans (Over.alloc_ (Over.alloc_ hO _) _) hb)|(have hO:=hb));(try clear hc hf);obtain⟨hc,hf⟩:=Jy hO;(try clear hb);(try clear hz0 hz1 hz2);have hz0:w.heap.size<wx.heap.size:=jlU (by simp<;>omega) (Over.size hO);have hz1:w.heap.size+1<wx.heap.size:=jlU (by simp<;>omega) (Over.size hO);have hz2:w.heap.size+1+1<wx.heap.size:=jlU (by simp<;>omega) (Over.size hO)))
  go_region
  go_wp2;exact bodyPost_ret (v:=.tuple #[Wh (X7 xs n) (X8 xs n),Wh (X0 xs n) (X1 xs n),.int .i64 0]) (by simp[results,Tryz.results8,go_sem, *]) rfl ⟨by rw[hv.out],ov9⟩
end
section
variable{S:List (List jI)}{w:World}{x:Option Addr×Nat}
set_option maxRecDepth 100000
set_option maxHeartbeats 4000000
abbrev CX:={T:List jI//JG T=true/\P9 T=true}×(Option Addr×Nat)×Nat×Nat
abbrev Cj(x:CX):Res:=K4 x.1.1.length x.1.1 x.2.2.1 x.2.2.2 x.2.1.1
theorem jhq{l:List Int}(h:(Z7 l x).P w)(h0:0<l.length):∃g,x.1=some ⟨g,0,none⟩/\g<w.heap.size/\∀k,k<l.length->w.cell? ⟨g,k,none⟩=some (.int .i64 (nI l k)):=by
 have hc:∀k,k<l.length->w.cell? ⟨VK x.1,k,none⟩=some (.int .i64 (nI l k)):=λk hk=>by
  refine yw h ?_;have e:YM l=l.map (Value.int .i64):=by
   show l.flatMap jeI=_;clear h h0 hk
   induction l with
   |nil=>rfl
   |cons a l ih=>rw[jl4,ih];rfl
  rw[e,List.getElem?_map,jfa hk];rfl
 refine⟨VK x.1,OU h h0,?_,hc⟩;have h':w.ownsRow 0 2 1 (.slice x.1 l.length x.2) l.length (YM l):=h
 rcases h'.2 with⟨e0,_⟩|⟨g,cap,cur,e,hb,hg,_⟩
 .omega
 .injection e with e1
  rw[e1];exact J3 hg
theorem jkh{ps:List Rp}(h:(ppR x ps).P w)(h0:0<ps.length):∃g,x.1=some ⟨g,0,none⟩/\g<w.heap.size/\∀k,k<ps.length->w.cell? ⟨g,0+k,none⟩=some (.slice (rpN ps k).A (rpN ps k).l.length (rpN ps k).c):=by
 have hr:=jkg h;have hc:∀k,k<ps.length->w.cell? ⟨VK x.1,0+k,none⟩=some (rpN ps k).val:=λk hk=>by
  rw[jmd];refine yw hr ?_;rw[List.getElem?_map,SA hk];rfl
 refine⟨VK x.1,OU hr h0,?_,hc⟩;have h':w.ownsRow 0 25 1 (.slice x.1 ps.length x.2) ps.length (ps.map Rp.val):=hr
 rcases h'.2 with⟨e0,_⟩|⟨g,cap,cur,e,hb,hg,_⟩
 .omega
 .injection e with e1
  rw[e1];exact J3 hg
theorem jh2{T:List jI}{k:Nat}(h:k<T.length):nI (uX T T.length) k=Qh T k T.length:=by
 unfold nI uX;simp[List.getD,h]
theorem jgi{m:Nat}{s:List jI}(h:S[m]? =some s):sm GB (S.take (m+1))=sm GB (S.take m)+GB s:=by
 rw[List.take_add_one,h,Qz];simp[sm]
theorem PT(hp:∀s∈S,0<GB s)(m:Nat):0<=sm GB (S.take m)/\sm GB (S.take m)<=sm GB S:=by
 refine⟨L5 λs hs=>jmw (hp s (jmp hs)),?_⟩;have e:sm GB S=sm GB (S.take m)+sm GB (S.drop m):=by rw[<-Qz,jl1]
 have:=L5 (l:=S.drop m) (f:=GB) λs hs=>jmw (hp s (jmy hs))
 omega
theorem jgJ(rs:List jI): -549755813888000<=GB rs/\GB rs<=549755813888000:=by
 unfold GB;split
 .rename_i hr;obtain⟨u1,u2⟩:=xQ (jH rs) (PF hr);have:=zP hr
  constructor<;>omega
 .omega
theorem BO(hE:∀(A:Option Addr) (n c:Nat) (zs:List Int) (w:World),Byts w A n zs->n<=1048576->Calls Tryz.prog 4 #[.slice A n c] w λe w'=>∃x:CX,e=.returned (qU x.2.1.1 x.1.1.length x.2.1.2)/\Over w w'/\(Cj x).P w'/\(∀q,(Cj x).F q->w.heap.size<=q)/\(Cj x).B=0/\True)(A:Option Addr)(n c:Nat)(zs:List Int)(w:World)(h:Byts w A n zs)(_hm:(n:Int)<=9223372036854775807):
  Calls Tryz.prog 3 #[.slice A n c] w λe w'=>e=.returned (.bool true)/\Over w w':=by
 refine Jm (m:=191) (Tryz.func3) J J (lb J) ?_;refine S11 ?_;refine cZ (λc1=>?_) (λc1=>?_)
 .refine S6 ?_;refine jK J (.tmp J) ?_;intro w' hs;exact⟨rfl,hs.fin⟩
 .have hn:n<=1048576:=Om;refine S6 ?_;refine J4 Oh (X:=CX) (v:=λx=>qU x.2.1.1 x.1.1.length x.2.1.2) (r:=λx=>Cj x) (H:=λ_=>True) J J J (lb J) (λw1 hs=>hE A n c zs w1 (h.over hs.fin) hn) ?_;rintro⟨⟨T,hT⟩,⟨tA,tc⟩,tlo,thi⟩-;refine n9 ?_
  try dsimp only
  have hreg:=hT.1;have hcl:=hT.2
  have hN:=jk1 hreg hcl;have hn40:=V0 hreg
  have htt:=jfJ hreg;have hask:zg T=0:=(Re hreg hcl).1
  have hng:Fz T=uX T T.length:=(Re hreg hcl).2;have hpa:paL T=UA T T.length:=if_pos hask
  have hnl:(uX T T.length).length=T.length:=Dm _ _;refine S1 ?_;refine aL (λb1=>?_);refine N7 ?_;refine J4 yW (X:=Option Addr×Nat) (v:=λx=>.tuple #[.slice x.1 (uX T T.length).length x.2,.int .i64 0]) (r:=λx=>Z7 (uX T T.length) x) (H:=λ_=>True) J J J (lb J) (λw1 hs=>(by have:=Xr _ _ tc T w1 (yh (k:=0) J w1 hs) Om;unfold NgR at this;rw[hask,hng] at this;exact this)) ?_;rintro⟨gA,gc⟩-;refine N10 ?_;refine J4 Oc (X:=(Option Addr×Nat)×List Rp) (v:=λy=>.tuple #[.slice y.1.1 y.2.length y.1.2,.int .i64 0]) (r:=λy=>ppR y.1 y.2) (H:=λy=>y.2.map Rp.rs=UA T T.length) J J J (lb J) (λw1 hs=>(by have:=Tm _ _ tc T w1 (yh (k:=0) J w1 hs) Om;unfold PaR at this;rw[hask,hpa] at this;exact this)) ?_;rintro⟨⟨pA,pc⟩,ps⟩ hps;refine N12 ?_;refine wg 42 (.bool false) J (by rw[(show(!((0:Int)==0))=false from J)]) ?_;refine S6 ?_;refine wg 46 (.bool false) J (by rw[(show(!((0:Int)==0))=false from J)]) ?_;refine S14 ?_;refine Un J ((show(!(((uX T T.length).length:Int)==(T.length:Int)))=false by rw[hnl];simp)) ?_;refine S5 ?_;refine a9 (jT y3 J J (λw1 hs=>Ye _ _ _ T w1 (yh (k:=0) J w1 hs) Om)) ?_;refine S7 ?_;refine FT λw1 hs1=>?_
  have hC3:w1.cell? ⟨b1,0,none⟩=some (.slice tA T.length tc):=qr (k:=1) (off:=0) rfl rfl w1 hs1;have hB3:b1<w1.heap.size:=J3 (hs1.cel (k:=1) rfl)
  have hG:Rings w1 tA T.length T:=yh (k:=0) rfl w1 hs1;have hI:(Z7 (uX T T.length) (gA,gc)).P w1:=(hs1.all 2 _ rfl).1
  have hPP:(ppR (pA,pc) ps).P w1:=(hs1.all 3 _ rfl).1;have hO:=hs1.fin
  refine S13 ?_;refine qD (X:=Nat) (λk=>k<=T.length) (λk=>T.length-k) (λk=>[(12,.int .i64 (k:Int)),(11,.int .i64 (Dp T k:Int))]) (kK [2,3,4,6,8,10]) 0 (jlN _) ⟨J,sz⟩ ?_;intro k hk L hL1;refine V5 ?_;refine a9 (jn J J JA (QZ hC3 hB3)) ?_;refine S3 ?_;refine cZ (λc2=>?_) (λc2=>?_)
  .have hlt:k<T.length:=Om;obtain⟨ig,hgA,hig,hic⟩:=jhq hI Om;have hgA:gA=some ⟨ig,0,none⟩:=hgA
   subst hgA;obtain⟨eb,eo,Ak,ck,rfl,hbB,hcell,hpts,hmax⟩:=hG.at_ hlt;obtain⟨r1,r2,r3⟩:=kM (kg hreg hlt);have hcv:=hic k Om
   rw[jh2 hlt] at hcv;obtain⟨pv,hpv⟩:∃pv,pv=Qh T k T.length:=⟨_,rfl⟩;rw[<-hpv] at hcv;have hpb:=Sm T k T.length
   rw[<-hpv] at hpb;have hrb:rbV (rg T k)=.tuple #[Wh (X7 (rg T k) (rg T k).length) (X8 (rg T k) (rg T k).length),Wh (X0 (rg T k) (rg T k).length) (X1 (rg T k) (rg T k).length),.int .i64 0]:=if_pos (kg hreg hlt)
   have hra:rtA (rg T k)=uy T k:=if_pos (kg hreg hlt);have hrc:rtC (rg T k)=0:=if_pos (kg hreg hlt)
   have hz:=hN.zero k hlt;have hho:=hN.hole k hlt
   rw[<-hpv] at hho;have hst:Dp T (k+1)=if uy T k<=0 then Dp T k else Dp T k+1:=rfl
   have hpn:=Sq T k;refine S9 ?_;refine a9 (jn J J ju (λw' hs=>by simpa using Ql hcv hig w' hs)) ?_;refine S8 ?_;refine wg 72 (.bool false) J (by rw[(decide_eq_false (show¬pv< -1 by omega))]) ?_;refine S5 ?_;refine o9 (jn J J JA (QZ hC3 hB3)) ?_;refine S6 ?_;refine wg 79 (.bool false) J (by rw[(decide_eq_false (show¬(T.length:Int)<=pv by omega))]) ?_;refine S8 ?_;refine Un J ((beq_eq_false_iff_ne.2 (hpv▸hN.self k hlt))) ?_;refine S5 ?_;refine a9 (jn J J JA (QZ hC3 hB3)) ?_;refine S2 ?_;refine a9 (jj J J Jz J (Wv hcell hbB)) ?_;refine a9 (jT yr J J (λw2 hs=>hrb▸yy Ak _ ck (rg T k) w2 (hpts.over hs.fin) Om)) ?_;refine S5 ?_;refine aL (λb2=>?_);refine N1 ?_;refine aL (λb3=>?_);refine N12 ?_;refine cZ (λc3=>?_) (λc3=>?_)
   .obtain⟨p,hp⟩:∃p:Nat,pv=(p:Int):=⟨pv.toNat,by omega⟩;have hpl:p<T.length:=Om
    have hbx:=jhR hreg hcl hlt (hpv.symm.trans hp);obtain⟨lx,ly,hx,hy⟩:=hbx;obtain⟨fb,fo,Ap,cp,he2,hbBp,hcellp,hptsp,hmaxp⟩:=hG.at_ hpl;injection he2 with he2
    injection he2 with he3 he4 he5
    subst he3 he4;have hrbp:rbV (rg T p)=.tuple #[Wh (X7 (rg T p) (rg T p).length) (X8 (rg T p) (rg T p).length),Wh (X0 (rg T p) (rg T p).length) (X1 (rg T p) (rg T p).length),.int .i64 0]:=if_pos (kg hreg hpl)
    obtain⟨q1,q2,q3⟩:=kM (kg hreg hpl);refine S3 ?_;refine a9 (jn J J JA (QZ hC3 hB3)) ?_;refine a9 ((ja J J).as (congrArg _ hp)) ?_;refine a9 (jQ (j:=p) J J J jC Om) ?_;refine a9 (jj J J Jz J (Wv hcellp hbBp)) ?_;refine a9 (jT yr J J (λw2 hs=>hrbp▸yy Ap _ cp (rg T p) w2 (hptsp.over hs.fin) Om)) ?_;refine S5 ?_;refine aL (λb4=>?_);refine N1 ?_;refine aL (λb5=>?_);refine N14 ?_;refine wg 111 (.bool false) J (by rw[(decide_eq_false Om)]) ?_;refine S12 ?_;refine wg 118 (.bool false) J (by rw[(decide_eq_false Om)]) ?_;refine S12 ?_;refine wg 125 (.bool false) J (by rw[(decide_eq_false Om)]) ?_;refine S12 ?_;refine Un J ((decide_eq_false Om)) ?_;refine S5 ?_;refine a9 (jn J J JA (QZ hC3 hB3)) ?_;refine S2 ?_;refine a9 (jj J J Jz J (Wv hcell hbB)) ?_;refine a9 (jT yX J J (λw2 hs=>(by have:=Xs Ak _ ck (rg T k) w2 (hpts.over hs.fin) Om;rw[hra,hrc] at this;exact this))) ?_;refine S12 ?_;refine wg 143 (.bool false) J (by rw[(show(!((0:Int)==0))=false from J)]) ?_;refine S6 ?_;refine wg 147 (.bool false) J (by rw[(beq_eq_false_iff_ne.2 hz)]) ?_;refine S6 ?_;refine cV 150 (λg1=>?_) (λg1=>?_)
    .refine S8 ?_;refine Un J ((decide_eq_false Om)) ?_;refine S7 ?_;refine cZ (λc4=>?_) (λc4=>?_)
     .refine S12 ?_;exact J6 hL1 (k+1) Om Om ⟨vi Om,vi (by rw[hst];split<;>omega),sz⟩ (u9 J)
     .refine S8 ?_;exact J6 hL1 (k+1) Om Om ⟨vi Om,vi (by rw[hst];split<;>omega),sz⟩ (u9 J)
    .refine S14 ?_;refine cZ (λc5=>?_) (λc5=>?_)
     .refine S12 ?_;exact J6 hL1 (k+1) Om Om ⟨vi Om,vi (by rw[hst];split<;>omega),sz⟩ (u9 J)
     .refine S8 ?_;exact J6 hL1 (k+1) Om Om ⟨vi Om,vi (by rw[hst];split<;>omega),sz⟩ (u9 J)
   .refine S5 ?_;refine a9 (jn J J JA (QZ hC3 hB3)) ?_;refine S2 ?_;refine a9 (jj J J Jz J (Wv hcell hbB)) ?_;refine a9 (jT yX J J (λw2 hs=>(by have:=Xs Ak _ ck (rg T k) w2 (hpts.over hs.fin) Om;rw[hra,hrc] at this;exact this))) ?_;refine S12 ?_;refine wg 143 (.bool false) J (by rw[(show(!((0:Int)==0))=false from J)]) ?_;refine S6 ?_;refine wg 147 (.bool false) J (by rw[(beq_eq_false_iff_ne.2 hz)]) ?_;refine S6 ?_;refine cV 150 (λg2=>?_) (λg2=>?_)
    .refine S8 ?_;refine Un J ((decide_eq_false Om)) ?_;refine S7 ?_;refine cZ (λc6=>?_) (λc6=>?_)
     .refine S12 ?_;exact J6 hL1 (k+1) Om Om ⟨vi Om,vi (by rw[hst];split<;>omega),sz⟩ (u9 J)
     .refine S8 ?_;exact J6 hL1 (k+1) Om Om ⟨vi Om,vi (by rw[hst];split<;>omega),sz⟩ (u9 J)
    .refine S14 ?_;refine cZ (λc7=>?_) (λc7=>?_)
     .refine S12 ?_;exact J6 hL1 (k+1) Om Om ⟨vi Om,vi (by rw[hst];split<;>omega),sz⟩ (u9 J)
     .refine S8 ?_;exact J6 hL1 (k+1) Om Om ⟨vi Om,vi (by rw[hst];split<;>omega),sz⟩ (u9 J)
  .have hkn:k=T.length:=Om;subst hkn;have hpl0:ps.length=Dp T T.length:=(by have:=congrArg List.length hps;rw[jlV,Sj] at this;exact this)
   have hpn:=Sq T T.length;have hab:=jgJ T
   refine S11 ?_;refine qD (X:=Nat) (λm=>m<=ps.length) (λm=>ps.length-m) (λm=>[(22,.int .i64 (m:Int)),(10,.int .i64 (sm GB ((UA T T.length).take m)))]) (kK [2,6,8,11]) 0 (jlN _) ⟨J,sz⟩ ?_;intro m hm L hL2;refine V8 ?_;refine cZ (λc8=>?_) (λc8=>?_)
   .have hml:m<ps.length:=Om;obtain⟨pg,hpA,hpg,hpc⟩:=jkh hPP Om;have hpA:pA=some ⟨pg,0,none⟩:=hpA
    subst hpA;have hcp:=hpc m hml
    have hsm2:(UA T T.length)[m]? =some (rpN ps m).rs:=(by rw[<-hps];exact jkn hml);have hmem:=List.mem_of_getElem? hsm2
    have hrs:=hN.reg _ hmem;have hps1:=hN.pos _ hmem
    have hstep:=jgi hsm2;have hsp:=PT hN.pos m
    have hsp2:=PT hN.pos (m+1);rw[hN.sum] at hsp hsp2;have hac:atC (rpN ps m).rs=0:=if_pos hrs
    have hrgs:=jfP (jk8 (jh7 hPP) hml) (smallR.of hrs);have htr:=jfJ hrs
    refine S9 ?_;refine a9 (jj J J jD J (Wv hcp hpg)) ?_;refine a9 (jT y3 J J (λw2 hs=>(by have:=Ye _ _ (rpN ps m).c (rpN ps m).rs w2 (hrgs.over hs.fin) Om;rw[hac] at this;exact this))) ?_;refine S12 ?_;refine wg 175 (.bool false) J (by rw[(show(!((0:Int)==0))=false from J)]) ?_;refine S6 ?_;refine Un J ((decide_eq_false Om)) ?_;refine S15 ?_;exact J6 hL2 (m+1) Om Om ⟨vi Om,vi Om,sz⟩ (u9 J)
   .have hme:m=ps.length:=Om;have hall:(UA T T.length).take m=UA T T.length:=(by rw[hme,hpl0,<-Sj,jms])
    rw[hall,hN.sum];refine S11 ?_;refine wg 185 (.bool true) J (by rw[(beq_self_eq_true _)]) ?_;refine S12 ?_;refine jK J (.tmp J) ?_;intro w' hs;exact⟨Q4 (by rw[hpl0];simp),hO.trans hs.fin⟩
theorem jdW{rs:List jI}(h:Xu rs [] 1=0):JG (uv rs [] 1)=true/\P9 (uv rs [] 1)=true:=by
 have hi:zq rs []=true:=by
  refine Decidable.byContradiction λk=>?_
  unfold Xu at h;rw[if_neg k] at h;omega
 have hr:JG rs=true:=by
  unfold zq at hi;rw[jlK] at hi;exact hi.1
 obtain⟨e1,e2⟩:=EZ (how:=1) hr (show JG []=true from rfl) rfl;rw[e2] at h;obtain⟨hf,hg,e3⟩:=Rr h;simp only[UL,jlK,decide_eq_true_eq] at hf;have hT:=jlv (how:=1) ⟨hr,rfl,hf.1⟩ hf.2.1 hf.2.2 hg
 rw[e1,e3];obtain⟨a1,a2⟩:=EZ (how:=1) hg (show JG []=true from rfl) rfl;refine⟨hg,?_⟩;unfold P9;rw[a1,a2,hT.r,hT.c];simp
theorem jgZ:JG []=true/\P9 []=true:=by
 have h:Xu [] [] 1=0:=by decide
 have:=jdW h;have e:uv [] [] 1=[]:=by decide
 rwa [e] at this
theorem Tj(A:Option Addr)(n c:Nat)(zs:List Int)(w:World)(hB:Byts w A n zs)(hn:n<=1048576):
  Calls Tryz.prog 4 #[.slice A n c] w λe w'=>∃x:CX,e=.returned (qU x.2.1.1 x.1.1.length x.2.1.2)/\Over w w'/\(Cj x).P w'/\(∀q,(Cj x).F q->w.heap.size<=q)/\(Cj x).B=0/\True:=by
 refine Jm (m:=20) (Tryz.func4) J J (lb J) ?_;refine S3 ?_;refine aL (λb1=>?_);refine N5 ?_;refine J4 Oi (v:=λg:Nat=>.pointer (some ⟨g,0,none⟩)) (r:=λg=>srcR g A n c 0) (H:=λ_=>True) J J J (lb J) (λw1 hs=>Nv A n c w1) ?_;rintro g-;refine N2 ?_;refine kW (λw1 hs=>((hs.all 1 _ rfl).2.1 g rfl).elim id (λh=>by cases h)) ?_;intro hg;have hne:=jlq hB (g:=g) hg
 refine S4 ?_;refine qm (k:=1) (X:=BX) (v:=λx=>qU x.2.1.1 x.1.1.length x.2.1.2) (r':=λx=>Uw g A n c (0+500) x) LQ J J J Dc J (λw1 hs=>RR (zs:=zs) (hB.over hs.fin) hne (hs.all 1 _ J).1 hn (jlN _)) ?_;rintro⟨⟨rs,hrs⟩,⟨rA,rc⟩,rlo,rhi⟩;refine n9 ?_;refine Rg 1 J ?_;refine t9 ?_;refine S1 ?_;refine aL (λb2=>?_);refine N7 ?_;refine J4 VU (X:=(Option Addr×Nat)×Nat×Nat) (v:=λx=>.tuple #[qU x.1.1 (uv rs [] 1).length x.1.2,.int .i64 (Xu rs [] 1)]) (r:=λx=>K4 (uv rs [] 1).length (uv rs [] 1) x.2.1 x.2.2 x.1.1) (H:=λ_=>True) J J J (lb J) (λw1 hs=>vz (V:=λA' c'=>.tuple #[qU A' (uv rs [] 1).length c',.int .i64 (Xu rs [] 1)]) (VX _ _ _ rs w1 (yh (k:=2) J w1 hs) hrs)) ?_;rintro⟨⟨oA,oc⟩,olo,ohi⟩-;refine N4 ?_;refine aL (λb3=>?_);refine N10 ?_;refine cZ (λc1=>?_) (λc1=>?_)
 .refine S2 ?_;refine a9 (JD J J (qo)) ?_;refine S5 ?_;refine jK J (qj (k:=0) J jD J J) ?_;intro w' hs;exact⟨(⟨[],jgZ⟩,(none,0),0,0),rfl,hs.fin,jb9 (OwnG.nil none) (jlN _),λq hq=>absurd (show 0<=q/\q<0 from hq).2 (Nat.not_lt_zero q),sz⟩
 .have hc0:Xu rs [] 1=0:=by simpa using c1
  refine S9 ?_;refine jK J (qj (k:=0) J jD J J) ?_;intro w' hs;exact⟨(⟨uv rs [] 1,jdW hc0⟩,(oA,oc),olo,ohi),rfl,hs.fin,(hs.all 4 _ rfl).1,λq hq=>((hs.all 4 _ rfl).2.1 q hq).elim id (λh=>by cases h),sz⟩
theorem NE(A:Option Addr)(n c:Nat)(zs:List Int)(w:World)(h:Byts w A n zs)(hm:(n:Int)<=9223372036854775807):
  Calls Tryz.prog 3 #[.slice A n c] w λe w'=>e=.returned (.bool true)/\Over w w':=
 BO (λA n c zs w hB hn=>Tj A n c zs w hB hn) A n c zs w h hm
end
end Go.Proofs.YtjbahemkhphndaaGreat
