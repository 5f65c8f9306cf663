import Derived.Test.YtkagkgjjfdkoaaaGreatMCmbS
import Derived.Test.YtkagkgjjfdkoaaaGreatMOrder
import Derived.Test.YtkagkgjjfdkoaaaGreatMLawKit
set_option linter.unusedVariables false
set_option linter.unusedSimpArgs false
namespace Go.Proofs.YtkagkgjjfdkoaaaGreat
open Go Go.RowKit
set_option maxRecDepth 100000
set_option maxHeartbeats 4000000
theorem WY {lo hi n c:Nat} {A:Option Addr} {rs:List jS} {w:World} (m:Nat) (h:OwnG lo hi w A n rs) (hz:hi≤w.heap.size) (hm:m≤2097152) (hb:1+2* (qF rs n:Nat)≤(2305843009213693952:Int)∧n≤2305843009213693952) :
  Calls Tryz.prog 17 #[Ju A n c, .int .i64 (1+2* (m:Nat))] w fun e w'=>e= .returned (.int .i64 (1+2* ((m+qF rs n:Nat) :Nat)))∧Wrs (JD n rs lo hi A).F w w'∧(JD n (Qh (1+2* (m:Nat)) rs) lo hi A).P w':=
 (YI lo hi A n c rs _ w h hz (by omega) (by omega) (by omega)).mono (by rintro e w' ⟨he,hw,hg⟩;exact⟨by rw [he];exact W8 (by omega),hw,Ii hg (jft hz hw.size)⟩)
theorem Vr {rs:List jS} (ht: (total rs:Int)≤1048576) {n:Nat} (hn:rs.length=n) :qF rs n≤1048576∧n≤1048576:=by
 unfold total at ht
 rw [hn] at ht
 omega
theorem Y6 {l:Int} {n:Nat} (h:¬Zb l n<0) : (n:Int)≤l∧Zb l n=l- n:=by
 unfold Zb at*
 split
 ·exact⟨by assumption,rfl⟩
 ·rename_i h2;rw [if_neg h2] at h;omega
theorem Sf (A:Option Addr) (n c:Nat) (rs:List jS) (A2:Option Addr) (n2 c2_:Nat) (ss:List jS) (how:Int) (w:World) (h:Rings w A n rs) (hm: (n:Int)≤9223372036854775807) (h2:Rings w A2 n2 ss) (hm2: (n2:Int)≤9223372036854775807) :
  Calls Tryz.prog 5 #[Ju A n c,Ju A2 n2 c2_, .int .i64 how] w fun e w'=>e= .returned (.bool true)∧Over w w':=by
 have hl:=h.1
 have hl2:=h2.1
 have hsm:=WB rs ss how
 have hst:=hsm.total
 have hss:=hsm.sum rfl
 refine jU (m:=124) (Tryz.func5) J J (lb J) ?_;refine S3 ?_;refine aX (fun b1=> ?_);refine N1 ?_;refine aX (fun b2=> ?_);refine N10 ?_;refine a9 (jH qI J J (fun w1 hs=>QK A n c rs 1048576 w1 (h.over hs.fin) (by omega) (by omega) hm)) ?_;refine S8 ?_;refine cZ (fun c1=> ?_) (fun c1=> ?_)
 ·refine S6 ?_;refine jL J (.tmp J) ?_
  intro w' hs
  exact⟨rfl,hs.fin⟩
 ·obtain ⟨ht,e1⟩ :=Y6 (jfx.2 c1)
  clear hm
  rw [e1]
  have htp: (0:Int)≤total rs:=jfV _
  refine S6 ?_;refine a9 (jH qI J J (fun w1 hs=>QK A2 n2 c2_ ss _ w1 (h2.over hs.fin) (by omega) (by omega) hm2)) ?_;refine S8 ?_;refine cZ (fun c2=> ?_) (fun c2=> ?_)
  ·refine S6 ?_;refine jL J (.tmp J) ?_
   intro w' hs
   exact⟨rfl,hs.fin⟩
  ·obtain ⟨ht2,_⟩ :=Y6 (jfx.2 c2)
   replace ht2: (total ss:Int)≤1048576:= (by omega)
   clear hm2
   have hts:=Vr ht hl
   have hts2:=Vr ht2 hl2
   refine S2 ?_;refine KZ (X:= ((Nat×Nat×Nat)×(Nat×Nat×Nat))×((Option Addr×Nat)×Nat×Nat)×Nat) (fun x=>True) (fun x=> [(8, .pointer (some ⟨x.2.2,0,none⟩)),(9, .int .i64 (wT rs ss how))]) (kK [2,3,4,6]) (fun x=> [.cel b1 24 [.slice A n c], .cel b2 24 [.slice A2 n2 c2_],JD n rs x.1.1.2.1 x.1.1.2.2 (some ⟨x.1.1.1,0,none⟩),JD n2 ss x.1.2.2.1 x.1.2.2.2 (some ⟨x.1.2.1,0,none⟩),JD (qD rs ss how).length (qD rs ss how) x.2.1.2.1 x.2.1.2.2 x.2.1.1.1, .cel x.2.2 29 [.slice x.2.1.1.1 (qD rs ss how).length x.2.1.1.2]]) (fun L h_8=> ?_) ?_
   ·refine S1 ?_;refine Jw 12 ?_;refine dK 0 ?_;refine dK 2 ?_;refine dK 4 ?_;refine Q4 (i:=1) (j:=9) J J (by decide) (by decide) (by kernel_rfl) J J ?_ ?_
    ·refine jP jN (X:=Nat×Nat×Nat) (v:=fun x=>Ju (some ⟨x.1,0,none⟩) n n) (r:=fun x=>JD n rs x.2.1 x.2.2 (some ⟨x.1,0,none⟩)) (H:=fun _=>True) J J J (lb J) (fun w1 hs=>JS (Je A n c rs w1 (h.over hs.fin) ht)) ?_
     rintro⟨tg,tlo,thi⟩ -
     refine n9 ?_;refine jJ (u9 J) ?_;refine Q4 (i:=3) (j:=9) J J (by decide) (by decide) (by kernel_rfl) J J ?_ ?_
     ·refine jP jN (X:=Nat×Nat×Nat) (v:=fun x=>Ju (some ⟨x.1,0,none⟩) n2 n2) (r:=fun x=>JD n2 ss x.2.1 x.2.2 (some ⟨x.1,0,none⟩)) (H:=fun _=>True) J J J (lb J) (fun w1 hs=>JS (Je A2 n2 c2_ ss w1 (h2.over hs.fin) ht2)) ?_
      rintro⟨tg2,tlo2,thi2⟩ -
      refine n9 ?_;refine jJ (u9 J) ?_;refine Q4 (i:=5) (j:=9) J J (by decide) (by decide) (by kernel_rfl) J J ?_ ?_
      ·refine jP Qb (X:= (Option Addr×Nat)×Nat×Nat) (v:=fun x=> .tuple #[Ju x.1.1 _ x.1.2, .int .i64 _]) (r:=fun x=>JD _ _ x.2.1 x.2.2 x.1.1) (H:=fun _=>True) J J J (lb J) (fun w1 hs=>qy (Qd _ n n rs _ n2 n2 ss how w1 (jV (k:=2) J w1 hs) (by omega) (jV (k:=3) J w1 hs) (by omega))) ?_
       rintro⟨⟨wA,wc⟩,wlo,whi⟩ -
       refine n9 ?_;refine jJ (u9 J) ?_;refine dK 6 ?_;refine dK 7 ?_;refine dK 8 ?_;refine Jh (i:=9) J (by decide) (by kernel_rfl) J ?_;refine aL (fun b3=> ?_);refine n9 ?_;refine jJ (u9 J) ?_;refine Jh (i:=10) J (by decide) (by kernel_rfl) J ?_;refine S1 ?_;refine jJ (u9 J) ?_;refine dK 11 ?_;refine Jj (by kernel_rfl) ?_;refine S1 ?_
       exact JZ h_8 ((((tg,tlo,thi),(tg2,tlo2,thi2)),((wA,wc),wlo,whi),b3)) (trivial) ⟨J,sz⟩ (fun _ h=>h.picks [0,1,2,3,4,5] (by decide))
      ·refine aL (fun b4=> ?_);refine n9 ?_;refine jJ (u9 J) ?_;refine Jh (i:=5) J (by decide) (by kernel_rfl) J ?_;refine jP Qb (X:= (Option Addr×Nat)×Nat×Nat) (v:=fun x=> .tuple #[Ju x.1.1 _ x.1.2, .int .i64 _]) (r:=fun x=>JD _ _ x.2.1 x.2.2 x.1.1) (H:=fun _=>True) J J J (lb J) (fun w1 hs=>qy (Qd _ n n rs _ n2 n2 ss how w1 (jV (k:=2) J w1 hs) (by omega) (jV (k:=3) J w1 hs) (by omega))) ?_
       rintro⟨⟨wA,wc⟩,wlo,whi⟩ -
       refine n9 ?_;refine jJ (u9 J) ?_;refine dK 6 ?_;refine dK 7 ?_;refine dK 8 ?_;refine Jh (i:=10) J (by decide) (by kernel_rfl) J ?_;refine S1 ?_;refine jJ (u9 J) ?_;refine dK 11 ?_;refine Jj (by kernel_rfl) ?_;refine S1 ?_
       exact JZ h_8 ((((tg,tlo,thi),(tg2,tlo2,thi2)),((wA,wc),wlo,whi),b4)) (trivial) ⟨J,sz⟩ (fun _ h=>h.picks [0,1,2,3,5,4] (by decide))
     ·refine aL (fun b5=> ?_);refine n9 ?_;refine jJ (u9 J) ?_;refine Jh (i:=3) J (by decide) (by kernel_rfl) J ?_;refine jP jN (X:=Nat×Nat×Nat) (v:=fun x=>Ju (some ⟨x.1,0,none⟩) n2 n2) (r:=fun x=>JD n2 ss x.2.1 x.2.2 (some ⟨x.1,0,none⟩)) (H:=fun _=>True) J J J (lb J) (fun w1 hs=>JS (Je A2 n2 c2_ ss w1 (h2.over hs.fin) ht2)) ?_
      rintro⟨tg2,tlo2,thi2⟩ -
      refine n9 ?_;refine jJ (u9 J) ?_;refine Jh (i:=5) J (by decide) (by kernel_rfl) J ?_;refine jP Qb (X:= (Option Addr×Nat)×Nat×Nat) (v:=fun x=> .tuple #[Ju x.1.1 _ x.1.2, .int .i64 _]) (r:=fun x=>JD _ _ x.2.1 x.2.2 x.1.1) (H:=fun _=>True) J J J (lb J) (fun w1 hs=>qy (Qd _ n n rs _ n2 n2 ss how w1 (jV (k:=2) J w1 hs) (by omega) (jV (k:=4) J w1 hs) (by omega))) ?_
      rintro⟨⟨wA,wc⟩,wlo,whi⟩ -
      refine n9 ?_;refine jJ (u9 J) ?_;refine dK 6 ?_;refine dK 7 ?_;refine dK 8 ?_;refine Jh (i:=10) J (by decide) (by kernel_rfl) J ?_;refine S1 ?_;refine jJ (u9 J) ?_;refine dK 11 ?_;refine Jj (by kernel_rfl) ?_;refine S1 ?_
      exact JZ h_8 ((((tg,tlo,thi),(tg2,tlo2,thi2)),((wA,wc),wlo,whi),b5)) (trivial) ⟨J,sz⟩ (fun _ h=>h.picks [0,1,2,4,5,3] (by decide))
    ·refine aL (fun b6=> ?_);refine n9 ?_;refine jJ (u9 J) ?_;refine Jh (i:=1) J (by decide) (by kernel_rfl) J ?_;refine jP jN (X:=Nat×Nat×Nat) (v:=fun x=>Ju (some ⟨x.1,0,none⟩) n n) (r:=fun x=>JD n rs x.2.1 x.2.2 (some ⟨x.1,0,none⟩)) (H:=fun _=>True) J J J (lb J) (fun w1 hs=>JS (Je A n c rs w1 (h.over hs.fin) ht)) ?_
     rintro⟨tg,tlo,thi⟩ -
     refine n9 ?_;refine jJ (u9 J) ?_;refine Jh (i:=3) J (by decide) (by kernel_rfl) J ?_;refine jP jN (X:=Nat×Nat×Nat) (v:=fun x=>Ju (some ⟨x.1,0,none⟩) n2 n2) (r:=fun x=>JD n2 ss x.2.1 x.2.2 (some ⟨x.1,0,none⟩)) (H:=fun _=>True) J J J (lb J) (fun w1 hs=>JS (Je A2 n2 c2_ ss w1 (h2.over hs.fin) ht2)) ?_
     rintro⟨tg2,tlo2,thi2⟩ -
     refine n9 ?_;refine jJ (u9 J) ?_;refine Jh (i:=5) J (by decide) (by kernel_rfl) J ?_;refine jP Qb (X:= (Option Addr×Nat)×Nat×Nat) (v:=fun x=> .tuple #[Ju x.1.1 _ x.1.2, .int .i64 _]) (r:=fun x=>JD _ _ x.2.1 x.2.2 x.1.1) (H:=fun _=>True) J J J (lb J) (fun w1 hs=>qy (Qd _ n n rs _ n2 n2 ss how w1 (jV (k:=3) J w1 hs) (by omega) (jV (k:=4) J w1 hs) (by omega))) ?_
     rintro⟨⟨wA,wc⟩,wlo,whi⟩ -
     refine n9 ?_;refine jJ (u9 J) ?_;refine dK 6 ?_;refine dK 7 ?_;refine dK 8 ?_;refine Jh (i:=10) J (by decide) (by kernel_rfl) J ?_;refine S1 ?_;refine jJ (u9 J) ?_;refine dK 11 ?_;refine Jj (by kernel_rfl) ?_;refine S1 ?_
     exact JZ h_8 ((((tg,tlo,thi),(tg2,tlo2,thi2)),((wA,wc),wlo,whi),b6)) (trivial) ⟨J,sz⟩ (fun _ h=>h.picks [0,1,3,4,5,2] (by decide))
   ·rintro⟨⟨⟨tg,tlo,thi⟩,⟨tg2,tlo2,thi2⟩⟩,⟨⟨wA,wc⟩,wlo,whi⟩,bw⟩ -
    refine v9 ?_;refine ji (by first | (dsimp only;done) | (dsimp only;rfl) | rfl) ?_;refine S4 ?_;refine jP jN (X:=Nat×Nat×Nat) (v:=fun x=>Ju (some ⟨x.1,0,none⟩) n n) (r:=fun x=>JD n rs x.2.1 x.2.2 (some ⟨x.1,0,none⟩)) (H:=fun _=>True) J J J (lb J) (fun w1 hs=>JS (Je A n c rs w1 (h.over hs.fin) ht)) ?_
    rintro⟨xg,xlo,xhi⟩ -
    refine N1 ?_;refine aL (fun b7=> ?_);refine N7 ?_;refine jP jN (X:=Nat×Nat×Nat) (v:=fun x=>Ju (some ⟨x.1,0,none⟩) n2 n2) (r:=fun x=>JD n2 ss x.2.1 x.2.2 (some ⟨x.1,0,none⟩)) (H:=fun _=>True) J J J (lb J) (fun w1 hs=>JS (Je A2 n2 c2_ ss w1 (h2.over hs.fin) ht2)) ?_
    rintro⟨yg,ylo,yhi⟩ -
    refine N1 ?_;refine aL (fun b8=> ?_);refine N9 ?_;refine jP qK (X:= (Option Addr×Nat)×Nat×Nat) (v:=fun x=> .tuple #[Ju x.1.1 _ x.1.2, .int .i64 _]) (r:=fun x=>JD _ _ x.2.1 x.2.2 x.1.1) (H:=fun _=>True) J J J (lb J) (fun w1 hs=>qy (Qs _ n n rs _ n2 n2 ss how w1 (jV (k:=6) J w1 hs) (by omega) (jV (k:=8) J w1 hs) (by omega))) ?_
    rintro⟨⟨gA,gc⟩,glo,ghi⟩ -
    refine N4 ?_;refine aL (fun b9=> ?_);refine N1 ?_;refine j9 11 jk.szx ?_;refine N5 ?_;refine a9 (jj J J jn J (jF (k:=11) J)) ?_;refine S1 ?_;refine a9 (jH JM J J (fun w1 hs=>JY _ _ _ _ _ (qD rs ss how) w1 (jV (k:=10) J w1 hs) (jV (k:=4) J w1 hs) hst)) ?_;refine S2 ?_;refine kx 53 (.bool false) J (by rw [vv]) ?_;refine S8 ?_;refine qJ J (kD _) ?_;refine S5 ?_;refine Jw 5 ?_;refine dK 0 ?_;refine dK 1 ?_;refine Jh (i:=2) J (by decide) (by kernel_rfl) J ?_;refine jP jN (X:=Nat×Nat×Nat) (v:=fun x=>Ju (some ⟨x.1,0,none⟩) n n) (r:=fun x=>JD n rs x.2.1 x.2.2 (some ⟨x.1,0,none⟩)) (H:=fun _=>True) J J J (lb J) (fun w1 hs=>JS (Je A n c rs w1 (h.over hs.fin) ht)) ?_
    rintro⟨ug,ulo,uhi⟩ -
    refine n9 ?_;refine Q5 (u9 J) ?_;refine dZ 3 J (jH JM J J (fun w1 hs=>JY _ _ _ _ _ rs w1 (jV (k:=6) J w1 hs) (jV (k:=12) J w1 hs) ht)) ?_;refine dK 4 ?_;refine Jj (by kernel_rfl) ?_;refine S1 ?_;refine qJ J (J) ?_;refine S5 ?_;refine Jw 5 ?_;refine dK 0 ?_;refine dK 1 ?_;refine Jh (i:=2) J (by decide) (by kernel_rfl) J ?_;refine jP jN (X:=Nat×Nat×Nat) (v:=fun x=>Ju (some ⟨x.1,0,none⟩) n2 n2) (r:=fun x=>JD n2 ss x.2.1 x.2.2 (some ⟨x.1,0,none⟩)) (H:=fun _=>True) J J J (lb J) (fun w1 hs=>JS (Je A2 n2 c2_ ss w1 (h2.over hs.fin) ht2)) ?_
    rintro⟨vg,vlo,vhi⟩ -
    refine n9 ?_;refine Q5 (u9 J) ?_;refine dZ 3 J (jH JM J J (fun w1 hs=>JY _ _ _ _ _ ss w1 (jV (k:=8) J w1 hs) (jV (k:=13) J w1 hs) ht2)) ?_;refine dK 4 ?_;refine Jj (by kernel_rfl) ?_;refine S1 ?_;refine qJ J (J) ?_;refine S11 ?_;refine QB (k:=6) (r':=JD n (Qh _ rs) _ _ _) qj J J J (by decide) J (fun w1 hs=>WY 0 (Zp (k:=6) J w1 hs) (xi (k:=6) J w1 hs) (by omega) (by omega)) (fun _ h=>h) J ?_;refine N7 ?_;refine QB (k:=8) (r':=JD n2 (Qh _ ss) _ _ _) qj J J J (by decide) J (fun w1 hs=>WY _ (Zp (k:=8) J w1 hs) (xi (k:=8) J w1 hs) (by omega) (by omega)) (fun _ h=>h) J ?_;refine N8 ?_;refine kx 76 (.bool false) J (by rw [(ZH _)]) ?_;refine h9 ?_;refine o9 (jj J J jn J (jF (k:=11) J)) ?_;refine S3 ?_;refine o9 (jH JM J J (fun w1 hs=>JY _ _ _ _ _ (qD rs ss how) w1 (jV (k:=10) J w1 hs) (jV (k:=4) J w1 hs) hst)) ?_;refine S4 ?_;refine kx 82 (.bool false) J (by rw [vv]) ?_;refine S8 ?_;refine qJ J (kD _) ?_;refine S8 ?_;refine a9 (jj J J jn J (jF (k:=11) J)) ?_;refine S2 ?_;refine QB (k:=10) (r':=JD _ (Qh 1 (qD rs ss how)) _ _ _) qj J J J (by decide) J (fun w1 hs=>zw (Zp (k:=10) J w1 hs) (xi (k:=10) J w1 hs) hss) (fun _ h=>h) J ?_;refine N8 ?_;refine a9 (jj J J jn J (jF (k:=11) J)) ?_;refine S1 ?_;refine a9 (jH qQ J J (fun w1 hs=>WP (jV (k:=10) J w1 hs) hss)) ?_;refine S8 ?_;refine qJ J (ZH _) ?_;refine S9 ?_;refine qJ J (kD _) ?_;refine S2 ?_;refine KZ (X:= ((Nat×Nat×Nat)×(Nat×Nat×Nat))×((Option Addr×Nat)×Nat×Nat)×Nat) (fun x=>True) (fun x=> [(17, .pointer (some ⟨x.2.2,0,none⟩)),(18, .int .i64 (wT rs ss how))]) (kK [6,8,9,12,15,16]) (fun x=> [JD (qD rs ss how).length (qD rs ss how) wlo whi wA, .cel bw 29 [.slice wA (qD rs ss how).length wc],JD (qD rs ss how).length (Qh 1 (qD rs ss how)) glo ghi gA, .cel b9 29 [.slice gA (qD rs ss how).length gc],JD n rs x.1.1.2.1 x.1.1.2.2 (some ⟨x.1.1.1,0,none⟩),JD n2 ss x.1.2.2.1 x.1.2.2.2 (some ⟨x.1.2.1,0,none⟩),JD (qD rs ss how).length (qD rs ss how) x.2.1.2.1 x.2.1.2.2 x.2.1.1.1, .cel x.2.2 29 [.slice x.2.1.1.1 (qD rs ss how).length x.2.1.1.2]]) (fun L h_31=> ?_) ?_
    ·refine S1 ?_;refine Jw 12 ?_;refine dK 0 ?_;refine dK 2 ?_;refine dK 4 ?_;refine Q4 (i:=1) (j:=9) J J (by decide) (by decide) (by kernel_rfl) J J ?_ ?_
     ·refine jP jN (X:=Nat×Nat×Nat) (v:=fun x=>Ju (some ⟨x.1,0,none⟩) n n) (r:=fun x=>JD n rs x.2.1 x.2.2 (some ⟨x.1,0,none⟩)) (H:=fun _=>True) J J J (lb J) (fun w1 hs=>JS (Je A n c rs w1 (h.over hs.fin) ht)) ?_
      rintro⟨pg,plo,phi⟩ -
      refine n9 ?_;refine jJ (u9 J) ?_;refine Q4 (i:=3) (j:=9) J J (by decide) (by decide) (by kernel_rfl) J J ?_ ?_
      ·refine jP jN (X:=Nat×Nat×Nat) (v:=fun x=>Ju (some ⟨x.1,0,none⟩) n2 n2) (r:=fun x=>JD n2 ss x.2.1 x.2.2 (some ⟨x.1,0,none⟩)) (H:=fun _=>True) J J J (lb J) (fun w1 hs=>JS (Je A2 n2 c2_ ss w1 (h2.over hs.fin) ht2)) ?_
       rintro⟨qg,qlo,qhi⟩ -
       refine n9 ?_;refine jJ (u9 J) ?_;refine Q4 (i:=5) (j:=9) J J (by decide) (by decide) (by kernel_rfl) J J ?_ ?_
       ·refine jP qK (X:= (Option Addr×Nat)×Nat×Nat) (v:=fun x=> .tuple #[Ju x.1.1 _ x.1.2, .int .i64 _]) (r:=fun x=>JD _ _ x.2.1 x.2.2 x.1.1) (H:=fun _=>True) J J J (lb J) (fun w1 hs=>qy (Qs _ n n rs _ n2 n2 ss how w1 (jV (k:=14) J w1 hs) (by omega) (jV (k:=15) J w1 hs) (by omega))) ?_
        rintro⟨⟨hA,hc⟩,hlo,hhi⟩ -
        refine n9 ?_;refine jJ (u9 J) ?_;refine dK 6 ?_;refine dK 7 ?_;refine dK 8 ?_;refine Jh (i:=9) J (by decide) (by kernel_rfl) J ?_;refine aL (fun b10=> ?_);refine n9 ?_;refine jJ (u9 J) ?_;refine Jh (i:=10) J (by decide) (by kernel_rfl) J ?_;refine j9 17 jk.szx ?_;refine n9 ?_;refine jJ (u9 J) ?_;refine dK 11 ?_;refine Jj (by kernel_rfl) ?_;refine S1 ?_
        exact JZ h_31 ((((pg,plo,phi),(qg,qlo,qhi)),((hA,hc),hlo,hhi),b10)) (trivial) ⟨J,sz⟩ (fun _ h=>h.picks [4,5,10,11,14,15,16,17] (by decide))
       ·refine aL (fun b11=> ?_);refine n9 ?_;refine jJ (u9 J) ?_;refine Jh (i:=5) J (by decide) (by kernel_rfl) J ?_;refine jP qK (X:= (Option Addr×Nat)×Nat×Nat) (v:=fun x=> .tuple #[Ju x.1.1 _ x.1.2, .int .i64 _]) (r:=fun x=>JD _ _ x.2.1 x.2.2 x.1.1) (H:=fun _=>True) J J J (lb J) (fun w1 hs=>qy (Qs _ n n rs _ n2 n2 ss how w1 (jV (k:=14) J w1 hs) (by omega) (jV (k:=15) J w1 hs) (by omega))) ?_
        rintro⟨⟨hA,hc⟩,hlo,hhi⟩ -
        refine n9 ?_;refine jJ (u9 J) ?_;refine dK 6 ?_;refine dK 7 ?_;refine dK 8 ?_;refine Jh (i:=10) J (by decide) (by kernel_rfl) J ?_;refine j9 16 jk.szx ?_;refine n9 ?_;refine jJ (u9 J) ?_;refine dK 11 ?_;refine Jj (by kernel_rfl) ?_;refine S1 ?_
        exact JZ h_31 ((((pg,plo,phi),(qg,qlo,qhi)),((hA,hc),hlo,hhi),b11)) (trivial) ⟨J,sz⟩ (fun _ h=>h.picks [4,5,10,11,14,15,17,16] (by decide))
      ·refine aL (fun b12=> ?_);refine n9 ?_;refine jJ (u9 J) ?_;refine Jh (i:=3) J (by decide) (by kernel_rfl) J ?_;refine jP jN (X:=Nat×Nat×Nat) (v:=fun x=>Ju (some ⟨x.1,0,none⟩) n2 n2) (r:=fun x=>JD n2 ss x.2.1 x.2.2 (some ⟨x.1,0,none⟩)) (H:=fun _=>True) J J J (lb J) (fun w1 hs=>JS (Je A2 n2 c2_ ss w1 (h2.over hs.fin) ht2)) ?_
       rintro⟨qg,qlo,qhi⟩ -
       refine n9 ?_;refine jJ (u9 J) ?_;refine Jh (i:=5) J (by decide) (by kernel_rfl) J ?_;refine jP qK (X:= (Option Addr×Nat)×Nat×Nat) (v:=fun x=> .tuple #[Ju x.1.1 _ x.1.2, .int .i64 _]) (r:=fun x=>JD _ _ x.2.1 x.2.2 x.1.1) (H:=fun _=>True) J J J (lb J) (fun w1 hs=>qy (Qs _ n n rs _ n2 n2 ss how w1 (jV (k:=14) J w1 hs) (by omega) (jV (k:=16) J w1 hs) (by omega))) ?_
       rintro⟨⟨hA,hc⟩,hlo,hhi⟩ -
       refine n9 ?_;refine jJ (u9 J) ?_;refine dK 6 ?_;refine dK 7 ?_;refine dK 8 ?_;refine Jh (i:=10) J (by decide) (by kernel_rfl) J ?_;refine j9 15 jk.szx ?_;refine n9 ?_;refine jJ (u9 J) ?_;refine dK 11 ?_;refine Jj (by kernel_rfl) ?_;refine S1 ?_
       exact JZ h_31 ((((pg,plo,phi),(qg,qlo,qhi)),((hA,hc),hlo,hhi),b12)) (trivial) ⟨J,sz⟩ (fun _ h=>h.picks [4,5,10,11,14,16,17,15] (by decide))
     ·refine aL (fun b13=> ?_);refine n9 ?_;refine jJ (u9 J) ?_;refine Jh (i:=1) J (by decide) (by kernel_rfl) J ?_;refine jP jN (X:=Nat×Nat×Nat) (v:=fun x=>Ju (some ⟨x.1,0,none⟩) n n) (r:=fun x=>JD n rs x.2.1 x.2.2 (some ⟨x.1,0,none⟩)) (H:=fun _=>True) J J J (lb J) (fun w1 hs=>JS (Je A n c rs w1 (h.over hs.fin) ht)) ?_
      rintro⟨pg,plo,phi⟩ -
      refine n9 ?_;refine jJ (u9 J) ?_;refine Jh (i:=3) J (by decide) (by kernel_rfl) J ?_;refine jP jN (X:=Nat×Nat×Nat) (v:=fun x=>Ju (some ⟨x.1,0,none⟩) n2 n2) (r:=fun x=>JD n2 ss x.2.1 x.2.2 (some ⟨x.1,0,none⟩)) (H:=fun _=>True) J J J (lb J) (fun w1 hs=>JS (Je A2 n2 c2_ ss w1 (h2.over hs.fin) ht2)) ?_
      rintro⟨qg,qlo,qhi⟩ -
      refine n9 ?_;refine jJ (u9 J) ?_;refine Jh (i:=5) J (by decide) (by kernel_rfl) J ?_;refine jP qK (X:= (Option Addr×Nat)×Nat×Nat) (v:=fun x=> .tuple #[Ju x.1.1 _ x.1.2, .int .i64 _]) (r:=fun x=>JD _ _ x.2.1 x.2.2 x.1.1) (H:=fun _=>True) J J J (lb J) (fun w1 hs=>qy (Qs _ n n rs _ n2 n2 ss how w1 (jV (k:=15) J w1 hs) (by omega) (jV (k:=16) J w1 hs) (by omega))) ?_
      rintro⟨⟨hA,hc⟩,hlo,hhi⟩ -
      refine n9 ?_;refine jJ (u9 J) ?_;refine dK 6 ?_;refine dK 7 ?_;refine dK 8 ?_;refine Jh (i:=10) J (by decide) (by kernel_rfl) J ?_;refine j9 14 jk.szx ?_;refine n9 ?_;refine jJ (u9 J) ?_;refine dK 11 ?_;refine Jj (by kernel_rfl) ?_;refine S1 ?_
      exact JZ h_31 ((((pg,plo,phi),(qg,qlo,qhi)),((hA,hc),hlo,hhi),b13)) (trivial) ⟨J,sz⟩ (fun _ h=>h.picks [4,5,10,11,15,16,17,14] (by decide))
    ·rintro⟨⟨⟨pg,plo,phi⟩,⟨qg,qlo,qhi⟩⟩,⟨⟨hA,hc⟩,hlo,hhi⟩,bh⟩ -
     refine v9 ?_;refine ji (by first | (dsimp only;done) | (dsimp only;rfl) | rfl) ?_;refine S5 ?_;refine a9 (jH JM J J (fun w1 hs=>JY _ _ _ _ _ (qD rs ss how) w1 (jV (k:=6) J w1 hs) (jV (k:=0) J w1 hs) hst)) ?_;refine S2 ?_;refine kx 111 (.bool false) J (by rw [vv]) ?_;refine S8 ?_;refine qJ J (kD _) ?_;refine S10 ?_;refine a9 (jH qQ J J (fun w1 hs=>WP (jV (k:=2) J w1 hs) hss)) ?_;refine S8 ?_;refine qJ J (ZH _) ?_;refine S9 ?_;refine qJ J (kD _) ?_;refine S7 ?_;refine jL J (.tmp J) ?_
     intro w' hs
     exact⟨rfl,hs.fin⟩
def vl (rs:List jS) (k:Nat) :List jS:= ((rs.take k).map Qx).filter fun r=>decide (0<r.length)
theorem BN {rs:List jS} {k:Nat} (hk:k<rs.length) (h:0< (Qx (rg rs k)).length) :vl rs (k+1) =vl rs k++ [Qx (rg rs k)] :=by
 unfold vl
 rw [vk hk,jfa,jfW]
 simp [h]
theorem Rx {rs:List jS} {k:Nat} (hk:k<rs.length) (h:¬0< (Qx (rg rs k)).length) :vl rs (k+1) =vl rs k:=by
 unfold vl
 rw [vk hk,jfa,jfW]
 have: (Qx (rg rs k)).length=0:=by omega
 simp [je9 this]
theorem zI (rs:List jS) (k:Nat) : (vl rs k).length≤rs.length:=by
 unfold vl
 refine jft (jf0 _ _) ?_
 rw [jeX,jeV]
 omega
theorem BM {rs:List jS} {k:Nat} {r:jS} (h:r∈vl rs k) :0<r.length∧∃q∈rs,Qx q=r:=by
 unfold vl at h
 rw [jgf] at h
 obtain ⟨q,hq,e⟩ :=je7.1 h.1
 exact⟨by simpa using h.2,q,jfj hq,e⟩
theorem Rh {rs:List jS} (hr:JO rs=true) {q:jS} (hq:q∈rs) :kH q=true:=by
 obtain ⟨i,hi,e⟩ :=jfm hq
 have:=kU hr hi
 rwa [←wl hi,e] at this
theorem MO {rs:List jS} (hr:JO rs=true) (k:Nat) :okRs (vl rs k) :=by
 refine⟨by have:=zI rs k;have:=wb hr;omega,fun r h=> ?_⟩
 obtain ⟨h0,q,hq,e⟩ :=BM h
 have:=zF (okPts.of (Rh hr hq))
 rw [e] at this
 exact⟨h0,by have:=this.1;omega,fun p hp=> (this.2 p hp).wide⟩
theorem Ry {rs:List jS} (hr:JO rs=true) {k:Nat} {r:jS} (h:r∈vl rs k) :r.length≤401:=by
 obtain ⟨h0,q,hq,e⟩ :=BM h
 have:=zF (okPts.of (Rh hr hq))
 rw [e] at this
 exact this.1
def vX (rs:List jS) :List jS:=if JO rs=true then VD (vl rs rs.length) else []
theorem RingsC.rings {w:World} {A:Option Addr} {n:Nat} {rs:List jS} (h:RingsC w A n rs) (hs:∀r∈rs,r.length≤1048577) :Rings w A n rs:=⟨h.1,fun hn=>by
 have hl:=h.1
 obtain ⟨b,o,hA,hb,hc⟩ :=h.2 hn
 refine⟨b,o,hA,hb,fun k hk=> ?_⟩
 obtain ⟨Ak,ck,h1,h2,h3⟩ :=hc k hk
 have:=hs rs[k] (jeW (by omega))
 rw [wl (by omega)] at this
 exact⟨Ak,ck,h1,h2,by omega⟩⟩
theorem GJ (bb oo:Nat) (A:Option Addr) (n c:Nat) (rs:List jS) (w:World) (hcell0:w.cell? ⟨bb,oo,none⟩ =some (.slice A n c)) (hbb:bb<w.heap.size) (h:Rings w A n rs) (hr:JO rs=true) :
  Calls Tryz.prog 48 #[.pointer (some ⟨bb,oo,none⟩)] w fun e w'=>∃A' c',e= .returned (Ju A' (vX rs).length c')∧OwnG w.heap.size w'.heap.size w' A' (vX rs).length (vX rs)∧Over w w':=by
 have hl:=h.1
 have hn40:=wb hr
 have eR:vX rs=VD (vl rs rs.length) :=if_pos hr
 refine jU (m:=35) (Tryz.func48) J J (lb J) ?_;refine S3 ?_;refine aL (fun b1=> ?_);refine N4 ?_;refine Jp J J (vr) J (lb J) (fun b2=> ?_);refine vR 1 1 J J ?_;refine N2 ?_;refine vF ?_;refine ji (by simp only [jeL,jeG,jeM,jeO,jeJ,jeI,Value.cells,jeK];rfl) ?_;refine S6 ?_;refine JI (X:=Nat×(Option Addr×Nat)×List Pc) (fun x=>x.1≤n∧x.2.2.map (·.xs) =vl rs x.1∧∀e∈x.2.2,e.xs.length≤e.c) (fun x=>n- x.1) (fun x=> [(3, .slice x.2.1.1 x.2.2.length x.2.1.2),(4, .int .i64 (x.1:Int))]) (kK [0,2]) (fun x=> [.cel b1 29 [.slice none 0 0],JP (Bs.N ⟨w,[]⟩) 71 1 x.2.2.length (x.2.2.map Pc.val) x.2.1,ve x.2.2]) (0,(some ⟨b2,0,none⟩,0),[]) (⟨jeE _,rfl,fun e he=>by cases he⟩) ⟨rfl,sz⟩ (fun _ h=>h) ?_
 intro⟨k,⟨rA,rc⟩,l⟩ hx L hL1
 refine v9 ?_;refine ji (by first | (dsimp only;done) | (dsimp only;rfl) | rfl) ?_
 obtain ⟨hk,hmp,hcp⟩ :k≤n∧l.map (·.xs) =vl rs k∧∀e∈l,e.xs.length≤e.c:=hx
 have hlk:l.length= (vl rs k).length:= (by have:=congrArg List.length hmp;rwa [jeX] at this)
 have hlen:=zI rs k
 refine S7 ?_;refine a9 (jr J J JN (QM hcell0 hbb)) ?_;refine S3 ?_;refine cZ (fun c1=> ?_) (fun c1=> ?_)
 ·have hlt:k<n:= (by omega)
  obtain ⟨eb,eo,Ak,ck,rfl,hbB,hcell,hpts,hmax⟩ :=h.at_ hlt
  have hpos:=Qa (kU hr (show k<rs.length by omega))
  have hsok:=zF (okPts.of (kU hr (show k<rs.length by omega)))
  have hs401:=hsok.1
  refine S9 ?_;refine a9 (jr J J JN (QM hcell0 hbb)) ?_;refine S3 ?_;refine a9 (jr J J JG (jah hcell hbB)) ?_;refine S1 ?_;refine jP xV (v:=fun x=> .slice x.1 _ x.2) (r:=fun x=>JP 0 54 2 _ _ x) (H:=fun _=>True) J J J (lb J) (fun w1 hs=>qS (Ot Ak _ ck (rg rs k) w1 (hpts.over hs.fin) (okPts.of (kU hr (by omega))) hpos.1)) ?_
  rintro⟨tA,tc⟩ -
  refine N8 ?_;refine cZ (fun c2=> ?_) (fun c2=> ?_)
  ·have hpl:0< (Qx (rg rs k)).length:= (by omega)
   refine QF (fun w hs=>wC (hs.all 3 _ J).1) ?_
   intro hcap
   refine S3 ?_;refine a9 (JV J J (KH J)) ?_;refine S1 ?_;refine Jp J J (qz J) J (lb J) (fun b3=> ?_);refine N1 ?_;refine JL (k:=1) J jI Jn (by decide) J (by decide) J J J (fun w' hs=>q6 hs (k:=4) J J) (by simp [Value.oneCell']) (by unfold maxLen;omega) (by omega) (jeD _) (fun r1=> ?_);refine N2 ?_;refine zT 3 J J (fun clo chi=> ?_);refine ji (by simp only [jeL,jeG,jeM,jeO,jeJ,jeI,Value.cells,jeK];rfl) ?_;refine VY 2 3 J J (by decide) J ?_;refine ji (by simp only [jeL,jeG,jeM,jeO,jeJ,jeI,Value.cells,jeK];rfl) ?_;refine S7 ?_
   exact j8 hL1 ((k+1,r1,l++ [⟨Qx (rg rs k),tA,tc,clo,chi⟩])) (⟨show k+1≤n by omega,by rw [jfa,hmp,BN (by omega) hpl];rfl,fun e he=> (jeY.1 he).elim (hcp e) (fun he=>by rw [jeT.1 he];exact hcap)⟩) (by simp only;omega) ⟨(by rw [jeC];rfl),vi (by omega),sz⟩ (fun _ h=>h.upto ⟨J,by rw [jfa,jeC];rfl,(vf _ _).symm,trivial⟩)
  ·refine S8 ?_
   exact j8 hL1 ((k+1,(rA,rc),l)) (⟨show k+1≤n by omega,by rw [hmp,Rx (by omega) (by omega)],hcp⟩) (by simp only;omega) ⟨J,vi (by omega),sz⟩ (u9 J)
 ·have hkn:k=rs.length:= (by omega)
  subst hkn
  rw [hlk]
  refine S9 ?_;refine jP UR (X:= (Option Addr×Nat)×Nat×Nat) (v:=fun x=>Ju x.1.1 _ x.1.2) (r:=fun x=>JD _ (VD (vl rs rs.length)) x.2.1 x.2.2 x.1.1) (H:=fun _=>True) J J J (lb J) (fun w1 hs=>Qm (xt rA _ rc (vl rs rs.length) w1 (hmp▸(Mm hs (kr:=1) (kp:=2) J J hlk hcp).rings (fun r hr'=> ((MO hr _).2 r (hmp▸hr')).2.1)) (MO hr _))) ?_
  rintro⟨⟨gA,gc⟩,glo,ghi⟩ -
  refine N4 ?_;refine jL J (J3 (k:=0) J jn J J) ?_
  intro w' hs
  have hg:=hs.all 3 _ rfl
  have ho:=wn hg.1 (fun b hb=> (hg.2.1 b hb).elim id (fun h=>by cases h))
  have eL: (vX rs).length= (vl rs rs.length).length:= (by rw [eR,UT])
  exact⟨gA,gc,by rw [eL],by rw [eL,eR];exact ho,hs.fin⟩
theorem Y7 (A:Option Addr) (n c:Nat) (rs:List jS) (w:World) (h:Rings w A n rs) (hr:JO rs=true) :
  Calls Tryz.prog 49 #[Ju A n c] w fun e w'=>∃A' c',e= .returned (Ju A' (vX rs).length c')∧OwnG w.heap.size w'.heap.size w' A' (vX rs).length (vX rs)∧Over w w':=by
 have hl:=h.1
 have hn40:=wb hr
 have eR:vX rs=VD (vl rs rs.length) :=if_pos hr
 refine jU (m:=30) (Tryz.func49) J J (lb J) ?_;refine S3 ?_;refine aX (fun b1=> ?_);refine N1 ?_;refine aL (fun b2=> ?_);refine N4 ?_;refine aL (fun b3=> ?_);refine N1 ?_;refine kz (T:=71) (s:=1) ?_;refine ji (by simp only [jeL,jeG,jeM,jeO,jeJ,jeI,Value.cells,jeK];rfl) ?_;refine vF ?_;refine ji (by simp only [jeL,jeG,jeM,jeO,jeJ,jeI,Value.cells,jeK];rfl) ?_;refine S9 ?_;refine JI (X:=Nat×(Option Addr×Nat)×List Pc) (fun x=>x.1≤n∧x.2.2.map (·.xs) =vl rs x.1∧∀e∈x.2.2,e.xs.length≤e.c) (fun x=>n- x.1) (fun x=> [(10, .int .i64 (x.1:Int))]) (kK [2,3,8,9]) (fun x=> [.cel b1 29 [.slice A n c], .cel b2 29 [.slice none 0 0], .cel b3 29 [.slice x.2.1.1 x.2.2.length x.2.1.2],JP (Bs.N ⟨w,[]⟩) 71 1 x.2.2.length (x.2.2.map Pc.val) x.2.1,ve x.2.2]) (0,(none,0),[]) (⟨jeE _,rfl,fun e he=>by cases he⟩) ⟨rfl,sz⟩ (fun _ h=>h) ?_
 intro⟨k,⟨rA,rc⟩,l⟩ hx L hL1
 refine v9 ?_;refine ji (by first | (dsimp only;done) | (dsimp only;rfl) | rfl) ?_
 obtain ⟨hk,hmp,hcp⟩ :k≤n∧l.map (·.xs) =vl rs k∧∀e∈l,e.xs.length≤e.c:=hx
 have hlk:l.length= (vl rs k).length:= (by have:=congrArg List.length hmp;rwa [jeX] at this)
 have hlen:=zI rs k
 refine S5 ?_;refine cZ (fun c1=> ?_) (fun c1=> ?_)
 ·have hlt:k<n:= (by omega)
  obtain ⟨eb,eo,Ak,ck,rfl,hbB,hcell,hpts,hmax⟩ :=h.at_ hlt
  have hpos:=Qa (kU hr (show k<rs.length by omega))
  have hsok:=zF (okPts.of (kU hr (show k<rs.length by omega)))
  have hs401:=hsok.1
  refine S7 ?_;refine a9 (jj J J JH J (ZM hcell hbB)) ?_;refine S1 ?_;refine aL (fun b4=> ?_);refine N8 ?_;refine jP YO (v:=fun x=> .slice x.1 _ x.2) (r:=fun x=>JP 0 54 2 _ _ x) (H:=fun _=>True) J J J (lb J) (fun w1 hs=>qS (Ge Ak _ ck (rg rs k) w1 (hpts.over hs.fin) (okPts.of (kU hr (by omega))) hpos.1)) ?_
  rintro⟨tA,tc⟩ -
  refine N8 ?_;refine cZ (fun c2=> ?_) (fun c2=> ?_)
  ·have hpl:0< (Qx (rg rs k)).length:= (by omega)
   refine QF (fun w hs=>wC (hs.all 6 _ J).1) ?_
   intro hcap
   refine S4 ?_;refine a9 (JV J J (KH J)) ?_;refine S1 ?_;refine Jp J J (qz J) J (lb J) (fun b5=> ?_);refine N1 ?_;refine JL (k:=3) J jI Jn (by decide) J (by decide) J J J (fun w' hs=>q6 hs (k:=7) J J) (by simp [Value.oneCell']) (by unfold maxLen;omega) (by omega) (jeD _) (fun r1=> ?_);refine N4 ?_;refine zT 6 J J (fun clo chi=> ?_);refine ji (by simp only [jeL,jeG,jeM,jeO,jeJ,jeI,Value.cells,jeK];rfl) ?_;refine VY 4 6 J J (by decide) J ?_;refine ji (by simp only [jeL,jeG,jeM,jeO,jeJ,jeI,Value.cells,jeK];rfl) ?_;refine S6 ?_
   exact j8 hL1 ((k+1,r1,l++ [⟨Qx (rg rs k),tA,tc,clo,chi⟩])) (⟨show k+1≤n by omega,by rw [jfa,hmp,BN (by omega) hpl];rfl,fun e he=> (jeY.1 he).elim (hcp e) (fun he=>by rw [jeT.1 he];exact hcap)⟩) (by simp only;omega) ⟨vi (by omega),sz⟩ (fun _ h=>h.upto ⟨J,J,by rw [jeC];rfl,by rw [jfa,jeC];rfl,(vf _ _).symm,trivial⟩)
  ·refine S7 ?_
   exact j8 hL1 ((k+1,(rA,rc),l)) (⟨show k+1≤n by omega,by rw [hmp,Rx (by omega) (by omega)],hcp⟩) (by simp only;omega) ⟨vi (by omega),sz⟩ (u9 J)
 ·have hkn:k=rs.length:= (by omega)
  subst hkn
  rw [hlk]
  refine S9 ?_;refine jP QL (X:= (Option Addr×Nat)×Nat×Nat) (v:=fun x=>Ju x.1.1 _ x.1.2) (r:=fun x=>JD _ (VD (vl rs rs.length)) x.2.1 x.2.2 x.1.1) (H:=fun _=>True) J J J (lb J) (fun w1 hs=>Qm (Kv rA _ rc (vl rs rs.length) w1 (hmp▸Mm hs (kr:=3) (kp:=4) J J hlk hcp) (MO hr _))) ?_
  rintro⟨⟨gA,gc⟩,glo,ghi⟩ -
  refine N4 ?_;refine jL J (J3 (k:=1) J jn J J) ?_
  intro w' hs
  have hg:=hs.all 5 _ rfl
  have ho:=wn hg.1 (fun b hb=> (hg.2.1 b hb).elim id (fun h=>by cases h))
  have eL: (vX rs).length= (vl rs rs.length).length:= (by rw [eR,UT])
  exact⟨gA,gc,by rw [eL],by rw [eL,eR];exact ho,hs.fin⟩
end Go.Proofs.YtkagkgjjfdkoaaaGreat
namespace Go.Proofs.YtkagkgjjfdkoaaaGreat
open Go Go.RowKit
theorem ZQ (rs:List jS) :smallR (vX rs) :=by
 unfold vX
 split
 ·rename_i h
  have hl:=zI rs rs.length
  have hr:=wb h
  refine⟨by rw [UT];omega,fun j hj=> ?_⟩
  obtain ⟨q,hq,e⟩ :=I2 (jeW hj)
  rw [wl hj] at e
  rw [←e,vQ]
  have:=Ry h hq
  omega
 ·exact smallR.nil
end Go.Proofs.YtkagkgjjfdkoaaaGreat
