import Derived.Test.YtkagkgjjfdkoaaaGreatMUn
import Derived.Test.YtkagkgjjfdkoaaaGreatMCmbLaw
import Derived.Test.YtkagkgjjfdkoaaaGreatMEnds
set_option linter.unusedVariables false
set_option linter.unusedSimpArgs false
namespace Go.Proofs.YtkagkgjjfdkoaaaGreat
open Go Go.RowKit
set_option maxRecDepth 100000
set_option maxHeartbeats 4000000
theorem jcy (A:Option Addr) (n c:Nat) (rs:List jS) (A2:Option Addr) (n2 c2_:Nat) (ss:List jS) (w:World) (h:Rings w A n rs) (hm: (n:Int)≤9223372036854775807) (h2:Rings w A2 n2 ss) (hm2: (n2:Int)≤9223372036854775807) :
  Calls Tryz.prog 8 #[Ju A n c,Ju A2 n2 c2_] w fun e w'=>e= .returned (.bool true)∧Over w w':=by
 have hl:=h.1
 have hl2:=h2.1
 have hsm:=WB rs ss 1
 have hst:=hsm.total
 have hss:=hsm.sum rfl
 refine jU (m:=119) (Tryz.func8) J J (lb J) ?_;refine S3 ?_;refine aX (fun b1=> ?_);refine N1 ?_;refine aX (fun b2=> ?_);refine N10 ?_;refine a9 (jH qI J J (fun w1 hs=>QK A n c rs 1048576 w1 (h.over hs.fin) (by omega) (by omega) hm)) ?_;refine S8 ?_;refine cZ (fun c1=> ?_) (fun c1=> ?_)
 ·refine S6 ?_;refine jL J (.tmp J) ?_
  intro w' hs
  exact⟨rfl,hs.fin⟩
 ·obtain ⟨ht,e1⟩ :=Y6 (jfx.2 c1)
  clear hm
  rw [e1]
  have htp: (0:Int)≤total rs:=jfV _
  refine S6 ?_;refine a9 (jH qI J J (fun w1 hs=>QK A2 n2 c2_ ss _ w1 (h2.over hs.fin) (by omega) (by omega) hm2)) ?_;refine S8 ?_;refine cZ (fun c2=> ?_) (fun c2=> ?_)
  ·refine S6 ?_;refine jL J (.tmp J) ?_
   intro w' hs
   exact⟨rfl,hs.fin⟩
  ·obtain ⟨ht2,_⟩ :=Y6 (jfx.2 c2)
   replace ht2: (total ss:Int)≤1048576:= (by omega)
   clear hm2
   have hts:=Vr ht hl
   have hts2:=Vr ht2 hl2
   refine S2 ?_;refine KZ (X:= ((Nat×Nat×Nat)×(Nat×Nat×Nat))×((Option Addr×Nat)×Nat×Nat)×Nat) (fun x=>True) (fun x=> [(6, .pointer (some ⟨x.2.2,0,none⟩)),(7, .int .i64 (wT rs ss 1))]) (kK [2,3,4]) (fun x=> [.cel b1 24 [.slice A n c], .cel b2 24 [.slice A2 n2 c2_],JD n rs x.1.1.2.1 x.1.1.2.2 (some ⟨x.1.1.1,0,none⟩),JD n2 ss x.1.2.2.1 x.1.2.2.2 (some ⟨x.1.2.1,0,none⟩),JD (qD rs ss 1).length (qD rs ss 1) x.2.1.2.1 x.2.1.2.2 x.2.1.1.1, .cel x.2.2 29 [.slice x.2.1.1.1 (qD rs ss 1).length x.2.1.1.2]]) (fun L h_8=> ?_) ?_
   ·refine S1 ?_;refine Jw 11 ?_;refine dK 0 ?_;refine dK 2 ?_;refine Q4 (i:=1) (j:=8) J J (by decide) (by decide) (by kernel_rfl) J J ?_ ?_
    ·refine jP jN (X:=Nat×Nat×Nat) (v:=fun x=>Ju (some ⟨x.1,0,none⟩) n n) (r:=fun x=>JD n rs x.2.1 x.2.2 (some ⟨x.1,0,none⟩)) (H:=fun _=>True) J J J (lb J) (fun w1 hs=>JS (Je A n c rs w1 (h.over hs.fin) ht)) ?_
     rintro⟨tg,tlo,thi⟩ -
     refine n9 ?_;refine jJ (u9 J) ?_;refine Q4 (i:=3) (j:=8) J J (by decide) (by decide) (by kernel_rfl) J J ?_ ?_
     ·refine jP jN (X:=Nat×Nat×Nat) (v:=fun x=>Ju (some ⟨x.1,0,none⟩) n2 n2) (r:=fun x=>JD n2 ss x.2.1 x.2.2 (some ⟨x.1,0,none⟩)) (H:=fun _=>True) J J J (lb J) (fun w1 hs=>JS (Je A2 n2 c2_ ss w1 (h2.over hs.fin) ht2)) ?_
      rintro⟨tg2,tlo2,thi2⟩ -
      refine n9 ?_;refine jJ (u9 J) ?_;refine Q4 (i:=4) (j:=8) J J (by decide) (by decide) (by kernel_rfl) J J ?_ ?_
      ·refine jP wa (X:= (Option Addr×Nat)×Nat×Nat) (v:=fun x=> .tuple #[Ju x.1.1 _ x.1.2, .int .i64 _]) (r:=fun x=>JD _ _ x.2.1 x.2.2 x.1.1) (H:=fun _=>True) J J J (lb J) (fun w1 hs=>qy (wi _ n n rs _ n2 n2 ss w1 (jV (k:=2) J w1 hs) (by omega) (jV (k:=3) J w1 hs) (by omega))) ?_
       rintro⟨⟨wA,wc⟩,wlo,whi⟩ -
       refine n9 ?_;refine jJ (u9 J) ?_;refine dK 5 ?_;refine dK 6 ?_;refine dK 7 ?_;refine Jh (i:=8) J (by decide) (by kernel_rfl) J ?_;refine aL (fun b3=> ?_);refine n9 ?_;refine jJ (u9 J) ?_;refine Jh (i:=9) J (by decide) (by kernel_rfl) J ?_;refine S1 ?_;refine jJ (u9 J) ?_;refine dK 10 ?_;refine Jj (by kernel_rfl) ?_;refine S1 ?_
       exact JZ h_8 ((((tg,tlo,thi),(tg2,tlo2,thi2)),((wA,wc),wlo,whi),b3)) (trivial) ⟨J,sz⟩ (fun _ h=>h.picks [0,1,2,3,4,5] (by decide))
      ·refine aL (fun b4=> ?_);refine n9 ?_;refine jJ (u9 J) ?_;refine Jh (i:=4) J (by decide) (by kernel_rfl) J ?_;refine jP wa (X:= (Option Addr×Nat)×Nat×Nat) (v:=fun x=> .tuple #[Ju x.1.1 _ x.1.2, .int .i64 _]) (r:=fun x=>JD _ _ x.2.1 x.2.2 x.1.1) (H:=fun _=>True) J J J (lb J) (fun w1 hs=>qy (wi _ n n rs _ n2 n2 ss w1 (jV (k:=2) J w1 hs) (by omega) (jV (k:=3) J w1 hs) (by omega))) ?_
       rintro⟨⟨wA,wc⟩,wlo,whi⟩ -
       refine n9 ?_;refine jJ (u9 J) ?_;refine dK 5 ?_;refine dK 6 ?_;refine dK 7 ?_;refine Jh (i:=9) J (by decide) (by kernel_rfl) J ?_;refine S1 ?_;refine jJ (u9 J) ?_;refine dK 10 ?_;refine Jj (by kernel_rfl) ?_;refine S1 ?_
       exact JZ h_8 ((((tg,tlo,thi),(tg2,tlo2,thi2)),((wA,wc),wlo,whi),b4)) (trivial) ⟨J,sz⟩ (fun _ h=>h.picks [0,1,2,3,5,4] (by decide))
     ·refine aL (fun b5=> ?_);refine n9 ?_;refine jJ (u9 J) ?_;refine Jh (i:=3) J (by decide) (by kernel_rfl) J ?_;refine jP jN (X:=Nat×Nat×Nat) (v:=fun x=>Ju (some ⟨x.1,0,none⟩) n2 n2) (r:=fun x=>JD n2 ss x.2.1 x.2.2 (some ⟨x.1,0,none⟩)) (H:=fun _=>True) J J J (lb J) (fun w1 hs=>JS (Je A2 n2 c2_ ss w1 (h2.over hs.fin) ht2)) ?_
      rintro⟨tg2,tlo2,thi2⟩ -
      refine n9 ?_;refine jJ (u9 J) ?_;refine Jh (i:=4) J (by decide) (by kernel_rfl) J ?_;refine jP wa (X:= (Option Addr×Nat)×Nat×Nat) (v:=fun x=> .tuple #[Ju x.1.1 _ x.1.2, .int .i64 _]) (r:=fun x=>JD _ _ x.2.1 x.2.2 x.1.1) (H:=fun _=>True) J J J (lb J) (fun w1 hs=>qy (wi _ n n rs _ n2 n2 ss w1 (jV (k:=2) J w1 hs) (by omega) (jV (k:=4) J w1 hs) (by omega))) ?_
      rintro⟨⟨wA,wc⟩,wlo,whi⟩ -
      refine n9 ?_;refine jJ (u9 J) ?_;refine dK 5 ?_;refine dK 6 ?_;refine dK 7 ?_;refine Jh (i:=9) J (by decide) (by kernel_rfl) J ?_;refine S1 ?_;refine jJ (u9 J) ?_;refine dK 10 ?_;refine Jj (by kernel_rfl) ?_;refine S1 ?_
      exact JZ h_8 ((((tg,tlo,thi),(tg2,tlo2,thi2)),((wA,wc),wlo,whi),b5)) (trivial) ⟨J,sz⟩ (fun _ h=>h.picks [0,1,2,4,5,3] (by decide))
    ·refine aL (fun b6=> ?_);refine n9 ?_;refine jJ (u9 J) ?_;refine Jh (i:=1) J (by decide) (by kernel_rfl) J ?_;refine jP jN (X:=Nat×Nat×Nat) (v:=fun x=>Ju (some ⟨x.1,0,none⟩) n n) (r:=fun x=>JD n rs x.2.1 x.2.2 (some ⟨x.1,0,none⟩)) (H:=fun _=>True) J J J (lb J) (fun w1 hs=>JS (Je A n c rs w1 (h.over hs.fin) ht)) ?_
     rintro⟨tg,tlo,thi⟩ -
     refine n9 ?_;refine jJ (u9 J) ?_;refine Jh (i:=3) J (by decide) (by kernel_rfl) J ?_;refine jP jN (X:=Nat×Nat×Nat) (v:=fun x=>Ju (some ⟨x.1,0,none⟩) n2 n2) (r:=fun x=>JD n2 ss x.2.1 x.2.2 (some ⟨x.1,0,none⟩)) (H:=fun _=>True) J J J (lb J) (fun w1 hs=>JS (Je A2 n2 c2_ ss w1 (h2.over hs.fin) ht2)) ?_
     rintro⟨tg2,tlo2,thi2⟩ -
     refine n9 ?_;refine jJ (u9 J) ?_;refine Jh (i:=4) J (by decide) (by kernel_rfl) J ?_;refine jP wa (X:= (Option Addr×Nat)×Nat×Nat) (v:=fun x=> .tuple #[Ju x.1.1 _ x.1.2, .int .i64 _]) (r:=fun x=>JD _ _ x.2.1 x.2.2 x.1.1) (H:=fun _=>True) J J J (lb J) (fun w1 hs=>qy (wi _ n n rs _ n2 n2 ss w1 (jV (k:=3) J w1 hs) (by omega) (jV (k:=4) J w1 hs) (by omega))) ?_
     rintro⟨⟨wA,wc⟩,wlo,whi⟩ -
     refine n9 ?_;refine jJ (u9 J) ?_;refine dK 5 ?_;refine dK 6 ?_;refine dK 7 ?_;refine Jh (i:=9) J (by decide) (by kernel_rfl) J ?_;refine S1 ?_;refine jJ (u9 J) ?_;refine dK 10 ?_;refine Jj (by kernel_rfl) ?_;refine S1 ?_
     exact JZ h_8 ((((tg,tlo,thi),(tg2,tlo2,thi2)),((wA,wc),wlo,whi),b6)) (trivial) ⟨J,sz⟩ (fun _ h=>h.picks [0,1,3,4,5,2] (by decide))
   ·rintro⟨⟨⟨tg,tlo,thi⟩,⟨tg2,tlo2,thi2⟩⟩,⟨⟨wA,wc⟩,wlo,whi⟩,bw⟩ -
    refine v9 ?_;refine ji (by first | (dsimp only;done) | (dsimp only;rfl) | rfl) ?_;refine S4 ?_;refine jP jN (X:=Nat×Nat×Nat) (v:=fun x=>Ju (some ⟨x.1,0,none⟩) n n) (r:=fun x=>JD n rs x.2.1 x.2.2 (some ⟨x.1,0,none⟩)) (H:=fun _=>True) J J J (lb J) (fun w1 hs=>JS (Je A n c rs w1 (h.over hs.fin) ht)) ?_
    rintro⟨xg,xlo,xhi⟩ -
    refine N1 ?_;refine aL (fun b7=> ?_);refine N7 ?_;refine jP jN (X:=Nat×Nat×Nat) (v:=fun x=>Ju (some ⟨x.1,0,none⟩) n2 n2) (r:=fun x=>JD n2 ss x.2.1 x.2.2 (some ⟨x.1,0,none⟩)) (H:=fun _=>True) J J J (lb J) (fun w1 hs=>JS (Je A2 n2 c2_ ss w1 (h2.over hs.fin) ht2)) ?_
    rintro⟨yg,ylo,yhi⟩ -
    refine N1 ?_;refine aL (fun b8=> ?_);refine N8 ?_;refine jP KI (X:= (Option Addr×Nat)×Nat×Nat) (v:=fun x=> .tuple #[Ju x.1.1 _ x.1.2, .int .i64 _]) (r:=fun x=>JD _ _ x.2.1 x.2.2 x.1.1) (H:=fun _=>True) J J J (lb J) (fun w1 hs=>qy (wG _ n n rs _ n2 n2 ss w1 (jV (k:=6) J w1 hs) (by omega) (jV (k:=8) J w1 hs) (by omega))) ?_
    rintro⟨⟨gA,gc⟩,glo,ghi⟩ -
    refine N4 ?_;refine aL (fun b9=> ?_);refine N1 ?_;refine j9 11 jk.szx ?_;refine N5 ?_;refine a9 (jj J J jn J (jF (k:=11) J)) ?_;refine S1 ?_;refine a9 (jH JM J J (fun w1 hs=>JY _ _ _ _ _ (qD rs ss 1) w1 (jV (k:=10) J w1 hs) (jV (k:=4) J w1 hs) hst)) ?_;refine S2 ?_;refine kx 49 (.bool false) J (by rw [vv]) ?_;refine S8 ?_;refine qJ J (kD _) ?_;refine S5 ?_;refine Jw 5 ?_;refine dK 0 ?_;refine dK 1 ?_;refine Jh (i:=2) J (by decide) (by kernel_rfl) J ?_;refine jP jN (X:=Nat×Nat×Nat) (v:=fun x=>Ju (some ⟨x.1,0,none⟩) n n) (r:=fun x=>JD n rs x.2.1 x.2.2 (some ⟨x.1,0,none⟩)) (H:=fun _=>True) J J J (lb J) (fun w1 hs=>JS (Je A n c rs w1 (h.over hs.fin) ht)) ?_
    rintro⟨ug,ulo,uhi⟩ -
    refine n9 ?_;refine Q5 (u9 J) ?_;refine dZ 3 J (jH JM J J (fun w1 hs=>JY _ _ _ _ _ rs w1 (jV (k:=6) J w1 hs) (jV (k:=12) J w1 hs) ht)) ?_;refine dK 4 ?_;refine Jj (by kernel_rfl) ?_;refine S1 ?_;refine qJ J (J) ?_;refine S5 ?_;refine Jw 5 ?_;refine dK 0 ?_;refine dK 1 ?_;refine Jh (i:=2) J (by decide) (by kernel_rfl) J ?_;refine jP jN (X:=Nat×Nat×Nat) (v:=fun x=>Ju (some ⟨x.1,0,none⟩) n2 n2) (r:=fun x=>JD n2 ss x.2.1 x.2.2 (some ⟨x.1,0,none⟩)) (H:=fun _=>True) J J J (lb J) (fun w1 hs=>JS (Je A2 n2 c2_ ss w1 (h2.over hs.fin) ht2)) ?_
    rintro⟨vg,vlo,vhi⟩ -
    refine n9 ?_;refine Q5 (u9 J) ?_;refine dZ 3 J (jH JM J J (fun w1 hs=>JY _ _ _ _ _ ss w1 (jV (k:=8) J w1 hs) (jV (k:=13) J w1 hs) ht2)) ?_;refine dK 4 ?_;refine Jj (by kernel_rfl) ?_;refine S1 ?_;refine qJ J (J) ?_;refine S11 ?_;refine QB (k:=6) (r':=JD n (Qh _ rs) _ _ _) qj J J J (by decide) J (fun w1 hs=>WY 0 (Zp (k:=6) J w1 hs) (xi (k:=6) J w1 hs) (by omega) (by omega)) (fun _ h=>h) J ?_;refine N7 ?_;refine QB (k:=8) (r':=JD n2 (Qh _ ss) _ _ _) qj J J J (by decide) J (fun w1 hs=>WY _ (Zp (k:=8) J w1 hs) (xi (k:=8) J w1 hs) (by omega) (by omega)) (fun _ h=>h) J ?_;refine N8 ?_;refine kx 72 (.bool false) J (by rw [(ZH _)]) ?_;refine h9 ?_;refine o9 (jj J J jn J (jF (k:=11) J)) ?_;refine S3 ?_;refine o9 (jH JM J J (fun w1 hs=>JY _ _ _ _ _ (qD rs ss 1) w1 (jV (k:=10) J w1 hs) (jV (k:=4) J w1 hs) hst)) ?_;refine S4 ?_;refine kx 78 (.bool false) J (by rw [vv]) ?_;refine S8 ?_;refine qJ J (kD _) ?_;refine S8 ?_;refine a9 (jj J J jn J (jF (k:=11) J)) ?_;refine S2 ?_;refine QB (k:=10) (r':=JD _ (Qh 1 (qD rs ss 1)) _ _ _) qj J J J (by decide) J (fun w1 hs=>zw (Zp (k:=10) J w1 hs) (xi (k:=10) J w1 hs) hss) (fun _ h=>h) J ?_;refine N8 ?_;refine a9 (jj J J jn J (jF (k:=11) J)) ?_;refine S1 ?_;refine a9 (jH qQ J J (fun w1 hs=>WP (jV (k:=10) J w1 hs) hss)) ?_;refine S8 ?_;refine qJ J (ZH _) ?_;refine S9 ?_;refine qJ J (kD _) ?_;refine S2 ?_;refine KZ (X:= ((Nat×Nat×Nat)×(Nat×Nat×Nat))×((Option Addr×Nat)×Nat×Nat)×Nat) (fun x=>True) (fun x=> [(15, .pointer (some ⟨x.2.2,0,none⟩)),(16, .int .i64 (wT rs ss 1))]) (kK [4,6,7,10,13,14]) (fun x=> [JD (qD rs ss 1).length (qD rs ss 1) wlo whi wA, .cel bw 29 [.slice wA (qD rs ss 1).length wc],JD (qD rs ss 1).length (Qh 1 (qD rs ss 1)) glo ghi gA, .cel b9 29 [.slice gA (qD rs ss 1).length gc],JD n rs x.1.1.2.1 x.1.1.2.2 (some ⟨x.1.1.1,0,none⟩),JD n2 ss x.1.2.2.1 x.1.2.2.2 (some ⟨x.1.2.1,0,none⟩),JD (qD rs ss 1).length (qD rs ss 1) x.2.1.2.1 x.2.1.2.2 x.2.1.1.1, .cel x.2.2 29 [.slice x.2.1.1.1 (qD rs ss 1).length x.2.1.1.2]]) (fun L h_31=> ?_) ?_
    ·refine S1 ?_;refine Jw 11 ?_;refine dK 0 ?_;refine dK 2 ?_;refine Q4 (i:=1) (j:=8) J J (by decide) (by decide) (by kernel_rfl) J J ?_ ?_
     ·refine jP jN (X:=Nat×Nat×Nat) (v:=fun x=>Ju (some ⟨x.1,0,none⟩) n n) (r:=fun x=>JD n rs x.2.1 x.2.2 (some ⟨x.1,0,none⟩)) (H:=fun _=>True) J J J (lb J) (fun w1 hs=>JS (Je A n c rs w1 (h.over hs.fin) ht)) ?_
      rintro⟨pg,plo,phi⟩ -
      refine n9 ?_;refine jJ (u9 J) ?_;refine Q4 (i:=3) (j:=8) J J (by decide) (by decide) (by kernel_rfl) J J ?_ ?_
      ·refine jP jN (X:=Nat×Nat×Nat) (v:=fun x=>Ju (some ⟨x.1,0,none⟩) n2 n2) (r:=fun x=>JD n2 ss x.2.1 x.2.2 (some ⟨x.1,0,none⟩)) (H:=fun _=>True) J J J (lb J) (fun w1 hs=>JS (Je A2 n2 c2_ ss w1 (h2.over hs.fin) ht2)) ?_
       rintro⟨qg,qlo,qhi⟩ -
       refine n9 ?_;refine jJ (u9 J) ?_;refine Q4 (i:=4) (j:=8) J J (by decide) (by decide) (by kernel_rfl) J J ?_ ?_
       ·refine jP KI (X:= (Option Addr×Nat)×Nat×Nat) (v:=fun x=> .tuple #[Ju x.1.1 _ x.1.2, .int .i64 _]) (r:=fun x=>JD _ _ x.2.1 x.2.2 x.1.1) (H:=fun _=>True) J J J (lb J) (fun w1 hs=>qy (wG _ n n rs _ n2 n2 ss w1 (jV (k:=14) J w1 hs) (by omega) (jV (k:=15) J w1 hs) (by omega))) ?_
        rintro⟨⟨hA,hc⟩,hlo,hhi⟩ -
        refine n9 ?_;refine jJ (u9 J) ?_;refine dK 5 ?_;refine dK 6 ?_;refine dK 7 ?_;refine Jh (i:=8) J (by decide) (by kernel_rfl) J ?_;refine aL (fun b10=> ?_);refine n9 ?_;refine jJ (u9 J) ?_;refine Jh (i:=9) J (by decide) (by kernel_rfl) J ?_;refine j9 17 jk.szx ?_;refine n9 ?_;refine jJ (u9 J) ?_;refine dK 10 ?_;refine Jj (by kernel_rfl) ?_;refine S1 ?_
        exact JZ h_31 ((((pg,plo,phi),(qg,qlo,qhi)),((hA,hc),hlo,hhi),b10)) (trivial) ⟨J,sz⟩ (fun _ h=>h.picks [4,5,10,11,14,15,16,17] (by decide))
       ·refine aL (fun b11=> ?_);refine n9 ?_;refine jJ (u9 J) ?_;refine Jh (i:=4) J (by decide) (by kernel_rfl) J ?_;refine jP KI (X:= (Option Addr×Nat)×Nat×Nat) (v:=fun x=> .tuple #[Ju x.1.1 _ x.1.2, .int .i64 _]) (r:=fun x=>JD _ _ x.2.1 x.2.2 x.1.1) (H:=fun _=>True) J J J (lb J) (fun w1 hs=>qy (wG _ n n rs _ n2 n2 ss w1 (jV (k:=14) J w1 hs) (by omega) (jV (k:=15) J w1 hs) (by omega))) ?_
        rintro⟨⟨hA,hc⟩,hlo,hhi⟩ -
        refine n9 ?_;refine jJ (u9 J) ?_;refine dK 5 ?_;refine dK 6 ?_;refine dK 7 ?_;refine Jh (i:=9) J (by decide) (by kernel_rfl) J ?_;refine j9 16 jk.szx ?_;refine n9 ?_;refine jJ (u9 J) ?_;refine dK 10 ?_;refine Jj (by kernel_rfl) ?_;refine S1 ?_
        exact JZ h_31 ((((pg,plo,phi),(qg,qlo,qhi)),((hA,hc),hlo,hhi),b11)) (trivial) ⟨J,sz⟩ (fun _ h=>h.picks [4,5,10,11,14,15,17,16] (by decide))
      ·refine aL (fun b12=> ?_);refine n9 ?_;refine jJ (u9 J) ?_;refine Jh (i:=3) J (by decide) (by kernel_rfl) J ?_;refine jP jN (X:=Nat×Nat×Nat) (v:=fun x=>Ju (some ⟨x.1,0,none⟩) n2 n2) (r:=fun x=>JD n2 ss x.2.1 x.2.2 (some ⟨x.1,0,none⟩)) (H:=fun _=>True) J J J (lb J) (fun w1 hs=>JS (Je A2 n2 c2_ ss w1 (h2.over hs.fin) ht2)) ?_
       rintro⟨qg,qlo,qhi⟩ -
       refine n9 ?_;refine jJ (u9 J) ?_;refine Jh (i:=4) J (by decide) (by kernel_rfl) J ?_;refine jP KI (X:= (Option Addr×Nat)×Nat×Nat) (v:=fun x=> .tuple #[Ju x.1.1 _ x.1.2, .int .i64 _]) (r:=fun x=>JD _ _ x.2.1 x.2.2 x.1.1) (H:=fun _=>True) J J J (lb J) (fun w1 hs=>qy (wG _ n n rs _ n2 n2 ss w1 (jV (k:=14) J w1 hs) (by omega) (jV (k:=16) J w1 hs) (by omega))) ?_
       rintro⟨⟨hA,hc⟩,hlo,hhi⟩ -
       refine n9 ?_;refine jJ (u9 J) ?_;refine dK 5 ?_;refine dK 6 ?_;refine dK 7 ?_;refine Jh (i:=9) J (by decide) (by kernel_rfl) J ?_;refine j9 15 jk.szx ?_;refine n9 ?_;refine jJ (u9 J) ?_;refine dK 10 ?_;refine Jj (by kernel_rfl) ?_;refine S1 ?_
       exact JZ h_31 ((((pg,plo,phi),(qg,qlo,qhi)),((hA,hc),hlo,hhi),b12)) (trivial) ⟨J,sz⟩ (fun _ h=>h.picks [4,5,10,11,14,16,17,15] (by decide))
     ·refine aL (fun b13=> ?_);refine n9 ?_;refine jJ (u9 J) ?_;refine Jh (i:=1) J (by decide) (by kernel_rfl) J ?_;refine jP jN (X:=Nat×Nat×Nat) (v:=fun x=>Ju (some ⟨x.1,0,none⟩) n n) (r:=fun x=>JD n rs x.2.1 x.2.2 (some ⟨x.1,0,none⟩)) (H:=fun _=>True) J J J (lb J) (fun w1 hs=>JS (Je A n c rs w1 (h.over hs.fin) ht)) ?_
      rintro⟨pg,plo,phi⟩ -
      refine n9 ?_;refine jJ (u9 J) ?_;refine Jh (i:=3) J (by decide) (by kernel_rfl) J ?_;refine jP jN (X:=Nat×Nat×Nat) (v:=fun x=>Ju (some ⟨x.1,0,none⟩) n2 n2) (r:=fun x=>JD n2 ss x.2.1 x.2.2 (some ⟨x.1,0,none⟩)) (H:=fun _=>True) J J J (lb J) (fun w1 hs=>JS (Je A2 n2 c2_ ss w1 (h2.over hs.fin) ht2)) ?_
      rintro⟨qg,qlo,qhi⟩ -
      refine n9 ?_;refine jJ (u9 J) ?_;refine Jh (i:=4) J (by decide) (by kernel_rfl) J ?_;refine jP KI (X:= (Option Addr×Nat)×Nat×Nat) (v:=fun x=> .tuple #[Ju x.1.1 _ x.1.2, .int .i64 _]) (r:=fun x=>JD _ _ x.2.1 x.2.2 x.1.1) (H:=fun _=>True) J J J (lb J) (fun w1 hs=>qy (wG _ n n rs _ n2 n2 ss w1 (jV (k:=15) J w1 hs) (by omega) (jV (k:=16) J w1 hs) (by omega))) ?_
      rintro⟨⟨hA,hc⟩,hlo,hhi⟩ -
      refine n9 ?_;refine jJ (u9 J) ?_;refine dK 5 ?_;refine dK 6 ?_;refine dK 7 ?_;refine Jh (i:=9) J (by decide) (by kernel_rfl) J ?_;refine j9 14 jk.szx ?_;refine n9 ?_;refine jJ (u9 J) ?_;refine dK 10 ?_;refine Jj (by kernel_rfl) ?_;refine S1 ?_
      exact JZ h_31 ((((pg,plo,phi),(qg,qlo,qhi)),((hA,hc),hlo,hhi),b13)) (trivial) ⟨J,sz⟩ (fun _ h=>h.picks [4,5,10,11,15,16,17,14] (by decide))
    ·rintro⟨⟨⟨pg,plo,phi⟩,⟨qg,qlo,qhi⟩⟩,⟨⟨hA,hc⟩,hlo,hhi⟩,bh⟩ -
     refine v9 ?_;refine ji (by first | (dsimp only;done) | (dsimp only;rfl) | rfl) ?_;refine S5 ?_;refine a9 (jH JM J J (fun w1 hs=>JY _ _ _ _ _ (qD rs ss 1) w1 (jV (k:=6) J w1 hs) (jV (k:=0) J w1 hs) hst)) ?_;refine S2 ?_;refine kx 106 (.bool false) J (by rw [vv]) ?_;refine S8 ?_;refine qJ J (kD _) ?_;refine S10 ?_;refine a9 (jH qQ J J (fun w1 hs=>WP (jV (k:=2) J w1 hs) hss)) ?_;refine S8 ?_;refine qJ J (ZH _) ?_;refine S9 ?_;refine qJ J (kD _) ?_;refine S7 ?_;refine jL J (.tmp J) ?_
     intro w' hs
     exact⟨rfl,hs.fin⟩
theorem jdf (A:Option Addr) (n c:Nat) (rs:List jS) (A2:Option Addr) (n2 c2_:Nat) (ss:List jS) (w:World) (h:Rings w A n rs) (hm: (n:Int)≤9223372036854775807) (h2:Rings w A2 n2 ss) (hm2: (n2:Int)≤9223372036854775807) :
  Calls Tryz.prog 6 #[Ju A n c,Ju A2 n2 c2_] w fun e w'=>e= .returned (.bool true)∧Over w w':=by
 have hl:=h.1
 have hl2:=h2.1
 have hsm:=WB rs ss 2
 have hst:=hsm.total
 have hss:=hsm.sum rfl
 refine jU (m:=119) (Tryz.func6) J J (lb J) ?_;refine S3 ?_;refine aX (fun b1=> ?_);refine N1 ?_;refine aX (fun b2=> ?_);refine N10 ?_;refine a9 (jH qI J J (fun w1 hs=>QK A n c rs 1048576 w1 (h.over hs.fin) (by omega) (by omega) hm)) ?_;refine S8 ?_;refine cZ (fun c1=> ?_) (fun c1=> ?_)
 ·refine S6 ?_;refine jL J (.tmp J) ?_
  intro w' hs
  exact⟨rfl,hs.fin⟩
 ·obtain ⟨ht,e1⟩ :=Y6 (jfx.2 c1)
  clear hm
  rw [e1]
  have htp: (0:Int)≤total rs:=jfV _
  refine S6 ?_;refine a9 (jH qI J J (fun w1 hs=>QK A2 n2 c2_ ss _ w1 (h2.over hs.fin) (by omega) (by omega) hm2)) ?_;refine S8 ?_;refine cZ (fun c2=> ?_) (fun c2=> ?_)
  ·refine S6 ?_;refine jL J (.tmp J) ?_
   intro w' hs
   exact⟨rfl,hs.fin⟩
  ·obtain ⟨ht2,_⟩ :=Y6 (jfx.2 c2)
   replace ht2: (total ss:Int)≤1048576:= (by omega)
   clear hm2
   have hts:=Vr ht hl
   have hts2:=Vr ht2 hl2
   refine S2 ?_;refine KZ (X:= ((Nat×Nat×Nat)×(Nat×Nat×Nat))×((Option Addr×Nat)×Nat×Nat)×Nat) (fun x=>True) (fun x=> [(6, .pointer (some ⟨x.2.2,0,none⟩)),(7, .int .i64 (wT rs ss 2))]) (kK [2,3,4]) (fun x=> [.cel b1 24 [.slice A n c], .cel b2 24 [.slice A2 n2 c2_],JD n rs x.1.1.2.1 x.1.1.2.2 (some ⟨x.1.1.1,0,none⟩),JD n2 ss x.1.2.2.1 x.1.2.2.2 (some ⟨x.1.2.1,0,none⟩),JD (qD rs ss 2).length (qD rs ss 2) x.2.1.2.1 x.2.1.2.2 x.2.1.1.1, .cel x.2.2 29 [.slice x.2.1.1.1 (qD rs ss 2).length x.2.1.1.2]]) (fun L h_8=> ?_) ?_
   ·refine S1 ?_;refine Jw 11 ?_;refine dK 0 ?_;refine dK 2 ?_;refine Q4 (i:=1) (j:=8) J J (by decide) (by decide) (by kernel_rfl) J J ?_ ?_
    ·refine jP jN (X:=Nat×Nat×Nat) (v:=fun x=>Ju (some ⟨x.1,0,none⟩) n n) (r:=fun x=>JD n rs x.2.1 x.2.2 (some ⟨x.1,0,none⟩)) (H:=fun _=>True) J J J (lb J) (fun w1 hs=>JS (Je A n c rs w1 (h.over hs.fin) ht)) ?_
     rintro⟨tg,tlo,thi⟩ -
     refine n9 ?_;refine jJ (u9 J) ?_;refine Q4 (i:=3) (j:=8) J J (by decide) (by decide) (by kernel_rfl) J J ?_ ?_
     ·refine jP jN (X:=Nat×Nat×Nat) (v:=fun x=>Ju (some ⟨x.1,0,none⟩) n2 n2) (r:=fun x=>JD n2 ss x.2.1 x.2.2 (some ⟨x.1,0,none⟩)) (H:=fun _=>True) J J J (lb J) (fun w1 hs=>JS (Je A2 n2 c2_ ss w1 (h2.over hs.fin) ht2)) ?_
      rintro⟨tg2,tlo2,thi2⟩ -
      refine n9 ?_;refine jJ (u9 J) ?_;refine Q4 (i:=4) (j:=8) J J (by decide) (by decide) (by kernel_rfl) J J ?_ ?_
      ·refine jP We (X:= (Option Addr×Nat)×Nat×Nat) (v:=fun x=> .tuple #[Ju x.1.1 _ x.1.2, .int .i64 _]) (r:=fun x=>JD _ _ x.2.1 x.2.2 x.1.1) (H:=fun _=>True) J J J (lb J) (fun w1 hs=>qy (Wi _ n n rs _ n2 n2 ss w1 (jV (k:=2) J w1 hs) (by omega) (jV (k:=3) J w1 hs) (by omega))) ?_
       rintro⟨⟨wA,wc⟩,wlo,whi⟩ -
       refine n9 ?_;refine jJ (u9 J) ?_;refine dK 5 ?_;refine dK 6 ?_;refine dK 7 ?_;refine Jh (i:=8) J (by decide) (by kernel_rfl) J ?_;refine aL (fun b3=> ?_);refine n9 ?_;refine jJ (u9 J) ?_;refine Jh (i:=9) J (by decide) (by kernel_rfl) J ?_;refine S1 ?_;refine jJ (u9 J) ?_;refine dK 10 ?_;refine Jj (by kernel_rfl) ?_;refine S1 ?_
       exact JZ h_8 ((((tg,tlo,thi),(tg2,tlo2,thi2)),((wA,wc),wlo,whi),b3)) (trivial) ⟨J,sz⟩ (fun _ h=>h.picks [0,1,2,3,4,5] (by decide))
      ·refine aL (fun b4=> ?_);refine n9 ?_;refine jJ (u9 J) ?_;refine Jh (i:=4) J (by decide) (by kernel_rfl) J ?_;refine jP We (X:= (Option Addr×Nat)×Nat×Nat) (v:=fun x=> .tuple #[Ju x.1.1 _ x.1.2, .int .i64 _]) (r:=fun x=>JD _ _ x.2.1 x.2.2 x.1.1) (H:=fun _=>True) J J J (lb J) (fun w1 hs=>qy (Wi _ n n rs _ n2 n2 ss w1 (jV (k:=2) J w1 hs) (by omega) (jV (k:=3) J w1 hs) (by omega))) ?_
       rintro⟨⟨wA,wc⟩,wlo,whi⟩ -
       refine n9 ?_;refine jJ (u9 J) ?_;refine dK 5 ?_;refine dK 6 ?_;refine dK 7 ?_;refine Jh (i:=9) J (by decide) (by kernel_rfl) J ?_;refine S1 ?_;refine jJ (u9 J) ?_;refine dK 10 ?_;refine Jj (by kernel_rfl) ?_;refine S1 ?_
       exact JZ h_8 ((((tg,tlo,thi),(tg2,tlo2,thi2)),((wA,wc),wlo,whi),b4)) (trivial) ⟨J,sz⟩ (fun _ h=>h.picks [0,1,2,3,5,4] (by decide))
     ·refine aL (fun b5=> ?_);refine n9 ?_;refine jJ (u9 J) ?_;refine Jh (i:=3) J (by decide) (by kernel_rfl) J ?_;refine jP jN (X:=Nat×Nat×Nat) (v:=fun x=>Ju (some ⟨x.1,0,none⟩) n2 n2) (r:=fun x=>JD n2 ss x.2.1 x.2.2 (some ⟨x.1,0,none⟩)) (H:=fun _=>True) J J J (lb J) (fun w1 hs=>JS (Je A2 n2 c2_ ss w1 (h2.over hs.fin) ht2)) ?_
      rintro⟨tg2,tlo2,thi2⟩ -
      refine n9 ?_;refine jJ (u9 J) ?_;refine Jh (i:=4) J (by decide) (by kernel_rfl) J ?_;refine jP We (X:= (Option Addr×Nat)×Nat×Nat) (v:=fun x=> .tuple #[Ju x.1.1 _ x.1.2, .int .i64 _]) (r:=fun x=>JD _ _ x.2.1 x.2.2 x.1.1) (H:=fun _=>True) J J J (lb J) (fun w1 hs=>qy (Wi _ n n rs _ n2 n2 ss w1 (jV (k:=2) J w1 hs) (by omega) (jV (k:=4) J w1 hs) (by omega))) ?_
      rintro⟨⟨wA,wc⟩,wlo,whi⟩ -
      refine n9 ?_;refine jJ (u9 J) ?_;refine dK 5 ?_;refine dK 6 ?_;refine dK 7 ?_;refine Jh (i:=9) J (by decide) (by kernel_rfl) J ?_;refine S1 ?_;refine jJ (u9 J) ?_;refine dK 10 ?_;refine Jj (by kernel_rfl) ?_;refine S1 ?_
      exact JZ h_8 ((((tg,tlo,thi),(tg2,tlo2,thi2)),((wA,wc),wlo,whi),b5)) (trivial) ⟨J,sz⟩ (fun _ h=>h.picks [0,1,2,4,5,3] (by decide))
    ·refine aL (fun b6=> ?_);refine n9 ?_;refine jJ (u9 J) ?_;refine Jh (i:=1) J (by decide) (by kernel_rfl) J ?_;refine jP jN (X:=Nat×Nat×Nat) (v:=fun x=>Ju (some ⟨x.1,0,none⟩) n n) (r:=fun x=>JD n rs x.2.1 x.2.2 (some ⟨x.1,0,none⟩)) (H:=fun _=>True) J J J (lb J) (fun w1 hs=>JS (Je A n c rs w1 (h.over hs.fin) ht)) ?_
     rintro⟨tg,tlo,thi⟩ -
     refine n9 ?_;refine jJ (u9 J) ?_;refine Jh (i:=3) J (by decide) (by kernel_rfl) J ?_;refine jP jN (X:=Nat×Nat×Nat) (v:=fun x=>Ju (some ⟨x.1,0,none⟩) n2 n2) (r:=fun x=>JD n2 ss x.2.1 x.2.2 (some ⟨x.1,0,none⟩)) (H:=fun _=>True) J J J (lb J) (fun w1 hs=>JS (Je A2 n2 c2_ ss w1 (h2.over hs.fin) ht2)) ?_
     rintro⟨tg2,tlo2,thi2⟩ -
     refine n9 ?_;refine jJ (u9 J) ?_;refine Jh (i:=4) J (by decide) (by kernel_rfl) J ?_;refine jP We (X:= (Option Addr×Nat)×Nat×Nat) (v:=fun x=> .tuple #[Ju x.1.1 _ x.1.2, .int .i64 _]) (r:=fun x=>JD _ _ x.2.1 x.2.2 x.1.1) (H:=fun _=>True) J J J (lb J) (fun w1 hs=>qy (Wi _ n n rs _ n2 n2 ss w1 (jV (k:=3) J w1 hs) (by omega) (jV (k:=4) J w1 hs) (by omega))) ?_
     rintro⟨⟨wA,wc⟩,wlo,whi⟩ -
     refine n9 ?_;refine jJ (u9 J) ?_;refine dK 5 ?_;refine dK 6 ?_;refine dK 7 ?_;refine Jh (i:=9) J (by decide) (by kernel_rfl) J ?_;refine S1 ?_;refine jJ (u9 J) ?_;refine dK 10 ?_;refine Jj (by kernel_rfl) ?_;refine S1 ?_
     exact JZ h_8 ((((tg,tlo,thi),(tg2,tlo2,thi2)),((wA,wc),wlo,whi),b6)) (trivial) ⟨J,sz⟩ (fun _ h=>h.picks [0,1,3,4,5,2] (by decide))
   ·rintro⟨⟨⟨tg,tlo,thi⟩,⟨tg2,tlo2,thi2⟩⟩,⟨⟨wA,wc⟩,wlo,whi⟩,bw⟩ -
    refine v9 ?_;refine ji (by first | (dsimp only;done) | (dsimp only;rfl) | rfl) ?_;refine S4 ?_;refine jP jN (X:=Nat×Nat×Nat) (v:=fun x=>Ju (some ⟨x.1,0,none⟩) n n) (r:=fun x=>JD n rs x.2.1 x.2.2 (some ⟨x.1,0,none⟩)) (H:=fun _=>True) J J J (lb J) (fun w1 hs=>JS (Je A n c rs w1 (h.over hs.fin) ht)) ?_
    rintro⟨xg,xlo,xhi⟩ -
    refine N1 ?_;refine aL (fun b7=> ?_);refine N7 ?_;refine jP jN (X:=Nat×Nat×Nat) (v:=fun x=>Ju (some ⟨x.1,0,none⟩) n2 n2) (r:=fun x=>JD n2 ss x.2.1 x.2.2 (some ⟨x.1,0,none⟩)) (H:=fun _=>True) J J J (lb J) (fun w1 hs=>JS (Je A2 n2 c2_ ss w1 (h2.over hs.fin) ht2)) ?_
    rintro⟨yg,ylo,yhi⟩ -
    refine N1 ?_;refine aL (fun b8=> ?_);refine N8 ?_;refine jP Vg (X:= (Option Addr×Nat)×Nat×Nat) (v:=fun x=> .tuple #[Ju x.1.1 _ x.1.2, .int .i64 _]) (r:=fun x=>JD _ _ x.2.1 x.2.2 x.1.1) (H:=fun _=>True) J J J (lb J) (fun w1 hs=>qy (uB _ n n rs _ n2 n2 ss w1 (jV (k:=6) J w1 hs) (by omega) (jV (k:=8) J w1 hs) (by omega))) ?_
    rintro⟨⟨gA,gc⟩,glo,ghi⟩ -
    refine N4 ?_;refine aL (fun b9=> ?_);refine N1 ?_;refine j9 11 jk.szx ?_;refine N5 ?_;refine a9 (jj J J jn J (jF (k:=11) J)) ?_;refine S1 ?_;refine a9 (jH JM J J (fun w1 hs=>JY _ _ _ _ _ (qD rs ss 2) w1 (jV (k:=10) J w1 hs) (jV (k:=4) J w1 hs) hst)) ?_;refine S2 ?_;refine kx 49 (.bool false) J (by rw [vv]) ?_;refine S8 ?_;refine qJ J (kD _) ?_;refine S5 ?_;refine Jw 5 ?_;refine dK 0 ?_;refine dK 1 ?_;refine Jh (i:=2) J (by decide) (by kernel_rfl) J ?_;refine jP jN (X:=Nat×Nat×Nat) (v:=fun x=>Ju (some ⟨x.1,0,none⟩) n n) (r:=fun x=>JD n rs x.2.1 x.2.2 (some ⟨x.1,0,none⟩)) (H:=fun _=>True) J J J (lb J) (fun w1 hs=>JS (Je A n c rs w1 (h.over hs.fin) ht)) ?_
    rintro⟨ug,ulo,uhi⟩ -
    refine n9 ?_;refine Q5 (u9 J) ?_;refine dZ 3 J (jH JM J J (fun w1 hs=>JY _ _ _ _ _ rs w1 (jV (k:=6) J w1 hs) (jV (k:=12) J w1 hs) ht)) ?_;refine dK 4 ?_;refine Jj (by kernel_rfl) ?_;refine S1 ?_;refine qJ J (J) ?_;refine S5 ?_;refine Jw 5 ?_;refine dK 0 ?_;refine dK 1 ?_;refine Jh (i:=2) J (by decide) (by kernel_rfl) J ?_;refine jP jN (X:=Nat×Nat×Nat) (v:=fun x=>Ju (some ⟨x.1,0,none⟩) n2 n2) (r:=fun x=>JD n2 ss x.2.1 x.2.2 (some ⟨x.1,0,none⟩)) (H:=fun _=>True) J J J (lb J) (fun w1 hs=>JS (Je A2 n2 c2_ ss w1 (h2.over hs.fin) ht2)) ?_
    rintro⟨vg,vlo,vhi⟩ -
    refine n9 ?_;refine Q5 (u9 J) ?_;refine dZ 3 J (jH JM J J (fun w1 hs=>JY _ _ _ _ _ ss w1 (jV (k:=8) J w1 hs) (jV (k:=13) J w1 hs) ht2)) ?_;refine dK 4 ?_;refine Jj (by kernel_rfl) ?_;refine S1 ?_;refine qJ J (J) ?_;refine S11 ?_;refine QB (k:=6) (r':=JD n (Qh _ rs) _ _ _) qj J J J (by decide) J (fun w1 hs=>WY 0 (Zp (k:=6) J w1 hs) (xi (k:=6) J w1 hs) (by omega) (by omega)) (fun _ h=>h) J ?_;refine N7 ?_;refine QB (k:=8) (r':=JD n2 (Qh _ ss) _ _ _) qj J J J (by decide) J (fun w1 hs=>WY _ (Zp (k:=8) J w1 hs) (xi (k:=8) J w1 hs) (by omega) (by omega)) (fun _ h=>h) J ?_;refine N8 ?_;refine kx 72 (.bool false) J (by rw [(ZH _)]) ?_;refine h9 ?_;refine o9 (jj J J jn J (jF (k:=11) J)) ?_;refine S3 ?_;refine o9 (jH JM J J (fun w1 hs=>JY _ _ _ _ _ (qD rs ss 2) w1 (jV (k:=10) J w1 hs) (jV (k:=4) J w1 hs) hst)) ?_;refine S4 ?_;refine kx 78 (.bool false) J (by rw [vv]) ?_;refine S8 ?_;refine qJ J (kD _) ?_;refine S8 ?_;refine a9 (jj J J jn J (jF (k:=11) J)) ?_;refine S2 ?_;refine QB (k:=10) (r':=JD _ (Qh 1 (qD rs ss 2)) _ _ _) qj J J J (by decide) J (fun w1 hs=>zw (Zp (k:=10) J w1 hs) (xi (k:=10) J w1 hs) hss) (fun _ h=>h) J ?_;refine N8 ?_;refine a9 (jj J J jn J (jF (k:=11) J)) ?_;refine S1 ?_;refine a9 (jH qQ J J (fun w1 hs=>WP (jV (k:=10) J w1 hs) hss)) ?_;refine S8 ?_;refine qJ J (ZH _) ?_;refine S9 ?_;refine qJ J (kD _) ?_;refine S2 ?_;refine KZ (X:= ((Nat×Nat×Nat)×(Nat×Nat×Nat))×((Option Addr×Nat)×Nat×Nat)×Nat) (fun x=>True) (fun x=> [(15, .pointer (some ⟨x.2.2,0,none⟩)),(16, .int .i64 (wT rs ss 2))]) (kK [4,6,7,10,13,14]) (fun x=> [JD (qD rs ss 2).length (qD rs ss 2) wlo whi wA, .cel bw 29 [.slice wA (qD rs ss 2).length wc],JD (qD rs ss 2).length (Qh 1 (qD rs ss 2)) glo ghi gA, .cel b9 29 [.slice gA (qD rs ss 2).length gc],JD n rs x.1.1.2.1 x.1.1.2.2 (some ⟨x.1.1.1,0,none⟩),JD n2 ss x.1.2.2.1 x.1.2.2.2 (some ⟨x.1.2.1,0,none⟩),JD (qD rs ss 2).length (qD rs ss 2) x.2.1.2.1 x.2.1.2.2 x.2.1.1.1, .cel x.2.2 29 [.slice x.2.1.1.1 (qD rs ss 2).length x.2.1.1.2]]) (fun L h_31=> ?_) ?_
    ·refine S1 ?_;refine Jw 11 ?_;refine dK 0 ?_;refine dK 2 ?_;refine Q4 (i:=1) (j:=8) J J (by decide) (by decide) (by kernel_rfl) J J ?_ ?_
     ·refine jP jN (X:=Nat×Nat×Nat) (v:=fun x=>Ju (some ⟨x.1,0,none⟩) n n) (r:=fun x=>JD n rs x.2.1 x.2.2 (some ⟨x.1,0,none⟩)) (H:=fun _=>True) J J J (lb J) (fun w1 hs=>JS (Je A n c rs w1 (h.over hs.fin) ht)) ?_
      rintro⟨pg,plo,phi⟩ -
      refine n9 ?_;refine jJ (u9 J) ?_;refine Q4 (i:=3) (j:=8) J J (by decide) (by decide) (by kernel_rfl) J J ?_ ?_
      ·refine jP jN (X:=Nat×Nat×Nat) (v:=fun x=>Ju (some ⟨x.1,0,none⟩) n2 n2) (r:=fun x=>JD n2 ss x.2.1 x.2.2 (some ⟨x.1,0,none⟩)) (H:=fun _=>True) J J J (lb J) (fun w1 hs=>JS (Je A2 n2 c2_ ss w1 (h2.over hs.fin) ht2)) ?_
       rintro⟨qg,qlo,qhi⟩ -
       refine n9 ?_;refine jJ (u9 J) ?_;refine Q4 (i:=4) (j:=8) J J (by decide) (by decide) (by kernel_rfl) J J ?_ ?_
       ·refine jP Vg (X:= (Option Addr×Nat)×Nat×Nat) (v:=fun x=> .tuple #[Ju x.1.1 _ x.1.2, .int .i64 _]) (r:=fun x=>JD _ _ x.2.1 x.2.2 x.1.1) (H:=fun _=>True) J J J (lb J) (fun w1 hs=>qy (uB _ n n rs _ n2 n2 ss w1 (jV (k:=14) J w1 hs) (by omega) (jV (k:=15) J w1 hs) (by omega))) ?_
        rintro⟨⟨hA,hc⟩,hlo,hhi⟩ -
        refine n9 ?_;refine jJ (u9 J) ?_;refine dK 5 ?_;refine dK 6 ?_;refine dK 7 ?_;refine Jh (i:=8) J (by decide) (by kernel_rfl) J ?_;refine aL (fun b10=> ?_);refine n9 ?_;refine jJ (u9 J) ?_;refine Jh (i:=9) J (by decide) (by kernel_rfl) J ?_;refine j9 17 jk.szx ?_;refine n9 ?_;refine jJ (u9 J) ?_;refine dK 10 ?_;refine Jj (by kernel_rfl) ?_;refine S1 ?_
        exact JZ h_31 ((((pg,plo,phi),(qg,qlo,qhi)),((hA,hc),hlo,hhi),b10)) (trivial) ⟨J,sz⟩ (fun _ h=>h.picks [4,5,10,11,14,15,16,17] (by decide))
       ·refine aL (fun b11=> ?_);refine n9 ?_;refine jJ (u9 J) ?_;refine Jh (i:=4) J (by decide) (by kernel_rfl) J ?_;refine jP Vg (X:= (Option Addr×Nat)×Nat×Nat) (v:=fun x=> .tuple #[Ju x.1.1 _ x.1.2, .int .i64 _]) (r:=fun x=>JD _ _ x.2.1 x.2.2 x.1.1) (H:=fun _=>True) J J J (lb J) (fun w1 hs=>qy (uB _ n n rs _ n2 n2 ss w1 (jV (k:=14) J w1 hs) (by omega) (jV (k:=15) J w1 hs) (by omega))) ?_
        rintro⟨⟨hA,hc⟩,hlo,hhi⟩ -
        refine n9 ?_;refine jJ (u9 J) ?_;refine dK 5 ?_;refine dK 6 ?_;refine dK 7 ?_;refine Jh (i:=9) J (by decide) (by kernel_rfl) J ?_;refine j9 16 jk.szx ?_;refine n9 ?_;refine jJ (u9 J) ?_;refine dK 10 ?_;refine Jj (by kernel_rfl) ?_;refine S1 ?_
        exact JZ h_31 ((((pg,plo,phi),(qg,qlo,qhi)),((hA,hc),hlo,hhi),b11)) (trivial) ⟨J,sz⟩ (fun _ h=>h.picks [4,5,10,11,14,15,17,16] (by decide))
      ·refine aL (fun b12=> ?_);refine n9 ?_;refine jJ (u9 J) ?_;refine Jh (i:=3) J (by decide) (by kernel_rfl) J ?_;refine jP jN (X:=Nat×Nat×Nat) (v:=fun x=>Ju (some ⟨x.1,0,none⟩) n2 n2) (r:=fun x=>JD n2 ss x.2.1 x.2.2 (some ⟨x.1,0,none⟩)) (H:=fun _=>True) J J J (lb J) (fun w1 hs=>JS (Je A2 n2 c2_ ss w1 (h2.over hs.fin) ht2)) ?_
       rintro⟨qg,qlo,qhi⟩ -
       refine n9 ?_;refine jJ (u9 J) ?_;refine Jh (i:=4) J (by decide) (by kernel_rfl) J ?_;refine jP Vg (X:= (Option Addr×Nat)×Nat×Nat) (v:=fun x=> .tuple #[Ju x.1.1 _ x.1.2, .int .i64 _]) (r:=fun x=>JD _ _ x.2.1 x.2.2 x.1.1) (H:=fun _=>True) J J J (lb J) (fun w1 hs=>qy (uB _ n n rs _ n2 n2 ss w1 (jV (k:=14) J w1 hs) (by omega) (jV (k:=16) J w1 hs) (by omega))) ?_
       rintro⟨⟨hA,hc⟩,hlo,hhi⟩ -
       refine n9 ?_;refine jJ (u9 J) ?_;refine dK 5 ?_;refine dK 6 ?_;refine dK 7 ?_;refine Jh (i:=9) J (by decide) (by kernel_rfl) J ?_;refine j9 15 jk.szx ?_;refine n9 ?_;refine jJ (u9 J) ?_;refine dK 10 ?_;refine Jj (by kernel_rfl) ?_;refine S1 ?_
       exact JZ h_31 ((((pg,plo,phi),(qg,qlo,qhi)),((hA,hc),hlo,hhi),b12)) (trivial) ⟨J,sz⟩ (fun _ h=>h.picks [4,5,10,11,14,16,17,15] (by decide))
     ·refine aL (fun b13=> ?_);refine n9 ?_;refine jJ (u9 J) ?_;refine Jh (i:=1) J (by decide) (by kernel_rfl) J ?_;refine jP jN (X:=Nat×Nat×Nat) (v:=fun x=>Ju (some ⟨x.1,0,none⟩) n n) (r:=fun x=>JD n rs x.2.1 x.2.2 (some ⟨x.1,0,none⟩)) (H:=fun _=>True) J J J (lb J) (fun w1 hs=>JS (Je A n c rs w1 (h.over hs.fin) ht)) ?_
      rintro⟨pg,plo,phi⟩ -
      refine n9 ?_;refine jJ (u9 J) ?_;refine Jh (i:=3) J (by decide) (by kernel_rfl) J ?_;refine jP jN (X:=Nat×Nat×Nat) (v:=fun x=>Ju (some ⟨x.1,0,none⟩) n2 n2) (r:=fun x=>JD n2 ss x.2.1 x.2.2 (some ⟨x.1,0,none⟩)) (H:=fun _=>True) J J J (lb J) (fun w1 hs=>JS (Je A2 n2 c2_ ss w1 (h2.over hs.fin) ht2)) ?_
      rintro⟨qg,qlo,qhi⟩ -
      refine n9 ?_;refine jJ (u9 J) ?_;refine Jh (i:=4) J (by decide) (by kernel_rfl) J ?_;refine jP Vg (X:= (Option Addr×Nat)×Nat×Nat) (v:=fun x=> .tuple #[Ju x.1.1 _ x.1.2, .int .i64 _]) (r:=fun x=>JD _ _ x.2.1 x.2.2 x.1.1) (H:=fun _=>True) J J J (lb J) (fun w1 hs=>qy (uB _ n n rs _ n2 n2 ss w1 (jV (k:=15) J w1 hs) (by omega) (jV (k:=16) J w1 hs) (by omega))) ?_
      rintro⟨⟨hA,hc⟩,hlo,hhi⟩ -
      refine n9 ?_;refine jJ (u9 J) ?_;refine dK 5 ?_;refine dK 6 ?_;refine dK 7 ?_;refine Jh (i:=9) J (by decide) (by kernel_rfl) J ?_;refine j9 14 jk.szx ?_;refine n9 ?_;refine jJ (u9 J) ?_;refine dK 10 ?_;refine Jj (by kernel_rfl) ?_;refine S1 ?_
      exact JZ h_31 ((((pg,plo,phi),(qg,qlo,qhi)),((hA,hc),hlo,hhi),b13)) (trivial) ⟨J,sz⟩ (fun _ h=>h.picks [4,5,10,11,15,16,17,14] (by decide))
    ·rintro⟨⟨⟨pg,plo,phi⟩,⟨qg,qlo,qhi⟩⟩,⟨⟨hA,hc⟩,hlo,hhi⟩,bh⟩ -
     refine v9 ?_;refine ji (by first | (dsimp only;done) | (dsimp only;rfl) | rfl) ?_;refine S5 ?_;refine a9 (jH JM J J (fun w1 hs=>JY _ _ _ _ _ (qD rs ss 2) w1 (jV (k:=6) J w1 hs) (jV (k:=0) J w1 hs) hst)) ?_;refine S2 ?_;refine kx 106 (.bool false) J (by rw [vv]) ?_;refine S8 ?_;refine qJ J (kD _) ?_;refine S10 ?_;refine a9 (jH qQ J J (fun w1 hs=>WP (jV (k:=2) J w1 hs) hss)) ?_;refine S8 ?_;refine qJ J (ZH _) ?_;refine S9 ?_;refine qJ J (kD _) ?_;refine S7 ?_;refine jL J (.tmp J) ?_
     intro w' hs
     exact⟨rfl,hs.fin⟩
theorem jcx (A:Option Addr) (n c:Nat) (rs:List jS) (A2:Option Addr) (n2 c2_:Nat) (ss:List jS) (w:World) (h:Rings w A n rs) (hm: (n:Int)≤9223372036854775807) (h2:Rings w A2 n2 ss) (hm2: (n2:Int)≤9223372036854775807) :
  Calls Tryz.prog 7 #[Ju A n c,Ju A2 n2 c2_] w fun e w'=>e= .returned (.bool true)∧Over w w':=by
 have hl:=h.1
 have hl2:=h2.1
 have hsm:=WB rs ss 3
 have hst:=hsm.total
 have hss:=hsm.sum rfl
 refine jU (m:=119) (Tryz.func7) J J (lb J) ?_;refine S3 ?_;refine aX (fun b1=> ?_);refine N1 ?_;refine aX (fun b2=> ?_);refine N10 ?_;refine a9 (jH qI J J (fun w1 hs=>QK A n c rs 1048576 w1 (h.over hs.fin) (by omega) (by omega) hm)) ?_;refine S8 ?_;refine cZ (fun c1=> ?_) (fun c1=> ?_)
 ·refine S6 ?_;refine jL J (.tmp J) ?_
  intro w' hs
  exact⟨rfl,hs.fin⟩
 ·obtain ⟨ht,e1⟩ :=Y6 (jfx.2 c1)
  clear hm
  rw [e1]
  have htp: (0:Int)≤total rs:=jfV _
  refine S6 ?_;refine a9 (jH qI J J (fun w1 hs=>QK A2 n2 c2_ ss _ w1 (h2.over hs.fin) (by omega) (by omega) hm2)) ?_;refine S8 ?_;refine cZ (fun c2=> ?_) (fun c2=> ?_)
  ·refine S6 ?_;refine jL J (.tmp J) ?_
   intro w' hs
   exact⟨rfl,hs.fin⟩
  ·obtain ⟨ht2,_⟩ :=Y6 (jfx.2 c2)
   replace ht2: (total ss:Int)≤1048576:= (by omega)
   clear hm2
   have hts:=Vr ht hl
   have hts2:=Vr ht2 hl2
   refine S2 ?_;refine KZ (X:= ((Nat×Nat×Nat)×(Nat×Nat×Nat))×((Option Addr×Nat)×Nat×Nat)×Nat) (fun x=>True) (fun x=> [(6, .pointer (some ⟨x.2.2,0,none⟩)),(7, .int .i64 (wT rs ss 3))]) (kK [2,3,4]) (fun x=> [.cel b1 24 [.slice A n c], .cel b2 24 [.slice A2 n2 c2_],JD n rs x.1.1.2.1 x.1.1.2.2 (some ⟨x.1.1.1,0,none⟩),JD n2 ss x.1.2.2.1 x.1.2.2.2 (some ⟨x.1.2.1,0,none⟩),JD (qD rs ss 3).length (qD rs ss 3) x.2.1.2.1 x.2.1.2.2 x.2.1.1.1, .cel x.2.2 29 [.slice x.2.1.1.1 (qD rs ss 3).length x.2.1.1.2]]) (fun L h_8=> ?_) ?_
   ·refine S1 ?_;refine Jw 11 ?_;refine dK 0 ?_;refine dK 2 ?_;refine Q4 (i:=1) (j:=8) J J (by decide) (by decide) (by kernel_rfl) J J ?_ ?_
    ·refine jP jN (X:=Nat×Nat×Nat) (v:=fun x=>Ju (some ⟨x.1,0,none⟩) n n) (r:=fun x=>JD n rs x.2.1 x.2.2 (some ⟨x.1,0,none⟩)) (H:=fun _=>True) J J J (lb J) (fun w1 hs=>JS (Je A n c rs w1 (h.over hs.fin) ht)) ?_
     rintro⟨tg,tlo,thi⟩ -
     refine n9 ?_;refine jJ (u9 J) ?_;refine Q4 (i:=3) (j:=8) J J (by decide) (by decide) (by kernel_rfl) J J ?_ ?_
     ·refine jP jN (X:=Nat×Nat×Nat) (v:=fun x=>Ju (some ⟨x.1,0,none⟩) n2 n2) (r:=fun x=>JD n2 ss x.2.1 x.2.2 (some ⟨x.1,0,none⟩)) (H:=fun _=>True) J J J (lb J) (fun w1 hs=>JS (Je A2 n2 c2_ ss w1 (h2.over hs.fin) ht2)) ?_
      rintro⟨tg2,tlo2,thi2⟩ -
      refine n9 ?_;refine jJ (u9 J) ?_;refine Q4 (i:=4) (j:=8) J J (by decide) (by decide) (by kernel_rfl) J J ?_ ?_
      ·refine jP V9 (X:= (Option Addr×Nat)×Nat×Nat) (v:=fun x=> .tuple #[Ju x.1.1 _ x.1.2, .int .i64 _]) (r:=fun x=>JD _ _ x.2.1 x.2.2 x.1.1) (H:=fun _=>True) J J J (lb J) (fun w1 hs=>qy (wh _ n n rs _ n2 n2 ss w1 (jV (k:=2) J w1 hs) (by omega) (jV (k:=3) J w1 hs) (by omega))) ?_
       rintro⟨⟨wA,wc⟩,wlo,whi⟩ -
       refine n9 ?_;refine jJ (u9 J) ?_;refine dK 5 ?_;refine dK 6 ?_;refine dK 7 ?_;refine Jh (i:=8) J (by decide) (by kernel_rfl) J ?_;refine aL (fun b3=> ?_);refine n9 ?_;refine jJ (u9 J) ?_;refine Jh (i:=9) J (by decide) (by kernel_rfl) J ?_;refine S1 ?_;refine jJ (u9 J) ?_;refine dK 10 ?_;refine Jj (by kernel_rfl) ?_;refine S1 ?_
       exact JZ h_8 ((((tg,tlo,thi),(tg2,tlo2,thi2)),((wA,wc),wlo,whi),b3)) (trivial) ⟨J,sz⟩ (fun _ h=>h.picks [0,1,2,3,4,5] (by decide))
      ·refine aL (fun b4=> ?_);refine n9 ?_;refine jJ (u9 J) ?_;refine Jh (i:=4) J (by decide) (by kernel_rfl) J ?_;refine jP V9 (X:= (Option Addr×Nat)×Nat×Nat) (v:=fun x=> .tuple #[Ju x.1.1 _ x.1.2, .int .i64 _]) (r:=fun x=>JD _ _ x.2.1 x.2.2 x.1.1) (H:=fun _=>True) J J J (lb J) (fun w1 hs=>qy (wh _ n n rs _ n2 n2 ss w1 (jV (k:=2) J w1 hs) (by omega) (jV (k:=3) J w1 hs) (by omega))) ?_
       rintro⟨⟨wA,wc⟩,wlo,whi⟩ -
       refine n9 ?_;refine jJ (u9 J) ?_;refine dK 5 ?_;refine dK 6 ?_;refine dK 7 ?_;refine Jh (i:=9) J (by decide) (by kernel_rfl) J ?_;refine S1 ?_;refine jJ (u9 J) ?_;refine dK 10 ?_;refine Jj (by kernel_rfl) ?_;refine S1 ?_
       exact JZ h_8 ((((tg,tlo,thi),(tg2,tlo2,thi2)),((wA,wc),wlo,whi),b4)) (trivial) ⟨J,sz⟩ (fun _ h=>h.picks [0,1,2,3,5,4] (by decide))
     ·refine aL (fun b5=> ?_);refine n9 ?_;refine jJ (u9 J) ?_;refine Jh (i:=3) J (by decide) (by kernel_rfl) J ?_;refine jP jN (X:=Nat×Nat×Nat) (v:=fun x=>Ju (some ⟨x.1,0,none⟩) n2 n2) (r:=fun x=>JD n2 ss x.2.1 x.2.2 (some ⟨x.1,0,none⟩)) (H:=fun _=>True) J J J (lb J) (fun w1 hs=>JS (Je A2 n2 c2_ ss w1 (h2.over hs.fin) ht2)) ?_
      rintro⟨tg2,tlo2,thi2⟩ -
      refine n9 ?_;refine jJ (u9 J) ?_;refine Jh (i:=4) J (by decide) (by kernel_rfl) J ?_;refine jP V9 (X:= (Option Addr×Nat)×Nat×Nat) (v:=fun x=> .tuple #[Ju x.1.1 _ x.1.2, .int .i64 _]) (r:=fun x=>JD _ _ x.2.1 x.2.2 x.1.1) (H:=fun _=>True) J J J (lb J) (fun w1 hs=>qy (wh _ n n rs _ n2 n2 ss w1 (jV (k:=2) J w1 hs) (by omega) (jV (k:=4) J w1 hs) (by omega))) ?_
      rintro⟨⟨wA,wc⟩,wlo,whi⟩ -
      refine n9 ?_;refine jJ (u9 J) ?_;refine dK 5 ?_;refine dK 6 ?_;refine dK 7 ?_;refine Jh (i:=9) J (by decide) (by kernel_rfl) J ?_;refine S1 ?_;refine jJ (u9 J) ?_;refine dK 10 ?_;refine Jj (by kernel_rfl) ?_;refine S1 ?_
      exact JZ h_8 ((((tg,tlo,thi),(tg2,tlo2,thi2)),((wA,wc),wlo,whi),b5)) (trivial) ⟨J,sz⟩ (fun _ h=>h.picks [0,1,2,4,5,3] (by decide))
    ·refine aL (fun b6=> ?_);refine n9 ?_;refine jJ (u9 J) ?_;refine Jh (i:=1) J (by decide) (by kernel_rfl) J ?_;refine jP jN (X:=Nat×Nat×Nat) (v:=fun x=>Ju (some ⟨x.1,0,none⟩) n n) (r:=fun x=>JD n rs x.2.1 x.2.2 (some ⟨x.1,0,none⟩)) (H:=fun _=>True) J J J (lb J) (fun w1 hs=>JS (Je A n c rs w1 (h.over hs.fin) ht)) ?_
     rintro⟨tg,tlo,thi⟩ -
     refine n9 ?_;refine jJ (u9 J) ?_;refine Jh (i:=3) J (by decide) (by kernel_rfl) J ?_;refine jP jN (X:=Nat×Nat×Nat) (v:=fun x=>Ju (some ⟨x.1,0,none⟩) n2 n2) (r:=fun x=>JD n2 ss x.2.1 x.2.2 (some ⟨x.1,0,none⟩)) (H:=fun _=>True) J J J (lb J) (fun w1 hs=>JS (Je A2 n2 c2_ ss w1 (h2.over hs.fin) ht2)) ?_
     rintro⟨tg2,tlo2,thi2⟩ -
     refine n9 ?_;refine jJ (u9 J) ?_;refine Jh (i:=4) J (by decide) (by kernel_rfl) J ?_;refine jP V9 (X:= (Option Addr×Nat)×Nat×Nat) (v:=fun x=> .tuple #[Ju x.1.1 _ x.1.2, .int .i64 _]) (r:=fun x=>JD _ _ x.2.1 x.2.2 x.1.1) (H:=fun _=>True) J J J (lb J) (fun w1 hs=>qy (wh _ n n rs _ n2 n2 ss w1 (jV (k:=3) J w1 hs) (by omega) (jV (k:=4) J w1 hs) (by omega))) ?_
     rintro⟨⟨wA,wc⟩,wlo,whi⟩ -
     refine n9 ?_;refine jJ (u9 J) ?_;refine dK 5 ?_;refine dK 6 ?_;refine dK 7 ?_;refine Jh (i:=9) J (by decide) (by kernel_rfl) J ?_;refine S1 ?_;refine jJ (u9 J) ?_;refine dK 10 ?_;refine Jj (by kernel_rfl) ?_;refine S1 ?_
     exact JZ h_8 ((((tg,tlo,thi),(tg2,tlo2,thi2)),((wA,wc),wlo,whi),b6)) (trivial) ⟨J,sz⟩ (fun _ h=>h.picks [0,1,3,4,5,2] (by decide))
   ·rintro⟨⟨⟨tg,tlo,thi⟩,⟨tg2,tlo2,thi2⟩⟩,⟨⟨wA,wc⟩,wlo,whi⟩,bw⟩ -
    refine v9 ?_;refine ji (by first | (dsimp only;done) | (dsimp only;rfl) | rfl) ?_;refine S4 ?_;refine jP jN (X:=Nat×Nat×Nat) (v:=fun x=>Ju (some ⟨x.1,0,none⟩) n n) (r:=fun x=>JD n rs x.2.1 x.2.2 (some ⟨x.1,0,none⟩)) (H:=fun _=>True) J J J (lb J) (fun w1 hs=>JS (Je A n c rs w1 (h.over hs.fin) ht)) ?_
    rintro⟨xg,xlo,xhi⟩ -
    refine N1 ?_;refine aL (fun b7=> ?_);refine N7 ?_;refine jP jN (X:=Nat×Nat×Nat) (v:=fun x=>Ju (some ⟨x.1,0,none⟩) n2 n2) (r:=fun x=>JD n2 ss x.2.1 x.2.2 (some ⟨x.1,0,none⟩)) (H:=fun _=>True) J J J (lb J) (fun w1 hs=>JS (Je A2 n2 c2_ ss w1 (h2.over hs.fin) ht2)) ?_
    rintro⟨yg,ylo,yhi⟩ -
    refine N1 ?_;refine aL (fun b8=> ?_);refine N8 ?_;refine jP vK (X:= (Option Addr×Nat)×Nat×Nat) (v:=fun x=> .tuple #[Ju x.1.1 _ x.1.2, .int .i64 _]) (r:=fun x=>JD _ _ x.2.1 x.2.2 x.1.1) (H:=fun _=>True) J J J (lb J) (fun w1 hs=>qy (WQ _ n n rs _ n2 n2 ss w1 (jV (k:=6) J w1 hs) (by omega) (jV (k:=8) J w1 hs) (by omega))) ?_
    rintro⟨⟨gA,gc⟩,glo,ghi⟩ -
    refine N4 ?_;refine aL (fun b9=> ?_);refine N1 ?_;refine j9 11 jk.szx ?_;refine N5 ?_;refine a9 (jj J J jn J (jF (k:=11) J)) ?_;refine S1 ?_;refine a9 (jH JM J J (fun w1 hs=>JY _ _ _ _ _ (qD rs ss 3) w1 (jV (k:=10) J w1 hs) (jV (k:=4) J w1 hs) hst)) ?_;refine S2 ?_;refine kx 49 (.bool false) J (by rw [vv]) ?_;refine S8 ?_;refine qJ J (kD _) ?_;refine S5 ?_;refine Jw 5 ?_;refine dK 0 ?_;refine dK 1 ?_;refine Jh (i:=2) J (by decide) (by kernel_rfl) J ?_;refine jP jN (X:=Nat×Nat×Nat) (v:=fun x=>Ju (some ⟨x.1,0,none⟩) n n) (r:=fun x=>JD n rs x.2.1 x.2.2 (some ⟨x.1,0,none⟩)) (H:=fun _=>True) J J J (lb J) (fun w1 hs=>JS (Je A n c rs w1 (h.over hs.fin) ht)) ?_
    rintro⟨ug,ulo,uhi⟩ -
    refine n9 ?_;refine Q5 (u9 J) ?_;refine dZ 3 J (jH JM J J (fun w1 hs=>JY _ _ _ _ _ rs w1 (jV (k:=6) J w1 hs) (jV (k:=12) J w1 hs) ht)) ?_;refine dK 4 ?_;refine Jj (by kernel_rfl) ?_;refine S1 ?_;refine qJ J (J) ?_;refine S5 ?_;refine Jw 5 ?_;refine dK 0 ?_;refine dK 1 ?_;refine Jh (i:=2) J (by decide) (by kernel_rfl) J ?_;refine jP jN (X:=Nat×Nat×Nat) (v:=fun x=>Ju (some ⟨x.1,0,none⟩) n2 n2) (r:=fun x=>JD n2 ss x.2.1 x.2.2 (some ⟨x.1,0,none⟩)) (H:=fun _=>True) J J J (lb J) (fun w1 hs=>JS (Je A2 n2 c2_ ss w1 (h2.over hs.fin) ht2)) ?_
    rintro⟨vg,vlo,vhi⟩ -
    refine n9 ?_;refine Q5 (u9 J) ?_;refine dZ 3 J (jH JM J J (fun w1 hs=>JY _ _ _ _ _ ss w1 (jV (k:=8) J w1 hs) (jV (k:=13) J w1 hs) ht2)) ?_;refine dK 4 ?_;refine Jj (by kernel_rfl) ?_;refine S1 ?_;refine qJ J (J) ?_;refine S11 ?_;refine QB (k:=6) (r':=JD n (Qh _ rs) _ _ _) qj J J J (by decide) J (fun w1 hs=>WY 0 (Zp (k:=6) J w1 hs) (xi (k:=6) J w1 hs) (by omega) (by omega)) (fun _ h=>h) J ?_;refine N7 ?_;refine QB (k:=8) (r':=JD n2 (Qh _ ss) _ _ _) qj J J J (by decide) J (fun w1 hs=>WY _ (Zp (k:=8) J w1 hs) (xi (k:=8) J w1 hs) (by omega) (by omega)) (fun _ h=>h) J ?_;refine N8 ?_;refine kx 72 (.bool false) J (by rw [(ZH _)]) ?_;refine h9 ?_;refine o9 (jj J J jn J (jF (k:=11) J)) ?_;refine S3 ?_;refine o9 (jH JM J J (fun w1 hs=>JY _ _ _ _ _ (qD rs ss 3) w1 (jV (k:=10) J w1 hs) (jV (k:=4) J w1 hs) hst)) ?_;refine S4 ?_;refine kx 78 (.bool false) J (by rw [vv]) ?_;refine S8 ?_;refine qJ J (kD _) ?_;refine S8 ?_;refine a9 (jj J J jn J (jF (k:=11) J)) ?_;refine S2 ?_;refine QB (k:=10) (r':=JD _ (Qh 1 (qD rs ss 3)) _ _ _) qj J J J (by decide) J (fun w1 hs=>zw (Zp (k:=10) J w1 hs) (xi (k:=10) J w1 hs) hss) (fun _ h=>h) J ?_;refine N8 ?_;refine a9 (jj J J jn J (jF (k:=11) J)) ?_;refine S1 ?_;refine a9 (jH qQ J J (fun w1 hs=>WP (jV (k:=10) J w1 hs) hss)) ?_;refine S8 ?_;refine qJ J (ZH _) ?_;refine S9 ?_;refine qJ J (kD _) ?_;refine S2 ?_;refine KZ (X:= ((Nat×Nat×Nat)×(Nat×Nat×Nat))×((Option Addr×Nat)×Nat×Nat)×Nat) (fun x=>True) (fun x=> [(15, .pointer (some ⟨x.2.2,0,none⟩)),(16, .int .i64 (wT rs ss 3))]) (kK [4,6,7,10,13,14]) (fun x=> [JD (qD rs ss 3).length (qD rs ss 3) wlo whi wA, .cel bw 29 [.slice wA (qD rs ss 3).length wc],JD (qD rs ss 3).length (Qh 1 (qD rs ss 3)) glo ghi gA, .cel b9 29 [.slice gA (qD rs ss 3).length gc],JD n rs x.1.1.2.1 x.1.1.2.2 (some ⟨x.1.1.1,0,none⟩),JD n2 ss x.1.2.2.1 x.1.2.2.2 (some ⟨x.1.2.1,0,none⟩),JD (qD rs ss 3).length (qD rs ss 3) x.2.1.2.1 x.2.1.2.2 x.2.1.1.1, .cel x.2.2 29 [.slice x.2.1.1.1 (qD rs ss 3).length x.2.1.1.2]]) (fun L h_31=> ?_) ?_
    ·refine S1 ?_;refine Jw 11 ?_;refine dK 0 ?_;refine dK 2 ?_;refine Q4 (i:=1) (j:=8) J J (by decide) (by decide) (by kernel_rfl) J J ?_ ?_
     ·refine jP jN (X:=Nat×Nat×Nat) (v:=fun x=>Ju (some ⟨x.1,0,none⟩) n n) (r:=fun x=>JD n rs x.2.1 x.2.2 (some ⟨x.1,0,none⟩)) (H:=fun _=>True) J J J (lb J) (fun w1 hs=>JS (Je A n c rs w1 (h.over hs.fin) ht)) ?_
      rintro⟨pg,plo,phi⟩ -
      refine n9 ?_;refine jJ (u9 J) ?_;refine Q4 (i:=3) (j:=8) J J (by decide) (by decide) (by kernel_rfl) J J ?_ ?_
      ·refine jP jN (X:=Nat×Nat×Nat) (v:=fun x=>Ju (some ⟨x.1,0,none⟩) n2 n2) (r:=fun x=>JD n2 ss x.2.1 x.2.2 (some ⟨x.1,0,none⟩)) (H:=fun _=>True) J J J (lb J) (fun w1 hs=>JS (Je A2 n2 c2_ ss w1 (h2.over hs.fin) ht2)) ?_
       rintro⟨qg,qlo,qhi⟩ -
       refine n9 ?_;refine jJ (u9 J) ?_;refine Q4 (i:=4) (j:=8) J J (by decide) (by decide) (by kernel_rfl) J J ?_ ?_
       ·refine jP vK (X:= (Option Addr×Nat)×Nat×Nat) (v:=fun x=> .tuple #[Ju x.1.1 _ x.1.2, .int .i64 _]) (r:=fun x=>JD _ _ x.2.1 x.2.2 x.1.1) (H:=fun _=>True) J J J (lb J) (fun w1 hs=>qy (WQ _ n n rs _ n2 n2 ss w1 (jV (k:=14) J w1 hs) (by omega) (jV (k:=15) J w1 hs) (by omega))) ?_
        rintro⟨⟨hA,hc⟩,hlo,hhi⟩ -
        refine n9 ?_;refine jJ (u9 J) ?_;refine dK 5 ?_;refine dK 6 ?_;refine dK 7 ?_;refine Jh (i:=8) J (by decide) (by kernel_rfl) J ?_;refine aL (fun b10=> ?_);refine n9 ?_;refine jJ (u9 J) ?_;refine Jh (i:=9) J (by decide) (by kernel_rfl) J ?_;refine j9 17 jk.szx ?_;refine n9 ?_;refine jJ (u9 J) ?_;refine dK 10 ?_;refine Jj (by kernel_rfl) ?_;refine S1 ?_
        exact JZ h_31 ((((pg,plo,phi),(qg,qlo,qhi)),((hA,hc),hlo,hhi),b10)) (trivial) ⟨J,sz⟩ (fun _ h=>h.picks [4,5,10,11,14,15,16,17] (by decide))
       ·refine aL (fun b11=> ?_);refine n9 ?_;refine jJ (u9 J) ?_;refine Jh (i:=4) J (by decide) (by kernel_rfl) J ?_;refine jP vK (X:= (Option Addr×Nat)×Nat×Nat) (v:=fun x=> .tuple #[Ju x.1.1 _ x.1.2, .int .i64 _]) (r:=fun x=>JD _ _ x.2.1 x.2.2 x.1.1) (H:=fun _=>True) J J J (lb J) (fun w1 hs=>qy (WQ _ n n rs _ n2 n2 ss w1 (jV (k:=14) J w1 hs) (by omega) (jV (k:=15) J w1 hs) (by omega))) ?_
        rintro⟨⟨hA,hc⟩,hlo,hhi⟩ -
        refine n9 ?_;refine jJ (u9 J) ?_;refine dK 5 ?_;refine dK 6 ?_;refine dK 7 ?_;refine Jh (i:=9) J (by decide) (by kernel_rfl) J ?_;refine j9 16 jk.szx ?_;refine n9 ?_;refine jJ (u9 J) ?_;refine dK 10 ?_;refine Jj (by kernel_rfl) ?_;refine S1 ?_
        exact JZ h_31 ((((pg,plo,phi),(qg,qlo,qhi)),((hA,hc),hlo,hhi),b11)) (trivial) ⟨J,sz⟩ (fun _ h=>h.picks [4,5,10,11,14,15,17,16] (by decide))
      ·refine aL (fun b12=> ?_);refine n9 ?_;refine jJ (u9 J) ?_;refine Jh (i:=3) J (by decide) (by kernel_rfl) J ?_;refine jP jN (X:=Nat×Nat×Nat) (v:=fun x=>Ju (some ⟨x.1,0,none⟩) n2 n2) (r:=fun x=>JD n2 ss x.2.1 x.2.2 (some ⟨x.1,0,none⟩)) (H:=fun _=>True) J J J (lb J) (fun w1 hs=>JS (Je A2 n2 c2_ ss w1 (h2.over hs.fin) ht2)) ?_
       rintro⟨qg,qlo,qhi⟩ -
       refine n9 ?_;refine jJ (u9 J) ?_;refine Jh (i:=4) J (by decide) (by kernel_rfl) J ?_;refine jP vK (X:= (Option Addr×Nat)×Nat×Nat) (v:=fun x=> .tuple #[Ju x.1.1 _ x.1.2, .int .i64 _]) (r:=fun x=>JD _ _ x.2.1 x.2.2 x.1.1) (H:=fun _=>True) J J J (lb J) (fun w1 hs=>qy (WQ _ n n rs _ n2 n2 ss w1 (jV (k:=14) J w1 hs) (by omega) (jV (k:=16) J w1 hs) (by omega))) ?_
       rintro⟨⟨hA,hc⟩,hlo,hhi⟩ -
       refine n9 ?_;refine jJ (u9 J) ?_;refine dK 5 ?_;refine dK 6 ?_;refine dK 7 ?_;refine Jh (i:=9) J (by decide) (by kernel_rfl) J ?_;refine j9 15 jk.szx ?_;refine n9 ?_;refine jJ (u9 J) ?_;refine dK 10 ?_;refine Jj (by kernel_rfl) ?_;refine S1 ?_
       exact JZ h_31 ((((pg,plo,phi),(qg,qlo,qhi)),((hA,hc),hlo,hhi),b12)) (trivial) ⟨J,sz⟩ (fun _ h=>h.picks [4,5,10,11,14,16,17,15] (by decide))
     ·refine aL (fun b13=> ?_);refine n9 ?_;refine jJ (u9 J) ?_;refine Jh (i:=1) J (by decide) (by kernel_rfl) J ?_;refine jP jN (X:=Nat×Nat×Nat) (v:=fun x=>Ju (some ⟨x.1,0,none⟩) n n) (r:=fun x=>JD n rs x.2.1 x.2.2 (some ⟨x.1,0,none⟩)) (H:=fun _=>True) J J J (lb J) (fun w1 hs=>JS (Je A n c rs w1 (h.over hs.fin) ht)) ?_
      rintro⟨pg,plo,phi⟩ -
      refine n9 ?_;refine jJ (u9 J) ?_;refine Jh (i:=3) J (by decide) (by kernel_rfl) J ?_;refine jP jN (X:=Nat×Nat×Nat) (v:=fun x=>Ju (some ⟨x.1,0,none⟩) n2 n2) (r:=fun x=>JD n2 ss x.2.1 x.2.2 (some ⟨x.1,0,none⟩)) (H:=fun _=>True) J J J (lb J) (fun w1 hs=>JS (Je A2 n2 c2_ ss w1 (h2.over hs.fin) ht2)) ?_
      rintro⟨qg,qlo,qhi⟩ -
      refine n9 ?_;refine jJ (u9 J) ?_;refine Jh (i:=4) J (by decide) (by kernel_rfl) J ?_;refine jP vK (X:= (Option Addr×Nat)×Nat×Nat) (v:=fun x=> .tuple #[Ju x.1.1 _ x.1.2, .int .i64 _]) (r:=fun x=>JD _ _ x.2.1 x.2.2 x.1.1) (H:=fun _=>True) J J J (lb J) (fun w1 hs=>qy (WQ _ n n rs _ n2 n2 ss w1 (jV (k:=15) J w1 hs) (by omega) (jV (k:=16) J w1 hs) (by omega))) ?_
      rintro⟨⟨hA,hc⟩,hlo,hhi⟩ -
      refine n9 ?_;refine jJ (u9 J) ?_;refine dK 5 ?_;refine dK 6 ?_;refine dK 7 ?_;refine Jh (i:=9) J (by decide) (by kernel_rfl) J ?_;refine j9 14 jk.szx ?_;refine n9 ?_;refine jJ (u9 J) ?_;refine dK 10 ?_;refine Jj (by kernel_rfl) ?_;refine S1 ?_
      exact JZ h_31 ((((pg,plo,phi),(qg,qlo,qhi)),((hA,hc),hlo,hhi),b13)) (trivial) ⟨J,sz⟩ (fun _ h=>h.picks [4,5,10,11,15,16,17,14] (by decide))
    ·rintro⟨⟨⟨pg,plo,phi⟩,⟨qg,qlo,qhi⟩⟩,⟨⟨hA,hc⟩,hlo,hhi⟩,bh⟩ -
     refine v9 ?_;refine ji (by first | (dsimp only;done) | (dsimp only;rfl) | rfl) ?_;refine S5 ?_;refine a9 (jH JM J J (fun w1 hs=>JY _ _ _ _ _ (qD rs ss 3) w1 (jV (k:=6) J w1 hs) (jV (k:=0) J w1 hs) hst)) ?_;refine S2 ?_;refine kx 106 (.bool false) J (by rw [vv]) ?_;refine S8 ?_;refine qJ J (kD _) ?_;refine S10 ?_;refine a9 (jH qQ J J (fun w1 hs=>WP (jV (k:=2) J w1 hs) hss)) ?_;refine S8 ?_;refine qJ J (ZH _) ?_;refine S9 ?_;refine qJ J (kD _) ?_;refine S7 ?_;refine jL J (.tmp J) ?_
     intro w' hs
     exact⟨rfl,hs.fin⟩
theorem TC (A0:Option Addr) (n0 c0_:Nat) (rs0:List jS) (w:World) (h0:Rings w A0 n0 rs0) (hm0: (n0:Int)≤9223372036854775807) :
  Calls Tryz.prog 4 #[Ju A0 n0 c0_] w fun e w'=>e= .returned (.bool true)∧Over w w':=by
 have hl0:=h0.1
 have hsm:=WB rs0 [] 1
 have hst:=hsm.total
 have hss:=hsm.sum rfl
 refine jU (m:=96) (Tryz.func4) J J (lb J) ?_;refine S3 ?_;refine aX (fun b1=> ?_);refine N10 ?_;refine a9 (jH qI J J (fun w1 hs=>QK A0 n0 c0_ rs0 1048576 w1 (h0.over hs.fin) (by omega) (by omega) hm0)) ?_;refine S8 ?_;refine cZ (fun c1=> ?_) (fun c1=> ?_)
 ·refine S6 ?_;refine jL J (.tmp J) ?_
  intro w' hs
  exact⟨rfl,hs.fin⟩
 ·obtain ⟨ht0,et0⟩ :=La c1
  have htp0: (0:Int)≤total rs0:=jfV _
  rw [et0]
  replace ht0: (total rs0:Int)≤1048576:= (by omega)
  clear hm0 et0
  refine S6 ?_;refine jP jN (X:=Nat×Nat×Nat) (v:=fun x=>Ju (some ⟨x.1,0,none⟩) n0 n0) (r:=fun x=>JD n0 rs0 x.2.1 x.2.2 (some ⟨x.1,0,none⟩)) (H:=fun _=>True) J J J (lb J) (fun w1 hs=>JS (Je A0 n0 c0_ rs0 w1 (h0.over hs.fin) ht0)) ?_
  rintro⟨g5_1,lo5_1,hi5_1⟩ -
  refine N1 ?_;refine jP KA (X:= (Option Addr×Nat)×Nat×Nat) (v:=fun x=> .tuple #[Ju x.1.1 _ x.1.2, .int .i64 _]) (r:=fun x=>JD _ _ x.2.1 x.2.2 x.1.1) (H:=fun _=>True) J J J (lb J) (fun w1 hs=>qy (KB _ n0 n0 rs0 w1 (jV (k:=1) J w1 hs) ht0)) ?_
  rintro⟨⟨A5_2,c5_2_⟩,lo5_2,hi5_2⟩ -
  refine N4 ?_;refine aL (fun b2=> ?_);refine N8 ?_;refine jP jN (X:=Nat×Nat×Nat) (v:=fun x=>Ju (some ⟨x.1,0,none⟩) n0 n0) (r:=fun x=>JD n0 rs0 x.2.1 x.2.2 (some ⟨x.1,0,none⟩)) (H:=fun _=>True) J J J (lb J) (fun w1 hs=>JS (Je A0 n0 c0_ rs0 w1 (h0.over hs.fin) ht0)) ?_
  rintro⟨g6_1,lo6_1,hi6_1⟩ -
  refine N1 ?_;refine aL (fun b3=> ?_);refine N7 ?_;refine jP kk (X:= (Option Addr×Nat)×Nat×Nat) (v:=fun x=> .tuple #[Ju x.1.1 _ x.1.2, .int .i64 _]) (r:=fun x=>JD _ _ x.2.1 x.2.2 x.1.1) (H:=fun _=>True) J J J (lb J) (fun w1 hs=>qy (KM _ n0 n0 rs0 w1 (jV (k:=4) J w1 hs) ht0)) ?_
  rintro⟨⟨A7_1,c7_1_⟩,lo7_1,hi7_1⟩ -
  refine N4 ?_;refine aL (fun b4=> ?_);refine N9 ?_;refine a9 (jH JM J J (fun w1 hs=>JY _ _ _ _ _ (qD rs0 [] 1) w1 (jV (k:=6) J w1 hs) (jV (k:=2) J w1 hs) hst)) ?_;refine S2 ?_;refine kx 36 (.bool false) J (by rw [vv]) ?_;refine S8 ?_;refine qJ J (kD _) ?_;refine S5 ?_;refine Jw 5 ?_;refine dK 0 ?_;refine dK 1 ?_;refine Jh (i:=2) J (by decide) (by kernel_rfl) J ?_;refine jP jN (X:=Nat×Nat×Nat) (v:=fun x=>Ju (some ⟨x.1,0,none⟩) n0 n0) (r:=fun x=>JD n0 rs0 x.2.1 x.2.2 (some ⟨x.1,0,none⟩)) (H:=fun _=>True) J J J (lb J) (fun w1 hs=>JS (Je A0 n0 c0_ rs0 w1 (h0.over hs.fin) ht0)) ?_
  rintro⟨g10_2,lo10_2,hi10_2⟩ -
  refine n9 ?_;refine Q5 (u9 J) ?_;refine dZ 3 J (jH JM J J (fun w1 hs=>JY _ _ _ _ _ rs0 w1 (jV (k:=4) J w1 hs) (jV (k:=8) J w1 hs) ht0)) ?_;refine dK 4 ?_;refine Jj (by kernel_rfl) ?_;refine S1 ?_;refine qJ J (J) ?_;refine S11 ?_;refine QB (k:=4) (r':=JD n0 (Qh 1 rs0) _ _ _) qj J J J (by decide) J (fun w1 hs=>zw (Zp (k:=4) J w1 hs) (xi (k:=4) J w1 hs) (Ca ht0 hl0)) (fun _ h=>h) J ?_;refine N8 ?_;refine kx 51 (.bool false) J (by rw [(ZH _)]) ?_;refine S5 ?_;refine o9 (jH JM J J (fun w1 hs=>JY _ _ _ _ _ (qD rs0 [] 1) w1 (jV (k:=6) J w1 hs) (jV (k:=2) J w1 hs) hst)) ?_;refine S4 ?_;refine kx 57 (.bool false) J (by rw [vv]) ?_;refine S8 ?_;refine qJ J (kD _) ?_;refine S11 ?_;refine QB (k:=6) (r':=JD _ (Qh 1 _) _ _ _) qj J J J (by decide) J (fun w1 hs=>zw (Zp (k:=6) J w1 hs) (xi (k:=6) J w1 hs) hss) (fun _ h=>h) J ?_;refine N10 ?_;refine a9 (jH qQ J J (fun w1 hs=>WP (jV (k:=6) J w1 hs) hss)) ?_;refine S8 ?_;refine qJ J (ZH _) ?_;refine S9 ?_;refine qJ J (kD _) ?_;refine S6 ?_;refine jP jN (X:=Nat×Nat×Nat) (v:=fun x=>Ju (some ⟨x.1,0,none⟩) n0 n0) (r:=fun x=>JD n0 rs0 x.2.1 x.2.2 (some ⟨x.1,0,none⟩)) (H:=fun _=>True) J J J (lb J) (fun w1 hs=>JS (Je A0 n0 c0_ rs0 w1 (h0.over hs.fin) ht0)) ?_
  rintro⟨g24_1,lo24_1,hi24_1⟩ -
  refine N1 ?_;refine jP kk (X:= (Option Addr×Nat)×Nat×Nat) (v:=fun x=> .tuple #[Ju x.1.1 _ x.1.2, .int .i64 _]) (r:=fun x=>JD _ _ x.2.1 x.2.2 x.1.1) (H:=fun _=>True) J J J (lb J) (fun w1 hs=>qy (KM _ n0 n0 rs0 w1 (jV (k:=9) J w1 hs) ht0)) ?_
  rintro⟨⟨A24_2,c24_2_⟩,lo24_2,hi24_2⟩ -
  refine N4 ?_;refine aL (fun b5=> ?_);refine N1 ?_;refine j9 11 jk.szx ?_;refine N5 ?_;refine a9 (jj J J jn J (jF (k:=11) J)) ?_;refine S1 ?_;refine a9 (jH JM J J (fun w1 hs=>JY _ _ _ _ _ (qD rs0 [] 1) w1 (jV (k:=10) J w1 hs) (jV (k:=2) J w1 hs) hst)) ?_;refine S2 ?_;refine kx 83 (.bool false) J (by rw [vv]) ?_;refine S8 ?_;refine qJ J (kD _) ?_;refine S10 ?_;refine a9 (jH qQ J J (fun w1 hs=>WP (jV (k:=6) J w1 hs) hss)) ?_;refine S8 ?_;refine qJ J (ZH _) ?_;refine S9 ?_;refine qJ J (kD _) ?_;refine S7 ?_;refine jL J (.tmp J) ?_
  intro w' hs
  exact⟨rfl,hs.fin⟩
theorem jcw (A0:Option Addr) (n0 c0_:Nat) (rs0:List jS) (w:World) (h0:Rings w A0 n0 rs0) (hm0: (n0:Int)≤9223372036854775807) :
  Calls Tryz.prog 3 #[Ju A0 n0 c0_] w fun e w'=>e= .returned (.bool true)∧Over w w':=by
 have hl0:=h0.1
 refine jU (m:=27) (Tryz.func3) J J (lb J) ?_;refine S3 ?_;refine aX (fun b1=> ?_);refine N10 ?_;refine a9 (jH qI J J (fun w1 hs=>QK A0 n0 c0_ rs0 1048576 w1 (h0.over hs.fin) (by omega) (by omega) hm0)) ?_;refine S8 ?_;refine cZ (fun c1=> ?_) (fun c1=> ?_)
 ·refine S6 ?_;refine jL J (.tmp J) ?_
  intro w' hs
  exact⟨rfl,hs.fin⟩
 ·obtain ⟨ht0,et0⟩ :=La c1
  have htp0: (0:Int)≤total rs0:=jfV _
  rw [et0]
  replace ht0: (total rs0:Int)≤1048576:= (by omega)
  clear hm0 et0
  refine S6 ?_;refine jP jN (X:=Nat×Nat×Nat) (v:=fun x=>Ju (some ⟨x.1,0,none⟩) n0 n0) (r:=fun x=>JD n0 rs0 x.2.1 x.2.2 (some ⟨x.1,0,none⟩)) (H:=fun _=>True) J J J (lb J) (fun w1 hs=>JS (Je A0 n0 c0_ rs0 w1 (h0.over hs.fin) ht0)) ?_
  rintro⟨g5_1,lo5_1,hi5_1⟩ -
  refine n9 ?_;refine a9 (jH Hv J J (fun w1 hs=>HG _ n0 n0 rs0 w1 (jV (k:=1) J w1 hs) ht0)) ?_;refine S6 ?_;refine jP jN (X:=Nat×Nat×Nat) (v:=fun x=>Ju (some ⟨x.1,0,none⟩) n0 n0) (r:=fun x=>JD n0 rs0 x.2.1 x.2.2 (some ⟨x.1,0,none⟩)) (H:=fun _=>True) J J J (lb J) (fun w1 hs=>JS (Je A0 n0 c0_ rs0 w1 (h0.over hs.fin) ht0)) ?_
  rintro⟨g6_1,lo6_1,hi6_1⟩ -
  refine N1 ?_;refine aL (fun b2=> ?_);refine N6 ?_;refine a9 (jH Hm J J (fun w1 hs=>Fz _ n0 n0 rs0 w1 (jV (k:=2) J w1 hs) ht0)) ?_;refine S7 ?_;refine a9 (x7 Y9 J J J) ?_;refine S1 ?_;refine qJ J (TQ _) ?_;refine S5 ?_;refine Jw 5 ?_;refine dK 0 ?_;refine dK 1 ?_;refine Jh (i:=2) J (by decide) (by kernel_rfl) J ?_;refine jP jN (X:=Nat×Nat×Nat) (v:=fun x=>Ju (some ⟨x.1,0,none⟩) n0 n0) (r:=fun x=>JD n0 rs0 x.2.1 x.2.2 (some ⟨x.1,0,none⟩)) (H:=fun _=>True) J J J (lb J) (fun w1 hs=>JS (Je A0 n0 c0_ rs0 w1 (h0.over hs.fin) ht0)) ?_
  rintro⟨g10_2,lo10_2,hi10_2⟩ -
  refine n9 ?_;refine Q5 (u9 J) ?_;refine dZ 3 J (jH JM J J (fun w1 hs=>JY _ _ _ _ _ rs0 w1 (jV (k:=2) J w1 hs) (jV (k:=4) J w1 hs) ht0)) ?_;refine dK 4 ?_;refine Jj (by kernel_rfl) ?_;refine S1 ?_;refine qJ J (J) ?_;refine S7 ?_;refine jL J (.tmp J) ?_
  intro w' hs
  exact⟨rfl,hs.fin⟩
theorem ja0 (A0:Option Addr) (n0 c0_:Nat) (rs0:List jS) (A1:Option Addr) (n1 c1_:Nat) (rs1:List jS) (w:World) (h0:Rings w A0 n0 rs0) (hm0: (n0:Int)≤9223372036854775807) (h1:Rings w A1 n1 rs1) (hm1: (n1:Int)≤9223372036854775807) :
  Calls Tryz.prog 9 #[Ju A0 n0 c0_,Ju A1 n1 c1_] w fun e w'=>e= .returned (.bool true)∧Over w w':=by
 have hl0:=h0.1
 have hl1:=h1.1
 refine jU (m:=58) (Tryz.func9) J J (lb J) ?_;refine S3 ?_;refine aX (fun b1=> ?_);refine N1 ?_;refine aX (fun b2=> ?_);refine N10 ?_;refine a9 (jH qI J J (fun w1 hs=>QK A0 n0 c0_ rs0 1048576 w1 (h0.over hs.fin) (by omega) (by omega) hm0)) ?_;refine S8 ?_;refine cZ (fun c1=> ?_) (fun c1=> ?_)
 ·refine S6 ?_;refine jL J (.tmp J) ?_
  intro w' hs
  exact⟨rfl,hs.fin⟩
 ·obtain ⟨ht0,et0⟩ :=La c1
  have htp0: (0:Int)≤total rs0:=jfV _
  rw [et0]
  replace ht0: (total rs0:Int)≤1048576:= (by omega)
  clear hm0 et0
  refine S6 ?_;refine a9 (jH qI J J (fun w1 hs=>QK A1 n1 c1_ rs1 _ w1 (h1.over hs.fin) (by omega) (by omega) hm1)) ?_;refine S8 ?_;refine cZ (fun c2=> ?_) (fun c2=> ?_)
  ·refine S6 ?_;refine jL J (.tmp J) ?_
   intro w' hs
   exact⟨rfl,hs.fin⟩
  ·obtain ⟨ht1,et1⟩ :=La c2
   have htp1: (0:Int)≤total rs1:=jfV _
   rw [et1]
   replace ht1: (total rs1:Int)≤1048576:= (by omega)
   clear hm1 et1
   refine S2 ?_;refine wW [(6, .bool (shV rs0 rs1)),(7, .int .i64 (shC rs0 rs1))] ([.cel b1 24 [.slice A0 n0 c0_], .cel b2 24 [.slice A1 n1 c1_]]) (kK [2,3,4]) (fun L h_8=> ?_) ?_
   ·refine S1 ?_;refine Jw 10 ?_;refine dK 0 ?_;refine dK 2 ?_;refine Jh (i:=1) J (by decide) (by kernel_rfl) J ?_;refine jP jN (X:=Nat×Nat×Nat) (v:=fun x=>Ju (some ⟨x.1,0,none⟩) n0 n0) (r:=fun x=>JD n0 rs0 x.2.1 x.2.2 (some ⟨x.1,0,none⟩)) (H:=fun _=>True) J J J (lb J) (fun w1 hs=>JS (Je A0 n0 c0_ rs0 w1 (h0.over hs.fin) ht0)) ?_
    rintro⟨g8_1,lo8_1,hi8_1⟩ -
    refine n9 ?_;refine Q5 (u9 J) ?_;refine Jh (i:=3) J (by decide) (by kernel_rfl) J ?_;refine jP jN (X:=Nat×Nat×Nat) (v:=fun x=>Ju (some ⟨x.1,0,none⟩) n1 n1) (r:=fun x=>JD n1 rs1 x.2.1 x.2.2 (some ⟨x.1,0,none⟩)) (H:=fun _=>True) J J J (lb J) (fun w1 hs=>JS (Je A1 n1 c1_ rs1 w1 (h1.over hs.fin) ht1)) ?_
    rintro⟨g8_3,lo8_3,hi8_3⟩ -
    refine n9 ?_;refine Q5 (u9 J) ?_;refine dZ 4 J (jH xN J J (fun w1 hs=>Xl _ n0 n0 rs0 _ n1 n1 rs1 w1 (jV (k:=2) J w1 hs) (jV (k:=3) J w1 hs) ht0 ht1)) ?_;refine dK 5 ?_;refine dK 6 ?_;refine dK 7 ?_;refine dK 8 ?_;refine dK 9 ?_;refine Jj (by kernel_rfl) ?_;refine S1 ?_
    exact Jb h_8 ⟨J,sz⟩ (u9 J)
   ·refine V4 ?_;refine jP jN (X:=Nat×Nat×Nat) (v:=fun x=>Ju (some ⟨x.1,0,none⟩) n0 n0) (r:=fun x=>JD n0 rs0 x.2.1 x.2.2 (some ⟨x.1,0,none⟩)) (H:=fun _=>True) J J J (lb J) (fun w1 hs=>JS (Je A0 n0 c0_ rs0 w1 (h0.over hs.fin) ht0)) ?_
    rintro⟨g9_1,lo9_1,hi9_1⟩ -
    refine N1 ?_;refine aL (fun b3=> ?_);refine N7 ?_;refine jP jN (X:=Nat×Nat×Nat) (v:=fun x=>Ju (some ⟨x.1,0,none⟩) n1 n1) (r:=fun x=>JD n1 rs1 x.2.1 x.2.2 (some ⟨x.1,0,none⟩)) (H:=fun _=>True) J J J (lb J) (fun w1 hs=>JS (Je A1 n1 c1_ rs1 w1 (h1.over hs.fin) ht1)) ?_
    rintro⟨g10_1,lo10_1,hi10_1⟩ -
    refine N1 ?_;refine aL (fun b4=> ?_);refine N7 ?_;refine a9 (jH xG J J (fun w1 hs=>M6 _ n0 n0 rs0 _ n1 n1 rs1 w1 (jV (k:=2) J w1 hs) (jV (k:=4) J w1 hs) ht0 ht1)) ?_;refine S11 ?_;refine a9 (x7 Y9 J J J) ?_;refine S1 ?_;refine kx 43 (.bool false) J (by rw [(TQ _)]) ?_;refine S8 ?_;refine qJ J (kD _) ?_;refine S5 ?_;refine Jw 5 ?_;refine dK 0 ?_;refine dK 1 ?_;refine Jh (i:=2) J (by decide) (by kernel_rfl) J ?_;refine jP jN (X:=Nat×Nat×Nat) (v:=fun x=>Ju (some ⟨x.1,0,none⟩) n0 n0) (r:=fun x=>JD n0 rs0 x.2.1 x.2.2 (some ⟨x.1,0,none⟩)) (H:=fun _=>True) J J J (lb J) (fun w1 hs=>JS (Je A0 n0 c0_ rs0 w1 (h0.over hs.fin) ht0)) ?_
    rintro⟨g14_2,lo14_2,hi14_2⟩ -
    refine n9 ?_;refine Q5 (u9 J) ?_;refine dZ 3 J (jH JM J J (fun w1 hs=>JY _ _ _ _ _ rs0 w1 (jV (k:=2) J w1 hs) (jV (k:=6) J w1 hs) ht0)) ?_;refine dK 4 ?_;refine Jj (by kernel_rfl) ?_;refine S1 ?_;refine qJ J (J) ?_;refine S5 ?_;refine Jw 5 ?_;refine dK 0 ?_;refine dK 1 ?_;refine Jh (i:=2) J (by decide) (by kernel_rfl) J ?_;refine jP jN (X:=Nat×Nat×Nat) (v:=fun x=>Ju (some ⟨x.1,0,none⟩) n1 n1) (r:=fun x=>JD n1 rs1 x.2.1 x.2.2 (some ⟨x.1,0,none⟩)) (H:=fun _=>True) J J J (lb J) (fun w1 hs=>JS (Je A1 n1 c1_ rs1 w1 (h1.over hs.fin) ht1)) ?_
    rintro⟨g16_2,lo16_2,hi16_2⟩ -
    refine n9 ?_;refine Q5 (u9 J) ?_;refine dZ 3 J (jH JM J J (fun w1 hs=>JY _ _ _ _ _ rs1 w1 (jV (k:=4) J w1 hs) (jV (k:=7) J w1 hs) ht1)) ?_;refine dK 4 ?_;refine Jj (by kernel_rfl) ?_;refine S1 ?_;refine qJ J (J) ?_;refine S7 ?_;refine jL J (.tmp J) ?_
    intro w' hs
    exact⟨rfl,hs.fin⟩
end Go.Proofs.YtkagkgjjfdkoaaaGreat
