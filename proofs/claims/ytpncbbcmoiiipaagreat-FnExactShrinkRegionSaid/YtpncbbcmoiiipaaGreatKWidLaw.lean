import Derived.Test.YtpncbbcmoiiipaaGreatKWid
set_option linter.unusedVariables false
set_option linter.unusedSimpArgs false
namespace Go.Proofs.YtpncbbcmoiiipaaGreat
open Go Go.RowKit
set_option maxRecDepth 100000
set_option maxHeartbeats 4000000
theorem jmp (A0:Option Addr) (n0 c0_:Nat) (rs0:List jV) (A1:Option Addr) (n1 c1_:Nat) (xs1:List (Int×Int)) (w:World) (h0:Rings w A0 n0 rs0) (hm0: (n0:Int)≤9223372036854775807) (h1:Pts w A1 n1 xs1) (hm1: (n1:Int)≤9223372036854775807) :
  Calls Tryz.prog 4 #[qT A0 n0 c0_, .slice A1 n1 c1_] w fun e w'=>e= .returned (.bool true)∧Over w w':=by
 have hl0:=h0.1
 have hl1:=h1.1
 have hsm:=jnp xs1 rs0 1
 have hst:=hsm.total
 have hss:=hsm.sum rfl
 refine Jh (m:=119) (Tryz.func4) J J (lb J) ?_;refine S3 ?_;refine aX (fun b1=> ?_);refine N10 ?_;refine a9 (jT jky J J (fun w1 hs=>jk5 A0 n0 c0_ rs0 1048576 w1 (h0.over hs.fin) Om Om hm0)) ?_;refine S8 ?_;refine cZ (fun c1=> ?_) (fun c1=> ?_)
 ·refine S6 ?_;refine jM J (.tmp J) ?_
  intro w' hs
  exact⟨rfl,hs.fin⟩
 ·obtain ⟨ht0,et0⟩ :=jlt c1
  have htp0: (0:Int)≤total rs0:=Int.natCast_nonneg _
  rw [et0]
  replace ht0: (total rs0:Int)≤1048576:=Om
  have hts0:Wz rs0 n0≤1048576:= (by have h9:=ht0;unfold total at h9;rw [hl0] at h9;omega)
  clear hm0 et0
  refine S6 ?_;refine a9 (jT jkB J J (fun w1 hs=>Calls.still (jkE A1 n1 c1_ _ w1 Om Om hm1))) ?_;refine S8 ?_;refine cZ (fun c2=> ?_) (fun c2=> ?_)
  ·refine S6 ?_;refine jM J (.tmp J) ?_
   intro w' hs
   exact⟨rfl,hs.fin⟩
  ·obtain ⟨ht1,et1⟩ :=jlt c2
   rw [et1]
   replace ht1: (n1:Int)≤1048576:=Om
   clear hm1 et1
   refine S6 ?_;refine J4 kB (X:=Nat×Nat×Nat) (v:=fun x=>qT (some ⟨x.1,0,none⟩) n0 n0) (r:=fun x=>Ky n0 rs0 x.2.1 x.2.2 (some ⟨x.1,0,none⟩)) (H:=fun _=>True) J J J (lb J) (fun w1 hs=>jkg (K2 A0 n0 c0_ rs0 w1 (h0.over hs.fin) ht0)) ?_
   rintro⟨g8_1,lo8_1,hi8_1⟩ -
   refine N2 ?_;refine J4 kf (X:=Nat×Nat×Nat) (v:=fun x=> .slice (some ⟨x.1,0,none⟩) n1 n1) (r:=fun x=>jgY n1 xs1 x.2.1 x.2.2 (some ⟨x.1,0,none⟩)) (H:=fun _=>True) J J J (lb J) (fun w1 hs=>jkj A1 n1 c1_ xs1 w1 (h1.over hs.fin) ht1) ?_
   rintro⟨g8_3,lo8_3,hi8_3⟩ -
   refine N1 ?_;refine J4 jlx (X:= (Option Addr×Nat)×Nat×Nat) (v:=fun x=> .tuple #[qT x.1.1 _ x.1.2, .int .i64 _]) (r:=fun x=>Ky _ _ x.2.1 x.2.2 x.1.1) (H:=fun _=>True) J J J (lb J) (fun w1 hs=>jku (jly _ n0 n0 rs0 _ n1 n1 xs1 w1 (vM (k:=1) J w1 hs) (Rv (k:=2) J w1 hs) ht0 ht1)) ?_
   rintro⟨⟨A8_4,c8_4_⟩,lo8_4,hi8_4⟩ -
   refine N4 ?_;refine aL (fun b2=> ?_);refine N8 ?_;refine J4 kB (X:=Nat×Nat×Nat) (v:=fun x=>qT (some ⟨x.1,0,none⟩) n0 n0) (r:=fun x=>Ky n0 rs0 x.2.1 x.2.2 (some ⟨x.1,0,none⟩)) (H:=fun _=>True) J J J (lb J) (fun w1 hs=>jkg (K2 A0 n0 c0_ rs0 w1 (h0.over hs.fin) ht0)) ?_
   rintro⟨g9_1,lo9_1,hi9_1⟩ -
   refine N1 ?_;refine aL (fun b3=> ?_);refine N7 ?_;refine J4 kf (X:=Nat×Nat×Nat) (v:=fun x=> .slice (some ⟨x.1,0,none⟩) n1 n1) (r:=fun x=>jgY n1 xs1 x.2.1 x.2.2 (some ⟨x.1,0,none⟩)) (H:=fun _=>True) J J J (lb J) (fun w1 hs=>jkj A1 n1 c1_ xs1 w1 (h1.over hs.fin) ht1) ?_
   rintro⟨g10_1,lo10_1,hi10_1⟩ -
   refine N7 ?_;refine J4 jkD (X:= (Option Addr×Nat)×Nat×Nat) (v:=fun x=> .tuple #[qT x.1.1 _ x.1.2, .int .i64 _]) (r:=fun x=>Ky _ _ x.2.1 x.2.2 x.1.1) (H:=fun _=>True) J J J (lb J) (fun w1 hs=>jku (jk6 _ n0 n0 rs0 _ n1 n1 xs1 w1 (vM (k:=5) J w1 hs) (Rv (k:=7) J w1 hs) ht0 ht1)) ?_
   rintro⟨⟨A11_2,c11_2_⟩,lo11_2,hi11_2⟩ -
   refine N4 ?_;refine aL (fun b4=> ?_);refine N9 ?_;refine a9 (jT kx J J (fun w1 hs=>K1 _ _ _ _ _ (wdR xs1 rs0 1) w1 (vM (k:=8) J w1 hs) (vM (k:=3) J w1 hs) hst)) ?_;refine S2 ?_;refine W7 49 (.bool false) J (by rw [jkn]) ?_;refine S8 ?_;refine Dh J (F2 _) ?_;refine S5 ?_;refine JS 5 ?_;refine dK 0 ?_;refine dK 1 ?_;refine qe (i:=2) J Dc Kr J ?_;refine J4 kB (X:=Nat×Nat×Nat) (v:=fun x=>qT (some ⟨x.1,0,none⟩) n0 n0) (r:=fun x=>Ky n0 rs0 x.2.1 x.2.2 (some ⟨x.1,0,none⟩)) (H:=fun _=>True) J J J (lb J) (fun w1 hs=>jkg (K2 A0 n0 c0_ rs0 w1 (h0.over hs.fin) ht0)) ?_
   rintro⟨g14_2,lo14_2,hi14_2⟩ -
   refine n9 ?_;refine Yq (u9 J) ?_;refine dZ 3 J (jT kx J J (fun w1 hs=>K1 _ _ _ _ _ rs0 w1 (vM (k:=5) J w1 hs) (vM (k:=10) J w1 hs) ht0)) ?_;refine dK 4 ?_;refine JK Kr ?_;refine S1 ?_;refine Dh J (J) ?_;refine S8 ?_;refine J4 kf (X:=Nat×Nat×Nat) (v:=fun x=> .slice (some ⟨x.1,0,none⟩) n1 n1) (r:=fun x=>jgY n1 xs1 x.2.1 x.2.2 (some ⟨x.1,0,none⟩)) (H:=fun _=>True) J J J (lb J) (fun w1 hs=>jkj A1 n1 c1_ xs1 w1 (h1.over hs.fin) ht1) ?_
   rintro⟨g16_2,lo16_2,hi16_2⟩ -
   refine n9 ?_;refine a9 (jT jkA J J (fun w1 hs=>jkF _ _ _ _ _ xs1 w1 (Rv (k:=7) J w1 hs) (Rv (k:=11) J w1 hs) ht1)) ?_;refine S2 ?_;refine Dh J (J) ?_;refine S11 ?_;refine z7 (k:=5) (r':=Ky n0 (F1 1 rs0) _ _ _) zr J J J Dc J (fun w1 hs=>jlo (jhZ (k:=5) J w1 hs) (joE (k:=5) J w1 hs) (jmh ht0 hl0)) (fun _ h=>h) J ?_;refine N7 ?_;refine z7 (k:=7) (r':=jgY n1 (jkk _ n1) _ _ _) jkc J J J Dc J (fun w1 hs=>jlY _ (jpg (k:=7) J w1 hs) (jpx (k:=7) J w1 hs) Om Om) (fun _ h=>h) J ?_;refine N8 ?_;refine W7 72 (.bool false) J (by rw [(jpf _ _)]) ?_;refine S5 ?_;refine o9 (jT kx J J (fun w1 hs=>K1 _ _ _ _ _ (wdR xs1 rs0 1) w1 (vM (k:=8) J w1 hs) (vM (k:=3) J w1 hs) hst)) ?_;refine S4 ?_;refine W7 78 (.bool false) J (by rw [jkn]) ?_;refine S8 ?_;refine Dh J (F2 _) ?_;refine S11 ?_;refine z7 (k:=8) (r':=Ky _ (F1 1 _) _ _ _) zr J J J Dc J (fun w1 hs=>jlo (jhZ (k:=8) J w1 hs) (joE (k:=8) J w1 hs) hss) (fun _ h=>h) J ?_;refine N10 ?_;refine a9 (jT wv J J (fun w1 hs=>jln (vM (k:=8) J w1 hs) hss)) ?_;refine S8 ?_;refine Dh J (joi _) ?_;refine S9 ?_;refine Dh J (F2 _) ?_;refine S6 ?_;refine J4 kB (X:=Nat×Nat×Nat) (v:=fun x=>qT (some ⟨x.1,0,none⟩) n0 n0) (r:=fun x=>Ky n0 rs0 x.2.1 x.2.2 (some ⟨x.1,0,none⟩)) (H:=fun _=>True) J J J (lb J) (fun w1 hs=>jkg (K2 A0 n0 c0_ rs0 w1 (h0.over hs.fin) ht0)) ?_
   rintro⟨g31_1,lo31_1,hi31_1⟩ -
   refine N2 ?_;refine J4 kf (X:=Nat×Nat×Nat) (v:=fun x=> .slice (some ⟨x.1,0,none⟩) n1 n1) (r:=fun x=>jgY n1 xs1 x.2.1 x.2.2 (some ⟨x.1,0,none⟩)) (H:=fun _=>True) J J J (lb J) (fun w1 hs=>jkj A1 n1 c1_ xs1 w1 (h1.over hs.fin) ht1) ?_
   rintro⟨g31_3,lo31_3,hi31_3⟩ -
   refine N1 ?_;refine J4 jkD (X:= (Option Addr×Nat)×Nat×Nat) (v:=fun x=> .tuple #[qT x.1.1 _ x.1.2, .int .i64 _]) (r:=fun x=>Ky _ _ x.2.1 x.2.2 x.1.1) (H:=fun _=>True) J J J (lb J) (fun w1 hs=>jku (jk6 _ n0 n0 rs0 _ n1 n1 xs1 w1 (vM (k:=12) J w1 hs) (Rv (k:=13) J w1 hs) ht0 ht1)) ?_
   rintro⟨⟨A31_4,c31_4_⟩,lo31_4,hi31_4⟩ -
   refine N4 ?_;refine aL (fun b5=> ?_);refine N1 ?_;refine j9 15 jr.szx ?_;refine N5 ?_;refine a9 (jk J J jG J (jY (k:=15) J)) ?_;refine S1 ?_;refine a9 (jT kx J J (fun w1 hs=>K1 _ _ _ _ _ (wdR xs1 rs0 1) w1 (vM (k:=14) J w1 hs) (vM (k:=3) J w1 hs) hst)) ?_;refine S2 ?_;refine W7 106 (.bool false) J (by rw [jkn]) ?_;refine S8 ?_;refine Dh J (F2 _) ?_;refine S10 ?_;refine a9 (jT wv J J (fun w1 hs=>jln (vM (k:=8) J w1 hs) hss)) ?_;refine S8 ?_;refine Dh J (joi _) ?_;refine S9 ?_;refine Dh J (F2 _) ?_;refine S7 ?_;refine jM J (.tmp J) ?_
   intro w' hs
   exact⟨rfl,hs.fin⟩
theorem jmc (A0:Option Addr) (n0 c0_:Nat) (rs0:List jV) (A1:Option Addr) (n1 c1_:Nat) (xs1:List (Int×Int)) (w:World) (h0:Rings w A0 n0 rs0) (hm0: (n0:Int)≤9223372036854775807) (h1:Pts w A1 n1 xs1) (hm1: (n1:Int)≤9223372036854775807) :
  Calls Tryz.prog 5 #[qT A0 n0 c0_, .slice A1 n1 c1_] w fun e w'=>e= .returned (.bool true)∧Over w w':=by
 have hl0:=h0.1
 have hl1:=h1.1
 have hsm:=jnp xs1 rs0 3
 have hst:=hsm.total
 have hss:=hsm.sum rfl
 refine Jh (m:=119) (Tryz.func5) J J (lb J) ?_;refine S3 ?_;refine aX (fun b1=> ?_);refine N10 ?_;refine a9 (jT jky J J (fun w1 hs=>jk5 A0 n0 c0_ rs0 1048576 w1 (h0.over hs.fin) Om Om hm0)) ?_;refine S8 ?_;refine cZ (fun c1=> ?_) (fun c1=> ?_)
 ·refine S6 ?_;refine jM J (.tmp J) ?_
  intro w' hs
  exact⟨rfl,hs.fin⟩
 ·obtain ⟨ht0,et0⟩ :=jlt c1
  have htp0: (0:Int)≤total rs0:=Int.natCast_nonneg _
  rw [et0]
  replace ht0: (total rs0:Int)≤1048576:=Om
  have hts0:Wz rs0 n0≤1048576:= (by have h9:=ht0;unfold total at h9;rw [hl0] at h9;omega)
  clear hm0 et0
  refine S6 ?_;refine a9 (jT jkB J J (fun w1 hs=>Calls.still (jkE A1 n1 c1_ _ w1 Om Om hm1))) ?_;refine S8 ?_;refine cZ (fun c2=> ?_) (fun c2=> ?_)
  ·refine S6 ?_;refine jM J (.tmp J) ?_
   intro w' hs
   exact⟨rfl,hs.fin⟩
  ·obtain ⟨ht1,et1⟩ :=jlt c2
   rw [et1]
   replace ht1: (n1:Int)≤1048576:=Om
   clear hm1 et1
   refine S6 ?_;refine J4 kB (X:=Nat×Nat×Nat) (v:=fun x=>qT (some ⟨x.1,0,none⟩) n0 n0) (r:=fun x=>Ky n0 rs0 x.2.1 x.2.2 (some ⟨x.1,0,none⟩)) (H:=fun _=>True) J J J (lb J) (fun w1 hs=>jkg (K2 A0 n0 c0_ rs0 w1 (h0.over hs.fin) ht0)) ?_
   rintro⟨g8_1,lo8_1,hi8_1⟩ -
   refine N2 ?_;refine J4 kf (X:=Nat×Nat×Nat) (v:=fun x=> .slice (some ⟨x.1,0,none⟩) n1 n1) (r:=fun x=>jgY n1 xs1 x.2.1 x.2.2 (some ⟨x.1,0,none⟩)) (H:=fun _=>True) J J J (lb J) (fun w1 hs=>jkj A1 n1 c1_ xs1 w1 (h1.over hs.fin) ht1) ?_
   rintro⟨g8_3,lo8_3,hi8_3⟩ -
   refine N1 ?_;refine J4 jle (X:= (Option Addr×Nat)×Nat×Nat) (v:=fun x=> .tuple #[qT x.1.1 _ x.1.2, .int .i64 _]) (r:=fun x=>Ky _ _ x.2.1 x.2.2 x.1.1) (H:=fun _=>True) J J J (lb J) (fun w1 hs=>jku (jlk _ n0 n0 rs0 _ n1 n1 xs1 w1 (vM (k:=1) J w1 hs) (Rv (k:=2) J w1 hs) ht0 ht1)) ?_
   rintro⟨⟨A8_4,c8_4_⟩,lo8_4,hi8_4⟩ -
   refine N4 ?_;refine aL (fun b2=> ?_);refine N8 ?_;refine J4 kB (X:=Nat×Nat×Nat) (v:=fun x=>qT (some ⟨x.1,0,none⟩) n0 n0) (r:=fun x=>Ky n0 rs0 x.2.1 x.2.2 (some ⟨x.1,0,none⟩)) (H:=fun _=>True) J J J (lb J) (fun w1 hs=>jkg (K2 A0 n0 c0_ rs0 w1 (h0.over hs.fin) ht0)) ?_
   rintro⟨g9_1,lo9_1,hi9_1⟩ -
   refine N1 ?_;refine aL (fun b3=> ?_);refine N7 ?_;refine J4 kf (X:=Nat×Nat×Nat) (v:=fun x=> .slice (some ⟨x.1,0,none⟩) n1 n1) (r:=fun x=>jgY n1 xs1 x.2.1 x.2.2 (some ⟨x.1,0,none⟩)) (H:=fun _=>True) J J J (lb J) (fun w1 hs=>jkj A1 n1 c1_ xs1 w1 (h1.over hs.fin) ht1) ?_
   rintro⟨g10_1,lo10_1,hi10_1⟩ -
   refine N7 ?_;refine J4 jkC (X:= (Option Addr×Nat)×Nat×Nat) (v:=fun x=> .tuple #[qT x.1.1 _ x.1.2, .int .i64 _]) (r:=fun x=>Ky _ _ x.2.1 x.2.2 x.1.1) (H:=fun _=>True) J J J (lb J) (fun w1 hs=>jku (jkU _ n0 n0 rs0 _ n1 n1 xs1 w1 (vM (k:=5) J w1 hs) (Rv (k:=7) J w1 hs) ht0 ht1)) ?_
   rintro⟨⟨A11_2,c11_2_⟩,lo11_2,hi11_2⟩ -
   refine N4 ?_;refine aL (fun b4=> ?_);refine N9 ?_;refine a9 (jT kx J J (fun w1 hs=>K1 _ _ _ _ _ (wdR xs1 rs0 3) w1 (vM (k:=8) J w1 hs) (vM (k:=3) J w1 hs) hst)) ?_;refine S2 ?_;refine W7 49 (.bool false) J (by rw [jkn]) ?_;refine S8 ?_;refine Dh J (F2 _) ?_;refine S5 ?_;refine JS 5 ?_;refine dK 0 ?_;refine dK 1 ?_;refine qe (i:=2) J Dc Kr J ?_;refine J4 kB (X:=Nat×Nat×Nat) (v:=fun x=>qT (some ⟨x.1,0,none⟩) n0 n0) (r:=fun x=>Ky n0 rs0 x.2.1 x.2.2 (some ⟨x.1,0,none⟩)) (H:=fun _=>True) J J J (lb J) (fun w1 hs=>jkg (K2 A0 n0 c0_ rs0 w1 (h0.over hs.fin) ht0)) ?_
   rintro⟨g14_2,lo14_2,hi14_2⟩ -
   refine n9 ?_;refine Yq (u9 J) ?_;refine dZ 3 J (jT kx J J (fun w1 hs=>K1 _ _ _ _ _ rs0 w1 (vM (k:=5) J w1 hs) (vM (k:=10) J w1 hs) ht0)) ?_;refine dK 4 ?_;refine JK Kr ?_;refine S1 ?_;refine Dh J (J) ?_;refine S8 ?_;refine J4 kf (X:=Nat×Nat×Nat) (v:=fun x=> .slice (some ⟨x.1,0,none⟩) n1 n1) (r:=fun x=>jgY n1 xs1 x.2.1 x.2.2 (some ⟨x.1,0,none⟩)) (H:=fun _=>True) J J J (lb J) (fun w1 hs=>jkj A1 n1 c1_ xs1 w1 (h1.over hs.fin) ht1) ?_
   rintro⟨g16_2,lo16_2,hi16_2⟩ -
   refine n9 ?_;refine a9 (jT jkA J J (fun w1 hs=>jkF _ _ _ _ _ xs1 w1 (Rv (k:=7) J w1 hs) (Rv (k:=11) J w1 hs) ht1)) ?_;refine S2 ?_;refine Dh J (J) ?_;refine S11 ?_;refine z7 (k:=5) (r':=Ky n0 (F1 1 rs0) _ _ _) zr J J J Dc J (fun w1 hs=>jlo (jhZ (k:=5) J w1 hs) (joE (k:=5) J w1 hs) (jmh ht0 hl0)) (fun _ h=>h) J ?_;refine N7 ?_;refine z7 (k:=7) (r':=jgY n1 (jkk _ n1) _ _ _) jkc J J J Dc J (fun w1 hs=>jlY _ (jpg (k:=7) J w1 hs) (jpx (k:=7) J w1 hs) Om Om) (fun _ h=>h) J ?_;refine N8 ?_;refine W7 72 (.bool false) J (by rw [(jpf _ _)]) ?_;refine S5 ?_;refine o9 (jT kx J J (fun w1 hs=>K1 _ _ _ _ _ (wdR xs1 rs0 3) w1 (vM (k:=8) J w1 hs) (vM (k:=3) J w1 hs) hst)) ?_;refine S4 ?_;refine W7 78 (.bool false) J (by rw [jkn]) ?_;refine S8 ?_;refine Dh J (F2 _) ?_;refine S11 ?_;refine z7 (k:=8) (r':=Ky _ (F1 1 _) _ _ _) zr J J J Dc J (fun w1 hs=>jlo (jhZ (k:=8) J w1 hs) (joE (k:=8) J w1 hs) hss) (fun _ h=>h) J ?_;refine N10 ?_;refine a9 (jT wv J J (fun w1 hs=>jln (vM (k:=8) J w1 hs) hss)) ?_;refine S8 ?_;refine Dh J (joi _) ?_;refine S9 ?_;refine Dh J (F2 _) ?_;refine S6 ?_;refine J4 kB (X:=Nat×Nat×Nat) (v:=fun x=>qT (some ⟨x.1,0,none⟩) n0 n0) (r:=fun x=>Ky n0 rs0 x.2.1 x.2.2 (some ⟨x.1,0,none⟩)) (H:=fun _=>True) J J J (lb J) (fun w1 hs=>jkg (K2 A0 n0 c0_ rs0 w1 (h0.over hs.fin) ht0)) ?_
   rintro⟨g31_1,lo31_1,hi31_1⟩ -
   refine N2 ?_;refine J4 kf (X:=Nat×Nat×Nat) (v:=fun x=> .slice (some ⟨x.1,0,none⟩) n1 n1) (r:=fun x=>jgY n1 xs1 x.2.1 x.2.2 (some ⟨x.1,0,none⟩)) (H:=fun _=>True) J J J (lb J) (fun w1 hs=>jkj A1 n1 c1_ xs1 w1 (h1.over hs.fin) ht1) ?_
   rintro⟨g31_3,lo31_3,hi31_3⟩ -
   refine N1 ?_;refine J4 jkC (X:= (Option Addr×Nat)×Nat×Nat) (v:=fun x=> .tuple #[qT x.1.1 _ x.1.2, .int .i64 _]) (r:=fun x=>Ky _ _ x.2.1 x.2.2 x.1.1) (H:=fun _=>True) J J J (lb J) (fun w1 hs=>jku (jkU _ n0 n0 rs0 _ n1 n1 xs1 w1 (vM (k:=12) J w1 hs) (Rv (k:=13) J w1 hs) ht0 ht1)) ?_
   rintro⟨⟨A31_4,c31_4_⟩,lo31_4,hi31_4⟩ -
   refine N4 ?_;refine aL (fun b5=> ?_);refine N1 ?_;refine j9 15 jr.szx ?_;refine N5 ?_;refine a9 (jk J J jG J (jY (k:=15) J)) ?_;refine S1 ?_;refine a9 (jT kx J J (fun w1 hs=>K1 _ _ _ _ _ (wdR xs1 rs0 3) w1 (vM (k:=14) J w1 hs) (vM (k:=3) J w1 hs) hst)) ?_;refine S2 ?_;refine W7 106 (.bool false) J (by rw [jkn]) ?_;refine S8 ?_;refine Dh J (F2 _) ?_;refine S10 ?_;refine a9 (jT wv J J (fun w1 hs=>jln (vM (k:=8) J w1 hs) hss)) ?_;refine S8 ?_;refine Dh J (joi _) ?_;refine S9 ?_;refine Dh J (F2 _) ?_;refine S7 ?_;refine jM J (.tmp J) ?_
   intro w' hs
   exact⟨rfl,hs.fin⟩
end Go.Proofs.YtpncbbcmoiiipaaGreat
