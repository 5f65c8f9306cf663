import Derived.Test.YtpncbbcmoiiipaaGreatKStroke
import Derived.Test.YtpncbbcmoiiipaaGreatKCmbS
import Derived.Test.YtpncbbcmoiiipaaGreatKMem
import Derived.Test.YtpncbbcmoiiipaaGreatKLegs
import Derived.Test.YtpncbbcmoiiipaaGreatKLawKit
import Derived.Test.YtpncbbcmoiiipaaGreatKValidRegion
set_option linter.unusedVariables false
set_option linter.unusedSimpArgs false
namespace Go.Proofs.YtpncbbcmoiiipaaGreat
open Go Go.RowKit
set_option maxRecDepth 100000
set_option maxHeartbeats 4000000
def soR (pen path:List Pn) (cl:Bool) :List jV:=if rwC pen path cl=0 then uU (rwR pen path cl) [] 1 else []
def soC (pen path:List Pn) (cl:Bool) :Int:=if rwC pen path cl=0 then Gz (rwR pen path cl) [] 1 else rwC pen path cl
theorem jpM {pen path:List Pn} {cl:Bool} (h:¬rwC pen path cl=0) :soR pen path cl= []∧soC pen path cl=rwC pen path cl:=⟨if_neg h,if_neg h⟩
theorem jpo {pen path:List Pn} {cl:Bool} (h:rwC pen path cl=0) :soR pen path cl=uU (rwR pen path cl) [] 1∧soC pen path cl=Gz (rwR pen path cl) [] 1:=⟨if_pos h,if_pos h⟩
theorem joO (pen path:List Pn) (cl:Bool) :smallR (soR pen path cl) :=by
 unfold soR
 split
 ·exact Et _ _ _
 ·exact smallR.nil
theorem jpl (pen path:List Pn) (cl:Bool) : (total (rwR pen path cl) :Int)≤1048576:=jjC (jnm pen path cl).total Dc
theorem jlO (A:Option Addr) (n c:Nat) (pen:List Pn) (B:Option Addr) (m d:Nat) (path:List Pn) (cl:Bool) (w:World) (h:Pts w A n pen) (h2:Pts w B m path) (hn: (n:Int)≤1048576) (hm: (m:Int)≤1048576) :
  Calls Tryz.prog 15 #[.slice A n c, .slice B m d, .bool cl] w fun e w'=>∃A' c',e= .returned (.tuple #[qT A' (soR pen path cl).length c', .int .i64 (soC pen path cl)])∧OwnG w.heap.size w'.heap.size w' A' (soR pen path cl).length (soR pen path cl)∧Over w w':=by
 refine Jh (m:=25) (Tryz.func15) J J (lb J) ?_;refine S3 ?_;refine aL (fun b1=> ?_);refine N8 ?_;refine J4 jkP (X:= (Option Addr×Nat)×Nat×Nat) (v:=fun x=> .tuple #[qT x.1.1 (rwR pen path cl).length x.1.2, .int .i64 (rwC pen path cl)]) (r:=fun x=>Ky (rwR pen path cl).length (rwR pen path cl) x.2.1 x.2.2 x.1.1) (H:=fun _=>True) J J J (lb J) (fun w1 hs=>jku (jm5 A n c pen B m d path cl w1 (h.over hs.fin) (h2.over hs.fin) hn hm)) ?_
 rintro⟨⟨gA,gc⟩,glo,ghi⟩ -
 refine N4 ?_;refine aL (fun b2=> ?_);refine N10 ?_;refine cZ (fun c1=> ?_) (fun c1=> ?_)
 ·obtain ⟨e1,e2⟩ :=jpM (by simpa using c1)
  refine S2 ?_;refine a9 (JU J J (qg)) ?_;refine S7 ?_;refine qv J (qh (k:=0) J jG J J) (.tmp J) ?_
  intro w' hs
  exact⟨none,0,by rw [e1,e2];rfl,by rw [e1];exact OwnG.nil none,hs.fin⟩
 ·obtain ⟨e1,e2⟩ :=jpo (by simpa using c1)
  refine S6 ?_;refine J4 K8 (X:= (Option Addr×Nat)×Nat×Nat) (v:=fun x=> .tuple #[qT x.1.1 (uU (rwR pen path cl) [] 1).length x.1.2, .int .i64 (Gz (rwR pen path cl) [] 1)]) (r:=fun x=>Ky (uU (rwR pen path cl) [] 1).length (uU (rwR pen path cl) [] 1) x.2.1 x.2.2 x.1.1) (H:=fun _=>True) J J J (lb J) (fun w1 hs=>KB (V:=fun A' c'=> .tuple #[qT A' (uU (rwR pen path cl) [] 1).length c', .int .i64 (Gz (rwR pen path cl) [] 1)]) (VD _ _ _ (rwR pen path cl) w1 (vM (k:=1) J w1 hs) (jpl _ _ _))) ?_
  rintro⟨⟨oA,oc⟩,olo,ohi⟩ -
  refine N7 ?_;refine qv J (qh (k:=0) J jG J J) (.tmp J) ?_
  intro w' hs
  exact⟨oA,oc,by rw [e1,e2],by rw [e1];exact GN (hs.all 3 _ rfl).1 (fun b hb=> ((hs.all 3 _ rfl).2.1 b hb).elim id (fun h=>by cases h)),hs.fin⟩
theorem jmg (A:Option Addr) (n c:Nat) (pen:List Pn) (B:Option Addr) (m d:Nat) (path:List Pn) (cl:Bool) (w:World) (h:Pts w A n pen) (h2:Pts w B m path) (hn: (n:Int)≤1048576) (hm: (m:Int)≤1048576) :
  Calls Tryz.prog 13 #[.slice A n c, .slice B m d, .bool cl] w fun e w'=>∃A' c',e= .returned (.tuple #[qT A' (soR pen path cl).length c', .int .i64 (soC pen path cl)])∧OwnG w.heap.size w'.heap.size w' A' (soR pen path cl).length (soR pen path cl)∧Over w w':=by
 refine Jh (m:=25) (Tryz.func13) J J (lb J) ?_;refine S3 ?_;refine aL (fun b1=> ?_);refine N8 ?_;refine J4 jlf (X:= (Option Addr×Nat)×Nat×Nat) (v:=fun x=> .tuple #[qT x.1.1 (rwR pen path cl).length x.1.2, .int .i64 (rwC pen path cl)]) (r:=fun x=>Ky (rwR pen path cl).length (rwR pen path cl) x.2.1 x.2.2 x.1.1) (H:=fun _=>True) J J J (lb J) (fun w1 hs=>jku (job A n c pen B m d path cl w1 (h.over hs.fin) (h2.over hs.fin) hn hm)) ?_
 rintro⟨⟨gA,gc⟩,glo,ghi⟩ -
 refine N4 ?_;refine aL (fun b2=> ?_);refine N10 ?_;refine cZ (fun c1=> ?_) (fun c1=> ?_)
 ·obtain ⟨e1,e2⟩ :=jpM (by simpa using c1)
  refine S2 ?_;refine a9 (JU J J (qg)) ?_;refine S7 ?_;refine qv J (qh (k:=0) J jG J J) (.tmp J) ?_
  intro w' hs
  exact⟨none,0,by rw [e1,e2];rfl,by rw [e1];exact OwnG.nil none,hs.fin⟩
 ·obtain ⟨e1,e2⟩ :=jpo (by simpa using c1)
  refine S6 ?_;refine J4 zg (X:= (Option Addr×Nat)×Nat×Nat) (v:=fun x=> .tuple #[qT x.1.1 (uU (rwR pen path cl) [] 1).length x.1.2, .int .i64 (Gz (rwR pen path cl) [] 1)]) (r:=fun x=>Ky (uU (rwR pen path cl) [] 1).length (uU (rwR pen path cl) [] 1) x.2.1 x.2.2 x.1.1) (H:=fun _=>True) J J J (lb J) (fun w1 hs=>KB (V:=fun A' c'=> .tuple #[qT A' (uU (rwR pen path cl) [] 1).length c', .int .i64 (Gz (rwR pen path cl) [] 1)]) (zl _ _ _ (rwR pen path cl) w1 (vM (k:=1) J w1 hs) (jpl _ _ _))) ?_
  rintro⟨⟨oA,oc⟩,olo,ohi⟩ -
  refine N7 ?_;refine qv J (qh (k:=0) J jG J J) (.tmp J) ?_
  intro w' hs
  exact⟨oA,oc,by rw [e1,e2],by rw [e1];exact GN (hs.all 3 _ rfl).1 (fun b hb=> ((hs.all 3 _ rfl).2.1 b hb).elim id (fun h=>by cases h)),hs.fin⟩
theorem jnu (A0:Option Addr) (n0 c0_:Nat) (xs0:List (Int×Int)) (A1:Option Addr) (n1 c1_:Nat) (xs1:List (Int×Int)) (x2:Bool) (w:World) (h0:Pts w A0 n0 xs0) (hm0: (n0:Int)≤9223372036854775807) (h1:Pts w A1 n1 xs1) (hm1: (n1:Int)≤9223372036854775807) :
  Calls Tryz.prog 3 #[.slice A0 n0 c0_, .slice A1 n1 c1_, .bool x2] w fun e w'=>e= .returned (.bool true)∧Over w w':=by
 have hl0:=h0.1
 have hl1:=h1.1
 have hsm:=joO xs0 xs1 x2
 have hst:=hsm.total
 have hss:=hsm.sum rfl
 refine Jh (m:=124) (Tryz.func3) J J (lb J) ?_;refine S12 ?_;refine a9 (jT jkB J J (fun w1 hs=>Calls.still (jkE A0 n0 c0_ 1048576 w1 Om Om hm0))) ?_;refine S8 ?_;refine cZ (fun c1=> ?_) (fun c1=> ?_)
 ·refine S6 ?_;refine jM J (.tmp J) ?_
  intro w' hs
  exact⟨rfl,hs.fin⟩
 ·obtain ⟨ht0,et0⟩ :=jlt c1
  rw [et0]
  replace ht0: (n0:Int)≤1048576:=Om
  clear hm0 et0
  refine S6 ?_;refine a9 (jT jkB J J (fun w1 hs=>Calls.still (jkE A1 n1 c1_ _ w1 Om Om hm1))) ?_;refine S8 ?_;refine cZ (fun c2=> ?_) (fun c2=> ?_)
  ·refine S6 ?_;refine jM J (.tmp J) ?_
   intro w' hs
   exact⟨rfl,hs.fin⟩
  ·obtain ⟨ht1,et1⟩ :=jlt c2
   rw [et1]
   replace ht1: (n1:Int)≤1048576:=Om
   clear hm1 et1
   refine S6 ?_;refine J4 kf (X:=Nat×Nat×Nat) (v:=fun x=> .slice (some ⟨x.1,0,none⟩) n0 n0) (r:=fun x=>jgY n0 xs0 x.2.1 x.2.2 (some ⟨x.1,0,none⟩)) (H:=fun _=>True) J J J (lb J) (fun w1 hs=>jkj A0 n0 c0_ xs0 w1 (h0.over hs.fin) ht0) ?_
   rintro⟨g8_1,lo8_1,hi8_1⟩ -
   refine N2 ?_;refine J4 kf (X:=Nat×Nat×Nat) (v:=fun x=> .slice (some ⟨x.1,0,none⟩) n1 n1) (r:=fun x=>jgY n1 xs1 x.2.1 x.2.2 (some ⟨x.1,0,none⟩)) (H:=fun _=>True) J J J (lb J) (fun w1 hs=>jkj A1 n1 c1_ xs1 w1 (h1.over hs.fin) ht1) ?_
   rintro⟨g8_3,lo8_3,hi8_3⟩ -
   refine N2 ?_;refine J4 jmd (X:= (Option Addr×Nat)×Nat×Nat) (v:=fun x=> .tuple #[qT x.1.1 _ x.1.2, .int .i64 _]) (r:=fun x=>Ky _ _ x.2.1 x.2.2 x.1.1) (H:=fun _=>True) J J J (lb J) (fun w1 hs=>jku (jmg _ n0 n0 xs0 _ n1 n1 xs1 x2 w1 (Rv (k:=0) J w1 hs) (Rv (k:=1) J w1 hs) ht0 ht1)) ?_
   rintro⟨⟨A8_5,c8_5_⟩,lo8_5,hi8_5⟩ -
   refine N4 ?_;refine aL (fun b1=> ?_);refine N8 ?_;refine J4 kf (X:=Nat×Nat×Nat) (v:=fun x=> .slice (some ⟨x.1,0,none⟩) n0 n0) (r:=fun x=>jgY n0 xs0 x.2.1 x.2.2 (some ⟨x.1,0,none⟩)) (H:=fun _=>True) J J J (lb J) (fun w1 hs=>jkj A0 n0 c0_ xs0 w1 (h0.over hs.fin) ht0) ?_
   rintro⟨g9_1,lo9_1,hi9_1⟩ -
   refine N6 ?_;refine J4 kf (X:=Nat×Nat×Nat) (v:=fun x=> .slice (some ⟨x.1,0,none⟩) n1 n1) (r:=fun x=>jgY n1 xs1 x.2.1 x.2.2 (some ⟨x.1,0,none⟩)) (H:=fun _=>True) J J J (lb J) (fun w1 hs=>jkj A1 n1 c1_ xs1 w1 (h1.over hs.fin) ht1) ?_
   rintro⟨g10_1,lo10_1,hi10_1⟩ -
   refine N8 ?_;refine J4 jkY (X:= (Option Addr×Nat)×Nat×Nat) (v:=fun x=> .tuple #[qT x.1.1 _ x.1.2, .int .i64 _]) (r:=fun x=>Ky _ _ x.2.1 x.2.2 x.1.1) (H:=fun _=>True) J J J (lb J) (fun w1 hs=>jku (jlO _ n0 n0 xs0 _ n1 n1 xs1 x2 w1 (Rv (k:=4) J w1 hs) (Rv (k:=5) J w1 hs) ht0 ht1)) ?_
   rintro⟨⟨A11_3,c11_3_⟩,lo11_3,hi11_3⟩ -
   refine N4 ?_;refine aL (fun b2=> ?_);refine N9 ?_;refine a9 (jT kx J J (fun w1 hs=>K1 _ _ _ _ _ (soR xs0 xs1 x2) w1 (vM (k:=6) J w1 hs) (vM (k:=2) J w1 hs) hst)) ?_;refine S2 ?_;refine W7 53 (.bool false) J (by rw [jkn]) ?_;refine S8 ?_;refine Dh J (F2 _) ?_;refine S8 ?_;refine J4 kf (X:=Nat×Nat×Nat) (v:=fun x=> .slice (some ⟨x.1,0,none⟩) n0 n0) (r:=fun x=>jgY n0 xs0 x.2.1 x.2.2 (some ⟨x.1,0,none⟩)) (H:=fun _=>True) J J J (lb J) (fun w1 hs=>jkj A0 n0 c0_ xs0 w1 (h0.over hs.fin) ht0) ?_
   rintro⟨g14_2,lo14_2,hi14_2⟩ -
   refine n9 ?_;refine a9 (jT jkA J J (fun w1 hs=>jkF _ _ _ _ _ xs0 w1 (Rv (k:=4) J w1 hs) (Rv (k:=8) J w1 hs) ht0)) ?_;refine S2 ?_;refine Dh J (J) ?_;refine S8 ?_;refine J4 kf (X:=Nat×Nat×Nat) (v:=fun x=> .slice (some ⟨x.1,0,none⟩) n1 n1) (r:=fun x=>jgY n1 xs1 x.2.1 x.2.2 (some ⟨x.1,0,none⟩)) (H:=fun _=>True) J J J (lb J) (fun w1 hs=>jkj A1 n1 c1_ xs1 w1 (h1.over hs.fin) ht1) ?_
   rintro⟨g16_2,lo16_2,hi16_2⟩ -
   refine n9 ?_;refine a9 (jT jkA J J (fun w1 hs=>jkF _ _ _ _ _ xs1 w1 (Rv (k:=5) J w1 hs) (Rv (k:=9) J w1 hs) ht1)) ?_;refine S2 ?_;refine Dh J (J) ?_;refine S11 ?_;refine z7 (k:=4) (r':=jgY n0 (jkk _ n0) _ _ _) jkc J J J Dc J (fun w1 hs=>jlY _ (jpg (k:=4) J w1 hs) (jpx (k:=4) J w1 hs) Om Om) (fun _ h=>h) J ?_;refine N7 ?_;refine z7 (k:=5) (r':=jgY n1 (jkk _ n1) _ _ _) jkc J J J Dc J (fun w1 hs=>jlY _ (jpg (k:=5) J w1 hs) (jpx (k:=5) J w1 hs) Om Om) (fun _ h=>h) J ?_;refine N8 ?_;refine W7 76 (.bool false) J (by rw [(jpf _ _)]) ?_;refine S5 ?_;refine o9 (jT kx J J (fun w1 hs=>K1 _ _ _ _ _ (soR xs0 xs1 x2) w1 (vM (k:=6) J w1 hs) (vM (k:=2) J w1 hs) hst)) ?_;refine S4 ?_;refine W7 82 (.bool false) J (by rw [jkn]) ?_;refine S8 ?_;refine Dh J (F2 _) ?_;refine S11 ?_;refine z7 (k:=6) (r':=Ky _ (F1 1 _) _ _ _) zr J J J Dc J (fun w1 hs=>jlo (jhZ (k:=6) J w1 hs) (joE (k:=6) J w1 hs) hss) (fun _ h=>h) J ?_;refine N10 ?_;refine a9 (jT wv J J (fun w1 hs=>jln (vM (k:=6) J w1 hs) hss)) ?_;refine S8 ?_;refine Dh J (joi _) ?_;refine S9 ?_;refine Dh J (F2 _) ?_;refine S6 ?_;refine J4 kf (X:=Nat×Nat×Nat) (v:=fun x=> .slice (some ⟨x.1,0,none⟩) n0 n0) (r:=fun x=>jgY n0 xs0 x.2.1 x.2.2 (some ⟨x.1,0,none⟩)) (H:=fun _=>True) J J J (lb J) (fun w1 hs=>jkj A0 n0 c0_ xs0 w1 (h0.over hs.fin) ht0) ?_
   rintro⟨g31_1,lo31_1,hi31_1⟩ -
   refine N2 ?_;refine J4 kf (X:=Nat×Nat×Nat) (v:=fun x=> .slice (some ⟨x.1,0,none⟩) n1 n1) (r:=fun x=>jgY n1 xs1 x.2.1 x.2.2 (some ⟨x.1,0,none⟩)) (H:=fun _=>True) J J J (lb J) (fun w1 hs=>jkj A1 n1 c1_ xs1 w1 (h1.over hs.fin) ht1) ?_
   rintro⟨g31_3,lo31_3,hi31_3⟩ -
   refine N2 ?_;refine J4 jkY (X:= (Option Addr×Nat)×Nat×Nat) (v:=fun x=> .tuple #[qT x.1.1 _ x.1.2, .int .i64 _]) (r:=fun x=>Ky _ _ x.2.1 x.2.2 x.1.1) (H:=fun _=>True) J J J (lb J) (fun w1 hs=>jku (jlO _ n0 n0 xs0 _ n1 n1 xs1 x2 w1 (Rv (k:=10) J w1 hs) (Rv (k:=11) J w1 hs) ht0 ht1)) ?_
   rintro⟨⟨A31_5,c31_5_⟩,lo31_5,hi31_5⟩ -
   refine N4 ?_;refine aL (fun b3=> ?_);refine N1 ?_;refine j9 13 jr.szx ?_;refine N5 ?_;refine a9 (jk J J jG J (jY (k:=13) J)) ?_;refine S1 ?_;refine a9 (jT kx J J (fun w1 hs=>K1 _ _ _ _ _ (soR xs0 xs1 x2) w1 (vM (k:=12) J w1 hs) (vM (k:=2) J w1 hs) hst)) ?_;refine S2 ?_;refine W7 111 (.bool false) J (by rw [jkn]) ?_;refine S8 ?_;refine Dh J (F2 _) ?_;refine S10 ?_;refine a9 (jT wv J J (fun w1 hs=>jln (vM (k:=6) J w1 hs) hss)) ?_;refine S8 ?_;refine Dh J (joi _) ?_;refine S9 ?_;refine Dh J (F2 _) ?_;refine S7 ?_;refine jM J (.tmp J) ?_
   intro w' hs
   exact⟨rfl,hs.fin⟩
end Go.Proofs.YtpncbbcmoiiipaaGreat
namespace Go.Proofs.YtpncbbcmoiiipaaGreat
open Go Go.ChangeShapes Go.WideShapes Go.ChangeAt Go.RowKit Go.Joins Go.Deep
section
variable {H:Type} {enc:TypeId×Value→H} {w:World} {base:Nat} {spare:Nat→Bool} {held:Bool}
set_option maxRecDepth 100000 in
theorem jog {fuel:Nat} {cs:List Value} {x:DataW H×List MemPlace} (h:DataW.trod enc Tryz.prog w base spare held fuel 36 cs=some x) :
  ∃(A:Option Addr) (n c:Nat) (rs:List jV),cs= [.slice A n c]∧Rings w A n rs∧(n:Int)≤9223372036854775807:=by
 rcases open_slice Tryz.underlying36 h with⟨rfl,_⟩ |⟨a,len,cap,m,n,D,Pl,rfl,_,hl,hm,hmm,_,hi⟩
 ·exact⟨none,0,0,[],rfl,⟨rfl,fun h=>absurd h Om⟩,by omega⟩
 have hC:Tryz.prog.cellsOf 161=1:=by kernel_rfl
 have hC2:Tryz.prog.cellsOf 22=1:=by kernel_rfl
 rw [hC] at hi
 have key:∀i,i<len→∃p: (Option Addr×Nat)×jV,w.cell? (a.add (i*1)) =some (.slice p.1.1 p.2.length p.1.2)∧Pts w p.1.1 p.2.length p.2∧(p.2.length:Int)≤9223372036854775807:=by
  intro i hlt
  have hlm:len≤m:=by rw [hmm];split<;>omega
  obtain ⟨cs',hc,ht⟩ :=hi i Om
  obtain ⟨_,hcl,hat⟩ :=World.cells?_some hc
  obtain ⟨xs,n',_,_,_,hlen,hg⟩ :=DataW.trod_struct Tryz.underlying161 ht
  have h0:DataW.trod enc Tryz.prog w base spare held n' 22 ((cs'.drop 0).take (Tryz.prog.cellsOf 22)) =xs[0]? :=hg 0 _ rfl
  match cs',hcl with
  | [c0],_=>
   match xs,hlen with
   | [y0],_=>
    obtain ⟨A,n,c,xs,e,hp,hm⟩ :=jnS (cs:= [c0]) (x:=y0) (by rw [hC2] at h0;simpa using h0)
    injection e with e
    subst e
    have hn:=hp.1
    subst hn
    refine⟨((A,c),xs),?_,hp,hm⟩
    have:=hat 0 Om
    rw [add_add] at this
    simpa using this
 obtain ⟨f,hf⟩ :=choose_lt key
 refine⟨some a,len,cap,(List.range len).map (fun i=> (f i).2),J,⟨by simp,fun hn=> ?_⟩,by unfold maxLen at hm;omega⟩
 obtain ⟨b,o,sp⟩ :=a
 have hsp:sp=none:=by
  have:=World.cell?_spot (hf 0 hn).1
  simpa [Addr.add] using this
 subst hsp
 have hadd:∀j,(⟨b,o,none⟩ :Addr).add j=⟨b,o+j,none⟩ :=fun j=>by unfold Addr.add;split<;>simp_all
 have hlt:=World.block_lt_of_cell? w _ (hf 0 hn).1
 rw [hadd] at hlt
 refine⟨b,o,J,hlt,fun k hk=> ?_⟩
 have hk2:=hf k hk
 rw [hadd,jjf] at hk2
 have hx:rg ((List.range len).map (fun i=> (f i).2)) k= (f k).2:=by
  simp [rg,List.getD,hk]
 rw [hx]
 exact⟨_,_,hk2⟩
set_option maxRecDepth 100000 in
theorem jlg {r:Reach} {b0:Nat} {v:Value} {d:DataW H} {p:List MemPlace} (hv:Value.okWide Tryz.prog w r b0 38 v) (h:DataW.Trod enc Tryz.prog w base spare held 38 v d p) :
  ∃(A:Option Addr) (n c:Nat) (rs:List jV),v= .agg #[.slice A n c]∧Rings w A n rs∧(n:Int)≤9223372036854775807:=by
 have hC:Tryz.prog.cellsOf 38=1:=by kernel_rfl
 have hC2:Tryz.prog.cellsOf 36=1:=by kernel_rfl
 obtain ⟨cs,rfl,hsz⟩ :=okWide_struct Tryz.underlying38 hv
 obtain ⟨l⟩ :=cs
 obtain ⟨fuel,hf⟩ :=h
 obtain ⟨xs,n,_,_,_,hlen,hg⟩ :=DataW.trod_struct Tryz.underlying38 hf
 have h0:DataW.trod enc Tryz.prog w base spare held n 36 (((Value.agg ⟨l⟩).cells.toList.drop 0).take (Tryz.prog.cellsOf 36)) =xs[0]? :=hg 0 _ rfl
 rw [hC2] at h0
 match l,hsz.trans hC with
 | [c0],_=>
  match xs,hlen with
  | [y0],_=>
   obtain ⟨A,n,c,xs,e,hp,hm⟩ :=jog (cs:= [c0]) (x:=y0) (by simpa [Value.cells] using h0)
   injection e with e
   subst e
   exact⟨A,n,c,xs,rfl,hp,hm⟩
end
end Go.Proofs.YtpncbbcmoiiipaaGreat
namespace Go.Proofs.YtpncbbcmoiiipaaGreat
open Go Go.RowKit
set_option maxRecDepth 100000
set_option maxHeartbeats 4000000
def jhy (l:Leg) :Prop:=uB l.ax∧uB l.ay∧uB l.bx∧uB l.b_y
theorem jfR {ls:List Leg} {k:Nat} (h:k<ls.length) :lg ls k∈ls:=Uz h▸jis h
theorem FZ (A:Option Addr) (n c:Nat) (ls:List Leg) (x y:Int) (w:World) (h:Legs w A n ls) (hn:n≤1048576) (hok:∀l∈ls,jhy l) (hx:uB x) (hy:uB y) :
  Calls Tryz.prog 94 #[.slice A n c,uS x y] w fun e w'=>e= .returned (.int .i64 (jma false ls x y))∧Over w w':=by
 have hl:=h.1
 refine Jh (m:=70) (Tryz.func94) J J (lb J) ?_;refine S3 ?_;refine aX (fun b1=> ?_);refine N12 ?_;refine qz (X:=Nat) (fun k=>k≤n) (fun k=>n- k) (fun k=> [(5, .int .i64 (vk false ls x y k)),(6, .int .i64 (k:Int))]) (kK [0,3,4]) 0 (jii _) ⟨J,sz⟩ ?_
 intro k hk L hL1
 refine v9 ?_
 have hwb:=ZP false ls x y k
 refine S8 ?_;refine cZ (fun c1=> ?_) (fun c1=> ?_)
 ·have hlt:k<n:=Om
  obtain ⟨bb,oo,rfl⟩ :=h.form Om
  obtain ⟨d1,d2,d3,d4⟩ :=hok _ (jfR (show k<ls.length by omega))
  refine S10 ?_;refine a9 (jk J J jj J (J5 (b:=bb) (o:=oo) (j:=k) (fun w' hs=>h.over hs.fin) hlt)) ?_;refine S1 ?_;refine aL (fun b2=> ?_);refine N9 ?_;refine a9 (jk J J jj J (JX (b:=bb) (o:=oo) (j:=k) (fun w' hs=>h.over hs.fin) hlt)) ?_;refine S1 ?_;refine aL (fun b3=> ?_);refine N4 ?_;refine qt [(25, .bool (Fq (lg ls k) x y))] (kK [0,3,4,5,6,9,10,11,12,15,16,17,18,19,7,20,21,22,23,24,8]) (fun L h_7=> ?_) ?_
  ·refine S7 ?_;refine cV 31 (fun g1=> ?_) (fun g1=> ?_)
   ·refine S12 ?_;refine cV 38 (fun g2=> ?_) (fun g2=> ?_)
    ·refine S7 ?_;refine o9 (jT Qj J J (fun w h=>Wq _ _ _ _ _ _ w d1.1 d1.2 d2.1 d2.2 d3.1 d3.2 d4.1 d4.2 hx.1 hx.2 hy.1 hy.2)) ?_;refine S5 ?_
     exact Jk h_7 ⟨vb (by simp [Fq, *]),sz⟩ (u9 J)
    ·refine S8 ?_
     exact Jk h_7 ⟨vb (by symm;simp [Fq];omega),sz⟩ (u9 J)
   ·refine S15 ?_
    exact Jk h_7 ⟨vb (by symm;simp [Fq];omega),sz⟩ (u9 J)
  ·refine v9 ?_;refine cZ (fun c2=> ?_) (fun c2=> ?_)
   ·refine S13 ?_
    exact qi hL1 (k+1) Om Om ⟨vi (jdO c2),vi Om,sz⟩ (u9 J)
   ·refine qt [(47, .bool (ud (lg ls k) x y))] (kK [0,3,4,5,6,9,10,11,12,15,16,17,18,19,7,20,21,22,23,24,8,25]) (fun L h_9=> ?_) ?_
    ·refine S7 ?_;refine cV 53 (fun g3=> ?_) (fun g3=> ?_)
     ·refine S12 ?_;refine cV 60 (fun g4=> ?_) (fun g4=> ?_)
      ·refine S7 ?_;refine o9 (jT Qj J J (fun w h=>Wq _ _ _ _ _ _ w d1.1 d1.2 d2.1 d2.2 d3.1 d3.2 d4.1 d4.2 hx.1 hx.2 hy.1 hy.2)) ?_;refine S5 ?_
       exact Jk h_9 ⟨vb (by simp [ud, *]),sz⟩ (u9 J)
      ·refine S8 ?_
       exact Jk h_9 ⟨vb (by symm;simp [ud];omega),sz⟩ (u9 J)
     ·refine S15 ?_
      exact Jk h_9 ⟨vb (by symm;simp [ud];omega),sz⟩ (u9 J)
    ·refine v9 ?_;refine cZ (fun c3=> ?_) (fun c3=> ?_)
     ·refine S13 ?_
      exact qi hL1 (k+1) Om Om ⟨vi (N0 c2 c3),vi Om,sz⟩ (u9 J)
     ·refine S9 ?_
      exact qi hL1 (k+1) Om Om ⟨vi (Pa c2 c3),vi Om,sz⟩ (u9 J)
 ·refine S11 ?_;refine jM J (.tmp J) ?_
  intro w' hs
  exact⟨YF (by rw [jma,hl,show k=n by omega]),hs.fin⟩
def onL (l:Leg) (x y:Int) :Bool:=DT l.ax l.ay l.bx l.b_y x y
def HQ (h:Bool) (ls:List Leg) (x y:Int) :Bool:=ls.any fun l=>onL (Q2 h l) x y
def GY (h:Bool) (ls:List Leg) (x y:Int) (k:Nat) :Prop:=∀j,j<k→onL (Q2 h (lg ls j)) x y=false
theorem SL {h:Bool} {ls:List Leg} {x y:Int} {k:Nat} (hk:GY h ls x y k) (h1:onL (Q2 h (lg ls k)) x y=false) :GY h ls x y (k+1) :=fun j hj=>by
 by_cases e:j=k
 ·exact e▸h1
 ·exact hk j Om
theorem TJ {h:Bool} {ls:List Leg} {x y:Int} (hk:GY h ls x y ls.length) :HQ h ls x y=false:=by
 unfold HQ
 rw [List.any_eq_false]
 intro l hl
 obtain ⟨j,hj,rfl⟩ :=ji0 hl
 rw [Uz hj]
 simpa using hk j hj
theorem TK {h:Bool} {ls:List Leg} {x y:Int} {k:Nat} (hk:k<ls.length) (h1:onL (Q2 h (lg ls k)) x y=true) :HQ h ls x y=true:=by
 unfold HQ
 rw [List.any_eq_true]
 exact⟨ls[k],jis hk,by rw [Uz hk];exact h1⟩
theorem jbC (l:Leg) :Q2 false l=l:=by simp [Q2]
theorem jn5 (l:Leg) :Q2 true l=⟨2*l.ax,2*l.ay,2*l.bx,2*l.b_y⟩ :=by simp [Q2]
theorem Rm {ls:List Leg} {x y:Int} {k:Nat} (hk:k<ls.length) (h1:DT (lg ls k).ax (lg ls k).ay (lg ls k).bx (lg ls k).b_y x y=true) :HQ false ls x y=true:=
 TK hk (by rw [jbC];exact h1)
theorem NA {ls:List Leg} {x y:Int} {k:Nat} (hk:GY false ls x y k) (h1:DT (lg ls k).ax (lg ls k).ay (lg ls k).bx (lg ls k).b_y x y=false) :GY false ls x y (k+1) :=
 SL hk (by rw [jbC];exact h1)
theorem Nm (A:Option Addr) (n c:Nat) (ls:List Leg) (x y:Int) (w:World) (h:Legs w A n ls) (hn:n≤1048576) (hok:∀l∈ls,jhy l) (hx:uB x) (hy:uB y) :
  Calls Tryz.prog 93 #[.slice A n c,uS x y] w fun e w'=>e= .returned (.bool (HQ false ls x y))∧Over w w':=by
 have hl:=h.1
 refine Jh (m:=24) (Tryz.func93) J J (lb J) ?_;refine S3 ?_;refine aX (fun b1=> ?_);refine N8 ?_;refine qz (X:=Nat) (fun k=>k≤n∧GY false ls x y k) (fun k=>n- k) (fun k=> [(5, .int .i64 (k:Int))]) (kK [0,3,4]) 0 (⟨jii _,fun j hj=>absurd hj Om⟩) ⟨J,sz⟩ ?_
 intro k hk L hL1
 refine V8 ?_;refine cZ (fun c1=> ?_) (fun c1=> ?_)
 ·have hlt:k<n:=Om
  obtain ⟨bb,oo,rfl⟩ :=h.form Om
  obtain ⟨d1,d2,d3,d4⟩ :=hok _ (jfR (show k<ls.length by omega))
  refine S6 ?_;refine JS 12 ?_;refine dK 0 ?_;refine dK 1 ?_;refine dK 2 ?_;refine dK 3 ?_;refine dZ 4 J (jk J J jj J (J5 (b:=bb) (o:=oo) (j:=k) (fun w' hs=>h.over hs.fin) hlt)) ?_;refine dK 5 ?_;refine dK 6 ?_;refine dK 7 ?_;refine dK 8 ?_;refine dZ 9 J (jk J J jj J (JX (b:=bb) (o:=oo) (j:=k) (fun w' hs=>h.over hs.fin) hlt)) ?_;refine dK 10 ?_;refine dZ 11 J (jT yt J J (fun w h=>DF _ _ _ _ _ _ w d1 d2 d3 d4 hx hy)) ?_;refine JK Kr ?_;refine S1 ?_;refine cZ (fun c2=> ?_) (fun c2=> ?_)
  ·refine S10 ?_;refine jM J (.tmp J) ?_
   intro w' hs
   exact⟨QH (Rm (show k<ls.length by omega) c2).symm,hs.fin⟩
  ·refine S8 ?_
   exact qi hL1 (k+1) (⟨by omega,NA hk.2 c2⟩) Om ⟨vi Om,sz⟩ (u9 J)
 ·refine S10 ?_;refine jM J (.tmp J) ?_
  intro w' hs
  exact⟨QH (TJ (by rw [hl,show n=k by omega];exact hk.2)).symm,hs.fin⟩
theorem jnz (l:Leg) (b1_ b2_:Nat) (x y:Int) (hf:Bool) (w:World) (hl:qN l) (hx:uB x) (hy:uB y) (h1:w.heap[b1_]? =some (.cells [.bool hf].toArray 4 (0,0))) (h2:w.heap[b2_]? =some (.cells [.int .i64 x, .int .i64 y].toArray 56 (0,0))) :
  Calls Tryz.prog 246 #[.agg #[.int .i64 l.ax, .int .i64 l.ay, .int .i64 l.bx, .int .i64 l.b_y], .pointer (some ⟨b1_,0,none⟩), .pointer (some ⟨b2_,0,none⟩)] w fun e w'=>e= .returned (.bool (onL (Q2 hf l) x y))∧Over w w':=by
 have m1:∀ {Rs},∀w',St ⟨w,[]⟩ Rs w'→w'.cell? ⟨b1_,0,none⟩ =some (.bool hf) :=fun w' hs=> (cell_of_row w' b1_ 0 _ _ (0,0) ((hs.fin.out.block _ (J3 h1)).trans h1)).trans rfl
 have m2:∀ {Rs},∀w',St ⟨w,[]⟩ Rs w'→∀q v,[Value.int .i64 x,Value.int .i64 y][q]? =some v→w'.cell? ⟨b2_,0+q,none⟩ =some v:=fun w' hs q v hv=>by
  rw [cell_of_row w' b2_ _ _ _ (0,0) ((hs.fin.out.block _ (J3 h2)).trans h2),jiL]
  simpa using hv
 obtain ⟨d1,d2,d3,d4⟩ :=jb7 hl
 obtain ⟨f1,f2,f3,f4⟩ :=jpu hl
 obtain ⟨⟨e1,e2⟩,⟨e3,e4⟩,⟨e5,e6⟩,e7,e8⟩ :=hl
 refine Jh (m:=20) (Tryz.func246) J J (lb J) ?_;refine S3 ?_;refine aX (fun b1=> ?_);refine N5 ?_;refine a9 (jn J J QT (m1)) ?_;refine S1 ?_;refine cZ (fun c1=> ?_) (fun c1=> ?_)
 ·refine S2 ?_;refine JS 9 ?_;refine dK 0 ?_;refine dK 1 ?_;refine dZ 2 J (jT zZ J J (fun w h=>MS _ _ w ⟨by omega,by omega⟩ ⟨by omega,by omega⟩)) ?_;refine dK 3 ?_;refine dK 4 ?_;refine dZ 5 J (jT zZ J J (fun w h=>MS _ _ w ⟨by omega,by omega⟩ ⟨by omega,by omega⟩)) ?_;refine dZ 6 J (jk J J jj J (m2)) ?_;refine dZ 7 rfl (jT VH rfl rfl (fun w h=>BW _ _ _ _ _ _ w (by first | exact d1 | exact f1) (by first | exact d2 | exact f2) (by first | exact d3 | exact f3) (by first | exact d4 | exact f4) hx hy)) ?_;refine dK 8 ?_;refine JK Kr ?_;refine S3 ?_;refine jM J (.tmp J) ?_
  intro w' hs
  exact⟨QH (by rw [c1,jn5];rfl),hs.fin⟩
 ·refine S8 ?_;refine a9 (jk J J jj J (m2)) ?_;refine a9 (jT VH rfl rfl (fun w h=>BW _ _ _ _ _ _ w (by first | exact d1 | exact f1) (by first | exact d2 | exact f2) (by first | exact d3 | exact f3) (by first | exact d4 | exact f4) hx hy)) ?_;refine S3 ?_;refine jM J (.tmp J) ?_
  intro w' hs
  exact⟨QH (by rw [c1,jbC];rfl),hs.fin⟩
def jmM (h:Bool) (ls:List Leg) (x y:Int) :Int:=if HQ h ls x y=true then((ls.findIdx fun l=>onL (Q2 h l) x y:Nat) :Int) else-1
theorem jo2 {h:Bool} {ls:List Leg} {x y:Int} {k:Nat} (hk:k<ls.length) (hn:GY h ls x y k) (h1:onL (Q2 h (lg ls k)) x y=true) : (k:Int) =jmM h ls x y:=by
 have:ls.findIdx (fun l=>onL (Q2 h l) x y) =k:= (List.findIdx_eq hk).2 ⟨by rw [Uz hk];exact h1,fun j hj=>by rw [Uz Om];exact hn j hj⟩
 rw [jmM,if_pos (TK hk h1),this]
theorem jn7 {h:Bool} {ls:List Leg} {x y:Int} (hk:GY h ls x y ls.length) : -1=jmM h ls x y:=by
 rw [jmM,if_neg (by rw [TJ hk];simp)]
theorem jo3 (h:Bool) (ls:List Leg) (x y:Int) :decide (0≤jmM h ls x y) =HQ h ls x y:=by
 cases e:HQ h ls x y<;>simp [jmM,e]
abbrev onF (p q:Nat) :Value:= .func (.func 246) #[] #[.pointer (some ⟨p,0,none⟩), .pointer (some ⟨q,0,none⟩)]
theorem jm4 (A:Option Addr) (n c:Nat) (ls:List Leg) (p q:Nat) (x y:Int) (hf:Bool) (w:World) (h:Legs w A n ls) (hn:n≤1048576) (hok:∀l∈ls,qN l) (hx:uB x) (hy:uB y)
  (h1:w.heap[p]? =some (.cells [.bool hf].toArray 4 (0,0))) (h2:w.heap[q]? =some (.cells [.int .i64 x, .int .i64 y].toArray 56 (0,0))) :
  Calls Tryz.prog 272 #[.slice A n c,onF p q] w fun e w'=>e= .returned (.int .i64 (jmM hf ls x y))∧Over w w':=by
 have hl:=h.1
 refine Jh (m:=19) (Tryz.func272) J J (lb J) ?_;refine S12 ?_;refine qz (X:=Nat) (fun k=>k≤n∧GY hf ls x y k) (fun k=>n- k) (fun k=> [(8, .int .i64 (k:Int))]) (kK [0,1,4,7]) 0 (⟨jii _,fun j hj=>absurd hj Om⟩) ⟨J,sz⟩ ?_
 intro k hk L hL1
 refine V5 ?_;refine cZ (fun c1=> ?_) (fun c1=> ?_)
 ·have hlt:k<n:=Om
  obtain ⟨bb,oo,rfl⟩ :=h.form Om
  refine S15 ?_;refine a9 (jk J J qG J (ya (fun w' hs=>h.over hs.fin) hlt)) ?_;refine a9 (jph jl1 J J J (fun w1 hs=>jnz (lg ls k) p q x y hf w1 (QS hok Om) hx hy ((hs.fin.out.block _ (J3 h1)).trans h1) ((hs.fin.out.block _ (J3 h2)).trans h2))) ?_;refine S1 ?_;refine cZ (fun c2=> ?_) (fun c2=> ?_)
  ·refine S11 ?_;refine jM J (.tmp J) ?_
   intro w' hs
   exact⟨YF (jo2 (show k<ls.length by omega) hk.2 c2),hs.fin⟩
  ·refine S7 ?_
   exact qi hL1 (k+1) (⟨by omega,SL hk.2 c2⟩) Om ⟨vi Om,sz⟩ (u9 J)
 ·refine S10 ?_;refine jM J (.tmp J) ?_
  intro w' hs
  exact⟨YF (jn7 (by rw [hl,show n=k by omega];exact hk.2)),hs.fin⟩
theorem jmb (A:Option Addr) (n c:Nat) (ls:List Leg) (p q:Nat) (x y:Int) (hf:Bool) (w:World) (h:Legs w A n ls) (hn:n≤1048576) (hok:∀l∈ls,qN l) (hx:uB x) (hy:uB y)
  (h1:w.heap[p]? =some (.cells [.bool hf].toArray 4 (0,0))) (h2:w.heap[q]? =some (.cells [.int .i64 x, .int .i64 y].toArray 56 (0,0))) :
  Calls Tryz.prog 245 #[.slice A n c,onF p q] w fun e w'=>e= .returned (.bool (HQ hf ls x y))∧Over w w':=by
 refine Jh (m:=9) (Tryz.func245) J J (lb J) ?_;refine S8 ?_;refine a9 (jT jke J J (fun w1 hs=>jm4 A n _ ls p q x y hf w1 (h.over hs.fin) hn hok hx hy ((hs.fin.out.block _ (J3 h1)).trans h1) ((hs.fin.out.block _ (J3 h2)).trans h2))) ?_;refine S4 ?_;refine jM J (.tmp J) ?_
 intro w' hs
 exact⟨QH (jo3 _ _ _ _),hs.fin⟩
theorem jnQ (A:Option Addr) (n c:Nat) (ls:List Leg) (x y:Int) (hf:Bool) (w:World) (h:Legs w A n ls) (hn:n≤1048576) (hok:∀l∈ls,qN l) (hx:uB x) (hy:uB y) :
  Calls Tryz.prog 195 #[.slice A n c,uS x y, .bool hf] w fun e w'=>e= .returned (.bool (HQ hf ls x y))∧Over w w':=by
 refine Jh (m:=10) (Tryz.func195) J J (lb J) ?_;refine S3 ?_;refine aX (fun b1=> ?_);refine N1 ?_;refine aX (fun b2=> ?_);refine N5 ?_;refine a9 (jnX J J) ?_;refine a9 (jT jkb J J (fun w1 hs=>jmb A n _ ls _ _ x y hf w1 (h.over hs.fin) hn hok hx hy (hs.cel (k:=1) J) (hs.cel (k:=0) J))) ?_;refine S3 ?_;refine jM J (.tmp J) ?_
 intro w' hs
 exact⟨rfl,hs.fin⟩
end Go.Proofs.YtpncbbcmoiiipaaGreat
namespace Go.Proofs.YtpncbbcmoiiipaaGreat
open Go Go.RowKit
def jkL (e:Leg) :Int×Int:= (e.ax+e.bx,e.ay+e.b_y)
def jlw (xs:jV) (e:Leg) :Bool:= !HQ true (J0 xs) (jkL e).1 (jkL e).2
def jlu (xs ys:jV) :Bool:=match (J0 ys).find? (jlw xs) with
 | some e=> !(jma true (J0 xs) (jkL e).1 (jkL e).2==0)
 | none=>false
theorem joo {xs ys:jV} {k:Nat} (hk:k< (J0 ys).length) (hn:∀j,j<k→jlw xs (lg (J0 ys) j) =false) (h1:jlw xs (lg (J0 ys) k) =true) :
  (!(jma true (J0 xs) (jkL (lg (J0 ys) k)).1 (jkL (lg (J0 ys) k)).2==0)) =jlu xs ys:=by
 have: (J0 ys).find? (jlw xs) =some (lg (J0 ys) k) :=List.find?_eq_some_iff_getElem.2 ⟨h1,k,hk,Uz hk,fun j hj=>by rw [Uz Om,hn j hj];rfl⟩
 rw [jlu,this]
theorem jnd {xs ys:jV} (hn:∀j,j< (J0 ys).length→jlw xs (lg (J0 ys) j) =false) :false=jlu xs ys:=by
 have: (J0 ys).find? (jlw xs) =none:=List.find?_eq_none.2 fun e he=>by
  obtain ⟨j,hj,rfl⟩ :=ji0 he
  rw [Uz hj,hn j hj]
  simp
 rw [jlu,this]
def jka (rs:List jV) (i:Nat) :Nat→Int
 | 0=> -1
 | k+1=>if(k≠i∧jlu (rg rs k) (rg rs i) =true)∧(jka rs i k<0∨jlu (rg rs (jka rs i k).toNat) (rg rs k) =true) then(k:Int) else jka rs i k
theorem jpc (rs:List jV) (i:Nat) :∀k:Nat,-1≤jka rs i k∧jka rs i k<k
 | 0=>by simp [jka]
 | k+1=>by
  have:=jpc rs i k
  unfold jka
  split<;>omega
theorem jmA {rs:List jV} {i k:Nat} (h1:k≠i) (h2:jlu (rg rs k) (rg rs i) =true) (h3:jka rs i k<0∨jlu (rg rs (jka rs i k).toNat) (rg rs k) =true) :jka rs i (k+1) =k:=if_pos ⟨⟨h1,h2⟩,h3⟩
theorem jmf {rs:List jV} {i k:Nat} (h:¬((k≠i∧jlu (rg rs k) (rg rs i) =true)∧(jka rs i k<0∨jlu (rg rs (jka rs i k).toNat) (rg rs k) =true))) :jka rs i (k+1) =jka rs i k:=if_neg h
def jkM (rs:List jV) (k:Nat) :List Int:= (List.range k).map fun i=>jka rs i rs.length
theorem joL (rs:List jV) (k:Nat) :jkM rs (k+1) =jkM rs k++ [jka rs k rs.length] :=by
 simp [jkM,List.range_succ]
theorem jnT (rs:List jV) (k:Nat) : (jkM rs k).length=k:=by simp [jkM]
theorem jpr (ls:List Leg) (x y:Int) :HQ false (ls.map (Q2 true)) x y=HQ true ls x y:=by
 unfold HQ
 rw [List.any_map]
 congr 1
theorem jo5 (f:Leg→Leg) {ls:List Leg} {k:Nat} (h:k<ls.length) :lg (ls.map f) k=f (lg ls k) :=by
 rw [←Uz (by simpa using h),←Uz h,jjs]
theorem jpq (ls:List Leg) (x y:Int) :jma false (ls.map (Q2 true)) x y=jma true ls x y:=by
 unfold jma
 rw [jit]
 have:∀k,k≤ls.length→vk false (ls.map (Q2 true)) x y k=vk true ls x y k:=by
  intro k
  induction k with
  | zero=>intro _;rfl
  | succ k ih=>
   intro hk
   unfold vk
   rw [ih Om,jo5 _ Om,jbC]
 exact this _ (jih _)
end Go.Proofs.YtpncbbcmoiiipaaGreat
