import Derived.Test.YtbahojdbmmjkcaaGreatMLegs
import Derived.Test.YtbahojdbmmjkcaaGreatML2
set_option linter.unusedVariables false
set_option linter.unusedSimpArgs false
namespace Go.Proofs.YtbahojdbmmjkcaaGreat
open Go Go.RowKit
variable {b:Nat} {w:World} {x y:Int}
theorem wg (a b:Int) (w:World) :
  Calls Tryz.prog 150 #[.int .i64 a, .int .i64 b] w fun e w'=>e= .returned (.int .i64 (min a b))∧w=w':=by
 by_cases h1:a<b
 ·have hv:Hid (min a b=a) :=by unfold Hid;omega
  go_enter Tryz.func150,Tryz.ntmps150
  go_wp2
  go_ret
  exact⟨by rw [hv.out];rfl,rfl⟩
 ·have hv:Hid (min a b=b) :=by unfold Hid;omega
  go_enter Tryz.func150,Tryz.ntmps150
  go_wp2
  go_ret
  exact⟨by rw [hv.out];rfl,rfl⟩
def RF (xs:List (Int×Int)) :Nat→Int
 | 0=>px xs 0
 | k+1=>if k=0 then px xs 0 else min (RF xs k) (px xs k)
def RG (xs:List (Int×Int)) :Nat→Int
 | 0=>py xs 0
 | k+1=>if k=0 then py xs 0 else min (RG xs k) (py xs k)
def RC (xs:List (Int×Int)) :Nat→Int
 | 0=>px xs 0
 | k+1=>if k=0 then px xs 0 else max (RC xs k) (px xs k)
def RD (xs:List (Int×Int)) :Nat→Int
 | 0=>py xs 0
 | k+1=>if k=0 then py xs 0 else max (RD xs k) (py xs k)
theorem R3 (xs:List (Int×Int)) {k:Nat} (h:1≤k) :RF xs (k+1) =min (RF xs k) (px xs k)∧RG xs (k+1) =min (RG xs k) (py xs k)∧RC xs (k+1) =max (RC xs k) (px xs k)∧RD xs (k+1) =max (RD xs k) (py xs k) :=by
 have h0:¬k=0:=by omega
 simp only [RF,RG,RC,RD,if_neg h0,and_self]
theorem Ch (xs:List (Int×Int)) :RF xs 1=px xs 0∧RG xs 1=py xs 0∧RC xs 1=px xs 0∧RD xs 1=py xs 0:=by
 simp [RF,RG,RC,RD]
def Box2 (w:World) (b:Nat) (x y:Int) :Prop:=
 b<w.heap.size∧w.cell? ⟨b,0,none⟩ =some (.int .i64 x)∧w.cell? ⟨b,1,none⟩ =some (.int .i64 y)∧w.frozen? ⟨b,0,none⟩ =false∧w.frozen? ⟨b,1,none⟩ =false
theorem Box2.over {w':World} (h:Box2 w b x y) (ho:Over w w') :Box2 w' b x y:=by
 obtain ⟨hc,hf⟩ :=Jz ho
 obtain ⟨h0,h1,h2,h3,h4⟩ :=h
 exact⟨jjy h0 ho.size,(hc _ _ h0).trans h1,(hc _ _ h0).trans h2,(hf _ _ h0).trans h3,(hf _ _ h0).trans h4⟩
theorem uE (w:World) (p q:Addr) (u:Value) : (w.setCell p u).frozen? q=w.frozen? q:=World.frozen?_setCell w p q u
theorem Box2.far (h:Box2 w b x y) {p:Addr} (hp:p.block≠b) (u:Value) :Box2 (w.setCell p u) b x y:=by
 obtain ⟨h0,h1,h2,h3,h4⟩ :=h
 refine⟨by simpa [World.setCell] using h0,?_,?_,(uE ..).trans h3,(uE ..).trans h4⟩
 ·rw [World.cell?_setCell_other _ _ _ _ (fun e=>hp (by rw [e]))];exact h1
 ·rw [World.cell?_setCell_other _ _ _ _ (fun e=>hp (by rw [e]))];exact h2
theorem Box2.set_ (h:Box2 w b x y) (x' y':Int) :Box2 ((w.setCell ⟨b,0,none⟩ (.int .i64 x')).setCell ⟨b,1,none⟩ (.int .i64 y')) b x' y':=by
 obtain ⟨h0,h1,h2,h3,h4⟩ :=h
 have h2': (w.setCell ⟨b,0,none⟩ (.int .i64 x')).cell? ⟨b,1,none⟩ =some (.int .i64 y) :=by rw [World.cell?_setCell_other _ _ _ _ (by simp)];exact h2
 refine⟨by simpa [World.setCell] using h0,?_,World.cell?_setCell_same _ _ _ h2',(uE ..).trans ((uE ..).trans h3),(uE ..).trans ((uE ..).trans h4)⟩
 rw [World.cell?_setCell_other _ _ _ _ (by simp)]
 exact World.cell?_setCell_same _ _ _ h1
theorem Box2.new (w:World) (x y:Int) (T g:Nat) (hg:g=w.heap.size) :Box2 (w.alloc (.cells #[.int .i64 x, .int .i64 y] T)) g x y:=by
 subst hg
 have hh:=heap_alloc_new w (.cells #[.int .i64 x, .int .i64 y] T)
 refine⟨by simp,zW _ _ _ _,zW _ _ _ _,?_,?_⟩ <;> (unfold World.frozen?;rw [hh];rfl)
theorem Box2.row {t:TypeId} (h:w.heap[b]? =some (.cells (Value.agg #[.int .i64 x, .int .i64 y]).cells t (0,0))) (hl:b<w.heap.size) :Box2 w b x y:=by
 obtain ⟨k1,k2,k3,k4⟩ :=FZ h
 exact⟨hl,k1,k2,k3,k4⟩
theorem jc9 (a b:Int) :min a b=if b<a then b else a:=by split<;>omega
theorem jc2 (a b:Int) :max a b=if a<b then b else a:=by split<;>omega
def HZ (w:World) :World:= (w.alloc (.cells #[.int .i64 0, .int .i64 0] 28)).alloc (.cells #[.int .i64 0, .int .i64 0] 28)
set_option maxHeartbeats 2000000 in
set_option maxRecDepth 100000 in
theorem OM (A:Option Addr) (n c:Nat) (xs:List (Int×Int)) (w:World) (h:Pts w A n xs) (hn: (n:Int)≤1048576) (h1:1≤n) :
  Calls Tryz.prog 96 #[.slice A n c] w fun e w'=>e= .returned (.tuple #[Uh (RF xs n) (RG xs n),Uh (RC xs n) (RD xs n)])∧Over w w':=by
 obtain ⟨b0,o0,rfl,hb0,hp1,hp2⟩ :=h.at_ (k:=0) Om
 simp only [Nat.zero_mul,jk7] at hp1 hp2
 have hb1:b0<w.heap.size+1:=by omega
 have hb2:b0<w.heap.size+1+1:=by omega
 have hb3:b0<w.heap.size+1+1+1:=by omega
 have Hp:=Lib.hid h
 have B1:=Lib.hid (Ch xs)
 clear h
 go_enter Tryz.func96,Tryz.ntmps96
 go_wp2
 go_loopw [6] (fun i wr=>∃k:Nat,1≤k∧k≤n∧i= .int .i64 k∧Over (HZ w) wr∧Box2 wr (w.heap.size+1+1) (RF xs k) (RG xs k)∧Box2 wr (w.heap.size+1+1+1) (RC xs k) (RD xs k)) (fun i _=>n- (intOf i).toNat)
 case atStart=>
  obtain ⟨q1,q2,q3,q4⟩ :=B1.out
  refine⟨1,by omega,by omega,J,Over.alloc_ (Over.alloc _ _) _,?_,?_⟩
  ·rw [q1,q2];exact(Box2.new _ _ _ _ _ (by simp)).over (Over.alloc _ _)
  ·rw [q3,q4];exact Box2.new _ _ _ _ _ (by simp)
 case round=>
  rename_i wr
  obtain ⟨k,hk1,hk,rfl,hb,hlo,hhi⟩ :=hrel
  have hO:Over w wr:= (Over.alloc_ (Over.alloc _ _) _).trans hb
  by_cases hlt:k<n
  ·obtain ⟨b,o,e,hbB,hc1,hc2⟩ := (Hp.out.over hO).at_ hlt
   injection e with e
   injection e with e1 e2 _
   subst e1 e2
   have Hlo:=Lib.hid hlo
   have Hhi:=Lib.hid hhi
   obtain ⟨z1,c1,c2,f1,f2⟩ :=hlo
   obtain ⟨z2,c3,c4,f3,f4⟩ :=hhi
   have Hs:=Lib.hid (R3 xs hk1)
   have Hb:=Lib.hid hb
   clear hb hO
   go_wp2
   refine L8 17 (B:=ob _) (Over.refl _) Kr (by simp only [jkl,jjr,jjK,Nat.reduceAdd];rfl) (fun hBW=> ?_);refine qe (i:=0) (v:=_) (by assumption) (by simp only [qR,qS];rfl) Kr Kr Kr (by exact fun _ _ _ h=>h) Kr Kr (fun wx hS=>by(obtain ⟨hc,hf⟩ :=Jz hS;clear hS;go_simp; (try go_bits);exact⟨rfl,Over.refl _⟩)) ?_
   simp only [Act.put,q7,jP,jQ]
   refine qe (i:=1) (v:=_) (by assumption) (by simp only [qR,qS,q6];rfl) Kr Kr Kr (by exact fun _ _ _ h=>h) Kr Kr (fun wx hS=>by(obtain ⟨hc,hf⟩ :=Jz hS;clear hS;go_simp; (try go_bits);exact⟨rfl,Over.refl _⟩)) ?_
   simp only [Act.put,q7,jP,jQ]
   refine qe (i:=2) (v:=_) (by assumption) (by simp only [qR,qS,q6];rfl) Kr Kr Kr (by exact fun _ _ _ h=>h) Kr Kr (fun wx hS=>by(obtain ⟨hc,hf⟩ :=Jz hS;clear hS;go_simp; (try go_bits);exact⟨rfl,Over.refl _⟩)) ?_
   simp only [Act.put,q7,jP,jQ]
   refine qe (i:=3) (v:=_) (by assumption) (by simp only [qR,qS,q6];rfl) Kr Kr Kr (by exact fun _ _ _ h=>h) Kr Kr (fun wx hS=>by(obtain ⟨hc,hf⟩ :=Jz hS;clear hS;go_simp; (try go_bits);exact⟨rfl,Over.refl _⟩)) ?_
   simp only [Act.put,q7,jP,jQ]
   refine qe (i:=4) (v:=_) (by assumption) (by simp only [qR,qS,q6];rfl) Kr Kr Kr (by exact fun _ _ _ h=>h) Kr Kr (fun wx hS=>by(obtain ⟨hc,hf⟩ :=Jz hS;clear hS;go_simp; (try go_bits);exact⟨rfl,Over.refl _⟩)) ?_
   simp only [Act.put,q7,jP,jQ]
   refine qe (i:=5) (v:=_) (by assumption) (by simp only [qR,qS,q6];rfl) Kr Kr Kr (by exact fun _ _ _ h=>h) Kr Kr (fun wx hS=>by(obtain ⟨hc,hf⟩ :=Jz hS;clear hS;go_simp; (try go_bits);exact⟨rfl,Over.refl _⟩)) ?_
   simp only [Act.put,q7,jP,jQ]
   refine qe (i:=6) (v:=_) (by assumption) (by simp only [qR,qS,q6];rfl) Kr Kr Kr (by exact fun _ _ _ h=>h) Kr Kr (fun wx hS=>by(obtain ⟨hc,hf⟩ :=Jz hS;clear hS;go_simp; (try go_bits);exact⟨rfl,Over.refl _⟩)) ?_
   simp only [Act.put,q7,jP,jQ]
   refine qe (i:=7) (v:=_) (by assumption) (by simp only [qR,qS,q6];rfl) Kr Kr Kr (by exact fun _ _ _ h=>h) Kr Kr (fun wx hS=>by(go_simp;refine(wg _ _ _).mono ?_;rintro e w1 ⟨rfl,rfl⟩;exact⟨rfl,Over.refl _⟩)) ?_
   simp only [Act.put,q7,jP,jQ]
   refine qe (i:=8) (v:=_) (by assumption) (by simp only [qR,qS,q6];rfl) Kr Kr Kr (by exact fun _ _ _ h=>h) Kr Kr (fun wx hS=>by(obtain ⟨hc,hf⟩ :=Jz hS;clear hS;go_simp; (try go_bits);exact⟨rfl,Over.refl _⟩)) ?_
   simp only [Act.put,q7,jP,jQ]
   refine qe (i:=9) (v:=_) (by assumption) (by simp only [qR,qS,q6];rfl) Kr Kr Kr (by exact fun _ _ _ h=>h) Kr Kr (fun wx hS=>by(obtain ⟨hc,hf⟩ :=Jz hS;clear hS;go_simp; (try go_bits);exact⟨rfl,Over.refl _⟩)) ?_
   simp only [Act.put,q7,jP,jQ]
   refine qe (i:=10) (v:=_) (by assumption) (by simp only [qR,qS,q6];rfl) Kr Kr Kr (by exact fun _ _ _ h=>h) Kr Kr (fun wx hS=>by(obtain ⟨hc,hf⟩ :=Jz hS;clear hS;go_simp; (try go_bits);exact⟨rfl,Over.refl _⟩)) ?_
   simp only [Act.put,q7,jP,jQ]
   refine qe (i:=11) (v:=_) (by assumption) (by simp only [qR,qS,q6];rfl) Kr Kr Kr (by exact fun _ _ _ h=>h) Kr Kr (fun wx hS=>by(obtain ⟨hc,hf⟩ :=Jz hS;clear hS;go_simp; (try go_bits);exact⟨rfl,Over.refl _⟩)) ?_
   simp only [Act.put,q7,jP,jQ]
   refine qe (i:=12) (v:=_) (by assumption) (by simp only [qR,qS,q6];rfl) Kr Kr Kr (by exact fun _ _ _ h=>h) Kr Kr (fun wx hS=>by(obtain ⟨hc,hf⟩ :=Jz hS;clear hS;go_simp; (try go_bits);exact⟨rfl,Over.refl _⟩)) ?_
   simp only [Act.put,q7,jP,jQ]
   refine qe (i:=13) (v:=_) (by assumption) (by simp only [qR,qS,q6];rfl) Kr Kr Kr (by exact fun _ _ _ h=>h) Kr Kr (fun wx hS=>by(obtain ⟨hc,hf⟩ :=Jz hS;clear hS;go_simp; (try go_bits);exact⟨rfl,Over.refl _⟩)) ?_
   simp only [Act.put,q7,jP,jQ]
   refine qe (i:=14) (v:=_) (by assumption) (by simp only [qR,qS,q6];rfl) Kr Kr Kr (by exact fun _ _ _ h=>h) Kr Kr (fun wx hS=>by(obtain ⟨hc,hf⟩ :=Jz hS;clear hS;go_simp; (try go_bits);exact⟨rfl,Over.refl _⟩)) ?_
   simp only [Act.put,q7,jP,jQ]
   refine qe (i:=15) (v:=_) (by assumption) (by simp only [qR,qS,q6];rfl) Kr Kr Kr (by exact fun _ _ _ h=>h) Kr Kr (fun wx hS=>by(go_simp;refine(wg _ _ _).mono ?_;rintro e w1 ⟨rfl,rfl⟩;exact⟨rfl,Over.refl _⟩)) ?_
   simp only [Act.put,q7,jP,jQ]
   refine qe (i:=16) (v:=_) (by assumption) (by simp only [qR,qS,q6];rfl) Kr Kr Kr (by exact fun _ _ _ h=>h) Kr Kr (fun wx hS=>by(obtain ⟨hc,hf⟩ :=Jz hS;clear hS;go_simp; (try go_bits);exact⟨rfl,Over.refl _⟩)) ?_
   simp only [Act.put,q7,jP,jQ]
   refine LX (by assumption) (by simp only [qR,qS,q6];rfl) Kr Kr Kr (fun w3 h3 _=> ?_)
   obtain ⟨hc,hf⟩ :=Jz h3
   go_step
   have hlo5:= (Hlo.out.over h3).set_ (min (RF xs k) (px xs k)) (min (RG xs k) (py xs k))
   have hhi5:= ((Hhi.out.over h3).far (p:=⟨w.heap.size+1+1,0,none⟩) (by simp) (.int .i64 (min (RF xs k) (px xs k)))).far (p:=⟨w.heap.size+1+1,1,none⟩) (by simp) (.int .i64 (min (RG xs k) (py xs k)))
   have hb5:=Over.set_ (Over.set_ (Hb.out.trans h3) (p:=⟨w.heap.size+1+1,0,none⟩) (by simp [HZ]) (.int .i64 (min (RF xs k) (px xs k)))) (p:=⟨w.heap.size+1+1,1,none⟩) (by simp [HZ]) (.int .i64 (min (RG xs k) (py xs k)))
   generalize (w3.setCell ⟨w.heap.size+1+1,0,none⟩ (.int .i64 (min (RF xs k) (px xs k)))).setCell ⟨w.heap.size+1+1,1,none⟩ (.int .i64 (min (RG xs k) (py xs k))) =w5 at hlo5 hhi5 hb5⊢
   clear hc hf h3 hBW hc1 hc2 z1 z2 c1 c2 c3 c4 f1 f2 f3 f4 Hlo Hhi Hb hbB
   obtain ⟨b,o,e,hbB,hc1,hc2⟩ := (Hp.out.over ((Over.alloc_ (Over.alloc _ _) _).trans hb5)).at_ hlt
   injection e with e
   injection e with e1 e2 _
   subst e1 e2
   have Hlo:=Lib.hid hlo5
   have Hhi:=Lib.hid hhi5
   have Hb:=Lib.hid hb5
   obtain ⟨z1,c1,c2,f1,f2⟩ :=hlo5
   obtain ⟨z2,c3,c4,f3,f4⟩ :=hhi5
   clear hb5
   go_wp2
   refine L8 17 (B:=ob _) (Over.refl _) Kr (by simp only [jkl,jjr,jjK,Nat.reduceAdd];rfl) (fun hBW=> ?_);refine qe (i:=0) (v:=_) (by assumption) (by simp only [qR,qS];rfl) Kr Kr Kr (by exact fun _ _ _ h=>h) Kr Kr (fun wx hS=>by(obtain ⟨hc,hf⟩ :=Jz hS;clear hS;go_simp; (try go_bits);exact⟨rfl,Over.refl _⟩)) ?_
   simp only [Act.put,q7,jP,jQ]
   refine qe (i:=1) (v:=_) (by assumption) (by simp only [qR,qS,q6];rfl) Kr Kr Kr (by exact fun _ _ _ h=>h) Kr Kr (fun wx hS=>by(obtain ⟨hc,hf⟩ :=Jz hS;clear hS;go_simp; (try go_bits);exact⟨rfl,Over.refl _⟩)) ?_
   simp only [Act.put,q7,jP,jQ]
   refine qe (i:=2) (v:=_) (by assumption) (by simp only [qR,qS,q6];rfl) Kr Kr Kr (by exact fun _ _ _ h=>h) Kr Kr (fun wx hS=>by(obtain ⟨hc,hf⟩ :=Jz hS;clear hS;go_simp; (try go_bits);exact⟨rfl,Over.refl _⟩)) ?_
   simp only [Act.put,q7,jP,jQ]
   refine qe (i:=3) (v:=_) (by assumption) (by simp only [qR,qS,q6];rfl) Kr Kr Kr (by exact fun _ _ _ h=>h) Kr Kr (fun wx hS=>by(obtain ⟨hc,hf⟩ :=Jz hS;clear hS;go_simp; (try go_bits);exact⟨rfl,Over.refl _⟩)) ?_
   simp only [Act.put,q7,jP,jQ]
   refine qe (i:=4) (v:=_) (by assumption) (by simp only [qR,qS,q6];rfl) Kr Kr Kr (by exact fun _ _ _ h=>h) Kr Kr (fun wx hS=>by(obtain ⟨hc,hf⟩ :=Jz hS;clear hS;go_simp; (try go_bits);exact⟨rfl,Over.refl _⟩)) ?_
   simp only [Act.put,q7,jP,jQ]
   refine qe (i:=5) (v:=_) (by assumption) (by simp only [qR,qS,q6];rfl) Kr Kr Kr (by exact fun _ _ _ h=>h) Kr Kr (fun wx hS=>by(obtain ⟨hc,hf⟩ :=Jz hS;clear hS;go_simp; (try go_bits);exact⟨rfl,Over.refl _⟩)) ?_
   simp only [Act.put,q7,jP,jQ]
   refine qe (i:=6) (v:=_) (by assumption) (by simp only [qR,qS,q6];rfl) Kr Kr Kr (by exact fun _ _ _ h=>h) Kr Kr (fun wx hS=>by(obtain ⟨hc,hf⟩ :=Jz hS;clear hS;go_simp; (try go_bits);exact⟨rfl,Over.refl _⟩)) ?_
   simp only [Act.put,q7,jP,jQ]
   refine qe (i:=7) (v:=_) (by assumption) (by simp only [qR,qS,q6];rfl) Kr Kr Kr (by exact fun _ _ _ h=>h) Kr Kr (fun wx hS=>by(go_simp;refine(we _ _ _).mono ?_;rintro e w1 ⟨rfl,rfl⟩;exact⟨rfl,Over.refl _⟩)) ?_
   simp only [Act.put,q7,jP,jQ]
   refine qe (i:=8) (v:=_) (by assumption) (by simp only [qR,qS,q6];rfl) Kr Kr Kr (by exact fun _ _ _ h=>h) Kr Kr (fun wx hS=>by(obtain ⟨hc,hf⟩ :=Jz hS;clear hS;go_simp; (try go_bits);exact⟨rfl,Over.refl _⟩)) ?_
   simp only [Act.put,q7,jP,jQ]
   refine qe (i:=9) (v:=_) (by assumption) (by simp only [qR,qS,q6];rfl) Kr Kr Kr (by exact fun _ _ _ h=>h) Kr Kr (fun wx hS=>by(obtain ⟨hc,hf⟩ :=Jz hS;clear hS;go_simp; (try go_bits);exact⟨rfl,Over.refl _⟩)) ?_
   simp only [Act.put,q7,jP,jQ]
   refine qe (i:=10) (v:=_) (by assumption) (by simp only [qR,qS,q6];rfl) Kr Kr Kr (by exact fun _ _ _ h=>h) Kr Kr (fun wx hS=>by(obtain ⟨hc,hf⟩ :=Jz hS;clear hS;go_simp; (try go_bits);exact⟨rfl,Over.refl _⟩)) ?_
   simp only [Act.put,q7,jP,jQ]
   refine qe (i:=11) (v:=_) (by assumption) (by simp only [qR,qS,q6];rfl) Kr Kr Kr (by exact fun _ _ _ h=>h) Kr Kr (fun wx hS=>by(obtain ⟨hc,hf⟩ :=Jz hS;clear hS;go_simp; (try go_bits);exact⟨rfl,Over.refl _⟩)) ?_
   simp only [Act.put,q7,jP,jQ]
   refine qe (i:=12) (v:=_) (by assumption) (by simp only [qR,qS,q6];rfl) Kr Kr Kr (by exact fun _ _ _ h=>h) Kr Kr (fun wx hS=>by(obtain ⟨hc,hf⟩ :=Jz hS;clear hS;go_simp; (try go_bits);exact⟨rfl,Over.refl _⟩)) ?_
   simp only [Act.put,q7,jP,jQ]
   refine qe (i:=13) (v:=_) (by assumption) (by simp only [qR,qS,q6];rfl) Kr Kr Kr (by exact fun _ _ _ h=>h) Kr Kr (fun wx hS=>by(obtain ⟨hc,hf⟩ :=Jz hS;clear hS;go_simp; (try go_bits);exact⟨rfl,Over.refl _⟩)) ?_
   simp only [Act.put,q7,jP,jQ]
   refine qe (i:=14) (v:=_) (by assumption) (by simp only [qR,qS,q6];rfl) Kr Kr Kr (by exact fun _ _ _ h=>h) Kr Kr (fun wx hS=>by(obtain ⟨hc,hf⟩ :=Jz hS;clear hS;go_simp; (try go_bits);exact⟨rfl,Over.refl _⟩)) ?_
   simp only [Act.put,q7,jP,jQ]
   refine qe (i:=15) (v:=_) (by assumption) (by simp only [qR,qS,q6];rfl) Kr Kr Kr (by exact fun _ _ _ h=>h) Kr Kr (fun wx hS=>by(go_simp;refine(we _ _ _).mono ?_;rintro e w1 ⟨rfl,rfl⟩;exact⟨rfl,Over.refl _⟩)) ?_
   simp only [Act.put,q7,jP,jQ]
   refine qe (i:=16) (v:=_) (by assumption) (by simp only [qR,qS,q6];rfl) Kr Kr Kr (by exact fun _ _ _ h=>h) Kr Kr (fun wx hS=>by(obtain ⟨hc,hf⟩ :=Jz hS;clear hS;go_simp; (try go_bits);exact⟨rfl,Over.refl _⟩)) ?_
   simp only [Act.put,q7,jP,jQ]
   refine LX (by assumption) (by simp only [qR,qS,q6];rfl) Kr Kr Kr (fun w7 h7 _=> ?_)
   obtain ⟨hc,hf⟩ :=Jz h7
   go_step
   have hhi9:= (Hhi.out.over h7).set_ (max (RC xs k) (px xs k)) (max (RD xs k) (py xs k))
   have hlo9:= ((Hlo.out.over h7).far (p:=⟨w.heap.size+1+1+1,0,none⟩) (by simp) (.int .i64 (max (RC xs k) (px xs k)))).far (p:=⟨w.heap.size+1+1+1,1,none⟩) (by simp) (.int .i64 (max (RD xs k) (py xs k)))
   have hb9:=Over.set_ (Over.set_ (Hb.out.trans h7) (p:=⟨w.heap.size+1+1+1,0,none⟩) (by simp [HZ]) (.int .i64 (max (RC xs k) (px xs k)))) (p:=⟨w.heap.size+1+1+1,1,none⟩) (by simp [HZ]) (.int .i64 (max (RD xs k) (py xs k)))
   generalize (w7.setCell ⟨w.heap.size+1+1+1,0,none⟩ (.int .i64 (max (RC xs k) (px xs k)))).setCell ⟨w.heap.size+1+1+1,1,none⟩ (.int .i64 (max (RD xs k) (py xs k))) =w9 at hlo9 hhi9 hb9⊢
   have H9:=Lib.hid (And.intro hlo9 (And.intro hhi9 hb9))
   clear hlo9 hhi9 hb9 hc hf h7 hBW hc1 hc2 z1 z2 c1 c2 c3 c4 f1 f2 f3 f4 Hlo Hhi Hb hbB
   go_wp2
   go_roundw
   case rel=>
    obtain ⟨s1,s2,s3,s4⟩ :=Hs.out
    exact⟨k+1,by omega,by omega,by go_num,H9.out.2.2,by rw [s1,s2];exact H9.out.1,by rw [s3,s4];exact H9.out.2.1⟩
   case measure=>simp [intOf];omega
  ·have hkn:k=n:=by omega
   rw [hkn] at hlo hhi
   clear hkn
   have hr1:Box2 wr w.heap.size 0 0:= ((Box2.new w 0 0 _ _ rfl).over (Over.alloc _ _)).over hb
   have hr2:Box2 wr (w.heap.size+1) 0 0:= (Box2.new (w.alloc _) 0 0 _ _ (by simp)).over hb
   have Hr1:=Lib.hid hr1
   have Hr2:=Lib.hid hr2
   obtain ⟨y1,d1,d2,g1,g2⟩ :=hr1
   obtain ⟨y2,d3,d4,g3,g4⟩ :=hr2
   obtain ⟨z1,c1,c2,f1,f2⟩ :=hlo
   obtain ⟨z2,c3,c4,f3,f4⟩ :=hhi
   have HO:=Lib.hid hO
   clear hO hb
   go_wp2
   go_region
   have hO:=HO.out
   go_wp2
   exact bodyPost_ret (v:= .tuple #[Uh (RF xs n) (RG xs n),Uh (RC xs n) (RD xs n)]) (by simp [results,Tryz.results96,go_sem, *]) rfl ⟨rfl,ov9⟩
set_option maxHeartbeats 2000000 in
set_option maxRecDepth 100000 in
theorem Ia (A:Option Addr) (n c:Nat) (xs:List (Int×Int)) (w:World) (h:Pts w A n xs) (hn: (n:Int)≤1048576) (h1:1≤n) (hcn:n≤c) :
  Calls Tryz.prog 169 #[.slice A n c] w fun e w'=>e= .returned (.tuple #[Uh (RF xs n) (RG xs n),Uh (RC xs n) (RD xs n)])∧Over w w':=by
 obtain ⟨b0,o0,rfl,hb0,hp1,hp2⟩ :=h.at_ (k:=0) Om
 simp only [Nat.zero_mul,jk7] at hp1 hp2
 have hb1:b0<w.heap.size+1:=by omega
 have hb2:b0<w.heap.size+1+1:=by omega
 have hb3:b0<w.heap.size+1+1+1:=by omega
 have Hp:=Lib.hid h
 have B1:=Lib.hid (Ch xs)
 clear h
 have h0n:0<n:=by omega
 have h1c:1≤c:=by omega
 by_cases hcc:c=1
 ·have hn1:n=1:=by omega
  clear hcn h1c h0n h1 hn
  subst hn1
  subst hcc
  go_enter Tryz.func169,Tryz.ntmps169
  go_wp2
  refine Kl (B:=ob _) (Over.refl _) Kr (by simp only [jkl,jjr,jjK,Nat.reduceAdd];rfl) (fun hBW=> ?_);refine i8 0 ?_;refine i8 1 ?_;refine i8 2 ?_;refine i8 3 ?_;refine i8 4 ?_;refine i8 5 ?_;refine L7 (i:=6) (j:=7) (k:=8) (l:=9) (by assumption) (by simp only [qR,qS,q6];rfl) (by simp only [qR,qS,q6];rfl) (by simp only [qR,qS,q6];rfl) (by simp only [qR,qS,q6];rfl) Dc (by rfl) (by rfl) (by rfl) (by rfl) (by rfl) (by rfl) Dc (by rfl) (by rfl) (by rfl) (by rfl) (by rfl) (by rfl) (fun _=>by(go_simp;rfl)) (fun _=>by(go_simp;rfl)) Kr Kr Kr Kr Kr (fun _ _=>by rfl) (fun _ _=>by rfl) (fun _ _=>by rfl) (fun _ _=>by rfl) Kr (by rfl) (by simp [Value.oneCell']) Kr (by rfl) (by simp [Value.oneCell']) ?_
  intro w2 q1 q2 ho hq1 hq2 hne hl1 hl2 hh1 hh2 hBx
  replace hBW:=hBx;clear hBx
  simp only [Act.put,q7,jP,jQ]
  refine Kk Kr (fun w3 h3=> ?_) _
  try clear hBW
  have hlo:= (Box2.row hh1 hl1).over h3
  have hhi:= (Box2.row hh2 hl2).over h3
  have hO3:Over (HZ w) w3:=ho.trans h3
  have hq1':w.heap.size+1+1≤q1:=by simpa using hq1
  have hq2':w.heap.size+1+1≤q2:=by simpa using hq2
  clear hh1 hh2 hl1 hl2 ho h3 hp1 hp2 hq1 hq2
  have hz2: (HZ w).heap.size=w.heap.size+1+1:=by simp [HZ]
  go_wp2
  go_loopw [17] (fun i wr=>i= .int .i64 0∧Over (HZ w) wr∧Box2 wr q1 (RF xs 1) (RG xs 1)∧Box2 wr q2 (RC xs 1) (RD xs 1)) (fun i _=>0)
  case atStart=>
   obtain ⟨q1,q2,q3,q4⟩ :=B1.out
   exact⟨rfl,hO3,by rw [q1,q2];exact hlo,by rw [q3,q4];exact hhi⟩
  case round=>
   rename_i wr
   clear hlo hhi hO3
   obtain ⟨rfl,hb,hlo,hhi⟩ :=hrel
   have hO:Over w wr:= (Over.alloc_ (Over.alloc _ _) _).trans hb
   have hr1:Box2 wr w.heap.size 0 0:= ((Box2.new w 0 0 _ _ rfl).over (Over.alloc _ _)).over hb
   have hr2:Box2 wr (w.heap.size+1) 0 0:= (Box2.new (w.alloc _) 0 0 _ _ (by simp)).over hb
   have d0:¬w.heap.size=q1:=by omega
   have d0':¬w.heap.size=q2:=by omega
   have e0:¬w.heap.size+1=q1:=by omega
   have e0':¬w.heap.size+1=q2:=by omega
   obtain ⟨y1,d1,d2,g1,g2⟩ :=hr1
   obtain ⟨y2,d3,d4,g3,g4⟩ :=hr2
   obtain ⟨z1,c1,c2,f1,f2⟩ :=hlo
   obtain ⟨z2,c3,c4,f3,f4⟩ :=hhi
   have HO:=Lib.hid hO
   clear hO hb
   go_wp2
   go_region
   have hO:=HO.out
   go_wp2
   exact bodyPost_ret (v:= .tuple #[Uh (RF xs 1) (RG xs 1),Uh (RC xs 1) (RD xs 1)]) (by simp [results,Tryz.results169,go_sem, *]) rfl ⟨rfl,ov9⟩
 go_enter Tryz.func169,Tryz.ntmps169
 go_wp2
 refine Kl (B:=ob _) (Over.refl _) Kr (by simp only [jkl,jjr,jjK,Nat.reduceAdd];rfl) (fun hBW=> ?_);refine i8 0 ?_;refine i8 1 ?_;refine i8 2 ?_;refine i8 3 ?_;refine i8 4 ?_;refine i8 5 ?_;refine L7 (i:=6) (j:=7) (k:=8) (l:=9) (by assumption) (by simp only [qR,qS,q6];rfl) (by simp only [qR,qS,q6];rfl) (by simp only [qR,qS,q6];rfl) (by simp only [qR,qS,q6];rfl) Dc (by rfl) (by rfl) (by rfl) (by rfl) (by rfl) (by rfl) Dc (by rfl) (by rfl) (by rfl) (by rfl) (by rfl) (by rfl) (fun _=>by(go_simp;rfl)) (fun _=>by(go_simp;rfl)) Kr Kr Kr Kr Kr (fun _ _=>by rfl) (fun _ _=>by rfl) (fun _ _=>by rfl) (fun _ _=>by rfl) Kr (by rfl) (by simp [Value.oneCell']) Kr (by rfl) (by simp [Value.oneCell']) ?_
 intro w2 q1 q2 ho hq1 hq2 hne hl1 hl2 hh1 hh2 hBx
 replace hBW:=hBx;clear hBx
 simp only [Act.put,q7,jP,jQ]
 refine Kk Kr (fun w3 h3=> ?_) _
 try clear hBW
 have hlo:= (Box2.row hh1 hl1).over h3
 have hhi:= (Box2.row hh2 hl2).over h3
 have hO3:Over (HZ w) w3:=ho.trans h3
 have hq1':w.heap.size+1+1≤q1:=by simpa using hq1
 have hq2':w.heap.size+1+1≤q2:=by simpa using hq2
 clear hh1 hh2 hl1 hl2 ho h3 hp1 hp2 hq1 hq2
 have hz2: (HZ w).heap.size=w.heap.size+1+1:=by simp [HZ]
 go_wp2
 go_loopw [17] (fun i wr=>∃k:Nat,k≤n- 1∧i= .int .i64 k∧Over (HZ w) wr∧Box2 wr q1 (RF xs (k+1)) (RG xs (k+1))∧Box2 wr q2 (RC xs (k+1)) (RD xs (k+1))) (fun i _=>n- (intOf i).toNat)
 case atStart=>
  obtain ⟨q1,q2,q3,q4⟩ :=B1.out
  exact⟨0,by omega,rfl,hO3,by rw [q1,q2];exact hlo,by rw [q3,q4];exact hhi⟩
 case round=>
  rename_i wr
  clear hlo hhi hO3
  obtain ⟨k,hk,rfl,hb,hlo,hhi⟩ :=hrel
  have hO:Over w wr:= (Over.alloc_ (Over.alloc _ _) _).trans hb
  by_cases hlt:k<n- 1
  ·obtain ⟨b,o,e,hbB,hc1,hc2⟩ := (Hp.out.over hO).at_ (k:=k+1) Om
   injection e with e
   injection e with e1 e2 _
   subst e1 e2
   rw [show o0+ (k+1) *2=o0+2+k*2 by omega] at hc1 hc2
   have Hs:=Lib.hid (R3 xs (k:=k+1) Om)
   have Hlo:=Lib.hid hlo
   have Hhi:=Lib.hid hhi
   have Hb:=Lib.hid hb
   obtain ⟨z1,c1,c2,f1,f2⟩ :=hlo
   obtain ⟨z2,c3,c4,f3,f4⟩ :=hhi
   clear hb hO
   go_wp2
   go_roundw
   case rel=>
    obtain ⟨s1,s2,s3,s4⟩ :=Hs.out
    rw [←jc9,←jc9,←jc2,←jc2]
    refine⟨k+1,by omega,by go_num,?_,?_,?_⟩
    ·exact Over.alloc_ (Over.set_ (Over.set_ (Over.set_ (Over.set_ Hb.out (by simp;omega) _) (by simp;omega) _) (by simp;omega) _) (by simp;omega) _) _
    ·rw [s1,s2];exact(((Hlo.out.set_ _ _).far (Ne.symm hne) _).far (Ne.symm hne) _).over (Over.alloc _ _)
    ·rw [s3,s4];exact(((Hhi.out.far hne _).far hne _).set_ _ _).over (Over.alloc _ _)
   case measure=>simp [intOf];omega
  ·have hkn:k+1=n:=by omega
   rw [hkn] at hlo hhi
   clear hkn
   have hr1:Box2 wr w.heap.size 0 0:= ((Box2.new w 0 0 _ _ rfl).over (Over.alloc _ _)).over hb
   have hr2:Box2 wr (w.heap.size+1) 0 0:= (Box2.new (w.alloc _) 0 0 _ _ (by simp)).over hb
   have d0:¬w.heap.size=q1:=by omega
   have d0':¬w.heap.size=q2:=by omega
   have e0:¬w.heap.size+1=q1:=by omega
   have e0':¬w.heap.size+1=q2:=by omega
   obtain ⟨y1,d1,d2,g1,g2⟩ :=hr1
   obtain ⟨y2,d3,d4,g3,g4⟩ :=hr2
   obtain ⟨z1,c1,c2,f1,f2⟩ :=hlo
   obtain ⟨z2,c3,c4,f3,f4⟩ :=hhi
   have HO:=Lib.hid hO
   clear hO hb
   go_wp2
   go_region
   have hO:=HO.out
   go_wp2
   exact bodyPost_ret (v:= .tuple #[Uh (RF xs n) (RG xs n),Uh (RC xs n) (RD xs n)]) (by simp [results,Tryz.results169,go_sem, *]) rfl ⟨rfl,ov9⟩
end Go.Proofs.YtbahojdbmmjkcaaGreat
namespace Go.Proofs.YtbahojdbmmjkcaaGreat
open Go Go.RowKit
set_option maxRecDepth 100000
set_option maxHeartbeats 4000000
def DC (ax ay bx b_y px_ py_:Int) :Bool:= (Q0 ax ay bx b_y px_ py_==0) &&decide (min ax bx≤px_) &&decide (px_≤max ax bx) &&decide (min ay b_y≤py_) &&decide (py_≤max ay b_y)
abbrev uW (x:Int) :Prop:= -1048576≤x∧x≤1048576
theorem DD (ax ay bx b_y px_ py_:Int) (w:World) (ha:uW ax) (ha':uW ay) (hb:uW bx) (hb':uW b_y) (hp:uW px_) (hp':uW py_) :
  Calls Tryz.prog 165 #[Uh ax ay,Uh bx b_y,Uh px_ py_] w fun e w'=>e= .returned (.bool (DC ax ay bx b_y px_ py_))∧Over w w':=by
 refine j6 (m:=52) (Tryz.func165) J J (lb J) ?_;refine S3 ?_;refine aX (fun b1=> ?_);refine N1 ?_;refine aX (fun b2=> ?_);refine N1 ?_;refine aX (fun b3=> ?_);refine N7 ?_;refine a9 (jM KG J J (fun w h=>GV _ _ _ _ _ _ w ha.1 ha.2 ha'.1 ha'.2 hb.1 hb.2 hb'.1 hb'.2 hp.1 hp.2 hp'.1 hp'.2)) ?_;refine S2 ?_;refine cV 12 (fun g1=> ?_) (fun g1=> ?_)
 ·refine S9 ?_;refine o9 (jdM J J J) ?_;refine S8 ?_;refine cV 22 (fun g2=> ?_) (fun g2=> ?_)
  ·refine S13 ?_;refine o9 (jdL J J J) ?_;refine S4 ?_;refine cV 32 (fun g3=> ?_) (fun g3=> ?_)
   ·refine S9 ?_;refine o9 (jdM J J J) ?_;refine S8 ?_;refine cV 42 (fun g4=> ?_) (fun g4=> ?_)
    ·refine S13 ?_;refine o9 (jdL J J J) ?_;refine S6 ?_;refine jK J (.tmp J) ?_
     intro w' hs
     exact⟨QF (by symm;simp [DC];omega),hs.fin⟩
    ·refine S12 ?_;refine jK J (.tmp J) ?_
     intro w' hs
     exact⟨QF (by symm;simp [DC];omega),hs.fin⟩
   ·refine S22 ?_;refine jK J (.tmp J) ?_
    intro w' hs
    exact⟨QF (by symm;simp [DC];omega),hs.fin⟩
  ·refine S32 ?_;refine jK J (.tmp J) ?_
   intro w' hs
   exact⟨QF (by symm;simp [DC];omega),hs.fin⟩
 ·refine S42 ?_;refine jK J (.tmp J) ?_
  intro w' hs
  exact⟨QF (by symm;simp [DC];omega),hs.fin⟩
theorem Pe (ax ay bx b_y px_ py_:Int) (w:World) :
  Calls Tryz.prog 193 #[Uh ax ay,Uh bx b_y,Uh px_ py_] w fun e w'=>e= .returned (.bool (decide (min ax bx≤px_) &&decide (px_≤max ax bx) &&decide (min ay b_y≤py_) &&decide (py_≤max ay b_y)))∧Over w w':=by
 refine j6 (m:=45) (Tryz.func193) J J (lb J) ?_;refine S3 ?_;refine aX (fun b1=> ?_);refine N1 ?_;refine aX (fun b2=> ?_);refine N1 ?_;refine aX (fun b3=> ?_);refine N4 ?_;refine JS 39 ?_;refine dK 0 ?_;refine dK 1 ?_;refine dK 2 ?_;refine dK 3 ?_;refine dZ 4 J (jM vV J J (fun w h=>Calls.still (wg _ _ w))) ?_;refine dK 5 ?_;refine dK 6 ?_;refine dK 7 ?_;refine dK 8 ?_;refine cV 15 (fun g1=> ?_) (fun g1=> ?_)
 ·refine eK 9 ?_;refine eK 10 ?_;refine eK 11 ?_;refine eK 12 ?_;refine eK 13 ?_;refine eK 14 ?_;refine eZ 15 J (jM vU J J (fun w h=>Calls.still (we _ _ w))) ?_;refine eK 16 ?_;refine dK 17 ?_;refine dK 18 ?_;refine cV 25 (fun g2=> ?_) (fun g2=> ?_)
  ·refine eK 19 ?_;refine eK 20 ?_;refine eK 21 ?_;refine eK 22 ?_;refine eZ 23 J (jM vV J J (fun w h=>Calls.still (wg _ _ w))) ?_;refine eK 24 ?_;refine eK 25 ?_;refine eK 26 ?_;refine dK 27 ?_;refine dK 28 ?_;refine cV 35 (fun g3=> ?_) (fun g3=> ?_)
   ·refine eK 29 ?_;refine eK 30 ?_;refine eK 31 ?_;refine eK 32 ?_;refine eK 33 ?_;refine eK 34 ?_;refine eZ 35 J (jM vU J J (fun w h=>Calls.still (we _ _ w))) ?_;refine eK 36 ?_;refine dK 37 ?_;refine dK 38 ?_;refine JJ Kr ?_;refine S2 ?_;refine jK J (.tmp J) ?_
    intro w' hs
    exact⟨QF (by symm;simp;omega),hs.fin⟩
   ·refine fK 29 ?_;refine fK 30 ?_;refine fK 31 ?_;refine fK 32 ?_;refine fK 33 ?_;refine fK 34 ?_;refine fK 35 ?_;refine fK 36 ?_;refine dK 37 ?_;refine dK 38 ?_;refine JJ Kr ?_;refine S2 ?_;refine jK J (.tmp J) ?_
    intro w' hs
    exact⟨QF (by symm;simp;omega),hs.fin⟩
  ·refine fK 19 ?_;refine fK 20 ?_;refine fK 21 ?_;refine fK 22 ?_;refine fK 23 ?_;refine fK 24 ?_;refine fK 25 ?_;refine fK 26 ?_;refine dK 27 ?_;refine dK 28 ?_;refine fK 29 ?_;refine fK 30 ?_;refine fK 31 ?_;refine fK 32 ?_;refine fK 33 ?_;refine fK 34 ?_;refine fK 35 ?_;refine fK 36 ?_;refine dK 37 ?_;refine dK 38 ?_;refine JJ Kr ?_;refine S2 ?_;refine jK J (.tmp J) ?_
   intro w' hs
   exact⟨QF (by symm;simp;omega),hs.fin⟩
 ·refine fK 9 ?_;refine fK 10 ?_;refine fK 11 ?_;refine fK 12 ?_;refine fK 13 ?_;refine fK 14 ?_;refine fK 15 ?_;refine fK 16 ?_;refine dK 17 ?_;refine dK 18 ?_;refine fK 19 ?_;refine fK 20 ?_;refine fK 21 ?_;refine fK 22 ?_;refine fK 23 ?_;refine fK 24 ?_;refine fK 25 ?_;refine fK 26 ?_;refine dK 27 ?_;refine dK 28 ?_;refine fK 29 ?_;refine fK 30 ?_;refine fK 31 ?_;refine fK 32 ?_;refine fK 33 ?_;refine fK 34 ?_;refine fK 35 ?_;refine fK 36 ?_;refine dK 37 ?_;refine dK 38 ?_;refine JJ Kr ?_;refine S2 ?_;refine jK J (.tmp J) ?_
  intro w' hs
  exact⟨QF (by symm;simp;omega),hs.fin⟩
theorem Fk (ax ay bx b_y px_ py_:Int) (w:World) (ha:uW ax) (ha':uW ay) (hb:uW bx) (hb':uW b_y) (hp:uW px_) (hp':uW py_) :
  Calls Tryz.prog 127 #[Uh ax ay,Uh bx b_y,Uh px_ py_] w fun e w'=>e= .returned (.bool (DC ax ay bx b_y px_ py_))∧Over w w':=by
 refine j6 (m:=18) (Tryz.func127) J J (lb J) ?_;refine S3 ?_;refine aX (fun b1=> ?_);refine N1 ?_;refine aX (fun b2=> ?_);refine N1 ?_;refine aX (fun b3=> ?_);refine N7 ?_;refine a9 (jM Qa J J (fun w h=>WJ _ _ _ _ _ _ w ha.1 ha.2 ha'.1 ha'.2 hb.1 hb.2 hb'.1 hb'.2 hp.1 hp.2 hp'.1 hp'.2)) ?_;refine S2 ?_;refine cV 12 (fun g1=> ?_) (fun g1=> ?_)
 ·refine S7 ?_;refine o9 (jM O7 J J (fun w h=>Pe _ _ _ _ _ _ w)) ?_;refine S4 ?_;refine jK J (.tmp J) ?_
  intro w' hs
  exact⟨QF (by simp [DC,g1,Bool.and_assoc]),hs.fin⟩
 ·refine S8 ?_;refine jK J (.tmp J) ?_
  intro w' hs
  exact⟨QF (by symm;simp [DC];omega),hs.fin⟩
end Go.Proofs.YtbahojdbmmjkcaaGreat
namespace Go.Proofs.YtbahojdbmmjkcaaGreat
open Go Go.RowKit
variable {A:Option Addr} {rs:List jO} {w w':World} {xs:List (Int×Int)}
theorem jfY {xs ys:jO} (h:xs.length=ys.length) (hp:∀j,j<xs.length→px xs j=px ys j∧py xs j=py ys j) :xs=ys:=by
 refine jkC h fun j h1 h2=> ?_
 rw [yU h1,yU h2,(hp j h1).1,(hp j h1).2]
theorem ja0 {ss:List jO} (h:rs.length=ss.length) (hp:∀j,j<rs.length→rg rs j=rg ss j) :rs=ss:=by
 refine jkC h fun j h1 h2=> ?_
 rw [wu h1,wu h2,hp j h1]
set_option maxHeartbeats 1000000 in
set_option maxRecDepth 100000 in
theorem LB (A B:Option Addr) (n m c d:Nat) (xs ys:jO) (w:World) (h:Pts w A n xs) (h':Pts w B m ys) (hn: (n:Int)≤1048576) (hm: (m:Int)≤1048576) :
  Calls Tryz.prog 136 #[.slice A n c, .slice B m d] w fun e w'=>e= .returned (.bool (decide (xs=ys)))∧Over w w':=by
 have hl:=Lib.hid h.1
 have hl':=Lib.hid h'.1
 by_cases hnm:n=m
 ·subst hnm
  have hq: ((n:Int) != (n:Int)) =false:=by simp
  go_enter Tryz.func136,Tryz.ntmps136
  go_wp2
  go_loopw [5] (fun i wr=>∃k:Nat,k≤n∧i= .int .i64 k∧Over w wr∧Hid (∀j,j<k→px xs j=px ys j∧py xs j=py ys j)) (fun i _=>n- (intOf i).toNat)
  case atStart=>exact⟨0,jjo _,rfl,Over.refl _,fun j hj=>absurd hj Om⟩
  case round=>
   rename_i wr
   obtain ⟨k,hk,rfl,hb,hall⟩ :=hrel
   by_cases hlt:k<n
   ·obtain ⟨b,o,rfl,hbB,hc1,hc2⟩ := (h.over hb).at_ hlt
    obtain ⟨b',o',rfl,hbB',hc1',hc2'⟩ := (h'.over hb).at_ hlt
    have Hb:=Lib.hid hb
    have hs:Hid (px xs k=px ys k∧py xs k=py ys k→∀j,j<k+1→px xs j=px ys j∧py xs j=py ys j) :=by
     intro h j hj
     by_cases hjk:j=k
     ·subst hjk;exact h
     ·exact hall.out j Om
    have hd:Hid (¬(px xs k=px ys k∧py xs k=py ys k)→decide (xs=ys) =false) :=fun h=>decide_eq_false (fun e=>h (by rw [e];exact⟨rfl,rfl⟩))
    clear h h' hb hall
    generalize px xs k=x at hc1 hs hd
    generalize py xs k=y at hc2 hs hd
    generalize px ys k=x' at hc1' hs hd
    generalize py ys k=y' at hc2' hs hd
    have key: (x=x'∧y=y')∨(¬x=x')∨(x=x'∧¬y=y') :=by omega
    rcases key with⟨rfl,rfl⟩ | hne |⟨rfl,hne⟩
    ·have hq2: (x==x) =true:=by simp
     have hq3: (y==y) =true:=by simp
     have hs2:=Lib.hid (hs.out ⟨rfl,rfl⟩)
     clear hs
     go_wp2
     refine Kl (B:=ob _) (Over.refl _) Kr (by simp only [jkl,jjr,jjK,Nat.reduceAdd];rfl) (fun hBW=> ?_);refine i8 0 ?_;refine i8 1 ?_;refine i8 2 ?_;refine i8 3 ?_;refine i8 4 ?_;refine i8 5 ?_;refine i8 6 ?_;refine i8 7 ?_;refine i8 8 ?_
     refine Kk Kr (fun w2 h2=> ?_) _
     try clear hBW
     go_wp2
     go_roundw
     case rel=>exact⟨k+1,by omega,by go_num,Hb.out.trans h2,hs2.out⟩
     case measure=>simp [intOf];omega
    all_goals
     have hq:=Lib.hid (hd.out Om)
     go_wp2
     refine Kl (B:=ob _) (Over.refl _) Kr (by simp only [jkl,jjr,jjK,Nat.reduceAdd];rfl) (fun hBW=> ?_);refine i8 0 ?_;refine i8 1 ?_;refine i8 2 ?_;refine i8 3 ?_;refine i8 4 ?_;refine i8 5 ?_;refine i8 6 ?_;refine i8 7 ?_;refine i8 8 ?_
     refine Kk Kr (fun w2 h2=> ?_) _
     try clear hBW
     go_wp2
     go_ret
     exact⟨by rw [hq.out];rfl,Hb.out.trans h2⟩
   ·have hkn:k=n:=by omega
    have hq:Hid (decide (xs=ys) =true) :=decide_eq_true (jfY (by rw [hl.out,hl'.out]) (fun j hj=>hall.out j (by rw [hl.out] at hj;omega)))
    clear h h' hall hl hl'
    go_wp2
    go_ret
    exact⟨by rw [hq.out];rfl,hb⟩
 ·have hq: ((n:Int) != (m:Int)) =true:=by simp;omega
  have hv:Hid (decide (xs=ys) =false) :=decide_eq_false (fun e=>hnm (by rw [←hl.out,←hl'.out,e]))
  clear h h' hl hl'
  go_enter Tryz.func136,Tryz.ntmps136
  go_wp2
  go_ret
  exact⟨by rw [hv.out];rfl,ov9⟩
theorem xK {b o:Nat} (h:w'.heap[b]? =w.heap[b]?) :w'.cell? ⟨b,o,none⟩ =w.cell? ⟨b,o,none⟩ :=by
 simp only [World.cell?,h]
theorem Pts.agree {n:Nat} (h:Pts w A n xs) (hz:w.heap.size≤w'.heap.size) (ha:∀p,A=some p→w'.heap[p.block]? =w.heap[p.block]?) :Pts w' A n xs:=by
 refine⟨h.1,fun hn=> ?_⟩
 obtain ⟨b,o,rfl,hlt,hc⟩ :=h.2 hn
 have hb:=ha _ rfl
 refine⟨b,o,J,by omega,fun k hk=> ?_⟩
 rw [xK hb,xK hb]
 exact hc k hk
theorem OwnR.agree {B:Nat} {g n:Nat} (h:OwnR B w g n rs) (hz:w.heap.size≤w'.heap.size) (ha:∀b,B≤b→b<w.heap.size→w'.heap[b]? =w.heap[b]?) :OwnR B w' g n rs:=by
 have hB:=h.1
 have hg:=ha g h.1 h.2.2.1.lt
 refine⟨h.1,h.2.1,?_,fun k hk=> ?_⟩
 ·obtain ⟨cs,hs,hh⟩ :=h.2.2.1
  exact⟨cs,hs,hg.trans hh⟩
 ·obtain ⟨gk,h1,h2,h3,h4⟩ :=h.2.2.2 k hk
  have hgk:=ha gk h1 h4.1.lt
  refine⟨gk,h1,h2,(xK hg).trans h3,?_,h4.2.agree hz fun p hp=> ?_⟩
  ·obtain ⟨cs,hs,hh⟩ :=h4.1
   exact⟨cs,hs,hgk.trans hh⟩
  ·injection hp with hp
   subst hp
   exact hgk
def Res.clo (lo hi:Nat) (P0:World→Prop) :Res where
 F b:=lo≤b∧b<hi
 P w:=hi≤w.heap.size∧∀w',hi≤w'.heap.size→(∀b,lo≤b→b<hi→w'.heap[b]? =w.heap[b]?)→P0 w'
 low w h b hb:=jjy hb.2 h.1
 B:=0
 dep w w' h hz hb:=⟨jkh h.1 hz,fun w'' h2 h3=>h.2 w'' h2 fun b h4 h5=> (h3 b h4 h5).trans (hb b (jjy h5 h.1) (.inr ⟨h4,h5⟩))⟩
section
variable {w:World} {w0:Bs} {Rs:List Res}
end
end Go.Proofs.YtbahojdbmmjkcaaGreat
