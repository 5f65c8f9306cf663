import Derived.Test.YtbahojdbmmjkcaaGreatSLegs
set_option linter.unusedVariables false
set_option linter.unusedSimpArgs false
namespace Go.Proofs.YtbahojdbmmjkcaaGreat
open Go Go.RowKit
variable {b:Nat} {w:World} {x y:Int}
theorem Vp (a b:Int) (w:World) :
  Calls Tryz.prog 150 #[.int .i64 a, .int .i64 b] w fun e w'=>e= .returned (.int .i64 (min a b))∧w=w':=by
 by_cases h1:a<b
 ·have hv:Hid (min a b=a) :=by unfold Hid;omega
  go_enter Tryz.func150,Tryz.ntmps150
  go_wp2
  go_ret
  exact⟨by rw [hv.out];rfl,rfl⟩
 ·have hv:Hid (min a b=b) :=by unfold Hid;omega
  go_enter Tryz.func150,Tryz.ntmps150
  go_wp2
  go_ret
  exact⟨by rw [hv.out];rfl,rfl⟩
def Rv (xs:List (Int×Int)) :Nat→Int
 | 0=>px xs 0
 | k+1=>if k=0 then px xs 0 else min (Rv xs k) (px xs k)
def Rw (xs:List (Int×Int)) :Nat→Int
 | 0=>py xs 0
 | k+1=>if k=0 then py xs 0 else min (Rw xs k) (py xs k)
def Rt (xs:List (Int×Int)) :Nat→Int
 | 0=>px xs 0
 | k+1=>if k=0 then px xs 0 else max (Rt xs k) (px xs k)
def Ru (xs:List (Int×Int)) :Nat→Int
 | 0=>py xs 0
 | k+1=>if k=0 then py xs 0 else max (Ru xs k) (py xs k)
theorem RM (xs:List (Int×Int)) {k:Nat} (h:1≤k) :Rv xs (k+1) =min (Rv xs k) (px xs k)∧Rw xs (k+1) =min (Rw xs k) (py xs k)∧Rt xs (k+1) =max (Rt xs k) (px xs k)∧Ru xs (k+1) =max (Ru xs k) (py xs k) :=by
 have h0:¬k=0:=by omega
 simp only [Rv,Rw,Rt,Ru,if_neg h0,and_self]
theorem P6 (xs:List (Int×Int)) :Rv xs 1=px xs 0∧Rw xs 1=py xs 0∧Rt xs 1=px xs 0∧Ru xs 1=py xs 0:=by
 simp [Rv,Rw,Rt,Ru]
def Box2 (w:World) (b:Nat) (x y:Int) :Prop:=
 b<w.heap.size∧w.cell? ⟨b,0,none⟩ =some (.int .i64 x)∧w.cell? ⟨b,1,none⟩ =some (.int .i64 y)∧w.frozen? ⟨b,0,none⟩ =false∧w.frozen? ⟨b,1,none⟩ =false
theorem Box2.over {w':World} (h:Box2 w b x y) (ho:Over w w') :Box2 w' b x y:=by
 obtain ⟨hc,hf⟩ :=Jr ho
 obtain ⟨h0,h1,h2,h3,h4⟩ :=h
 exact⟨jio h0 ho.size,(hc _ _ h0).trans h1,(hc _ _ h0).trans h2,(hf _ _ h0).trans h3,(hf _ _ h0).trans h4⟩
theorem WU (w:World) (p q:Addr) (u:Value) : (w.setCell p u).frozen? q=w.frozen? q:=World.frozen?_setCell w p q u
theorem Box2.far (h:Box2 w b x y) {p:Addr} (hp:p.block≠b) (u:Value) :Box2 (w.setCell p u) b x y:=by
 obtain ⟨h0,h1,h2,h3,h4⟩ :=h
 refine⟨by simpa [World.setCell] using h0,?_,?_,(WU ..).trans h3,(WU ..).trans h4⟩
 ·rw [World.cell?_setCell_other _ _ _ _ (fun e=>hp (by rw [e]))];exact h1
 ·rw [World.cell?_setCell_other _ _ _ _ (fun e=>hp (by rw [e]))];exact h2
theorem Box2.set_ (h:Box2 w b x y) (x' y':Int) :Box2 ((w.setCell ⟨b,0,none⟩ (.int .i64 x')).setCell ⟨b,1,none⟩ (.int .i64 y')) b x' y':=by
 obtain ⟨h0,h1,h2,h3,h4⟩ :=h
 have h2': (w.setCell ⟨b,0,none⟩ (.int .i64 x')).cell? ⟨b,1,none⟩ =some (.int .i64 y) :=by rw [World.cell?_setCell_other _ _ _ _ (by simp)];exact h2
 refine⟨by simpa [World.setCell] using h0,?_,World.cell?_setCell_same _ _ _ h2',(WU ..).trans ((WU ..).trans h3),(WU ..).trans ((WU ..).trans h4)⟩
 rw [World.cell?_setCell_other _ _ _ _ (by simp)]
 exact World.cell?_setCell_same _ _ _ h1
theorem Box2.new (w:World) (x y:Int) (T g:Nat) (hg:g=w.heap.size) :Box2 (w.alloc (.cells #[.int .i64 x, .int .i64 y] T)) g x y:=by
 subst hg
 have hh:=heap_alloc_new w (.cells #[.int .i64 x, .int .i64 y] T)
 refine⟨by simp,Y5 _ _ _ _,Y5 _ _ _ _,?_,?_⟩ <;> (unfold World.frozen?;rw [hh];rfl)
theorem Box2.row {t:TypeId} (h:w.heap[b]? =some (.cells (Value.agg #[.int .i64 x, .int .i64 y]).cells t (0,0))) (hl:b<w.heap.size) :Box2 w b x y:=by
 obtain ⟨k1,k2,k3,k4⟩ :=FH h
 exact⟨hl,k1,k2,k3,k4⟩
theorem jcD (a b:Int) :min a b=if b<a then b else a:=by split<;>omega
theorem jcx (a b:Int) :max a b=if a<b then b else a:=by split<;>omega
def G6 (w:World) :World:= (w.alloc (.cells #[.int .i64 0, .int .i64 0] 28)).alloc (.cells #[.int .i64 0, .int .i64 0] 28)
set_option maxHeartbeats 2000000 in
set_option maxRecDepth 100000 in
theorem M4 (A:Option Addr) (n c:Nat) (xs:List (Int×Int)) (w:World) (h:Pts w A n xs) (hn: (n:Int)≤1048576) (h1:1≤n) :
  Calls Tryz.prog 96 #[.slice A n c] w fun e w'=>e= .returned (.tuple #[ub (Rv xs n) (Rw xs n),ub (Rt xs n) (Ru xs n)])∧Over w w':=by
 obtain ⟨b0,o0,rfl,hb0,hp1,hp2⟩ :=h.at_ (k:=0) Om
 simp only [Nat.zero_mul,jjO] at hp1 hp2
 have hb1:b0<w.heap.size+1:=by omega
 have hb2:b0<w.heap.size+1+1:=by omega
 have hb3:b0<w.heap.size+1+1+1:=by omega
 have Hp:=Lib.hid h
 have B1:=Lib.hid (P6 xs)
 clear h
 go_enter Tryz.func96,Tryz.ntmps96
 go_wp2
 go_loopw [6] (fun i wr=>∃k:Nat,1≤k∧k≤n∧i= .int .i64 k∧Over (G6 w) wr∧Box2 wr (w.heap.size+1+1) (Rv xs k) (Rw xs k)∧Box2 wr (w.heap.size+1+1+1) (Rt xs k) (Ru xs k)) (fun i _=>n- (intOf i).toNat)
 case atStart=>
  obtain ⟨q1,q2,q3,q4⟩ :=B1.out
  refine⟨1,by omega,by omega,J,Over.alloc_ (Over.alloc _ _) _,?_,?_⟩
  ·rw [q1,q2];exact(Box2.new _ _ _ _ _ (by simp)).over (Over.alloc _ _)
  ·rw [q3,q4];exact Box2.new _ _ _ _ _ (by simp)
 case round=>
  rename_i wr
  obtain ⟨k,hk1,hk,rfl,hb,hlo,hhi⟩ :=hrel
  have hO:Over w wr:= (Over.alloc_ (Over.alloc _ _) _).trans hb
  by_cases hlt:k<n
  ·obtain ⟨b,o,e,hbB,hc1,hc2⟩ := (Hp.out.over hO).at_ hlt
   injection e with e
   injection e with e1 e2 _
   subst e1 e2
   have Hlo:=Lib.hid hlo
   have Hhi:=Lib.hid hhi
   obtain ⟨z1,c1,c2,f1,f2⟩ :=hlo
   obtain ⟨z2,c3,c4,f3,f4⟩ :=hhi
   have Hs:=Lib.hid (RM xs hk1)
   have Hb:=Lib.hid hb
   clear hb hO
   go_wp2
   refine Lp 17 (B:=ob _) (Over.refl _) Kr (by simp only [ji1,jij,jiw,Nat.reduceAdd];rfl) (fun hBW=> ?_);refine qb (i:=0) (v:=_) (by assumption) (by simp only [qt,qv];rfl) Kr Kr Kr (by exact fun _ _ _ h=>h) Kr Kr (fun wx hS=>by(obtain ⟨hc,hf⟩ :=Jr hS;clear hS;go_simp; (try go_bits);exact⟨rfl,Over.refl _⟩)) ?_
   simp only [Act.put,qC,jN,jO]
   refine qb (i:=1) (v:=_) (by assumption) (by simp only [qt,qv,qE];rfl) Kr Kr Kr (by exact fun _ _ _ h=>h) Kr Kr (fun wx hS=>by(obtain ⟨hc,hf⟩ :=Jr hS;clear hS;go_simp; (try go_bits);exact⟨rfl,Over.refl _⟩)) ?_
   simp only [Act.put,qC,jN,jO]
   refine qb (i:=2) (v:=_) (by assumption) (by simp only [qt,qv,qE];rfl) Kr Kr Kr (by exact fun _ _ _ h=>h) Kr Kr (fun wx hS=>by(obtain ⟨hc,hf⟩ :=Jr hS;clear hS;go_simp; (try go_bits);exact⟨rfl,Over.refl _⟩)) ?_
   simp only [Act.put,qC,jN,jO]
   refine qb (i:=3) (v:=_) (by assumption) (by simp only [qt,qv,qE];rfl) Kr Kr Kr (by exact fun _ _ _ h=>h) Kr Kr (fun wx hS=>by(obtain ⟨hc,hf⟩ :=Jr hS;clear hS;go_simp; (try go_bits);exact⟨rfl,Over.refl _⟩)) ?_
   simp only [Act.put,qC,jN,jO]
   refine qb (i:=4) (v:=_) (by assumption) (by simp only [qt,qv,qE];rfl) Kr Kr Kr (by exact fun _ _ _ h=>h) Kr Kr (fun wx hS=>by(obtain ⟨hc,hf⟩ :=Jr hS;clear hS;go_simp; (try go_bits);exact⟨rfl,Over.refl _⟩)) ?_
   simp only [Act.put,qC,jN,jO]
   refine qb (i:=5) (v:=_) (by assumption) (by simp only [qt,qv,qE];rfl) Kr Kr Kr (by exact fun _ _ _ h=>h) Kr Kr (fun wx hS=>by(obtain ⟨hc,hf⟩ :=Jr hS;clear hS;go_simp; (try go_bits);exact⟨rfl,Over.refl _⟩)) ?_
   simp only [Act.put,qC,jN,jO]
   refine qb (i:=6) (v:=_) (by assumption) (by simp only [qt,qv,qE];rfl) Kr Kr Kr (by exact fun _ _ _ h=>h) Kr Kr (fun wx hS=>by(obtain ⟨hc,hf⟩ :=Jr hS;clear hS;go_simp; (try go_bits);exact⟨rfl,Over.refl _⟩)) ?_
   simp only [Act.put,qC,jN,jO]
   refine qb (i:=7) (v:=_) (by assumption) (by simp only [qt,qv,qE];rfl) Kr Kr Kr (by exact fun _ _ _ h=>h) Kr Kr (fun wx hS=>by(go_simp;refine(Vp _ _ _).mono ?_;rintro e w1 ⟨rfl,rfl⟩;exact⟨rfl,Over.refl _⟩)) ?_
   simp only [Act.put,qC,jN,jO]
   refine qb (i:=8) (v:=_) (by assumption) (by simp only [qt,qv,qE];rfl) Kr Kr Kr (by exact fun _ _ _ h=>h) Kr Kr (fun wx hS=>by(obtain ⟨hc,hf⟩ :=Jr hS;clear hS;go_simp; (try go_bits);exact⟨rfl,Over.refl _⟩)) ?_
   simp only [Act.put,qC,jN,jO]
   refine qb (i:=9) (v:=_) (by assumption) (by simp only [qt,qv,qE];rfl) Kr Kr Kr (by exact fun _ _ _ h=>h) Kr Kr (fun wx hS=>by(obtain ⟨hc,hf⟩ :=Jr hS;clear hS;go_simp; (try go_bits);exact⟨rfl,Over.refl _⟩)) ?_
   simp only [Act.put,qC,jN,jO]
   refine qb (i:=10) (v:=_) (by assumption) (by simp only [qt,qv,qE];rfl) Kr Kr Kr (by exact fun _ _ _ h=>h) Kr Kr (fun wx hS=>by(obtain ⟨hc,hf⟩ :=Jr hS;clear hS;go_simp; (try go_bits);exact⟨rfl,Over.refl _⟩)) ?_
   simp only [Act.put,qC,jN,jO]
   refine qb (i:=11) (v:=_) (by assumption) (by simp only [qt,qv,qE];rfl) Kr Kr Kr (by exact fun _ _ _ h=>h) Kr Kr (fun wx hS=>by(obtain ⟨hc,hf⟩ :=Jr hS;clear hS;go_simp; (try go_bits);exact⟨rfl,Over.refl _⟩)) ?_
   simp only [Act.put,qC,jN,jO]
   refine qb (i:=12) (v:=_) (by assumption) (by simp only [qt,qv,qE];rfl) Kr Kr Kr (by exact fun _ _ _ h=>h) Kr Kr (fun wx hS=>by(obtain ⟨hc,hf⟩ :=Jr hS;clear hS;go_simp; (try go_bits);exact⟨rfl,Over.refl _⟩)) ?_
   simp only [Act.put,qC,jN,jO]
   refine qb (i:=13) (v:=_) (by assumption) (by simp only [qt,qv,qE];rfl) Kr Kr Kr (by exact fun _ _ _ h=>h) Kr Kr (fun wx hS=>by(obtain ⟨hc,hf⟩ :=Jr hS;clear hS;go_simp; (try go_bits);exact⟨rfl,Over.refl _⟩)) ?_
   simp only [Act.put,qC,jN,jO]
   refine qb (i:=14) (v:=_) (by assumption) (by simp only [qt,qv,qE];rfl) Kr Kr Kr (by exact fun _ _ _ h=>h) Kr Kr (fun wx hS=>by(obtain ⟨hc,hf⟩ :=Jr hS;clear hS;go_simp; (try go_bits);exact⟨rfl,Over.refl _⟩)) ?_
   simp only [Act.put,qC,jN,jO]
   refine qb (i:=15) (v:=_) (by assumption) (by simp only [qt,qv,qE];rfl) Kr Kr Kr (by exact fun _ _ _ h=>h) Kr Kr (fun wx hS=>by(go_simp;refine(Vp _ _ _).mono ?_;rintro e w1 ⟨rfl,rfl⟩;exact⟨rfl,Over.refl _⟩)) ?_
   simp only [Act.put,qC,jN,jO]
   refine qb (i:=16) (v:=_) (by assumption) (by simp only [qt,qv,qE];rfl) Kr Kr Kr (by exact fun _ _ _ h=>h) Kr Kr (fun wx hS=>by(obtain ⟨hc,hf⟩ :=Jr hS;clear hS;go_simp; (try go_bits);exact⟨rfl,Over.refl _⟩)) ?_
   simp only [Act.put,qC,jN,jO]
   refine Lf (by assumption) (by simp only [qt,qv,qE];rfl) Kr Kr Kr (fun w3 h3 _=> ?_)
   obtain ⟨hc,hf⟩ :=Jr h3
   go_step
   have hlo5:= (Hlo.out.over h3).set_ (min (Rv xs k) (px xs k)) (min (Rw xs k) (py xs k))
   have hhi5:= ((Hhi.out.over h3).far (p:=⟨w.heap.size+1+1,0,none⟩) (by simp) (.int .i64 (min (Rv xs k) (px xs k)))).far (p:=⟨w.heap.size+1+1,1,none⟩) (by simp) (.int .i64 (min (Rw xs k) (py xs k)))
   have hb5:=Over.set_ (Over.set_ (Hb.out.trans h3) (p:=⟨w.heap.size+1+1,0,none⟩) (by simp [G6]) (.int .i64 (min (Rv xs k) (px xs k)))) (p:=⟨w.heap.size+1+1,1,none⟩) (by simp [G6]) (.int .i64 (min (Rw xs k) (py xs k)))
   generalize (w3.setCell ⟨w.heap.size+1+1,0,none⟩ (.int .i64 (min (Rv xs k) (px xs k)))).setCell ⟨w.heap.size+1+1,1,none⟩ (.int .i64 (min (Rw xs k) (py xs k))) =w5 at hlo5 hhi5 hb5⊢
   clear hc hf h3 hBW hc1 hc2 z1 z2 c1 c2 c3 c4 f1 f2 f3 f4 Hlo Hhi Hb hbB
   obtain ⟨b,o,e,hbB,hc1,hc2⟩ := (Hp.out.over ((Over.alloc_ (Over.alloc _ _) _).trans hb5)).at_ hlt
   injection e with e
   injection e with e1 e2 _
   subst e1 e2
   have Hlo:=Lib.hid hlo5
   have Hhi:=Lib.hid hhi5
   have Hb:=Lib.hid hb5
   obtain ⟨z1,c1,c2,f1,f2⟩ :=hlo5
   obtain ⟨z2,c3,c4,f3,f4⟩ :=hhi5
   clear hb5
   go_wp2
   refine Lp 17 (B:=ob _) (Over.refl _) Kr (by simp only [ji1,jij,jiw,Nat.reduceAdd];rfl) (fun hBW=> ?_);refine qb (i:=0) (v:=_) (by assumption) (by simp only [qt,qv];rfl) Kr Kr Kr (by exact fun _ _ _ h=>h) Kr Kr (fun wx hS=>by(obtain ⟨hc,hf⟩ :=Jr hS;clear hS;go_simp; (try go_bits);exact⟨rfl,Over.refl _⟩)) ?_
   simp only [Act.put,qC,jN,jO]
   refine qb (i:=1) (v:=_) (by assumption) (by simp only [qt,qv,qE];rfl) Kr Kr Kr (by exact fun _ _ _ h=>h) Kr Kr (fun wx hS=>by(obtain ⟨hc,hf⟩ :=Jr hS;clear hS;go_simp; (try go_bits);exact⟨rfl,Over.refl _⟩)) ?_
   simp only [Act.put,qC,jN,jO]
   refine qb (i:=2) (v:=_) (by assumption) (by simp only [qt,qv,qE];rfl) Kr Kr Kr (by exact fun _ _ _ h=>h) Kr Kr (fun wx hS=>by(obtain ⟨hc,hf⟩ :=Jr hS;clear hS;go_simp; (try go_bits);exact⟨rfl,Over.refl _⟩)) ?_
   simp only [Act.put,qC,jN,jO]
   refine qb (i:=3) (v:=_) (by assumption) (by simp only [qt,qv,qE];rfl) Kr Kr Kr (by exact fun _ _ _ h=>h) Kr Kr (fun wx hS=>by(obtain ⟨hc,hf⟩ :=Jr hS;clear hS;go_simp; (try go_bits);exact⟨rfl,Over.refl _⟩)) ?_
   simp only [Act.put,qC,jN,jO]
   refine qb (i:=4) (v:=_) (by assumption) (by simp only [qt,qv,qE];rfl) Kr Kr Kr (by exact fun _ _ _ h=>h) Kr Kr (fun wx hS=>by(obtain ⟨hc,hf⟩ :=Jr hS;clear hS;go_simp; (try go_bits);exact⟨rfl,Over.refl _⟩)) ?_
   simp only [Act.put,qC,jN,jO]
   refine qb (i:=5) (v:=_) (by assumption) (by simp only [qt,qv,qE];rfl) Kr Kr Kr (by exact fun _ _ _ h=>h) Kr Kr (fun wx hS=>by(obtain ⟨hc,hf⟩ :=Jr hS;clear hS;go_simp; (try go_bits);exact⟨rfl,Over.refl _⟩)) ?_
   simp only [Act.put,qC,jN,jO]
   refine qb (i:=6) (v:=_) (by assumption) (by simp only [qt,qv,qE];rfl) Kr Kr Kr (by exact fun _ _ _ h=>h) Kr Kr (fun wx hS=>by(obtain ⟨hc,hf⟩ :=Jr hS;clear hS;go_simp; (try go_bits);exact⟨rfl,Over.refl _⟩)) ?_
   simp only [Act.put,qC,jN,jO]
   refine qb (i:=7) (v:=_) (by assumption) (by simp only [qt,qv,qE];rfl) Kr Kr Kr (by exact fun _ _ _ h=>h) Kr Kr (fun wx hS=>by(go_simp;refine(KI _ _ _).mono ?_;rintro e w1 ⟨rfl,rfl⟩;exact⟨rfl,Over.refl _⟩)) ?_
   simp only [Act.put,qC,jN,jO]
   refine qb (i:=8) (v:=_) (by assumption) (by simp only [qt,qv,qE];rfl) Kr Kr Kr (by exact fun _ _ _ h=>h) Kr Kr (fun wx hS=>by(obtain ⟨hc,hf⟩ :=Jr hS;clear hS;go_simp; (try go_bits);exact⟨rfl,Over.refl _⟩)) ?_
   simp only [Act.put,qC,jN,jO]
   refine qb (i:=9) (v:=_) (by assumption) (by simp only [qt,qv,qE];rfl) Kr Kr Kr (by exact fun _ _ _ h=>h) Kr Kr (fun wx hS=>by(obtain ⟨hc,hf⟩ :=Jr hS;clear hS;go_simp; (try go_bits);exact⟨rfl,Over.refl _⟩)) ?_
   simp only [Act.put,qC,jN,jO]
   refine qb (i:=10) (v:=_) (by assumption) (by simp only [qt,qv,qE];rfl) Kr Kr Kr (by exact fun _ _ _ h=>h) Kr Kr (fun wx hS=>by(obtain ⟨hc,hf⟩ :=Jr hS;clear hS;go_simp; (try go_bits);exact⟨rfl,Over.refl _⟩)) ?_
   simp only [Act.put,qC,jN,jO]
   refine qb (i:=11) (v:=_) (by assumption) (by simp only [qt,qv,qE];rfl) Kr Kr Kr (by exact fun _ _ _ h=>h) Kr Kr (fun wx hS=>by(obtain ⟨hc,hf⟩ :=Jr hS;clear hS;go_simp; (try go_bits);exact⟨rfl,Over.refl _⟩)) ?_
   simp only [Act.put,qC,jN,jO]
   refine qb (i:=12) (v:=_) (by assumption) (by simp only [qt,qv,qE];rfl) Kr Kr Kr (by exact fun _ _ _ h=>h) Kr Kr (fun wx hS=>by(obtain ⟨hc,hf⟩ :=Jr hS;clear hS;go_simp; (try go_bits);exact⟨rfl,Over.refl _⟩)) ?_
   simp only [Act.put,qC,jN,jO]
   refine qb (i:=13) (v:=_) (by assumption) (by simp only [qt,qv,qE];rfl) Kr Kr Kr (by exact fun _ _ _ h=>h) Kr Kr (fun wx hS=>by(obtain ⟨hc,hf⟩ :=Jr hS;clear hS;go_simp; (try go_bits);exact⟨rfl,Over.refl _⟩)) ?_
   simp only [Act.put,qC,jN,jO]
   refine qb (i:=14) (v:=_) (by assumption) (by simp only [qt,qv,qE];rfl) Kr Kr Kr (by exact fun _ _ _ h=>h) Kr Kr (fun wx hS=>by(obtain ⟨hc,hf⟩ :=Jr hS;clear hS;go_simp; (try go_bits);exact⟨rfl,Over.refl _⟩)) ?_
   simp only [Act.put,qC,jN,jO]
   refine qb (i:=15) (v:=_) (by assumption) (by simp only [qt,qv,qE];rfl) Kr Kr Kr (by exact fun _ _ _ h=>h) Kr Kr (fun wx hS=>by(go_simp;refine(KI _ _ _).mono ?_;rintro e w1 ⟨rfl,rfl⟩;exact⟨rfl,Over.refl _⟩)) ?_
   simp only [Act.put,qC,jN,jO]
   refine qb (i:=16) (v:=_) (by assumption) (by simp only [qt,qv,qE];rfl) Kr Kr Kr (by exact fun _ _ _ h=>h) Kr Kr (fun wx hS=>by(obtain ⟨hc,hf⟩ :=Jr hS;clear hS;go_simp; (try go_bits);exact⟨rfl,Over.refl _⟩)) ?_
   simp only [Act.put,qC,jN,jO]
   refine Lf (by assumption) (by simp only [qt,qv,qE];rfl) Kr Kr Kr (fun w7 h7 _=> ?_)
   obtain ⟨hc,hf⟩ :=Jr h7
   go_step
   have hhi9:= (Hhi.out.over h7).set_ (max (Rt xs k) (px xs k)) (max (Ru xs k) (py xs k))
   have hlo9:= ((Hlo.out.over h7).far (p:=⟨w.heap.size+1+1+1,0,none⟩) (by simp) (.int .i64 (max (Rt xs k) (px xs k)))).far (p:=⟨w.heap.size+1+1+1,1,none⟩) (by simp) (.int .i64 (max (Ru xs k) (py xs k)))
   have hb9:=Over.set_ (Over.set_ (Hb.out.trans h7) (p:=⟨w.heap.size+1+1+1,0,none⟩) (by simp [G6]) (.int .i64 (max (Rt xs k) (px xs k)))) (p:=⟨w.heap.size+1+1+1,1,none⟩) (by simp [G6]) (.int .i64 (max (Ru xs k) (py xs k)))
   generalize (w7.setCell ⟨w.heap.size+1+1+1,0,none⟩ (.int .i64 (max (Rt xs k) (px xs k)))).setCell ⟨w.heap.size+1+1+1,1,none⟩ (.int .i64 (max (Ru xs k) (py xs k))) =w9 at hlo9 hhi9 hb9⊢
   have H9:=Lib.hid (And.intro hlo9 (And.intro hhi9 hb9))
   clear hlo9 hhi9 hb9 hc hf h7 hBW hc1 hc2 z1 z2 c1 c2 c3 c4 f1 f2 f3 f4 Hlo Hhi Hb hbB
   go_wp2
   go_roundw
   case rel=>
    obtain ⟨s1,s2,s3,s4⟩ :=Hs.out
    exact⟨k+1,by omega,by omega,by go_num,H9.out.2.2,by rw [s1,s2];exact H9.out.1,by rw [s3,s4];exact H9.out.2.1⟩
   case measure=>simp [intOf];omega
  ·have hkn:k=n:=by omega
   rw [hkn] at hlo hhi
   clear hkn
   have hr1:Box2 wr w.heap.size 0 0:= ((Box2.new w 0 0 _ _ rfl).over (Over.alloc _ _)).over hb
   have hr2:Box2 wr (w.heap.size+1) 0 0:= (Box2.new (w.alloc _) 0 0 _ _ (by simp)).over hb
   have Hr1:=Lib.hid hr1
   have Hr2:=Lib.hid hr2
   obtain ⟨y1,d1,d2,g1,g2⟩ :=hr1
   obtain ⟨y2,d3,d4,g3,g4⟩ :=hr2
   obtain ⟨z1,c1,c2,f1,f2⟩ :=hlo
   obtain ⟨z2,c3,c4,f3,f4⟩ :=hhi
   have HO:=Lib.hid hO
   clear hO hb
   go_wp2
   go_region
   have hO:=HO.out
   go_wp2
   exact bodyPost_ret (v:= .tuple #[ub (Rv xs n) (Rw xs n),ub (Rt xs n) (Ru xs n)]) (by simp [results,Tryz.results96,go_sem, *]) rfl ⟨rfl,ov9⟩
set_option maxHeartbeats 2000000 in
set_option maxRecDepth 100000 in
theorem FU (A:Option Addr) (n c:Nat) (xs:List (Int×Int)) (w:World) (h:Pts w A n xs) (hn: (n:Int)≤1048576) (h1:1≤n) (hcn:n≤c) :
  Calls Tryz.prog 169 #[.slice A n c] w fun e w'=>e= .returned (.tuple #[ub (Rv xs n) (Rw xs n),ub (Rt xs n) (Ru xs n)])∧Over w w':=by
 obtain ⟨b0,o0,rfl,hb0,hp1,hp2⟩ :=h.at_ (k:=0) Om
 simp only [Nat.zero_mul,jjO] at hp1 hp2
 have hb1:b0<w.heap.size+1:=by omega
 have hb2:b0<w.heap.size+1+1:=by omega
 have hb3:b0<w.heap.size+1+1+1:=by omega
 have Hp:=Lib.hid h
 have B1:=Lib.hid (P6 xs)
 clear h
 have h0n:0<n:=by omega
 have h1c:1≤c:=by omega
 by_cases hcc:c=1
 ·have hn1:n=1:=by omega
  clear hcn h1c h0n h1 hn
  subst hn1
  subst hcc
  go_enter Tryz.func169,Tryz.ntmps169
  go_wp2
  refine QN (B:=ob _) (Over.refl _) Kr (by simp only [ji1,jij,jiw,Nat.reduceAdd];rfl) (fun hBW=> ?_);refine i8 0 ?_;refine i8 1 ?_;refine i8 2 ?_;refine i8 3 ?_;refine i8 4 ?_;refine i8 5 ?_;refine Lo (i:=6) (j:=7) (k:=8) (l:=9) (by assumption) (by simp only [qt,qv,qE];rfl) (by simp only [qt,qv,qE];rfl) (by simp only [qt,qv,qE];rfl) (by simp only [qt,qv,qE];rfl) Dc (by rfl) (by rfl) (by rfl) (by rfl) (by rfl) (by rfl) Dc (by rfl) (by rfl) (by rfl) (by rfl) (by rfl) (by rfl) (fun _=>by(go_simp;rfl)) (fun _=>by(go_simp;rfl)) Kr Kr Kr Kr Kr (fun _ _=>by rfl) (fun _ _=>by rfl) (fun _ _=>by rfl) (fun _ _=>by rfl) Kr (by rfl) (by simp [Value.oneCell']) Kr (by rfl) (by simp [Value.oneCell']) ?_
  intro w2 q1 q2 ho hq1 hq2 hne hl1 hl2 hh1 hh2 hBx
  replace hBW:=hBx;clear hBx
  simp only [Act.put,qC,jN,jO]
  refine QM Kr (fun w3 h3=> ?_) _
  try clear hBW
  have hlo:= (Box2.row hh1 hl1).over h3
  have hhi:= (Box2.row hh2 hl2).over h3
  have hO3:Over (G6 w) w3:=ho.trans h3
  have hq1':w.heap.size+1+1≤q1:=by simpa using hq1
  have hq2':w.heap.size+1+1≤q2:=by simpa using hq2
  clear hh1 hh2 hl1 hl2 ho h3 hp1 hp2 hq1 hq2
  have hz2: (G6 w).heap.size=w.heap.size+1+1:=by simp [G6]
  go_wp2
  go_loopw [17] (fun i wr=>i= .int .i64 0∧Over (G6 w) wr∧Box2 wr q1 (Rv xs 1) (Rw xs 1)∧Box2 wr q2 (Rt xs 1) (Ru xs 1)) (fun i _=>0)
  case atStart=>
   obtain ⟨q1,q2,q3,q4⟩ :=B1.out
   exact⟨rfl,hO3,by rw [q1,q2];exact hlo,by rw [q3,q4];exact hhi⟩
  case round=>
   rename_i wr
   clear hlo hhi hO3
   obtain ⟨rfl,hb,hlo,hhi⟩ :=hrel
   have hO:Over w wr:= (Over.alloc_ (Over.alloc _ _) _).trans hb
   have hr1:Box2 wr w.heap.size 0 0:= ((Box2.new w 0 0 _ _ rfl).over (Over.alloc _ _)).over hb
   have hr2:Box2 wr (w.heap.size+1) 0 0:= (Box2.new (w.alloc _) 0 0 _ _ (by simp)).over hb
   have d0:¬w.heap.size=q1:=by omega
   have d0':¬w.heap.size=q2:=by omega
   have e0:¬w.heap.size+1=q1:=by omega
   have e0':¬w.heap.size+1=q2:=by omega
   obtain ⟨y1,d1,d2,g1,g2⟩ :=hr1
   obtain ⟨y2,d3,d4,g3,g4⟩ :=hr2
   obtain ⟨z1,c1,c2,f1,f2⟩ :=hlo
   obtain ⟨z2,c3,c4,f3,f4⟩ :=hhi
   have HO:=Lib.hid hO
   clear hO hb
   go_wp2
   go_region
   have hO:=HO.out
   go_wp2
   exact bodyPost_ret (v:= .tuple #[ub (Rv xs 1) (Rw xs 1),ub (Rt xs 1) (Ru xs 1)]) (by simp [results,Tryz.results169,go_sem, *]) rfl ⟨rfl,ov9⟩
 go_enter Tryz.func169,Tryz.ntmps169
 go_wp2
 refine QN (B:=ob _) (Over.refl _) Kr (by simp only [ji1,jij,jiw,Nat.reduceAdd];rfl) (fun hBW=> ?_);refine i8 0 ?_;refine i8 1 ?_;refine i8 2 ?_;refine i8 3 ?_;refine i8 4 ?_;refine i8 5 ?_;refine Lo (i:=6) (j:=7) (k:=8) (l:=9) (by assumption) (by simp only [qt,qv,qE];rfl) (by simp only [qt,qv,qE];rfl) (by simp only [qt,qv,qE];rfl) (by simp only [qt,qv,qE];rfl) Dc (by rfl) (by rfl) (by rfl) (by rfl) (by rfl) (by rfl) Dc (by rfl) (by rfl) (by rfl) (by rfl) (by rfl) (by rfl) (fun _=>by(go_simp;rfl)) (fun _=>by(go_simp;rfl)) Kr Kr Kr Kr Kr (fun _ _=>by rfl) (fun _ _=>by rfl) (fun _ _=>by rfl) (fun _ _=>by rfl) Kr (by rfl) (by simp [Value.oneCell']) Kr (by rfl) (by simp [Value.oneCell']) ?_
 intro w2 q1 q2 ho hq1 hq2 hne hl1 hl2 hh1 hh2 hBx
 replace hBW:=hBx;clear hBx
 simp only [Act.put,qC,jN,jO]
 refine QM Kr (fun w3 h3=> ?_) _
 try clear hBW
 have hlo:= (Box2.row hh1 hl1).over h3
 have hhi:= (Box2.row hh2 hl2).over h3
 have hO3:Over (G6 w) w3:=ho.trans h3
 have hq1':w.heap.size+1+1≤q1:=by simpa using hq1
 have hq2':w.heap.size+1+1≤q2:=by simpa using hq2
 clear hh1 hh2 hl1 hl2 ho h3 hp1 hp2 hq1 hq2
 have hz2: (G6 w).heap.size=w.heap.size+1+1:=by simp [G6]
 go_wp2
 go_loopw [17] (fun i wr=>∃k:Nat,k≤n- 1∧i= .int .i64 k∧Over (G6 w) wr∧Box2 wr q1 (Rv xs (k+1)) (Rw xs (k+1))∧Box2 wr q2 (Rt xs (k+1)) (Ru xs (k+1))) (fun i _=>n- (intOf i).toNat)
 case atStart=>
  obtain ⟨q1,q2,q3,q4⟩ :=B1.out
  exact⟨0,by omega,rfl,hO3,by rw [q1,q2];exact hlo,by rw [q3,q4];exact hhi⟩
 case round=>
  rename_i wr
  clear hlo hhi hO3
  obtain ⟨k,hk,rfl,hb,hlo,hhi⟩ :=hrel
  have hO:Over w wr:= (Over.alloc_ (Over.alloc _ _) _).trans hb
  by_cases hlt:k<n- 1
  ·obtain ⟨b,o,e,hbB,hc1,hc2⟩ := (Hp.out.over hO).at_ (k:=k+1) Om
   injection e with e
   injection e with e1 e2 _
   subst e1 e2
   rw [show o0+ (k+1) *2=o0+2+k*2 by omega] at hc1 hc2
   have Hs:=Lib.hid (RM xs (k:=k+1) Om)
   have Hlo:=Lib.hid hlo
   have Hhi:=Lib.hid hhi
   have Hb:=Lib.hid hb
   obtain ⟨z1,c1,c2,f1,f2⟩ :=hlo
   obtain ⟨z2,c3,c4,f3,f4⟩ :=hhi
   clear hb hO
   go_wp2
   go_roundw
   case rel=>
    obtain ⟨s1,s2,s3,s4⟩ :=Hs.out
    rw [←jcD,←jcD,←jcx,←jcx]
    refine⟨k+1,by omega,by go_num,?_,?_,?_⟩
    ·exact Over.alloc_ (Over.set_ (Over.set_ (Over.set_ (Over.set_ Hb.out (by simp;omega) _) (by simp;omega) _) (by simp;omega) _) (by simp;omega) _) _
    ·rw [s1,s2];exact(((Hlo.out.set_ _ _).far (Ne.symm hne) _).far (Ne.symm hne) _).over (Over.alloc _ _)
    ·rw [s3,s4];exact(((Hhi.out.far hne _).far hne _).set_ _ _).over (Over.alloc _ _)
   case measure=>simp [intOf];omega
  ·have hkn:k+1=n:=by omega
   rw [hkn] at hlo hhi
   clear hkn
   have hr1:Box2 wr w.heap.size 0 0:= ((Box2.new w 0 0 _ _ rfl).over (Over.alloc _ _)).over hb
   have hr2:Box2 wr (w.heap.size+1) 0 0:= (Box2.new (w.alloc _) 0 0 _ _ (by simp)).over hb
   have d0:¬w.heap.size=q1:=by omega
   have d0':¬w.heap.size=q2:=by omega
   have e0:¬w.heap.size+1=q1:=by omega
   have e0':¬w.heap.size+1=q2:=by omega
   obtain ⟨y1,d1,d2,g1,g2⟩ :=hr1
   obtain ⟨y2,d3,d4,g3,g4⟩ :=hr2
   obtain ⟨z1,c1,c2,f1,f2⟩ :=hlo
   obtain ⟨z2,c3,c4,f3,f4⟩ :=hhi
   have HO:=Lib.hid hO
   clear hO hb
   go_wp2
   go_region
   have hO:=HO.out
   go_wp2
   exact bodyPost_ret (v:= .tuple #[ub (Rv xs n) (Rw xs n),ub (Rt xs n) (Ru xs n)]) (by simp [results,Tryz.results169,go_sem, *]) rfl ⟨rfl,ov9⟩
end Go.Proofs.YtbahojdbmmjkcaaGreat
