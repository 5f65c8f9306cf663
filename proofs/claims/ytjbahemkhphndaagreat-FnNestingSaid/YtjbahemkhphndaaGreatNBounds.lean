import Derived.Test.YtjbahemkhphndaaGreatNLegs
import Derived.Test.YtjbahemkhphndaaGreatNL2
set_option linter.unusedVariables false
set_option linter.unusedSimpArgs false
namespace Go.Proofs.YtjbahemkhphndaaGreat
open Go Go.RowKit
section
variable{b:Nat}{w:World}{x y:Int}
theorem wo(a b:Int)(w:World):
  Calls Tryz.prog 34 #[.int .i64 a,.int .i64 b] w λe w'=>e=.returned (.int .i64 (min a b))/\w=w':=by
 by_cases h1:a<b
 .have hv:Hid (min a b=a):=by unfold Hid;omega
  go_enter Tryz.func34,Tryz.ntmps34
  go_wp2;go_ret;exact⟨by rw[hv.out];rfl,rfl⟩
 .have hv:Hid (min a b=b):=by unfold Hid;omega
  go_enter Tryz.func34,Tryz.ntmps34
  go_wp2;go_ret;exact⟨by rw[hv.out];rfl,rfl⟩
def X7(xs:List (Int×Int)):Nat->Int
 |0=>px xs 0
 |k+1=>if k=0 then px xs 0 else min (X7 xs k) (px xs k)
def X8(xs:List (Int×Int)):Nat->Int
 |0=>py xs 0
 |k+1=>if k=0 then py xs 0 else min (X8 xs k) (py xs k)
def X0(xs:List (Int×Int)):Nat->Int
 |0=>px xs 0
 |k+1=>if k=0 then px xs 0 else max (X0 xs k) (px xs k)
def X1(xs:List (Int×Int)):Nat->Int
 |0=>py xs 0
 |k+1=>if k=0 then py xs 0 else max (X1 xs k) (py xs k)
theorem GL(xs:List (Int×Int)){k:Nat}(h:1<=k):X7 xs (k+1)=min (X7 xs k) (px xs k)/\X8 xs (k+1)=min (X8 xs k) (py xs k)/\X0 xs (k+1)=max (X0 xs k) (px xs k)/\X1 xs (k+1)=max (X1 xs k) (py xs k):=by
 have h0:¬k=0:=by omega
 simp only[X7,X8,X0,X1,if_neg h0,and_self]
theorem Oz(xs:List (Int×Int)):X7 xs 1=px xs 0/\X8 xs 1=py xs 0/\X0 xs 1=px xs 0/\X1 xs 1=py xs 0:=by
 simp[X7,X8,X0,X1]
def Box2(w:World)(b:Nat)(x y:Int):Prop:=
 b<w.heap.size/\w.cell? ⟨b,0,none⟩=some (.int .i64 x)/\w.cell? ⟨b,1,none⟩=some (.int .i64 y)/\w.frozen? ⟨b,0,none⟩=false/\w.frozen? ⟨b,1,none⟩=false
theorem Box2.over{w':World}(h:Box2 w b x y)(ho:Over w w'):Box2 w' b x y:=by
 obtain⟨hc,hf⟩:=Jy ho;obtain⟨h0,h1,h2,h3,h4⟩:=h;exact⟨jlU h0 ho.size,(hc _ _ h0).trans h1,(hc _ _ h0).trans h2,(hf _ _ h0).trans h3,(hf _ _ h0).trans h4⟩
theorem uM(w:World)(p q:Addr)(u:Value):(w.setCell p u).frozen? q=w.frozen? q:=World.frozen?_setCell w p q u
theorem Box2.far(h:Box2 w b x y){p:Addr}(hp:p.block≠b)(u:Value):Box2 (w.setCell p u) b x y:=by
 obtain⟨h0,h1,h2,h3,h4⟩:=h;refine⟨by simpa[World.setCell] using h0,?_,?_,(uM ..).trans h3,(uM ..).trans h4⟩
 .rw[World.cell?_setCell_other _ _ _ _ (λe=>hp (by rw[e]))];exact h1
 .rw[World.cell?_setCell_other _ _ _ _ (λe=>hp (by rw[e]))];exact h2
theorem Box2.set_(h:Box2 w b x y)(x' y':Int):Box2 ((w.setCell ⟨b,0,none⟩ (.int .i64 x')).setCell ⟨b,1,none⟩ (.int .i64 y')) b x' y':=by
 obtain⟨h0,h1,h2,h3,h4⟩:=h;have h2':(w.setCell ⟨b,0,none⟩ (.int .i64 x')).cell? ⟨b,1,none⟩=some (.int .i64 y):=by rw[World.cell?_setCell_other _ _ _ _ (by simp)];exact h2
 refine⟨by simpa[World.setCell] using h0,?_,World.cell?_setCell_same _ _ _ h2',(uM ..).trans ((uM ..).trans h3),(uM ..).trans ((uM ..).trans h4)⟩;rw[World.cell?_setCell_other _ _ _ _ (by simp)];exact World.cell?_setCell_same _ _ _ h1
theorem Box2.new(w:World)(x y:Int)(T g:Nat)(hg:g=w.heap.size):Box2 (w.alloc (.cells #[.int .i64 x,.int .i64 y] T)) g x y:=by
 subst hg;have hh:=heap_alloc_new w (.cells #[.int .i64 x,.int .i64 y] T)
 refine⟨by simp,ZV _ _ _ _,ZV _ _ _ _,?_,?_⟩<;>(unfold World.frozen?;rw[hh];rfl)
theorem Box2.row{t:TypeId}(h:w.heap[b]? =some (.cells (Value.agg #[.int .i64 x,.int .i64 y]).cells t (0,0)))(hl:b<w.heap.size):Box2 w b x y:=by
 obtain⟨k1,k2,k3,k4⟩:=I6 h;exact⟨hl,k1,k2,k3,k4⟩
theorem je4(a b:Int):min a b=if b<a then b else a:=by split<;>omega
theorem jeW(a b:Int):max a b=if a<b then b else a:=by split<;>omega
def LY(w:World):World:=(w.alloc (.cells #[.int .i64 0,.int .i64 0] 36)).alloc (.cells #[.int .i64 0,.int .i64 0] 36)
set_option maxHeartbeats 2000000 in
set_option maxRecDepth 100000 in
theorem Z9(A:Option Addr)(n c:Nat)(xs:List (Int×Int))(w:World)(h:Pts w A n xs)(hn:(n:Int)<=1048576)(h1:1<=n):
  Calls Tryz.prog 22 #[.slice A n c] w λe w'=>e=.returned (.tuple #[Wh (X7 xs n) (X8 xs n),Wh (X0 xs n) (X1 xs n)])/\Over w w':=by
 obtain⟨b0,o0,rfl,hb0,hp1,hp2⟩:=h.at_ (k:=0) Om;simp only[Nat.zero_mul,jnC] at hp1 hp2;have hb1:b0<w.heap.size+1:=by omega
 have hb2:b0<w.heap.size+1+1:=by omega
 have hb3:b0<w.heap.size+1+1+1:=by omega
 have Hp:=Lib.hid h;have B1:=Lib.hid (Oz xs)
 clear h
 go_enter Tryz.func22,Tryz.ntmps22
 go_wp2
 go_loopw [6] (λi wr=>∃k:Nat,1<=k/\k<=n/\i=.int .i64 k/\Over (LY w) wr/\Box2 wr (w.heap.size+1+1) (X7 xs k) (X8 xs k)/\Box2 wr (w.heap.size+1+1+1) (X0 xs k) (X1 xs k)) (λi _=>n-(intOf i).toNat)
 case atStart=>
  obtain⟨q1,q2,q3,q4⟩:=B1.out;refine⟨1,by omega,by omega,J,Over.alloc_ (Over.alloc _ _) _,?_,?_⟩
  .rw[q1,q2];exact(Box2.new _ _ _ _ _ (by simp)).over (Over.alloc _ _)
  .rw[q3,q4];exact Box2.new _ _ _ _ _ (by simp)
 case round=>
  rename_i wr;obtain⟨k,hk1,hk,rfl,hb,hlo,hhi⟩:=hrel;have hO:Over w wr:=(Over.alloc_ (Over.alloc _ _) _).trans hb
  by_cases hlt:k<n
  .obtain⟨b,o,e,hbB,hc1,hc2⟩:=(Hp.out.over hO).at_ hlt;injection e with e
   injection e with e1 e2 _
   subst e1 e2;have Hlo:=Lib.hid hlo
   have Hhi:=Lib.hid hhi;obtain⟨z1,c1,c2,f1,f2⟩:=hlo;obtain⟨z2,c3,c4,f3,f4⟩:=hhi;have Hs:=Lib.hid (GL xs hk1)
   have Hb:=Lib.hid hb;clear hb hO;go_wp2;refine MZ 17 (B:=ob _) (Over.refl _) Kr (by simp only[jmJ,jlS,jl5,Nat.reduceAdd];rfl) (λhBW=>?_);refine qi (i:=0) (v:=_) (by assumption) (by simp only[qX,qY];rfl) Kr Kr Kr (by exact λ_ _ _ h=>h) Kr Kr (λwx hS=>by(obtain⟨hc,hf⟩:=Jy hS;clear hS;go_simp;(try go_bits);exact⟨rfl,Over.refl _⟩)) ?_
   simp only[Act.put,Qc,jL,jM];refine qi (i:=1) (v:=_) (by assumption) (by simp only[qX,qY,Qb];rfl) Kr Kr Kr (by exact λ_ _ _ h=>h) Kr Kr (λwx hS=>by(obtain⟨hc,hf⟩:=Jy hS;clear hS;go_simp;(try go_bits);exact⟨rfl,Over.refl _⟩)) ?_
   simp only[Act.put,Qc,jL,jM];refine qi (i:=2) (v:=_) (by assumption) (by simp only[qX,qY,Qb];rfl) Kr Kr Kr (by exact λ_ _ _ h=>h) Kr Kr (λwx hS=>by(obtain⟨hc,hf⟩:=Jy hS;clear hS;go_simp;(try go_bits);exact⟨rfl,Over.refl _⟩)) ?_
   simp only[Act.put,Qc,jL,jM];refine qi (i:=3) (v:=_) (by assumption) (by simp only[qX,qY,Qb];rfl) Kr Kr Kr (by exact λ_ _ _ h=>h) Kr Kr (λwx hS=>by(obtain⟨hc,hf⟩:=Jy hS;clear hS;go_simp;(try go_bits);exact⟨rfl,Over.refl _⟩)) ?_
   simp only[Act.put,Qc,jL,jM];refine qi (i:=4) (v:=_) (by assumption) (by simp only[qX,qY,Qb];rfl) Kr Kr Kr (by exact λ_ _ _ h=>h) Kr Kr (λwx hS=>by(obtain⟨hc,hf⟩:=Jy hS;clear hS;go_simp;(try go_bits);exact⟨rfl,Over.refl _⟩)) ?_
   simp only[Act.put,Qc,jL,jM];refine qi (i:=5) (v:=_) (by assumption) (by simp only[qX,qY,Qb];rfl) Kr Kr Kr (by exact λ_ _ _ h=>h) Kr Kr (λwx hS=>by(obtain⟨hc,hf⟩:=Jy hS;clear hS;go_simp;(try go_bits);exact⟨rfl,Over.refl _⟩)) ?_
   simp only[Act.put,Qc,jL,jM];refine qi (i:=6) (v:=_) (by assumption) (by simp only[qX,qY,Qb];rfl) Kr Kr Kr (by exact λ_ _ _ h=>h) Kr Kr (λwx hS=>by(obtain⟨hc,hf⟩:=Jy hS;clear hS;go_simp;(try go_bits);exact⟨rfl,Over.refl _⟩)) ?_
   simp only[Act.put,Qc,jL,jM];refine qi (i:=7) (v:=_) (by assumption) (by simp only[qX,qY,Qb];rfl) Kr Kr Kr (by exact λ_ _ _ h=>h) Kr Kr (λwx hS=>by(go_simp;refine(wo _ _ _).mono ?_;rintro e w1 ⟨rfl,rfl⟩;exact⟨rfl,Over.refl _⟩)) ?_;simp only[Act.put,Qc,jL,jM];refine qi (i:=8) (v:=_) (by assumption) (by simp only[qX,qY,Qb];rfl) Kr Kr Kr (by exact λ_ _ _ h=>h) Kr Kr (λwx hS=>by(obtain⟨hc,hf⟩:=Jy hS;clear hS;go_simp;(try go_bits);exact⟨rfl,Over.refl _⟩)) ?_
   simp only[Act.put,Qc,jL,jM];refine qi (i:=9) (v:=_) (by assumption) (by simp only[qX,qY,Qb];rfl) Kr Kr Kr (by exact λ_ _ _ h=>h) Kr Kr (λwx hS=>by(obtain⟨hc,hf⟩:=Jy hS;clear hS;go_simp;(try go_bits);exact⟨rfl,Over.refl _⟩)) ?_
   simp only[Act.put,Qc,jL,jM];refine qi (i:=10) (v:=_) (by assumption) (by simp only[qX,qY,Qb];rfl) Kr Kr Kr (by exact λ_ _ _ h=>h) Kr Kr (λwx hS=>by(obtain⟨hc,hf⟩:=Jy hS;clear hS;go_simp;(try go_bits);exact⟨rfl,Over.refl _⟩)) ?_
   simp only[Act.put,Qc,jL,jM];refine qi (i:=11) (v:=_) (by assumption) (by simp only[qX,qY,Qb];rfl) Kr Kr Kr (by exact λ_ _ _ h=>h) Kr Kr (λwx hS=>by(obtain⟨hc,hf⟩:=Jy hS;clear hS;go_simp;(try go_bits);exact⟨rfl,Over.refl _⟩)) ?_
   simp only[Act.put,Qc,jL,jM];refine qi (i:=12) (v:=_) (by assumption) (by simp only[qX,qY,Qb];rfl) Kr Kr Kr (by exact λ_ _ _ h=>h) Kr Kr (λwx hS=>by(obtain⟨hc,hf⟩:=Jy hS;clear hS;go_simp;(try go_bits);exact⟨rfl,Over.refl _⟩)) ?_
   simp only[Act.put,Qc,jL,jM];refine qi (i:=13) (v:=_) (by assumption) (by simp only[qX,qY,Qb];rfl) Kr Kr Kr (by exact λ_ _ _ h=>h) Kr Kr (λwx hS=>by(obtain⟨hc,hf⟩:=Jy hS;clear hS;go_simp;(try go_bits);exact⟨rfl,Over.refl _⟩)) ?_
   simp only[Act.put,Qc,jL,jM];refine qi (i:=14) (v:=_) (by assumption) (by simp only[qX,qY,Qb];rfl) Kr Kr Kr (by exact λ_ _ _ h=>h) Kr Kr (λwx hS=>by(obtain⟨hc,hf⟩:=Jy hS;clear hS;go_simp;(try go_bits);exact⟨rfl,Over.refl _⟩)) ?_
   simp only[Act.put,Qc,jL,jM];refine qi (i:=15) (v:=_) (by assumption) (by simp only[qX,qY,Qb];rfl) Kr Kr Kr (by exact λ_ _ _ h=>h) Kr Kr (λwx hS=>by(go_simp;refine(wo _ _ _).mono ?_;rintro e w1 ⟨rfl,rfl⟩;exact⟨rfl,Over.refl _⟩)) ?_;simp only[Act.put,Qc,jL,jM];refine qi (i:=16) (v:=_) (by assumption) (by simp only[qX,qY,Qb];rfl) Kr Kr Kr (by exact λ_ _ _ h=>h) Kr Kr (λwx hS=>by(obtain⟨hc,hf⟩:=Jy hS;clear hS;go_simp;(try go_bits);exact⟨rfl,Over.refl _⟩)) ?_
   simp only[Act.put,Qc,jL,jM];refine MQ (by assumption) (by simp only[qX,qY,Qb];rfl) Kr Kr Kr (λw3 h3 _=>?_);obtain⟨hc,hf⟩:=Jy h3;go_step;have hlo5:=(Hlo.out.over h3).set_ (min (X7 xs k) (px xs k)) (min (X8 xs k) (py xs k))
   have hhi5:=((Hhi.out.over h3).far (p:=⟨w.heap.size+1+1,0,none⟩) (by simp) (.int .i64 (min (X7 xs k) (px xs k)))).far (p:=⟨w.heap.size+1+1,1,none⟩) (by simp) (.int .i64 (min (X8 xs k) (py xs k)));have hb5:=Over.set_ (Over.set_ (Hb.out.trans h3) (p:=⟨w.heap.size+1+1,0,none⟩) (by simp[LY]) (.int .i64 (min (X7 xs k) (px xs k)))) (p:=⟨w.heap.size+1+1,1,none⟩) (by simp[LY]) (.int .i64 (min (X8 xs k) (py xs k)))
   generalize (w3.setCell ⟨w.heap.size+1+1,0,none⟩ (.int .i64 (min (X7 xs k) (px xs k)))).setCell ⟨w.heap.size+1+1,1,none⟩ (.int .i64 (min (X8 xs k) (py xs k)))=w5 at hlo5 hhi5 hb5⊢;clear hc hf h3 hBW hc1 hc2 z1 z2 c1 c2 c3 c4 f1 f2 f3 f4 Hlo Hhi Hb hbB;obtain⟨b,o,e,hbB,hc1,hc2⟩:=(Hp.out.over ((Over.alloc_ (Over.alloc _ _) _).trans hb5)).at_ hlt;injection e with e
   injection e with e1 e2 _
   subst e1 e2;have Hlo:=Lib.hid hlo5
   have Hhi:=Lib.hid hhi5;have Hb:=Lib.hid hb5
   obtain⟨z1,c1,c2,f1,f2⟩:=hlo5;obtain⟨z2,c3,c4,f3,f4⟩:=hhi5;clear hb5;go_wp2;refine MZ 17 (B:=ob _) (Over.refl _) Kr (by simp only[jmJ,jlS,jl5,Nat.reduceAdd];rfl) (λhBW=>?_);refine qi (i:=0) (v:=_) (by assumption) (by simp only[qX,qY];rfl) Kr Kr Kr (by exact λ_ _ _ h=>h) Kr Kr (λwx hS=>by(obtain⟨hc,hf⟩:=Jy hS;clear hS;go_simp;(try go_bits);exact⟨rfl,Over.refl _⟩)) ?_
   simp only[Act.put,Qc,jL,jM];refine qi (i:=1) (v:=_) (by assumption) (by simp only[qX,qY,Qb];rfl) Kr Kr Kr (by exact λ_ _ _ h=>h) Kr Kr (λwx hS=>by(obtain⟨hc,hf⟩:=Jy hS;clear hS;go_simp;(try go_bits);exact⟨rfl,Over.refl _⟩)) ?_
   simp only[Act.put,Qc,jL,jM];refine qi (i:=2) (v:=_) (by assumption) (by simp only[qX,qY,Qb];rfl) Kr Kr Kr (by exact λ_ _ _ h=>h) Kr Kr (λwx hS=>by(obtain⟨hc,hf⟩:=Jy hS;clear hS;go_simp;(try go_bits);exact⟨rfl,Over.refl _⟩)) ?_
   simp only[Act.put,Qc,jL,jM];refine qi (i:=3) (v:=_) (by assumption) (by simp only[qX,qY,Qb];rfl) Kr Kr Kr (by exact λ_ _ _ h=>h) Kr Kr (λwx hS=>by(obtain⟨hc,hf⟩:=Jy hS;clear hS;go_simp;(try go_bits);exact⟨rfl,Over.refl _⟩)) ?_
   simp only[Act.put,Qc,jL,jM];refine qi (i:=4) (v:=_) (by assumption) (by simp only[qX,qY,Qb];rfl) Kr Kr Kr (by exact λ_ _ _ h=>h) Kr Kr (λwx hS=>by(obtain⟨hc,hf⟩:=Jy hS;clear hS;go_simp;(try go_bits);exact⟨rfl,Over.refl _⟩)) ?_
   simp only[Act.put,Qc,jL,jM];refine qi (i:=5) (v:=_) (by assumption) (by simp only[qX,qY,Qb];rfl) Kr Kr Kr (by exact λ_ _ _ h=>h) Kr Kr (λwx hS=>by(obtain⟨hc,hf⟩:=Jy hS;clear hS;go_simp;(try go_bits);exact⟨rfl,Over.refl _⟩)) ?_
   simp only[Act.put,Qc,jL,jM];refine qi (i:=6) (v:=_) (by assumption) (by simp only[qX,qY,Qb];rfl) Kr Kr Kr (by exact λ_ _ _ h=>h) Kr Kr (λwx hS=>by(obtain⟨hc,hf⟩:=Jy hS;clear hS;go_simp;(try go_bits);exact⟨rfl,Over.refl _⟩)) ?_
   simp only[Act.put,Qc,jL,jM];refine qi (i:=7) (v:=_) (by assumption) (by simp only[qX,qY,Qb];rfl) Kr Kr Kr (by exact λ_ _ _ h=>h) Kr Kr (λwx hS=>by(go_simp;refine(wn _ _ _).mono ?_;rintro e w1 ⟨rfl,rfl⟩;exact⟨rfl,Over.refl _⟩)) ?_;simp only[Act.put,Qc,jL,jM];refine qi (i:=8) (v:=_) (by assumption) (by simp only[qX,qY,Qb];rfl) Kr Kr Kr (by exact λ_ _ _ h=>h) Kr Kr (λwx hS=>by(obtain⟨hc,hf⟩:=Jy hS;clear hS;go_simp;(try go_bits);exact⟨rfl,Over.refl _⟩)) ?_
   simp only[Act.put,Qc,jL,jM];refine qi (i:=9) (v:=_) (by assumption) (by simp only[qX,qY,Qb];rfl) Kr Kr Kr (by exact λ_ _ _ h=>h) Kr Kr (λwx hS=>by(obtain⟨hc,hf⟩:=Jy hS;clear hS;go_simp;(try go_bits);exact⟨rfl,Over.refl _⟩)) ?_
   simp only[Act.put,Qc,jL,jM];refine qi (i:=10) (v:=_) (by assumption) (by simp only[qX,qY,Qb];rfl) Kr Kr Kr (by exact λ_ _ _ h=>h) Kr Kr (λwx hS=>by(obtain⟨hc,hf⟩:=Jy hS;clear hS;go_simp;(try go_bits);exact⟨rfl,Over.refl _⟩)) ?_
   simp only[Act.put,Qc,jL,jM];refine qi (i:=11) (v:=_) (by assumption) (by simp only[qX,qY,Qb];rfl) Kr Kr Kr (by exact λ_ _ _ h=>h) Kr Kr (λwx hS=>by(obtain⟨hc,hf⟩:=Jy hS;clear hS;go_simp;(try go_bits);exact⟨rfl,Over.refl _⟩)) ?_
   simp only[Act.put,Qc,jL,jM];refine qi (i:=12) (v:=_) (by assumption) (by simp only[qX,qY,Qb];rfl) Kr Kr Kr (by exact λ_ _ _ h=>h) Kr Kr (λwx hS=>by(obtain⟨hc,hf⟩:=Jy hS;clear hS;go_simp;(try go_bits);exact⟨rfl,Over.refl _⟩)) ?_
   simp only[Act.put,Qc,jL,jM];refine qi (i:=13) (v:=_) (by assumption) (by simp only[qX,qY,Qb];rfl) Kr Kr Kr (by exact λ_ _ _ h=>h) Kr Kr (λwx hS=>by(obtain⟨hc,hf⟩:=Jy hS;clear hS;go_simp;(try go_bits);exact⟨rfl,Over.refl _⟩)) ?_
   simp only[Act.put,Qc,jL,jM];refine qi (i:=14) (v:=_) (by assumption) (by simp only[qX,qY,Qb];rfl) Kr Kr Kr (by exact λ_ _ _ h=>h) Kr Kr (λwx hS=>by(obtain⟨hc,hf⟩:=Jy hS;clear hS;go_simp;(try go_bits);exact⟨rfl,Over.refl _⟩)) ?_
   simp only[Act.put,Qc,jL,jM];refine qi (i:=15) (v:=_) (by assumption) (by simp only[qX,qY,Qb];rfl) Kr Kr Kr (by exact λ_ _ _ h=>h) Kr Kr (λwx hS=>by(go_simp;refine(wn _ _ _).mono ?_;rintro e w1 ⟨rfl,rfl⟩;exact⟨rfl,Over.refl _⟩)) ?_;simp only[Act.put,Qc,jL,jM];refine qi (i:=16) (v:=_) (by assumption) (by simp only[qX,qY,Qb];rfl) Kr Kr Kr (by exact λ_ _ _ h=>h) Kr Kr (λwx hS=>by(obtain⟨hc,hf⟩:=Jy hS;clear hS;go_simp;(try go_bits);exact⟨rfl,Over.refl _⟩)) ?_
   simp only[Act.put,Qc,jL,jM];refine MQ (by assumption) (by simp only[qX,qY,Qb];rfl) Kr Kr Kr (λw7 h7 _=>?_);obtain⟨hc,hf⟩:=Jy h7;go_step;have hhi9:=(Hhi.out.over h7).set_ (max (X0 xs k) (px xs k)) (max (X1 xs k) (py xs k))
   have hlo9:=((Hlo.out.over h7).far (p:=⟨w.heap.size+1+1+1,0,none⟩) (by simp) (.int .i64 (max (X0 xs k) (px xs k)))).far (p:=⟨w.heap.size+1+1+1,1,none⟩) (by simp) (.int .i64 (max (X1 xs k) (py xs k)));have hb9:=Over.set_ (Over.set_ (Hb.out.trans h7) (p:=⟨w.heap.size+1+1+1,0,none⟩) (by simp[LY]) (.int .i64 (max (X0 xs k) (px xs k)))) (p:=⟨w.heap.size+1+1+1,1,none⟩) (by simp[LY]) (.int .i64 (max (X1 xs k) (py xs k)))
   generalize (w7.setCell ⟨w.heap.size+1+1+1,0,none⟩ (.int .i64 (max (X0 xs k) (px xs k)))).setCell ⟨w.heap.size+1+1+1,1,none⟩ (.int .i64 (max (X1 xs k) (py xs k)))=w9 at hlo9 hhi9 hb9⊢;have H9:=Lib.hid (And.intro hlo9 (And.intro hhi9 hb9))
   clear hlo9 hhi9 hb9 hc hf h7 hBW hc1 hc2 z1 z2 c1 c2 c3 c4 f1 f2 f3 f4 Hlo Hhi Hb hbB;go_wp2
   go_roundw
   case rel=>
    obtain⟨s1,s2,s3,s4⟩:=Hs.out;exact⟨k+1,by omega,by omega,by go_num,H9.out.2.2,by rw[s1,s2];exact H9.out.1,by rw[s3,s4];exact H9.out.2.1⟩
   case measure=>simp[intOf];omega
  .have hkn:k=n:=by omega
   rw[hkn] at hlo hhi;clear hkn;have hr1:Box2 wr w.heap.size 0 0:=((Box2.new w 0 0 _ _ rfl).over (Over.alloc _ _)).over hb
   have hr2:Box2 wr (w.heap.size+1) 0 0:=(Box2.new (w.alloc _) 0 0 _ _ (by simp)).over hb;have Hr1:=Lib.hid hr1
   have Hr2:=Lib.hid hr2;obtain⟨y1,d1,d2,g1,g2⟩:=hr1;obtain⟨y2,d3,d4,g3,g4⟩:=hr2;obtain⟨z1,c1,c2,f1,f2⟩:=hlo;obtain⟨z2,c3,c4,f3,f4⟩:=hhi;have HO:=Lib.hid hO
   clear hO hb;go_wp2
   go_region
   have hO:=HO.out;go_wp2;exact bodyPost_ret (v:=.tuple #[Wh (X7 xs n) (X8 xs n),Wh (X0 xs n) (X1 xs n)]) (by simp[results,Tryz.results22,go_sem, *]) rfl ⟨rfl,ov9⟩
set_option maxHeartbeats 2000000 in
set_option maxRecDepth 100000 in
theorem Rj(A:Option Addr)(n c:Nat)(xs:List (Int×Int))(w:World)(h:Pts w A n xs)(hn:(n:Int)<=1048576)(h1:1<=n)(hcn:n<=c):
  Calls Tryz.prog 131 #[.slice A n c] w λe w'=>e=.returned (.tuple #[Wh (X7 xs n) (X8 xs n),Wh (X0 xs n) (X1 xs n)])/\Over w w':=by
 obtain⟨b0,o0,rfl,hb0,hp1,hp2⟩:=h.at_ (k:=0) Om;simp only[Nat.zero_mul,jnC] at hp1 hp2;have hb1:b0<w.heap.size+1:=by omega
 have hb2:b0<w.heap.size+1+1:=by omega
 have hb3:b0<w.heap.size+1+1+1:=by omega
 have Hp:=Lib.hid h;have B1:=Lib.hid (Oz xs)
 clear h;have h0n:0<n:=by omega
 have h1c:1<=c:=by omega
 by_cases hcc:c=1
 .have hn1:n=1:=by omega
  clear hcn h1c h0n h1 hn;subst hn1;subst hcc
  go_enter Tryz.func131,Tryz.ntmps131
  go_wp2;refine KB (B:=ob _) (Over.refl _) Kr (by simp only[jmJ,jlS,jl5,Nat.reduceAdd];rfl) (λhBW=>?_);refine i8 0 ?_;refine i8 1 ?_;refine i8 2 ?_;refine i8 3 ?_;refine i8 4 ?_;refine i8 5 ?_;refine MY (i:=6) (j:=7) (k:=8) (l:=9) (by assumption) (by simp only[qX,qY,Qb];rfl) (by simp only[qX,qY,Qb];rfl) (by simp only[qX,qY,Qb];rfl) (by simp only[qX,qY,Qb];rfl) Dc (by rfl) (by rfl) (by rfl) (by rfl) (by rfl) (by rfl) Dc (by rfl) (by rfl) (by rfl) (by rfl) (by rfl) (by rfl) (λ_=>by(go_simp;rfl)) (λ_=>by(go_simp;rfl)) Kr Kr Kr Kr Kr (λ_ _=>by rfl) (λ_ _=>by rfl) (λ_ _=>by rfl) (λ_ _=>by rfl) Kr (by rfl) (by simp[Value.oneCell']) Kr (by rfl) (by simp[Value.oneCell']) ?_;intro w2 q1 q2 ho hq1 hq2 hne hl1 hl2 hh1 hh2 hBx;replace hBW:=hBx;clear hBx;simp only[Act.put,Qc,jL,jM];refine KA Kr (λw3 h3=>?_) _
  try clear hBW
  have hlo:=(Box2.row hh1 hl1).over h3;have hhi:=(Box2.row hh2 hl2).over h3
  have hO3:Over (LY w) w3:=ho.trans h3;have hq1':w.heap.size+1+1<=q1:=by simpa using hq1
  have hq2':w.heap.size+1+1<=q2:=by simpa using hq2
  clear hh1 hh2 hl1 hl2 ho h3 hp1 hp2 hq1 hq2;have hz2:(LY w).heap.size=w.heap.size+1+1:=by simp[LY]
  go_wp2
  go_loopw [17] (λi wr=>i=.int .i64 0/\Over (LY w) wr/\Box2 wr q1 (X7 xs 1) (X8 xs 1)/\Box2 wr q2 (X0 xs 1) (X1 xs 1)) (λi _=>0)
  case atStart=>
   obtain⟨q1,q2,q3,q4⟩:=B1.out;exact⟨rfl,hO3,by rw[q1,q2];exact hlo,by rw[q3,q4];exact hhi⟩
  case round=>
   rename_i wr;clear hlo hhi hO3;obtain⟨rfl,hb,hlo,hhi⟩:=hrel;have hO:Over w wr:=(Over.alloc_ (Over.alloc _ _) _).trans hb
   have hr1:Box2 wr w.heap.size 0 0:=((Box2.new w 0 0 _ _ rfl).over (Over.alloc _ _)).over hb;have hr2:Box2 wr (w.heap.size+1) 0 0:=(Box2.new (w.alloc _) 0 0 _ _ (by simp)).over hb
   have d0:¬w.heap.size=q1:=by omega
   have d0':¬w.heap.size=q2:=by omega
   have e0:¬w.heap.size+1=q1:=by omega
   have e0':¬w.heap.size+1=q2:=by omega
   obtain⟨y1,d1,d2,g1,g2⟩:=hr1;obtain⟨y2,d3,d4,g3,g4⟩:=hr2;obtain⟨z1,c1,c2,f1,f2⟩:=hlo;obtain⟨z2,c3,c4,f3,f4⟩:=hhi;have HO:=Lib.hid hO
   clear hO hb;go_wp2
   go_region
   have hO:=HO.out;go_wp2;exact bodyPost_ret (v:=.tuple #[Wh (X7 xs 1) (X8 xs 1),Wh (X0 xs 1) (X1 xs 1)]) (by simp[results,Tryz.results131,go_sem, *]) rfl ⟨rfl,ov9⟩
 go_enter Tryz.func131,Tryz.ntmps131
 go_wp2;refine KB (B:=ob _) (Over.refl _) Kr (by simp only[jmJ,jlS,jl5,Nat.reduceAdd];rfl) (λhBW=>?_);refine i8 0 ?_;refine i8 1 ?_;refine i8 2 ?_;refine i8 3 ?_;refine i8 4 ?_;refine i8 5 ?_;refine MY (i:=6) (j:=7) (k:=8) (l:=9) (by assumption) (by simp only[qX,qY,Qb];rfl) (by simp only[qX,qY,Qb];rfl) (by simp only[qX,qY,Qb];rfl) (by simp only[qX,qY,Qb];rfl) Dc (by rfl) (by rfl) (by rfl) (by rfl) (by rfl) (by rfl) Dc (by rfl) (by rfl) (by rfl) (by rfl) (by rfl) (by rfl) (λ_=>by(go_simp;rfl)) (λ_=>by(go_simp;rfl)) Kr Kr Kr Kr Kr (λ_ _=>by rfl) (λ_ _=>by rfl) (λ_ _=>by rfl) (λ_ _=>by rfl) Kr (by rfl) (by simp[Value.oneCell']) Kr (by rfl) (by simp[Value.oneCell']) ?_;intro w2 q1 q2 ho hq1 hq2 hne hl1 hl2 hh1 hh2 hBx;replace hBW:=hBx;clear hBx;simp only[Act.put,Qc,jL,jM];refine KA Kr (λw3 h3=>?_) _
 try clear hBW
 have hlo:=(Box2.row hh1 hl1).over h3;have hhi:=(Box2.row hh2 hl2).over h3
 have hO3:Over (LY w) w3:=ho.trans h3;have hq1':w.heap.size+1+1<=q1:=by simpa using hq1
 have hq2':w.heap.size+1+1<=q2:=by simpa using hq2
 clear hh1 hh2 hl1 hl2 ho h3 hp1 hp2 hq1 hq2;have hz2:(LY w).heap.size=w.heap.size+1+1:=by simp[LY]
 go_wp2
 go_loopw [17] (λi wr=>∃k:Nat,k<=n-1/\i=.int .i64 k/\Over (LY w) wr/\Box2 wr q1 (X7 xs (k+1)) (X8 xs (k+1))/\Box2 wr q2 (X0 xs (k+1)) (X1 xs (k+1))) (λi _=>n-(intOf i).toNat)
 case atStart=>
  obtain⟨q1,q2,q3,q4⟩:=B1.out;exact⟨0,by omega,rfl,hO3,by rw[q1,q2];exact hlo,by rw[q3,q4];exact hhi⟩
 case round=>
  rename_i wr;clear hlo hhi hO3;obtain⟨k,hk,rfl,hb,hlo,hhi⟩:=hrel;have hO:Over w wr:=(Over.alloc_ (Over.alloc _ _) _).trans hb
  by_cases hlt:k<n-1
  .obtain⟨b,o,e,hbB,hc1,hc2⟩:=(Hp.out.over hO).at_ (k:=k+1) Om;injection e with e
   injection e with e1 e2 _
   subst e1 e2;rw[show o0+(k+1)*2=o0+2+k*2 by omega] at hc1 hc2;have Hs:=Lib.hid (GL xs (k:=k+1) Om)
   have Hlo:=Lib.hid hlo;have Hhi:=Lib.hid hhi
   have Hb:=Lib.hid hb;obtain⟨z1,c1,c2,f1,f2⟩:=hlo;obtain⟨z2,c3,c4,f3,f4⟩:=hhi;clear hb hO;go_wp2
   go_roundw
   case rel=>
    obtain⟨s1,s2,s3,s4⟩:=Hs.out;rw[<-je4,<-je4,<-jeW,<-jeW];refine⟨k+1,by omega,by go_num,?_,?_,?_⟩
    .exact Over.alloc_ (Over.set_ (Over.set_ (Over.set_ (Over.set_ Hb.out (by simp;omega) _) (by simp;omega) _) (by simp;omega) _) (by simp;omega) _) _
    .rw[s1,s2];exact(((Hlo.out.set_ _ _).far (Ne.symm hne) _).far (Ne.symm hne) _).over (Over.alloc _ _)
    .rw[s3,s4];exact(((Hhi.out.far hne _).far hne _).set_ _ _).over (Over.alloc _ _)
   case measure=>simp[intOf];omega
  .have hkn:k+1=n:=by omega
   rw[hkn] at hlo hhi;clear hkn;have hr1:Box2 wr w.heap.size 0 0:=((Box2.new w 0 0 _ _ rfl).over (Over.alloc _ _)).over hb
   have hr2:Box2 wr (w.heap.size+1) 0 0:=(Box2.new (w.alloc _) 0 0 _ _ (by simp)).over hb;have d0:¬w.heap.size=q1:=by omega
   have d0':¬w.heap.size=q2:=by omega
   have e0:¬w.heap.size+1=q1:=by omega
   have e0':¬w.heap.size+1=q2:=by omega
   obtain⟨y1,d1,d2,g1,g2⟩:=hr1;obtain⟨y2,d3,d4,g3,g4⟩:=hr2;obtain⟨z1,c1,c2,f1,f2⟩:=hlo;obtain⟨z2,c3,c4,f3,f4⟩:=hhi;have HO:=Lib.hid hO
   clear hO hb;go_wp2
   go_region
   have hO:=HO.out;go_wp2;exact bodyPost_ret (v:=.tuple #[Wh (X7 xs n) (X8 xs n),Wh (X0 xs n) (X1 xs n)]) (by simp[results,Tryz.results131,go_sem, *]) rfl ⟨rfl,ov9⟩
end
section
set_option maxRecDepth 100000
set_option maxHeartbeats 4000000
def Tc(ax ay bx b_y px_ py_:Int):Bool:=(kU ax ay bx b_y px_ py_==0) &&decide (min ax bx<=px_) &&decide (px_<=max ax bx) &&decide (min ay b_y<=py_) &&decide (py_<=max ay b_y)
abbrev Uo(x:Int):Prop:= -1048576<=x/\x<=1048576
theorem Yt(ax ay bx b_y px_ py_:Int)(w:World)(ha:Uo ax)(ha':Uo ay)(hb:Uo bx)(hb':Uo b_y)(hp:Uo px_)(hp':Uo py_):
  Calls Tryz.prog 75 #[Wh ax ay,Wh bx b_y,Wh px_ py_] w λe w'=>e=.returned (.bool (Tc ax ay bx b_y px_ py_))/\Over w w':=by
 refine Jm (m:=52) (Tryz.func75) J J (lb J) ?_;refine S3 ?_;refine aX (λb1=>?_);refine N1 ?_;refine aX (λb2=>?_);refine N1 ?_;refine aX (λb3=>?_);refine N7 ?_;refine a9 (jT K8 J J (λw h=>H1 _ _ _ _ _ _ w ha.1 ha.2 ha'.1 ha'.2 hb.1 hb.2 hb'.1 hb'.2 hp.1 hp.2 hp'.1 hp'.2)) ?_;refine S2 ?_;refine cV 12 (λg1=>?_) (λg1=>?_)
 .refine S9 ?_;refine o9 (jfE J J J) ?_;refine S8 ?_;refine cV 22 (λg2=>?_) (λg2=>?_)
  .refine S13 ?_;refine o9 (jfD J J J) ?_;refine S4 ?_;refine cV 32 (λg3=>?_) (λg3=>?_)
   .refine S9 ?_;refine o9 (jfE J J J) ?_;refine S8 ?_;refine cV 42 (λg4=>?_) (λg4=>?_)
    .refine S13 ?_;refine o9 (jfD J J J) ?_;refine S6 ?_;refine jK J (.tmp J) ?_;intro w' hs;exact⟨Q4 (by symm;simp[Tc];omega),hs.fin⟩
    .refine S12 ?_;refine jK J (.tmp J) ?_;intro w' hs;exact⟨Q4 (by symm;simp[Tc];omega),hs.fin⟩
   .refine S22 ?_;refine jK J (.tmp J) ?_;intro w' hs;exact⟨Q4 (by symm;simp[Tc];omega),hs.fin⟩
  .refine S32 ?_;refine jK J (.tmp J) ?_;intro w' hs;exact⟨Q4 (by symm;simp[Tc];omega),hs.fin⟩
 .refine S42 ?_;refine jK J (.tmp J) ?_;intro w' hs;exact⟨Q4 (by symm;simp[Tc];omega),hs.fin⟩
theorem CN(ax ay bx b_y px_ py_:Int)(w:World):
  Calls Tryz.prog 120 #[Wh ax ay,Wh bx b_y,Wh px_ py_] w λe w'=>e=.returned (.bool (decide (min ax bx<=px_) &&decide (px_<=max ax bx) &&decide (min ay b_y<=py_) &&decide (py_<=max ay b_y)))/\Over w w':=by
 refine Jm (m:=45) (Tryz.func120) J J (lb J) ?_;refine S3 ?_;refine aX (λb1=>?_);refine N1 ?_;refine aX (λb2=>?_);refine N1 ?_;refine aX (λb3=>?_);refine N4 ?_;refine JY 39 ?_;refine dK 0 ?_;refine dK 1 ?_;refine dK 2 ?_;refine dK 3 ?_;refine dZ 4 J (jT Vk J J (λw h=>Calls.still (wo _ _ w))) ?_;refine dK 5 ?_;refine dK 6 ?_;refine dK 7 ?_;refine dK 8 ?_;refine cV 15 (λg1=>?_) (λg1=>?_)
 .refine eK 9 ?_;refine eK 10 ?_;refine eK 11 ?_;refine eK 12 ?_;refine eK 13 ?_;refine eK 14 ?_;refine eZ 15 J (jT Vj J J (λw h=>Calls.still (wn _ _ w))) ?_;refine eK 16 ?_;refine dK 17 ?_;refine dK 18 ?_;refine cV 25 (λg2=>?_) (λg2=>?_)
  .refine eK 19 ?_;refine eK 20 ?_;refine eK 21 ?_;refine eK 22 ?_;refine eZ 23 J (jT Vk J J (λw h=>Calls.still (wo _ _ w))) ?_;refine eK 24 ?_;refine eK 25 ?_;refine eK 26 ?_;refine dK 27 ?_;refine dK 28 ?_;refine cV 35 (λg3=>?_) (λg3=>?_)
   .refine eK 29 ?_;refine eK 30 ?_;refine eK 31 ?_;refine eK 32 ?_;refine eK 33 ?_;refine eK 34 ?_;refine eZ 35 J (jT Vj J J (λw h=>Calls.still (wn _ _ w))) ?_;refine eK 36 ?_;refine dK 37 ?_;refine dK 38 ?_;refine JK Kr ?_;refine S2 ?_;refine jK J (.tmp J) ?_;intro w' hs;exact⟨Q4 (by symm;simp;omega),hs.fin⟩
   .refine fK 29 ?_;refine fK 30 ?_;refine fK 31 ?_;refine fK 32 ?_;refine fK 33 ?_;refine fK 34 ?_;refine fK 35 ?_;refine fK 36 ?_;refine dK 37 ?_;refine dK 38 ?_;refine JK Kr ?_;refine S2 ?_;refine jK J (.tmp J) ?_;intro w' hs;exact⟨Q4 (by symm;simp;omega),hs.fin⟩
  .refine fK 19 ?_;refine fK 20 ?_;refine fK 21 ?_;refine fK 22 ?_;refine fK 23 ?_;refine fK 24 ?_;refine fK 25 ?_;refine fK 26 ?_;refine dK 27 ?_;refine dK 28 ?_;refine fK 29 ?_;refine fK 30 ?_;refine fK 31 ?_;refine fK 32 ?_;refine fK 33 ?_;refine fK 34 ?_;refine fK 35 ?_;refine fK 36 ?_;refine dK 37 ?_;refine dK 38 ?_;refine JK Kr ?_;refine S2 ?_;refine jK J (.tmp J) ?_;intro w' hs;exact⟨Q4 (by symm;simp;omega),hs.fin⟩
 .refine fK 9 ?_;refine fK 10 ?_;refine fK 11 ?_;refine fK 12 ?_;refine fK 13 ?_;refine fK 14 ?_;refine fK 15 ?_;refine fK 16 ?_;refine dK 17 ?_;refine dK 18 ?_;refine fK 19 ?_;refine fK 20 ?_;refine fK 21 ?_;refine fK 22 ?_;refine fK 23 ?_;refine fK 24 ?_;refine fK 25 ?_;refine fK 26 ?_;refine dK 27 ?_;refine dK 28 ?_;refine fK 29 ?_;refine fK 30 ?_;refine fK 31 ?_;refine fK 32 ?_;refine fK 33 ?_;refine fK 34 ?_;refine fK 35 ?_;refine fK 36 ?_;refine dK 37 ?_;refine dK 38 ?_;refine JK Kr ?_;refine S2 ?_;refine jK J (.tmp J) ?_;intro w' hs;exact⟨Q4 (by symm;simp;omega),hs.fin⟩
theorem jcg(ax ay bx b_y px_ py_:Int)(w:World)(ha:Uo ax)(ha':Uo ay)(hb:Uo bx)(hb':Uo b_y)(hp:Uo px_)(hp':Uo py_):
  Calls Tryz.prog 102 #[Wh ax ay,Wh bx b_y,Wh px_ py_] w λe w'=>e=.returned (.bool (Tc ax ay bx b_y px_ py_))/\Over w w':=by
 refine Jm (m:=18) (Tryz.func102) J J (lb J) ?_;refine S3 ?_;refine aX (λb1=>?_);refine N1 ?_;refine aX (λb2=>?_);refine N1 ?_;refine aX (λb3=>?_);refine N7 ?_;refine a9 (jT QV J J (λw h=>yR _ _ _ _ _ _ w ha.1 ha.2 ha'.1 ha'.2 hb.1 hb.2 hb'.1 hb'.2 hp.1 hp.2 hp'.1 hp'.2)) ?_;refine S2 ?_;refine cV 12 (λg1=>?_) (λg1=>?_)
 .refine S7 ?_;refine o9 (jT BW J J (λw h=>CN _ _ _ _ _ _ w)) ?_;refine S4 ?_;refine jK J (.tmp J) ?_;intro w' hs;exact⟨Q4 (by simp[Tc,g1,Bool.and_assoc]),hs.fin⟩
 .refine S8 ?_;refine jK J (.tmp J) ?_;intro w' hs;exact⟨Q4 (by symm;simp[Tc];omega),hs.fin⟩
end
section
variable{A:Option Addr}{rs:List jI}{w w':World}{xs:List (Int×Int)}
theorem jib{xs ys:jI}(h:xs.length=ys.length)(hp:∀j,j<xs.length->px xs j=px ys j/\py xs j=py ys j):xs=ys:=by
 refine jm5 h λj h1 h2=>?_
 rw[YB h1,YB h2,(hp j h1).1,(hp j h1).2]
theorem jcP{ss:List jI}(h:rs.length=ss.length)(hp:∀j,j<rs.length->rg rs j=rg ss j):rs=ss:=by
 refine jm5 h λj h1 h2=>?_
 rw[wb h1,wb h2,hp j h1]
set_option maxHeartbeats 1000000 in
set_option maxRecDepth 100000 in
theorem My(A B:Option Addr)(n m c d:Nat)(xs ys:jI)(w:World)(h:Pts w A n xs)(h':Pts w B m ys)(hn:(n:Int)<=1048576)(hm:(m:Int)<=1048576):
  Calls Tryz.prog 86 #[.slice A n c,.slice B m d] w λe w'=>e=.returned (.bool (decide (xs=ys)))/\Over w w':=by
 have hl:=Lib.hid h.1;have hl':=Lib.hid h'.1
 by_cases hnm:n=m
 .subst hnm;have hq:((n:Int) !=(n:Int))=false:=by simp
  go_enter Tryz.func86,Tryz.ntmps86
  go_wp2
  go_loopw [5] (λi wr=>∃k:Nat,k<=n/\i=.int .i64 k/\Over w wr/\Hid (∀j,j<k->px xs j=px ys j/\py xs j=py ys j)) (λi _=>n-(intOf i).toNat)
  case atStart=>exact⟨0,jlN _,rfl,Over.refl _,λj hj=>absurd hj Om⟩
  case round=>
   rename_i wr;obtain⟨k,hk,rfl,hb,hall⟩:=hrel;by_cases hlt:k<n
   .obtain⟨b,o,rfl,hbB,hc1,hc2⟩:=(h.over hb).at_ hlt;obtain⟨b',o',rfl,hbB',hc1',hc2'⟩:=(h'.over hb).at_ hlt;have Hb:=Lib.hid hb
    have hs:Hid (px xs k=px ys k/\py xs k=py ys k->∀j,j<k+1->px xs j=px ys j/\py xs j=py ys j):=by
     intro h j hj;by_cases hjk:j=k
     .subst hjk;exact h
     .exact hall.out j Om
    have hd:Hid (¬(px xs k=px ys k/\py xs k=py ys k)->decide (xs=ys)=false):=λh=>decide_eq_false (λe=>h (by rw[e];exact⟨rfl,rfl⟩))
    clear h h' hb hall;generalize px xs k=x at hc1 hs hd;generalize py xs k=y at hc2 hs hd;generalize px ys k=x' at hc1' hs hd;generalize py ys k=y' at hc2' hs hd;have key:(x=x'/\y=y')\/(¬x=x')\/(x=x'/\¬y=y'):=by omega
    rcases key with⟨rfl,rfl⟩|hne|⟨rfl,hne⟩
    .have hq2:(x==x)=true:=by simp
     have hq3:(y==y)=true:=by simp
     have hs2:=Lib.hid (hs.out ⟨rfl,rfl⟩);clear hs;go_wp2;refine KB (B:=ob _) (Over.refl _) Kr (by simp only[jmJ,jlS,jl5,Nat.reduceAdd];rfl) (λhBW=>?_);refine i8 0 ?_;refine i8 1 ?_;refine i8 2 ?_;refine i8 3 ?_;refine i8 4 ?_;refine i8 5 ?_;refine i8 6 ?_;refine i8 7 ?_;refine i8 8 ?_;refine KA Kr (λw2 h2=>?_) _
     try clear hBW
     go_wp2
     go_roundw
     case rel=>exact⟨k+1,by omega,by go_num,Hb.out.trans h2,hs2.out⟩
     case measure=>simp[intOf];omega
    all_goals
     have hq:=Lib.hid (hd.out Om);go_wp2;refine KB (B:=ob _) (Over.refl _) Kr (by simp only[jmJ,jlS,jl5,Nat.reduceAdd];rfl) (λhBW=>?_);refine i8 0 ?_;refine i8 1 ?_;refine i8 2 ?_;refine i8 3 ?_;refine i8 4 ?_;refine i8 5 ?_;refine i8 6 ?_;refine i8 7 ?_;refine i8 8 ?_;refine KA Kr (λw2 h2=>?_) _
     try clear hBW
     go_wp2;go_ret;exact⟨by rw[hq.out];rfl,Hb.out.trans h2⟩
   .have hkn:k=n:=by omega
    have hq:Hid (decide (xs=ys)=true):=decide_eq_true (jib (by rw[hl.out,hl'.out]) (λj hj=>hall.out j (by rw[hl.out] at hj;omega)));clear h h' hall hl hl';go_wp2;go_ret;exact⟨by rw[hq.out];rfl,hb⟩
 .have hq:((n:Int) !=(m:Int))=true:=by simp;omega
  have hv:Hid (decide (xs=ys)=false):=decide_eq_false (λe=>hnm (by rw[<-hl.out,<-hl'.out,e]));clear h h' hl hl'
  go_enter Tryz.func86,Tryz.ntmps86
  go_wp2;go_ret;exact⟨by rw[hv.out];rfl,ov9⟩
theorem XR{b o:Nat}(h:w'.heap[b]? =w.heap[b]?):w'.cell? ⟨b,o,none⟩=w.cell? ⟨b,o,none⟩:=by
 simp only[World.cell?,h]
theorem Pts.agree{n:Nat}(h:Pts w A n xs)(hz:w.heap.size<=w'.heap.size)(ha:∀p,A=some p->w'.heap[p.block]? =w.heap[p.block]?):Pts w' A n xs:=by
 refine⟨h.1,λhn=>?_⟩;obtain⟨b,o,rfl,hlt,hc⟩:=h.2 hn;have hb:=ha _ rfl
 refine⟨b,o,J,by omega,λk hk=>?_⟩;rw[XR hb,XR hb];exact hc k hk
theorem OwnR.agree{B:Nat}{g n:Nat}(h:OwnR B w g n rs)(hz:w.heap.size<=w'.heap.size)(ha:∀b,B<=b->b<w.heap.size->w'.heap[b]? =w.heap[b]?):OwnR B w' g n rs:=by
 have hB:=h.1;have hg:=ha g h.1 h.2.2.1.lt
 refine⟨h.1,h.2.1,?_,λk hk=>?_⟩
 .obtain⟨cs,hs,hh⟩:=h.2.2.1;exact⟨cs,hs,hg.trans hh⟩
 .obtain⟨gk,h1,h2,h3,h4⟩:=h.2.2.2 k hk;have hgk:=ha gk h1 h4.1.lt
  refine⟨gk,h1,h2,(XR hg).trans h3,?_,h4.2.agree hz λp hp=>?_⟩
  .obtain⟨cs,hs,hh⟩:=h4.1;exact⟨cs,hs,hgk.trans hh⟩
  .injection hp with hp
   subst hp;exact hgk
def Res.clo(lo hi:Nat)(P0:World->Prop):Res where
 F b:=lo<=b/\b<hi
 P w:=hi<=w.heap.size/\∀w',hi<=w'.heap.size->(∀b,lo<=b->b<hi->w'.heap[b]? =w.heap[b]?)->P0 w'
 low w h b hb:=jlU hb.2 h.1
 B:=0
 dep w w' h hz hb:=⟨jmC h.1 hz,λw'' h2 h3=>h.2 w'' h2 λb h4 h5=>(h3 b h4 h5).trans (hb b (jlU h5 h.1) (.inr ⟨h4,h5⟩))⟩
section
variable{w:World}{w0:Bs}{Rs:List Res}
end
end
end Go.Proofs.YtjbahemkhphndaaGreat
