import Derived.Test.YtpncbbcmoiiipaaML2
import Derived.Test.YtpncbbcmoiiipaaMLegs
import Derived.Test.YtpncbbcmoiiipaaMReg
set_option linter.unusedVariables false
set_option linter.unusedSimpArgs false
namespace Go.Proofs.Ytpncbbcmoiiipaa
open Go Go.RowKit
theorem vh {xs:List (Int×Int)} (h:qd xs=true) :1≤xs.length∧xs.length≤400∧vu xs=true:=by
 simp [qd,wB] at h
 exact⟨by omega,by omega,h.2⟩
abbrev jx:=List (Int×Int)
def rg (rs:List jx) (k:Nat) :jx:=rs.getD k []
theorem Ku {rs:List jx} {k:Nat} (h:k<rs.length) :rs[k] =rg rs k:=by simp [rg,List.getD,List.getElem?_eq_getElem h]
def Rings (w:World) (A:Option Addr) (n:Nat) (rs:List jx) :Prop:=
 rs.length=n∧(0<n→∃b o,A=some ⟨b,o,none⟩∧b<w.heap.size∧∀k,k<n→∃Ak ck,w.cell? ⟨b,o+k,none⟩ =some (.slice Ak (rg rs k).length ck)∧Pts w Ak (rg rs k).length (rg rs k)∧((rg rs k).length:Int)≤9223372036854775807)
theorem Rings.over {w w':World} {A:Option Addr} {n:Nat} {rs:List jx} (h:Rings w A n rs) (hb:Over w w') :Rings w' A n rs:=by
 refine⟨h.1,fun hn=> ?_⟩
 obtain ⟨b,o,hA,hlt,hc⟩ :=h.2 hn
 refine⟨b,o,hA,DS hlt hb.size,fun k hk=> ?_⟩
 obtain ⟨Ak,ck,h1,h2,h3⟩ :=hc k hk
 exact⟨Ak,ck,((jD hb).1 b _ hlt).trans h1,h2.over hb,h3⟩
theorem Rings.at_ {w:World} {A:Option Addr} {n k:Nat} {rs:List jx} (h:Rings w A n rs) (hk:k<n) :
  ∃b o Ak ck,A=some ⟨b,o,none⟩∧b<w.heap.size∧w.cell? ⟨b,o+k,none⟩ =some (.slice Ak (rg rs k).length ck)∧Pts w Ak (rg rs k).length (rg rs k)∧((rg rs k).length:Int)≤9223372036854775807:=by
 obtain ⟨b,o,hA,hb,hc⟩ :=h.2 Om
 obtain ⟨Ak,ck,h1,h2,h3⟩ :=hc k hk
 exact⟨b,o,Ak,ck,hA,hb,h1,h2,h3⟩
def OwnR (B:Nat) (w:World) (g n:Nat) (rs:List jx) :Prop:=
 B≤g∧rs.length=n∧Blk w g 38 n∧∀k,k<n→∃gk,B≤gk∧gk≠g∧w.cell? ⟨g,k,none⟩ =some (.slice (some ⟨gk,0,none⟩) (rg rs k).length (rg rs k).length)∧Own w gk (rg rs k).length (rg rs k)
def FillR (B:Nat) (w:World) (g k:Nat) (rs:List jx) :Prop:=
 ∀j,j<k→∃gk,B≤gk∧gk≠g∧w.cell? ⟨g,j,none⟩ =some (.slice (some ⟨gk,0,none⟩) (rg rs j).length (rg rs j).length)∧Own w gk (rg rs j).length (rg rs j)
theorem FillR.over {B:Nat} {w w':World} {g k:Nat} {rs:List jx} (h:FillR B w g k rs) (hg:g<w.heap.size) (ho:Over w w') :FillR B w' g k rs:=by
 intro j hj
 obtain ⟨gk,h1,h2,h3,h4⟩ :=h j hj
 exact⟨gk,h1,h2,((jD ho).1 g _ hg).trans h3,h4.over ho⟩
theorem FillR.step {B:Nat} {w:World} {g k m T gk:Nat} {rs:List jx} (h:FillR B w g k rs) (hb:Blk w g T m) (hk:k<m) (h1:B≤gk) (h2:gk≠g) (ho:Own w gk (rg rs k).length (rg rs k)) :
  FillR B (w.setCell ⟨g,k,none⟩ (.slice (some ⟨gk,0,none⟩) (rg rs k).length (rg rs k).length)) g (k+1) rs:=by
 obtain ⟨u,hu⟩ :=hb.cell hk
 intro j hj
 by_cases hjk:j=k
 ·subst hjk
  exact⟨gk,h1,h2,World.cell?_setCell_same _ _ _ hu,ho.far (Ne.symm h2) _⟩
 ·obtain ⟨gj,e1,e2,e3,e4⟩ :=h j Om
  refine⟨gj,e1,e2,?_,e4.far (Ne.symm e2) _⟩
  rw [World.cell?_setCell_other _ _ _ _ (by simp<;>omega)]
  exact e3
theorem FillR.own {B:Nat} {w:World} {g n:Nat} {rs:List jx} (h:FillR B w g n rs) (hg:B≤g) (hb:Blk w g 38 n) (hn:rs.length=n) :OwnR B w g n rs:=⟨hg,hn,hb,h⟩
theorem OwnR.over {B:Nat} {w w':World} {g n:Nat} {rs:List jx} (h:OwnR B w g n rs) (ho:Over w w') :OwnR B w' g n rs:=
 ⟨h.1,h.2.1,h.2.2.1.over ho,FillR.over h.2.2.2 h.2.2.1.lt ho⟩
theorem Blk.far {w:World} {g T m:Nat} (h:Blk w g T m) {p:Addr} (hp:p.block≠g) (u:Value) :Blk (w.setCell p u) g T m:=by
 obtain ⟨cs,hs,hh⟩ :=h
 exact⟨cs,hs,(Below.heap_setCell w p u g (Ne.symm hp)).trans hh⟩
theorem OwnR.far {B:Nat} {w:World} {g n:Nat} {rs:List jx} (h:OwnR B w g n rs) {p:Addr} (hp:p.block<B) (u:Value) :OwnR B (w.setCell p u) g n rs:=by
 have hg:=h.1
 refine⟨hg,h.2.1,h.2.2.1.far Om u,fun k hk=> ?_⟩
 obtain ⟨gk,h1,h2,h3,h4⟩ :=h.2.2.2 k hk
 refine⟨gk,h1,h2,?_,h4.far Om u⟩
 rw [World.cell?_setCell_other _ _ _ _ (fun e=>by rw [e] at hp;simp at hp;omega)]
 exact h3
theorem OwnR.low {B B':Nat} {w:World} {g n:Nat} {rs:List jx} (h:OwnR B w g n rs) (hB:B'≤B) :OwnR B' w g n rs:=by
 refine⟨by have:=h.1;omega,h.2.1,h.2.2.1,fun k hk=> ?_⟩
 obtain ⟨gk,h1,h2⟩ :=h.2.2.2 k hk
 exact⟨gk,by omega,h2⟩
theorem OwnR.rings {B:Nat} {w:World} {g n:Nat} {rs:List jx} (h:OwnR B w g n rs) (hm:∀k,k<n→((rg rs k).length:Int)≤1048576) :Rings w (some ⟨g,0,none⟩) n rs:=by
 refine⟨h.2.1,fun _=>⟨g,0,J,h.2.2.1.lt,fun k hk=> ?_⟩⟩
 obtain ⟨gk,h1,h2,h3,h4⟩ :=h.2.2.2 k hk
 rw [Fo]
 exact⟨_,_,h3,h4.2,by have:=hm k hk;omega⟩
def K0 (rs:List jx) :Nat→Nat
 | 0=>0
 | k+1=>K0 rs k+ (rg rs k).length
theorem Vk (rs:List jx) {k m:Nat} (h:k≤m) :K0 rs k≤K0 rs m:=by
 induction m with
 | zero=>rw [Nat.le_zero.1 h];omega
 | succ m ih=>
  rcases FI k (m+1) with h' | h'
  ·have:=ih Om;simp only [K0];omega
  ·rw [show k=m+1 by omega];omega
def Qq (rs:List jx) :Nat:=rs.length+K0 rs rs.length
theorem kN (rs:List jx) {k:Nat} (h:k<rs.length) : (rg rs k).length≤Qq rs:=by
 have:=Vk rs (show k+1≤rs.length by omega)
 simp only [K0] at this
 unfold Qq
 omega
abbrev kP (A:Option Addr) (n c:Nat) :Value:= .agg #[.slice A n c]
section
variable {P:Program} {ops:Array Oper} {Q:Exit→Act→World→Prop} {md:Region.Mode} {B:Base}
end
theorem US (a b:Int) (w:World) :
  Calls Try.prog 86 #[.int .i64 a, .int .i64 b] w fun e w'=>e= .returned (.int .i64 (min a b))∧w=w':=by
 by_cases h1:a<b
 ·have hv:Hid (min a b=a) :=by unfold Hid;omega
  go_enter Try.func86,Try.ntmps86
  go_wp2
  go_ret
  exact⟨by rw [hv.out];rfl,rfl⟩
 ·have hv:Hid (min a b=b) :=by unfold Hid;omega
  go_enter Try.func86,Try.ntmps86
  go_wp2
  go_ret
  exact⟨by rw [hv.out];rfl,rfl⟩
def HY (xs:List (Int×Int)) :Nat→Int
 | 0=>px xs 0
 | k+1=>if k=0 then px xs 0 else min (HY xs k) (px xs k)
def HZ (xs:List (Int×Int)) :Nat→Int
 | 0=>py xs 0
 | k+1=>if k=0 then py xs 0 else min (HZ xs k) (py xs k)
def HE (xs:List (Int×Int)) :Nat→Int
 | 0=>px xs 0
 | k+1=>if k=0 then px xs 0 else max (HE xs k) (px xs k)
def HF (xs:List (Int×Int)) :Nat→Int
 | 0=>py xs 0
 | k+1=>if k=0 then py xs 0 else max (HF xs k) (py xs k)
theorem Hg (xs:List (Int×Int)) {k:Nat} (h:1≤k) :HY xs (k+1) =min (HY xs k) (px xs k)∧HZ xs (k+1) =min (HZ xs k) (py xs k)∧HE xs (k+1) =max (HE xs k) (px xs k)∧HF xs (k+1) =max (HF xs k) (py xs k) :=by
 have h0:¬k=0:=by omega
 simp only [HY,HZ,HE,HF,if_neg h0,and_self]
theorem LW (xs:List (Int×Int)) :HY xs 1=px xs 0∧HZ xs 1=py xs 0∧HE xs 1=px xs 0∧HF xs 1=py xs 0:=by
 simp [HY,HZ,HE,HF]
def Box2 (w:World) (b:Nat) (x y:Int) :Prop:=
 b<w.heap.size∧w.cell? ⟨b,0,none⟩ =some (.int .i64 x)∧w.cell? ⟨b,1,none⟩ =some (.int .i64 y)∧w.frozen? ⟨b,0,none⟩ =false∧w.frozen? ⟨b,1,none⟩ =false
theorem Box2.over {w w':World} {b:Nat} {x y:Int} (h:Box2 w b x y) (ho:Over w w') :Box2 w' b x y:=by
 obtain ⟨hc,hf⟩ :=jD ho
 obtain ⟨h0,h1,h2,h3,h4⟩ :=h
 exact⟨DS h0 ho.size,(hc _ _ h0).trans h1,(hc _ _ h0).trans h2,(hf _ _ h0).trans h3,(hf _ _ h0).trans h4⟩
theorem Kd (w:World) (p q:Addr) (u:Value) : (w.setCell p u).frozen? q=w.frozen? q:=World.frozen?_setCell w p q u
theorem Box2.far {w:World} {b:Nat} {x y:Int} (h:Box2 w b x y) {p:Addr} (hp:p.block≠b) (u:Value) :Box2 (w.setCell p u) b x y:=by
 obtain ⟨h0,h1,h2,h3,h4⟩ :=h
 refine⟨by simpa [World.setCell] using h0,?_,?_,(Kd ..).trans h3,(Kd ..).trans h4⟩
 ·rw [World.cell?_setCell_other _ _ _ _ (fun e=>hp (by rw [e]))];exact h1
 ·rw [World.cell?_setCell_other _ _ _ _ (fun e=>hp (by rw [e]))];exact h2
theorem Box2.set_ {w:World} {b:Nat} {x y:Int} (h:Box2 w b x y) (x' y':Int) :Box2 ((w.setCell ⟨b,0,none⟩ (.int .i64 x')).setCell ⟨b,1,none⟩ (.int .i64 y')) b x' y':=by
 obtain ⟨h0,h1,h2,h3,h4⟩ :=h
 have h2': (w.setCell ⟨b,0,none⟩ (.int .i64 x')).cell? ⟨b,1,none⟩ =some (.int .i64 y) :=by rw [World.cell?_setCell_other _ _ _ _ (by simp)];exact h2
 refine⟨by simpa [World.setCell] using h0,?_,World.cell?_setCell_same _ _ _ h2',(Kd ..).trans ((Kd ..).trans h3),(Kd ..).trans ((Kd ..).trans h4)⟩
 rw [World.cell?_setCell_other _ _ _ _ (by simp)]
 exact World.cell?_setCell_same _ _ _ h1
theorem Box2.new (w:World) (x y:Int) (T g:Nat) (hg:g=w.heap.size) :Box2 (w.alloc (.cells #[.int .i64 x, .int .i64 y] T)) g x y:=by
 subst hg
 have hh:=heap_alloc_new w (.cells #[.int .i64 x, .int .i64 y] T)
 refine⟨by simp,VC _ _ _ _,VC _ _ _ _,?_,?_⟩ <;> (unfold World.frozen?;rw [hh];rfl)
theorem Box2.row {w:World} {b:Nat} {x y:Int} {t:TypeId} (h:w.heap[b]? =some (.cells (Value.agg #[.int .i64 x, .int .i64 y]).cells t (0,0))) (hl:b<w.heap.size) :Box2 w b x y:=by
 obtain ⟨k1,k2,k3,k4⟩ :=Yz h
 exact⟨hl,k1,k2,k3,k4⟩
theorem H6 (a b:Int) :min a b=if b<a then b else a:=by split<;>omega
theorem H4 (a b:Int) :max a b=if a<b then b else a:=by split<;>omega
def Zv (w:World) :World:= (w.alloc (.cells #[.int .i64 0, .int .i64 0] 27)).alloc (.cells #[.int .i64 0, .int .i64 0] 27)
set_option maxHeartbeats 2000000 in
set_option maxRecDepth 100000 in
theorem YI (A:Option Addr) (n c:Nat) (xs:List (Int×Int)) (w:World) (h:Pts w A n xs) (hn: (n:Int)≤1048576) (h1:1≤n) (hcn:n≤c) :
  Calls Try.prog 57 #[.slice A n c] w fun e w'=>e= .returned (.tuple #[vS (HY xs n) (HZ xs n),vS (HE xs n) (HF xs n)])∧Over w w':=by
 obtain ⟨b0,o0,rfl,hb0,hp1,hp2⟩ :=h.at_ (k:=0) Om
 simp only [Nat.zero_mul,Nat.add_zero] at hp1 hp2
 have hb1:b0<w.heap.size+1:=by omega
 have hb2:b0<w.heap.size+1+1:=by omega
 have hb3:b0<w.heap.size+1+1+1:=by omega
 have Hp:=Lib.hid h
 have B1:=Lib.hid (LW xs)
 clear h
 have h0n:0<n:=by omega
 have h1c:1≤c:=by omega
 by_cases hcc:c=1
 ·have hn1:n=1:=by omega
  clear hcn h1c h0n h1 hn
  subst hn1
  subst hcc
  go_enter Try.func57,Try.ntmps57
  go_wp2
  refine Qc (B:=ob _) (Over.refl _) Kr (by simp only [Fz,DT,D8,Nat.reduceAdd];rfl) (fun hBW=> ?_);refine i8 0 ?_;refine i8 1 ?_;refine i8 2 ?_;refine i8 3 ?_;refine i8 4 ?_;refine i8 5 ?_;refine uM (i:=6) (j:=7) (k:=8) (l:=9) (by assumption) (by simp only [JZ,J0,J9];rfl) (by simp only [JZ,J0,J9];rfl) (by simp only [JZ,J0,J9];rfl) (by simp only [JZ,J0,J9];rfl) Dc (by rfl) (by rfl) (by rfl) (by rfl) (by rfl) (by rfl) Dc (by rfl) (by rfl) (by rfl) (by rfl) (by rfl) (by rfl) (fun _=>by(go_simp;rfl)) (fun _=>by(go_simp;rfl)) Kr Kr Kr Kr Kr (fun _ _=>by rfl) (fun _ _=>by rfl) (fun _ _=>by rfl) (fun _ _=>by rfl) Kr (by rfl) (by simp [Value.oneCell']) Kr (by rfl) (by simp [Value.oneCell']) ?_
  intro w2 q1 q2 ho hq1 hq2 hne hl1 hl2 hh1 hh2 hBx
  replace hBW:=hBx;clear hBx
  simp only [Act.put,qa,jP,jQ]
  refine Qb Kr (fun w3 h3=> ?_) _
  try clear hBW
  have hlo:= (Box2.row hh1 hl1).over h3
  have hhi:= (Box2.row hh2 hl2).over h3
  have hO3:Over (Zv w) w3:=ho.trans h3
  have hq1':w.heap.size+1+1≤q1:=by simpa using hq1
  have hq2':w.heap.size+1+1≤q2:=by simpa using hq2
  clear hh1 hh2 hl1 hl2 ho h3 hp1 hp2 hq1 hq2
  have hz2: (Zv w).heap.size=w.heap.size+1+1:=by simp [Zv]
  go_wp2
  go_loopw [17] (fun i wr=>i= .int .i64 0∧Over (Zv w) wr∧Box2 wr q1 (HY xs 1) (HZ xs 1)∧Box2 wr q2 (HE xs 1) (HF xs 1)) (fun i _=>0)
  case atStart=>
   obtain ⟨q1,q2,q3,q4⟩ :=B1.out
   exact⟨rfl,hO3,by rw [q1,q2];exact hlo,by rw [q3,q4];exact hhi⟩
  case round=>
   rename_i wr
   clear hlo hhi hO3
   obtain ⟨rfl,hb,hlo,hhi⟩ :=hrel
   have hO:Over w wr:= (Over.alloc_ (Over.alloc _ _) _).trans hb
   have hr1:Box2 wr w.heap.size 0 0:= ((Box2.new w 0 0 _ _ rfl).over (Over.alloc _ _)).over hb
   have hr2:Box2 wr (w.heap.size+1) 0 0:= (Box2.new (w.alloc _) 0 0 _ _ (by simp)).over hb
   have d0:¬w.heap.size=q1:=by omega
   have d0':¬w.heap.size=q2:=by omega
   have e0:¬w.heap.size+1=q1:=by omega
   have e0':¬w.heap.size+1=q2:=by omega
   obtain ⟨y1,d1,d2,g1,g2⟩ :=hr1
   obtain ⟨y2,d3,d4,g3,g4⟩ :=hr2
   obtain ⟨z1,c1,c2,f1,f2⟩ :=hlo
   obtain ⟨z2,c3,c4,f3,f4⟩ :=hhi
   have HO:=Lib.hid hO
   clear hO hb
   go_wp2
   go_region
   have hO:=HO.out
   go_wp2
   exact bodyPost_ret (v:= .tuple #[vS (HY xs 1) (HZ xs 1),vS (HE xs 1) (HF xs 1)]) (by simp [results,Try.results57,go_sem, *]) rfl ⟨rfl,DB⟩
 go_enter Try.func57,Try.ntmps57
 go_wp2
 refine Qc (B:=ob _) (Over.refl _) Kr (by simp only [Fz,DT,D8,Nat.reduceAdd];rfl) (fun hBW=> ?_);refine i8 0 ?_;refine i8 1 ?_;refine i8 2 ?_;refine i8 3 ?_;refine i8 4 ?_;refine i8 5 ?_;refine uM (i:=6) (j:=7) (k:=8) (l:=9) (by assumption) (by simp only [JZ,J0,J9];rfl) (by simp only [JZ,J0,J9];rfl) (by simp only [JZ,J0,J9];rfl) (by simp only [JZ,J0,J9];rfl) Dc (by rfl) (by rfl) (by rfl) (by rfl) (by rfl) (by rfl) Dc (by rfl) (by rfl) (by rfl) (by rfl) (by rfl) (by rfl) (fun _=>by(go_simp;rfl)) (fun _=>by(go_simp;rfl)) Kr Kr Kr Kr Kr (fun _ _=>by rfl) (fun _ _=>by rfl) (fun _ _=>by rfl) (fun _ _=>by rfl) Kr (by rfl) (by simp [Value.oneCell']) Kr (by rfl) (by simp [Value.oneCell']) ?_
 intro w2 q1 q2 ho hq1 hq2 hne hl1 hl2 hh1 hh2 hBx
 replace hBW:=hBx;clear hBx
 simp only [Act.put,qa,jP,jQ]
 refine Qb Kr (fun w3 h3=> ?_) _
 try clear hBW
 have hlo:= (Box2.row hh1 hl1).over h3
 have hhi:= (Box2.row hh2 hl2).over h3
 have hO3:Over (Zv w) w3:=ho.trans h3
 have hq1':w.heap.size+1+1≤q1:=by simpa using hq1
 have hq2':w.heap.size+1+1≤q2:=by simpa using hq2
 clear hh1 hh2 hl1 hl2 ho h3 hp1 hp2 hq1 hq2
 have hz2: (Zv w).heap.size=w.heap.size+1+1:=by simp [Zv]
 go_wp2
 go_loopw [17] (fun i wr=>∃k:Nat,k≤n- 1∧i= .int .i64 k∧Over (Zv w) wr∧Box2 wr q1 (HY xs (k+1)) (HZ xs (k+1))∧Box2 wr q2 (HE xs (k+1)) (HF xs (k+1))) (fun i _=>n- (intOf i).toNat)
 case atStart=>
  obtain ⟨q1,q2,q3,q4⟩ :=B1.out
  exact⟨0,by omega,rfl,hO3,by rw [q1,q2];exact hlo,by rw [q3,q4];exact hhi⟩
 case round=>
  rename_i wr
  clear hlo hhi hO3
  obtain ⟨k,hk,rfl,hb,hlo,hhi⟩ :=hrel
  have hO:Over w wr:= (Over.alloc_ (Over.alloc _ _) _).trans hb
  by_cases hlt:k<n- 1
  ·obtain ⟨b,o,e,hbB,hc1,hc2⟩ := (Hp.out.over hO).at_ (k:=k+1) Om
   injection e with e
   injection e with e1 e2 _
   subst e1 e2
   rw [show o0+ (k+1) *2=o0+2+k*2 by omega] at hc1 hc2
   have Hs:=Lib.hid (Hg xs (k:=k+1) Om)
   have Hlo:=Lib.hid hlo
   have Hhi:=Lib.hid hhi
   have Hb:=Lib.hid hb
   obtain ⟨z1,c1,c2,f1,f2⟩ :=hlo
   obtain ⟨z2,c3,c4,f3,f4⟩ :=hhi
   clear hb hO
   go_wp2
   go_roundw
   case rel=>
    obtain ⟨s1,s2,s3,s4⟩ :=Hs.out
    rw [←H6,←H6,←H4,←H4]
    refine⟨k+1,by omega,by go_num,?_,?_,?_⟩
    ·exact Over.alloc_ (Over.set_ (Over.set_ (Over.set_ (Over.set_ Hb.out (by simp;omega) _) (by simp;omega) _) (by simp;omega) _) (by simp;omega) _) _
    ·rw [s1,s2];exact(((Hlo.out.set_ _ _).far (Ne.symm hne) _).far (Ne.symm hne) _).over (Over.alloc _ _)
    ·rw [s3,s4];exact(((Hhi.out.far hne _).far hne _).set_ _ _).over (Over.alloc _ _)
   case measure=>simp [intOf];omega
  ·have hkn:k+1=n:=by omega
   rw [hkn] at hlo hhi
   clear hkn
   have hr1:Box2 wr w.heap.size 0 0:= ((Box2.new w 0 0 _ _ rfl).over (Over.alloc _ _)).over hb
   have hr2:Box2 wr (w.heap.size+1) 0 0:= (Box2.new (w.alloc _) 0 0 _ _ (by simp)).over hb
   have d0:¬w.heap.size=q1:=by omega
   have d0':¬w.heap.size=q2:=by omega
   have e0:¬w.heap.size+1=q1:=by omega
   have e0':¬w.heap.size+1=q2:=by omega
   obtain ⟨y1,d1,d2,g1,g2⟩ :=hr1
   obtain ⟨y2,d3,d4,g3,g4⟩ :=hr2
   obtain ⟨z1,c1,c2,f1,f2⟩ :=hlo
   obtain ⟨z2,c3,c4,f3,f4⟩ :=hhi
   have HO:=Lib.hid hO
   clear hO hb
   go_wp2
   go_region
   have hO:=HO.out
   go_wp2
   exact bodyPost_ret (v:= .tuple #[vS (HY xs n) (HZ xs n),vS (HE xs n) (HF xs n)]) (by simp [results,Try.results57,go_sem, *]) rfl ⟨rfl,DB⟩
end Go.Proofs.Ytpncbbcmoiiipaa
