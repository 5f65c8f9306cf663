import Derived.Test.YtkagkgjjfdkoaaaGreatMMem
import Derived.Test.YtkagkgjjfdkoaaaGreatMReg
set_option linter.unusedVariables false
set_option linter.unusedSimpArgs false
namespace Go.Proofs.YtkagkgjjfdkoaaaGreat
open Go.RowKit
def Wh (n:Int) :Int:=if n<0 then-1 else if 0<n then 1 else 0
def XA (n lo hi:Int) :Bool:=decide (lo≤n) &&decide (n≤hi)
def wU (x y:Int) :Bool:=XA x (-262144) 262144&&XA y (-262144) 262144
theorem Ka (n:Int) (w:World) :
  Calls Tryz.prog 107 #[.int .i64 n] w fun e w'=>e= .returned (.int .i64 (Wh n))∧w=w':=by
 by_cases h1:n<0
 ·have hv:Hid (Wh n= -1) :=by simp [Hid,Wh,h1]
  go_enter Tryz.func107,Tryz.ntmps107
  go_wp2
  go_ret
  exact⟨by rw [hv.out];rfl,rfl⟩
 ·by_cases h2:0<n
  ·have hv:Hid (Wh n=1) :=by simp [Hid,Wh,h1,h2]
   go_enter Tryz.func107,Tryz.ntmps107
   go_wp2
   go_ret
   exact⟨by rw [hv.out];rfl,rfl⟩
  ·have hv:Hid (Wh n=0) :=by simp [Hid,Wh,h1,h2]
   go_enter Tryz.func107,Tryz.ntmps107
   go_wp2
   go_ret
   exact⟨by rw [hv.out];rfl,rfl⟩
theorem zu (n lo hi:Int) (w:World) :
  Calls Tryz.prog 38 #[.int .i64 n, .int .i64 lo, .int .i64 hi] w fun e w'=>e= .returned (.bool (XA n lo hi))∧w=w':=by
 by_cases h1:lo≤n
 ·have hv:Hid (XA n lo hi=decide (n≤hi)) :=by simp [Hid,XA,h1]
  go_enter Tryz.func38,Tryz.ntmps38
  go_wp2
  go_ret
  exact⟨by rw [hv.out];rfl,rfl⟩
 ·have hv:Hid (XA n lo hi=false) :=by simp [Hid,XA,h1]
  go_enter Tryz.func38,Tryz.ntmps38
  go_wp2
  go_ret
  exact⟨by rw [hv.out];rfl,rfl⟩
set_option maxHeartbeats 400000 in
theorem O9 (x y:Int) (w:World) :
  Calls Tryz.prog 136 #[W2 x y] w fun e w'=>e= .returned (.bool (wU x y))∧Over w w':=by
 by_cases h1:XA x (-262144) 262144=true
 ·have hv:Hid (wU x y=XA y (-262144) 262144) :=by simp [Hid,wU,h1]
  go_enter Tryz.func136,Tryz.ntmps136
  go_wp2_with (go_at_call 38;refine(zu _ _ _ _).mono ?_;rintro e w' ⟨rfl,rfl⟩)
  go_ret
  exact⟨by rw [hv.out];rfl,(by repeat (first | exact Over.refl _ | (with_reducible assumption) | refine Over.alloc_ ?_ _ | refine Over.trans ?_ (by with_reducible assumption) | refine Over.drew_ ?_ | refine Over.set_ ?_ (by simp;try omega) _))⟩
 ·have h1':XA x (-262144) 262144=false:=by simpa using h1
  clear h1
  have hv:Hid (wU x y=false) :=by simp [Hid,wU,h1']
  go_enter Tryz.func136,Tryz.ntmps136
  go_wp2_with (go_at_call 38;refine(zu _ _ _ _).mono ?_;rintro e w' ⟨rfl,rfl⟩)
  go_ret
  exact⟨by rw [hv.out];rfl,(by repeat (first | exact Over.refl _ | (with_reducible assumption) | refine Over.alloc_ ?_ _ | refine Over.trans ?_ (by with_reducible assumption) | refine Over.drew_ ?_ | refine Over.set_ ?_ (by simp;try omega) _))⟩
set_option maxHeartbeats 400000 in
theorem jaS (x y:Int) (w:World) :
  Calls Tryz.prog 134 #[W2 x y] w fun e w'=>e= .returned (W2 x y)∧Over w w':=by
 go_enter Tryz.func134,Tryz.ntmps134
 go_wp2
 exact bodyPost_ret (v:=W2 x y) (by simp [results,Tryz.results134,go_sem, *]) rfl ⟨rfl,(by repeat (first | exact Over.refl _ | (with_reducible assumption) | refine Over.alloc_ ?_ _ | refine Over.trans ?_ (by with_reducible assumption) | refine Over.drew_ ?_ | refine Over.set_ ?_ (by simp;try omega) _))⟩
set_option maxHeartbeats 400000 in
theorem Gs (x y:Int) (w:World) :
  Calls Tryz.prog 171 #[W2 x y] w fun e w'=>e= .returned (.bool (wU x y))∧Over w w':=by
 have hv:Hid (wU x y= (decide (-262144≤x) &&decide (x≤262144) && (decide (-262144≤y) &&decide (y≤262144)))) :=by simp [Hid,wU,XA]
 by_cases h1: -262144≤x<;>by_cases h2:x≤262144<;>by_cases h3: -262144≤y<;>by_cases h4:y≤262144
 all_goals try(exfalso;omega)
 all_goals
  go_enter Tryz.func171,Tryz.ntmps171
  go_wp2
  go_ret
  exact⟨by rw [hv.out];simp [*];try rfl,(by repeat (first | exact Over.refl _ | (with_reducible assumption) | refine Over.alloc_ ?_ _ | refine Over.trans ?_ (by with_reducible assumption) | refine Over.drew_ ?_ | refine Over.set_ ?_ (by simp;try omega) _))⟩
set_option maxHeartbeats 400000 in
theorem Fg (A:Option Addr) (n c:Nat) (xs:List (Int×Int)) (w:World) (h:Pts w A n xs) (hn: (n:Int)≤1048576) :
  Calls Tryz.prog 149 #[.slice A n c] w fun e w'=>e= .returned (.bool (xs.all fun p=>wU p.1 p.2))∧Over w w':=by
 go_enter Tryz.func149,Tryz.ntmps149
 go_wp2
 go_loopw [4,7] (fun v i wr=>∃k:Nat,k≤n∧i= .int .i64 k∧Over w wr∧Hid ((xs.take k).all (fun p=>wU p.1 p.2) =true)) (fun _ i _=>n- (intOf i).toNat)
 case atStart=>exact⟨0,jeE _,rfl,Over.refl _,by simp [Hid]⟩
 case round=>
  rename_i wr
  obtain ⟨k,hk,rfl,hb,hall⟩ :=hrel
  by_cases hlt:k<n
  ·obtain ⟨b,o,rfl,hbB,hcell⟩ := (h.over hb).2 (by omega)
   obtain ⟨hc1,hc2⟩ :=hcell k hlt
   have hlen:k<xs.length:=by have:=h.1;omega
   by_cases hok:wU (px xs k) (py xs k) =true
   ·have hs:Hid ((xs.take (k+1)).all (fun p=>wU p.1 p.2) =true) :=by
     have:=hall.out
     unfold Hid
     rw [jeS hlen,List.all_append,this,Ya hlen]
     simp [hok]
    clear hall hcell h
    go_wp2_with (go_at_call 171;refine(Gs _ _ _).mono ?_;rintro e w1 ⟨rfl,hb1⟩)
    go_roundw
    case rel=>exact⟨k+1,by omega,by go_num,(by repeat (first | exact Over.refl _ | (with_reducible assumption) | refine Over.alloc_ ?_ _ | refine Over.trans ?_ (by with_reducible assumption) | refine Over.drew_ ?_ | refine Over.set_ ?_ (by simp;try omega) _)),hs⟩
    case measure=>simp [intOf];omega
   ·have hok':wU (px xs k) (py xs k) =false:=by simpa using hok
    clear hok
    have hs:Hid (xs.all (fun p=>wU p.1 p.2) =false) :=by
     unfold Hid
     rw [List.all_eq_false]
     exact⟨xs[k],jeW hlen,by rw [Ya hlen];simp [hok']⟩
    clear hall hcell h
    go_wp2_with (go_at_call 171;refine(Gs _ _ _).mono ?_;rintro e w1 ⟨rfl,hb1⟩)
    go_ret
    exact⟨by rw [hs.out];rfl,(by repeat (first | exact Over.refl _ | (with_reducible assumption) | refine Over.alloc_ ?_ _ | refine Over.trans ?_ (by with_reducible assumption) | refine Over.drew_ ?_ | refine Over.set_ ?_ (by simp;try omega) _))⟩
  ·have hs:Hid (xs.all (fun p=>wU p.1 p.2) =true) :=by
    have:=hall.out
    rw [jfb (by have:=h.1;omega)] at this
    exact this
   clear hall h
   go_wp2
   go_ret
   exact⟨by rw [hs.out];rfl,hb⟩
theorem CY (ax ay bx b_y:Int) (w:World) :
  Calls Tryz.prog 135 #[W2 ax ay,W2 bx b_y] w fun e w'=>e= .returned (.bool (ax==bx&&ay==b_y))∧Over w w':=by
 cases h1: (ax==bx)
 all_goals
  have h1': (ax !=bx) = !(ax==bx) :=rfl
  rw [h1] at h1'
  cases h2: (ay==b_y)
 all_goals
  have h2': (ay !=b_y) = !(ay==b_y) :=rfl
  rw [h2] at h2'
  clear h1 h2
  go_enter Tryz.func135,Tryz.ntmps135
  go_wp2
  go_ret
  exact⟨rfl,(by repeat (first | exact Over.refl _ | (with_reducible assumption) | refine Over.alloc_ ?_ _ | refine Over.trans ?_ (by with_reducible assumption) | refine Over.drew_ ?_ | refine Over.set_ ?_ (by simp;try omega) _))⟩
end Go.Proofs.YtkagkgjjfdkoaaaGreat
namespace Go.Proofs.YtkagkgjjfdkoaaaGreat
open Go Go.RowKit
def Blk (w:World) (g T m:Nat) :Prop:=∃cs:Array Value,cs.size=m∧w.heap[g]? =some (.cells cs T (0,0))
theorem Blk.lt {w:World} {g T m:Nat} (h:Blk w g T m) :g<w.heap.size:=by
 obtain ⟨cs,_,hh⟩ :=h
 rcases jfG g w.heap.size with h | h
 ·exact h
 ·rw [Array.getElem?_eq_none h] at hh;cases hh
theorem Blk.over {w w':World} {g T m:Nat} (h:Blk w g T m) (ho:Over w w') :Blk w' g T m:=by
 have hl:=h.lt
 obtain ⟨cs,hs,hh⟩ :=h
 exact⟨cs,hs,(ho.out.block g hl).trans hh⟩
theorem Blk.cell {w:World} {g T m i:Nat} (h:Blk w g T m) (hi:i<m) :∃u,w.cell? ⟨g,i,none⟩ =some u:=by
 obtain ⟨cs,hs,hh⟩ :=h
 exact⟨_,(cell_of_row w g i cs T (0,0) hh).trans (Array.getElem?_eq_getElem (by omega))⟩
theorem Blk.frozen {w:World} {g T m:Nat} (h:Blk w g T m) (i:Nat) :w.frozen? ⟨g,i,none⟩ =false:=by
 obtain ⟨cs,hs,hh⟩ :=h
 simp [World.frozen?,hh]
theorem Blk.set_ {w:World} {g T m:Nat} (h:Blk w g T m) (i:Nat) (u:Value) :Blk (w.setCell ⟨g,i,none⟩ u) g T m:=by
 obtain ⟨cs,hs,hh⟩ :=h
 refine⟨cs.setIfInBounds i u,by simpa using hs,?_⟩
 simp [World.setCell,Array.getElem?_modify,hh]
theorem Blk.new (w:World) (cs:Array Value) (T:Nat) :Blk (w.alloc (.cells cs T)) w.heap.size T cs.size:=⟨cs,rfl,heap_alloc_new w _⟩
def Own (w:World) (g n:Nat) (xs:List (Int×Int)) :Prop:=Blk w g 54 (n*2)∧Pts w (some ⟨g,0,none⟩) n xs
theorem Own.over {w w':World} {g n:Nat} {xs:List (Int×Int)} (h:Own w g n xs) (ho:Over w w') :Own w' g n xs:=⟨h.1.over ho,h.2.over ho⟩
theorem Own.far {w:World} {g n:Nat} {xs:List (Int×Int)} (h:Own w g n xs) {p:Addr} (hp:p.block≠g) (u:Value) :Own (w.setCell p u) g n xs:=by
 obtain ⟨⟨cs,hs,hh⟩,hl,hx⟩ :=h
 refine⟨⟨cs,hs,(Below.heap_setCell w p u g (Ne.symm hp)).trans hh⟩,hl,fun hn=> ?_⟩
 obtain ⟨b,o,hA,hlt,hc⟩ :=hx hn
 have hb:b=g:=by injection hA with hA;injection hA with hA;exact hA.symm
 subst hb
 refine⟨b,o,hA,by simpa [World.setCell] using hlt,fun k hk=>⟨?_,?_⟩⟩
 ·rw [World.cell?_setCell_other _ _ _ _ (fun e=>hp (by rw [e]))];exact(hc k hk).1
 ·rw [World.cell?_setCell_other _ _ _ _ (fun e=>hp (by rw [e]))];exact(hc k hk).2
theorem Pts.at_ {w:World} {A:Option Addr} {n k:Nat} {xs:List (Int×Int)} (h:Pts w A n xs) (hk:k<n) :
  ∃b o,A=some ⟨b,o,none⟩∧b<w.heap.size∧w.cell? ⟨b,o+k*2,none⟩ =some (.int .i64 (px xs k))∧w.cell? ⟨b,o+k*2+1,none⟩ =some (.int .i64 (py xs k)) :=by
 obtain ⟨b,o,hA,hb,hc⟩ :=h.2 (by omega)
 exact⟨b,o,hA,hb,hc k hk⟩
def Zb (l:Int) (n:Nat) :Int:=if(n:Int)≤l then l- n else-1
theorem BK (A:Option Addr) (n c:Nat) (l:Int) (w:World) (hl:0≤l) (hl':l≤1048576) (hn: (n:Int)≤9223372036854775807) :
  Calls Tryz.prog 89 #[.slice A n c, .int .i64 l] w fun e w'=>e= .returned (.int .i64 (Zb l n))∧w=w':=by
 by_cases h: (n:Int)≤l
 ·have hv:Hid (Zb l n=l- n) :=by unfold Hid Zb;rw [if_pos h]
  go_enter Tryz.func89,Tryz.ntmps89
  go_wp2
  go_ret
  exact⟨by rw [hv.out];rfl,rfl⟩
 ·have hv:Hid (Zb l n= -1) :=by unfold Hid Zb;rw [if_neg h]
  go_enter Tryz.func89,Tryz.ntmps89
  go_wp2
  go_ret
  exact⟨by rw [hv.out];rfl,rfl⟩
theorem SN (A:Option Addr) (n c:Nat) (l:Int) (w:World) (hl:0≤l) (hl':l≤1048576) (hn: (n:Int)≤9223372036854775807) :
  Calls Tryz.prog 50 #[.agg #[.slice A n c], .int .i64 l] w fun e w'=>e= .returned (.int .i64 (Zb l n))∧Over w w':=by
 by_cases h: (n:Int)≤l
 ·have hv:Zb l n=l- n:=by unfold Zb;rw [if_pos h]
  go_enter Tryz.func50,Tryz.ntmps50
  go_wp2_with (go_at_call 89;refine(BK _ _ _ _ _ hl hl' hn).mono ?_;rintro e w1 ⟨rfl,rfl⟩)
  go_ret
  exact⟨by rw [hv];rfl,(by repeat (first | exact Over.refl _ | (with_reducible assumption) | refine Over.alloc_ ?_ _ | refine Over.trans ?_ (by with_reducible assumption) | refine Over.drew_ ?_ | refine Over.set_ ?_ (by simp;try omega) _))⟩
 ·have hv:Zb l n= -1:=by unfold Zb;rw [if_neg h]
  go_enter Tryz.func50,Tryz.ntmps50
  go_wp2_with (go_at_call 89;refine(BK _ _ _ _ _ hl hl' hn).mono ?_;rintro e w1 ⟨rfl,rfl⟩)
  go_ret
  exact⟨by rw [hv];rfl,(by repeat (first | exact Over.refl _ | (with_reducible assumption) | refine Over.alloc_ ?_ _ | refine Over.trans ?_ (by with_reducible assumption) | refine Over.drew_ ?_ | refine Over.set_ ?_ (by simp;try omega) _))⟩
theorem jdx: (Tryz.prog.info? 54).map (fun i=> (i.zero,i.size,i.bytes)) =some (some (.agg #[.int .i64 0, .int .i64 0]),2,16) :=by kernel_rfl
theorem WW {P:Program} {e:TypeId} {z:Value} {s b:Nat} (h: (P.info? e).map (fun i=> (i.zero,i.size,i.bytes)) =some (some z,s,b)) :∃i,P.info? e=some i∧i.zero=some z∧i.size=s∧i.bytes=b:=by
 cases hi:P.info? e with
 | none=>simp [hi] at h
 | some i=>
  simp only [hi,jf7,Option.some.injEq,Prod.mk.injEq] at h
  exact⟨i,rfl,h.1,h.2.1,h.2.2⟩
def Filled (w:World) (g k:Nat) (xs:List (Int×Int)) :Prop:=∀j,j<k→w.cell? ⟨g,j*2,none⟩ =some (.int .i64 (px xs j))∧w.cell? ⟨g,j*2+1,none⟩ =some (.int .i64 (py xs j))
theorem Filled.over {w w':World} {g k:Nat} {xs:List (Int×Int)} (h:Filled w g k xs) (hg:g<w.heap.size) (ho:Over w w') :Filled w' g k xs:=
 fun j hj=>⟨((Ji ho).1 g _ hg).trans (h j hj).1,((Ji ho).1 g _ hg).trans (h j hj).2⟩
theorem Filled.step {w:World} {g k m T:Nat} {xs:List (Int×Int)} (h:Filled w g k xs) (hb:Blk w g T m) (hk:k*2+1<m) :
  Filled ((w.setCell ⟨g,k*2,none⟩ (.int .i64 (px xs k))).setCell ⟨g,k*2+1,none⟩ (.int .i64 (py xs k))) g (k+1) xs:=by
 obtain ⟨u,hu⟩ :=hb.cell (i:=k*2) (by omega)
 obtain ⟨v,hv⟩ := (hb.set_ (k*2) (.int .i64 (px xs k))).cell (i:=k*2+1) hk
 intro j hj
 by_cases hjk:j=k
 ·subst hjk
  refine⟨?_,World.cell?_setCell_same _ _ _ hv⟩
  rw [World.cell?_setCell_other _ _ _ _ (by simp)]
  exact World.cell?_setCell_same _ _ _ hu
 ·have:=h j (by omega)
  refine⟨?_,?_⟩
  ·rw [World.cell?_setCell_other _ _ _ _ (by simp<;>omega),World.cell?_setCell_other _ _ _ _ (by simp<;>omega)];exact this.1
  ·rw [World.cell?_setCell_other _ _ _ _ (by simp<;>omega),World.cell?_setCell_other _ _ _ _ (by simp<;>omega)];exact this.2
theorem Filled.own {w:World} {g n:Nat} {xs:List (Int×Int)} (h:Filled w g n xs) (hb:Blk w g 54 (n*2)) (hn:xs.length=n) :Own w g n xs:=
 ⟨hb,hn,fun _=>⟨g,0,rfl,hb.lt,fun k hk=>by rw [je3];exact h k hk⟩⟩
set_option maxHeartbeats 400000 in
theorem P9 (A:Option Addr) (n c:Nat) (xs:List (Int×Int)) (w:World) (h:Pts w A n xs) (hn: (n:Int)≤1048576) :
  Calls Tryz.prog 90 #[.slice A n c] w fun e w'=>∃g,e= .returned (.slice (some ⟨g,0,none⟩) n n)∧w.heap.size≤g∧Own w' g n xs∧Over w w':=by
 obtain ⟨i0,hi,hz0,hz1,hz2⟩ :=WW jdx
 have hmk:∀w:World,(Instr.makeSlice 58 (.int .i64 (n:Int)) (.int .i64 (n:Int))).run Tryz.prog w= .ok (.slice (some ⟨w.heap.size,0,none⟩) n n) (w.alloc (.cells (madeCells (Value.agg #[.int .i64 0, .int .i64 0]).cells (n*2)) 54)) :=by
  intro w
  have:=run_make (P:=Tryz.prog) w 58 54 i0 _ Tryz.underlying58 hi hz0 .i64 .i64 n n (by omega) (by omega) (by rw [hz2];omega) (by omega)
  rw [hz1] at this
  simpa using this
 clear hi hz0 hz1 hz2
 go_enter Tryz.func90,Tryz.ntmps90
 go_wp2
 have hblk0:=Blk.new w (madeCells (Value.agg #[.int .i64 0, .int .i64 0]).cells (n*2)) 54
 rw [size_madeCells] at hblk0
 have HB:=Lib.hid hblk0
 clear hblk0 hmk
 go_loopw [4] (fun i wr=>∃k:Nat,k≤n∧i= .int .i64 k∧Over w wr∧Blk wr w.heap.size 54 (n*2)∧Filled wr w.heap.size k xs) (fun i _=>n- (intOf i).toNat)
 case atStart=>exact⟨0,jeE _,rfl,(by repeat (first | exact Over.refl _ | (with_reducible assumption) | refine Over.alloc_ ?_ _ | refine Over.trans ?_ (by with_reducible assumption) | refine Over.drew_ ?_ | refine Over.set_ ?_ (by simp;try omega) _)),HB.out,fun j hj=>absurd hj (by omega)⟩
 case round=>
  rename_i wr
  obtain ⟨k,hk,rfl,hO,hblk,hfil⟩ :=hrel
  clear HB
  have hlen:=Lib.hid h.1
  by_cases hlt:k<n
  ·obtain ⟨b,o,rfl,hbB,hc1,hc2⟩ := (h.over hO).at_ hlt
   clear h
   have Hblk:=Lib.hid hblk
   have Hfil:=Lib.hid hfil
   clear hblk hfil
   go_wp2_with (go_at_call 134;refine(jaS _ _ _).mono ?_;rintro e wx ⟨rfl,hb⟩;have hblk:=Hblk.out.over hb;obtain ⟨u1,hu1⟩ :=hblk.cell (i:=k*2) (by omega);obtain ⟨u2,hu2⟩ :=hblk.cell (i:=k*2+1) (by omega);have hf1:=hblk.frozen (k*2);have hf2:=hblk.frozen (k*2+1);have hblk':=Lib.hid hblk;clear hblk)
   go_roundw
   case rel=>exact⟨k+1,by omega,by go_num,(by repeat (first | exact Over.refl _ | (with_reducible assumption) | refine Over.alloc_ ?_ _ | refine Over.trans ?_ (by with_reducible assumption) | refine Over.drew_ ?_ | refine Over.set_ ?_ (by simp;try omega) _)),(hblk'.out.set_ _ _).set_ _ _,(Hfil.out.over Hblk.out.lt hb).step hblk'.out (by omega)⟩
   case measure=>simp [intOf];omega
  ·have hkn:k=n:=by omega
   have Hblk:=Lib.hid hblk
   have Hfil:=Lib.hid hfil
   clear hblk hfil h
   go_wp2
   go_ret
   exact⟨w.heap.size,rfl,jeD _,Filled.own (hkn▸Hfil.out) Hblk.out hlen.out,hO⟩
abbrev YX (A:Option Addr) (n c:Nat) :Value:= .agg #[.slice A n c]
set_option maxHeartbeats 400000 in
theorem SQ (A:Option Addr) (n c:Nat) (xs:List (Int×Int)) (w:World) (h:Pts w A n xs) (hn: (n:Int)≤1048576) :
  Calls Tryz.prog 52 #[YX A n c] w fun e w'=>∃g,e= .returned (YX (some ⟨g,0,none⟩) n n)∧w.heap.size≤g∧Own w' g n xs∧Over w w':=by
 go_enter Tryz.func52,Tryz.ntmps52
 go_wp2_with (go_at_call 90;refine(P9 _ _ _ xs _ (h.over (by repeat (first | exact Over.refl _ | (with_reducible assumption) | refine Over.alloc_ ?_ _ | refine Over.trans ?_ (by with_reducible assumption) | refine Over.drew_ ?_ | refine Over.set_ ?_ (by simp;try omega) _))) hn).mono ?_;rintro e wx ⟨g,rfl,hg,hown,hO⟩;obtain ⟨hc,hf⟩ :=Ji hO;have hz0:w.heap.size<wx.heap.size:=jeR (by simp<;>omega) (Over.size hO);have hz1:w.heap.size+1<wx.heap.size:=jeR (by simp<;>omega) (Over.size hO);have hz2:w.heap.size+1+1<wx.heap.size:=jeR (by simp<;>omega) (Over.size hO))
 have hg':w.heap.size+1+1+1≤g:=by simpa using hg
 exact bodyPost_ret (v:=YX (some ⟨g,0,none⟩) n n) (by simp [results,Tryz.results52,go_sem, *]) rfl ⟨g,rfl,by omega,(hown.far (by simp;omega) _).far (by simp;omega) _,(by repeat (first | exact Over.refl _ | (with_reducible assumption) | refine Over.alloc_ ?_ _ | refine Over.trans ?_ (by with_reducible assumption) | refine Over.drew_ ?_ | refine Over.set_ ?_ (by simp;try omega) _))⟩
def zS (xs:List (Int×Int)) :Bool:=xs.all fun p=>wU p.1 p.2
def kH (xs:List (Int×Int)) :Bool:=XA (xs.length:Int) 1 400&&zS xs
set_option maxHeartbeats 400000 in
theorem Oj (A:Option Addr) (n c:Nat) (xs:List (Int×Int)) (w:World) (h:Pts w A n xs) (hn: (n:Int)≤1048577) :
  Calls Tryz.prog 92 #[.slice A n c] w fun e w'=>e= .returned (.bool (zS xs))∧Over w w':=by
 go_enter Tryz.func92,Tryz.ntmps92
 go_wp2
 go_loopw [3] (fun i wr=>∃k:Nat,k≤n∧i= .int .i64 k∧Over w wr∧Hid ((xs.take k).all (fun p=>wU p.1 p.2) =true)) (fun i _=>n- (intOf i).toNat)
 case atStart=>exact⟨0,jeE _,rfl,Over.refl _,by simp [Hid]⟩
 case round=>
  rename_i wr
  obtain ⟨k,hk,rfl,hb,hall⟩ :=hrel
  by_cases hlt:k<n
  ·obtain ⟨b,o,rfl,hbB,hc1,hc2⟩ := (h.over hb).at_ hlt
   have hlen:k<xs.length:=by have:=h.1;omega
   by_cases hok:wU (px xs k) (py xs k) =true
   ·have hs:Hid ((xs.take (k+1)).all (fun p=>wU p.1 p.2) =true) :=by
     have:=hall.out
     unfold Hid
     rw [jeS hlen,List.all_append,this,Ya hlen]
     simp [hok]
    clear hall h
    go_wp2_with (go_at_call 136;refine(O9 _ _ _).mono ?_;rintro e w1 ⟨rfl,hb1⟩)
    go_roundw
    case rel=>exact⟨k+1,by omega,by go_num,(by repeat (first | exact Over.refl _ | (with_reducible assumption) | refine Over.alloc_ ?_ _ | refine Over.trans ?_ (by with_reducible assumption) | refine Over.drew_ ?_ | refine Over.set_ ?_ (by simp;try omega) _)),hs⟩
    case measure=>simp [intOf];omega
   ·have hok':wU (px xs k) (py xs k) =false:=by simpa using hok
    clear hok
    have hs:Hid (zS xs=false) :=by
     unfold Hid zS
     rw [List.all_eq_false]
     exact⟨xs[k],jeW hlen,by rw [Ya hlen];simp [hok']⟩
    clear hall h
    go_wp2_with (go_at_call 136;refine(O9 _ _ _).mono ?_;rintro e w1 ⟨rfl,hb1⟩)
    go_ret
    exact⟨by rw [hs.out];rfl,(by repeat (first | exact Over.refl _ | (with_reducible assumption) | refine Over.alloc_ ?_ _ | refine Over.trans ?_ (by with_reducible assumption) | refine Over.drew_ ?_ | refine Over.set_ ?_ (by simp;try omega) _))⟩
  ·have hs:Hid (zS xs=true) :=by
    have:=hall.out
    rw [jfb (by have:=h.1;omega)] at this
    exact this
   clear hall h
   go_wp2
   go_ret
   exact⟨by rw [hs.out];rfl,hb⟩
set_option maxHeartbeats 400000 in
set_option maxRecDepth 100000 in
theorem RY (A B:Option Addr) (n c d:Nat) (xs:List (Int×Int)) (w:World) (h:Pts w A n xs) (h':Pts w B n xs) (hn: (n:Int)≤1048576) :
  Calls Tryz.prog 91 #[.slice A n c, .slice B n d] w fun e w'=>e= .returned (.bool true)∧Over w w':=by
 have hq: ((n:Int) != (n:Int)) =false:=by simp
 go_enter Tryz.func91,Tryz.ntmps91
 go_wp2
 go_loopw [5] (fun i wr=>∃k:Nat,k≤n∧i= .int .i64 k∧Over w wr) (fun i _=>n- (intOf i).toNat)
 case atStart=>exact⟨0,jeE _,rfl,Over.refl _⟩
 case round=>
  rename_i wr
  obtain ⟨k,hk,rfl,hb⟩ :=hrel
  by_cases hlt:k<n
  ·obtain ⟨b,o,rfl,hbB,hc1,hc2⟩ := (h.over hb).at_ hlt
   obtain ⟨b',o',rfl,hbB',hc1',hc2'⟩ := (h'.over hb).at_ hlt
   clear h h'
   go_wp2
   refine QZ (B:=ob _) (Over.refl _) (by kernel_rfl) (by simp only [jfu,jeP,je6,Nat.reduceAdd];rfl) (fun hBW=> ?_);refine w9 0 (hy:=fun wx hS=>by(obtain ⟨hc,hf⟩ :=Ji hS;clear hS;go_simp; (try go_bits);exact⟨rfl,Over.refl _⟩)) (h:= ?_)
   simp only [Act.put,xd7,ya,yb]
   refine w9 1 (hy:=fun wx hS=>by(obtain ⟨hc,hf⟩ :=Ji hS;clear hS;go_simp; (try go_bits);exact⟨rfl,Over.refl _⟩)) (h:= ?_)
   simp only [Act.put,xd7,ya,yb]
   refine w9 2 (hy:=fun wx hS=>by(obtain ⟨hc,hf⟩ :=Ji hS;clear hS;go_simp; (try go_bits);exact⟨rfl,Over.refl _⟩)) (h:= ?_)
   simp only [Act.put,xd7,ya,yb]
   refine w9 3 (hy:=fun wx hS=>by(obtain ⟨hc,hf⟩ :=Ji hS;clear hS;go_simp; (try go_bits);exact⟨rfl,Over.refl _⟩)) (h:= ?_)
   simp only [Act.put,xd7,ya,yb]
   refine w9 4 (hy:=fun wx hS=>by(obtain ⟨hc,hf⟩ :=Ji hS;clear hS;go_simp; (try go_bits);exact⟨rfl,Over.refl _⟩)) (h:= ?_)
   simp only [Act.put,xd7,ya,yb]
   refine w9 5 (hy:=fun wx hS=>by(obtain ⟨hc,hf⟩ :=Ji hS;clear hS;go_simp; (try go_bits);exact⟨rfl,Over.refl _⟩)) (h:= ?_)
   simp only [Act.put,xd7,ya,yb]
   refine w9 6 (hy:=fun wx hS=>by(obtain ⟨hc,hf⟩ :=Ji hS;clear hS;go_simp; (try go_bits);exact⟨rfl,Over.refl _⟩)) (h:= ?_)
   simp only [Act.put,xd7,ya,yb]
   refine w9 7 (hy:=fun wx hS=>by(obtain ⟨hc,hf⟩ :=Ji hS;clear hS;go_simp; (try go_bits);exact⟨rfl,Over.refl _⟩)) (h:= ?_)
   simp only [Act.put,xd7,ya,yb]
   refine w9 8 (hy:=fun wx hS=>by(go_simp;refine(CY _ _ _ _ _).mono ?_;simp only [beq_self_eq_true,Bool.and_self];rintro e w1 ⟨rfl,hb1⟩;exact⟨rfl,hb1⟩)) (h:= ?_)
   simp only [Act.put,xd7,ya,yb]
   refine w9 9 (hy:=fun wx hS=>by(obtain ⟨hc,hf⟩ :=Ji hS;clear hS;go_simp; (try go_bits);exact⟨rfl,Over.refl _⟩)) (h:= ?_)
   simp only [Act.put,xd7,ya,yb]
   refine QY (by kernel_rfl) (fun w2 h2=> ?_) _
   try clear hBW
   go_wp2
   go_roundw
   case rel=>exact⟨k+1,by omega,by go_num,(by repeat (first | exact Over.refl _ | (with_reducible assumption) | refine Over.alloc_ ?_ _ | refine Over.trans ?_ (by with_reducible assumption) | refine Over.drew_ ?_ | refine Over.set_ ?_ (by simp;try omega) _))⟩
   case measure=>simp [intOf];omega
  ·clear h h'
   go_wp2
   go_ret
   exact⟨rfl,(by repeat (first | exact Over.refl _ | (with_reducible assumption) | refine Over.alloc_ ?_ _ | refine Over.trans ?_ (by with_reducible assumption) | refine Over.drew_ ?_ | refine Over.set_ ?_ (by simp;try omega) _))⟩
set_option maxHeartbeats 400000 in
theorem F7 (A B:Option Addr) (n c d:Nat) (xs:List (Int×Int)) (w:World) (h:Pts w A n xs) (h':Pts w B n xs) (hn: (n:Int)≤1048576) :
  Calls Tryz.prog 56 #[YX A n c,YX B n d] w fun e w'=>e= .returned (.bool true)∧Over w w':=by
 go_enter Tryz.func56,Tryz.ntmps56
 go_wp2_with (go_at_call 91;refine(RY _ _ _ _ _ xs _ (h.over (by repeat (first | exact Over.refl _ | (with_reducible assumption) | refine Over.alloc_ ?_ _ | refine Over.trans ?_ (by with_reducible assumption) | refine Over.drew_ ?_ | refine Over.set_ ?_ (by simp;try omega) _))) (h'.over (by repeat (first | exact Over.refl _ | (with_reducible assumption) | refine Over.alloc_ ?_ _ | refine Over.trans ?_ (by with_reducible assumption) | refine Over.drew_ ?_ | refine Over.set_ ?_ (by simp;try omega) _))) hn).mono ?_;rintro e w1 ⟨rfl,hb1⟩)
 go_ret
 exact⟨rfl,(by repeat (first | exact Over.refl _ | (with_reducible assumption) | refine Over.alloc_ ?_ _ | refine Over.trans ?_ (by with_reducible assumption) | refine Over.drew_ ?_ | refine Over.set_ ?_ (by simp;try omega) _))⟩
end Go.Proofs.YtkagkgjjfdkoaaaGreat
