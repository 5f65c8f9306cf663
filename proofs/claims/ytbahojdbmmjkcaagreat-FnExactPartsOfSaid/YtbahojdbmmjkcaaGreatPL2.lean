import Derived.Test.YtbahojdbmmjkcaaGreatPMem
import Derived.Test.YtbahojdbmmjkcaaGreatPReg
import Derived.BigRegion
set_option linter.unusedVariables false
set_option linter.unusedSimpArgs false
namespace Go.Proofs.YtbahojdbmmjkcaaGreat
open Go.RowKit
def wZ (n:Int) :Int:=if n<0 then-1 else if 0<n then 1 else 0
def Z7 (n lo hi:Int) :Bool:=decide (lo≤n) &&decide (n≤hi)
def wF (x y:Int) :Bool:=Z7 x (-262144) 262144&&Z7 y (-262144) 262144
theorem kX (n:Int) (w:World) :
  Calls Tryz.prog 160 #[.int .i64 n] w fun e w'=>e= .returned (.int .i64 (wZ n))∧w=w':=by
 by_cases h1:n<0
 ·have hv:Hid (wZ n= -1) :=by simp [Hid,wZ,h1]
  go_enter Tryz.func160,Tryz.ntmps160
  go_wp2
  go_ret
  exact⟨by rw [hv.out];rfl,rfl⟩
 ·by_cases h2:0<n
  ·have hv:Hid (wZ n=1) :=by simp [Hid,wZ,h1,h2]
   go_enter Tryz.func160,Tryz.ntmps160
   go_wp2
   go_ret
   exact⟨by rw [hv.out];rfl,rfl⟩
  ·have hv:Hid (wZ n=0) :=by simp [Hid,wZ,h1,h2]
   go_enter Tryz.func160,Tryz.ntmps160
   go_wp2
   go_ret
   exact⟨by rw [hv.out];rfl,rfl⟩
theorem U1 (n lo hi:Int) (w:World) :
  Calls Tryz.prog 124 #[.int .i64 n, .int .i64 lo, .int .i64 hi] w fun e w'=>e= .returned (.bool (Z7 n lo hi))∧w=w':=by
 by_cases h1:lo≤n
 ·have hv:Hid (Z7 n lo hi=decide (n≤hi)) :=by simp [Hid,Z7,h1]
  go_enter Tryz.func124,Tryz.ntmps124
  go_wp2
  go_ret
  exact⟨by rw [hv.out];rfl,rfl⟩
 ·have hv:Hid (Z7 n lo hi=false) :=by simp [Hid,Z7,h1]
  go_enter Tryz.func124,Tryz.ntmps124
  go_wp2
  go_ret
  exact⟨by rw [hv.out];rfl,rfl⟩
set_option maxHeartbeats 400000 in
theorem Bz (x y:Int) (w:World) :
  Calls Tryz.prog 65 #[WH x y] w fun e w'=>e= .returned (.bool (wF x y))∧Over w w':=by
 by_cases h1:Z7 x (-262144) 262144=true
 ·have hv:Hid (wF x y=Z7 y (-262144) 262144) :=by simp [Hid,wF,h1]
  go_enter Tryz.func65,Tryz.ntmps65
  go_wp2_with (go_at_call 124;refine(U1 _ _ _ _).mono ?_;rintro e w' ⟨rfl,rfl⟩)
  go_ret
  exact⟨by rw [hv.out];rfl,ov9⟩
 ·have h1':Z7 x (-262144) 262144=false:=by simpa using h1
  clear h1
  have hv:Hid (wF x y=false) :=by simp [Hid,wF,h1']
  go_enter Tryz.func65,Tryz.ntmps65
  go_wp2_with (go_at_call 124;refine(U1 _ _ _ _).mono ?_;rintro e w' ⟨rfl,rfl⟩)
  go_ret
  exact⟨by rw [hv.out];rfl,ov9⟩
set_option maxHeartbeats 400000 in
theorem jcm (x y:Int) (w:World) :
  Calls Tryz.prog 83 #[WH x y] w fun e w'=>e= .returned (WH x y)∧Over w w':=by
 go_enter Tryz.func83,Tryz.ntmps83
 go_wp2
 exact bodyPost_ret (v:=WH x y) (by simp [results,Tryz.results83,go_sem, *]) rfl ⟨rfl,ov9⟩
set_option maxHeartbeats 400000 in
theorem GC (x y:Int) (w:World) :
  Calls Tryz.prog 202 #[WH x y] w fun e w'=>e= .returned (.bool (wF x y))∧Over w w':=by
 have hv:Hid (wF x y= (decide (-262144≤x) &&decide (x≤262144) && (decide (-262144≤y) &&decide (y≤262144)))) :=by simp [Hid,wF,Z7]
 by_cases h1: -262144≤x<;>by_cases h2:x≤262144<;>by_cases h3: -262144≤y<;>by_cases h4:y≤262144
 all_goals try(exfalso;omega)
 all_goals
  go_enter Tryz.func202,Tryz.ntmps202
  go_wp2
  go_ret
  exact⟨by rw [hv.out];simp [*];try rfl,ov9⟩
set_option maxHeartbeats 400000 in
theorem Xv (A:Option Addr) (n c:Nat) (xs:List (Int×Int)) (w:World) (h:Pts w A n xs) (hn: (n:Int)≤1048576) :
  Calls Tryz.prog 141 #[.slice A n c] w fun e w'=>e= .returned (.bool (xs.all fun p=>wF p.1 p.2))∧Over w w':=by
 go_enter Tryz.func141,Tryz.ntmps141
 go_wp2
 go_loopw [4,7] (fun v i wr=>∃k:Nat,k≤n∧i= .int .i64 k∧Over w wr∧Hid ((xs.take k).all (fun p=>wF p.1 p.2) =true)) (fun _ i _=>n- (intOf i).toNat)
 case atStart=>exact⟨0,jgw _,rfl,Over.refl _,by simp [Hid]⟩
 case round=>
  rename_i wr
  obtain ⟨k,hk,rfl,hb,hall⟩ :=hrel
  by_cases hlt:k<n
  ·obtain ⟨b,o,rfl,hbB,hcell⟩ := (h.over hb).2 Om
   obtain ⟨hc1,hc2⟩ :=hcell k hlt
   have hlen:k<xs.length:=by have:=h.1;omega
   by_cases hok:wF (px xs k) (py xs k) =true
   ·have hs:Hid ((xs.take (k+1)).all (fun p=>wF p.1 p.2) =true) :=by
     have:=hall.out
     unfold Hid
     rw [jgE hlen,List.all_append,this,yq hlen]
     simp [hok]
    clear hall hcell h
    go_wp2_with (go_at_call 202;refine(GC _ _ _).mono ?_;rintro e w1 ⟨rfl,hb1⟩)
    go_roundw
    case rel=>exact⟨k+1,by omega,by go_num,ov9,hs⟩
    case measure=>simp [intOf];omega
   ·have hok':wF (px xs k) (py xs k) =false:=by simpa using hok
    clear hok
    have hs:Hid (xs.all (fun p=>wF p.1 p.2) =false) :=by
     unfold Hid
     rw [List.all_eq_false]
     exact⟨xs[k],jgH hlen,by rw [yq hlen];simp [hok']⟩
    clear hall hcell h
    go_wp2_with (go_at_call 202;refine(GC _ _ _).mono ?_;rintro e w1 ⟨rfl,hb1⟩)
    go_ret
    exact⟨by rw [hs.out];rfl,ov9⟩
  ·have hs:Hid (xs.all (fun p=>wF p.1 p.2) =true) :=by
    have:=hall.out
    rw [jgR (by have:=h.1;omega)] at this
    exact this
   clear hall h
   go_wp2
   go_ret
   exact⟨by rw [hs.out];rfl,hb⟩
theorem jad (ax ay bx b_y:Int) (w:World) :
  Calls Tryz.prog 89 #[WH ax ay,WH bx b_y] w fun e w'=>e= .returned (.bool (ax==bx&&ay==b_y))∧Over w w':=by
 cases h1: (ax==bx)
 all_goals
  have h1': (ax !=bx) = !(ax==bx) :=rfl
  rw [h1] at h1'
  cases h2: (ay==b_y)
 all_goals
  have h2': (ay !=b_y) = !(ay==b_y) :=rfl
  rw [h2] at h2'
  clear h1 h2
  go_enter Tryz.func89,Tryz.ntmps89
  go_wp2
  go_ret
  exact⟨rfl,ov9⟩
end Go.Proofs.YtbahojdbmmjkcaaGreat
namespace Go.Proofs.YtbahojdbmmjkcaaGreat
open Go Go.RowKit
variable {A:Option Addr} {T g m n:Nat} {w w':World} {xs:List (Int×Int)}
def Blk (w:World) (g T m:Nat) :Prop:=∃cs:Array Value,cs.size=m∧w.heap[g]? =some (.cells cs T (0,0))
theorem Blk.lt (h:Blk w g T m) :g<w.heap.size:=by
 obtain ⟨cs,_,hh⟩ :=h
 rcases jhj g w.heap.size with h | h
 ·exact h
 ·rw [Array.getElem?_eq_none h] at hh;cases hh
theorem Blk.over (h:Blk w g T m) (ho:Over w w') :Blk w' g T m:=by
 have hl:=h.lt
 obtain ⟨cs,hs,hh⟩ :=h
 exact⟨cs,hs,(ho.out.block g hl).trans hh⟩
theorem Blk.cell {i:Nat} (h:Blk w g T m) (hi:i<m) :∃u,w.cell? ⟨g,i,none⟩ =some u:=by
 obtain ⟨cs,hs,hh⟩ :=h
 exact⟨_,(cell_of_row w g i cs T (0,0) hh).trans (Array.getElem?_eq_getElem Om)⟩
theorem Blk.frozen (h:Blk w g T m) (i:Nat) :w.frozen? ⟨g,i,none⟩ =false:=by
 obtain ⟨cs,hs,hh⟩ :=h
 simp [World.frozen?,hh]
theorem Blk.set_ (h:Blk w g T m) (i:Nat) (u:Value) :Blk (w.setCell ⟨g,i,none⟩ u) g T m:=by
 obtain ⟨cs,hs,hh⟩ :=h
 refine⟨cs.setIfInBounds i u,by simpa using hs,?_⟩
 simp [World.setCell,Array.getElem?_modify,hh]
theorem Blk.new (w:World) (cs:Array Value) (T:Nat) :Blk (w.alloc (.cells cs T)) w.heap.size T cs.size:=⟨cs,rfl,heap_alloc_new w _⟩
def Own (w:World) (g n:Nat) (xs:List (Int×Int)) :Prop:=Blk w g 28 (n*2)∧Pts w (some ⟨g,0,none⟩) n xs
theorem Own.over (h:Own w g n xs) (ho:Over w w') :Own w' g n xs:=⟨h.1.over ho,h.2.over ho⟩
theorem Own.far (h:Own w g n xs) {p:Addr} (hp:p.block≠g) (u:Value) :Own (w.setCell p u) g n xs:=by
 obtain ⟨⟨cs,hs,hh⟩,hl,hx⟩ :=h
 refine⟨⟨cs,hs,(Below.heap_setCell w p u g (Ne.symm hp)).trans hh⟩,hl,fun hn=> ?_⟩
 obtain ⟨b,o,hA,hlt,hc⟩ :=hx hn
 have hb:b=g:=by injection hA with hA;injection hA with hA;exact hA.symm
 subst hb
 refine⟨b,o,hA,by simpa [World.setCell] using hlt,fun k hk=>⟨?_,?_⟩⟩
 ·rw [World.cell?_setCell_other _ _ _ _ (fun e=>hp (by rw [e]))];exact(hc k hk).1
 ·rw [World.cell?_setCell_other _ _ _ _ (fun e=>hp (by rw [e]))];exact(hc k hk).2
theorem Pts.at_ {k:Nat} (h:Pts w A n xs) (hk:k<n) :
  ∃b o,A=some ⟨b,o,none⟩∧b<w.heap.size∧w.cell? ⟨b,o+k*2,none⟩ =some (.int .i64 (px xs k))∧w.cell? ⟨b,o+k*2+1,none⟩ =some (.int .i64 (py xs k)) :=by
 obtain ⟨b,o,hA,hb,hc⟩ :=h.2 Om
 exact⟨b,o,hA,hb,hc k hk⟩
def Zn (l:Int) (n:Nat) :Int:=if(n:Int)≤l then l- n else-1
theorem Di (A:Option Addr) (n c:Nat) (l:Int) (w:World) (hl:0≤l) (hl':l≤1048576) (hn: (n:Int)≤9223372036854775807) :
  Calls Tryz.prog 28 #[.slice A n c, .int .i64 l] w fun e w'=>e= .returned (.int .i64 (Zn l n))∧w=w':=by
 by_cases h: (n:Int)≤l
 ·have hv:Hid (Zn l n=l- n) :=by unfold Hid Zn;rw [if_pos h]
  go_enter Tryz.func28,Tryz.ntmps28
  go_wp2
  go_ret
  exact⟨by rw [hv.out];rfl,rfl⟩
 ·have hv:Hid (Zn l n= -1) :=by unfold Hid Zn;rw [if_neg h]
  go_enter Tryz.func28,Tryz.ntmps28
  go_wp2
  go_ret
  exact⟨by rw [hv.out];rfl,rfl⟩
theorem TI (A:Option Addr) (n c:Nat) (l:Int) (w:World) (hl:0≤l) (hl':l≤1048576) (hn: (n:Int)≤9223372036854775807) :
  Calls Tryz.prog 129 #[.agg #[.slice A n c], .int .i64 l] w fun e w'=>e= .returned (.int .i64 (Zn l n))∧Over w w':=by
 by_cases h: (n:Int)≤l
 ·have hv:Zn l n=l- n:=by unfold Zn;rw [if_pos h]
  go_enter Tryz.func129,Tryz.ntmps129
  go_wp2_with (go_at_call 28;refine(Di _ _ _ _ _ hl hl' hn).mono ?_;rintro e w1 ⟨rfl,rfl⟩)
  go_ret
  exact⟨by rw [hv];rfl,ov9⟩
 ·have hv:Zn l n= -1:=by unfold Zn;rw [if_neg h]
  go_enter Tryz.func129,Tryz.ntmps129
  go_wp2_with (go_at_call 28;refine(Di _ _ _ _ _ hl hl' hn).mono ?_;rintro e w1 ⟨rfl,rfl⟩)
  go_ret
  exact⟨by rw [hv];rfl,ov9⟩
theorem jfp: (Tryz.prog.info? 28).map (fun i=> (i.zero,i.size,i.bytes)) =some (some (.agg #[.int .i64 0, .int .i64 0]),2,16) :=by kernel_rfl
theorem WY {P:Program} {e:TypeId} {z:Value} {s b:Nat} (h: (P.info? e).map (fun i=> (i.zero,i.size,i.bytes)) =some (some z,s,b)) :∃i,P.info? e=some i∧i.zero=some z∧i.size=s∧i.bytes=b:=by
 cases hi:P.info? e with
 | none=>simp [hi] at h
 | some i=>
  simp only [hi,jh6,Option.some.injEq,Prod.mk.injEq] at h
  exact⟨i,rfl,h.1,h.2.1,h.2.2⟩
def Filled (w:World) (g k:Nat) (xs:List (Int×Int)) :Prop:=∀j,j<k→w.cell? ⟨g,j*2,none⟩ =some (.int .i64 (px xs j))∧w.cell? ⟨g,j*2+1,none⟩ =some (.int .i64 (py xs j))
theorem Filled.over {k:Nat} (h:Filled w g k xs) (hg:g<w.heap.size) (ho:Over w w') :Filled w' g k xs:=
 fun j hj=>⟨((Jt ho).1 g _ hg).trans (h j hj).1,((Jt ho).1 g _ hg).trans (h j hj).2⟩
theorem Filled.step {k:Nat} (h:Filled w g k xs) (hb:Blk w g T m) (hk:k*2+1<m) :
  Filled ((w.setCell ⟨g,k*2,none⟩ (.int .i64 (px xs k))).setCell ⟨g,k*2+1,none⟩ (.int .i64 (py xs k))) g (k+1) xs:=by
 obtain ⟨u,hu⟩ :=hb.cell (i:=k*2) Om
 obtain ⟨v,hv⟩ := (hb.set_ (k*2) (.int .i64 (px xs k))).cell (i:=k*2+1) hk
 intro j hj
 by_cases hjk:j=k
 ·subst hjk
  refine⟨?_,World.cell?_setCell_same _ _ _ hv⟩
  rw [World.cell?_setCell_other _ _ _ _ (by simp)]
  exact World.cell?_setCell_same _ _ _ hu
 ·have:=h j Om
  refine⟨?_,?_⟩
  ·rw [World.cell?_setCell_other _ _ _ _ (by simp<;>omega),World.cell?_setCell_other _ _ _ _ (by simp<;>omega)];exact this.1
  ·rw [World.cell?_setCell_other _ _ _ _ (by simp<;>omega),World.cell?_setCell_other _ _ _ _ (by simp<;>omega)];exact this.2
theorem Filled.own (h:Filled w g n xs) (hb:Blk w g 28 (n*2)) (hn:xs.length=n) :Own w g n xs:=
 ⟨hb,hn,fun _=>⟨g,0,rfl,hb.lt,fun k hk=>by rw [jgT];exact h k hk⟩⟩
set_option maxHeartbeats 400000 in
theorem Eh (A:Option Addr) (n c:Nat) (xs:List (Int×Int)) (w:World) (h:Pts w A n xs) (hn: (n:Int)≤1048576) :
  Calls Tryz.prog 31 #[.slice A n c] w fun e w'=>∃g,e= .returned (.slice (some ⟨g,0,none⟩) n n)∧w.heap.size≤g∧Own w' g n xs∧Over w w':=by
 obtain ⟨i0,hi,hz0,hz1,hz2⟩ :=WY jfp
 have hmk:∀w:World,(Instr.makeSlice 58 (.int .i64 (n:Int)) (.int .i64 (n:Int))).run Tryz.prog w= .ok (.slice (some ⟨w.heap.size,0,none⟩) n n) (w.alloc (.cells (madeCells (Value.agg #[.int .i64 0, .int .i64 0]).cells (n*2)) 28)) :=by
  intro w
  have:=run_make (P:=Tryz.prog) w 58 28 i0 _ Tryz.underlying58 hi hz0 .i64 .i64 n n Om Om (by rw [hz2];omega) Om
  rw [hz1] at this
  simpa using this
 clear hi hz0 hz1 hz2
 go_enter Tryz.func31,Tryz.ntmps31
 go_wp2
 have hblk0:=Blk.new w (madeCells (Value.agg #[.int .i64 0, .int .i64 0]).cells (n*2)) 28
 rw [size_madeCells] at hblk0
 have HB:=Lib.hid hblk0
 clear hblk0 hmk
 go_loopw [4] (fun i wr=>∃k:Nat,k≤n∧i= .int .i64 k∧Over w wr∧Blk wr w.heap.size 28 (n*2)∧Filled wr w.heap.size k xs) (fun i _=>n- (intOf i).toNat)
 case atStart=>exact⟨0,jgw _,rfl,ov9,HB.out,fun j hj=>absurd hj Om⟩
 case round=>
  rename_i wr
  obtain ⟨k,hk,rfl,hO,hblk,hfil⟩ :=hrel
  clear HB
  have hlen:=Lib.hid h.1
  by_cases hlt:k<n
  ·obtain ⟨b,o,rfl,hbB,hc1,hc2⟩ := (h.over hO).at_ hlt
   clear h
   have Hblk:=Lib.hid hblk
   have Hfil:=Lib.hid hfil
   clear hblk hfil
   go_wp2_with (go_at_call 83;refine(jcm _ _ _).mono ?_;rintro e wx ⟨rfl,hb⟩;have hblk:=Hblk.out.over hb;obtain ⟨u1,hu1⟩ :=hblk.cell (i:=k*2) Om;obtain ⟨u2,hu2⟩ :=hblk.cell (i:=k*2+1) Om;have hf1:=hblk.frozen (k*2);have hf2:=hblk.frozen (k*2+1);have hblk':=Lib.hid hblk;clear hblk)
   go_roundw
   case rel=>exact⟨k+1,by omega,by go_num,ov9,(hblk'.out.set_ _ _).set_ _ _,(Hfil.out.over Hblk.out.lt hb).step hblk'.out Om⟩
   case measure=>simp [intOf];omega
  ·have hkn:k=n:=by omega
   have Hblk:=Lib.hid hblk
   have Hfil:=Lib.hid hfil
   clear hblk hfil h
   go_wp2
   go_ret
   exact⟨w.heap.size,rfl,jgx _,Filled.own (hkn▸Hfil.out) Hblk.out hlen.out,hO⟩
abbrev Uv (A:Option Addr) (n c:Nat) :Value:= .agg #[.slice A n c]
set_option maxHeartbeats 400000 in
theorem TM (A:Option Addr) (n c:Nat) (xs:List (Int×Int)) (w:World) (h:Pts w A n xs) (hn: (n:Int)≤1048576) :
  Calls Tryz.prog 132 #[Uv A n c] w fun e w'=>∃g,e= .returned (Uv (some ⟨g,0,none⟩) n n)∧w.heap.size≤g∧Own w' g n xs∧Over w w':=by
 go_enter Tryz.func132,Tryz.ntmps132
 go_wp2_with (go_at_call 31;refine(Eh _ _ _ xs _ (h.over ov9) hn).mono ?_;rintro e wx ⟨g,rfl,hg,hown,hO⟩;obtain ⟨hc,hf⟩ :=Jt hO;have hz0:w.heap.size<wx.heap.size:=jgA (by simp<;>omega) (Over.size hO);have hz1:w.heap.size+1<wx.heap.size:=jgA (by simp<;>omega) (Over.size hO);have hz2:w.heap.size+1+1<wx.heap.size:=jgA (by simp<;>omega) (Over.size hO))
 have hg':w.heap.size+1+1+1≤g:=by simpa using hg
 exact bodyPost_ret (v:=Uv (some ⟨g,0,none⟩) n n) (by simp [results,Tryz.results132,go_sem, *]) rfl ⟨g,rfl,by omega,(hown.far (by simp;omega) _).far (by simp;omega) _,ov9⟩
def uA (xs:List (Int×Int)) :Bool:=xs.all fun p=>wF p.1 p.2
def qG (xs:List (Int×Int)) :Bool:=Z7 (xs.length:Int) 1 400&&uA xs
set_option maxHeartbeats 400000 in
theorem Ze (A:Option Addr) (n c:Nat) (xs:List (Int×Int)) (w:World) (h:Pts w A n xs) (hn: (n:Int)≤1048577) :
  Calls Tryz.prog 135 #[.slice A n c] w fun e w'=>e= .returned (.bool (uA xs))∧Over w w':=by
 go_enter Tryz.func135,Tryz.ntmps135
 go_wp2
 go_loopw [3] (fun i wr=>∃k:Nat,k≤n∧i= .int .i64 k∧Over w wr∧Hid ((xs.take k).all (fun p=>wF p.1 p.2) =true)) (fun i _=>n- (intOf i).toNat)
 case atStart=>exact⟨0,jgw _,rfl,Over.refl _,by simp [Hid]⟩
 case round=>
  rename_i wr
  obtain ⟨k,hk,rfl,hb,hall⟩ :=hrel
  by_cases hlt:k<n
  ·obtain ⟨b,o,rfl,hbB,hc1,hc2⟩ := (h.over hb).at_ hlt
   have hlen:k<xs.length:=by have:=h.1;omega
   by_cases hok:wF (px xs k) (py xs k) =true
   ·have hs:Hid ((xs.take (k+1)).all (fun p=>wF p.1 p.2) =true) :=by
     have:=hall.out
     unfold Hid
     rw [jgE hlen,List.all_append,this,yq hlen]
     simp [hok]
    clear hall h
    go_wp2_with (go_at_call 65;refine(Bz _ _ _).mono ?_;rintro e w1 ⟨rfl,hb1⟩)
    go_roundw
    case rel=>exact⟨k+1,by omega,by go_num,ov9,hs⟩
    case measure=>simp [intOf];omega
   ·have hok':wF (px xs k) (py xs k) =false:=by simpa using hok
    clear hok
    have hs:Hid (uA xs=false) :=by
     unfold Hid uA
     rw [List.all_eq_false]
     exact⟨xs[k],jgH hlen,by rw [yq hlen];simp [hok']⟩
    clear hall h
    go_wp2_with (go_at_call 65;refine(Bz _ _ _).mono ?_;rintro e w1 ⟨rfl,hb1⟩)
    go_ret
    exact⟨by rw [hs.out];rfl,ov9⟩
  ·have hs:Hid (uA xs=true) :=by
    have:=hall.out
    rw [jgR (by have:=h.1;omega)] at this
    exact this
   clear hall h
   go_wp2
   go_ret
   exact⟨by rw [hs.out];rfl,hb⟩
set_option maxHeartbeats 400000 in
theorem ST (A:Option Addr) (n c:Nat) (xs:List (Int×Int)) (w:World) (h:Pts w A n xs) (hn: (n:Int)≤1048577) :
  Calls Tryz.prog 152 #[.slice A n c] w fun e w'=>e= .returned (.bool (qG xs))∧Over w w':=by
 have hl:=h.1
 by_cases h1: (1:Int)≤n
 ·by_cases h2: (n:Int)≤400
  ·have hv:Hid (qG xs=uA xs) :=by simp [Hid,qG,Z7,hl,h2];omega
   clear hl
   go_enter Tryz.func152,Tryz.ntmps152
   go_wp2_with (go_at_call 141;refine(Xv _ _ _ _ _ h (jhA h2 Dc)).mono ?_;rintro e w1 ⟨rfl,hb1⟩)
   go_ret
   exact⟨by rw [hv.out];rfl,ov9⟩
  ·have hv:Hid (qG xs=false) :=by simp [Hid,qG,Z7,hl];omega
   clear hl
   go_enter Tryz.func152,Tryz.ntmps152
   go_wp2
   go_ret
   exact⟨by rw [hv.out];rfl,ov9⟩
 ·have hv:Hid (qG xs=false) :=by simp [Hid,qG,Z7,hl];omega
  clear hl
  go_enter Tryz.func152,Tryz.ntmps152
  go_wp2
  go_ret
  exact⟨by rw [hv.out];rfl,ov9⟩
set_option maxHeartbeats 400000 in
theorem z8 (A:Option Addr) (n c:Nat) (xs:List (Int×Int)) (w:World) (h:Pts w A n xs) (hn: (n:Int)≤1048577) :
  Calls Tryz.prog 97 #[Uv A n c] w fun e w'=>e= .returned (.bool (qG xs))∧Over w w':=by
 go_enter Tryz.func97,Tryz.ntmps97
 go_wp2_with (go_at_call 152;refine(ST _ _ _ xs _ (h.over ov9) hn).mono ?_;rintro e w1 ⟨rfl,hb1⟩)
 go_ret
 exact⟨rfl,ov9⟩
set_option maxHeartbeats 400000 in
theorem GO (b o:Nat) (A:Option Addr) (n c:Nat) (xs:List (Int×Int)) (w:World) (hc:w.cell? ⟨b,o,none⟩ =some (.slice A n c)) (h:Pts w A n xs) (hn: (n:Int)≤1048577) :
  Calls Tryz.prog 95 #[.pointer (some ⟨b,o,none⟩)] w fun e w'=>e= .returned (.bool (qG xs))∧Over w w':=by
 have hl:=h.1
 cases h1:Z7 (n:Int) 1 400
 ·have hv:Hid (qG xs=false) :=by unfold Hid qG;rw [hl,h1];rfl
  clear hl
  go_enter Tryz.func95,Tryz.ntmps95
  go_wp2_with (go_at_call 124;refine(U1 _ _ _ _).mono ?_;rintro e w1 ⟨rfl,rfl⟩)
  go_ret
  exact⟨by rw [hv.out];rfl,ov9⟩
 ·have hv:Hid (qG xs=uA xs) :=by unfold Hid qG;rw [hl,h1];rfl
  clear hl
  go_enter Tryz.func95,Tryz.ntmps95
  go_wp2_with (first | (go_at_call 124;refine(U1 _ _ _ _).mono ?_;rintro e w1 ⟨rfl,rfl⟩) | (go_at_call 135;refine(Ze _ _ _ _ _ h hn).mono ?_;rintro e w1 ⟨rfl,hb1⟩))
  go_ret
  exact⟨by rw [hv.out];rfl,ov9⟩
set_option maxHeartbeats 400000 in
set_option maxRecDepth 100000 in
theorem SK (A B:Option Addr) (n c d:Nat) (xs:List (Int×Int)) (w:World) (h:Pts w A n xs) (h':Pts w B n xs) (hn: (n:Int)≤1048576) :
  Calls Tryz.prog 34 #[.slice A n c, .slice B n d] w fun e w'=>e= .returned (.bool true)∧Over w w':=by
 have hq: ((n:Int) != (n:Int)) =false:=by simp
 go_enter Tryz.func34,Tryz.ntmps34
 go_wp2
 go_loopw [5] (fun i wr=>∃k:Nat,k≤n∧i= .int .i64 k∧Over w wr) (fun i _=>n- (intOf i).toNat)
 case atStart=>exact⟨0,jgw _,rfl,Over.refl _⟩
 case round=>
  rename_i wr
  obtain ⟨k,hk,rfl,hb⟩ :=hrel
  by_cases hlt:k<n
  ·obtain ⟨b,o,rfl,hbB,hc1,hc2⟩ := (h.over hb).at_ hlt
   obtain ⟨b',o',rfl,hbB',hc1',hc2'⟩ := (h'.over hb).at_ hlt
   clear h h'
   go_wp2
   refine Q0 (B:=ob _) (Over.refl _) Kr (by simp only [jhk,jgD,jgY,Nat.reduceAdd];rfl) (fun hBW=> ?_);refine i8 0 ?_;refine i8 1 ?_;refine i8 2 ?_;refine i8 3 ?_;refine i8 4 ?_;refine i8 5 ?_;refine i8 6 ?_;refine i8 7 ?_;refine w9 8 (hy:=fun wx hS=>by(go_simp;refine(jad _ _ _ _ _).mono ?_;simp only [beq_self_eq_true,Bool.and_self];rintro e w1 ⟨rfl,hb1⟩;exact⟨rfl,hb1⟩)) (h:= ?_)
   simp only [Act.put,qE,jP,jQ]
   refine i8 9 ?_
   refine QZ Kr (fun w2 h2=> ?_) _
   try clear hBW
   go_wp2
   go_roundw
   case rel=>exact⟨k+1,by omega,by go_num,ov9⟩
   case measure=>simp [intOf];omega
  ·clear h h'
   go_wp2
   go_ret
   exact⟨rfl,ov9⟩
set_option maxHeartbeats 400000 in
theorem IZ (A B:Option Addr) (n c d:Nat) (xs:List (Int×Int)) (w:World) (h:Pts w A n xs) (h':Pts w B n xs) (hn: (n:Int)≤1048576) :
  Calls Tryz.prog 133 #[Uv A n c,Uv B n d] w fun e w'=>e= .returned (.bool true)∧Over w w':=by
 go_enter Tryz.func133,Tryz.ntmps133
 go_wp2_with (go_at_call 34;refine(SK _ _ _ _ _ xs _ (h.over ov9) (h'.over ov9) hn).mono ?_;rintro e w1 ⟨rfl,hb1⟩)
 go_ret
 exact⟨rfl,ov9⟩
end Go.Proofs.YtbahojdbmmjkcaaGreat
namespace Go.Proofs.YtbahojdbmmjkcaaGreat
open Go.RowKit
theorem vX (a b:Int) (w:World) :
  Calls Tryz.prog 151 #[.int .i64 a, .int .i64 b] w fun e w'=>e= .returned (.int .i64 (max a b))∧w=w':=by
 by_cases h1:b<a
 ·have hv:Hid (max a b=a) :=by unfold Hid;omega
  go_enter Tryz.func151,Tryz.ntmps151
  go_wp2
  go_ret
  exact⟨by rw [hv.out];rfl,rfl⟩
 ·have hv:Hid (max a b=b) :=by unfold Hid;omega
  go_enter Tryz.func151,Tryz.ntmps151
  go_wp2
  go_ret
  exact⟨by rw [hv.out];rfl,rfl⟩
theorem Qr {a b A B:Int} (ha: -A≤a) (ha':a≤A) (hb: -B≤b) (hb':b≤B) : -(A*B)≤a*b∧a*b≤A*B:=by
 have hA:0≤A:=by omega
 have hB:0≤B:=by omega
 have h1: (a*b).natAbs≤(A*B).natAbs:=by
  rw [Int.natAbs_mul,Int.natAbs_mul]
  exact Nat.mul_le_mul Om Om
 have h2:0≤A*B:=jg9 hA hB
 omega
end Go.Proofs.YtbahojdbmmjkcaaGreat
