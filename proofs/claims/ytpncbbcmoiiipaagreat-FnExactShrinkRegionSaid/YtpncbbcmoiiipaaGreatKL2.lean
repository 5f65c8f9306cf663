import Derived.Test.YtpncbbcmoiiipaaGreatKMem
import Derived.Test.YtpncbbcmoiiipaaGreatKReg
set_option linter.unusedVariables false
set_option linter.unusedSimpArgs false
namespace Go.Proofs.YtpncbbcmoiiipaaGreat
open Go.RowKit
def wt (n:Int) :Int:=if n<0 then-1 else if 0<n then 1 else 0
def xZ (n lo hi:Int) :Bool:=decide (lo≤n) &&decide (n≤hi)
def wR (x y:Int) :Bool:=xZ x (-262144) 262144&&xZ y (-262144) 262144
theorem Kv (n:Int) (w:World) :
  Calls Tryz.prog 202 #[.int .i64 n] w fun e w'=>e= .returned (.int .i64 (wt n))∧w=w':=by
 by_cases h1:n<0
 ·have hv:Hid (wt n= -1) :=by simp [Hid,wt,h1]
  go_enter Tryz.func202,Tryz.ntmps202
  go_wp2
  go_ret
  exact⟨by rw [hv.out];rfl,rfl⟩
 ·by_cases h2:0<n
  ·have hv:Hid (wt n=1) :=by simp [Hid,wt,h1,h2]
   go_enter Tryz.func202,Tryz.ntmps202
   go_wp2
   go_ret
   exact⟨by rw [hv.out];rfl,rfl⟩
  ·have hv:Hid (wt n=0) :=by simp [Hid,wt,h1,h2]
   go_enter Tryz.func202,Tryz.ntmps202
   go_wp2
   go_ret
   exact⟨by rw [hv.out];rfl,rfl⟩
theorem yL (n lo hi:Int) (w:World) :
  Calls Tryz.prog 134 #[.int .i64 n, .int .i64 lo, .int .i64 hi] w fun e w'=>e= .returned (.bool (xZ n lo hi))∧w=w':=by
 by_cases h1:lo≤n
 ·have hv:Hid (xZ n lo hi=decide (n≤hi)) :=by simp [Hid,xZ,h1]
  go_enter Tryz.func134,Tryz.ntmps134
  go_wp2
  go_ret
  exact⟨by rw [hv.out];rfl,rfl⟩
 ·have hv:Hid (xZ n lo hi=false) :=by simp [Hid,xZ,h1]
  go_enter Tryz.func134,Tryz.ntmps134
  go_wp2
  go_ret
  exact⟨by rw [hv.out];rfl,rfl⟩
set_option maxHeartbeats 400000 in
theorem GS (x y:Int) (w:World) :
  Calls Tryz.prog 92 #[uS x y] w fun e w'=>e= .returned (.bool (wR x y))∧Over w w':=by
 by_cases h1:xZ x (-262144) 262144=true
 ·have hv:Hid (wR x y=xZ y (-262144) 262144) :=by simp [Hid,wR,h1]
  go_enter Tryz.func92,Tryz.ntmps92
  go_wp2_with (go_at_call 134;refine(yL _ _ _ _).mono ?_;rintro e w' ⟨rfl,rfl⟩)
  go_ret
  exact⟨by rw [hv.out];rfl,ov9⟩
 ·have h1':xZ x (-262144) 262144=false:=by simpa using h1
  clear h1
  have hv:Hid (wR x y=false) :=by simp [Hid,wR,h1']
  go_enter Tryz.func92,Tryz.ntmps92
  go_wp2_with (go_at_call 134;refine(yL _ _ _ _).mono ?_;rintro e w' ⟨rfl,rfl⟩)
  go_ret
  exact⟨by rw [hv.out];rfl,ov9⟩
set_option maxHeartbeats 400000 in
theorem jpp (x y:Int) (w:World) :
  Calls Tryz.prog 66 #[uS x y] w fun e w'=>e= .returned (uS x y)∧Over w w':=by
 go_enter Tryz.func66,Tryz.ntmps66
 go_wp2
 exact bodyPost_ret (v:=uS x y) (by simp [results,Tryz.results66,go_sem, *]) rfl ⟨rfl,ov9⟩
set_option maxHeartbeats 400000 in
theorem HM (x y:Int) (w:World) :
  Calls Tryz.prog 231 #[uS x y] w fun e w'=>e= .returned (.bool (wR x y))∧Over w w':=by
 have hv:Hid (wR x y= (decide (-262144≤x) &&decide (x≤262144) && (decide (-262144≤y) &&decide (y≤262144)))) :=by simp [Hid,wR,xZ]
 by_cases h1: -262144≤x<;>by_cases h2:x≤262144<;>by_cases h3: -262144≤y<;>by_cases h4:y≤262144
 all_goals try(exfalso;omega)
 all_goals
  go_enter Tryz.func231,Tryz.ntmps231
  go_wp2
  go_ret
  exact⟨by rw [hv.out];simp [*];try rfl,ov9⟩
set_option maxHeartbeats 400000 in
theorem IU (A:Option Addr) (n c:Nat) (xs:List (Int×Int)) (w:World) (h:Pts w A n xs) (hn: (n:Int)≤1048576) :
  Calls Tryz.prog 181 #[.slice A n c] w fun e w'=>e= .returned (.bool (xs.all fun p=>wR p.1 p.2))∧Over w w':=by
 go_enter Tryz.func181,Tryz.ntmps181
 go_wp2
 go_loopw [4,7] (fun v i wr=>∃k:Nat,k≤n∧i= .int .i64 k∧Over w wr∧Hid ((xs.take k).all (fun p=>wR p.1 p.2) =true)) (fun _ i _=>n- (intOf i).toNat)
 case atStart=>exact⟨0,jii _,rfl,Over.refl _,by simp [Hid]⟩
 case round=>
  rename_i wr
  obtain ⟨k,hk,rfl,hb,hall⟩ :=hrel
  by_cases hlt:k<n
  ·obtain ⟨b,o,rfl,hbB,hcell⟩ := (h.over hb).2 Om
   obtain ⟨hc1,hc2⟩ :=hcell k hlt
   have hlen:k<xs.length:=by have:=h.1;omega
   by_cases hok:wR (px xs k) (py xs k) =true
   ·have hs:Hid ((xs.take (k+1)).all (fun p=>wR p.1 p.2) =true) :=by
     have:=hall.out
     unfold Hid
     rw [jin hlen,List.all_append,this,yg hlen]
     simp [hok]
    clear hall hcell h
    go_wp2_with (go_at_call 231;refine(HM _ _ _).mono ?_;rintro e w1 ⟨rfl,hb1⟩)
    go_roundw
    case rel=>exact⟨k+1,by omega,by go_num,ov9,hs⟩
    case measure=>simp [intOf];omega
   ·have hok':wR (px xs k) (py xs k) =false:=by simpa using hok
    clear hok
    have hs:Hid (xs.all (fun p=>wR p.1 p.2) =false) :=by
     unfold Hid
     rw [List.all_eq_false]
     exact⟨xs[k],jis hlen,by rw [yg hlen];simp [hok']⟩
    clear hall hcell h
    go_wp2_with (go_at_call 231;refine(HM _ _ _).mono ?_;rintro e w1 ⟨rfl,hb1⟩)
    go_ret
    exact⟨by rw [hs.out];rfl,ov9⟩
  ·have hs:Hid (xs.all (fun p=>wR p.1 p.2) =true) :=by
    have:=hall.out
    rw [jiK (by have:=h.1;omega)] at this
    exact this
   clear hall h
   go_wp2
   go_ret
   exact⟨by rw [hs.out];rfl,hb⟩
theorem joZ (ax ay bx b_y:Int) (w:World) :
  Calls Tryz.prog 69 #[uS ax ay,uS bx b_y] w fun e w'=>e= .returned (.bool (ax==bx&&ay==b_y))∧Over w w':=by
 cases h1: (ax==bx)
 all_goals
  have h1': (ax !=bx) = !(ax==bx) :=rfl
  rw [h1] at h1'
  cases h2: (ay==b_y)
 all_goals
  have h2': (ay !=b_y) = !(ay==b_y) :=rfl
  rw [h2] at h2'
  clear h1 h2
  go_enter Tryz.func69,Tryz.ntmps69
  go_wp2
  go_ret
  exact⟨rfl,ov9⟩
end Go.Proofs.YtpncbbcmoiiipaaGreat
namespace Go.Proofs.YtpncbbcmoiiipaaGreat
open Go Go.RowKit
def Blk (w:World) (g T m:Nat) :Prop:=∃cs:Array Value,cs.size=m∧w.heap[g]? =some (.cells cs T (0,0))
theorem Blk.lt {w:World} {g T m:Nat} (h:Blk w g T m) :g<w.heap.size:=by
 obtain ⟨cs,_,hh⟩ :=h
 rcases jjk g w.heap.size with h | h
 ·exact h
 ·rw [Array.getElem?_eq_none h] at hh;cases hh
theorem Blk.over {w w':World} {g T m:Nat} (h:Blk w g T m) (ho:Over w w') :Blk w' g T m:=by
 have hl:=h.lt
 obtain ⟨cs,hs,hh⟩ :=h
 exact⟨cs,hs,(ho.out.block g hl).trans hh⟩
theorem Blk.cell {w:World} {g T m i:Nat} (h:Blk w g T m) (hi:i<m) :∃u,w.cell? ⟨g,i,none⟩ =some u:=by
 obtain ⟨cs,hs,hh⟩ :=h
 exact⟨_,(cell_of_row w g i cs T (0,0) hh).trans (Array.getElem?_eq_getElem Om)⟩
theorem Blk.frozen {w:World} {g T m:Nat} (h:Blk w g T m) (i:Nat) :w.frozen? ⟨g,i,none⟩ =false:=by
 obtain ⟨cs,hs,hh⟩ :=h
 simp [World.frozen?,hh]
theorem Blk.set_ {w:World} {g T m:Nat} (h:Blk w g T m) (i:Nat) (u:Value) :Blk (w.setCell ⟨g,i,none⟩ u) g T m:=by
 obtain ⟨cs,hs,hh⟩ :=h
 refine⟨cs.setIfInBounds i u,by simpa using hs,?_⟩
 simp [World.setCell,Array.getElem?_modify,hh]
theorem Blk.new (w:World) (cs:Array Value) (T:Nat) :Blk (w.alloc (.cells cs T)) w.heap.size T cs.size:=⟨cs,rfl,heap_alloc_new w _⟩
def Own (w:World) (g n:Nat) (xs:List (Int×Int)) :Prop:=Blk w g 56 (n*2)∧Pts w (some ⟨g,0,none⟩) n xs
theorem Own.over {w w':World} {g n:Nat} {xs:List (Int×Int)} (h:Own w g n xs) (ho:Over w w') :Own w' g n xs:=⟨h.1.over ho,h.2.over ho⟩
theorem Own.far {w:World} {g n:Nat} {xs:List (Int×Int)} (h:Own w g n xs) {p:Addr} (hp:p.block≠g) (u:Value) :Own (w.setCell p u) g n xs:=by
 obtain ⟨⟨cs,hs,hh⟩,hl,hx⟩ :=h
 refine⟨⟨cs,hs,(Below.heap_setCell w p u g (Ne.symm hp)).trans hh⟩,hl,fun hn=> ?_⟩
 obtain ⟨b,o,hA,hlt,hc⟩ :=hx hn
 have hb:b=g:=by injection hA with hA;injection hA with hA;exact hA.symm
 subst hb
 refine⟨b,o,hA,by simpa [World.setCell] using hlt,fun k hk=>⟨?_,?_⟩⟩
 ·rw [World.cell?_setCell_other _ _ _ _ (fun e=>hp (by rw [e]))];exact(hc k hk).1
 ·rw [World.cell?_setCell_other _ _ _ _ (fun e=>hp (by rw [e]))];exact(hc k hk).2
theorem Pts.at_ {w:World} {A:Option Addr} {n k:Nat} {xs:List (Int×Int)} (h:Pts w A n xs) (hk:k<n) :
  ∃b o,A=some ⟨b,o,none⟩∧b<w.heap.size∧w.cell? ⟨b,o+k*2,none⟩ =some (.int .i64 (px xs k))∧w.cell? ⟨b,o+k*2+1,none⟩ =some (.int .i64 (py xs k)) :=by
 obtain ⟨b,o,hA,hb,hc⟩ :=h.2 Om
 exact⟨b,o,hA,hb,hc k hk⟩
def szV (l:Int) (n:Nat) :Int:=if(n:Int)≤l then l- n else-1
theorem jkE (A:Option Addr) (n c:Nat) (l:Int) (w:World) (hl:0≤l) (hl':l≤1048576) (hn: (n:Int)≤9223372036854775807) :
  Calls Tryz.prog 12 #[.slice A n c, .int .i64 l] w fun e w'=>e= .returned (.int .i64 (szV l n))∧w=w':=by
 by_cases h: (n:Int)≤l
 ·have hv:Hid (szV l n=l- n) :=by unfold Hid szV;rw [if_pos h]
  go_enter Tryz.func12,Tryz.ntmps12
  go_wp2
  go_ret
  exact⟨by rw [hv.out];rfl,rfl⟩
 ·have hv:Hid (szV l n= -1) :=by unfold Hid szV;rw [if_neg h]
  go_enter Tryz.func12,Tryz.ntmps12
  go_wp2
  go_ret
  exact⟨by rw [hv.out];rfl,rfl⟩
theorem jok (A:Option Addr) (n c:Nat) (l:Int) (w:World) (hl:0≤l) (hl':l≤1048576) (hn: (n:Int)≤9223372036854775807) :
  Calls Tryz.prog 133 #[.agg #[.slice A n c], .int .i64 l] w fun e w'=>e= .returned (.int .i64 (szV l n))∧Over w w':=by
 by_cases h: (n:Int)≤l
 ·have hv:szV l n=l- n:=by unfold szV;rw [if_pos h]
  go_enter Tryz.func133,Tryz.ntmps133
  go_wp2_with (go_at_call 12;refine(jkE _ _ _ _ _ hl hl' hn).mono ?_;rintro e w1 ⟨rfl,rfl⟩)
  go_ret
  exact⟨by rw [hv];rfl,ov9⟩
 ·have hv:szV l n= -1:=by unfold szV;rw [if_neg h]
  go_enter Tryz.func133,Tryz.ntmps133
  go_wp2_with (go_at_call 12;refine(jkE _ _ _ _ _ hl hl' hn).mono ?_;rintro e w1 ⟨rfl,rfl⟩)
  go_ret
  exact⟨by rw [hv];rfl,ov9⟩
theorem jpS: (Tryz.prog.info? 56).map (fun i=> (i.zero,i.size,i.bytes)) =some (some (.agg #[.int .i64 0, .int .i64 0]),2,16) :=by kernel_rfl
theorem U1 {P:Program} {e:TypeId} {z:Value} {s b:Nat} (h: (P.info? e).map (fun i=> (i.zero,i.size,i.bytes)) =some (some z,s,b)) :∃i,P.info? e=some i∧i.zero=some z∧i.size=s∧i.bytes=b:=by
 cases hi:P.info? e with
 | none=>simp [hi] at h
 | some i=>
  simp only [hi,jj4,Option.some.injEq,Prod.mk.injEq] at h
  exact⟨i,rfl,h.1,h.2.1,h.2.2⟩
def Filled (w:World) (g k:Nat) (xs:List (Int×Int)) :Prop:=∀j,j<k→w.cell? ⟨g,j*2,none⟩ =some (.int .i64 (px xs j))∧w.cell? ⟨g,j*2+1,none⟩ =some (.int .i64 (py xs j))
theorem Filled.over {w w':World} {g k:Nat} {xs:List (Int×Int)} (h:Filled w g k xs) (hg:g<w.heap.size) (ho:Over w w') :Filled w' g k xs:=
 fun j hj=>⟨((Jy ho).1 g _ hg).trans (h j hj).1,((Jy ho).1 g _ hg).trans (h j hj).2⟩
theorem Filled.step {w:World} {g k m T:Nat} {xs:List (Int×Int)} (h:Filled w g k xs) (hb:Blk w g T m) (hk:k*2+1<m) :
  Filled ((w.setCell ⟨g,k*2,none⟩ (.int .i64 (px xs k))).setCell ⟨g,k*2+1,none⟩ (.int .i64 (py xs k))) g (k+1) xs:=by
 obtain ⟨u,hu⟩ :=hb.cell (i:=k*2) Om
 obtain ⟨v,hv⟩ := (hb.set_ (k*2) (.int .i64 (px xs k))).cell (i:=k*2+1) hk
 intro j hj
 by_cases hjk:j=k
 ·subst hjk
  refine⟨?_,World.cell?_setCell_same _ _ _ hv⟩
  rw [World.cell?_setCell_other _ _ _ _ (by simp)]
  exact World.cell?_setCell_same _ _ _ hu
 ·have:=h j Om
  refine⟨?_,?_⟩
  ·rw [World.cell?_setCell_other _ _ _ _ (by simp<;>omega),World.cell?_setCell_other _ _ _ _ (by simp<;>omega)];exact this.1
  ·rw [World.cell?_setCell_other _ _ _ _ (by simp<;>omega),World.cell?_setCell_other _ _ _ _ (by simp<;>omega)];exact this.2
theorem Filled.own {w:World} {g n:Nat} {xs:List (Int×Int)} (h:Filled w g n xs) (hb:Blk w g 56 (n*2)) (hn:xs.length=n) :Own w g n xs:=
 ⟨hb,hn,fun _=>⟨g,0,rfl,hb.lt,fun k hk=>by rw [jiL];exact h k hk⟩⟩
set_option maxHeartbeats 400000 in
theorem jno (A:Option Addr) (n c:Nat) (xs:List (Int×Int)) (w:World) (h:Pts w A n xs) (hn: (n:Int)≤1048576) :
  Calls Tryz.prog 14 #[.slice A n c] w fun e w'=>∃g,e= .returned (.slice (some ⟨g,0,none⟩) n n)∧w.heap.size≤g∧Own w' g n xs∧Over w w':=by
 obtain ⟨i0,hi,hz0,hz1,hz2⟩ :=U1 jpS
 have hmk:∀w:World,(Instr.makeSlice 29 (.int .i64 (n:Int)) (.int .i64 (n:Int))).run Tryz.prog w= .ok (.slice (some ⟨w.heap.size,0,none⟩) n n) (w.alloc (.cells (madeCells (Value.agg #[.int .i64 0, .int .i64 0]).cells (n*2)) 56)) :=by
  intro w
  have:=run_make (P:=Tryz.prog) w 29 56 i0 _ Tryz.underlying29 hi hz0 .i64 .i64 n n Om Om (by rw [hz2];omega) Om
  rw [hz1] at this
  simpa using this
 clear hi hz0 hz1 hz2
 go_enter Tryz.func14,Tryz.ntmps14
 go_wp2
 have hblk0:=Blk.new w (madeCells (Value.agg #[.int .i64 0, .int .i64 0]).cells (n*2)) 56
 rw [size_madeCells] at hblk0
 have HB:=Lib.hid hblk0
 clear hblk0 hmk
 go_loopw [4] (fun i wr=>∃k:Nat,k≤n∧i= .int .i64 k∧Over w wr∧Blk wr w.heap.size 56 (n*2)∧Filled wr w.heap.size k xs) (fun i _=>n- (intOf i).toNat)
 case atStart=>exact⟨0,jii _,rfl,ov9,HB.out,fun j hj=>absurd hj Om⟩
 case round=>
  rename_i wr
  obtain ⟨k,hk,rfl,hO,hblk,hfil⟩ :=hrel
  clear HB
  have hlen:=Lib.hid h.1
  by_cases hlt:k<n
  ·obtain ⟨b,o,rfl,hbB,hc1,hc2⟩ := (h.over hO).at_ hlt
   clear h
   have Hblk:=Lib.hid hblk
   have Hfil:=Lib.hid hfil
   clear hblk hfil
   go_wp2_with (go_at_call 66;refine(jpp _ _ _).mono ?_;rintro e wx ⟨rfl,hb⟩;have hblk:=Hblk.out.over hb;obtain ⟨u1,hu1⟩ :=hblk.cell (i:=k*2) Om;obtain ⟨u2,hu2⟩ :=hblk.cell (i:=k*2+1) Om;have hf1:=hblk.frozen (k*2);have hf2:=hblk.frozen (k*2+1);have hblk':=Lib.hid hblk;clear hblk)
   go_roundw
   case rel=>exact⟨k+1,by omega,by go_num,ov9,(hblk'.out.set_ _ _).set_ _ _,(Hfil.out.over Hblk.out.lt hb).step hblk'.out Om⟩
   case measure=>simp [intOf];omega
  ·have hkn:k=n:=by omega
   have Hblk:=Lib.hid hblk
   have Hfil:=Lib.hid hfil
   clear hblk hfil h
   go_wp2
   go_ret
   exact⟨w.heap.size,rfl,jih _,Filled.own (hkn▸Hfil.out) Hblk.out hlen.out,hO⟩
abbrev Tf (A:Option Addr) (n c:Nat) :Value:= .agg #[.slice A n c]
set_option maxHeartbeats 400000 in
theorem jol (A:Option Addr) (n c:Nat) (xs:List (Int×Int)) (w:World) (h:Pts w A n xs) (hn: (n:Int)≤1048576) :
  Calls Tryz.prog 142 #[Tf A n c] w fun e w'=>∃g,e= .returned (Tf (some ⟨g,0,none⟩) n n)∧w.heap.size≤g∧Own w' g n xs∧Over w w':=by
 go_enter Tryz.func142,Tryz.ntmps142
 go_wp2_with (go_at_call 14;refine(jno _ _ _ xs _ (h.over ov9) hn).mono ?_;rintro e wx ⟨g,rfl,hg,hown,hO⟩;obtain ⟨hc,hf⟩ :=Jy hO;have hz0:w.heap.size<wx.heap.size:=jiu (by simp<;>omega) (Over.size hO);have hz1:w.heap.size+1<wx.heap.size:=jiu (by simp<;>omega) (Over.size hO);have hz2:w.heap.size+1+1<wx.heap.size:=jiu (by simp<;>omega) (Over.size hO))
 have hg':w.heap.size+1+1+1≤g:=by simpa using hg
 exact bodyPost_ret (v:=Tf (some ⟨g,0,none⟩) n n) (by simp [results,Tryz.results142,go_sem, *]) rfl ⟨g,rfl,by omega,(hown.far (by simp;omega) _).far (by simp;omega) _,ov9⟩
def WE (xs:List (Int×Int)) :Bool:=xs.all fun p=>wR p.1 p.2
def QA (xs:List (Int×Int)) :Bool:=xZ (xs.length:Int) 1 400&&WE xs
set_option maxHeartbeats 400000 in
theorem Z1 (A:Option Addr) (n c:Nat) (xs:List (Int×Int)) (w:World) (h:Pts w A n xs) (hn: (n:Int)≤1048577) :
  Calls Tryz.prog 135 #[.slice A n c] w fun e w'=>e= .returned (.bool (WE xs))∧Over w w':=by
 go_enter Tryz.func135,Tryz.ntmps135
 go_wp2
 go_loopw [3] (fun i wr=>∃k:Nat,k≤n∧i= .int .i64 k∧Over w wr∧Hid ((xs.take k).all (fun p=>wR p.1 p.2) =true)) (fun i _=>n- (intOf i).toNat)
 case atStart=>exact⟨0,jii _,rfl,Over.refl _,by simp [Hid]⟩
 case round=>
  rename_i wr
  obtain ⟨k,hk,rfl,hb,hall⟩ :=hrel
  by_cases hlt:k<n
  ·obtain ⟨b,o,rfl,hbB,hc1,hc2⟩ := (h.over hb).at_ hlt
   have hlen:k<xs.length:=by have:=h.1;omega
   by_cases hok:wR (px xs k) (py xs k) =true
   ·have hs:Hid ((xs.take (k+1)).all (fun p=>wR p.1 p.2) =true) :=by
     have:=hall.out
     unfold Hid
     rw [jin hlen,List.all_append,this,yg hlen]
     simp [hok]
    clear hall h
    go_wp2_with (go_at_call 92;refine(GS _ _ _).mono ?_;rintro e w1 ⟨rfl,hb1⟩)
    go_roundw
    case rel=>exact⟨k+1,by omega,by go_num,ov9,hs⟩
    case measure=>simp [intOf];omega
   ·have hok':wR (px xs k) (py xs k) =false:=by simpa using hok
    clear hok
    have hs:Hid (WE xs=false) :=by
     unfold Hid WE
     rw [List.all_eq_false]
     exact⟨xs[k],jis hlen,by rw [yg hlen];simp [hok']⟩
    clear hall h
    go_wp2_with (go_at_call 92;refine(GS _ _ _).mono ?_;rintro e w1 ⟨rfl,hb1⟩)
    go_ret
    exact⟨by rw [hs.out];rfl,ov9⟩
  ·have hs:Hid (WE xs=true) :=by
    have:=hall.out
    rw [jiK (by have:=h.1;omega)] at this
    exact this
   clear hall h
   go_wp2
   go_ret
   exact⟨by rw [hs.out];rfl,hb⟩
set_option maxHeartbeats 400000 in
theorem jmN (A:Option Addr) (n c:Nat) (xs:List (Int×Int)) (w:World) (h:Pts w A n xs) (hn: (n:Int)≤1048577) :
  Calls Tryz.prog 128 #[.slice A n c] w fun e w'=>e= .returned (.bool (QA xs))∧Over w w':=by
 have hl:=h.1
 by_cases h1: (1:Int)≤n
 ·by_cases h2: (n:Int)≤400
  ·have hv:Hid (QA xs=WE xs) :=by simp [Hid,QA,xZ,hl,h2];omega
   clear hl
   go_enter Tryz.func128,Tryz.ntmps128
   go_wp2_with (go_at_call 181;refine(IU _ _ _ _ _ h (jjC h2 Dc)).mono ?_;rintro e w1 ⟨rfl,hb1⟩)
   go_ret
   exact⟨by rw [hv.out];rfl,ov9⟩
  ·have hv:Hid (QA xs=false) :=by simp [Hid,QA,xZ,hl];omega
   clear hl
   go_enter Tryz.func128,Tryz.ntmps128
   go_wp2
   go_ret
   exact⟨by rw [hv.out];rfl,ov9⟩
 ·have hv:Hid (QA xs=false) :=by simp [Hid,QA,xZ,hl];omega
  clear hl
  go_enter Tryz.func128,Tryz.ntmps128
  go_wp2
  go_ret
  exact⟨by rw [hv.out];rfl,ov9⟩
set_option maxHeartbeats 400000 in
theorem jlA (A:Option Addr) (n c:Nat) (xs:List (Int×Int)) (w:World) (h:Pts w A n xs) (hn: (n:Int)≤1048577) :
  Calls Tryz.prog 117 #[Tf A n c] w fun e w'=>e= .returned (.bool (QA xs))∧Over w w':=by
 go_enter Tryz.func117,Tryz.ntmps117
 go_wp2_with (go_at_call 128;refine(jmN _ _ _ xs _ (h.over ov9) hn).mono ?_;rintro e w1 ⟨rfl,hb1⟩)
 go_ret
 exact⟨rfl,ov9⟩
set_option maxHeartbeats 400000 in
theorem H5 (b o:Nat) (A:Option Addr) (n c:Nat) (xs:List (Int×Int)) (w:World) (hc:w.cell? ⟨b,o,none⟩ =some (.slice A n c)) (h:Pts w A n xs) (hn: (n:Int)≤1048577) :
  Calls Tryz.prog 115 #[.pointer (some ⟨b,o,none⟩)] w fun e w'=>e= .returned (.bool (QA xs))∧Over w w':=by
 have hl:=h.1
 cases h1:xZ (n:Int) 1 400
 ·have hv:Hid (QA xs=false) :=by unfold Hid QA;rw [hl,h1];rfl
  clear hl
  go_enter Tryz.func115,Tryz.ntmps115
  go_wp2_with (go_at_call 134;refine(yL _ _ _ _).mono ?_;rintro e w1 ⟨rfl,rfl⟩)
  go_ret
  exact⟨by rw [hv.out];rfl,ov9⟩
 ·have hv:Hid (QA xs=WE xs) :=by unfold Hid QA;rw [hl,h1];rfl
  clear hl
  go_enter Tryz.func115,Tryz.ntmps115
  go_wp2_with (first | (go_at_call 134;refine(yL _ _ _ _).mono ?_;rintro e w1 ⟨rfl,rfl⟩) | (go_at_call 135;refine(Z1 _ _ _ _ _ h hn).mono ?_;rintro e w1 ⟨rfl,hb1⟩))
  go_ret
  exact⟨by rw [hv.out];rfl,ov9⟩
set_option maxHeartbeats 400000 in
set_option maxRecDepth 100000 in
theorem jkF (A B:Option Addr) (n c d:Nat) (xs:List (Int×Int)) (w:World) (h:Pts w A n xs) (h':Pts w B n xs) (hn: (n:Int)≤1048576) :
  Calls Tryz.prog 17 #[.slice A n c, .slice B n d] w fun e w'=>e= .returned (.bool true)∧Over w w':=by
 have hq: ((n:Int) != (n:Int)) =false:=by simp
 go_enter Tryz.func17,Tryz.ntmps17
 go_wp2
 go_loopw [5] (fun i wr=>∃k:Nat,k≤n∧i= .int .i64 k∧Over w wr) (fun i _=>n- (intOf i).toNat)
 case atStart=>exact⟨0,jii _,rfl,Over.refl _⟩
 case round=>
  rename_i wr
  obtain ⟨k,hk,rfl,hb⟩ :=hrel
  by_cases hlt:k<n
  ·obtain ⟨b,o,rfl,hbB,hc1,hc2⟩ := (h.over hb).at_ hlt
   obtain ⟨b',o',rfl,hbB',hc1',hc2'⟩ := (h'.over hb).at_ hlt
   clear h h'
   go_wp2
   refine Kd (B:=ob _) (Over.refl _) Kr (by simp only [jje,jim,jiH,Nat.reduceAdd];rfl) (fun hBW=> ?_);refine i8 0 ?_;refine i8 1 ?_;refine i8 2 ?_;refine i8 3 ?_;refine i8 4 ?_;refine i8 5 ?_;refine i8 6 ?_;refine i8 7 ?_;refine w9 8 (hy:=fun wx hS=>by(go_simp;refine(joZ _ _ _ _ _).mono ?_;simp only [beq_self_eq_true,Bool.and_self];rintro e w1 ⟨rfl,hb1⟩;exact⟨rfl,hb1⟩)) (h:= ?_)
   simp only [Act.put,q7,jP,jQ]
   refine i8 9 ?_
   refine Kc Kr (fun w2 h2=> ?_) _
   try clear hBW
   go_wp2
   go_roundw
   case rel=>exact⟨k+1,by omega,by go_num,ov9⟩
   case measure=>simp [intOf];omega
  ·clear h h'
   go_wp2
   go_ret
   exact⟨rfl,ov9⟩
set_option maxHeartbeats 400000 in
theorem jnI (A B:Option Addr) (n c d:Nat) (xs:List (Int×Int)) (w:World) (h:Pts w A n xs) (h':Pts w B n xs) (hn: (n:Int)≤1048576) :
  Calls Tryz.prog 131 #[Tf A n c,Tf B n d] w fun e w'=>e= .returned (.bool true)∧Over w w':=by
 go_enter Tryz.func131,Tryz.ntmps131
 go_wp2_with (go_at_call 17;refine(jkF _ _ _ _ _ xs _ (h.over ov9) (h'.over ov9) hn).mono ?_;rintro e w1 ⟨rfl,hb1⟩)
 go_ret
 exact⟨rfl,ov9⟩
end Go.Proofs.YtpncbbcmoiiipaaGreat
