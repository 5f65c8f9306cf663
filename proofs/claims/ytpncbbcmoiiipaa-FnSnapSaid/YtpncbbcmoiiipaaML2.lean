import Derived.Test.YtpncbbcmoiiipaaMMem
import Derived.Test.YtpncbbcmoiiipaaMReg
set_option linter.unusedVariables false
set_option linter.unusedSimpArgs false
namespace Go.Proofs.Ytpncbbcmoiiipaa
open Go.RowKit
def KN (n:Int) :Int:=if n<0 then-1 else if 0<n then 1 else 0
def wB (n lo hi:Int) :Bool:=decide (lo≤n) &&decide (n≤hi)
def KD (x y:Int) :Bool:=wB x (-262144) 262144&&wB y (-262144) 262144
theorem Qv (n:Int) (w:World) :
  Calls Try.prog 48 #[.int .i64 n] w fun e w'=>e= .returned (.int .i64 (KN n))∧w=w':=by
 by_cases h1:n<0
 ·have hv:Hid (KN n= -1) :=by simp [Hid,KN,h1]
  go_enter Try.func48,Try.ntmps48
  go_wp2
  go_ret
  exact⟨by rw [hv.out];rfl,rfl⟩
 ·by_cases h2:0<n
  ·have hv:Hid (KN n=1) :=by simp [Hid,KN,h1,h2]
   go_enter Try.func48,Try.ntmps48
   go_wp2
   go_ret
   exact⟨by rw [hv.out];rfl,rfl⟩
  ·have hv:Hid (KN n=0) :=by simp [Hid,KN,h1,h2]
   go_enter Try.func48,Try.ntmps48
   go_wp2
   go_ret
   exact⟨by rw [hv.out];rfl,rfl⟩
theorem vC (n lo hi:Int) (w:World) :
  Calls Try.prog 41 #[.int .i64 n, .int .i64 lo, .int .i64 hi] w fun e w'=>e= .returned (.bool (wB n lo hi))∧w=w':=by
 by_cases h1:lo≤n
 ·have hv:Hid (wB n lo hi=decide (n≤hi)) :=by simp [Hid,wB,h1]
  go_enter Try.func41,Try.ntmps41
  go_wp2
  go_ret
  exact⟨by rw [hv.out];rfl,rfl⟩
 ·have hv:Hid (wB n lo hi=false) :=by simp [Hid,wB,h1]
  go_enter Try.func41,Try.ntmps41
  go_wp2
  go_ret
  exact⟨by rw [hv.out];rfl,rfl⟩
set_option maxHeartbeats 400000 in
theorem KK (x y:Int) (w:World) :
  Calls Try.prog 23 #[vS x y] w fun e w'=>e= .returned (.bool (KD x y))∧Over w w':=by
 by_cases h1:wB x (-262144) 262144=true
 ·have hv:Hid (KD x y=wB y (-262144) 262144) :=by simp [Hid,KD,h1]
  go_enter Try.func23,Try.ntmps23
  go_wp2_with (go_at_call 41;refine(vC _ _ _ _).mono ?_;rintro e w' ⟨rfl,rfl⟩)
  go_ret
  exact⟨by rw [hv.out];rfl,DB⟩
 ·have h1':wB x (-262144) 262144=false:=by simpa using h1
  clear h1
  have hv:Hid (KD x y=false) :=by simp [Hid,KD,h1']
  go_enter Try.func23,Try.ntmps23
  go_wp2_with (go_at_call 41;refine(vC _ _ _ _).mono ?_;rintro e w' ⟨rfl,rfl⟩)
  go_ret
  exact⟨by rw [hv.out];rfl,DB⟩
set_option maxHeartbeats 400000 in
theorem ur (x y:Int) (w:World) :
  Calls Try.prog 89 #[vS x y] w fun e w'=>e= .returned (.bool (KD x y))∧Over w w':=by
 have hv:Hid (KD x y= (decide (-262144≤x) &&decide (x≤262144) && (decide (-262144≤y) &&decide (y≤262144)))) :=by simp [Hid,KD,wB]
 by_cases h1: -262144≤x<;>by_cases h2:x≤262144<;>by_cases h3: -262144≤y<;>by_cases h4:y≤262144
 all_goals try(exfalso;omega)
 all_goals
  go_enter Try.func89,Try.ntmps89
  go_wp2
  go_ret
  exact⟨by rw [hv.out];simp [*];try rfl,DB⟩
set_option maxHeartbeats 400000 in
theorem WO (A:Option Addr) (n c:Nat) (xs:List (Int×Int)) (w:World) (h:Pts w A n xs) (hn: (n:Int)≤1048576) :
  Calls Try.prog 72 #[.slice A n c] w fun e w'=>e= .returned (.bool (xs.all fun p=>KD p.1 p.2))∧Over w w':=by
 go_enter Try.func72,Try.ntmps72
 go_wp2
 go_loopw [4,7] (fun v i wr=>∃k:Nat,k≤n∧i= .int .i64 k∧Over w wr∧Hid ((xs.take k).all (fun p=>KD p.1 p.2) =true)) (fun _ i _=>n- (intOf i).toNat)
 case atStart=>exact⟨0,DQ _,rfl,Over.refl _,by simp [Hid]⟩
 case round=>
  rename_i wr
  obtain ⟨k,hk,rfl,hb,hall⟩ :=hrel
  by_cases hlt:k<n
  ·obtain ⟨b,o,rfl,hbB,hcell⟩ := (h.over hb).2 Om
   obtain ⟨hc1,hc2⟩ :=hcell k hlt
   have hlen:k<xs.length:=by have:=h.1;omega
   by_cases hok:KD (px xs k) (py xs k) =true
   ·have hs:Hid ((xs.take (k+1)).all (fun p=>KD p.1 p.2) =true) :=by
     have:=hall.out
     unfold Hid
     rw [DY hlen,List.all_append,this,Vz hlen]
     simp [hok]
    clear hall hcell h
    go_wp2_with (go_at_call 89;refine(ur _ _ _).mono ?_;rintro e w1 ⟨rfl,hb1⟩)
    go_roundw
    case rel=>exact⟨k+1,by omega,by go_num,DB,hs⟩
    case measure=>simp [intOf];omega
   ·have hok':KD (px xs k) (py xs k) =false:=by simpa using hok
    clear hok
    have hs:Hid (xs.all (fun p=>KD p.1 p.2) =false) :=by
     unfold Hid
     rw [List.all_eq_false]
     exact⟨xs[k],DR hlen,by rw [Vz hlen];simp [hok']⟩
    clear hall hcell h
    go_wp2_with (go_at_call 89;refine(ur _ _ _).mono ?_;rintro e w1 ⟨rfl,hb1⟩)
    go_ret
    exact⟨by rw [hs.out];rfl,DB⟩
  ·have hs:Hid (xs.all (fun p=>KD p.1 p.2) =true) :=by
    have:=hall.out
    rw [Fk (by have:=h.1;omega)] at this
    exact this
   clear hall h
   go_wp2
   go_ret
   exact⟨by rw [hs.out];rfl,hb⟩
end Go.Proofs.Ytpncbbcmoiiipaa
namespace Go.Proofs.Ytpncbbcmoiiipaa
open Go Go.RowKit
def Blk (w:World) (g T m:Nat) :Prop:=∃cs:Array Value,cs.size=m∧w.heap[g]? =some (.cells cs T (0,0))
theorem Blk.lt {w:World} {g T m:Nat} (h:Blk w g T m) :g<w.heap.size:=by
 obtain ⟨cs,_,hh⟩ :=h
 rcases FI g w.heap.size with h | h
 ·exact h
 ·rw [Array.getElem?_eq_none h] at hh;cases hh
theorem Blk.over {w w':World} {g T m:Nat} (h:Blk w g T m) (ho:Over w w') :Blk w' g T m:=by
 have hl:=h.lt
 obtain ⟨cs,hs,hh⟩ :=h
 exact⟨cs,hs,(ho.out.block g hl).trans hh⟩
theorem Blk.cell {w:World} {g T m i:Nat} (h:Blk w g T m) (hi:i<m) :∃u,w.cell? ⟨g,i,none⟩ =some u:=by
 obtain ⟨cs,hs,hh⟩ :=h
 exact⟨_,(cell_of_row w g i cs T (0,0) hh).trans (Array.getElem?_eq_getElem Om)⟩
theorem Blk.frozen {w:World} {g T m:Nat} (h:Blk w g T m) (i:Nat) :w.frozen? ⟨g,i,none⟩ =false:=by
 obtain ⟨cs,hs,hh⟩ :=h
 simp [World.frozen?,hh]
theorem Blk.set_ {w:World} {g T m:Nat} (h:Blk w g T m) (i:Nat) (u:Value) :Blk (w.setCell ⟨g,i,none⟩ u) g T m:=by
 obtain ⟨cs,hs,hh⟩ :=h
 refine⟨cs.setIfInBounds i u,by simpa using hs,?_⟩
 simp [World.setCell,Array.getElem?_modify,hh]
theorem Blk.new (w:World) (cs:Array Value) (T:Nat) :Blk (w.alloc (.cells cs T)) w.heap.size T cs.size:=⟨cs,rfl,heap_alloc_new w _⟩
def Own (w:World) (g n:Nat) (xs:List (Int×Int)) :Prop:=Blk w g 27 (n*2)∧Pts w (some ⟨g,0,none⟩) n xs
theorem Own.over {w w':World} {g n:Nat} {xs:List (Int×Int)} (h:Own w g n xs) (ho:Over w w') :Own w' g n xs:=⟨h.1.over ho,h.2.over ho⟩
theorem Own.far {w:World} {g n:Nat} {xs:List (Int×Int)} (h:Own w g n xs) {p:Addr} (hp:p.block≠g) (u:Value) :Own (w.setCell p u) g n xs:=by
 obtain ⟨⟨cs,hs,hh⟩,hl,hx⟩ :=h
 refine⟨⟨cs,hs,(Below.heap_setCell w p u g (Ne.symm hp)).trans hh⟩,hl,fun hn=> ?_⟩
 obtain ⟨b,o,hA,hlt,hc⟩ :=hx hn
 have hb:b=g:=by injection hA with hA;injection hA with hA;exact hA.symm
 subst hb
 refine⟨b,o,hA,by simpa [World.setCell] using hlt,fun k hk=>⟨?_,?_⟩⟩
 ·rw [World.cell?_setCell_other _ _ _ _ (fun e=>hp (by rw [e]))];exact(hc k hk).1
 ·rw [World.cell?_setCell_other _ _ _ _ (fun e=>hp (by rw [e]))];exact(hc k hk).2
theorem Pts.at_ {w:World} {A:Option Addr} {n k:Nat} {xs:List (Int×Int)} (h:Pts w A n xs) (hk:k<n) :
  ∃b o,A=some ⟨b,o,none⟩∧b<w.heap.size∧w.cell? ⟨b,o+k*2,none⟩ =some (.int .i64 (px xs k))∧w.cell? ⟨b,o+k*2+1,none⟩ =some (.int .i64 (py xs k)) :=by
 obtain ⟨b,o,hA,hb,hc⟩ :=h.2 Om
 exact⟨b,o,hA,hb,hc k hk⟩
theorem va {P:Program} {e:TypeId} {z:Value} {s b:Nat} (h: (P.info? e).map (fun i=> (i.zero,i.size,i.bytes)) =some (some z,s,b)) :∃i,P.info? e=some i∧i.zero=some z∧i.size=s∧i.bytes=b:=by
 cases hi:P.info? e with
 | none=>simp [hi] at h
 | some i=>
  simp only [hi,Option.map_some,Option.some.injEq,Prod.mk.injEq] at h
  exact⟨i,rfl,h.1,h.2.1,h.2.2⟩
def Filled (w:World) (g k:Nat) (xs:List (Int×Int)) :Prop:=∀j,j<k→w.cell? ⟨g,j*2,none⟩ =some (.int .i64 (px xs j))∧w.cell? ⟨g,j*2+1,none⟩ =some (.int .i64 (py xs j))
theorem Filled.over {w w':World} {g k:Nat} {xs:List (Int×Int)} (h:Filled w g k xs) (hg:g<w.heap.size) (ho:Over w w') :Filled w' g k xs:=
 fun j hj=>⟨((jD ho).1 g _ hg).trans (h j hj).1,((jD ho).1 g _ hg).trans (h j hj).2⟩
theorem Filled.step {w:World} {g k m T:Nat} {xs:List (Int×Int)} (h:Filled w g k xs) (hb:Blk w g T m) (hk:k*2+1<m) :
  Filled ((w.setCell ⟨g,k*2,none⟩ (.int .i64 (px xs k))).setCell ⟨g,k*2+1,none⟩ (.int .i64 (py xs k))) g (k+1) xs:=by
 obtain ⟨u,hu⟩ :=hb.cell (i:=k*2) Om
 obtain ⟨v,hv⟩ := (hb.set_ (k*2) (.int .i64 (px xs k))).cell (i:=k*2+1) hk
 intro j hj
 by_cases hjk:j=k
 ·subst hjk
  refine⟨?_,World.cell?_setCell_same _ _ _ hv⟩
  rw [World.cell?_setCell_other _ _ _ _ (by simp)]
  exact World.cell?_setCell_same _ _ _ hu
 ·have:=h j Om
  refine⟨?_,?_⟩
  ·rw [World.cell?_setCell_other _ _ _ _ (by simp<;>omega),World.cell?_setCell_other _ _ _ _ (by simp<;>omega)];exact this.1
  ·rw [World.cell?_setCell_other _ _ _ _ (by simp<;>omega),World.cell?_setCell_other _ _ _ _ (by simp<;>omega)];exact this.2
theorem Filled.own {w:World} {g n:Nat} {xs:List (Int×Int)} (h:Filled w g n xs) (hb:Blk w g 27 (n*2)) (hn:xs.length=n) :Own w g n xs:=
 ⟨hb,hn,fun _=>⟨g,0,rfl,hb.lt,fun k hk=>by rw [Fo];exact h k hk⟩⟩
abbrev Zx (A:Option Addr) (n c:Nat) :Value:= .agg #[.slice A n c]
def vu (xs:List (Int×Int)) :Bool:=xs.all fun p=>KD p.1 p.2
def qd (xs:List (Int×Int)) :Bool:=wB (xs.length:Int) 1 400&&vu xs
set_option maxHeartbeats 400000 in
theorem yG (A:Option Addr) (n c:Nat) (xs:List (Int×Int)) (w:World) (h:Pts w A n xs) (hn: (n:Int)≤1048577) :
  Calls Try.prog 67 #[.slice A n c] w fun e w'=>e= .returned (.bool (vu xs))∧Over w w':=by
 go_enter Try.func67,Try.ntmps67
 go_wp2
 go_loopw [3] (fun i wr=>∃k:Nat,k≤n∧i= .int .i64 k∧Over w wr∧Hid ((xs.take k).all (fun p=>KD p.1 p.2) =true)) (fun i _=>n- (intOf i).toNat)
 case atStart=>exact⟨0,DQ _,rfl,Over.refl _,by simp [Hid]⟩
 case round=>
  rename_i wr
  obtain ⟨k,hk,rfl,hb,hall⟩ :=hrel
  by_cases hlt:k<n
  ·obtain ⟨b,o,rfl,hbB,hc1,hc2⟩ := (h.over hb).at_ hlt
   have hlen:k<xs.length:=by have:=h.1;omega
   by_cases hok:KD (px xs k) (py xs k) =true
   ·have hs:Hid ((xs.take (k+1)).all (fun p=>KD p.1 p.2) =true) :=by
     have:=hall.out
     unfold Hid
     rw [DY hlen,List.all_append,this,Vz hlen]
     simp [hok]
    clear hall h
    go_wp2_with (go_at_call 23;refine(KK _ _ _).mono ?_;rintro e w1 ⟨rfl,hb1⟩)
    go_roundw
    case rel=>exact⟨k+1,by omega,by go_num,DB,hs⟩
    case measure=>simp [intOf];omega
   ·have hok':KD (px xs k) (py xs k) =false:=by simpa using hok
    clear hok
    have hs:Hid (vu xs=false) :=by
     unfold Hid vu
     rw [List.all_eq_false]
     exact⟨xs[k],DR hlen,by rw [Vz hlen];simp [hok']⟩
    clear hall h
    go_wp2_with (go_at_call 23;refine(KK _ _ _).mono ?_;rintro e w1 ⟨rfl,hb1⟩)
    go_ret
    exact⟨by rw [hs.out];rfl,DB⟩
  ·have hs:Hid (vu xs=true) :=by
    have:=hall.out
    rw [Fk (by have:=h.1;omega)] at this
    exact this
   clear hall h
   go_wp2
   go_ret
   exact⟨by rw [hs.out];rfl,hb⟩
set_option maxHeartbeats 400000 in
theorem xo (A:Option Addr) (n c:Nat) (xs:List (Int×Int)) (w:World) (h:Pts w A n xs) (hn: (n:Int)≤1048577) :
  Calls Try.prog 47 #[.slice A n c] w fun e w'=>e= .returned (.bool (qd xs))∧Over w w':=by
 have hl:=h.1
 by_cases h1: (1:Int)≤n
 ·by_cases h2: (n:Int)≤400
  ·have hv:Hid (qd xs=vu xs) :=by simp [Hid,qd,wB,hl,h2];omega
   clear hl
   go_enter Try.func47,Try.ntmps47
   go_wp2_with (go_at_call 72;refine(WO _ _ _ _ _ h (Int.le_trans h2 Dc)).mono ?_;rintro e w1 ⟨rfl,hb1⟩)
   go_ret
   exact⟨by rw [hv.out];rfl,DB⟩
  ·have hv:Hid (qd xs=false) :=by simp [Hid,qd,wB,hl];omega
   clear hl
   go_enter Try.func47,Try.ntmps47
   go_wp2
   go_ret
   exact⟨by rw [hv.out];rfl,DB⟩
 ·have hv:Hid (qd xs=false) :=by simp [Hid,qd,wB,hl];omega
  clear hl
  go_enter Try.func47,Try.ntmps47
  go_wp2
  go_ret
  exact⟨by rw [hv.out];rfl,DB⟩
set_option maxHeartbeats 400000 in
theorem ww (A:Option Addr) (n c:Nat) (xs:List (Int×Int)) (w:World) (h:Pts w A n xs) (hn: (n:Int)≤1048577) :
  Calls Try.prog 30 #[Zx A n c] w fun e w'=>e= .returned (.bool (qd xs))∧Over w w':=by
 go_enter Try.func30,Try.ntmps30
 go_wp2_with (go_at_call 47;refine(xo _ _ _ xs _ (h.over DB) hn).mono ?_;rintro e w1 ⟨rfl,hb1⟩)
 go_ret
 exact⟨rfl,DB⟩
set_option maxHeartbeats 400000 in
theorem uy (b o:Nat) (A:Option Addr) (n c:Nat) (xs:List (Int×Int)) (w:World) (hc:w.cell? ⟨b,o,none⟩ =some (.slice A n c)) (h:Pts w A n xs) (hn: (n:Int)≤1048577) :
  Calls Try.prog 40 #[.pointer (some ⟨b,o,none⟩)] w fun e w'=>e= .returned (.bool (qd xs))∧Over w w':=by
 have hl:=h.1
 cases h1:wB (n:Int) 1 400
 ·have hv:Hid (qd xs=false) :=by unfold Hid qd;rw [hl,h1];rfl
  clear hl
  go_enter Try.func40,Try.ntmps40
  go_wp2_with (go_at_call 41;refine(vC _ _ _ _).mono ?_;rintro e w1 ⟨rfl,rfl⟩)
  go_ret
  exact⟨by rw [hv.out];rfl,DB⟩
 ·have hv:Hid (qd xs=vu xs) :=by unfold Hid qd;rw [hl,h1];rfl
  clear hl
  go_enter Try.func40,Try.ntmps40
  go_wp2_with (first | (go_at_call 41;refine(vC _ _ _ _).mono ?_;rintro e w1 ⟨rfl,rfl⟩) | (go_at_call 67;refine(yG _ _ _ _ _ h hn).mono ?_;rintro e w1 ⟨rfl,hb1⟩))
  go_ret
  exact⟨by rw [hv.out];rfl,DB⟩
end Go.Proofs.Ytpncbbcmoiiipaa
