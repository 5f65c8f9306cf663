import Derived.Test.YtjbahemkhphndaaGreatNMem
import Derived.Test.YtjbahemkhphndaaGreatNTy
import Derived.BigRegion
set_option linter.unusedVariables false
set_option linter.unusedSimpArgs false
namespace Go.Proofs.YtjbahemkhphndaaGreat
open Go.RowKit
def wP(n:Int):Int:=if n<0 then-1 else if 0<n then 1 else 0
def X2(n lo hi:Int):Bool:=decide (lo<=n) &&decide (n<=hi)
def WT(x y:Int):Bool:=X2 x (-262144) 262144&&X2 y (-262144) 262144
theorem KX(n:Int)(w:World):
  Calls Tryz.prog 124 #[.int .i64 n] w λe w'=>e=.returned (.int .i64 (wP n))/\w=w':=by
 by_cases h1:n<0
 .have hv:Hid (wP n= -1):=by simp[Hid,wP,h1]
  go_enter Tryz.func124,Tryz.ntmps124
  go_wp2;go_ret;exact⟨by rw[hv.out];rfl,rfl⟩
 .by_cases h2:0<n
  .have hv:Hid (wP n=1):=by simp[Hid,wP,h1,h2]
   go_enter Tryz.func124,Tryz.ntmps124
   go_wp2;go_ret;exact⟨by rw[hv.out];rfl,rfl⟩
  .have hv:Hid (wP n=0):=by simp[Hid,wP,h1,h2]
   go_enter Tryz.func124,Tryz.ntmps124
   go_wp2;go_ret;exact⟨by rw[hv.out];rfl,rfl⟩
theorem YN(n lo hi:Int)(w:World):
  Calls Tryz.prog 32 #[.int .i64 n,.int .i64 lo,.int .i64 hi] w λe w'=>e=.returned (.bool (X2 n lo hi))/\w=w':=by
 by_cases h1:lo<=n
 .have hv:Hid (X2 n lo hi=decide (n<=hi)):=by simp[Hid,X2,h1]
  go_enter Tryz.func32,Tryz.ntmps32
  go_wp2;go_ret;exact⟨by rw[hv.out];rfl,rfl⟩
 .have hv:Hid (X2 n lo hi=false):=by simp[Hid,X2,h1]
  go_enter Tryz.func32,Tryz.ntmps32
  go_wp2;go_ret;exact⟨by rw[hv.out];rfl,rfl⟩
set_option maxHeartbeats 400000 in
theorem Ik(x y:Int)(w:World):
  Calls Tryz.prog 56 #[Wh x y] w λe w'=>e=.returned (.bool (WT x y))/\Over w w':=by
 by_cases h1:X2 x (-262144) 262144=true
 .have hv:Hid (WT x y=X2 y (-262144) 262144):=by simp[Hid,WT,h1]
  go_enter Tryz.func56,Tryz.ntmps56
  go_wp2_with (go_at_call 32;refine(YN _ _ _ _).mono ?_;rintro e w' ⟨rfl,rfl⟩)
  go_ret;exact⟨by rw[hv.out];rfl,ov9⟩
 .have h1':X2 x (-262144) 262144=false:=by simpa using h1
  clear h1;have hv:Hid (WT x y=false):=by simp[Hid,WT,h1']
  go_enter Tryz.func56,Tryz.ntmps56
  go_wp2_with (go_at_call 32;refine(YN _ _ _ _).mono ?_;rintro e w' ⟨rfl,rfl⟩)
  go_ret;exact⟨by rw[hv.out];rfl,ov9⟩
set_option maxHeartbeats 400000 in
theorem Ml(x y:Int)(w:World):
  Calls Tryz.prog 78 #[Wh x y] w λe w'=>e=.returned (.bool (WT x y))/\Over w w':=by
 have hv:Hid (WT x y=(decide (-262144<=x) &&decide (x<=262144) && (decide (-262144<=y) &&decide (y<=262144)))):=by simp[Hid,WT,X2]
 by_cases h1: -262144<=x<;>by_cases h2:x<=262144<;>by_cases h3: -262144<=y<;>by_cases h4:y<=262144
 all_goals try(exfalso;omega)
 all_goals
  go_enter Tryz.func78,Tryz.ntmps78
  go_wp2;go_ret;exact⟨by rw[hv.out];simp[*];try rfl,ov9⟩
set_option maxHeartbeats 400000 in
theorem H5(A:Option Addr)(n c:Nat)(xs:List (Int×Int))(w:World)(h:Pts w A n xs)(hn:(n:Int)<=1048576):
  Calls Tryz.prog 57 #[.slice A n c] w λe w'=>e=.returned (.bool (xs.all λp=>WT p.1 p.2))/\Over w w':=by
 go_enter Tryz.func57,Tryz.ntmps57
 go_wp2
 go_loopw [4,7] (λv i wr=>∃k:Nat,k<=n/\i=.int .i64 k/\Over w wr/\Hid ((xs.take k).all (λp=>WT p.1 p.2)=true)) (λ_ i _=>n-(intOf i).toNat)
 case atStart=>exact⟨0,jlN _,rfl,Over.refl _,by simp[Hid]⟩
 case round=>
  rename_i wr;obtain⟨k,hk,rfl,hb,hall⟩:=hrel;by_cases hlt:k<n
  .obtain⟨b,o,rfl,hbB,hcell⟩:=(h.over hb).2 Om;obtain⟨hc1,hc2⟩:=hcell k hlt;have hlen:k<xs.length:=by have:=h.1;omega
   by_cases hok:WT (px xs k) (py xs k)=true
   .have hs:Hid ((xs.take (k+1)).all (λp=>WT p.1 p.2)=true):=by
     have:=hall.out;unfold Hid;rw[jlX hlen,List.all_append,this,YB hlen];simp[hok]
    clear hall hcell h
    go_wp2_with (go_at_call 78;refine(Ml _ _ _).mono ?_;rintro e w1 ⟨rfl,hb1⟩)
    go_roundw
    case rel=>exact⟨k+1,by omega,by go_num,ov9,hs⟩
    case measure=>simp[intOf];omega
   .have hok':WT (px xs k) (py xs k)=false:=by simpa using hok
    clear hok;have hs:Hid (xs.all (λp=>WT p.1 p.2)=false):=by
     unfold Hid;rw[List.all_eq_false];exact⟨xs[k],jlY hlen,by rw[YB hlen];simp[hok']⟩
    clear hall hcell h
    go_wp2_with (go_at_call 78;refine(Ml _ _ _).mono ?_;rintro e w1 ⟨rfl,hb1⟩)
    go_ret;exact⟨by rw[hs.out];rfl,ov9⟩
  .have hs:Hid (xs.all (λp=>WT p.1 p.2)=true):=by
    have:=hall.out;rw[jme (by have:=h.1;omega)] at this;exact this
   clear hall h;go_wp2;go_ret;exact⟨by rw[hs.out];rfl,hb⟩
end Go.Proofs.YtjbahemkhphndaaGreat
namespace Go.Proofs.YtjbahemkhphndaaGreat
open Go Go.RowKit
variable{A:Option Addr}{T g m n:Nat}{w w':World}{xs:List (Int×Int)}
def Blk(w:World)(g T m:Nat):Prop:=∃cs:Array Value,cs.size=m/\w.heap[g]? =some (.cells cs T (0,0))
theorem Blk.lt(h:Blk w g T m):g<w.heap.size:=by
 obtain⟨cs,_,hh⟩:=h;rcases jmU g w.heap.size with h|h
 .exact h
 .rw[Array.getElem?_eq_none h] at hh;cases hh
theorem Blk.over(h:Blk w g T m)(ho:Over w w'):Blk w' g T m:=by
 have hl:=h.lt;obtain⟨cs,hs,hh⟩:=h;exact⟨cs,hs,(ho.out.block g hl).trans hh⟩
theorem Blk.cell{i:Nat}(h:Blk w g T m)(hi:i<m):∃u,w.cell? ⟨g,i,none⟩=some u:=by
 obtain⟨cs,hs,hh⟩:=h;exact⟨_,(cell_of_row w g i cs T (0,0) hh).trans (Array.getElem?_eq_getElem Om)⟩
theorem Blk.frozen(h:Blk w g T m)(i:Nat):w.frozen? ⟨g,i,none⟩=false:=by
 obtain⟨cs,hs,hh⟩:=h;simp[World.frozen?,hh]
theorem Blk.set_(h:Blk w g T m)(i:Nat)(u:Value):Blk (w.setCell ⟨g,i,none⟩ u) g T m:=by
 obtain⟨cs,hs,hh⟩:=h;refine⟨cs.setIfInBounds i u,by simpa using hs,?_⟩;simp[World.setCell,Array.getElem?_modify,hh]
theorem Blk.new(w:World)(cs:Array Value)(T:Nat):Blk (w.alloc (.cells cs T)) w.heap.size T cs.size:=⟨cs,rfl,heap_alloc_new w _⟩
def Own(w:World)(g n:Nat)(xs:List (Int×Int)):Prop:=Blk w g 36 (n*2)/\Pts w (some ⟨g,0,none⟩) n xs
theorem Own.over(h:Own w g n xs)(ho:Over w w'):Own w' g n xs:=⟨h.1.over ho,h.2.over ho⟩
theorem Own.far(h:Own w g n xs){p:Addr}(hp:p.block≠g)(u:Value):Own (w.setCell p u) g n xs:=by
 obtain⟨⟨cs,hs,hh⟩,hl,hx⟩:=h;refine⟨⟨cs,hs,(Below.heap_setCell w p u g (Ne.symm hp)).trans hh⟩,hl,λhn=>?_⟩;obtain⟨b,o,hA,hlt,hc⟩:=hx hn;have hb:b=g:=by injection hA with hA;injection hA with hA;exact hA.symm
 subst hb;refine⟨b,o,hA,by simpa[World.setCell] using hlt,λk hk=>⟨?_,?_⟩⟩
 .rw[World.cell?_setCell_other _ _ _ _ (λe=>hp (by rw[e]))];exact(hc k hk).1
 .rw[World.cell?_setCell_other _ _ _ _ (λe=>hp (by rw[e]))];exact(hc k hk).2
theorem Pts.at_{k:Nat}(h:Pts w A n xs)(hk:k<n):
  ∃b o,A=some ⟨b,o,none⟩/\b<w.heap.size/\w.cell? ⟨b,o+k*2,none⟩=some (.int .i64 (px xs k))/\w.cell? ⟨b,o+k*2+1,none⟩=some (.int .i64 (py xs k)):=by
 obtain⟨b,o,hA,hb,hc⟩:=h.2 Om;exact⟨b,o,hA,hb,hc k hk⟩
theorem yP{P:Program}{e:TypeId}{z:Value}{s b:Nat}(h:(P.info? e).map (λi=>(i.zero,i.size,i.bytes))=some (some z,s,b)):∃i,P.info? e=some i/\i.zero=some z/\i.size=s/\i.bytes=b:=by
 cases hi:P.info? e with
 |none=>simp[hi] at h
 |some i=>
  simp only[hi,jnE,Option.some.injEq,Prod.mk.injEq] at h;exact⟨i,rfl,h.1,h.2.1,h.2.2⟩
def Filled(w:World)(g k:Nat)(xs:List (Int×Int)):Prop:=∀j,j<k->w.cell? ⟨g,j*2,none⟩=some (.int .i64 (px xs j))/\w.cell? ⟨g,j*2+1,none⟩=some (.int .i64 (py xs j))
theorem Filled.over{k:Nat}(h:Filled w g k xs)(hg:g<w.heap.size)(ho:Over w w'):Filled w' g k xs:=
 λj hj=>⟨((Jy ho).1 g _ hg).trans (h j hj).1,((Jy ho).1 g _ hg).trans (h j hj).2⟩
theorem Filled.step{k:Nat}(h:Filled w g k xs)(hb:Blk w g T m)(hk:k*2+1<m):
  Filled ((w.setCell ⟨g,k*2,none⟩ (.int .i64 (px xs k))).setCell ⟨g,k*2+1,none⟩ (.int .i64 (py xs k))) g (k+1) xs:=by
 obtain⟨u,hu⟩:=hb.cell (i:=k*2) Om;obtain⟨v,hv⟩:=(hb.set_ (k*2) (.int .i64 (px xs k))).cell (i:=k*2+1) hk;intro j hj;by_cases hjk:j=k
 .subst hjk;refine⟨?_,World.cell?_setCell_same _ _ _ hv⟩;rw[World.cell?_setCell_other _ _ _ _ (by simp)];exact World.cell?_setCell_same _ _ _ hu
 .have:=h j Om;refine⟨?_,?_⟩
  .rw[World.cell?_setCell_other _ _ _ _ (by simp<;>omega),World.cell?_setCell_other _ _ _ _ (by simp<;>omega)];exact this.1
  .rw[World.cell?_setCell_other _ _ _ _ (by simp<;>omega),World.cell?_setCell_other _ _ _ _ (by simp<;>omega)];exact this.2
theorem Filled.own(h:Filled w g n xs)(hb:Blk w g 36 (n*2))(hn:xs.length=n):Own w g n xs:=
 ⟨hb,hn,λ_=>⟨g,0,rfl,hb.lt,λk hk=>by rw[jmd];exact h k hk⟩⟩
abbrev XE(A:Option Addr)(n c:Nat):Value:=.agg #[.slice A n c]
def WY(xs:List (Int×Int)):Bool:=xs.all λp=>WT p.1 p.2
def qM(xs:List (Int×Int)):Bool:=X2 (xs.length:Int) 1 400&&WY xs
set_option maxHeartbeats 400000 in
theorem Xy(A:Option Addr)(n c:Nat)(xs:List (Int×Int))(w:World)(h:Pts w A n xs)(hn:(n:Int)<=1048577):
  Calls Tryz.prog 33 #[.slice A n c] w λe w'=>e=.returned (.bool (WY xs))/\Over w w':=by
 go_enter Tryz.func33,Tryz.ntmps33
 go_wp2
 go_loopw [3] (λi wr=>∃k:Nat,k<=n/\i=.int .i64 k/\Over w wr/\Hid ((xs.take k).all (λp=>WT p.1 p.2)=true)) (λi _=>n-(intOf i).toNat)
 case atStart=>exact⟨0,jlN _,rfl,Over.refl _,by simp[Hid]⟩
 case round=>
  rename_i wr;obtain⟨k,hk,rfl,hb,hall⟩:=hrel;by_cases hlt:k<n
  .obtain⟨b,o,rfl,hbB,hc1,hc2⟩:=(h.over hb).at_ hlt;have hlen:k<xs.length:=by have:=h.1;omega
   by_cases hok:WT (px xs k) (py xs k)=true
   .have hs:Hid ((xs.take (k+1)).all (λp=>WT p.1 p.2)=true):=by
     have:=hall.out;unfold Hid;rw[jlX hlen,List.all_append,this,YB hlen];simp[hok]
    clear hall h
    go_wp2_with (go_at_call 56;refine(Ik _ _ _).mono ?_;rintro e w1 ⟨rfl,hb1⟩)
    go_roundw
    case rel=>exact⟨k+1,by omega,by go_num,ov9,hs⟩
    case measure=>simp[intOf];omega
   .have hok':WT (px xs k) (py xs k)=false:=by simpa using hok
    clear hok;have hs:Hid (WY xs=false):=by
     unfold Hid WY;rw[List.all_eq_false];exact⟨xs[k],jlY hlen,by rw[YB hlen];simp[hok']⟩
    clear hall h
    go_wp2_with (go_at_call 56;refine(Ik _ _ _).mono ?_;rintro e w1 ⟨rfl,hb1⟩)
    go_ret;exact⟨by rw[hs.out];rfl,ov9⟩
  .have hs:Hid (WY xs=true):=by
    have:=hall.out;rw[jme (by have:=h.1;omega)] at this;exact this
   clear hall h;go_wp2;go_ret;exact⟨by rw[hs.out];rfl,hb⟩
set_option maxHeartbeats 400000 in
theorem CI(A:Option Addr)(n c:Nat)(xs:List (Int×Int))(w:World)(h:Pts w A n xs)(hn:(n:Int)<=1048577):
  Calls Tryz.prog 36 #[.slice A n c] w λe w'=>e=.returned (.bool (qM xs))/\Over w w':=by
 have hl:=h.1;by_cases h1:(1:Int)<=n
 .by_cases h2:(n:Int)<=400
  .have hv:Hid (qM xs=WY xs):=by simp[Hid,qM,X2,hl,h2];omega
   clear hl
   go_enter Tryz.func36,Tryz.ntmps36
   go_wp2_with (go_at_call 57;refine(H5 _ _ _ _ _ h (jmN h2 Dc)).mono ?_;rintro e w1 ⟨rfl,hb1⟩)
   go_ret;exact⟨by rw[hv.out];rfl,ov9⟩
  .have hv:Hid (qM xs=false):=by simp[Hid,qM,X2,hl];omega
   clear hl
   go_enter Tryz.func36,Tryz.ntmps36
   go_wp2;go_ret;exact⟨by rw[hv.out];rfl,ov9⟩
 .have hv:Hid (qM xs=false):=by simp[Hid,qM,X2,hl];omega
  clear hl
  go_enter Tryz.func36,Tryz.ntmps36
  go_wp2;go_ret;exact⟨by rw[hv.out];rfl,ov9⟩
set_option maxHeartbeats 400000 in
theorem Ug(A:Option Addr)(n c:Nat)(xs:List (Int×Int))(w:World)(h:Pts w A n xs)(hn:(n:Int)<=1048577):
  Calls Tryz.prog 23 #[XE A n c] w λe w'=>e=.returned (.bool (qM xs))/\Over w w':=by
 go_enter Tryz.func23,Tryz.ntmps23
 go_wp2_with (go_at_call 36;refine(CI _ _ _ xs _ (h.over ov9) hn).mono ?_;rintro e w1 ⟨rfl,hb1⟩)
 go_ret;exact⟨rfl,ov9⟩
set_option maxHeartbeats 400000 in
theorem yS(b o:Nat)(A:Option Addr)(n c:Nat)(xs:List (Int×Int))(w:World)(hc:w.cell? ⟨b,o,none⟩=some (.slice A n c))(h:Pts w A n xs)(hn:(n:Int)<=1048577):
  Calls Tryz.prog 21 #[.pointer (some ⟨b,o,none⟩)] w λe w'=>e=.returned (.bool (qM xs))/\Over w w':=by
 have hl:=h.1;cases h1:X2 (n:Int) 1 400
 .have hv:Hid (qM xs=false):=by unfold Hid qM;rw[hl,h1];rfl
  clear hl
  go_enter Tryz.func21,Tryz.ntmps21
  go_wp2_with (go_at_call 32;refine(YN _ _ _ _).mono ?_;rintro e w1 ⟨rfl,rfl⟩)
  go_ret;exact⟨by rw[hv.out];rfl,ov9⟩
 .have hv:Hid (qM xs=WY xs):=by unfold Hid qM;rw[hl,h1];rfl
  clear hl
  go_enter Tryz.func21,Tryz.ntmps21
  go_wp2_with (first|(go_at_call 32;refine(YN _ _ _ _).mono ?_;rintro e w1 ⟨rfl,rfl⟩)|(go_at_call 33;refine(Xy _ _ _ _ _ h hn).mono ?_;rintro e w1 ⟨rfl,hb1⟩))
  go_ret;exact⟨by rw[hv.out];rfl,ov9⟩
end Go.Proofs.YtjbahemkhphndaaGreat
namespace Go.Proofs.YtjbahemkhphndaaGreat
open Go Go.RowKit
variable{P:Program}{Q:Exit->Act->World->Prop}{args:Array Value}{env:List (Nat×Value)}{listed:Array Bool}{ops:Array Oper}{xs:List (Int×Int)}
set_option maxRecDepth 100000
theorem vb{a b:Bool}(h:a=b):some (Value.bool a)=some (Value.bool b):=by rw[h]
theorem vi{a b:Int}(h:a=b):some (Value.int .i64 a)=some (Value.int .i64 b):=by rw[h]
theorem Q4{a b:Bool}(h:a=b):Ending.returned (.bool a)=Ending.returned (.bool b):=by rw[h]
theorem Y1{a b:Int}(h:a=b):Ending.returned (.int .i64 a)=Ending.returned (.int .i64 b):=by rw[h]
theorem Calls.still{f:FuncId}{w:World}{v:Value}(h:Calls P f args w λe w'=>e=.returned v/\w=w'):Calls P f args w λe w'=>e=.returned v/\Over w w':=h.mono λe w' ⟨he,hw⟩=>⟨he,hw▸Over.refl _⟩
section
variable{w:World}{w0:Bs}{Rs:List Res}
def Jt(p:Int×Int):List Value:=[.int .i64 p.1,.int .i64 p.2]
theorem jfv{k b T m:Nat}(xs:List (Int×Int))(hk:Rs[k]? =some (.cel b T (xs.flatMap Jt)))(hm:xs.length=m):∀w,St w0 Rs w->Pts w (some ⟨b,0,none⟩) m xs:=λw hs=>by
 have hh:=hs.cel hk;refine⟨hm,λ_=>⟨b,0,J,J3 hh,λj hj=>?_⟩⟩;have hj':j<xs.length:=by omega
 have hat:=λq hq=>flat2 xs j q hj' hq
 rw[jmd,cell_of_row w b _ _ T (0,0) hh,cell_of_row w b _ _ T (0,0) hh];have h0:=hat 0 Om
 have h1:=hat 1 Om;rw[YB hj'] at h0 h1;simp only[List.getElem?_toArray];exact⟨by simpa[Jt] using h0,by simpa[Jt] using h1⟩
 where
 flat2:∀(xs:List (Int×Int)) (k j:Nat) (hk:k<xs.length),j<2->(xs.flatMap Jt)[k*2+j]? =(Jt xs[k])[j]?
 |[],_,_,h,_=>absurd h (by simp)
 |a::r,0,j,_,hj=>by
  rw[jl4,Nat.zero_mul,jmd,List.getElem?_append_left (by simpa[Jt] using hj)];rfl
 |a::r,k+1,j,h,hj=>by
  have hl:(Jt a).length=2:=rfl;rw[jl4,List.getElem?_append_right (by rw[hl];omega),hl];have:=flat2 r k j (by simpa using h) hj
  rw[show(k+1)*2+j-2=k*2+j by omega,this];rfl
theorem WM{b o m j:Nat}(h:Pts w (some ⟨b,o,none⟩) m xs)(hj:j<m):∀w',St ⟨w,[]⟩ Rs w'->∀q v,[Value.int .i64 (px xs j),Value.int .i64 (py xs j)][q]? =some v->w'.cell? ⟨b,o+j*2+q,none⟩=some v:=λw' hs q v hv=>by
 obtain⟨b',o',e,_,h1,h2⟩:=(h.over hs.fin).at_ hj;injection e with e
 injection e with e1 e2 _
 subst e1 e2
 match q,hv with
 |0,hv=>simp at hv;subst hv;exact h1
 |1,hv=>simp at hv;subst hv;exact h2
end
theorem MS{P:Program}{md:Region.Mode}{ops:Array Oper}{Q:Exit->Act->World->Prop}{B B':Base}(hB:∀w,B'.holds w->B.holds w){f:Nat}:
  ∀(fuel:Nat) (listed:Array Bool) (a:Act) (W:World),Qv P md ops Q B' f fuel listed a W->Qv P md ops Q B f fuel listed a W
 |0,_,_,_,h=>h
 |fuel+1,listed,a,W,h=>⟨h.1,λi hi w hw=>⟨λhf=>wpOp_mono (λa' w' h'=>⟨hB _ h'.1,MS hB fuel _ a' w' h'.2⟩) ((h.2 i hi w hw).1 hf),(h.2 i hi w hw).2⟩⟩
theorem yL{n f fuel:Nat}{w0:Bs}{Rs Rs0:List Res}(hsub:∀w,St w0 Rs w->St w0 Rs0 w)(h:At n env w0 Rs (λa w=>Qv P .any ops Q (yI w0 Rs) f fuel listed a w)):At n env w0 Rs (λa w=>St w0 Rs0 w/\Qv P .any ops Q (yI w0 Rs0) f fuel listed a w):=
 λa w hf hs=>⟨hsub w hs,MS (B:=yI w0 Rs0) (B':=yI w0 Rs) hsub fuel listed a w (h a w hf hs)⟩
end Go.Proofs.YtjbahemkhphndaaGreat
namespace Go.Proofs.YtjbahemkhphndaaGreat
open Go.RowKit
theorem wn(a b:Int)(w:World):
  Calls Tryz.prog 35 #[.int .i64 a,.int .i64 b] w λe w'=>e=.returned (.int .i64 (max a b))/\w=w':=by
 by_cases h1:b<a
 .have hv:Hid (max a b=a):=by unfold Hid;omega
  go_enter Tryz.func35,Tryz.ntmps35
  go_wp2;go_ret;exact⟨by rw[hv.out];rfl,rfl⟩
 .have hv:Hid (max a b=b):=by unfold Hid;omega
  go_enter Tryz.func35,Tryz.ntmps35
  go_wp2;go_ret;exact⟨by rw[hv.out];rfl,rfl⟩
theorem QN{a b A B:Int}(ha: -A<=a)(ha':a<=A)(hb: -B<=b)(hb':b<=B): -(A*B)<=a*b/\a*b<=A*B:=by
 have hA:0<=A:=by omega
 have hB:0<=B:=by omega
 have h1:(a*b).natAbs<=(A*B).natAbs:=by
  rw[Int.natAbs_mul,Int.natAbs_mul];exact Nat.mul_le_mul Om Om
 have h2:0<=A*B:=jl2 hA hB;omega
def Xo(n d:Int):Int:=if d-n % d<=n % d then n/d+1 else n/d
theorem I2(n d:Int)(hn:n<0)(hd:0<d):n.tdiv d=(if n % d=0 then n/d else n/d+1)/\n.tmod d=(if n % d=0 then 0 else n % d-d):=by
 have h1:=Int.tdiv_eq_ediv (a:=n) (b:=d);have h2:=Int.tmod_eq_emod (a:=n) (b:=d)
 have hs:Int.sign d=1:=Int.sign_eq_one_of_pos hd;rw[hs] at h1;by_cases h:n % d=0
 .have hdv:d∣n:=Int.dvd_of_emod_eq_zero h;rw[if_pos (Or.inr hdv)] at h1 h2;rw[if_pos h,if_pos h];omega
 .have hdv:¬d∣n:=λhd'=>h (Int.emod_eq_zero_of_dvd hd')
  have hnn:¬(0<=n\/d∣n):=by omega
  rw[if_neg hnn] at h1 h2;rw[if_neg h,if_neg h];omega
theorem Rx(n d B:Int)(hd:0<d)(h1: -B<=n)(h2:n<=B): -B<=n/d/\n/d<=B:=by
 have e:=Int.mul_ediv_add_emod n d;have m0:=Int.emod_nonneg n (jnw hd)
 have m1:=Int.emod_lt_of_pos n hd;constructor
 .rcases Int.lt_or_le (n/d) (-B) with h|h
  .exfalso;have h3:d*(n/d)<=d*(-B-1):=jmr Om Om
   have h4:d*(-B-1)= -(d*B)-d:=by rw[Int.mul_sub,Int.mul_neg,jnk]
   have h5:1*B<=d*B:=jlO Om Om;omega
  .exact h
 .rcases Int.lt_or_le B (n/d) with h|h
  .exfalso;have h3:d*(B+1)<=d*(n/d):=jmr Om Om
   have h4:d*(B+1)=d*B+d:=by rw[Int.mul_add,jnk]
   have h5:1*B<=d*B:=jlO Om Om;omega
  .exact h
theorem LZ(n d B:Int)(hd:0<d)(h1: -B<=n)(h2:n<=B): -B<=Xo n d/\Xo n d<=B+1:=by
 have:=Rx n d B hd h1 h2;unfold Xo;split<;>omega
theorem RA(n d:Int)(w:World)(hd:1<=d)(hd':d<=2305843009213693952)(h1: -2305843009213693952<=n)(h2:n<=2305843009213693952):
  Calls Tryz.prog 147 #[.int .i64 n,.int .i64 d] w λe w'=>e=.returned (.int .i64 (n/d))/\w=w':=by
 obtain⟨b1,b2⟩:=Rx n d 2305843009213693952 Om h1 h2;have m0:=Int.emod_nonneg n (show d≠0 by omega)
 have m1:=Int.emod_lt_of_pos n (show 0<d by omega);by_cases hn:0<=n
 .go_enter Tryz.func147,Tryz.ntmps147
  go_wp2;go_ret;exact⟨rfl,rfl⟩
 .obtain⟨e1,e2⟩:=I2 n d Om Om;by_cases hm:n % d=0
  .rw[if_pos hm] at e1 e2;have H:=Lib.hid hm
   clear hm
   go_enter Tryz.func147,Tryz.ntmps147
   go_wp2;go_ret;exact⟨rfl,rfl⟩
  .rw[if_neg hm] at e1 e2
   go_enter Tryz.func147,Tryz.ntmps147
   go_wp2;go_ret;exact⟨by simp,rfl⟩
theorem UU(n d:Int)(w:World)(hd:1<=d)(hd':d<=2305843009213693952)(h1: -2305843009213693952<=n)(h2:n<=2305843009213693952):
  Calls Tryz.prog 84 #[.int .i64 n,.int .i64 d] w λe w'=>e=.returned (.int .i64 (Xo n d))/\w=w':=by
 obtain⟨b1,b2⟩:=Rx n d 2305843009213693952 Om h1 h2;have m0:=Int.emod_nonneg n (show d≠0 by omega)
 have m1:=Int.emod_lt_of_pos n (show 0<d by omega);have hr:(d-n % d<=n % d->Xo n d=n/d+1)/\(¬d-n % d<=n % d->Xo n d=n/d):=by
  unfold Xo;exact⟨λh=>if_pos h,λh=>if_neg h⟩
 have HR:=Lib.hid hr;clear hr;by_cases hn:0<=n
 .go_enter Tryz.func84,Tryz.ntmps84
  go_wp2
  all_goals
   go_ret
   first|exact⟨by rw[HR.out.1 Om];rfl,rfl⟩|exact⟨by rw[HR.out.2 Om];rfl,rfl⟩
 .obtain⟨e1,e2⟩:=I2 n d Om Om;by_cases hm:n % d=0
  .rw[if_pos hm] at e1 e2;have H:=Lib.hid hm
   clear hm
   go_enter Tryz.func84,Tryz.ntmps84
   go_wp2
   all_goals
    have:=H.out;go_ret
    first|exact⟨by rw[HR.out.1 Om];rfl,rfl⟩|exact⟨by rw[HR.out.2 Om];rfl,rfl⟩
  .rw[if_neg hm] at e1 e2
   go_enter Tryz.func84,Tryz.ntmps84
   go_wp2
   all_goals
    go_ret
    first|exact⟨by rw[HR.out.1 Om];simp,rfl⟩|exact⟨by rw[HR.out.2 Om];simp,rfl⟩
theorem UR(n d:Int)(w:World)(hd:1<=d)(hd':d<=2305843009213693952)(h1: -2305843009213693952<=n)(h2:n<=2305843009213693952):
  Calls Tryz.prog 128 #[.int .i64 n,.int .i64 d] w λe w'=>e=.returned (.int .i64 (Xo n d))/\w=w':=by
 obtain⟨b1,b2⟩:=Rx n d 2305843009213693952 Om h1 h2;have m0:=Int.emod_nonneg n (show d≠0 by omega)
 have m1:=Int.emod_lt_of_pos n (show 0<d by omega);have hr:(d-n % d<=n % d->Xo n d=n/d+1)/\(¬d-n % d<=n % d->Xo n d=n/d):=by
  unfold Xo;exact⟨λh=>if_pos h,λh=>if_neg h⟩
 have HR:=Lib.hid hr;clear hr;have em:=Int.mul_ediv_add_emod n d
 rw[jmn] at em;have c1: -2305843009213693952-d<=n/d*d:=by omega
 have c2:n/d*d<=2305843009213693952:=by omega
 have EM:=Lib.hid em;clear em;have e3:n-n/d*d=n % d:=by have:=EM.out;omega
 by_cases hq:d-n % d<=n % d
 all_goals
  go_enter Tryz.func128,Tryz.ntmps128
  go_wp2_with (go_at_call 147;refine(RA _ _ _ hd hd' h1 h2).mono ?_;rintro e w1 ⟨rfl,rfl⟩)
  all_goals
   go_ret
   first|exact⟨by rw[HR.out.1 Om];rfl,rfl⟩|exact⟨by rw[HR.out.2 Om];rfl,rfl⟩
def kU(ax ay bx b_y cx cy:Int):Int:=(bx-ax)*(cy-ay)-(b_y-ay)*(cx-ax)
set_option maxHeartbeats 400000 in
theorem H1(ax ay bx b_y cx cy:Int)(w:World)(a1: -1048576<=ax)(a2:ax<=1048576)(a3: -1048576<=ay)(a4:ay<=1048576)(b1: -1048576<=bx)(b2:bx<=1048576)(b3: -1048576<=b_y)(b4:b_y<=1048576)
  (c1: -1048576<=cx) (c2:cx<=1048576) (c3: -1048576<=cy) (c4:cy<=1048576):
  Calls Tryz.prog 77 #[Wh ax ay,Wh bx b_y,Wh cx cy] w λe w'=>e=.returned (.int .i64 (kU ax ay bx b_y cx cy))/\Over w w':=by
 obtain⟨u1,u1'⟩:=QN (a:=bx-ax) (b:=cy-ay) (A:=2097152) (B:=2097152) Om Om Om Om;obtain⟨u2,u2'⟩:=QN (a:=b_y-ay) (b:=cx-ax) (A:=2097152) (B:=2097152) Om Om Om Om
 go_enter Tryz.func77,Tryz.ntmps77
 go_wp2;go_ret;exact⟨by simp[kU],ov9⟩
set_option maxHeartbeats 400000 in
theorem yR(ax ay bx b_y cx cy:Int)(w:World)(a1: -1048576<=ax)(a2:ax<=1048576)(a3: -1048576<=ay)(a4:ay<=1048576)(b1: -1048576<=bx)(b2:bx<=1048576)(b3: -1048576<=b_y)(b4:b_y<=1048576)
  (c1: -1048576<=cx) (c2:cx<=1048576) (c3: -1048576<=cy) (c4:cy<=1048576):
  Calls Tryz.prog 83 #[Wh ax ay,Wh bx b_y,Wh cx cy] w λe w'=>e=.returned (.int .i64 (kU ax ay bx b_y cx cy))/\Over w w':=by
 obtain⟨u1,u1'⟩:=QN (a:=bx-ax) (b:=cy-ay) (A:=2097152) (B:=2097152) Om Om Om Om;obtain⟨u2,u2'⟩:=QN (a:=b_y-ay) (b:=cx-ax) (A:=2097152) (B:=2097152) Om Om Om Om
 go_enter Tryz.func83,Tryz.ntmps83
 go_wp2;go_ret;exact⟨by simp[kU],ov9⟩
theorem jkw(ax ay bx b_y cx cy:Int)(a1: -262144<=ax)(a2:ax<=262144)(a3: -262144<=ay)(a4:ay<=262144)(b1: -262144<=bx)(b2:bx<=262144)(b3: -262144<=b_y)(b4:b_y<=262144)
  (c1: -262144<=cx) (c2:cx<=262144) (c3: -262144<=cy) (c4:cy<=262144): -549755813888<=kU ax ay bx b_y cx cy/\kU ax ay bx b_y cx cy<=549755813888:=by
 have:=QN (a:=bx-ax) (b:=cy-ay) (A:=524288) (B:=524288) Om Om Om Om;have:=QN (a:=b_y-ay) (b:=cx-ax) (A:=524288) (B:=524288) Om Om Om Om
 unfold kU;omega
theorem IL(a x D:Int)(hD:0<D):Xo (a*D+x) D=a+Xo x D:=by
 have h1:(a*D+x)/D=a+x/D:=by rw[Int.add_comm,Int.add_mul_ediv_right _ _ Om];omega
 have h2:(a*D+x) % D=x % D:=by rw[Int.add_comm,Int.add_mul_emod_self_right]
 unfold Xo;rw[h1,h2];split<;>omega
def D9(ax bx num den:Int):Int:=if den<0 then Xo (ax* -den+(bx-ax)* -num) (-den) else Xo (ax*den+(bx-ax)*num) den
theorem Cp(ax bx num den:Int)(h:den≠0):D9 ax bx num den=ax+(if den<0 then Xo ((bx-ax)* -num) (-den) else Xo ((bx-ax)*num) den):=by
 unfold D9;split
 .exact IL _ _ _ Om
 .exact IL _ _ _ Om
def Xv(ax ay bx b_y cx cy dx dy:Int):Int:=(bx-ax)*(dy-cy)-(b_y-ay)*(dx-cx)
def MG(ax ay cx cy dx dy:Int):Int:=(cx-ax)*(dy-cy)-(cy-ay)*(dx-cx)
set_option maxHeartbeats 2000000 in
set_option maxRecDepth 100000 in
theorem Ru(ax ay bx b_y cx cy dx dy:Int)(w:World)(ha:WT ax ay=true)(hb:WT bx b_y=true)(hc:WT cx cy=true)(hd:WT dx dy=true)(hden:Xv ax ay bx b_y cx cy dx dy≠0):
  Calls Tryz.prog 107 #[Wh ax ay,Wh bx b_y,Wh cx cy,Wh dx dy] w λe w'=>
   e=.returned (Wh (D9 ax bx (MG ax ay cx cy dx dy) (Xv ax ay bx b_y cx cy dx dy)) (D9 ay b_y (MG ax ay cx cy dx dy) (Xv ax ay bx b_y cx cy dx dy)))/\Over w w':=by
 simp[WT,X2] at ha hb hc hd;obtain⟨⟨a1,a2⟩,a3,a4⟩:=ha;obtain⟨⟨b1,b2⟩,b3,b4⟩:=hb;obtain⟨⟨c1,c2⟩,c3,c4⟩:=hc;obtain⟨⟨d1,d2⟩,d3,d4⟩:=hd;obtain⟨u1,u1'⟩:=QN (a:=bx-ax) (b:=dy-cy) (A:=524288) (B:=524288) Om Om Om Om;obtain⟨u2,u2'⟩:=QN (a:=b_y-ay) (b:=dx-cx) (A:=524288) (B:=524288) Om Om Om Om;obtain⟨u3,u3'⟩:=QN (a:=cx-ax) (b:=dy-cy) (A:=524288) (B:=524288) Om Om Om Om;obtain⟨u4,u4'⟩:=QN (a:=cy-ay) (b:=dx-cx) (A:=524288) (B:=524288) Om Om Om Om;by_cases hs:(bx-ax)*(dy-cy)-(b_y-ay)*(dx-cx)<0
 .have hres:∀x y,D9 x y (MG ax ay cx cy dx dy) (Xv ax ay bx b_y cx cy dx dy)=Xo (x* -((bx-ax)*(dy-cy)-(b_y-ay)*(dx-cx))+(y-x)* -((cx-ax)*(dy-cy)-(cy-ay)*(dx-cx))) (-((bx-ax)*(dy-cy)-(b_y-ay)*(dx-cx))):=by
   intro x y;unfold D9 Xv MG;rw[if_pos hs]
  have HR:=Lib.hid hres;clear hres hden
  go_enter Tryz.func107,Tryz.ntmps107
  go_wp2;have gD:1≤-((bx-ax)*(dy-cy)-(b_y-ay)*(dx-cx))∧-((bx-ax)*(dy-cy)-(b_y-ay)*(dx-cx))<=549755813888:=by omega
  have gN: -549755813888≤-((cx-ax)*(dy-cy)-(cy-ay)*(dx-cx))∧-((cx-ax)*(dy-cy)-(cy-ay)*(dx-cx))<=549755813888:=by omega
  generalize hD: -((bx-ax)*(dy-cy)-(b_y-ay)*(dx-cx))=D at gD⊢;generalize hN: -((cx-ax)*(dy-cy)-(cy-ay)*(dx-cx))=N at gN⊢;have HD:=Lib.hid hD
  have HN:=Lib.hid hN;clear hD hN;obtain⟨gD1,gD2⟩:=gD;obtain⟨gN1,gN2⟩:=gN;clear u1 u1' u2 u2' u3 u3' u4 u4' hs
  try clear hs0
  obtain⟨v1,v1'⟩:=QN (a:=ax) (b:=D) (A:=262144) (B:=549755813888) Om Om Om Om;obtain⟨v2,v2'⟩:=QN (a:=bx-ax) (b:=N) (A:=524288) (B:=549755813888) Om Om Om Om;obtain⟨v3,v3'⟩:=QN (a:=ay) (b:=D) (A:=262144) (B:=549755813888) Om Om Om Om;obtain⟨v4,v4'⟩:=QN (a:=b_y-ay) (b:=N) (A:=524288) (B:=549755813888) Om Om Om Om;refine KB (B:=ob _) (Over.alloc _ _) Kr (by simp only[jmJ,jlS,jl5,Nat.reduceAdd];rfl) (λ(hBW:Over _ _)=>?_);refine i8 0 ?_;refine i8 1 ?_;refine i8 2 ?_;refine i8 3 ?_;refine i8 4 ?_;refine i8 5 ?_;refine i8 6 ?_;refine i8 7 ?_;refine i8 8 ?_;refine i8 9 ?_;refine i8 10 ?_;refine i8 11 ?_;refine i8 12 ?_;refine w9 13 (hy:=λwx hS=>by(go_simp;refine(UR _ _ _ Om Om Om Om).mono ?_;rintro e w1 ⟨rfl,rfl⟩;exact⟨rfl,Over.refl _⟩)) (h:= ?_);simp only[Act.put,Qc,jL,jM];refine i8 14 ?_;refine i8 15 ?_;refine i8 16 ?_;refine i8 17 ?_;refine i8 18 ?_;refine i8 19 ?_;refine i8 20 ?_;refine i8 21 ?_;refine i8 22 ?_;refine i8 23 ?_;refine i8 24 ?_;refine i8 25 ?_;refine i8 26 ?_;refine w9 27 (hy:=λwx hS=>by(go_simp;refine(UR _ _ _ Om Om Om Om).mono ?_;rintro e w1 ⟨rfl,rfl⟩;exact⟨rfl,Over.refl _⟩)) (h:= ?_);simp only[Act.put,Qc,jL,jM];refine i8 28 ?_;refine DV (i:=29) (by simp only[qX,qY,Qb];rfl) Kr Kr (λw2 h2 K hK=>?_);obtain⟨hc,hf⟩:=Jy h2;have hzw2_0:w.heap.size<w2.heap.size:=jlU (by simp<;>omega) (Over.size h2)
  have hzw2_1:w.heap.size+1<w2.heap.size:=jlU (by simp<;>omega) (Over.size h2);have hzw2_2:w.heap.size+1+1<w2.heap.size:=jlU (by simp<;>omega) (Over.size h2)
  have hzw2_3:w.heap.size+1+1+1<w2.heap.size:=jlU (by simp<;>omega) (Over.size h2);have hzw2_4:w.heap.size+1+1+1+1<w2.heap.size:=jlU (by simp<;>omega) (Over.size h2)
  go_step;refine hK.out _ _ ov9 (λhB=>?_);clear hK K;refine KA Kr (λw3 h3=>?_) _
  try clear hBW
  go_wp2;obtain⟨hc,hf⟩:=Jy h3;exact bodyPost_ret (v:=Wh (Xo (ax*D+(bx-ax)*N) D) (Xo (ay*D+(b_y-ay)*N) D)) (by simp[results,Tryz.results107,go_sem, *]) rfl ⟨by rw[HR.out,HR.out,HD.out,HN.out],ov9⟩
 .have hres:∀x y,D9 x y (MG ax ay cx cy dx dy) (Xv ax ay bx b_y cx cy dx dy)=Xo (x*((bx-ax)*(dy-cy)-(b_y-ay)*(dx-cx))+(y-x)*((cx-ax)*(dy-cy)-(cy-ay)*(dx-cx))) ((bx-ax)*(dy-cy)-(b_y-ay)*(dx-cx)):=by
   intro x y;unfold D9 Xv MG;rw[if_neg hs]
  have HR:=Lib.hid hres;have hs0:0<(bx-ax)*(dy-cy)-(b_y-ay)*(dx-cx):=by unfold Xv at hden;omega
  clear hres hden
  go_enter Tryz.func107,Tryz.ntmps107
  go_wp2;have gD:1<=((bx-ax)*(dy-cy)-(b_y-ay)*(dx-cx))/\((bx-ax)*(dy-cy)-(b_y-ay)*(dx-cx))<=549755813888:=by omega
  have gN: -549755813888<=((cx-ax)*(dy-cy)-(cy-ay)*(dx-cx))/\((cx-ax)*(dy-cy)-(cy-ay)*(dx-cx))<=549755813888:=by omega
  generalize hD:((bx-ax)*(dy-cy)-(b_y-ay)*(dx-cx))=D at gD⊢;generalize hN:((cx-ax)*(dy-cy)-(cy-ay)*(dx-cx))=N at gN⊢;have HD:=Lib.hid hD
  have HN:=Lib.hid hN;clear hD hN;obtain⟨gD1,gD2⟩:=gD;obtain⟨gN1,gN2⟩:=gN;clear u1 u1' u2 u2' u3 u3' u4 u4' hs
  try clear hs0
  obtain⟨v1,v1'⟩:=QN (a:=ax) (b:=D) (A:=262144) (B:=549755813888) Om Om Om Om;obtain⟨v2,v2'⟩:=QN (a:=bx-ax) (b:=N) (A:=524288) (B:=549755813888) Om Om Om Om;obtain⟨v3,v3'⟩:=QN (a:=ay) (b:=D) (A:=262144) (B:=549755813888) Om Om Om Om;obtain⟨v4,v4'⟩:=QN (a:=b_y-ay) (b:=N) (A:=524288) (B:=549755813888) Om Om Om Om;refine KB (B:=ob _) (Over.alloc _ _) Kr (by simp only[jmJ,jlS,jl5,Nat.reduceAdd];rfl) (λ(hBW:Over _ _)=>?_);refine i8 0 ?_;refine i8 1 ?_;refine i8 2 ?_;refine i8 3 ?_;refine i8 4 ?_;refine i8 5 ?_;refine i8 6 ?_;refine i8 7 ?_;refine i8 8 ?_;refine i8 9 ?_;refine i8 10 ?_;refine i8 11 ?_;refine i8 12 ?_;refine w9 13 (hy:=λwx hS=>by(go_simp;refine(UR _ _ _ Om Om Om Om).mono ?_;rintro e w1 ⟨rfl,rfl⟩;exact⟨rfl,Over.refl _⟩)) (h:= ?_);simp only[Act.put,Qc,jL,jM];refine i8 14 ?_;refine i8 15 ?_;refine i8 16 ?_;refine i8 17 ?_;refine i8 18 ?_;refine i8 19 ?_;refine i8 20 ?_;refine i8 21 ?_;refine i8 22 ?_;refine i8 23 ?_;refine i8 24 ?_;refine i8 25 ?_;refine i8 26 ?_;refine w9 27 (hy:=λwx hS=>by(go_simp;refine(UR _ _ _ Om Om Om Om).mono ?_;rintro e w1 ⟨rfl,rfl⟩;exact⟨rfl,Over.refl _⟩)) (h:= ?_);simp only[Act.put,Qc,jL,jM];refine i8 28 ?_;refine DV (i:=29) (by simp only[qX,qY,Qb];rfl) Kr Kr (λw2 h2 K hK=>?_);obtain⟨hc,hf⟩:=Jy h2;have hzw2_0:w.heap.size<w2.heap.size:=jlU (by simp<;>omega) (Over.size h2)
  have hzw2_1:w.heap.size+1<w2.heap.size:=jlU (by simp<;>omega) (Over.size h2);have hzw2_2:w.heap.size+1+1<w2.heap.size:=jlU (by simp<;>omega) (Over.size h2)
  have hzw2_3:w.heap.size+1+1+1<w2.heap.size:=jlU (by simp<;>omega) (Over.size h2);have hzw2_4:w.heap.size+1+1+1+1<w2.heap.size:=jlU (by simp<;>omega) (Over.size h2)
  go_step;refine hK.out _ _ ov9 (λhB=>?_);clear hK K;refine KA Kr (λw3 h3=>?_) _
  try clear hBW
  go_wp2;obtain⟨hc,hf⟩:=Jy h3;exact bodyPost_ret (v:=Wh (Xo (ax*D+(bx-ax)*N) D) (Xo (ay*D+(b_y-ay)*N) D)) (by simp[results,Tryz.results107,go_sem, *]) rfl ⟨by rw[HR.out,HR.out,HD.out,HN.out],ov9⟩
end Go.Proofs.YtjbahemkhphndaaGreat
