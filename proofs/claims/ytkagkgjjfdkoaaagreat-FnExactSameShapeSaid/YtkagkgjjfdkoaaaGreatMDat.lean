import Derived.Test.YtkagkgjjfdkoaaaGreatMTy
import Derived.Test.YtkagkgjjfdkoaaaGreatML2
import Derived.Test.YtkagkgjjfdkoaaaGreatMCorner
set_option linter.unusedVariables false
set_option linter.unusedSimpArgs false
namespace Go.Proofs.YtkagkgjjfdkoaaaGreat
open Go Go.RowKit
set_option maxRecDepth 100000
theorem vb {a b:Bool} (h:a=b) :some (Value.bool a) =some (Value.bool b) :=by rw [h]
theorem vi {a b:Int} (h:a=b) :some (Value.int .i64 a) =some (Value.int .i64 b) :=by rw [h]
theorem QJ {a b:Bool} (h:a=b) :Ending.returned (.bool a) =Ending.returned (.bool b) :=by rw [h]
theorem W8 {a b:Int} (h:a=b) :Ending.returned (.int .i64 a) =Ending.returned (.int .i64 b) :=by rw [h]
theorem Calls.still {P:Program} {f:FuncId} {args:Array Value} {w:World} {v:Value} (h:Calls P f args w fun e w'=>e= .returned v∧w=w') :Calls P f args w fun e w'=>e= .returned v∧Over w w':=h.mono fun e w' ⟨he,hw⟩ =>⟨he,hw▸Over.refl _⟩
section
variable {w:World} {w0:Bs} {Rs:List Res}
def j7 (p:Int×Int) :List Value:= [.int .i64 p.1, .int .i64 p.2]
theorem E7 {k b T m:Nat} (xs:List (Int×Int)) (hk:Rs[k]? =some (.cel b T (xs.flatMap j7))) (hm:xs.length=m) :∀w,St w0 Rs w→Pts w (some ⟨b,0,none⟩) m xs:=fun w hs=>by
 have hh:=hs.cel hk
 refine⟨hm,fun _=>⟨b,0,J,JQ hh,fun j hj=> ?_⟩⟩
 have hj':j<xs.length:=by omega
 have hat:=fun q hq=>flat2 xs j q hj' hq
 rw [je3,cell_of_row w b _ _ T (0,0) hh,cell_of_row w b _ _ T (0,0) hh]
 have h0:=hat 0 (by omega)
 have h1:=hat 1 (by omega)
 rw [Ya hj'] at h0 h1
 simp only [List.getElem?_toArray]
 exact⟨by simpa [j7] using h0,by simpa [j7] using h1⟩
where
 flat2:∀(xs:List (Int×Int)) (k j:Nat) (hk:k<xs.length),j<2→(xs.flatMap j7)[k*2+j]? = (j7 xs[k])[j]?
 | [],_,_,h,_=>absurd h (by simp)
 | a::r,0,j,_,hj=>by
  rw [je4,Nat.zero_mul,je3,List.getElem?_append_left (by simpa [j7] using hj)]
  rfl
 | a::r,k+1,j,h,hj=>by
  have hl: (j7 a).length=2:=rfl
  rw [je4,List.getElem?_append_right (by rw [hl];omega),hl]
  have:=flat2 r k j (by simpa using h) hj
  rw [show(k+1) *2+j- 2=k*2+j by omega,this]
  rfl
theorem Vm {b o m j:Nat} {xs:List (Int×Int)} (h:Pts w (some ⟨b,o,none⟩) m xs) (hj:j<m) :∀w',St ⟨w,[]⟩ Rs w'→∀q v,[Value.int .i64 (px xs j),Value.int .i64 (py xs j)][q]? =some v→w'.cell? ⟨b,o+j*2+q,none⟩ =some v:=fun w' hs q v hv=>by
 obtain ⟨b',o',e,_,h1,h2⟩ := (h.over hs.fin).at_ hj
 injection e with e
 injection e with e1 e2 _
 subst e1 e2
 match q,hv with
 | 0,hv=>simp at hv;subst hv;exact h1
 | 1,hv=>simp at hv;subst hv;exact h2
end
theorem G3 {P:Program} {md:Region.Mode} {ops:Array Oper} {Q:Exit→Act→World→Prop} {B B':Base} (hB:∀w,B'.holds w→B.holds w) {f:Nat} :
  ∀(fuel:Nat) (listed:Array Bool) (a:Act) (W:World),q8 P md ops Q B' f fuel listed a W→q8 P md ops Q B f fuel listed a W
 | 0,_,_,_,h=>h
 | fuel+1,listed,a,W,h=>⟨h.1,fun i hi w hw=>⟨fun hf=>wpOp_mono (fun a' w' h'=>⟨hB _ h'.1,G3 hB fuel _ a' w' h'.2⟩) ((h.2 i hi w hw).1 hf),(h.2 i hi w hw).2⟩⟩
theorem Q5 {P:Program} {n f fuel:Nat} {env:List (Nat×Value)} {w0:Bs} {Rs Rs0:List Res} {ops:Array Oper} {listed:Array Bool} {Q:Exit→Act→World→Prop} (hsub:∀w,St w0 Rs w→St w0 Rs0 w)
  (h:At n env w0 Rs (fun a w=>q8 P .any ops Q (uZ w0 Rs) f fuel listed a w)) :At n env w0 Rs (fun a w=>St w0 Rs0 w∧q8 P .any ops Q (uZ w0 Rs0) f fuel listed a w) :=
 fun a w hf hs=>⟨hsub w hs,G3 (B:=uZ w0 Rs0) (B':=uZ w0 Rs) hsub fuel listed a w (h a w hf hs)⟩
end Go.Proofs.YtkagkgjjfdkoaaaGreat
namespace Go.Proofs.YtkagkgjjfdkoaaaGreat
open Go Go.RowKit
set_option maxHeartbeats 400000 in
set_option maxRecDepth 100000 in
theorem Dg (A B:Option Addr) (n c d:Nat) (rs:List jS) (w:World) (h:Rings w A n rs) (h':Rings w B n rs) (ht: (total rs:Int)≤1048576) :
  Calls Tryz.prog 33 #[.slice A n c, .slice B n d] w fun e w'=>e= .returned (.bool true)∧Over w w':=by
 have hlen:=Lib.hid h.1
 have hn: (n:Int)≤1048576:=by have:=hlen.out;unfold total at ht;omega
 have hq: ((n:Int) != (n:Int)) =false:=by simp
 have Ht:=Lib.hid ht
 clear ht
 go_enter Tryz.func33,Tryz.ntmps33
 go_wp2
 go_loopw [5] (fun i wr=>∃k:Nat,k≤n∧i= .int .i64 k∧Over w wr) (fun i _=>n- (intOf i).toNat)
 case atStart=>exact⟨0,jeE _,rfl,Over.refl _⟩
 case round=>
  rename_i wr
  obtain ⟨k,hk,rfl,hb⟩ :=hrel
  by_cases hlt:k<n
  ·obtain ⟨b,o,Ak,ck,rfl,hbB,hcell,hpts,hmax⟩ := (h.over hb).at_ hlt
   obtain ⟨b',o',Ak',ck',rfl,hbB',hcell',hpts',_⟩ := (h'.over hb).at_ hlt
   have hr: ((rg rs k).length:Int)≤1048576:=by have:=Ht.out;have:=Vn rs (k:=k) (by rw [hlen.out];exact hlt);omega
   have HP:=Lib.hid (And.intro hpts hpts')
   clear h h' hmax hpts hpts'
   go_wp2
   refine QZ (B:=ob _) (Over.refl _) (by kernel_rfl) (by simp only [jfu,jeP,je6,Nat.reduceAdd];rfl) (fun hBW=> ?_);refine w9 0 (hy:=fun wx hS=>by(obtain ⟨hc,hf⟩ :=Ji hS;clear hS;go_simp; (try go_bits);exact⟨rfl,Over.refl _⟩)) (h:= ?_)
   simp only [Act.put,xd7,ya,yb]
   refine w9 1 (hy:=fun wx hS=>by(obtain ⟨hc,hf⟩ :=Ji hS;clear hS;go_simp; (try go_bits);exact⟨rfl,Over.refl _⟩)) (h:= ?_)
   simp only [Act.put,xd7,ya,yb]
   refine w9 2 (hy:=fun wx hS=>by(obtain ⟨hc,hf⟩ :=Ji hS;clear hS;go_simp; (try go_bits);exact⟨rfl,Over.refl _⟩)) (h:= ?_)
   simp only [Act.put,xd7,ya,yb]
   refine w9 3 (hy:=fun wx hS=>by(obtain ⟨hc,hf⟩ :=Ji hS;clear hS;go_simp; (try go_bits);exact⟨rfl,Over.refl _⟩)) (h:= ?_)
   simp only [Act.put,xd7,ya,yb]
   refine w9 4 (hy:=fun wx hS=>by(obtain ⟨hc,hf⟩ :=Ji hS;clear hS;go_simp; (try go_bits);exact⟨rfl,Over.refl _⟩)) (h:= ?_)
   simp only [Act.put,xd7,ya,yb]
   refine w9 5 (hy:=fun wx hS=>by(obtain ⟨hc,hf⟩ :=Ji hS;clear hS;go_simp; (try go_bits);exact⟨rfl,Over.refl _⟩)) (h:= ?_)
   simp only [Act.put,xd7,ya,yb]
   refine w9 6 (hy:=fun wx hS=>by(obtain ⟨hc,hf⟩ :=Ji hS;clear hS;go_simp; (try go_bits);exact⟨rfl,Over.refl _⟩)) (h:= ?_)
   simp only [Act.put,xd7,ya,yb]
   refine w9 7 (hy:=fun wx hS=>by(obtain ⟨hc,hf⟩ :=Ji hS;clear hS;go_simp; (try go_bits);exact⟨rfl,Over.refl _⟩)) (h:= ?_)
   simp only [Act.put,xd7,ya,yb]
   refine w9 8 (hy:=fun wx hS=>by(go_simp;refine(F7 _ _ _ _ _ _ _ (HP.out.1.over (by first | exact hS | exact Over.trans hS (Over.refl _))) (HP.out.2.over hS) hr).mono ?_;rintro e w1 ⟨rfl,hb1⟩;exact⟨rfl,hb1⟩)) (h:= ?_)
   simp only [Act.put,xd7,ya,yb]
   refine w9 9 (hy:=fun wx hS=>by(obtain ⟨hc,hf⟩ :=Ji hS;clear hS;go_simp; (try go_bits);exact⟨rfl,Over.refl _⟩)) (h:= ?_)
   simp only [Act.put,xd7,ya,yb]
   refine QY (by kernel_rfl) (fun w2 h2=> ?_) _
   try clear hBW
   go_wp2
   go_roundw
   case rel=>exact⟨k+1,by omega,by go_num,(by repeat (first | exact Over.refl _ | (with_reducible assumption) | refine Over.alloc_ ?_ _ | refine Over.trans ?_ (by with_reducible assumption) | refine Over.drew_ ?_ | refine Over.set_ ?_ (by simp;try omega) _))⟩
   case measure=>simp [intOf];omega
  ·clear h h'
   go_wp2
   go_ret
   exact⟨rfl,(by repeat (first | exact Over.refl _ | (with_reducible assumption) | refine Over.alloc_ ?_ _ | refine Over.trans ?_ (by with_reducible assumption) | refine Over.drew_ ?_ | refine Over.set_ ?_ (by simp;try omega) _))⟩
set_option maxHeartbeats 400000 in
theorem JY (A B:Option Addr) (n c d:Nat) (rs:List jS) (w:World) (h:Rings w A n rs) (h':Rings w B n rs) (ht: (total rs:Int)≤1048576) :
  Calls Tryz.prog 14 #[Ju A n c,Ju B n d] w fun e w'=>e= .returned (.bool true)∧Over w w':=by
 go_enter Tryz.func14,Tryz.ntmps14
 go_wp2_with (go_at_call 33;refine(Dg _ _ _ _ _ rs _ (h.over (by repeat (first | exact Over.refl _ | (with_reducible assumption) | refine Over.alloc_ ?_ _ | refine Over.trans ?_ (by with_reducible assumption) | refine Over.drew_ ?_ | refine Over.set_ ?_ (by simp;try omega) _))) (h'.over (by repeat (first | exact Over.refl _ | (with_reducible assumption) | refine Over.alloc_ ?_ _ | refine Over.trans ?_ (by with_reducible assumption) | refine Over.drew_ ?_ | refine Over.set_ ?_ (by simp;try omega) _))) ht).mono ?_;rintro e w1 ⟨rfl,hb1⟩)
 go_ret
 exact⟨rfl,(by repeat (first | exact Over.refl _ | (with_reducible assumption) | refine Over.alloc_ ?_ _ | refine Over.trans ?_ (by with_reducible assumption) | refine Over.drew_ ?_ | refine Over.set_ ?_ (by simp;try omega) _))⟩
theorem jb0 {xs ys:jS} (h:xs.length=ys.length) (hp:∀j,j<xs.length→px xs j=px ys j∧py xs j=py ys j) :xs=ys:=by
 refine jfR h fun j h1 h2=> ?_
 rw [Ya h1,Ya h2,(hp j h1).1,(hp j h1).2]
theorem PI {rs ss:List jS} (h:rs.length=ss.length) (hp:∀j,j<rs.length→rg rs j=rg ss j) :rs=ss:=by
 refine jfR h fun j h1 h2=> ?_
 rw [wl h1,wl h2,hp j h1]
set_option maxHeartbeats 1000000 in
set_option maxRecDepth 100000 in
theorem GE (A B:Option Addr) (n m c d:Nat) (xs ys:jS) (w:World) (h:Pts w A n xs) (h':Pts w B m ys) (hn: (n:Int)≤1048576) (hm: (m:Int)≤1048576) :
  Calls Tryz.prog 51 #[.slice A n c, .slice B m d] w fun e w'=>e= .returned (.bool (decide (xs=ys)))∧Over w w':=by
 have hl:=Lib.hid h.1
 have hl':=Lib.hid h'.1
 by_cases hnm:n=m
 ·subst hnm
  have hq: ((n:Int) != (n:Int)) =false:=by simp
  go_enter Tryz.func51,Tryz.ntmps51
  go_wp2
  go_loopw [5] (fun i wr=>∃k:Nat,k≤n∧i= .int .i64 k∧Over w wr∧Hid (∀j,j<k→px xs j=px ys j∧py xs j=py ys j)) (fun i _=>n- (intOf i).toNat)
  case atStart=>exact⟨0,jeE _,rfl,Over.refl _,fun j hj=>absurd hj (by omega)⟩
  case round=>
   rename_i wr
   obtain ⟨k,hk,rfl,hb,hall⟩ :=hrel
   by_cases hlt:k<n
   ·obtain ⟨b,o,rfl,hbB,hc1,hc2⟩ := (h.over hb).at_ hlt
    obtain ⟨b',o',rfl,hbB',hc1',hc2'⟩ := (h'.over hb).at_ hlt
    have Hb:=Lib.hid hb
    have hs:Hid (px xs k=px ys k∧py xs k=py ys k→∀j,j<k+1→px xs j=px ys j∧py xs j=py ys j) :=by
     intro h j hj
     by_cases hjk:j=k
     ·subst hjk;exact h
     ·exact hall.out j (by omega)
    have hd:Hid (¬(px xs k=px ys k∧py xs k=py ys k)→decide (xs=ys) =false) :=fun h=>decide_eq_false (fun e=>h (by rw [e];exact⟨rfl,rfl⟩))
    clear h h' hb hall
    generalize px xs k=x at hc1 hs hd
    generalize py xs k=y at hc2 hs hd
    generalize px ys k=x' at hc1' hs hd
    generalize py ys k=y' at hc2' hs hd
    have key: (x=x'∧y=y')∨(¬x=x')∨(x=x'∧¬y=y') :=by omega
    rcases key with⟨rfl,rfl⟩ | hne |⟨rfl,hne⟩
    ·have hq2: (x==x) =true:=by simp
     have hq3: (y==y) =true:=by simp
     have hs2:=Lib.hid (hs.out ⟨rfl,rfl⟩)
     clear hs
     go_wp2
     refine QZ (B:=ob _) (Over.refl _) (by kernel_rfl) (by simp only [jfu,jeP,je6,Nat.reduceAdd];rfl) (fun hBW=> ?_);refine w9 0 (hy:=fun wx hS=>by(obtain ⟨hc,hf⟩ :=Ji hS;clear hS;go_simp; (try go_bits);exact⟨rfl,Over.refl _⟩)) (h:= ?_)
     simp only [Act.put,xd7,ya,yb]
     refine w9 1 (hy:=fun wx hS=>by(obtain ⟨hc,hf⟩ :=Ji hS;clear hS;go_simp; (try go_bits);exact⟨rfl,Over.refl _⟩)) (h:= ?_)
     simp only [Act.put,xd7,ya,yb]
     refine w9 2 (hy:=fun wx hS=>by(obtain ⟨hc,hf⟩ :=Ji hS;clear hS;go_simp; (try go_bits);exact⟨rfl,Over.refl _⟩)) (h:= ?_)
     simp only [Act.put,xd7,ya,yb]
     refine w9 3 (hy:=fun wx hS=>by(obtain ⟨hc,hf⟩ :=Ji hS;clear hS;go_simp; (try go_bits);exact⟨rfl,Over.refl _⟩)) (h:= ?_)
     simp only [Act.put,xd7,ya,yb]
     refine w9 4 (hy:=fun wx hS=>by(obtain ⟨hc,hf⟩ :=Ji hS;clear hS;go_simp; (try go_bits);exact⟨rfl,Over.refl _⟩)) (h:= ?_)
     simp only [Act.put,xd7,ya,yb]
     refine w9 5 (hy:=fun wx hS=>by(obtain ⟨hc,hf⟩ :=Ji hS;clear hS;go_simp; (try go_bits);exact⟨rfl,Over.refl _⟩)) (h:= ?_)
     simp only [Act.put,xd7,ya,yb]
     refine w9 6 (hy:=fun wx hS=>by(obtain ⟨hc,hf⟩ :=Ji hS;clear hS;go_simp; (try go_bits);exact⟨rfl,Over.refl _⟩)) (h:= ?_)
     simp only [Act.put,xd7,ya,yb]
     refine w9 7 (hy:=fun wx hS=>by(obtain ⟨hc,hf⟩ :=Ji hS;clear hS;go_simp; (try go_bits);exact⟨rfl,Over.refl _⟩)) (h:= ?_)
     simp only [Act.put,xd7,ya,yb]
     refine w9 8 (hy:=fun wx hS=>by(obtain ⟨hc,hf⟩ :=Ji hS;clear hS;go_simp; (try go_bits);exact⟨rfl,Over.refl _⟩)) (h:= ?_)
     simp only [Act.put,xd7,ya,yb]
     refine QY (by kernel_rfl) (fun w2 h2=> ?_) _
     try clear hBW
     go_wp2
     go_roundw
     case rel=>exact⟨k+1,by omega,by go_num,Hb.out.trans h2,hs2.out⟩
     case measure=>simp [intOf];omega
    all_goals
     have hq:=Lib.hid (hd.out (by omega))
     go_wp2
     refine QZ (B:=ob _) (Over.refl _) (by kernel_rfl) (by simp only [jfu,jeP,je6,Nat.reduceAdd];rfl) (fun hBW=> ?_);refine w9 0 (hy:=fun wx hS=>by(obtain ⟨hc,hf⟩ :=Ji hS;clear hS;go_simp; (try go_bits);exact⟨rfl,Over.refl _⟩)) (h:= ?_)
     simp only [Act.put,xd7,ya,yb]
     refine w9 1 (hy:=fun wx hS=>by(obtain ⟨hc,hf⟩ :=Ji hS;clear hS;go_simp; (try go_bits);exact⟨rfl,Over.refl _⟩)) (h:= ?_)
     simp only [Act.put,xd7,ya,yb]
     refine w9 2 (hy:=fun wx hS=>by(obtain ⟨hc,hf⟩ :=Ji hS;clear hS;go_simp; (try go_bits);exact⟨rfl,Over.refl _⟩)) (h:= ?_)
     simp only [Act.put,xd7,ya,yb]
     refine w9 3 (hy:=fun wx hS=>by(obtain ⟨hc,hf⟩ :=Ji hS;clear hS;go_simp; (try go_bits);exact⟨rfl,Over.refl _⟩)) (h:= ?_)
     simp only [Act.put,xd7,ya,yb]
     refine w9 4 (hy:=fun wx hS=>by(obtain ⟨hc,hf⟩ :=Ji hS;clear hS;go_simp; (try go_bits);exact⟨rfl,Over.refl _⟩)) (h:= ?_)
     simp only [Act.put,xd7,ya,yb]
     refine w9 5 (hy:=fun wx hS=>by(obtain ⟨hc,hf⟩ :=Ji hS;clear hS;go_simp; (try go_bits);exact⟨rfl,Over.refl _⟩)) (h:= ?_)
     simp only [Act.put,xd7,ya,yb]
     refine w9 6 (hy:=fun wx hS=>by(obtain ⟨hc,hf⟩ :=Ji hS;clear hS;go_simp; (try go_bits);exact⟨rfl,Over.refl _⟩)) (h:= ?_)
     simp only [Act.put,xd7,ya,yb]
     refine w9 7 (hy:=fun wx hS=>by(obtain ⟨hc,hf⟩ :=Ji hS;clear hS;go_simp; (try go_bits);exact⟨rfl,Over.refl _⟩)) (h:= ?_)
     simp only [Act.put,xd7,ya,yb]
     refine w9 8 (hy:=fun wx hS=>by(obtain ⟨hc,hf⟩ :=Ji hS;clear hS;go_simp; (try go_bits);exact⟨rfl,Over.refl _⟩)) (h:= ?_)
     simp only [Act.put,xd7,ya,yb]
     refine QY (by kernel_rfl) (fun w2 h2=> ?_) _
     try clear hBW
     go_wp2
     go_ret
     exact⟨by rw [hq.out];rfl,Hb.out.trans h2⟩
   ·have hkn:k=n:=by omega
    have hq:Hid (decide (xs=ys) =true) :=decide_eq_true (jb0 (by rw [hl.out,hl'.out]) (fun j hj=>hall.out j (by rw [hl.out] at hj;omega)))
    clear h h' hall hl hl'
    go_wp2
    go_ret
    exact⟨by rw [hq.out];rfl,hb⟩
 ·have hq: ((n:Int) != (m:Int)) =true:=by simp;omega
  have hv:Hid (decide (xs=ys) =false) :=decide_eq_false (fun e=>hnm (by rw [←hl.out,←hl'.out,e]))
  clear h h' hl hl'
  go_enter Tryz.func51,Tryz.ntmps51
  go_wp2
  go_ret
  exact⟨by rw [hv.out];rfl,(by repeat (first | exact Over.refl _ | (with_reducible assumption) | refine Over.alloc_ ?_ _ | refine Over.trans ?_ (by with_reducible assumption) | refine Over.drew_ ?_ | refine Over.set_ ?_ (by simp;try omega) _))⟩
theorem Zh {w w':World} {b o:Nat} (h:w'.heap[b]? =w.heap[b]?) :w'.cell? ⟨b,o,none⟩ =w.cell? ⟨b,o,none⟩ :=by
 simp only [World.cell?,h]
theorem Pts.agree {w w':World} {A:Option Addr} {n:Nat} {xs:List (Int×Int)} (h:Pts w A n xs) (hz:w.heap.size≤w'.heap.size) (ha:∀p,A=some p→w'.heap[p.block]? =w.heap[p.block]?) :Pts w' A n xs:=by
 refine⟨h.1,fun hn=> ?_⟩
 obtain ⟨b,o,rfl,hlt,hc⟩ :=h.2 hn
 have hb:=ha _ rfl
 refine⟨b,o,J,by omega,fun k hk=> ?_⟩
 rw [Zh hb,Zh hb]
 exact hc k hk
theorem OwnR.agree {B:Nat} {w w':World} {g n:Nat} {rs:List jS} (h:OwnR B w g n rs) (hz:w.heap.size≤w'.heap.size) (ha:∀b,B≤b→b<w.heap.size→w'.heap[b]? =w.heap[b]?) :OwnR B w' g n rs:=by
 have hB:=h.1
 have hg:=ha g h.1 h.2.2.1.lt
 refine⟨h.1,h.2.1,?_,fun k hk=> ?_⟩
 ·obtain ⟨cs,hs,hh⟩ :=h.2.2.1
  exact⟨cs,hs,hg.trans hh⟩
 ·obtain ⟨gk,h1,h2,h3,h4⟩ :=h.2.2.2 k hk
  have hgk:=ha gk h1 h4.1.lt
  refine⟨gk,h1,h2,(Zh hg).trans h3,?_,h4.2.agree hz fun p hp=> ?_⟩
  ·obtain ⟨cs,hs,hh⟩ :=h4.1
   exact⟨cs,hs,hgk.trans hh⟩
  ·injection hp with hp
   subst hp
   exact hgk
def Res.clo (lo hi:Nat) (P0:World→Prop) :Res where
 F b:=lo≤b∧b<hi
 P w:=hi≤w.heap.size∧∀w',hi≤w'.heap.size→(∀b,lo≤b→b<hi→w'.heap[b]? =w.heap[b]?)→P0 w'
 low w h b hb:=jeR hb.2 h.1
 B:=0
 dep w w' h hz hb:=⟨jft h.1 hz,fun w'' h2 h3=>h.2 w'' h2 fun b h4 h5=> (h3 b h4 h5).trans (hb b (jeR h5 h.1) (.inr ⟨h4,h5⟩))⟩
section
variable {w:World} {w0:Bs} {Rs:List Res}
end
end Go.Proofs.YtkagkgjjfdkoaaaGreat
namespace Go.Proofs.YtkagkgjjfdkoaaaGreat
open Go.RowKit
def zP (n d:Int) :Int:=if d- n % d≤n % d then n/d+1 else n/d
theorem BL (n d:Int) (hn:n<0) (hd:0<d) :n.tdiv d= (if n % d=0 then n/d else n/d+1)∧n.tmod d= (if n % d=0 then 0 else n % d- d) :=by
 have h1:=Int.tdiv_eq_ediv (a:=n) (b:=d)
 have h2:=Int.tmod_eq_emod (a:=n) (b:=d)
 have hs:Int.sign d=1:=Int.sign_eq_one_of_pos hd
 rw [hs] at h1
 by_cases h:n % d=0
 ·have hdv:d∣n:=Int.dvd_of_emod_eq_zero h
  rw [if_pos (Or.inr hdv)] at h1 h2
  rw [if_pos h,if_pos h]
  omega
 ·have hdv:¬d∣n:=fun hd'=>h (Int.emod_eq_zero_of_dvd hd')
  have hnn:¬(0≤n∨d∣n) :=by omega
  rw [if_neg hnn] at h1 h2
  rw [if_neg h,if_neg h]
  omega
theorem Dd (n d B:Int) (hd:0<d) (h1: -B≤n) (h2:n≤B) : -B≤n/d∧n/d≤B:=by
 have e:=Int.mul_ediv_add_emod n d
 have m0:=Int.emod_nonneg n (Int.ne_of_gt hd)
 have m1:=Int.emod_lt_of_pos n hd
 constructor
 ·rcases Int.lt_or_le (n/d) (-B) with h | h
  ·exfalso
   have h3:d* (n/d)≤d* (-B- 1) :=jfg (by omega) (by omega)
   have h4:d* (-B- 1) = -(d*B) - d:=by rw [Int.mul_sub,Int.mul_neg,jf9]
   have h5:1*B≤d*B:=jeH (by omega) (by omega)
   omega
  ·exact h
 ·rcases Int.lt_or_le B (n/d) with h | h
  ·exfalso
   have h3:d* (B+1)≤d* (n/d) :=jfg (by omega) (by omega)
   have h4:d* (B+1) =d*B+d:=by rw [Int.mul_add,jf9]
   have h5:1*B≤d*B:=jeH (by omega) (by omega)
   omega
  ·exact h
theorem Gc (n d B:Int) (hd:0<d) (h1: -B≤n) (h2:n≤B) : -B≤zP n d∧zP n d≤B+1:=by
 have:=Dd n d B hd h1 h2
 unfold zP
 split<;>omega
theorem Dh (n d:Int) (w:World) (hd:1≤d) (hd':d≤2305843009213693952) (h1: -2305843009213693952≤n) (h2:n≤2305843009213693952) :
  Calls Tryz.prog 150 #[.int .i64 n, .int .i64 d] w fun e w'=>e= .returned (.int .i64 (n/d))∧w=w':=by
 obtain ⟨b1,b2⟩ :=Dd n d 2305843009213693952 (by omega) h1 h2
 have m0:=Int.emod_nonneg n (show d≠0 by omega)
 have m1:=Int.emod_lt_of_pos n (show 0<d by omega)
 by_cases hn:0≤n
 ·go_enter Tryz.func150,Tryz.ntmps150
  go_wp2
  go_ret
  exact⟨rfl,rfl⟩
 ·obtain ⟨e1,e2⟩ :=BL n d (by omega) (by omega)
  by_cases hm:n % d=0
  ·rw [if_pos hm] at e1 e2
   have H:=Lib.hid hm
   clear hm
   go_enter Tryz.func150,Tryz.ntmps150
   go_wp2
   go_ret
   exact⟨rfl,rfl⟩
  ·rw [if_neg hm] at e1 e2
   go_enter Tryz.func150,Tryz.ntmps150
   go_wp2
   go_ret
   exact⟨by simp,rfl⟩
theorem uq (n d:Int) (w:World) (hd:1≤d) (hd':d≤2305843009213693952) (h1: -2305843009213693952≤n) (h2:n≤2305843009213693952) :
  Calls Tryz.prog 142 #[.int .i64 n, .int .i64 d] w fun e w'=>e= .returned (.int .i64 (zP n d))∧w=w':=by
 obtain ⟨b1,b2⟩ :=Dd n d 2305843009213693952 (by omega) h1 h2
 have m0:=Int.emod_nonneg n (show d≠0 by omega)
 have m1:=Int.emod_lt_of_pos n (show 0<d by omega)
 have hr: (d- n % d≤n % d→zP n d=n/d+1)∧(¬d- n % d≤n % d→zP n d=n/d) :=by
  unfold zP;exact⟨fun h=>if_pos h,fun h=>if_neg h⟩
 have HR:=Lib.hid hr
 clear hr
 by_cases hn:0≤n
 ·go_enter Tryz.func142,Tryz.ntmps142
  go_wp2
  all_goals
   go_ret
   first | exact⟨by rw [HR.out.1 (by omega)];rfl,rfl⟩ | exact⟨by rw [HR.out.2 (by omega)];rfl,rfl⟩
 ·obtain ⟨e1,e2⟩ :=BL n d (by omega) (by omega)
  by_cases hm:n % d=0
  ·rw [if_pos hm] at e1 e2
   have H:=Lib.hid hm
   clear hm
   go_enter Tryz.func142,Tryz.ntmps142
   go_wp2
   all_goals
    have:=H.out
    go_ret
    first | exact⟨by rw [HR.out.1 (by omega)];rfl,rfl⟩ | exact⟨by rw [HR.out.2 (by omega)];rfl,rfl⟩
  ·rw [if_neg hm] at e1 e2
   go_enter Tryz.func142,Tryz.ntmps142
   go_wp2
   all_goals
    go_ret
    first | exact⟨by rw [HR.out.1 (by omega)];simp,rfl⟩ | exact⟨by rw [HR.out.2 (by omega)];simp,rfl⟩
theorem un (n d:Int) (w:World) (hd:1≤d) (hd':d≤2305843009213693952) (h1: -2305843009213693952≤n) (h2:n≤2305843009213693952) :
  Calls Tryz.prog 113 #[.int .i64 n, .int .i64 d] w fun e w'=>e= .returned (.int .i64 (zP n d))∧w=w':=by
 obtain ⟨b1,b2⟩ :=Dd n d 2305843009213693952 (by omega) h1 h2
 have m0:=Int.emod_nonneg n (show d≠0 by omega)
 have m1:=Int.emod_lt_of_pos n (show 0<d by omega)
 have hr: (d- n % d≤n % d→zP n d=n/d+1)∧(¬d- n % d≤n % d→zP n d=n/d) :=by
  unfold zP;exact⟨fun h=>if_pos h,fun h=>if_neg h⟩
 have HR:=Lib.hid hr
 clear hr
 have em:=Int.mul_ediv_add_emod n d
 rw [jfn] at em
 have c1: -2305843009213693952- d≤n/d*d:=by omega
 have c2:n/d*d≤2305843009213693952:=by omega
 have EM:=Lib.hid em
 clear em
 have e3:n- n/d*d=n % d:=by have:=EM.out;omega
 by_cases hq:d- n % d≤n % d
 all_goals
  go_enter Tryz.func113,Tryz.ntmps113
  go_wp2_with (go_at_call 150;refine(Dh _ _ _ hd hd' h1 h2).mono ?_;rintro e w1 ⟨rfl,rfl⟩)
  all_goals
   go_ret
   first | exact⟨by rw [HR.out.1 (by omega)];rfl,rfl⟩ | exact⟨by rw [HR.out.2 (by omega)];rfl,rfl⟩
end Go.Proofs.YtkagkgjjfdkoaaaGreat
