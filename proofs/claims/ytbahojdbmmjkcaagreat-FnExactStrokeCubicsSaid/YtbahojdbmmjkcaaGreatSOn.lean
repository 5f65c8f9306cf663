import Derived.Test.YtbahojdbmmjkcaaGreatSL2
import Derived.Test.YtbahojdbmmjkcaaGreatSBounds
import Derived.Test.YtbahojdbmmjkcaaGreatSLegs
set_option linter.unusedVariables false
set_option linter.unusedSimpArgs false
namespace Go.Proofs.YtbahojdbmmjkcaaGreat
open Go Go.RowKit
set_option maxRecDepth 100000
set_option maxHeartbeats 4000000
def onB (ax ay bx b_y px_ py_:Int) :Bool:= (Kw ax ay bx b_y px_ py_==0) &&decide (min ax bx≤px_) &&decide (px_≤max ax bx) &&decide (min ay b_y≤py_) &&decide (py_≤max ay b_y)
abbrev YY (x:Int) :Prop:= -1048576≤x∧x≤1048576
theorem Dk (ax ay bx b_y px_ py_:Int) (w:World) (ha:YY ax) (ha':YY ay) (hb:YY bx) (hb':YY b_y) (hp:YY px_) (hp':YY py_) :
  Calls Tryz.prog 165 #[ub ax ay,ub bx b_y,ub px_ py_] w fun e w'=>e= .returned (.bool (onB ax ay bx b_y px_ py_))∧Over w w':=by
 refine jK (m:=52) (Tryz.func165) J J (lb J) ?_;refine S3 ?_;refine aX (fun b1=> ?_);refine N1 ?_;refine aX (fun b2=> ?_);refine N1 ?_;refine aX (fun b3=> ?_);refine N7 ?_;refine a9 (jG kZ J J (fun w h=>Zg _ _ _ _ _ _ w ha.1 ha.2 ha'.1 ha'.2 hb.1 hb.2 hb'.1 hb'.2 hp.1 hp.2 hp'.1 hp'.2)) ?_;refine S2 ?_;refine cV 12 (fun g1=> ?_) (fun g1=> ?_)
 ·refine S9 ?_;refine o9 (jda J J J) ?_;refine S8 ?_;refine cV 22 (fun g2=> ?_) (fun g2=> ?_)
  ·refine S13 ?_;refine o9 (OW J J J) ?_;refine S4 ?_;refine cV 32 (fun g3=> ?_) (fun g3=> ?_)
   ·refine S9 ?_;refine o9 (jda J J J) ?_;refine S8 ?_;refine cV 42 (fun g4=> ?_) (fun g4=> ?_)
    ·refine S13 ?_;refine o9 (OW J J J) ?_;refine S6 ?_;refine jJ J (.tmp J) ?_
     intro w' hs
     exact⟨QH (by symm;simp [onB];omega),hs.fin⟩
    ·refine S12 ?_;refine jJ J (.tmp J) ?_
     intro w' hs
     exact⟨QH (by symm;simp [onB];omega),hs.fin⟩
   ·refine S22 ?_;refine jJ J (.tmp J) ?_
    intro w' hs
    exact⟨QH (by symm;simp [onB];omega),hs.fin⟩
  ·refine S32 ?_;refine jJ J (.tmp J) ?_
   intro w' hs
   exact⟨QH (by symm;simp [onB];omega),hs.fin⟩
 ·refine S42 ?_;refine jJ J (.tmp J) ?_
  intro w' hs
  exact⟨QH (by symm;simp [onB];omega),hs.fin⟩
theorem NQ (ax ay bx b_y px_ py_:Int) (w:World) :
  Calls Tryz.prog 193 #[ub ax ay,ub bx b_y,ub px_ py_] w fun e w'=>e= .returned (.bool (decide (min ax bx≤px_) &&decide (px_≤max ax bx) &&decide (min ay b_y≤py_) &&decide (py_≤max ay b_y)))∧Over w w':=by
 refine jK (m:=45) (Tryz.func193) J J (lb J) ?_;refine S3 ?_;refine aX (fun b1=> ?_);refine N1 ?_;refine aX (fun b2=> ?_);refine N1 ?_;refine aX (fun b3=> ?_);refine N4 ?_;refine JH 39 ?_;refine dK 0 ?_;refine dK 1 ?_;refine dK 2 ?_;refine dK 3 ?_;refine dZ 4 J (jG vq J J (fun w h=>Calls.still (Vp _ _ w))) ?_;refine dK 5 ?_;refine dK 6 ?_;refine dK 7 ?_;refine dK 8 ?_;refine cV 15 (fun g1=> ?_) (fun g1=> ?_)
 ·refine eK 9 ?_;refine eK 10 ?_;refine eK 11 ?_;refine eK 12 ?_;refine eK 13 ?_;refine eK 14 ?_;refine eZ 15 J (jG kD J J (fun w h=>Calls.still (KI _ _ w))) ?_;refine eK 16 ?_;refine dK 17 ?_;refine dK 18 ?_;refine cV 25 (fun g2=> ?_) (fun g2=> ?_)
  ·refine eK 19 ?_;refine eK 20 ?_;refine eK 21 ?_;refine eK 22 ?_;refine eZ 23 J (jG vq J J (fun w h=>Calls.still (Vp _ _ w))) ?_;refine eK 24 ?_;refine eK 25 ?_;refine eK 26 ?_;refine dK 27 ?_;refine dK 28 ?_;refine cV 35 (fun g3=> ?_) (fun g3=> ?_)
   ·refine eK 29 ?_;refine eK 30 ?_;refine eK 31 ?_;refine eK 32 ?_;refine eK 33 ?_;refine eK 34 ?_;refine eZ 35 J (jG kD J J (fun w h=>Calls.still (KI _ _ w))) ?_;refine eK 36 ?_;refine dK 37 ?_;refine dK 38 ?_;refine JB Kr ?_;refine S2 ?_;refine jJ J (.tmp J) ?_
    intro w' hs
    exact⟨QH (by symm;simp;omega),hs.fin⟩
   ·refine fK 29 ?_;refine fK 30 ?_;refine fK 31 ?_;refine fK 32 ?_;refine fK 33 ?_;refine fK 34 ?_;refine fK 35 ?_;refine fK 36 ?_;refine dK 37 ?_;refine dK 38 ?_;refine JB Kr ?_;refine S2 ?_;refine jJ J (.tmp J) ?_
    intro w' hs
    exact⟨QH (by symm;simp;omega),hs.fin⟩
  ·refine fK 19 ?_;refine fK 20 ?_;refine fK 21 ?_;refine fK 22 ?_;refine fK 23 ?_;refine fK 24 ?_;refine fK 25 ?_;refine fK 26 ?_;refine dK 27 ?_;refine dK 28 ?_;refine fK 29 ?_;refine fK 30 ?_;refine fK 31 ?_;refine fK 32 ?_;refine fK 33 ?_;refine fK 34 ?_;refine fK 35 ?_;refine fK 36 ?_;refine dK 37 ?_;refine dK 38 ?_;refine JB Kr ?_;refine S2 ?_;refine jJ J (.tmp J) ?_
   intro w' hs
   exact⟨QH (by symm;simp;omega),hs.fin⟩
 ·refine fK 9 ?_;refine fK 10 ?_;refine fK 11 ?_;refine fK 12 ?_;refine fK 13 ?_;refine fK 14 ?_;refine fK 15 ?_;refine fK 16 ?_;refine dK 17 ?_;refine dK 18 ?_;refine fK 19 ?_;refine fK 20 ?_;refine fK 21 ?_;refine fK 22 ?_;refine fK 23 ?_;refine fK 24 ?_;refine fK 25 ?_;refine fK 26 ?_;refine dK 27 ?_;refine dK 28 ?_;refine fK 29 ?_;refine fK 30 ?_;refine fK 31 ?_;refine fK 32 ?_;refine fK 33 ?_;refine fK 34 ?_;refine fK 35 ?_;refine fK 36 ?_;refine dK 37 ?_;refine dK 38 ?_;refine JB Kr ?_;refine S2 ?_;refine jJ J (.tmp J) ?_
  intro w' hs
  exact⟨QH (by symm;simp;omega),hs.fin⟩
theorem jae (ax ay bx b_y px_ py_:Int) (w:World) (ha:YY ax) (ha':YY ay) (hb:YY bx) (hb':YY b_y) (hp:YY px_) (hp':YY py_) :
  Calls Tryz.prog 127 #[ub ax ay,ub bx b_y,ub px_ py_] w fun e w'=>e= .returned (.bool (onB ax ay bx b_y px_ py_))∧Over w w':=by
 refine jK (m:=18) (Tryz.func127) J J (lb J) ?_;refine S3 ?_;refine aX (fun b1=> ?_);refine N1 ?_;refine aX (fun b2=> ?_);refine N1 ?_;refine aX (fun b3=> ?_);refine N7 ?_;refine a9 (jG Qu J J (fun w h=>uj _ _ _ _ _ _ w ha.1 ha.2 ha'.1 ha'.2 hb.1 hb.2 hb'.1 hb'.2 hp.1 hp.2 hp'.1 hp'.2)) ?_;refine S2 ?_;refine cV 12 (fun g1=> ?_) (fun g1=> ?_)
 ·refine S7 ?_;refine o9 (jG Oq J J (fun w h=>NQ _ _ _ _ _ _ w)) ?_;refine S4 ?_;refine jJ J (.tmp J) ?_
  intro w' hs
  exact⟨QH (by simp [onB,g1,Bool.and_assoc]),hs.fin⟩
 ·refine S8 ?_;refine jJ J (.tmp J) ?_
  intro w' hs
  exact⟨QH (by symm;simp [onB];omega),hs.fin⟩
end Go.Proofs.YtbahojdbmmjkcaaGreat
namespace Go.Proofs.YtbahojdbmmjkcaaGreat
open Go Go.RowKit
variable {A:Option Addr} {rs:List Jp} {w w':World} {xs:List (Int×Int)}
set_option maxHeartbeats 400000 in
set_option maxRecDepth 100000 in
theorem F8 (A B:Option Addr) (n c d:Nat) (rs:List Jp) (w:World) (h:Rings w A n rs) (h':Rings w B n rs) (ht: (total rs:Int)≤1048576) :
  Calls Tryz.prog 76 #[.slice A n c, .slice B n d] w fun e w'=>e= .returned (.bool true)∧Over w w':=by
 have hlen:=Lib.hid h.1
 have hn: (n:Int)≤1048576:=by have:=hlen.out;unfold total at ht;omega
 have hq: ((n:Int) != (n:Int)) =false:=by simp
 have Ht:=Lib.hid ht
 clear ht
 go_enter Tryz.func76,Tryz.ntmps76
 go_wp2
 go_loopw [5] (fun i wr=>∃k:Nat,k≤n∧i= .int .i64 k∧Over w wr) (fun i _=>n- (intOf i).toNat)
 case atStart=>exact⟨0,jie _,rfl,Over.refl _⟩
 case round=>
  rename_i wr
  obtain ⟨k,hk,rfl,hb⟩ :=hrel
  by_cases hlt:k<n
  ·obtain ⟨b,o,Ak,ck,rfl,hbB,hcell,hpts,hmax⟩ := (h.over hb).at_ hlt
   obtain ⟨b',o',Ak',ck',rfl,hbB',hcell',hpts',_⟩ := (h'.over hb).at_ hlt
   have hr: ((rg rs k).length:Int)≤1048576:=by have:=Ht.out;have:=Vu rs (k:=k) (by rw [hlen.out];exact hlt);omega
   have HP:=Lib.hid (And.intro hpts hpts')
   clear h h' hmax hpts hpts'
   go_wp2
   refine QN (B:=ob _) (Over.refl _) Kr (by simp only [ji1,jij,jiw,Nat.reduceAdd];rfl) (fun hBW=> ?_);refine i8 0 ?_;refine i8 1 ?_;refine i8 2 ?_;refine i8 3 ?_;refine i8 4 ?_;refine i8 5 ?_;refine i8 6 ?_;refine i8 7 ?_;refine w9 8 (hy:=fun wx hS=>by(go_simp;refine(Sn _ _ _ _ _ _ _ (HP.out.1.over (by first | exact hS | exact Over.trans hS (Over.refl _))) (HP.out.2.over hS) hr).mono ?_;rintro e w1 ⟨rfl,hb1⟩;exact⟨rfl,hb1⟩)) (h:= ?_)
   simp only [Act.put,qC,jN,jO]
   refine i8 9 ?_
   refine QM Kr (fun w2 h2=> ?_) _
   try clear hBW
   go_wp2
   go_roundw
   case rel=>exact⟨k+1,by omega,by go_num,ov9⟩
   case measure=>simp [intOf];omega
  ·clear h h'
   go_wp2
   go_ret
   exact⟨rfl,ov9⟩
set_option maxHeartbeats 400000 in
theorem UV (A B:Option Addr) (n c d:Nat) (rs:List Jp) (w:World) (h:Rings w A n rs) (h':Rings w B n rs) (ht: (total rs:Int)≤1048576) :
  Calls Tryz.prog 24 #[qG A n c,qG B n d] w fun e w'=>e= .returned (.bool true)∧Over w w':=by
 go_enter Tryz.func24,Tryz.ntmps24
 go_wp2_with (go_at_call 76;refine(F8 _ _ _ _ _ rs _ (h.over ov9) (h'.over ov9) ht).mono ?_;rintro e w1 ⟨rfl,hb1⟩)
 go_ret
 exact⟨rfl,ov9⟩
theorem CU {xs ys:Jp} (h:xs.length=ys.length) (hp:∀j,j<xs.length→px xs j=px ys j∧py xs j=py ys j) :xs=ys:=by
 refine jjp h fun j h1 h2=> ?_
 rw [U5 h1,U5 h2,(hp j h1).1,(hp j h1).2]
theorem jaN {ss:List Jp} (h:rs.length=ss.length) (hp:∀j,j<rs.length→rg rs j=rg ss j) :rs=ss:=by
 refine jjp h fun j h1 h2=> ?_
 rw [Wc h1,Wc h2,hp j h1]
set_option maxHeartbeats 1000000 in
set_option maxRecDepth 100000 in
theorem zr (A B:Option Addr) (n m c d:Nat) (xs ys:Jp) (w:World) (h:Pts w A n xs) (h':Pts w B m ys) (hn: (n:Int)≤1048576) (hm: (m:Int)≤1048576) :
  Calls Tryz.prog 136 #[.slice A n c, .slice B m d] w fun e w'=>e= .returned (.bool (decide (xs=ys)))∧Over w w':=by
 have hl:=Lib.hid h.1
 have hl':=Lib.hid h'.1
 by_cases hnm:n=m
 ·subst hnm
  have hq: ((n:Int) != (n:Int)) =false:=by simp
  go_enter Tryz.func136,Tryz.ntmps136
  go_wp2
  go_loopw [5] (fun i wr=>∃k:Nat,k≤n∧i= .int .i64 k∧Over w wr∧Hid (∀j,j<k→px xs j=px ys j∧py xs j=py ys j)) (fun i _=>n- (intOf i).toNat)
  case atStart=>exact⟨0,jie _,rfl,Over.refl _,fun j hj=>absurd hj Om⟩
  case round=>
   rename_i wr
   obtain ⟨k,hk,rfl,hb,hall⟩ :=hrel
   by_cases hlt:k<n
   ·obtain ⟨b,o,rfl,hbB,hc1,hc2⟩ := (h.over hb).at_ hlt
    obtain ⟨b',o',rfl,hbB',hc1',hc2'⟩ := (h'.over hb).at_ hlt
    have Hb:=Lib.hid hb
    have hs:Hid (px xs k=px ys k∧py xs k=py ys k→∀j,j<k+1→px xs j=px ys j∧py xs j=py ys j) :=by
     intro h j hj
     by_cases hjk:j=k
     ·subst hjk;exact h
     ·exact hall.out j Om
    have hd:Hid (¬(px xs k=px ys k∧py xs k=py ys k)→decide (xs=ys) =false) :=fun h=>decide_eq_false (fun e=>h (by rw [e];exact⟨rfl,rfl⟩))
    clear h h' hb hall
    generalize px xs k=x at hc1 hs hd
    generalize py xs k=y at hc2 hs hd
    generalize px ys k=x' at hc1' hs hd
    generalize py ys k=y' at hc2' hs hd
    have key: (x=x'∧y=y')∨(¬x=x')∨(x=x'∧¬y=y') :=by omega
    rcases key with⟨rfl,rfl⟩ | hne |⟨rfl,hne⟩
    ·have hq2: (x==x) =true:=by simp
     have hq3: (y==y) =true:=by simp
     have hs2:=Lib.hid (hs.out ⟨rfl,rfl⟩)
     clear hs
     go_wp2
     refine QN (B:=ob _) (Over.refl _) Kr (by simp only [ji1,jij,jiw,Nat.reduceAdd];rfl) (fun hBW=> ?_);refine i8 0 ?_;refine i8 1 ?_;refine i8 2 ?_;refine i8 3 ?_;refine i8 4 ?_;refine i8 5 ?_;refine i8 6 ?_;refine i8 7 ?_;refine i8 8 ?_
     refine QM Kr (fun w2 h2=> ?_) _
     try clear hBW
     go_wp2
     go_roundw
     case rel=>exact⟨k+1,by omega,by go_num,Hb.out.trans h2,hs2.out⟩
     case measure=>simp [intOf];omega
    all_goals
     have hq:=Lib.hid (hd.out Om)
     go_wp2
     refine QN (B:=ob _) (Over.refl _) Kr (by simp only [ji1,jij,jiw,Nat.reduceAdd];rfl) (fun hBW=> ?_);refine i8 0 ?_;refine i8 1 ?_;refine i8 2 ?_;refine i8 3 ?_;refine i8 4 ?_;refine i8 5 ?_;refine i8 6 ?_;refine i8 7 ?_;refine i8 8 ?_
     refine QM Kr (fun w2 h2=> ?_) _
     try clear hBW
     go_wp2
     go_ret
     exact⟨by rw [hq.out];rfl,Hb.out.trans h2⟩
   ·have hkn:k=n:=by omega
    have hq:Hid (decide (xs=ys) =true) :=decide_eq_true (CU (by rw [hl.out,hl'.out]) (fun j hj=>hall.out j (by rw [hl.out] at hj;omega)))
    clear h h' hall hl hl'
    go_wp2
    go_ret
    exact⟨by rw [hq.out];rfl,hb⟩
 ·have hq: ((n:Int) != (m:Int)) =true:=by simp;omega
  have hv:Hid (decide (xs=ys) =false) :=decide_eq_false (fun e=>hnm (by rw [←hl.out,←hl'.out,e]))
  clear h h' hl hl'
  go_enter Tryz.func136,Tryz.ntmps136
  go_wp2
  go_ret
  exact⟨by rw [hv.out];rfl,ov9⟩
set_option maxHeartbeats 1000000 in
set_option maxRecDepth 100000 in
theorem TS (A B:Option Addr) (n m c d:Nat) (xs ys:Jp) (w:World) (h:Pts w A n xs) (h':Pts w B m ys) (hn: (n:Int)≤1048576) (hm: (m:Int)≤1048576) :
  Calls Tryz.prog 142 #[.slice A n c, .slice B m d] w fun e w'=>e= .returned (.bool (decide (xs=ys)))∧Over w w':=by
 have hl:=Lib.hid h.1
 have hl':=Lib.hid h'.1
 by_cases hnm:n=m
 ·subst hnm
  have hq: ((n:Int) != (n:Int)) =false:=by simp
  go_enter Tryz.func142,Tryz.ntmps142
  go_wp2
  go_loopw [13] (fun i wr=>∃k:Nat,k≤n∧i= .int .i64 k∧Over w wr∧Hid (∀j,j<k→px xs j=px ys j∧py xs j=py ys j)) (fun i _=>n- (intOf i).toNat)
  case atStart=>exact⟨0,jie _,rfl,Over.refl _,fun j hj=>absurd hj Om⟩
  case round=>
   rename_i wr
   obtain ⟨k,hk,rfl,hb,hall⟩ :=hrel
   by_cases hlt:k<n
   ·obtain ⟨b,o,rfl,hbB,hc1,hc2⟩ := (h.over hb).at_ hlt
    obtain ⟨b',o',rfl,hbB',hc1',hc2'⟩ := (h'.over hb).at_ hlt
    have Hb:=Lib.hid hb
    have hs:Hid (px xs k=px ys k∧py xs k=py ys k→∀j,j<k+1→px xs j=px ys j∧py xs j=py ys j) :=by
     intro h j hj
     by_cases hjk:j=k
     ·subst hjk;exact h
     ·exact hall.out j Om
    have hd:Hid (¬(px xs k=px ys k∧py xs k=py ys k)→decide (xs=ys) =false) :=fun h=>decide_eq_false (fun e=>h (by rw [e];exact⟨rfl,rfl⟩))
    clear h h' hb hall
    generalize px xs k=x at hc1 hs hd
    generalize py xs k=y at hc2 hs hd
    generalize px ys k=x' at hc1' hs hd
    generalize py ys k=y' at hc2' hs hd
    have key: (x=x'∧y=y')∨(¬x=x')∨(x=x'∧¬y=y') :=by omega
    rcases key with⟨rfl,rfl⟩ | hne |⟨rfl,hne⟩
    ·have hq2: (x==x) =true:=by simp
     have hq3: (y==y) =true:=by simp
     have hs2:=Lib.hid (hs.out ⟨rfl,rfl⟩)
     clear hs
     go_wp2
     refine QN (B:=ob _) (Over.refl _) Kr (by simp only [ji1,jij,jiw,Nat.reduceAdd];rfl) (fun hBW=> ?_);refine i8 0 ?_;refine i8 1 ?_;refine i8 2 ?_;refine i8 3 ?_;refine i8 4 ?_;refine i8 5 ?_;refine i8 6 ?_;refine i8 7 ?_;refine i8 8 ?_
     refine QM Kr (fun w2 h2=> ?_) _
     try clear hBW
     go_wp2
     go_roundw
     case rel=>exact⟨k+1,by omega,by go_num,Hb.out.trans h2,hs2.out⟩
     case measure=>simp [intOf];omega
    all_goals
     have hq:=Lib.hid (hd.out Om)
     go_wp2
     refine QN (B:=ob _) (Over.refl _) Kr (by simp only [ji1,jij,jiw,Nat.reduceAdd];rfl) (fun hBW=> ?_);refine i8 0 ?_;refine i8 1 ?_;refine i8 2 ?_;refine i8 3 ?_;refine i8 4 ?_;refine i8 5 ?_;refine i8 6 ?_;refine i8 7 ?_;refine i8 8 ?_
     refine QM Kr (fun w2 h2=> ?_) _
     try clear hBW
     go_wp2
     go_ret
     exact⟨by rw [hq.out];rfl,Hb.out.trans h2⟩
   ·have hkn:k=n:=by omega
    have hq:Hid (decide (xs=ys) =true) :=decide_eq_true (CU (by rw [hl.out,hl'.out]) (fun j hj=>hall.out j (by rw [hl.out] at hj;omega)))
    clear h h' hall hl hl'
    go_wp2
    go_ret
    exact⟨by rw [hq.out];rfl,hb⟩
 ·have hq: ((n:Int) != (m:Int)) =true:=by simp;omega
  have hv:Hid (decide (xs=ys) =false) :=decide_eq_false (fun e=>hnm (by rw [←hl.out,←hl'.out,e]))
  clear h h' hl hl'
  go_enter Tryz.func142,Tryz.ntmps142
  go_wp2
  go_ret
  exact⟨by rw [hv.out];rfl,ov9⟩
theorem Z7 {b o:Nat} (h:w'.heap[b]? =w.heap[b]?) :w'.cell? ⟨b,o,none⟩ =w.cell? ⟨b,o,none⟩ :=by
 simp only [World.cell?,h]
theorem Pts.agree {n:Nat} (h:Pts w A n xs) (hz:w.heap.size≤w'.heap.size) (ha:∀p,A=some p→w'.heap[p.block]? =w.heap[p.block]?) :Pts w' A n xs:=by
 refine⟨h.1,fun hn=> ?_⟩
 obtain ⟨b,o,rfl,hlt,hc⟩ :=h.2 hn
 have hb:=ha _ rfl
 refine⟨b,o,J,by omega,fun k hk=> ?_⟩
 rw [Z7 hb,Z7 hb]
 exact hc k hk
theorem OwnR.agree {B:Nat} {g n:Nat} (h:OwnR B w g n rs) (hz:w.heap.size≤w'.heap.size) (ha:∀b,B≤b→b<w.heap.size→w'.heap[b]? =w.heap[b]?) :OwnR B w' g n rs:=by
 have hB:=h.1
 have hg:=ha g h.1 h.2.2.1.lt
 refine⟨h.1,h.2.1,?_,fun k hk=> ?_⟩
 ·obtain ⟨cs,hs,hh⟩ :=h.2.2.1
  exact⟨cs,hs,hg.trans hh⟩
 ·obtain ⟨gk,h1,h2,h3,h4⟩ :=h.2.2.2 k hk
  have hgk:=ha gk h1 h4.1.lt
  refine⟨gk,h1,h2,(Z7 hg).trans h3,?_,h4.2.agree hz fun p hp=> ?_⟩
  ·obtain ⟨cs,hs,hh⟩ :=h4.1
   exact⟨cs,hs,hgk.trans hh⟩
  ·injection hp with hp
   subst hp
   exact hgk
def Res.clo (lo hi:Nat) (P0:World→Prop) :Res where
 F b:=lo≤b∧b<hi
 P w:=hi≤w.heap.size∧∀w',hi≤w'.heap.size→(∀b,lo≤b→b<hi→w'.heap[b]? =w.heap[b]?)→P0 w'
 low w h b hb:=jio hb.2 h.1
 B:=0
 dep w w' h hz hb:=⟨jiY h.1 hz,fun w'' h2 h3=>h.2 w'' h2 fun b h4 h5=> (h3 b h4 h5).trans (hb b (jio h5 h.1) (.inr ⟨h4,h5⟩))⟩
section
variable {w:World} {w0:Bs} {Rs:List Res}
end
end Go.Proofs.YtbahojdbmmjkcaaGreat
