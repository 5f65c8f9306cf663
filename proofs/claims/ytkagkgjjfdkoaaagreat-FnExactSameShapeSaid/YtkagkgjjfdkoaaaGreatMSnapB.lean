import Derived.Test.YtkagkgjjfdkoaaaGreatMDat
import Derived.Test.YtkagkgjjfdkoaaaGreatMEnds
import Derived.Test.YtkagkgjjfdkoaaaGreatMLawKit
set_option linter.unusedVariables false
set_option linter.unusedSimpArgs false
namespace Go.Proofs.YtkagkgjjfdkoaaaGreat
open Go Go.RowKit
set_option maxRecDepth 100000
set_option maxHeartbeats 4000000
set_option maxHeartbeats 1000000 in
set_option maxRecDepth 100000 in
theorem wD (A B:Option Addr) (n m c d:Nat) (rs ss:List jS) (w:World) (h:Rings w A n rs) (h':Rings w B m ss) (ht: (total rs:Int)≤1048576) (ht': (total ss:Int)≤1048576) :
  Calls Tryz.prog 30 #[Ju A n c,Ju B m d] w fun e w'=>e= .returned (.bool (decide (rs=ss)))∧Over w w':=by
 have hl:=Lib.hid h.1
 have hl':=Lib.hid h'.1
 have hn: (n:Int)≤1048576:=by have:=hl.out;unfold total at ht;omega
 have hm: (m:Int)≤1048576:=by have:=hl'.out;unfold total at ht';omega
 have Ht:=Lib.hid (And.intro ht ht')
 clear ht ht'
 by_cases hnm:n=m
 ·subst hnm
  have hq: ((n:Int) != (n:Int)) =false:=by simp
  go_enter Tryz.func30,Tryz.ntmps30
  go_wp2
  go_loopw [5] (fun i wr=>∃k:Nat,k≤n∧i= .int .i64 k∧Over ((w.alloc (.cells #[.slice A n c] 29)).alloc (.cells #[.slice B n d] 29)) wr∧Hid (∀j,j<k→rg rs j=rg ss j)) (fun i _=>n- (intOf i).toNat)
  case atStart=>exact⟨0,jeE _,rfl,Over.refl _,fun j hj=>absurd hj (by omega)⟩
  case round=>
   rename_i wr
   obtain ⟨k,hk,rfl,hb,hall⟩ :=hrel
   have hO:Over w wr:= (Over.alloc_ (Over.alloc _ _) _).trans hb
   have x1:wr.cell? ⟨w.heap.size,0,none⟩ =some (.slice A n c) :=by
    rw [(Ji hb).1 _ _ (by simp;omega),(Ji (Over.alloc _ _)).1 _ _ (by simp)]
    exact Ys _ _ _ _
   have x2:wr.cell? ⟨w.heap.size+1,0,none⟩ =some (.slice B n d) :=by
    rw [(Ji hb).1 _ _ (by simp)]
    simp
   have z2:w.heap.size+1<wr.heap.size:=jeR (by simp) hb.size
   have z1:w.heap.size<wr.heap.size:=by omega
   by_cases hlt:k<n
   ·obtain ⟨b,o,Ak,ck,rfl,hbB,hcell,hpts,hmax⟩ := (h.over hO).at_ hlt
    obtain ⟨b',o',Ak',ck',rfl,hbB',hcell',hpts',_⟩ := (h'.over hO).at_ hlt
    have hr: ((rg rs k).length:Int)≤1048576:=by have:=Ht.out;have:=Vn rs (k:=k) (by rw [hl.out];exact hlt);omega
    have hr': ((rg ss k).length:Int)≤1048576:=by have:=Ht.out;have:=Vn ss (k:=k) (by rw [hl'.out];exact hlt);omega
    have Hb:=Lib.hid hb
    have HP:=Lib.hid (And.intro hpts hpts')
    clear h h' hb hO hmax hpts hpts'
    by_cases he:rg rs k=rg ss k
    ·have hd:decide (rg rs k=rg ss k) =true:=decide_eq_true he
     have hs:Hid (∀j,j<k+1→rg rs j=rg ss j) :=by
      intro j hj
      by_cases hjk:j=k
      ·subst hjk;exact he
      ·exact hall.out j (by omega)
     have Hd:=Lib.hid hd
     clear hd he hall
     go_wp2
     refine QZ (B:=ob _) (Over.refl _) (by kernel_rfl) (by simp only [jfu,jeP,je6,Nat.reduceAdd];rfl) (fun hBW=> ?_);refine w9 0 (hy:=fun wx hS=>by(obtain ⟨hc,hf⟩ :=Ji hS;clear hS;go_simp; (try go_bits);exact⟨rfl,Over.refl _⟩)) (h:= ?_)
     simp only [Act.put,xd7,ya,yb]
     refine w9 1 (hy:=fun wx hS=>by(obtain ⟨hc,hf⟩ :=Ji hS;clear hS;go_simp; (try go_bits);exact⟨rfl,Over.refl _⟩)) (h:= ?_)
     simp only [Act.put,xd7,ya,yb]
     refine w9 2 (hy:=fun wx hS=>by(obtain ⟨hc,hf⟩ :=Ji hS;clear hS;go_simp; (try go_bits);exact⟨rfl,Over.refl _⟩)) (h:= ?_)
     simp only [Act.put,xd7,ya,yb]
     refine w9 3 (hy:=fun wx hS=>by(obtain ⟨hc,hf⟩ :=Ji hS;clear hS;go_simp; (try go_bits);exact⟨rfl,Over.refl _⟩)) (h:= ?_)
     simp only [Act.put,xd7,ya,yb]
     refine w9 4 (hy:=fun wx hS=>by(obtain ⟨hc,hf⟩ :=Ji hS;clear hS;go_simp; (try go_bits);exact⟨rfl,Over.refl _⟩)) (h:= ?_)
     simp only [Act.put,xd7,ya,yb]
     refine w9 5 (hy:=fun wx hS=>by(obtain ⟨hc,hf⟩ :=Ji hS;clear hS;go_simp; (try go_bits);exact⟨rfl,Over.refl _⟩)) (h:= ?_)
     simp only [Act.put,xd7,ya,yb]
     refine w9 6 (hy:=fun wx hS=>by(obtain ⟨hc,hf⟩ :=Ji hS;clear hS;go_simp; (try go_bits);exact⟨rfl,Over.refl _⟩)) (h:= ?_)
     simp only [Act.put,xd7,ya,yb]
     refine w9 7 (hy:=fun wx hS=>by(obtain ⟨hc,hf⟩ :=Ji hS;clear hS;go_simp; (try go_bits);exact⟨rfl,Over.refl _⟩)) (h:= ?_)
     simp only [Act.put,xd7,ya,yb]
     refine w9 8 (hy:=fun wx hS=>by(obtain ⟨hc,hf⟩ :=Ji hS;clear hS;go_simp; (try go_bits);exact⟨rfl,Over.refl _⟩)) (h:= ?_)
     simp only [Act.put,xd7,ya,yb]
     refine w9 9 (hy:=fun wx hS=>by(obtain ⟨hc,hf⟩ :=Ji hS;clear hS;go_simp; (try go_bits);exact⟨rfl,Over.refl _⟩)) (h:= ?_)
     simp only [Act.put,xd7,ya,yb]
     refine w9 10 (hy:=fun wx hS=>by(obtain ⟨hc,hf⟩ :=Ji hS;clear hS;go_simp; (try go_bits);exact⟨rfl,Over.refl _⟩)) (h:= ?_)
     simp only [Act.put,xd7,ya,yb]
     refine w9 11 (hy:=fun wx hS=>by(obtain ⟨hc,hf⟩ :=Ji hS;clear hS;go_simp; (try go_bits);exact⟨rfl,Over.refl _⟩)) (h:= ?_)
     simp only [Act.put,xd7,ya,yb]
     refine w9 12 (hy:=fun wx hS=>by(go_simp;refine(GE _ _ _ _ _ _ (rg rs k) (rg ss k) _ (HP.out.1.over hS) (HP.out.2.over hS) hr hr').mono ?_;rw [Hd.out];rintro e w1 ⟨rfl,hb1⟩;exact⟨rfl,hb1⟩)) (h:= ?_)
     simp only [Act.put,xd7,ya,yb]
     refine w9 13 (hy:=fun wx hS=>by(obtain ⟨hc,hf⟩ :=Ji hS;clear hS;go_simp; (try go_bits);exact⟨rfl,Over.refl _⟩)) (h:= ?_)
     simp only [Act.put,xd7,ya,yb]
     refine QY (by kernel_rfl) (fun w2 h2=> ?_) _
     try clear hBW
     have HO:=Lib.hid (Hb.out.trans h2)
     clear h2
     go_wp2
     go_roundw
     case rel=>exact⟨k+1,by omega,by go_num,HO.out,hs⟩
     case measure=>simp [intOf];omega
    ·have hd:decide (rg rs k=rg ss k) =false:=decide_eq_false he
     have hq:Hid (decide (rs=ss) =false) :=decide_eq_false (fun e=>he (by rw [e]))
     have Hd:=Lib.hid hd
     clear hd he hall
     go_wp2
     refine QZ (B:=ob _) (Over.refl _) (by kernel_rfl) (by simp only [jfu,jeP,je6,Nat.reduceAdd];rfl) (fun hBW=> ?_);refine w9 0 (hy:=fun wx hS=>by(obtain ⟨hc,hf⟩ :=Ji hS;clear hS;go_simp; (try go_bits);exact⟨rfl,Over.refl _⟩)) (h:= ?_)
     simp only [Act.put,xd7,ya,yb]
     refine w9 1 (hy:=fun wx hS=>by(obtain ⟨hc,hf⟩ :=Ji hS;clear hS;go_simp; (try go_bits);exact⟨rfl,Over.refl _⟩)) (h:= ?_)
     simp only [Act.put,xd7,ya,yb]
     refine w9 2 (hy:=fun wx hS=>by(obtain ⟨hc,hf⟩ :=Ji hS;clear hS;go_simp; (try go_bits);exact⟨rfl,Over.refl _⟩)) (h:= ?_)
     simp only [Act.put,xd7,ya,yb]
     refine w9 3 (hy:=fun wx hS=>by(obtain ⟨hc,hf⟩ :=Ji hS;clear hS;go_simp; (try go_bits);exact⟨rfl,Over.refl _⟩)) (h:= ?_)
     simp only [Act.put,xd7,ya,yb]
     refine w9 4 (hy:=fun wx hS=>by(obtain ⟨hc,hf⟩ :=Ji hS;clear hS;go_simp; (try go_bits);exact⟨rfl,Over.refl _⟩)) (h:= ?_)
     simp only [Act.put,xd7,ya,yb]
     refine w9 5 (hy:=fun wx hS=>by(obtain ⟨hc,hf⟩ :=Ji hS;clear hS;go_simp; (try go_bits);exact⟨rfl,Over.refl _⟩)) (h:= ?_)
     simp only [Act.put,xd7,ya,yb]
     refine w9 6 (hy:=fun wx hS=>by(obtain ⟨hc,hf⟩ :=Ji hS;clear hS;go_simp; (try go_bits);exact⟨rfl,Over.refl _⟩)) (h:= ?_)
     simp only [Act.put,xd7,ya,yb]
     refine w9 7 (hy:=fun wx hS=>by(obtain ⟨hc,hf⟩ :=Ji hS;clear hS;go_simp; (try go_bits);exact⟨rfl,Over.refl _⟩)) (h:= ?_)
     simp only [Act.put,xd7,ya,yb]
     refine w9 8 (hy:=fun wx hS=>by(obtain ⟨hc,hf⟩ :=Ji hS;clear hS;go_simp; (try go_bits);exact⟨rfl,Over.refl _⟩)) (h:= ?_)
     simp only [Act.put,xd7,ya,yb]
     refine w9 9 (hy:=fun wx hS=>by(obtain ⟨hc,hf⟩ :=Ji hS;clear hS;go_simp; (try go_bits);exact⟨rfl,Over.refl _⟩)) (h:= ?_)
     simp only [Act.put,xd7,ya,yb]
     refine w9 10 (hy:=fun wx hS=>by(obtain ⟨hc,hf⟩ :=Ji hS;clear hS;go_simp; (try go_bits);exact⟨rfl,Over.refl _⟩)) (h:= ?_)
     simp only [Act.put,xd7,ya,yb]
     refine w9 11 (hy:=fun wx hS=>by(obtain ⟨hc,hf⟩ :=Ji hS;clear hS;go_simp; (try go_bits);exact⟨rfl,Over.refl _⟩)) (h:= ?_)
     simp only [Act.put,xd7,ya,yb]
     refine w9 12 (hy:=fun wx hS=>by(go_simp;refine(GE _ _ _ _ _ _ (rg rs k) (rg ss k) _ (HP.out.1.over hS) (HP.out.2.over hS) hr hr').mono ?_;rw [Hd.out];rintro e w1 ⟨rfl,hb1⟩;exact⟨rfl,hb1⟩)) (h:= ?_)
     simp only [Act.put,xd7,ya,yb]
     refine w9 13 (hy:=fun wx hS=>by(obtain ⟨hc,hf⟩ :=Ji hS;clear hS;go_simp; (try go_bits);exact⟨rfl,Over.refl _⟩)) (h:= ?_)
     simp only [Act.put,xd7,ya,yb]
     refine QY (by kernel_rfl) (fun w2 h2=> ?_) _
     try clear hBW
     have HO:=Lib.hid ((Over.alloc_ (Over.alloc _ _) _).trans (Hb.out.trans h2))
     clear h2
     go_wp2
     go_ret
     exact⟨by rw [hq.out];rfl,HO.out⟩
   ·have hkn:k=n:=by omega
    have hq:Hid (decide (rs=ss) =true) :=decide_eq_true (PI (by rw [hl.out,hl'.out]) (fun j hj=>hall.out j (by rw [hl.out] at hj;omega)))
    clear h h' hall hl hl' hb
    go_wp2
    go_ret
    exact⟨by rw [hq.out];rfl,hO⟩
 ·have hq: ((n:Int) != (m:Int)) =true:=by simp;omega
  have hv:Hid (decide (rs=ss) =false) :=decide_eq_false (fun e=>hnm (by rw [←hl.out,←hl'.out,e]))
  clear h h' hl hl'
  go_enter Tryz.func30,Tryz.ntmps30
  go_wp2
  go_ret
  exact⟨by rw [hv.out];rfl,(by repeat (first | exact Over.refl _ | (with_reducible assumption) | refine Over.alloc_ ?_ _ | refine Over.trans ?_ (by with_reducible assumption) | refine Over.drew_ ?_ | refine Over.set_ ?_ (by simp;try omega) _))⟩
theorem jcl {ls:List Leg} {j:Nat} (h:j<ls.length) : ((ls.map lA).take (j+1)).flatMap j7= ((ls.map lA).take j).flatMap j7++ [.int .i64 (lg ls j).ax, .int .i64 (lg ls j).ay] :=by
 rw [jeS (by simpa using h),jeQ]
 simp [j7,lA,lg,List.getD,h]
theorem Zr {rs:List jS} (hr:JO rs=true) {k:Nat} {r:jS} (h:r∈K3 rs k) :r.length≤400:=by
 obtain ⟨_,q,hq,rfl⟩ :=Zf h
 obtain ⟨i,hi,e⟩ :=jfm hq
 have:=Qa (kU hr hi)
 rw [wl hi] at e
 rw [e] at this
 have:=Iu q q.length
 unfold KY
 omega
theorem jd1 {xs ys:List Pn} {a b:Nat} (h: (px xs a==px ys b&&py xs a==py ys b) =false) :pt xs a≠pt ys b:=fun e=>by
 injection e with e1 e2
 simp [e1,e2] at h
theorem jcI {xs ys:List Pn} {a b:Nat} (h: (px xs a==px ys b&&py xs a==py ys b) =true) :pt xs a=pt ys b:=by
 simp at h
 exact Prod.ext h.1 h.2
theorem UV {w w':World} {Rs:List Res} (hs:St ⟨w,[]⟩ Rs w') {kr kp B T n:Nat} {l:List Pc} {x:Option Addr×Nat} {rs:List jS} (hr:Rs[kr]? =some (JP B T 1 n (l.map Pc.val) x)) (hp:Rs[kp]? =some (ve l)) (hne:kr≠kp) (_e:w=w) (hl:l.length=n) (hrs:l.map (·.xs) =rs)
  (hm:∀j,j<rs.length→(rg rs j).length≤1099511627776) :OwnG w.heap.size w'.heap.size w' x.1 n rs:=by
 have hrow:w'.ownsRow B T 1 (.slice x.1 n x.2) n (l.map Pc.val) := (hs.all kr _ hr).1
 have hX:=hs.all kp _ hp
 rcases hrow.2 with⟨_,e⟩ |⟨g,cap,cur,e,hb,hg,hcap,hmax,hsz,htk⟩
 ·subst e
  obtain rfl:l= [] :=je9 hl
  subst hrs
  exact OwnG.nil _
 ·injection e with e1 e2 e3
  rw [e1]
  have hF: (JP B T 1 n (l.map Pc.val) x).F g:=by show Value.ownBlock (.slice x.1 n x.2) =some g;rw [e1];rfl
  have hown:=DQ (lo:=w.heap.size) (o:=0) hg (((hs.all kr _ hr).2.1 g hF).elim id (fun h=>by cases h)) (fun j hj=> ?_) hX.1 (fun h=>hs.apart kr kp _ _ hne hr hp g hF h) (fun q hq=> (hX.2.1 q hq).elim id (fun h=>by cases h)) (fun e he=> ?_)
  ·rw [hrs,hl] at hown
   exact hown
  ·have hc:cur[j]? = (l.map Pc.val)[j]? :=by rw [←htk,List.getElem?_take,if_pos (by omega)];simp
   rw [je3,hc]
   simp [hj]
  ·have:e.xs∈rs:=hrs▸je7.2 ⟨e,he,rfl⟩
   obtain ⟨j,hj,e2⟩ :=jfm this
   have:=hm j hj
   rw [←wl hj,e2] at this
   omega
theorem GB (bb oo:Nat) (A:Option Addr) (n c:Nat) (rs:List jS) (w:World) (hcell0:w.cell? ⟨bb,oo,none⟩ =some (.slice A n c)) (hbb:bb<w.heap.size) (h:Rings w A n rs) (hr:JO rs=true) :
  Calls Tryz.prog 60 #[.pointer (some ⟨bb,oo,none⟩)] w fun e w'=>∃A' c',e= .returned (Ju A' (J4 rs).length c')∧OwnG w.heap.size w'.heap.size w' A' (J4 rs).length (J4 rs)∧Over w w':=by
 have hl:=h.1
 have hn40:=wb hr
 refine jU (m:=52) (Tryz.func60) J J (lb J) ?_;refine S3 ?_;refine aL (fun b1=> ?_);refine N3 ?_;refine a9 (JV J J (qf)) ?_;refine S1 ?_;refine aL (fun b2=> ?_);refine N3 ?_;refine kz (T:=71) (s:=1) ?_;refine ji (by simp only [jeL,jeG,jeM,jeO,jeJ,jeI,Value.cells,jeK];rfl) ?_;refine vF ?_;refine ji (by simp only [jeL,jeG,jeM,jeO,jeJ,jeI,Value.cells,jeK];rfl) ?_;refine S6 ?_;refine JI (X:=Nat×(Option Addr×Nat)×List Pc) (fun x=>x.1≤n∧x.2.2.map (·.xs) =K3 rs x.1) (fun x=>n- x.1) (fun x=> [(4, .int .i64 (x.1:Int))]) (kK [0,2,3]) (fun x=> [.cel b1 29 [.slice none 0 0], .cel b2 29 [.slice x.2.1.1 x.2.2.length x.2.1.2],JP (Bs.N ⟨w,[]⟩) 71 1 x.2.2.length (x.2.2.map Pc.val) x.2.1,ve x.2.2]) (0,(none,0),[]) (⟨jeE _,J⟩) ⟨J,sz⟩ (fun _ h=>h) ?_
 intro⟨k,⟨rA,rc⟩,l⟩ hx L hL1
 refine v9 ?_;refine ji (by first | (dsimp only;done) | (dsimp only;rfl) | rfl) ?_
 obtain ⟨hk,hmp⟩ :k≤n∧l.map (·.xs) =K3 rs k:=hx
 have hlk:l.length= (K3 rs k).length:= (by have:=congrArg List.length hmp;rwa [jeX] at this)
 have hlen:=Ze rs k
 refine S7 ?_;refine a9 (jr J J JN (QM hcell0 hbb)) ?_;refine S3 ?_;refine cZ (fun c1=> ?_) (fun c1=> ?_)
 ·have hlt:k<n:= (by omega)
  obtain ⟨eb,eo,Ak,ck,rfl,hbB,hcell,hpts,hmax⟩ :=h.at_ hlt
  have hpos:=Qa (kU hr (show k<rs.length by omega))
  obtain ⟨E,hE⟩ :∃E,E=J0 (rg rs k) :=⟨_,rfl⟩
  have hEl:E.length≤400:= (by rw [hE];have:=Ki (rg rs k) (rg rs k).length;unfold J0;omega)
  have hkp:KY (rg rs k) =E.map lA:= (by rw [hE];rfl)
  have hkl: (KY (rg rs k)).length=E.length:= (by rw [hkp,jeX])
  refine S9 ?_;refine a9 (jr J J JN (QM hcell0 hbb)) ?_;refine S3 ?_;refine jP UQ (v:=fun x=> .slice x.1 _ x.2) (r:=fun x=>JP 0 118 4 _ _ x) (H:=fun _=>True) J J J (lb J) (fun w1 hs=>qS ((yv eb (eo+k*1) Ak _ ck (rg rs k) w1 (by rw [jfz];exact qU hcell hbB w1 hs) (jeR hbB hs.fin.size) (hpts.over hs.fin) (by omega)).mono fun e w' ⟨v,h1,_,h2,h3⟩ =>⟨v,h1,h2,h3⟩)) ?_
  rintro⟨eA,ec⟩ -
  refine N4 ?_;refine a9 (JV J J (wX)) ?_;refine S1 ?_;refine aL (fun b3=> ?_);refine N3 ?_;refine kz (T:=54) (s:=2) ?_;refine ji (by simp only [jeL,jeG,jeM,jeO,jeJ,jeI,Value.cells,jeK];rfl) ?_
  rw [←hE]
  refine S6 ?_;refine JI (X:=Nat×Option Addr×Nat) (fun y=>y.1≤E.length) (fun y=>E.length- y.1) (fun y=> [(7, .int .i64 (y.1:Int))]) (kK [0,2,3,4,9,10,11,12,13,14,15,18,19,20,21,22,23,24,5,25,6]) (fun y=> [.cel b1 29 [.slice none 0 0], .cel b2 29 [.slice rA l.length rc],JP (Bs.N ⟨w,[]⟩) 71 1 l.length (l.map Pc.val) (rA,rc),ve l,JP 0 118 4 E.length (E.flatMap jZ) (eA,ec), .cel b3 71 [.slice y.2.1 y.1 y.2.2],JP (Bs.N ⟨w,[]⟩) 54 2 y.1 (((E.map lA).take y.1).flatMap j7) y.2]) (0,none,0) (jeE _) ⟨J,sz⟩ (fun _ h=>h) ?_
  intro⟨j,qA,qc⟩ hy L hL2
  refine v9 ?_;refine ji (by first | (dsimp only;done) | (dsimp only;rfl) | rfl) ?_
  have hj:j≤E.length:=hy
  refine S8 ?_;refine cZ (fun c2=> ?_) (fun c2=> ?_)
  ·have hjl:j<E.length:= (by omega)
   refine QF (fun w hs=>K2 (k:=4) J hs (by omega)) ?_
   rintro⟨eg,rfl⟩
   refine S5 ?_;refine Jw 8 ?_;refine dV 0 [1] ?_;refine dK 1 ?_;refine dV 2 [4,5,6,7] ?_;refine dV 3 [4,5,6,7] ?_;refine dV 4 [5,6,7] ?_;refine dV 5 [6,7] ?_;refine d9 6 J [7] (u9 J) (jj J J jl J (Qc (b:=eg) (o:=0) (we (k:=4) (x:= (some ⟨eg,0,none⟩,ec)) (ls:=E) J J) hjl)) ?_;refine Jh (i:=7) J (by decide) (by kernel_rfl) J ?_;refine Jp J J (qP J) J (lb J) (fun b4=> ?_);refine n9 ?_;refine jJ (u9 J) ?_;refine K4 J (by kernel_rfl) J ?_;refine JL (k:=6) J jt jO (by decide) J (by decide) J J J (fun w' hs=>q6 hs (k:=7) J J) (by simp [Value.oneCell']) (by unfold maxLen;omega) (by omega) (jeD _) (fun r1=> ?_);refine n9 ?_;refine Q8 11 [5] ?_;refine dK 9 ?_;refine Jh (i:=10) J (by decide) (by kernel_rfl) J ?_;refine S1 ?_;refine jJ (uw [5] J) ?_;refine Jj (by kernel_rfl) ?_;refine S7 ?_
   exact j8 hL2 ((j+1,r1)) ((show j+1≤E.length by omega)) (by simp only;omega) ⟨vi (by omega),sz⟩ (fun _ h=>h.upto ⟨J,J,J,J,J,J,by rw [jcl hjl],trivial⟩)
  ·have hje:j=E.length:= (by omega)
   subst hje
   rw [jfb (by rw [jeX];omega),←hkp]
   refine S11 ?_;refine cZ (fun c3=> ?_) (fun c3=> ?_)
   ·have hpl:0< (KY (rg rs k)).length:= (by omega)
    refine S5 ?_;refine Jp J J (qz J) J (lb J) (fun b5=> ?_);refine N1 ?_;refine JL (k:=2) J jI Jn (by decide) J (by decide) J J J (fun w' hs=>q6 hs (k:=7) J J) (by simp [Value.oneCell']) (by unfold maxLen;omega) (by omega) (jeD _) (fun r2=> ?_);refine N4 ?_;refine zT 6 J hkl (fun clo chi=> ?_);refine ji (by simp only [jeL,jeG,jeM,jeO,jeJ,jeI,Value.cells,jeK];rfl) ?_;refine VY 3 6 J J (by decide) J ?_;refine ji (by simp only [jeL,jeG,jeM,jeO,jeJ,jeI,Value.cells,jeK];rfl) ?_;refine S7 ?_
    exact j8 hL1 ((k+1,r2,l++ [⟨KY (rg rs k),qA,qc,clo,chi⟩])) (⟨show k+1≤n by omega,by rw [jfa,hmp,yi (by omega) hpl];rfl⟩) (by simp only;omega) ⟨vi (by omega),sz⟩ (fun _ h=> (h.picks [0,1,2,3] (by decide)).upto ⟨J,by rw [jeC];rfl,by rw [jfa,jeC];simp [Pc.val,hkl],(vf _ _).symm,trivial⟩)
   ·refine S8 ?_
    exact j8 hL1 ((k+1,(rA,rc),l)) (⟨show k+1≤n by omega,by rw [hmp,zn (by omega) (by omega)]⟩) (by simp only;omega) ⟨vi (by omega),sz⟩ (u9 J)
 ·have hkn:k=rs.length:= (by omega)
  subst hkn
  refine S12 ?_;refine jL J (J3 (k:=0) J jn J J) ?_
  intro w' hs
  have hrs:l.map (·.xs) =J4 rs:=hmp
  have hbl: (J4 rs).length=l.length:=hlk.symm
  exact⟨rA,rc,by rw [hbl],by rw [hbl];exact UV hs (kr:=2) (kp:=3) rfl rfl (by decide) rfl rfl hrs (fun j hj=>by have:=Zr hr (jeW hj);rw [wl hj] at this;omega),hs.fin⟩
theorem yQ (A:Option Addr) (n c:Nat) (rs:List jS) (w:World) (h:Rings w A n rs) (hr:JO rs=true) :
  Calls Tryz.prog 40 #[Ju A n c] w fun e w'=>∃A' c',e= .returned (Ju A' (J4 rs).length c')∧OwnG w.heap.size w'.heap.size w' A' (J4 rs).length (J4 rs)∧Over w w':=by
 have hl:=h.1
 have hn40:=wb hr
 refine jU (m:=53) (Tryz.func40) J J (lb J) ?_;refine S3 ?_;refine aX (fun b1=> ?_);refine N1 ?_;refine aL (fun b2=> ?_);refine N4 ?_;refine aL (fun b3=> ?_);refine N1 ?_;refine kz (T:=71) (s:=1) ?_;refine ji (by simp only [jeL,jeG,jeM,jeO,jeJ,jeI,Value.cells,jeK];rfl) ?_;refine vF ?_;refine ji (by simp only [jeL,jeG,jeM,jeO,jeJ,jeI,Value.cells,jeK];rfl) ?_;refine S9 ?_;refine JI (X:=Nat×(Option Addr×Nat)×List Pc) (fun x=>x.1≤n∧x.2.2.map (·.xs) =K3 rs x.1) (fun x=>n- x.1) (fun x=> [(12, .int .i64 (x.1:Int))]) (kK [2,3,10,11]) (fun x=> [.cel b1 29 [.slice A n c], .cel b2 29 [.slice none 0 0], .cel b3 29 [.slice x.2.1.1 x.2.2.length x.2.1.2],JP (Bs.N ⟨w,[]⟩) 71 1 x.2.2.length (x.2.2.map Pc.val) x.2.1,ve x.2.2]) (0,(none,0),[]) (⟨jeE _,J⟩) ⟨J,sz⟩ (fun _ h=>h) ?_
 intro⟨k,⟨rA,rc⟩,l⟩ hx L hL1
 refine v9 ?_;refine ji (by first | (dsimp only;done) | (dsimp only;rfl) | rfl) ?_
 obtain ⟨hk,hmp⟩ :k≤n∧l.map (·.xs) =K3 rs k:=hx
 have hlk:l.length= (K3 rs k).length:= (by have:=congrArg List.length hmp;rwa [jeX] at this)
 have hlen:=Ze rs k
 refine S5 ?_;refine cZ (fun c1=> ?_) (fun c1=> ?_)
 ·have hlt:k<n:= (by omega)
  obtain ⟨eb,eo,Ak,ck,rfl,hbB,hcell,hpts,hmax⟩ :=h.at_ hlt
  have hpos:=Qa (kU hr (show k<rs.length by omega))
  obtain ⟨pb,po,rfl,_⟩ :=hpts.2 hpos.1
  obtain ⟨xs,hxs⟩ :∃xs,xs=rg rs k:=⟨_,rfl⟩
  rw [←hxs] at hpts hpos hcell
  have hkl:=fun j=>Iu xs j
  refine S7 ?_;refine a9 (jj J J JH J (ZM hcell hbB)) ?_;refine S1 ?_;refine aL (fun b4=> ?_);refine N6 ?_;refine kz (T:=54) (s:=2) ?_;refine N10 ?_;refine JI (X:=Nat×Option Addr×Nat) (fun y=>y.1≤xs.length) (fun y=>xs.length- y.1) (fun y=> [(6, .slice y.2.1 (w6 xs y.1).length y.2.2),(19, .int .i64 (y.1:Int))]) (kK [2,3,10,11,12,13,14,15,5,16,17,18]) (fun y=> [.cel b1 29 [.slice (some ⟨eb,eo,none⟩) n c], .cel b2 29 [.slice none 0 0], .cel b3 29 [.slice rA l.length rc],JP (Bs.N ⟨w,[]⟩) 71 1 l.length (l.map Pc.val) (rA,rc),ve l, .cel b4 71 [.slice (some ⟨pb,po,none⟩) xs.length ck],JP (Bs.N ⟨w,[]⟩) 54 2 (w6 xs y.1).length ((w6 xs y.1).flatMap j7) y.2]) (0,none,0) (jeE _) ⟨J,sz⟩ (fun _ h=>h) ?_
  intro⟨j,qA,qc⟩ hy L hL2
  refine v9 ?_;refine ji (by first | (dsimp only;done) | (dsimp only;rfl) | rfl) ?_
  have hj:j≤xs.length:=hy
  have hkj:=hkl j
  refine S5 ?_;refine cZ (fun c2=> ?_) (fun c2=> ?_)
  ·have hjl:j<xs.length:= (by omega)
   have hnx:nx xs j<xs.length:=Nat.mod_lt _ (by omega)
   refine S8 ?_;refine a9 (jj J J jl J (Vm (b:=pb) (o:=po) hpts hjl)) ?_;refine S1 ?_;refine aL (fun b5=> ?_);refine N6 ?_;refine Jw 12 ?_;refine dK 0 ?_;refine dK 1 ?_;refine dK 2 ?_;refine dK 3 ?_;refine dK 4 ?_;refine dK 5 ?_;refine dK 6 ?_;refine dK 7 ?_;refine dZ 8 J ((YV J J J (by omega) (by omega) (by omega)).as (congrArg _ (DN (xs:=xs) J j))) ?_;refine dZ 9 J (jT (j:=nx xs j) J J J jt (by omega)) ?_;refine dZ 10 J (jj J J jl J (Vm (b:=pb) (o:=po) hpts hnx)) ?_;refine dK 11 ?_;refine Jj (by kernel_rfl) ?_;refine S1 ?_;refine cZ (fun c3=> ?_) (fun c3=> ?_)
   ·have hne:pt xs j≠pt xs (nx xs j) :=jd1 c3
    refine S4 ?_;refine Jp J J (qP J) J (lb J) (fun b6=> ?_);refine N1 ?_;refine JL (k:=6) J jt jO (by decide) J (by decide) J J J (fun w' hs=>q6 hs (k:=8) J J) (by simp [Value.oneCell']) (by unfold maxLen;omega) (by omega) (jeD _) (fun r1=> ?_);refine N8 ?_
    exact j8 hL2 ((j+1,r1)) ((show j+1≤xs.length by omega)) (by simp only;omega) ⟨(by rw [LK hne,jeC];rfl),vi (by omega),sz⟩ (fun _ h=>h.upto ⟨J,J,J,J,J,J,by rw [LK hne,jeC,jeQ];rfl,trivial⟩)
   ·refine S7 ?_
    exact j8 hL2 ((j+1,qA,qc)) ((show j+1≤xs.length by omega)) (by simp only;omega) ⟨(by rw [O6 (jcI c3)];rfl),vi (by omega),sz⟩ (fun _ h=>h.upto ⟨J,J,J,J,J,J,by rw [O6 (jcI c3)],trivial⟩)
  ·have hje:j=xs.length:= (by omega)
   subst hje
   rw [show w6 xs xs.length=KY xs from rfl]
   refine S11 ?_;refine cZ (fun c4=> ?_) (fun c4=> ?_)
   ·have hpl:0< (KY xs).length:= (by omega)
    refine S4 ?_;refine a9 (JV J J (KH J)) ?_;refine S1 ?_;refine Jp J J (qz J) J (lb J) (fun b7=> ?_);refine N1 ?_;refine JL (k:=3) J jI Jn (by decide) J (by decide) J J J (fun w' hs=>q6 hs (k:=7) J J) (by simp [Value.oneCell']) (by unfold maxLen;omega) (by omega) (jeD _) (fun r2=> ?_);refine N4 ?_;refine zT 6 J J (fun clo chi=> ?_);refine ji (by simp only [jeL,jeG,jeM,jeO,jeJ,jeI,Value.cells,jeK];rfl) ?_;refine VY 4 6 J J (by decide) J ?_;refine ji (by simp only [jeL,jeG,jeM,jeO,jeJ,jeI,Value.cells,jeK];rfl) ?_;refine S6 ?_
    exact j8 hL1 ((k+1,r2,l++ [⟨KY xs,qA,qc,clo,chi⟩])) (⟨show k+1≤n by omega,by rw [jfa,hmp,yi (by omega) (hxs▸hpl),hxs];rfl⟩) (by simp only;omega) ⟨vi (by omega),sz⟩ (fun _ h=> (h.picks [0,1,2,3,4] (by decide)).upto ⟨J,J,by rw [jeC];rfl,by rw [jfa,jeC];rfl,(vf _ _).symm,trivial⟩)
   ·refine S7 ?_
    exact j8 hL1 ((k+1,(rA,rc),l)) (⟨show k+1≤n by omega,by rw [hmp,zn (by omega) (by rw [←hxs];omega)]⟩) (by simp only;omega) ⟨vi (by omega),sz⟩ (u9 J)
 ·have hkn:k=rs.length:= (by omega)
  subst hkn
  refine S12 ?_;refine jL J (J3 (k:=1) J jn J J) ?_
  intro w' hs
  have hrs:l.map (·.xs) =J4 rs:=hmp
  have hbl: (J4 rs).length=l.length:=hlk.symm
  exact⟨rA,rc,by rw [hbl],by rw [hbl];exact UV hs (kr:=3) (kp:=4) rfl rfl (by decide) rfl rfl hrs (fun j hj=>by have:=Zr hr (jeW hj);rw [wl hj] at this;omega),hs.fin⟩
def uY (hot:List Pn) (E:List Leg) (k:Nat) :List Pn:= (E.take k).flatMap fun l=>ku hot (lA l,lB l)
theorem Gg {hot:List Pn} {E:List Leg} {k:Nat} (h:k<E.length) :uY hot E (k+1) =uY hot E k++ku hot (lA (lg E k),lB (lg E k)) :=by
 unfold uY
 rw [jeS h,jeQ]
 simp [lg,List.getD,h]
theorem Py (hot:List Pn) (e:Pn×Pn) : (ku hot e).length≤hot.length:=by
 unfold ku
 rw [List.length_dropLast,W0]
 have:=Xn e.1 e.2 hot
 omega
theorem Xh {hot:List Pn} {E:List Leg} {m:Nat} (hm:hot.length≤m) :∀k,k≤E.length→(uY hot E k).length≤k*m
 | 0,_=>by simp [uY]
 | k+1,hk=>by
  have:=Xh (E:=E) hm k (by omega)
  have:=Py hot (lA (lg E k),lB (lg E k))
  rw [Gg (by omega),jeC,Nat.succ_mul]
  omega
theorem Mw (hot xs:List Pn) :Km hot xs=uY hot (J0 xs) (J0 xs).length:=by unfold Km uY;rw [jfr]
def onHot (hot:List Pn) (E:List Leg) :Prop:=∀l∈E,lA l≠lB l∧lA l∈hot∧lB l∈hot
theorem onHot.at_ {hot:List Pn} {E:List Leg} (h:onHot hot E) {k:Nat} (hk:k<E.length) :lA (lg E k)≠lB (lg E k)∧lA (lg E k)∈hot∧lB (lg E k)∈hot:=by
 have:=h E[k] (jeW hk)
 have e:lg E k=E[k] :=by simp [lg,List.getD,hk]
 rw [e]
 exact this
theorem jbP {P:Program} {f:FuncId} {args:Array Value} {w1:World} {T s n:Nat} {xs:List Value} {b:Bool} (h:Calls P f args w1 fun e w'=>∃v,e= .returned (.tuple #[.agg #[v], .bool b])∧w'.ownsRow w1.heap.size T s v n xs∧Over w1 w') :
  Calls P f args w1 fun e w'=>∃x:Option Addr×Nat,e= .returned (.tuple #[.agg #[.slice x.1 n x.2], .bool b])∧Over w1 w'∧(JP 0 T s n xs x).P w'∧(∀b,(JP 0 T s n xs x).F b→w1.heap.size≤b)∧(JP 0 T s n xs x).B=0∧True:=by
 refine h.mono ?_
 rintro e w' ⟨v,rfl,hr,hO⟩
 obtain ⟨x,rfl⟩ :=WL hr
 exact⟨x,rfl,hO,Ui hr (jeE _),fun b hb=> (hr.lt b hb).1,sz⟩
theorem Iz (bb oo:Nat) (A:Option Addr) (n c:Nat) (xs:List Pn) (B:Option Addr) (m d:Nat) (hot:List Pn) (w:World) (hcell:w.cell? ⟨bb,oo,none⟩ =some (.slice A n c)) (hbb:bb<w.heap.size) (h:Pts w A n xs) (hn: (n:Int)≤1048577)
  (hh:Pts w B m hot) (hm:m≤1048576) (hok:∀p∈hot,wU p.1 p.2=true) (hE:onHot hot (J0 xs)) :
  Calls Tryz.prog 143 #[.pointer (some ⟨bb,oo,none⟩), .slice B m d] w fun e w'=>∃v,e= .returned (.tuple #[.agg #[v], .bool (decide (0< (J0 xs).length))])∧w'.ownsRow w.heap.size 54 2 v (Km hot xs).length ((Km hot xs).flatMap j7)∧Over w w':=by
 have hl:=h.1
 have hhl:=hh.1
 obtain ⟨E,hEe⟩ :∃E,E=J0 xs:=⟨_,rfl⟩
 have hEl:E.length≤1048577:=by rw [hEe];have:=Ki xs xs.length;unfold J0;omega
 rw [Mw,←hEe]
 rw [←hEe] at hE
 refine jU (m:=44) (Tryz.func143) J J (lb J) ?_;refine S3 ?_;refine aL (fun b1=> ?_);refine N4 ?_;refine a9 (JV J J (wX)) ?_;refine S1 ?_;refine aL (fun b2=> ?_);refine N3 ?_;refine kz (T:=54) (s:=2) ?_;refine ji (by simp only [jeL,jeG,jeM,jeO,jeJ,jeI,Value.cells,jeK];rfl) ?_;refine S4 ?_;refine jP UQ (v:=fun x=> .slice x.1 _ x.2) (r:=fun x=>JP 0 118 4 _ _ x) (H:=fun _=>True) J J J (lb J) (fun w1 hs=>qS ((yv bb oo A n c xs w1 (qU hcell hbb w1 hs) (jeR hbb hs.fin.size) (h.over hs.fin) hn).mono fun e w' ⟨v,h1,_,h2,h3⟩ =>⟨v,h1,h2,h3⟩)) ?_
 rintro⟨eA,ec⟩ -
 refine N7 ?_
 rw [←hEe]
 refine S1 ?_;refine JI (X:=Nat×Option Addr×Nat) (fun x=>x.1≤E.length) (fun x=>E.length- x.1) (fun x=> [(8, .int .i64 (x.1:Int))]) (kK [1,4,5,6,7]) (fun x=> [.cel b1 71 [.slice none 0 0], .cel b2 71 [.slice x.2.1 (uY hot E x.1).length x.2.2],JP (Bs.N ⟨w,[]⟩) 54 2 (uY hot E x.1).length ((uY hot E x.1).flatMap j7) x.2,JP 0 118 4 E.length (E.flatMap jZ) (eA,ec)]) (0,none,0) (jeE _) ⟨J,sz⟩ (fun _ h=>h) ?_
 intro⟨k,rA,rc⟩ hx L hL1
 refine v9 ?_;refine ji (by first | (dsimp only;done) | (dsimp only;rfl) | rfl) ?_
 have hk:k≤E.length:=hx
 have hsn:=Xh (hot:=hot) (E:=E) (m:=1048576) (by omega) k hk
 refine S8 ?_;refine cZ (fun c1=> ?_) (fun c1=> ?_)
 ·have hlt:k<E.length:= (by omega)
  obtain ⟨g1',g2',g3'⟩ :=hE.at_ hlt
  obtain ⟨mid,hmid⟩ :=X6 g1' g2' g3'
  have hpl:0< (Qj (lA (lg E k)) (lB (lg E k)) hot).length:= (by rw [hmid];simp)
  have hpm: (Qj (lA (lg E k)) (lB (lg E k)) hot).length≤1048576:= (by rw [W0];have:=Xn (lA (lg E k)) (lB (lg E k)) hot;omega)
  refine QF (fun w hs=>K2 (k:=3) J hs (by omega)) ?_
  rintro⟨eg,rfl⟩
  refine S6 ?_;refine Jw 13 ?_;refine dK 0 ?_;refine dK 1 ?_;refine dK 2 ?_;refine dK 3 ?_;refine dZ 4 J (jj J J jl J (Qc (b:=eg) (o:=0) (we (k:=3) (x:= (some ⟨eg,0,none⟩,ec)) (ls:=E) J J) hlt)) ?_;refine dK 5 ?_;refine dK 6 ?_;refine dK 7 ?_;refine dK 8 ?_;refine dZ 9 J (jj J J jl J (qR (b:=eg) (o:=0) (we (k:=3) (x:= (some ⟨eg,0,none⟩,ec)) (ls:=E) J J) hlt)) ?_;refine dK 10 ?_;refine Jh (i:=11) J (by decide) (by kernel_rfl) J ?_;refine jP Hw (v:=fun x:Option Addr×Nat=> .slice x.1 (Qj (lA (lg E k)) (lB (lg E k)) hot).length x.2) (r:=fun x=>JP 0 54 2 (Qj (lA (lg E k)) (lB (lg E k)) hot).length ((Qj (lA (lg E k)) (lB (lg E k)) hot).flatMap j7) x) (H:=fun _=>True) J J J (lb J) (fun w1 hs=>qS (Ix (lA (lg E k)) (lB (lg E k)) B m d hot w1 (hh.over hs.fin) (hok _ g2') (hok _ g3') hok hm)) ?_
  rintro⟨pA,pc⟩ -
  refine n9 ?_;refine Q5 (u9 J) ?_;refine dK 12 ?_;refine Jj (by kernel_rfl) ?_;refine S1 ?_;refine QF (fun w hs=>K2 (k:=4) J hs hpl) ?_
  rintro⟨pg,rfl⟩
  refine QF (fun w hs=>wC (hs.all 4 _ J).1) ?_
  intro hcap
  have hst:uY hot E (k+1) =uY hot E k++ (Qj (lA (lg E k)) (lB (lg E k)) hot).take ((Qj (lA (lg E k)) (lB (lg E k)) hot).length- 1) := (by rw [Gg hlt];unfold ku;rw [List.dropLast_eq_take])
  have hstl: (uY hot E (k+1)).length= (uY hot E k).length+ ((Qj (lA (lg E k)) (lB (lg E k)) hot).length- 1) := (by rw [hst,jeC,jeV];omega)
  refine S1 ?_;refine Jw 7 ?_;refine dV 0 [1] ?_;refine dK 1 ?_;refine dV 2 [6] ?_;refine dV 3 [4,5,6] ?_;refine dV 4 [5,6] ?_;refine d9 5 J [6] (u9 J) ((JC J J J (by omega) (by omega)).as (congrArg _ (show(((Qj (lA (lg E k)) (lB (lg E k)) hot).length:Int) - 1) = (((Qj (lA (lg E k)) (lB (lg E k)) hot).length- 1:Nat) :Int) by omega))) ?_;refine dZ 6 J ((kb J J J jt (by omega)).as (VG _ _ _ _ _)) ?_;refine K4 J (by kernel_rfl) J ?_;refine JL (k:=2) J jt jO (by decide) J (by decide) J J J (fun w' hs=>H5 (vx (hs.all 4 _ J).1 J) (by omega)) (Kk _) (by unfold maxLen;omega) (by omega) (jeD _) (fun r1=> ?_);refine n9 ?_;refine Q8 10 [1] ?_;refine dK 8 ?_;refine Jh (i:=9) J (by decide) (by kernel_rfl) J ?_;refine S1 ?_;refine jJ (uw [1] J) ?_;refine Jj (by kernel_rfl) ?_;refine S7 ?_
  exact j8 hL1 ((k+1,r1)) ((show k+1≤E.length by omega)) (by simp only;omega) ⟨vi (by omega),sz⟩ (fun _ h=> (h.picks [0,1,2,3] (by decide)).upto ⟨J,by rw [hstl],by rw [hstl,hst,jeQ],sz⟩)
 ·have hkE:k=E.length:= (by omega)
  subst hkE
  refine S16 ?_;refine J6 J (J3 (k:=0) J JH J J) (.tmp J) ?_
  intro w' hs
  have hr:=hs.all 2 _ rfl
  exact⟨_,by rw [show decide ((E.length:Int) >0) =decide (0<E.length) from decide_eq_decide.2 (by omega)],KS hr.1 (fun b hb=> (hr.2.1 b hb).elim id (fun h=>by cases h)),hs.fin⟩
theorem bareG.on {hot:List Pn} {rs:List jS} (h:bareG hot rs) {k:Nat} (hk:k<rs.length) :onHot hot (J0 (rg rs k))∧0< (J0 (rg rs k)).length∧(J0 (rg rs k)).length= (rg rs k).length:=by
 obtain ⟨hb,hm⟩ :bare (rg rs k)∧∀p∈rg rs k,p∈hot:=by have:=h rs[k] (jeW hk);rwa [wl hk] at this
 refine⟨fun l hl=> ?_,by rw [uH hb];exact hb.1,uH hb⟩
 rw [Vc hb] at hl
 obtain ⟨d,hd,rfl⟩ :=je7.1 hl
 exact x5 hb hm d hd
theorem zG {hot xs:List Pn} (hx:xs.length≤400) (hm:hot.length≤1048576) : (Km hot xs).length≤419430400:=by
 rw [Mw]
 have h1:=Ki xs xs.length
 have h2: (J0 xs).length≤400:=by unfold J0;omega
 have:=Xh (hot:=hot) (E:=J0 xs) (m:=1048576) hm _ (jeD _)
 have h3: (J0 xs).length*1048576≤400*1048576:=Nat.mul_le_mul_right _ h2
 omega
theorem Mr {hot:List Pn} {rs:List jS} {k:Nat} (h:k<rs.length) :rg (qT hot rs) k=Km hot (rg rs k) :=by simp [qT,rg,List.getD,h]
theorem vj (hot:List Pn) (rs:List jS) : (qT hot rs).length=rs.length:=by simp [qT]
theorem LO (bb oo:Nat) (A:Option Addr) (n c:Nat) (rs:List jS) (B:Option Addr) (m d:Nat) (hot:List Pn) (w:World) (hcell0:w.cell? ⟨bb,oo,none⟩ =some (.slice A n c)) (hbb:bb<w.heap.size) (h:Rings w A n rs) (hr:JO rs=true)
  (hh:Pts w B m hot) (hm:m≤1048576) (hok:∀p∈hot,wU p.1 p.2=true) (hG:bareG hot rs) :
  Calls Tryz.prog 98 #[.pointer (some ⟨bb,oo,none⟩), .slice B m d] w fun e w'=>∃A' c',e= .returned (Ju A' n c')∧OwnG w.heap.size w'.heap.size w' A' n (qT hot rs)∧Over w w':=by
 have hl:=h.1
 have hn40:=wb hr
 have hhl:=hh.1
 refine jU (m:=38) (Tryz.func98) J J (lb J) ?_;refine S3 ?_;refine aL (fun b1=> ?_);refine N3 ?_;refine a9 (JV J J (qf)) ?_;refine S1 ?_;refine aL (fun b2=> ?_);refine N3 ?_;refine kz (T:=71) (s:=1) ?_;refine ji (by simp only [jeL,jeG,jeM,jeO,jeJ,jeI,Value.cells,jeK];rfl) ?_;refine vF ?_;refine ji (by simp only [jeL,jeG,jeM,jeO,jeJ,jeI,Value.cells,jeK];rfl) ?_;refine S6 ?_;refine JI (X:=Nat×(Option Addr×Nat)×List Pc) (fun x=>x.1≤n∧x.2.2.map (·.xs) = (qT hot rs).take x.1) (fun x=>n- x.1) (fun x=> [(6, .int .i64 (x.1:Int))]) (kK [0,1,4,5]) (fun x=> [.cel b1 29 [.slice none 0 0], .cel b2 29 [.slice x.2.1.1 x.1 x.2.1.2],JP (Bs.N ⟨w,[]⟩) 71 1 x.1 (x.2.2.map Pc.val) x.2.1,ve x.2.2]) (0,(none,0),[]) (⟨jeE _,J⟩) ⟨J,sz⟩ (fun _ h=>h) ?_
 intro⟨k,⟨rA,rc⟩,l⟩ hx L hL1
 refine v9 ?_;refine ji (by first | (dsimp only;done) | (dsimp only;rfl) | rfl) ?_
 obtain ⟨hk,hmp⟩ :k≤n∧l.map (·.xs) = (qT hot rs).take k:=hx
 have hlk:l.length=k:= (by have:=congrArg List.length hmp;rw [jeX,jeV,vj] at this;omega)
 refine S7 ?_;refine a9 (jr J J JN (QM hcell0 hbb)) ?_;refine S3 ?_;refine cZ (fun c1=> ?_) (fun c1=> ?_)
 ·have hlt:k<n:= (by omega)
  obtain ⟨eb,eo,Ak,ck,rfl,hbB,hcell,hpts,hmax⟩ :=h.at_ hlt
  have hpos:=Qa (kU hr (show k<rs.length by omega))
  obtain ⟨ho1,ho2,ho3⟩ :=hG.on (show k<rs.length by omega)
  have hsl:=zG (hot:=hot) (xs:=rg rs k) (by omega) (by omega)
  refine S9 ?_;refine a9 (jr J J JN (QM hcell0 hbb)) ?_;refine S4 ?_;refine jP Hy (v:=fun x:Option Addr×Nat=> .tuple #[.agg #[.slice x.1 (Km hot (rg rs k)).length x.2], .bool (decide (0< (J0 (rg rs k)).length))]) (r:=fun x=>JP 0 54 2 _ _ x) (H:=fun _=>True) J J J (lb J) (fun w1 hs=>jbP (Iz eb (eo+k*1) Ak _ ck (rg rs k) B m d hot w1 (by rw [jfz];exact qU hcell hbB w1 hs) (jeR hbB hs.fin.size) (hpts.over hs.fin) (by omega) (hh.over hs.fin) hm hok ho1)) ?_
  rintro⟨tA,tc⟩ -
  refine N4 ?_;refine aL (fun b3=> ?_);refine N8 ?_;refine jcT J ((decide_eq_true ho2)) ?_;refine S5 ?_;refine Jp J J (qz J) J (lb J) (fun b4=> ?_);refine N1 ?_;refine JL (k:=2) J jI Jn (by decide) J (by decide) J J J (fun w' hs=>q6 hs (k:=6) J J) (by simp [Value.oneCell']) (by unfold maxLen;omega) (by omega) (jeD _) (fun r1=> ?_);refine N4 ?_;refine zT 4 J J (fun clo chi=> ?_);refine ji (by simp only [jeL,jeG,jeM,jeO,jeJ,jeI,Value.cells,jeK];rfl) ?_;refine VY 3 4 J J (by decide) J ?_;refine ji (by simp only [jeL,jeG,jeM,jeO,jeJ,jeI,Value.cells,jeK];rfl) ?_;refine S7 ?_
  exact j8 hL1 ((k+1,r1,l++ [⟨Km hot (rg rs k),tA,tc,clo,chi⟩])) (⟨show k+1≤n by omega,by rw [jfa,hmp,vk (by rw [vj];omega),Mr (by omega)];rfl⟩) (by simp only;omega) ⟨vi (by omega),sz⟩ (fun _ h=> (h.picks [0,1,2,3] (by decide)).upto ⟨J,J,by rw [jfa];rfl,(vf _ _).symm,trivial⟩)
 ·have hkn:k=n:= (by omega)
  subst hkn
  refine S12 ?_;refine jL J (J3 (k:=0) J jn J J) ?_
  intro w' hs
  have hrs:l.map (·.xs) =qT hot rs:= (by rw [hmp,jfb (by rw [vj];omega)])
  exact⟨rA,rc,rfl,UV hs (kr:=2) (kp:=3) rfl rfl (by decide) rfl hlk hrs (fun j hj=>by rw [vj] at hj;rw [Mr hj];have:=Qa (kU hr hj);have:=zG (hot:=hot) (xs:=rg rs j) (by omega) (by omega);omega),hs.fin⟩
def Xm (hot:List Pn) :Nat→List jS→Nat→Option (List jS×Nat)
 | 0,_,_=>none
 | f+1,rs,r=>if JO (qT hot rs) =false then none else if qT hot rs=rs then some (rs,r) else Xm hot f (qT hot rs) (r+1)
def MI (hot:List Pn) (rs:List jS) :Option (List jS×Nat) :=Xm hot 402 rs 0
structure StabI (hot:List Pn) (rs0 rs:List jS) (r:Nat) :Prop where
 eq:MI hot rs0=Xm hot (402- r) rs r
 reg:JO rs=true
 bare:bareG hot rs
 cnt:r+cnt rs0≤cnt rs
theorem DV {hot:List Pn} {rs:List jS} (h:JO rs=true) (hb:bareG hot rs) :Go.Proofs.YtkagkgjjfdkoaaaGreat.cnt rs≤400:=by
 rw [←Z7 fun r hr=> (hb r hr).1]
 simp [JO] at h
 omega
theorem StabI.start {hot:List Pn} {rs:List jS} (h:JO rs=true) (hb:bareG hot rs) :StabI hot rs rs 0:=⟨rfl,h,hb,by omega⟩
theorem StabI.r_le {hot:List Pn} {rs0 rs:List jS} {r:Nat} (h:StabI hot rs0 rs r) :r≤400:=by
 have:=DV h.reg h.bare
 have:=h.cnt
 omega
theorem StabI.unf {hot:List Pn} {rs0 rs:List jS} {r:Nat} (h:StabI hot rs0 rs r) :MI hot rs0=if JO (qT hot rs) =false then none else if qT hot rs=rs then some (rs,r) else Xm hot (402- (r+1)) (qT hot rs) (r+1) :=by
 have:=h.r_le
 rw [h.eq,show 402- r=402- (r+1) +1 by omega,Xm]
theorem StabI.full {hot:List Pn} {rs0 rs:List jS} {r:Nat} (h:StabI hot rs0 rs r) (hb:JO (qT hot rs) =false) :MI hot rs0=none:=by rw [h.unf,if_pos hb]
theorem StabI.fin {hot:List Pn} {rs0 rs:List jS} {r:Nat} (h:StabI hot rs0 rs r) (he:qT hot rs=rs) :MI hot rs0=some (rs,r) :=by
 rw [h.unf,if_neg (by rw [he,h.reg];decide),if_pos he]
theorem StabI.step {hot:List Pn} {rs0 rs:List jS} {r:Nat} (hnd:hot.Nodup) (h:StabI hot rs0 rs r) (hb:JO (qT hot rs) =true) (he:qT hot rs≠rs) :StabI hot rs0 (qT hot rs) (r+1)∧Go.Proofs.YtkagkgjjfdkoaaaGreat.cnt rs<Go.Proofs.YtkagkgjjfdkoaaaGreat.cnt (qT hot rs) :=by
 obtain ⟨g1,g2⟩ :=BB hnd h.bare
 have hlt:Go.Proofs.YtkagkgjjfdkoaaaGreat.cnt rs<Go.Proofs.YtkagkgjjfdkoaaaGreat.cnt (qT hot rs) :=Nat.lt_of_le_of_ne g1 fun e=>he (g2 e.symm)
 refine⟨⟨?_,hb,h.bare.snap hnd,?_⟩,hlt⟩
 ·rw [h.unf,if_neg (by rw [hb];decide),if_neg he]
 ·have:=h.cnt;omega
def jbl (w:World) (n:Nat) (rs:List jS) (x:Bool×(Option Addr×Nat)×Nat×Nat) :Res:=
 if x.1=true then {F:=fun _=>False,P:=fun _=>Rings w x.2.1.1 n rs,low:=fun _ _ _ h=>h.elim,B:=0,dep:=fun _ _ h _ _=>h} else JD n rs x.2.2.1 x.2.2.2 x.2.1.1
theorem F1 {w w':World} {n:Nat} {rs:List jS} {x:Bool×(Option Addr×Nat)×Nat×Nat} (h: (jbl w n rs x).P w') (hO:Over w w') :Rings w' x.2.1.1 n rs:=by
 unfold jbl at h
 split at h
 ·exact(show Rings w x.2.1.1 n rs from h).over hO
 ·exact(Vy h).rings
theorem ja2 {w:World} {m:Nat} {env:List (Nat×Value)} {Rs:List Res} {K:Act→World→Prop} {A:Option Addr} {n c:Nat} {rs:List jS} (h0:Rings w A n rs) (h:At m env ⟨w,[]⟩ (Rs++ [jbl w n rs (true,(A,c),0,0)]) K) :At m env ⟨w,[]⟩ Rs K:=
 fun a w1 hf hs=>h a w1 hf (hs.add (Over.refl _) (show Rings w A n rs from h0) (fun b hb=> (show False from hb).elim) ⟨jeE _,fun _ _=>jeE _⟩)
theorem jdA {w:World} {Rs:List Res} {b o:Nat} {v:Value} (hc:w.cell? ⟨b,o,none⟩ =some v) (hb:b<w.heap.size) :∀w',St ⟨w,[]⟩ Rs w'→∀q u,[v][q]? =some u→w'.cell? ⟨b,o+q,none⟩ =some u:=fun w' hs q u hq=>by
 match q,hq with
 | 0,hq=>simp at hq;subst hq;exact qU hc hb w' hs
def Rp (hot:List Pn) (rs:List jS) :List jS:=match MI hot rs with
 | some x=>x.1
 | none=> []
def Nq (hot:List Pn) (rs:List jS) :Int:=match MI hot rs with
 | some x=> (x.2:Int)
 | none=>0
def D8 (hot:List Pn) (rs:List jS) :Bool:= (MI hot rs).isSome
theorem D9 {hot:List Pn} {rs:List jS} (h:MI hot rs=none) :Rp hot rs= []∧Nq hot rs=0∧D8 hot rs=false:=by simp [Rp,Nq,D8,h]
theorem Fa {hot:List Pn} {rs ss:List jS} {r:Nat} (h:MI hot rs=some (ss,r)) :Rp hot rs=ss∧Nq hot rs= (r:Int)∧D8 hot rs=true:=by simp [Rp,Nq,D8,h]
theorem zW (bb oo:Nat) (A:Option Addr) (n c:Nat) (rs:List jS) (B:Option Addr) (m d:Nat) (hot:List Pn) (w:World) (hcell0:w.cell? ⟨bb,oo,none⟩ =some (.slice A n c)) (hbb:bb<w.heap.size) (h:Rings w A n rs) (hr:JO rs=true)
  (hh:Pts w B m hot) (hm:m≤1048576) (hok:∀p∈hot,wU p.1 p.2=true) (hnd:hot.Nodup) (hG:bareG hot rs) :
  Calls Tryz.prog 61 #[.pointer (some ⟨bb,oo,none⟩), .slice B m d] w fun e w'=>∃A' c',e= .returned (.tuple #[Ju A' (Rp hot rs).length c', .int .i64 (Nq hot rs), .bool (D8 hot rs)])∧OwnG w.heap.size w'.heap.size w' A' (Rp hot rs).length (Rp hot rs)∧Over w w':=by
 have hl:=h.1
 subst hl
 have hn40:=wb hr
 refine jU (m:=26) (Tryz.func61) J J (lb J) ?_;refine S3 ?_;refine aL (fun b1=> ?_);refine N7 ?_;refine a9 (jj J J jn J (jdA hcell0 hbb)) ?_;refine S1 ?_;refine aL (fun b2=> ?_);refine N3 ?_;refine ja2 (c:=c) h ?_;refine ji (by simp only [jeL,jeG,jeM,jeO,jeJ,jeI,Value.cells,jeK];rfl) ?_;refine S5 ?_;refine JI (X:=Nat×List jS×Bool×(Option Addr×Nat)×Nat×Nat) (fun x=>StabI hot rs x.2.1 x.1) (fun x=>401- cnt x.2.1) (fun x=> [(8, .int .i64 (x.1:Int))]) (kK [1,4,5,6,7]) (fun x=> [.cel b1 29 [.slice none 0 0], .cel b2 29 [.slice x.2.2.2.1.1 x.2.1.length x.2.2.2.1.2],jbl w x.2.1.length x.2.1 x.2.2]) (0,rs,true,(A,c),0,0) (StabI.start hr hG) ⟨J,sz⟩ (fun _ h=>h) ?_
 intro⟨r,ss,fl,⟨cA,cc⟩,clo,chi⟩ hx L hL1
 refine v9 ?_;refine ji (by first | (dsimp only;done) | (dsimp only;rfl) | rfl) ?_
 have hx1:StabI hot rs ss r:=hx
 have hr400:=hx1.r_le
 have hs40:=wb hx1.reg
 refine S6 ?_;refine jP Zz (X:= (Option Addr×Nat)×Nat×Nat) (v:=fun x=>Ju x.1.1 ss.length x.1.2) (r:=fun x=>JD ss.length (qT hot ss) x.2.1 x.2.2 x.1.1) (H:=fun _=>True) J J J (lb J) (fun w1 hs=>Qm (LO b2 0 cA ss.length cc ss B m d hot w1 (qo (k:=1) J J w1 hs) (JQ (hs.cel (k:=1) J)) (F1 (hs.all 2 _ J).1 hs.fin) hx1.reg (hh.over hs.fin) hm hok hx1.bare)) ?_
 rintro⟨⟨gA,gc⟩,glo,ghi⟩ -
 refine N1 ?_;refine aL (fun b3=> ?_);refine N6 ?_;refine a9 (jH KW J J (fun w1 hs=>WF b3 0 gA ss.length gc (qT hot ss) w1 (qo (k:=4) J J w1 hs) (JQ (hs.cel (k:=4) J)) (Vy (hs.all 3 _ J).1).rings (by omega))) ?_;refine S2 ?_;refine cZ (fun c1=> ?_) (fun c1=> ?_)
 ·refine S2 ?_;refine a9 (JV J J (qf)) ?_;refine S11 ?_;refine HI J (J3 (k:=0) J jn J J) (.tmp J) (.tmp J) ?_
  intro w' hs
  obtain ⟨e1,e2,e3⟩ :=D9 (hx1.full c1)
  exact⟨none,0,by rw [e1,e2,e3];rfl,by rw [e1];exact OwnG.nil none,hs.fin⟩
 ·refine S7 ?_;refine a9 (jH wy J J (fun w1 hs=>wD gA cA ss.length ss.length gc cc (qT hot ss) ss w1 (Vy (hs.all 3 _ J).1).rings (F1 (hs.all 2 _ J).1 hs.fin) (smallR.of c1).total (smallR.of hx1.reg).total)) ?_;refine S1 ?_;refine cZ (fun c2=> ?_) (fun c2=> ?_)
  ·refine S15 ?_;refine HI J (J3 (k:=0) J jn J J) (.tmp J) (.tmp J) ?_
   intro w' hs
   obtain ⟨e1,e2,e3⟩ :=Fa (hx1.fin c2)
   have hg:=hs.all 3 _ rfl
   have ho:=wn hg.1 (fun b hb=> (hg.2.1 b hb).elim id (fun h=>by cases h))
   rw [c2] at ho
   exact⟨gA,gc,by rw [e1,e2,e3],by rw [e1];exact ho,hs.fin⟩
  ·obtain ⟨k1,k2⟩ :=hx1.step hnd c1 c2
   have hc4:=DV k1.reg k1.bare
   refine S14 ?_
   exact j8 hL1 ((r+1,qT hot ss,false,(gA,gc),glo,ghi)) (k1) (by simp only;omega) ⟨vi (by omega),sz⟩ (fun _ h=> (h.picks [0,1,3] (by decide)).upto ⟨J,by rw [vj],by rw [vj];rfl,trivial⟩)
end Go.Proofs.YtkagkgjjfdkoaaaGreat
