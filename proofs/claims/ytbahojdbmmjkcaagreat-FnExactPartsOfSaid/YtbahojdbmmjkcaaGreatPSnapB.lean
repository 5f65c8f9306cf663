import Derived.Test.YtbahojdbmmjkcaaGreatPWind
import Derived.Test.YtbahojdbmmjkcaaGreatPEnds
import Derived.Test.YtbahojdbmmjkcaaGreatPTo
import Derived.Test.YtbahojdbmmjkcaaGreatPSlc
set_option linter.unusedVariables false
set_option linter.unusedSimpArgs false
namespace Go.Proofs.YtbahojdbmmjkcaaGreat
open Go Go.RowKit
variable {A:Option Addr} {E:List Leg} {K:Act→World→Prop} {Rs:List Res} {args:Array Value} {b k n r:Nat} {env:List (Nat×Value)} {hot xs ys:List Pn} {rs rs0:List jK} {w:World} {x:Bool×(Option Addr×Nat)×Nat×Nat}
set_option maxRecDepth 100000
set_option maxHeartbeats 4000000
set_option maxHeartbeats 1000000 in
set_option maxRecDepth 100000 in
theorem uY (A B:Option Addr) (n m c d:Nat) (rs ss:List jK) (w:World) (h:Rings w A n rs) (h':Rings w B m ss) (ht: (total rs:Int)≤1048576) (ht': (total ss:Int)≤1048576) :
  Calls Tryz.prog 103 #[qK A n c,qK B m d] w fun e w'=>e= .returned (.bool (decide (rs=ss)))∧Over w w':=by
 have hl:=Lib.hid h.1
 have hl':=Lib.hid h'.1
 have hn: (n:Int)≤1048576:=by have:=hl.out;unfold total at ht;omega
 have hm: (m:Int)≤1048576:=by have:=hl'.out;unfold total at ht';omega
 have Ht:=Lib.hid (And.intro ht ht')
 clear ht ht'
 by_cases hnm:n=m
 ·subst hnm
  have hq: ((n:Int) != (n:Int)) =false:=by simp
  go_enter Tryz.func103,Tryz.ntmps103
  go_wp2
  go_loopw [5] (fun i wr=>∃k:Nat,k≤n∧i= .int .i64 k∧Over ((w.alloc (.cells #[.slice A n c] 26)).alloc (.cells #[.slice B n d] 26)) wr∧Hid (∀j,j<k→rg rs j=rg ss j)) (fun i _=>n- (intOf i).toNat)
  case atStart=>exact⟨0,jgw _,rfl,Over.refl _,fun j hj=>absurd hj Om⟩
  case round=>
   rename_i wr
   obtain ⟨k,hk,rfl,hb,hall⟩ :=hrel
   have hO:Over w wr:= (Over.alloc_ (Over.alloc _ _) _).trans hb
   have x1:wr.cell? ⟨w.heap.size,0,none⟩ =some (.slice A n c) :=by
    rw [(Jt hb).1 _ _ (by simp;omega),(Jt (Over.alloc _ _)).1 _ _ (by simp)]
    exact YJ _ _ _ _
   have x2:wr.cell? ⟨w.heap.size+1,0,none⟩ =some (.slice B n d) :=by
    rw [(Jt hb).1 _ _ (by simp)]
    simp
   have z2:w.heap.size+1<wr.heap.size:=jgA (by simp) hb.size
   have z1:w.heap.size<wr.heap.size:=by omega
   by_cases hlt:k<n
   ·obtain ⟨b,o,Ak,ck,rfl,hbB,hcell,hpts,hmax⟩ := (h.over hO).at_ hlt
    obtain ⟨b',o',Ak',ck',rfl,hbB',hcell',hpts',_⟩ := (h'.over hO).at_ hlt
    have hr: ((rg rs k).length:Int)≤1048576:=by have:=Ht.out;have:=KL rs (k:=k) (by rw [hl.out];exact hlt);omega
    have hr': ((rg ss k).length:Int)≤1048576:=by have:=Ht.out;have:=KL ss (k:=k) (by rw [hl'.out];exact hlt);omega
    have Hb:=Lib.hid hb
    have HP:=Lib.hid (And.intro hpts hpts')
    clear h h' hb hO hmax hpts hpts'
    by_cases he:rg rs k=rg ss k
    ·have hd:decide (rg rs k=rg ss k) =true:=decide_eq_true he
     have hs:Hid (∀j,j<k+1→rg rs j=rg ss j) :=by
      intro j hj
      by_cases hjk:j=k
      ·subst hjk;exact he
      ·exact hall.out j Om
     have Hd:=Lib.hid hd
     clear hd he hall
     go_wp2
     refine Q0 (B:=ob _) (Over.refl _) Kr (by simp only [jhk,jgD,jgY,Nat.reduceAdd];rfl) (fun hBW=> ?_);refine i8 0 ?_;refine i8 1 ?_;refine i8 2 ?_;refine i8 3 ?_;refine i8 4 ?_;refine i8 5 ?_;refine i8 6 ?_;refine i8 7 ?_;refine i8 8 ?_;refine i8 9 ?_;refine i8 10 ?_;refine i8 11 ?_;refine w9 12 (hy:=fun wx hS=>by(go_simp;refine(GP _ _ _ _ _ _ (rg rs k) (rg ss k) _ (HP.out.1.over hS) (HP.out.2.over hS) hr hr').mono ?_;rw [Hd.out];rintro e w1 ⟨rfl,hb1⟩;exact⟨rfl,hb1⟩)) (h:= ?_)
     simp only [Act.put,qE,jP,jQ]
     refine i8 13 ?_
     refine QZ Kr (fun w2 h2=> ?_) _
     try clear hBW
     have HO:=Lib.hid (Hb.out.trans h2)
     clear h2
     go_wp2
     go_roundw
     case rel=>exact⟨k+1,by omega,by go_num,HO.out,hs⟩
     case measure=>simp [intOf];omega
    ·have hd:decide (rg rs k=rg ss k) =false:=decide_eq_false he
     have hq:Hid (decide (rs=ss) =false) :=decide_eq_false (fun e=>he (by rw [e]))
     have Hd:=Lib.hid hd
     clear hd he hall
     go_wp2
     refine Q0 (B:=ob _) (Over.refl _) Kr (by simp only [jhk,jgD,jgY,Nat.reduceAdd];rfl) (fun hBW=> ?_);refine i8 0 ?_;refine i8 1 ?_;refine i8 2 ?_;refine i8 3 ?_;refine i8 4 ?_;refine i8 5 ?_;refine i8 6 ?_;refine i8 7 ?_;refine i8 8 ?_;refine i8 9 ?_;refine i8 10 ?_;refine i8 11 ?_;refine w9 12 (hy:=fun wx hS=>by(go_simp;refine(GP _ _ _ _ _ _ (rg rs k) (rg ss k) _ (HP.out.1.over hS) (HP.out.2.over hS) hr hr').mono ?_;rw [Hd.out];rintro e w1 ⟨rfl,hb1⟩;exact⟨rfl,hb1⟩)) (h:= ?_)
     simp only [Act.put,qE,jP,jQ]
     refine i8 13 ?_
     refine QZ Kr (fun w2 h2=> ?_) _
     try clear hBW
     have HO:=Lib.hid ((Over.alloc_ (Over.alloc _ _) _).trans (Hb.out.trans h2))
     clear h2
     go_wp2
     go_ret
     exact⟨by rw [hq.out];rfl,HO.out⟩
   ·have hkn:k=n:=by omega
    have hq:Hid (decide (rs=ss) =true) :=decide_eq_true (CS (by rw [hl.out,hl'.out]) (fun j hj=>hall.out j (by rw [hl.out] at hj;omega)))
    clear h h' hall hl hl' hb
    go_wp2
    go_ret
    exact⟨by rw [hq.out];rfl,hO⟩
 ·have hq: ((n:Int) != (m:Int)) =true:=by simp;omega
  have hv:Hid (decide (rs=ss) =false) :=decide_eq_false (fun e=>hnm (by rw [←hl.out,←hl'.out,e]))
  clear h h' hl hl'
  go_enter Tryz.func103,Tryz.ntmps103
  go_wp2
  go_ret
  exact⟨by rw [hv.out];rfl,ov9⟩
theorem jd5 {ls:List Leg} {j:Nat} (h:j<ls.length) : ((ls.map lA).take (j+1)).flatMap Ju= ((ls.map lA).take j).flatMap Ju++ [.int .i64 (lg ls j).ax, .int .i64 (lg ls j).ay] :=by
 rw [jgE (by simpa using h),jgG]
 simp [Ju,lA,lg,List.getD,h]
theorem ZF (hr:JW rs=true) {r:jK} (h:r∈KY rs k) :r.length≤400:=by
 obtain ⟨_,q,hq,rfl⟩ :=Zt h
 obtain ⟨i,hi,e⟩ :=jg1 hq
 have:=qS (vN hr hi)
 rw [Vm hi] at e
 rw [e] at this
 have:=Ri q q.length
 unfold KT
 omega
theorem jf3 {a:Nat} (h: (px xs a==px ys b&&py xs a==py ys b) =false) :pt xs a≠pt ys b:=fun e=>by
 injection e with e1 e2
 simp [e1,e2] at h
theorem jer {a:Nat} (h: (px xs a==px ys b&&py xs a==py ys b) =true) :pt xs a=pt ys b:=by
 simp at h
 exact Prod.ext h.1 h.2
theorem ya {w':World} (hs:St ⟨w,[]⟩ Rs w') {kr kp B T:Nat} {l:List Pc} {x:Option Addr×Nat} (hr:Rs[kr]? =some (JQ B T 1 n (l.map Pc.val) x)) (hp:Rs[kp]? =some (ke l)) (hne:kr≠kp) (_e:w=w) (hl:l.length=n) (hrs:l.map (·.xs) =rs) (hm:∀j,j<rs.length→(rg rs j).length≤1099511627776) :OwnG w.heap.size w'.heap.size w' x.1 n rs:=by
 have hrow:w'.ownsRow B T 1 (.slice x.1 n x.2) n (l.map Pc.val) := (hs.all kr _ hr).1
 have hX:=hs.all kp _ hp
 rcases hrow.2 with⟨_,e⟩ |⟨g,cap,cur,e,hb,hg,hcap,hmax,hsz,htk⟩
 ·subst e
  obtain rfl:l= [] :=jgX hl
  subst hrs
  exact OwnG.nil _
 ·injection e with e1 e2 e3
  rw [e1]
  have hF: (JQ B T 1 n (l.map Pc.val) x).F g:=by show Value.ownBlock (.slice x.1 n x.2) =some g;rw [e1];rfl
  have hown:=Ld (lo:=w.heap.size) (o:=0) hg (((hs.all kr _ hr).2.1 g hF).elim id (fun h=>by cases h)) (fun j hj=> ?_) hX.1 (fun h=>hs.apart kr kp _ _ hne hr hp g hF h) (fun q hq=> (hX.2.1 q hq).elim id (fun h=>by cases h)) (fun e he=> ?_)
  ·rw [hrs,hl] at hown
   exact hown
  ·have hc:cur[j]? = (l.map Pc.val)[j]? :=by rw [←htk,List.getElem?_take,if_pos Om];simp
   rw [jgT,hc]
   simp [hj]
  ·have:e.xs∈rs:=hrs▸jgO.2 ⟨e,he,rfl⟩
   obtain ⟨j,hj,e2⟩ :=jg1 this
   have:=hm j hj
   rw [←Vm hj,e2] at this
   omega
theorem GL (bb oo:Nat) (A:Option Addr) (n c:Nat) (rs:List jK) (w:World) (hcell0:w.cell? ⟨bb,oo,none⟩ =some (.slice A n c)) (hbb:bb<w.heap.size) (h:Rings w A n rs) (hr:JW rs=true) :
  Calls Tryz.prog 49 #[.pointer (some ⟨bb,oo,none⟩)] w fun e w'=>∃A' c',e= .returned (qK A' (qb rs).length c')∧OwnG w.heap.size w'.heap.size w' A' (qb rs).length (qb rs)∧Over w w':=by
 have hl:=h.1
 have hn40:=vO hr
 refine jT (m:=52) (Tryz.func49) J J (lb J) ?_;refine S3 ?_;refine aL (fun b1=> ?_);refine N3 ?_;refine a9 (J0 J J (qq)) ?_;refine S1 ?_;refine aL (fun b2=> ?_);refine N3 ?_;refine kh (T:=74) (s:=1) ?_;refine t9 ?_;refine vu ?_;refine t9 ?_;refine S6 ?_;refine JN (X:=Nat×(Option Addr×Nat)×List Pc) (fun x=>x.1≤n∧x.2.2.map (·.xs) =KY rs x.1) (fun x=>n- x.1) (fun x=> [(4, .int .i64 (x.1:Int))]) (kK [0,2,3]) (fun x=> [.cel b1 26 [.slice none 0 0], .cel b2 26 [.slice x.2.1.1 x.2.2.length x.2.1.2],JQ (Bs.N ⟨w,[]⟩) 74 1 x.2.2.length (x.2.2.map Pc.val) x.2.1,ke x.2.2]) (0,(none,0),[]) (⟨jgw _,J⟩) ⟨J,sz⟩ (fun _ h=>h) ?_
 intro⟨k,⟨rA,rc⟩,l⟩ hx L hL1
 refine v9 ?_;refine r9 ?_
 obtain ⟨hk,hmp⟩ :k≤n∧l.map (·.xs) =KY rs k:=hx
 have hlk:l.length= (KY rs k).length:= (by have:=congrArg List.length hmp;rwa [jgF] at this)
 have hlen:=Zs rs k
 refine S7 ?_;refine a9 (jl J J Jz (Qn hcell0 hbb)) ?_;refine S3 ?_;refine cZ (fun c1=> ?_) (fun c1=> ?_)
 ·have hlt:k<n:=Om
  obtain ⟨eb,eo,Ak,ck,rfl,hbB,hcell,hpts,hmax⟩ :=h.at_ hlt
  have hpos:=qS (vN hr (show k<rs.length by omega))
  obtain ⟨E,hE⟩ :∃E,E=Jy (rg rs k) :=⟨_,rfl⟩
  have hEl:E.length≤400:= (by rw [hE];have:=Ki (rg rs k) (rg rs k).length;unfold Jy;omega)
  have hkp:KT (rg rs k) =E.map lA:= (by rw [hE];rfl)
  have hkl: (KT (rg rs k)).length=E.length:= (by rw [hkp,jgF])
  refine S9 ?_;refine a9 (jl J J Jz (Qn hcell0 hbb)) ?_;refine S3 ?_;refine JR WD (v:=fun x=> .slice x.1 _ x.2) (r:=fun x=>JQ 0 147 4 _ _ x) (H:=fun _=>True) J J J (lb J) (fun w1 hs=>qJ ((un eb (eo+k*1) Ak _ ck (rg rs k) w1 (by rw [jhn];exact qP hcell hbB w1 hs) (jgA hbB hs.fin.size) (hpts.over hs.fin) Om).mono fun e w' ⟨v,h1,_,h2,h3⟩ =>⟨v,h1,h2,h3⟩)) ?_
  rintro⟨eA,ec⟩ -
  refine N4 ?_;refine a9 (J0 J J (wI)) ?_;refine S1 ?_;refine aL (fun b3=> ?_);refine N3 ?_;refine kh (T:=28) (s:=2) ?_;refine t9 ?_
  rw [←hE]
  refine S6 ?_;refine JN (X:=Nat×Option Addr×Nat) (fun y=>y.1≤E.length) (fun y=>E.length- y.1) (fun y=> [(7, .int .i64 (y.1:Int))]) (kK [0,2,3,4,9,10,11,12,13,14,15,18,19,20,21,22,23,24,5,25,6]) (fun y=> [.cel b1 26 [.slice none 0 0], .cel b2 26 [.slice rA l.length rc],JQ (Bs.N ⟨w,[]⟩) 74 1 l.length (l.map Pc.val) (rA,rc),ke l,JQ 0 147 4 E.length (E.flatMap jU) (eA,ec), .cel b3 74 [.slice y.2.1 y.1 y.2.2],JQ (Bs.N ⟨w,[]⟩) 28 2 y.1 (((E.map lA).take y.1).flatMap Ju) y.2]) (0,none,0) (jgw _) ⟨J,sz⟩ (fun _ h=>h) ?_
  intro⟨j,qA,qc⟩ hy L hL2
  refine v9 ?_;refine r9 ?_
  have hj:j≤E.length:=hy
  refine S8 ?_;refine cZ (fun c2=> ?_) (fun c2=> ?_)
  ·have hjl:j<E.length:=Om
   refine Q1 (fun w hs=>KX (k:=4) J hs Om) ?_
   rintro⟨eg,rfl⟩
   refine S5 ?_;refine JS 8 ?_;refine dV 0 [1] ?_;refine dK 1 ?_;refine dV 2 [4,5,6,7] ?_;refine dV 3 [4,5,6,7] ?_;refine dV 4 [5,6,7] ?_;refine dV 5 [6,7] ?_;refine d9 6 J [7] (u9 J) (jk J J jj J (qZ (b:=eg) (o:=0) (QO (k:=4) (x:= (some ⟨eg,0,none⟩,ec)) (ls:=E) J J) hjl)) ?_;refine J8 (i:=7) J Dc Kr J ?_;refine Jw J J (qX J) J (lb J) (fun b4=> ?_);refine n9 ?_;refine JU (u9 J) ?_;refine KB J Kr J ?_;refine JV (k:=6) J jB jH Dc J Dc J J J (fun w' hs=>qR hs (k:=7) J J) (by simp [Value.oneCell']) (by unfold maxLen;omega) Om (jgx _) (fun r1=> ?_);refine n9 ?_;refine QH 11 [5] ?_;refine dK 9 ?_;refine J8 (i:=10) J Dc Kr J ?_;refine S1 ?_;refine JU (uw [5] J) ?_;refine JI Kr ?_;refine S7 ?_
   exact j4 hL2 ((j+1,r1)) ((show j+1≤E.length by omega)) (by simp only;omega) ⟨vi Om,sz⟩ (fun _ h=>h.upto ⟨J,J,J,J,J,J,by rw [jd5 hjl],trivial⟩)
  ·have hje:j=E.length:=Om
   subst hje
   rw [jgR (by rw [jgF];omega),←hkp]
   refine S11 ?_;refine cZ (fun c3=> ?_) (fun c3=> ?_)
   ·have hpl:0< (KT (rg rs k)).length:=Om
    refine S5 ?_;refine Jw J J (qp J) J (lb J) (fun b5=> ?_);refine N1 ?_;refine JV (k:=2) J jw Js Dc J Dc J J J (fun w' hs=>qR hs (k:=7) J J) (by simp [Value.oneCell']) (by unfold maxLen;omega) Om (jgx _) (fun r2=> ?_);refine N4 ?_;refine y4 6 J hkl (fun clo chi=> ?_);refine t9 ?_;refine KU 3 6 J J Dc J ?_;refine t9 ?_;refine S7 ?_
    exact j4 hL1 ((k+1,r2,l++ [⟨KT (rg rs k),qA,qc,clo,chi⟩])) (⟨show k+1≤n by omega,by rw [jgS,hmp,yt Om hpl];rfl⟩) (by simp only;omega) ⟨vi Om,sz⟩ (fun _ h=> (h.picks [0,1,2,3] Dc).upto ⟨J,by rw [jgv];rfl,by rw [jgS,jgv];simp [Pc.val,hkl],(K9 _ _).symm,trivial⟩)
   ·refine S8 ?_
    exact j4 hL1 ((k+1,(rA,rc),l)) (⟨show k+1≤n by omega,by rw [hmp,zv Om Om]⟩) (by simp only;omega) ⟨vi Om,sz⟩ (u9 J)
 ·have hkn:k=rs.length:=Om
  subst hkn
  refine S12 ?_;refine jL J (qh (k:=0) J jI J J) ?_
  intro w' hs
  have hrs:l.map (·.xs) =qb rs:=hmp
  have hbl: (qb rs).length=l.length:=hlk.symm
  exact⟨rA,rc,by rw [hbl],by rw [hbl];exact ya hs (kr:=2) (kp:=3) rfl rfl Dc rfl rfl hrs (fun j hj=>by have:=ZF hr (jgH hj);rw [Vm hj] at this;omega),hs.fin⟩
theorem y6 (A:Option Addr) (n c:Nat) (rs:List jK) (w:World) (h:Rings w A n rs) (hr:JW rs=true) :
  Calls Tryz.prog 54 #[qK A n c] w fun e w'=>∃A' c',e= .returned (qK A' (qb rs).length c')∧OwnG w.heap.size w'.heap.size w' A' (qb rs).length (qb rs)∧Over w w':=by
 have hl:=h.1
 have hn40:=vO hr
 refine jT (m:=53) (Tryz.func54) J J (lb J) ?_;refine S3 ?_;refine aX (fun b1=> ?_);refine N1 ?_;refine aL (fun b2=> ?_);refine N4 ?_;refine aL (fun b3=> ?_);refine N1 ?_;refine kh (T:=74) (s:=1) ?_;refine t9 ?_;refine vu ?_;refine t9 ?_;refine S9 ?_;refine JN (X:=Nat×(Option Addr×Nat)×List Pc) (fun x=>x.1≤n∧x.2.2.map (·.xs) =KY rs x.1) (fun x=>n- x.1) (fun x=> [(12, .int .i64 (x.1:Int))]) (kK [2,3,10,11]) (fun x=> [.cel b1 26 [.slice A n c], .cel b2 26 [.slice none 0 0], .cel b3 26 [.slice x.2.1.1 x.2.2.length x.2.1.2],JQ (Bs.N ⟨w,[]⟩) 74 1 x.2.2.length (x.2.2.map Pc.val) x.2.1,ke x.2.2]) (0,(none,0),[]) (⟨jgw _,J⟩) ⟨J,sz⟩ (fun _ h=>h) ?_
 intro⟨k,⟨rA,rc⟩,l⟩ hx L hL1
 refine v9 ?_;refine r9 ?_
 obtain ⟨hk,hmp⟩ :k≤n∧l.map (·.xs) =KY rs k:=hx
 have hlk:l.length= (KY rs k).length:= (by have:=congrArg List.length hmp;rwa [jgF] at this)
 have hlen:=Zs rs k
 refine S5 ?_;refine cZ (fun c1=> ?_) (fun c1=> ?_)
 ·have hlt:k<n:=Om
  obtain ⟨eb,eo,Ak,ck,rfl,hbB,hcell,hpts,hmax⟩ :=h.at_ hlt
  have hpos:=qS (vN hr (show k<rs.length by omega))
  obtain ⟨pb,po,rfl,_⟩ :=hpts.2 hpos.1
  obtain ⟨xs,hxs⟩ :∃xs,xs=rg rs k:=⟨_,rfl⟩
  rw [←hxs] at hpts hpos hcell
  have hkl:=fun j=>Ri xs j
  refine S7 ?_;refine a9 (jk J J JB J (uW hcell hbB)) ?_;refine S1 ?_;refine aL (fun b4=> ?_);refine N6 ?_;refine kh (T:=28) (s:=2) ?_;refine N10 ?_;refine JN (X:=Nat×Option Addr×Nat) (fun y=>y.1≤xs.length) (fun y=>xs.length- y.1) (fun y=> [(6, .slice y.2.1 (wL xs y.1).length y.2.2),(19, .int .i64 (y.1:Int))]) (kK [2,3,10,11,12,13,14,15,5,16,17,18]) (fun y=> [.cel b1 26 [.slice (some ⟨eb,eo,none⟩) n c], .cel b2 26 [.slice none 0 0], .cel b3 26 [.slice rA l.length rc],JQ (Bs.N ⟨w,[]⟩) 74 1 l.length (l.map Pc.val) (rA,rc),ke l, .cel b4 74 [.slice (some ⟨pb,po,none⟩) xs.length ck],JQ (Bs.N ⟨w,[]⟩) 28 2 (wL xs y.1).length ((wL xs y.1).flatMap Ju) y.2]) (0,none,0) (jgw _) ⟨J,sz⟩ (fun _ h=>h) ?_
  intro⟨j,qA,qc⟩ hy L hL2
  refine v9 ?_;refine r9 ?_
  have hj:j≤xs.length:=hy
  have hkj:=hkl j
  refine S5 ?_;refine cZ (fun c2=> ?_) (fun c2=> ?_)
  ·have hjl:j<xs.length:=Om
   have hnx:nx xs j<xs.length:=Nat.mod_lt _ Om
   refine S8 ?_;refine a9 (jk J J jj J (wz (b:=pb) (o:=po) hpts hjl)) ?_;refine S1 ?_;refine aL (fun b5=> ?_);refine N6 ?_;refine JS 12 ?_;refine dK 0 ?_;refine dK 1 ?_;refine dK 2 ?_;refine dK 3 ?_;refine dK 4 ?_;refine dK 5 ?_;refine dK 6 ?_;refine dK 7 ?_;refine dZ 8 J ((FB J J J Om Om Om).as (congrArg _ (jdt (xs:=xs) J j))) ?_;refine dZ 9 J (jG (j:=nx xs j) J J J jB Om) ?_;refine dZ 10 J (jk J J jj J (wz (b:=pb) (o:=po) hpts hnx)) ?_;refine dK 11 ?_;refine JI Kr ?_;refine S1 ?_;refine cZ (fun c3=> ?_) (fun c3=> ?_)
   ·have hne:pt xs j≠pt xs (nx xs j) :=jf3 c3
    refine S4 ?_;refine Jw J J (qX J) J (lb J) (fun b6=> ?_);refine N1 ?_;refine JV (k:=6) J jB jH Dc J Dc J J J (fun w' hs=>qR hs (k:=8) J J) (by simp [Value.oneCell']) (by unfold maxLen;omega) Om (jgx _) (fun r1=> ?_);refine N8 ?_
    exact j4 hL2 ((j+1,r1)) ((show j+1≤xs.length by omega)) (by simp only;omega) ⟨(by rw [L3 hne,jgv];rfl),vi Om,sz⟩ (fun _ h=>h.upto ⟨J,J,J,J,J,J,by rw [L3 hne,jgv,jgG];rfl,trivial⟩)
   ·refine S7 ?_
    exact j4 hL2 ((j+1,qA,qc)) ((show j+1≤xs.length by omega)) (by simp only;omega) ⟨(by rw [Bv (jer c3)];rfl),vi Om,sz⟩ (fun _ h=>h.upto ⟨J,J,J,J,J,J,by rw [Bv (jer c3)],trivial⟩)
  ·have hje:j=xs.length:=Om
   subst hje
   rw [show wL xs xs.length=KT xs from rfl]
   refine S11 ?_;refine cZ (fun c4=> ?_) (fun c4=> ?_)
   ·have hpl:0< (KT xs).length:=Om
    refine S4 ?_;refine a9 (J0 J J (kV J)) ?_;refine S1 ?_;refine Jw J J (qp J) J (lb J) (fun b7=> ?_);refine N1 ?_;refine JV (k:=3) J jw Js Dc J Dc J J J (fun w' hs=>qR hs (k:=7) J J) (by simp [Value.oneCell']) (by unfold maxLen;omega) Om (jgx _) (fun r2=> ?_);refine N4 ?_;refine y4 6 J J (fun clo chi=> ?_);refine t9 ?_;refine KU 4 6 J J Dc J ?_;refine t9 ?_;refine S6 ?_
    exact j4 hL1 ((k+1,r2,l++ [⟨KT xs,qA,qc,clo,chi⟩])) (⟨show k+1≤n by omega,by rw [jgS,hmp,yt Om (hxs▸hpl),hxs];rfl⟩) (by simp only;omega) ⟨vi Om,sz⟩ (fun _ h=> (h.picks [0,1,2,3,4] Dc).upto ⟨J,J,by rw [jgv];rfl,by rw [jgS,jgv];rfl,(K9 _ _).symm,trivial⟩)
   ·refine S7 ?_
    exact j4 hL1 ((k+1,(rA,rc),l)) (⟨show k+1≤n by omega,by rw [hmp,zv Om (by rw [←hxs];omega)]⟩) (by simp only;omega) ⟨vi Om,sz⟩ (u9 J)
 ·have hkn:k=rs.length:=Om
  subst hkn
  refine S12 ?_;refine jL J (qh (k:=1) J jI J J) ?_
  intro w' hs
  have hrs:l.map (·.xs) =qb rs:=hmp
  have hbl: (qb rs).length=l.length:=hlk.symm
  exact⟨rA,rc,by rw [hbl],by rw [hbl];exact ya hs (kr:=3) (kp:=4) rfl rfl Dc rfl rfl hrs (fun j hj=>by have:=ZF hr (jgH hj);rw [Vm hj] at this;omega),hs.fin⟩
def Ud (hot:List Pn) (E:List Leg) (k:Nat) :List Pn:= (E.take k).flatMap fun l=>kt hot (lA l,lB l)
theorem Gr (h:k<E.length) :Ud hot E (k+1) =Ud hot E k++kt hot (lA (lg E k),lB (lg E k)) :=by
 unfold Ud
 rw [jgE h,jgG]
 simp [lg,List.getD,h]
theorem CH (hot:List Pn) (e:Pn×Pn) : (kt hot e).length≤hot.length:=by
 unfold kt
 rw [List.length_dropLast,W3]
 have:=Xo e.1 e.2 hot
 omega
theorem Xj {hot:List Pn} {E:List Leg} {m:Nat} (hm:hot.length≤m) :∀k,k≤E.length→(Ud hot E k).length≤k*m
 | 0,_=>by simp [Ud]
 | k+1,hk=>by
  have:=Xj (E:=E) hm k Om
  have:=CH hot (lA (lg E k),lB (lg E k))
  rw [Gr Om,jgv,Nat.succ_mul]
  omega
theorem MP (hot xs:List Pn) :Km hot xs=Ud hot (Jy xs) (Jy xs).length:=by unfold Km Ud;rw [jhf]
def onHot (hot:List Pn) (E:List Leg) :Prop:=∀l∈E,lA l≠lB l∧lA l∈hot∧lB l∈hot
theorem onHot.at_ (h:onHot hot E) (hk:k<E.length) :lA (lg E k)≠lB (lg E k)∧lA (lg E k)∈hot∧lB (lg E k)∈hot:=by
 have:=h E[k] (jgH hk)
 have e:lg E k=E[k] :=by simp [lg,List.getD,hk]
 rw [e]
 exact this
theorem jdo {P:Program} {f:FuncId} {w1:World} {T s:Nat} {xs:List Value} {b:Bool} (h:Calls P f args w1 fun e w'=>∃v,e= .returned (.tuple #[.agg #[v], .bool b])∧w'.ownsRow w1.heap.size T s v n xs∧Over w1 w') :
  Calls P f args w1 fun e w'=>∃x:Option Addr×Nat,e= .returned (.tuple #[.agg #[.slice x.1 n x.2], .bool b])∧Over w1 w'∧(JQ 0 T s n xs x).P w'∧(∀b,(JQ 0 T s n xs x).F b→w1.heap.size≤b)∧(JQ 0 T s n xs x).B=0∧True:=by
 refine h.mono ?_
 rintro e w' ⟨v,rfl,hr,hO⟩
 obtain ⟨x,rfl⟩ :=WL hr
 exact⟨x,rfl,hO,Vy hr (jgw _),fun b hb=> (hr.lt b hb).1,sz⟩
theorem Rn (bb oo:Nat) (A:Option Addr) (n c:Nat) (xs:List Pn) (B:Option Addr) (m d:Nat) (hot:List Pn) (w:World) (hcell:w.cell? ⟨bb,oo,none⟩ =some (.slice A n c)) (hbb:bb<w.heap.size) (h:Pts w A n xs) (hn: (n:Int)≤1048577) (hh:Pts w B m hot) (hm:m≤1048576) (hok:∀p∈hot,wF p.1 p.2=true) (hE:onHot hot (Jy xs)) :
  Calls Tryz.prog 155 #[.pointer (some ⟨bb,oo,none⟩), .slice B m d] w fun e w'=>∃v,e= .returned (.tuple #[.agg #[v], .bool (decide (0< (Jy xs).length))])∧w'.ownsRow w.heap.size 28 2 v (Km hot xs).length ((Km hot xs).flatMap Ju)∧Over w w':=by
 have hl:=h.1
 have hhl:=hh.1
 obtain ⟨E,hEe⟩ :∃E,E=Jy xs:=⟨_,rfl⟩
 have hEl:E.length≤1048577:=by rw [hEe];have:=Ki xs xs.length;unfold Jy;omega
 rw [MP,←hEe]
 rw [←hEe] at hE
 refine jT (m:=44) (Tryz.func155) J J (lb J) ?_;refine S3 ?_;refine aL (fun b1=> ?_);refine N4 ?_;refine a9 (J0 J J (wI)) ?_;refine S1 ?_;refine aL (fun b2=> ?_);refine N3 ?_;refine kh (T:=28) (s:=2) ?_;refine t9 ?_;refine S4 ?_;refine JR WD (v:=fun x=> .slice x.1 _ x.2) (r:=fun x=>JQ 0 147 4 _ _ x) (H:=fun _=>True) J J J (lb J) (fun w1 hs=>qJ ((un bb oo A n c xs w1 (qP hcell hbb w1 hs) (jgA hbb hs.fin.size) (h.over hs.fin) hn).mono fun e w' ⟨v,h1,_,h2,h3⟩ =>⟨v,h1,h2,h3⟩)) ?_
 rintro⟨eA,ec⟩ -
 refine N7 ?_
 rw [←hEe]
 refine S1 ?_;refine JN (X:=Nat×Option Addr×Nat) (fun x=>x.1≤E.length) (fun x=>E.length- x.1) (fun x=> [(8, .int .i64 (x.1:Int))]) (kK [1,4,5,6,7]) (fun x=> [.cel b1 74 [.slice none 0 0], .cel b2 74 [.slice x.2.1 (Ud hot E x.1).length x.2.2],JQ (Bs.N ⟨w,[]⟩) 28 2 (Ud hot E x.1).length ((Ud hot E x.1).flatMap Ju) x.2,JQ 0 147 4 E.length (E.flatMap jU) (eA,ec)]) (0,none,0) (jgw _) ⟨J,sz⟩ (fun _ h=>h) ?_
 intro⟨k,rA,rc⟩ hx L hL1
 refine v9 ?_;refine r9 ?_
 have hk:k≤E.length:=hx
 have hsn:=Xj (hot:=hot) (E:=E) (m:=1048576) Om k hk
 refine S8 ?_;refine cZ (fun c1=> ?_) (fun c1=> ?_)
 ·have hlt:k<E.length:=Om
  obtain ⟨g1',g2',g3'⟩ :=hE.at_ hlt
  obtain ⟨mid,hmid⟩ :=Gf g1' g2' g3'
  have hpl:0< (Qi (lA (lg E k)) (lB (lg E k)) hot).length:= (by rw [hmid];simp)
  have hpm: (Qi (lA (lg E k)) (lB (lg E k)) hot).length≤1048576:= (by rw [W3];have:=Xo (lA (lg E k)) (lB (lg E k)) hot;omega)
  refine Q1 (fun w hs=>KX (k:=3) J hs Om) ?_
  rintro⟨eg,rfl⟩
  refine S6 ?_;refine JS 13 ?_;refine dK 0 ?_;refine dK 1 ?_;refine dK 2 ?_;refine dK 3 ?_;refine dZ 4 J (jk J J jj J (qZ (b:=eg) (o:=0) (QO (k:=3) (x:= (some ⟨eg,0,none⟩,ec)) (ls:=E) J J) hlt)) ?_;refine dK 5 ?_;refine dK 6 ?_;refine dK 7 ?_;refine dK 8 ?_;refine dZ 9 J (jk J J jj J (qO (b:=eg) (o:=0) (QO (k:=3) (x:= (some ⟨eg,0,none⟩,ec)) (ls:=E) J J) hlt)) ?_;refine dK 10 ?_;refine J8 (i:=11) J Dc Kr J ?_;refine JR HJ (v:=fun x:Option Addr×Nat=> .slice x.1 (Qi (lA (lg E k)) (lB (lg E k)) hot).length x.2) (r:=fun x=>JQ 0 28 2 (Qi (lA (lg E k)) (lB (lg E k)) hot).length ((Qi (lA (lg E k)) (lB (lg E k)) hot).flatMap Ju) x) (H:=fun _=>True) J J J (lb J) (fun w1 hs=>qJ (Rl (lA (lg E k)) (lB (lg E k)) B m d hot w1 (hh.over hs.fin) (hok _ g2') (hok _ g3') hok hm)) ?_
  rintro⟨pA,pc⟩ -
  refine n9 ?_;refine WP (u9 J) ?_;refine dK 12 ?_;refine JI Kr ?_;refine S1 ?_;refine Q1 (fun w hs=>KX (k:=4) J hs hpl) ?_
  rintro⟨pg,rfl⟩
  refine Q1 (fun w hs=>W8 (hs.all 4 _ J).1) ?_
  intro hcap
  have hst:Ud hot E (k+1) =Ud hot E k++ (Qi (lA (lg E k)) (lB (lg E k)) hot).take ((Qi (lA (lg E k)) (lB (lg E k)) hot).length- 1) := (by rw [Gr hlt];unfold kt;rw [List.dropLast_eq_take])
  have hstl: (Ud hot E (k+1)).length= (Ud hot E k).length+ ((Qi (lA (lg E k)) (lB (lg E k)) hot).length- 1) := (by rw [hst,jgv,jgJ];omega)
  refine S1 ?_;refine JS 7 ?_;refine dV 0 [1] ?_;refine dK 1 ?_;refine dV 2 [6] ?_;refine dV 3 [4,5,6] ?_;refine dV 4 [5,6] ?_;refine d9 5 J [6] (u9 J) ((JL J J J Om Om).as (congrArg _ (show(((Qi (lA (lg E k)) (lB (lg E k)) hot).length:Int) - 1) = (((Qi (lA (lg E k)) (lB (lg E k)) hot).length- 1:Nat) :Int) by omega))) ?_;refine dZ 6 J ((kS J J J jB Om).as (w6 _ _ _ _ _)) ?_;refine KB J Kr J ?_;refine JV (k:=2) J jB jH Dc J Dc J J J (fun w' hs=>FO (WI (hs.all 4 _ J).1 J) Om) (Ve _) (by unfold maxLen;omega) Om (jgx _) (fun r1=> ?_);refine n9 ?_;refine QH 10 [1] ?_;refine dK 8 ?_;refine J8 (i:=9) J Dc Kr J ?_;refine S1 ?_;refine JU (uw [1] J) ?_;refine JI Kr ?_;refine S7 ?_
  exact j4 hL1 ((k+1,r1)) ((show k+1≤E.length by omega)) (by simp only;omega) ⟨vi Om,sz⟩ (fun _ h=> (h.picks [0,1,2,3] Dc).upto ⟨J,by rw [hstl],by rw [hstl,hst,jgG],sz⟩)
 ·have hkE:k=E.length:=Om
  subst hkE
  refine S16 ?_;refine qo J (qh (k:=0) J JB J J) (.tmp J) ?_
  intro w' hs
  have hr:=hs.all 2 _ rfl
  exact⟨_,by rw [show decide ((E.length:Int) >0) =decide (0<E.length) from decide_eq_decide.2 Om],KN hr.1 (fun b hb=> (hr.2.1 b hb).elim id (fun h=>by cases h)),hs.fin⟩
theorem bareG.on (h:bareG hot rs) (hk:k<rs.length) :onHot hot (Jy (rg rs k))∧0< (Jy (rg rs k)).length∧(Jy (rg rs k)).length= (rg rs k).length:=by
 obtain ⟨hb,hm⟩ :bare (rg rs k)∧∀p∈rg rs k,p∈hot:=by have:=h rs[k] (jgH hk);rwa [Vm hk] at this
 refine⟨fun l hl=> ?_,by rw [uH hb];exact hb.1,uH hb⟩
 rw [vW hb] at hl
 obtain ⟨d,hd,rfl⟩ :=jgO.1 hl
 exact Xc hb hm d hd
theorem zM (hx:xs.length≤400) (hm:hot.length≤1048576) : (Km hot xs).length≤419430400:=by
 rw [MP]
 have h1:=Ki xs xs.length
 have h2: (Jy xs).length≤400:=by unfold Jy;omega
 have:=Xj (hot:=hot) (E:=Jy xs) (m:=1048576) hm _ (jgx _)
 have h3: (Jy xs).length*1048576≤400*1048576:=Nat.mul_le_mul_right _ h2
 omega
theorem MI (h:k<rs.length) :rg (qY hot rs) k=Km hot (rg rs k) :=by simp [qY,rg,List.getD,h]
theorem vc (hot:List Pn) (rs:List jK) : (qY hot rs).length=rs.length:=by simp [qY]
theorem L7 (bb oo:Nat) (A:Option Addr) (n c:Nat) (rs:List jK) (B:Option Addr) (m d:Nat) (hot:List Pn) (w:World) (hcell0:w.cell? ⟨bb,oo,none⟩ =some (.slice A n c)) (hbb:bb<w.heap.size) (h:Rings w A n rs) (hr:JW rs=true) (hh:Pts w B m hot) (hm:m≤1048576) (hok:∀p∈hot,wF p.1 p.2=true) (hG:bareG hot rs) :
  Calls Tryz.prog 102 #[.pointer (some ⟨bb,oo,none⟩), .slice B m d] w fun e w'=>∃A' c',e= .returned (qK A' n c')∧OwnG w.heap.size w'.heap.size w' A' n (qY hot rs)∧Over w w':=by
 have hl:=h.1
 have hn40:=vO hr
 have hhl:=hh.1
 refine jT (m:=38) (Tryz.func102) J J (lb J) ?_;refine S3 ?_;refine aL (fun b1=> ?_);refine N3 ?_;refine a9 (J0 J J (qq)) ?_;refine S1 ?_;refine aL (fun b2=> ?_);refine N3 ?_;refine kh (T:=74) (s:=1) ?_;refine t9 ?_;refine vu ?_;refine t9 ?_;refine S6 ?_;refine JN (X:=Nat×(Option Addr×Nat)×List Pc) (fun x=>x.1≤n∧x.2.2.map (·.xs) = (qY hot rs).take x.1) (fun x=>n- x.1) (fun x=> [(6, .int .i64 (x.1:Int))]) (kK [0,1,4,5]) (fun x=> [.cel b1 26 [.slice none 0 0], .cel b2 26 [.slice x.2.1.1 x.1 x.2.1.2],JQ (Bs.N ⟨w,[]⟩) 74 1 x.1 (x.2.2.map Pc.val) x.2.1,ke x.2.2]) (0,(none,0),[]) (⟨jgw _,J⟩) ⟨J,sz⟩ (fun _ h=>h) ?_
 intro⟨k,⟨rA,rc⟩,l⟩ hx L hL1
 refine v9 ?_;refine r9 ?_
 obtain ⟨hk,hmp⟩ :k≤n∧l.map (·.xs) = (qY hot rs).take k:=hx
 have hlk:l.length=k:= (by have:=congrArg List.length hmp;rw [jgF,jgJ,vc] at this;omega)
 refine S7 ?_;refine a9 (jl J J Jz (Qn hcell0 hbb)) ?_;refine S3 ?_;refine cZ (fun c1=> ?_) (fun c1=> ?_)
 ·have hlt:k<n:=Om
  obtain ⟨eb,eo,Ak,ck,rfl,hbB,hcell,hpts,hmax⟩ :=h.at_ hlt
  have hpos:=qS (vN hr (show k<rs.length by omega))
  obtain ⟨ho1,ho2,ho3⟩ :=hG.on (show k<rs.length by omega)
  have hsl:=zM (hot:=hot) (xs:=rg rs k) Om Om
  refine S9 ?_;refine a9 (jl J J Jz (Qn hcell0 hbb)) ?_;refine S4 ?_;refine JR HL (v:=fun x:Option Addr×Nat=> .tuple #[.agg #[.slice x.1 (Km hot (rg rs k)).length x.2], .bool (decide (0< (Jy (rg rs k)).length))]) (r:=fun x=>JQ 0 28 2 _ _ x) (H:=fun _=>True) J J J (lb J) (fun w1 hs=>jdo (Rn eb (eo+k*1) Ak _ ck (rg rs k) B m d hot w1 (by rw [jhn];exact qP hcell hbB w1 hs) (jgA hbB hs.fin.size) (hpts.over hs.fin) Om (hh.over hs.fin) hm hok ho1)) ?_
  rintro⟨tA,tc⟩ -
  refine N4 ?_;refine aL (fun b3=> ?_);refine N8 ?_;refine Dw J ((decide_eq_true ho2)) ?_;refine S5 ?_;refine Jw J J (qp J) J (lb J) (fun b4=> ?_);refine N1 ?_;refine JV (k:=2) J jw Js Dc J Dc J J J (fun w' hs=>qR hs (k:=6) J J) (by simp [Value.oneCell']) (by unfold maxLen;omega) Om (jgx _) (fun r1=> ?_);refine N4 ?_;refine y4 4 J J (fun clo chi=> ?_);refine t9 ?_;refine KU 3 4 J J Dc J ?_;refine t9 ?_;refine S7 ?_
  exact j4 hL1 ((k+1,r1,l++ [⟨Km hot (rg rs k),tA,tc,clo,chi⟩])) (⟨show k+1≤n by omega,by rw [jgS,hmp,VA (by rw [vc];omega),MI Om];rfl⟩) (by simp only;omega) ⟨vi Om,sz⟩ (fun _ h=> (h.picks [0,1,2,3] Dc).upto ⟨J,J,by rw [jgS];rfl,(K9 _ _).symm,trivial⟩)
 ·have hkn:k=n:=Om
  subst hkn
  refine S12 ?_;refine jL J (qh (k:=0) J jI J J) ?_
  intro w' hs
  have hrs:l.map (·.xs) =qY hot rs:= (by rw [hmp,jgR (by rw [vc];omega)])
  exact⟨rA,rc,rfl,ya hs (kr:=2) (kp:=3) rfl rfl Dc rfl hlk hrs (fun j hj=>by rw [vc] at hj;rw [MI hj];have:=qS (vN hr hj);have:=zM (hot:=hot) (xs:=rg rs j) Om Om;omega),hs.fin⟩
def Xn (hot:List Pn) :Nat→List jK→Nat→Option (List jK×Nat)
 | 0,_,_=>none
 | f+1,rs,r=>if JW (qY hot rs) =false then none else if qY hot rs=rs then some (rs,r) else Xn hot f (qY hot rs) (r+1)
def M3 (hot:List Pn) (rs:List jK) :Option (List jK×Nat) :=Xn hot 402 rs 0
structure StabI (hot:List Pn) (rs0 rs:List jK) (r:Nat) :Prop where
 eq:M3 hot rs0=Xn hot (402- r) rs r
 reg:JW rs=true
 bare:bareG hot rs
 cnt:r+cnt rs0≤cnt rs
theorem FF (h:JW rs=true) (hb:bareG hot rs) :Go.Proofs.YtbahojdbmmjkcaaGreat.cnt rs≤400:=by
 rw [←xj fun r hr=> (hb r hr).1]
 simp [JW] at h
 omega
theorem StabI.start (h:JW rs=true) (hb:bareG hot rs) :StabI hot rs rs 0:=⟨rfl,h,hb,by omega⟩
theorem StabI.r_le (h:StabI hot rs0 rs r) :r≤400:=by
 have:=FF h.reg h.bare
 have:=h.cnt
 omega
theorem StabI.unf (h:StabI hot rs0 rs r) :M3 hot rs0=if JW (qY hot rs) =false then none else if qY hot rs=rs then some (rs,r) else Xn hot (402- (r+1)) (qY hot rs) (r+1) :=by
 have:=h.r_le
 rw [h.eq,show 402- r=402- (r+1) +1 by omega,Xn]
theorem StabI.full (h:StabI hot rs0 rs r) (hb:JW (qY hot rs) =false) :M3 hot rs0=none:=by rw [h.unf,if_pos hb]
theorem StabI.fin (h:StabI hot rs0 rs r) (he:qY hot rs=rs) :M3 hot rs0=some (rs,r) :=by
 rw [h.unf,if_neg (by rw [he,h.reg];decide),if_pos he]
theorem StabI.step (hnd:hot.Nodup) (h:StabI hot rs0 rs r) (hb:JW (qY hot rs) =true) (he:qY hot rs≠rs) :StabI hot rs0 (qY hot rs) (r+1)∧Go.Proofs.YtbahojdbmmjkcaaGreat.cnt rs<Go.Proofs.YtbahojdbmmjkcaaGreat.cnt (qY hot rs) :=by
 obtain ⟨g1,g2⟩ :=B8 hnd h.bare
 have hlt:Go.Proofs.YtbahojdbmmjkcaaGreat.cnt rs<Go.Proofs.YtbahojdbmmjkcaaGreat.cnt (qY hot rs) :=Nat.lt_of_le_of_ne g1 fun e=>he (g2 e.symm)
 refine⟨⟨?_,hb,h.bare.snap hnd,?_⟩,hlt⟩
 ·rw [h.unf,if_neg (by rw [hb];decide),if_neg he]
 ·have:=h.cnt;omega
def jcR (w:World) (n:Nat) (rs:List jK) (x:Bool×(Option Addr×Nat)×Nat×Nat) :Res:=
 if x.1=true then {F:=fun _=>False,P:=fun _=>Rings w x.2.1.1 n rs,low:=fun _ _ _ h=>h.elim,B:=0,dep:=fun _ _ h _ _=>h} else Q6 n rs x.2.2.1 x.2.2.2 x.2.1.1
theorem IR {w':World} (h: (jcR w n rs x).P w') (hO:Over w w') :Rings w' x.2.1.1 n rs:=by
 unfold jcR at h
 split at h
 ·exact(show Rings w x.2.1.1 n rs from h).over hO
 ·exact(WX h).rings
theorem jcy {m:Nat} {c:Nat} (h0:Rings w A n rs) (h:At m env ⟨w,[]⟩ (Rs++ [jcR w n rs (true,(A,c),0,0)]) K) :At m env ⟨w,[]⟩ Rs K:=
 fun a w1 hf hs=>h a w1 hf (hs.add (Over.refl _) (show Rings w A n rs from h0) (fun b hb=> (show False from hb).elim) ⟨jgw _,fun _ _=>jgw _⟩)
theorem jfr {o:Nat} {v:Value} (hc:w.cell? ⟨b,o,none⟩ =some v) (hb:b<w.heap.size) :∀w',St ⟨w,[]⟩ Rs w'→∀q u,[v][q]? =some u→w'.cell? ⟨b,o+q,none⟩ =some u:=fun w' hs q u hq=>by
 match q,hq with
 | 0,hq=>simp at hq;subst hq;exact qP hc hb w' hs
def Sd (hot:List Pn) (rs:List jK) :List jK:=match M3 hot rs with
 | some x=>x.1
 | none=> []
def PI (hot:List Pn) (rs:List jK) :Int:=match M3 hot rs with
 | some x=> (x.2:Int)
 | none=>0
def Fq9 (hot:List Pn) (rs:List jK) :Bool:= (M3 hot rs).isSome
theorem FT (h:M3 hot rs=none) :Sd hot rs= []∧PI hot rs=0∧Fq9 hot rs=false:=by simp [Sd,PI,Fq9,h]
theorem FU {ss:List jK} (h:M3 hot rs=some (ss,r)) :Sd hot rs=ss∧PI hot rs= (r:Int)∧Fq9 hot rs=true:=by simp [Sd,PI,Fq9,h]
theorem Zf (bb oo:Nat) (A:Option Addr) (n c:Nat) (rs:List jK) (B:Option Addr) (m d:Nat) (hot:List Pn) (w:World) (hcell0:w.cell? ⟨bb,oo,none⟩ =some (.slice A n c)) (hbb:bb<w.heap.size) (h:Rings w A n rs) (hr:JW rs=true) (hh:Pts w B m hot) (hm:m≤1048576) (hok:∀p∈hot,wF p.1 p.2=true) (hnd:hot.Nodup) (hG:bareG hot rs) :
  Calls Tryz.prog 50 #[.pointer (some ⟨bb,oo,none⟩), .slice B m d] w fun e w'=>∃A' c',e= .returned (.tuple #[qK A' (Sd hot rs).length c', .int .i64 (PI hot rs), .bool (Fq9 hot rs)])∧OwnG w.heap.size w'.heap.size w' A' (Sd hot rs).length (Sd hot rs)∧Over w w':=by
 have hl:=h.1
 subst hl
 have hn40:=vO hr
 refine jT (m:=26) (Tryz.func50) J J (lb J) ?_;refine S3 ?_;refine aL (fun b1=> ?_);refine N7 ?_;refine a9 (jk J J jI J (jfr hcell0 hbb)) ?_;refine S1 ?_;refine aL (fun b2=> ?_);refine N3 ?_;refine jcy (c:=c) h ?_;refine t9 ?_;refine S5 ?_;refine JN (X:=Nat×List jK×Bool×(Option Addr×Nat)×Nat×Nat) (fun x=>StabI hot rs x.2.1 x.1) (fun x=>401- cnt x.2.1) (fun x=> [(8, .int .i64 (x.1:Int))]) (kK [1,4,5,6,7]) (fun x=> [.cel b1 26 [.slice none 0 0], .cel b2 26 [.slice x.2.2.2.1.1 x.2.1.length x.2.2.2.1.2],jcR w x.2.1.length x.2.1 x.2.2]) (0,rs,true,(A,c),0,0) (StabI.start hr hG) ⟨J,sz⟩ (fun _ h=>h) ?_
 intro⟨r,ss,fl,⟨cA,cc⟩,clo,chi⟩ hx L hL1
 refine v9 ?_;refine r9 ?_
 have hx1:StabI hot rs ss r:=hx
 have hr400:=hx1.r_le
 have hs40:=vO hx1.reg
 refine S6 ?_;refine JR ZO (X:= (Option Addr×Nat)×Nat×Nat) (v:=fun x=>qK x.1.1 ss.length x.1.2) (r:=fun x=>Q6 ss.length (qY hot ss) x.2.1 x.2.2 x.1.1) (H:=fun _=>True) J J J (lb J) (fun w1 hs=>K1 (L7 b2 0 cA ss.length cc ss B m d hot w1 (ql (k:=1) J J w1 hs) (JZ (hs.cel (k:=1) J)) (IR (hs.all 2 _ J).1 hs.fin) hx1.reg (hh.over hs.fin) hm hok hx1.bare)) ?_
 rintro⟨⟨gA,gc⟩,glo,ghi⟩ -
 refine N1 ?_;refine aL (fun b3=> ?_);refine N6 ?_;refine a9 (jJ WQ J J (fun w1 hs=>XT b3 0 gA ss.length gc (qY hot ss) w1 (ql (k:=4) J J w1 hs) (JZ (hs.cel (k:=4) J)) (WX (hs.all 3 _ J).1).rings Om)) ?_;refine S2 ?_;refine cZ (fun c1=> ?_) (fun c1=> ?_)
 ·refine S2 ?_;refine a9 (J0 J J (qq)) ?_;refine S11 ?_;refine HW J (qh (k:=0) J jI J J) (.tmp J) (.tmp J) ?_
  intro w' hs
  obtain ⟨e1,e2,e3⟩ :=FT (hx1.full c1)
  exact⟨none,0,by rw [e1,e2,e3];rfl,by rw [e1];exact OwnG.nil none,hs.fin⟩
 ·refine S7 ?_;refine a9 (jJ uT J J (fun w1 hs=>uY gA cA ss.length ss.length gc cc (qY hot ss) ss w1 (WX (hs.all 3 _ J).1).rings (IR (hs.all 2 _ J).1 hs.fin) (smallR.of c1).total (smallR.of hx1.reg).total)) ?_;refine S1 ?_;refine cZ (fun c2=> ?_) (fun c2=> ?_)
  ·refine S15 ?_;refine HW J (qh (k:=0) J jI J J) (.tmp J) (.tmp J) ?_
   intro w' hs
   obtain ⟨e1,e2,e3⟩ :=FU (hx1.fin c2)
   have hg:=hs.all 3 _ rfl
   have ho:=ZE hg.1 (fun b hb=> (hg.2.1 b hb).elim id (fun h=>by cases h))
   rw [c2] at ho
   exact⟨gA,gc,by rw [e1,e2,e3],by rw [e1];exact ho,hs.fin⟩
  ·obtain ⟨k1,k2⟩ :=hx1.step hnd c1 c2
   have hc4:=FF k1.reg k1.bare
   refine S14 ?_
   exact j4 hL1 ((r+1,qY hot ss,false,(gA,gc),glo,ghi)) (k1) (by simp only;omega) ⟨vi Om,sz⟩ (fun _ h=> (h.picks [0,1,3] Dc).upto ⟨J,by rw [vc],by rw [vc];rfl,trivial⟩)
end Go.Proofs.YtbahojdbmmjkcaaGreat
