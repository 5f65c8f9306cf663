import Derived.Test.YtpncbbcmoiiipaaGreatKOn
import Derived.Test.YtpncbbcmoiiipaaGreatKEnds
import Derived.Test.YtpncbbcmoiiipaaGreatKLawKit
import Derived.Test.YtpncbbcmoiiipaaGreatKHull
set_option linter.unusedVariables false
set_option linter.unusedSimpArgs false
namespace Go.Proofs.YtpncbbcmoiiipaaGreat
open Go Go.RowKit
set_option maxRecDepth 100000
set_option maxHeartbeats 4000000
set_option maxHeartbeats 1000000 in
set_option maxRecDepth 100000 in
theorem Wj (A B:Option Addr) (n m c d:Nat) (rs ss:List jV) (w:World) (h:Rings w A n rs) (h':Rings w B m ss) (ht: (total rs:Int)≤1048576) (ht': (total ss:Int)≤1048576) :
  Calls Tryz.prog 43 #[qT A n c,qT B m d] w fun e w'=>e= .returned (.bool (decide (rs=ss)))∧Over w w':=by
 have hl:=Lib.hid h.1
 have hl':=Lib.hid h'.1
 have hn: (n:Int)≤1048576:=by have:=hl.out;unfold total at ht;omega
 have hm: (m:Int)≤1048576:=by have:=hl'.out;unfold total at ht';omega
 have Ht:=Lib.hid (And.intro ht ht')
 clear ht ht'
 by_cases hnm:n=m
 ·subst hnm
  have hq: ((n:Int) != (n:Int)) =false:=by simp
  go_enter Tryz.func43,Tryz.ntmps43
  go_wp2
  go_loopw [5] (fun i wr=>∃k:Nat,k≤n∧i= .int .i64 k∧Over ((w.alloc (.cells #[.slice A n c] 26)).alloc (.cells #[.slice B n d] 26)) wr∧Hid (∀j,j<k→rg rs j=rg ss j)) (fun i _=>n- (intOf i).toNat)
  case atStart=>exact⟨0,jii _,rfl,Over.refl _,fun j hj=>absurd hj Om⟩
  case round=>
   rename_i wr
   obtain ⟨k,hk,rfl,hb,hall⟩ :=hrel
   have hO:Over w wr:= (Over.alloc_ (Over.alloc _ _) _).trans hb
   have x1:wr.cell? ⟨w.heap.size,0,none⟩ =some (.slice A n c) :=by
    rw [(Jy hb).1 _ _ (by simp;omega),(Jy (Over.alloc _ _)).1 _ _ (by simp)]
    exact zE _ _ _ _
   have x2:wr.cell? ⟨w.heap.size+1,0,none⟩ =some (.slice B n d) :=by
    rw [(Jy hb).1 _ _ (by simp)]
    simp
   have z2:w.heap.size+1<wr.heap.size:=jiu (by simp) hb.size
   have z1:w.heap.size<wr.heap.size:=by omega
   by_cases hlt:k<n
   ·obtain ⟨b,o,Ak,ck,rfl,hbB,hcell,hpts,hmax⟩ := (h.over hO).at_ hlt
    obtain ⟨b',o',Ak',ck',rfl,hbB',hcell',hpts',_⟩ := (h'.over hO).at_ hlt
    have hr: ((rg rs k).length:Int)≤1048576:=by have:=Ht.out;have:=uI rs (k:=k) (by rw [hl.out];exact hlt);omega
    have hr': ((rg ss k).length:Int)≤1048576:=by have:=Ht.out;have:=uI ss (k:=k) (by rw [hl'.out];exact hlt);omega
    have Hb:=Lib.hid hb
    have HP:=Lib.hid (And.intro hpts hpts')
    clear h h' hb hO hmax hpts hpts'
    by_cases he:rg rs k=rg ss k
    ·have hd:decide (rg rs k=rg ss k) =true:=decide_eq_true he
     have hs:Hid (∀j,j<k+1→rg rs j=rg ss j) :=by
      intro j hj
      by_cases hjk:j=k
      ·subst hjk;exact he
      ·exact hall.out j Om
     have Hd:=Lib.hid hd
     clear hd he hall
     go_wp2
     refine Kd (B:=ob _) (Over.refl _) Kr (by simp only [jje,jim,jiH,Nat.reduceAdd];rfl) (fun hBW=> ?_);refine i8 0 ?_;refine i8 1 ?_;refine i8 2 ?_;refine i8 3 ?_;refine i8 4 ?_;refine i8 5 ?_;refine i8 6 ?_;refine i8 7 ?_;refine i8 8 ?_;refine i8 9 ?_;refine i8 10 ?_;refine i8 11 ?_;refine w9 12 (hy:=fun wx hS=>by(go_simp;refine(H6 _ _ _ _ _ _ (rg rs k) (rg ss k) _ (HP.out.1.over hS) (HP.out.2.over hS) hr hr').mono ?_;rw [Hd.out];rintro e w1 ⟨rfl,hb1⟩;exact⟨rfl,hb1⟩)) (h:= ?_)
     simp only [Act.put,q7,jP,jQ]
     refine i8 13 ?_
     refine Kc Kr (fun w2 h2=> ?_) _
     try clear hBW
     have HO:=Lib.hid (Hb.out.trans h2)
     clear h2
     go_wp2
     go_roundw
     case rel=>exact⟨k+1,by omega,by go_num,HO.out,hs⟩
     case measure=>simp [intOf];omega
    ·have hd:decide (rg rs k=rg ss k) =false:=decide_eq_false he
     have hq:Hid (decide (rs=ss) =false) :=decide_eq_false (fun e=>he (by rw [e]))
     have Hd:=Lib.hid hd
     clear hd he hall
     go_wp2
     refine Kd (B:=ob _) (Over.refl _) Kr (by simp only [jje,jim,jiH,Nat.reduceAdd];rfl) (fun hBW=> ?_);refine i8 0 ?_;refine i8 1 ?_;refine i8 2 ?_;refine i8 3 ?_;refine i8 4 ?_;refine i8 5 ?_;refine i8 6 ?_;refine i8 7 ?_;refine i8 8 ?_;refine i8 9 ?_;refine i8 10 ?_;refine i8 11 ?_;refine w9 12 (hy:=fun wx hS=>by(go_simp;refine(H6 _ _ _ _ _ _ (rg rs k) (rg ss k) _ (HP.out.1.over hS) (HP.out.2.over hS) hr hr').mono ?_;rw [Hd.out];rintro e w1 ⟨rfl,hb1⟩;exact⟨rfl,hb1⟩)) (h:= ?_)
     simp only [Act.put,q7,jP,jQ]
     refine i8 13 ?_
     refine Kc Kr (fun w2 h2=> ?_) _
     try clear hBW
     have HO:=Lib.hid ((Over.alloc_ (Over.alloc _ _) _).trans (Hb.out.trans h2))
     clear h2
     go_wp2
     go_ret
     exact⟨by rw [hq.out];rfl,HO.out⟩
   ·have hkn:k=n:=by omega
    have hq:Hid (decide (rs=ss) =true) :=decide_eq_true (jaj (by rw [hl.out,hl'.out]) (fun j hj=>hall.out j (by rw [hl.out] at hj;omega)))
    clear h h' hall hl hl' hb
    go_wp2
    go_ret
    exact⟨by rw [hq.out];rfl,hO⟩
 ·have hq: ((n:Int) != (m:Int)) =true:=by simp;omega
  have hv:Hid (decide (rs=ss) =false) :=decide_eq_false (fun e=>hnm (by rw [←hl.out,←hl'.out,e]))
  clear h h' hl hl'
  go_enter Tryz.func43,Tryz.ntmps43
  go_wp2
  go_ret
  exact⟨by rw [hv.out];rfl,ov9⟩
theorem jfC {ls:List Leg} {j:Nat} (h:j<ls.length) : ((ls.map lA).take (j+1)).flatMap Js= ((ls.map lA).take j).flatMap Js++ [.int .i64 (lg ls j).ax, .int .i64 (lg ls j).ay] :=by
 rw [jin (by simpa using h),jio]
 simp [Js,lA,lg,List.getD,h]
theorem xt {rs:List jV} (hr:JE rs=true) {k:Nat} {r:jV} (h:r∈vf rs k) :r.length≤400:=by
 obtain ⟨_,q,hq,rfl⟩ :=xd h
 obtain ⟨i,hi,e⟩ :=ji0 hq
 have:=Qf (Km hr hi)
 rw [Wa hi] at e
 rw [e] at this
 have:=Sf q q.length
 unfold Q3
 omega
theorem jhI {xs ys:List Pn} {a b:Nat} (h: (px xs a==px ys b&&py xs a==py ys b) =false) :pt xs a≠pt ys b:=fun e=>by
 injection e with e1 e2
 simp [e1,e2] at h
theorem jfY {xs ys:List Pn} {a b:Nat} (h: (px xs a==px ys b&&py xs a==py ys b) =true) :pt xs a=pt ys b:=by
 simp at h
 exact Prod.ext h.1 h.2
theorem yZ {w w':World} {Rs:List Res} (hs:St ⟨w,[]⟩ Rs w') {kr kp B T n:Nat} {l:List Pc} {x:Option Addr×Nat} {rs:List jV} (hr:Rs[kr]? =some (JY B T 1 n (l.map Pc.val) x)) (hp:Rs[kp]? =some (vE l)) (hne:kr≠kp) (_e:w=w) (hl:l.length=n) (hrs:l.map (·.xs) =rs)
  (hm:∀j,j<rs.length→(rg rs j).length≤1099511627776) :OwnG w.heap.size w'.heap.size w' x.1 n rs:=by
 have hrow:w'.ownsRow B T 1 (.slice x.1 n x.2) n (l.map Pc.val) := (hs.all kr _ hr).1
 have hX:=hs.all kp _ hp
 rcases hrow.2 with⟨_,e⟩ |⟨g,cap,cur,e,hb,hg,hcap,hmax,hsz,htk⟩
 ·subst e
  obtain rfl:l= [] :=jiQ hl
  subst hrs
  exact OwnG.nil _
 ·injection e with e1 e2 e3
  rw [e1]
  have hF: (JY B T 1 n (l.map Pc.val) x).F g:=by show Value.ownBlock (.slice x.1 n x.2) =some g;rw [e1];rfl
  have hown:=Ik (lo:=w.heap.size) (o:=0) hg (((hs.all kr _ hr).2.1 g hF).elim id (fun h=>by cases h)) (fun j hj=> ?_) hX.1 (fun h=>hs.apart kr kp _ _ hne hr hp g hF h) (fun q hq=> (hX.2.1 q hq).elim id (fun h=>by cases h)) (fun e he=> ?_)
  ·rw [hrs,hl] at hown
   exact hown
  ·have hc:cur[j]? = (l.map Pc.val)[j]? :=by rw [←htk,List.getElem?_take,if_pos Om];simp
   rw [jiL,hc]
   simp [hj]
  ·have:e.xs∈rs:=hrs▸jip.2 ⟨e,he,rfl⟩
   obtain ⟨j,hj,e2⟩ :=ji0 this
   have:=hm j hj
   rw [←Wa hj,e2] at this
   omega
theorem H0 (bb oo:Nat) (A:Option Addr) (n c:Nat) (rs:List jV) (w:World) (hcell0:w.cell? ⟨bb,oo,none⟩ =some (.slice A n c)) (hbb:bb<w.heap.size) (h:Rings w A n rs) (hr:JE rs=true) :
  Calls Tryz.prog 101 #[.pointer (some ⟨bb,oo,none⟩)] w fun e w'=>∃A' c',e= .returned (qT A' (J8 rs).length c')∧OwnG w.heap.size w'.heap.size w' A' (J8 rs).length (J8 rs)∧Over w w':=by
 have hl:=h.1
 have hn40:=WR hr
 refine Jh (m:=52) (Tryz.func101) J J (lb J) ?_;refine S3 ?_;refine aL (fun b1=> ?_);refine N3 ?_;refine a9 (JU J J (qg)) ?_;refine S1 ?_;refine aL (fun b2=> ?_);refine N3 ?_;refine Q7 (T:=77) (s:=1) ?_;refine t9 ?_;refine Vq ?_;refine t9 ?_;refine S6 ?_;refine JQ (X:=Nat×(Option Addr×Nat)×List Pc) (fun x=>x.1≤n∧x.2.2.map (·.xs) =vf rs x.1) (fun x=>n- x.1) (fun x=> [(4, .int .i64 (x.1:Int))]) (kK [0,2,3]) (fun x=> [.cel b1 26 [.slice none 0 0], .cel b2 26 [.slice x.2.1.1 x.2.2.length x.2.1.2],JY (Bs.N ⟨w,[]⟩) 77 1 x.2.2.length (x.2.2.map Pc.val) x.2.1,vE x.2.2]) (0,(none,0),[]) (⟨jii _,J⟩) ⟨J,sz⟩ (fun _ h=>h) ?_
 intro⟨k,⟨rA,rc⟩,l⟩ hx L hL1
 refine v9 ?_;refine r9 ?_
 obtain ⟨hk,hmp⟩ :k≤n∧l.map (·.xs) =vf rs k:=hx
 have hlk:l.length= (vf rs k).length:= (by have:=congrArg List.length hmp;rwa [jit] at this)
 have hlen:=xb rs k
 refine S7 ?_;refine a9 (jn J J JR (kI hcell0 hbb)) ?_;refine S3 ?_;refine cZ (fun c1=> ?_) (fun c1=> ?_)
 ·have hlt:k<n:=Om
  obtain ⟨eb,eo,Ak,ck,rfl,hbB,hcell,hpts,hmax⟩ :=h.at_ hlt
  have hpos:=Qf (Km hr (show k<rs.length by omega))
  obtain ⟨E,hE⟩ :∃E,E=J0 (rg rs k) :=⟨_,rfl⟩
  have hEl:E.length≤400:= (by rw [hE];have:=KH (rg rs k) (rg rs k).length;unfold J0;omega)
  have hkp:Q3 (rg rs k) =E.map lA:= (by rw [hE];rfl)
  have hkl: (Q3 (rg rs k)).length=E.length:= (by rw [hkp,jit])
  refine S9 ?_;refine a9 (jn J J JR (kI hcell0 hbb)) ?_;refine S3 ?_;refine J4 yV (v:=fun x=> .slice x.1 _ x.2) (r:=fun x=>JY 0 120 4 _ _ x) (H:=fun _=>True) J J J (lb J) (fun w1 hs=>Qh ((Yu eb (eo+k*1) Ak _ ck (rg rs k) w1 (by rw [jjf];exact Qm hcell hbB w1 hs) (jiu hbB hs.fin.size) (hpts.over hs.fin) Om).mono fun e w' ⟨v,h1,_,h2,h3⟩ =>⟨v,h1,h2,h3⟩)) ?_
  rintro⟨eA,ec⟩ -
  refine N4 ?_;refine a9 (JU J J (vJ)) ?_;refine S1 ?_;refine aL (fun b3=> ?_);refine N3 ?_;refine Q7 (T:=56) (s:=2) ?_;refine t9 ?_
  rw [←hE]
  refine S6 ?_;refine JQ (X:=Nat×Option Addr×Nat) (fun y=>y.1≤E.length) (fun y=>E.length- y.1) (fun y=> [(7, .int .i64 (y.1:Int))]) (kK [0,2,3,4,9,10,11,12,13,14,15,18,19,20,21,22,23,24,5,25,6]) (fun y=> [.cel b1 26 [.slice none 0 0], .cel b2 26 [.slice rA l.length rc],JY (Bs.N ⟨w,[]⟩) 77 1 l.length (l.map Pc.val) (rA,rc),vE l,JY 0 120 4 E.length (E.flatMap jZ) (eA,ec), .cel b3 77 [.slice y.2.1 y.1 y.2.2],JY (Bs.N ⟨w,[]⟩) 56 2 y.1 (((E.map lA).take y.1).flatMap Js) y.2]) (0,none,0) (jii _) ⟨J,sz⟩ (fun _ h=>h) ?_
  intro⟨j,qA,qc⟩ hy L hL2
  refine v9 ?_;refine r9 ?_
  have hj:j≤E.length:=hy
  refine S8 ?_;refine cZ (fun c2=> ?_) (fun c2=> ?_)
  ·have hjl:j<E.length:=Om
   refine ky (fun w hs=>VJ (k:=4) J hs Om) ?_
   rintro⟨eg,rfl⟩
   refine S5 ?_;refine JS 8 ?_;refine dV 0 [1] ?_;refine dK 1 ?_;refine dV 2 [4,5,6,7] ?_;refine dV 3 [4,5,6,7] ?_;refine dV 4 [5,6,7] ?_;refine dV 5 [6,7] ?_;refine d9 6 J [7] (u9 J) (jk J J jj J (J5 (b:=eg) (o:=0) (JC (k:=4) (x:= (some ⟨eg,0,none⟩,ec)) (ls:=E) J J) hjl)) ?_;refine qe (i:=7) J Dc Kr J ?_;refine Jx J J (qM J) J (lb J) (fun b4=> ?_);refine n9 ?_;refine JO (u9 J) ?_;refine vg J Kr J ?_;refine JV (k:=6) J jw jH Dc J Dc J J J (fun w' hs=>Qb hs (k:=7) J J) (by simp [Value.oneCell']) (by unfold maxLen;omega) Om (jih _) (fun r1=> ?_);refine n9 ?_;refine Qx 11 [5] ?_;refine dK 9 ?_;refine qe (i:=10) J Dc Kr J ?_;refine S1 ?_;refine JO (uw [5] J) ?_;refine JK Kr ?_;refine S7 ?_
   exact Ji hL2 ((j+1,r1)) ((show j+1≤E.length by omega)) (by simp only;omega) ⟨vi Om,sz⟩ (fun _ h=>h.upto ⟨J,J,J,J,J,J,by rw [jfC hjl],trivial⟩)
  ·have hje:j=E.length:=Om
   subst hje
   rw [jiK (by rw [jit];omega),←hkp]
   refine S11 ?_;refine cZ (fun c3=> ?_) (fun c3=> ?_)
   ·have hpl:0< (Q3 (rg rs k)).length:=Om
    refine S5 ?_;refine Jx J J (qH J) J (lb J) (fun b5=> ?_);refine N1 ?_;refine JV (k:=2) J jK Jw Dc J Dc J J J (fun w' hs=>Qb hs (k:=7) J J) (by simp [Value.oneCell']) (by unfold maxLen;omega) Om (jih _) (fun r2=> ?_);refine N4 ?_;refine ZY 6 J hkl (fun clo chi=> ?_);refine t9 ?_;refine wN 3 6 J J Dc J ?_;refine t9 ?_;refine S7 ?_
    exact Ji hL1 ((k+1,r2,l++ [⟨Q3 (rg rs k),qA,qc,clo,chi⟩])) (⟨show k+1≤n by omega,by rw [jiO,hmp,Yk Om hpl];rfl⟩) (by simp only;omega) ⟨vi Om,sz⟩ (fun _ h=> (h.picks [0,1,2,3] Dc).upto ⟨J,by rw [jif];rfl,by rw [jiO,jif];simp [Pc.val,hkl],(vT _ _).symm,trivial⟩)
   ·refine S8 ?_
    exact Ji hL1 ((k+1,(rA,rc),l)) (⟨show k+1≤n by omega,by rw [hmp,Zs Om Om]⟩) (by simp only;omega) ⟨vi Om,sz⟩ (u9 J)
 ·have hkn:k=rs.length:=Om
  subst hkn
  refine S12 ?_;refine jM J (qh (k:=0) J jG J J) ?_
  intro w' hs
  have hrs:l.map (·.xs) =J8 rs:=hmp
  have hbl: (J8 rs).length=l.length:=hlk.symm
  exact⟨rA,rc,by rw [hbl],by rw [hbl];exact yZ hs (kr:=2) (kp:=3) rfl rfl Dc rfl rfl hrs (fun j hj=>by have:=xt hr (jis hj);rw [Wa hj] at this;omega),hs.fin⟩
theorem YV (A:Option Addr) (n c:Nat) (rs:List jV) (w:World) (h:Rings w A n rs) (hr:JE rs=true) :
  Calls Tryz.prog 104 #[qT A n c] w fun e w'=>∃A' c',e= .returned (qT A' (J8 rs).length c')∧OwnG w.heap.size w'.heap.size w' A' (J8 rs).length (J8 rs)∧Over w w':=by
 have hl:=h.1
 have hn40:=WR hr
 refine Jh (m:=53) (Tryz.func104) J J (lb J) ?_;refine S3 ?_;refine aX (fun b1=> ?_);refine N1 ?_;refine aL (fun b2=> ?_);refine N4 ?_;refine aL (fun b3=> ?_);refine N1 ?_;refine Q7 (T:=77) (s:=1) ?_;refine t9 ?_;refine Vq ?_;refine t9 ?_;refine S9 ?_;refine JQ (X:=Nat×(Option Addr×Nat)×List Pc) (fun x=>x.1≤n∧x.2.2.map (·.xs) =vf rs x.1) (fun x=>n- x.1) (fun x=> [(12, .int .i64 (x.1:Int))]) (kK [2,3,10,11]) (fun x=> [.cel b1 26 [.slice A n c], .cel b2 26 [.slice none 0 0], .cel b3 26 [.slice x.2.1.1 x.2.2.length x.2.1.2],JY (Bs.N ⟨w,[]⟩) 77 1 x.2.2.length (x.2.2.map Pc.val) x.2.1,vE x.2.2]) (0,(none,0),[]) (⟨jii _,J⟩) ⟨J,sz⟩ (fun _ h=>h) ?_
 intro⟨k,⟨rA,rc⟩,l⟩ hx L hL1
 refine v9 ?_;refine r9 ?_
 obtain ⟨hk,hmp⟩ :k≤n∧l.map (·.xs) =vf rs k:=hx
 have hlk:l.length= (vf rs k).length:= (by have:=congrArg List.length hmp;rwa [jit] at this)
 have hlen:=xb rs k
 refine S5 ?_;refine cZ (fun c1=> ?_) (fun c1=> ?_)
 ·have hlt:k<n:=Om
  obtain ⟨eb,eo,Ak,ck,rfl,hbB,hcell,hpts,hmax⟩ :=h.at_ hlt
  have hpos:=Qf (Km hr (show k<rs.length by omega))
  obtain ⟨pb,po,rfl,_⟩ :=hpts.2 hpos.1
  obtain ⟨xs,hxs⟩ :∃xs,xs=rg rs k:=⟨_,rfl⟩
  rw [←hxs] at hpts hpos hcell
  have hkl:=fun j=>Sf xs j
  refine S7 ?_;refine a9 (jk J J JM J (OO hcell hbB)) ?_;refine S1 ?_;refine aL (fun b4=> ?_);refine N6 ?_;refine Q7 (T:=56) (s:=2) ?_;refine N10 ?_;refine JQ (X:=Nat×Option Addr×Nat) (fun y=>y.1≤xs.length) (fun y=>xs.length- y.1) (fun y=> [(6, .slice y.2.1 (WH xs y.1).length y.2.2),(19, .int .i64 (y.1:Int))]) (kK [2,3,10,11,12,13,14,15,5,16,17,18]) (fun y=> [.cel b1 26 [.slice (some ⟨eb,eo,none⟩) n c], .cel b2 26 [.slice none 0 0], .cel b3 26 [.slice rA l.length rc],JY (Bs.N ⟨w,[]⟩) 77 1 l.length (l.map Pc.val) (rA,rc),vE l, .cel b4 77 [.slice (some ⟨pb,po,none⟩) xs.length ck],JY (Bs.N ⟨w,[]⟩) 56 2 (WH xs y.1).length ((WH xs y.1).flatMap Js) y.2]) (0,none,0) (jii _) ⟨J,sz⟩ (fun _ h=>h) ?_
  intro⟨j,qA,qc⟩ hy L hL2
  refine v9 ?_;refine r9 ?_
  have hj:j≤xs.length:=hy
  have hkj:=hkl j
  refine S5 ?_;refine cZ (fun c2=> ?_) (fun c2=> ?_)
  ·have hjl:j<xs.length:=Om
   have hnx:nx xs j<xs.length:=Nat.mod_lt _ Om
   refine S8 ?_;refine a9 (jk J J jj J (wL (b:=pb) (o:=po) hpts hjl)) ?_;refine S1 ?_;refine aL (fun b5=> ?_);refine N6 ?_;refine JS 12 ?_;refine dK 0 ?_;refine dK 1 ?_;refine dK 2 ?_;refine dK 3 ?_;refine dK 4 ?_;refine dK 5 ?_;refine dK 6 ?_;refine dK 7 ?_;refine dZ 8 J ((Hl J J J Om Om Om).as (congrArg _ (je3 (xs:=xs) J j))) ?_;refine dZ 9 J (jN (j:=nx xs j) J J J jw Om) ?_;refine dZ 10 J (jk J J jj J (wL (b:=pb) (o:=po) hpts hnx)) ?_;refine dK 11 ?_;refine JK Kr ?_;refine S1 ?_;refine cZ (fun c3=> ?_) (fun c3=> ?_)
   ·have hne:pt xs j≠pt xs (nx xs j) :=jhI c3
    refine S4 ?_;refine Jx J J (qM J) J (lb J) (fun b6=> ?_);refine N1 ?_;refine JV (k:=6) J jw jH Dc J Dc J J J (fun w' hs=>Qb hs (k:=8) J J) (by simp [Value.oneCell']) (by unfold maxLen;omega) Om (jih _) (fun r1=> ?_);refine N8 ?_
    exact Ji hL2 ((j+1,r1)) ((show j+1≤xs.length by omega)) (by simp only;omega) ⟨(by rw [M7 hne,jif];rfl),vi Om,sz⟩ (fun _ h=>h.upto ⟨J,J,J,J,J,J,by rw [M7 hne,jif,jio];rfl,trivial⟩)
   ·refine S7 ?_
    exact Ji hL2 ((j+1,qA,qc)) ((show j+1≤xs.length by omega)) (by simp only;omega) ⟨(by rw [DD (jfY c3)];rfl),vi Om,sz⟩ (fun _ h=>h.upto ⟨J,J,J,J,J,J,by rw [DD (jfY c3)],trivial⟩)
  ·have hje:j=xs.length:=Om
   subst hje
   rw [show WH xs xs.length=Q3 xs from rfl]
   refine S11 ?_;refine cZ (fun c4=> ?_) (fun c4=> ?_)
   ·have hpl:0< (Q3 xs).length:=Om
    refine S4 ?_;refine a9 (JU J J (Vs J)) ?_;refine S1 ?_;refine Jx J J (qH J) J (lb J) (fun b7=> ?_);refine N1 ?_;refine JV (k:=3) J jK Jw Dc J Dc J J J (fun w' hs=>Qb hs (k:=7) J J) (by simp [Value.oneCell']) (by unfold maxLen;omega) Om (jih _) (fun r2=> ?_);refine N4 ?_;refine ZY 6 J J (fun clo chi=> ?_);refine t9 ?_;refine wN 4 6 J J Dc J ?_;refine t9 ?_;refine S6 ?_
    exact Ji hL1 ((k+1,r2,l++ [⟨Q3 xs,qA,qc,clo,chi⟩])) (⟨show k+1≤n by omega,by rw [jiO,hmp,Yk Om (hxs▸hpl),hxs];rfl⟩) (by simp only;omega) ⟨vi Om,sz⟩ (fun _ h=> (h.picks [0,1,2,3,4] Dc).upto ⟨J,J,by rw [jif];rfl,by rw [jiO,jif];rfl,(vT _ _).symm,trivial⟩)
   ·refine S7 ?_
    exact Ji hL1 ((k+1,(rA,rc),l)) (⟨show k+1≤n by omega,by rw [hmp,Zs Om (by rw [←hxs];omega)]⟩) (by simp only;omega) ⟨vi Om,sz⟩ (u9 J)
 ·have hkn:k=rs.length:=Om
  subst hkn
  refine S12 ?_;refine jM J (qh (k:=1) J jG J J) ?_
  intro w' hs
  have hrs:l.map (·.xs) =J8 rs:=hmp
  have hbl: (J8 rs).length=l.length:=hlk.symm
  exact⟨rA,rc,by rw [hbl],by rw [hbl];exact yZ hs (kr:=3) (kp:=4) rfl rfl Dc rfl rfl hrs (fun j hj=>by have:=xt hr (jis hj);rw [Wa hj] at this;omega),hs.fin⟩
def UW (hot:List Pn) (E:List Leg) (k:Nat) :List Pn:= (E.take k).flatMap fun l=>Qs hot (lA l,lB l)
theorem HA {hot:List Pn} {E:List Leg} {k:Nat} (h:k<E.length) :UW hot E (k+1) =UW hot E k++Qs hot (lA (lg E k),lB (lg E k)) :=by
 unfold UW
 rw [jin h,jio]
 simp [lg,List.getD,h]
theorem E9 (hot:List Pn) (e:Pn×Pn) : (Qs hot e).length≤hot.length:=by
 unfold Qs
 rw [List.length_dropLast,wK]
 have:=Gg e.1 e.2 hot
 omega
theorem X9 {hot:List Pn} {E:List Leg} {m:Nat} (hm:hot.length≤m) :∀k,k≤E.length→(UW hot E k).length≤k*m
 | 0,_=>by simp [UW]
 | k+1,hk=>by
  have:=X9 (E:=E) hm k Om
  have:=E9 hot (lA (lg E k),lB (lg E k))
  rw [HA Om,jif,Nat.succ_mul]
  omega
theorem OZ (hot xs:List Pn) :kU hot xs=UW hot (J0 xs) (J0 xs).length:=by unfold kU UW;rw [jiX]
def onHot (hot:List Pn) (E:List Leg) :Prop:=∀l∈E,lA l≠lB l∧lA l∈hot∧lB l∈hot
theorem onHot.at_ {hot:List Pn} {E:List Leg} (h:onHot hot E) {k:Nat} (hk:k<E.length) :lA (lg E k)≠lB (lg E k)∧lA (lg E k)∈hot∧lB (lg E k)∈hot:=by
 have:=h E[k] (jis hk)
 have e:lg E k=E[k] :=by simp [lg,List.getD,hk]
 rw [e]
 exact this
theorem jeV {P:Program} {f:FuncId} {args:Array Value} {w1:World} {T s n:Nat} {xs:List Value} {b:Bool} (h:Calls P f args w1 fun e w'=>∃v,e= .returned (.tuple #[.agg #[v], .bool b])∧w'.ownsRow w1.heap.size T s v n xs∧Over w1 w') :
  Calls P f args w1 fun e w'=>∃x:Option Addr×Nat,e= .returned (.tuple #[.agg #[.slice x.1 n x.2], .bool b])∧Over w1 w'∧(JY 0 T s n xs x).P w'∧(∀b,(JY 0 T s n xs x).F b→w1.heap.size≤b)∧(JY 0 T s n xs x).B=0∧True:=by
 refine h.mono ?_
 rintro e w' ⟨v,rfl,hr,hO⟩
 obtain ⟨x,rfl⟩ :=ux hr
 exact⟨x,rfl,hO,yb hr (jii _),fun b hb=> (hr.lt b hb).1,sz⟩
theorem So (bb oo:Nat) (A:Option Addr) (n c:Nat) (xs:List Pn) (B:Option Addr) (m d:Nat) (hot:List Pn) (w:World) (hcell:w.cell? ⟨bb,oo,none⟩ =some (.slice A n c)) (hbb:bb<w.heap.size) (h:Pts w A n xs) (hn: (n:Int)≤1048577)
  (hh:Pts w B m hot) (hm:m≤1048576) (hok:∀p∈hot,wR p.1 p.2=true) (hE:onHot hot (J0 xs)) :
  Calls Tryz.prog 200 #[.pointer (some ⟨bb,oo,none⟩), .slice B m d] w fun e w'=>∃v,e= .returned (.tuple #[.agg #[v], .bool (decide (0< (J0 xs).length))])∧w'.ownsRow w.heap.size 56 2 v (kU hot xs).length ((kU hot xs).flatMap Js)∧Over w w':=by
 have hl:=h.1
 have hhl:=hh.1
 obtain ⟨E,hEe⟩ :∃E,E=J0 xs:=⟨_,rfl⟩
 have hEl:E.length≤1048577:=by rw [hEe];have:=KH xs xs.length;unfold J0;omega
 rw [OZ,←hEe]
 rw [←hEe] at hE
 refine Jh (m:=44) (Tryz.func200) J J (lb J) ?_;refine S3 ?_;refine aL (fun b1=> ?_);refine N4 ?_;refine a9 (JU J J (vJ)) ?_;refine S1 ?_;refine aL (fun b2=> ?_);refine N3 ?_;refine Q7 (T:=56) (s:=2) ?_;refine t9 ?_;refine S4 ?_;refine J4 yV (v:=fun x=> .slice x.1 _ x.2) (r:=fun x=>JY 0 120 4 _ _ x) (H:=fun _=>True) J J J (lb J) (fun w1 hs=>Qh ((Yu bb oo A n c xs w1 (Qm hcell hbb w1 hs) (jiu hbb hs.fin.size) (h.over hs.fin) hn).mono fun e w' ⟨v,h1,_,h2,h3⟩ =>⟨v,h1,h2,h3⟩)) ?_
 rintro⟨eA,ec⟩ -
 refine N7 ?_
 rw [←hEe]
 refine S1 ?_;refine JQ (X:=Nat×Option Addr×Nat) (fun x=>x.1≤E.length) (fun x=>E.length- x.1) (fun x=> [(8, .int .i64 (x.1:Int))]) (kK [1,4,5,6,7]) (fun x=> [.cel b1 77 [.slice none 0 0], .cel b2 77 [.slice x.2.1 (UW hot E x.1).length x.2.2],JY (Bs.N ⟨w,[]⟩) 56 2 (UW hot E x.1).length ((UW hot E x.1).flatMap Js) x.2,JY 0 120 4 E.length (E.flatMap jZ) (eA,ec)]) (0,none,0) (jii _) ⟨J,sz⟩ (fun _ h=>h) ?_
 intro⟨k,rA,rc⟩ hx L hL1
 refine v9 ?_;refine r9 ?_
 have hk:k≤E.length:=hx
 have hsn:=X9 (hot:=hot) (E:=E) (m:=1048576) Om k hk
 refine S8 ?_;refine cZ (fun c1=> ?_) (fun c1=> ?_)
 ·have hlt:k<E.length:=Om
  obtain ⟨g1',g2',g3'⟩ :=hE.at_ hlt
  obtain ⟨mid,hmid⟩ :=ZH g1' g2' g3'
  have hpl:0< (qD (lA (lg E k)) (lB (lg E k)) hot).length:= (by rw [hmid];simp)
  have hpm: (qD (lA (lg E k)) (lB (lg E k)) hot).length≤1048576:= (by rw [wK];have:=Gg (lA (lg E k)) (lB (lg E k)) hot;omega)
  refine ky (fun w hs=>VJ (k:=3) J hs Om) ?_
  rintro⟨eg,rfl⟩
  refine S6 ?_;refine JS 13 ?_;refine dK 0 ?_;refine dK 1 ?_;refine dK 2 ?_;refine dK 3 ?_;refine dZ 4 J (jk J J jj J (J5 (b:=eg) (o:=0) (JC (k:=3) (x:= (some ⟨eg,0,none⟩,ec)) (ls:=E) J J) hlt)) ?_;refine dK 5 ?_;refine dK 6 ?_;refine dK 7 ?_;refine dK 8 ?_;refine dZ 9 J (jk J J jj J (JX (b:=eg) (o:=0) (JC (k:=3) (x:= (some ⟨eg,0,none⟩,ec)) (ls:=E) J J) hlt)) ?_;refine dK 10 ?_;refine qe (i:=11) J Dc Kr J ?_;refine J4 LX (v:=fun x:Option Addr×Nat=> .slice x.1 (qD (lA (lg E k)) (lB (lg E k)) hot).length x.2) (r:=fun x=>JY 0 56 2 (qD (lA (lg E k)) (lB (lg E k)) hot).length ((qD (lA (lg E k)) (lB (lg E k)) hot).flatMap Js) x) (H:=fun _=>True) J J J (lb J) (fun w1 hs=>Qh (Sm (lA (lg E k)) (lB (lg E k)) B m d hot w1 (hh.over hs.fin) (hok _ g2') (hok _ g3') hok hm)) ?_
  rintro⟨pA,pc⟩ -
  refine n9 ?_;refine Yq (u9 J) ?_;refine dK 12 ?_;refine JK Kr ?_;refine S1 ?_;refine ky (fun w hs=>VJ (k:=4) J hs hpl) ?_
  rintro⟨pg,rfl⟩
  refine ky (fun w hs=>uZ (hs.all 4 _ J).1) ?_
  intro hcap
  have hst:UW hot E (k+1) =UW hot E k++ (qD (lA (lg E k)) (lB (lg E k)) hot).take ((qD (lA (lg E k)) (lB (lg E k)) hot).length- 1) := (by rw [HA hlt];unfold Qs;rw [List.dropLast_eq_take])
  have hstl: (UW hot E (k+1)).length= (UW hot E k).length+ ((qD (lA (lg E k)) (lB (lg E k)) hot).length- 1) := (by rw [hst,jif,jiy];omega)
  refine S1 ?_;refine JS 7 ?_;refine dV 0 [1] ?_;refine dK 1 ?_;refine dV 2 [6] ?_;refine dV 3 [4,5,6] ?_;refine dV 4 [5,6] ?_;refine d9 5 J [6] (u9 J) ((JJ J J J Om Om).as (congrArg _ (show(((qD (lA (lg E k)) (lB (lg E k)) hot).length:Int) - 1) = (((qD (lA (lg E k)) (lB (lg E k)) hot).length- 1:Nat) :Int) by omega))) ?_;refine dZ 6 J ((Kl J J J jw Om).as (WT _ _ _ _ _)) ?_;refine vg J Kr J ?_;refine JV (k:=2) J jw jH Dc J Dc J J J (fun w' hs=>IG (uu (hs.all 4 _ J).1 J) Om) (Ww _) (by unfold maxLen;omega) Om (jih _) (fun r1=> ?_);refine n9 ?_;refine Qx 10 [1] ?_;refine dK 8 ?_;refine qe (i:=9) J Dc Kr J ?_;refine S1 ?_;refine JO (uw [1] J) ?_;refine JK Kr ?_;refine S7 ?_
  exact Ji hL1 ((k+1,r1)) ((show k+1≤E.length by omega)) (by simp only;omega) ⟨vi Om,sz⟩ (fun _ h=> (h.picks [0,1,2,3] Dc).upto ⟨J,by rw [hstl],by rw [hstl,hst,jio],sz⟩)
 ·have hkE:k=E.length:=Om
  subst hkE
  refine S16 ?_;refine qv J (qh (k:=0) J JM J J) (.tmp J) ?_
  intro w' hs
  have hr:=hs.all 2 _ rfl
  exact⟨_,by rw [show decide ((E.length:Int) >0) =decide (0<E.length) from decide_eq_decide.2 Om],vv hr.1 (fun b hb=> (hr.2.1 b hb).elim id (fun h=>by cases h)),hs.fin⟩
theorem bareG.on {hot:List Pn} {rs:List jV} (h:bareG hot rs) {k:Nat} (hk:k<rs.length) :onHot hot (J0 (rg rs k))∧0< (J0 (rg rs k)).length∧(J0 (rg rs k)).length= (rg rs k).length:=by
 obtain ⟨hb,hm⟩ :bare (rg rs k)∧∀p∈rg rs k,p∈hot:=by have:=h rs[k] (jis hk);rwa [Wa hk] at this
 refine⟨fun l hl=> ?_,by rw [VR hb];exact hb.1,VR hb⟩
 rw [kz hb] at hl
 obtain ⟨d,hd,rfl⟩ :=jip.1 hl
 exact yY hb hm d hd
theorem ZM {hot xs:List Pn} (hx:xs.length≤400) (hm:hot.length≤1048576) : (kU hot xs).length≤419430400:=by
 rw [OZ]
 have h1:=KH xs xs.length
 have h2: (J0 xs).length≤400:=by unfold J0;omega
 have:=X9 (hot:=hot) (E:=J0 xs) (m:=1048576) hm _ (jih _)
 have h3: (J0 xs).length*1048576≤400*1048576:=Nat.mul_le_mul_right _ h2
 omega
theorem OS {hot:List Pn} {rs:List jV} {k:Nat} (h:k<rs.length) :rg (qR hot rs) k=kU hot (rg rs k) :=by simp [qR,rg,List.getD,h]
theorem vW (hot:List Pn) (rs:List jV) : (qR hot rs).length=rs.length:=by simp [qR]
theorem M9 (bb oo:Nat) (A:Option Addr) (n c:Nat) (rs:List jV) (B:Option Addr) (m d:Nat) (hot:List Pn) (w:World) (hcell0:w.cell? ⟨bb,oo,none⟩ =some (.slice A n c)) (hbb:bb<w.heap.size) (h:Rings w A n rs) (hr:JE rs=true)
  (hh:Pts w B m hot) (hm:m≤1048576) (hok:∀p∈hot,wR p.1 p.2=true) (hG:bareG hot rs) :
  Calls Tryz.prog 159 #[.pointer (some ⟨bb,oo,none⟩), .slice B m d] w fun e w'=>∃A' c',e= .returned (qT A' n c')∧OwnG w.heap.size w'.heap.size w' A' n (qR hot rs)∧Over w w':=by
 have hl:=h.1
 have hn40:=WR hr
 have hhl:=hh.1
 refine Jh (m:=38) (Tryz.func159) J J (lb J) ?_;refine S3 ?_;refine aL (fun b1=> ?_);refine N3 ?_;refine a9 (JU J J (qg)) ?_;refine S1 ?_;refine aL (fun b2=> ?_);refine N3 ?_;refine Q7 (T:=77) (s:=1) ?_;refine t9 ?_;refine Vq ?_;refine t9 ?_;refine S6 ?_;refine JQ (X:=Nat×(Option Addr×Nat)×List Pc) (fun x=>x.1≤n∧x.2.2.map (·.xs) = (qR hot rs).take x.1) (fun x=>n- x.1) (fun x=> [(6, .int .i64 (x.1:Int))]) (kK [0,1,4,5]) (fun x=> [.cel b1 26 [.slice none 0 0], .cel b2 26 [.slice x.2.1.1 x.1 x.2.1.2],JY (Bs.N ⟨w,[]⟩) 77 1 x.1 (x.2.2.map Pc.val) x.2.1,vE x.2.2]) (0,(none,0),[]) (⟨jii _,J⟩) ⟨J,sz⟩ (fun _ h=>h) ?_
 intro⟨k,⟨rA,rc⟩,l⟩ hx L hL1
 refine v9 ?_;refine r9 ?_
 obtain ⟨hk,hmp⟩ :k≤n∧l.map (·.xs) = (qR hot rs).take k:=hx
 have hlk:l.length=k:= (by have:=congrArg List.length hmp;rw [jit,jiy,vW] at this;omega)
 refine S7 ?_;refine a9 (jn J J JR (kI hcell0 hbb)) ?_;refine S3 ?_;refine cZ (fun c1=> ?_) (fun c1=> ?_)
 ·have hlt:k<n:=Om
  obtain ⟨eb,eo,Ak,ck,rfl,hbB,hcell,hpts,hmax⟩ :=h.at_ hlt
  have hpos:=Qf (Km hr (show k<rs.length by omega))
  obtain ⟨ho1,ho2,ho3⟩ :=hG.on (show k<rs.length by omega)
  have hsl:=ZM (hot:=hot) (xs:=rg rs k) Om Om
  refine S9 ?_;refine a9 (jn J J JR (kI hcell0 hbb)) ?_;refine S4 ?_;refine J4 LZ (v:=fun x:Option Addr×Nat=> .tuple #[.agg #[.slice x.1 (kU hot (rg rs k)).length x.2], .bool (decide (0< (J0 (rg rs k)).length))]) (r:=fun x=>JY 0 56 2 _ _ x) (H:=fun _=>True) J J J (lb J) (fun w1 hs=>jeV (So eb (eo+k*1) Ak _ ck (rg rs k) B m d hot w1 (by rw [jjf];exact Qm hcell hbB w1 hs) (jiu hbB hs.fin.size) (hpts.over hs.fin) Om (hh.over hs.fin) hm hok ho1)) ?_
  rintro⟨tA,tc⟩ -
  refine N4 ?_;refine aL (fun b3=> ?_);refine N8 ?_;refine TM J ((decide_eq_true ho2)) ?_;refine S5 ?_;refine Jx J J (qH J) J (lb J) (fun b4=> ?_);refine N1 ?_;refine JV (k:=2) J jK Jw Dc J Dc J J J (fun w' hs=>Qb hs (k:=6) J J) (by simp [Value.oneCell']) (by unfold maxLen;omega) Om (jih _) (fun r1=> ?_);refine N4 ?_;refine ZY 4 J J (fun clo chi=> ?_);refine t9 ?_;refine wN 3 4 J J Dc J ?_;refine t9 ?_;refine S7 ?_
  exact Ji hL1 ((k+1,r1,l++ [⟨kU hot (rg rs k),tA,tc,clo,chi⟩])) (⟨show k+1≤n by omega,by rw [jiO,hmp,wl (by rw [vW];omega),OS Om];rfl⟩) (by simp only;omega) ⟨vi Om,sz⟩ (fun _ h=> (h.picks [0,1,2,3] Dc).upto ⟨J,J,by rw [jiO];rfl,(vT _ _).symm,trivial⟩)
 ·have hkn:k=n:=Om
  subst hkn
  refine S12 ?_;refine jM J (qh (k:=0) J jG J J) ?_
  intro w' hs
  have hrs:l.map (·.xs) =qR hot rs:= (by rw [hmp,jiK (by rw [vW];omega)])
  exact⟨rA,rc,rfl,yZ hs (kr:=2) (kp:=3) rfl rfl Dc rfl hlk hrs (fun j hj=>by rw [vW] at hj;rw [OS hj];have:=Qf (Km hr hj);have:=ZM (hot:=hot) (xs:=rg rs j) Om Om;omega),hs.fin⟩
def WV (hot:List Pn) :Nat→List jV→Nat→Option (List jV×Nat)
 | 0,_,_=>none
 | f+1,rs,r=>if JE (qR hot rs) =false then none else if qR hot rs=rs then some (rs,r) else WV hot f (qR hot rs) (r+1)
def zn (hot:List Pn) (rs:List jV) :Option (List jV×Nat) :=WV hot 402 rs 0
structure StabI (hot:List Pn) (rs0 rs:List jV) (r:Nat) :Prop where
 eq:zn hot rs0=WV hot (402- r) rs r
 reg:JE rs=true
 bare:bareG hot rs
 cnt:r+cnt rs0≤cnt rs
theorem Is {hot:List Pn} {rs:List jV} (h:JE rs=true) (hb:bareG hot rs) :Go.Proofs.YtpncbbcmoiiipaaGreat.cnt rs≤400:=by
 rw [←Xk fun r hr=> (hb r hr).1]
 simp [JE] at h
 omega
theorem StabI.start {hot:List Pn} {rs:List jV} (h:JE rs=true) (hb:bareG hot rs) :StabI hot rs rs 0:=⟨rfl,h,hb,by omega⟩
theorem StabI.r_le {hot:List Pn} {rs0 rs:List jV} {r:Nat} (h:StabI hot rs0 rs r) :r≤400:=by
 have:=Is h.reg h.bare
 have:=h.cnt
 omega
theorem StabI.unf {hot:List Pn} {rs0 rs:List jV} {r:Nat} (h:StabI hot rs0 rs r) :zn hot rs0=if JE (qR hot rs) =false then none else if qR hot rs=rs then some (rs,r) else WV hot (402- (r+1)) (qR hot rs) (r+1) :=by
 have:=h.r_le
 rw [h.eq,show 402- r=402- (r+1) +1 by omega,WV]
theorem StabI.full {hot:List Pn} {rs0 rs:List jV} {r:Nat} (h:StabI hot rs0 rs r) (hb:JE (qR hot rs) =false) :zn hot rs0=none:=by rw [h.unf,if_pos hb]
theorem StabI.fin {hot:List Pn} {rs0 rs:List jV} {r:Nat} (h:StabI hot rs0 rs r) (he:qR hot rs=rs) :zn hot rs0=some (rs,r) :=by
 rw [h.unf,if_neg (by rw [he,h.reg];decide),if_pos he]
theorem StabI.step {hot:List Pn} {rs0 rs:List jV} {r:Nat} (hnd:hot.Nodup) (h:StabI hot rs0 rs r) (hb:JE (qR hot rs) =true) (he:qR hot rs≠rs) :StabI hot rs0 (qR hot rs) (r+1)∧Go.Proofs.YtpncbbcmoiiipaaGreat.cnt rs<Go.Proofs.YtpncbbcmoiiipaaGreat.cnt (qR hot rs) :=by
 obtain ⟨g1,g2⟩ :=ZN hnd h.bare
 have hlt:Go.Proofs.YtpncbbcmoiiipaaGreat.cnt rs<Go.Proofs.YtpncbbcmoiiipaaGreat.cnt (qR hot rs) :=Nat.lt_of_le_of_ne g1 fun e=>he (g2 e.symm)
 refine⟨⟨?_,hb,h.bare.snap hnd,?_⟩,hlt⟩
 ·rw [h.unf,if_neg (by rw [hb];decide),if_neg he]
 ·have:=h.cnt;omega
def jej (w:World) (n:Nat) (rs:List jV) (x:Bool×(Option Addr×Nat)×Nat×Nat) :Res:=
 if x.1=true then {F:=fun _=>False,P:=fun _=>Rings w x.2.1.1 n rs,low:=fun _ _ _ h=>h.elim,B:=0,dep:=fun _ _ h _ _=>h} else Ky n rs x.2.2.1 x.2.2.2 x.2.1.1
theorem RN {w w':World} {n:Nat} {rs:List jV} {x:Bool×(Option Addr×Nat)×Nat×Nat} (h: (jej w n rs x).P w') (hO:Over w w') :Rings w' x.2.1.1 n rs:=by
 unfold jej at h
 split at h
 ·exact(show Rings w x.2.1.1 n rs from h).over hO
 ·exact(UD h).rings
theorem jdV {w:World} {m:Nat} {env:List (Nat×Value)} {Rs:List Res} {K:Act→World→Prop} {A:Option Addr} {n c:Nat} {rs:List jV} (h0:Rings w A n rs) (h:At m env ⟨w,[]⟩ (Rs++ [jej w n rs (true,(A,c),0,0)]) K) :At m env ⟨w,[]⟩ Rs K:=
 fun a w1 hf hs=>h a w1 hf (hs.add (Over.refl _) (show Rings w A n rs from h0) (fun b hb=> (show False from hb).elim) ⟨jii _,fun _ _=>jii _⟩)
theorem jgZ {w:World} {Rs:List Res} {b o:Nat} {v:Value} (hc:w.cell? ⟨b,o,none⟩ =some v) (hb:b<w.heap.size) :∀w',St ⟨w,[]⟩ Rs w'→∀q u,[v][q]? =some u→w'.cell? ⟨b,o+q,none⟩ =some u:=fun w' hs q u hq=>by
 match q,hq with
 | 0,hq=>simp at hq;subst hq;exact Qm hc hb w' hs
def IK (hot:List Pn) (rs:List jV) :List jV:=match zn hot rs with
 | some x=>x.1
 | none=> []
def CV (hot:List Pn) (rs:List jV) :Int:=match zn hot rs with
 | some x=> (x.2:Int)
 | none=>0
def L6 (hot:List Pn) (rs:List jV) :Bool:= (zn hot rs).isSome
theorem IL {hot:List Pn} {rs:List jV} (h:zn hot rs=none) :IK hot rs= []∧CV hot rs=0∧L6 hot rs=false:=by simp [IK,CV,L6,h]
theorem wW {hot:List Pn} {rs ss:List jV} {r:Nat} (h:zn hot rs=some (ss,r)) :IK hot rs=ss∧CV hot rs= (r:Int)∧L6 hot rs=true:=by simp [IK,CV,L6,h]
theorem Z2 (bb oo:Nat) (A:Option Addr) (n c:Nat) (rs:List jV) (B:Option Addr) (m d:Nat) (hot:List Pn) (w:World) (hcell0:w.cell? ⟨bb,oo,none⟩ =some (.slice A n c)) (hbb:bb<w.heap.size) (h:Rings w A n rs) (hr:JE rs=true)
  (hh:Pts w B m hot) (hm:m≤1048576) (hok:∀p∈hot,wR p.1 p.2=true) (hnd:hot.Nodup) (hG:bareG hot rs) :
  Calls Tryz.prog 102 #[.pointer (some ⟨bb,oo,none⟩), .slice B m d] w fun e w'=>∃A' c',e= .returned (.tuple #[qT A' (IK hot rs).length c', .int .i64 (CV hot rs), .bool (L6 hot rs)])∧OwnG w.heap.size w'.heap.size w' A' (IK hot rs).length (IK hot rs)∧Over w w':=by
 have hl:=h.1
 subst hl
 have hn40:=WR hr
 refine Jh (m:=26) (Tryz.func102) J J (lb J) ?_;refine S3 ?_;refine aL (fun b1=> ?_);refine N7 ?_;refine a9 (jk J J jG J (jgZ hcell0 hbb)) ?_;refine S1 ?_;refine aL (fun b2=> ?_);refine N3 ?_;refine jdV (c:=c) h ?_;refine t9 ?_;refine S5 ?_;refine JQ (X:=Nat×List jV×Bool×(Option Addr×Nat)×Nat×Nat) (fun x=>StabI hot rs x.2.1 x.1) (fun x=>401- cnt x.2.1) (fun x=> [(8, .int .i64 (x.1:Int))]) (kK [1,4,5,6,7]) (fun x=> [.cel b1 26 [.slice none 0 0], .cel b2 26 [.slice x.2.2.2.1.1 x.2.1.length x.2.2.2.1.2],jej w x.2.1.length x.2.1 x.2.2]) (0,rs,true,(A,c),0,0) (StabI.start hr hG) ⟨J,sz⟩ (fun _ h=>h) ?_
 intro⟨r,ss,fl,⟨cA,cc⟩,clo,chi⟩ hx L hL1
 refine v9 ?_;refine r9 ?_
 have hx1:StabI hot rs ss r:=hx
 have hr400:=hx1.r_le
 have hs40:=WR hx1.reg
 refine S6 ?_;refine J4 xC (X:= (Option Addr×Nat)×Nat×Nat) (v:=fun x=>qT x.1.1 ss.length x.1.2) (r:=fun x=>Ky ss.length (qR hot ss) x.2.1 x.2.2 x.1.1) (H:=fun _=>True) J J J (lb J) (fun w1 hs=>KB (M9 b2 0 cA ss.length cc ss B m d hot w1 (qo (k:=1) J J w1 hs) (J3 (hs.cel (k:=1) J)) (RN (hs.all 2 _ J).1 hs.fin) hx1.reg (hh.over hs.fin) hm hok hx1.bare)) ?_
 rintro⟨⟨gA,gc⟩,glo,ghi⟩ -
 refine N1 ?_;refine aL (fun b3=> ?_);refine N6 ?_;refine a9 (jT vD J J (fun w1 hs=>GT b3 0 gA ss.length gc (qR hot ss) w1 (qo (k:=4) J J w1 hs) (J3 (hs.cel (k:=4) J)) (UD (hs.all 3 _ J).1).rings Om)) ?_;refine S2 ?_;refine cZ (fun c1=> ?_) (fun c1=> ?_)
 ·refine S2 ?_;refine a9 (JU J J (qg)) ?_;refine S11 ?_;refine L9 J (qh (k:=0) J jG J J) (.tmp J) (.tmp J) ?_
  intro w' hs
  obtain ⟨e1,e2,e3⟩ :=IL (hx1.full c1)
  exact⟨none,0,by rw [e1,e2,e3];rfl,by rw [e1];exact OwnG.nil none,hs.fin⟩
 ·refine S7 ?_;refine a9 (jT Wh J J (fun w1 hs=>Wj gA cA ss.length ss.length gc cc (qR hot ss) ss w1 (UD (hs.all 3 _ J).1).rings (RN (hs.all 2 _ J).1 hs.fin) (smallR.of c1).total (smallR.of hx1.reg).total)) ?_;refine S1 ?_;refine cZ (fun c2=> ?_) (fun c2=> ?_)
  ·refine S15 ?_;refine L9 J (qh (k:=0) J jG J J) (.tmp J) (.tmp J) ?_
   intro w' hs
   obtain ⟨e1,e2,e3⟩ :=wW (hx1.fin c2)
   have hg:=hs.all 3 _ rfl
   have ho:=GN hg.1 (fun b hb=> (hg.2.1 b hb).elim id (fun h=>by cases h))
   rw [c2] at ho
   exact⟨gA,gc,by rw [e1,e2,e3],by rw [e1];exact ho,hs.fin⟩
  ·obtain ⟨k1,k2⟩ :=hx1.step hnd c1 c2
   have hc4:=Is k1.reg k1.bare
   refine S14 ?_
   exact Ji hL1 ((r+1,qR hot ss,false,(gA,gc),glo,ghi)) (k1) (by simp only;omega) ⟨vi Om,sz⟩ (fun _ h=> (h.picks [0,1,3] Dc).upto ⟨J,by rw [vW],by rw [vW];rfl,trivial⟩)
end Go.Proofs.YtpncbbcmoiiipaaGreat
