import Derived.Test.YtbahojdbmmjkcaaGreatSOn
import Derived.Test.YtbahojdbmmjkcaaGreatSEnds
import Derived.Test.YtbahojdbmmjkcaaGreatSTo
import Derived.Test.YtbahojdbmmjkcaaGreatSCmp
set_option linter.unusedVariables false
set_option linter.unusedSimpArgs false
namespace Go.Proofs.YtbahojdbmmjkcaaGreat
open Go Go.RowKit
variable {A:Option Addr} {E:List Leg} {K:Act→World→Prop} {Rs:List Res} {args:Array Value} {b k n r:Nat} {env:List (Nat×Value)} {hot xs ys:List Pn} {rs rs0:List Jp} {w:World} {x:Bool×(Option Addr×Nat)×Nat×Nat}
set_option maxRecDepth 100000
set_option maxHeartbeats 4000000
set_option maxHeartbeats 1000000 in
set_option maxRecDepth 100000 in
theorem xD (A B:Option Addr) (n m c d:Nat) (rs ss:List Jp) (w:World) (h:Rings w A n rs) (h':Rings w B m ss) (ht: (total rs:Int)≤1048576) (ht': (total ss:Int)≤1048576) :
  Calls Tryz.prog 103 #[qG A n c,qG B m d] w fun e w'=>e= .returned (.bool (decide (rs=ss)))∧Over w w':=by
 have hl:=Lib.hid h.1
 have hl':=Lib.hid h'.1
 have hn: (n:Int)≤1048576:=by have:=hl.out;unfold total at ht;omega
 have hm: (m:Int)≤1048576:=by have:=hl'.out;unfold total at ht';omega
 have Ht:=Lib.hid (And.intro ht ht')
 clear ht ht'
 by_cases hnm:n=m
 ·subst hnm
  have hq: ((n:Int) != (n:Int)) =false:=by simp
  go_enter Tryz.func103,Tryz.ntmps103
  go_wp2
  go_loopw [5] (fun i wr=>∃k:Nat,k≤n∧i= .int .i64 k∧Over ((w.alloc (.cells #[.slice A n c] 26)).alloc (.cells #[.slice B n d] 26)) wr∧Hid (∀j,j<k→rg rs j=rg ss j)) (fun i _=>n- (intOf i).toNat)
  case atStart=>exact⟨0,jie _,rfl,Over.refl _,fun j hj=>absurd hj Om⟩
  case round=>
   rename_i wr
   obtain ⟨k,hk,rfl,hb,hall⟩ :=hrel
   have hO:Over w wr:= (Over.alloc_ (Over.alloc _ _) _).trans hb
   have x1:wr.cell? ⟨w.heap.size,0,none⟩ =some (.slice A n c) :=by
    rw [(Jr hb).1 _ _ (by simp;omega),(Jr (Over.alloc _ _)).1 _ _ (by simp)]
    exact Y5 _ _ _ _
   have x2:wr.cell? ⟨w.heap.size+1,0,none⟩ =some (.slice B n d) :=by
    rw [(Jr hb).1 _ _ (by simp)]
    simp
   have z2:w.heap.size+1<wr.heap.size:=jio (by simp) hb.size
   have z1:w.heap.size<wr.heap.size:=by omega
   by_cases hlt:k<n
   ·obtain ⟨b,o,Ak,ck,rfl,hbB,hcell,hpts,hmax⟩ := (h.over hO).at_ hlt
    obtain ⟨b',o',Ak',ck',rfl,hbB',hcell',hpts',_⟩ := (h'.over hO).at_ hlt
    have hr: ((rg rs k).length:Int)≤1048576:=by have:=Ht.out;have:=Vu rs (k:=k) (by rw [hl.out];exact hlt);omega
    have hr': ((rg ss k).length:Int)≤1048576:=by have:=Ht.out;have:=Vu ss (k:=k) (by rw [hl'.out];exact hlt);omega
    have Hb:=Lib.hid hb
    have HP:=Lib.hid (And.intro hpts hpts')
    clear h h' hb hO hmax hpts hpts'
    by_cases he:rg rs k=rg ss k
    ·have hd:decide (rg rs k=rg ss k) =true:=decide_eq_true he
     have hs:Hid (∀j,j<k+1→rg rs j=rg ss j) :=by
      intro j hj
      by_cases hjk:j=k
      ·subst hjk;exact he
      ·exact hall.out j Om
     have Hd:=Lib.hid hd
     clear hd he hall
     go_wp2
     refine QN (B:=ob _) (Over.refl _) Kr (by simp only [ji1,jij,jiw,Nat.reduceAdd];rfl) (fun hBW=> ?_);refine i8 0 ?_;refine i8 1 ?_;refine i8 2 ?_;refine i8 3 ?_;refine i8 4 ?_;refine i8 5 ?_;refine i8 6 ?_;refine i8 7 ?_;refine i8 8 ?_;refine i8 9 ?_;refine i8 10 ?_;refine i8 11 ?_;refine w9 12 (hy:=fun wx hS=>by(go_simp;refine(zr _ _ _ _ _ _ (rg rs k) (rg ss k) _ (HP.out.1.over hS) (HP.out.2.over hS) hr hr').mono ?_;rw [Hd.out];rintro e w1 ⟨rfl,hb1⟩;exact⟨rfl,hb1⟩)) (h:= ?_)
     simp only [Act.put,qC,jN,jO]
     refine i8 13 ?_
     refine QM Kr (fun w2 h2=> ?_) _
     try clear hBW
     have HO:=Lib.hid (Hb.out.trans h2)
     clear h2
     go_wp2
     go_roundw
     case rel=>exact⟨k+1,by omega,by go_num,HO.out,hs⟩
     case measure=>simp [intOf];omega
    ·have hd:decide (rg rs k=rg ss k) =false:=decide_eq_false he
     have hq:Hid (decide (rs=ss) =false) :=decide_eq_false (fun e=>he (by rw [e]))
     have Hd:=Lib.hid hd
     clear hd he hall
     go_wp2
     refine QN (B:=ob _) (Over.refl _) Kr (by simp only [ji1,jij,jiw,Nat.reduceAdd];rfl) (fun hBW=> ?_);refine i8 0 ?_;refine i8 1 ?_;refine i8 2 ?_;refine i8 3 ?_;refine i8 4 ?_;refine i8 5 ?_;refine i8 6 ?_;refine i8 7 ?_;refine i8 8 ?_;refine i8 9 ?_;refine i8 10 ?_;refine i8 11 ?_;refine w9 12 (hy:=fun wx hS=>by(go_simp;refine(zr _ _ _ _ _ _ (rg rs k) (rg ss k) _ (HP.out.1.over hS) (HP.out.2.over hS) hr hr').mono ?_;rw [Hd.out];rintro e w1 ⟨rfl,hb1⟩;exact⟨rfl,hb1⟩)) (h:= ?_)
     simp only [Act.put,qC,jN,jO]
     refine i8 13 ?_
     refine QM Kr (fun w2 h2=> ?_) _
     try clear hBW
     have HO:=Lib.hid ((Over.alloc_ (Over.alloc _ _) _).trans (Hb.out.trans h2))
     clear h2
     go_wp2
     go_ret
     exact⟨by rw [hq.out];rfl,HO.out⟩
   ·have hkn:k=n:=by omega
    have hq:Hid (decide (rs=ss) =true) :=decide_eq_true (jaN (by rw [hl.out,hl'.out]) (fun j hj=>hall.out j (by rw [hl.out] at hj;omega)))
    clear h h' hall hl hl' hb
    go_wp2
    go_ret
    exact⟨by rw [hq.out];rfl,hO⟩
 ·have hq: ((n:Int) != (m:Int)) =true:=by simp;omega
  have hv:Hid (decide (rs=ss) =false) :=decide_eq_false (fun e=>hnm (by rw [←hl.out,←hl'.out,e]))
  clear h h' hl hl'
  go_enter Tryz.func103,Tryz.ntmps103
  go_wp2
  go_ret
  exact⟨by rw [hv.out];rfl,ov9⟩
theorem jft {ls:List Leg} {j:Nat} (h:j<ls.length) : ((ls.map lA).take (j+1)).flatMap jV= ((ls.map lA).take j).flatMap jV++ [.int .i64 (lg ls j).ax, .int .i64 (lg ls j).ay] :=by
 rw [jik (by simpa using h),jii]
 simp [jV,lA,lg,List.getD,h]
theorem xg (hr:J0 rs=true) {r:Jp} (h:r∈vg rs k) :r.length≤400:=by
 obtain ⟨_,q,hq,rfl⟩ :=Z5 h
 obtain ⟨i,hi,e⟩ :=jiU hq
 have:=Qz (VK hr hi)
 rw [Wc hi] at e
 rw [e] at this
 have:=SN q q.length
 unfold vc
 omega
theorem jhG {a:Nat} (h: (px xs a==px ys b&&py xs a==py ys b) =false) :pt xs a≠pt ys b:=fun e=>by
 injection e with e1 e2
 simp [e1,e2] at h
theorem jfT {a:Nat} (h: (px xs a==px ys b&&py xs a==py ys b) =true) :pt xs a=pt ys b:=by
 simp at h
 exact Prod.ext h.1 h.2
theorem yv {w':World} (hs:St ⟨w,[]⟩ Rs w') {kr kp B T:Nat} {l:List Pc} {x:Option Addr×Nat} (hr:Rs[kr]? =some (JS B T 1 n (l.map Pc.val) x)) (hp:Rs[kp]? =some (vu l)) (hne:kr≠kp) (_e:w=w) (hl:l.length=n) (hrs:l.map (·.xs) =rs) (hm:∀j,j<rs.length→(rg rs j).length≤1099511627776) :OwnG w.heap.size w'.heap.size w' x.1 n rs:=by
 have hrow:w'.ownsRow B T 1 (.slice x.1 n x.2) n (l.map Pc.val) := (hs.all kr _ hr).1
 have hX:=hs.all kp _ hp
 rcases hrow.2 with⟨_,e⟩ |⟨g,cap,cur,e,hb,hg,hcap,hmax,hsz,htk⟩
 ·subst e
  obtain rfl:l= [] :=jiE hl
  subst hrs
  exact OwnG.nil _
 ·injection e with e1 e2 e3
  rw [e1]
  have hF: (JS B T 1 n (l.map Pc.val) x).F g:=by show Value.ownBlock (.slice x.1 n x.2) =some g;rw [e1];rfl
  have hown:=CN (lo:=w.heap.size) (o:=0) hg (((hs.all kr _ hr).2.1 g hF).elim id (fun h=>by cases h)) (fun j hj=> ?_) hX.1 (fun h=>hs.apart kr kp _ _ hne hr hp g hF h) (fun q hq=> (hX.2.1 q hq).elim id (fun h=>by cases h)) (fun e he=> ?_)
  ·rw [hrs,hl] at hown
   exact hown
  ·have hc:cur[j]? = (l.map Pc.val)[j]? :=by rw [←htk,List.getElem?_take,if_pos Om];simp
   rw [jiB,hc]
   simp [hj]
  ·have:e.xs∈rs:=hrs▸jiD.2 ⟨e,he,rfl⟩
   obtain ⟨j,hj,e2⟩ :=jiU this
   have:=hm j hj
   rw [←Wc hj,e2] at this
   omega
theorem HK (bb oo:Nat) (A:Option Addr) (n c:Nat) (rs:List Jp) (w:World) (hcell0:w.cell? ⟨bb,oo,none⟩ =some (.slice A n c)) (hbb:bb<w.heap.size) (h:Rings w A n rs) (hr:J0 rs=true) :
  Calls Tryz.prog 49 #[.pointer (some ⟨bb,oo,none⟩)] w fun e w'=>∃A' c',e= .returned (qG A' (qh rs).length c')∧OwnG w.heap.size w'.heap.size w' A' (qh rs).length (qh rs)∧Over w w':=by
 have hl:=h.1
 have hn40:=UL hr
 refine jK (m:=52) (Tryz.func49) J J (lb J) ?_;refine S3 ?_;refine aL (fun b1=> ?_);refine N3 ?_;refine a9 (JF J J (JJ)) ?_;refine S1 ?_;refine aL (fun b2=> ?_);refine N3 ?_;refine Q7 (T:=74) (s:=1) ?_;refine t9 ?_;refine Vl ?_;refine t9 ?_;refine S6 ?_;refine JE (X:=Nat×(Option Addr×Nat)×List Pc) (fun x=>x.1≤n∧x.2.2.map (·.xs) =vg rs x.1) (fun x=>n- x.1) (fun x=> [(4, .int .i64 (x.1:Int))]) (kK [0,2,3]) (fun x=> [.cel b1 26 [.slice none 0 0], .cel b2 26 [.slice x.2.1.1 x.2.2.length x.2.1.2],JS (Bs.N ⟨w,[]⟩) 74 1 x.2.2.length (x.2.2.map Pc.val) x.2.1,vu x.2.2]) (0,(none,0),[]) (⟨jie _,J⟩) ⟨J,sz⟩ (fun _ h=>h) ?_
 intro⟨k,⟨rA,rc⟩,l⟩ hx L hL1
 refine v9 ?_;refine r9 ?_
 obtain ⟨hk,hmp⟩ :k≤n∧l.map (·.xs) =vg rs k:=hx
 have hlk:l.length= (vg rs k).length:= (by have:=congrArg List.length hmp;rwa [jip] at this)
 have hlen:=Z4 rs k
 refine S7 ?_;refine a9 (jq J J J3 (kH hcell0 hbb)) ?_;refine S3 ?_;refine cZ (fun c1=> ?_) (fun c1=> ?_)
 ·have hlt:k<n:=Om
  obtain ⟨eb,eo,Ak,ck,rfl,hbB,hcell,hpts,hmax⟩ :=h.at_ hlt
  have hpos:=Qz (VK hr (show k<rs.length by omega))
  obtain ⟨E,hE⟩ :∃E,E=qf (rg rs k) :=⟨_,rfl⟩
  have hEl:E.length≤400:= (by rw [hE];have:=KB (rg rs k) (rg rs k).length;unfold qf;omega)
  have hkp:vc (rg rs k) =E.map lA:= (by rw [hE];rfl)
  have hkl: (vc (rg rs k)).length=E.length:= (by rw [hkp,jip])
  refine S9 ?_;refine a9 (jq J J J3 (kH hcell0 hbb)) ?_;refine S3 ?_;refine JQ yt (v:=fun x=> .slice x.1 _ x.2) (r:=fun x=>JS 0 147 4 _ _ x) (H:=fun _=>True) J J J (lb J) (fun w1 hs=>qI ((y7 eb (eo+k*1) Ak _ ck (rg rs k) w1 (by rw [jja];exact Qb hcell hbB w1 hs) (jio hbB hs.fin.size) (hpts.over hs.fin) Om).mono fun e w' ⟨v,h1,_,h2,h3⟩ =>⟨v,h1,h2,h3⟩)) ?_
  rintro⟨eA,ec⟩ -
  refine N4 ?_;refine a9 (JF J J (Wd)) ?_;refine S1 ?_;refine aL (fun b3=> ?_);refine N3 ?_;refine Q7 (T:=28) (s:=2) ?_;refine t9 ?_
  rw [←hE]
  refine S6 ?_;refine JE (X:=Nat×Option Addr×Nat) (fun y=>y.1≤E.length) (fun y=>E.length- y.1) (fun y=> [(7, .int .i64 (y.1:Int))]) (kK [0,2,3,4,9,10,11,12,13,14,15,18,19,20,21,22,23,24,5,25,6]) (fun y=> [.cel b1 26 [.slice none 0 0], .cel b2 26 [.slice rA l.length rc],JS (Bs.N ⟨w,[]⟩) 74 1 l.length (l.map Pc.val) (rA,rc),vu l,JS 0 147 4 E.length (E.flatMap Je) (eA,ec), .cel b3 74 [.slice y.2.1 y.1 y.2.2],JS (Bs.N ⟨w,[]⟩) 28 2 y.1 (((E.map lA).take y.1).flatMap jV) y.2]) (0,none,0) (jie _) ⟨J,sz⟩ (fun _ h=>h) ?_
  intro⟨j,qA,qc⟩ hy L hL2
  refine v9 ?_;refine r9 ?_
  have hj:j≤E.length:=hy
  refine S8 ?_;refine cZ (fun c2=> ?_) (fun c2=> ?_)
  ·have hjl:j<E.length:=Om
   refine qR (fun w hs=>kI (k:=4) J hs Om) ?_
   rintro⟨eg,rfl⟩
   refine S5 ?_;refine JH 8 ?_;refine dV 0 [1] ?_;refine dK 1 ?_;refine dV 2 [4,5,6,7] ?_;refine dV 3 [4,5,6,7] ?_;refine dV 4 [5,6,7] ?_;refine dV 5 [6,7] ?_;refine d9 6 J [7] (u9 J) (jk J J jj J (Qq (b:=eg) (o:=0) (vJ (k:=4) (x:= (some ⟨eg,0,none⟩,ec)) (ls:=E) J J) hjl)) ?_;refine qd (i:=7) J Dc Kr J ?_;refine jX J J (J9 J) J (lb J) (fun b4=> ?_);refine n9 ?_;refine JU (u9 J) ?_;refine kN J Kr J ?_;refine JK (k:=6) J jl jD Dc J Dc J J J (fun w' hs=>qD hs (k:=7) J J) (by simp [Value.oneCell']) (by unfold maxLen;omega) Om (jif _) (fun r1=> ?_);refine n9 ?_;refine Q0 11 [5] ?_;refine dK 9 ?_;refine qd (i:=10) J Dc Kr J ?_;refine S1 ?_;refine JU (uw [5] J) ?_;refine JB Kr ?_;refine S7 ?_
   exact Jd hL2 ((j+1,r1)) ((show j+1≤E.length by omega)) (by simp only;omega) ⟨vi Om,sz⟩ (fun _ h=>h.upto ⟨J,J,J,J,J,J,by rw [jft hjl],trivial⟩)
  ·have hje:j=E.length:=Om
   subst hje
   rw [jiu (by rw [jip];omega),←hkp]
   refine S11 ?_;refine cZ (fun c3=> ?_) (fun c3=> ?_)
   ·have hpl:0< (vc (rg rs k)).length:=Om
    refine S5 ?_;refine jX J J (qN J) J (lb J) (fun b5=> ?_);refine N1 ?_;refine JK (k:=2) J jS JA Dc J Dc J J J (fun w' hs=>qD hs (k:=7) J J) (by simp [Value.oneCell']) (by unfold maxLen;omega) Om (jif _) (fun r2=> ?_);refine N4 ?_;refine ZM 6 J hkl (fun clo chi=> ?_);refine t9 ?_;refine Wb 3 6 J J Dc J ?_;refine t9 ?_;refine S7 ?_
    exact Jd hL1 ((k+1,r2,l++ [⟨vc (rg rs k),qA,qc,clo,chi⟩])) (⟨show k+1≤n by omega,by rw [jiG,hmp,yP Om hpl];rfl⟩) (by simp only;omega) ⟨vi Om,sz⟩ (fun _ h=> (h.picks [0,1,2,3] Dc).upto ⟨J,by rw [jid];rfl,by rw [jiG,jid];simp [Pc.val,hkl],(vZ _ _).symm,trivial⟩)
   ·refine S8 ?_
    exact Jd hL1 ((k+1,(rA,rc),l)) (⟨show k+1≤n by omega,by rw [hmp,Zl Om Om]⟩) (by simp only;omega) ⟨vi Om,sz⟩ (u9 J)
 ·have hkn:k=rs.length:=Om
  subst hkn
  refine S12 ?_;refine jJ J (JZ (k:=0) J jE J J) ?_
  intro w' hs
  have hrs:l.map (·.xs) =qh rs:=hmp
  have hbl: (qh rs).length=l.length:=hlk.symm
  exact⟨rA,rc,by rw [hbl],by rw [hbl];exact yv hs (kr:=2) (kp:=3) rfl rfl Dc rfl rfl hrs (fun j hj=>by have:=xg hr (jir hj);rw [Wc hj] at this;omega),hs.fin⟩
theorem Yr (A:Option Addr) (n c:Nat) (rs:List Jp) (w:World) (h:Rings w A n rs) (hr:J0 rs=true) :
  Calls Tryz.prog 54 #[qG A n c] w fun e w'=>∃A' c',e= .returned (qG A' (qh rs).length c')∧OwnG w.heap.size w'.heap.size w' A' (qh rs).length (qh rs)∧Over w w':=by
 have hl:=h.1
 have hn40:=UL hr
 refine jK (m:=53) (Tryz.func54) J J (lb J) ?_;refine S3 ?_;refine aX (fun b1=> ?_);refine N1 ?_;refine aL (fun b2=> ?_);refine N4 ?_;refine aL (fun b3=> ?_);refine N1 ?_;refine Q7 (T:=74) (s:=1) ?_;refine t9 ?_;refine Vl ?_;refine t9 ?_;refine S9 ?_;refine JE (X:=Nat×(Option Addr×Nat)×List Pc) (fun x=>x.1≤n∧x.2.2.map (·.xs) =vg rs x.1) (fun x=>n- x.1) (fun x=> [(12, .int .i64 (x.1:Int))]) (kK [2,3,10,11]) (fun x=> [.cel b1 26 [.slice A n c], .cel b2 26 [.slice none 0 0], .cel b3 26 [.slice x.2.1.1 x.2.2.length x.2.1.2],JS (Bs.N ⟨w,[]⟩) 74 1 x.2.2.length (x.2.2.map Pc.val) x.2.1,vu x.2.2]) (0,(none,0),[]) (⟨jie _,J⟩) ⟨J,sz⟩ (fun _ h=>h) ?_
 intro⟨k,⟨rA,rc⟩,l⟩ hx L hL1
 refine v9 ?_;refine r9 ?_
 obtain ⟨hk,hmp⟩ :k≤n∧l.map (·.xs) =vg rs k:=hx
 have hlk:l.length= (vg rs k).length:= (by have:=congrArg List.length hmp;rwa [jip] at this)
 have hlen:=Z4 rs k
 refine S5 ?_;refine cZ (fun c1=> ?_) (fun c1=> ?_)
 ·have hlt:k<n:=Om
  obtain ⟨eb,eo,Ak,ck,rfl,hbB,hcell,hpts,hmax⟩ :=h.at_ hlt
  have hpos:=Qz (VK hr (show k<rs.length by omega))
  obtain ⟨pb,po,rfl,_⟩ :=hpts.2 hpos.1
  obtain ⟨xs,hxs⟩ :∃xs,xs=rg rs k:=⟨_,rfl⟩
  rw [←hxs] at hpts hpos hcell
  have hkl:=fun j=>SN xs j
  refine S7 ?_;refine a9 (jk J J JW J (OX hcell hbB)) ?_;refine S1 ?_;refine aL (fun b4=> ?_);refine N6 ?_;refine Q7 (T:=28) (s:=2) ?_;refine N10 ?_;refine JE (X:=Nat×Option Addr×Nat) (fun y=>y.1≤xs.length) (fun y=>xs.length- y.1) (fun y=> [(6, .slice y.2.1 (Wf xs y.1).length y.2.2),(19, .int .i64 (y.1:Int))]) (kK [2,3,10,11,12,13,14,15,5,16,17,18]) (fun y=> [.cel b1 26 [.slice (some ⟨eb,eo,none⟩) n c], .cel b2 26 [.slice none 0 0], .cel b3 26 [.slice rA l.length rc],JS (Bs.N ⟨w,[]⟩) 74 1 l.length (l.map Pc.val) (rA,rc),vu l, .cel b4 74 [.slice (some ⟨pb,po,none⟩) xs.length ck],JS (Bs.N ⟨w,[]⟩) 28 2 (Wf xs y.1).length ((Wf xs y.1).flatMap jV) y.2]) (0,none,0) (jie _) ⟨J,sz⟩ (fun _ h=>h) ?_
  intro⟨j,qA,qc⟩ hy L hL2
  refine v9 ?_;refine r9 ?_
  have hj:j≤xs.length:=hy
  have hkj:=hkl j
  refine S5 ?_;refine cZ (fun c2=> ?_) (fun c2=> ?_)
  ·have hjl:j<xs.length:=Om
   have hnx:nx xs j<xs.length:=Nat.mod_lt _ Om
   refine S8 ?_;refine a9 (jk J J jj J (Q4 (b:=pb) (o:=po) hpts hjl)) ?_;refine S1 ?_;refine aL (fun b5=> ?_);refine N6 ?_;refine JH 12 ?_;refine dK 0 ?_;refine dK 1 ?_;refine dK 2 ?_;refine dK 3 ?_;refine dK 4 ?_;refine dK 5 ?_;refine dK 6 ?_;refine dK 7 ?_;refine dZ 8 J ((IW J J J Om Om Om).as (congrArg _ (jeZ (xs:=xs) J j))) ?_;refine dZ 9 J (jH (j:=nx xs j) J J J jl Om) ?_;refine dZ 10 J (jk J J jj J (Q4 (b:=pb) (o:=po) hpts hnx)) ?_;refine dK 11 ?_;refine JB Kr ?_;refine S1 ?_;refine cZ (fun c3=> ?_) (fun c3=> ?_)
   ·have hne:pt xs j≠pt xs (nx xs j) :=jhG c3
    refine S4 ?_;refine jX J J (J9 J) J (lb J) (fun b6=> ?_);refine N1 ?_;refine JK (k:=6) J jl jD Dc J Dc J J J (fun w' hs=>qD hs (k:=8) J J) (by simp [Value.oneCell']) (by unfold maxLen;omega) Om (jif _) (fun r1=> ?_);refine N8 ?_
    exact Jd hL2 ((j+1,r1)) ((show j+1≤xs.length by omega)) (by simp only;omega) ⟨(by rw [M1 hne,jid];rfl),vi Om,sz⟩ (fun _ h=>h.upto ⟨J,J,J,J,J,J,by rw [M1 hne,jid,jii];rfl,trivial⟩)
   ·refine S7 ?_
    exact Jd hL2 ((j+1,qA,qc)) ((show j+1≤xs.length by omega)) (by simp only;omega) ⟨(by rw [DY (jfT c3)];rfl),vi Om,sz⟩ (fun _ h=>h.upto ⟨J,J,J,J,J,J,by rw [DY (jfT c3)],trivial⟩)
  ·have hje:j=xs.length:=Om
   subst hje
   rw [show Wf xs xs.length=vc xs from rfl]
   refine S11 ?_;refine cZ (fun c4=> ?_) (fun c4=> ?_)
   ·have hpl:0< (vc xs).length:=Om
    refine S4 ?_;refine a9 (JF J J (KW J)) ?_;refine S1 ?_;refine jX J J (qN J) J (lb J) (fun b7=> ?_);refine N1 ?_;refine JK (k:=3) J jS JA Dc J Dc J J J (fun w' hs=>qD hs (k:=7) J J) (by simp [Value.oneCell']) (by unfold maxLen;omega) Om (jif _) (fun r2=> ?_);refine N4 ?_;refine ZM 6 J J (fun clo chi=> ?_);refine t9 ?_;refine Wb 4 6 J J Dc J ?_;refine t9 ?_;refine S6 ?_
    exact Jd hL1 ((k+1,r2,l++ [⟨vc xs,qA,qc,clo,chi⟩])) (⟨show k+1≤n by omega,by rw [jiG,hmp,yP Om (hxs▸hpl),hxs];rfl⟩) (by simp only;omega) ⟨vi Om,sz⟩ (fun _ h=> (h.picks [0,1,2,3,4] Dc).upto ⟨J,J,by rw [jid];rfl,by rw [jiG,jid];rfl,(vZ _ _).symm,trivial⟩)
   ·refine S7 ?_
    exact Jd hL1 ((k+1,(rA,rc),l)) (⟨show k+1≤n by omega,by rw [hmp,Zl Om (by rw [←hxs];omega)]⟩) (by simp only;omega) ⟨vi Om,sz⟩ (u9 J)
 ·have hkn:k=rs.length:=Om
  subst hkn
  refine S12 ?_;refine jJ J (JZ (k:=1) J jE J J) ?_
  intro w' hs
  have hrs:l.map (·.xs) =qh rs:=hmp
  have hbl: (qh rs).length=l.length:=hlk.symm
  exact⟨rA,rc,by rw [hbl],by rw [hbl];exact yv hs (kr:=3) (kp:=4) rfl rfl Dc rfl rfl hrs (fun j hj=>by have:=xg hr (jir hj);rw [Wc hj] at this;omega),hs.fin⟩
def Ux (hot:List Pn) (E:List Leg) (k:Nat) :List Pn:= (E.take k).flatMap fun l=>kT hot (lA l,lB l)
theorem He (h:k<E.length) :Ux hot E (k+1) =Ux hot E k++kT hot (lA (lg E k),lB (lg E k)) :=by
 unfold Ux
 rw [jik h,jii]
 simp [lg,List.getD,h]
theorem jaB (hot:List Pn) (e:Pn×Pn) : (kT hot e).length≤hot.length:=by
 unfold kT
 rw [List.length_dropLast,um]
 have:=X1 e.1 e.2 hot
 omega
theorem XV {hot:List Pn} {E:List Leg} {m:Nat} (hm:hot.length≤m) :∀k,k≤E.length→(Ux hot E k).length≤k*m
 | 0,_=>by simp [Ux]
 | k+1,hk=>by
  have:=XV (E:=E) hm k Om
  have:=jaB hot (lA (lg E k),lB (lg E k))
  rw [He Om,jid,Nat.succ_mul]
  omega
theorem O8 (hot xs:List Pn) :KD hot xs=Ux hot (qf xs) (qf xs).length:=by unfold KD Ux;rw [jiM]
def onHot (hot:List Pn) (E:List Leg) :Prop:=∀l∈E,lA l≠lB l∧lA l∈hot∧lB l∈hot
theorem onHot.at_ (h:onHot hot E) (hk:k<E.length) :lA (lg E k)≠lB (lg E k)∧lA (lg E k)∈hot∧lB (lg E k)∈hot:=by
 have:=h E[k] (jir hk)
 have e:lg E k=E[k] :=by simp [lg,List.getD,hk]
 rw [e]
 exact this
theorem jeU {P:Program} {f:FuncId} {w1:World} {T s:Nat} {xs:List Value} {b:Bool} (h:Calls P f args w1 fun e w'=>∃v,e= .returned (.tuple #[.agg #[v], .bool b])∧w'.ownsRow w1.heap.size T s v n xs∧Over w1 w') :
  Calls P f args w1 fun e w'=>∃x:Option Addr×Nat,e= .returned (.tuple #[.agg #[.slice x.1 n x.2], .bool b])∧Over w1 w'∧(JS 0 T s n xs x).P w'∧(∀b,(JS 0 T s n xs x).F b→w1.heap.size≤b)∧(JS 0 T s n xs x).B=0∧True:=by
 refine h.mono ?_
 rintro e w' ⟨v,rfl,hr,hO⟩
 obtain ⟨x,rfl⟩ :=W2 hr
 exact⟨x,rfl,hO,wo hr (jie _),fun b hb=> (hr.lt b hb).1,sz⟩
theorem SV (bb oo:Nat) (A:Option Addr) (n c:Nat) (xs:List Pn) (B:Option Addr) (m d:Nat) (hot:List Pn) (w:World) (hcell:w.cell? ⟨bb,oo,none⟩ =some (.slice A n c)) (hbb:bb<w.heap.size) (h:Pts w A n xs) (hn: (n:Int)≤1048577) (hh:Pts w B m hot) (hm:m≤1048576) (hok:∀p∈hot,wX p.1 p.2=true) (hE:onHot hot (qf xs)) :
  Calls Tryz.prog 155 #[.pointer (some ⟨bb,oo,none⟩), .slice B m d] w fun e w'=>∃v,e= .returned (.tuple #[.agg #[v], .bool (decide (0< (qf xs).length))])∧w'.ownsRow w.heap.size 28 2 v (KD hot xs).length ((KD hot xs).flatMap jV)∧Over w w':=by
 have hl:=h.1
 have hhl:=hh.1
 obtain ⟨E,hEe⟩ :∃E,E=qf xs:=⟨_,rfl⟩
 have hEl:E.length≤1048577:=by rw [hEe];have:=KB xs xs.length;unfold qf;omega
 rw [O8,←hEe]
 rw [←hEe] at hE
 refine jK (m:=44) (Tryz.func155) J J (lb J) ?_;refine S3 ?_;refine aL (fun b1=> ?_);refine N4 ?_;refine a9 (JF J J (Wd)) ?_;refine S1 ?_;refine aL (fun b2=> ?_);refine N3 ?_;refine Q7 (T:=28) (s:=2) ?_;refine t9 ?_;refine S4 ?_;refine JQ yt (v:=fun x=> .slice x.1 _ x.2) (r:=fun x=>JS 0 147 4 _ _ x) (H:=fun _=>True) J J J (lb J) (fun w1 hs=>qI ((y7 bb oo A n c xs w1 (Qb hcell hbb w1 hs) (jio hbb hs.fin.size) (h.over hs.fin) hn).mono fun e w' ⟨v,h1,_,h2,h3⟩ =>⟨v,h1,h2,h3⟩)) ?_
 rintro⟨eA,ec⟩ -
 refine N7 ?_
 rw [←hEe]
 refine S1 ?_;refine JE (X:=Nat×Option Addr×Nat) (fun x=>x.1≤E.length) (fun x=>E.length- x.1) (fun x=> [(8, .int .i64 (x.1:Int))]) (kK [1,4,5,6,7]) (fun x=> [.cel b1 74 [.slice none 0 0], .cel b2 74 [.slice x.2.1 (Ux hot E x.1).length x.2.2],JS (Bs.N ⟨w,[]⟩) 28 2 (Ux hot E x.1).length ((Ux hot E x.1).flatMap jV) x.2,JS 0 147 4 E.length (E.flatMap Je) (eA,ec)]) (0,none,0) (jie _) ⟨J,sz⟩ (fun _ h=>h) ?_
 intro⟨k,rA,rc⟩ hx L hL1
 refine v9 ?_;refine r9 ?_
 have hk:k≤E.length:=hx
 have hsn:=XV (hot:=hot) (E:=E) (m:=1048576) Om k hk
 refine S8 ?_;refine cZ (fun c1=> ?_) (fun c1=> ?_)
 ·have hlt:k<E.length:=Om
  obtain ⟨g1',g2',g3'⟩ :=hE.at_ hlt
  obtain ⟨mid,hmid⟩ :=G0 g1' g2' g3'
  have hpl:0< (Qv (lA (lg E k)) (lB (lg E k)) hot).length:= (by rw [hmid];simp)
  have hpm: (Qv (lA (lg E k)) (lB (lg E k)) hot).length≤1048576:= (by rw [um];have:=X1 (lA (lg E k)) (lB (lg E k)) hot;omega)
  refine qR (fun w hs=>kI (k:=3) J hs Om) ?_
  rintro⟨eg,rfl⟩
  refine S6 ?_;refine JH 13 ?_;refine dK 0 ?_;refine dK 1 ?_;refine dK 2 ?_;refine dK 3 ?_;refine dZ 4 J (jk J J jj J (Qq (b:=eg) (o:=0) (vJ (k:=3) (x:= (some ⟨eg,0,none⟩,ec)) (ls:=E) J J) hlt)) ?_;refine dK 5 ?_;refine dK 6 ?_;refine dK 7 ?_;refine dK 8 ?_;refine dZ 9 J (jk J J jj J (Qa (b:=eg) (o:=0) (vJ (k:=3) (x:= (some ⟨eg,0,none⟩,ec)) (ls:=E) J J) hlt)) ?_;refine dK 10 ?_;refine qd (i:=11) J Dc Kr J ?_;refine JQ LK (v:=fun x:Option Addr×Nat=> .slice x.1 (Qv (lA (lg E k)) (lB (lg E k)) hot).length x.2) (r:=fun x=>JS 0 28 2 (Qv (lA (lg E k)) (lB (lg E k)) hot).length ((Qv (lA (lg E k)) (lB (lg E k)) hot).flatMap jV) x) (H:=fun _=>True) J J J (lb J) (fun w1 hs=>qI (ST (lA (lg E k)) (lB (lg E k)) B m d hot w1 (hh.over hs.fin) (hok _ g2') (hok _ g3') hok hm)) ?_
  rintro⟨pA,pc⟩ -
  refine n9 ?_;refine UB (u9 J) ?_;refine dK 12 ?_;refine JB Kr ?_;refine S1 ?_;refine qR (fun w hs=>kI (k:=4) J hs hpl) ?_
  rintro⟨pg,rfl⟩
  refine qR (fun w hs=>v6 (hs.all 4 _ J).1) ?_
  intro hcap
  have hst:Ux hot E (k+1) =Ux hot E k++ (Qv (lA (lg E k)) (lB (lg E k)) hot).take ((Qv (lA (lg E k)) (lB (lg E k)) hot).length- 1) := (by rw [He hlt];unfold kT;rw [List.dropLast_eq_take])
  have hstl: (Ux hot E (k+1)).length= (Ux hot E k).length+ ((Qv (lA (lg E k)) (lB (lg E k)) hot).length- 1) := (by rw [hst,jid,jim];omega)
  refine S1 ?_;refine JH 7 ?_;refine dV 0 [1] ?_;refine dK 1 ?_;refine dV 2 [6] ?_;refine dV 3 [4,5,6] ?_;refine dV 4 [5,6] ?_;refine d9 5 J [6] (u9 J) ((JC J J J Om Om).as (congrArg _ (show(((Qv (lA (lg E k)) (lB (lg E k)) hot).length:Int) - 1) = (((Qv (lA (lg E k)) (lB (lg E k)) hot).length- 1:Nat) :Int) by omega))) ?_;refine dZ 6 J ((QS J J J jl Om).as (vf _ _ _ _ _)) ?_;refine kN J Kr J ?_;refine JK (k:=2) J jl jD Dc J Dc J J J (fun w' hs=>XZ (kE (hs.all 4 _ J).1 J) Om) (Kf _) (by unfold maxLen;omega) Om (jif _) (fun r1=> ?_);refine n9 ?_;refine Q0 10 [1] ?_;refine dK 8 ?_;refine qd (i:=9) J Dc Kr J ?_;refine S1 ?_;refine JU (uw [1] J) ?_;refine JB Kr ?_;refine S7 ?_
  exact Jd hL1 ((k+1,r1)) ((show k+1≤E.length by omega)) (by simp only;omega) ⟨vi Om,sz⟩ (fun _ h=> (h.picks [0,1,2,3] Dc).upto ⟨J,by rw [hstl],by rw [hstl,hst,jii],sz⟩)
 ·have hkE:k=E.length:=Om
  subst hkE
  refine S16 ?_;refine JX J (JZ (k:=0) J JW J J) (.tmp J) ?_
  intro w' hs
  have hr:=hs.all 2 _ rfl
  exact⟨_,by rw [show decide ((E.length:Int) >0) =decide (0<E.length) from decide_eq_decide.2 Om],Q5 hr.1 (fun b hb=> (hr.2.1 b hb).elim id (fun h=>by cases h)),hs.fin⟩
theorem bareG.on (h:bareG hot rs) (hk:k<rs.length) :onHot hot (qf (rg rs k))∧0< (qf (rg rs k)).length∧(qf (rg rs k)).length= (rg rs k).length:=by
 obtain ⟨hb,hm⟩ :bare (rg rs k)∧∀p∈rg rs k,p∈hot:=by have:=h rs[k] (jir hk);rwa [Wc hk] at this
 refine⟨fun l hl=> ?_,by rw [Uj hb];exact hb.1,Uj hb⟩
 rw [Vo hb] at hl
 obtain ⟨d,hd,rfl⟩ :=jiD.1 hl
 exact XL hb hm d hd
theorem ZB (hx:xs.length≤400) (hm:hot.length≤1048576) : (KD hot xs).length≤419430400:=by
 rw [O8]
 have h1:=KB xs xs.length
 have h2: (qf xs).length≤400:=by unfold qf;omega
 have:=XV (hot:=hot) (E:=qf xs) (m:=1048576) hm _ (jif _)
 have h3: (qf xs).length*1048576≤400*1048576:=Nat.mul_le_mul_right _ h2
 omega
theorem OZ (h:k<rs.length) :rg (Qg hot rs) k=KD hot (rg rs k) :=by simp [Qg,rg,List.getD,h]
theorem vw (hot:List Pn) (rs:List Jp) : (Qg hot rs).length=rs.length:=by simp [Qg]
theorem M7 (bb oo:Nat) (A:Option Addr) (n c:Nat) (rs:List Jp) (B:Option Addr) (m d:Nat) (hot:List Pn) (w:World) (hcell0:w.cell? ⟨bb,oo,none⟩ =some (.slice A n c)) (hbb:bb<w.heap.size) (h:Rings w A n rs) (hr:J0 rs=true) (hh:Pts w B m hot) (hm:m≤1048576) (hok:∀p∈hot,wX p.1 p.2=true) (hG:bareG hot rs) :
  Calls Tryz.prog 102 #[.pointer (some ⟨bb,oo,none⟩), .slice B m d] w fun e w'=>∃A' c',e= .returned (qG A' n c')∧OwnG w.heap.size w'.heap.size w' A' n (Qg hot rs)∧Over w w':=by
 have hl:=h.1
 have hn40:=UL hr
 have hhl:=hh.1
 refine jK (m:=38) (Tryz.func102) J J (lb J) ?_;refine S3 ?_;refine aL (fun b1=> ?_);refine N3 ?_;refine a9 (JF J J (JJ)) ?_;refine S1 ?_;refine aL (fun b2=> ?_);refine N3 ?_;refine Q7 (T:=74) (s:=1) ?_;refine t9 ?_;refine Vl ?_;refine t9 ?_;refine S6 ?_;refine JE (X:=Nat×(Option Addr×Nat)×List Pc) (fun x=>x.1≤n∧x.2.2.map (·.xs) = (Qg hot rs).take x.1) (fun x=>n- x.1) (fun x=> [(6, .int .i64 (x.1:Int))]) (kK [0,1,4,5]) (fun x=> [.cel b1 26 [.slice none 0 0], .cel b2 26 [.slice x.2.1.1 x.1 x.2.1.2],JS (Bs.N ⟨w,[]⟩) 74 1 x.1 (x.2.2.map Pc.val) x.2.1,vu x.2.2]) (0,(none,0),[]) (⟨jie _,J⟩) ⟨J,sz⟩ (fun _ h=>h) ?_
 intro⟨k,⟨rA,rc⟩,l⟩ hx L hL1
 refine v9 ?_;refine r9 ?_
 obtain ⟨hk,hmp⟩ :k≤n∧l.map (·.xs) = (Qg hot rs).take k:=hx
 have hlk:l.length=k:= (by have:=congrArg List.length hmp;rw [jip,jim,vw] at this;omega)
 refine S7 ?_;refine a9 (jq J J J3 (kH hcell0 hbb)) ?_;refine S3 ?_;refine cZ (fun c1=> ?_) (fun c1=> ?_)
 ·have hlt:k<n:=Om
  obtain ⟨eb,eo,Ak,ck,rfl,hbB,hcell,hpts,hmax⟩ :=h.at_ hlt
  have hpos:=Qz (VK hr (show k<rs.length by omega))
  obtain ⟨ho1,ho2,ho3⟩ :=hG.on (show k<rs.length by omega)
  have hsl:=ZB (hot:=hot) (xs:=rg rs k) Om Om
  refine S9 ?_;refine a9 (jq J J J3 (kH hcell0 hbb)) ?_;refine S4 ?_;refine JQ LN (v:=fun x:Option Addr×Nat=> .tuple #[.agg #[.slice x.1 (KD hot (rg rs k)).length x.2], .bool (decide (0< (qf (rg rs k)).length))]) (r:=fun x=>JS 0 28 2 _ _ x) (H:=fun _=>True) J J J (lb J) (fun w1 hs=>jeU (SV eb (eo+k*1) Ak _ ck (rg rs k) B m d hot w1 (by rw [jja];exact Qb hcell hbB w1 hs) (jio hbB hs.fin.size) (hpts.over hs.fin) Om (hh.over hs.fin) hm hok ho1)) ?_
  rintro⟨tA,tc⟩ -
  refine N4 ?_;refine aL (fun b3=> ?_);refine N8 ?_;refine Mv J ((decide_eq_true ho2)) ?_;refine S5 ?_;refine jX J J (qN J) J (lb J) (fun b4=> ?_);refine N1 ?_;refine JK (k:=2) J jS JA Dc J Dc J J J (fun w' hs=>qD hs (k:=6) J J) (by simp [Value.oneCell']) (by unfold maxLen;omega) Om (jif _) (fun r1=> ?_);refine N4 ?_;refine ZM 4 J J (fun clo chi=> ?_);refine t9 ?_;refine Wb 3 4 J J Dc J ?_;refine t9 ?_;refine S7 ?_
  exact Jd hL1 ((k+1,r1,l++ [⟨KD hot (rg rs k),tA,tc,clo,chi⟩])) (⟨show k+1≤n by omega,by rw [jiG,hmp,wU (by rw [vw];omega),OZ Om];rfl⟩) (by simp only;omega) ⟨vi Om,sz⟩ (fun _ h=> (h.picks [0,1,2,3] Dc).upto ⟨J,J,by rw [jiG];rfl,(vZ _ _).symm,trivial⟩)
 ·have hkn:k=n:=Om
  subst hkn
  refine S12 ?_;refine jJ J (JZ (k:=0) J jE J J) ?_
  intro w' hs
  have hrs:l.map (·.xs) =Qg hot rs:= (by rw [hmp,jiu (by rw [vw];omega)])
  exact⟨rA,rc,rfl,yv hs (kr:=2) (kp:=3) rfl rfl Dc rfl hlk hrs (fun j hj=>by rw [vw] at hj;rw [OZ hj];have:=Qz (VK hr hj);have:=ZB (hot:=hot) (xs:=rg rs j) Om Om;omega),hs.fin⟩
def X0 (hot:List Pn) :Nat→List Jp→Nat→Option (List Jp×Nat)
 | 0,_,_=>none
 | f+1,rs,r=>if J0 (Qg hot rs) =false then none else if Qg hot rs=rs then some (rs,r) else X0 hot f (Qg hot rs) (r+1)
def Bm (hot:List Pn) (rs:List Jp) :Option (List Jp×Nat) :=X0 hot 402 rs 0
structure StabI (hot:List Pn) (rs0 rs:List Jp) (r:Nat) :Prop where
 eq:Bm hot rs0=X0 hot (402- r) rs r
 reg:J0 rs=true
 bare:bareG hot rs
 cnt:r+cnt rs0≤cnt rs
theorem IZ (h:J0 rs=true) (hb:bareG hot rs) :Go.Proofs.YtbahojdbmmjkcaaGreat.cnt rs≤400:=by
 rw [←xY fun r hr=> (hb r hr).1]
 simp [J0] at h
 omega
theorem StabI.start (h:J0 rs=true) (hb:bareG hot rs) :StabI hot rs rs 0:=⟨rfl,h,hb,by omega⟩
theorem StabI.r_le (h:StabI hot rs0 rs r) :r≤400:=by
 have:=IZ h.reg h.bare
 have:=h.cnt
 omega
theorem StabI.unf (h:StabI hot rs0 rs r) :Bm hot rs0=if J0 (Qg hot rs) =false then none else if Qg hot rs=rs then some (rs,r) else X0 hot (402- (r+1)) (Qg hot rs) (r+1) :=by
 have:=h.r_le
 rw [h.eq,show 402- r=402- (r+1) +1 by omega,X0]
theorem StabI.full (h:StabI hot rs0 rs r) (hb:J0 (Qg hot rs) =false) :Bm hot rs0=none:=by rw [h.unf,if_pos hb]
theorem StabI.fin (h:StabI hot rs0 rs r) (he:Qg hot rs=rs) :Bm hot rs0=some (rs,r) :=by
 rw [h.unf,if_neg (by rw [he,h.reg];decide),if_pos he]
theorem StabI.step (hnd:hot.Nodup) (h:StabI hot rs0 rs r) (hb:J0 (Qg hot rs) =true) (he:Qg hot rs≠rs) :StabI hot rs0 (Qg hot rs) (r+1)∧Go.Proofs.YtbahojdbmmjkcaaGreat.cnt rs<Go.Proofs.YtbahojdbmmjkcaaGreat.cnt (Qg hot rs) :=by
 obtain ⟨g1,g2⟩ :=Fw hnd h.bare
 have hlt:Go.Proofs.YtbahojdbmmjkcaaGreat.cnt rs<Go.Proofs.YtbahojdbmmjkcaaGreat.cnt (Qg hot rs) :=Nat.lt_of_le_of_ne g1 fun e=>he (g2 e.symm)
 refine⟨⟨?_,hb,h.bare.snap hnd,?_⟩,hlt⟩
 ·rw [h.unf,if_neg (by rw [hb];decide),if_neg he]
 ·have:=h.cnt;omega
def jen (w:World) (n:Nat) (rs:List Jp) (x:Bool×(Option Addr×Nat)×Nat×Nat) :Res:=
 if x.1=true then {F:=fun _=>False,P:=fun _=>Rings w x.2.1.1 n rs,low:=fun _ _ _ h=>h.elim,B:=0,dep:=fun _ _ h _ _=>h} else kx n rs x.2.2.1 x.2.2.2 x.2.1.1
theorem Sd {w':World} (h: (jen w n rs x).P w') (hO:Over w w') :Rings w' x.2.1.1 n rs:=by
 unfold jen at h
 split at h
 ·exact(show Rings w x.2.1.1 n rs from h).over hO
 ·exact(uO h).rings
theorem jd3 {m:Nat} {c:Nat} (h0:Rings w A n rs) (h:At m env ⟨w,[]⟩ (Rs++ [jen w n rs (true,(A,c),0,0)]) K) :At m env ⟨w,[]⟩ Rs K:=
 fun a w1 hf hs=>h a w1 hf (hs.add (Over.refl _) (show Rings w A n rs from h0) (fun b hb=> (show False from hb).elim) ⟨jie _,fun _ _=>jie _⟩)
theorem jgX {o:Nat} {v:Value} (hc:w.cell? ⟨b,o,none⟩ =some v) (hb:b<w.heap.size) :∀w',St ⟨w,[]⟩ Rs w'→∀q u,[v][q]? =some u→w'.cell? ⟨b,o+q,none⟩ =some u:=fun w' hs q u hq=>by
 match q,hq with
 | 0,hq=>simp at hq;subst hq;exact Qb hc hb w' hs
def TX (hot:List Pn) (rs:List Jp) :List Jp:=match Bm hot rs with
 | some x=>x.1
 | none=> []
def Er (hot:List Pn) (rs:List Jp) :Int:=match Bm hot rs with
 | some x=> (x.2:Int)
 | none=>0
def Rc (hot:List Pn) (rs:List Jp) :Bool:= (Bm hot rs).isSome
theorem Rd (h:Bm hot rs=none) :TX hot rs= []∧Er hot rs=0∧Rc hot rs=false:=by simp [TX,Er,Rc,h]
theorem Re {ss:List Jp} (h:Bm hot rs=some (ss,r)) :TX hot rs=ss∧Er hot rs= (r:Int)∧Rc hot rs=true:=by simp [TX,Er,Rc,h]
theorem ZR (bb oo:Nat) (A:Option Addr) (n c:Nat) (rs:List Jp) (B:Option Addr) (m d:Nat) (hot:List Pn) (w:World) (hcell0:w.cell? ⟨bb,oo,none⟩ =some (.slice A n c)) (hbb:bb<w.heap.size) (h:Rings w A n rs) (hr:J0 rs=true) (hh:Pts w B m hot) (hm:m≤1048576) (hok:∀p∈hot,wX p.1 p.2=true) (hnd:hot.Nodup) (hG:bareG hot rs) :
  Calls Tryz.prog 50 #[.pointer (some ⟨bb,oo,none⟩), .slice B m d] w fun e w'=>∃A' c',e= .returned (.tuple #[qG A' (TX hot rs).length c', .int .i64 (Er hot rs), .bool (Rc hot rs)])∧OwnG w.heap.size w'.heap.size w' A' (TX hot rs).length (TX hot rs)∧Over w w':=by
 have hl:=h.1
 subst hl
 have hn40:=UL hr
 refine jK (m:=26) (Tryz.func50) J J (lb J) ?_;refine S3 ?_;refine aL (fun b1=> ?_);refine N7 ?_;refine a9 (jk J J jE J (jgX hcell0 hbb)) ?_;refine S1 ?_;refine aL (fun b2=> ?_);refine N3 ?_;refine jd3 (c:=c) h ?_;refine t9 ?_;refine S5 ?_;refine JE (X:=Nat×List Jp×Bool×(Option Addr×Nat)×Nat×Nat) (fun x=>StabI hot rs x.2.1 x.1) (fun x=>401- cnt x.2.1) (fun x=> [(8, .int .i64 (x.1:Int))]) (kK [1,4,5,6,7]) (fun x=> [.cel b1 26 [.slice none 0 0], .cel b2 26 [.slice x.2.2.2.1.1 x.2.1.length x.2.2.2.1.2],jen w x.2.1.length x.2.1 x.2.2]) (0,rs,true,(A,c),0,0) (StabI.start hr hG) ⟨J,sz⟩ (fun _ h=>h) ?_
 intro⟨r,ss,fl,⟨cA,cc⟩,clo,chi⟩ hx L hL1
 refine v9 ?_;refine r9 ?_
 have hx1:StabI hot rs ss r:=hx
 have hr400:=hx1.r_le
 have hs40:=UL hx1.reg
 refine S6 ?_;refine JQ xu (X:= (Option Addr×Nat)×Nat×Nat) (v:=fun x=>qG x.1.1 ss.length x.1.2) (r:=fun x=>kx ss.length (Qg hot ss) x.2.1 x.2.2 x.1.1) (H:=fun _=>True) J J J (lb J) (fun w1 hs=>K7 (M7 b2 0 cA ss.length cc ss B m d hot w1 (qq (k:=1) J J w1 hs) (J4 (hs.cel (k:=1) J)) (Sd (hs.all 2 _ J).1 hs.fin) hx1.reg (hh.over hs.fin) hm hok hx1.bare)) ?_
 rintro⟨⟨gA,gc⟩,glo,ghi⟩ -
 refine N1 ?_;refine aL (fun b3=> ?_);refine N6 ?_;refine a9 (jG W9 J J (fun w1 hs=>Gy b3 0 gA ss.length gc (Qg hot ss) w1 (qq (k:=4) J J w1 hs) (J4 (hs.cel (k:=4) J)) (uO (hs.all 3 _ J).1).rings Om)) ?_;refine S2 ?_;refine cZ (fun c1=> ?_) (fun c1=> ?_)
 ·refine S2 ?_;refine a9 (JF J J (JJ)) ?_;refine S11 ?_;refine LS J (JZ (k:=0) J jE J J) (.tmp J) (.tmp J) ?_
  intro w' hs
  obtain ⟨e1,e2,e3⟩ :=Rd (hx1.full c1)
  exact⟨none,0,by rw [e1,e2,e3];rfl,by rw [e1];exact OwnG.nil none,hs.fin⟩
 ·refine S7 ?_;refine a9 (jG xq J J (fun w1 hs=>xD gA cA ss.length ss.length gc cc (Qg hot ss) ss w1 (uO (hs.all 3 _ J).1).rings (Sd (hs.all 2 _ J).1 hs.fin) (smallR.of c1).total (smallR.of hx1.reg).total)) ?_;refine S1 ?_;refine cZ (fun c2=> ?_) (fun c2=> ?_)
  ·refine S15 ?_;refine LS J (JZ (k:=0) J jE J J) (.tmp J) (.tmp J) ?_
   intro w' hs
   obtain ⟨e1,e2,e3⟩ :=Re (hx1.fin c2)
   have hg:=hs.all 3 _ rfl
   have ho:=UW hg.1 (fun b hb=> (hg.2.1 b hb).elim id (fun h=>by cases h))
   rw [c2] at ho
   exact⟨gA,gc,by rw [e1,e2,e3],by rw [e1];exact ho,hs.fin⟩
  ·obtain ⟨k1,k2⟩ :=hx1.step hnd c1 c2
   have hc4:=IZ k1.reg k1.bare
   refine S14 ?_
   exact Jd hL1 ((r+1,Qg hot ss,false,(gA,gc),glo,ghi)) (k1) (by simp only;omega) ⟨vi Om,sz⟩ (fun _ h=> (h.picks [0,1,3] Dc).upto ⟨J,by rw [vw],by rw [vw];rfl,trivial⟩)
end Go.Proofs.YtbahojdbmmjkcaaGreat
