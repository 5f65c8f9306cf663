import Derived.Test.YtpncbbcmoiiipaaMOn
import Derived.Test.YtpncbbcmoiiipaaMEnds
import Derived.Test.YtpncbbcmoiiipaaMLawKit
import Derived.Test.YtpncbbcmoiiipaaMSlc
set_option linter.unusedVariables false
set_option linter.unusedSimpArgs false
namespace Go.Proofs.Ytpncbbcmoiiipaa
open Go Go.RowKit
set_option maxRecDepth 100000
set_option maxHeartbeats 4000000
set_option maxHeartbeats 1000000 in
set_option maxRecDepth 100000 in
theorem wZ (A B:Option Addr) (n m c d:Nat) (rs ss:List jx) (w:World) (h:Rings w A n rs) (h':Rings w B m ss) (ht: (Qq rs:Int)≤1048576) (ht': (Qq ss:Int)≤1048576) :
  Calls Try.prog 7 #[kP A n c,kP B m d] w fun e w'=>e= .returned (.bool (decide (rs=ss)))∧Over w w':=by
 have hl:=Lib.hid h.1
 have hl':=Lib.hid h'.1
 have hn: (n:Int)≤1048576:=by have:=hl.out;unfold Qq at ht;omega
 have hm: (m:Int)≤1048576:=by have:=hl'.out;unfold Qq at ht';omega
 have Ht:=Lib.hid (And.intro ht ht')
 clear ht ht'
 by_cases hnm:n=m
 ·subst hnm
  have hq: ((n:Int) != (n:Int)) =false:=by simp
  go_enter Try.func7,Try.ntmps7
  go_wp2
  go_loopw [5] (fun i wr=>∃k:Nat,k≤n∧i= .int .i64 k∧Over ((w.alloc (.cells #[.slice A n c] 25)).alloc (.cells #[.slice B n d] 25)) wr∧Hid (∀j,j<k→rg rs j=rg ss j)) (fun i _=>n- (intOf i).toNat)
  case atStart=>exact⟨0,DQ _,rfl,Over.refl _,fun j hj=>absurd hj Om⟩
  case round=>
   rename_i wr
   obtain ⟨k,hk,rfl,hb,hall⟩ :=hrel
   have hO:Over w wr:= (Over.alloc_ (Over.alloc _ _) _).trans hb
   have x1:wr.cell? ⟨w.heap.size,0,none⟩ =some (.slice A n c) :=by
    rw [(jD hb).1 _ _ (by simp;omega),(jD (Over.alloc _ _)).1 _ _ (by simp)]
    exact VC _ _ _ _
   have x2:wr.cell? ⟨w.heap.size+1,0,none⟩ =some (.slice B n d) :=by
    rw [(jD hb).1 _ _ (by simp)]
    simp
   have z2:w.heap.size+1<wr.heap.size:=DS (by simp) hb.size
   have z1:w.heap.size<wr.heap.size:=by omega
   by_cases hlt:k<n
   ·obtain ⟨b,o,Ak,ck,rfl,hbB,hcell,hpts,hmax⟩ := (h.over hO).at_ hlt
    obtain ⟨b',o',Ak',ck',rfl,hbB',hcell',hpts',_⟩ := (h'.over hO).at_ hlt
    have hr: ((rg rs k).length:Int)≤1048576:=by have:=Ht.out;have:=kN rs (k:=k) (by rw [hl.out];exact hlt);omega
    have hr': ((rg ss k).length:Int)≤1048576:=by have:=Ht.out;have:=kN ss (k:=k) (by rw [hl'.out];exact hlt);omega
    have Hb:=Lib.hid hb
    have HP:=Lib.hid (And.intro hpts hpts')
    clear h h' hb hO hmax hpts hpts'
    by_cases he:rg rs k=rg ss k
    ·have hd:decide (rg rs k=rg ss k) =true:=decide_eq_true he
     have hs:Hid (∀j,j<k+1→rg rs j=rg ss j) :=by
      intro j hj
      by_cases hjk:j=k
      ·subst hjk;exact he
      ·exact hall.out j Om
     have Hd:=Lib.hid hd
     clear hd he hall
     go_wp2
     refine Qc (B:=ob _) (Over.refl _) Kr (by simp only [Fz,DT,D8,Nat.reduceAdd];rfl) (fun hBW=> ?_);refine i8 0 ?_;refine i8 1 ?_;refine i8 2 ?_;refine i8 3 ?_;refine i8 4 ?_;refine i8 5 ?_;refine i8 6 ?_;refine i8 7 ?_;refine i8 8 ?_;refine i8 9 ?_;refine i8 10 ?_;refine i8 11 ?_;refine w9 12 (hy:=fun wx hS=>by(go_simp;refine(uz _ _ _ _ _ _ (rg rs k) (rg ss k) _ (HP.out.1.over hS) (HP.out.2.over hS) hr hr').mono ?_;rw [Hd.out];rintro e w1 ⟨rfl,hb1⟩;exact⟨rfl,hb1⟩)) (h:= ?_)
     simp only [Act.put,qa,jP,jQ]
     refine i8 13 ?_
     refine Qb Kr (fun w2 h2=> ?_) _
     try clear hBW
     have HO:=Lib.hid (Hb.out.trans h2)
     clear h2
     go_wp2
     go_roundw
     case rel=>exact⟨k+1,by omega,by go_num,HO.out,hs⟩
     case measure=>simp [intOf];omega
    ·have hd:decide (rg rs k=rg ss k) =false:=decide_eq_false he
     have hq:Hid (decide (rs=ss) =false) :=decide_eq_false (fun e=>he (by rw [e]))
     have Hd:=Lib.hid hd
     clear hd he hall
     go_wp2
     refine Qc (B:=ob _) (Over.refl _) Kr (by simp only [Fz,DT,D8,Nat.reduceAdd];rfl) (fun hBW=> ?_);refine i8 0 ?_;refine i8 1 ?_;refine i8 2 ?_;refine i8 3 ?_;refine i8 4 ?_;refine i8 5 ?_;refine i8 6 ?_;refine i8 7 ?_;refine i8 8 ?_;refine i8 9 ?_;refine i8 10 ?_;refine i8 11 ?_;refine w9 12 (hy:=fun wx hS=>by(go_simp;refine(uz _ _ _ _ _ _ (rg rs k) (rg ss k) _ (HP.out.1.over hS) (HP.out.2.over hS) hr hr').mono ?_;rw [Hd.out];rintro e w1 ⟨rfl,hb1⟩;exact⟨rfl,hb1⟩)) (h:= ?_)
     simp only [Act.put,qa,jP,jQ]
     refine i8 13 ?_
     refine Qb Kr (fun w2 h2=> ?_) _
     try clear hBW
     have HO:=Lib.hid ((Over.alloc_ (Over.alloc _ _) _).trans (Hb.out.trans h2))
     clear h2
     go_wp2
     go_ret
     exact⟨by rw [hq.out];rfl,HO.out⟩
   ·have hkn:k=n:=by omega
    have hq:Hid (decide (rs=ss) =true) :=decide_eq_true (GQ (by rw [hl.out,hl'.out]) (fun j hj=>hall.out j (by rw [hl.out] at hj;omega)))
    clear h h' hall hl hl' hb
    go_wp2
    go_ret
    exact⟨by rw [hq.out];rfl,hO⟩
 ·have hq: ((n:Int) != (m:Int)) =true:=by simp;omega
  have hv:Hid (decide (rs=ss) =false) :=decide_eq_false (fun e=>hnm (by rw [←hl.out,←hl'.out,e]))
  clear h h' hl hl'
  go_enter Try.func7,Try.ntmps7
  go_wp2
  go_ret
  exact⟨by rw [hv.out];rfl,DB⟩
theorem UQ {rs:List jx} (hr:Je rs=true) {k:Nat} {r:jx} (h:r∈QZ rs k) :r.length≤400:=by
 obtain ⟨_,q,hq,rfl⟩ :=wE h
 obtain ⟨i,hi,e⟩ :=Fe hq
 have:=qN (kC hr hi)
 rw [Ku hi] at e
 rw [e] at this
 have:=z6 q q.length
 unfold QJ
 omega
theorem Bo {xs ys:List Pn} {a b:Nat} (h: (px xs a==px ys b&&py xs a==py ys b) =false) :pt xs a≠pt ys b:=fun e=>by
 injection e with e1 e2
 simp [e1,e2] at h
theorem MZ {xs ys:List Pn} {a b:Nat} (h: (px xs a==px ys b&&py xs a==py ys b) =true) :pt xs a=pt ys b:=by
 simp at h
 exact Prod.ext h.1 h.2
theorem Zp {w w':World} {Rs:List Res} (hs:St ⟨w,[]⟩ Rs w') {kr kp B T n:Nat} {l:List Pc} {x:Option Addr×Nat} {rs:List jx} (hr:Rs[kr]? =some (qx B T 1 n (l.map Pc.val) x)) (hp:Rs[kp]? =some (vL l)) (hne:kr≠kp) (_e:w=w) (hl:l.length=n) (hrs:l.map (·.xs) =rs)
  (hm:∀j,j<rs.length→(rg rs j).length≤1099511627776) :OwnG w.heap.size w'.heap.size w' x.1 n rs:=by
 have hrow:w'.ownsRow B T 1 (.slice x.1 n x.2) n (l.map Pc.val) := (hs.all kr _ hr).1
 have hX:=hs.all kp _ hp
 rcases hrow.2 with⟨_,e⟩ |⟨g,cap,cur,e,hb,hg,hcap,hmax,hsz,htk⟩
 ·subst e
  obtain rfl:l= [] :=Fd hl
  subst hrs
  exact OwnG.nil _
 ·injection e with e1 e2 e3
  rw [e1]
  have hF: (qx B T 1 n (l.map Pc.val) x).F g:=by show Value.ownBlock (.slice x.1 n x.2) =some g;rw [e1];rfl
  have hown:=XH (lo:=w.heap.size) (o:=0) hg (((hs.all kr _ hr).2.1 g hF).elim id (fun h=>by cases h)) (fun j hj=> ?_) hX.1 (fun h=>hs.apart kr kp _ _ hne hr hp g hF h) (fun q hq=> (hX.2.1 q hq).elim id (fun h=>by cases h)) (fun e he=> ?_)
  ·rw [hrs,hl] at hown
   exact hown
  ·have hc:cur[j]? = (l.map Pc.val)[j]? :=by rw [←htk,List.getElem?_take,if_pos Om];simp
   rw [Fo,hc]
   simp [hj]
  ·have:e.xs∈rs:=hrs▸Fi.2 ⟨e,he,rfl⟩
   obtain ⟨j,hj,e2⟩ :=Fe this
   have:=hm j hj
   rw [←Ku hj,e2] at this
   omega
theorem uQ (A:Option Addr) (n c:Nat) (rs:List jx) (w:World) (h:Rings w A n rs) (hr:Je rs=true) :
  Calls Try.prog 17 #[kP A n c] w fun e w'=>∃A' c',e= .returned (kP A' (JP rs).length c')∧OwnG w.heap.size w'.heap.size w' A' (JP rs).length (JP rs)∧Over w w':=by
 have hl:=h.1
 have hn40:=we hr
 refine Jh (m:=53) (Try.func17) J J (lb J) ?_;refine S3 ?_;refine aX (fun b1=> ?_);refine N1 ?_;refine aL (fun b2=> ?_);refine N4 ?_;refine aL (fun b3=> ?_);refine N1 ?_;refine Ki (T:=38) (s:=1) ?_;refine t9 ?_;refine Wf ?_;refine t9 ?_;refine S9 ?_;refine JR (X:=Nat×(Option Addr×Nat)×List Pc) (fun x=>x.1≤n∧x.2.2.map (·.xs) =QZ rs x.1) (fun x=>n- x.1) (fun x=> [(12, .int .i64 (x.1:Int))]) (kK [2,3,10,11]) (fun x=> [.cel b1 25 [.slice A n c], .cel b2 25 [.slice none 0 0], .cel b3 25 [.slice x.2.1.1 x.2.2.length x.2.1.2],qx (Bs.N ⟨w,[]⟩) 38 1 x.2.2.length (x.2.2.map Pc.val) x.2.1,vL x.2.2]) (0,(none,0),[]) (⟨DQ _,J⟩) ⟨J,sz⟩ (fun _ h=>h) ?_
 intro⟨k,⟨rA,rc⟩,l⟩ hx L hL1
 refine v9 ?_;refine r9 ?_
 obtain ⟨hk,hmp⟩ :k≤n∧l.map (·.xs) =QZ rs k:=hx
 have hlk:l.length= (QZ rs k).length:= (by have:=congrArg List.length hmp;rwa [Fc] at this)
 have hlen:=UD rs k
 refine S5 ?_;refine cZ (fun c1=> ?_) (fun c1=> ?_)
 ·have hlt:k<n:=Om
  obtain ⟨eb,eo,Ak,ck,rfl,hbB,hcell,hpts,hmax⟩ :=h.at_ hlt
  have hpos:=qN (kC hr (show k<rs.length by omega))
  obtain ⟨pb,po,rfl,_⟩ :=hpts.2 hpos.1
  obtain ⟨xs,hxs⟩ :∃xs,xs=rg rs k:=⟨_,rfl⟩
  rw [←hxs] at hpts hpos hcell
  have hkl:=fun j=>z6 xs j
  refine S7 ?_;refine a9 (jj J J qg J (zb hcell hbB)) ?_;refine S1 ?_;refine aL (fun b4=> ?_);refine N6 ?_;refine Ki (T:=27) (s:=2) ?_;refine B8 ?_;refine JR (X:=Nat×Option Addr×Nat) (fun y=>y.1≤xs.length) (fun y=>xs.length- y.1) (fun y=> [(6, .slice y.2.1 (kS xs y.1).length y.2.2),(19, .int .i64 (y.1:Int))]) (kK [2,3,10,11,12,13,14,15,5,16,17,18]) (fun y=> [.cel b1 25 [.slice (some ⟨eb,eo,none⟩) n c], .cel b2 25 [.slice none 0 0], .cel b3 25 [.slice rA l.length rc],qx (Bs.N ⟨w,[]⟩) 38 1 l.length (l.map Pc.val) (rA,rc),vL l, .cel b4 38 [.slice (some ⟨pb,po,none⟩) xs.length ck],qx (Bs.N ⟨w,[]⟩) 27 2 (kS xs y.1).length ((kS xs y.1).flatMap jI) y.2]) (0,none,0) (DQ _) ⟨J,sz⟩ (fun _ h=>h) ?_
  intro⟨j,qA,qc⟩ hy L hL2
  refine v9 ?_;refine r9 ?_
  have hj:j≤xs.length:=hy
  have hkj:=hkl j
  refine S5 ?_;refine cZ (fun c2=> ?_) (fun c2=> ?_)
  ·have hjl:j<xs.length:=Om
   have hnx:nx xs j<xs.length:=Nat.mod_lt _ Om
   refine S8 ?_;refine a9 (jj J J jh J (VS (b:=pb) (o:=po) hpts hjl)) ?_;refine S1 ?_;refine aL (fun b5=> ?_);refine N6 ?_;refine qb 12 ?_;refine dK 0 ?_;refine dK 1 ?_;refine dK 2 ?_;refine dK 3 ?_;refine dK 4 ?_;refine dK 5 ?_;refine dK 6 ?_;refine dK 7 ?_;refine dZ 8 J ((za J J J Om Om Om).as (congrArg _ (XE (xs:=xs) J j))) ?_;refine dZ 9 J (jS (j:=nx xs j) J J J js Om) ?_;refine dZ 10 J (jj J J jh J (VS (b:=pb) (o:=po) hpts hnx)) ?_;refine dK 11 ?_;refine JI Kr ?_;refine S1 ?_;refine cZ (fun c3=> ?_) (fun c3=> ?_)
   ·have hne:pt xs j≠pt xs (nx xs j) :=Bo c3
    refine S4 ?_;refine JY J J (QL J) J (lb J) (fun b6=> ?_);refine N1 ?_;refine Qe (k:=6) J js jJ Dc J Dc J J J (fun w' hs=>Kl hs (k:=8) J J) (by simp [Value.oneCell']) (by unfold maxLen;omega) Om (DM _) (fun r1=> ?_);refine N8 ?_
    exact Jo hL2 ((j+1,r1)) ((show j+1≤xs.length by omega)) (by simp only;omega) ⟨(by rw [UP hne,DK];rfl),vi Om,sz⟩ (fun _ h=>h.upto ⟨J,J,J,J,J,J,by rw [UP hne,DK,Fs];rfl,trivial⟩)
   ·refine S7 ?_
    exact Jo hL2 ((j+1,qA,qc)) ((show j+1≤xs.length by omega)) (by simp only;omega) ⟨(by rw [y7 (MZ c3)];rfl),vi Om,sz⟩ (fun _ h=>h.upto ⟨J,J,J,J,J,J,by rw [y7 (MZ c3)],trivial⟩)
  ·have hje:j=xs.length:=Om
   subst hje
   rw [show kS xs xs.length=QJ xs from rfl]
   refine Dh ?_;refine cZ (fun c4=> ?_) (fun c4=> ?_)
   ·have hpl:0< (QJ xs).length:=Om
    refine S4 ?_;refine a9 (JU J J (Kv J)) ?_;refine S1 ?_;refine JY J J (Qo J) J (lb J) (fun b7=> ?_);refine N1 ?_;refine Qe (k:=3) J Jl JD Dc J Dc J J J (fun w' hs=>Kl hs (k:=7) J J) (by simp [Value.oneCell']) (by unfold maxLen;omega) Om (DM _) (fun r2=> ?_);refine N4 ?_;refine He 6 J J (fun clo chi=> ?_);refine t9 ?_;refine Uc 4 6 J J Dc J ?_;refine t9 ?_;refine S6 ?_
    exact Jo hL1 ((k+1,r2,l++ [⟨QJ xs,qA,qc,clo,chi⟩])) (⟨show k+1≤n by omega,by rw [FC,hmp,wF Om (hxs▸hpl),hxs];rfl⟩) (by simp only;omega) ⟨vi Om,sz⟩ (fun _ h=> (h.picks [0,1,2,3,4] Dc).upto ⟨J,J,by rw [DK];rfl,by rw [FC,DK];rfl,(wc _ _).symm,trivial⟩)
   ·refine S7 ?_
    exact Jo hL1 ((k+1,(rA,rc),l)) (⟨show k+1≤n by omega,by rw [hmp,WX Om (by rw [←hxs];omega)]⟩) (by simp only;omega) ⟨vi Om,sz⟩ (u9 J)
 ·have hkn:k=rs.length:=Om
  subst hkn
  refine Di ?_;refine jG J (qO (k:=1) J jL J J) ?_
  intro w' hs
  have hrs:l.map (·.xs) =JP rs:=hmp
  have hbl: (JP rs).length=l.length:=hlk.symm
  exact⟨rA,rc,by rw [hbl],by rw [hbl];exact Zp hs (kr:=3) (kp:=4) rfl rfl Dc rfl rfl hrs (fun j hj=>by have:=UQ hr (DR hj);rw [Ku hj] at this;omega),hs.fin⟩
def wY (hot:List Pn) (E:List Leg) (k:Nat) :List Pn:= (E.take k).flatMap fun l=>J3 hot (lA l,lB l)
theorem Yo {hot:List Pn} {E:List Leg} {k:Nat} (h:k<E.length) :wY hot E (k+1) =wY hot E k++J3 hot (lA (lg E k),lB (lg E k)) :=by
 unfold wY
 rw [DY h,Fs]
 simp [lg,List.getD,h]
theorem GN (hot:List Pn) (e:Pn×Pn) : (J3 hot e).length≤hot.length:=by
 unfold J3
 rw [List.length_dropLast,vK]
 have:=ZG e.1 e.2 hot
 omega
theorem ya {hot:List Pn} {E:List Leg} {m:Nat} (hm:hot.length≤m) :∀k,k≤E.length→(wY hot E k).length≤k*m
 | 0,_=>by simp [wY]
 | k+1,hk=>by
  have:=ya (E:=E) hm k Om
  have:=GN hot (lA (lg E k),lB (lg E k))
  rw [Yo Om,DK,Nat.succ_mul]
  omega
theorem ZB (hot xs:List Pn) :Qg hot xs=wY hot (Jf xs) (Jf xs).length:=by unfold Qg wY;rw [FR]
def onHot (hot:List Pn) (E:List Leg) :Prop:=∀l∈E,lA l≠lB l∧lA l∈hot∧lB l∈hot
theorem onHot.at_ {hot:List Pn} {E:List Leg} (h:onHot hot E) {k:Nat} (hk:k<E.length) :lA (lg E k)≠lB (lg E k)∧lA (lg E k)∈hot∧lB (lg E k)∈hot:=by
 have:=h E[k] (DR hk)
 have e:lg E k=E[k] :=by simp [lg,List.getD,hk]
 rw [e]
 exact this
theorem bareG.on {hot:List Pn} {rs:List jx} (h:bareG hot rs) {k:Nat} (hk:k<rs.length) :onHot hot (Jf (rg rs k))∧0< (Jf (rg rs k)).length∧(Jf (rg rs k)).length= (rg rs k).length:=by
 obtain ⟨hb,hm⟩ :bare (rg rs k)∧∀p∈rg rs k,p∈hot:=by have:=h rs[k] (DR hk);rwa [Ku hk] at this
 refine⟨fun l hl=> ?_,by rw [KO hb];exact hb.1,KO hb⟩
 rw [qF hb] at hl
 obtain ⟨d,hd,rfl⟩ :=Fi.1 hl
 exact vJ hb hm d hd
theorem Yp {hot xs:List Pn} (hx:xs.length≤400) (hm:hot.length≤1048576) : (Qg hot xs).length≤419430400:=by
 rw [ZB]
 have h1:=QI xs xs.length
 have h2: (Jf xs).length≤400:=by unfold Jf;omega
 have:=ya (hot:=hot) (E:=Jf xs) (m:=1048576) hm _ (DM _)
 have h3: (Jf xs).length*1048576≤400*1048576:=Nat.mul_le_mul_right _ h2
 omega
theorem Zw {hot:List Pn} {rs:List jx} {k:Nat} (h:k<rs.length) :rg (qk hot rs) k=Qg hot (rg rs k) :=by simp [qk,rg,List.getD,h]
theorem kO (hot:List Pn) (rs:List jx) : (qk hot rs).length=rs.length:=by simp [qk]
def KY (hot:List Pn) :Nat→List jx→Nat→Option (List jx×Nat)
 | 0,_,_=>none
 | f+1,rs,r=>if Je (qk hot rs) =false then none else if qk hot rs=rs then some (rs,r) else KY hot f (qk hot rs) (r+1)
def u6 (hot:List Pn) (rs:List jx) :Option (List jx×Nat) :=KY hot 402 rs 0
structure StabI (hot:List Pn) (rs0 rs:List jx) (r:Nat) :Prop where
 eq:u6 hot rs0=KY hot (402- r) rs r
 reg:Je rs=true
 bare:bareG hot rs
 cnt:r+cnt rs0≤cnt rs
theorem XP {hot:List Pn} {rs:List jx} (h:Je rs=true) (hb:bareG hot rs) :Go.Proofs.Ytpncbbcmoiiipaa.cnt rs≤400:=by
 rw [←Wl fun r hr=> (hb r hr).1]
 simp [Je] at h
 omega
theorem StabI.start {hot:List Pn} {rs:List jx} (h:Je rs=true) (hb:bareG hot rs) :StabI hot rs rs 0:=⟨rfl,h,hb,by omega⟩
theorem StabI.r_le {hot:List Pn} {rs0 rs:List jx} {r:Nat} (h:StabI hot rs0 rs r) :r≤400:=by
 have:=XP h.reg h.bare
 have:=h.cnt
 omega
theorem StabI.unf {hot:List Pn} {rs0 rs:List jx} {r:Nat} (h:StabI hot rs0 rs r) :u6 hot rs0=if Je (qk hot rs) =false then none else if qk hot rs=rs then some (rs,r) else KY hot (402- (r+1)) (qk hot rs) (r+1) :=by
 have:=h.r_le
 rw [h.eq,show 402- r=402- (r+1) +1 by omega,KY]
theorem StabI.full {hot:List Pn} {rs0 rs:List jx} {r:Nat} (h:StabI hot rs0 rs r) (hb:Je (qk hot rs) =false) :u6 hot rs0=none:=by rw [h.unf,if_pos hb]
theorem StabI.fin {hot:List Pn} {rs0 rs:List jx} {r:Nat} (h:StabI hot rs0 rs r) (he:qk hot rs=rs) :u6 hot rs0=some (rs,r) :=by
 rw [h.unf,if_neg (by rw [he,h.reg];decide),if_pos he]
theorem StabI.step {hot:List Pn} {rs0 rs:List jx} {r:Nat} (hnd:hot.Nodup) (h:StabI hot rs0 rs r) (hb:Je (qk hot rs) =true) (he:qk hot rs≠rs) :StabI hot rs0 (qk hot rs) (r+1)∧Go.Proofs.Ytpncbbcmoiiipaa.cnt rs<Go.Proofs.Ytpncbbcmoiiipaa.cnt (qk hot rs) :=by
 obtain ⟨g1,g2⟩ :=Yq hnd h.bare
 have hlt:Go.Proofs.Ytpncbbcmoiiipaa.cnt rs<Go.Proofs.Ytpncbbcmoiiipaa.cnt (qk hot rs) :=Nat.lt_of_le_of_ne g1 fun e=>he (g2 e.symm)
 refine⟨⟨?_,hb,h.bare.snap hnd,?_⟩,hlt⟩
 ·rw [h.unf,if_neg (by rw [hb];decide),if_neg he]
 ·have:=h.cnt;omega
def X2 (hot:List Pn) (rs:List jx) :List jx:=match u6 hot rs with
 | some x=>x.1
 | none=> []
def MJ (hot:List Pn) (rs:List jx) :Int:=match u6 hot rs with
 | some x=> (x.2:Int)
 | none=>0
def yh (hot:List Pn) (rs:List jx) :Bool:= (u6 hot rs).isSome
theorem MK {hot:List Pn} {rs:List jx} (h:u6 hot rs=none) :X2 hot rs= []∧MJ hot rs=0∧yh hot rs=false:=by simp [X2,MJ,yh,h]
theorem zl {hot:List Pn} {rs ss:List jx} {r:Nat} (h:u6 hot rs=some (ss,r)) :X2 hot rs=ss∧MJ hot rs= (r:Int)∧yh hot rs=true:=by simp [X2,MJ,yh,h]
end Go.Proofs.Ytpncbbcmoiiipaa
