import Derived.Test.YtpncbbcmoiiipaaGreatKTo
set_option linter.unusedVariables false
set_option linter.unusedSimpArgs false
namespace Go.Proofs.YtpncbbcmoiiipaaGreat
open Go Go.RowKit
set_option maxRecDepth 100000
set_option maxHeartbeats 4000000
theorem I8 (A:Option Addr) (n c:Nat) (xs:List (Int×Int)) (w:World) (h:Pts w A n xs) (hn:0<n) (hn2:n≤1048577) :
  Calls Tryz.prog 87 #[.slice A n c] w fun e w'=>∃v,e= .returned v∧w'.ownsRow w.heap.size 56 2 v n (xs.flatMap Js)∧Over w w':=by
 obtain ⟨b,o,rfl,_⟩ :=h.2 hn
 refine Jh (m:=8) (Tryz.func87) J J (lb J) ?_;refine S8 ?_;refine a9 (jae jw J J) ?_;refine S1 ?_;refine Dh J (J) ?_;refine S5 ?_;refine Jx J J (vK) J (lb J) (fun b1=> ?_);refine WF 0 2 J J ?_;refine N2 ?_;refine JV (k:=0) J jw jH Dc J Dc J J J (fun w' hs=>IE (h.over hs.fin) hn) (Ww _) (by unfold maxLen;omega) Om (jih _) (fun r1=> ?_);refine N3 ?_;refine jM J (.tmp J) ?_
 intro w' hs
 have hr0:w'.ownsRow w.heap.size 56 2 (.slice r1.1 (0+n) r1.2) (0+n) (xs.flatMap Js) := (hs.all 0 _ rfl).1
 exact⟨_,rfl,by rw [jiL] at hr0⊢;exact hr0,hs.fin⟩
theorem Il {w w':World} {Rs:List Res} (hs:St ⟨w,[]⟩ Rs w') {kr kp B T n:Nat} {l:List Pc} {x:Option Addr×Nat} {rs:List jV} (hr:Rs[kr]? =some (JY B T 1 n (l.map Pc.val) x)) (hp:Rs[kp]? =some (vE l)) (hne:kr≠kp) (_e:w=w) (hl:l.length=n) (hrs:l.map (·.xs) =rs)
  (hm:∀j,j<rs.length→(rg rs j).length≤1099511627776) :OwnG w.heap.size w'.heap.size w' x.1 n rs:=by
 have hrow:w'.ownsRow B T 1 (.slice x.1 n x.2) n (l.map Pc.val) := (hs.all kr _ hr).1
 have hX:=hs.all kp _ hp
 rcases hrow.2 with⟨_,e⟩ |⟨g,cap,cur,e,hb,hg,hcap,hmax,hsz,htk⟩
 ·subst e
  obtain rfl:l= [] :=jiQ hl
  subst hrs
  exact OwnG.nil _
 ·injection e with e1 e2 e3
  rw [e1]
  have hF: (JY B T 1 n (l.map Pc.val) x).F g:=by show Value.ownBlock (.slice x.1 n x.2) =some g;rw [e1];rfl
  have hown:=Ik (lo:=w.heap.size) (o:=0) hg (((hs.all kr _ hr).2.1 g hF).elim id (fun h=>by cases h)) (fun j hj=> ?_) hX.1 (fun h=>hs.apart kr kp _ _ hne hr hp g hF h) (fun q hq=> (hX.2.1 q hq).elim id (fun h=>by cases h)) (fun e he=> ?_)
  ·rw [hrs,hl] at hown
   exact hown
  ·have hc:cur[j]? = (l.map Pc.val)[j]? :=by rw [←htk,List.getElem?_take,if_pos Om];simp
   rw [jiL,hc]
   simp [hj]
  ·have:e.xs∈rs:=hrs▸jip.2 ⟨e,he,rfl⟩
   obtain ⟨j,hj,e2⟩ :=ji0 this
   have:=hm j hj
   rw [←Wa hj,e2] at this
   omega
theorem jc0 {xs:List (Int×Int)} {k:Nat} (h:k<xs.length) :px xs.reverse k=px xs (xs.length- 1- k)∧py xs.reverse k=py xs (xs.length- 1- k) :=by
 have e:xs.reverse[k]? =xs[xs.length- 1- k]? :=List.getElem?_reverse h
 simp only [px,py,List.getD_eq_getElem?_getD,e]
 exact⟨trivial,trivial⟩
def RevTo (cs:List Value) (o n i:Nat) (xs:List (Int×Int)) :Prop:=∀q,q<n→cs[o+q*2]? =some (.int .i64 (px xs (if q<i∨n- 1- i<q then n- 1- q else q)))∧cs[o+q*2+1]? =some (.int .i64 (py xs (if q<i∨n- 1- i<q then n- 1- q else q)))
theorem RevTo.step {cs:List Value} {o n i:Nat} {xs:List (Int×Int)} (h:RevTo cs o n i xs) (hi:2*i+1<n) (hl:∀q,q<n→o+q*2+1<cs.length) :
  RevTo (qP (qP cs (o+i*2) [.int .i64 (px xs (n- 1- i)), .int .i64 (py xs (n- 1- i))]) (o+ (n- 1- i) *2) [.int .i64 (px xs i), .int .i64 (py xs i)]) o n (i+1) xs:=by
 intro q hq
 have h1:=hl i Om
 have h2:=hl (n- 1- i) Om
 simp only [qP]
 by_cases e1:q=i
 ·subst e1
  rw [if_pos Om,List.getElem?_set_ne Om,List.getElem?_set_ne Om,List.getElem?_set_ne Om,List.getElem?_set_self Om,List.getElem?_set_ne Om,List.getElem?_set_ne Om,List.getElem?_set_self (by simp;omega)]
  exact⟨rfl,rfl⟩
 ·by_cases e2:q=n- 1- i
  ·subst e2
   rw [if_pos Om,List.getElem?_set_ne Om,List.getElem?_set_self (by simp;omega),List.getElem?_set_self (by simp;omega),show n- 1- (n- 1- i) =i by omega]
   exact⟨rfl,rfl⟩
  ·have:=h q hq
   have hif: (q<i+1∨n- 1- (i+1) <q)↔(q<i∨n- 1- i<q) :=by omega
   simp only [hif]
   rw [List.getElem?_set_ne Om,List.getElem?_set_ne Om,List.getElem?_set_ne Om,List.getElem?_set_ne Om,List.getElem?_set_ne Om,List.getElem?_set_ne Om,List.getElem?_set_ne Om,List.getElem?_set_ne Om]
   exact this
theorem RevTo.at_ {cs:List Value} {o n i q:Nat} {xs:List (Int×Int)} (h:RevTo cs o n i xs) (h1:i≤q) (h2:q≤n- 1- i) (hq:q<n) :cs[o+q*2]? =some (.int .i64 (px xs q))∧cs[o+q*2+1]? =some (.int .i64 (py xs q)) :=by
 have:=h q hq
 rwa [if_neg Om] at this
theorem jmD (b o T:Nat) (cs:List Value) (n c:Nat) (xs:List (Int×Int)) (w:World) (hh:w.heap[b]? =some (.cells cs.toArray T (0,0))) (hl:∀k,k<n→o+k*2+1<cs.length) (h0:RevTo cs o n 0 xs) (hn:n≤4611686018427387904) :
  Calls Tryz.prog 233 #[.slice (some ⟨b,o,none⟩) n c] w fun e w'=>e= .returned (.tuple #[])∧Wr b w w'∧∃(cs':List Value) (i:Nat),w'.heap[b]? =some (.cells cs'.toArray T (0,0))∧RevTo cs' o n i xs∧n≤2*i+1:=by
 refine QX (m:=28) (Tryz.func233) J J (lb J) (hh) ?_;refine S9 ?_;refine JQ (X:=Nat×List Value) (fun x=>2*x.1≤n∧x.2.length=cs.length∧RevTo x.2 o n x.1 xs) (fun x=>n- x.1) (fun x=> [(2, .int .i64 (x.1:Int)),(3, .int .i64 ((n:Int) - 1- (x.1:Int)))]) (kK [0]) (fun x=> [.cel b T x.2]) (0,cs) (⟨jii _,J,h0⟩) ⟨J,vi Om,sz⟩ (fun _ h=>h) ?_
 intro⟨k,ds⟩ hx L hL1
 refine v9 ?_;refine r9 ?_
 have hk:2*k≤n:=hx.1
 have hlen:ds.length=cs.length:=hx.2.1
 have hrv:RevTo ds o n k xs:=hx.2.2
 refine S7 ?_;refine cZ (fun c1=> ?_) (fun c1=> ?_)
 ·have hlt:2*k+1<n:=Om
  have hl2:=hl k Om
  have hl3:=hl (n- 1- k) Om
  obtain ⟨r1,r2⟩ :=hrv.at_ (q:=k) Om Om Om
  obtain ⟨r3,r4⟩ :=hrv.at_ (q:=n- 1- k) Om Om Om
  refine W7 3 (.int .i64 ((n- 1- k:Nat) :Int)) J (congrArg _ Om) ?_;refine S5 ?_;refine jpX (i:=2) J Kr Kr Kr (fun _ _ _ h=>h) J J Dc (joy J J) ?_;refine jpX (i:=3) J Kr Kr Kr (fun _ _ _ h=>h) J J Dc (joy J J) ?_;refine JS 13 ?_;refine dK 0 ?_;refine dK 1 ?_;refine dK 4 ?_;refine dK 5 ?_;refine dK 6 ?_;refine dZ 7 J (jk J J jj J (Yg (k:=0) J r3 r4)) ?_;refine dV 8 [10,11] ?_;refine dV 9 [10,11] ?_;refine dV 10 [11] ?_;refine dZ 11 J (jk J J jj J (Yg (k:=0) J r1 r2)) ?_;refine dK 12 ?_;refine vg J Kr J ?_;refine qE (k:=0) J J J J J (by rfl) jH.szx J J (by simp;omega) ?_;refine JS 15 ?_;refine dK 14 ?_;refine vg J Kr J ?_;refine qE (k:=0) J J J J J (by rfl) jH.szx J J (by rw [kD];simp;omega) ?_;refine yn Kr ?_;refine S10 ?_
  exact Ji hL1 ((k+1,_)) (⟨show 2* (k+1)≤n by omega,(by show(List.set (List.set _ _ _) _ _).length=_;rw [jjv,jjv,kD];exact hlen),hrv.step hlt (fun q hq=>by rw [hlen];exact hl q hq)⟩) (by simp only;omega) ⟨vi Om,vi Om,sz⟩ (u9 J)
 ·refine S4 ?_;refine kw J ?_
  intro w' hs
  exact⟨rfl,hs.over.wr,ds,k,hs.cel (k:=0) rfl,hrv,by omega⟩
theorem jmC (A:Option Addr) (c:Nat) (w:World) :Calls Tryz.prog 233 #[.slice A 0 c] w fun e w'=>e= .returned (.tuple #[])∧Over w w':=by
 refine Jh (m:=28) (Tryz.func233) J J (lb J) ?_;refine S9 ?_;refine qz (X:=Nat) (fun k=>k=0) (fun k=>k) (fun k=> [(2, .int .i64 (k:Int)),(3, .int .i64 (-1))]) (kK [0]) 0 (J) ⟨J,sz⟩ ?_
 intro k hk L hL1
 refine V7 ?_;refine cZ (fun c1=> ?_) (fun c1=> ?_)
 ·omega
 ·refine S4 ?_;refine kw J ?_
  intro w' hs
  exact⟨rfl,hs.fin⟩
theorem jm6 (lo hi:Nat) (A:Option Addr) (n c:Nat) (xs:List (Int×Int)) (w:World) (h:OwnP lo hi w A n xs) (hn2:n≤4611686018427387904) :
  Calls Tryz.prog 233 #[.slice A n c] w fun e w'=>e= .returned (.tuple #[])∧Wrs (fun b=>0<n∧b=W3 A∧jhN lo hi b) w w'∧OwnP lo hi w' A n xs.reverse:=by
 have hl:=h.1
 by_cases hn:0<n
 ·obtain ⟨b,o,T,cs,rfl,h1,h2,hh,hc⟩ :=h.2 hn
  have hh':w.heap[b]? =some (.cells cs.toList.toArray T (0,0)) :=by rw [hh,jjy]
  refine(jmD b o T cs.toList n c xs w hh' (fun k hk=> ?_) (fun q hq=> ?_) hn2).mono ?_
  ·have:= (hc k hk).2
   have:= (Array.getElem?_eq_some_iff.1 this).1
   simpa using this
  ·have:=hc q hq
   rw [if_neg Om]
   simpa using this
  ·rintro e w' ⟨rfl,hw,cs',i,hh2,hrv,hi2⟩
   refine⟨rfl,⟨hw.os,hw.tape,hw.output,hw.size,fun q hq hne=>hw.block q hq (fun e=>hne ⟨hn,e,by subst e;exact⟨h1,h2⟩⟩)⟩,by simpa using hl,fun _=>⟨b,o,T,cs'.toArray,rfl,h1,h2,hh2,fun k hk=> ?_⟩⟩
   obtain ⟨e1,e2⟩ :=jc0 (xs:=xs) (k:=k) Om
   have:=hrv k hk
   rw [e1,e2,hl]
   by_cases hm:k<i∨n- 1- i<k
   ·rw [if_pos hm] at this;simpa using this
   ·rw [if_neg hm] at this
    rw [show n- 1- k=k by omega]
    simpa using this
 ·obtain rfl:n=0:=by omega
  obtain rfl:xs= [] :=jiQ hl
  refine(jmC A c w).mono ?_
  rintro e w' ⟨rfl,hO⟩
  exact⟨rfl,Wrs.of hO,OwnP.nil A⟩
theorem OwnGd.put {lo hi:Nat} {w w':World} {b o T:Nat} {cs:Array Value} {pl:Nat→Option Addr×Nat} {n k:Nat} {rs:List jV} (ys:jV) (h:OwnGd lo hi w b o T cs pl n rs) (hl:rs.length=n) (hk:k<n) (hy:ys.length= (rg rs k).length)
  (hw:Wrs (fun q=>0< (rg rs k).length∧q=W3 (pl k).1∧jhN lo hi q) w w') (hp:OwnP lo hi w' (pl k).1 (rg rs k).length ys) :OwnGd lo hi w' b o T cs pl n (rs.set k ys) :=by
 have hse:∀j,j<n→rg (rs.set k ys) j=if j=k then ys else rg rs j:=fun j hj=>by
  simp only [rg,List.getD_eq_getElem?_getD]
  by_cases e:j=k
  ·subst e;rw [if_pos rfl,List.getElem?_set_self Om];rfl
  ·rw [if_neg e,List.getElem?_set_ne (fun e'=>e e'.symm)]
 have hlen:∀j,j<n→(rg (rs.set k ys) j).length= (rg rs j).length:=fun j hj=>by
  rw [hse j hj]
  by_cases e:j=k
  ·subst e;rw [if_pos rfl,hy]
  ·rw [if_neg e]
 refine⟨h.low,h.high,(hw.block b (J3 h.blk) fun hq=> ?_).trans h.blk,fun j hj=> ?_,fun j hj=> ?_,fun j hj=> ?_,fun i j hi hj hij=> ?_⟩
 ·exact h.off k hk hq.1 hq.2.1.symm
 ·rw [hlen _ hj];exact h.cell j hj
 ·rw [hse j hj]
  by_cases hjk:j=k
  ·subst hjk
   rw [if_pos rfl,hy]
   exact hp
  ·rw [if_neg hjk]
   by_cases h0:0< (rg rs j).length
   ·refine(h.pts j hj).agree fun p hp' h1 h2=> ?_
    obtain ⟨b',o',T',cs',e',_,_,hh',_⟩ := (h.pts j hj).2 h0
    rw [e'] at hp'
    injection hp' with hp'
    subst hp'
    refine hw.block b' (J3 hh') fun hq=> ?_
    refine h.apart j k hj hk hjk h0 hq.1 ?_
    rw [e']
    exact hq.2.1
   ·exact⟨(h.pts j hj).1,fun h1=>absurd h1 h0⟩
 ·rw [hlen _ hj];exact h.off j hj
 ·rw [hlen _ hi,hlen _ hj];exact h.apart i j hi hj hij
def OQ (xs:List (Int×Int)) (j:Nat) :List (Int×Int) :=xs.reverse.take j
theorem Te {xs:List (Int×Int)} {j:Nat} (h:j<xs.length) : (OQ xs j).flatMap Js++ [.int .i64 (px xs (xs.length- 1- j)), .int .i64 (py xs (xs.length- 1- j))] = (OQ xs (j+1)).flatMap Js:=by
 unfold OQ
 rw [jin (by simpa using h),jio]
 congr 1
 rw [yg (by simpa using h),(jc0 h).1,(jc0 h).2]
 rfl
theorem NK (xs:List (Int×Int)) :OQ xs xs.length=xs.reverse:=jiK (by simp)
end Go.Proofs.YtpncbbcmoiiipaaGreat
