import Derived.Test.YtbahojdbmmjkcaaGreatSOwn
import Derived.Lib.SliceRun
import Derived.Test.YtbahojdbmmjkcaaGreatSOn
import Derived.Test.YtbahojdbmmjkcaaGreatSValidRegion
set_option linter.unusedVariables false
set_option linter.unusedSimpArgs false
namespace Go.Proofs.YtbahojdbmmjkcaaGreat
open Go Go.RowKit
variable {A:Option Addr} {T b hi k lo n:Nat} {V:Option Addr→Nat→Value} {args cs:Array Value} {m:Int} {pl:Nat→Option Addr×Nat} {rs:List Jp} {w:World} {x:Option Addr×Nat} {xs:List (Int×Int)}
set_option maxRecDepth 100000
set_option maxHeartbeats 4000000
def MarkTo (cs:List Value) (o:Nat) (m:Int) (k:Nat) :Prop:=∀j,j<k→cs[o+j*2]? =some (.int .i64 (m+2*j))∧cs[o+j*2+1]? =some (.int .i64 (m+2*j+1))
theorem MarkTo.step {cs:List Value} {o:Nat} (h:MarkTo cs o m k) (hl:o+k*2+1<cs.length) :
  MarkTo (qL (qL cs (o+k*2+0) [.int .i64 (m+2*k)]) (o+k*2+1) [.int .i64 (m+2*k+1)]) o m (k+1) :=by
 intro j hj
 simp only [qL,jjO]
 by_cases hjk:j=k
 ·subst hjk
  rw [List.getElem?_set_ne Om,List.getElem?_set_self Om,List.getElem?_set_self (by simpa using hl)]
  exact⟨rfl,rfl⟩
 ·have:=h j Om
  rw [List.getElem?_set_ne Om,List.getElem?_set_ne Om,List.getElem?_set_ne Om,List.getElem?_set_ne Om]
  exact this
theorem ID (b o T:Nat) (cs:List Value) (n c:Nat) (m:Int) (w:World) (hh:w.heap[b]? =some (.cells cs.toArray T (0,0))) (hl:∀k,k<n→o+k*2+1<cs.length) (hm:0≤m) (hb:m+2*n≤4611686018427387904) :
  Calls Tryz.prog 36 #[.slice (some ⟨b,o,none⟩) n c, .int .i64 m] w fun e w'=>e= .returned (.int .i64 (m+2* (n:Int)))∧Wr b w w'∧∃cs':List Value,w'.heap[b]? =some (.cells cs'.toArray T (0,0))∧MarkTo cs' o m n:=by
 refine QD (m:=27) (Tryz.func36) J J (lb J) (hh) ?_;refine S10 ?_;refine JE (X:=Nat×List Value) (fun x=>x.1≤n∧x.2.length=cs.length∧MarkTo x.2 o m x.1) (fun x=>n- x.1) (fun x=> [(1, .int .i64 (m+2* (x.1:Int))),(5, .int .i64 (x.1:Int))]) (kK [0,4]) (fun x=> [.cel b T x.2]) (0,cs) (⟨jie _,J,fun j hj=>absurd hj Om⟩) ⟨vi (by simp),sz⟩ (fun _ h=>h) ?_
 intro⟨k,ds⟩ hx L hL1
 refine v9 ?_;refine r9 ?_
 have hk:k≤n:=hx.1
 have hlen:ds.length=cs.length:=hx.2.1
 have hmk:MarkTo ds o m k:=hx.2.2
 refine S8 ?_;refine cZ (fun c1=> ?_) (fun c1=> ?_)
 ·have hlt:k<n:=Om
  have hl2:=hl k hlt
  refine S12 ?_;refine qe (k:=0) J J J J J (by rfl) qW.szx J J (by simp;omega) ?_;refine S15 ?_;refine qe (k:=0) J J J J J (by rfl) qW.szx J J (by rw [qz];simp;omega) ?_;refine S13 ?_
  exact Jd hL1 ((k+1,_)) (⟨show k+1≤n by omega,(by show(List.set _ _ _).length=_;rw [jjf,qz];exact hlen),hmk.step Om⟩) (by simp only;omega) ⟨vi Om,vi Om,sz⟩ (u9 J)
 ·have hkn:k=n:=Om
  refine S11 ?_;refine jJ J (.tmp J) ?_
  intro w' hs
  exact⟨ux (by rw [hkn]),hs.over.wr,ds,hs.cel (k:=0) rfl,hkn▸hmk⟩
theorem IC (A:Option Addr) (c:Nat) (m:Int) (w:World) :Calls Tryz.prog 36 #[.slice A 0 c, .int .i64 m] w fun e w'=>e= .returned (.int .i64 m)∧Over w w':=by
 refine jK (m:=27) (Tryz.func36) J J (lb J) ?_;refine S10 ?_;refine qj (X:=Nat) (fun k=>k=0) (fun k=>k) (fun k=> [(5, .int .i64 (k:Int))]) (kK [0,1,4]) 0 (J) ⟨J,sz⟩ ?_
 intro k hk L hL1
 refine V8 ?_;refine cZ (fun c1=> ?_) (fun c1=> ?_)
 ·omega
 ·refine S11 ?_;refine jJ J (.tmp J) ?_
  intro w' hs
  exact⟨rfl,hs.fin⟩
def Ds (lo hi:Nat) (b:Nat) :Prop:=lo≤b∧b<hi
theorem HX (lo hi:Nat) (A:Option Addr) (n c:Nat) (xs:List (Int×Int)) (m:Int) (w:World) (h:OwnP lo hi w A n xs) (hm:0≤m) (hb:m+2*n≤4611686018427387904) :
  Calls Tryz.prog 36 #[.slice A n c, .int .i64 m] w fun e w'=>e= .returned (.int .i64 (m+2* (n:Int)))∧Wrs (fun b=>0<n∧b=VW A∧Ds lo hi b) w w'∧OwnP lo hi w' A n (WK m n) :=by
 by_cases hn:0<n
 ·obtain ⟨b,o,T,cs,rfl,h1,h2,hh,hc⟩ :=h.2 hn
  have hh':w.heap[b]? =some (.cells cs.toList.toArray T (0,0)) :=by rw [hh,jjd]
  refine(ID b o T cs.toList n c m w hh' (fun k hk=> ?_) hm hb).mono ?_
  ·have:= (hc k hk).2
   have:= (Array.getElem?_eq_some_iff.1 this).1
   simpa using this
  ·rintro e w' ⟨rfl,hw,cs',hh2,hmk⟩
   refine⟨rfl,⟨hw.os,hw.tape,hw.output,hw.size,fun q hq hne=>hw.block q hq (fun e=>hne ⟨hn,e,by subst e;exact⟨h1,h2⟩⟩)⟩,yl m n,fun _=>⟨b,o,T,cs'.toArray,rfl,h1,h2,hh2,fun k hk=> ?_⟩⟩
   rw [TG hk,TI hk]
   simpa using hmk k hk
 ·obtain rfl:n=0:=by omega
  refine Calls.mono (?_:Calls Tryz.prog 36 #[.slice A 0 c, .int .i64 m] w fun e w'=>e= .returned (.int .i64 m)∧Over w w') ?_
  ·exact IC A c m w
  ·rintro e w' ⟨rfl,hO⟩
   exact⟨by simp,Wrs.of hO,by simpa [WK] using OwnP.nil A⟩
theorem SC (A:Option Addr) (n c:Nat) (m:Int) (w:World) (h:Pts w A n (WK m n)) (hm:0≤m) (hb:m+2*n≤4611686018427387904) :
  Calls Tryz.prog 134 #[.slice A n c, .int .i64 m] w fun e w'=>e= .returned (.int .i64 (m+2* (n:Int)))∧Over w w':=by
 refine jK (m:=31) (Tryz.func134) J J (lb J) ?_;refine S10 ?_;refine qj (X:=Nat) (fun k=>k≤n) (fun k=>n- k) (fun k=> [(1, .int .i64 (m+2* (k:Int))),(5, .int .i64 (k:Int))]) (kK [0,4]) 0 (jie _) ⟨vi (by simp),sz⟩ ?_
 intro k hk L hL1
 refine V8 ?_;refine cZ (fun c1=> ?_) (fun c1=> ?_)
 ·have hlt:k<n:=Om
  obtain ⟨bb,oo,rfl,hbb,hc1,hc2⟩ :=h.at_ hlt
  rw [TG hlt] at hc1
  rw [TI hlt] at hc2
  refine S11 ?_;refine a9 (jq J J jt (kH hc1 hbb)) ?_;refine S3 ?_;refine va J ((by simp)) ?_;refine S15 ?_;refine a9 (jq J J jt (Qb hc2 hbb)) ?_;refine S3 ?_;refine va J ((by simp)) ?_;refine S14 ?_
  exact qa hL1 (k+1) Om Om ⟨vi Om,vi Om,sz⟩ (u9 J)
 ·refine S11 ?_;refine jJ J (.tmp J) ?_
  intro w' hs
  exact⟨ux (by rw [show k=n by omega]),hs.fin⟩
def xm (m:Int) (rs:List Jp) (k:Nat) :List Jp:= (List.range rs.length).map fun j=>if j<k then rg (vm m rs) j else rg rs j
theorem Xp (m:Int) (rs:List Jp) (k:Nat) : (xm m rs k).length=rs.length:=by simp [xm]
theorem Zz {j:Nat} (h:j<rs.length) :rg (xm m rs k) j=if j<k then rg (vm m rs) j else rg rs j:=by simp [rg,xm,List.getD,h]
theorem zV {j:Nat} (h:j<rs.length) : (rg (xm m rs k) j).length= (rg rs j).length:=by
 rw [Zz h]
 split
 ·rw [yy _ _ _ h,yl]
 ·rfl
theorem Ps {ss:List Jp} (h:rs.length=ss.length) (hp:∀j,j<rs.length→rg rs j=rg ss j) :rs=ss:=by
 refine jjp h fun j h1 h2=> ?_
 rw [Wc h1,Wc h2,hp j h1]
theorem jap (m:Int) (rs:List Jp) :xm m rs 0=rs:=Ps (Xp _ _ _) fun j hj=>by rw [Xp] at hj;rw [Zz hj,if_neg Om]
theorem jcE (m:Int) (rs:List Jp) :xm m rs rs.length=vm m rs:=Ps (by rw [Xp,Ya]) fun j hj=>by rw [Xp] at hj;rw [Zz hj,if_pos hj]
theorem OwnGd.mark {w':World} {o:Nat} (h:OwnGd lo hi w b o T cs pl n (xm m rs k)) (hl:rs.length=n) (hk:k<n) (hw:Wrs (fun q=>0< (rg rs k).length∧q=VW (pl k).1∧Ds lo hi q) w w') (hp:OwnP lo hi w' (pl k).1 (rg rs k).length (WK (m+2* (QP rs k:Nat)) (rg rs k).length)) :OwnGd lo hi w' b o T cs pl n (xm m rs (k+1)) :=by
 have hlen:∀i j,j<n→(rg (xm m rs i) j).length= (rg rs j).length:=fun i j hj=>zV Om
 refine⟨h.low,h.high,(hw.block b (J4 h.blk) fun hq=> ?_).trans h.blk,fun j hj=> ?_,fun j hj=> ?_,fun j hj=> ?_,fun i j hi hj hij=> ?_⟩
 ·exact h.off k hk (by rw [hlen _ _ hk];exact hq.1) hq.2.1.symm
 ·rw [hlen _ _ hj,←hlen k j hj];exact h.cell j hj
 ·by_cases hjk:j=k
  ·subst hjk
   have e:rg (xm m rs (j+1)) j=WK (m+2* (QP rs j:Nat)) (rg rs j).length:=by rw [Zz Om,if_pos Om,yy _ _ _ Om]
   rw [e,yl]
   exact hp
  ·have e:rg (xm m rs (k+1)) j=rg (xm m rs k) j:=by
    rw [Zz Om,Zz Om]
    by_cases hlt:j<k
    ·rw [if_pos Om,if_pos hlt]
    ·rw [if_neg Om,if_neg hlt]
   rw [e]
   by_cases h0:0< (rg rs j).length
   ·refine(h.pts j hj).agree fun p hp' h1 h2=> ?_
    have hpt:=h.pts j hj
    obtain ⟨b',o',T',cs',e',_,_,hh',_⟩ :=hpt.2 (by rw [hlen _ _ hj];exact h0)
    rw [e'] at hp'
    injection hp' with hp'
    subst hp'
    refine hw.block b' (J4 hh') fun hq=> ?_
    refine h.apart j k hj hk hjk (by rw [hlen _ _ hj];exact h0) (by rw [hlen _ _ hk];exact hq.1) ?_
    rw [e']
    exact hq.2.1
   ·exact⟨(h.pts j hj).1,fun h1=>by rw [hlen _ _ hj] at h1;exact absurd h1 h0⟩
 ·rw [hlen _ _ hj,←hlen k j hj];exact h.off j hj
 ·rw [hlen _ _ hi,hlen _ _ hj,←hlen k i hi,←hlen k j hj];exact h.apart i j hi hj hij
theorem Oi (A:Option Addr) (c:Nat) (m:Int) (w:World) :Calls Tryz.prog 77 #[.slice A 0 c, .int .i64 m] w fun e w'=>e= .returned (.int .i64 m)∧Over w w':=by
 refine jK (m:=20) (Tryz.func77) J J (lb J) ?_;refine S10 ?_;refine qj (X:=Nat) (fun k=>k=0) (fun k=>k) (fun k=> [(5, .int .i64 (k:Int))]) (kK [0,1,4]) 0 (J) ⟨J,sz⟩ ?_
 intro k hk L hL1
 refine V8 ?_;refine cZ (fun c1=> ?_) (fun c1=> ?_)
 ·omega
 ·refine S11 ?_;refine jJ J (.tmp J) ?_
  intro w' hs
  exact⟨rfl,hs.fin⟩
abbrev gdR (lo hi b o T:Nat) (cs:Array Value) (pl:Nat→Option Addr×Nat) (n:Nat) (rs:List Jp) :Res:= .clo lo hi (fun w=>OwnGd lo hi w b o T cs pl n rs)
theorem gdP {o:Nat} (h:OwnGd lo hi w b o T cs pl n rs) (hz:hi≤w.heap.size) : (gdR lo hi b o T cs pl n rs).P w:=⟨hz,fun w' _ ha=>h.agree ha⟩
theorem gdG {o:Nat} (h: (gdR lo hi b o T cs pl n rs).P w) :OwnGd lo hi w b o T cs pl n rs:=h.2 w h.1 fun _ _ _=>rfl
theorem XY :b∈List.range' lo (hi- lo)↔Ds lo hi b:=by
 rw [List.mem_range'_1]
 unfold Ds
 omega
theorem Oj (lo hi b o T:Nat) (cs:Array Value) (pl:Nat→Option Addr×Nat) (n c:Nat) (rs:List Jp) (m:Int) (w:World) (h:OwnGd lo hi w b o T cs pl n rs) (hl:rs.length=n) (hz:hi≤w.heap.size) (hm:0≤m) (hb:m+2* (QP rs n:Nat)≤4611686018427387904) (hn:n≤4611686018427387904) :
  Calls Tryz.prog 77 #[.slice (some ⟨b,o,none⟩) n c, .int .i64 m] w fun e w'=>e= .returned (.int .i64 (m+2* (QP rs n:Nat)))∧Wrs (Ds lo hi) w w'∧OwnGd lo hi w' b o T cs pl n (vm m rs) :=by
 refine Yl (m:=20) (List.range' lo (hi- lo)) (gdR lo hi b o T cs pl n rs) (gdP h hz) (fun _ h=>XY.2 h) J (Tryz.func77) J J (lb J) ?_;refine S10 ?_;refine JE (X:=Nat) (fun k=>k≤n) (fun k=>n- k) (fun k=> [(1, .int .i64 (m+2* (QP rs k:Nat))),(5, .int .i64 (k:Int))]) (kK [0,4]) (fun k=> [gdR lo hi b o T cs pl n (xm m rs k)]) 0 (jie _) ⟨vi (by simp [QP]),sz⟩ (fun _ h=> (jap m rs).symm▸h) ?_
 intro k hk L hL1
 refine v9 ?_;refine r9 ?_;refine S8 ?_;refine cZ (fun c1=> ?_) (fun c1=> ?_)
 ·have hlt:k<n:=Om
  have hmo:=W4 rs (show k+1≤n by omega)
  have hse:QP rs (k+1) =QP rs k+ (rg rs k).length:=rfl
  refine S9 ?_;refine a9 (jq J J JV (fun w' hs=> (by have hg:=gdG (hs.all 0 _ J).1;rw [jja,jjO,cell_of_row w' b _ _ T (0,0) hg.blk,hg.cell k hlt,zV Om]))) ?_;refine S2 ?_;refine vT (k:=0) (r':=gdR lo hi b o T cs pl n (xm m rs (k+1))) Yy rfl rfl rfl Dc rfl (fun w' hs=> (HX lo hi _ _ _ _ _ w' (by have:= (gdG (hs.all 0 _ rfl).1).pts k hlt;rw [zV Om] at this;exact this) Om Om).mono (by rintro e w2 ⟨rfl,hw,hp⟩;exact⟨rfl,hw.mono fun _ h=>h.2.2,gdP ((gdG (hs.all 0 _ rfl).1).mark hl hlt hw hp) (jiY (hs.all 0 _ rfl).1.1 hw.size)⟩)) (fun _ h=>h) rfl ?_;refine N9 ?_
  exact Jd hL1 (k+1) Om Om ⟨vi Om,vi Om,sz⟩ (u9 J)
 ·have hkn:k=n:=Om
  refine S11 ?_;refine jJ J (.tmp J) ?_
  intro w' hs
  exact⟨ux (by rw [hkn]),hs.over.wrs.mono fun _ h=>XY.1 h,by have:=gdG (hs.all 0 _ rfl).1;rw [hkn,←hl,jcE,hl] at this;exact this⟩
theorem De (lo hi:Nat) (A:Option Addr) (n c:Nat) (rs:List Jp) (m:Int) (w:World) (h:OwnG lo hi w A n rs) (hz:hi≤w.heap.size) (hm:0≤m) (hb:m+2* (QP rs n:Nat)≤4611686018427387904) (hn:n≤4611686018427387904) :
  Calls Tryz.prog 77 #[.slice A n c, .int .i64 m] w fun e w'=>e= .returned (.int .i64 (m+2* (QP rs n:Nat)))∧Wrs (Ds lo hi) w w'∧OwnG lo hi w' A n (vm m rs) :=by
 have hl:=h.1
 by_cases h0:0<n
 ·obtain ⟨b,o,T,cs,pl,rfl,hd⟩ :=h.2.2 h0
  refine(Oj lo hi b o T cs pl n c rs m w hd hl hz hm hb hn).mono ?_
  rintro e w' ⟨rfl,hw,hg⟩
  exact⟨rfl,hw,by rw [Ya,hl],fun k hk=>by rw [yy _ _ _ Om,yl];exact h.2.1 k hk,fun _=>⟨b,o,T,cs,pl,rfl,hg⟩⟩
 ·obtain rfl:n=0:=by omega
  refine(Oi A c m w).mono ?_
  rintro e w' ⟨rfl,hO⟩
  obtain rfl:rs= [] :=jiE hl
  exact⟨by simp [QP],Wrs.of hO,OwnG.nil A⟩
theorem Oh (lo hi:Nat) (A:Option Addr) (n c:Nat) (rs:List Jp) (m:Int) (w:World) (h:OwnG lo hi w A n rs) (hz:hi≤w.heap.size) (hm:0≤m) (hb:m+2* (QP rs n:Nat)≤4611686018427387904) (hn:n≤4611686018427387904) :
  Calls Tryz.prog 25 #[qG A n c, .int .i64 m] w fun e w'=>e= .returned (.int .i64 (m+2* (QP rs n:Nat)))∧Wrs (Ds lo hi) w w'∧OwnG lo hi w' A n (vm m rs) :=by
 refine Yl (m:=10) (List.range' lo (hi- lo)) (kx n rs lo hi A) (E7 h hz) (fun _ h=>XY.2 h) J (Tryz.func25) J J (lb J) ?_;refine S3 ?_;refine aX (fun b1=> ?_);refine N8 ?_;refine vT (k:=0) (r':=kx n (vm m rs) lo hi A) Xz rfl rfl rfl Dc rfl (fun w' hs=> (De lo hi A n c rs m w' (uO (hs.all 0 _ rfl).1) (hs.all 0 _ rfl).1.1 hm hb hn).mono (by rintro e w2 ⟨rfl,hw,hp⟩;exact⟨rfl,hw,E7 hp (jiY (hs.all 0 _ rfl).1.1 hw.size)⟩)) (fun _ h=>h) rfl ?_;refine N8 ?_;refine jJ J (.tmp J) ?_
 intro w' hs
 exact⟨rfl,hs.over.wrs.mono fun _ h=>XY.1 h,uO (hs.all 0 _ rfl).1⟩
theorem BX (A:Option Addr) (n c:Nat) (rs:List Jp) (m:Int) (w:World) (h:Rings w A n (vm m rs)) (hm:0≤m) (hb:m+2* (QP rs n:Nat)≤4611686018427387904) (hn:n≤4611686018427387904) :
  Calls Tryz.prog 78 #[.slice A n c, .int .i64 m] w fun e w'=>e= .returned (.int .i64 (m+2* (QP rs n:Nat)))∧Over w w':=by
 have hl:=h.1
 rw [Ya] at hl
 refine jK (m:=22) (Tryz.func78) J J (lb J) ?_;refine S10 ?_;refine qj (X:=Nat) (fun k=>k≤n) (fun k=>n- k) (fun k=> [(1, .int .i64 (m+2* (QP rs k:Nat))),(5, .int .i64 (k:Int))]) (kK [0,4]) 0 (jie _) ⟨vi (by simp [QP]),sz⟩ ?_
 intro k hk L hL1
 refine V8 ?_;refine cZ (fun c1=> ?_) (fun c1=> ?_)
 ·have hlt:k<n:=Om
  have hmo:=W4 rs (show k+1≤n by omega)
  have hse:QP rs (k+1) =QP rs k+ (rg rs k).length:=rfl
  obtain ⟨bb,oo,Ak,ck,rfl,hbB,hcell,hpts,hmax⟩ :=h.at_ hlt
  rw [yy _ _ _ Om,yl] at hcell hpts
  refine S10 ?_;refine a9 (jq J J JV (jgW hcell hbB)) ?_;refine S1 ?_;refine a9 (jG LF J J (fun w1 hs=>SC _ _ _ _ w1 (hpts.over hs.fin) Om Om)) ?_;refine S7 ?_;refine va J (decide_eq_false Om) ?_;refine S8 ?_
  exact qa hL1 (k+1) Om Om ⟨vi Om,vi Om,sz⟩ (u9 J)
 ·refine S11 ?_;refine jJ J (.tmp J) ?_
  intro w' hs
  exact⟨ux (by rw [show k=n by omega]),hs.fin⟩
theorem MS (A:Option Addr) (n c:Nat) (rs:List Jp) (m:Int) (w:World) (h:Rings w A n (vm m rs)) (hm:0≤m) (hb:m+2* (QP rs n:Nat)≤4611686018427387904) (hn:n≤4611686018427387904) :
  Calls Tryz.prog 38 #[qG A n c, .int .i64 m] w fun e w'=>e= .returned (.int .i64 (m+2* (QP rs n:Nat)))∧Over w w':=by
 refine jK (m:=12) (Tryz.func38) J J (lb J) ?_;refine S3 ?_;refine aX (fun b1=> ?_);refine N7 ?_;refine a9 (jG Xy J J (fun w1 hs=>BX A n c rs m w1 (h.over hs.fin) hm hb hn)) ?_;refine S8 ?_;refine va J (decide_eq_false Om) ?_;refine S8 ?_;refine jJ J (.tmp J) ?_
 intro w' hs
 exact⟨rfl,hs.fin⟩
section
variable {P:Program} {n:Nat} {env:List (Nat×Value)} {w0:Bs} {Rs:List Res} {ops:Array Oper} {Q:Exit→Act→World→Prop} {K:Act→World→Prop} {o:Oper}
theorem jaI {U s:Nat} {x:Operand} {T':TypeId} {m c m' c':Nat} (hT:TyL P T U s) (ho:o.op= .binOp .eql T x (.const (.slice none m' c')) T') (hx:ev env x=some (.slice A m c)) :Qt P o n env w0 Rs (.bool A.isNone) :=
 kC fun a w hf _=>by
  have e1:a.eval (.const (.slice none m' c')) = .slice none m' c':=rfl
  have e2:∀y z:Operand,eqGuard .eql T y z (.slice A m c) (.slice none m' c') =pure () :=fun _ _=>rfl
  unfold execOp;simp only [ho,hf.ev hx,e1,e2];simp [Lib.run_eql_slice_nil w T U A m c m' c' hT.desc]
end
structure Pc where
 xs:Jp
 A:Option Addr
 c:Nat
 lo:Nat
 hi:Nat
def Pc.val (e:Pc) :Value:= .slice e.A e.xs.length e.c
def Pc.res (e:Pc) :Res:=Ye e.xs.length e.xs e.lo e.hi e.A
abbrev vu (l:List Pc) :Res:= .many (l.map Pc.res)
theorem vZ (l:List Pc) (e:Pc) :Res.many (l.map Pc.res++ [e.res]) =vu (l++ [e]) :=by simp [vu]
theorem Tv {B:Nat} (h:w.ownsRow B T 2 (.slice x.1 n x.2) n (xs.flatMap jV)) (hn:xs.length=n) :OwnP (VW x.1) (VW x.1+1) w x.1 n xs:=by
 refine⟨hn,fun h0=> ?_⟩
 rcases h.2 with⟨_,e⟩ |⟨g,cap,cur,e,hb,hg,hcap,hmax,hsz,htk⟩
 ·omega
 ·injection e with e1 e2 e3
  rw [e1]
  refine⟨g,0,T,cur,J,jif _,Nat.lt_succ_self _,hg,fun k hk=> ?_⟩
  have hf:=fun q hq=>G1 xs k q Om hq
  have hc:∀j,j<n*2→cur[j]? = (xs.flatMap jV)[j]? :=fun j hj=>by
   rw [←htk,List.getElem?_take,if_pos hj]
   simp
  rw [jiB,hc _ Om,hc _ Om]
  have h0:=hf 0 Om
  have h1:=hf 1 Om
  rw [U5 Om] at h0 h1
  exact⟨by simpa [jV] using h0,by simpa [jV] using h1⟩
section
variable {n:Nat} {env:List (Nat×Value)} {w0:Bs} {Rs:List Res} {K:Act→World→Prop}
theorem ZM (k:Nat) {B m:Nat} (hk:Rs[k]? =some (JS B T 2 m (xs.flatMap jV) x)) (hm:xs.length=m) (h:∀lo hi,At n env w0 (Rs.set k (Pc.res ⟨xs,x.1,x.2,lo,hi⟩)) K) :At n env w0 Rs K:=by
 subst hm
 by_cases h0:0<xs.length
 ·refine fun a w hf hs=>h (VW x.1) (VW x.1+1) a w hf (hs.chg hk (fun hP=> ?_) (fun b hb=> ?_) J)
  ·have hP':w.ownsRow B T 2 (.slice x.1 xs.length x.2) xs.length (xs.flatMap jV) :=hP
   refine jc4 (Tv hP' J) ?_
   rcases hP'.2 with⟨_,e⟩ |⟨g,cap,cur,e,hb,hg,_⟩
   ·omega
   ·injection e with e1
    rw [e1]
    exact J4 hg
  ·have hP':w.ownsRow B T 2 (.slice x.1 xs.length x.2) xs.length (xs.flatMap jV) := (hs.all k _ hk).1
   have hb':VW x.1≤b∧b<VW x.1+1:=hb
   rcases hP'.2 with⟨_,e⟩ |⟨g,cap,cur,e,hb2,hg,_⟩
   ·omega
   ·injection e with e1
    show Value.ownBlock (.slice x.1 xs.length x.2) =some b
    rw [e1] at hb'⊢
    have e3:g=b:=by have h1:g≤b:=hb'.1;have h2:b<g+1:=hb'.2;omega
    subst e3
    rfl
 ·refine fun a w hf hs=>h 0 0 a w hf (hs.chg hk (fun hP=> ?_) (fun b hb=>by have:0≤b∧b<0:=hb;omega) J)
  refine jc4 ⟨J,fun h1=>absurd h1 h0⟩ (jie _)
end
theorem Yf {l:List Pc} (h:k<l.length) :rg (l.map (·.xs)) k= (l[k]).xs:=by simp [rg,List.getD,h]
theorem CN {o:Nat} {l:List Pc} (hb:w.heap[b]? =some (.cells cs T (0,0))) (hlo:lo≤b) (hc:∀k (h:k<l.length),cs[o+k]? =some (l[k]).val) (hP: (vu l).P w) (hne:¬(vu l).F b) (hF:∀q,(vu l).F q→lo≤q) (hm:∀e∈l,(e.xs.length:Int)≤1099511627776) :OwnG lo w.heap.size w (some ⟨b,o,none⟩) l.length (l.map (·.xs)) :=by
 have own:∀k (h:k<l.length),OwnP (l[k]).lo (l[k]).hi w (l[k]).A (l[k]).xs.length (l[k]).xs:=fun k h=>jaF (hP.1 _ (jiD.2 ⟨l[k],jir h,rfl⟩)).1
 have fp:∀k (h:k<l.length),0< (l[k]).xs.length→(l[k]).res.F (VW (l[k]).A) :=fun k h h0=>by
  obtain ⟨b',o',T',cs',e,h1,h2,_⟩ := (own k h).2 h0
  rw [e]
  exact⟨h1,h2⟩
 have inF:∀k (h:k<l.length) q,(l[k]).res.F q→(vu l).F q:=fun k h q hq=>⟨_,jiD.2 ⟨l[k],jir h,rfl⟩,hq⟩
 refine⟨by simp,fun k hk=>by rw [Yf hk];exact hm _ (jir hk),fun _=>⟨b,o,T,cs,fun k=>if h:k<l.length then((l[k]).A,(l[k]).c) else(none,0),J,hlo,J4 hb,hb,fun k hk=> ?_,fun k hk=> ?_,fun k hk h0=> ?_,fun i j hi hj hij h1 h2=> ?_⟩⟩
 ·rw [hc k hk,Yf hk]
  simp only [hk,dite_true]
  rfl
 ·rw [Yf hk]
  simp only [hk,dite_true]
  refine⟨J,fun h0=> ?_⟩
  obtain ⟨b',o',T',cs',e,h1,h2,hh,hcc⟩ := (own k hk).2 h0
  exact⟨b',o',T',cs',e,hF b' (inF k hk b' ⟨h1,h2⟩),J4 hh,hh,hcc⟩
 ·rw [Yf hk] at h0
  simp only [hk,dite_true]
  exact fun e=>hne (e▸inF k hk _ (fp k hk h0))
 ·rw [Yf hi] at h1
  rw [Yf hj] at h2
  simp only [hi,hj,dite_true]
  intro e
  have hp:=jjc.1 hP.2
  rcases ji9 i j with hlt | hge
  ·have:=hp i j (by simpa using hi) (by simpa using hj) hlt (VW (l[i]).A)
   simp only [jje] at this
   exact this (fp i hi h1) (e▸fp j hj h2)
  ·have:=hp j i (by simpa using hj) (by simpa using hi) Om (VW (l[i]).A)
   simp only [jje] at this
   exact this (e▸fp j hj h2) (fp i hi h1)
theorem wU (hk:k<rs.length) :rs.take (k+1) =rs.take k++ [rg rs k] :=by
 rw [jik hk,Wc hk]
theorem UW {N:Nat} (h: (kx n rs lo hi A).P w) (hF:∀b,(kx n rs lo hi A).F b→N≤b) :OwnG N w.heap.size w A n rs:=by
 have hg:=uO h
 refine⟨hg.1,hg.2.1,fun hn=> ?_⟩
 obtain ⟨b,o,T,cs,pl,hA,hd⟩ :=hg.2.2 hn
 refine⟨b,o,T,cs,pl,hA,⟨hF b ⟨hd.low,hd.high⟩,jio hd.high h.1,hd.blk,hd.cell,fun k hk=>⟨(hd.pts k hk).1,fun h0=> ?_⟩,hd.off,hd.apart⟩⟩
 obtain ⟨b',o',T',cs',e,h1,h2,hh⟩ := (hd.pts k hk).2 h0
 exact⟨b',o',T',cs',e,hF b' ⟨h1,h2⟩,jio h2 h.1,hh⟩
theorem K7 {P:Program} {f:FuncId} {w1:World} (h:Calls P f args w1 fun e w'=>∃A c,e= .returned (V A c)∧OwnG w1.heap.size w'.heap.size w' A n rs∧Over w1 w') :
  Calls P f args w1 fun e w'=>∃x: (Option Addr×Nat)×Nat×Nat,e= .returned (V x.1.1 x.1.2)∧Over w1 w'∧(kx n rs x.2.1 x.2.2 x.1.1).P w'∧(∀b,(kx n rs x.2.1 x.2.2 x.1.1).F b→w1.heap.size≤b)∧(kx n rs x.2.1 x.2.2 x.1.1).B=0∧True:=by
 refine h.mono ?_
 rintro e w' ⟨A,c,rfl,ho,hO⟩
 exact⟨((A,c),w1.heap.size,w'.heap.size),rfl,hO,E7 ho (jif _),fun b hb=>hb.1,sz⟩
end Go.Proofs.YtbahojdbmmjkcaaGreat
namespace Go.Proofs.YtbahojdbmmjkcaaGreat
open Go Go.RowKit
variable {A:Option Addr} {args:Array Value} {hi k lo n:Nat} {rs:List Jp} {w:World} {xs:List (Int×Int)}
theorem GE (a:Int) : (!(a==a)) =false:=by simp
theorem IL: (!true) =false:=rfl
def smallR (rs:List Jp) :Prop:=rs.length≤2000∧∀j,j<rs.length→(rg rs j).length≤500
theorem xC {rs:List Jp} (h:smallR rs) :∀k,k≤rs.length→QP rs k≤500*k
 | 0,_=>by simp [QP]
 | k+1,hk=>by
  have:=xC h k Om
  have:=h.2 k Om
  simp only [QP]
  omega
theorem smallR.total (h:smallR rs) : (Go.Proofs.YtbahojdbmmjkcaaGreat.total rs:Int)≤1048576:=by
 have:=xC h rs.length (jif _)
 have:=h.1
 unfold Go.Proofs.YtbahojdbmmjkcaaGreat.total
 omega
theorem smallR.sum (h:smallR rs) (hn:rs.length=n) :1+2* (QP rs n:Nat)≤(4611686018427387904:Int)∧n≤4611686018427387904:=by
 have:=xC h n Om
 have:=h.1
 omega
theorem smallR.nil:smallR [] :=⟨by simp,fun j hj=>absurd hj (by simp)⟩
theorem smallR.of (h:J0 rs=true) :smallR rs:=⟨by have:=UL h;omega,fun j hj=>by have:=Qz (VK h hj);omega⟩
section
variable {w0:Bs} {Rs:List Res}
theorem jhq (hk:Rs[k]? =some (kx n rs lo hi A)) (w:World) (hs:St w0 Rs w) :OwnG lo hi w A n rs:=uO (hs.all k _ hk).1
theorem jhU (hk:Rs[k]? =some (kx n rs lo hi A)) (w:World) (hs:St w0 Rs w) :hi≤w.heap.size:= (hs.all k _ hk).1.1
theorem V0 (hk:Rs[k]? =some (kx n rs lo hi A)) (w:World) (hs:St w0 Rs w) :Rings w A n rs:= (jhq hk w hs).rings
theorem jhH (hk:Rs[k]? =some (Ye n xs lo hi A)) (w:World) (hs:St w0 Rs w) :OwnP lo hi w A n xs:=jaF (hs.all k _ hk).1
theorem jhZ (hk:Rs[k]? =some (Ye n xs lo hi A)) (w:World) (hs:St w0 Rs w) :hi≤w.heap.size:= (hs.all k _ hk).1.1
theorem G2 (hk:Rs[k]? =some (Ye n xs lo hi A)) (w:World) (hs:St w0 Rs w) :Pts w A n xs:= (jhH hk w hs).pts
end
theorem jeK {c:Nat} (h:OwnG lo hi w A n rs) (hz:hi≤w.heap.size) (hb:1+2* (QP rs n:Nat)≤(4611686018427387904:Int)∧n≤4611686018427387904) :
  Calls Tryz.prog 25 #[qG A n c, .int .i64 1] w fun e w'=>e= .returned (.int .i64 (1+2* (QP rs n:Nat)))∧Wrs (kx n rs lo hi A).F w w'∧(kx n (vm 1 rs) lo hi A).P w':=
 (Oh lo hi A n c rs 1 w h hz Om hb.1 hb.2).mono (by rintro e w' ⟨he,hw,hg⟩;exact⟨he,hw,E7 hg (jiY hz hw.size)⟩)
theorem Ck {c:Nat} (h:Rings w A n (vm 1 rs)) (hb:1+2* (QP rs n:Nat)≤(4611686018427387904:Int)∧n≤4611686018427387904) :
  Calls Tryz.prog 38 #[qG A n c, .int .i64 1] w fun e w'=>e= .returned (.int .i64 (1+2* (QP rs n:Nat)))∧Over w w':=MS A n c rs 1 w h Om hb.1 hb.2
theorem jhE (k:Nat) :decide ((1:Int) +2* (k:Int) <0) =false:=decide_eq_false Om
theorem y4 {P:Program} {f:FuncId} {w1:World} {code:Int} (h:Calls P f args w1 fun e w'=>∃A' c',e= .returned (.tuple #[qG A' rs.length c', .int .i64 code])∧OwnG w1.heap.size w'.heap.size w' A' rs.length rs∧Over w1 w') :
  Calls P f args w1 fun e w'=>∃x: (Option Addr×Nat)×Nat×Nat,e= .returned (.tuple #[qG x.1.1 rs.length x.1.2, .int .i64 code])∧Over w1 w'∧(kx rs.length rs x.2.1 x.2.2 x.1.1).P w'∧(∀b,(kx rs.length rs x.2.1 x.2.2 x.1.1).F b→w1.heap.size≤b)∧(kx rs.length rs x.2.1 x.2.2 x.1.1).B=0∧True:=
 K7 (V:=fun A c=> .tuple #[qG A rs.length c, .int .i64 code]) h
end Go.Proofs.YtbahojdbmmjkcaaGreat
namespace Go.Proofs.YtbahojdbmmjkcaaGreat
open Go Go.RowKit
variable {A:Option Addr} {ls:List Leg}
set_option maxRecDepth 100000
set_option maxHeartbeats 4000000
section
variable {w:World} {w0:Bs} {Rs:List Res}
theorem Legs.form {n:Nat} (h:Legs w A n ls) (hn:0<n) :∃b o,A=some ⟨b,o,none⟩ :=by
 obtain ⟨b,o,rfl,_⟩ :=h.2 hn
 exact⟨b,o,rfl⟩
theorem yx {b o m j:Nat} (h:∀w,St w0 Rs w→Legs w (some ⟨b,o,none⟩) m ls) (hj:j<m) :∀w',St w0 Rs w'→∀q v,[Value.int .i64 (lg ls j).ax,Value.int .i64 (lg ls j).ay,Value.int .i64 (lg ls j).bx,Value.int .i64 (lg ls j).b_y][q]? =some v→w'.cell? ⟨b,o+j*4+q,none⟩ =some v:=fun w' hs q v hv=>by
 obtain ⟨b',o',e,_,h1,h2,h3,h4⟩ := (h w' hs).at_ hj
 injection e with e
 injection e with e1 e2 _
 subst e1 e2
 match q,hv with
 | 0,hv=>simp at hv;subst hv;exact h1
 | 1,hv=>simp at hv;subst hv;exact h2
 | 2,hv=>simp at hv;subst hv;exact h3
 | 3,hv=>simp at hv;subst hv;exact h4
theorem Qq {b o m j:Nat} (h:∀w,St w0 Rs w→Legs w (some ⟨b,o,none⟩) m ls) (hj:j<m) :∀w',St w0 Rs w'→∀q v,[Value.int .i64 (lg ls j).ax,Value.int .i64 (lg ls j).ay][q]? =some v→w'.cell? ⟨b,o+j*4+0+q,none⟩ =some v:=fun w' hs q v hv=>
 yx h hj w' hs q v (by match q,hv with | 0,hv=>exact hv | 1,hv=>exact hv)
theorem Qa {b o m j:Nat} (h:∀w,St w0 Rs w→Legs w (some ⟨b,o,none⟩) m ls) (hj:j<m) :∀w',St w0 Rs w'→∀q v,[Value.int .i64 (lg ls j).bx,Value.int .i64 (lg ls j).b_y][q]? =some v→w'.cell? ⟨b,o+j*4+2+q,none⟩ =some v:=fun w' hs q v hv=>by
 have:=yx h hj w' hs (2+q) v (by match q,hv with | 0,hv=>exact hv | 1,hv=>exact hv)
 rwa [←jji] at this
end
def vF (h:Bool) (l:Leg) :Leg:=if h=true then⟨2*l.ax,2*l.ay,2*l.bx,2*l.b_y⟩ else l
def wUp (l:Leg) (x y:Int) :Bool:=decide (l.ay≤y) &&decide (y<l.b_y) &&decide (0<Kw l.ax l.ay l.bx l.b_y x y)
def YI (l:Leg) (x y:Int) :Bool:=decide (l.b_y≤y) &&decide (y<l.ay) &&decide (Kw l.ax l.ay l.bx l.b_y x y<0)
def KE (l:Leg) (x y:Int) :Int:=if wUp l x y=true then 1 else if YI l x y=true then-1 else 0
def uD (h:Bool) (ls:List Leg) (x y:Int) :Nat→Int
 | 0=>0
 | k+1=>uD h ls x y k+KE (vF h (lg ls k)) x y
def PK (h:Bool) (ls:List Leg) (x y:Int) :Int:=uD h ls x y ls.length
theorem Hw (h:Bool) (ls:List Leg) (x y:Int) :∀k:Nat,-(k:Int)≤uD h ls x y k∧uD h ls x y k≤k
 | 0=>by simp [uD]
 | k+1=>by
  have:=Hw h ls x y k
  have h2: -1≤KE (vF h (lg ls k)) x y∧KE (vF h (lg ls k)) x y≤1:=by unfold KE;split<;> (try split) <;>omega
  simp only [uD]
  omega
theorem kk (h:∀l∈ls,qU l) {k:Nat} (hk:k<ls.length) :qU (lg ls k) :=by
 rw [←Uf hk]
 exact h _ (jir hk)
theorem Cf (h:Bool) {l:Leg} (hl:qU l) :YY (vF h l).ax∧YY (vF h l).ay∧YY (vF h l).bx∧YY (vF h l).b_y:=by
 obtain ⟨⟨a1,a2⟩,⟨a3,a4⟩,⟨b1,b2⟩,b3,b4⟩ :=hl
 cases h
 ·simp only [vF,YY,jjb,if_false];omega
 ·simp only [vF,YY,if_true];omega
theorem MH (x y:Int) (w:World) (h1:YY x) (h2:YY y) :Calls Tryz.prog 234 #[ub x y] w fun e w'=>e= .returned (ub (2*x) (2*y))∧Over w w':=by
 refine jK (m:=10) (Tryz.func234) J J (lb J) ?_;refine S3 ?_;refine aX (fun b1=> ?_);refine N1 ?_;refine aL (fun b2=> ?_);refine N9 ?_;refine a9 (JF J J (Qi J J)) ?_;refine S4 ?_;refine jJ J (JZ (k:=1) J jj J J) ?_
 intro w' hs
 exact⟨rfl,hs.fin⟩
theorem Dv (A:Option Addr) (n c:Nat) (ls:List Leg) (x y:Int) (hf:Bool) (w:World) (h:Legs w A n ls) (hn:n≤1048576) (hok:∀l∈ls,qU l) (hx:YY x) (hy:YY y) :
  Calls Tryz.prog 185 #[.slice A n c,ub x y, .bool hf] w fun e w'=>e= .returned (.int .i64 (PK hf ls x y))∧Over w w':=by
 have hl:=h.1
 refine jK (m:=73) (Tryz.func185) J J (lb J) ?_;refine S3 ?_;refine aX (fun b1=> ?_);refine N14 ?_;refine qj (X:=Nat) (fun k=>k≤n) (fun k=>n- k) (fun k=> [(7, .int .i64 (uD hf ls x y k)),(14, .int .i64 (k:Int))]) (kK [2,4,6,12,13]) 0 (jie _) ⟨J,sz⟩ ?_
 intro k hk L hL1
 refine v9 ?_
 have hwb:=Hw hf ls x y k
 refine S5 ?_;refine cZ (fun c1=> ?_) (fun c1=> ?_)
 ·have hlt:k<n:=Om
  obtain ⟨bb,oo,rfl⟩ :=h.form Om
  have hle:=kk hok (show k<ls.length by omega)
  obtain ⟨d1,d2,d3,d4⟩ :=Cf hf hle
  obtain ⟨⟨e1,e2⟩,⟨e3,e4⟩,⟨e5,e6⟩,e7,e8⟩ :=hle
  refine S7 ?_;refine a9 (jk J J qx J (yx (fun w' hs=>h.over hs.fin) hlt)) ?_;refine S1 ?_;refine aL (fun b2=> ?_);refine N5 ?_;refine JH 8 ?_;refine dK 0 ?_;refine dK 1 ?_;refine dK 2 ?_;refine dK 3 ?_;refine F3 (i:=4) (j:=5) J J Dc Dc Dc J J J J Dc Dc Dc J J jD jD Kr Kr Kr (u9 J) (fun b3 b4=> ?_);refine n9 ?_;refine qd (i:=6) J Dc Kr J ?_;refine S1 ?_;refine JU (u9 J) ?_;refine qd (i:=7) J Dc Kr J ?_;refine S1 ?_;refine JU (u9 J) ?_;refine JB Kr ?_;refine S1 ?_;refine WR [] ([.cel b1 28 [.int .i64 x, .int .i64 y], .cel b2 96 (Je (lg ls k)), .cel b3 28 [.int .i64 (vF hf (lg ls k)).ax, .int .i64 (vF hf (lg ls k)).ay], .cel b4 28 [.int .i64 (vF hf (lg ls k)).bx, .int .i64 (vF hf (lg ls k)).b_y]]) (kK [2,4,6,12,13,7,14,15,16,17,9,18,19,20,21,10,11]) (fun L h_t22=> ?_) ?_
  ·refine S4 ?_;refine cZ (fun c2=> ?_) (fun c2=> ?_)
   ·refine S1 ?_;refine JH 4 ?_;refine dK 0 ?_;refine dZ 1 J (jG zB J J (fun w h=>MH _ _ w ⟨by omega,by omega⟩ ⟨by omega,by omega⟩)) ?_;refine dV 2 [3] ?_;refine dZ 3 J (jG zB J J (fun w h=>MH _ _ w ⟨by omega,by omega⟩ ⟨by omega,by omega⟩)) ?_;refine kN J Kr J ?_;refine S1 ?_;refine Q0 6 [3] ?_;refine qd (i:=5) J Dc Kr J ?_;refine S1 ?_;refine JU (uw [3] J) ?_;refine JB Kr ?_;refine S1 ?_
    exact Js h_t22 ⟨J,sz⟩ (fun _ h=>h.upto ⟨J,J,by rw [vF,if_pos c2],by rw [vF,if_pos c2],trivial⟩)
   ·refine S2 ?_
    exact Js h_t22 ⟨J,sz⟩ (fun _ h=>h.upto ⟨J,J,by rw [vF,c2];rfl,by rw [vF,c2];rfl,trivial⟩)
  ·refine V1 ?_;refine qr [(27, .bool (wUp (vF hf (lg ls k)) x y))] (kK [2,4,6,12,13,7,14,15,16,17,9,18,19,20,21,10,11]) (fun L h_8=> ?_) ?_
   ·refine S7 ?_;refine cV 33 (fun g1=> ?_) (fun g1=> ?_)
    ·refine S12 ?_;refine cV 40 (fun g2=> ?_) (fun g2=> ?_)
     ·refine S7 ?_;refine o9 (jG kZ J J (fun w h=>Zg _ _ _ _ _ _ w d1.1 d1.2 d2.1 d2.2 d3.1 d3.2 d4.1 d4.2 hx.1 hx.2 hy.1 hy.2)) ?_;refine S5 ?_
      exact Js h_8 ⟨vb (by simp [wUp, *]),sz⟩ (u9 J)
     ·refine S8 ?_
      exact Js h_8 ⟨vb (by symm;simp [wUp];omega),sz⟩ (u9 J)
    ·refine S15 ?_
     exact Js h_8 ⟨vb (by symm;simp [wUp];omega),sz⟩ (u9 J)
   ·refine v9 ?_;refine cZ (fun c3=> ?_) (fun c3=> ?_)
    ·refine S12 ?_
     exact qa hL1 (k+1) Om Om ⟨vi (by rw [uD,KE,if_pos c3]),vi Om,sz⟩ (u9 J)
    ·refine qr [(49, .bool (YI (vF hf (lg ls k)) x y))] (kK [2,4,6,12,13,7,14,15,16,17,9,18,19,20,21,10,11,27]) (fun L h_10=> ?_) ?_
     ·refine S7 ?_;refine cV 55 (fun g3=> ?_) (fun g3=> ?_)
      ·refine S12 ?_;refine cV 62 (fun g4=> ?_) (fun g4=> ?_)
       ·refine S7 ?_;refine o9 (jG kZ J J (fun w h=>Zg _ _ _ _ _ _ w d1.1 d1.2 d2.1 d2.2 d3.1 d3.2 d4.1 d4.2 hx.1 hx.2 hy.1 hy.2)) ?_;refine S5 ?_
        exact Js h_10 ⟨vb (by simp [YI, *]),sz⟩ (u9 J)
       ·refine S8 ?_
        exact Js h_10 ⟨vb (by symm;simp [YI];omega),sz⟩ (u9 J)
      ·refine S15 ?_
       exact Js h_10 ⟨vb (by symm;simp [YI];omega),sz⟩ (u9 J)
     ·refine v9 ?_;refine cZ (fun c4=> ?_) (fun c4=> ?_)
      ·refine S12 ?_
       exact qa hL1 (k+1) Om Om ⟨vi (by rw [uD,KE,c3,if_neg (by simp),if_pos c4];rfl),vi Om,sz⟩ (u9 J)
      ·refine S8 ?_
       exact qa hL1 (k+1) Om Om ⟨vi (by rw [uD,KE,c3,if_neg (by simp),c4,if_neg (by simp)];omega),vi Om,sz⟩ (u9 J)
 ·refine S11 ?_;refine jJ J (.tmp J) ?_
  intro w' hs
  exact⟨ux (by rw [PK,hl,show k=n by omega]),hs.fin⟩
end Go.Proofs.YtbahojdbmmjkcaaGreat
