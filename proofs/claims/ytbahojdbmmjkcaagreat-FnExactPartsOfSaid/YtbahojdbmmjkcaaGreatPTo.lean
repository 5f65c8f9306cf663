import Derived.Test.YtbahojdbmmjkcaaGreatPReg3
import Derived.Test.YtbahojdbmmjkcaaGreatPMeet
import Derived.Lib.SliceRun
set_option linter.unusedVariables false
set_option linter.unusedSimpArgs false
namespace Go.Proofs.YtbahojdbmmjkcaaGreat
open Go Go.RowKit
variable {A:Option Addr} {P:Program} {T b hi k lo n:Nat} {V:Option Addr→Nat→Value} {args cs:Array Value} {f:FuncId} {m:Int} {pl:Nat→Option Addr×Nat} {rs:List jK} {w w1:World} {x:Option Addr×Nat} {xs:List (Int×Int)}
set_option maxRecDepth 100000
set_option maxHeartbeats 4000000
def MarkTo (cs:List Value) (o:Nat) (m:Int) (k:Nat) :Prop:=∀j,j<k→cs[o+j*2]? =some (.int .i64 (m+2*j))∧cs[o+j*2+1]? =some (.int .i64 (m+2*j+1))
theorem MarkTo.step {cs:List Value} {o:Nat} (h:MarkTo cs o m k) (hl:o+k*2+1<cs.length) :
  MarkTo (qB (qB cs (o+k*2+0) [.int .i64 (m+2*k)]) (o+k*2+1) [.int .i64 (m+2*k+1)]) o m (k+1) :=by
 intro j hj
 simp only [qB,jhV]
 by_cases hjk:j=k
 ·subst hjk
  rw [List.getElem?_set_ne Om,List.getElem?_set_self Om,List.getElem?_set_self (by simpa using hl)]
  exact⟨rfl,rfl⟩
 ·have:=h j Om
  rw [List.getElem?_set_ne Om,List.getElem?_set_ne Om,List.getElem?_set_ne Om,List.getElem?_set_ne Om]
  exact this
theorem Ff (b o T:Nat) (cs:List Value) (n c:Nat) (m:Int) (w:World) (hh:w.heap[b]? =some (.cells cs.toArray T (0,0))) (hl:∀k,k<n→o+k*2+1<cs.length) (hm:0≤m) (hb:m+2*n≤4611686018427387904) :
  Calls Tryz.prog 36 #[.slice (some ⟨b,o,none⟩) n c, .int .i64 m] w fun e w'=>e= .returned (.int .i64 (m+2* (n:Int)))∧Wr b w w'∧∃cs':List Value,w'.heap[b]? =some (.cells cs'.toArray T (0,0))∧MarkTo cs' o m n:=by
 refine QF (m:=27) (Tryz.func36) J J (lb J) (hh) ?_;refine S10 ?_;refine JN (X:=Nat×List Value) (fun x=>x.1≤n∧x.2.length=cs.length∧MarkTo x.2 o m x.1) (fun x=>n- x.1) (fun x=> [(1, .int .i64 (m+2* (x.1:Int))),(5, .int .i64 (x.1:Int))]) (kK [0,4]) (fun x=> [.cel b T x.2]) (0,cs) (⟨jgw _,J,fun j hj=>absurd hj Om⟩) ⟨vi (by simp),sz⟩ (fun _ h=>h) ?_
 intro⟨k,ds⟩ hx L hL1
 refine v9 ?_;refine r9 ?_
 have hk:k≤n:=hx.1
 have hlen:ds.length=cs.length:=hx.2.1
 have hmk:MarkTo ds o m k:=hx.2.2
 refine S8 ?_;refine cZ (fun c1=> ?_) (fun c1=> ?_)
 ·have hlt:k<n:=Om
  have hl2:=hl k hlt
  refine S12 ?_;refine qt (k:=0) J J J J J (by rfl) QI.szx J J (by simp;omega) ?_;refine S15 ?_;refine qt (k:=0) J J J J J (by rfl) QI.szx J J (by rw [QE];simp;omega) ?_;refine S13 ?_
  exact j4 hL1 ((k+1,_)) (⟨show k+1≤n by omega,(by show(List.set _ _ _).length=_;rw [jhy,QE];exact hlen),hmk.step Om⟩) (by simp only;omega) ⟨vi Om,vi Om,sz⟩ (u9 J)
 ·have hkn:k=n:=Om
  refine S11 ?_;refine jL J (.tmp J) ?_
  intro w' hs
  exact⟨wm (by rw [hkn]),hs.over.wr,ds,hs.cel (k:=0) rfl,hkn▸hmk⟩
theorem Fe (A:Option Addr) (c:Nat) (m:Int) (w:World) :Calls Tryz.prog 36 #[.slice A 0 c, .int .i64 m] w fun e w'=>e= .returned (.int .i64 m)∧Over w w':=by
 refine jT (m:=27) (Tryz.func36) J J (lb J) ?_;refine S10 ?_;refine J9 (X:=Nat) (fun k=>k=0) (fun k=>k) (fun k=> [(5, .int .i64 (k:Int))]) (kK [0,1,4]) 0 (J) ⟨J,sz⟩ ?_
 intro k hk L hL1
 refine V8 ?_;refine cZ (fun c1=> ?_) (fun c1=> ?_)
 ·omega
 ·refine S11 ?_;refine jL J (.tmp J) ?_
  intro w' hs
  exact⟨rfl,hs.fin⟩
def FN (lo hi:Nat) (b:Nat) :Prop:=lo≤b∧b<hi
theorem GU (lo hi:Nat) (A:Option Addr) (n c:Nat) (xs:List (Int×Int)) (m:Int) (w:World) (h:OwnP lo hi w A n xs) (hm:0≤m) (hb:m+2*n≤4611686018427387904) :
  Calls Tryz.prog 36 #[.slice A n c, .int .i64 m] w fun e w'=>e= .returned (.int .i64 (m+2* (n:Int)))∧Wrs (fun b=>0<n∧b=Vl A∧FN lo hi b) w w'∧OwnP lo hi w' A n (Wl m n) :=by
 by_cases hn:0<n
 ·obtain ⟨b,o,T,cs,rfl,h1,h2,hh,hc⟩ :=h.2 hn
  have hh':w.heap[b]? =some (.cells cs.toList.toArray T (0,0)) :=by rw [hh,jhB]
  refine(Ff b o T cs.toList n c m w hh' (fun k hk=> ?_) hm hb).mono ?_
  ·have:= (hc k hk).2
   have:= (Array.getElem?_eq_some_iff.1 this).1
   simpa using this
  ·rintro e w' ⟨rfl,hw,cs',hh2,hmk⟩
   refine⟨rfl,⟨hw.os,hw.tape,hw.output,hw.size,fun q hq hne=>hw.block q hq (fun e=>hne ⟨hn,e,by subst e;exact⟨h1,h2⟩⟩)⟩,ww m n,fun _=>⟨b,o,T,cs'.toArray,rfl,h1,h2,hh2,fun k hk=> ?_⟩⟩
   rw [RZ hk,R4 hk]
   simpa using hmk k hk
 ·obtain rfl:n=0:=by omega
  refine Calls.mono (?_:Calls Tryz.prog 36 #[.slice A 0 c, .int .i64 m] w fun e w'=>e= .returned (.int .i64 m)∧Over w w') ?_
  ·exact Fe A c m w
  ·rintro e w' ⟨rfl,hO⟩
   exact⟨by simp,Wrs.of hO,by simpa [Wl] using OwnP.nil A⟩
theorem I9 (A:Option Addr) (n c:Nat) (m:Int) (w:World) (h:Pts w A n (Wl m n)) (hm:0≤m) (hb:m+2*n≤4611686018427387904) :
  Calls Tryz.prog 134 #[.slice A n c, .int .i64 m] w fun e w'=>e= .returned (.int .i64 (m+2* (n:Int)))∧Over w w':=by
 refine jT (m:=31) (Tryz.func134) J J (lb J) ?_;refine S10 ?_;refine J9 (X:=Nat) (fun k=>k≤n) (fun k=>n- k) (fun k=> [(1, .int .i64 (m+2* (k:Int))),(5, .int .i64 (k:Int))]) (kK [0,4]) 0 (jgw _) ⟨vi (by simp),sz⟩ ?_
 intro k hk L hL1
 refine V8 ?_;refine cZ (fun c1=> ?_) (fun c1=> ?_)
 ·have hlt:k<n:=Om
  obtain ⟨bb,oo,rfl,hbb,hc1,hc2⟩ :=h.at_ hlt
  rw [RZ hlt] at hc1
  rw [R4 hlt] at hc2
  refine S11 ?_;refine a9 (jl J J jt (Qn hc1 hbb)) ?_;refine S3 ?_;refine vJ J ((by simp)) ?_;refine S15 ?_;refine a9 (jl J J jt (qP hc2 hbb)) ?_;refine S3 ?_;refine vJ J ((by simp)) ?_;refine S14 ?_
  exact JY hL1 (k+1) Om Om ⟨vi Om,vi Om,sz⟩ (u9 J)
 ·refine S11 ?_;refine jL J (.tmp J) ?_
  intro w' hs
  exact⟨wm (by rw [show k=n by omega]),hs.fin⟩
def ZK (m:Int) (rs:List jK) (k:Nat) :List jK:= (List.range rs.length).map fun j=>if j<k then rg (KC m rs) j else rg rs j
theorem xJ (m:Int) (rs:List jK) (k:Nat) : (ZK m rs k).length=rs.length:=by simp [ZK]
theorem zJ {j:Nat} (h:j<rs.length) :rg (ZK m rs k) j=if j<k then rg (KC m rs) j else rg rs j:=by simp [rg,ZK,List.getD,h]
theorem zd {j:Nat} (h:j<rs.length) : (rg (ZK m rs k) j).length= (rg rs j).length:=by
 rw [zJ h]
 split
 ·rw [WK _ _ _ h,ww]
 ·rfl
theorem FG {ss:List jK} (h:rs.length=ss.length) (hp:∀j,j<rs.length→rg rs j=rg ss j) :rs=ss:=by
 refine jhH h fun j h1 h2=> ?_
 rw [Vm h1,Vm h2,hp j h1]
theorem Ct (m:Int) (rs:List jK) :ZK m rs 0=rs:=FG (xJ _ _ _) fun j hj=>by rw [xJ] at hj;rw [zJ hj,if_neg Om]
theorem ja2 (m:Int) (rs:List jK) :ZK m rs rs.length=KC m rs:=FG (by rw [xJ,we]) fun j hj=>by rw [xJ] at hj;rw [zJ hj,if_pos hj]
theorem OwnGd.mark {w':World} {o:Nat} (h:OwnGd lo hi w b o T cs pl n (ZK m rs k)) (hl:rs.length=n) (hk:k<n) (hw:Wrs (fun q=>0< (rg rs k).length∧q=Vl (pl k).1∧FN lo hi q) w w') (hp:OwnP lo hi w' (pl k).1 (rg rs k).length (Wl (m+2* (qD rs k:Nat)) (rg rs k).length)) :OwnGd lo hi w' b o T cs pl n (ZK m rs (k+1)) :=by
 have hlen:∀i j,j<n→(rg (ZK m rs i) j).length= (rg rs j).length:=fun i j hj=>zd Om
 refine⟨h.low,h.high,(hw.block b (JZ h.blk) fun hq=> ?_).trans h.blk,fun j hj=> ?_,fun j hj=> ?_,fun j hj=> ?_,fun i j hi hj hij=> ?_⟩
 ·exact h.off k hk (by rw [hlen _ _ hk];exact hq.1) hq.2.1.symm
 ·rw [hlen _ _ hj,←hlen k j hj];exact h.cell j hj
 ·by_cases hjk:j=k
  ·subst hjk
   have e:rg (ZK m rs (j+1)) j=Wl (m+2* (qD rs j:Nat)) (rg rs j).length:=by rw [zJ Om,if_pos Om,WK _ _ _ Om]
   rw [e,ww]
   exact hp
  ·have e:rg (ZK m rs (k+1)) j=rg (ZK m rs k) j:=by
    rw [zJ Om,zJ Om]
    by_cases hlt:j<k
    ·rw [if_pos Om,if_pos hlt]
    ·rw [if_neg Om,if_neg hlt]
   rw [e]
   by_cases h0:0< (rg rs j).length
   ·refine(h.pts j hj).agree fun p hp' h1 h2=> ?_
    have hpt:=h.pts j hj
    obtain ⟨b',o',T',cs',e',_,_,hh',_⟩ :=hpt.2 (by rw [hlen _ _ hj];exact h0)
    rw [e'] at hp'
    injection hp' with hp'
    subst hp'
    refine hw.block b' (JZ hh') fun hq=> ?_
    refine h.apart j k hj hk hjk (by rw [hlen _ _ hj];exact h0) (by rw [hlen _ _ hk];exact hq.1) ?_
    rw [e']
    exact hq.2.1
   ·exact⟨(h.pts j hj).1,fun h1=>by rw [hlen _ _ hj] at h1;exact absurd h1 h0⟩
 ·rw [hlen _ _ hj,←hlen k j hj];exact h.off j hj
 ·rw [hlen _ _ hi,hlen _ _ hj,←hlen k i hi,←hlen k j hj];exact h.apart i j hi hj hij
theorem Mg (A:Option Addr) (c:Nat) (m:Int) (w:World) :Calls Tryz.prog 77 #[.slice A 0 c, .int .i64 m] w fun e w'=>e= .returned (.int .i64 m)∧Over w w':=by
 refine jT (m:=20) (Tryz.func77) J J (lb J) ?_;refine S10 ?_;refine J9 (X:=Nat) (fun k=>k=0) (fun k=>k) (fun k=> [(5, .int .i64 (k:Int))]) (kK [0,1,4]) 0 (J) ⟨J,sz⟩ ?_
 intro k hk L hL1
 refine V8 ?_;refine cZ (fun c1=> ?_) (fun c1=> ?_)
 ·omega
 ·refine S11 ?_;refine jL J (.tmp J) ?_
  intro w' hs
  exact⟨rfl,hs.fin⟩
abbrev gdR (lo hi b o T:Nat) (cs:Array Value) (pl:Nat→Option Addr×Nat) (n:Nat) (rs:List jK) :Res:= .clo lo hi (fun w=>OwnGd lo hi w b o T cs pl n rs)
theorem gdP {o:Nat} (h:OwnGd lo hi w b o T cs pl n rs) (hz:hi≤w.heap.size) : (gdR lo hi b o T cs pl n rs).P w:=⟨hz,fun w' _ ha=>h.agree ha⟩
theorem gdG {o:Nat} (h: (gdR lo hi b o T cs pl n rs).P w) :OwnGd lo hi w b o T cs pl n rs:=h.2 w h.1 fun _ _ _=>rfl
theorem Xm :b∈List.range' lo (hi- lo)↔FN lo hi b:=by
 rw [List.mem_range'_1]
 unfold FN
 omega
theorem Mh (lo hi b o T:Nat) (cs:Array Value) (pl:Nat→Option Addr×Nat) (n c:Nat) (rs:List jK) (m:Int) (w:World) (h:OwnGd lo hi w b o T cs pl n rs) (hl:rs.length=n) (hz:hi≤w.heap.size) (hm:0≤m) (hb:m+2* (qD rs n:Nat)≤4611686018427387904) (hn:n≤4611686018427387904) :
  Calls Tryz.prog 77 #[.slice (some ⟨b,o,none⟩) n c, .int .i64 m] w fun e w'=>e= .returned (.int .i64 (m+2* (qD rs n:Nat)))∧Wrs (FN lo hi) w w'∧OwnGd lo hi w' b o T cs pl n (KC m rs) :=by
 refine WO (m:=20) (List.range' lo (hi- lo)) (gdR lo hi b o T cs pl n rs) (gdP h hz) (fun _ h=>Xm.2 h) J (Tryz.func77) J J (lb J) ?_;refine S10 ?_;refine JN (X:=Nat) (fun k=>k≤n) (fun k=>n- k) (fun k=> [(1, .int .i64 (m+2* (qD rs k:Nat))),(5, .int .i64 (k:Int))]) (kK [0,4]) (fun k=> [gdR lo hi b o T cs pl n (ZK m rs k)]) 0 (jgw _) ⟨vi (by simp [qD]),sz⟩ (fun _ h=> (Ct m rs).symm▸h) ?_
 intro k hk L hL1
 refine v9 ?_;refine r9 ?_;refine S8 ?_;refine cZ (fun c1=> ?_) (fun c1=> ?_)
 ·have hlt:k<n:=Om
  have hmo:=Vg rs (show k+1≤n by omega)
  have hse:qD rs (k+1) =qD rs k+ (rg rs k).length:=rfl
  refine S9 ?_;refine a9 (jl J J JK (fun w' hs=> (by have hg:=gdG (hs.all 0 _ J).1;rw [jhn,jhV,cell_of_row w' b _ _ T (0,0) hg.blk,hg.cell k hlt,zd Om]))) ?_;refine S2 ?_;refine Va (k:=0) (r':=gdR lo hi b o T cs pl n (ZK m rs (k+1))) Yf rfl rfl rfl Dc rfl (fun w' hs=> (GU lo hi _ _ _ _ _ w' (by have:= (gdG (hs.all 0 _ rfl).1).pts k hlt;rw [zd Om] at this;exact this) Om Om).mono (by rintro e w2 ⟨rfl,hw,hp⟩;exact⟨rfl,hw.mono fun _ h=>h.2.2,gdP ((gdG (hs.all 0 _ rfl).1).mark hl hlt hw hp) (jhi (hs.all 0 _ rfl).1.1 hw.size)⟩)) (fun _ h=>h) rfl ?_;refine N9 ?_
  exact j4 hL1 (k+1) Om Om ⟨vi Om,vi Om,sz⟩ (u9 J)
 ·have hkn:k=n:=Om
  refine S11 ?_;refine jL J (.tmp J) ?_
  intro w' hs
  exact⟨wm (by rw [hkn]),hs.over.wrs.mono fun _ h=>Xm.1 h,by have:=gdG (hs.all 0 _ rfl).1;rw [hkn,←hl,ja2,hl] at this;exact this⟩
theorem OO (lo hi:Nat) (A:Option Addr) (n c:Nat) (rs:List jK) (m:Int) (w:World) (h:OwnG lo hi w A n rs) (hz:hi≤w.heap.size) (hm:0≤m) (hb:m+2* (qD rs n:Nat)≤4611686018427387904) (hn:n≤4611686018427387904) :
  Calls Tryz.prog 77 #[.slice A n c, .int .i64 m] w fun e w'=>e= .returned (.int .i64 (m+2* (qD rs n:Nat)))∧Wrs (FN lo hi) w w'∧OwnG lo hi w' A n (KC m rs) :=by
 have hl:=h.1
 by_cases h0:0<n
 ·obtain ⟨b,o,T,cs,pl,rfl,hd⟩ :=h.2.2 h0
  refine(Mh lo hi b o T cs pl n c rs m w hd hl hz hm hb hn).mono ?_
  rintro e w' ⟨rfl,hw,hg⟩
  exact⟨rfl,hw,by rw [we,hl],fun k hk=>by rw [WK _ _ _ Om,ww];exact h.2.1 k hk,fun _=>⟨b,o,T,cs,pl,rfl,hg⟩⟩
 ·obtain rfl:n=0:=by omega
  refine(Mg A c m w).mono ?_
  rintro e w' ⟨rfl,hO⟩
  obtain rfl:rs= [] :=jgX hl
  exact⟨by simp [qD],Wrs.of hO,OwnG.nil A⟩
theorem Mf (lo hi:Nat) (A:Option Addr) (n c:Nat) (rs:List jK) (m:Int) (w:World) (h:OwnG lo hi w A n rs) (hz:hi≤w.heap.size) (hm:0≤m) (hb:m+2* (qD rs n:Nat)≤4611686018427387904) (hn:n≤4611686018427387904) :
  Calls Tryz.prog 25 #[qK A n c, .int .i64 m] w fun e w'=>e= .returned (.int .i64 (m+2* (qD rs n:Nat)))∧Wrs (FN lo hi) w w'∧OwnG lo hi w' A n (KC m rs) :=by
 refine WO (m:=10) (List.range' lo (hi- lo)) (Q6 n rs lo hi A) (SO h hz) (fun _ h=>Xm.2 h) J (Tryz.func25) J J (lb J) ?_;refine S3 ?_;refine aX (fun b1=> ?_);refine N8 ?_;refine Va (k:=0) (r':=Q6 n (KC m rs) lo hi A) Um rfl rfl rfl Dc rfl (fun w' hs=> (OO lo hi A n c rs m w' (WX (hs.all 0 _ rfl).1) (hs.all 0 _ rfl).1.1 hm hb hn).mono (by rintro e w2 ⟨rfl,hw,hp⟩;exact⟨rfl,hw,SO hp (jhi (hs.all 0 _ rfl).1.1 hw.size)⟩)) (fun _ h=>h) rfl ?_;refine N8 ?_;refine jL J (.tmp J) ?_
 intro w' hs
 exact⟨rfl,hs.over.wrs.mono fun _ h=>Xm.1 h,WX (hs.all 0 _ rfl).1⟩
theorem OC (A:Option Addr) (n c:Nat) (rs:List jK) (m:Int) (w:World) (h:Rings w A n (KC m rs)) (hm:0≤m) (hb:m+2* (qD rs n:Nat)≤4611686018427387904) (hn:n≤4611686018427387904) :
  Calls Tryz.prog 78 #[.slice A n c, .int .i64 m] w fun e w'=>e= .returned (.int .i64 (m+2* (qD rs n:Nat)))∧Over w w':=by
 have hl:=h.1
 rw [we] at hl
 refine jT (m:=22) (Tryz.func78) J J (lb J) ?_;refine S10 ?_;refine J9 (X:=Nat) (fun k=>k≤n) (fun k=>n- k) (fun k=> [(1, .int .i64 (m+2* (qD rs k:Nat))),(5, .int .i64 (k:Int))]) (kK [0,4]) 0 (jgw _) ⟨vi (by simp [qD]),sz⟩ ?_
 intro k hk L hL1
 refine V8 ?_;refine cZ (fun c1=> ?_) (fun c1=> ?_)
 ·have hlt:k<n:=Om
  have hmo:=Vg rs (show k+1≤n by omega)
  have hse:qD rs (k+1) =qD rs k+ (rg rs k).length:=rfl
  obtain ⟨bb,oo,Ak,ck,rfl,hbB,hcell,hpts,hmax⟩ :=h.at_ hlt
  rw [WK _ _ _ Om,ww] at hcell hpts
  refine S10 ?_;refine a9 (jl J J JK (Ts hcell hbB)) ?_;refine S1 ?_;refine a9 (jJ HF J J (fun w1 hs=>I9 _ _ _ _ w1 (hpts.over hs.fin) Om Om)) ?_;refine S7 ?_;refine vJ J (decide_eq_false Om) ?_;refine S8 ?_
  exact JY hL1 (k+1) Om Om ⟨vi Om,vi Om,sz⟩ (u9 J)
 ·refine S11 ?_;refine jL J (.tmp J) ?_
  intro w' hs
  exact⟨wm (by rw [show k=n by omega]),hs.fin⟩
section
variable {P:Program} {n:Nat} {env:List (Nat×Value)} {w0:Bs} {Rs:List Res} {ops:Array Oper} {Q:Exit→Act→World→Prop} {K:Act→World→Prop} {o:Oper}
theorem CN {U s:Nat} {x:Operand} {T':TypeId} {m c m' c':Nat} (hT:TyL P T U s) (ho:o.op= .binOp .eql T x (.const (.slice none m' c')) T') (hx:ev env x=some (.slice A m c)) :Qt P o n env w0 Rs (.bool A.isNone) :=
 QY fun a w hf _=>by
  have e1:a.eval (.const (.slice none m' c')) = .slice none m' c':=rfl
  have e2:∀y z:Operand,eqGuard .eql T y z (.slice A m c) (.slice none m' c') =pure () :=fun _ _=>rfl
  unfold execOp;simp only [ho,hf.ev hx,e1,e2];simp [Lib.run_eql_slice_nil w T U A m c m' c' hT.desc]
end
structure Pc where
 xs:jK
 A:Option Addr
 c:Nat
 lo:Nat
 hi:Nat
def Pc.val (e:Pc) :Value:= .slice e.A e.xs.length e.c
def Pc.res (e:Pc) :Res:=jfq e.xs.length e.xs e.lo e.hi e.A
abbrev ke (l:List Pc) :Res:= .many (l.map Pc.res)
theorem K9 (l:List Pc) (e:Pc) :Res.many (l.map Pc.res++ [e.res]) =ke (l++ [e]) :=by simp [ke]
theorem jbq {B:Nat} (h:w.ownsRow B T 2 (.slice x.1 n x.2) n (xs.flatMap Ju)) (hn:xs.length=n) :OwnP (Vl x.1) (Vl x.1+1) w x.1 n xs:=by
 refine⟨hn,fun h0=> ?_⟩
 rcases h.2 with⟨_,e⟩ |⟨g,cap,cur,e,hb,hg,hcap,hmax,hsz,htk⟩
 ·omega
 ·injection e with e1 e2 e3
  rw [e1]
  refine⟨g,0,T,cur,J,jgx _,Nat.lt_succ_self _,hg,fun k hk=> ?_⟩
  have hf:=fun q hq=>Gg xs k q Om hq
  have hc:∀j,j<n*2→cur[j]? = (xs.flatMap Ju)[j]? :=fun j hj=>by
   rw [←htk,List.getElem?_take,if_pos hj]
   simp
  rw [jgT,hc _ Om,hc _ Om]
  have h0:=hf 0 Om
  have h1:=hf 1 Om
  rw [yq Om] at h0 h1
  exact⟨by simpa [Ju] using h0,by simpa [Ju] using h1⟩
section
variable {n:Nat} {env:List (Nat×Value)} {w0:Bs} {Rs:List Res} {K:Act→World→Prop}
theorem y4 (k:Nat) {B m:Nat} (hk:Rs[k]? =some (JQ B T 2 m (xs.flatMap Ju) x)) (hm:xs.length=m) (h:∀lo hi,At n env w0 (Rs.set k (Pc.res ⟨xs,x.1,x.2,lo,hi⟩)) K) :At n env w0 Rs K:=by
 subst hm
 by_cases h0:0<xs.length
 ·refine fun a w hf hs=>h (Vl x.1) (Vl x.1+1) a w hf (hs.chg hk (fun hP=> ?_) (fun b hb=> ?_) J)
  ·have hP':w.ownsRow B T 2 (.slice x.1 xs.length x.2) xs.length (xs.flatMap Ju) :=hP
   refine jdD (jbq hP' J) ?_
   rcases hP'.2 with⟨_,e⟩ |⟨g,cap,cur,e,hb,hg,_⟩
   ·omega
   ·injection e with e1
    rw [e1]
    exact JZ hg
  ·have hP':w.ownsRow B T 2 (.slice x.1 xs.length x.2) xs.length (xs.flatMap Ju) := (hs.all k _ hk).1
   have hb':Vl x.1≤b∧b<Vl x.1+1:=hb
   rcases hP'.2 with⟨_,e⟩ |⟨g,cap,cur,e,hb2,hg,_⟩
   ·omega
   ·injection e with e1
    show Value.ownBlock (.slice x.1 xs.length x.2) =some b
    rw [e1] at hb'⊢
    have e3:g=b:=by have h1:g≤b:=hb'.1;have h2:b<g+1:=hb'.2;omega
    subst e3
    rfl
 ·refine fun a w hf hs=>h 0 0 a w hf (hs.chg hk (fun hP=> ?_) (fun b hb=>by have:0≤b∧b<0:=hb;omega) J)
  refine jdD ⟨J,fun h1=>absurd h1 h0⟩ (jgw _)
end
theorem jfT (hn:xs.length=n) (h:Calls P f args w1 fun e w'=>∃g,e= .returned (Uv (some ⟨g,0,none⟩) n n)∧w1.heap.size≤g∧Own w' g n xs∧Over w1 w') :
  Calls P f args w1 fun e w'=>∃x:Nat×Nat×Nat,e= .returned (.agg #[(Pc.mk xs (some ⟨x.1,0,none⟩) n x.2.1 x.2.2).val])∧Over w1 w'∧(Pc.res ⟨xs,some ⟨x.1,0,none⟩,n,x.2.1,x.2.2⟩).P w'∧(∀b,(Pc.res ⟨xs,some ⟨x.1,0,none⟩,n,x.2.1,x.2.2⟩).F b→w1.heap.size≤b)∧(Pc.res ⟨xs,some ⟨x.1,0,none⟩,n,x.2.1,x.2.2⟩).B=0∧True:=by
 subst hn
 refine h.mono ?_
 rintro e w' ⟨g,rfl,hg,ho,hO⟩
 refine⟨(g,w1.heap.size,w'.heap.size),J,hO,jdD ?_ (jgx _),fun b hb=>hb.1,sz⟩
 obtain ⟨⟨cs,hs,hh⟩,hl,hx⟩ :=ho
 refine⟨J,fun h0=>⟨g,0,_,cs,J,hg,JZ hh,hh,fun k hk=> ?_⟩⟩
 obtain ⟨b,o,e,_,hc⟩ :=hx h0
 injection e with e
 injection e with e1 e2
 subst e1 e2
 have:=hc k hk
 rwa [cell_of_row w' _ _ _ _ (0,0) hh,cell_of_row w' _ _ _ _ (0,0) hh] at this
theorem yR {l:List Pc} (h:k<l.length) :rg (l.map (·.xs)) k= (l[k]).xs:=by simp [rg,List.getD,h]
theorem Ld {o:Nat} {l:List Pc} (hb:w.heap[b]? =some (.cells cs T (0,0))) (hlo:lo≤b) (hc:∀k (h:k<l.length),cs[o+k]? =some (l[k]).val) (hP: (ke l).P w) (hne:¬(ke l).F b) (hF:∀q,(ke l).F q→lo≤q) (hm:∀e∈l,(e.xs.length:Int)≤1099511627776) :OwnG lo w.heap.size w (some ⟨b,o,none⟩) l.length (l.map (·.xs)) :=by
 have own:∀k (h:k<l.length),OwnP (l[k]).lo (l[k]).hi w (l[k]).A (l[k]).xs.length (l[k]).xs:=fun k h=>CL (hP.1 _ (jgO.2 ⟨l[k],jgH h,rfl⟩)).1
 have fp:∀k (h:k<l.length),0< (l[k]).xs.length→(l[k]).res.F (Vl (l[k]).A) :=fun k h h0=>by
  obtain ⟨b',o',T',cs',e,h1,h2,_⟩ := (own k h).2 h0
  rw [e]
  exact⟨h1,h2⟩
 have inF:∀k (h:k<l.length) q,(l[k]).res.F q→(ke l).F q:=fun k h q hq=>⟨_,jgO.2 ⟨l[k],jgH h,rfl⟩,hq⟩
 refine⟨by simp,fun k hk=>by rw [yR hk];exact hm _ (jgH hk),fun _=>⟨b,o,T,cs,fun k=>if h:k<l.length then((l[k]).A,(l[k]).c) else(none,0),J,hlo,JZ hb,hb,fun k hk=> ?_,fun k hk=> ?_,fun k hk h0=> ?_,fun i j hi hj hij h1 h2=> ?_⟩⟩
 ·rw [hc k hk,yR hk]
  simp only [hk,dite_true]
  rfl
 ·rw [yR hk]
  simp only [hk,dite_true]
  refine⟨J,fun h0=> ?_⟩
  obtain ⟨b',o',T',cs',e,h1,h2,hh,hcc⟩ := (own k hk).2 h0
  exact⟨b',o',T',cs',e,hF b' (inF k hk b' ⟨h1,h2⟩),JZ hh,hh,hcc⟩
 ·rw [yR hk] at h0
  simp only [hk,dite_true]
  exact fun e=>hne (e▸inF k hk _ (fp k hk h0))
 ·rw [yR hi] at h1
  rw [yR hj] at h2
  simp only [hi,hj,dite_true]
  intro e
  have hp:=jho.1 hP.2
  rcases jhj i j with hlt | hge
  ·have:=hp i j (by simpa using hi) (by simpa using hj) hlt (Vl (l[i]).A)
   simp only [jhx] at this
   exact this (fp i hi h1) (e▸fp j hj h2)
  ·have:=hp j i (by simpa using hj) (by simpa using hi) Om (Vl (l[i]).A)
   simp only [jhx] at this
   exact this (e▸fp j hj h2) (fp i hi h1)
theorem jaR (n:Nat) : (madeCells #[Value.slice none 0 0] (n*1)).toList=List.replicate n (Value.slice none 0 0) :=by rw [jhn,toList_madeCells_one]
theorem jeS (l:List Pc) (r:List Value) (j:Nat) (hj:j<l.length) : (l.map Pc.val++r).toArray[0+j]? =some (l[j]).val:=by
 rw [jgT,List.getElem?_toArray,List.getElem?_append_left (by simpa using hj)]
 simp [hj]
theorem jak (l:List Pc) (e:Pc) (hl:l.length=k) (hk:k<n) : (l++ [e]).map Pc.val++List.replicate (n- (k+1)) (Value.slice none 0 0) =qB (l.map Pc.val++List.replicate (n- k) (Value.slice none 0 0)) (0+k*1) [e.val] :=by
 rw [show n- k= (n- (k+1)) +1 by omega,List.replicate_succ,show 0+k*1= (l.map Pc.val).length by simp;omega]
 simp only [qB]
 rw [jhF _ _ (jgx _),Nat.sub_self]
 simp
theorem VA (hk:k<rs.length) :rs.take (k+1) =rs.take k++ [rg rs k] :=by
 rw [jgE hk,Vm hk]
theorem ZE {N:Nat} (h: (Q6 n rs lo hi A).P w) (hF:∀b,(Q6 n rs lo hi A).F b→N≤b) :OwnG N w.heap.size w A n rs:=by
 have hg:=WX h
 refine⟨hg.1,hg.2.1,fun hn=> ?_⟩
 obtain ⟨b,o,T,cs,pl,hA,hd⟩ :=hg.2.2 hn
 refine⟨b,o,T,cs,pl,hA,⟨hF b ⟨hd.low,hd.high⟩,jgA hd.high h.1,hd.blk,hd.cell,fun k hk=>⟨(hd.pts k hk).1,fun h0=> ?_⟩,hd.off,hd.apart⟩⟩
 obtain ⟨b',o',T',cs',e,h1,h2,hh⟩ := (hd.pts k hk).2 h0
 exact⟨b',o',T',cs',e,hF b' ⟨h1,h2⟩,jgA h2 h.1,hh⟩
theorem K1 (h:Calls P f args w1 fun e w'=>∃A c,e= .returned (V A c)∧OwnG w1.heap.size w'.heap.size w' A n rs∧Over w1 w') :
  Calls P f args w1 fun e w'=>∃x: (Option Addr×Nat)×Nat×Nat,e= .returned (V x.1.1 x.1.2)∧Over w1 w'∧(Q6 n rs x.2.1 x.2.2 x.1.1).P w'∧(∀b,(Q6 n rs x.2.1 x.2.2 x.1.1).F b→w1.heap.size≤b)∧(Q6 n rs x.2.1 x.2.2 x.1.1).B=0∧True:=by
 refine h.mono ?_
 rintro e w' ⟨A,c,rfl,ho,hO⟩
 exact⟨((A,c),w1.heap.size,w'.heap.size),rfl,hO,SO ho (jgx _),fun b hb=>hb.1,sz⟩
theorem xq {V:Nat→Value} (h:Calls P f args w1 fun e w'=>∃g,e= .returned (V g)∧OwnG w1.heap.size w'.heap.size w' (some ⟨g,0,none⟩) n rs∧Over w1 w') :
  Calls P f args w1 fun e w'=>∃x:Nat×Nat×Nat,e= .returned (V x.1)∧Over w1 w'∧(Q6 n rs x.2.1 x.2.2 (some ⟨x.1,0,none⟩)).P w'∧(∀b,(Q6 n rs x.2.1 x.2.2 (some ⟨x.1,0,none⟩)).F b→w1.heap.size≤b)∧(Q6 n rs x.2.1 x.2.2 (some ⟨x.1,0,none⟩)).B=0∧True:=by
 refine h.mono ?_
 rintro e w' ⟨g,rfl,ho,hO⟩
 exact⟨(g,w1.heap.size,w'.heap.size),rfl,hO,SO ho (jgx _),fun b hb=>hb.1,sz⟩
theorem Sk (A:Option Addr) (n c:Nat) (rs:List jK) (w:World) (h:Rings w A n rs) (ht: (total rs:Int)≤1048576) :
  Calls Tryz.prog 72 #[.slice A n c] w fun e w'=>∃g,e= .returned (.slice (some ⟨g,0,none⟩) n n)∧OwnG w.heap.size w'.heap.size w' (some ⟨g,0,none⟩) n rs∧Over w w':=by
 have hl:=h.1
 have hn: (n:Int)≤1048576:=by unfold total at ht;omega
 refine jT (m:=23) (Tryz.func72) J J (lb J) ?_;refine S9 ?_;refine Ft J J J jw Js J Dc Om Om (fun b1=> ?_);refine N1 ?_;refine vu ?_;refine N7 ?_;refine JN (X:=Nat×List Pc) (fun x=>x.1≤n∧x.2.map (·.xs) =rs.take x.1) (fun x=>n- x.1) (fun x=> [(4, .int .i64 (x.1:Int))]) (kK [0,2,3]) (fun x=> [.cel b1 74 (x.2.map Pc.val++List.replicate (n- x.1) (.slice none 0 0)),ke x.2]) (0,[]) (⟨jgw _,J⟩) ⟨J,sz⟩ (fun _ h=>h.upto ⟨by rw [jaR];rfl,sz⟩) ?_
 intro⟨k,l⟩ hx L hL1
 refine v9 ?_;refine r9 ?_
 have hk:k≤n:=hx.1
 have hmp:l.map (·.xs) =rs.take k:=hx.2
 have hlk:l.length=k:=by have:=congrArg List.length hmp;rw [jgF,jgJ] at this;omega
 refine S8 ?_;refine cZ (fun c1=> ?_) (fun c1=> ?_)
 ·have hlt:k<n:=Om
  obtain ⟨bb,oo,Ak,ck,rfl,hbB,hcell,hpts,hmax⟩ :=h.at_ hlt
  have hr: ((rg rs k).length:Int)≤1048576:=by have:=KL rs (k:=k) Om;omega
  refine S10 ?_;refine a9 (jk J J O0 J (uW hcell hbB)) ?_;refine S1 ?_;refine JR Mm J J J (lb J) (fun w1 hs=>jfT J (TM _ _ _ (rg rs k) w1 (hpts.over hs.fin) hr)) ?_
  rintro⟨pg,plo,phi⟩ -
  refine N2 ?_;refine qt (k:=0) J J J J J (by rfl) Js.szx J J (by simp;omega) ?_;refine S1 ?_;refine KU 1 2 J J Dc J ?_;refine t9 ?_;refine S7 ?_
  exact j4 hL1 ((k+1,l++ [⟨rg rs k,some ⟨pg,0,none⟩,(rg rs k).length,plo,phi⟩])) (⟨show k+1≤n by omega,by rw [jgS,hmp,VA Om];rfl⟩) (by simp only;omega) ⟨vi Om,sz⟩ (fun _ h=>h.upto ⟨by rw [←jak l _ hlk hlt],(K9 _ _).symm,trivial⟩)
 ·have hkn:k=n:=Om
  refine S11 ?_;refine jL J (.tmp J) ?_
  intro w' hs
  subst hkn
  have hrs:l.map (·.xs) =rs:=by rw [hmp,jgR Om]
  refine⟨b1,J,?_,hs.fin⟩
  have hX:= (hs.all 1 _ rfl)
  have hg:=Ld (lo:=w.heap.size) (o:=0) (hs.cel (k:=0) rfl) ((hs.all 0 _ rfl).2.1 b1 rfl |>.elim id (fun h=>by cases h)) (fun j hj=>jeS l _ j hj) hX.1 (fun hF=>hs.apart 0 1 _ _ Dc rfl rfl b1 rfl hF) (fun q hq=> (hX.2.1 q hq).elim id (fun h=>by cases h)) (fun e he=> ?_)
  rw [hrs,hlk] at hg
  exact hg
  have:e.xs∈rs:=hrs▸jgO.2 ⟨e,he,rfl⟩
  obtain ⟨j,hj,e2⟩ :=jg1 this
  have h1:=KL rs hj
  rw [←Vm hj,e2] at h1
  omega
theorem uv (A:Option Addr) (n c:Nat) (rs:List jK) (w:World) (h:Rings w A n rs) (ht: (total rs:Int)≤1048576) :
  Calls Tryz.prog 21 #[qK A n c] w fun e w'=>∃g,e= .returned (qK (some ⟨g,0,none⟩) n n)∧OwnG w.heap.size w'.heap.size w' (some ⟨g,0,none⟩) n rs∧Over w w':=by
 refine jT (m:=9) (Tryz.func21) J J (lb J) ?_;refine S3 ?_;refine aX (fun b1=> ?_);refine N1 ?_;refine aL (fun b2=> ?_);refine N4 ?_;refine aL (fun b3=> ?_);refine N6 ?_;refine JR HG (X:=Nat×Nat×Nat) (v:=fun x=> .slice (some ⟨x.1,0,none⟩) n n) (r:=fun x=>Q6 n rs x.2.1 x.2.2 (some ⟨x.1,0,none⟩)) (H:=fun _=>True) J J J (lb J) (fun w1 hs=>xq (Sk A n c rs w1 (h.over hs.fin) ht)) ?_
 rintro⟨g,lo,hi⟩ -
 refine N11 ?_;refine jL J (qh (k:=1) J jI J J) ?_
 intro w' hs
 have hg:=hs.all 3 _ rfl
 exact⟨g,rfl,ZE hg.1 (fun b hb=> (hg.2.1 b hb).elim id (fun h=>by cases h)),hs.fin⟩
end Go.Proofs.YtbahojdbmmjkcaaGreat
namespace Go.Proofs.YtbahojdbmmjkcaaGreat
open Go Go.RowKit
variable {A:Option Addr} {hi lo n:Nat} {rs:List jK}
theorem XX (a:Int) : (!(a==a)) =false:=by simp
theorem Fo: (!true) =false:=rfl
def smallR (rs:List jK) :Prop:=rs.length≤2000∧∀j,j<rs.length→(rg rs j).length≤500
theorem Z0 {rs:List jK} (h:smallR rs) :∀k,k≤rs.length→qD rs k≤500*k
 | 0,_=>by simp [qD]
 | k+1,hk=>by
  have:=Z0 h k Om
  have:=h.2 k Om
  simp only [qD]
  omega
theorem smallR.total (h:smallR rs) : (Go.Proofs.YtbahojdbmmjkcaaGreat.total rs:Int)≤1048576:=by
 have:=Z0 h rs.length (jgx _)
 have:=h.1
 unfold Go.Proofs.YtbahojdbmmjkcaaGreat.total
 omega
theorem smallR.sum (h:smallR rs) (hn:rs.length=n) :1+2* (qD rs n:Nat)≤(4611686018427387904:Int)∧n≤4611686018427387904:=by
 have:=Z0 h n Om
 have:=h.1
 omega
theorem smallR.nil:smallR [] :=⟨by simp,fun j hj=>absurd hj (by simp)⟩
theorem smallR.of (h:JW rs=true) :smallR rs:=⟨by have:=vO h;omega,fun j hj=>by have:=qS (vN h hj);omega⟩
theorem Ei (ht: (total rs:Int)≤1048576) (hn:rs.length=n) :1+2* (qD rs n:Nat)≤(4611686018427387904:Int)∧n≤4611686018427387904:=by
 unfold total at ht
 rw [hn] at ht
 omega
section
variable {w0:Bs} {Rs:List Res}
theorem jfL {k:Nat} (hk:Rs[k]? =some (Q6 n rs lo hi A)) (w:World) (hs:St w0 Rs w) :OwnG lo hi w A n rs:=WX (hs.all k _ hk).1
theorem jgf {k:Nat} (hk:Rs[k]? =some (Q6 n rs lo hi A)) (w:World) (hs:St w0 Rs w) :hi≤w.heap.size:= (hs.all k _ hk).1.1
theorem YU {k:Nat} (hk:Rs[k]? =some (Q6 n rs lo hi A)) (w:World) (hs:St w0 Rs w) :Rings w A n rs:= (jfL hk w hs).rings
end
theorem jdf {c:Nat} {w:World} (h:OwnG lo hi w A n rs) (hz:hi≤w.heap.size) (hb:1+2* (qD rs n:Nat)≤(4611686018427387904:Int)∧n≤4611686018427387904) :
  Calls Tryz.prog 25 #[qK A n c, .int .i64 1] w fun e w'=>e= .returned (.int .i64 (1+2* (qD rs n:Nat)))∧Wrs (Q6 n rs lo hi A).F w w'∧(Q6 n (KC 1 rs) lo hi A).P w':=
 (Mf lo hi A n c rs 1 w h hz Om hb.1 hb.2).mono (by rintro e w' ⟨he,hw,hg⟩;exact⟨he,hw,SO hg (jhi hz hw.size)⟩)
theorem jfo (k:Nat) :decide ((1:Int) +2* (k:Int) <0) =false:=decide_eq_false Om
end Go.Proofs.YtbahojdbmmjkcaaGreat
