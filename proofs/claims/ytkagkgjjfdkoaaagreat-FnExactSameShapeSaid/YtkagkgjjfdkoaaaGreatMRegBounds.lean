import Derived.Test.YtkagkgjjfdkoaaaGreatMReg3
import Derived.Lib.SliceRun
set_option linter.unusedVariables false
set_option linter.unusedSimpArgs false
namespace Go.Proofs.YtkagkgjjfdkoaaaGreat
open Go Go.RowKit
theorem qn (xs:List (Int×Int)) : (xs.flatMap j7).length=xs.length*2:=by
 induction xs with
 | nil=>rfl
 | cons a r ih=>rw [je4,jeC,ih];simp [j7];omega
theorem Kk (xs:List (Int×Int)) :∀u∈xs.flatMap j7,u.oneCell'=true:=by
 intro u hu
 obtain ⟨p,_,hp⟩ :=jgh.1 hu
 simp [j7] at hp
 rcases hp with rfl | rfl<;>rfl
theorem X7:∀(xs:List (Int×Int)) (k j:Nat) (hk:k<xs.length),j<2→(xs.flatMap j7)[k*2+j]? = (j7 xs[k])[j]?
 | [],_,_,h,_=>absurd h (by simp)
 | a::r,0,j,_,hj=>by
  rw [je4,Nat.zero_mul,je3,List.getElem?_append_left (by simpa [j7] using hj)]
  rfl
 | a::r,k+1,j,h,hj=>by
  have hl: (j7 a).length=2:=rfl
  rw [je4,List.getElem?_append_right (by rw [hl];omega),hl]
  have:=X7 r k j (by simpa using h) hj
  rw [show(k+1) *2+j- 2=k*2+j by omega,this]
  rfl
theorem ME {w:World} {A:Option Addr} {n c:Nat} {xs:List (Int×Int)} (h:Pts w A n xs) (hn:0<n) :Src 2 (.slice A n c) n (xs.flatMap j7) w:=by
 refine⟨by rw [qn,h.1], .inr ?_⟩
 obtain ⟨b,o,rfl,hb,hc⟩ :=h.2 hn
 refine⟨_,c,J,fun j u hu=> ?_⟩
 have hj:j<xs.length*2:=by have:= (List.getElem?_eq_some_iff.1 hu).1;rwa [qn] at this
 have hl:=h.1
 have e:j=j/2*2+j % 2:=by omega
 have hf:=X7 xs (j/2) (j % 2) (by omega) (by omega)
 rw [←e,hu,Ya (by omega)] at hf
 obtain ⟨h1,h2⟩ :=hc (j/2) (by omega)
 rw [Qz]
 rcases(show j % 2=0∨j % 2=1 by omega) with e2 | e2
 ·rw [e2] at hf
  rw [show o+j=o+j/2*2 by omega,h1]
  simpa [j7] using hf.symm
 ·rw [e2] at hf
  rw [show o+j=o+j/2*2+1 by omega,h2]
  simpa [j7] using hf.symm
theorem vx {w:World} {B T n:Nat} {A:Option Addr} {c:Nat} {xs:List (Int×Int)} (h:w.ownsRow B T 2 (.slice A n c) n (xs.flatMap j7)) (hn:xs.length=n) :Pts w A n xs:=by
 refine⟨hn,fun h0=> ?_⟩
 rcases h.2 with⟨_,e⟩ |⟨g,cap,cur,e,hb,hg,hcap,hmax,hsz,htk⟩
 ·omega
 ·injection e with e1 e2 e3
  subst e1
  refine⟨g,0,J,JQ hg,fun k hk=> ?_⟩
  have hf:=fun q hq=>X7 xs k q (by omega) hq
  have hc:∀j,j<n*2→cur[j]? = (xs.flatMap j7)[j]? :=fun j hj=>by
   rw [←htk,List.getElem?_take,if_pos hj]
   simp
  rw [cell_of_row w g _ _ T (0,0) hg,cell_of_row w g _ _ T (0,0) hg,je3,hc _ (by omega),hc _ (by omega)]
  have h0:=hf 0 (by omega)
  have h1:=hf 1 (by omega)
  rw [Ya (by omega)] at h0 h1
  exact⟨by simpa [j7] using h0,by simpa [j7] using h1⟩
theorem wC {w:World} {B T s n:Nat} {A:Option Addr} {c:Nat} {xs:List Value} (h:w.ownsRow B T s (.slice A n c) n xs) :n≤c:=by
 rcases h.2 with⟨e,_⟩ |⟨g,cap,cur,e,hb,hg,hcap,hmax,hsz,htk⟩
 ·injection e;omega
 ·injection e;omega
theorem Rings.form {w:World} {A:Option Addr} {n:Nat} {rs:List jS} (h:Rings w A n rs) (hn:0<n) :∃b o,A=some ⟨b,o,none⟩ :=by
 obtain ⟨b,o,hA,_⟩ :=h.2 hn
 exact⟨b,o,hA⟩
theorem wb {rs:List jS} (h:JO rs=true) :rs.length≤40:=by
 simp [JO] at h
 omega
section
variable {w:World} {Rs:List Res}
theorem qU {b o:Nat} {v:Value} (hc:w.cell? ⟨b,o,none⟩ =some v) (hb:b<w.heap.size) :∀w',St ⟨w,[]⟩ Rs w'→w'.cell? ⟨b,o,none⟩ =some v:=fun w' hs=> ((Ji hs.fin).1 b o hb).trans hc
theorem ZM {b o k:Nat} {v:Value} (hc:w.cell? ⟨b,o+k,none⟩ =some v) (hb:b<w.heap.size) :∀w',St ⟨w,[]⟩ Rs w'→∀q u,[v][q]? =some u→w'.cell? ⟨b,o+k*1+q,none⟩ =some u:=fun w' hs q u hq=>by
 match q,hq with
 | 0,hq=>simp at hq;subst hq;rw [jfz,jgg];exact qU hc hb w' hs
theorem QM {b o:Nat} {v:Value} (hc:w.cell? ⟨b,o,none⟩ =some v) (hb:b<w.heap.size) :∀w',St ⟨w,[]⟩ Rs w'→w'.cell? ⟨b,o+0,none⟩ =some v:=fun w' hs=>qU hc hb w' hs
theorem jah {b o k:Nat} {v:Value} (hc:w.cell? ⟨b,o+k,none⟩ =some v) (hb:b<w.heap.size) :∀w',St ⟨w,[]⟩ Rs w'→w'.cell? ⟨b,o+k*1+0,none⟩ =some v:=fun w' hs=>by rw [jfz,jgg];exact qU hc hb w' hs
end
theorem Qa {xs:List (Int×Int)} (h:kH xs=true) :0<xs.length∧xs.length≤400:=by simp [kH,XA] at h;omega
end Go.Proofs.YtkagkgjjfdkoaaaGreat
namespace Go.Proofs.YtkagkgjjfdkoaaaGreat
open Go Go.RowKit
set_option maxRecDepth 100000
set_option maxHeartbeats 4000000
def MarkTo (cs:List Value) (o:Nat) (m:Int) (k:Nat) :Prop:=∀j,j<k→cs[o+j*2]? =some (.int .i64 (m+2*j))∧cs[o+j*2+1]? =some (.int .i64 (m+2*j+1))
theorem MarkTo.step {cs:List Value} {o:Nat} {m:Int} {k:Nat} (h:MarkTo cs o m k) (hl:o+k*2+1<cs.length) :
  MarkTo (qk (qk cs (o+k*2+0) [.int .i64 (m+2*k)]) (o+k*2+1) [.int .i64 (m+2*k+1)]) o m (k+1) :=by
 intro j hj
 simp only [qk,jgg]
 by_cases hjk:j=k
 ·subst hjk
  rw [List.getElem?_set_ne (by omega),List.getElem?_set_self (by omega),List.getElem?_set_self (by simpa using hl)]
  exact⟨rfl,rfl⟩
 ·have:=h j (by omega)
  rw [List.getElem?_set_ne (by omega),List.getElem?_set_ne (by omega),List.getElem?_set_ne (by omega),List.getElem?_set_ne (by omega)]
  exact this
theorem DF (b o T:Nat) (cs:List Value) (n c:Nat) (m:Int) (w:World) (hh:w.heap[b]? =some (.cells cs.toArray T (0,0))) (hl:∀k,k<n→o+k*2+1<cs.length) (hm:0≤m) (hb:m+2*n≤4611686018427387904) :
  Calls Tryz.prog 68 #[.slice (some ⟨b,o,none⟩) n c, .int .i64 m] w fun e w'=>e= .returned (.int .i64 (m+2* (n:Int)))∧Wr b w w'∧∃cs':List Value,w'.heap[b]? =some (.cells cs'.toArray T (0,0))∧MarkTo cs' o m n:=by
 refine Qv (m:=27) (Tryz.func68) J J (lb J) (hh) ?_;refine S10 ?_;refine JI (X:=Nat×List Value) (fun x=>x.1≤n∧x.2.length=cs.length∧MarkTo x.2 o m x.1) (fun x=>n- x.1) (fun x=> [(1, .int .i64 (m+2* (x.1:Int))),(5, .int .i64 (x.1:Int))]) (kK [0,4]) (fun x=> [.cel b T x.2]) (0,cs) (⟨jeE _,J,fun j hj=>absurd hj (by omega)⟩) ⟨vi (by simp),sz⟩ (fun _ h=>h) ?_
 intro⟨k,ds⟩ hx L hL1
 refine v9 ?_;refine ji (by first | (dsimp only;done) | (dsimp only;rfl) | rfl) ?_
 have hk:k≤n:=hx.1
 have hlen:ds.length=cs.length:=hx.2.1
 have hmk:MarkTo ds o m k:=hx.2.2
 refine S8 ?_;refine cZ (fun c1=> ?_) (fun c1=> ?_)
 ·have hlt:k<n:= (by omega)
  have hl2:=hl k hlt
  refine S12 ?_;refine qr (k:=0) J J J J J (by rfl) kd.szx J J (by simp;omega) ?_;refine S15 ?_;refine qr (k:=0) J J J J J (by rfl) kd.szx J J (by rw [Qe];simp;omega) ?_;refine S13 ?_
  exact j8 hL1 ((k+1,_)) (⟨show k+1≤n by omega,(by show(List.set _ _ _).length=_;rw [jfM,Qe];exact hlen),hmk.step (by omega)⟩) (by simp only;omega) ⟨vi (by omega),vi (by omega),sz⟩ (u9 J)
 ·have hkn:k=n:= (by omega)
  refine S11 ?_;refine jL J (.tmp J) ?_
  intro w' hs
  exact⟨W8 (by rw [hkn]),hs.over.wr,ds,hs.cel (k:=0) rfl,hkn▸hmk⟩
theorem DE (A:Option Addr) (c:Nat) (m:Int) (w:World) :Calls Tryz.prog 68 #[.slice A 0 c, .int .i64 m] w fun e w'=>e= .returned (.int .i64 m)∧Over w w':=by
 refine jU (m:=27) (Tryz.func68) J J (lb J) ?_;refine S10 ?_;refine qi (X:=Nat) (fun k=>k=0) (fun k=>k) (fun k=> [(5, .int .i64 (k:Int))]) (kK [0,1,4]) 0 (J) ⟨J,sz⟩ ?_
 intro k hk L hL1
 refine V8 ?_;refine cZ (fun c1=> ?_) (fun c1=> ?_)
 ·omega
 ·refine S11 ?_;refine jL J (.tmp J) ?_
  intro w' hs
  exact⟨rfl,hs.fin⟩
def D4 (lo hi:Nat) (b:Nat) :Prop:=lo≤b∧b<hi
theorem IP (lo hi:Nat) (A:Option Addr) (n c:Nat) (xs:List (Int×Int)) (m:Int) (w:World) (h:OwnP lo hi w A n xs) (hm:0≤m) (hb:m+2*n≤4611686018427387904) :
  Calls Tryz.prog 68 #[.slice A n c, .int .i64 m] w fun e w'=>e= .returned (.int .i64 (m+2* (n:Int)))∧Wrs (fun b=>0<n∧b=wN A∧D4 lo hi b) w w'∧OwnP lo hi w' A n (ui m n) :=by
 by_cases hn:0<n
 ·obtain ⟨b,o,T,cs,rfl,h1,h2,hh,hc⟩ :=h.2 hn
  have hh':w.heap[b]? =some (.cells cs.toList.toArray T (0,0)) :=by rw [hh,jfJ]
  refine(DF b o T cs.toList n c m w hh' (fun k hk=> ?_) hm hb).mono ?_
  ·have:= (hc k hk).2
   have:= (Array.getElem?_eq_some_iff.1 this).1
   simpa using this
  ·rintro e w' ⟨rfl,hw,cs',hh2,hmk⟩
   refine⟨rfl,⟨hw.os,hw.tape,hw.output,hw.size,fun q hq hne=>hw.block q hq (fun e=>hne ⟨hn,e,by subst e;exact⟨h1,h2⟩⟩)⟩,UM m n,fun _=>⟨b,o,T,cs'.toArray,rfl,h1,h2,hh2,fun k hk=> ?_⟩⟩
   rw [Rd hk,Rf hk]
   simpa using hmk k hk
 ·obtain rfl:n=0:=by omega
  refine Calls.mono (?_:Calls Tryz.prog 68 #[.slice A 0 c, .int .i64 m] w fun e w'=>e= .returned (.int .i64 m)∧Over w w') ?_
  ·exact DE A c m w
  ·rintro e w' ⟨rfl,hO⟩
   exact⟨by simp,Wrs.of hO,by simpa [ui] using OwnP.nil A⟩
theorem Ik (A:Option Addr) (n c:Nat) (m:Int) (w:World) (h:Pts w A n (ui m n)) (hm:0≤m) (hb:m+2*n≤4611686018427387904) :
  Calls Tryz.prog 69 #[.slice A n c, .int .i64 m] w fun e w'=>e= .returned (.int .i64 (m+2* (n:Int)))∧Over w w':=by
 refine jU (m:=31) (Tryz.func69) J J (lb J) ?_;refine S10 ?_;refine qi (X:=Nat) (fun k=>k≤n) (fun k=>n- k) (fun k=> [(1, .int .i64 (m+2* (k:Int))),(5, .int .i64 (k:Int))]) (kK [0,4]) 0 (jeE _) ⟨vi (by simp),sz⟩ ?_
 intro k hk L hL1
 refine V8 ?_;refine cZ (fun c1=> ?_) (fun c1=> ?_)
 ·have hlt:k<n:= (by omega)
  obtain ⟨bb,oo,rfl,hbb,hc1,hc2⟩ :=h.at_ hlt
  rw [Rd hlt] at hc1
  rw [Rf hlt] at hc2
  refine S11 ?_;refine a9 (jr J J jz (QM hc1 hbb)) ?_;refine S3 ?_;refine qJ J ((by simp)) ?_;refine S15 ?_;refine a9 (jr J J jz (qU hc2 hbb)) ?_;refine S3 ?_;refine qJ J ((by simp)) ?_;refine S14 ?_
  exact J8 hL1 (k+1) (by omega) (by omega) ⟨vi (by omega),vi (by omega),sz⟩ (u9 J)
 ·refine S11 ?_;refine jL J (.tmp J) ?_
  intro w' hs
  exact⟨W8 (by rw [show k=n by omega]),hs.fin⟩
def Zw (m:Int) (rs:List jS) (k:Nat) :List jS:= (List.range rs.length).map fun j=>if j<k then rg (Qh m rs) j else rg rs j
theorem xC (m:Int) (rs:List jS) (k:Nat) : (Zw m rs k).length=rs.length:=by simp [Zw]
theorem zD {m:Int} {rs:List jS} {k j:Nat} (h:j<rs.length) :rg (Zw m rs k) j=if j<k then rg (Qh m rs) j else rg rs j:=by simp [rg,Zw,List.getD,h]
theorem YW {m:Int} {rs:List jS} {k j:Nat} (h:j<rs.length) : (rg (Zw m rs k) j).length= (rg rs j).length:=by
 rw [zD h]
 split
 ·rw [UW _ _ _ h,UM]
 ·rfl
theorem SA {rs ss:List jS} (h:rs.length=ss.length) (hp:∀j,j<rs.length→rg rs j=rg ss j) :rs=ss:=by
 refine jfR h fun j h1 h2=> ?_
 rw [wl h1,wl h2,hp j h1]
theorem Pm (m:Int) (rs:List jS) :Zw m rs 0=rs:=SA (xC _ _ _) fun j hj=>by rw [xC] at hj;rw [zD hj,if_neg (by omega)]
theorem EG (m:Int) (rs:List jS) :Zw m rs rs.length=Qh m rs:=SA (by rw [xC,yx]) fun j hj=>by rw [xC] at hj;rw [zD hj,if_pos hj]
theorem OwnGd.mark {lo hi:Nat} {w w':World} {b o T:Nat} {cs:Array Value} {pl:Nat→Option Addr×Nat} {n k:Nat} {rs:List jS} {m:Int} (h:OwnGd lo hi w b o T cs pl n (Zw m rs k)) (hl:rs.length=n) (hk:k<n)
  (hw:Wrs (fun q=>0< (rg rs k).length∧q=wN (pl k).1∧D4 lo hi q) w w') (hp:OwnP lo hi w' (pl k).1 (rg rs k).length (ui (m+2* (qF rs k:Nat)) (rg rs k).length)) :OwnGd lo hi w' b o T cs pl n (Zw m rs (k+1)) :=by
 have hlen:∀i j,j<n→(rg (Zw m rs i) j).length= (rg rs j).length:=fun i j hj=>YW (by omega)
 refine⟨h.low,h.high,(hw.block b (JQ h.blk) fun hq=> ?_).trans h.blk,fun j hj=> ?_,fun j hj=> ?_,fun j hj=> ?_,fun i j hi hj hij=> ?_⟩
 ·exact h.off k hk (by rw [hlen _ _ hk];exact hq.1) hq.2.1.symm
 ·rw [hlen _ _ hj,←hlen k j hj];exact h.cell j hj
 ·by_cases hjk:j=k
  ·subst hjk
   have e:rg (Zw m rs (j+1)) j=ui (m+2* (qF rs j:Nat)) (rg rs j).length:=by rw [zD (by omega),if_pos (by omega),UW _ _ _ (by omega)]
   rw [e,UM]
   exact hp
  ·have e:rg (Zw m rs (k+1)) j=rg (Zw m rs k) j:=by
    rw [zD (by omega),zD (by omega)]
    by_cases hlt:j<k
    ·rw [if_pos (by omega),if_pos hlt]
    ·rw [if_neg (by omega),if_neg hlt]
   rw [e]
   by_cases h0:0< (rg rs j).length
   ·refine(h.pts j hj).agree fun p hp' h1 h2=> ?_
    have hpt:=h.pts j hj
    obtain ⟨b',o',T',cs',e',_,_,hh',_⟩ :=hpt.2 (by rw [hlen _ _ hj];exact h0)
    rw [e'] at hp'
    injection hp' with hp'
    subst hp'
    refine hw.block b' (JQ hh') fun hq=> ?_
    refine h.apart j k hj hk hjk (by rw [hlen _ _ hj];exact h0) (by rw [hlen _ _ hk];exact hq.1) ?_
    rw [e']
    exact hq.2.1
   ·exact⟨(h.pts j hj).1,fun h1=>by rw [hlen _ _ hj] at h1;exact absurd h1 h0⟩
 ·rw [hlen _ _ hj,←hlen k j hj];exact h.off j hj
 ·rw [hlen _ _ hi,hlen _ _ hj,←hlen k i hi,←hlen k j hj];exact h.apart i j hi hj hij
theorem LU (A:Option Addr) (c:Nat) (m:Int) (w:World) :Calls Tryz.prog 36 #[.slice A 0 c, .int .i64 m] w fun e w'=>e= .returned (.int .i64 m)∧Over w w':=by
 refine jU (m:=20) (Tryz.func36) J J (lb J) ?_;refine S10 ?_;refine qi (X:=Nat) (fun k=>k=0) (fun k=>k) (fun k=> [(5, .int .i64 (k:Int))]) (kK [0,1,4]) 0 (J) ⟨J,sz⟩ ?_
 intro k hk L hL1
 refine V8 ?_;refine cZ (fun c1=> ?_) (fun c1=> ?_)
 ·omega
 ·refine S11 ?_;refine jL J (.tmp J) ?_
  intro w' hs
  exact⟨rfl,hs.fin⟩
abbrev gdR (lo hi b o T:Nat) (cs:Array Value) (pl:Nat→Option Addr×Nat) (n:Nat) (rs:List jS) :Res:= .clo lo hi (fun w=>OwnGd lo hi w b o T cs pl n rs)
theorem gdP {lo hi b o T:Nat} {cs:Array Value} {pl:Nat→Option Addr×Nat} {n:Nat} {rs:List jS} {w:World} (h:OwnGd lo hi w b o T cs pl n rs) (hz:hi≤w.heap.size) : (gdR lo hi b o T cs pl n rs).P w:=⟨hz,fun w' _ ha=>h.agree ha⟩
theorem gdG {lo hi b o T:Nat} {cs:Array Value} {pl:Nat→Option Addr×Nat} {n:Nat} {rs:List jS} {w:World} (h: (gdR lo hi b o T cs pl n rs).P w) :OwnGd lo hi w b o T cs pl n rs:=h.2 w h.1 fun _ _ _=>rfl
theorem Xk {lo hi b:Nat} :b∈List.range' lo (hi- lo)↔D4 lo hi b:=by
 rw [List.mem_range'_1]
 unfold D4
 omega
theorem LV (lo hi b o T:Nat) (cs:Array Value) (pl:Nat→Option Addr×Nat) (n c:Nat) (rs:List jS) (m:Int) (w:World) (h:OwnGd lo hi w b o T cs pl n rs) (hl:rs.length=n) (hz:hi≤w.heap.size) (hm:0≤m) (hb:m+2* (qF rs n:Nat)≤4611686018427387904) (hn:n≤4611686018427387904) :
  Calls Tryz.prog 36 #[.slice (some ⟨b,o,none⟩) n c, .int .i64 m] w fun e w'=>e= .returned (.int .i64 (m+2* (qF rs n:Nat)))∧Wrs (D4 lo hi) w w'∧OwnGd lo hi w' b o T cs pl n (Qh m rs) :=by
 refine yK (m:=20) (List.range' lo (hi- lo)) (gdR lo hi b o T cs pl n rs) (gdP h hz) (fun _ h=>Xk.2 h) J (Tryz.func36) J J (lb J) ?_;refine S10 ?_;refine JI (X:=Nat) (fun k=>k≤n) (fun k=>n- k) (fun k=> [(1, .int .i64 (m+2* (qF rs k:Nat))),(5, .int .i64 (k:Int))]) (kK [0,4]) (fun k=> [gdR lo hi b o T cs pl n (Zw m rs k)]) 0 (jeE _) ⟨vi (by simp [qF]),sz⟩ (fun _ h=> (Pm m rs).symm▸h) ?_
 intro k hk L hL1
 refine v9 ?_;refine ji (by first | (dsimp only;done) | (dsimp only;rfl) | rfl) ?_;refine S8 ?_;refine cZ (fun c1=> ?_) (fun c1=> ?_)
 ·have hlt:k<n:= (by omega)
  have hmo:=WM rs (show k+1≤n by omega)
  have hse:qF rs (k+1) =qF rs k+ (rg rs k).length:=rfl
  refine S9 ?_;refine a9 (jr J J JG (fun w' hs=> (by have hg:=gdG (hs.all 0 _ J).1;rw [jfz,jgg,cell_of_row w' b _ _ T (0,0) hg.blk,hg.cell k hlt,YW (by omega)]))) ?_;refine S2 ?_;refine QB (k:=0) (r':=gdR lo hi b o T cs pl n (Zw m rs (k+1))) Hr rfl rfl rfl (by decide) rfl (fun w' hs=> (IP lo hi _ _ _ _ _ w' (by have:= (gdG (hs.all 0 _ rfl).1).pts k hlt;rw [YW (by omega)] at this;exact this) (by omega) (by omega)).mono (by rintro e w2 ⟨rfl,hw,hp⟩;exact⟨rfl,hw.mono fun _ h=>h.2.2,gdP ((gdG (hs.all 0 _ rfl).1).mark hl hlt hw hp) (jft (hs.all 0 _ rfl).1.1 hw.size)⟩)) (fun _ h=>h) rfl ?_;refine N9 ?_
  exact j8 hL1 (k+1) (by omega) (by omega) ⟨vi (by omega),vi (by omega),sz⟩ (u9 J)
 ·have hkn:k=n:= (by omega)
  refine S11 ?_;refine jL J (.tmp J) ?_
  intro w' hs
  exact⟨W8 (by rw [hkn]),hs.over.wrs.mono fun _ h=>Xk.1 h,by have:=gdG (hs.all 0 _ rfl).1;rw [hkn,←hl,EG,hl] at this;exact this⟩
theorem Ov (lo hi:Nat) (A:Option Addr) (n c:Nat) (rs:List jS) (m:Int) (w:World) (h:OwnG lo hi w A n rs) (hz:hi≤w.heap.size) (hm:0≤m) (hb:m+2* (qF rs n:Nat)≤4611686018427387904) (hn:n≤4611686018427387904) :
  Calls Tryz.prog 36 #[.slice A n c, .int .i64 m] w fun e w'=>e= .returned (.int .i64 (m+2* (qF rs n:Nat)))∧Wrs (D4 lo hi) w w'∧OwnG lo hi w' A n (Qh m rs) :=by
 have hl:=h.1
 by_cases h0:0<n
 ·obtain ⟨b,o,T,cs,pl,rfl,hd⟩ :=h.2.2 h0
  refine(LV lo hi b o T cs pl n c rs m w hd hl hz hm hb hn).mono ?_
  rintro e w' ⟨rfl,hw,hg⟩
  exact⟨rfl,hw,by rw [yx,hl],fun k hk=>by rw [UW _ _ _ (by omega),UM];exact h.2.1 k hk,fun _=>⟨b,o,T,cs,pl,rfl,hg⟩⟩
 ·obtain rfl:n=0:=by omega
  refine(LU A c m w).mono ?_
  rintro e w' ⟨rfl,hO⟩
  obtain rfl:rs= [] :=je9 hl
  exact⟨by simp [qF],Wrs.of hO,OwnG.nil A⟩
theorem YI (lo hi:Nat) (A:Option Addr) (n c:Nat) (rs:List jS) (m:Int) (w:World) (h:OwnG lo hi w A n rs) (hz:hi≤w.heap.size) (hm:0≤m) (hb:m+2* (qF rs n:Nat)≤4611686018427387904) (hn:n≤4611686018427387904) :
  Calls Tryz.prog 17 #[Ju A n c, .int .i64 m] w fun e w'=>e= .returned (.int .i64 (m+2* (qF rs n:Nat)))∧Wrs (D4 lo hi) w w'∧OwnG lo hi w' A n (Qh m rs) :=by
 refine yK (m:=10) (List.range' lo (hi- lo)) (JD n rs lo hi A) (Ii h hz) (fun _ h=>Xk.2 h) J (Tryz.func17) J J (lb J) ?_;refine S3 ?_;refine aX (fun b1=> ?_);refine N8 ?_;refine QB (k:=0) (r':=JD n (Qh m rs) lo hi A) xM rfl rfl rfl (by decide) rfl (fun w' hs=> (Ov lo hi A n c rs m w' (Vy (hs.all 0 _ rfl).1) (hs.all 0 _ rfl).1.1 hm hb hn).mono (by rintro e w2 ⟨rfl,hw,hp⟩;exact⟨rfl,hw,Ii hp (jft (hs.all 0 _ rfl).1.1 hw.size)⟩)) (fun _ h=>h) rfl ?_;refine N8 ?_;refine jL J (.tmp J) ?_
 intro w' hs
 exact⟨rfl,hs.over.wrs.mono fun _ h=>Xk.1 h,Vy (hs.all 0 _ rfl).1⟩
theorem Od (A:Option Addr) (n c:Nat) (rs:List jS) (m:Int) (w:World) (h:Rings w A n (Qh m rs)) (hm:0≤m) (hb:m+2* (qF rs n:Nat)≤4611686018427387904) (hn:n≤4611686018427387904) :
  Calls Tryz.prog 37 #[.slice A n c, .int .i64 m] w fun e w'=>e= .returned (.int .i64 (m+2* (qF rs n:Nat)))∧Over w w':=by
 have hl:=h.1
 rw [yx] at hl
 refine jU (m:=22) (Tryz.func37) J J (lb J) ?_;refine S10 ?_;refine qi (X:=Nat) (fun k=>k≤n) (fun k=>n- k) (fun k=> [(1, .int .i64 (m+2* (qF rs k:Nat))),(5, .int .i64 (k:Int))]) (kK [0,4]) 0 (jeE _) ⟨vi (by simp [qF]),sz⟩ ?_
 intro k hk L hL1
 refine V8 ?_;refine cZ (fun c1=> ?_) (fun c1=> ?_)
 ·have hlt:k<n:= (by omega)
  have hmo:=WM rs (show k+1≤n by omega)
  have hse:qF rs (k+1) =qF rs k+ (rg rs k).length:=rfl
  obtain ⟨bb,oo,Ak,ck,rfl,hbB,hcell,hpts,hmax⟩ :=h.at_ hlt
  rw [UW _ _ _ (by omega),UM] at hcell hpts
  refine S10 ?_;refine a9 (jr J J JG (jah hcell hbB)) ?_;refine S1 ?_;refine a9 (jH Hq J J (fun w1 hs=>Ik _ _ _ _ w1 (hpts.over hs.fin) (by omega) (by omega))) ?_;refine S7 ?_;refine qJ J (decide_eq_false (by omega)) ?_;refine S8 ?_
  exact J8 hL1 (k+1) (by omega) (by omega) ⟨vi (by omega),vi (by omega),sz⟩ (u9 J)
 ·refine S11 ?_;refine jL J (.tmp J) ?_
  intro w' hs
  exact⟨W8 (by rw [show k=n by omega]),hs.fin⟩
theorem LF (A:Option Addr) (n c:Nat) (rs:List jS) (m:Int) (w:World) (h:Rings w A n (Qh m rs)) (hm:0≤m) (hb:m+2* (qF rs n:Nat)≤4611686018427387904) (hn:n≤4611686018427387904) :
  Calls Tryz.prog 18 #[Ju A n c, .int .i64 m] w fun e w'=>e= .returned (.int .i64 (m+2* (qF rs n:Nat)))∧Over w w':=by
 refine jU (m:=12) (Tryz.func18) J J (lb J) ?_;refine S3 ?_;refine aX (fun b1=> ?_);refine N7 ?_;refine a9 (jH xL J J (fun w1 hs=>Od A n c rs m w1 (h.over hs.fin) hm hb hn)) ?_;refine S8 ?_;refine qJ J (decide_eq_false (by omega)) ?_;refine S8 ?_;refine jL J (.tmp J) ?_
 intro w' hs
 exact⟨rfl,hs.fin⟩
section
variable {P:Program} {n:Nat} {env:List (Nat×Value)} {w0:Bs} {Rs:List Res} {ops:Array Oper} {Q:Exit→Act→World→Prop} {K:Act→World→Prop} {o:Oper}
theorem PD {T U s:Nat} {x:Operand} {T':TypeId} {A:Option Addr} {m c m' c':Nat} (hT:TyL P T U s) (ho:o.op= .binOp .eql T x (.const (.slice none m' c')) T') (hx:ev env x=some (.slice A m c)) :Qt P o n env w0 Rs (.bool A.isNone) :=
 QV fun a w hf _=>by
  have e1:a.eval (.const (.slice none m' c')) = .slice none m' c':=rfl
  have e2:∀y z:Operand,eqGuard .eql T y z (.slice A m c) (.slice none m' c') =pure () :=fun _ _=>rfl
  unfold execOp;simp only [ho,hf.ev hx,e1,e2];simp [Lib.run_eql_slice_nil w T U A m c m' c' hT.desc]
end
structure Pc where
 xs:jS
 A:Option Addr
 c:Nat
 lo:Nat
 hi:Nat
def Pc.val (e:Pc) :Value:= .slice e.A e.xs.length e.c
def Pc.res (e:Pc) :Res:=jdz e.xs.length e.xs e.lo e.hi e.A
abbrev ve (l:List Pc) :Res:= .many (l.map Pc.res)
theorem vf (l:List Pc) (e:Pc) :Res.many (l.map Pc.res++ [e.res]) =ve (l++ [e]) :=by simp [ve]
theorem E0 {w:World} {B T n:Nat} {x:Option Addr×Nat} {xs:List (Int×Int)} (h:w.ownsRow B T 2 (.slice x.1 n x.2) n (xs.flatMap j7)) (hn:xs.length=n) :OwnP (wN x.1) (wN x.1+1) w x.1 n xs:=by
 refine⟨hn,fun h0=> ?_⟩
 rcases h.2 with⟨_,e⟩ |⟨g,cap,cur,e,hb,hg,hcap,hmax,hsz,htk⟩
 ·omega
 ·injection e with e1 e2 e3
  rw [e1]
  refine⟨g,0,T,cur,J,jeD _,Nat.lt_succ_self _,hg,fun k hk=> ?_⟩
  have hf:=fun q hq=>X7 xs k q (by omega) hq
  have hc:∀j,j<n*2→cur[j]? = (xs.flatMap j7)[j]? :=fun j hj=>by
   rw [←htk,List.getElem?_take,if_pos hj]
   simp
  rw [je3,hc _ (by omega),hc _ (by omega)]
  have h0:=hf 0 (by omega)
  have h1:=hf 1 (by omega)
  rw [Ya (by omega)] at h0 h1
  exact⟨by simpa [j7] using h0,by simpa [j7] using h1⟩
section
variable {n:Nat} {env:List (Nat×Value)} {w0:Bs} {Rs:List Res} {K:Act→World→Prop}
theorem zT (k:Nat) {B T m:Nat} {x:Option Addr×Nat} {xs:List (Int×Int)} (hk:Rs[k]? =some (JP B T 2 m (xs.flatMap j7) x)) (hm:xs.length=m) (h:∀lo hi,At n env w0 (Rs.set k (Pc.res ⟨xs,x.1,x.2,lo,hi⟩)) K) :At n env w0 Rs K:=by
 subst hm
 by_cases h0:0<xs.length
 ·refine fun a w hf hs=>h (wN x.1) (wN x.1+1) a w hf (hs.chg hk (fun hP=> ?_) (fun b hb=> ?_) J)
  ·have hP':w.ownsRow B T 2 (.slice x.1 xs.length x.2) xs.length (xs.flatMap j7) :=hP
   refine jdy (E0 hP' J) ?_
   rcases hP'.2 with⟨_,e⟩ |⟨g,cap,cur,e,hb,hg,_⟩
   ·omega
   ·injection e with e1
    rw [e1]
    exact JQ hg
  ·have hP':w.ownsRow B T 2 (.slice x.1 xs.length x.2) xs.length (xs.flatMap j7) := (hs.all k _ hk).1
   have hb':wN x.1≤b∧b<wN x.1+1:=hb
   rcases hP'.2 with⟨_,e⟩ |⟨g,cap,cur,e,hb2,hg,_⟩
   ·omega
   ·injection e with e1
    show Value.ownBlock (.slice x.1 xs.length x.2) =some b
    rw [e1] at hb'⊢
    have e3:g=b:=by have h1:g≤b:=hb'.1;have h2:b<g+1:=hb'.2;omega
    subst e3
    rfl
 ·refine fun a w hf hs=>h 0 0 a w hf (hs.chg hk (fun hP=> ?_) (fun b hb=>by have:0≤b∧b<0:=hb;omega) J)
  refine jdy ⟨J,fun h1=>absurd h1 h0⟩ (jeE _)
end
theorem jdZ {P:Program} {f:FuncId} {args:Array Value} {w1:World} {n:Nat} {xs:List (Int×Int)} (hn:xs.length=n) (h:Calls P f args w1 fun e w'=>∃g,e= .returned (YX (some ⟨g,0,none⟩) n n)∧w1.heap.size≤g∧Own w' g n xs∧Over w1 w') :
  Calls P f args w1 fun e w'=>∃x:Nat×Nat×Nat,e= .returned (.agg #[(Pc.mk xs (some ⟨x.1,0,none⟩) n x.2.1 x.2.2).val])∧Over w1 w'∧(Pc.res ⟨xs,some ⟨x.1,0,none⟩,n,x.2.1,x.2.2⟩).P w'∧(∀b,(Pc.res ⟨xs,some ⟨x.1,0,none⟩,n,x.2.1,x.2.2⟩).F b→w1.heap.size≤b)∧(Pc.res ⟨xs,some ⟨x.1,0,none⟩,n,x.2.1,x.2.2⟩).B=0∧True:=by
 subst hn
 refine h.mono ?_
 rintro e w' ⟨g,rfl,hg,ho,hO⟩
 refine⟨(g,w1.heap.size,w'.heap.size),J,hO,jdy ?_ (jeD _),fun b hb=>hb.1,sz⟩
 obtain ⟨⟨cs,hs,hh⟩,hl,hx⟩ :=ho
 refine⟨J,fun h0=>⟨g,0,_,cs,J,hg,JQ hh,hh,fun k hk=> ?_⟩⟩
 obtain ⟨b,o,e,_,hc⟩ :=hx h0
 injection e with e
 injection e with e1 e2
 subst e1 e2
 have:=hc k hk
 rwa [cell_of_row w' _ _ _ _ (0,0) hh,cell_of_row w' _ _ _ _ (0,0) hh] at this
theorem Uv {l:List Pc} {k:Nat} (h:k<l.length) :rg (l.map (·.xs)) k= (l[k]).xs:=by simp [rg,List.getD,h]
theorem DQ {w:World} {lo b o T:Nat} {cs:Array Value} {l:List Pc} (hb:w.heap[b]? =some (.cells cs T (0,0))) (hlo:lo≤b) (hc:∀k (h:k<l.length),cs[o+k]? =some (l[k]).val) (hP: (ve l).P w) (hne:¬(ve l).F b) (hF:∀q,(ve l).F q→lo≤q)
  (hm:∀e∈l,(e.xs.length:Int)≤1099511627776) :OwnG lo w.heap.size w (some ⟨b,o,none⟩) l.length (l.map (·.xs)) :=by
 have own:∀k (h:k<l.length),OwnP (l[k]).lo (l[k]).hi w (l[k]).A (l[k]).xs.length (l[k]).xs:=fun k h=>E8 (hP.1 _ (je7.2 ⟨l[k],jeW h,rfl⟩)).1
 have fp:∀k (h:k<l.length),0< (l[k]).xs.length→(l[k]).res.F (wN (l[k]).A) :=fun k h h0=>by
  obtain ⟨b',o',T',cs',e,h1,h2,_⟩ := (own k h).2 h0
  rw [e]
  exact⟨h1,h2⟩
 have inF:∀k (h:k<l.length) q,(l[k]).res.F q→(ve l).F q:=fun k h q hq=>⟨_,je7.2 ⟨l[k],jeW h,rfl⟩,hq⟩
 refine⟨by simp,fun k hk=>by rw [Uv hk];exact hm _ (jeW hk),fun _=>⟨b,o,T,cs,fun k=>if h:k<l.length then((l[k]).A,(l[k]).c) else(none,0),J,hlo,JQ hb,hb,fun k hk=> ?_,fun k hk=> ?_,fun k hk h0=> ?_,fun i j hi hj hij h1 h2=> ?_⟩⟩
 ·rw [hc k hk,Uv hk]
  simp only [hk,dite_true]
  rfl
 ·rw [Uv hk]
  simp only [hk,dite_true]
  refine⟨J,fun h0=> ?_⟩
  obtain ⟨b',o',T',cs',e,h1,h2,hh,hcc⟩ := (own k hk).2 h0
  exact⟨b',o',T',cs',e,hF b' (inF k hk b' ⟨h1,h2⟩),JQ hh,hh,hcc⟩
 ·rw [Uv hk] at h0
  simp only [hk,dite_true]
  exact fun e=>hne (e▸inF k hk _ (fp k hk h0))
 ·rw [Uv hi] at h1
  rw [Uv hj] at h2
  simp only [hi,hj,dite_true]
  intro e
  have hp:=jfH.1 hP.2
  rcases jfG i j with hlt | hge
  ·have:=hp i j (by simpa using hi) (by simpa using hj) hlt (wN (l[i]).A)
   simp only [jfK] at this
   exact this (fp i hi h1) (e▸fp j hj h2)
  ·have:=hp j i (by simpa using hj) (by simpa using hi) (by omega) (wN (l[i]).A)
   simp only [jfK] at this
   exact this (e▸fp j hj h2) (fp i hi h1)
theorem Ey (n:Nat) : (madeCells #[Value.slice none 0 0] (n*1)).toList=List.replicate n (Value.slice none 0 0) :=by rw [jfz,toList_madeCells_one]
theorem jc9 (l:List Pc) (r:List Value) (j:Nat) (hj:j<l.length) : (l.map Pc.val++r).toArray[0+j]? =some (l[j]).val:=by
 rw [je3,List.getElem?_toArray,List.getElem?_append_left (by simpa using hj)]
 simp [hj]
theorem C5 (l:List Pc) (e:Pc) {k n:Nat} (hl:l.length=k) (hk:k<n) : (l++ [e]).map Pc.val++List.replicate (n- (k+1)) (Value.slice none 0 0) =qk (l.map Pc.val++List.replicate (n- k) (Value.slice none 0 0)) (0+k*1) [e.val] :=by
 rw [show n- k= (n- (k+1)) +1 by omega,List.replicate_succ,show 0+k*1= (l.map Pc.val).length by simp;omega]
 simp only [qk]
 rw [jfU _ _ (jeD _),Nat.sub_self]
 simp
theorem vk {rs:List jS} {k:Nat} (hk:k<rs.length) :rs.take (k+1) =rs.take k++ [rg rs k] :=by
 rw [jeS hk,wl hk]
theorem wn {lo hi n N:Nat} {w:World} {A:Option Addr} {rs:List jS} (h: (JD n rs lo hi A).P w) (hF:∀b,(JD n rs lo hi A).F b→N≤b) :OwnG N w.heap.size w A n rs:=by
 have hg:=Vy h
 refine⟨hg.1,hg.2.1,fun hn=> ?_⟩
 obtain ⟨b,o,T,cs,pl,hA,hd⟩ :=hg.2.2 hn
 refine⟨b,o,T,cs,pl,hA,⟨hF b ⟨hd.low,hd.high⟩,jeR hd.high h.1,hd.blk,hd.cell,fun k hk=>⟨(hd.pts k hk).1,fun h0=> ?_⟩,hd.off,hd.apart⟩⟩
 obtain ⟨b',o',T',cs',e,h1,h2,hh⟩ := (hd.pts k hk).2 h0
 exact⟨b',o',T',cs',e,hF b' ⟨h1,h2⟩,jeR h2 h.1,hh⟩
theorem Qm {P:Program} {f:FuncId} {args:Array Value} {w1:World} {n:Nat} {rs:List jS} {V:Option Addr→Nat→Value} (h:Calls P f args w1 fun e w'=>∃A c,e= .returned (V A c)∧OwnG w1.heap.size w'.heap.size w' A n rs∧Over w1 w') :
  Calls P f args w1 fun e w'=>∃x: (Option Addr×Nat)×Nat×Nat,e= .returned (V x.1.1 x.1.2)∧Over w1 w'∧(JD n rs x.2.1 x.2.2 x.1.1).P w'∧(∀b,(JD n rs x.2.1 x.2.2 x.1.1).F b→w1.heap.size≤b)∧(JD n rs x.2.1 x.2.2 x.1.1).B=0∧True:=by
 refine h.mono ?_
 rintro e w' ⟨A,c,rfl,ho,hO⟩
 exact⟨((A,c),w1.heap.size,w'.heap.size),rfl,hO,Ii ho (jeD _),fun b hb=>hb.1,sz⟩
theorem JS {P:Program} {f:FuncId} {args:Array Value} {w1:World} {n:Nat} {rs:List jS} {V:Nat→Value} (h:Calls P f args w1 fun e w'=>∃g,e= .returned (V g)∧OwnG w1.heap.size w'.heap.size w' (some ⟨g,0,none⟩) n rs∧Over w1 w') :
  Calls P f args w1 fun e w'=>∃x:Nat×Nat×Nat,e= .returned (V x.1)∧Over w1 w'∧(JD n rs x.2.1 x.2.2 (some ⟨x.1,0,none⟩)).P w'∧(∀b,(JD n rs x.2.1 x.2.2 (some ⟨x.1,0,none⟩)).F b→w1.heap.size≤b)∧(JD n rs x.2.1 x.2.2 (some ⟨x.1,0,none⟩)).B=0∧True:=by
 refine h.mono ?_
 rintro e w' ⟨g,rfl,ho,hO⟩
 exact⟨(g,w1.heap.size,w'.heap.size),rfl,hO,Ii ho (jeD _),fun b hb=>hb.1,sz⟩
theorem RA (A:Option Addr) (n c:Nat) (rs:List jS) (w:World) (h:Rings w A n rs) (ht: (total rs:Int)≤1048576) :
  Calls Tryz.prog 31 #[.slice A n c] w fun e w'=>∃g,e= .returned (.slice (some ⟨g,0,none⟩) n n)∧OwnG w.heap.size w'.heap.size w' (some ⟨g,0,none⟩) n rs∧Over w w':=by
 have hl:=h.1
 have hn: (n:Int)≤1048576:=by unfold total at ht;omega
 refine jU (m:=23) (Tryz.func31) J J (lb J) ?_;refine S9 ?_;refine DP J J J jI Jn J (by decide) (by omega) (by omega) (fun b1=> ?_);refine N1 ?_;refine vF ?_;refine N7 ?_;refine JI (X:=Nat×List Pc) (fun x=>x.1≤n∧x.2.map (·.xs) =rs.take x.1) (fun x=>n- x.1) (fun x=> [(4, .int .i64 (x.1:Int))]) (kK [0,2,3]) (fun x=> [.cel b1 71 (x.2.map Pc.val++List.replicate (n- x.1) (.slice none 0 0)),ve x.2]) (0,[]) (⟨jeE _,J⟩) ⟨J,sz⟩ (fun _ h=>h.upto ⟨by rw [Ey];rfl,sz⟩) ?_
 intro⟨k,l⟩ hx L hL1
 refine v9 ?_;refine ji (by first | (dsimp only;done) | (dsimp only;rfl) | rfl) ?_
 have hk:k≤n:=hx.1
 have hmp:l.map (·.xs) =rs.take k:=hx.2
 have hlk:l.length=k:=by have:=congrArg List.length hmp;rw [jeX,jeV] at this;omega
 refine S8 ?_;refine cZ (fun c1=> ?_) (fun c1=> ?_)
 ·have hlt:k<n:= (by omega)
  obtain ⟨bb,oo,Ak,ck,rfl,hbB,hcell,hpts,hmax⟩ :=h.at_ hlt
  have hr: ((rg rs k).length:Int)≤1048576:=by have:=Vn rs (k:=k) (by omega);omega
  refine S10 ?_;refine a9 (jj J J OF J (ZM hcell hbB)) ?_;refine S1 ?_;refine jP LZ J J J (lb J) (fun w1 hs=>jdZ J (SQ _ _ _ (rg rs k) w1 (hpts.over hs.fin) hr)) ?_
  rintro⟨pg,plo,phi⟩ -
  refine N2 ?_;refine qr (k:=0) J J J J J (by rfl) Jn.szx J J (by simp;omega) ?_;refine S1 ?_;refine VY 1 2 J J (by decide) J ?_;refine ji (by simp only [jeL,jeG,jeM,jeO,jeJ,jeI,Value.cells,jeK];rfl) ?_;refine S7 ?_
  exact j8 hL1 ((k+1,l++ [⟨rg rs k,some ⟨pg,0,none⟩,(rg rs k).length,plo,phi⟩])) (⟨show k+1≤n by omega,by rw [jfa,hmp,vk (by omega)];rfl⟩) (by simp only;omega) ⟨vi (by omega),sz⟩ (fun _ h=>h.upto ⟨by rw [←C5 l _ hlk hlt],(vf _ _).symm,trivial⟩)
 ·have hkn:k=n:= (by omega)
  refine S11 ?_;refine jL J (.tmp J) ?_
  intro w' hs
  subst hkn
  have hrs:l.map (·.xs) =rs:=by rw [hmp,jfb (by omega)]
  refine⟨b1,J,?_,hs.fin⟩
  have hX:= (hs.all 1 _ rfl)
  have hg:=DQ (lo:=w.heap.size) (o:=0) (hs.cel (k:=0) rfl) ((hs.all 0 _ rfl).2.1 b1 rfl |>.elim id (fun h=>by cases h)) (fun j hj=>jc9 l _ j hj) hX.1 (fun hF=>hs.apart 0 1 _ _ (by decide) rfl rfl b1 rfl hF) (fun q hq=> (hX.2.1 q hq).elim id (fun h=>by cases h)) (fun e he=> ?_)
  rw [hrs,hlk] at hg
  exact hg
  have:e.xs∈rs:=hrs▸je7.2 ⟨e,he,rfl⟩
  obtain ⟨j,hj,e2⟩ :=jfm this
  have h1:=Vn rs hj
  rw [←wl hj,e2] at h1
  omega
theorem Je (A:Option Addr) (n c:Nat) (rs:List jS) (w:World) (h:Rings w A n rs) (ht: (total rs:Int)≤1048576) :
  Calls Tryz.prog 12 #[Ju A n c] w fun e w'=>∃g,e= .returned (Ju (some ⟨g,0,none⟩) n n)∧OwnG w.heap.size w'.heap.size w' (some ⟨g,0,none⟩) n rs∧Over w w':=by
 refine jU (m:=9) (Tryz.func12) J J (lb J) ?_;refine S3 ?_;refine aX (fun b1=> ?_);refine N1 ?_;refine aL (fun b2=> ?_);refine N4 ?_;refine aL (fun b3=> ?_);refine N6 ?_;refine jP Hu (X:=Nat×Nat×Nat) (v:=fun x=> .slice (some ⟨x.1,0,none⟩) n n) (r:=fun x=>JD n rs x.2.1 x.2.2 (some ⟨x.1,0,none⟩)) (H:=fun _=>True) J J J (lb J) (fun w1 hs=>JS (RA A n c rs w1 (h.over hs.fin) ht)) ?_
 rintro⟨g,lo,hi⟩ -
 refine N11 ?_;refine jL J (J3 (k:=1) J jn J J) ?_
 intro w' hs
 have hg:=hs.all 3 _ rfl
 exact⟨g,rfl,wn hg.1 (fun b hb=> (hg.2.1 b hb).elim id (fun h=>by cases h)),hs.fin⟩
end Go.Proofs.YtkagkgjjfdkoaaaGreat
