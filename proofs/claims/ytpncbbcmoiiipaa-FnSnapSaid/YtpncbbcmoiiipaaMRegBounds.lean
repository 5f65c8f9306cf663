import Derived.Test.YtpncbbcmoiiipaaMReg3
import Derived.Test.YtpncbbcmoiiipaaMOwn
import Derived.Lib.SliceRun
set_option linter.unusedVariables false
set_option linter.unusedSimpArgs false
namespace Go.Proofs.Ytpncbbcmoiiipaa
open Go Go.RowKit
theorem J6 (xs:List (Int×Int)) : (xs.flatMap jI).length=xs.length*2:=by
 induction xs with
 | nil=>rfl
 | cons a r ih=>rw [D9,DK,ih];simp [jI];omega
theorem Zs (xs:List (Int×Int)) :∀u∈xs.flatMap jI,u.oneCell'=true:=by
 intro u hu
 obtain ⟨p,_,hp⟩ :=List.mem_flatMap.1 hu
 simp [jI] at hp
 rcases hp with rfl | rfl<;>rfl
theorem wT:∀(xs:List (Int×Int)) (k j:Nat) (hk:k<xs.length),j<2→(xs.flatMap jI)[k*2+j]? = (jI xs[k])[j]?
 | [],_,_,h,_=>absurd h (by simp)
 | a::r,0,j,_,hj=>by
  rw [D9,Nat.zero_mul,Fo,List.getElem?_append_left (by simpa [jI] using hj)]
  rfl
 | a::r,k+1,j,h,hj=>by
  have hl: (jI a).length=2:=rfl
  rw [D9,List.getElem?_append_right (by rw [hl];omega),hl]
  have:=wT r k j (by simpa using h) hj
  rw [show(k+1) *2+j- 2=k*2+j by omega,this]
  rfl
theorem OP {w:World} {A:Option Addr} {n c:Nat} {xs:List (Int×Int)} (h:Pts w A n xs) (hn:0<n) :Src 2 (.slice A n c) n (xs.flatMap jI) w:=by
 refine⟨by rw [J6,h.1], .inr ?_⟩
 obtain ⟨b,o,rfl,hb,hc⟩ :=h.2 hn
 refine⟨_,c,J,fun j u hu=> ?_⟩
 have hj:j<xs.length*2:=by have:= (List.getElem?_eq_some_iff.1 hu).1;rwa [J6] at this
 have hl:=h.1
 have e:j=j/2*2+j % 2:=by omega
 have hf:=wT xs (j/2) (j % 2) Om Om
 rw [←e,hu,Vz Om] at hf
 obtain ⟨h1,h2⟩ :=hc (j/2) Om
 rw [Q5]
 rcases(show j % 2=0∨j % 2=1 by omega) with e2 | e2
 ·rw [e2] at hf
  rw [show o+j=o+j/2*2 by omega,h1]
  simpa [jI] using hf.symm
 ·rw [e2] at hf
  rw [show o+j=o+j/2*2+1 by omega,h2]
  simpa [jI] using hf.symm
theorem Li {w:World} {B T n:Nat} {A:Option Addr} {c:Nat} {xs:List (Int×Int)} (h:w.ownsRow B T 2 (.slice A n c) n (xs.flatMap jI)) (hn:xs.length=n) :Pts w A n xs:=by
 refine⟨hn,fun h0=> ?_⟩
 rcases h.2 with⟨_,e⟩ |⟨g,cap,cur,e,hb,hg,hcap,hmax,hsz,htk⟩
 ·omega
 ·injection e with e1 e2 e3
  subst e1
  refine⟨g,0,J,JE hg,fun k hk=> ?_⟩
  have hf:=fun q hq=>wT xs k q Om hq
  have hc:∀j,j<n*2→cur[j]? = (xs.flatMap jI)[j]? :=fun j hj=>by
   rw [←htk,List.getElem?_take,if_pos hj]
   simp
  rw [cell_of_row w g _ _ T (0,0) hg,cell_of_row w g _ _ T (0,0) hg,Fo,hc _ Om,hc _ Om]
  have h0:=hf 0 Om
  have h1:=hf 1 Om
  rw [Vz Om] at h0 h1
  exact⟨by simpa [jI] using h0,by simpa [jI] using h1⟩
theorem U6 {w:World} {B T s n:Nat} {A:Option Addr} {c:Nat} {xs:List Value} (h:w.ownsRow B T s (.slice A n c) n xs) :n≤c:=by
 rcases h.2 with⟨e,_⟩ |⟨g,cap,cur,e,hb,hg,hcap,hmax,hsz,htk⟩
 ·injection e;omega
 ·injection e;omega
theorem Rings.form {w:World} {A:Option Addr} {n:Nat} {rs:List jx} (h:Rings w A n rs) (hn:0<n) :∃b o,A=some ⟨b,o,none⟩ :=by
 obtain ⟨b,o,hA,_⟩ :=h.2 hn
 exact⟨b,o,hA⟩
theorem we {rs:List jx} (h:Je rs=true) :rs.length≤40:=by
 simp [Je] at h
 omega
section
variable {w:World} {Rs:List Res}
theorem XN {b o:Nat} {v:Value} (hc:w.cell? ⟨b,o,none⟩ =some v) (hb:b<w.heap.size) :∀w',St ⟨w,[]⟩ Rs w'→w'.cell? ⟨b,o,none⟩ =some v:=fun w' hs=> ((jD hs.fin).1 b o hb).trans hc
theorem zb {b o k:Nat} {v:Value} (hc:w.cell? ⟨b,o+k,none⟩ =some v) (hb:b<w.heap.size) :∀w',St ⟨w,[]⟩ Rs w'→∀q u,[v][q]? =some u→w'.cell? ⟨b,o+k*1+q,none⟩ =some u:=fun w' hs q u hq=>by
 match q,hq with
 | 0,hq=>simp at hq;subst hq;rw [Nat.mul_one,Nat.add_zero];exact XN hc hb w' hs
theorem xH {b o:Nat} {v:Value} (hc:w.cell? ⟨b,o,none⟩ =some v) (hb:b<w.heap.size) :∀w',St ⟨w,[]⟩ Rs w'→w'.cell? ⟨b,o+0,none⟩ =some v:=fun w' hs=>XN hc hb w' hs
theorem Lt {b o k:Nat} {v:Value} (hc:w.cell? ⟨b,o+k,none⟩ =some v) (hb:b<w.heap.size) :∀w',St ⟨w,[]⟩ Rs w'→w'.cell? ⟨b,o+k*1+0,none⟩ =some v:=fun w' hs=>by rw [Nat.mul_one,Nat.add_zero];exact XN hc hb w' hs
end
theorem qN {xs:List (Int×Int)} (h:qd xs=true) :0<xs.length∧xs.length≤400:=by simp [qd,wB] at h;omega
def MarkTo (cs:List Value) (o:Nat) (m:Int) (k:Nat) :Prop:=∀j,j<k→cs[o+j*2]? =some (.int .i64 (m+2*j))∧cs[o+j*2+1]? =some (.int .i64 (m+2*j+1))
theorem MarkTo.step {cs:List Value} {o:Nat} {m:Int} {k:Nat} (h:MarkTo cs o m k) (hl:o+k*2+1<cs.length) :
  MarkTo (qi (qi cs (o+k*2+0) [.int .i64 (m+2*k)]) (o+k*2+1) [.int .i64 (m+2*k+1)]) o m (k+1) :=by
 intro j hj
 simp only [qi,Nat.add_zero]
 by_cases hjk:j=k
 ·subst hjk
  rw [List.getElem?_set_ne Om,List.getElem?_set_self Om,List.getElem?_set_self (by simpa using hl)]
  exact⟨rfl,rfl⟩
 ·have:=h j Om
  rw [List.getElem?_set_ne Om,List.getElem?_set_ne Om,List.getElem?_set_ne Om,List.getElem?_set_ne Om]
  exact this
def Bx (lo hi:Nat) (b:Nat) :Prop:=lo≤b∧b<hi
theorem OL {rs ss:List jx} (h:rs.length=ss.length) (hp:∀j,j<rs.length→rg rs j=rg ss j) :rs=ss:=by
 refine F1 h fun j h1 h2=> ?_
 rw [Ku h1,Ku h2,hp j h1]
section
variable {P:Program} {n:Nat} {env:List (Nat×Value)} {w0:Bs} {Rs:List Res} {ops:Array Oper} {Q:Exit→Act→World→Prop} {K:Act→World→Prop} {o:Oper}
end
structure Pc where
 xs:jx
 A:Option Addr
 c:Nat
 lo:Nat
 hi:Nat
def Pc.val (e:Pc) :Value:= .slice e.A e.xs.length e.c
def Pc.res (e:Pc) :Res:=uY e.xs.length e.xs e.lo e.hi e.A
abbrev vL (l:List Pc) :Res:= .many (l.map Pc.res)
theorem wc (l:List Pc) (e:Pc) :Res.many (l.map Pc.res++ [e.res]) =vL (l++ [e]) :=by simp [vL]
theorem Zn {w:World} {B T n:Nat} {x:Option Addr×Nat} {xs:List (Int×Int)} (h:w.ownsRow B T 2 (.slice x.1 n x.2) n (xs.flatMap jI)) (hn:xs.length=n) :OwnP (WV x.1) (WV x.1+1) w x.1 n xs:=by
 refine⟨hn,fun h0=> ?_⟩
 rcases h.2 with⟨_,e⟩ |⟨g,cap,cur,e,hb,hg,hcap,hmax,hsz,htk⟩
 ·omega
 ·injection e with e1 e2 e3
  rw [e1]
  refine⟨g,0,T,cur,J,DM _,Nat.lt_succ_self _,hg,fun k hk=> ?_⟩
  have hf:=fun q hq=>wT xs k q Om hq
  have hc:∀j,j<n*2→cur[j]? = (xs.flatMap jI)[j]? :=fun j hj=>by
   rw [←htk,List.getElem?_take,if_pos hj]
   simp
  rw [Fo,hc _ Om,hc _ Om]
  have h0:=hf 0 Om
  have h1:=hf 1 Om
  rw [Vz Om] at h0 h1
  exact⟨by simpa [jI] using h0,by simpa [jI] using h1⟩
section
variable {n:Nat} {env:List (Nat×Value)} {w0:Bs} {Rs:List Res} {K:Act→World→Prop}
theorem He (k:Nat) {B T m:Nat} {x:Option Addr×Nat} {xs:List (Int×Int)} (hk:Rs[k]? =some (qx B T 2 m (xs.flatMap jI) x)) (hm:xs.length=m) (h:∀lo hi,At n env w0 (Rs.set k (Pc.res ⟨xs,x.1,x.2,lo,hi⟩)) K) :At n env w0 Rs K:=by
 subst hm
 by_cases h0:0<xs.length
 ·refine fun a w hf hs=>h (WV x.1) (WV x.1+1) a w hf (hs.chg hk (fun hP=> ?_) (fun b hb=> ?_) J)
  ·have hP':w.ownsRow B T 2 (.slice x.1 xs.length x.2) xs.length (xs.flatMap jI) :=hP
   refine My (Zn hP' J) ?_
   rcases hP'.2 with⟨_,e⟩ |⟨g,cap,cur,e,hb,hg,_⟩
   ·omega
   ·injection e with e1
    rw [e1]
    exact JE hg
  ·have hP':w.ownsRow B T 2 (.slice x.1 xs.length x.2) xs.length (xs.flatMap jI) := (hs.all k _ hk).1
   have hb':WV x.1≤b∧b<WV x.1+1:=hb
   rcases hP'.2 with⟨_,e⟩ |⟨g,cap,cur,e,hb2,hg,_⟩
   ·omega
   ·injection e with e1
    show Value.ownBlock (.slice x.1 xs.length x.2) =some b
    rw [e1] at hb'⊢
    have e3:g=b:=by have h1:g≤b:=hb'.1;have h2:b<g+1:=hb'.2;omega
    subst e3
    rfl
 ·refine fun a w hf hs=>h 0 0 a w hf (hs.chg hk (fun hP=> ?_) (fun b hb=>by have:0≤b∧b<0:=hb;omega) J)
  refine My ⟨J,fun h1=>absurd h1 h0⟩ (DQ _)
end
theorem VU {l:List Pc} {k:Nat} (h:k<l.length) :rg (l.map (·.xs)) k= (l[k]).xs:=by simp [rg,List.getD,h]
theorem XH {w:World} {lo b o T:Nat} {cs:Array Value} {l:List Pc} (hb:w.heap[b]? =some (.cells cs T (0,0))) (hlo:lo≤b) (hc:∀k (h:k<l.length),cs[o+k]? =some (l[k]).val) (hP: (vL l).P w) (hne:¬(vL l).F b) (hF:∀q,(vL l).F q→lo≤q)
  (hm:∀e∈l,(e.xs.length:Int)≤1099511627776) :OwnG lo w.heap.size w (some ⟨b,o,none⟩) l.length (l.map (·.xs)) :=by
 have own:∀k (h:k<l.length),OwnP (l[k]).lo (l[k]).hi w (l[k]).A (l[k]).xs.length (l[k]).xs:=fun k h=>OG (hP.1 _ (Fi.2 ⟨l[k],DR h,rfl⟩)).1
 have fp:∀k (h:k<l.length),0< (l[k]).xs.length→(l[k]).res.F (WV (l[k]).A) :=fun k h h0=>by
  obtain ⟨b',o',T',cs',e,h1,h2,_⟩ := (own k h).2 h0
  rw [e]
  exact⟨h1,h2⟩
 have inF:∀k (h:k<l.length) q,(l[k]).res.F q→(vL l).F q:=fun k h q hq=>⟨_,Fi.2 ⟨l[k],DR h,rfl⟩,hq⟩
 refine⟨by simp,fun k hk=>by rw [VU hk];exact hm _ (DR hk),fun _=>⟨b,o,T,cs,fun k=>if h:k<l.length then((l[k]).A,(l[k]).c) else(none,0),J,hlo,JE hb,hb,fun k hk=> ?_,fun k hk=> ?_,fun k hk h0=> ?_,fun i j hi hj hij h1 h2=> ?_⟩⟩
 ·rw [hc k hk,VU hk]
  simp only [hk,dite_true]
  rfl
 ·rw [VU hk]
  simp only [hk,dite_true]
  refine⟨J,fun h0=> ?_⟩
  obtain ⟨b',o',T',cs',e,h1,h2,hh,hcc⟩ := (own k hk).2 h0
  exact⟨b',o',T',cs',e,hF b' (inF k hk b' ⟨h1,h2⟩),JE hh,hh,hcc⟩
 ·rw [VU hk] at h0
  simp only [hk,dite_true]
  exact fun e=>hne (e▸inF k hk _ (fp k hk h0))
 ·rw [VU hi] at h1
  rw [VU hj] at h2
  simp only [hi,hj,dite_true]
  intro e
  have hp:=FX.1 hP.2
  rcases FI i j with hlt | hge
  ·have:=hp i j (by simpa using hi) (by simpa using hj) hlt (WV (l[i]).A)
   simp only [F2] at this
   exact this (fp i hi h1) (e▸fp j hj h2)
  ·have:=hp j i (by simpa using hj) (by simpa using hi) Om (WV (l[i]).A)
   simp only [F2] at this
   exact this (e▸fp j hj h2) (fp i hi h1)
theorem vO {rs:List jx} {k:Nat} (hk:k<rs.length) :rs.take (k+1) =rs.take k++ [rg rs k] :=by
 rw [DY hk,Ku hk]
theorem Oe {lo hi n N:Nat} {w:World} {A:Option Addr} {rs:List jx} (h: (vy n rs lo hi A).P w) (hF:∀b,(vy n rs lo hi A).F b→N≤b) :OwnG N w.heap.size w A n rs:=by
 have hg:=HC h
 refine⟨hg.1,hg.2.1,fun hn=> ?_⟩
 obtain ⟨b,o,T,cs,pl,hA,hd⟩ :=hg.2.2 hn
 refine⟨b,o,T,cs,pl,hA,⟨hF b ⟨hd.low,hd.high⟩,DS hd.high h.1,hd.blk,hd.cell,fun k hk=>⟨(hd.pts k hk).1,fun h0=> ?_⟩,hd.off,hd.apart⟩⟩
 obtain ⟨b',o',T',cs',e,h1,h2,hh⟩ := (hd.pts k hk).2 h0
 exact⟨b',o',T',cs',e,hF b' ⟨h1,h2⟩,DS h2 h.1,hh⟩
theorem xi {P:Program} {f:FuncId} {args:Array Value} {w1:World} {n:Nat} {rs:List jx} {V:Option Addr→Nat→Value} (h:Calls P f args w1 fun e w'=>∃A c,e= .returned (V A c)∧OwnG w1.heap.size w'.heap.size w' A n rs∧Over w1 w') :
  Calls P f args w1 fun e w'=>∃x: (Option Addr×Nat)×Nat×Nat,e= .returned (V x.1.1 x.1.2)∧Over w1 w'∧(vy n rs x.2.1 x.2.2 x.1.1).P w'∧(∀b,(vy n rs x.2.1 x.2.2 x.1.1).F b→w1.heap.size≤b)∧(vy n rs x.2.1 x.2.2 x.1.1).B=0∧True:=by
 refine h.mono ?_
 rintro e w' ⟨A,c,rfl,ho,hO⟩
 exact⟨((A,c),w1.heap.size,w'.heap.size),rfl,hO,L9 ho (DM _),fun b hb=>hb.1,sz⟩
end Go.Proofs.Ytpncbbcmoiiipaa
