import Derived.Test.YtkagkgjjfdkoaaaGreatMSnapped
import Derived.ArgAppend
set_option linter.unusedVariables false
set_option linter.unusedSimpArgs false
namespace Go.Proofs.YtkagkgjjfdkoaaaGreat
open Go Go.RowKit
set_option maxRecDepth 100000
set_option maxHeartbeats 4000000
theorem HF {w:World} {b U:Nat} {cs vs:List Value} {off:Nat} (hh:w.heap[b]? =some (.cells cs.toArray U (0,0))) (hl:off+vs.length≤cs.length) (h1:vs.all (·.oneCell') =true) :w.setCells b off vs=w.setRow b (qk cs off vs).toArray:=by
 have hcell:∀j,j<vs.length→(w.cell? ⟨b,off+0+j,none⟩).isSome=true:=fun j hj=>by
  rw [cell_of_row w b _ _ U (0,0) hh]
  simp;omega
 have hfz:∀j,j<vs.length→w.frozen? ⟨b,off+0+j,none⟩ =false:=fun j hj=>by simp [World.frozen?,hh]
 have e1:=run_storeCells_cells (P:=default) b off vs 0 w hcell hfz (fun v hv=>by simpa using jfP.1 h1 v hv)
 have e2:=Vo (P:=default) vs off 0 cs w hh (by omega) h1
 rw [e1] at e2
 injection e2
section
variable {P:Program} {n:Nat} {env:List (Nat×Value)} {w0:Bs} {Rs:List Res} {ops:Array Oper} {Q:Exit→Act→World→Prop} {K:Act→World→Prop} {o:Oper}
theorem IZ {x y:Operand} {T U s bytes k b b2 off2 m c cap d nn U':Nat} {z:Value} {cs news:List Value} (ho:o.op= .call {callee:= .builtin .append,args:= #[x,y],argTypes:= #[T,T]}) (hT:TyL P T U s) (hZ:TyZ P U s bytes z) (hd:o.dst=some d) (hn:d<n)
  (hx:ev env x=some (.slice (some ⟨b,0,none⟩) nn cap)) (hy:ev env y=some (.slice (some ⟨b2,off2,none⟩) m c)) (hk:Rs[k]? =some (.cel b U' cs)) (hl:news.length=m*s) (hnews:∀w,St w0 Rs w→∀j u,news[j]? =some u→w.cell? ⟨b2,off2+j,none⟩ =some u) (h1:news.all (·.oneCell') =true)
  (hroom:nn+m≤cap) (hfit:nn*s+news.length≤cs.length)
  (h:At n ((d, .slice (some ⟨b,0,none⟩) (nn+m) cap) ::env) w0 (Rs.set k (.cel b U' (qk cs (nn*s) news))) K) :At n env w0 Rs (fun a w=>o.wp P a w K Q) :=fun a w hf hs=>by
 obtain ⟨i,hi,hz0,hz1,hz2⟩ :=hZ.info
 have hh:=hs.cel hk
 have hr:=run_append_room_cells (P:=P) w T o.type U i hT.desc hi b 0 nn cap ⟨b2,off2,none⟩ m c news (by rw [hz1];exact hl) (fun j u hj=>by rw [Qz];exact hnews w hs j u hj) (fun u hu=>by simpa using jfP.1 h1 u hu) hroom
  (fun j hj=>by rw [cell_of_row w b _ _ U' (0,0) hh,hz1];simp;omega) (fun j hj=>by simp [World.frozen?,hh])
 rw [hz1,je3,HF hh hfit h1] at hr
 have hrun: (execOp a.eval o).run P w= .ok (.value (.slice (some ⟨b,0,none⟩) (nn+m) cap)) (w.setRow b (qk cs (nn*s) news).toArray) :=by
  unfold execOp
  simp only [ho,resolve,invoke,builtin,Sem.run_bind,Sem.run_pure,Result.andThen_ok,je1,jeZ,jfc,hf.ev hx,hf.ev hy,hr]
 show o.upon P a K Q ((execOp a.eval o).run P w)
 rw [hrun,Oper.upon_value,hd]
 exact h _ _ (hf.put hn _) (hs.store hk)
theorem Ma {x:Operand} {T U s bytes k b off m c U':Nat} {z:Value} {cs zs:List Value} (ho:o.op= .call {callee:= .builtin .clear,args:= #[x],argTypes:= #[T]}) (hT:TyL P T U s) (hZ:TyZ P U s bytes z) (hd:o.dst=none)
  (hx:ev env x=some (.slice (some ⟨b,off,none⟩) m c)) (hm:0<m) (hk:Rs[k]? =some (.cel b U' cs)) (hzs: (Builtin.zeroCells z.cells m).toList=zs) (h1:zs.all (·.oneCell') =true) (hfit:off+zs.length≤cs.length)
  (h:At n env w0 (Rs.set k (.cel b U' (qk cs off zs))) K) :At n env w0 Rs (fun a w=>o.wp P a w K Q) :=fun a w hf hs=>by
 have hh:=hs.cel hk
 have hst:=Vo (P:=P) zs off 0 cs w hh (by omega) h1
 obtain ⟨m',rfl⟩ :∃m',m=m'+1:=⟨m- 1,by omega⟩
 have hcl: (Builtin.clear_ #[T] o.type #[.slice (some ⟨b,off,none⟩) (m'+1) c]).run P w= .ok (.tuple #[]) (w.setRow b (qk cs off zs).toArray) :=by
  simp [Builtin.clear_,run_underlying hT.desc,hZ.run,hzs,hst]
 have hrun: (execOp a.eval o).run P w= .ok (.value (.tuple #[])) (w.setRow b (qk cs off zs).toArray) :=by
  unfold execOp
  simp only [ho,resolve,invoke,builtin,Sem.run_bind,Sem.run_pure,Result.andThen_ok,je1,jeZ,jfc,hf.ev hx,hcl]
 show o.upon P a K Q ((execOp a.eval o).run P w)
 rw [hrun,Oper.upon_value,hd]
 exact h _ _ hf (hs.store hk)
end
theorem yH {vs:List Value} :∀ {cs:List Value} {off:Nat} (j:Nat),off+vs.length≤cs.length→(qk cs off vs)[j]? =if off≤j∧j<off+vs.length then vs[j- off]? else cs[j]? :=by
 induction vs with
 | nil=>intro cs off j _;rw [qk,if_neg (by simp only [je6];omega)]
 | cons v r ih=>
  intro cs off j hl
  simp only [jeP] at hl
  rw [qk,ih (cs:=cs.set off v) (off:=off+1) j (by simp;omega)]
  simp only [jeP]
  by_cases h1:off+1≤j∧j<off+1+r.length
  ·rw [if_pos h1,if_pos (by omega),show j- off= (j- (off+1)) +1 by omega]
   simp
  ·rw [if_neg h1]
   by_cases h2:j=off
   ·subst h2
    rw [if_pos (by omega),List.getElem?_set_self (by omega)]
    simp
   ·rw [if_neg (by omega),List.getElem?_set_ne (by omega)]
theorem I8 (xs:List (Int×Int)) (j:Nat) (h:j<xs.length*2) : (xs.flatMap j7)[j]? = (j7 (xs[j/2]'(by omega)))[j % 2]? :=by
 have:=X7 xs (j/2) (j % 2) (by omega) (by omega)
 rwa [show j/2*2+j % 2=j by omega] at this
theorem MM (xs:List (Int×Int)) (k:Nat) : (xs.flatMap j7).take (k*2) = (xs.take k).flatMap j7:=by
 induction xs generalizing k with
 | nil=>simp
 | cons a r ih=>
  match k with
  | 0=>simp
  | k+1=>
   rw [je4,List.take_succ_cons,je4,show(k+1) *2= (j7 a).length+k*2 by simp [j7];omega,List.take_length_add_append,ih]
theorem Lz (xs:List (Int×Int)) (k:Nat) : (xs.flatMap j7).drop (k*2) = (xs.drop k).flatMap j7:=by
 induction xs generalizing k with
 | nil=>simp
 | cons a r ih=>
  match k with
  | 0=>simp
  | k+1=>
   rw [je4,List.drop_succ_cons,show(k+1) *2= (j7 a).length+k*2 by simp [j7];omega,List.drop_length_add_append,ih]
def Ut (o l m s:Nat) :Nat:=if m=l then o else o+l*s
theorem wg {b o l h m s:Nat} (_hm:h≤m) (_hl:l≤h) :sliced (some ⟨b,o,none⟩) l h m s= .slice (some ⟨b,Ut o l m s,none⟩) (h- l) (m- l) :=by
 unfold sliced Ut
 split
 ·rfl
 ·simp [Qz]
theorem jd9: (Builtin.zeroCells (Value.agg #[.int .i64 0, .int .i64 0]).cells 1).toList= [.int .i64 0, .int .i64 0] :=by kernel_rfl
theorem jaw {b n c:Nat} (hc:n≤c) (h0:0<n) :sliced (some ⟨b,0,none⟩) (n- 1) n c 2= .slice (some ⟨b,(n- 1) *2,none⟩) 1 (c- (n- 1)) :=by
 rw [wg (by omega) (by omega),Ut,if_neg (by omega),je3,show n- (n- 1) =1 by omega]
theorem I7 (xs:List (Int×Int)) : (xs.flatMap j7).all (·.oneCell') =true:=jfP.2 (Kk xs)
theorem C8 {w0:Bs} {Rs:List Res} {b T c i n:Nat} {xs:List (Int×Int)} {cs:List Value} (hc:n≤c) (hl:cs.length=c*2) (hx:cs.take (n*2) =xs.flatMap j7) (hn:xs.length=n) :∀w',St w0 (.cel b T cs::Rs) w'→∀(j:Nat) u,((xs.drop (i+1)).flatMap j7)[j]? =some u→w'.cell? ⟨b,Ut 0 (i+1) c 2+j,none⟩ =some u:=fun w' hs j u hu=>by
 have hj:= (List.getElem?_eq_some_iff.1 hu).1
 rw [qn,je2] at hj
 rw [Ut,if_neg (by omega),cell_of_row w' b _ _ T (0,0) (hs.cel (k:=0) rfl)]
 rw [←Lz,List.getElem?_drop,←hx,List.getElem?_take,if_pos (by omega)] at hu
 rw [je3]
 simpa using hu
theorem RH (b T c i n:Nat) (xs:List (Int×Int)) (cs:List Value) (w:World) (hh:w.heap[b]? =some (.cells cs.toArray T (0,0))) (hc:n≤c) (hl:cs.length=c*2) (hx:cs.take (n*2) =xs.flatMap j7) (hn:xs.length=n) (hi:i<n) (hn2:n≤1048577) :
  Calls Tryz.prog 133 #[.slice (some ⟨b,0,none⟩) n c, .int .i64 (i:Int), .int .i64 ((i:Int) +1)] w fun e w'=>e= .returned (.slice (some ⟨b,0,none⟩) (n- 1) c)∧Wr b w w'∧
   w'.heap[b]? =some (.cells (qk (qk cs (i*2) ((xs.drop (i+1)).flatMap j7)) ((n- 1) *2) [.int .i64 0, .int .i64 0]).toArray T (0,0)) :=by
 refine Qv (m:=33) (Tryz.func133) J J (lb J) (hh) ?_;refine S5 ?_;refine kx 2 (.int .i64 ((i+1:Nat) :Int)) J (congrArg _ (by omega)) ?_;refine S6 ?_;refine a9 (Rg J J J J J jt (by omega) (by omega) (by omega)) ?_;refine S8 ?_;refine cZ (fun c1=> ?_) (fun c1=> ?_)
 ·omega
 ·refine S10 ?_;refine Jw 6 ?_;refine dV 0 [2] ?_;refine dV 1 [2] ?_;refine dZ 2 J ((kb J J J jt (by omega)).as (VG _ _ _ _ _)) ?_;refine dV 3 [5] ?_;refine dV 4 [5] ?_;refine dZ 5 J ((KL J J J jt (by omega)).as (wg (b:=b) (o:=0) (l:=i+1) (h:=n) (m:=c) (s:=2) hc hi)) ?_;refine K4 J (by kernel_rfl) J ?_;refine IZ (k:=0) (news:= (xs.drop (i+1)).flatMap j7) J jt jO J (by decide) J J J (by rw [qn,je2,hn]) (C8 hc hl hx hn) (I7 _) (by omega) (by rw [qn,je2];omega) ?_;refine n9 ?_;refine Jw 8 ?_;refine dK 7 ?_;refine Jj (by kernel_rfl) ?_;refine S2 ?_;refine kx 0 (.slice (some ⟨b,0,none⟩) (n- 1) c) J (by rw [show i+ (n- (i+1)) =n- 1 by omega]) ?_;refine S5 ?_;refine a9 ((Sz J J J J jt (by omega) (by omega)).as (jaw hc (by omega))) ?_;refine S1 ?_;refine Ma (k:=0) (zs:= [.int .i64 0, .int .i64 0]) J jt jO J J (by omega) J jd9 J (by rw [Qe];simp only [jeP,je6];omega) ?_;refine N7 ?_;refine jL J (.tmp J) ?_
  intro w' hs
  exact⟨rfl,hs.over.wr,hs.cel (k:=0) rfl⟩
theorem CV {c i n:Nat} {xs:List (Int×Int)} {cs:List Value} (hc:n≤c) (hl:cs.length=c*2) (hx:cs.take (n*2) =xs.flatMap j7) (hn:xs.length=n) (hi:i<n) :
  (qk (qk cs (i*2) ((xs.drop (i+1)).flatMap j7)) ((n- 1) *2) [.int .i64 0, .int .i64 0]).take ((n- 1) *2) = (xs.eraseIdx i).flatMap j7:=by
 have hdl: ((xs.drop (i+1)).flatMap j7).length= (n- (i+1)) *2:=by rw [qn,je2,hn]
 apply List.ext_getElem?
 intro j
 rw [List.getElem?_take]
 by_cases hj:j< (n- 1) *2
 ·rw [if_pos hj,yH j (by rw [Qe];simp only [jeP,je6];omega),if_neg (by omega),yH j (by rw [hdl];omega)]
  rw [jge,jeQ,←MM]
  have htl: ((xs.flatMap j7).take (i*2)).length=i*2:=by rw [jeV,qn];omega
  by_cases h1:j<i*2
  ·rw [if_neg (by omega),List.getElem?_append_left (by rw [htl];exact h1),List.getElem?_take,if_pos h1,←hx,List.getElem?_take,if_pos (by omega)]
  ·rw [if_pos ⟨by omega,by rw [hdl];omega⟩,List.getElem?_append_right (by rw [htl];omega),htl]
 ·rw [if_neg hj,List.getElem?_eq_none (by rw [qn,jgn];split<;>omega)]
theorem RI {N c i n:Nat} {A:Option Addr} {xs:List (Int×Int)} {w:World} (h:w.ownsRow N 54 2 (.slice A n c) n (xs.flatMap j7)) (hn:xs.length=n) (hi:i<n) (hn2:n≤1048577) :
  Calls Tryz.prog 133 #[.slice A n c, .int .i64 (i:Int), .int .i64 ((i:Int) +1)] w fun e w'=>e= .returned (.slice A (n- 1) c)∧Wrs (JP N 54 2 n (xs.flatMap j7) (A,c)).F w w'∧(JP N 54 2 (n- 1) ((xs.eraseIdx i).flatMap j7) (A,c)).P w':=by
 rcases h.2 with⟨_,e⟩ |⟨g,cap,cur,e,hb,hg,hcap,hmax,hsz,htk⟩
 ·omega
 ·injection e with e1 e2 e3
  subst e1 e3
  have hg':w.heap[g]? =some (.cells cur.toList.toArray 54 (0,0)) :=by rw [hg,jfJ]
  refine(RH g _ c i n xs cur.toList w hg' hcap (by simpa using hsz) htk hn hi hn2).mono ?_
  rintro e w' ⟨rfl,hw,hh⟩
  refine⟨rfl,⟨hw.os,hw.tape,hw.output,hw.size,fun q hq hne=>hw.block q hq (fun e=>hne (by subst e;rfl))⟩,?_⟩
  refine⟨by rw [qn,jgn,hn,if_pos hi], .inr ⟨g,c,_,J,hb,hh,by omega,hmax,by simp [Qe,hsz],?_⟩⟩
  rw [jeK]
  exact CV hcap (by simpa using hsz) htk hn hi
def pt (xs:List (Int×Int)) (k:Nat) :Pn:= (px xs k,py xs k)
def pv (xs:List (Int×Int)) (k:Nat) :Nat:= (k+xs.length- 1) % xs.length
theorem jcK {xs:List (Int×Int)} (k:Nat) (h:0<xs.length) :pv xs k<xs.length:=Nat.mod_lt _ h
theorem jad {xs:List (Int×Int)} {n:Nat} (hl:xs.length=n) (hn:0<n) (k:Nat) : ((k:Int) + (n:Int) - 1).tmod (n:Int) = ((pv xs k:Nat) :Int) :=by
 rw [jgl (by omega),pv,hl,show(k:Int) + (n:Int) - 1= ((k+n- 1:Nat) :Int) by omega]
 exact(Int.natCast_emod _ _).symm
theorem DN {xs:List (Int×Int)} {n:Nat} (hl:xs.length=n) (k:Nat) : ((k:Int) +1).tmod (n:Int) = ((nx xs k:Nat) :Int) :=by
 rw [jgl (by omega)]
 exact Sr hl k
def Gj (xs:List (Int×Int)) (k:Nat) :Int:=tn (pt xs (pv xs k)) (pt xs k) (pt xs (nx xs k))
def Zq (xs:List (Int×Int)) :Option Nat:= (List.range xs.length).find? fun k=>Gj xs k==0
def YF (xs:List (Int×Int)) :Int:=match Zq xs with | some k=>k | none=> -1
theorem O2 {xs:List (Int×Int)} {k:Nat} (hk:k<xs.length) (h0:Gj xs k=0) (hn:∀j,j<k→¬Gj xs j=0) :Zq xs=some k:=by
 rw [Zq,List.find?_eq_some_iff_getElem]
 refine⟨by simpa using h0,k,by simpa using hk,by simp,fun j hj=> ?_⟩
 simpa using hn j hj
theorem XO {xs:List (Int×Int)} (hn:∀j,j<xs.length→¬Gj xs j=0) :Zq xs=none:=by
 rw [Zq,List.find?_eq_none]
 intro j hj
 simpa using hn j (jgi.1 hj)
theorem HQ {xs:List (Int×Int)} {k:Nat} (h:Zq xs=some k) :k<xs.length:=by
 have:=List.mem_of_find?_eq_some h
 exact jgi.1 this
def Qx (xs:List (Int×Int)) :List (Int×Int) :=
 match h:Zq xs with
 | none=>xs
 | some k=>Qx (xs.eraseIdx k)
termination_by xs.length
decreasing_by
 have:=HQ h
 rw [jgn,if_pos this]
 omega
theorem W1 {xs:List (Int×Int)} (h:Zq xs=none) :Qx xs=xs:=by
 unfold Qx
 split
 ·rfl
 ·rename_i k hk;rw [h] at hk;cases hk
theorem Y0 {xs:List (Int×Int)} {k:Nat} (h:Zq xs=some k) :Qx xs=Qx (xs.eraseIdx k) :=by
 rw [Qx]
 split
 ·rename_i hk;rw [h] at hk;cases hk
 ·rename_i j hk;rw [h] at hk;injection hk with hk;rw [hk]
def okPts (xs:List (Int×Int)) :Prop:=xs.length≤401∧∀p∈xs,bd2 p
theorem okPts.at_ {xs:List (Int×Int)} (h:okPts xs) {k:Nat} (hk:k<xs.length) :bd2 (pt xs k) :=by
 have:=h.2 xs[k] (jeW hk)
 rwa [Ya hk] at this
theorem okPts.erase {xs:List (Int×Int)} (h:okPts xs) (k:Nat) :okPts (xs.eraseIdx k) :=
 ⟨jft (List.length_eraseIdx_le _ _) h.1,fun p hp=>h.2 p (List.mem_of_mem_eraseIdx hp)⟩
theorem okPts.of {xs:List (Int×Int)} (h:kH xs=true) :okPts xs:=by
 have h1:=Qa h
 refine⟨by omega,fun p hp=> ?_⟩
 simp only [kH,jeF,zS,jfP] at h
 have:=h.2 p hp
 simp [wU,XA] at this
 exact⟨⟨by omega,by omega⟩,by omega,by omega⟩
theorem zF {xs:List (Int×Int)} :okPts xs→okPts (Qx xs) :=by
 induction h:xs.length using Nat.strongRecOn generalizing xs with
 | _ m ih=>
  intro hx
  cases hi:Zq xs with
  | none=>rw [W1 hi];exact hx
  | some k=>
   rw [Y0 hi]
   have:=HQ hi
   exact ih _ (by rw [jgn,if_pos this];omega) rfl (hx.erase k)
theorem IE (A:Option Addr) (n c:Nat) (xs:List (Int×Int)) (w:World) (h:Pts w A n xs) (hx:okPts xs) :Calls Tryz.prog 132 #[.slice A n c] w fun e w'=>e= .returned (.int .i64 (YF xs))∧Over w w':=by
 have hl:=h.1
 have hn:=hx.1
 refine jU (m:=35) (Tryz.func132) J J (lb J) ?_;refine S16 ?_;refine qi (X:=Nat) (fun k=>k≤n∧∀j,j<k→¬Gj xs j=0) (fun k=>n- k) (fun k=> [(4, .int .i64 (k:Int))]) (kK [0,2,3]) 0 (⟨jeE _,fun j hj=>absurd hj (by omega)⟩) ⟨J,sz⟩ ?_
 intro k hk L hL1
 refine V7 ?_;refine cZ (fun c1=> ?_) (fun c1=> ?_)
 ·have hlt:k<n:= (by omega)
  have hp1:=jcK (xs:=xs) k (by omega)
  have hp2:=LX (xs:=xs) k (by omega)
  obtain ⟨b,o,rfl,_⟩ :=h.2 (by omega)
  refine S5 ?_;refine UL mixed (by kernel_rfl) (fun _ _ d _ _ h=>by cases d<;>exact h) ?_;refine x9 q9 ?_;refine x9 q9 ?_;refine x9 q9 ?_;refine x9 p9 ?_;refine x9 m9 ?_;refine x9 q9 ?_;refine x9 ((YV J J J (by omega) (by omega) (by omega)).as (congrArg _ (jad hl (by omega) k))) ?_;refine x9 (jT J J J jt (by omega)) ?_;refine x9 (jj J J jl J (Vm h (by omega))) ?_;refine x9 q9 ?_;refine x9 q9 ?_;refine x9 (jT J J J jt (by omega)) ?_;refine x9 (jj J J jl J (Vm h (by omega))) ?_;refine x9 q9 ?_;refine x9 q9 ?_;refine x9 p9 ?_;refine x9 q9 ?_;refine x9 ((YV J J J (by omega) (by omega) (by omega)).as (congrArg _ (DN hl k))) ?_;refine x9 (jT J J J jt (by omega)) ?_;refine x9 (jj J J jl J (Vm h (by omega))) ?_;refine x9 (jH Qi J J (fun w h=>wJ (pt xs (pv xs k)) (pt xs k) (pt xs (nx xs k)) w (hx.at_ hp1) (hx.at_ (by omega)) (hx.at_ hp2))) ?_;refine x9 (qB J J J) ?_;refine Vf ?_;refine S1 ?_;refine cZ (fun c2=> ?_) (fun c2=> ?_)
  ·refine S11 ?_;refine jL J (.tmp J) ?_
   intro w' hs
   exact⟨W8 (by rw [YF,O2 (by omega) c2 hk.2]),hs.fin⟩
  ·refine S8 ?_
   exact J8 hL1 (k+1) (⟨by omega,GM hk.2 c2⟩) (by omega) ⟨vi (by omega),sz⟩ (u9 J)
 ·refine S10 ?_;refine jL J (.tmp J) ?_
  intro w' hs
  exact⟨W8 (by rw [YF,XO fun j hj=>hk.2 j (by omega)]),hs.fin⟩
theorem H5 {w:World} {b o n c k:Nat} {xs:List (Int×Int)} (h:Pts w (some ⟨b,o,none⟩) n xs) (hk:k≤n) :Src 2 (.slice (some ⟨b,o,none⟩) k c) k ((xs.take k).flatMap j7) w:=by
 have hl:=h.1
 refine⟨by rw [qn,jeV];omega, .inr ⟨_,c,J,fun j u hu=> ?_⟩⟩
 by_cases h0:0<n
 ·have hs:=ME (c:=c) h h0
  rcases hs.src with⟨e,_⟩ |⟨ad,c',e,hn⟩
  ·cases e
  ·injection e with e1 e2 e3
   injection e1 with e1
   subst e1
   refine hn j u ?_
   rw [←MM,List.getElem?_take] at hu
   split at hu
   ·exact hu
   ·cases hu
 ·obtain rfl:xs= [] :=je9 (by omega)
  simp at hu
theorem Nm {w:World} {b o n c k:Nat} {xs:List (Int×Int)} (h:Pts w (some ⟨b,o,none⟩) n xs) (hk:k≤n) (hc:n≤c) :Src 2 (.slice (some ⟨b,Ut o k c 2,none⟩) (n- k) (c- k)) (n- k) ((xs.drop k).flatMap j7) w:=by
 have hl:=h.1
 refine⟨by rw [qn,je2,hl], .inr ⟨_,_,J,fun j u hu=> ?_⟩⟩
 have hj:= (List.getElem?_eq_some_iff.1 hu).1
 rw [qn,je2] at hj
 have hs:=ME (c:=c) h (by omega)
 rcases hs.src with⟨e,_⟩ |⟨ad,c',e,hn⟩
 ·cases e
 ·injection e with e1 e2 e3
  injection e1 with e1
  subst e1
  rw [←Lz,List.getElem?_drop] at hu
  have:=hn _ u hu
  rw [Qz] at this⊢
  rw [Ut,if_neg (by omega)]
  rw [←this]
  congr 2
  omega
theorem F8 (xs:List (Int×Int)) (k:Nat) : (xs.take k).flatMap j7++ (xs.drop (k+1)).flatMap j7= (xs.eraseIdx k).flatMap j7:=by rw [jge,jeQ]
theorem ux {xs:List (Int×Int)} {k:Nat} (hk:k<xs.length) : (xs.eraseIdx k).length=xs.length- 1:=by rw [jgn,if_pos hk]
theorem Tw {xs:List (Int×Int)} (h:¬YF xs<0) :∃k,Zq xs=some k∧YF xs= (k:Int) :=by
 unfold YF at*
 cases hi:Zq xs with
 | none=>rw [hi] at h;exact absurd h (by decide)
 | some k=>exact⟨k,rfl,rfl⟩
theorem Dm {xs:List (Int×Int)} (h:YF xs<0) :Zq xs=none:=by
 unfold YF at h
 cases hi:Zq xs with
 | none=>rfl
 | some k=>rw [hi] at h;simp at h;omega
theorem Mv {xs:List (Int×Int)} (h:xs.length=0) :Qx xs=xs:=W1 (XO fun j hj=>by omega)
theorem Ot (A:Option Addr) (n c:Nat) (xs:List (Int×Int)) (w:World) (h:Pts w A n xs) (hx:okPts xs) (h0:0<n) :
  Calls Tryz.prog 87 #[.slice A n c] w fun e w'=>∃v,e= .returned v∧w'.ownsRow w.heap.size 54 2 v (Qx xs).length ((Qx xs).flatMap j7)∧Over w w':=by
 have hl:=h.1
 have hn:=hx.1
 refine jU (m:=28) (Tryz.func87) J J (lb J) ?_;refine S7 ?_;refine Jp J J (kt) J (lb J) (fun b1=> ?_);refine vR 0 2 J J ?_;refine N2 ?_;refine JL (k:=0) J jt jO (by decide) J (by decide) J J J (fun w' hs=>ME (h.over hs.fin) h0) (Kk _) (by unfold maxLen;omega) (by omega) (jeD _) (fun r1=> ?_);refine N4 ?_;refine JI (X:=List (Int×Int)×Option Addr×Nat) (fun x=>Qx x.1=Qx xs∧okPts x.1) (fun x=>x.1.length) (fun x=> [(3, .slice x.2.1 x.1.length x.2.2)]) (kK [2]) (fun x=> [JP (Bs.N ⟨w,[]⟩) 54 2 x.1.length (x.1.flatMap j7) x.2]) (xs,r1) (⟨J,hx⟩) ⟨by rw [←hl,je3];rfl,sz⟩ (fun _ h=>h.upto ⟨by rw [←hl,je3],trivial⟩) ?_
 intro⟨ys,yA,yc⟩ hy L hL1
 refine v9 ?_;refine ji (by first | (dsimp only;done) | (dsimp only;rfl) | rfl) ?_
 obtain ⟨hse,hok⟩ :Qx ys=Qx xs∧okPts ys:=hy
 have hyl:=hok.1
 refine S7 ?_;refine cZ (fun c1=> ?_) (fun c1=> ?_)
 ·have hpos:0<ys.length:= (by omega)
  refine QF (fun w hs=>K2 (k:=0) J hs hpos) ?_
  rintro⟨eg,rfl⟩
  refine QF (fun w hs=>wC (hs.all 0 _ J).1) ?_
  intro hcap
  refine S6 ?_;refine a9 (jH HA J J (fun w1 hs=>IE _ _ _ ys w1 (vx (hs.all 0 _ J).1 J) hok)) ?_;refine S8 ?_;refine cZ (fun c2=> ?_) (fun c2=> ?_)
  ·refine S12 ?_;refine jL J (.tmp J) ?_
   intro w' hs
   have he:ys=Qx xs:=by first | exact(Mv (by omega)).symm.trans hse | exact(W1 (Dm c2)).symm.trans hse
   exact⟨_,rfl,he▸(hs.all 0 _ rfl).1,hs.fin⟩
  ·obtain ⟨k,hik,hkv⟩ :=Tw (jfx.2 c2)
   have hkl:=HQ hik
   refine kx 4 (.int .i64 (k:Int)) J (congrArg _ hkv) ?_;refine S5 ?_;refine Jp J J (kt) J (lb J) (fun b2=> ?_);refine vR 1 2 J J ?_;refine N2 ?_;refine a9 ((kb J J J jt (by omega)).as (VG _ _ _ _ _)) ?_;refine S1 ?_;refine JL (k:=1) J jt jO (by decide) J (by decide) J J J (fun w' hs=>H5 (vx (hs.all 0 _ J).1 J) (by omega)) (Kk _) (by unfold maxLen;omega) (by omega) (jeD _) (fun r2=> ?_);refine N7 ?_;refine kx 24 (.int .i64 ((k+1:Nat) :Int)) J (congrArg _ (by omega)) ?_;refine a9 ((KL J J J jt (by omega)).as (wg (b:=eg) (o:=0) (l:=k+1) (h:=ys.length) (m:=yc) (s:=2) hcap (by omega))) ?_;refine S1 ?_;refine JL (k:=1) J jt jO (by decide) J (by decide) J J J (fun w' hs=>Nm (vx (hs.all 0 _ J).1 J) (by omega) hcap) (Kk _) (by unfold maxLen;omega) (by omega) (jeD _) (fun r3=> ?_);refine N4 ?_
   exact j8 hL1 ((ys.eraseIdx k,r3)) (⟨(Y0 hik).symm.trans hse,hok.erase k⟩) (by show(ys.eraseIdx k).length<ys.length;rw [ux hkl];omega) ⟨by rw [ux hkl,show ys.length- 1=0+k+ (ys.length- (k+1)) by omega];rfl,sz⟩ (fun _ h=> (h.picks [1] (by decide)).upto ⟨by rw [←F8,ux hkl,show ys.length- 1=0+k+ (ys.length- (k+1)) by omega],trivial⟩)
 ·refine S11 ?_;refine jL J (.tmp J) ?_
  intro w' hs
  have he:ys=Qx xs:=by first | exact(Mv (by omega)).symm.trans hse | exact(W1 (Dm c2)).symm.trans hse
  exact⟨_,rfl,he▸(hs.all 0 _ rfl).1,hs.fin⟩
end Go.Proofs.YtkagkgjjfdkoaaaGreat
