import Derived.Test.YtbahojdbmmjkcaaGreatMSd2
import Derived.Test.YtbahojdbmmjkcaaGreatMPathP
import Derived.Test.YtbahojdbmmjkcaaGreatMTrQ
import Derived.Lib.AppendZeros
import Derived.Test.YtbahojdbmmjkcaaGreatMSnapped
import Derived.Test.YtbahojdbmmjkcaaGreatMSimp
set_option linter.unusedVariables false
set_option linter.unusedSimpArgs false
namespace Go.Proofs.YtbahojdbmmjkcaaGreat
open Go Go.RowKit
variable {A:Option Addr} {b k:Nat} {w:World} {x:Operand} {xs ys:List Pn}
set_option maxRecDepth 100000
set_option maxHeartbeats 4000000
theorem Ma (A B:Option Addr) (n c m d:Nat) (xs ys:List Pn) (w:World) (h:Pts w A n xs) (h':Pts w B m ys) (hx:∀p∈xs,xe p) (hy:∀p∈ys,xe p) (hn:n≤1099511627776) (hm:m≤1099511627776) :
  Calls Tryz.prog 180 #[.slice A n c, .slice B m d, .func (.func 112) #[] #[]] w fun e w'=>e= .returned (.int .i64 (uI xs ys))∧Over w w':=by
 have hl:=h.1
 have hl':=h'.1
 refine j6 (m:=39) (Tryz.func180) J J (lb J) ?_;refine S12 ?_;refine qv (X:=Nat) (fun k=>k≤n∧k≤m∧uI (xs.drop k) (ys.drop k) =uI xs ys) (fun k=>n- k) (fun k=> [(13, .int .i64 (k:Int))]) (kK [0,1,2,6,11,12]) 0 (⟨jjo _,jjo _,J⟩) ⟨J,sz⟩ ?_
 intro k hk L hL1
 refine v9 ?_
 obtain ⟨hk1,hk2,hk3⟩ :=hk
 refine S5 ?_;refine cZ (fun c1=> ?_) (fun c1=> ?_)
 ·have hlt:k<n:=Om
  obtain ⟨eb,eo,rfl,_⟩ :=h.2 Om
  refine S8 ?_;refine a9 (jl J J jk J (wQ (b:=eb) (o:=eo) h hlt)) ?_;refine S1 ?_;refine aL (fun b1=> ?_);refine N12 ?_;refine cZ (fun c2=> ?_) (fun c2=> ?_)
  ·have hmk:m≤k:=Om
   refine S11 ?_;refine jK J (.tmp J) ?_
   intro w' hs
   exact⟨by rw [←hk3,Ti Om Om],hs.fin⟩
  ·have hmk:k<m:=Om
   obtain ⟨fb,fo,rfl,_⟩ :=h'.2 Om
   refine S7 ?_;refine a9 (jl J J jk J (wQ (b:=fb) (o:=fo) h' hmk)) ?_;refine S1 ?_;refine aL (fun b2=> ?_);refine N8 ?_;refine a9 (VH W4 J J J (fun w1 hs=>Ls (pt xs k) (pt ys k) w1 (hx _ (by rw [←Kg Om];exact jju _)) (hy _ (by rw [←Kg Om];exact jju _)))) ?_;refine S7 ?_;refine cZ (fun c3=> ?_) (fun c3=> ?_)
   ·refine S11 ?_;refine jK J (.tmp J) ?_
    intro w' hs
    exact⟨by rw [←hk3,IJ Om Om (fun e=>c3 (yd.2 e))],hs.fin⟩
   ·refine S7 ?_
    exact qf hL1 (k+1) (⟨by omega,by omega,by rw [←II Om Om (yd.1 Om)];exact hk3⟩) Om ⟨vi Om,sz⟩ (u9 J)
 ·have hkn:k=n:=Om
  refine S14 ?_;refine cZ (fun c4=> ?_) (fun c4=> ?_)
  ·refine S6 ?_;refine jK J (.tmp J) ?_
   intro w' hs
   exact⟨by rw [←hk3,X9 Om Om,if_pos Om],hs.fin⟩
  ·refine S7 ?_;refine jK J (.tmp J) ?_
   intro w' hs
   exact⟨by rw [←hk3,X9 Om Om,if_neg Om],hs.fin⟩
theorem z8 (A B:Option Addr) (n c m d:Nat) (xs ys:List Pn) (w:World) (h:Pts w A n xs) (h':Pts w B m ys) (hx:∀p∈xs,xe p) (hy:∀p∈ys,xe p) (hn:n≤1099511627776) (hm:m≤1099511627776) :
  Calls Tryz.prog 119 #[.slice A n c, .slice B m d] w fun e w'=>e= .returned (.int .i64 (uI xs ys))∧Over w w':=by
 refine j6 (m:=8) (Tryz.func119) J J (lb J) ?_;refine S8 ?_;refine a9 (jM kM J J (fun w1 hs=>Ma A B n c m d xs ys w1 (h.over hs.fin) (h'.over hs.fin) hx hy hn hm)) ?_;refine S3 ?_;refine jK J (.tmp J) ?_
 intro w' hs
 exact⟨rfl,hs.fin⟩
theorem Mv (A B:Option Addr) (n c m d:Nat) (xs ys:List Pn) (w:World) (h:Pts w A n xs) (h':Pts w B m ys) (hx:∀p∈xs,xe p) (hy:∀p∈ys,xe p) (hn:n≤1099511627776) (hm:m≤1099511627776) :
  Calls Tryz.prog 118 #[.agg #[.slice A n c], .agg #[.slice B m d]] w fun e w'=>e= .returned (.int .i64 (uI xs ys))∧Over w w':=by
 refine j6 (m:=10) (Tryz.func118) J J (lb J) ?_;refine S3 ?_;refine aX (fun b1=> ?_);refine N1 ?_;refine aX (fun b2=> ?_);refine N8 ?_;refine a9 (jM U4 J J (fun w1 hs=>z8 A B n c m d xs ys w1 (h.over hs.fin) (h'.over hs.fin) hx hy hn hm)) ?_;refine S3 ?_;refine jK J (.tmp J) ?_
 intro w' hs
 exact⟨rfl,hs.fin⟩
section
variable {P:Program} {n:Nat} {env:List (Nat×Value)} {w0:Bs} {Rs:List Res} {Q:Exit→Act→World→Prop} {K:Act→World→Prop} {o:Oper}
theorem Bt {T U:TypeId} {m c s:Nat} (ho:o.op= .call {callee:= .builtin .cap,args:= #[x],argTypes:= #[T]}) (hx:ev env x=some (.slice A m c)) (hT:TyL P T U s) :Qt P o n env w0 Rs (.int .i64 (c:Int)) :=
 Q5 fun a w hF _=>by
  have hT:=hT.desc
  have hE:P.elem T=U:=by simp [Program.elem,hT]
  have:=run_cap_slice (P:=P) w T o.type A m c (by rw [hE];exact hT)
  unfold execOp
  simp only [ho,resolve,invoke,builtin,Sem.run_bind,Sem.run_pure,Result.andThen_ok,jjI,jjF,jjS,hF.ev hx,this]
  rfl
theorem TC {T Tn U s bytes m d:Nat} {kn:IntKind} {z:Value} {y:Operand} (ho:o.op= .call {callee:= .builtin .append,args:= #[x,y],argTypes:= #[T,Tn]}) (hT:TyL P T U s) (hN:P.underlying Tn=some (.int kn)) (hZ:TyZ P U s bytes z) (hs0:0<s) (hx:ev env x=some (.slice none 0 0)) (hy:ev env y=some (.int .i64 (m:Int))) (h0:0<m) (hm:m≤maxLen) (hb:m*bytes≤281474976710656) (hd:o.dst=some d) (hn:d<n) (h:∀b cap,At n ((d, .slice (some ⟨b,0,none⟩) m cap) ::env) w0 (Rs++ [J3 0 U s 0 [] (some ⟨b,0,none⟩,cap)]) K) :At n env w0 Rs (fun a w=>o.wp P a w K Q) :=fun a w hf hs=>by
 obtain ⟨i,hi,hz0,hz1,hz2⟩ :=hZ.info
 have hmx:m≤9223372036854775807:=by unfold maxLen at hm;omega
 have hr:=Go.Lib.run_append_nil_zeros (P:=P) w T Tn o.type U i z .i64 kn hT.desc hN hi hz0 m h0 Om Om (by rw [hz2];exact hb)
 have hrun: (execOp a.eval o).run P w= .ok (.value (.slice (some ⟨w.heap.size,0,none⟩) m (grownCap w m 0 U))) (w.drew.alloc (.cells (Builtin.zeroCells z.cells m++Builtin.zeroCells z.cells (grownCap w m 0 U- m)) U)) :=by
  unfold execOp
  simp only [ho,resolve,invoke,builtin,Sem.run_bind,Sem.run_pure,Result.andThen_ok,jjI,jjF,jjS,hf.ev hx,hf.ev hy,hr]
 show o.upon P a K Q ((execOp a.eval o).run P w)
 rw [hrun,Oper.upon_value,hd]
 have hge:=grownCap_ge w m 0 U
 have hown: (w.drew.alloc (.cells (Builtin.zeroCells z.cells m++Builtin.zeroCells z.cells (grownCap w m 0 U- m)) U)).ownsRow 0 U s (.slice (some ⟨w.drew.heap.size,0,none⟩) 0 (grownCap w m 0 U)) 0 [] :=
  World.ownsRow_made w.drew _ _ (jjo _) (grownCap_le_maxLen w m 0 U hm) (by
   rw [Array.size_append,size_zeroCells,size_zeroCells,hZ.cells,←Nat.add_mul]
   congr 1
   omega)
 exact h _ _ _ _ (hf.put hn _) (hs.add ((Over.refl w).drew_.alloc_ _) hown (fun b hb=> (hown.lt b hb).elim fun _ _=>by
  have:Value.ownBlock (.slice (some ⟨w.drew.heap.size,0,none⟩) 0 (grownCap w m 0 U)) =some b:=hb
  injection this with this
  rw [←this]
  exact jjm _) ⟨jjo _,fun _ _=>jjo _⟩)
end
theorem jbt (m:Nat) (w:World) (h0:0<m) (hm:m≤1099511627776) :Calls Tryz.prog 230 #[.slice none 0 0, .int .i64 (m:Int)] w fun e w'=>∃v,e= .returned v∧w'.ownsRow w.heap.size 28 2 v 0 []∧Over w w':=by
 refine j6 (m:=27) (Tryz.func230) J J (lb J) ?_;refine S10 ?_;refine cZ (fun c1=> ?_) (fun c1=> ?_)
 ·omega
 ·refine S7 ?_;refine a9 (Bt J J jD) ?_;refine S11 ?_;refine cZ (fun c2=> ?_) (fun c2=> ?_)
  ·refine S3 ?_;refine a9 (Bt J J jD) ?_;refine a9 ((Kv (h:=0) J J J jD (jjm _)).as (show sliced none 0 0 0 2= .slice none 0 0 from J)) ?_;refine S1 ?_;refine WZ 21 (.int .i64 (m:Int)) J (congrArg _ Om) ?_;refine S1 ?_;refine TC J jD Tryz.underlying3 jI Dc J J h0 (by unfold maxLen;omega) Om J Dc (fun gb gcap=> ?_);refine N2 ?_;refine a9 ((Kv (h:=0) J J J jD (jjo _)).as (ue _ _ _ _ _)) ?_;refine S8 ?_;refine jK J (.tmp J) ?_
   intro w' hs
   have hr:=hs.all 0 _ rfl
   exact⟨_,rfl,vy hr.1 (fun b hb=> (hr.2.1 b hb).elim id (fun h=>by cases h)),hs.fin⟩
  ·omega
theorem jf4 {Rs:List Res} {o:Nat} {v:Value} (hc:w.cell? ⟨b,o+k,none⟩ =some v) (hb:b<w.heap.size) (w':World) (hs:St ⟨w,[]⟩ Rs w') :w'.cell? ⟨b,o+k*1,none⟩ =some v:=by rw [jki];exact Qi hc hb w' hs
abbrev Sl:=Option Addr×Nat×List Pn
def sl (ss:List Sl) (k:Nat) :Sl:=ss.getD k (none,0,[])
def Vd (ss:List Sl) (k:Nat) :List Pn:= (ss.take k).flatMap (·.2.2)
theorem Oi {ss:List Sl} (h:k<ss.length) :Vd ss (k+1) =Vd ss k++ (sl ss k).2.2:=by
 unfold Vd sl
 rw [jjt h,jjv]
 simp [List.getD,h]
theorem Sd {ss:List Sl} {j:Nat} (h:k≤j) : (Vd ss k).length≤(Vd ss j).length:=by
 have e:ss.take k= (ss.take j).take k:=by rw [List.take_take,jku h]
 unfold Vd
 rw [e]
 conv=>rhs;rw [←jjA k (ss.take j)]
 rw [jjv,jjk]
 omega
theorem Np (b o N C:Nat) (ss:List Sl) (w:World) (hN:ss.length=N) (hb:b<w.heap.size) (hc:∀k,k<N→w.cell? ⟨b,o+k,none⟩ =some (.slice (sl ss k).1 (sl ss k).2.2.length (sl ss k).2.1)) (hp:∀k,k<N→Pts w (sl ss k).1 (sl ss k).2.2.length (sl ss k).2.2∧0< (sl ss k).2.2.length) (h0:0< (Vd ss N).length) (hm: (Vd ss N).length≤1048577) (hN2:N≤1048577) :
  Calls Tryz.prog 178 #[.slice (some ⟨b,o,none⟩) N C] w fun e w'=>∃v,e= .returned v∧w'.ownsRow w.heap.size 28 2 v (Vd ss N).length ((Vd ss N).flatMap Jr)∧Over w w':=by
 refine j6 (m:=36) (Tryz.func178) J J (lb J) ?_;refine S16 ?_;refine qv (X:=Nat) (fun k=>k≤N) (fun k=>N- k) (fun k=> [(3, .int .i64 ((Vd ss k).length:Int)),(11, .int .i64 (k:Int))]) (kK [0,2,9,10]) 0 (jjo _) ⟨J,sz⟩ ?_
 intro k hk L hL1
 refine V5 ?_;refine cZ (fun c1=> ?_) (fun c1=> ?_)
 ·have hlt:k<N:=Om
  have hst: (Vd ss (k+1)).length= (Vd ss k).length+ (sl ss k).2.2.length:= (by rw [Oi Om,jjk])
  have hle: (Vd ss (k+1)).length≤(Vd ss N).length:=Sd Om
  refine S7 ?_;refine a9 (jo J J JH (jf4 (hc k hlt) hb)) ?_;refine S15 ?_;refine cZ (fun c2=> ?_) (fun c2=> ?_)
  ·omega
  ·refine S7 ?_
   exact qf hL1 (k+1) Om Om ⟨vi Om,vi Om,sz⟩ (u9 J)
 ·have hkN:k=N:=Om
  subst hkN
  refine S9 ?_;refine JU WT (v:=fun x=> .slice x.1 0 x.2) (r:=fun x=>J3 0 28 2 0 [] x) (H:=fun _=>True) J J J (lb J) (fun w1 hs=>Qf (jbt _ w1 h0 Om)) ?_
  rintro⟨cA,cc⟩ -
  refine N10 ?_;refine JX (X:=Nat×Option Addr×Nat) (fun x=>x.1≤k) (fun x=>k- x.1) (fun x=> [(6, .slice x.2.1 (Vd ss x.1).length x.2.2),(27, .int .i64 (x.1:Int))]) (kK [2,25,26]) (fun x=> [J3 0 28 2 (Vd ss x.1).length ((Vd ss x.1).flatMap Jr) x.2]) (0,cA,cc) (jjo _) ⟨J,sz⟩ (fun _ h=>h) ?_
  intro⟨j,rA,rc⟩ hj L hL2
  refine v9 ?_;refine r9 ?_
  have hj:j≤k:=hj
  refine S5 ?_;refine cZ (fun c3=> ?_) (fun c3=> ?_)
  ·have hlt:j<k:=Om
   have hst:Vd ss (j+1) =Vd ss j++ (sl ss j).2.2:=Oi Om
   have hst2: (Vd ss (j+1)).length= (Vd ss j).length+ (sl ss j).2.2.length:= (by rw [hst,jjk])
   have hle: (Vd ss (j+1)).length≤(Vd ss k).length:=Sd Om
   refine S7 ?_;refine a9 (jo J J JH (jf4 (hc j hlt) hb)) ?_;refine S6 ?_;refine JY (k:=0) J jD jI Dc J Dc J J J (fun w' hs=>BK ((hp j hlt).1.over hs.fin) (hp j hlt).2) (wj _) (by unfold maxLen;omega) Om (jjo _) (fun r1=> ?_);refine N8 ?_
   exact Jq hL2 ((j+1,r1)) ((show j+1≤k by omega)) (by simp only;omega) ⟨(by rw [hst2];rfl),vi Om,sz⟩ (fun _ h=>h.upto ⟨by rw [hst2,hst,jjv],trivial⟩)
  ·have hjk:j=k:=Om
   subst hjk
   refine S11 ?_;refine jK J (.tmp J) ?_
   intro w' hs
   have hr:=hs.all 0 _ rfl
   exact⟨_,rfl,vy hr.1 (fun b hb=> (hr.2.1 b hb).elim id (fun h=>by cases h)),hs.fin⟩
theorem jf9 (xs:List Pn) (k:Nat) :xs.drop k++xs.take k=yq xs k:=rfl
theorem jiX {n U:Nat} {A1 A2:Option Addr} {c1 c2:Nat} (_e:xs.drop k++xs.take k=ys) (hb:w.heap[b]? =some (.cells [.slice A1 (n- k) c1, .slice A2 k c2].toArray U (0,0))) (h1:Pts w A1 (n- k) (xs.drop k)) (h2:Pts w A2 k (xs.take k)) (hk:1≤k) (hkn:k<n) (hl:xs.length=n) (hn:n≤1048577) :
  Calls Tryz.prog 178 #[.slice (some ⟨b,0,none⟩) 2 2] w fun e w'=>∃v,e= .returned v∧w'.ownsRow w.heap.size 28 2 v n (ys.flatMap Jr)∧Over w w':=by
 have ex:Vd [(A1,c1,xs.drop k),(A2,c2,xs.take k)] 2=ys:=by rw [←_e];simp [Vd]
 have el:ys.length=n:=by rw [←_e];simp;omega
 have:=Np b 0 2 2 [(A1,c1,xs.drop k),(A2,c2,xs.take k)] w rfl (JT hb) (fun j hj=> ?_) (fun j hj=> ?_) (by rw [ex];omega) (by rw [ex];omega) Dc
 ·rw [ex,el] at this
  exact this
 ·rw [cell_of_row w b _ _ U (0,0) hb]
  match j,hj with
  | 0,_=>simp [sl,hl]
  | 1,_=>simp [sl];omega
 ·match j,hj with
  | 0,_=>simp only [sl,List.getD_cons_zero,h1.1];exact⟨h1,by omega⟩
  | 1,_=>simp only [sl,List.getD_cons_succ,List.getD_cons_zero,h2.1];exact⟨h2,by omega⟩
theorem Rq (A:Option Addr) (n c:Nat) (xs:List Pn) (w:World) (h:Pts w A n xs) (h0:0<n) (hc:n≤c) (hx:∀p∈xs,xe p) (hn:n≤1048577) :
  Calls Tryz.prog 116 #[TP A n c] w fun e w'=>∃v,e= .returned (.agg #[v])∧w'.ownsRow w.heap.size 28 2 v n ((ui xs).flatMap Jr)∧Over w w':=by
 have hl:=h.1
 have hbd:∀k p,p∈yq xs k→xe p:=fun k p hp=>hx p (El.1 hp)
 refine j6 (m:=43) (Tryz.func116) J J (lb J) ?_;refine S3 ?_;refine aX (fun b1=> ?_);refine N1 ?_;refine aL (fun b2=> ?_);refine N6 ?_;refine JU WB (v:=fun x=> .slice x.1 n x.2) (r:=fun x=>J3 0 28 2 n _ x) (H:=fun _=>True) J J J (lb J) (fun w1 hs=>Qf (RK A n c xs w1 (h.over hs.fin) h0 hn)) ?_
 rintro⟨cA,cc⟩ -
 refine N8 ?_;refine JX (X:=Nat×Option Addr×Nat) (fun x=>1≤x.1∧x.1≤n) (fun x=>n- x.1) (fun x=> [(3, .slice x.2.1 n x.2.2),(4, .int .i64 (x.1:Int))]) (kK [1,2]) (fun x=> [.cel b1 74 [.slice A n c], .cel b2 74 [.slice none 0 0],J3 0 28 2 n ((yq xs (Vf xs x.1)).flatMap Jr) x.2]) (1,cA,cc) (⟨jjm _,h0⟩) ⟨J,sz⟩ (fun _ h=>h.upto ⟨J,J,by rw [Lg,jdV],trivial⟩) ?_
 intro⟨k,rA,rc⟩ hk L hL1
 refine v9 ?_;refine r9 ?_
 obtain ⟨hk1,hk2⟩ :1≤k∧k≤n:=hk
 have htk:=GU xs k hk1
 refine S9 ?_;refine cZ (fun c1=> ?_) (fun c1=> ?_)
 ·have hlt:k<n:=Om
  obtain ⟨eb,eo,rfl,_⟩ :=h.2 h0
  refine kL (fun w hs=>wH (k:=2) J hs h0) ?_
  rintro⟨eg,rfl⟩
  refine S7 ?_;refine JS 10 ?_;refine dK 0 ?_;refine dK 1 ?_;refine dK 2 ?_;refine dK 3 ?_;refine dZ 4 J (jl J J jk J (wQ (b:=eb) (o:=eo) h hlt)) ?_;refine dK 5 ?_;refine dZ 6 J (jV (j:=0) J J J jD Om) ?_;refine dZ 7 J (jl J J jk J (jdO (b:=eg) (o:=0) (j:=0) (fun w hs=>ub (hs.all 2 _ J).1 (by rw [Wn,hl])) h0)) ?_;refine dZ 8 J (jM W4 J J (fun w1 hs=>Ls (pt xs k) (pt (yq xs (Vf xs k)) 0) w1 (hx _ (by rw [←Kg Om];exact jju _)) (hbd (Vf xs k) _ (by rw [←Kg (by rw [Wn];omega)];exact jju _)))) ?_;refine dK 9 ?_;refine JJ Kr ?_;refine S1 ?_;refine cZ (fun c2=> ?_) (fun c2=> ?_)
  ·refine S9 ?_
   exact Jq hL1 ((k+1,some ⟨eg,0,none⟩,rc)) (⟨show 1≤k+1 by omega,show k+1≤n by omega⟩) (by simp only;omega) ⟨J,vi Om,sz⟩ (fun _ h=>h.upto ⟨J,J,by rw [BS (jav (by rw [Wn];omega) (by rw [Wn];omega) (by rw [jfX Om];exact c2))],trivial⟩)
  ·refine S4 ?_;refine JS 11 ?_;refine dK 0 ?_;refine dK 1 ?_;refine dK 2 ?_;refine dZ 3 J ((VM J J J jD Om).as (UK (b:=eb) (o:=eo) (l:=k) (h:=n) (m:=c) (s:=2) hc Om)) ?_;refine dK 4 ?_;refine dK 5 ?_;refine dK 6 ?_;refine dZ 7 J ((Kv J J J jD Om).as (ue _ _ _ _ _)) ?_;refine J7 (i:=8) J Dc Kr J ?_;refine Jy J J (yY J J) J (lb J) (fun b3=> ?_);refine n9 ?_;refine JN (u9 J) ?_;refine J7 (i:=9) J Dc Kr J ?_;refine JU Wd (v:=fun x=> .slice x.1 n x.2) (r:=fun x=>J3 0 28 2 n ((yq xs k).flatMap Jr) x) (H:=fun _=>True) J J J (lb J) (fun w1 hs=>Qf (jiX (jf9 xs k) (hs.cel (k:=3) J) ((h.over hs.fin).dropT (k:=k) Om hc) ((h.over hs.fin).takeT (k:=k) Om) hk1 hlt hl hn)) ?_
   rintro⟨dA,dc⟩ -
   refine n9 ?_;refine JN (u9 J) ?_;refine dK 10 ?_;refine JJ Kr ?_;refine S5 ?_;refine a9 (jM U4 J J (fun w1 hs=>z8 _ _ n _ n _ (yq xs k) (yq xs (Vf xs k)) w1 (ub (hs.all 4 _ J).1 (by rw [Wn,hl])) (ub (hs.all 2 _ J).1 (by rw [Wn,hl])) (hbd _) (hbd _) Om Om)) ?_;refine S2 ?_;refine cZ (fun c3=> ?_) (fun c3=> ?_)
   ·refine S11 ?_
    exact Jq hL1 ((k+1,dA,dc)) (⟨show 1≤k+1 by omega,show k+1≤n by omega⟩) (by simp only;omega) ⟨J,vi Om,sz⟩ (fun _ h=> (h.picks [0,1,4] Dc).upto ⟨J,J,by rw [FX (decide_eq_true c3)],trivial⟩)
   ·refine S8 ?_
    exact Jq hL1 ((k+1,some ⟨eg,0,none⟩,rc)) (⟨show 1≤k+1 by omega,show k+1≤n by omega⟩) (by simp only;omega) ⟨J,vi Om,sz⟩ (fun _ h=>h.upto ⟨J,J,by rw [BS (decide_eq_false Om)],trivial⟩)
 ·have hkn:k=n:=Om
  refine S8 ?_;refine a9 (JR J J (vm J)) ?_;refine S4 ?_;refine jK J (J8 (k:=1) J JP J J) ?_
  intro w' hs
  have hr:=hs.all 2 _ rfl
  exact⟨_,rfl,vy (show _ by subst hkn;rw [ui,hl];exact hr.1) (fun b hb=> (hr.2.1 b hb).elim id (fun h=>by cases h)),hs.fin⟩
theorem IR (i j n:Nat) : ((i:Int) + (j:Int)).tmod (n:Int) = (((i+j) % n:Nat) :Int) :=by
 rw [show(i:Int) + (j:Int) = ((i+j:Nat) :Int) by omega]
 rfl
theorem jgM {a:Nat} (h: (px xs a==px ys b&&py xs a==py ys b) =false) :pt xs a≠pt ys b:=fun e=>by
 injection e with e1 e2
 simp [e1,e2] at h
theorem jgK {a:Nat} (h: (px xs a==px ys b&&py xs a==py ys b) =true) :pt xs a=pt ys b:=by
 simp at h
 exact Prod.ext h.1 h.2
theorem LG (h1:k<xs.length) (h2:k<ys.length) (h:pt xs k≠pt ys k) (he:uI (xs.drop k) (ys.drop k) =uI xs ys) :decide (vG (pt xs k) (pt ys k)) =uJ xs ys:=by
 unfold uJ
 rw [←he,IJ h1 h2 h]
 exact decide_eq_decide.2 ET.symm
theorem OT (A:Option Addr) (n c i k:Nat) (xs:List Pn) (w:World) (h:Pts w A n xs) (hi:i<n) (hk:k<n) (hn:n≤1099511627776) :
  Calls Tryz.prog 269 #[.slice A n c, .int .i64 (i:Int), .int .i64 (k:Int)] w fun e w'=>e= .returned (.bool (uJ (yq xs i) (yq xs k)))∧Over w w':=by
 have hl:=h.1
 have hri: (yq xs i).length=n:=Wn.trans hl
 have hrk: (yq xs k).length=n:=Wn.trans hl
 refine j6 (m:=40) (Tryz.func269) J J (lb J) ?_;refine S16 ?_;refine qv (X:=Nat) (fun j=>j≤n∧uI ((yq xs i).drop j) ((yq xs k).drop j) =uI (yq xs i) (yq xs k)) (fun j=>n- j) (fun j=> [(8, .int .i64 (j:Int))]) (kK [0,1,2,6,7]) 0 (⟨jjo _,J⟩) ⟨J,sz⟩ ?_
 intro j hj L hL1
 refine v9 ?_
 obtain ⟨hj1,hj2⟩ :=hj
 refine S7 ?_;refine cZ (fun c1=> ?_) (fun c1=> ?_)
 ·have hlt:j<n:=Om
  obtain ⟨eb,eo,rfl,_⟩ :=h.2 Om
  have m1: (i+j) % n<n:=jkR _ Om
  have m2: (k+j) % n<n:=jkR _ Om
  have p1:pt (yq xs i) j=pt xs ((i+j) % n) := (by rw [I2 Om Om,hl])
  have p2:pt (yq xs k) j=pt xs ((k+j) % n) := (by rw [I2 Om Om,hl])
  refine S11 ?_;refine a9 ((Xi J J J Om Om Om).as (congrArg _ (IR i j n))) ?_;refine a9 (jV (j:= (i+j) % n) J J J jD Om) ?_;refine a9 (jl J J jk J (wQ (b:=eb) (o:=eo) h m1)) ?_;refine S1 ?_;refine aL (fun b1=> ?_);refine N10 ?_;refine a9 ((Xi J J J Om Om Om).as (congrArg _ (IR k j n))) ?_;refine a9 (jV (j:= (k+j) % n) J J J jD Om) ?_;refine a9 (jl J J jk J (wQ (b:=eb) (o:=eo) h m2)) ?_;refine S1 ?_;refine aL (fun b2=> ?_);refine N9 ?_;refine cZ (fun c2=> ?_) (fun c2=> ?_)
  ·have hne:pt (yq xs i) j≠pt (yq xs k) j:= (by rw [p1,p2];exact jgM c2)
   refine S4 ?_;refine a9 (jM Ku J J (fun w1 hs=>WL (pt xs ((i+j) % n)) (pt xs ((k+j) % n)) w1)) ?_;refine S8 ?_;refine jK J (.tmp J) ?_
   intro w' hs
   exact⟨by rw [←LG Om Om hne hj2,p1,p2],hs.fin⟩
  ·have hne:pt (yq xs i) j=pt (yq xs k) j:= (by rw [p1,p2];exact jgK c2)
   refine S8 ?_
   exact qf hL1 (j+1) (⟨by omega,by rw [←II Om Om hne];exact hj2⟩) Om ⟨vi Om,sz⟩ (u9 J)
 ·refine S10 ?_;refine jK J (.tmp J) ?_
  intro w' hs
  exact⟨by rw [uJ,←hj2,X9 Om Om,if_neg Om];rfl,hs.fin⟩
theorem Dz (bb oo:Nat) (A:Option Addr) (n c:Nat) (xs:List Pn) (w:World) (hcell:w.cell? ⟨bb,oo,none⟩ =some (.slice A n c)) (hbB:bb<w.heap.size) (h:Pts w A n xs) (h0:0<n) (hn:n≤1048577) :
  Calls Tryz.prog 236 #[.pointer (some ⟨bb,oo,none⟩)] w fun e w'=>∃v,e= .returned (.agg #[v])∧w'.ownsRow w.heap.size 28 2 v n ((ui xs).flatMap Jr)∧Over w w':=by
 have hl:=h.1
 have htn:=GU xs n h0
 obtain ⟨eb,eo,rfl,_⟩ :=h.2 h0
 have hrl: (yq xs (Vf xs n)).length=n:=Wn.trans hl
 refine j6 (m:=49) (Tryz.func236) J J (lb J) ?_;refine S3 ?_;refine aL (fun b1=> ?_);refine N6 ?_;refine a9 (jo J J JH (QW hcell hbB)) ?_;refine S13 ?_;refine qv (X:=Nat) (fun k=>1≤k∧k≤n) (fun k=>n- k) (fun k=> [(4, .int .i64 ((Vf xs k:Nat) :Int)),(5, .int .i64 (k:Int))]) (kK [0,2,3]) 1 (⟨jjm _,h0⟩) ⟨vi (by rw [Lg];rfl),sz⟩ ?_
 intro k hk L hL1
 refine v9 ?_
 have htk:=GU xs k hk.1
 refine S7 ?_;refine cZ (fun c1=> ?_) (fun c1=> ?_)
 ·refine S9 ?_;refine a9 (jo J J JH (QW hcell hbB)) ?_;refine S2 ?_;refine a9 (jM Xe J J (fun w1 hs=>OT _ n c k (Vf xs k) xs w1 (h.over hs.fin) Om Om Om)) ?_;refine S1 ?_;refine cZ (fun c2=> ?_) (fun c2=> ?_)
  ·refine S11 ?_
   exact qf hL1 (k+1) Om Om ⟨vi (by rw [FX c2]),vi Om,sz⟩ (u9 J)
  ·refine S8 ?_
   exact qf hL1 (k+1) Om Om ⟨vi (by rw [BS c2]),vi Om,sz⟩ (u9 J)
 ·have hkn:k=n:=Om
  subst hkn
  refine S7 ?_;refine a9 (JR J J (VZ)) ?_;refine S1 ?_;refine aL (fun b2=> ?_);refine N3 ?_;refine kt (T:=28) (s:=2) ?_;refine t9 ?_;refine S6 ?_;refine JX (X:=Nat×Option Addr×Nat) (fun y=>y.1≤k) (fun y=>k- y.1) (fun y=> [(7, .int .i64 (y.1:Int))]) (kK [0,2,3,4,6]) (fun y=> [.cel b1 74 [.slice none 0 0], .cel b2 74 [.slice y.2.1 y.1 y.2.2],J3 (Bs.N ⟨w,[]⟩) 28 2 y.1 (((yq xs (Vf xs k)).take y.1).flatMap Jr) y.2]) (0,none,0) (jjo _) ⟨J,sz⟩ (fun _ h=>h) ?_
  intro⟨j,qA,qc⟩ hy L hL2
  refine v9 ?_;refine r9 ?_
  have hj:j≤k:=hy
  refine S7 ?_;refine cZ (fun c3=> ?_) (fun c3=> ?_)
  ·have hjl:j<k:=Om
   have m1: (Vf xs k+j) % k<k:=jkR _ Om
   refine S5 ?_;refine JS 14 ?_;refine dV 0 [1] ?_;refine dK 1 ?_;refine dV 2 [3,4,5,11,12,13] ?_;refine dV 3 [4,5,11,12,13] ?_;refine dV 4 [5,11,12,13] ?_;refine d9 5 J [11,12,13] (u9 J) (jo J J JH (QW hcell hbB)) ?_;refine dV 6 [8,10,11,12,13] ?_;refine dV 7 [8,10,11,12,13] ?_;refine dV 8 [10,11,12,13] ?_;refine dV 9 [10,11,12,13] ?_;refine d9 10 J [11,12,13] (u9 J) ((Xi J J J Om Om Om).as (congrArg _ (IR (Vf xs k) j k))) ?_;refine d9 11 J [12,13] (u9 J) (jV (j:= (Vf xs k+j) % k) J J J jD Om) ?_;refine d9 12 J [13] (u9 J) (jl J J jk J (wQ (b:=eb) (o:=eo) h m1)) ?_;refine J7 (i:=13) J Dc Kr J ?_;refine Jy J J (qT J) J (lb J) (fun b3=> ?_);refine n9 ?_;refine JN (u9 J) ?_;refine KV J Kr J ?_;refine JY (k:=2) J jD jI Dc J Dc J J J (fun w' hs=>Qb hs (k:=3) J J) (by simp [Value.oneCell']) (by unfold maxLen;omega) Om (jjm _) (fun r1=> ?_);refine n9 ?_;refine Qv 17 [1] ?_;refine dK 15 ?_;refine J7 (i:=16) J Dc Kr J ?_;refine S1 ?_;refine JN (uw [1] J) ?_;refine JJ Kr ?_;refine S7 ?_
   exact Jq hL2 ((j+1,r1)) ((show j+1≤k by omega)) (by simp only;omega) ⟨vi Om,sz⟩ (fun _ h=>h.upto ⟨J,J,by have:=DF (xs:=xs) (k:=Vf xs k) (j:=j) Om Om;rw [hl] at this;rw [←this];rfl,trivial⟩)
  ·have hje:j=k:=Om
   subst hje
   rw [jjR Om]
   refine S12 ?_;refine jK J (J8 (k:=0) J JP J J) ?_
   intro w' hs
   have hr:=hs.all 2 _ rfl
   exact⟨_,rfl,vy (show _ by rw [ui,hl];exact hr.1) (fun b hb=> (hr.2.1 b hb).elim id (fun h=>by cases h)),hs.fin⟩
theorem Td (b1 o1 b2 o2:Nat) (A B:Option Addr) (n c m d:Nat) (xs ys:List Pn) (w:World) (h1c:w.cell? ⟨b1,o1,none⟩ =some (.slice A n c)) (hb1:b1<w.heap.size) (h2c:w.cell? ⟨b2,o2,none⟩ =some (.slice B m d)) (hb2:b2<w.heap.size) (h:Pts w A n xs) (h':Pts w B m ys) (hn:n≤1099511627776) (hm:m≤1099511627776) :
  Calls Tryz.prog 237 #[.pointer (some ⟨b1,o1,none⟩), .pointer (some ⟨b2,o2,none⟩)] w fun e w'=>e= .returned (.bool (uJ xs ys))∧Over w w':=by
 have hl:=h.1
 have hl':=h'.1
 refine j6 (m:=65) (Tryz.func237) J J (lb J) ?_;refine S10 ?_;refine qv (X:=Nat) (fun k=>k≤n∧k≤m∧uI (xs.drop k) (ys.drop k) =uI xs ys) (fun k=>n- k) (fun k=> [(5, .int .i64 (k:Int))]) (kK [0,1,4]) 0 (⟨jjo _,jjo _,J⟩) ⟨J,sz⟩ ?_
 intro k hk L hL1
 refine v9 ?_
 obtain ⟨hk1,hk2,hk3⟩ :=hk
 refine S1 ?_;refine qt [(21, .bool (decide (k<n) &&decide (k<m)))] (kK [0,1,4,5]) (fun L h_2=> ?_) ?_
 ·refine S5 ?_;refine a9 (jo rfl rfl JH (by first | exact QW h1c hb1 | exact QW h2c hb2)) ?_;refine S3 ?_;refine cV 13 (fun g1=> ?_) (fun g1=> ?_)
  ·refine S9 ?_;refine o9 (jo rfl rfl JH (by first | exact QW h1c hb1 | exact QW h2c hb2)) ?_;refine S6 ?_
   exact Jo h_2 ⟨vb (by rw [show decide (k<n) =true from decide_eq_true Om,jjG];exact decide_eq_decide.2 Om),sz⟩ (u9 J)
  ·refine S9 ?_
   exact Jo h_2 ⟨vb (by rw [show decide (k<n) =false from decide_eq_false Om,jjU]),sz⟩ (u9 J)
 ·refine v9 ?_;refine cZ (fun c1=> ?_) (fun c1=> ?_)
  ·simp only [jjl,decide_eq_true_eq] at c1
   obtain ⟨hlt,hmk⟩ :=c1
   obtain ⟨eb,eo,rfl,_⟩ :=h.2 Om
   obtain ⟨fb,fo,rfl,_⟩ :=h'.2 Om
   refine S6 ?_;refine JS 15 ?_;refine dK 0 ?_;refine dK 1 ?_;refine dK 2 ?_;refine dZ 3 rfl (jo rfl rfl JH (by first | exact QW h1c hb1 | exact QW h2c hb2)) ?_;refine dK 4 ?_;refine dK 5 ?_;refine dZ 6 J (jl J J jk J (wQ (b:=eb) (o:=eo) h hlt)) ?_;refine dK 7 ?_;refine dK 8 ?_;refine dK 9 ?_;refine dZ 10 rfl (jo rfl rfl JH (by first | exact QW h1c hb1 | exact QW h2c hb2)) ?_;refine dK 11 ?_;refine dK 12 ?_;refine dZ 13 J (jl J J jk J (wQ (b:=fb) (o:=fo) h' hmk)) ?_;refine dK 14 ?_;refine JJ Kr ?_;refine S1 ?_;refine cZ (fun c2=> ?_) (fun c2=> ?_)
   ·refine S2 ?_;refine JS 16 ?_;refine dK 0 ?_;refine dK 1 ?_;refine dK 2 ?_;refine dZ 3 rfl (jo rfl rfl JH (by first | exact QW h1c hb1 | exact QW h2c hb2)) ?_;refine dK 4 ?_;refine dK 5 ?_;refine dZ 6 J (jl J J jk J (wQ (b:=eb) (o:=eo) h hlt)) ?_;refine dK 7 ?_;refine dK 8 ?_;refine dK 9 ?_;refine dZ 10 rfl (jo rfl rfl JH (by first | exact QW h1c hb1 | exact QW h2c hb2)) ?_;refine dK 11 ?_;refine dK 12 ?_;refine dZ 13 J (jl J J jk J (wQ (b:=fb) (o:=fo) h' hmk)) ?_;refine dZ 14 J (jM Ku J J (fun w1 hs=>WL (pt xs k) (pt ys k) w1)) ?_;refine dK 15 ?_;refine JJ Kr ?_;refine S7 ?_;refine jK J (.tmp J) ?_
    intro w' hs
    exact⟨by rw [←LG Om Om (jgM c2) hk3],hs.fin⟩
   ·refine S8 ?_
    exact qf hL1 (k+1) (⟨by omega,by omega,by rw [←II Om Om (jgK c2)];exact hk3⟩) Om ⟨vi Om,sz⟩ (u9 J)
  ·simp only [jkV,decide_eq_false_iff_not] at c1
   refine S7 ?_;refine JS 12 ?_;refine dK 0 ?_;refine dK 1 ?_;refine dK 2 ?_;refine dZ 3 rfl (jo rfl rfl JH (by first | exact QW h1c hb1 | exact QW h2c hb2)) ?_;refine dK 4 ?_;refine dK 5 ?_;refine dK 6 ?_;refine dK 7 ?_;refine dZ 8 rfl (jo rfl rfl JH (by first | exact QW h1c hb1 | exact QW h2c hb2)) ?_;refine dK 9 ?_;refine dK 10 ?_;refine dK 11 ?_;refine JJ Kr ?_;refine S2 ?_;refine jK J (.tmp J) ?_
   intro w' hs
   refine⟨?_,hs.fin⟩
   unfold uJ
   rw [←hk3]
   by_cases hkn:k<n
   ·rw [Ti Om Om];exact congrArg (fun b=>Ending.returned (Value.bool b)) (decide_eq_decide.2 Om)
   ·rw [X9 Om Om];split<;>exact congrArg (fun b=>Ending.returned (Value.bool b)) (decide_eq_decide.2 Om)
end Go.Proofs.YtbahojdbmmjkcaaGreat
namespace Go.Proofs.YtbahojdbmmjkcaaGreat
open Go Go.RowKit
end Go.Proofs.YtbahojdbmmjkcaaGreat
