import Derived.Test.YtbahojdbmmjkcaaGreatPSd2
import Derived.Test.YtbahojdbmmjkcaaGreatPOrd
import Derived.Lib.AppendZeros
import Derived.Test.YtbahojdbmmjkcaaGreatPSnapped
import Derived.Test.YtbahojdbmmjkcaaGreatPSimp
import Derived.Test.YtbahojdbmmjkcaaGreatPHot
set_option linter.unusedVariables false
set_option linter.unusedSimpArgs false
namespace Go.Proofs.YtbahojdbmmjkcaaGreat
open Go Go.RowKit
variable {A:Option Addr} {b k:Nat} {w:World} {x:Operand} {xs ys:List Pn}
set_option maxRecDepth 100000
set_option maxHeartbeats 4000000
theorem Hm (A B:Option Addr) (n c m d:Nat) (xs ys:List Pn) (w:World) (h:Pts w A n xs) (h':Pts w B m ys) (hx:∀p∈xs,zQ p) (hy:∀p∈ys,zQ p) (hn:n≤1099511627776) (hm:m≤1099511627776) :
  Calls Tryz.prog 180 #[.slice A n c, .slice B m d, .func (.func 112) #[] #[]] w fun e w'=>e= .returned (.int .i64 (WA xs ys))∧Over w w':=by
 have hl:=h.1
 have hl':=h'.1
 refine jT (m:=39) (Tryz.func180) J J (lb J) ?_;refine S12 ?_;refine J9 (X:=Nat) (fun k=>k≤n∧k≤m∧WA (xs.drop k) (ys.drop k) =WA xs ys) (fun k=>n- k) (fun k=> [(13, .int .i64 (k:Int))]) (kK [0,1,2,6,11,12]) 0 (⟨jgw _,jgw _,J⟩) ⟨J,sz⟩ ?_
 intro k hk L hL1
 refine v9 ?_
 obtain ⟨hk1,hk2,hk3⟩ :=hk
 refine S5 ?_;refine cZ (fun c1=> ?_) (fun c1=> ?_)
 ·have hlt:k<n:=Om
  obtain ⟨eb,eo,rfl,_⟩ :=h.2 Om
  refine S8 ?_;refine a9 (jk J J jj J (wz (b:=eb) (o:=eo) h hlt)) ?_;refine S1 ?_;refine aL (fun b1=> ?_);refine N12 ?_;refine cZ (fun c2=> ?_) (fun c2=> ?_)
  ·have hmk:m≤k:=Om
   refine S11 ?_;refine jL J (.tmp J) ?_
   intro w' hs
   exact⟨by rw [←hk3,Rv Om Om],hs.fin⟩
  ·have hmk:k<m:=Om
   obtain ⟨fb,fo,rfl,_⟩ :=h'.2 Om
   refine S7 ?_;refine a9 (jk J J jj J (wz (b:=fb) (o:=fo) h' hmk)) ?_;refine S1 ?_;refine aL (fun b2=> ?_);refine N8 ?_;refine a9 (vA wQ J J J (fun w1 hs=>GF (pt xs k) (pt ys k) w1 (hx _ (by rw [←Kl Om];exact jgH _)) (hy _ (by rw [←Kl Om];exact jgH _)))) ?_;refine S7 ?_;refine cZ (fun c3=> ?_) (fun c3=> ?_)
   ·refine S11 ?_;refine jL J (.tmp J) ?_
    intro w' hs
    exact⟨by rw [←hk3,D8 Om Om (fun e=>c3 (Ua.2 e))],hs.fin⟩
   ·refine S7 ?_
    exact JY hL1 (k+1) (⟨by omega,by omega,by rw [←D7 Om Om (Ua.1 Om)];exact hk3⟩) Om ⟨vi Om,sz⟩ (u9 J)
 ·have hkn:k=n:=Om
  refine S14 ?_;refine cZ (fun c4=> ?_) (fun c4=> ?_)
  ·refine S6 ?_;refine jL J (.tmp J) ?_
   intro w' hs
   exact⟨by rw [←hk3,xD Om Om,if_pos Om],hs.fin⟩
  ·refine S7 ?_;refine jL J (.tmp J) ?_
   intro w' hs
   exact⟨by rw [←hk3,xD Om Om,if_neg Om],hs.fin⟩
theorem YQ (A B:Option Addr) (n c m d:Nat) (xs ys:List Pn) (w:World) (h:Pts w A n xs) (h':Pts w B m ys) (hx:∀p∈xs,zQ p) (hy:∀p∈ys,zQ p) (hn:n≤1099511627776) (hm:m≤1099511627776) :
  Calls Tryz.prog 119 #[.slice A n c, .slice B m d] w fun e w'=>e= .returned (.int .i64 (WA xs ys))∧Over w w':=by
 refine jT (m:=8) (Tryz.func119) J J (lb J) ?_;refine S8 ?_;refine a9 (jJ kk J J (fun w1 hs=>Hm A B n c m d xs ys w1 (h.over hs.fin) (h'.over hs.fin) hx hy hn hm)) ?_;refine S3 ?_;refine jL J (.tmp J) ?_
 intro w' hs
 exact⟨rfl,hs.fin⟩
theorem HQ (A B:Option Addr) (n c m d:Nat) (xs ys:List Pn) (w:World) (h:Pts w A n xs) (h':Pts w B m ys) (hx:∀p∈xs,zQ p) (hy:∀p∈ys,zQ p) (hn:n≤1099511627776) (hm:m≤1099511627776) :
  Calls Tryz.prog 118 #[.agg #[.slice A n c], .agg #[.slice B m d]] w fun e w'=>e= .returned (.int .i64 (WA xs ys))∧Over w w':=by
 refine jT (m:=10) (Tryz.func118) J J (lb J) ?_;refine S3 ?_;refine aX (fun b1=> ?_);refine N1 ?_;refine aX (fun b2=> ?_);refine N8 ?_;refine a9 (jJ uM J J (fun w1 hs=>YQ A B n c m d xs ys w1 (h.over hs.fin) (h'.over hs.fin) hx hy hn hm)) ?_;refine S3 ?_;refine jL J (.tmp J) ?_
 intro w' hs
 exact⟨rfl,hs.fin⟩
section
variable {P:Program} {n:Nat} {env:List (Nat×Value)} {w0:Bs} {Rs:List Res} {Q:Exit→Act→World→Prop} {K:Act→World→Prop} {o:Oper}
theorem MH {T U:TypeId} {m c s:Nat} (ho:o.op= .call {callee:= .builtin .cap,args:= #[x],argTypes:= #[T]}) (hx:ev env x=some (.slice A m c)) (hT:TyL P T U s) :Qt P o n env w0 Rs (.int .i64 (c:Int)) :=
 QY fun a w hF _=>by
  have hT:=hT.desc
  have hE:P.elem T=U:=by simp [Program.elem,hT]
  have:=run_cap_slice (P:=P) w T o.type A m c (by rw [hE];exact hT)
  unfold execOp
  simp only [ho,resolve,invoke,builtin,Sem.run_bind,Sem.run_pure,Result.andThen_ok,jgN,jgM,jgV,hF.ev hx,this]
  rfl
theorem RM {T Tn U s bytes m d:Nat} {kn:IntKind} {z:Value} {y:Operand} (ho:o.op= .call {callee:= .builtin .append,args:= #[x,y],argTypes:= #[T,Tn]}) (hT:TyL P T U s) (hN:P.underlying Tn=some (.int kn)) (hZ:TyZ P U s bytes z) (hs0:0<s) (hx:ev env x=some (.slice none 0 0)) (hy:ev env y=some (.int .i64 (m:Int))) (h0:0<m) (hm:m≤maxLen) (hb:m*bytes≤281474976710656) (hd:o.dst=some d) (hn:d<n) (h:∀b cap,At n ((d, .slice (some ⟨b,0,none⟩) m cap) ::env) w0 (Rs++ [JQ 0 U s 0 [] (some ⟨b,0,none⟩,cap)]) K) :At n env w0 Rs (fun a w=>o.wp P a w K Q) :=fun a w hf hs=>by
 obtain ⟨i,hi,hz0,hz1,hz2⟩ :=hZ.info
 have hmx:m≤9223372036854775807:=by unfold maxLen at hm;omega
 have hr:=Go.Lib.run_append_nil_zeros (P:=P) w T Tn o.type U i z .i64 kn hT.desc hN hi hz0 m h0 Om Om (by rw [hz2];exact hb)
 have hrun: (execOp a.eval o).run P w= .ok (.value (.slice (some ⟨w.heap.size,0,none⟩) m (grownCap w m 0 U))) (w.drew.alloc (.cells (Builtin.zeroCells z.cells m++Builtin.zeroCells z.cells (grownCap w m 0 U- m)) U)) :=by
  unfold execOp
  simp only [ho,resolve,invoke,builtin,Sem.run_bind,Sem.run_pure,Result.andThen_ok,jgN,jgM,jgV,hf.ev hx,hf.ev hy,hr]
 show o.upon P a K Q ((execOp a.eval o).run P w)
 rw [hrun,Oper.upon_value,hd]
 have hge:=grownCap_ge w m 0 U
 have hown: (w.drew.alloc (.cells (Builtin.zeroCells z.cells m++Builtin.zeroCells z.cells (grownCap w m 0 U- m)) U)).ownsRow 0 U s (.slice (some ⟨w.drew.heap.size,0,none⟩) 0 (grownCap w m 0 U)) 0 [] :=
  World.ownsRow_made w.drew _ _ (jgw _) (grownCap_le_maxLen w m 0 U hm) (by
   rw [Array.size_append,size_zeroCells,size_zeroCells,hZ.cells,←Nat.add_mul]
   congr 1
   omega)
 exact h _ _ _ _ (hf.put hn _) (hs.add ((Over.refl w).drew_.alloc_ _) hown (fun b hb=> (hown.lt b hb).elim fun _ _=>by
  have:Value.ownBlock (.slice (some ⟨w.drew.heap.size,0,none⟩) 0 (grownCap w m 0 U)) =some b:=hb
  injection this with this
  rw [←this]
  exact jgx _) ⟨jgw _,fun _ _=>jgw _⟩)
end
theorem Er (m:Nat) (w:World) (h0:0<m) (hm:m≤1099511627776) :Calls Tryz.prog 230 #[.slice none 0 0, .int .i64 (m:Int)] w fun e w'=>∃v,e= .returned v∧w'.ownsRow w.heap.size 28 2 v 0 []∧Over w w':=by
 refine jT (m:=27) (Tryz.func230) J J (lb J) ?_;refine S10 ?_;refine cZ (fun c1=> ?_) (fun c1=> ?_)
 ·omega
 ·refine S7 ?_;refine a9 (MH J J jB) ?_;refine S11 ?_;refine cZ (fun c2=> ?_) (fun c2=> ?_)
  ·refine S3 ?_;refine a9 (MH J J jB) ?_;refine a9 ((kS (h:=0) J J J jB (jgx _)).as (show sliced none 0 0 0 2= .slice none 0 0 from J)) ?_;refine S1 ?_;refine Uf 21 (.int .i64 (m:Int)) J (congrArg _ Om) ?_;refine S1 ?_;refine RM J jB Tryz.underlying3 jH Dc J J h0 (by unfold maxLen;omega) Om J Dc (fun gb gcap=> ?_);refine N2 ?_;refine a9 ((kS (h:=0) J J J jB (jgw _)).as (w6 _ _ _ _ _)) ?_;refine S8 ?_;refine jL J (.tmp J) ?_
   intro w' hs
   have hr:=hs.all 0 _ rfl
   exact⟨_,rfl,KN hr.1 (fun b hb=> (hr.2.1 b hb).elim id (fun h=>by cases h)),hs.fin⟩
  ·omega
theorem jdK {Rs:List Res} {o:Nat} {v:Value} (hc:w.cell? ⟨b,o+k,none⟩ =some v) (hb:b<w.heap.size) (w':World) (hs:St ⟨w,[]⟩ Rs w') :w'.cell? ⟨b,o+k*1,none⟩ =some v:=by rw [jhn];exact qP hc hb w' hs
abbrev Sl:=Option Addr×Nat×List Pn
def sl (ss:List Sl) (k:Nat) :Sl:=ss.getD k (none,0,[])
def ve (ss:List Sl) (k:Nat) :List Pn:= (ss.take k).flatMap (·.2.2)
theorem LI {ss:List Sl} (h:k<ss.length) :ve ss (k+1) =ve ss k++ (sl ss k).2.2:=by
 unfold ve sl
 rw [jgE h,jgG]
 simp [List.getD,h]
theorem IE {ss:List Sl} {j:Nat} (h:k≤j) : (ve ss k).length≤(ve ss j).length:=by
 have e:ss.take k= (ss.take j).take k:=by rw [List.take_take,jhu h]
 unfold ve
 rw [e]
 conv=>rhs;rw [←jgI k (ss.take j)]
 rw [jgG,jgv]
 omega
theorem Ss (b o N C:Nat) (ss:List Sl) (w:World) (hN:ss.length=N) (hb:b<w.heap.size) (hc:∀k,k<N→w.cell? ⟨b,o+k,none⟩ =some (.slice (sl ss k).1 (sl ss k).2.2.length (sl ss k).2.1)) (hp:∀k,k<N→Pts w (sl ss k).1 (sl ss k).2.2.length (sl ss k).2.2∧0< (sl ss k).2.2.length) (h0:0< (ve ss N).length) (hm: (ve ss N).length≤1048577) (hN2:N≤1048577) :
  Calls Tryz.prog 178 #[.slice (some ⟨b,o,none⟩) N C] w fun e w'=>∃v,e= .returned v∧w'.ownsRow w.heap.size 28 2 v (ve ss N).length ((ve ss N).flatMap Ju)∧Over w w':=by
 refine jT (m:=36) (Tryz.func178) J J (lb J) ?_;refine S16 ?_;refine J9 (X:=Nat) (fun k=>k≤N) (fun k=>N- k) (fun k=> [(3, .int .i64 ((ve ss k).length:Int)),(11, .int .i64 (k:Int))]) (kK [0,2,9,10]) 0 (jgw _) ⟨J,sz⟩ ?_
 intro k hk L hL1
 refine V5 ?_;refine cZ (fun c1=> ?_) (fun c1=> ?_)
 ·have hlt:k<N:=Om
  have hst: (ve ss (k+1)).length= (ve ss k).length+ (sl ss k).2.2.length:= (by rw [LI Om,jgv])
  have hle: (ve ss (k+1)).length≤(ve ss N).length:=IE Om
  refine S7 ?_;refine a9 (jl J J JK (jdK (hc k hlt) hb)) ?_;refine S15 ?_;refine cZ (fun c2=> ?_) (fun c2=> ?_)
  ·omega
  ·refine S7 ?_
   exact JY hL1 (k+1) Om Om ⟨vi Om,vi Om,sz⟩ (u9 J)
 ·have hkN:k=N:=Om
  subst hkN
  refine S9 ?_;refine JR wD (v:=fun x=> .slice x.1 0 x.2) (r:=fun x=>JQ 0 28 2 0 [] x) (H:=fun _=>True) J J J (lb J) (fun w1 hs=>qJ (Er _ w1 h0 Om)) ?_
  rintro⟨cA,cc⟩ -
  refine N10 ?_;refine JN (X:=Nat×Option Addr×Nat) (fun x=>x.1≤k) (fun x=>k- x.1) (fun x=> [(6, .slice x.2.1 (ve ss x.1).length x.2.2),(27, .int .i64 (x.1:Int))]) (kK [2,25,26]) (fun x=> [JQ 0 28 2 (ve ss x.1).length ((ve ss x.1).flatMap Ju) x.2]) (0,cA,cc) (jgw _) ⟨J,sz⟩ (fun _ h=>h) ?_
  intro⟨j,rA,rc⟩ hj L hL2
  refine v9 ?_;refine r9 ?_
  have hj:j≤k:=hj
  refine S5 ?_;refine cZ (fun c3=> ?_) (fun c3=> ?_)
  ·have hlt:j<k:=Om
   have hst:ve ss (j+1) =ve ss j++ (sl ss j).2.2:=LI Om
   have hst2: (ve ss (j+1)).length= (ve ss j).length+ (sl ss j).2.2.length:= (by rw [hst,jgv])
   have hle: (ve ss (j+1)).length≤(ve ss k).length:=IE Om
   refine S7 ?_;refine a9 (jl J J JK (jdK (hc j hlt) hb)) ?_;refine S6 ?_;refine JV (k:=0) J jB jH Dc J Dc J J J (fun w' hs=>MY ((hp j hlt).1.over hs.fin) (hp j hlt).2) (Ve _) (by unfold maxLen;omega) Om (jgw _) (fun r1=> ?_);refine N8 ?_
   exact j4 hL2 ((j+1,r1)) ((show j+1≤k by omega)) (by simp only;omega) ⟨(by rw [hst2];rfl),vi Om,sz⟩ (fun _ h=>h.upto ⟨by rw [hst2,hst,jgG],trivial⟩)
  ·have hjk:j=k:=Om
   subst hjk
   refine S11 ?_;refine jL J (.tmp J) ?_
   intro w' hs
   have hr:=hs.all 0 _ rfl
   exact⟨_,rfl,KN hr.1 (fun b hb=> (hr.2.1 b hb).elim id (fun h=>by cases h)),hs.fin⟩
theorem jdM (xs:List Pn) (k:Nat) :xs.drop k++xs.take k=UO xs k:=rfl
theorem jge {n U:Nat} {A1 A2:Option Addr} {c1 c2:Nat} (_e:xs.drop k++xs.take k=ys) (hb:w.heap[b]? =some (.cells [.slice A1 (n- k) c1, .slice A2 k c2].toArray U (0,0))) (h1:Pts w A1 (n- k) (xs.drop k)) (h2:Pts w A2 k (xs.take k)) (hk:1≤k) (hkn:k<n) (hl:xs.length=n) (hn:n≤1048577) :
  Calls Tryz.prog 178 #[.slice (some ⟨b,0,none⟩) 2 2] w fun e w'=>∃v,e= .returned v∧w'.ownsRow w.heap.size 28 2 v n (ys.flatMap Ju)∧Over w w':=by
 have ex:ve [(A1,c1,xs.drop k),(A2,c2,xs.take k)] 2=ys:=by rw [←_e];simp [ve]
 have el:ys.length=n:=by rw [←_e];simp;omega
 have:=Ss b 0 2 2 [(A1,c1,xs.drop k),(A2,c2,xs.take k)] w rfl (JZ hb) (fun j hj=> ?_) (fun j hj=> ?_) (by rw [ex];omega) (by rw [ex];omega) Dc
 ·rw [ex,el] at this
  exact this
 ·rw [cell_of_row w b _ _ U (0,0) hb]
  match j,hj with
  | 0,_=>simp [sl,hl]
  | 1,_=>simp [sl];omega
 ·match j,hj with
  | 0,_=>simp only [sl,List.getD_cons_zero,h1.1];exact⟨h1,by omega⟩
  | 1,_=>simp only [sl,List.getD_cons_succ,List.getD_cons_zero,h2.1];exact⟨h2,by omega⟩
theorem FZ (A:Option Addr) (n c:Nat) (xs:List Pn) (w:World) (h:Pts w A n xs) (h0:0<n) (hc:n≤c) (hx:∀p∈xs,zQ p) (hn:n≤1048577) :
  Calls Tryz.prog 116 #[Uv A n c] w fun e w'=>∃v,e= .returned (.agg #[v])∧w'.ownsRow w.heap.size 28 2 v n ((Wc xs).flatMap Ju)∧Over w w':=by
 have hl:=h.1
 have hbd:∀k p,p∈UO xs k→zQ p:=fun k p hp=>hx p (Pi.1 hp)
 refine jT (m:=43) (Tryz.func116) J J (lb J) ?_;refine S3 ?_;refine aX (fun b1=> ?_);refine N1 ?_;refine aL (fun b2=> ?_);refine N6 ?_;refine JR QP (v:=fun x=> .slice x.1 n x.2) (r:=fun x=>JQ 0 28 2 n _ x) (H:=fun _=>True) J J J (lb J) (fun w1 hs=>qJ (Yw A n c xs w1 (h.over hs.fin) h0 hn)) ?_
 rintro⟨cA,cc⟩ -
 refine N8 ?_;refine JN (X:=Nat×Option Addr×Nat) (fun x=>1≤x.1∧x.1≤n) (fun x=>n- x.1) (fun x=> [(3, .slice x.2.1 n x.2.2),(4, .int .i64 (x.1:Int))]) (kK [1,2]) (fun x=> [.cel b1 74 [.slice A n c], .cel b2 74 [.slice none 0 0],JQ 0 28 2 n ((UO xs (vg xs x.1)).flatMap Ju) x.2]) (1,cA,cc) (⟨jgx _,h0⟩) ⟨J,sz⟩ (fun _ h=>h.upto ⟨J,J,by rw [Gu,jbS],trivial⟩) ?_
 intro⟨k,rA,rc⟩ hk L hL1
 refine v9 ?_;refine r9 ?_
 obtain ⟨hk1,hk2⟩ :1≤k∧k≤n:=hk
 have htk:=Xs xs k hk1
 refine S9 ?_;refine cZ (fun c1=> ?_) (fun c1=> ?_)
 ·have hlt:k<n:=Om
  obtain ⟨eb,eo,rfl,_⟩ :=h.2 h0
  refine Q1 (fun w hs=>KX (k:=2) J hs h0) ?_
  rintro⟨eg,rfl⟩
  refine S7 ?_;refine JS 10 ?_;refine dK 0 ?_;refine dK 1 ?_;refine dK 2 ?_;refine dK 3 ?_;refine dZ 4 J (jk J J jj J (wz (b:=eb) (o:=eo) h hlt)) ?_;refine dK 5 ?_;refine dZ 6 J (jG (j:=0) J J J jB Om) ?_;refine dZ 7 J (jk J J jj J (jbK (b:=eg) (o:=0) (j:=0) (fun w hs=>WI (hs.all 2 _ J).1 (by rw [V0,hl])) h0)) ?_;refine dZ 8 J (jJ wQ J J (fun w1 hs=>GF (pt xs k) (pt (UO xs (vg xs k)) 0) w1 (hx _ (by rw [←Kl Om];exact jgH _)) (hbd (vg xs k) _ (by rw [←Kl (by rw [V0];omega)];exact jgH _)))) ?_;refine dK 9 ?_;refine JI Kr ?_;refine S1 ?_;refine cZ (fun c2=> ?_) (fun c2=> ?_)
  ·refine S9 ?_
   exact j4 hL1 ((k+1,some ⟨eg,0,none⟩,rc)) (⟨show 1≤k+1 by omega,show k+1≤n by omega⟩) (by simp only;omega) ⟨J,vi Om,sz⟩ (fun _ h=>h.upto ⟨J,J,by rw [M8 (Co (by rw [V0];omega) (by rw [V0];omega) (by rw [jdC Om];exact c2))],trivial⟩)
  ·refine S4 ?_;refine JS 11 ?_;refine dK 0 ?_;refine dK 1 ?_;refine dK 2 ?_;refine dZ 3 J ((vG J J J jB Om).as (ut (b:=eb) (o:=eo) (l:=k) (h:=n) (m:=c) (s:=2) hc Om)) ?_;refine dK 4 ?_;refine dK 5 ?_;refine dK 6 ?_;refine dZ 7 J ((kS J J J jB Om).as (w6 _ _ _ _ _)) ?_;refine J8 (i:=8) J Dc Kr J ?_;refine Jw J J (UT J J) J (lb J) (fun b3=> ?_);refine n9 ?_;refine JU (u9 J) ?_;refine J8 (i:=9) J Dc Kr J ?_;refine JR VU (v:=fun x=> .slice x.1 n x.2) (r:=fun x=>JQ 0 28 2 n ((UO xs k).flatMap Ju) x) (H:=fun _=>True) J J J (lb J) (fun w1 hs=>qJ (jge (jdM xs k) (hs.cel (k:=3) J) ((h.over hs.fin).dropT (k:=k) Om hc) ((h.over hs.fin).takeT (k:=k) Om) hk1 hlt hl hn)) ?_
   rintro⟨dA,dc⟩ -
   refine n9 ?_;refine JU (u9 J) ?_;refine dK 10 ?_;refine JI Kr ?_;refine S5 ?_;refine a9 (jJ uM J J (fun w1 hs=>YQ _ _ n _ n _ (UO xs k) (UO xs (vg xs k)) w1 (WI (hs.all 4 _ J).1 (by rw [V0,hl])) (WI (hs.all 2 _ J).1 (by rw [V0,hl])) (hbd _) (hbd _) Om Om)) ?_;refine S2 ?_;refine cZ (fun c3=> ?_) (fun c3=> ?_)
   ·refine S11 ?_
    exact j4 hL1 ((k+1,dA,dc)) (⟨show 1≤k+1 by omega,show k+1≤n by omega⟩) (by simp only;omega) ⟨J,vi Om,sz⟩ (fun _ h=> (h.picks [0,1,4] Dc).upto ⟨J,J,by rw [Dk (decide_eq_true c3)],trivial⟩)
   ·refine S8 ?_
    exact j4 hL1 ((k+1,some ⟨eg,0,none⟩,rc)) (⟨show 1≤k+1 by omega,show k+1≤n by omega⟩) (by simp only;omega) ⟨J,vi Om,sz⟩ (fun _ h=>h.upto ⟨J,J,by rw [M8 (decide_eq_false Om)],trivial⟩)
 ·have hkn:k=n:=Om
  refine S8 ?_;refine a9 (J0 J J (kV J)) ?_;refine S4 ?_;refine jL J (qh (k:=1) J JB J J) ?_
  intro w' hs
  have hr:=hs.all 2 _ rfl
  exact⟨_,rfl,KN (show _ by subst hkn;rw [Wc,hl];exact hr.1) (fun b hb=> (hr.2.1 b hb).elim id (fun h=>by cases h)),hs.fin⟩
theorem Fk (i j n:Nat) : ((i:Int) + (j:Int)).tmod (n:Int) = (((i+j) % n:Nat) :Int) :=by
 rw [show(i:Int) + (j:Int) = ((i+j:Nat) :Int) by omega]
 rfl
theorem jes {a:Nat} (h: (px xs a==px ys b&&py xs a==py ys b) =false) :pt xs a≠pt ys b:=fun e=>by
 injection e with e1 e2
 simp [e1,e2] at h
theorem jeq {a:Nat} (h: (px xs a==px ys b&&py xs a==py ys b) =true) :pt xs a=pt ys b:=by
 simp at h
 exact Prod.ext h.1 h.2
theorem GT (h1:k<xs.length) (h2:k<ys.length) (h:pt xs k≠pt ys k) (he:WA (xs.drop k) (ys.drop k) =WA xs ys) :decide (wc (pt xs k) (pt ys k)) =WB xs ys:=by
 unfold WB
 rw [←he,D8 h1 h2 h]
 exact decide_eq_decide.2 PQ.symm
theorem Ma (A:Option Addr) (n c i k:Nat) (xs:List Pn) (w:World) (h:Pts w A n xs) (hi:i<n) (hk:k<n) (hn:n≤1099511627776) :
  Calls Tryz.prog 269 #[.slice A n c, .int .i64 (i:Int), .int .i64 (k:Int)] w fun e w'=>e= .returned (.bool (WB (UO xs i) (UO xs k)))∧Over w w':=by
 have hl:=h.1
 have hri: (UO xs i).length=n:=V0.trans hl
 have hrk: (UO xs k).length=n:=V0.trans hl
 refine jT (m:=40) (Tryz.func269) J J (lb J) ?_;refine S16 ?_;refine J9 (X:=Nat) (fun j=>j≤n∧WA ((UO xs i).drop j) ((UO xs k).drop j) =WA (UO xs i) (UO xs k)) (fun j=>n- j) (fun j=> [(8, .int .i64 (j:Int))]) (kK [0,1,2,6,7]) 0 (⟨jgw _,J⟩) ⟨J,sz⟩ ?_
 intro j hj L hL1
 refine v9 ?_
 obtain ⟨hj1,hj2⟩ :=hj
 refine S7 ?_;refine cZ (fun c1=> ?_) (fun c1=> ?_)
 ·have hlt:j<n:=Om
  obtain ⟨eb,eo,rfl,_⟩ :=h.2 Om
  have m1: (i+j) % n<n:=Nat.mod_lt _ Om
  have m2: (k+j) % n<n:=Nat.mod_lt _ Om
  have p1:pt (UO xs i) j=pt xs ((i+j) % n) := (by rw [Fz Om Om,hl])
  have p2:pt (UO xs k) j=pt xs ((k+j) % n) := (by rw [Fz Om Om,hl])
  refine S11 ?_;refine a9 ((FB J J J Om Om Om).as (congrArg _ (Fk i j n))) ?_;refine a9 (jG (j:= (i+j) % n) J J J jB Om) ?_;refine a9 (jk J J jj J (wz (b:=eb) (o:=eo) h m1)) ?_;refine S1 ?_;refine aL (fun b1=> ?_);refine N10 ?_;refine a9 ((FB J J J Om Om Om).as (congrArg _ (Fk k j n))) ?_;refine a9 (jG (j:= (k+j) % n) J J J jB Om) ?_;refine a9 (jk J J jj J (wz (b:=eb) (o:=eo) h m2)) ?_;refine S1 ?_;refine aL (fun b2=> ?_);refine N9 ?_;refine cZ (fun c2=> ?_) (fun c2=> ?_)
  ·have hne:pt (UO xs i) j≠pt (UO xs k) j:= (by rw [p1,p2];exact jes c2)
   refine S4 ?_;refine a9 (jJ kO J J (fun w1 hs=>wv (pt xs ((i+j) % n)) (pt xs ((k+j) % n)) w1)) ?_;refine S8 ?_;refine jL J (.tmp J) ?_
   intro w' hs
   exact⟨by rw [←GT Om Om hne hj2,p1,p2],hs.fin⟩
  ·have hne:pt (UO xs i) j=pt (UO xs k) j:= (by rw [p1,p2];exact jeq c2)
   refine S8 ?_
   exact JY hL1 (j+1) (⟨by omega,by rw [←D7 Om Om hne];exact hj2⟩) Om ⟨vi Om,sz⟩ (u9 J)
 ·refine S10 ?_;refine jL J (.tmp J) ?_
  intro w' hs
  exact⟨by rw [WB,←hj2,xD Om Om,if_neg Om];rfl,hs.fin⟩
theorem OM (bb oo:Nat) (A:Option Addr) (n c:Nat) (xs:List Pn) (w:World) (hcell:w.cell? ⟨bb,oo,none⟩ =some (.slice A n c)) (hbB:bb<w.heap.size) (h:Pts w A n xs) (h0:0<n) (hn:n≤1048577) :
  Calls Tryz.prog 236 #[.pointer (some ⟨bb,oo,none⟩)] w fun e w'=>∃v,e= .returned (.agg #[v])∧w'.ownsRow w.heap.size 28 2 v n ((Wc xs).flatMap Ju)∧Over w w':=by
 have hl:=h.1
 have htn:=Xs xs n h0
 obtain ⟨eb,eo,rfl,_⟩ :=h.2 h0
 have hrl: (UO xs (vg xs n)).length=n:=V0.trans hl
 refine jT (m:=49) (Tryz.func236) J J (lb J) ?_;refine S3 ?_;refine aL (fun b1=> ?_);refine N6 ?_;refine a9 (jl J J JK (Qn hcell hbB)) ?_;refine S13 ?_;refine J9 (X:=Nat) (fun k=>1≤k∧k≤n) (fun k=>n- k) (fun k=> [(4, .int .i64 ((vg xs k:Nat) :Int)),(5, .int .i64 (k:Int))]) (kK [0,2,3]) 1 (⟨jgx _,h0⟩) ⟨vi (by rw [Gu];rfl),sz⟩ ?_
 intro k hk L hL1
 refine v9 ?_
 have htk:=Xs xs k hk.1
 refine S7 ?_;refine cZ (fun c1=> ?_) (fun c1=> ?_)
 ·refine S9 ?_;refine a9 (jl J J JK (Qn hcell hbB)) ?_;refine S2 ?_;refine a9 (jJ ZQ J J (fun w1 hs=>Ma _ n c k (vg xs k) xs w1 (h.over hs.fin) Om Om Om)) ?_;refine S1 ?_;refine cZ (fun c2=> ?_) (fun c2=> ?_)
  ·refine S11 ?_
   exact JY hL1 (k+1) Om Om ⟨vi (by rw [Dk c2]),vi Om,sz⟩ (u9 J)
  ·refine S8 ?_
   exact JY hL1 (k+1) Om Om ⟨vi (by rw [M8 c2]),vi Om,sz⟩ (u9 J)
 ·have hkn:k=n:=Om
  subst hkn
  refine S7 ?_;refine a9 (J0 J J (wI)) ?_;refine S1 ?_;refine aL (fun b2=> ?_);refine N3 ?_;refine kh (T:=28) (s:=2) ?_;refine t9 ?_;refine S6 ?_;refine JN (X:=Nat×Option Addr×Nat) (fun y=>y.1≤k) (fun y=>k- y.1) (fun y=> [(7, .int .i64 (y.1:Int))]) (kK [0,2,3,4,6]) (fun y=> [.cel b1 74 [.slice none 0 0], .cel b2 74 [.slice y.2.1 y.1 y.2.2],JQ (Bs.N ⟨w,[]⟩) 28 2 y.1 (((UO xs (vg xs k)).take y.1).flatMap Ju) y.2]) (0,none,0) (jgw _) ⟨J,sz⟩ (fun _ h=>h) ?_
  intro⟨j,qA,qc⟩ hy L hL2
  refine v9 ?_;refine r9 ?_
  have hj:j≤k:=hy
  refine S7 ?_;refine cZ (fun c3=> ?_) (fun c3=> ?_)
  ·have hjl:j<k:=Om
   have m1: (vg xs k+j) % k<k:=Nat.mod_lt _ Om
   refine S5 ?_;refine JS 14 ?_;refine dV 0 [1] ?_;refine dK 1 ?_;refine dV 2 [3,4,5,11,12,13] ?_;refine dV 3 [4,5,11,12,13] ?_;refine dV 4 [5,11,12,13] ?_;refine d9 5 J [11,12,13] (u9 J) (jl J J JK (Qn hcell hbB)) ?_;refine dV 6 [8,10,11,12,13] ?_;refine dV 7 [8,10,11,12,13] ?_;refine dV 8 [10,11,12,13] ?_;refine dV 9 [10,11,12,13] ?_;refine d9 10 J [11,12,13] (u9 J) ((FB J J J Om Om Om).as (congrArg _ (Fk (vg xs k) j k))) ?_;refine d9 11 J [12,13] (u9 J) (jG (j:= (vg xs k+j) % k) J J J jB Om) ?_;refine d9 12 J [13] (u9 J) (jk J J jj J (wz (b:=eb) (o:=eo) h m1)) ?_;refine J8 (i:=13) J Dc Kr J ?_;refine Jw J J (qX J) J (lb J) (fun b3=> ?_);refine n9 ?_;refine JU (u9 J) ?_;refine KB J Kr J ?_;refine JV (k:=2) J jB jH Dc J Dc J J J (fun w' hs=>qR hs (k:=3) J J) (by simp [Value.oneCell']) (by unfold maxLen;omega) Om (jgx _) (fun r1=> ?_);refine n9 ?_;refine QH 17 [1] ?_;refine dK 15 ?_;refine J8 (i:=16) J Dc Kr J ?_;refine S1 ?_;refine JU (uw [1] J) ?_;refine JI Kr ?_;refine S7 ?_
   exact j4 hL2 ((j+1,r1)) ((show j+1≤k by omega)) (by simp only;omega) ⟨vi Om,sz⟩ (fun _ h=>h.upto ⟨J,J,by have:=OV (xs:=xs) (k:=vg xs k) (j:=j) Om Om;rw [hl] at this;rw [←this];rfl,trivial⟩)
  ·have hje:j=k:=Om
   subst hje
   rw [jgR Om]
   refine S12 ?_;refine jL J (qh (k:=0) J JB J J) ?_
   intro w' hs
   have hr:=hs.all 2 _ rfl
   exact⟨_,rfl,KN (show _ by rw [Wc,hl];exact hr.1) (fun b hb=> (hr.2.1 b hb).elim id (fun h=>by cases h)),hs.fin⟩
theorem Ro (b1 o1 b2 o2:Nat) (A B:Option Addr) (n c m d:Nat) (xs ys:List Pn) (w:World) (h1c:w.cell? ⟨b1,o1,none⟩ =some (.slice A n c)) (hb1:b1<w.heap.size) (h2c:w.cell? ⟨b2,o2,none⟩ =some (.slice B m d)) (hb2:b2<w.heap.size) (h:Pts w A n xs) (h':Pts w B m ys) (hn:n≤1099511627776) (hm:m≤1099511627776) :
  Calls Tryz.prog 237 #[.pointer (some ⟨b1,o1,none⟩), .pointer (some ⟨b2,o2,none⟩)] w fun e w'=>e= .returned (.bool (WB xs ys))∧Over w w':=by
 have hl:=h.1
 have hl':=h'.1
 refine jT (m:=65) (Tryz.func237) J J (lb J) ?_;refine S10 ?_;refine J9 (X:=Nat) (fun k=>k≤n∧k≤m∧WA (xs.drop k) (ys.drop k) =WA xs ys) (fun k=>n- k) (fun k=> [(5, .int .i64 (k:Int))]) (kK [0,1,4]) 0 (⟨jgw _,jgw _,J⟩) ⟨J,sz⟩ ?_
 intro k hk L hL1
 refine v9 ?_
 obtain ⟨hk1,hk2,hk3⟩ :=hk
 refine S1 ?_;refine qn [(21, .bool (decide (k<n) &&decide (k<m)))] (kK [0,1,4,5]) (fun L h_2=> ?_) ?_
 ·refine S5 ?_;refine a9 (jl rfl rfl JK (by first | exact Qn h1c hb1 | exact Qn h2c hb2)) ?_;refine S3 ?_;refine cV 13 (fun g1=> ?_) (fun g1=> ?_)
  ·refine S9 ?_;refine o9 (jl rfl rfl JK (by first | exact Qn h1c hb1 | exact Qn h2c hb2)) ?_;refine S6 ?_
   exact Jr h_2 ⟨vb (by rw [show decide (k<n) =true from decide_eq_true Om,jg2];exact decide_eq_decide.2 Om),sz⟩ (u9 J)
  ·refine S9 ?_
   exact Jr h_2 ⟨vb (by rw [show decide (k<n) =false from decide_eq_false Om,jhd]),sz⟩ (u9 J)
 ·refine v9 ?_;refine cZ (fun c1=> ?_) (fun c1=> ?_)
  ·simp only [jgy,decide_eq_true_eq] at c1
   obtain ⟨hlt,hmk⟩ :=c1
   obtain ⟨eb,eo,rfl,_⟩ :=h.2 Om
   obtain ⟨fb,fo,rfl,_⟩ :=h'.2 Om
   refine S6 ?_;refine JS 15 ?_;refine dK 0 ?_;refine dK 1 ?_;refine dK 2 ?_;refine dZ 3 rfl (jl rfl rfl JK (by first | exact Qn h1c hb1 | exact Qn h2c hb2)) ?_;refine dK 4 ?_;refine dK 5 ?_;refine dZ 6 J (jk J J jj J (wz (b:=eb) (o:=eo) h hlt)) ?_;refine dK 7 ?_;refine dK 8 ?_;refine dK 9 ?_;refine dZ 10 rfl (jl rfl rfl JK (by first | exact Qn h1c hb1 | exact Qn h2c hb2)) ?_;refine dK 11 ?_;refine dK 12 ?_;refine dZ 13 J (jk J J jj J (wz (b:=fb) (o:=fo) h' hmk)) ?_;refine dK 14 ?_;refine JI Kr ?_;refine S1 ?_;refine cZ (fun c2=> ?_) (fun c2=> ?_)
   ·refine S2 ?_;refine JS 16 ?_;refine dK 0 ?_;refine dK 1 ?_;refine dK 2 ?_;refine dZ 3 rfl (jl rfl rfl JK (by first | exact Qn h1c hb1 | exact Qn h2c hb2)) ?_;refine dK 4 ?_;refine dK 5 ?_;refine dZ 6 J (jk J J jj J (wz (b:=eb) (o:=eo) h hlt)) ?_;refine dK 7 ?_;refine dK 8 ?_;refine dK 9 ?_;refine dZ 10 rfl (jl rfl rfl JK (by first | exact Qn h1c hb1 | exact Qn h2c hb2)) ?_;refine dK 11 ?_;refine dK 12 ?_;refine dZ 13 J (jk J J jj J (wz (b:=fb) (o:=fo) h' hmk)) ?_;refine dZ 14 J (jJ kO J J (fun w1 hs=>wv (pt xs k) (pt ys k) w1)) ?_;refine dK 15 ?_;refine JI Kr ?_;refine S7 ?_;refine jL J (.tmp J) ?_
    intro w' hs
    exact⟨by rw [←GT Om Om (jes c2) hk3],hs.fin⟩
   ·refine S8 ?_
    exact JY hL1 (k+1) (⟨by omega,by omega,by rw [←D7 Om Om (jeq c2)];exact hk3⟩) Om ⟨vi Om,sz⟩ (u9 J)
  ·simp only [jh5,decide_eq_false_iff_not] at c1
   refine S7 ?_;refine JS 12 ?_;refine dK 0 ?_;refine dK 1 ?_;refine dK 2 ?_;refine dZ 3 rfl (jl rfl rfl JK (by first | exact Qn h1c hb1 | exact Qn h2c hb2)) ?_;refine dK 4 ?_;refine dK 5 ?_;refine dK 6 ?_;refine dK 7 ?_;refine dZ 8 rfl (jl rfl rfl JK (by first | exact Qn h1c hb1 | exact Qn h2c hb2)) ?_;refine dK 9 ?_;refine dK 10 ?_;refine dK 11 ?_;refine JI Kr ?_;refine S2 ?_;refine jL J (.tmp J) ?_
   intro w' hs
   refine⟨?_,hs.fin⟩
   unfold WB
   rw [←hk3]
   by_cases hkn:k<n
   ·rw [Rv Om Om];exact congrArg (fun b=>Ending.returned (Value.bool b)) (decide_eq_decide.2 Om)
   ·rw [xD Om Om];split<;>exact congrArg (fun b=>Ending.returned (Value.bool b)) (decide_eq_decide.2 Om)
end Go.Proofs.YtbahojdbmmjkcaaGreat
namespace Go.Proofs.YtbahojdbmmjkcaaGreat
open Go Go.RowKit
def nth (xs:List Int) (k:Nat) :Int:=xs.getD k 0
def Nums (w:World) (A:Option Addr) (n:Nat) (xs:List Int) :Prop:=xs.length=n∧(0<n→∃b o,A=some ⟨b,o,none⟩∧b<w.heap.size∧∀k,k<n→w.cell? ⟨b,o+k,none⟩ =some (.int .i64 (nth xs k)))
theorem Nums.over {w w':World} {A:Option Addr} {n:Nat} {xs:List Int} (h:Nums w A n xs) (hb:Over w w') :Nums w' A n xs:=by
 refine⟨h.1,fun hn=> ?_⟩
 obtain ⟨b,o,hA,hlt,hc⟩ :=h.2 hn
 exact⟨b,o,hA,jgA hlt hb.size,fun k hk=> ((Jt hb).1 b _ hlt).trans (hc k hk)⟩
end Go.Proofs.YtbahojdbmmjkcaaGreat
namespace Go.Proofs.YtbahojdbmmjkcaaGreat
open Go Go.RowKit
variable {A:Option Addr} {n:Nat} {w w':World} {zs:List Int}
set_option maxRecDepth 100000
set_option maxHeartbeats 4000000
section
variable {P:Program} {n:Nat} {env:List (Nat×Value)} {w0:Bs} {Rs:List Res} {o:Oper}
variable {x y:Operand} {T T':TypeId} {p q:Int}
theorem uo (ho:o.op= .binOp .shr T x y T') (hx:ev env x=some (.int .u64 p)) (hy:ev env y=some (.int .u64 q)) (hq:0≤q) (hq2:q<64) :Qt P o n env w0 Rs (.int .u64 (p/2^q.toNat)) :=
 QY fun a w hf _=>by unfold execOp;simp only [ho,hf.ev hx,hf.ev hy];simp [go_sem]
theorem ko {k k':IntKind} {d:TypeDesc} (ho:o.op= .convert T T' x) (hs:P.underlying T=some d) (hd:P.underlying T'=some (.int k')) (hx:ev env x=some (.int k p)) (hw:k'.wrap p=p) :Qt P o n env w0 Rs (.int k' p) :=
 QY fun a w hf _=>by
  have h1: (convert T T' (.int k p)).run P w= .ok (.int k' p) w:=by
   unfold convert
   simp only [Sem.run_bind,run_underlying hs,run_underlying hd,Result.andThen_ok]
   simp [Conv.intToInt,hw]
  unfold execOp;simp only [ho,hf.ev hx];simp [go_sem,h1]
end
theorem uy (a:Int) (h1: -9223372036854775808≤a) (h2:a≤9223372036854775807) :IntKind.i64.wrap a=a:=by simp [IntKind.wrap,IntKind.bits,IntKind.signed];omega
theorem yW (a:Int) (h:0≤a) (h2:a<18446744073709551616) :IntKind.u64.wrap a=a:=by simp [IntKind.wrap,IntKind.bits,IntKind.signed];omega
def Byts (w:World) (A:Option Addr) (n:Nat) (zs:List Int) :Prop:=zs.length=n∧(∀z∈zs,0≤z∧z≤255)∧(0<n→∃b o,A=some ⟨b,o,none⟩∧b<w.heap.size∧∀k,k<n→w.cell? ⟨b,o+k,none⟩ =some (.int .u8 (nth zs k)))
theorem Byts.agree (h:Byts w A n zs) (hz:w.heap.size≤w'.heap.size) (ha:∀p,A=some p→w'.heap[p.block]? =w.heap[p.block]?) :Byts w' A n zs:=by
 refine⟨h.1,h.2.1,fun hn=> ?_⟩
 obtain ⟨b,o,rfl,hlt,hc⟩ :=h.2.2 hn
 refine⟨b,o,J,by omega,fun k hk=> ?_⟩
 rw [←hc k hk]
 have:=ha _ rfl
 simp only [World.cell?,this]
theorem Byts.over (h:Byts w A n zs) (hb:Over w w') :Byts w' A n zs:=by
 refine⟨h.1,h.2.1,fun hn=> ?_⟩
 obtain ⟨b,o,hA,hlt,hc⟩ :=h.2.2 hn
 exact⟨b,o,hA,jgA hlt hb.size,fun k hk=> ((Jt hb).1 b _ hlt).trans (hc k hk)⟩
theorem Byts.ovx {b:Nat} (h:Byts w A n zs) (ho:Ovx ⟨w,[b]⟩ w') (hne:0<n→∀p,A=some p→p.block≠b) :Byts w' A n zs:=by
 refine⟨h.1,h.2.1,fun hn=> ?_⟩
 obtain ⟨b',o,rfl,hlt,hc⟩ :=h.2.2 hn
 have hs:w.heap.size≤w'.heap.size:=ho.size
 have hb:=ho.block b' hlt (by simpa using hne hn _ rfl)
 refine⟨b',o,J,by omega,fun k hk=> ?_⟩
 rw [←hc k hk]
 simp only [World.cell?,hb]
def srcR (b:Nat) (A:Option Addr) (n c K:Nat) :Res where
 F:= (· =b)
 P:=fun w=>∃(k:Nat) (s:Int),k≤K∧0≤s∧s<18446744073709551616∧w.heap[b]? =some (.cells #[.slice A n c, .int .i64 (k:Int), .int .u64 s] 141 (0,0))
 low:=fun w h q hq=>by obtain ⟨k,s,_,_,_,hh⟩ :=h;exact hq▸JZ hh
 B:=0
 dep:=fun w w' h hz hb=>by
  obtain ⟨k,s,h1,h2,h3,hh⟩ :=h
  exact⟨k,s,h1,h2,h3,(hb b (JZ hh) (.inr rfl)).trans hh⟩
theorem srcR.more {b c K K':Nat} (h: (srcR b A n c K).P w) (hk:K≤K') : (srcR b A n c K').P w:=by
 obtain ⟨k,s,h1,h2⟩ :=h
 exact⟨k,s,jhi h1 hk,h2⟩
end Go.Proofs.YtbahojdbmmjkcaaGreat
