import Derived.Test.YtbahojdbmmjkcaaGreatSNums
import Derived.Test.YtbahojdbmmjkcaaGreatSNetS
import Derived.Lib.AppendZeros
import Derived.Test.YtbahojdbmmjkcaaGreatSSnapped
import Derived.Test.YtbahojdbmmjkcaaGreatSSimp
set_option linter.unusedVariables false
set_option linter.unusedSimpArgs false
namespace Go.Proofs.YtbahojdbmmjkcaaGreat
open Go Go.RowKit
variable {A:Option Addr} {b k:Nat} {w:World} {x:Operand} {xs ys:List Pn}
set_option maxRecDepth 100000
set_option maxHeartbeats 4000000
theorem Lq (A B:Option Addr) (n c m d:Nat) (xs ys:List Pn) (w:World) (h:Pts w A n xs) (h':Pts w B m ys) (hx:∀p∈xs,YZ p) (hy:∀p∈ys,YZ p) (hn:n≤1099511627776) (hm:m≤1099511627776) :
  Calls Tryz.prog 180 #[.slice A n c, .slice B m d, .func (.func 112) #[] #[]] w fun e w'=>e= .returned (.int .i64 (WW xs ys))∧Over w w':=by
 have hl:=h.1
 have hl':=h'.1
 refine jK (m:=39) (Tryz.func180) J J (lb J) ?_;refine S12 ?_;refine qj (X:=Nat) (fun k=>k≤n∧k≤m∧WW (xs.drop k) (ys.drop k) =WW xs ys) (fun k=>n- k) (fun k=> [(13, .int .i64 (k:Int))]) (kK [0,1,2,6,11,12]) 0 (⟨jie _,jie _,J⟩) ⟨J,sz⟩ ?_
 intro k hk L hL1
 refine v9 ?_
 obtain ⟨hk1,hk2,hk3⟩ :=hk
 refine S5 ?_;refine cZ (fun c1=> ?_) (fun c1=> ?_)
 ·have hlt:k<n:=Om
  obtain ⟨eb,eo,rfl,_⟩ :=h.2 Om
  refine S8 ?_;refine a9 (jk J J jj J (Q4 (b:=eb) (o:=eo) h hlt)) ?_;refine S1 ?_;refine aL (fun b1=> ?_);refine N12 ?_;refine cZ (fun c2=> ?_) (fun c2=> ?_)
  ·have hmk:m≤k:=Om
   refine S11 ?_;refine jJ J (.tmp J) ?_
   intro w' hs
   exact⟨by rw [←hk3,S0 Om Om],hs.fin⟩
  ·have hmk:k<m:=Om
   obtain ⟨fb,fo,rfl,_⟩ :=h'.2 Om
   refine S7 ?_;refine a9 (jk J J jj J (Q4 (b:=fb) (o:=fo) h' hmk)) ?_;refine S1 ?_;refine aL (fun b2=> ?_);refine N8 ?_;refine a9 (vV Wl J J J (fun w1 hs=>HE (pt xs k) (pt ys k) w1 (hx _ (by rw [←kB Om];exact jir _)) (hy _ (by rw [←kB Om];exact jir _)))) ?_;refine S7 ?_;refine cZ (fun c3=> ?_) (fun c3=> ?_)
   ·refine S11 ?_;refine jJ J (.tmp J) ?_
    intro w' hs
    exact⟨by rw [←hk3,Iw Om Om (fun e=>c3 (Uv.2 e))],hs.fin⟩
   ·refine S7 ?_
    exact qa hL1 (k+1) (⟨by omega,by omega,by rw [←Iv Om Om (Uv.1 Om)];exact hk3⟩) Om ⟨vi Om,sz⟩ (u9 J)
 ·have hkn:k=n:=Om
  refine S14 ?_;refine cZ (fun c4=> ?_) (fun c4=> ?_)
  ·refine S6 ?_;refine jJ J (.tmp J) ?_
   intro w' hs
   exact⟨by rw [←hk3,Xk Om Om,if_pos Om],hs.fin⟩
  ·refine S7 ?_;refine jJ J (.tmp J) ?_
   intro w' hs
   exact⟨by rw [←hk3,Xk Om Om,if_neg Om],hs.fin⟩
theorem zg (A B:Option Addr) (n c m d:Nat) (xs ys:List Pn) (w:World) (h:Pts w A n xs) (h':Pts w B m ys) (hx:∀p∈xs,YZ p) (hy:∀p∈ys,YZ p) (hn:n≤1099511627776) (hm:m≤1099511627776) :
  Calls Tryz.prog 119 #[.slice A n c, .slice B m d] w fun e w'=>e= .returned (.int .i64 (WW xs ys))∧Over w w':=by
 refine jK (m:=8) (Tryz.func119) J J (lb J) ?_;refine S8 ?_;refine a9 (jG kO J J (fun w1 hs=>Lq A B n c m d xs ys w1 (h.over hs.fin) (h'.over hs.fin) hx hy hn hm)) ?_;refine S3 ?_;refine jJ J (.tmp J) ?_
 intro w' hs
 exact⟨rfl,hs.fin⟩
theorem LP (A B:Option Addr) (n c m d:Nat) (xs ys:List Pn) (w:World) (h:Pts w A n xs) (h':Pts w B m ys) (hx:∀p∈xs,YZ p) (hy:∀p∈ys,YZ p) (hn:n≤1099511627776) (hm:m≤1099511627776) :
  Calls Tryz.prog 118 #[.agg #[.slice A n c], .agg #[.slice B m d]] w fun e w'=>e= .returned (.int .i64 (WW xs ys))∧Over w w':=by
 refine jK (m:=10) (Tryz.func118) J J (lb J) ?_;refine S3 ?_;refine aX (fun b1=> ?_);refine N1 ?_;refine aX (fun b2=> ?_);refine N8 ?_;refine a9 (jG Un J J (fun w1 hs=>zg A B n c m d xs ys w1 (h.over hs.fin) (h'.over hs.fin) hx hy hn hm)) ?_;refine S3 ?_;refine jJ J (.tmp J) ?_
 intro w' hs
 exact⟨rfl,hs.fin⟩
section
variable {P:Program} {n:Nat} {env:List (Nat×Value)} {w0:Bs} {Rs:List Res} {Q:Exit→Act→World→Prop} {K:Act→World→Prop} {o:Oper}
theorem OV {T U:TypeId} {m c s:Nat} (ho:o.op= .call {callee:= .builtin .cap,args:= #[x],argTypes:= #[T]}) (hx:ev env x=some (.slice A m c)) (hT:TyL P T U s) :Qt P o n env w0 Rs (.int .i64 (c:Int)) :=
 kC fun a w hF _=>by
  have hT:=hT.desc
  have hE:P.elem T=U:=by simp [Program.elem,hT]
  have:=run_cap_slice (P:=P) w T o.type A m c (by rw [hE];exact hT)
  unfold execOp
  simp only [ho,resolve,invoke,builtin,Sem.run_bind,Sem.run_pure,Result.andThen_ok,jix,jiv,jiF,hF.ev hx,this]
  rfl
theorem Tt {T Tn U s bytes m d:Nat} {kn:IntKind} {z:Value} {y:Operand} (ho:o.op= .call {callee:= .builtin .append,args:= #[x,y],argTypes:= #[T,Tn]}) (hT:TyL P T U s) (hN:P.underlying Tn=some (.int kn)) (hZ:TyZ P U s bytes z) (hs0:0<s) (hx:ev env x=some (.slice none 0 0)) (hy:ev env y=some (.int .i64 (m:Int))) (h0:0<m) (hm:m≤maxLen) (hb:m*bytes≤281474976710656) (hd:o.dst=some d) (hn:d<n) (h:∀b cap,At n ((d, .slice (some ⟨b,0,none⟩) m cap) ::env) w0 (Rs++ [JS 0 U s 0 [] (some ⟨b,0,none⟩,cap)]) K) :At n env w0 Rs (fun a w=>o.wp P a w K Q) :=fun a w hf hs=>by
 obtain ⟨i,hi,hz0,hz1,hz2⟩ :=hZ.info
 have hmx:m≤9223372036854775807:=by unfold maxLen at hm;omega
 have hr:=Go.Lib.run_append_nil_zeros (P:=P) w T Tn o.type U i z .i64 kn hT.desc hN hi hz0 m h0 Om Om (by rw [hz2];exact hb)
 have hrun: (execOp a.eval o).run P w= .ok (.value (.slice (some ⟨w.heap.size,0,none⟩) m (grownCap w m 0 U))) (w.drew.alloc (.cells (Builtin.zeroCells z.cells m++Builtin.zeroCells z.cells (grownCap w m 0 U- m)) U)) :=by
  unfold execOp
  simp only [ho,resolve,invoke,builtin,Sem.run_bind,Sem.run_pure,Result.andThen_ok,jix,jiv,jiF,hf.ev hx,hf.ev hy,hr]
 show o.upon P a K Q ((execOp a.eval o).run P w)
 rw [hrun,Oper.upon_value,hd]
 have hge:=grownCap_ge w m 0 U
 have hown: (w.drew.alloc (.cells (Builtin.zeroCells z.cells m++Builtin.zeroCells z.cells (grownCap w m 0 U- m)) U)).ownsRow 0 U s (.slice (some ⟨w.drew.heap.size,0,none⟩) 0 (grownCap w m 0 U)) 0 [] :=
  World.ownsRow_made w.drew _ _ (jie _) (grownCap_le_maxLen w m 0 U hm) (by
   rw [Array.size_append,size_zeroCells,size_zeroCells,hZ.cells,←Nat.add_mul]
   congr 1
   omega)
 exact h _ _ _ _ (hf.put hn _) (hs.add ((Over.refl w).drew_.alloc_ _) hown (fun b hb=> (hown.lt b hb).elim fun _ _=>by
  have:Value.ownBlock (.slice (some ⟨w.drew.heap.size,0,none⟩) 0 (grownCap w m 0 U)) =some b:=hb
  injection this with this
  rw [←this]
  exact jif _) ⟨jie _,fun _ _=>jie _⟩)
end
theorem jbe (m:Nat) (w:World) (h0:0<m) (hm:m≤1099511627776) :Calls Tryz.prog 230 #[.slice none 0 0, .int .i64 (m:Int)] w fun e w'=>∃v,e= .returned v∧w'.ownsRow w.heap.size 28 2 v 0 []∧Over w w':=by
 refine jK (m:=27) (Tryz.func230) J J (lb J) ?_;refine S10 ?_;refine cZ (fun c1=> ?_) (fun c1=> ?_)
 ·omega
 ·refine S7 ?_;refine a9 (OV J J jl) ?_;refine S11 ?_;refine cZ (fun c2=> ?_) (fun c2=> ?_)
  ·refine S3 ?_;refine a9 (OV J J jl) ?_;refine a9 ((QS (h:=0) J J J jl (jif _)).as (show sliced none 0 0 0 2= .slice none 0 0 from J)) ?_;refine S1 ?_;refine uE 21 (.int .i64 (m:Int)) J (congrArg _ Om) ?_;refine S1 ?_;refine Tt J jl Tryz.underlying3 jD Dc J J h0 (by unfold maxLen;omega) Om J Dc (fun gb gcap=> ?_);refine N2 ?_;refine a9 ((QS (h:=0) J J J jl (jie _)).as (vf _ _ _ _ _)) ?_;refine S8 ?_;refine jJ J (.tmp J) ?_
   intro w' hs
   have hr:=hs.all 0 _ rfl
   exact⟨_,rfl,Q5 hr.1 (fun b hb=> (hr.2.1 b hb).elim id (fun h=>by cases h)),hs.fin⟩
  ·omega
theorem jfb {Rs:List Res} {o:Nat} {v:Value} (hc:w.cell? ⟨b,o+k,none⟩ =some v) (hb:b<w.heap.size) (w':World) (hs:St ⟨w,[]⟩ Rs w') :w'.cell? ⟨b,o+k*1,none⟩ =some v:=by rw [jja];exact Qb hc hb w' hs
abbrev Sl:=Option Addr×Nat×List Pn
def sl (ss:List Sl) (k:Nat) :Sl:=ss.getD k (none,0,[])
def vy (ss:List Sl) (k:Nat) :List Pn:= (ss.take k).flatMap (·.2.2)
theorem MA {ss:List Sl} (h:k<ss.length) :vy ss (k+1) =vy ss k++ (sl ss k).2.2:=by
 unfold vy sl
 rw [jik h,jii]
 simp [List.getD,h]
theorem RX {ss:List Sl} {j:Nat} (h:k≤j) : (vy ss k).length≤(vy ss j).length:=by
 have e:ss.take k= (ss.take j).take k:=by rw [List.take_take,jiZ h]
 unfold vy
 rw [e]
 conv=>rhs;rw [←jiq k (ss.take j)]
 rw [jii,jid]
 omega
theorem Nd (b o N C:Nat) (ss:List Sl) (w:World) (hN:ss.length=N) (hb:b<w.heap.size) (hc:∀k,k<N→w.cell? ⟨b,o+k,none⟩ =some (.slice (sl ss k).1 (sl ss k).2.2.length (sl ss k).2.1)) (hp:∀k,k<N→Pts w (sl ss k).1 (sl ss k).2.2.length (sl ss k).2.2∧0< (sl ss k).2.2.length) (h0:0< (vy ss N).length) (hm: (vy ss N).length≤1048577) (hN2:N≤1048577) :
  Calls Tryz.prog 178 #[.slice (some ⟨b,o,none⟩) N C] w fun e w'=>∃v,e= .returned v∧w'.ownsRow w.heap.size 28 2 v (vy ss N).length ((vy ss N).flatMap jV)∧Over w w':=by
 refine jK (m:=36) (Tryz.func178) J J (lb J) ?_;refine S16 ?_;refine qj (X:=Nat) (fun k=>k≤N) (fun k=>N- k) (fun k=> [(3, .int .i64 ((vy ss k).length:Int)),(11, .int .i64 (k:Int))]) (kK [0,2,9,10]) 0 (jie _) ⟨J,sz⟩ ?_
 intro k hk L hL1
 refine V5 ?_;refine cZ (fun c1=> ?_) (fun c1=> ?_)
 ·have hlt:k<N:=Om
  have hst: (vy ss (k+1)).length= (vy ss k).length+ (sl ss k).2.2.length:= (by rw [MA Om,jid])
  have hle: (vy ss (k+1)).length≤(vy ss N).length:=RX Om
  refine S7 ?_;refine a9 (jq J J JV (jfb (hc k hlt) hb)) ?_;refine S15 ?_;refine cZ (fun c2=> ?_) (fun c2=> ?_)
  ·omega
  ·refine S7 ?_
   exact qa hL1 (k+1) Om Om ⟨vi Om,vi Om,sz⟩ (u9 J)
 ·have hkN:k=N:=Om
  subst hkN
  refine S9 ?_;refine JQ wY (v:=fun x=> .slice x.1 0 x.2) (r:=fun x=>JS 0 28 2 0 [] x) (H:=fun _=>True) J J J (lb J) (fun w1 hs=>qI (jbe _ w1 h0 Om)) ?_
  rintro⟨cA,cc⟩ -
  refine N10 ?_;refine JE (X:=Nat×Option Addr×Nat) (fun x=>x.1≤k) (fun x=>k- x.1) (fun x=> [(6, .slice x.2.1 (vy ss x.1).length x.2.2),(27, .int .i64 (x.1:Int))]) (kK [2,25,26]) (fun x=> [JS 0 28 2 (vy ss x.1).length ((vy ss x.1).flatMap jV) x.2]) (0,cA,cc) (jie _) ⟨J,sz⟩ (fun _ h=>h) ?_
  intro⟨j,rA,rc⟩ hj L hL2
  refine v9 ?_;refine r9 ?_
  have hj:j≤k:=hj
  refine S5 ?_;refine cZ (fun c3=> ?_) (fun c3=> ?_)
  ·have hlt:j<k:=Om
   have hst:vy ss (j+1) =vy ss j++ (sl ss j).2.2:=MA Om
   have hst2: (vy ss (j+1)).length= (vy ss j).length+ (sl ss j).2.2.length:= (by rw [hst,jid])
   have hle: (vy ss (j+1)).length≤(vy ss k).length:=RX Om
   refine S7 ?_;refine a9 (jq J J JV (jfb (hc j hlt) hb)) ?_;refine S6 ?_;refine JK (k:=0) J jl jD Dc J Dc J J J (fun w' hs=>Bh ((hp j hlt).1.over hs.fin) (hp j hlt).2) (Kf _) (by unfold maxLen;omega) Om (jie _) (fun r1=> ?_);refine N8 ?_
   exact Jd hL2 ((j+1,r1)) ((show j+1≤k by omega)) (by simp only;omega) ⟨(by rw [hst2];rfl),vi Om,sz⟩ (fun _ h=>h.upto ⟨by rw [hst2,hst,jii],trivial⟩)
  ·have hjk:j=k:=Om
   subst hjk
   refine S11 ?_;refine jJ J (.tmp J) ?_
   intro w' hs
   have hr:=hs.all 0 _ rfl
   exact⟨_,rfl,Q5 hr.1 (fun b hb=> (hr.2.1 b hb).elim id (fun h=>by cases h)),hs.fin⟩
theorem jfc (xs:List Pn) (k:Nat) :xs.drop k++xs.take k=U3 xs k:=rfl
theorem jhS {n U:Nat} {A1 A2:Option Addr} {c1 c2:Nat} (_e:xs.drop k++xs.take k=ys) (hb:w.heap[b]? =some (.cells [.slice A1 (n- k) c1, .slice A2 k c2].toArray U (0,0))) (h1:Pts w A1 (n- k) (xs.drop k)) (h2:Pts w A2 k (xs.take k)) (hk:1≤k) (hkn:k<n) (hl:xs.length=n) (hn:n≤1048577) :
  Calls Tryz.prog 178 #[.slice (some ⟨b,0,none⟩) 2 2] w fun e w'=>∃v,e= .returned v∧w'.ownsRow w.heap.size 28 2 v n (ys.flatMap jV)∧Over w w':=by
 have ex:vy [(A1,c1,xs.drop k),(A2,c2,xs.take k)] 2=ys:=by rw [←_e];simp [vy]
 have el:ys.length=n:=by rw [←_e];simp;omega
 have:=Nd b 0 2 2 [(A1,c1,xs.drop k),(A2,c2,xs.take k)] w rfl (J4 hb) (fun j hj=> ?_) (fun j hj=> ?_) (by rw [ex];omega) (by rw [ex];omega) Dc
 ·rw [ex,el] at this
  exact this
 ·rw [cell_of_row w b _ _ U (0,0) hb]
  match j,hj with
  | 0,_=>simp [sl,hl]
  | 1,_=>simp [sl];omega
 ·match j,hj with
  | 0,_=>simp only [sl,List.getD_cons_zero,h1.1];exact⟨h1,by omega⟩
  | 1,_=>simp only [sl,List.getD_cons_succ,List.getD_cons_zero,h2.1];exact⟨h2,by omega⟩
theorem Rj (A:Option Addr) (n c:Nat) (xs:List Pn) (w:World) (h:Pts w A n xs) (h0:0<n) (hc:n≤c) (hx:∀p∈xs,YZ p) (hn:n≤1048577) :
  Calls Tryz.prog 116 #[H6 A n c] w fun e w'=>∃v,e= .returned (.agg #[v])∧w'.ownsRow w.heap.size 28 2 v n ((Wz xs).flatMap jV)∧Over w w':=by
 have hl:=h.1
 have hbd:∀k p,p∈U3 xs k→YZ p:=fun k p hp=>hx p (C0.1 hp)
 refine jK (m:=43) (Tryz.func116) J J (lb J) ?_;refine S3 ?_;refine aX (fun b1=> ?_);refine N1 ?_;refine aL (fun b2=> ?_);refine N6 ?_;refine JQ KK (v:=fun x=> .slice x.1 n x.2) (r:=fun x=>JS 0 28 2 n _ x) (H:=fun _=>True) J J J (lb J) (fun w1 hs=>qI (Hx A n c xs w1 (h.over hs.fin) h0 hn)) ?_
 rintro⟨cA,cc⟩ -
 refine N8 ?_;refine JE (X:=Nat×Option Addr×Nat) (fun x=>1≤x.1∧x.1≤n) (fun x=>n- x.1) (fun x=> [(3, .slice x.2.1 n x.2.2),(4, .int .i64 (x.1:Int))]) (kK [1,2]) (fun x=> [.cel b1 74 [.slice A n c], .cel b2 74 [.slice none 0 0],JS 0 28 2 n ((U3 xs (vA xs x.1)).flatMap jV) x.2]) (1,cA,cc) (⟨jif _,h0⟩) ⟨J,sz⟩ (fun _ h=>h.upto ⟨J,J,by rw [Hl,jdk],trivial⟩) ?_
 intro⟨k,rA,rc⟩ hk L hL1
 refine v9 ?_;refine r9 ?_
 obtain ⟨hk1,hk2⟩ :1≤k∧k≤n:=hk
 have htk:=X5 xs k hk1
 refine S9 ?_;refine cZ (fun c1=> ?_) (fun c1=> ?_)
 ·have hlt:k<n:=Om
  obtain ⟨eb,eo,rfl,_⟩ :=h.2 h0
  refine qR (fun w hs=>kI (k:=2) J hs h0) ?_
  rintro⟨eg,rfl⟩
  refine S7 ?_;refine JH 10 ?_;refine dK 0 ?_;refine dK 1 ?_;refine dK 2 ?_;refine dK 3 ?_;refine dZ 4 J (jk J J jj J (Q4 (b:=eb) (o:=eo) h hlt)) ?_;refine dK 5 ?_;refine dZ 6 J (jH (j:=0) J J J jl Om) ?_;refine dZ 7 J (jk J J jj J (jdd (b:=eg) (o:=0) (j:=0) (fun w hs=>kE (hs.all 2 _ J).1 (by rw [wn,hl])) h0)) ?_;refine dZ 8 J (jG Wl J J (fun w1 hs=>HE (pt xs k) (pt (U3 xs (vA xs k)) 0) w1 (hx _ (by rw [←kB Om];exact jir _)) (hbd (vA xs k) _ (by rw [←kB (by rw [wn];omega)];exact jir _)))) ?_;refine dK 9 ?_;refine JB Kr ?_;refine S1 ?_;refine cZ (fun c2=> ?_) (fun c2=> ?_)
  ·refine S9 ?_
   exact Jd hL1 ((k+1,some ⟨eg,0,none⟩,rc)) (⟨show 1≤k+1 by omega,show k+1≤n by omega⟩) (by simp only;omega) ⟨J,vi Om,sz⟩ (fun _ h=>h.upto ⟨J,J,by rw [Bu (jaj (by rw [wn];omega) (by rw [wn];omega) (by rw [je5 Om];exact c2))],trivial⟩)
  ·refine S4 ?_;refine JH 11 ?_;refine dK 0 ?_;refine dK 1 ?_;refine dK 2 ?_;refine dZ 3 J ((KZ J J J jl Om).as (uY (b:=eb) (o:=eo) (l:=k) (h:=n) (m:=c) (s:=2) hc Om)) ?_;refine dK 4 ?_;refine dK 5 ?_;refine dK 6 ?_;refine dZ 7 J ((QS J J J jl Om).as (vf _ _ _ _ _)) ?_;refine qd (i:=8) J Dc Kr J ?_;refine jX J J (U8 J J) J (lb J) (fun b3=> ?_);refine n9 ?_;refine JU (u9 J) ?_;refine qd (i:=9) J Dc Kr J ?_;refine JQ wc (v:=fun x=> .slice x.1 n x.2) (r:=fun x=>JS 0 28 2 n ((U3 xs k).flatMap jV) x) (H:=fun _=>True) J J J (lb J) (fun w1 hs=>qI (jhS (jfc xs k) (hs.cel (k:=3) J) ((h.over hs.fin).dropT (k:=k) Om hc) ((h.over hs.fin).takeT (k:=k) Om) hk1 hlt hl hn)) ?_
   rintro⟨dA,dc⟩ -
   refine n9 ?_;refine JU (u9 J) ?_;refine dK 10 ?_;refine JB Kr ?_;refine S5 ?_;refine a9 (jG Un J J (fun w1 hs=>zg _ _ n _ n _ (U3 xs k) (U3 xs (vA xs k)) w1 (kE (hs.all 4 _ J).1 (by rw [wn,hl])) (kE (hs.all 2 _ J).1 (by rw [wn,hl])) (hbd _) (hbd _) Om Om)) ?_;refine S2 ?_;refine cZ (fun c3=> ?_) (fun c3=> ?_)
   ·refine S11 ?_
    exact Jd hL1 ((k+1,dA,dc)) (⟨show 1≤k+1 by omega,show k+1≤n by omega⟩) (by simp only;omega) ⟨J,vi Om,sz⟩ (fun _ h=> (h.picks [0,1,4] Dc).upto ⟨J,J,by rw [FG (decide_eq_true c3)],trivial⟩)
   ·refine S8 ?_
    exact Jd hL1 ((k+1,some ⟨eg,0,none⟩,rc)) (⟨show 1≤k+1 by omega,show k+1≤n by omega⟩) (by simp only;omega) ⟨J,vi Om,sz⟩ (fun _ h=>h.upto ⟨J,J,by rw [Bu (decide_eq_false Om)],trivial⟩)
 ·have hkn:k=n:=Om
  refine S8 ?_;refine a9 (JF J J (KW J)) ?_;refine S4 ?_;refine jJ J (JZ (k:=1) J JW J J) ?_
  intro w' hs
  have hr:=hs.all 2 _ rfl
  exact⟨_,rfl,Q5 (show _ by subst hkn;rw [Wz,hl];exact hr.1) (fun b hb=> (hr.2.1 b hb).elim id (fun h=>by cases h)),hs.fin⟩
theorem IG (i j n:Nat) : ((i:Int) + (j:Int)).tmod (n:Int) = (((i+j) % n:Nat) :Int) :=by
 rw [show(i:Int) + (j:Int) = ((i+j:Nat) :Int) by omega]
 rfl
theorem jfU {a:Nat} (h: (px xs a==px ys b&&py xs a==py ys b) =false) :pt xs a≠pt ys b:=fun e=>by
 injection e with e1 e2
 simp [e1,e2] at h
theorem jfS {a:Nat} (h: (px xs a==px ys b&&py xs a==py ys b) =true) :pt xs a=pt ys b:=by
 simp at h
 exact Prod.ext h.1 h.2
theorem HW (h1:k<xs.length) (h2:k<ys.length) (h:pt xs k≠pt ys k) (he:WW (xs.drop k) (ys.drop k) =WW xs ys) :decide (ww (pt xs k) (pt ys k)) =WX xs ys:=by
 unfold WX
 rw [←he,Iw h1 h2 h]
 exact decide_eq_decide.2 EB.symm
theorem Oa (A:Option Addr) (n c i k:Nat) (xs:List Pn) (w:World) (h:Pts w A n xs) (hi:i<n) (hk:k<n) (hn:n≤1099511627776) :
  Calls Tryz.prog 269 #[.slice A n c, .int .i64 (i:Int), .int .i64 (k:Int)] w fun e w'=>e= .returned (.bool (WX (U3 xs i) (U3 xs k)))∧Over w w':=by
 have hl:=h.1
 have hri: (U3 xs i).length=n:=wn.trans hl
 have hrk: (U3 xs k).length=n:=wn.trans hl
 refine jK (m:=40) (Tryz.func269) J J (lb J) ?_;refine S16 ?_;refine qj (X:=Nat) (fun j=>j≤n∧WW ((U3 xs i).drop j) ((U3 xs k).drop j) =WW (U3 xs i) (U3 xs k)) (fun j=>n- j) (fun j=> [(8, .int .i64 (j:Int))]) (kK [0,1,2,6,7]) 0 (⟨jie _,J⟩) ⟨J,sz⟩ ?_
 intro j hj L hL1
 refine v9 ?_
 obtain ⟨hj1,hj2⟩ :=hj
 refine S7 ?_;refine cZ (fun c1=> ?_) (fun c1=> ?_)
 ·have hlt:j<n:=Om
  obtain ⟨eb,eo,rfl,_⟩ :=h.2 Om
  have m1: (i+j) % n<n:=Nat.mod_lt _ Om
  have m2: (k+j) % n<n:=Nat.mod_lt _ Om
  have p1:pt (U3 xs i) j=pt xs ((i+j) % n) := (by rw [IT Om Om,hl])
  have p2:pt (U3 xs k) j=pt xs ((k+j) % n) := (by rw [IT Om Om,hl])
  refine S11 ?_;refine a9 ((IW J J J Om Om Om).as (congrArg _ (IG i j n))) ?_;refine a9 (jH (j:= (i+j) % n) J J J jl Om) ?_;refine a9 (jk J J jj J (Q4 (b:=eb) (o:=eo) h m1)) ?_;refine S1 ?_;refine aL (fun b1=> ?_);refine N10 ?_;refine a9 ((IW J J J Om Om Om).as (congrArg _ (IG k j n))) ?_;refine a9 (jH (j:= (k+j) % n) J J J jl Om) ?_;refine a9 (jk J J jj J (Q4 (b:=eb) (o:=eo) h m2)) ?_;refine S1 ?_;refine aL (fun b2=> ?_);refine N9 ?_;refine cZ (fun c2=> ?_) (fun c2=> ?_)
  ·have hne:pt (U3 xs i) j≠pt (U3 xs k) j:= (by rw [p1,p2];exact jfU c2)
   refine S4 ?_;refine a9 (jG Kn J J (fun w1 hs=>wO (pt xs ((i+j) % n)) (pt xs ((k+j) % n)) w1)) ?_;refine S8 ?_;refine jJ J (.tmp J) ?_
   intro w' hs
   exact⟨by rw [←HW Om Om hne hj2,p1,p2],hs.fin⟩
  ·have hne:pt (U3 xs i) j=pt (U3 xs k) j:= (by rw [p1,p2];exact jfS c2)
   refine S8 ?_
   exact qa hL1 (j+1) (⟨by omega,by rw [←Iv Om Om hne];exact hj2⟩) Om ⟨vi Om,sz⟩ (u9 J)
 ·refine S10 ?_;refine jJ J (.tmp J) ?_
  intro w' hs
  exact⟨by rw [WX,←hj2,Xk Om Om,if_neg Om];rfl,hs.fin⟩
theorem Db (bb oo:Nat) (A:Option Addr) (n c:Nat) (xs:List Pn) (w:World) (hcell:w.cell? ⟨bb,oo,none⟩ =some (.slice A n c)) (hbB:bb<w.heap.size) (h:Pts w A n xs) (h0:0<n) (hn:n≤1048577) :
  Calls Tryz.prog 236 #[.pointer (some ⟨bb,oo,none⟩)] w fun e w'=>∃v,e= .returned (.agg #[v])∧w'.ownsRow w.heap.size 28 2 v n ((Wz xs).flatMap jV)∧Over w w':=by
 have hl:=h.1
 have htn:=X5 xs n h0
 obtain ⟨eb,eo,rfl,_⟩ :=h.2 h0
 have hrl: (U3 xs (vA xs n)).length=n:=wn.trans hl
 refine jK (m:=49) (Tryz.func236) J J (lb J) ?_;refine S3 ?_;refine aL (fun b1=> ?_);refine N6 ?_;refine a9 (jq J J JV (kH hcell hbB)) ?_;refine S13 ?_;refine qj (X:=Nat) (fun k=>1≤k∧k≤n) (fun k=>n- k) (fun k=> [(4, .int .i64 ((vA xs k:Nat) :Int)),(5, .int .i64 (k:Int))]) (kK [0,2,3]) 1 (⟨jif _,h0⟩) ⟨vi (by rw [Hl];rfl),sz⟩ ?_
 intro k hk L hL1
 refine v9 ?_
 have htk:=X5 xs k hk.1
 refine S7 ?_;refine cZ (fun c1=> ?_) (fun c1=> ?_)
 ·refine S9 ?_;refine a9 (jq J J JV (kH hcell hbB)) ?_;refine S2 ?_;refine a9 (jG xw J J (fun w1 hs=>Oa _ n c k (vA xs k) xs w1 (h.over hs.fin) Om Om Om)) ?_;refine S1 ?_;refine cZ (fun c2=> ?_) (fun c2=> ?_)
  ·refine S11 ?_
   exact qa hL1 (k+1) Om Om ⟨vi (by rw [FG c2]),vi Om,sz⟩ (u9 J)
  ·refine S8 ?_
   exact qa hL1 (k+1) Om Om ⟨vi (by rw [Bu c2]),vi Om,sz⟩ (u9 J)
 ·have hkn:k=n:=Om
  subst hkn
  refine S7 ?_;refine a9 (JF J J (Wd)) ?_;refine S1 ?_;refine aL (fun b2=> ?_);refine N3 ?_;refine Q7 (T:=28) (s:=2) ?_;refine t9 ?_;refine S6 ?_;refine JE (X:=Nat×Option Addr×Nat) (fun y=>y.1≤k) (fun y=>k- y.1) (fun y=> [(7, .int .i64 (y.1:Int))]) (kK [0,2,3,4,6]) (fun y=> [.cel b1 74 [.slice none 0 0], .cel b2 74 [.slice y.2.1 y.1 y.2.2],JS (Bs.N ⟨w,[]⟩) 28 2 y.1 (((U3 xs (vA xs k)).take y.1).flatMap jV) y.2]) (0,none,0) (jie _) ⟨J,sz⟩ (fun _ h=>h) ?_
  intro⟨j,qA,qc⟩ hy L hL2
  refine v9 ?_;refine r9 ?_
  have hj:j≤k:=hy
  refine S7 ?_;refine cZ (fun c3=> ?_) (fun c3=> ?_)
  ·have hjl:j<k:=Om
   have m1: (vA xs k+j) % k<k:=Nat.mod_lt _ Om
   refine S5 ?_;refine JH 14 ?_;refine dV 0 [1] ?_;refine dK 1 ?_;refine dV 2 [3,4,5,11,12,13] ?_;refine dV 3 [4,5,11,12,13] ?_;refine dV 4 [5,11,12,13] ?_;refine d9 5 J [11,12,13] (u9 J) (jq J J JV (kH hcell hbB)) ?_;refine dV 6 [8,10,11,12,13] ?_;refine dV 7 [8,10,11,12,13] ?_;refine dV 8 [10,11,12,13] ?_;refine dV 9 [10,11,12,13] ?_;refine d9 10 J [11,12,13] (u9 J) ((IW J J J Om Om Om).as (congrArg _ (IG (vA xs k) j k))) ?_;refine d9 11 J [12,13] (u9 J) (jH (j:= (vA xs k+j) % k) J J J jl Om) ?_;refine d9 12 J [13] (u9 J) (jk J J jj J (Q4 (b:=eb) (o:=eo) h m1)) ?_;refine qd (i:=13) J Dc Kr J ?_;refine jX J J (J9 J) J (lb J) (fun b3=> ?_);refine n9 ?_;refine JU (u9 J) ?_;refine kN J Kr J ?_;refine JK (k:=2) J jl jD Dc J Dc J J J (fun w' hs=>qD hs (k:=3) J J) (by simp [Value.oneCell']) (by unfold maxLen;omega) Om (jif _) (fun r1=> ?_);refine n9 ?_;refine Q0 17 [1] ?_;refine dK 15 ?_;refine qd (i:=16) J Dc Kr J ?_;refine S1 ?_;refine JU (uw [1] J) ?_;refine JB Kr ?_;refine S7 ?_
   exact Jd hL2 ((j+1,r1)) ((show j+1≤k by omega)) (by simp only;omega) ⟨vi Om,sz⟩ (fun _ h=>h.upto ⟨J,J,by have:=Dn (xs:=xs) (k:=vA xs k) (j:=j) Om Om;rw [hl] at this;rw [←this];rfl,trivial⟩)
  ·have hje:j=k:=Om
   subst hje
   rw [jiu Om]
   refine S12 ?_;refine jJ J (JZ (k:=0) J JW J J) ?_
   intro w' hs
   have hr:=hs.all 2 _ rfl
   exact⟨_,rfl,Q5 (show _ by rw [Wz,hl];exact hr.1) (fun b hb=> (hr.2.1 b hb).elim id (fun h=>by cases h)),hs.fin⟩
theorem SW (b1 o1 b2 o2:Nat) (A B:Option Addr) (n c m d:Nat) (xs ys:List Pn) (w:World) (h1c:w.cell? ⟨b1,o1,none⟩ =some (.slice A n c)) (hb1:b1<w.heap.size) (h2c:w.cell? ⟨b2,o2,none⟩ =some (.slice B m d)) (hb2:b2<w.heap.size) (h:Pts w A n xs) (h':Pts w B m ys) (hn:n≤1099511627776) (hm:m≤1099511627776) :
  Calls Tryz.prog 237 #[.pointer (some ⟨b1,o1,none⟩), .pointer (some ⟨b2,o2,none⟩)] w fun e w'=>e= .returned (.bool (WX xs ys))∧Over w w':=by
 have hl:=h.1
 have hl':=h'.1
 refine jK (m:=65) (Tryz.func237) J J (lb J) ?_;refine S10 ?_;refine qj (X:=Nat) (fun k=>k≤n∧k≤m∧WW (xs.drop k) (ys.drop k) =WW xs ys) (fun k=>n- k) (fun k=> [(5, .int .i64 (k:Int))]) (kK [0,1,4]) 0 (⟨jie _,jie _,J⟩) ⟨J,sz⟩ ?_
 intro k hk L hL1
 refine v9 ?_
 obtain ⟨hk1,hk2,hk3⟩ :=hk
 refine S1 ?_;refine qr [(21, .bool (decide (k<n) &&decide (k<m)))] (kK [0,1,4,5]) (fun L h_2=> ?_) ?_
 ·refine S5 ?_;refine a9 (jq rfl rfl JV (by first | exact kH h1c hb1 | exact kH h2c hb2)) ?_;refine S3 ?_;refine cV 13 (fun g1=> ?_) (fun g1=> ?_)
  ·refine S9 ?_;refine o9 (jq rfl rfl JV (by first | exact kH h1c hb1 | exact kH h2c hb2)) ?_;refine S6 ?_
   exact Js h_2 ⟨vb (by rw [show decide (k<n) =true from decide_eq_true Om,jiJ];exact decide_eq_decide.2 Om),sz⟩ (u9 J)
  ·refine S9 ?_
   exact Js h_2 ⟨vb (by rw [show decide (k<n) =false from decide_eq_false Om,jiS]),sz⟩ (u9 J)
 ·refine v9 ?_;refine cZ (fun c1=> ?_) (fun c1=> ?_)
  ·simp only [jig,decide_eq_true_eq] at c1
   obtain ⟨hlt,hmk⟩ :=c1
   obtain ⟨eb,eo,rfl,_⟩ :=h.2 Om
   obtain ⟨fb,fo,rfl,_⟩ :=h'.2 Om
   refine S6 ?_;refine JH 15 ?_;refine dK 0 ?_;refine dK 1 ?_;refine dK 2 ?_;refine dZ 3 rfl (jq rfl rfl JV (by first | exact kH h1c hb1 | exact kH h2c hb2)) ?_;refine dK 4 ?_;refine dK 5 ?_;refine dZ 6 J (jk J J jj J (Q4 (b:=eb) (o:=eo) h hlt)) ?_;refine dK 7 ?_;refine dK 8 ?_;refine dK 9 ?_;refine dZ 10 rfl (jq rfl rfl JV (by first | exact kH h1c hb1 | exact kH h2c hb2)) ?_;refine dK 11 ?_;refine dK 12 ?_;refine dZ 13 J (jk J J jj J (Q4 (b:=fb) (o:=fo) h' hmk)) ?_;refine dK 14 ?_;refine JB Kr ?_;refine S1 ?_;refine cZ (fun c2=> ?_) (fun c2=> ?_)
   ·refine S2 ?_;refine JH 16 ?_;refine dK 0 ?_;refine dK 1 ?_;refine dK 2 ?_;refine dZ 3 rfl (jq rfl rfl JV (by first | exact kH h1c hb1 | exact kH h2c hb2)) ?_;refine dK 4 ?_;refine dK 5 ?_;refine dZ 6 J (jk J J jj J (Q4 (b:=eb) (o:=eo) h hlt)) ?_;refine dK 7 ?_;refine dK 8 ?_;refine dK 9 ?_;refine dZ 10 rfl (jq rfl rfl JV (by first | exact kH h1c hb1 | exact kH h2c hb2)) ?_;refine dK 11 ?_;refine dK 12 ?_;refine dZ 13 J (jk J J jj J (Q4 (b:=fb) (o:=fo) h' hmk)) ?_;refine dZ 14 J (jG Kn J J (fun w1 hs=>wO (pt xs k) (pt ys k) w1)) ?_;refine dK 15 ?_;refine JB Kr ?_;refine S7 ?_;refine jJ J (.tmp J) ?_
    intro w' hs
    exact⟨by rw [←HW Om Om (jfU c2) hk3],hs.fin⟩
   ·refine S8 ?_
    exact qa hL1 (k+1) (⟨by omega,by omega,by rw [←Iv Om Om (jfS c2)];exact hk3⟩) Om ⟨vi Om,sz⟩ (u9 J)
  ·simp only [jjS,decide_eq_false_iff_not] at c1
   refine S7 ?_;refine JH 12 ?_;refine dK 0 ?_;refine dK 1 ?_;refine dK 2 ?_;refine dZ 3 rfl (jq rfl rfl JV (by first | exact kH h1c hb1 | exact kH h2c hb2)) ?_;refine dK 4 ?_;refine dK 5 ?_;refine dK 6 ?_;refine dK 7 ?_;refine dZ 8 rfl (jq rfl rfl JV (by first | exact kH h1c hb1 | exact kH h2c hb2)) ?_;refine dK 9 ?_;refine dK 10 ?_;refine dK 11 ?_;refine JB Kr ?_;refine S2 ?_;refine jJ J (.tmp J) ?_
   intro w' hs
   refine⟨?_,hs.fin⟩
   unfold WX
   rw [←hk3]
   by_cases hkn:k<n
   ·rw [S0 Om Om];exact congrArg (fun b=>Ending.returned (Value.bool b)) (decide_eq_decide.2 Om)
   ·rw [Xk Om Om];split<;>exact congrArg (fun b=>Ending.returned (Value.bool b)) (decide_eq_decide.2 Om)
end Go.Proofs.YtbahojdbmmjkcaaGreat
namespace Go.Proofs.YtbahojdbmmjkcaaGreat
open Go Go.RowKit
end Go.Proofs.YtbahojdbmmjkcaaGreat
