import Derived.Test.YtkagkgjjfdkoaaaGreatMSortLg
import Derived.Test.YtkagkgjjfdkoaaaGreatMOrd
import Derived.Lib.AppendZeros
import Derived.Test.YtkagkgjjfdkoaaaGreatMSnapped
import Derived.Test.YtkagkgjjfdkoaaaGreatMSimp
import Derived.Test.YtkagkgjjfdkoaaaGreatMHot
set_option linter.unusedVariables false
set_option linter.unusedSimpArgs false
namespace Go.Proofs.YtkagkgjjfdkoaaaGreat
open Go Go.RowKit
set_option maxRecDepth 100000
set_option maxHeartbeats 4000000
theorem Hc (A B:Option Addr) (n c m d:Nat) (xs ys:List Pn) (w:World) (h:Pts w A n xs) (h':Pts w B m ys) (hx:∀p∈xs,zJ p) (hy:∀p∈ys,zJ p) (hn:n≤1099511627776) (hm:m≤1099511627776) :
  Calls Tryz.prog 126 #[.slice A n c, .slice B m d, .func (.func 76) #[] #[]] w fun e w'=>e= .returned (.int .i64 (WG xs ys))∧Over w w':=by
 have hl:=h.1
 have hl':=h'.1
 refine jU (m:=39) (Tryz.func126) J J (lb J) ?_;refine S12 ?_;refine qi (X:=Nat) (fun k=>k≤n∧k≤m∧WG (xs.drop k) (ys.drop k) =WG xs ys) (fun k=>n- k) (fun k=> [(13, .int .i64 (k:Int))]) (kK [0,1,2,6,11,12]) 0 (⟨jeE _,jeE _,J⟩) ⟨J,sz⟩ ?_
 intro k hk L hL1
 refine v9 ?_
 obtain ⟨hk1,hk2,hk3⟩ :=hk
 refine S5 ?_;refine cZ (fun c1=> ?_) (fun c1=> ?_)
 ·have hlt:k<n:= (by omega)
  obtain ⟨eb,eo,rfl,_⟩ :=h.2 (by omega)
  refine S8 ?_;refine a9 (jj J J jl J (Vm (b:=eb) (o:=eo) h hlt)) ?_;refine S1 ?_;refine aL (fun b1=> ?_);refine N12 ?_;refine cZ (fun c2=> ?_) (fun c2=> ?_)
  ·have hmk:m≤k:= (by omega)
   refine S11 ?_;refine jL J (.tmp J) ?_
   intro w' hs
   exact⟨by rw [←hk3,II (by omega) (by omega)],hs.fin⟩
  ·have hmk:k<m:= (by omega)
   obtain ⟨fb,fo,rfl,_⟩ :=h'.2 (by omega)
   refine S7 ?_;refine a9 (jj J J jl J (Vm (b:=fb) (o:=fo) h' hmk)) ?_;refine S1 ?_;refine aL (fun b2=> ?_);refine N8 ?_;refine a9 (vM Wc J J J (fun w1 hs=>Gx (pt xs k) (pt ys k) w1 (hx _ (by rw [←Kl (by omega)];exact jeW _)) (hy _ (by rw [←Kl (by omega)];exact jeW _)))) ?_;refine S7 ?_;refine cZ (fun c3=> ?_) (fun c3=> ?_)
   ·refine S11 ?_;refine jL J (.tmp J) ?_
    intro w' hs
    exact⟨by rw [←hk3,Dz (by omega) (by omega) (fun e=>c3 (uV.2 e))],hs.fin⟩
   ·refine S7 ?_
    exact J8 hL1 (k+1) (⟨by omega,by omega,by rw [←Dy (by omega) (by omega) (uV.1 (by omega))];exact hk3⟩) (by omega) ⟨vi (by omega),sz⟩ (u9 J)
 ·have hkn:k=n:= (by omega)
  refine S14 ?_;refine cZ (fun c4=> ?_) (fun c4=> ?_)
  ·refine S6 ?_;refine jL J (.tmp J) ?_
   intro w' hs
   exact⟨by rw [←hk3,xx (by omega) (by omega),if_pos (by omega)],hs.fin⟩
  ·refine S7 ?_;refine jL J (.tmp J) ?_
   intro w' hs
   exact⟨by rw [←hk3,xx (by omega) (by omega),if_neg (by omega)],hs.fin⟩
theorem Yz (A B:Option Addr) (n c m d:Nat) (xs ys:List Pn) (w:World) (h:Pts w A n xs) (h':Pts w B m ys) (hx:∀p∈xs,zJ p) (hy:∀p∈ys,zJ p) (hn:n≤1099511627776) (hm:m≤1099511627776) :
  Calls Tryz.prog 82 #[.slice A n c, .slice B m d] w fun e w'=>e= .returned (.int .i64 (WG xs ys))∧Over w w':=by
 refine jU (m:=8) (Tryz.func82) J J (lb J) ?_;refine S8 ?_;refine a9 (jH ko J J (fun w1 hs=>Hc A B n c m d xs ys w1 (h.over hs.fin) (h'.over hs.fin) hx hy hn hm)) ?_;refine S3 ?_;refine jL J (.tmp J) ?_
 intro w' hs
 exact⟨rfl,hs.fin⟩
theorem HC (A B:Option Addr) (n c m d:Nat) (xs ys:List Pn) (w:World) (h:Pts w A n xs) (h':Pts w B m ys) (hx:∀p∈xs,zJ p) (hy:∀p∈ys,zJ p) (hn:n≤1099511627776) (hm:m≤1099511627776) :
  Calls Tryz.prog 81 #[.agg #[.slice A n c], .agg #[.slice B m d]] w fun e w'=>e= .returned (.int .i64 (WG xs ys))∧Over w w':=by
 refine jU (m:=10) (Tryz.func81) J J (lb J) ?_;refine S3 ?_;refine aX (fun b1=> ?_);refine N1 ?_;refine aX (fun b2=> ?_);refine N8 ?_;refine a9 (jH uK J J (fun w1 hs=>Yz A B n c m d xs ys w1 (h.over hs.fin) (h'.over hs.fin) hx hy hn hm)) ?_;refine S3 ?_;refine jL J (.tmp J) ?_
 intro w' hs
 exact⟨rfl,hs.fin⟩
section
variable {P:Program} {n:Nat} {env:List (Nat×Value)} {w0:Bs} {Rs:List Res} {Q:Exit→Act→World→Prop} {K:Act→World→Prop} {o:Oper}
theorem Mo {x:Operand} {T U:TypeId} {A:Option Addr} {m c s:Nat} (ho:o.op= .call {callee:= .builtin .cap,args:= #[x],argTypes:= #[T]}) (hx:ev env x=some (.slice A m c)) (hT:TyL P T U s) :Qt P o n env w0 Rs (.int .i64 (c:Int)) :=
 QV fun a w hF _=>by
  have hT:=hT.desc
  have hE:P.elem T=U:=by simp [Program.elem,hT]
  have:=run_cap_slice (P:=P) w T o.type A m c (by rw [hE];exact hT)
  unfold execOp
  simp only [ho,resolve,invoke,builtin,Sem.run_bind,Sem.run_pure,Result.andThen_ok,je1,jeZ,jfc,hF.ev hx,this]
  rfl
theorem I0 {T Tn U s bytes m d:Nat} {kn:IntKind} {z:Value} {x y:Operand} (ho:o.op= .call {callee:= .builtin .append,args:= #[x,y],argTypes:= #[T,Tn]}) (hT:TyL P T U s) (hN:P.underlying Tn=some (.int kn)) (hZ:TyZ P U s bytes z) (hs0:0<s)
  (hx:ev env x=some (.slice none 0 0)) (hy:ev env y=some (.int .i64 (m:Int))) (h0:0<m) (hm:m≤maxLen) (hb:m*bytes≤281474976710656) (hd:o.dst=some d) (hn:d<n)
  (h:∀b cap,At n ((d, .slice (some ⟨b,0,none⟩) m cap) ::env) w0 (Rs++ [JP 0 U s 0 [] (some ⟨b,0,none⟩,cap)]) K) :At n env w0 Rs (fun a w=>o.wp P a w K Q) :=fun a w hf hs=>by
 obtain ⟨i,hi,hz0,hz1,hz2⟩ :=hZ.info
 have hmx:m≤9223372036854775807:=by unfold maxLen at hm;omega
 have hr:=Go.Lib.run_append_nil_zeros (P:=P) w T Tn o.type U i z .i64 kn hT.desc hN hi hz0 m h0 (by omega) (by omega) (by rw [hz2];exact hb)
 have hrun: (execOp a.eval o).run P w= .ok (.value (.slice (some ⟨w.heap.size,0,none⟩) m (grownCap w m 0 U))) (w.drew.alloc (.cells (Builtin.zeroCells z.cells m++Builtin.zeroCells z.cells (grownCap w m 0 U- m)) U)) :=by
  unfold execOp
  simp only [ho,resolve,invoke,builtin,Sem.run_bind,Sem.run_pure,Result.andThen_ok,je1,jeZ,jfc,hf.ev hx,hf.ev hy,hr]
 show o.upon P a K Q ((execOp a.eval o).run P w)
 rw [hrun,Oper.upon_value,hd]
 have hge:=grownCap_ge w m 0 U
 have hown: (w.drew.alloc (.cells (Builtin.zeroCells z.cells m++Builtin.zeroCells z.cells (grownCap w m 0 U- m)) U)).ownsRow 0 U s (.slice (some ⟨w.drew.heap.size,0,none⟩) 0 (grownCap w m 0 U)) 0 [] :=
  World.ownsRow_made w.drew _ _ (jeE _) (grownCap_le_maxLen w m 0 U hm) (by
   rw [Array.size_append,size_zeroCells,size_zeroCells,hZ.cells,←Nat.add_mul]
   congr 1
   omega)
 exact h _ _ _ _ (hf.put hn _) (hs.add ((Over.refl w).drew_.alloc_ _) hown (fun b hb=> (hown.lt b hb).elim fun _ _=>by
  have:Value.ownBlock (.slice (some ⟨w.drew.heap.size,0,none⟩) 0 (grownCap w m 0 U)) =some b:=hb
  injection this with this
  rw [←this]
  exact jeD _) ⟨jeE _,fun _ _=>jeE _⟩)
end
theorem Ch (m:Nat) (w:World) (h0:0<m) (hm:m≤1099511627776) :Calls Tryz.prog 163 #[.slice none 0 0, .int .i64 (m:Int)] w fun e w'=>∃v,e= .returned v∧w'.ownsRow w.heap.size 54 2 v 0 []∧Over w w':=by
 refine jU (m:=27) (Tryz.func163) J J (lb J) ?_;refine S10 ?_;refine cZ (fun c1=> ?_) (fun c1=> ?_)
 ·omega
 ·refine S7 ?_;refine a9 (Mo J J jt) ?_;refine S11 ?_;refine cZ (fun c2=> ?_) (fun c2=> ?_)
  ·refine S3 ?_;refine a9 (Mo J J jt) ?_;refine a9 ((kb (h:=0) J J J jt (jeD _)).as (show sliced none 0 0 0 2= .slice none 0 0 from J)) ?_;refine S1 ?_;refine kx 21 (.int .i64 (m:Int)) J (congrArg _ (by omega)) ?_;refine S1 ?_;refine I0 J jt Tryz.underlying3 jO (by decide) J J h0 (by unfold maxLen;omega) (by omega) J (by decide) (fun gb gcap=> ?_);refine N2 ?_;refine a9 ((kb (h:=0) J J J jt (jeE _)).as (VG _ _ _ _ _)) ?_;refine S8 ?_;refine jL J (.tmp J) ?_
   intro w' hs
   have hr:=hs.all 0 _ rfl
   exact⟨_,rfl,KS hr.1 (fun b hb=> (hr.2.1 b hb).elim id (fun h=>by cases h)),hs.fin⟩
  ·omega
theorem jb6 {w:World} {Rs:List Res} {b o k:Nat} {v:Value} (hc:w.cell? ⟨b,o+k,none⟩ =some v) (hb:b<w.heap.size) (w':World) (hs:St ⟨w,[]⟩ Rs w') :w'.cell? ⟨b,o+k*1,none⟩ =some v:=by rw [jfz];exact qU hc hb w' hs
abbrev Sl:=Option Addr×Nat×List Pn
def sl (ss:List Sl) (k:Nat) :Sl:=ss.getD k (none,0,[])
def vm (ss:List Sl) (k:Nat) :List Pn:= (ss.take k).flatMap (·.2.2)
theorem Ls {ss:List Sl} {k:Nat} (h:k<ss.length) :vm ss (k+1) =vm ss k++ (sl ss k).2.2:=by
 unfold vm sl
 rw [jeS h,jeQ]
 simp [List.getD,h]
theorem FQ {ss:List Sl} {k j:Nat} (h:k≤j) : (vm ss k).length≤(vm ss j).length:=by
 have e:ss.take k= (ss.take j).take k:=by rw [List.take_take,jfI h]
 unfold vm
 rw [e]
 conv=>rhs;rw [←jeU k (ss.take j)]
 rw [jeQ,jeC]
 omega
theorem RG (b o N C:Nat) (ss:List Sl) (w:World) (hN:ss.length=N) (hb:b<w.heap.size) (hc:∀k,k<N→w.cell? ⟨b,o+k,none⟩ =some (.slice (sl ss k).1 (sl ss k).2.2.length (sl ss k).2.1)) (hp:∀k,k<N→Pts w (sl ss k).1 (sl ss k).2.2.length (sl ss k).2.2∧0< (sl ss k).2.2.length)
  (h0:0< (vm ss N).length) (hm: (vm ss N).length≤1048577) (hN2:N≤1048577) :
  Calls Tryz.prog 124 #[.slice (some ⟨b,o,none⟩) N C] w fun e w'=>∃v,e= .returned v∧w'.ownsRow w.heap.size 54 2 v (vm ss N).length ((vm ss N).flatMap j7)∧Over w w':=by
 refine jU (m:=36) (Tryz.func124) J J (lb J) ?_;refine S16 ?_;refine qi (X:=Nat) (fun k=>k≤N) (fun k=>N- k) (fun k=> [(3, .int .i64 ((vm ss k).length:Int)),(11, .int .i64 (k:Int))]) (kK [0,2,9,10]) 0 (jeE _) ⟨J,sz⟩ ?_
 intro k hk L hL1
 refine V5 ?_;refine cZ (fun c1=> ?_) (fun c1=> ?_)
 ·have hlt:k<N:= (by omega)
  have hst: (vm ss (k+1)).length= (vm ss k).length+ (sl ss k).2.2.length:= (by rw [Ls (by omega),jeC])
  have hle: (vm ss (k+1)).length≤(vm ss N).length:=FQ (by omega)
  refine S7 ?_;refine a9 (jr J J JG (jb6 (hc k hlt) hb)) ?_;refine S15 ?_;refine cZ (fun c2=> ?_) (fun c2=> ?_)
  ·omega
  ·refine S7 ?_
   exact J8 hL1 (k+1) (by omega) (by omega) ⟨vi (by omega),vi (by omega),sz⟩ (u9 J)
 ·have hkN:k=N:= (by omega)
  subst hkN
  refine S9 ?_;refine jP wQ (v:=fun x=> .slice x.1 0 x.2) (r:=fun x=>JP 0 54 2 0 [] x) (H:=fun _=>True) J J J (lb J) (fun w1 hs=>qS (Ch _ w1 h0 (by omega))) ?_
  rintro⟨cA,cc⟩ -
  refine N10 ?_;refine JI (X:=Nat×Option Addr×Nat) (fun x=>x.1≤k) (fun x=>k- x.1) (fun x=> [(6, .slice x.2.1 (vm ss x.1).length x.2.2),(27, .int .i64 (x.1:Int))]) (kK [2,25,26]) (fun x=> [JP 0 54 2 (vm ss x.1).length ((vm ss x.1).flatMap j7) x.2]) (0,cA,cc) (jeE _) ⟨J,sz⟩ (fun _ h=>h) ?_
  intro⟨j,rA,rc⟩ hj L hL2
  refine v9 ?_;refine ji (by first | (dsimp only;done) | (dsimp only;rfl) | rfl) ?_
  have hj:j≤k:=hj
  refine S5 ?_;refine cZ (fun c3=> ?_) (fun c3=> ?_)
  ·have hlt:j<k:= (by omega)
   have hst:vm ss (j+1) =vm ss j++ (sl ss j).2.2:=Ls (by omega)
   have hst2: (vm ss (j+1)).length= (vm ss j).length+ (sl ss j).2.2.length:= (by rw [hst,jeC])
   have hle: (vm ss (j+1)).length≤(vm ss k).length:=FQ (by omega)
   refine S7 ?_;refine a9 (jr J J JG (jb6 (hc j hlt) hb)) ?_;refine S6 ?_;refine JL (k:=0) J jt jO (by decide) J (by decide) J J J (fun w' hs=>ME ((hp j hlt).1.over hs.fin) (hp j hlt).2) (Kk _) (by unfold maxLen;omega) (by omega) (jeE _) (fun r1=> ?_);refine N8 ?_
   exact j8 hL2 ((j+1,r1)) ((show j+1≤k by omega)) (by simp only;omega) ⟨(by rw [hst2];rfl),vi (by omega),sz⟩ (fun _ h=>h.upto ⟨by rw [hst2,hst,jeQ],trivial⟩)
  ·have hjk:j=k:= (by omega)
   subst hjk
   refine S11 ?_;refine jL J (.tmp J) ?_
   intro w' hs
   have hr:=hs.all 0 _ rfl
   exact⟨_,rfl,KS hr.1 (fun b hb=> (hr.2.1 b hb).elim id (fun h=>by cases h)),hs.fin⟩
theorem jb7 (xs:List Pn) (k:Nat) :xs.drop k++xs.take k=Uy xs k:=rfl
theorem jec {b n k U:Nat} {A1 A2:Option Addr} {c1 c2:Nat} {xs ys:List Pn} {w:World} (_e:xs.drop k++xs.take k=ys) (hb:w.heap[b]? =some (.cells [.slice A1 (n- k) c1, .slice A2 k c2].toArray U (0,0))) (h1:Pts w A1 (n- k) (xs.drop k)) (h2:Pts w A2 k (xs.take k)) (hk:1≤k) (hkn:k<n) (hl:xs.length=n) (hn:n≤1048577) :
  Calls Tryz.prog 124 #[.slice (some ⟨b,0,none⟩) 2 2] w fun e w'=>∃v,e= .returned v∧w'.ownsRow w.heap.size 54 2 v n (ys.flatMap j7)∧Over w w':=by
 have ex:vm [(A1,c1,xs.drop k),(A2,c2,xs.take k)] 2=ys:=by rw [←_e];simp [vm]
 have el:ys.length=n:=by rw [←_e];simp;omega
 have:=RG b 0 2 2 [(A1,c1,xs.drop k),(A2,c2,xs.take k)] w rfl (JQ hb) (fun j hj=> ?_) (fun j hj=> ?_) (by rw [ex];omega) (by rw [ex];omega) (by decide)
 ·rw [ex,el] at this
  exact this
 ·rw [cell_of_row w b _ _ U (0,0) hb]
  match j,hj with
  | 0,_=>simp [sl,hl]
  | 1,_=>simp [sl];omega
 ·match j,hj with
  | 0,_=>simp only [sl,List.getD_cons_zero,h1.1];exact⟨h1,by omega⟩
  | 1,_=>simp only [sl,List.getD_cons_succ,List.getD_cons_zero,h2.1];exact⟨h2,by omega⟩
theorem Fe (A:Option Addr) (n c:Nat) (xs:List Pn) (w:World) (h:Pts w A n xs) (h0:0<n) (hc:n≤c) (hx:∀p∈xs,zJ p) (hn:n≤1048577) :
  Calls Tryz.prog 79 #[YX A n c] w fun e w'=>∃v,e= .returned (.agg #[v])∧w'.ownsRow w.heap.size 54 2 v n ((Wl xs).flatMap j7)∧Over w w':=by
 have hl:=h.1
 have hbd:∀k p,p∈Uy xs k→zJ p:=fun k p hp=>hx p (T6.1 hp)
 refine jU (m:=43) (Tryz.func79) J J (lb J) ?_;refine S3 ?_;refine aX (fun b1=> ?_);refine N1 ?_;refine aL (fun b2=> ?_);refine N6 ?_;refine jP Ku (v:=fun x=> .slice x.1 n x.2) (r:=fun x=>JP 0 54 2 n _ x) (H:=fun _=>True) J J J (lb J) (fun w1 hs=>qS (Gr A n c xs w1 (h.over hs.fin) h0 hn)) ?_
 rintro⟨cA,cc⟩ -
 refine N8 ?_;refine JI (X:=Nat×Option Addr×Nat) (fun x=>1≤x.1∧x.1≤n) (fun x=>n- x.1) (fun x=> [(3, .slice x.2.1 n x.2.2),(4, .int .i64 (x.1:Int))]) (kK [1,2]) (fun x=> [.cel b1 71 [.slice A n c], .cel b2 71 [.slice none 0 0],JP 0 54 2 n ((Uy xs (vo xs x.1)).flatMap j7) x.2]) (1,cA,cc) (⟨jeD _,h0⟩) ⟨J,sz⟩ (fun _ h=>h.upto ⟨J,J,by rw [Gk,jao],trivial⟩) ?_
 intro⟨k,rA,rc⟩ hk L hL1
 refine v9 ?_;refine ji (by first | (dsimp only;done) | (dsimp only;rfl) | rfl) ?_
 obtain ⟨hk1,hk2⟩ :1≤k∧k≤n:=hk
 have htk:=Xq xs k hk1
 refine S9 ?_;refine cZ (fun c1=> ?_) (fun c1=> ?_)
 ·have hlt:k<n:= (by omega)
  obtain ⟨eb,eo,rfl,_⟩ :=h.2 h0
  refine QF (fun w hs=>K2 (k:=2) J hs h0) ?_
  rintro⟨eg,rfl⟩
  refine S7 ?_;refine Jw 10 ?_;refine dK 0 ?_;refine dK 1 ?_;refine dK 2 ?_;refine dK 3 ?_;refine dZ 4 J (jj J J jl J (Vm (b:=eb) (o:=eo) h hlt)) ?_;refine dK 5 ?_;refine dZ 6 J (jT (j:=0) J J J jt (by omega)) ?_;refine dZ 7 J (jj J J jl J (Mq (b:=eg) (o:=0) (j:=0) (fun w hs=>vx (hs.all 2 _ J).1 (by rw [wd,hl])) h0)) ?_;refine dZ 8 J (jH Wc J J (fun w1 hs=>Gx (pt xs k) (pt (Uy xs (vo xs k)) 0) w1 (hx _ (by rw [←Kl (by omega)];exact jeW _)) (hbd (vo xs k) _ (by rw [←Kl (by rw [wd];omega)];exact jeW _)))) ?_;refine dK 9 ?_;refine Jj (by kernel_rfl) ?_;refine S1 ?_;refine cZ (fun c2=> ?_) (fun c2=> ?_)
  ·refine S9 ?_
   exact j8 hL1 ((k+1,some ⟨eg,0,none⟩,rc)) (⟨show 1≤k+1 by omega,show k+1≤n by omega⟩) (by simp only;omega) ⟨J,vi (by omega),sz⟩ (fun _ h=>h.upto ⟨J,J,by rw [MP (Pg (by rw [wd];omega) (by rw [wd];omega) (by rw [jbZ (by omega)];exact c2))],trivial⟩)
  ·refine S4 ?_;refine Jw 11 ?_;refine dK 0 ?_;refine dK 1 ?_;refine dK 2 ?_;refine dZ 3 J ((KL J J J jt (by omega)).as (wg (b:=eb) (o:=eo) (l:=k) (h:=n) (m:=c) (s:=2) hc (by omega))) ?_;refine dK 4 ?_;refine dK 5 ?_;refine dK 6 ?_;refine dZ 7 J ((kb J J J jt (by omega)).as (VG _ _ _ _ _)) ?_;refine Jh (i:=8) J (by decide) (by kernel_rfl) J ?_;refine Jp J J (UC J J) J (lb J) (fun b3=> ?_);refine n9 ?_;refine jJ (u9 J) ?_;refine Jh (i:=9) J (by decide) (by kernel_rfl) J ?_;refine jP VU (v:=fun x=> .slice x.1 n x.2) (r:=fun x=>JP 0 54 2 n ((Uy xs k).flatMap j7) x) (H:=fun _=>True) J J J (lb J) (fun w1 hs=>qS (jec (jb7 xs k) (hs.cel (k:=3) J) ((h.over hs.fin).dropT (k:=k) (by omega) hc) ((h.over hs.fin).takeT (k:=k) (by omega)) hk1 hlt hl hn)) ?_
   rintro⟨dA,dc⟩ -
   refine n9 ?_;refine jJ (u9 J) ?_;refine dK 10 ?_;refine Jj (by kernel_rfl) ?_;refine S5 ?_;refine a9 (jH uK J J (fun w1 hs=>Yz _ _ n _ n _ (Uy xs k) (Uy xs (vo xs k)) w1 (vx (hs.all 4 _ J).1 (by rw [wd,hl])) (vx (hs.all 2 _ J).1 (by rw [wd,hl])) (hbd _) (hbd _) (by omega) (by omega))) ?_;refine S2 ?_;refine cZ (fun c3=> ?_) (fun c3=> ?_)
   ·refine S11 ?_
    exact j8 hL1 ((k+1,dA,dc)) (⟨show 1≤k+1 by omega,show k+1≤n by omega⟩) (by simp only;omega) ⟨J,vi (by omega),sz⟩ (fun _ h=> (h.picks [0,1,4] (by decide)).upto ⟨J,J,by rw [BO (decide_eq_true c3)],trivial⟩)
   ·refine S8 ?_
    exact j8 hL1 ((k+1,some ⟨eg,0,none⟩,rc)) (⟨show 1≤k+1 by omega,show k+1≤n by omega⟩) (by simp only;omega) ⟨J,vi (by omega),sz⟩ (fun _ h=>h.upto ⟨J,J,by rw [MP (decide_eq_false (by omega))],trivial⟩)
 ·have hkn:k=n:= (by omega)
  refine S8 ?_;refine a9 (JV J J (KH J)) ?_;refine S4 ?_;refine jL J (J3 (k:=1) J JH J J) ?_
  intro w' hs
  have hr:=hs.all 2 _ rfl
  exact⟨_,rfl,KS (show _ by subst hkn;rw [Wl,hl];exact hr.1) (fun b hb=> (hr.2.1 b hb).elim id (fun h=>by cases h)),hs.fin⟩
theorem DH (i j n:Nat) : ((i:Int) + (j:Int)).tmod (n:Int) = (((i+j) % n:Nat) :Int) :=by
 rw [show(i:Int) + (j:Int) = ((i+j:Nat) :Int) by omega]
 rfl
theorem jcJ {xs ys:List Pn} {a b:Nat} (h: (px xs a==px ys b&&py xs a==py ys b) =false) :pt xs a≠pt ys b:=fun e=>by
 injection e with e1 e2
 simp [e1,e2] at h
theorem jcH {xs ys:List Pn} {a b:Nat} (h: (px xs a==px ys b&&py xs a==py ys b) =true) :pt xs a=pt ys b:=by
 simp at h
 exact Prod.ext h.1 h.2
theorem GL {xs ys:List Pn} {k:Nat} (h1:k<xs.length) (h2:k<ys.length) (h:pt xs k≠pt ys k) (he:WG (xs.drop k) (ys.drop k) =WG xs ys) :decide (wq (pt xs k) (pt ys k)) =WH xs ys:=by
 unfold WH
 rw [←he,Dz h1 h2 h]
 exact decide_eq_decide.2 NA.symm
theorem LQ (A:Option Addr) (n c i k:Nat) (xs:List Pn) (w:World) (h:Pts w A n xs) (hi:i<n) (hk:k<n) (hn:n≤1099511627776) :
  Calls Tryz.prog 147 #[.slice A n c, .int .i64 (i:Int), .int .i64 (k:Int)] w fun e w'=>e= .returned (.bool (WH (Uy xs i) (Uy xs k)))∧Over w w':=by
 have hl:=h.1
 have hri: (Uy xs i).length=n:=wd.trans hl
 have hrk: (Uy xs k).length=n:=wd.trans hl
 refine jU (m:=40) (Tryz.func147) J J (lb J) ?_;refine S16 ?_;refine qi (X:=Nat) (fun j=>j≤n∧WG ((Uy xs i).drop j) ((Uy xs k).drop j) =WG (Uy xs i) (Uy xs k)) (fun j=>n- j) (fun j=> [(8, .int .i64 (j:Int))]) (kK [0,1,2,6,7]) 0 (⟨jeE _,J⟩) ⟨J,sz⟩ ?_
 intro j hj L hL1
 refine v9 ?_
 obtain ⟨hj1,hj2⟩ :=hj
 refine S7 ?_;refine cZ (fun c1=> ?_) (fun c1=> ?_)
 ·have hlt:j<n:= (by omega)
  obtain ⟨eb,eo,rfl,_⟩ :=h.2 (by omega)
  have m1: (i+j) % n<n:=Nat.mod_lt _ (by omega)
  have m2: (k+j) % n<n:=Nat.mod_lt _ (by omega)
  have p1:pt (Uy xs i) j=pt xs ((i+j) % n) := (by rw [DT (by omega) (by omega),hl])
  have p2:pt (Uy xs k) j=pt xs ((k+j) % n) := (by rw [DT (by omega) (by omega),hl])
  refine S11 ?_;refine a9 ((YV J J J (by omega) (by omega) (by omega)).as (congrArg _ (DH i j n))) ?_;refine a9 (jT (j:= (i+j) % n) J J J jt (by omega)) ?_;refine a9 (jj J J jl J (Vm (b:=eb) (o:=eo) h m1)) ?_;refine S1 ?_;refine aL (fun b1=> ?_);refine N10 ?_;refine a9 ((YV J J J (by omega) (by omega) (by omega)).as (congrArg _ (DH k j n))) ?_;refine a9 (jT (j:= (k+j) % n) J J J jt (by omega)) ?_;refine a9 (jj J J jl J (Vm (b:=eb) (o:=eo) h m2)) ?_;refine S1 ?_;refine aL (fun b2=> ?_);refine N9 ?_;refine cZ (fun c2=> ?_) (fun c2=> ?_)
  ·have hne:pt (Uy xs i) j≠pt (Uy xs k) j:= (by rw [p1,p2];exact jcJ c2)
   refine S4 ?_;refine a9 (jH kT J J (fun w1 hs=>wK (pt xs ((i+j) % n)) (pt xs ((k+j) % n)) w1)) ?_;refine S8 ?_;refine jL J (.tmp J) ?_
   intro w' hs
   exact⟨by rw [←GL (by omega) (by omega) hne hj2,p1,p2],hs.fin⟩
  ·have hne:pt (Uy xs i) j=pt (Uy xs k) j:= (by rw [p1,p2];exact jcH c2)
   refine S8 ?_
   exact J8 hL1 (j+1) (⟨by omega,by rw [←Dy (by omega) (by omega) hne];exact hj2⟩) (by omega) ⟨vi (by omega),sz⟩ (u9 J)
 ·refine S10 ?_;refine jL J (.tmp J) ?_
  intro w' hs
  exact⟨by rw [WH,←hj2,xx (by omega) (by omega),if_neg (by omega)];rfl,hs.fin⟩
theorem Oq (bb oo:Nat) (A:Option Addr) (n c:Nat) (xs:List Pn) (w:World) (hcell:w.cell? ⟨bb,oo,none⟩ =some (.slice A n c)) (hbB:bb<w.heap.size) (h:Pts w A n xs) (h0:0<n) (hn:n≤1048577) :
  Calls Tryz.prog 101 #[.pointer (some ⟨bb,oo,none⟩)] w fun e w'=>∃v,e= .returned (.agg #[v])∧w'.ownsRow w.heap.size 54 2 v n ((Wl xs).flatMap j7)∧Over w w':=by
 have hl:=h.1
 have htn:=Xq xs n h0
 obtain ⟨eb,eo,rfl,_⟩ :=h.2 h0
 have hrl: (Uy xs (vo xs n)).length=n:=wd.trans hl
 refine jU (m:=49) (Tryz.func101) J J (lb J) ?_;refine S3 ?_;refine aL (fun b1=> ?_);refine N6 ?_;refine a9 (jr J J JG (QM hcell hbB)) ?_;refine S13 ?_;refine qi (X:=Nat) (fun k=>1≤k∧k≤n) (fun k=>n- k) (fun k=> [(4, .int .i64 ((vo xs k:Nat) :Int)),(5, .int .i64 (k:Int))]) (kK [0,2,3]) 1 (⟨jeD _,h0⟩) ⟨vi (by rw [Gk];rfl),sz⟩ ?_
 intro k hk L hL1
 refine v9 ?_
 have htk:=Xq xs k hk.1
 refine S7 ?_;refine cZ (fun c1=> ?_) (fun c1=> ?_)
 ·refine S9 ?_;refine a9 (jr J J JG (QM hcell hbB)) ?_;refine S2 ?_;refine a9 (jH ZF J J (fun w1 hs=>LQ _ n c k (vo xs k) xs w1 (h.over hs.fin) (by omega) (by omega) (by omega))) ?_;refine S1 ?_;refine cZ (fun c2=> ?_) (fun c2=> ?_)
  ·refine S11 ?_
   exact J8 hL1 (k+1) (by omega) (by omega) ⟨vi (by rw [BO c2]),vi (by omega),sz⟩ (u9 J)
  ·refine S8 ?_
   exact J8 hL1 (k+1) (by omega) (by omega) ⟨vi (by rw [MP c2]),vi (by omega),sz⟩ (u9 J)
 ·have hkn:k=n:= (by omega)
  subst hkn
  refine S7 ?_;refine a9 (JV J J (wX)) ?_;refine S1 ?_;refine aL (fun b2=> ?_);refine N3 ?_;refine kz (T:=54) (s:=2) ?_;refine ji (by simp only [jeL,jeG,jeM,jeO,jeJ,jeI,Value.cells,jeK];rfl) ?_;refine S6 ?_;refine JI (X:=Nat×Option Addr×Nat) (fun y=>y.1≤k) (fun y=>k- y.1) (fun y=> [(7, .int .i64 (y.1:Int))]) (kK [0,2,3,4,6]) (fun y=> [.cel b1 71 [.slice none 0 0], .cel b2 71 [.slice y.2.1 y.1 y.2.2],JP (Bs.N ⟨w,[]⟩) 54 2 y.1 (((Uy xs (vo xs k)).take y.1).flatMap j7) y.2]) (0,none,0) (jeE _) ⟨J,sz⟩ (fun _ h=>h) ?_
  intro⟨j,qA,qc⟩ hy L hL2
  refine v9 ?_;refine ji (by first | (dsimp only;done) | (dsimp only;rfl) | rfl) ?_
  have hj:j≤k:=hy
  refine S7 ?_;refine cZ (fun c3=> ?_) (fun c3=> ?_)
  ·have hjl:j<k:= (by omega)
   have m1: (vo xs k+j) % k<k:=Nat.mod_lt _ (by omega)
   refine S5 ?_;refine Jw 14 ?_;refine dV 0 [1] ?_;refine dK 1 ?_;refine dV 2 [3,4,5,11,12,13] ?_;refine dV 3 [4,5,11,12,13] ?_;refine dV 4 [5,11,12,13] ?_;refine d9 5 J [11,12,13] (u9 J) (jr J J JG (QM hcell hbB)) ?_;refine dV 6 [8,10,11,12,13] ?_;refine dV 7 [8,10,11,12,13] ?_;refine dV 8 [10,11,12,13] ?_;refine dV 9 [10,11,12,13] ?_;refine d9 10 J [11,12,13] (u9 J) ((YV J J J (by omega) (by omega) (by omega)).as (congrArg _ (DH (vo xs k) j k))) ?_;refine d9 11 J [12,13] (u9 J) (jT (j:= (vo xs k+j) % k) J J J jt (by omega)) ?_;refine d9 12 J [13] (u9 J) (jj J J jl J (Vm (b:=eb) (o:=eo) h m1)) ?_;refine Jh (i:=13) J (by decide) (by kernel_rfl) J ?_;refine Jp J J (qP J) J (lb J) (fun b3=> ?_);refine n9 ?_;refine jJ (u9 J) ?_;refine K4 J (by kernel_rfl) J ?_;refine JL (k:=2) J jt jO (by decide) J (by decide) J J J (fun w' hs=>q6 hs (k:=3) J J) (by simp [Value.oneCell']) (by unfold maxLen;omega) (by omega) (jeD _) (fun r1=> ?_);refine n9 ?_;refine Q8 17 [1] ?_;refine dK 15 ?_;refine Jh (i:=16) J (by decide) (by kernel_rfl) J ?_;refine S1 ?_;refine jJ (uw [1] J) ?_;refine Jj (by kernel_rfl) ?_;refine S7 ?_
   exact j8 hL2 ((j+1,r1)) ((show j+1≤k by omega)) (by simp only;omega) ⟨vi (by omega),sz⟩ (fun _ h=>h.upto ⟨J,J,by have:=OA (xs:=xs) (k:=vo xs k) (j:=j) (by omega) (by omega);rw [hl] at this;rw [←this];rfl,trivial⟩)
  ·have hje:j=k:= (by omega)
   subst hje
   rw [jfb (by omega)]
   refine S12 ?_;refine jL J (J3 (k:=0) J JH J J) ?_
   intro w' hs
   have hr:=hs.all 2 _ rfl
   exact⟨_,rfl,KS (show _ by rw [Wl,hl];exact hr.1) (fun b hb=> (hr.2.1 b hb).elim id (fun h=>by cases h)),hs.fin⟩
theorem ID (b1 o1 b2 o2:Nat) (A B:Option Addr) (n c m d:Nat) (xs ys:List Pn) (w:World) (h1c:w.cell? ⟨b1,o1,none⟩ =some (.slice A n c)) (hb1:b1<w.heap.size) (h2c:w.cell? ⟨b2,o2,none⟩ =some (.slice B m d)) (hb2:b2<w.heap.size)
  (h:Pts w A n xs) (h':Pts w B m ys) (hn:n≤1099511627776) (hm:m≤1099511627776) :
  Calls Tryz.prog 102 #[.pointer (some ⟨b1,o1,none⟩), .pointer (some ⟨b2,o2,none⟩)] w fun e w'=>e= .returned (.bool (WH xs ys))∧Over w w':=by
 have hl:=h.1
 have hl':=h'.1
 refine jU (m:=65) (Tryz.func102) J J (lb J) ?_;refine S10 ?_;refine qi (X:=Nat) (fun k=>k≤n∧k≤m∧WG (xs.drop k) (ys.drop k) =WG xs ys) (fun k=>n- k) (fun k=> [(5, .int .i64 (k:Int))]) (kK [0,1,4]) 0 (⟨jeE _,jeE _,J⟩) ⟨J,sz⟩ ?_
 intro k hk L hL1
 refine v9 ?_
 obtain ⟨hk1,hk2,hk3⟩ :=hk
 refine S1 ?_;refine qd [(21, .bool (decide (k<n) &&decide (k<m)))] (kK [0,1,4,5]) (fun L h_2=> ?_) ?_
 ·refine S5 ?_;refine a9 (jr rfl rfl JG (by first | exact QM h1c hb1 | exact QM h2c hb2)) ?_;refine S3 ?_;refine cV 13 (fun g1=> ?_) (fun g1=> ?_)
  ·refine S9 ?_;refine o9 (jr rfl rfl JG (by first | exact QM h1c hb1 | exact QM h2c hb2)) ?_;refine S6 ?_
   exact Jb h_2 ⟨vb (by rw [show decide (k<n) =true from decide_eq_true (by omega),jfe];exact decide_eq_decide.2 (by omega)),sz⟩ (u9 J)
  ·refine S9 ?_
   exact Jb h_2 ⟨vb (by rw [show decide (k<n) =false from decide_eq_false (by omega),jfp]),sz⟩ (u9 J)
 ·refine v9 ?_;refine cZ (fun c1=> ?_) (fun c1=> ?_)
  ·simp only [jeF,decide_eq_true_eq] at c1
   obtain ⟨hlt,hmk⟩ :=c1
   obtain ⟨eb,eo,rfl,_⟩ :=h.2 (by omega)
   obtain ⟨fb,fo,rfl,_⟩ :=h'.2 (by omega)
   refine S6 ?_;refine Jw 15 ?_;refine dK 0 ?_;refine dK 1 ?_;refine dK 2 ?_;refine dZ 3 rfl (jr rfl rfl JG (by first | exact QM h1c hb1 | exact QM h2c hb2)) ?_;refine dK 4 ?_;refine dK 5 ?_;refine dZ 6 J (jj J J jl J (Vm (b:=eb) (o:=eo) h hlt)) ?_;refine dK 7 ?_;refine dK 8 ?_;refine dK 9 ?_;refine dZ 10 rfl (jr rfl rfl JG (by first | exact QM h1c hb1 | exact QM h2c hb2)) ?_;refine dK 11 ?_;refine dK 12 ?_;refine dZ 13 J (jj J J jl J (Vm (b:=fb) (o:=fo) h' hmk)) ?_;refine dK 14 ?_;refine Jj (by kernel_rfl) ?_;refine S1 ?_;refine cZ (fun c2=> ?_) (fun c2=> ?_)
   ·refine S2 ?_;refine Jw 16 ?_;refine dK 0 ?_;refine dK 1 ?_;refine dK 2 ?_;refine dZ 3 rfl (jr rfl rfl JG (by first | exact QM h1c hb1 | exact QM h2c hb2)) ?_;refine dK 4 ?_;refine dK 5 ?_;refine dZ 6 J (jj J J jl J (Vm (b:=eb) (o:=eo) h hlt)) ?_;refine dK 7 ?_;refine dK 8 ?_;refine dK 9 ?_;refine dZ 10 rfl (jr rfl rfl JG (by first | exact QM h1c hb1 | exact QM h2c hb2)) ?_;refine dK 11 ?_;refine dK 12 ?_;refine dZ 13 J (jj J J jl J (Vm (b:=fb) (o:=fo) h' hmk)) ?_;refine dZ 14 J (jH kT J J (fun w1 hs=>wK (pt xs k) (pt ys k) w1)) ?_;refine dK 15 ?_;refine Jj (by kernel_rfl) ?_;refine S7 ?_;refine jL J (.tmp J) ?_
    intro w' hs
    exact⟨by rw [←GL (by omega) (by omega) (jcJ c2) hk3],hs.fin⟩
   ·refine S8 ?_
    exact J8 hL1 (k+1) (⟨by omega,by omega,by rw [←Dy (by omega) (by omega) (jcH c2)];exact hk3⟩) (by omega) ⟨vi (by omega),sz⟩ (u9 J)
  ·simp only [jgj,decide_eq_false_iff_not] at c1
   refine S7 ?_;refine Jw 12 ?_;refine dK 0 ?_;refine dK 1 ?_;refine dK 2 ?_;refine dZ 3 rfl (jr rfl rfl JG (by first | exact QM h1c hb1 | exact QM h2c hb2)) ?_;refine dK 4 ?_;refine dK 5 ?_;refine dK 6 ?_;refine dK 7 ?_;refine dZ 8 rfl (jr rfl rfl JG (by first | exact QM h1c hb1 | exact QM h2c hb2)) ?_;refine dK 9 ?_;refine dK 10 ?_;refine dK 11 ?_;refine Jj (by kernel_rfl) ?_;refine S2 ?_;refine jL J (.tmp J) ?_
   intro w' hs
   refine⟨?_,hs.fin⟩
   unfold WH
   rw [←hk3]
   by_cases hkn:k<n
   ·rw [II (by omega) (by omega)];exact congrArg (fun b=>Ending.returned (Value.bool b)) (decide_eq_decide.2 (by omega))
   ·rw [xx (by omega) (by omega)];split<;>exact congrArg (fun b=>Ending.returned (Value.bool b)) (decide_eq_decide.2 (by omega))
theorem jdD {w:World} {B N T s n:Nat} {v:Value} {xs:List Value} (h:w.ownsRow B T s v n xs) (hN:∀b,v.ownBlock=some b→N≤b) :w.ownsRow N T s v n xs:=by
 refine⟨h.1,?_⟩
 rcases h.2 with e |⟨g,cap,cur,rfl,hb,rest⟩
 ·exact .inl e
 ·exact .inr ⟨g,cap,cur,rfl,hN g rfl,rest⟩
theorem jem {B T s n B' T' s' n':Nat} {xs xs':List Value} {A:Option Addr} {c b:Nat} (h: (JP B T s n xs (A,c)).F b) : (JP B' T' s' n' xs' (A,c)).F b:=by
 cases A<;>exact h
theorem Ge (A:Option Addr) (n c:Nat) (xs:List (Int×Int)) (w:World) (h:Pts w A n xs) (hx:okPts xs) (h0:0<n) :
  Calls Tryz.prog 88 #[.slice A n c] w fun e w'=>∃v,e= .returned v∧w'.ownsRow w.heap.size 54 2 v (Qx xs).length ((Qx xs).flatMap j7)∧Over w w':=by
 have hl:=h.1
 have hn:=hx.1
 refine jU (m:=48) (Tryz.func88) J J (lb J) ?_;refine S8 ?_;refine jP Ku (v:=fun x=> .slice x.1 _ x.2) (r:=fun x=>JP 0 54 2 _ _ x) (H:=fun _=>True) J J J (lb J) (fun w1 hs=>qS (Gr A _ c xs w1 (h.over hs.fin) h0 (by omega))) ?_
 rintro⟨cA,cc⟩ -
 refine N3 ?_;refine JI (X:=List (Int×Int)×Option Addr×Nat) (fun x=>Qx x.1=Qx xs∧okPts x.1) (fun x=>x.1.length) (fun x=> [(3, .slice x.2.1 x.1.length x.2.2)]) (kK [2]) (fun x=> [JP 0 54 2 x.1.length (x.1.flatMap j7) x.2]) (xs,(cA,cc)) (⟨J,hx⟩) ⟨by rw [←hl];rfl,sz⟩ (fun _ h=>h.upto ⟨by rw [←hl],trivial⟩) ?_
 intro⟨ys,yA,yc⟩ hy L hL1
 refine v9 ?_;refine ji (by first | (dsimp only;done) | (dsimp only;rfl) | rfl) ?_
 obtain ⟨hse,hok⟩ :Qx ys=Qx xs∧okPts ys:=hy
 have hyl:=hok.1
 refine S11 ?_;refine qd [(5, .int .i64 (YF ys))] (kK [2,3,9,10,4]) (fun L h_2=> ?_) ?_
 ·refine S7 ?_;refine qi (X:=Nat) (fun k=>k≤ys.length∧∀j,j<k→¬Gj ys j=0) (fun k=>ys.length- k) (fun k=> [(13, .int .i64 (k:Int))]) (kK [2,3,9,10,4,5,11,12]) 0 (⟨jeE _,fun j hj=>absurd hj (by omega)⟩) ⟨J,sz⟩ ?_
  intro k hk L hL2
  refine V5 ?_;refine cZ (fun c1=> ?_) (fun c1=> ?_)
  ·have hlt:k<ys.length:= (by omega)
   have hp1:=jcK (xs:=ys) k (by omega)
   have hp2:=LX (xs:=ys) k (by omega)
   refine QF (fun w hs=>K2 (k:=0) J hs (by omega)) ?_
   rintro⟨eg,rfl⟩
   refine S10 ?_;refine UL mixed (by kernel_rfl) (fun _ _ d _ _ h=>by cases d<;>exact h) ?_;refine x9 q9 ?_;refine x9 q9 ?_;refine x9 q9 ?_;refine x9 p9 ?_;refine x9 m9 ?_;refine x9 q9 ?_;refine x9 ((YV J J J (by omega) (by omega) (by omega)).as (congrArg _ (jad J (by omega) k))) ?_;refine x9 (jT J J J jt (by omega)) ?_;refine x9 (jj J J jl J (Mq (fun w' hs=>vx (hs.all 0 _ J).1 J) hp1)) ?_;refine x9 q9 ?_;refine x9 q9 ?_;refine x9 (jT J J J jt (by omega)) ?_;refine x9 (jj J J jl J (Mq (fun w' hs=>vx (hs.all 0 _ J).1 J) hlt)) ?_;refine x9 q9 ?_;refine x9 q9 ?_;refine x9 p9 ?_;refine x9 q9 ?_;refine x9 ((YV J J J (by omega) (by omega) (by omega)).as (congrArg _ (DN J k))) ?_;refine x9 (jT J J J jt (by omega)) ?_;refine x9 (jj J J jl J (Mq (fun w' hs=>vx (hs.all 0 _ J).1 J) hp2)) ?_;refine x9 (jH kC J J (fun w h=>ZR (pt ys (pv ys k)) (pt ys k) (pt ys (nx ys k)) w (hok.at_ hp1) (hok.at_ (by omega)) (hok.at_ hp2))) ?_;refine x9 (qB J J J) ?_;refine Vf ?_;refine S1 ?_;refine cZ (fun c2=> ?_) (fun c2=> ?_)
   ·refine S11 ?_
    exact Jb h_2 ⟨vi (by rw [YF,O2 (by omega) c2 hk.2]),sz⟩ (u9 J)
   ·refine S7 ?_
    exact J8 hL2 (k+1) (⟨by omega,GM hk.2 c2⟩) (by omega) ⟨vi (by omega),sz⟩ (u9 J)
  ·refine S5 ?_
   exact Jb h_2 ⟨vi (by rw [YF,XO fun j hj=>hk.2 j (by omega)]),sz⟩ (u9 J)
 ·refine V6 ?_;refine cZ (fun c3=> ?_) (fun c3=> ?_)
  ·refine S10 ?_;refine jL J (.tmp J) ?_
   intro w' hs
   have he:ys=Qx xs:= (W1 (Dm c3)).symm.trans hse
   have hr:=hs.all 0 _ rfl
   exact⟨_,rfl,he▸jdD hr.1 (fun b hb=> (hr.2.1 b hb).elim id (fun h=>by cases h)),hs.fin⟩
  ·obtain ⟨k,hik,hkv⟩ :=Tw (jfx.2 c3)
   have hkl:=HQ hik
   refine kx 5 (.int .i64 (k:Int)) J (congrArg _ hkv) ?_;refine S8 ?_;refine QB (k:=0) (r':=JP 0 54 2 (ys.length- 1) ((ys.eraseIdx k).flatMap j7) (yA,yc)) VV J J J (by decide) J (fun w1 hs=>RI (hs.all 0 _ J).1 J hkl (by omega)) (fun _ h=>jem h) J ?_;refine N4 ?_
   exact j8 hL1 ((ys.eraseIdx k,(yA,yc))) (⟨(Y0 hik).symm.trans hse,hok.erase k⟩) (by show(ys.eraseIdx k).length<ys.length;rw [ux hkl];omega) ⟨by rw [ux hkl];rfl,sz⟩ (fun _ h=>h.upto ⟨by rw [ux hkl],trivial⟩)
end Go.Proofs.YtkagkgjjfdkoaaaGreat
namespace Go.Proofs.YtkagkgjjfdkoaaaGreat
open Go Go.RowKit
def nth (xs:List Int) (k:Nat) :Int:=xs.getD k 0
def Nums (w:World) (A:Option Addr) (n:Nat) (xs:List Int) :Prop:=xs.length=n∧(0<n→∃b o,A=some ⟨b,o,none⟩∧b<w.heap.size∧∀k,k<n→w.cell? ⟨b,o+k,none⟩ =some (.int .i64 (nth xs k)))
theorem Nums.over {w w':World} {A:Option Addr} {n:Nat} {xs:List Int} (h:Nums w A n xs) (hb:Over w w') :Nums w' A n xs:=by
 refine⟨h.1,fun hn=> ?_⟩
 obtain ⟨b,o,hA,hlt,hc⟩ :=h.2 hn
 exact⟨b,o,hA,jeR hlt hb.size,fun k hk=> ((Ji hb).1 b _ hlt).trans (hc k hk)⟩
section
variable {P:Program} {n:Nat} {env:List (Nat×Value)} {w0:Bs} {Rs:List Res} {o:Oper}
variable {x y:Operand} {T T':TypeId} {p q:Int}
theorem ur (ho:o.op= .binOp .shr T x y T') (hx:ev env x=some (.int .u64 p)) (hy:ev env y=some (.int .u64 q)) (hq:0≤q) (hq2:q<64) :Qt P o n env w0 Rs (.int .u64 (p/2^q.toNat)) :=
 QV fun a w hf _=>by unfold execOp;simp only [ho,hf.ev hx,hf.ev hy];simp [go_sem]
theorem kq {k k':IntKind} {d:TypeDesc} (ho:o.op= .convert T T' x) (hs:P.underlying T=some d) (hd:P.underlying T'=some (.int k')) (hx:ev env x=some (.int k p)) (hw:k'.wrap p=p) :Qt P o n env w0 Rs (.int k' p) :=
 QV fun a w hf _=>by
  have h1: (convert T T' (.int k p)).run P w= .ok (.int k' p) w:=by
   unfold convert
   simp only [Sem.run_bind,run_underlying hs,run_underlying hd,Result.andThen_ok]
   simp [Conv.intToInt,hw]
  unfold execOp;simp only [ho,hf.ev hx];simp [go_sem,h1]
end
theorem uv (a:Int) (h1: -9223372036854775808≤a) (h2:a≤9223372036854775807) :IntKind.i64.wrap a=a:=by simp [IntKind.wrap,IntKind.bits,IntKind.signed];omega
theorem yJ (a:Int) (h:0≤a) (h2:a<18446744073709551616) :IntKind.u64.wrap a=a:=by simp [IntKind.wrap,IntKind.bits,IntKind.signed];omega
def Byts (w:World) (A:Option Addr) (n:Nat) (zs:List Int) :Prop:=zs.length=n∧(∀z∈zs,0≤z∧z≤255)∧(0<n→∃b o,A=some ⟨b,o,none⟩∧b<w.heap.size∧∀k,k<n→w.cell? ⟨b,o+k,none⟩ =some (.int .u8 (nth zs k)))
theorem Byts.agree {w w':World} {A:Option Addr} {n:Nat} {zs:List Int} (h:Byts w A n zs) (hz:w.heap.size≤w'.heap.size) (ha:∀p,A=some p→w'.heap[p.block]? =w.heap[p.block]?) :Byts w' A n zs:=by
 refine⟨h.1,h.2.1,fun hn=> ?_⟩
 obtain ⟨b,o,rfl,hlt,hc⟩ :=h.2.2 hn
 refine⟨b,o,J,by omega,fun k hk=> ?_⟩
 rw [←hc k hk]
 have:=ha _ rfl
 simp only [World.cell?,this]
theorem Byts.over {w w':World} {A:Option Addr} {n:Nat} {zs:List Int} (h:Byts w A n zs) (hb:Over w w') :Byts w' A n zs:=by
 refine⟨h.1,h.2.1,fun hn=> ?_⟩
 obtain ⟨b,o,hA,hlt,hc⟩ :=h.2.2 hn
 exact⟨b,o,hA,jeR hlt hb.size,fun k hk=> ((Ji hb).1 b _ hlt).trans (hc k hk)⟩
theorem Byts.ovx {w w':World} {b:Nat} {A:Option Addr} {n:Nat} {zs:List Int} (h:Byts w A n zs) (ho:Ovx ⟨w,[b]⟩ w') (hne:0<n→∀p,A=some p→p.block≠b) :Byts w' A n zs:=by
 refine⟨h.1,h.2.1,fun hn=> ?_⟩
 obtain ⟨b',o,rfl,hlt,hc⟩ :=h.2.2 hn
 have hs:w.heap.size≤w'.heap.size:=ho.size
 have hb:=ho.block b' hlt (by simpa using hne hn _ rfl)
 refine⟨b',o,J,by omega,fun k hk=> ?_⟩
 rw [←hc k hk]
 simp only [World.cell?,hb]
end Go.Proofs.YtkagkgjjfdkoaaaGreat
