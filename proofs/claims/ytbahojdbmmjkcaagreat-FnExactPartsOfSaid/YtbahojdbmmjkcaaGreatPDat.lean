import Derived.Test.YtbahojdbmmjkcaaGreatPTy
import Derived.Test.YtbahojdbmmjkcaaGreatPL2
import Derived.Test.YtbahojdbmmjkcaaGreatPReg
set_option linter.unusedVariables false
set_option linter.unusedSimpArgs false
namespace Go.Proofs.YtbahojdbmmjkcaaGreat
open Go Go.RowKit
variable {P:Program} {Q:Exit→Act→World→Prop} {args:Array Value} {env:List (Nat×Value)} {listed:Array Bool} {ops:Array Oper} {xs:List (Int×Int)}
set_option maxRecDepth 100000
theorem vb {a b:Bool} (h:a=b) :some (Value.bool a) =some (Value.bool b) :=by rw [h]
theorem vi {a b:Int} (h:a=b) :some (Value.int .i64 a) =some (Value.int .i64 b) :=by rw [h]
theorem Qs {a b:Bool} (h:a=b) :Ending.returned (.bool a) =Ending.returned (.bool b) :=by rw [h]
theorem wm {a b:Int} (h:a=b) :Ending.returned (.int .i64 a) =Ending.returned (.int .i64 b) :=by rw [h]
theorem Calls.still {f:FuncId} {w:World} {v:Value} (h:Calls P f args w fun e w'=>e= .returned v∧w=w') :Calls P f args w fun e w'=>e= .returned v∧Over w w':=h.mono fun e w' ⟨he,hw⟩ =>⟨he,hw▸Over.refl _⟩
section
variable {w:World} {w0:Bs} {Rs:List Res}
def Ju (p:Int×Int) :List Value:= [.int .i64 p.1, .int .i64 p.2]
theorem jbz {k b T m:Nat} (xs:List (Int×Int)) (hk:Rs[k]? =some (.cel b T (xs.flatMap Ju))) (hm:xs.length=m) :∀w,St w0 Rs w→Pts w (some ⟨b,0,none⟩) m xs:=fun w hs=>by
 have hh:=hs.cel hk
 refine⟨hm,fun _=>⟨b,0,J,JZ hh,fun j hj=> ?_⟩⟩
 have hj':j<xs.length:=by omega
 have hat:=fun q hq=>flat2 xs j q hj' hq
 rw [jgT,cell_of_row w b _ _ T (0,0) hh,cell_of_row w b _ _ T (0,0) hh]
 have h0:=hat 0 Om
 have h1:=hat 1 Om
 rw [yq hj'] at h0 h1
 simp only [List.getElem?_toArray]
 exact⟨by simpa [Ju] using h0,by simpa [Ju] using h1⟩
 where
 flat2:∀(xs:List (Int×Int)) (k j:Nat) (hk:k<xs.length),j<2→(xs.flatMap Ju)[k*2+j]? = (Ju xs[k])[j]?
 | [],_,_,h,_=>absurd h (by simp)
 | a::r,0,j,_,hj=>by
  rw [jgU,Nat.zero_mul,jgT,List.getElem?_append_left (by simpa [Ju] using hj)]
  rfl
 | a::r,k+1,j,h,hj=>by
  have hl: (Ju a).length=2:=rfl
  rw [jgU,List.getElem?_append_right (by rw [hl];omega),hl]
  have:=flat2 r k j (by simpa using h) hj
  rw [show(k+1) *2+j- 2=k*2+j by omega,this]
  rfl
theorem wz {b o m j:Nat} (h:Pts w (some ⟨b,o,none⟩) m xs) (hj:j<m) :∀w',St ⟨w,[]⟩ Rs w'→∀q v,[Value.int .i64 (px xs j),Value.int .i64 (py xs j)][q]? =some v→w'.cell? ⟨b,o+j*2+q,none⟩ =some v:=fun w' hs q v hv=>by
 obtain ⟨b',o',e,_,h1,h2⟩ := (h.over hs.fin).at_ hj
 injection e with e
 injection e with e1 e2 _
 subst e1 e2
 match q,hv with
 | 0,hv=>simp at hv;subst hv;exact h1
 | 1,hv=>simp at hv;subst hv;exact h2
end
theorem Ha {P:Program} {md:Region.Mode} {ops:Array Oper} {Q:Exit→Act→World→Prop} {B B':Base} (hB:∀w,B'.holds w→B.holds w) {f:Nat} :
  ∀(fuel:Nat) (listed:Array Bool) (a:Act) (W:World),Qf P md ops Q B' f fuel listed a W→Qf P md ops Q B f fuel listed a W
 | 0,_,_,_,h=>h
 | fuel+1,listed,a,W,h=>⟨h.1,fun i hi w hw=>⟨fun hf=>wpOp_mono (fun a' w' h'=>⟨hB _ h'.1,Ha hB fuel _ a' w' h'.2⟩) ((h.2 i hi w hw).1 hf),(h.2 i hi w hw).2⟩⟩
theorem WP {n f fuel:Nat} {w0:Bs} {Rs Rs0:List Res} (hsub:∀w,St w0 Rs w→St w0 Rs0 w) (h:At n env w0 Rs (fun a w=>Qf P .any ops Q (Ue w0 Rs) f fuel listed a w)) :At n env w0 Rs (fun a w=>St w0 Rs0 w∧Qf P .any ops Q (Ue w0 Rs0) f fuel listed a w) :=
 fun a w hf hs=>⟨hsub w hs,Ha (B:=Ue w0 Rs0) (B':=Ue w0 Rs) hsub fuel listed a w (h a w hf hs)⟩
end Go.Proofs.YtbahojdbmmjkcaaGreat
namespace Go.Proofs.YtbahojdbmmjkcaaGreat
open Go.RowKit
def zZ (n d:Int) :Int:=if d- n % d≤n % d then n/d+1 else n/d
theorem Dj (n d:Int) (hn:n<0) (hd:0<d) :n.tdiv d= (if n % d=0 then n/d else n/d+1)∧n.tmod d= (if n % d=0 then 0 else n % d- d) :=by
 have h1:=Int.tdiv_eq_ediv (a:=n) (b:=d)
 have h2:=Int.tmod_eq_emod (a:=n) (b:=d)
 have hs:Int.sign d=1:=Int.sign_eq_one_of_pos hd
 rw [hs] at h1
 by_cases h:n % d=0
 ·have hdv:d∣n:=Int.dvd_of_emod_eq_zero h
  rw [if_pos (Or.inr hdv)] at h1 h2
  rw [if_pos h,if_pos h]
  omega
 ·have hdv:¬d∣n:=fun hd'=>h (Int.emod_eq_zero_of_dvd hd')
  have hnn:¬(0≤n∨d∣n) :=by omega
  rw [if_neg hnn] at h1 h2
  rw [if_neg h,if_neg h]
  omega
theorem DJ (n d B:Int) (hd:0<d) (h1: -B≤n) (h2:n≤B) : -B≤n/d∧n/d≤B:=by
 have e:=Int.mul_ediv_add_emod n d
 have m0:=Int.emod_nonneg n (Int.ne_of_gt hd)
 have m1:=Int.emod_lt_of_pos n hd
 constructor
 ·rcases Int.lt_or_le (n/d) (-B) with h | h
  ·exfalso
   have h3:d* (n/d)≤d* (-B- 1) :=jg5 Om Om
   have h4:d* (-B- 1) = -(d*B) - d:=by rw [Int.mul_sub,Int.mul_neg,jhU]
   have h5:1*B≤d*B:=jgz Om Om
   omega
  ·exact h
 ·rcases Int.lt_or_le B (n/d) with h | h
  ·exfalso
   have h3:d* (B+1)≤d* (n/d) :=jg5 Om Om
   have h4:d* (B+1) =d*B+d:=by rw [Int.mul_add,jhU]
   have h5:1*B≤d*B:=jgz Om Om
   omega
  ·exact h
theorem Gl (n d B:Int) (hd:0<d) (h1: -B≤n) (h2:n≤B) : -B≤zZ n d∧zZ n d≤B+1:=by
 have:=DJ n d B hd h1 h2
 unfold zZ
 split<;>omega
theorem DN (n d:Int) (w:World) (hd:1≤d) (hd':d≤2305843009213693952) (h1: -2305843009213693952≤n) (h2:n≤2305843009213693952) :
  Calls Tryz.prog 217 #[.int .i64 n, .int .i64 d] w fun e w'=>e= .returned (.int .i64 (n/d))∧w=w':=by
 obtain ⟨b1,b2⟩ :=DJ n d 2305843009213693952 Om h1 h2
 have m0:=Int.emod_nonneg n (show d≠0 by omega)
 have m1:=Int.emod_lt_of_pos n (show 0<d by omega)
 by_cases hn:0≤n
 ·go_enter Tryz.func217,Tryz.ntmps217
  go_wp2
  go_ret
  exact⟨rfl,rfl⟩
 ·obtain ⟨e1,e2⟩ :=Dj n d Om Om
  by_cases hm:n % d=0
  ·rw [if_pos hm] at e1 e2
   have H:=Lib.hid hm
   clear hm
   go_enter Tryz.func217,Tryz.ntmps217
   go_wp2
   go_ret
   exact⟨rfl,rfl⟩
  ·rw [if_neg hm] at e1 e2
   go_enter Tryz.func217,Tryz.ntmps217
   go_wp2
   go_ret
   exact⟨by simp,rfl⟩
theorem um (n d:Int) (w:World) (hd:1≤d) (hd':d≤2305843009213693952) (h1: -2305843009213693952≤n) (h2:n≤2305843009213693952) :
  Calls Tryz.prog 159 #[.int .i64 n, .int .i64 d] w fun e w'=>e= .returned (.int .i64 (zZ n d))∧w=w':=by
 obtain ⟨b1,b2⟩ :=DJ n d 2305843009213693952 Om h1 h2
 have m0:=Int.emod_nonneg n (show d≠0 by omega)
 have m1:=Int.emod_lt_of_pos n (show 0<d by omega)
 have hr: (d- n % d≤n % d→zZ n d=n/d+1)∧(¬d- n % d≤n % d→zZ n d=n/d) :=by
  unfold zZ;exact⟨fun h=>if_pos h,fun h=>if_neg h⟩
 have HR:=Lib.hid hr
 clear hr
 by_cases hn:0≤n
 ·go_enter Tryz.func159,Tryz.ntmps159
  go_wp2
  all_goals
   go_ret
   first | exact⟨by rw [HR.out.1 Om];rfl,rfl⟩ | exact⟨by rw [HR.out.2 Om];rfl,rfl⟩
 ·obtain ⟨e1,e2⟩ :=Dj n d Om Om
  by_cases hm:n % d=0
  ·rw [if_pos hm] at e1 e2
   have H:=Lib.hid hm
   clear hm
   go_enter Tryz.func159,Tryz.ntmps159
   go_wp2
   all_goals
    have:=H.out
    go_ret
    first | exact⟨by rw [HR.out.1 Om];rfl,rfl⟩ | exact⟨by rw [HR.out.2 Om];rfl,rfl⟩
  ·rw [if_neg hm] at e1 e2
   go_enter Tryz.func159,Tryz.ntmps159
   go_wp2
   all_goals
    go_ret
    first | exact⟨by rw [HR.out.1 Om];simp,rfl⟩ | exact⟨by rw [HR.out.2 Om];simp,rfl⟩
theorem uk (n d:Int) (w:World) (hd:1≤d) (hd':d≤2305843009213693952) (h1: -2305843009213693952≤n) (h2:n≤2305843009213693952) :
  Calls Tryz.prog 166 #[.int .i64 n, .int .i64 d] w fun e w'=>e= .returned (.int .i64 (zZ n d))∧w=w':=by
 obtain ⟨b1,b2⟩ :=DJ n d 2305843009213693952 Om h1 h2
 have m0:=Int.emod_nonneg n (show d≠0 by omega)
 have m1:=Int.emod_lt_of_pos n (show 0<d by omega)
 have hr: (d- n % d≤n % d→zZ n d=n/d+1)∧(¬d- n % d≤n % d→zZ n d=n/d) :=by
  unfold zZ;exact⟨fun h=>if_pos h,fun h=>if_neg h⟩
 have HR:=Lib.hid hr
 clear hr
 have em:=Int.mul_ediv_add_emod n d
 rw [jha] at em
 have c1: -2305843009213693952- d≤n/d*d:=by omega
 have c2:n/d*d≤2305843009213693952:=by omega
 have EM:=Lib.hid em
 clear em
 have e3:n- n/d*d=n % d:=by have:=EM.out;omega
 by_cases hq:d- n % d≤n % d
 all_goals
  go_enter Tryz.func166,Tryz.ntmps166
  go_wp2_with (go_at_call 217;refine(DN _ _ _ hd hd' h1 h2).mono ?_;rintro e w1 ⟨rfl,rfl⟩)
  all_goals
   go_ret
   first | exact⟨by rw [HR.out.1 Om];rfl,rfl⟩ | exact⟨by rw [HR.out.2 Om];rfl,rfl⟩
def Kc (ax ay bx b_y cx cy:Int) :Int:= (bx- ax) * (cy- ay) - (b_y- ay) * (cx- ax)
set_option maxHeartbeats 400000 in
theorem Xt (ax ay bx b_y cx cy:Int) (w:World) (a1: -1048576≤ax) (a2:ax≤1048576) (a3: -1048576≤ay) (a4:ay≤1048576) (b1: -1048576≤bx) (b2:bx≤1048576) (b3: -1048576≤b_y) (b4:b_y≤1048576)
  (c1: -1048576≤cx) (c2:cx≤1048576) (c3: -1048576≤cy) (c4:cy≤1048576) :
  Calls Tryz.prog 161 #[WH ax ay,WH bx b_y,WH cx cy] w fun e w'=>e= .returned (.int .i64 (Kc ax ay bx b_y cx cy))∧Over w w':=by
 obtain ⟨u1,u1'⟩ :=Qr (a:=bx- ax) (b:=cy- ay) (A:=2097152) (B:=2097152) Om Om Om Om
 obtain ⟨u2,u2'⟩ :=Qr (a:=b_y- ay) (b:=cx- ax) (A:=2097152) (B:=2097152) Om Om Om Om
 go_enter Tryz.func161,Tryz.ntmps161
 go_wp2
 go_ret
 exact⟨by simp [Kc],ov9⟩
set_option maxHeartbeats 400000 in
theorem wu (ax ay bx b_y cx cy:Int) (w:World) (a1: -1048576≤ax) (a2:ax≤1048576) (a3: -1048576≤ay) (a4:ay≤1048576) (b1: -1048576≤bx) (b2:bx≤1048576) (b3: -1048576≤b_y) (b4:b_y≤1048576)
  (c1: -1048576≤cx) (c2:cx≤1048576) (c3: -1048576≤cy) (c4:cy≤1048576) :
  Calls Tryz.prog 128 #[WH ax ay,WH bx b_y,WH cx cy] w fun e w'=>e= .returned (.int .i64 (Kc ax ay bx b_y cx cy))∧Over w w':=by
 obtain ⟨u1,u1'⟩ :=Qr (a:=bx- ax) (b:=cy- ay) (A:=2097152) (B:=2097152) Om Om Om Om
 obtain ⟨u2,u2'⟩ :=Qr (a:=b_y- ay) (b:=cx- ax) (A:=2097152) (B:=2097152) Om Om Om Om
 go_enter Tryz.func128,Tryz.ntmps128
 go_wp2
 go_ret
 exact⟨by simp [Kc],ov9⟩
theorem jfy (ax ay bx b_y cx cy:Int) (a1: -262144≤ax) (a2:ax≤262144) (a3: -262144≤ay) (a4:ay≤262144) (b1: -262144≤bx) (b2:bx≤262144) (b3: -262144≤b_y) (b4:b_y≤262144)
  (c1: -262144≤cx) (c2:cx≤262144) (c3: -262144≤cy) (c4:cy≤262144) : -549755813888≤Kc ax ay bx b_y cx cy∧Kc ax ay bx b_y cx cy≤549755813888:=by
 have:=Qr (a:=bx- ax) (b:=cy- ay) (A:=524288) (B:=524288) Om Om Om Om
 have:=Qr (a:=b_y- ay) (b:=cx- ax) (A:=524288) (B:=524288) Om Om Om Om
 unfold Kc
 omega
theorem B5 (a x D:Int) (hD:0<D) :zZ (a*D+x) D=a+zZ x D:=by
 have h1: (a*D+x) /D=a+x/D:=by rw [Int.add_comm,Int.add_mul_ediv_right _ _ Om];omega
 have h2: (a*D+x) % D=x % D:=by rw [Int.add_comm,Int.add_mul_emod_self_right]
 unfold zZ
 rw [h1,h2]
 split<;>omega
def On (ax bx num den:Int) :Int:=if den<0 then zZ (ax* -den+ (bx- ax) * -num) (-den) else zZ (ax*den+ (bx- ax) *num) den
theorem SC (ax bx num den:Int) (h:den≠0) :On ax bx num den=ax+ (if den<0 then zZ ((bx- ax) * -num) (-den) else zZ ((bx- ax) *num) den) :=by
 unfold On
 split
 ·exact B5 _ _ _ Om
 ·exact B5 _ _ _ Om
def Zc (ax ay bx b_y cx cy dx dy:Int) :Int:= (bx- ax) * (dy- cy) - (b_y- ay) * (dx- cx)
def GZ (ax ay cx cy dx dy:Int) :Int:= (cx- ax) * (dy- cy) - (cy- ay) * (dx- cx)
set_option maxHeartbeats 2000000 in
set_option maxRecDepth 100000 in
theorem DG (ax ay bx b_y cx cy dx dy:Int) (w:World) (ha:wF ax ay=true) (hb:wF bx b_y=true) (hc:wF cx cy=true) (hd:wF dx dy=true) (hden:Zc ax ay bx b_y cx cy dx dy≠0) :
  Calls Tryz.prog 110 #[WH ax ay,WH bx b_y,WH cx cy,WH dx dy] w fun e w'=>
   e= .returned (WH (On ax bx (GZ ax ay cx cy dx dy) (Zc ax ay bx b_y cx cy dx dy)) (On ay b_y (GZ ax ay cx cy dx dy) (Zc ax ay bx b_y cx cy dx dy)))∧Over w w':=by
 simp [wF,Z7] at ha hb hc hd
 obtain ⟨⟨a1,a2⟩,a3,a4⟩ :=ha
 obtain ⟨⟨b1,b2⟩,b3,b4⟩ :=hb
 obtain ⟨⟨c1,c2⟩,c3,c4⟩ :=hc
 obtain ⟨⟨d1,d2⟩,d3,d4⟩ :=hd
 obtain ⟨u1,u1'⟩ :=Qr (a:=bx- ax) (b:=dy- cy) (A:=524288) (B:=524288) Om Om Om Om
 obtain ⟨u2,u2'⟩ :=Qr (a:=b_y- ay) (b:=dx- cx) (A:=524288) (B:=524288) Om Om Om Om
 obtain ⟨u3,u3'⟩ :=Qr (a:=cx- ax) (b:=dy- cy) (A:=524288) (B:=524288) Om Om Om Om
 obtain ⟨u4,u4'⟩ :=Qr (a:=cy- ay) (b:=dx- cx) (A:=524288) (B:=524288) Om Om Om Om
 by_cases hs: (bx- ax) * (dy- cy) - (b_y- ay) * (dx- cx) <0
 ·have hres:∀x y,On x y (GZ ax ay cx cy dx dy) (Zc ax ay bx b_y cx cy dx dy) =zZ (x* -((bx- ax) * (dy- cy) - (b_y- ay) * (dx- cx)) + (y- x) * -((cx- ax) * (dy- cy) - (cy- ay) * (dx- cx))) (-((bx- ax) * (dy- cy) - (b_y- ay) * (dx- cx))) :=by
   intro x y;unfold On Zc GZ;rw [if_pos hs]
  have HR:=Lib.hid hres
  clear hres hden
  go_enter Tryz.func110,Tryz.ntmps110
  go_wp2
  have gD:1≤-((bx- ax) * (dy- cy) - (b_y- ay) * (dx- cx))∧-((bx- ax) * (dy- cy) - (b_y- ay) * (dx- cx))≤549755813888:=by omega
  have gN: -549755813888≤-((cx- ax) * (dy- cy) - (cy- ay) * (dx- cx))∧-((cx- ax) * (dy- cy) - (cy- ay) * (dx- cx))≤549755813888:=by omega
  generalize hD: -((bx- ax) * (dy- cy) - (b_y- ay) * (dx- cx)) =D at gD⊢
  generalize hN: -((cx- ax) * (dy- cy) - (cy- ay) * (dx- cx)) =N at gN⊢
  have HD:=Lib.hid hD
  have HN:=Lib.hid hN
  clear hD hN
  obtain ⟨gD1,gD2⟩ :=gD
  obtain ⟨gN1,gN2⟩ :=gN
  clear u1 u1' u2 u2' u3 u3' u4 u4' hs
  try clear hs0
  obtain ⟨v1,v1'⟩ :=Qr (a:=ax) (b:=D) (A:=262144) (B:=549755813888) Om Om Om Om
  obtain ⟨v2,v2'⟩ :=Qr (a:=bx- ax) (b:=N) (A:=524288) (B:=549755813888) Om Om Om Om
  obtain ⟨v3,v3'⟩ :=Qr (a:=ay) (b:=D) (A:=262144) (B:=549755813888) Om Om Om Om
  obtain ⟨v4,v4'⟩ :=Qr (a:=b_y- ay) (b:=N) (A:=524288) (B:=549755813888) Om Om Om Om
  refine Q0 (B:=ob _) (Over.alloc _ _) Kr (by simp only [jhk,jgD,jgY,Nat.reduceAdd];rfl) (fun (hBW:Over _ _) => ?_);refine i8 0 ?_;refine i8 1 ?_;refine i8 2 ?_;refine i8 3 ?_;refine i8 4 ?_;refine i8 5 ?_;refine i8 6 ?_;refine i8 7 ?_;refine i8 8 ?_;refine i8 9 ?_;refine i8 10 ?_;refine i8 11 ?_;refine i8 12 ?_;refine w9 13 (hy:=fun wx hS=>by(go_simp;refine(uk _ _ _ Om Om Om Om).mono ?_;rintro e w1 ⟨rfl,rfl⟩;exact⟨rfl,Over.refl _⟩)) (h:= ?_)
  simp only [Act.put,qE,jP,jQ]
  refine i8 14 ?_;refine i8 15 ?_;refine i8 16 ?_;refine i8 17 ?_;refine i8 18 ?_;refine i8 19 ?_;refine i8 20 ?_;refine i8 21 ?_;refine i8 22 ?_;refine i8 23 ?_;refine i8 24 ?_;refine i8 25 ?_;refine i8 26 ?_;refine w9 27 (hy:=fun wx hS=>by(go_simp;refine(uk _ _ _ Om Om Om Om).mono ?_;rintro e w1 ⟨rfl,rfl⟩;exact⟨rfl,Over.refl _⟩)) (h:= ?_)
  simp only [Act.put,qE,jP,jQ]
  refine i8 28 ?_;refine Od (i:=29) (by simp only [qx,qy,qF];rfl) Kr Kr (fun w2 h2 K hK=> ?_)
  obtain ⟨hc,hf⟩ :=Jt h2
  have hzw2_0:w.heap.size<w2.heap.size:=jgA (by simp<;>omega) (Over.size h2)
  have hzw2_1:w.heap.size+1<w2.heap.size:=jgA (by simp<;>omega) (Over.size h2)
  have hzw2_2:w.heap.size+1+1<w2.heap.size:=jgA (by simp<;>omega) (Over.size h2)
  have hzw2_3:w.heap.size+1+1+1<w2.heap.size:=jgA (by simp<;>omega) (Over.size h2)
  have hzw2_4:w.heap.size+1+1+1+1<w2.heap.size:=jgA (by simp<;>omega) (Over.size h2)
  go_step
  refine hK.out _ _ ov9 (fun hB=> ?_)
  clear hK K
  refine QZ Kr (fun w3 h3=> ?_) _
  try clear hBW
  go_wp2
  obtain ⟨hc,hf⟩ :=Jt h3
  exact bodyPost_ret (v:=WH (zZ (ax*D+ (bx- ax) *N) D) (zZ (ay*D+ (b_y- ay) *N) D)) (by simp [results,Tryz.results110,go_sem, *]) rfl ⟨by rw [HR.out,HR.out,HD.out,HN.out],ov9⟩
 ·have hres:∀x y,On x y (GZ ax ay cx cy dx dy) (Zc ax ay bx b_y cx cy dx dy) =zZ (x* ((bx- ax) * (dy- cy) - (b_y- ay) * (dx- cx)) + (y- x) * ((cx- ax) * (dy- cy) - (cy- ay) * (dx- cx))) ((bx- ax) * (dy- cy) - (b_y- ay) * (dx- cx)) :=by
   intro x y;unfold On Zc GZ;rw [if_neg hs]
  have HR:=Lib.hid hres
  have hs0:0< (bx- ax) * (dy- cy) - (b_y- ay) * (dx- cx) :=by unfold Zc at hden;omega
  clear hres hden
  go_enter Tryz.func110,Tryz.ntmps110
  go_wp2
  have gD:1≤((bx- ax) * (dy- cy) - (b_y- ay) * (dx- cx))∧((bx- ax) * (dy- cy) - (b_y- ay) * (dx- cx))≤549755813888:=by omega
  have gN: -549755813888≤((cx- ax) * (dy- cy) - (cy- ay) * (dx- cx))∧((cx- ax) * (dy- cy) - (cy- ay) * (dx- cx))≤549755813888:=by omega
  generalize hD: ((bx- ax) * (dy- cy) - (b_y- ay) * (dx- cx)) =D at gD⊢
  generalize hN: ((cx- ax) * (dy- cy) - (cy- ay) * (dx- cx)) =N at gN⊢
  have HD:=Lib.hid hD
  have HN:=Lib.hid hN
  clear hD hN
  obtain ⟨gD1,gD2⟩ :=gD
  obtain ⟨gN1,gN2⟩ :=gN
  clear u1 u1' u2 u2' u3 u3' u4 u4' hs
  try clear hs0
  obtain ⟨v1,v1'⟩ :=Qr (a:=ax) (b:=D) (A:=262144) (B:=549755813888) Om Om Om Om
  obtain ⟨v2,v2'⟩ :=Qr (a:=bx- ax) (b:=N) (A:=524288) (B:=549755813888) Om Om Om Om
  obtain ⟨v3,v3'⟩ :=Qr (a:=ay) (b:=D) (A:=262144) (B:=549755813888) Om Om Om Om
  obtain ⟨v4,v4'⟩ :=Qr (a:=b_y- ay) (b:=N) (A:=524288) (B:=549755813888) Om Om Om Om
  refine Q0 (B:=ob _) (Over.alloc _ _) Kr (by simp only [jhk,jgD,jgY,Nat.reduceAdd];rfl) (fun (hBW:Over _ _) => ?_);refine i8 0 ?_;refine i8 1 ?_;refine i8 2 ?_;refine i8 3 ?_;refine i8 4 ?_;refine i8 5 ?_;refine i8 6 ?_;refine i8 7 ?_;refine i8 8 ?_;refine i8 9 ?_;refine i8 10 ?_;refine i8 11 ?_;refine i8 12 ?_;refine w9 13 (hy:=fun wx hS=>by(go_simp;refine(uk _ _ _ Om Om Om Om).mono ?_;rintro e w1 ⟨rfl,rfl⟩;exact⟨rfl,Over.refl _⟩)) (h:= ?_)
  simp only [Act.put,qE,jP,jQ]
  refine i8 14 ?_;refine i8 15 ?_;refine i8 16 ?_;refine i8 17 ?_;refine i8 18 ?_;refine i8 19 ?_;refine i8 20 ?_;refine i8 21 ?_;refine i8 22 ?_;refine i8 23 ?_;refine i8 24 ?_;refine i8 25 ?_;refine i8 26 ?_;refine w9 27 (hy:=fun wx hS=>by(go_simp;refine(uk _ _ _ Om Om Om Om).mono ?_;rintro e w1 ⟨rfl,rfl⟩;exact⟨rfl,Over.refl _⟩)) (h:= ?_)
  simp only [Act.put,qE,jP,jQ]
  refine i8 28 ?_;refine Od (i:=29) (by simp only [qx,qy,qF];rfl) Kr Kr (fun w2 h2 K hK=> ?_)
  obtain ⟨hc,hf⟩ :=Jt h2
  have hzw2_0:w.heap.size<w2.heap.size:=jgA (by simp<;>omega) (Over.size h2)
  have hzw2_1:w.heap.size+1<w2.heap.size:=jgA (by simp<;>omega) (Over.size h2)
  have hzw2_2:w.heap.size+1+1<w2.heap.size:=jgA (by simp<;>omega) (Over.size h2)
  have hzw2_3:w.heap.size+1+1+1<w2.heap.size:=jgA (by simp<;>omega) (Over.size h2)
  have hzw2_4:w.heap.size+1+1+1+1<w2.heap.size:=jgA (by simp<;>omega) (Over.size h2)
  go_step
  refine hK.out _ _ ov9 (fun hB=> ?_)
  clear hK K
  refine QZ Kr (fun w3 h3=> ?_) _
  try clear hBW
  go_wp2
  obtain ⟨hc,hf⟩ :=Jt h3
  exact bodyPost_ret (v:=WH (zZ (ax*D+ (bx- ax) *N) D) (zZ (ay*D+ (b_y- ay) *N) D)) (by simp [results,Tryz.results110,go_sem, *]) rfl ⟨by rw [HR.out,HR.out,HD.out,HN.out],ov9⟩
end Go.Proofs.YtbahojdbmmjkcaaGreat
namespace Go.Proofs.YtbahojdbmmjkcaaGreat
open Go Go.RowKit
variable {W w:World} {a:Act} {f fuel i:Nat} {listed:Array Bool} {oi:Oper} {v:Value}
section
variable {P:Program} {ops:Array Oper} {Q:Exit→Act→World→Prop} {md:Region.Mode} {B:Base}
def UM (P:Program) (md:Region.Mode) (ops:Array Oper) (Q:Exit→Act→World→Prop) (B:Base) (f:Nat) :Nat→Array Bool→Act→World→Prop
 | 0,listed,a,W=>Region.ready md ops listed= []∧∀w,Over W w→Q .normal a w
 | fuel+1,listed,a,W=>
  (Region.ready md ops listed= []→∀w,Over W w→Q .normal a w)∧
  ∀i∈Region.ready md ops listed,∀w,Over W w→(i≠f→wpOp P ops Q i (fun a' w'=>B.holds w'∧UM P md ops Q B f fuel (listed.setIfInBounds i true) a' w') a w)∧
   (i=f→Region.ready md ops (listed.setIfInBounds f true) = []∧wpOp P ops Q f (fun a' w'=>Q .normal a' w') a w)
theorem G9 :∀(fuel:Nat) (listed:Array Bool) (a:Act) (W W':World),Over W W'→UM P md ops Q B f fuel listed a W→UM P md ops Q B f fuel listed a W'
 | 0,_,_,_,_,ho,h=>⟨h.1,fun w hw=>h.2 w (ho.trans hw)⟩
 | _+1,_,_,_,_,ho,h=>⟨fun h0 w hw=>h.1 h0 w (ho.trans hw),fun i hi w hw=>h.2 i hi w (ho.trans hw)⟩
theorem Ek (hr:Region.ready md ops listed= []) (h:Q .normal a w) :∀fuel,wpAny P md ops Q fuel listed a w
 | 0=>⟨hr,h⟩
 | _+1=>⟨fun _=>h,by rw [hr];simp⟩
theorem Oe {f:Nat} :∀(fuel:Nat) (listed:Array Bool) (a:Act) (W:World),UM P md ops Q B f fuel listed a W→∀w,Over W w→wpAny P md ops Q fuel listed a w
 | 0,_,_,_,h,w,hS=>⟨h.1,h.2 w hS⟩
 | fuel+1,listed,a,_,h,w,hS=>⟨fun h0=>h.1 h0 w hS,fun i hi=>by
   by_cases hif:i=f
   ·subst hif
    obtain ⟨hr,hk⟩ := (h.2 i hi w hS).2 rfl
    exact wpOp_mono (fun a' w' h'=>Ek hr h' _) hk
   ·exact wpOp_mono (fun a' w' h'=>Oe fuel _ a' w' h'.2 w' (Over.refl _)) ((h.2 i hi w hS).1 hif)⟩
def Q2 (md:Region.Mode) (ops:Array Oper) (f i:Nat) :Bool:=match ops[f]? with | some o=>o.after.any (fun e=>Region.binds md e&&e.on==i) | none=>false
theorem GD (h:Q2 md ops f i=true) (hl:listed.getD i true=false) :f∉Region.ready md ops listed:=by
 intro hm
 obtain ⟨_,o,ho,hall⟩ :=mem_ready.1 hm
 unfold Q2 at h
 rw [ho] at h
 obtain ⟨e,he,h2⟩ :=Array.any_eq_true'.1 h
 rw [jgy] at h2
 have h3:e.on=i:=by simpa using h2.2
 have h4:=hall e he h2.1
 rw [h3] at h4
 rcases jhj i listed.size with h' | h'
 ·simp [h'] at h4 hl;rw [hl] at h4;cases h4
 ·simp [Array.getElem?_eq_none h'] at h4
theorem F2 (hi:ops[i]? =some oi) (hsel:∀(j:Nat) (o:Oper) cs b,ops[j]? =some o→o.op≠ .select cs b) (hQ:∀c a w,Q (.panic c) (a.put oi.dst v) w→Q (.panic c) a w) (hfi:Q2 md ops f i=true) (hne:i≠f) :
  ∀(fuel:Nat) (listed:Array Bool) (a:Act) (W:World),B.holds W→
   (∀j oj,ops[j]? =some oj→j≠i→listed.getD j true=false→(∀e∈oj.after,Region.binds md e=true→e.on≠i)→oi.apart ops oj=true)→
   i∈Region.ready md ops listed→Settles P ops B oi v a→
   UM P md ops Q B f fuel (listed.setIfInBounds i true) (a.put oi.dst v) W→UM P md ops Q B f (fuel+1) listed a W:=by
 intro fuel
 induction fuel with
 | zero=>
  intro listed a W hBW _ hr hy H
  refine⟨fun h=> (by rw [h] at hr;cases hr),fun j hj w hS=>⟨fun _=> ?_,fun hjf=>absurd hj (hjf▸GD hfi (mem_ready.1 hr).1)⟩⟩
  by_cases hji:j=i
  ·subst hji;exact hy.wpOp hi (B.keep _ _ hBW hS) fun w' hw'=>⟨B.keep _ _ (B.keep _ _ hBW hS) hw',G9 _ _ _ _ _ (hS.trans hw') H⟩
  ·have:=ready_mono hj hji
   rw [H.1] at this
   cases this
 | succ fuel ih=>
  intro listed a W hBW hfree hr hy H
  refine⟨fun h=> (by rw [h] at hr;cases hr),fun j hj w hS=>⟨fun hjf=> ?_,fun hjf=>absurd hj (hjf▸GD hfi (mem_ready.1 hr).1)⟩⟩
  by_cases hji:j=i
  ·subst hji;exact hy.wpOp hi (B.keep _ _ hBW hS) fun w' hw'=>⟨B.keep _ _ (B.keep _ _ hBW hS) hw',G9 _ _ _ _ _ (hS.trans hw') H⟩
  ·have h1:= (H.2 j (ready_mono hj hji) w hS).1 hjf
   obtain ⟨hjun,oj,hoj,hall⟩ :=mem_ready.1 hj
   have hnot:∀e∈oj.after,Region.binds md e=true→e.on≠i:=fun e he hb heq=>by
    have h1:=hall e he hb
    have h0:= (mem_ready.1 hr).1
    rw [heq] at h1
    rcases jhj i listed.size with h' | h'
    ·simp [h'] at h0 h1;rw [h0] at h1;cases h1
    ·simp [Array.getElem?_eq_none h'] at h1
   have h2:=ym hoj (hfree j oj hoj hji hjun hnot) (fun cs b=>hsel i oi cs b hi) (fun cs b=>hsel j oj cs b hoj) hQ hy h1
   have hfree':∀k ok,ops[k]? =some ok→k≠i→(listed.setIfInBounds j true).getD k true=false→
     (∀e∈ok.after,Region.binds md e=true→e.on≠i)→oi.apart ops ok=true:=fun k ok hk hki hun hno=>by
    refine hfree k ok hk hki ?_ hno
    by_cases hjk:j=k
    ·subst hjk;exact hjun
    ·rw [getD_set_ne true hjk] at hun;exact hun
   refine wpOp_mono (fun a' w' h3=>⟨h3.2.1,ih (listed.setIfInBounds j true) a' w' h3.2.1 hfree' (ready_mono hr (Ne.symm hji)) h3.1 ?_⟩) h2
   rw [jhJ _ _ hji]
   exact h3.2.2
theorem J6 (hBW:B.holds W) (hi:ops[i]? =some oi) (hs:Region.noSelect ops=true) (hf:Region.free md ops listed i=true) (hr: (Region.ready md ops listed).contains i=true) (hQ:∀c a w,Q (.panic c) (a.put oi.dst v) w→Q (.panic c) a w) (hw:Region.wanted oi (yielded ops a.tmps) =true) (hfi: (Q2 md ops f i&&i !=f) =true) (hy:∀w,B.holds w→Gv P v w ((execOp a.eval oi).run P w)) (h:UM P md ops Q B f fuel (listed.setIfInBounds i true) (a.put oi.dst v) W) :UM P md ops Q B f (fuel+1) listed a W:=by
 rw [jgy] at hfi
 exact F2 hi (Region.noSelect_spec hs) hQ hfi.1 (by simpa using hfi.2) fuel listed a W hBW (Region.free_spec hi hf) (by simpa using hr) (.inl ⟨hw,fun w hS=> (hy w hS).gives⟩) h
theorem G8 (hBW:B.holds W) (hi:ops[f]? =some oi) (hr:Region.ready md ops listed= [f]) (hr':Region.ready md ops (listed.setIfInBounds f true) = []) (hw:Region.wanted oi (yielded ops a.tmps) =true) (h:∀w,Over W w→B.holds w→Oper.wp P oi a w (fun a' w'=>Q .normal a' w') Q) :
  UM P md ops Q B f (fuel+1) listed a W:=by
 refine⟨fun h0=> (by rw [h0] at hr;cases hr),fun j hj w hS=> ?_⟩
 rw [hr] at hj
 simp only [jgC] at hj
 subst hj
 refine⟨fun hne=>absurd J hne,fun _=>⟨hr',?_⟩⟩
 unfold Go.wpOp
 simp only [hi,hw,if_true]
 exact .inl (h w hS (B.keep _ _ hBW hS))
theorem Hl (f:Nat) {id n:Nat} (hB:B.holds w) (hm:P.follows .mixedOrders=true) (hn:ops.size=n) (h:B.holds w→UM P .any ops Q B f n (Array.replicate n false) a w) : (Code.region id ops true).wp P Q a w:=by
 subst hn
 exact wp_region_any hm (Oe _ _ _ _ (h hB) _ (Below.refl _ _).drew)
end
end Go.Proofs.YtbahojdbmmjkcaaGreat
