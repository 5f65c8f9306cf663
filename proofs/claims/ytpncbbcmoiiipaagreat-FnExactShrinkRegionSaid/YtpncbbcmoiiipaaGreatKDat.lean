import Derived.Test.YtpncbbcmoiiipaaGreatKTy
import Derived.Test.YtpncbbcmoiiipaaGreatKL2
import Derived.BigRegion
set_option linter.unusedVariables false
set_option linter.unusedSimpArgs false
namespace Go.Proofs.YtpncbbcmoiiipaaGreat
open Go Go.RowKit
set_option maxRecDepth 100000
theorem vb {a b:Bool} (h:a=b) :some (Value.bool a) =some (Value.bool b) :=by rw [h]
theorem vi {a b:Int} (h:a=b) :some (Value.int .i64 a) =some (Value.int .i64 b) :=by rw [h]
theorem QH {a b:Bool} (h:a=b) :Ending.returned (.bool a) =Ending.returned (.bool b) :=by rw [h]
theorem YF {a b:Int} (h:a=b) :Ending.returned (.int .i64 a) =Ending.returned (.int .i64 b) :=by rw [h]
theorem Calls.still {P:Program} {f:FuncId} {args:Array Value} {w:World} {v:Value} (h:Calls P f args w fun e w'=>e= .returned v∧w=w') :Calls P f args w fun e w'=>e= .returned v∧Over w w':=h.mono fun e w' ⟨he,hw⟩ =>⟨he,hw▸Over.refl _⟩
section
variable {w:World} {w0:Bs} {Rs:List Res}
def Js (p:Int×Int) :List Value:= [.int .i64 p.1, .int .i64 p.2]
theorem jcT {k b T m:Nat} (xs:List (Int×Int)) (hk:Rs[k]? =some (.cel b T (xs.flatMap Js))) (hm:xs.length=m) :∀w,St w0 Rs w→Pts w (some ⟨b,0,none⟩) m xs:=fun w hs=>by
 have hh:=hs.cel hk
 refine⟨hm,fun _=>⟨b,0,J,J3 hh,fun j hj=> ?_⟩⟩
 have hj':j<xs.length:=by omega
 have hat:=fun q hq=>flat2 xs j q hj' hq
 rw [jiL,cell_of_row w b _ _ T (0,0) hh,cell_of_row w b _ _ T (0,0) hh]
 have h0:=hat 0 Om
 have h1:=hat 1 Om
 rw [yg hj'] at h0 h1
 simp only [List.getElem?_toArray]
 exact⟨by simpa [Js] using h0,by simpa [Js] using h1⟩
 where
 flat2:∀(xs:List (Int×Int)) (k j:Nat) (hk:k<xs.length),j<2→(xs.flatMap Js)[k*2+j]? = (Js xs[k])[j]?
 | [],_,_,h,_=>absurd h (by simp)
 | a::r,0,j,_,hj=>by
  rw [jiB,Nat.zero_mul,jiL,List.getElem?_append_left (by simpa [Js] using hj)]
  rfl
 | a::r,k+1,j,h,hj=>by
  have hl: (Js a).length=2:=rfl
  rw [jiB,List.getElem?_append_right (by rw [hl];omega),hl]
  have:=flat2 r k j (by simpa using h) hj
  rw [show(k+1) *2+j- 2=k*2+j by omega,this]
  rfl
theorem wL {b o m j:Nat} {xs:List (Int×Int)} (h:Pts w (some ⟨b,o,none⟩) m xs) (hj:j<m) :∀w',St ⟨w,[]⟩ Rs w'→∀q v,[Value.int .i64 (px xs j),Value.int .i64 (py xs j)][q]? =some v→w'.cell? ⟨b,o+j*2+q,none⟩ =some v:=fun w' hs q v hv=>by
 obtain ⟨b',o',e,_,h1,h2⟩ := (h.over hs.fin).at_ hj
 injection e with e
 injection e with e1 e2 _
 subst e1 e2
 match q,hv with
 | 0,hv=>simp at hv;subst hv;exact h1
 | 1,hv=>simp at hv;subst hv;exact h2
end
theorem Lz {P:Program} {md:Region.Mode} {ops:Array Oper} {Q:Exit→Act→World→Prop} {B B':Base} (hB:∀w,B'.holds w→B.holds w) {f:Nat} :
  ∀(fuel:Nat) (listed:Array Bool) (a:Act) (W:World),Qr P md ops Q B' f fuel listed a W→Qr P md ops Q B f fuel listed a W
 | 0,_,_,_,h=>h
 | fuel+1,listed,a,W,h=>⟨h.1,fun i hi w hw=>⟨fun hf=>wpOp_mono (fun a' w' h'=>⟨hB _ h'.1,Lz hB fuel _ a' w' h'.2⟩) ((h.2 i hi w hw).1 hf),(h.2 i hi w hw).2⟩⟩
theorem Yq {P:Program} {n f fuel:Nat} {env:List (Nat×Value)} {w0:Bs} {Rs Rs0:List Res} {ops:Array Oper} {listed:Array Bool} {Q:Exit→Act→World→Prop} (hsub:∀w,St w0 Rs w→St w0 Rs0 w)
  (h:At n env w0 Rs (fun a w=>Qr P .any ops Q (UX w0 Rs) f fuel listed a w)) :At n env w0 Rs (fun a w=>St w0 Rs0 w∧Qr P .any ops Q (UX w0 Rs0) f fuel listed a w) :=
 fun a w hf hs=>⟨hsub w hs,Lz (B:=UX w0 Rs0) (B':=UX w0 Rs) hsub fuel listed a w (h a w hf hs)⟩
end Go.Proofs.YtpncbbcmoiiipaaGreat
namespace Go.Proofs.YtpncbbcmoiiipaaGreat
open Go.RowKit
theorem VT (a b:Int) (w:World) :
  Calls Tryz.prog 155 #[.int .i64 a, .int .i64 b] w fun e w'=>e= .returned (.int .i64 (max a b))∧w=w':=by
 by_cases h1:b<a
 ·have hv:Hid (max a b=a) :=by unfold Hid;omega
  go_enter Tryz.func155,Tryz.ntmps155
  go_wp2
  go_ret
  exact⟨by rw [hv.out];rfl,rfl⟩
 ·have hv:Hid (max a b=b) :=by unfold Hid;omega
  go_enter Tryz.func155,Tryz.ntmps155
  go_wp2
  go_ret
  exact⟨by rw [hv.out];rfl,rfl⟩
theorem QO {a b A B:Int} (ha: -A≤a) (ha':a≤A) (hb: -B≤b) (hb':b≤B) : -(A*B)≤a*b∧a*b≤A*B:=by
 have hA:0≤A:=by omega
 have hB:0≤B:=by omega
 have h1: (a*b).natAbs≤(A*B).natAbs:=by
  rw [Int.natAbs_mul,Int.natAbs_mul]
  exact jp0 Om Om
 have h2:0≤A*B:=jiF hA hB
 omega
def ZV (n d:Int) :Int:=if d- n % d≤n % d then n/d+1 else n/d
theorem Fj (n d:Int) (hn:n<0) (hd:0<d) :n.tdiv d= (if n % d=0 then n/d else n/d+1)∧n.tmod d= (if n % d=0 then 0 else n % d- d) :=by
 have h1:=Int.tdiv_eq_ediv (a:=n) (b:=d)
 have h2:=Int.tmod_eq_emod (a:=n) (b:=d)
 have hs:Int.sign d=1:=Int.sign_eq_one_of_pos hd
 rw [hs] at h1
 by_cases h:n % d=0
 ·have hdv:d∣n:=Int.dvd_of_emod_eq_zero h
  rw [if_pos (Or.inr hdv)] at h1 h2
  rw [if_pos h,if_pos h]
  omega
 ·have hdv:¬d∣n:=fun hd'=>h (Int.emod_eq_zero_of_dvd hd')
  have hnn:¬(0≤n∨d∣n) :=by omega
  rw [if_neg hnn] at h1 h2
  rw [if_neg h,if_neg h]
  omega
theorem FI (n d B:Int) (hd:0<d) (h1: -B≤n) (h2:n≤B) : -B≤n/d∧n/d≤B:=by
 have e:=Int.mul_ediv_add_emod n d
 have m0:=Int.emod_nonneg n (Int.ne_of_gt hd)
 have m1:=Int.emod_lt_of_pos n hd
 constructor
 ·rcases Int.lt_or_le (n/d) (-B) with h | h
  ·exfalso
   have h3:d* (n/d)≤d* (-B- 1) :=jiT Om Om
   have h4:d* (-B- 1) = -(d*B) - d:=by rw [Int.mul_sub,Int.mul_neg,jjM]
   have h5:1*B≤d*B:=jij Om Om
   omega
  ·exact h
 ·rcases Int.lt_or_le B (n/d) with h | h
  ·exfalso
   have h3:d* (B+1)≤d* (n/d) :=jiT Om Om
   have h4:d* (B+1) =d*B+d:=by rw [Int.mul_add,jjM]
   have h5:1*B≤d*B:=jij Om Om
   omega
  ·exact h
theorem Hv (n d B:Int) (hd:0<d) (h1: -B≤n) (h2:n≤B) : -B≤ZV n d∧ZV n d≤B+1:=by
 have:=FI n d B hd h1 h2
 unfold ZV
 split<;>omega
theorem FM (n d:Int) (w:World) (hd:1≤d) (hd':d≤2305843009213693952) (h1: -2305843009213693952≤n) (h2:n≤2305843009213693952) :
  Calls Tryz.prog 250 #[.int .i64 n, .int .i64 d] w fun e w'=>e= .returned (.int .i64 (n/d))∧w=w':=by
 obtain ⟨b1,b2⟩ :=FI n d 2305843009213693952 Om h1 h2
 have m0:=Int.emod_nonneg n (show d≠0 by omega)
 have m1:=Int.emod_lt_of_pos n (show 0<d by omega)
 by_cases hn:0≤n
 ·go_enter Tryz.func250,Tryz.ntmps250
  go_wp2
  go_ret
  exact⟨rfl,rfl⟩
 ·obtain ⟨e1,e2⟩ :=Fj n d Om Om
  by_cases hm:n % d=0
  ·rw [if_pos hm] at e1 e2
   have H:=Lib.hid hm
   clear hm
   go_enter Tryz.func250,Tryz.ntmps250
   go_wp2
   go_ret
   exact⟨rfl,rfl⟩
  ·rw [if_neg hm] at e1 e2
   go_enter Tryz.func250,Tryz.ntmps250
   go_wp2
   go_ret
   exact⟨by simp,rfl⟩
theorem Un (n d:Int) (w:World) (hd:1≤d) (hd':d≤2305843009213693952) (h1: -2305843009213693952≤n) (h2:n≤2305843009213693952) :
  Calls Tryz.prog 201 #[.int .i64 n, .int .i64 d] w fun e w'=>e= .returned (.int .i64 (ZV n d))∧w=w':=by
 obtain ⟨b1,b2⟩ :=FI n d 2305843009213693952 Om h1 h2
 have m0:=Int.emod_nonneg n (show d≠0 by omega)
 have m1:=Int.emod_lt_of_pos n (show 0<d by omega)
 have hr: (d- n % d≤n % d→ZV n d=n/d+1)∧(¬d- n % d≤n % d→ZV n d=n/d) :=by
  unfold ZV;exact⟨fun h=>if_pos h,fun h=>if_neg h⟩
 have HR:=Lib.hid hr
 clear hr
 by_cases hn:0≤n
 ·go_enter Tryz.func201,Tryz.ntmps201
  go_wp2
  all_goals
   go_ret
   first | exact⟨by rw [HR.out.1 Om];rfl,rfl⟩ | exact⟨by rw [HR.out.2 Om];rfl,rfl⟩
 ·obtain ⟨e1,e2⟩ :=Fj n d Om Om
  by_cases hm:n % d=0
  ·rw [if_pos hm] at e1 e2
   have H:=Lib.hid hm
   clear hm
   go_enter Tryz.func201,Tryz.ntmps201
   go_wp2
   all_goals
    have:=H.out
    go_ret
    first | exact⟨by rw [HR.out.1 Om];rfl,rfl⟩ | exact⟨by rw [HR.out.2 Om];rfl,rfl⟩
  ·rw [if_neg hm] at e1 e2
   go_enter Tryz.func201,Tryz.ntmps201
   go_wp2
   all_goals
    go_ret
    first | exact⟨by rw [HR.out.1 Om];simp,rfl⟩ | exact⟨by rw [HR.out.2 Om];simp,rfl⟩
theorem Uj (n d:Int) (w:World) (hd:1≤d) (hd':d≤2305843009213693952) (h1: -2305843009213693952≤n) (h2:n≤2305843009213693952) :
  Calls Tryz.prog 208 #[.int .i64 n, .int .i64 d] w fun e w'=>e= .returned (.int .i64 (ZV n d))∧w=w':=by
 obtain ⟨b1,b2⟩ :=FI n d 2305843009213693952 Om h1 h2
 have m0:=Int.emod_nonneg n (show d≠0 by omega)
 have m1:=Int.emod_lt_of_pos n (show 0<d by omega)
 have hr: (d- n % d≤n % d→ZV n d=n/d+1)∧(¬d- n % d≤n % d→ZV n d=n/d) :=by
  unfold ZV;exact⟨fun h=>if_pos h,fun h=>if_neg h⟩
 have HR:=Lib.hid hr
 clear hr
 have em:=Int.mul_ediv_add_emod n d
 rw [jiV] at em
 have c1: -2305843009213693952- d≤n/d*d:=by omega
 have c2:n/d*d≤2305843009213693952:=by omega
 have EM:=Lib.hid em
 clear em
 have e3:n- n/d*d=n % d:=by have:=EM.out;omega
 by_cases hq:d- n % d≤n % d
 all_goals
  go_enter Tryz.func208,Tryz.ntmps208
  go_wp2_with (go_at_call 250;refine(FM _ _ _ hd hd' h1 h2).mono ?_;rintro e w1 ⟨rfl,rfl⟩)
  all_goals
   go_ret
   first | exact⟨by rw [HR.out.1 Om];rfl,rfl⟩ | exact⟨by rw [HR.out.2 Om];rfl,rfl⟩
def Q8 (ax ay bx b_y cx cy:Int) :Int:= (bx- ax) * (cy- ay) - (b_y- ay) * (cx- ax)
set_option maxHeartbeats 400000 in
theorem Gl (ax ay bx b_y cx cy:Int) (w:World) (a1: -1048576≤ax) (a2:ax≤1048576) (a3: -1048576≤ay) (a4:ay≤1048576) (b1: -1048576≤bx) (b2:bx≤1048576) (b3: -1048576≤b_y) (b4:b_y≤1048576)
  (c1: -1048576≤cx) (c2:cx≤1048576) (c3: -1048576≤cy) (c4:cy≤1048576) :
  Calls Tryz.prog 203 #[uS ax ay,uS bx b_y,uS cx cy] w fun e w'=>e= .returned (.int .i64 (Q8 ax ay bx b_y cx cy))∧Over w w':=by
 obtain ⟨u1,u1'⟩ :=QO (a:=bx- ax) (b:=cy- ay) (A:=2097152) (B:=2097152) Om Om Om Om
 obtain ⟨u2,u2'⟩ :=QO (a:=b_y- ay) (b:=cx- ax) (A:=2097152) (B:=2097152) Om Om Om Om
 go_enter Tryz.func203,Tryz.ntmps203
 go_wp2
 go_ret
 exact⟨by simp [Q8],ov9⟩
set_option maxHeartbeats 400000 in
theorem Wq (ax ay bx b_y cx cy:Int) (w:World) (a1: -1048576≤ax) (a2:ax≤1048576) (a3: -1048576≤ay) (a4:ay≤1048576) (b1: -1048576≤bx) (b2:bx≤1048576) (b3: -1048576≤b_y) (b4:b_y≤1048576)
  (c1: -1048576≤cx) (c2:cx≤1048576) (c3: -1048576≤cy) (c4:cy≤1048576) :
  Calls Tryz.prog 151 #[uS ax ay,uS bx b_y,uS cx cy] w fun e w'=>e= .returned (.int .i64 (Q8 ax ay bx b_y cx cy))∧Over w w':=by
 obtain ⟨u1,u1'⟩ :=QO (a:=bx- ax) (b:=cy- ay) (A:=2097152) (B:=2097152) Om Om Om Om
 obtain ⟨u2,u2'⟩ :=QO (a:=b_y- ay) (b:=cx- ax) (A:=2097152) (B:=2097152) Om Om Om Om
 go_enter Tryz.func151,Tryz.ntmps151
 go_wp2
 go_ret
 exact⟨by simp [Q8],ov9⟩
theorem jha (ax ay bx b_y cx cy:Int) (a1: -262144≤ax) (a2:ax≤262144) (a3: -262144≤ay) (a4:ay≤262144) (b1: -262144≤bx) (b2:bx≤262144) (b3: -262144≤b_y) (b4:b_y≤262144)
  (c1: -262144≤cx) (c2:cx≤262144) (c3: -262144≤cy) (c4:cy≤262144) : -549755813888≤Q8 ax ay bx b_y cx cy∧Q8 ax ay bx b_y cx cy≤549755813888:=by
 have:=QO (a:=bx- ax) (b:=cy- ay) (A:=524288) (B:=524288) Om Om Om Om
 have:=QO (a:=b_y- ay) (b:=cx- ax) (A:=524288) (B:=524288) Om Om Om Om
 unfold Q8
 omega
theorem D7 (a x D:Int) (hD:0<D) :ZV (a*D+x) D=a+ZV x D:=by
 have h1: (a*D+x) /D=a+x/D:=by rw [Int.add_comm,Int.add_mul_ediv_right _ _ Om];omega
 have h2: (a*D+x) % D=x % D:=by rw [Int.add_comm,Int.add_mul_emod_self_right]
 unfold ZV
 rw [h1,h2]
 split<;>omega
def Bw (ax bx num den:Int) :Int:=if den<0 then ZV (ax* -den+ (bx- ax) * -num) (-den) else ZV (ax*den+ (bx- ax) *num) den
theorem TU (ax bx num den:Int) (h:den≠0) :Bw ax bx num den=ax+ (if den<0 then ZV ((bx- ax) * -num) (-den) else ZV ((bx- ax) *num) den) :=by
 unfold Bw
 split
 ·exact D7 _ _ _ Om
 ·exact D7 _ _ _ Om
def ZZ (ax ay bx b_y cx cy dx dy:Int) :Int:= (bx- ax) * (dy- cy) - (b_y- ay) * (dx- cx)
def Li (ax ay cx cy dx dy:Int) :Int:= (cx- ax) * (dy- cy) - (cy- ay) * (dx- cx)
set_option maxHeartbeats 2000000 in
set_option maxRecDepth 100000 in
theorem FF (ax ay bx b_y cx cy dx dy:Int) (w:World) (ha:wR ax ay=true) (hb:wR bx b_y=true) (hc:wR cx cy=true) (hd:wR dx dy=true) (hden:ZZ ax ay bx b_y cx cy dx dy≠0) :
  Calls Tryz.prog 164 #[uS ax ay,uS bx b_y,uS cx cy,uS dx dy] w fun e w'=>
   e= .returned (uS (Bw ax bx (Li ax ay cx cy dx dy) (ZZ ax ay bx b_y cx cy dx dy)) (Bw ay b_y (Li ax ay cx cy dx dy) (ZZ ax ay bx b_y cx cy dx dy)))∧Over w w':=by
 simp [wR,xZ] at ha hb hc hd
 obtain ⟨⟨a1,a2⟩,a3,a4⟩ :=ha
 obtain ⟨⟨b1,b2⟩,b3,b4⟩ :=hb
 obtain ⟨⟨c1,c2⟩,c3,c4⟩ :=hc
 obtain ⟨⟨d1,d2⟩,d3,d4⟩ :=hd
 obtain ⟨u1,u1'⟩ :=QO (a:=bx- ax) (b:=dy- cy) (A:=524288) (B:=524288) Om Om Om Om
 obtain ⟨u2,u2'⟩ :=QO (a:=b_y- ay) (b:=dx- cx) (A:=524288) (B:=524288) Om Om Om Om
 obtain ⟨u3,u3'⟩ :=QO (a:=cx- ax) (b:=dy- cy) (A:=524288) (B:=524288) Om Om Om Om
 obtain ⟨u4,u4'⟩ :=QO (a:=cy- ay) (b:=dx- cx) (A:=524288) (B:=524288) Om Om Om Om
 by_cases hs: (bx- ax) * (dy- cy) - (b_y- ay) * (dx- cx) <0
 ·have hres:∀x y,Bw x y (Li ax ay cx cy dx dy) (ZZ ax ay bx b_y cx cy dx dy) =ZV (x* -((bx- ax) * (dy- cy) - (b_y- ay) * (dx- cx)) + (y- x) * -((cx- ax) * (dy- cy) - (cy- ay) * (dx- cx))) (-((bx- ax) * (dy- cy) - (b_y- ay) * (dx- cx))) :=by
   intro x y;unfold Bw ZZ Li;rw [if_pos hs]
  have HR:=Lib.hid hres
  clear hres hden
  go_enter Tryz.func164,Tryz.ntmps164
  go_wp2
  have gD:1≤-((bx- ax) * (dy- cy) - (b_y- ay) * (dx- cx))∧-((bx- ax) * (dy- cy) - (b_y- ay) * (dx- cx))≤549755813888:=by omega
  have gN: -549755813888≤-((cx- ax) * (dy- cy) - (cy- ay) * (dx- cx))∧-((cx- ax) * (dy- cy) - (cy- ay) * (dx- cx))≤549755813888:=by omega
  generalize hD: -((bx- ax) * (dy- cy) - (b_y- ay) * (dx- cx)) =D at gD⊢
  generalize hN: -((cx- ax) * (dy- cy) - (cy- ay) * (dx- cx)) =N at gN⊢
  have HD:=Lib.hid hD
  have HN:=Lib.hid hN
  clear hD hN
  obtain ⟨gD1,gD2⟩ :=gD
  obtain ⟨gN1,gN2⟩ :=gN
  clear u1 u1' u2 u2' u3 u3' u4 u4' hs
  try clear hs0
  obtain ⟨v1,v1'⟩ :=QO (a:=ax) (b:=D) (A:=262144) (B:=549755813888) Om Om Om Om
  obtain ⟨v2,v2'⟩ :=QO (a:=bx- ax) (b:=N) (A:=524288) (B:=549755813888) Om Om Om Om
  obtain ⟨v3,v3'⟩ :=QO (a:=ay) (b:=D) (A:=262144) (B:=549755813888) Om Om Om Om
  obtain ⟨v4,v4'⟩ :=QO (a:=b_y- ay) (b:=N) (A:=524288) (B:=549755813888) Om Om Om Om
  refine Kd (B:=ob _) (Over.alloc _ _) Kr (by simp only [jje,jim,jiH,Nat.reduceAdd];rfl) (fun (hBW:Over _ _) => ?_);refine i8 0 ?_;refine i8 1 ?_;refine i8 2 ?_;refine i8 3 ?_;refine i8 4 ?_;refine i8 5 ?_;refine i8 6 ?_;refine i8 7 ?_;refine i8 8 ?_;refine i8 9 ?_;refine i8 10 ?_;refine i8 11 ?_;refine i8 12 ?_;refine w9 13 (hy:=fun wx hS=>by(go_simp;refine(Uj _ _ _ Om Om Om Om).mono ?_;rintro e w1 ⟨rfl,rfl⟩;exact⟨rfl,Over.refl _⟩)) (h:= ?_)
  simp only [Act.put,q7,jP,jQ]
  refine i8 14 ?_;refine i8 15 ?_;refine i8 16 ?_;refine i8 17 ?_;refine i8 18 ?_;refine i8 19 ?_;refine i8 20 ?_;refine i8 21 ?_;refine i8 22 ?_;refine i8 23 ?_;refine i8 24 ?_;refine i8 25 ?_;refine i8 26 ?_;refine w9 27 (hy:=fun wx hS=>by(go_simp;refine(Uj _ _ _ Om Om Om Om).mono ?_;rintro e w1 ⟨rfl,rfl⟩;exact⟨rfl,Over.refl _⟩)) (h:= ?_)
  simp only [Act.put,q7,jP,jQ]
  refine i8 28 ?_;refine Bl (i:=29) (by simp only [qV,qW,q6];rfl) Kr Kr (fun w2 h2 K hK=> ?_)
  obtain ⟨hc,hf⟩ :=Jy h2
  have hzw2_0:w.heap.size<w2.heap.size:=jiu (by simp<;>omega) (Over.size h2)
  have hzw2_1:w.heap.size+1<w2.heap.size:=jiu (by simp<;>omega) (Over.size h2)
  have hzw2_2:w.heap.size+1+1<w2.heap.size:=jiu (by simp<;>omega) (Over.size h2)
  have hzw2_3:w.heap.size+1+1+1<w2.heap.size:=jiu (by simp<;>omega) (Over.size h2)
  have hzw2_4:w.heap.size+1+1+1+1<w2.heap.size:=jiu (by simp<;>omega) (Over.size h2)
  go_step
  refine hK.out _ _ ov9 (fun hB=> ?_)
  clear hK K
  refine Kc Kr (fun w3 h3=> ?_) _
  try clear hBW
  go_wp2
  obtain ⟨hc,hf⟩ :=Jy h3
  exact bodyPost_ret (v:=uS (ZV (ax*D+ (bx- ax) *N) D) (ZV (ay*D+ (b_y- ay) *N) D)) (by simp [results,Tryz.results164,go_sem, *]) rfl ⟨by rw [HR.out,HR.out,HD.out,HN.out],ov9⟩
 ·have hres:∀x y,Bw x y (Li ax ay cx cy dx dy) (ZZ ax ay bx b_y cx cy dx dy) =ZV (x* ((bx- ax) * (dy- cy) - (b_y- ay) * (dx- cx)) + (y- x) * ((cx- ax) * (dy- cy) - (cy- ay) * (dx- cx))) ((bx- ax) * (dy- cy) - (b_y- ay) * (dx- cx)) :=by
   intro x y;unfold Bw ZZ Li;rw [if_neg hs]
  have HR:=Lib.hid hres
  have hs0:0< (bx- ax) * (dy- cy) - (b_y- ay) * (dx- cx) :=by unfold ZZ at hden;omega
  clear hres hden
  go_enter Tryz.func164,Tryz.ntmps164
  go_wp2
  have gD:1≤((bx- ax) * (dy- cy) - (b_y- ay) * (dx- cx))∧((bx- ax) * (dy- cy) - (b_y- ay) * (dx- cx))≤549755813888:=by omega
  have gN: -549755813888≤((cx- ax) * (dy- cy) - (cy- ay) * (dx- cx))∧((cx- ax) * (dy- cy) - (cy- ay) * (dx- cx))≤549755813888:=by omega
  generalize hD: ((bx- ax) * (dy- cy) - (b_y- ay) * (dx- cx)) =D at gD⊢
  generalize hN: ((cx- ax) * (dy- cy) - (cy- ay) * (dx- cx)) =N at gN⊢
  have HD:=Lib.hid hD
  have HN:=Lib.hid hN
  clear hD hN
  obtain ⟨gD1,gD2⟩ :=gD
  obtain ⟨gN1,gN2⟩ :=gN
  clear u1 u1' u2 u2' u3 u3' u4 u4' hs
  try clear hs0
  obtain ⟨v1,v1'⟩ :=QO (a:=ax) (b:=D) (A:=262144) (B:=549755813888) Om Om Om Om
  obtain ⟨v2,v2'⟩ :=QO (a:=bx- ax) (b:=N) (A:=524288) (B:=549755813888) Om Om Om Om
  obtain ⟨v3,v3'⟩ :=QO (a:=ay) (b:=D) (A:=262144) (B:=549755813888) Om Om Om Om
  obtain ⟨v4,v4'⟩ :=QO (a:=b_y- ay) (b:=N) (A:=524288) (B:=549755813888) Om Om Om Om
  refine Kd (B:=ob _) (Over.alloc _ _) Kr (by simp only [jje,jim,jiH,Nat.reduceAdd];rfl) (fun (hBW:Over _ _) => ?_);refine i8 0 ?_;refine i8 1 ?_;refine i8 2 ?_;refine i8 3 ?_;refine i8 4 ?_;refine i8 5 ?_;refine i8 6 ?_;refine i8 7 ?_;refine i8 8 ?_;refine i8 9 ?_;refine i8 10 ?_;refine i8 11 ?_;refine i8 12 ?_;refine w9 13 (hy:=fun wx hS=>by(go_simp;refine(Uj _ _ _ Om Om Om Om).mono ?_;rintro e w1 ⟨rfl,rfl⟩;exact⟨rfl,Over.refl _⟩)) (h:= ?_)
  simp only [Act.put,q7,jP,jQ]
  refine i8 14 ?_;refine i8 15 ?_;refine i8 16 ?_;refine i8 17 ?_;refine i8 18 ?_;refine i8 19 ?_;refine i8 20 ?_;refine i8 21 ?_;refine i8 22 ?_;refine i8 23 ?_;refine i8 24 ?_;refine i8 25 ?_;refine i8 26 ?_;refine w9 27 (hy:=fun wx hS=>by(go_simp;refine(Uj _ _ _ Om Om Om Om).mono ?_;rintro e w1 ⟨rfl,rfl⟩;exact⟨rfl,Over.refl _⟩)) (h:= ?_)
  simp only [Act.put,q7,jP,jQ]
  refine i8 28 ?_;refine Bl (i:=29) (by simp only [qV,qW,q6];rfl) Kr Kr (fun w2 h2 K hK=> ?_)
  obtain ⟨hc,hf⟩ :=Jy h2
  have hzw2_0:w.heap.size<w2.heap.size:=jiu (by simp<;>omega) (Over.size h2)
  have hzw2_1:w.heap.size+1<w2.heap.size:=jiu (by simp<;>omega) (Over.size h2)
  have hzw2_2:w.heap.size+1+1<w2.heap.size:=jiu (by simp<;>omega) (Over.size h2)
  have hzw2_3:w.heap.size+1+1+1<w2.heap.size:=jiu (by simp<;>omega) (Over.size h2)
  have hzw2_4:w.heap.size+1+1+1+1<w2.heap.size:=jiu (by simp<;>omega) (Over.size h2)
  go_step
  refine hK.out _ _ ov9 (fun hB=> ?_)
  clear hK K
  refine Kc Kr (fun w3 h3=> ?_) _
  try clear hBW
  go_wp2
  obtain ⟨hc,hf⟩ :=Jy h3
  exact bodyPost_ret (v:=uS (ZV (ax*D+ (bx- ax) *N) D) (ZV (ay*D+ (b_y- ay) *N) D)) (by simp [results,Tryz.results164,go_sem, *]) rfl ⟨by rw [HR.out,HR.out,HD.out,HN.out],ov9⟩
end Go.Proofs.YtpncbbcmoiiipaaGreat
