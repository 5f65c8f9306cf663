import Derived.Test.YtpncbbcmoiiipaaMTy
import Derived.Test.YtpncbbcmoiiipaaML2
import Derived.BigRegion
set_option linter.unusedVariables false
set_option linter.unusedSimpArgs false
namespace Go.Proofs.Ytpncbbcmoiiipaa
open Go Go.RowKit
set_option maxRecDepth 100000
theorem vb {a b:Bool} (h:a=b) :some (Value.bool a) =some (Value.bool b) :=by rw [h]
theorem vi {a b:Int} (h:a=b) :some (Value.int .i64 a) =some (Value.int .i64 b) :=by rw [h]
theorem Qy {a b:Bool} (h:a=b) :Ending.returned (.bool a) =Ending.returned (.bool b) :=by rw [h]
theorem OK {a b:Int} (h:a=b) :Ending.returned (.int .i64 a) =Ending.returned (.int .i64 b) :=by rw [h]
theorem Calls.still {P:Program} {f:FuncId} {args:Array Value} {w:World} {v:Value} (h:Calls P f args w fun e w'=>e= .returned v∧w=w') :Calls P f args w fun e w'=>e= .returned v∧Over w w':=h.mono fun e w' ⟨he,hw⟩ =>⟨he,hw▸Over.refl _⟩
section
variable {w:World} {w0:Bs} {Rs:List Res}
def jI (p:Int×Int) :List Value:= [.int .i64 p.1, .int .i64 p.2]
theorem OF {k b T m:Nat} (xs:List (Int×Int)) (hk:Rs[k]? =some (.cel b T (xs.flatMap jI))) (hm:xs.length=m) :∀w,St w0 Rs w→Pts w (some ⟨b,0,none⟩) m xs:=fun w hs=>by
 have hh:=hs.cel hk
 refine⟨hm,fun _=>⟨b,0,J,JE hh,fun j hj=> ?_⟩⟩
 have hj':j<xs.length:=by omega
 have hat:=fun q hq=>flat2 xs j q hj' hq
 rw [Fo,cell_of_row w b _ _ T (0,0) hh,cell_of_row w b _ _ T (0,0) hh]
 have h0:=hat 0 Om
 have h1:=hat 1 Om
 rw [Vz hj'] at h0 h1
 simp only [List.getElem?_toArray]
 exact⟨by simpa [jI] using h0,by simpa [jI] using h1⟩
 where
 flat2:∀(xs:List (Int×Int)) (k j:Nat) (hk:k<xs.length),j<2→(xs.flatMap jI)[k*2+j]? = (jI xs[k])[j]?
 | [],_,_,h,_=>absurd h (by simp)
 | a::r,0,j,_,hj=>by
  rw [D9,Nat.zero_mul,Fo,List.getElem?_append_left (by simpa [jI] using hj)]
  rfl
 | a::r,k+1,j,h,hj=>by
  have hl: (jI a).length=2:=rfl
  rw [D9,List.getElem?_append_right (by rw [hl];omega),hl]
  have:=flat2 r k j (by simpa using h) hj
  rw [show(k+1) *2+j- 2=k*2+j by omega,this]
  rfl
theorem VS {b o m j:Nat} {xs:List (Int×Int)} (h:Pts w (some ⟨b,o,none⟩) m xs) (hj:j<m) :∀w',St ⟨w,[]⟩ Rs w'→∀q v,[Value.int .i64 (px xs j),Value.int .i64 (py xs j)][q]? =some v→w'.cell? ⟨b,o+j*2+q,none⟩ =some v:=fun w' hs q v hv=>by
 obtain ⟨b',o',e,_,h1,h2⟩ := (h.over hs.fin).at_ hj
 injection e with e
 injection e with e1 e2 _
 subst e1 e2
 match q,hv with
 | 0,hv=>simp at hv;subst hv;exact h1
 | 1,hv=>simp at hv;subst hv;exact h2
end
end Go.Proofs.Ytpncbbcmoiiipaa
namespace Go.Proofs.Ytpncbbcmoiiipaa
open Go.RowKit
theorem UR (a b:Int) (w:World) :
  Calls Try.prog 87 #[.int .i64 a, .int .i64 b] w fun e w'=>e= .returned (.int .i64 (max a b))∧w=w':=by
 by_cases h1:b<a
 ·have hv:Hid (max a b=a) :=by unfold Hid;omega
  go_enter Try.func87,Try.ntmps87
  go_wp2
  go_ret
  exact⟨by rw [hv.out];rfl,rfl⟩
 ·have hv:Hid (max a b=b) :=by unfold Hid;omega
  go_enter Try.func87,Try.ntmps87
  go_wp2
  go_ret
  exact⟨by rw [hv.out];rfl,rfl⟩
theorem Qk {a b A B:Int} (ha: -A≤a) (ha':a≤A) (hb: -B≤b) (hb':b≤B) : -(A*B)≤a*b∧a*b≤A*B:=by
 have hA:0≤A:=by omega
 have hB:0≤B:=by omega
 have h1: (a*b).natAbs≤(A*B).natAbs:=by
  rw [Int.natAbs_mul,Int.natAbs_mul]
  exact FW Om Om
 have h2:0≤A*B:=DU hA hB
 omega
def WI (n d:Int) :Int:=if d- n % d≤n % d then n/d+1 else n/d
theorem G0 (n d:Int) (hn:n<0) (hd:0<d) :n.tdiv d= (if n % d=0 then n/d else n/d+1)∧n.tmod d= (if n % d=0 then 0 else n % d- d) :=by
 have h1:=Int.tdiv_eq_ediv (a:=n) (b:=d)
 have h2:=Int.tmod_eq_emod (a:=n) (b:=d)
 have hs:Int.sign d=1:=Int.sign_eq_one_of_pos hd
 rw [hs] at h1
 by_cases h:n % d=0
 ·have hdv:d∣n:=Int.dvd_of_emod_eq_zero h
  rw [if_pos (Or.inr hdv)] at h1 h2
  rw [if_pos h,if_pos h]
  omega
 ·have hdv:¬d∣n:=fun hd'=>h (Int.emod_eq_zero_of_dvd hd')
  have hnn:¬(0≤n∨d∣n) :=by omega
  rw [if_neg hnn] at h1 h2
  rw [if_neg h,if_neg h]
  omega
theorem Z9 (n d B:Int) (hd:0<d) (h1: -B≤n) (h2:n≤B) : -B≤n/d∧n/d≤B:=by
 have e:=Int.mul_ediv_add_emod n d
 have m0:=Int.emod_nonneg n (Int.ne_of_gt hd)
 have m1:=Int.emod_lt_of_pos n hd
 constructor
 ·rcases Int.lt_or_le (n/d) (-B) with h | h
  ·exfalso
   have h3:d* (n/d)≤d* (-B- 1) :=DW Om Om
   have h4:d* (-B- 1) = -(d*B) - d:=by rw [Int.mul_sub,Int.mul_neg,F3]
   have h5:1*B≤d*B:=DJ Om Om
   omega
  ·exact h
 ·rcases Int.lt_or_le B (n/d) with h | h
  ·exfalso
   have h3:d* (B+1)≤d* (n/d) :=DW Om Om
   have h4:d* (B+1) =d*B+d:=by rw [Int.mul_add,F3]
   have h5:1*B≤d*B:=DJ Om Om
   omega
  ·exact h
theorem Lv (n d B:Int) (hd:0<d) (h1: -B≤n) (h2:n≤B) : -B≤WI n d∧WI n d≤B+1:=by
 have:=Z9 n d B hd h1 h2
 unfold WI
 split<;>omega
theorem YQ (n d:Int) (w:World) (hd:1≤d) (hd':d≤2305843009213693952) (h1: -2305843009213693952≤n) (h2:n≤2305843009213693952) :
  Calls Try.prog 73 #[.int .i64 n, .int .i64 d] w fun e w'=>e= .returned (.int .i64 (n/d))∧w=w':=by
 obtain ⟨b1,b2⟩ :=Z9 n d 2305843009213693952 Om h1 h2
 have m0:=Int.emod_nonneg n (show d≠0 by omega)
 have m1:=Int.emod_lt_of_pos n (show 0<d by omega)
 by_cases hn:0≤n
 ·go_enter Try.func73,Try.ntmps73
  go_wp2
  go_ret
  exact⟨rfl,rfl⟩
 ·obtain ⟨e1,e2⟩ :=G0 n d Om Om
  by_cases hm:n % d=0
  ·rw [if_pos hm] at e1 e2
   have H:=Lib.hid hm
   clear hm
   go_enter Try.func73,Try.ntmps73
   go_wp2
   go_ret
   exact⟨rfl,rfl⟩
  ·rw [if_neg hm] at e1 e2
   go_enter Try.func73,Try.ntmps73
   go_wp2
   go_ret
   exact⟨by simp,rfl⟩
theorem KF (n d:Int) (w:World) (hd:1≤d) (hd':d≤2305843009213693952) (h1: -2305843009213693952≤n) (h2:n≤2305843009213693952) :
  Calls Try.prog 54 #[.int .i64 n, .int .i64 d] w fun e w'=>e= .returned (.int .i64 (WI n d))∧w=w':=by
 obtain ⟨b1,b2⟩ :=Z9 n d 2305843009213693952 Om h1 h2
 have m0:=Int.emod_nonneg n (show d≠0 by omega)
 have m1:=Int.emod_lt_of_pos n (show 0<d by omega)
 have hr: (d- n % d≤n % d→WI n d=n/d+1)∧(¬d- n % d≤n % d→WI n d=n/d) :=by
  unfold WI;exact⟨fun h=>if_pos h,fun h=>if_neg h⟩
 have HR:=Lib.hid hr
 clear hr
 have em:=Int.mul_ediv_add_emod n d
 rw [Fg] at em
 have c1: -2305843009213693952- d≤n/d*d:=by omega
 have c2:n/d*d≤2305843009213693952:=by omega
 have EM:=Lib.hid em
 clear em
 have e3:n- n/d*d=n % d:=by have:=EM.out;omega
 by_cases hq:d- n % d≤n % d
 all_goals
  go_enter Try.func54,Try.ntmps54
  go_wp2_with (go_at_call 73;refine(YQ _ _ _ hd hd' h1 h2).mono ?_;rintro e w1 ⟨rfl,rfl⟩)
  all_goals
   go_ret
   first | exact⟨by rw [HR.out.1 Om];rfl,rfl⟩ | exact⟨by rw [HR.out.2 Om];rfl,rfl⟩
end Go.Proofs.Ytpncbbcmoiiipaa
