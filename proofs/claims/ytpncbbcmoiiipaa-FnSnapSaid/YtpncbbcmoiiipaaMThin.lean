import Derived.Test.YtpncbbcmoiiipaaMSnapped
import Derived.Shelf.Bits.Mul64
import Derived.Laws.BitsAllLaws
import Derived.Test.YtpncbbcmoiiipaaMSimp
import Derived.Test.YtpncbbcmoiiipaaMOpen3
set_option linter.unusedVariables false
set_option linter.unusedSimpArgs false
namespace Go.Proofs.Ytpncbbcmoiiipaa
open Go Go.RowKit
set_option maxRecDepth 100000
set_option maxHeartbeats 4000000
def Wa (a b:Pn) :Int:= (b.1- a.1) * (b.1- a.1) + (b.2- a.2) * (b.2- a.2)
def G4 (a b p:Pn) :Int:= (p.1- a.1) * (b.1- a.1) + (p.2- a.2) * (b.2- a.2)
def Kp (a b p:Pn) (r:Int) :Bool:=
 if Wa a p≤r*r∨Wa b p≤r*r then true else if G4 a b p≤0∨Wa a b≤G4 a b p then false else decide (tn a b p*tn a b p≤r*r*Wa a b)
theorem kh (x:Int) :0≤x*x:=by
 rcases Int.le_total 0 x with h | h
 ·exact DU h h
 ·have:=DU (show 0≤-x by omega) (show 0≤-x by omega)
  grind
theorem Y1 {x y B:Int} (h1: -B≤x∧x≤B) (h2: -B≤y∧y≤B) : -(B*B)≤x*y∧x*y≤B*B:=by
 have a1:=DU (show 0≤B- x by omega) (show 0≤B- y by omega)
 have a2:=DU (show 0≤B+x by omega) (show 0≤B+y by omega)
 have a3:=DU (show 0≤B- x by omega) (show 0≤B+y by omega)
 have a4:=DU (show 0≤B+x by omega) (show 0≤B- y by omega)
 constructor<;>grind
theorem vw {a b:Pn} (ha:bd2 a) (hb:bd2 b) : (-524288≤b.1- a.1∧b.1- a.1≤524288)∧-524288≤b.2- a.2∧b.2- a.2≤524288:=by
 obtain ⟨⟨h1,h2⟩,h3,h4⟩ :=ha
 obtain ⟨⟨k1,k2⟩,k3,k4⟩ :=hb
 omega
theorem Oc {a b:Pn} (ha:bd2 a) (hb:bd2 b) :0≤Wa a b∧Wa a b≤549755813888:=by
 have hd:=vw ha hb
 have h1:=Y1 hd.1 hd.1
 have h2:=Y1 hd.2 hd.2
 have:=kh (b.1- a.1)
 have:=kh (b.2- a.2)
 unfold Wa
 omega
theorem BA {a b c:Pn} (ha:bd2 a) (hb:bd2 b) (hc:bd2 c) : -549755813888≤tn a b c∧tn a b c≤549755813888:=by
 have hd:=vw ha hb
 have he:=vw ha hc
 have h1:=Y1 hd.1 he.2
 have h2:=Y1 hd.2 he.1
 unfold tn QX
 omega
theorem LQ (m n K:Nat) (hK:0<K) : (m/K<n/K∨m/K=n/K∧m % K≤n % K)↔m≤n:=by
 have e1:=Nat.div_add_mod m K
 have e2:=Nat.div_add_mod n K
 have l1:=Nat.mod_lt m hK
 have l2:=Nat.mod_lt n hK
 constructor
 ·rintro(h |⟨h,h'⟩)
  ·have:K* (m/K+1)≤K* (n/K) :=Nat.mul_le_mul_left K h
   rw [Nat.mul_add] at this
   omega
  ·rw [h] at e1;omega
 ·intro h
  rcases Nat.lt_trichotomy (m/K) (n/K) with h1 | h1 | h1
  ·exact .inl h1
  ·rw [h1] at e1;exact .inr ⟨h1,by omega⟩
  ·have:K* (n/K+1)≤K* (m/K) :=Nat.mul_le_mul_left K h1
   rw [Nat.mul_add] at this
   omega
theorem M3 (a:Int) (h1: -9223372036854775808≤a) (h2:a≤9223372036854775807) :IntKind.i64.wrap a=a:=by simp [IntKind.wrap,IntKind.bits,IntKind.signed];omega
theorem zW (a b:Nat) (ha:a<9223372036854775808) (hb:b<9223372036854775808) :bits .and .i64 (a:Int) (b:Int) = ((a&&&b:Nat) :Int) :=by
 have hx:a&&&b<2^63:=Nat.and_lt_two_pow _ Om
 show IntKind.i64.wrap ((BitVec.ofInt 64 (a:Int) &&&BitVec.ofInt 64 (b:Int)).toNat:Int) =_
 rw [BitVec.toNat_and,ofInt_u64 a Om,ofInt_u64 b Om,M3 _ Om Om]
theorem xm (a b:Nat) (ha:a<9223372036854775808) (hb:b<9223372036854775808) :bits .or .i64 (a:Int) (b:Int) = ((a ||| b:Nat) :Int) :=by
 have hx:a ||| b<2^63:=Nat.or_lt_two_pow Om Om
 show IntKind.i64.wrap ((BitVec.ofInt 64 (a:Int) ||| BitVec.ofInt 64 (b:Int)).toNat:Int) =_
 rw [BitVec.toNat_or,ofInt_u64 a Om,ofInt_u64 b Om,M3 _ Om Om]
theorem Xe (a:Nat) (ha:a<9223372036854775808) :bits .and .i64 (a:Int) 2147483647= ((a % 2147483648:Nat) :Int) :=by
 have h:=zW a 2147483647 ha Om
 rw [show a&&&2147483647=a % 2147483648 from Nat.and_two_pow_sub_one_eq_mod a 31] at h
 exact h
theorem BN (a b:Nat) (ha:a<2147483648) (hb:b<2147483648) :bits .or .i64 ((a*2147483648:Nat) :Int) (b:Int) = ((a*2147483648+b:Nat) :Int) :=by
 have h:=xm (a*2147483648) b Om Om
 rw [nat_join 31 (a*2147483648) b Om Om] at h
 exact h
theorem uN (a:Nat) (ha:a<9223372036854775808) :wrap64 (a:Int) = (a:Int) :=by unfold wrap64;omega
theorem BJ (a:Nat) : (a:Int) /2147483648= ((a/2147483648:Nat) :Int) :=by omega
theorem BM (a:Nat) : (a:Int) *2147483648= ((a*2147483648:Nat) :Int) :=by omega
theorem Be (x y:Nat) (hx:x<1152921504606846976) (hy:y<1152921504606846976) :
  (x % 2147483648) * (y % 2147483648) <9223372036854775808∧(x/2147483648) * (y % 2147483648) <4611686018427387904∧(x % 2147483648) * (y/2147483648) <4611686018427387904∧
  (x/2147483648) * (y % 2147483648) + (x % 2147483648) * (y/2147483648) <9223372036854775808∧
  (x/2147483648) * (y % 2147483648) + (x % 2147483648) * (y/2147483648) + (x % 2147483648) * (y % 2147483648) /2147483648<9223372036854775808∧
  (x/2147483648) * (y/2147483648) <9223372036854775808∧
  (x/2147483648) * (y/2147483648) + ((x/2147483648) * (y % 2147483648) + (x % 2147483648) * (y/2147483648) + (x % 2147483648) * (y % 2147483648) /2147483648) /2147483648<9223372036854775808∧
  (x/2147483648) * (y/2147483648) + ((x/2147483648) * (y % 2147483648) + (x % 2147483648) * (y/2147483648) + (x % 2147483648) * (y % 2147483648) /2147483648) /2147483648=x*y/4611686018427387904∧
  ((x/2147483648) * (y % 2147483648) + (x % 2147483648) * (y/2147483648) + (x % 2147483648) * (y % 2147483648) /2147483648) % 2147483648*2147483648+ (x % 2147483648) * (y % 2147483648) % 2147483648=x*y % 4611686018427387904:=by
 have e:x*y= (x/2147483648) * (y/2147483648) * (2147483648*2147483648) + ((x/2147483648) * (y % 2147483648) + (x % 2147483648) * (y/2147483648)) *2147483648+ (x % 2147483648) * (y % 2147483648) :=by
  rw [←Lib.split_mul,Nat.div_add_mod' x 2147483648,Nat.div_add_mod' y 2147483648]
 have ha:x/2147483648* (y/2147483648)≤536870912*536870912:=FW Om Om
 have hb:x/2147483648* (y % 2147483648)≤536870912*2147483648:=FW Om Om
 have hc:x % 2147483648* (y/2147483648)≤2147483648*536870912:=FW Om Om
 have hd:x % 2147483648* (y % 2147483648)≤2147483647*2147483647:=FW Om Om
 rw [e]
 generalize (x/2147483648) * (y/2147483648) =a at*
 generalize (x/2147483648) * (y % 2147483648) =b at*
 generalize (x % 2147483648) * (y/2147483648) =c at*
 generalize (x % 2147483648) * (y % 2147483648) =d at*
 refine⟨by omega,by omega,by omega,by omega,by omega,by omega,by omega,by omega,by omega⟩
theorem ux (a b:Nat) (ha:a<1152921504606846976) (hb:b<1152921504606846976) (w:World) :
  Calls Try.prog 88 #[.int .i64 a, .int .i64 b] w fun e w'=>e= .returned (.tuple #[.int .i64 ((a*b/4611686018427387904:Nat) :Int), .int .i64 ((a*b % 4611686018427387904:Nat) :Int)])∧w=w':=by
 obtain ⟨h1,h2,h3,h4,h5,h6,h7,h8,h9⟩ :=Be a b ha hb
 have q:=Nat.mod_lt ((a/2147483648) * (b % 2147483648) + (a % 2147483648) * (b/2147483648) + (a % 2147483648) * (b % 2147483648) /2147483648) (show 0<2147483648 by decide)
 have q2:=Nat.mod_lt ((a % 2147483648) * (b % 2147483648)) (show 0<2147483648 by decide)
 go_enter Try.func88,Try.ntmps88
 go_wp2
 simp only [Xe a Om,Xe b Om,BJ,Mul64.mulN,Mul64.addN,uN _ h1,uN _ (Nat.lt_trans h2 Dc),uN _ (Nat.lt_trans h3 Dc),uN _ h4,uN _ h5,uN _ h6,uN _ h7,Xe _ h1,Xe _ h5,BM,uN _ (show _*2147483648<9223372036854775808 from Nat.lt_of_le_of_lt (Nat.mul_le_mul_right 2147483648 (Nat.le_of_lt_succ q)) Dc),BN _ _ q q2]
 rw [h8,h9]
 go_ret2
 exact⟨rfl,rfl⟩
theorem Wu (a b:Pn) (w:World) (ha:bd2 a) (hb:bd2 b) :Calls Try.prog 69 #[pV a,pV b] w fun e w'=>e= .returned (.int .i64 (Wa a b))∧Over w w':=by
 have hd:=vw ha hb
 have h1:=Y1 hd.1 hd.1
 have h2:=Y1 hd.2 hd.2
 refine Jh (m:=28) (Try.func69) J J (lb J) ?_;refine S3 ?_;refine aX (fun b1=> ?_);refine N1 ?_;refine aX (fun b2=> ?_);refine Df ?_;refine jG J (.tmp J) ?_
 intro w' hs
 exact⟨rfl,hs.fin⟩
theorem y9 (a b c d:Int) (h: (0≤a∧a<1152921504606846976)∧(0≤b∧b<1152921504606846976)∧(0≤c∧c<1152921504606846976)∧0≤d∧d<1152921504606846976) (w:World) :
  Calls Try.prog 70 #[.int .i64 a, .int .i64 b, .int .i64 c, .int .i64 d] w fun e w'=>e= .returned (.bool (decide (a*b≤c*d)))∧Over w w':=by
 obtain ⟨A,rfl⟩ :=Int.eq_ofNat_of_zero_le h.1.1
 obtain ⟨B,rfl⟩ :=Int.eq_ofNat_of_zero_le h.2.1.1
 obtain ⟨C,rfl⟩ :=Int.eq_ofNat_of_zero_le h.2.2.1.1
 obtain ⟨D,rfl⟩ :=Int.eq_ofNat_of_zero_le h.2.2.2.1
 rw [←Int.natCast_mul,←Int.natCast_mul,show decide (((A*B:Nat) :Int)≤((C*D:Nat) :Int)) =decide (A*B≤C*D) from decide_eq_decide.2 Int.ofNat_le]
 have hk:=LQ (A*B) (C*D) 4611686018427387904 Dc
 refine Jh (m:=38) (Try.func70) J J (lb J) ?_;refine S8 ?_;refine a9 (jN Vs J J (fun w h=>Calls.still (ux A B Om Om w))) ?_;refine Dg ?_;refine a9 (jN Vs J J (fun w h=>Calls.still (ux C D Om Om w))) ?_;refine Di ?_;refine cV 28 (fun g1=> ?_) (fun g1=> ?_)
 ·refine Di ?_;refine jG J (.tmp J) ?_
  intro w' hs
  exact⟨congrArg Ending.returned (congrArg Value.bool (FJ.2 ((show _↔_ by simp;omega).trans (hk.trans decide_eq_true_iff.symm)))),hs.fin⟩
 ·refine S8 ?_;refine cV 32 (fun g2=> ?_) (fun g2=> ?_)
  ·refine Di ?_;refine jG J (.tmp J) ?_
   intro w' hs
   exact⟨congrArg Ending.returned (congrArg Value.bool (FJ.2 ((show _↔_ by simp;omega).trans (hk.trans decide_eq_true_iff.symm)))),hs.fin⟩
  ·refine S9 ?_;refine jG J (.tmp J) ?_
   intro w' hs
   exact⟨congrArg Ending.returned (congrArg Value.bool (FJ.2 ((show _↔_ by simp;omega).trans (hk.trans decide_eq_true_iff.symm)))),hs.fin⟩
theorem Gu (a b p:Pn) (r:Int) (w:World) (ha:bd2 a) (hb:bd2 b) (hp:bd2 p) (hr:0≤r∧r≤262144) :Calls Try.prog 44 #[pV a,pV b,pV p, .int .i64 r] w fun e w'=>e= .returned (.bool (Kp a b p r))∧Over w w':=by
 have hd:=vw ha hb
 have he:=vw ha hp
 have h1:=Y1 he.1 hd.1
 have h2:=Y1 he.2 hd.2
 have hrr:=Y1 (B:=262144) (x:=r) (y:=r) Om Om
 have hr0:=kh r
 have ht:=BA ha hb hp
 have hs0:=Oc ha hb
 refine Jh (m:=76) (Try.func44) J J (lb J) ?_;refine S3 ?_;refine aX (fun b1=> ?_);refine N1 ?_;refine aX (fun b2=> ?_);refine N1 ?_;refine aX (fun b3=> ?_);refine N7 ?_;refine a9 (jN kv J J (fun w h=>Wu _ _ w (by assumption) (by assumption))) ?_;refine S5 ?_;refine cV 18 (fun g1=> ?_) (fun g1=> ?_)
 ·refine Dm ?_;refine jG J (.tmp J) ?_
  intro w' hs
  exact⟨congrArg Ending.returned (congrArg Value.bool (by unfold Kp; (repeat' split) <;>first | rfl | (exfalso; (try simp only [G4] at*);omega) | simp [Int.neg_mul_neg])),hs.fin⟩
 ·refine S5 ?_;refine o9 (jN kv J J (fun w h=>Wu _ _ w (by assumption) (by assumption))) ?_;refine Dg ?_;refine cZ (fun c1=> ?_) (fun c1=> ?_)
  ·refine S6 ?_;refine jG J (.tmp J) ?_
   intro w' hs
   exact⟨congrArg Ending.returned (congrArg Value.bool (by unfold Kp; (repeat' split) <;>first | rfl | (exfalso; (try simp only [G4] at*);omega) | simp [Int.neg_mul_neg])),hs.fin⟩
  ·refine Dv ?_;refine cV 52 (fun g2=> ?_) (fun g2=> ?_)
   ·refine Dk ?_;refine jG J (.tmp J) ?_
    intro w' hs
    exact⟨congrArg Ending.returned (congrArg Value.bool (by unfold Kp; (repeat' split) <;>first | rfl | (exfalso; (try simp only [G4] at*);omega) | simp [Int.neg_mul_neg])),hs.fin⟩
   ·refine S7 ?_;refine o9 (jN kv J J (fun w h=>Wu _ _ w (by assumption) (by assumption))) ?_;refine S4 ?_;refine cZ (fun c2=> ?_) (fun c2=> ?_)
    ·refine S6 ?_;refine jG J (.tmp J) ?_
     intro w' hs
     exact⟨congrArg Ending.returned (congrArg Value.bool (by unfold Kp; (repeat' split) <;>first | rfl | (exfalso; (try simp only [G4] at*);omega) | simp [Int.neg_mul_neg])),hs.fin⟩
    ·refine S7 ?_;refine a9 (jN kB J J (fun w h=>Gy _ _ _ w ha hb hp)) ?_;refine S8 ?_;refine cZ (fun c3=> ?_) (fun c3=> ?_)
     ·refine S2 ?_;refine a9 (Y9 J J Om Om) ?_;refine Dh ?_;refine a9 (jN kv J J (fun w h=>Wu _ _ w (by assumption) (by assumption))) ?_;refine a9 (jN Vr J J (fun w h=>y9 _ _ _ _ Om w)) ?_;refine S3 ?_;refine jG J (.tmp J) ?_
      intro w' hs
      exact⟨congrArg Ending.returned (congrArg Value.bool (by unfold Kp; (repeat' split) <;>first | rfl | (exfalso; (try simp only [G4] at*);omega) | simp [Int.neg_mul_neg])),hs.fin⟩
     ·refine Dh ?_;refine a9 (jN kv J J (fun w h=>Wu _ _ w (by assumption) (by assumption))) ?_;refine a9 (jN Vr J J (fun w h=>y9 _ _ _ _ Om w)) ?_;refine S3 ?_;refine jG J (.tmp J) ?_
      intro w' hs
      exact⟨congrArg Ending.returned (congrArg Value.bool (by unfold Kp; (repeat' split) <;>first | rfl | (exfalso; (try simp only [G4] at*);omega) | simp [Int.neg_mul_neg])),hs.fin⟩
def Bg (a b p:Pn) :Int:=if a=b then Wa a p else max (tn a b p) (-tn a b p)
def XT (a b:Pn) (r:Int) (xs:List (Int×Int)) :Nat→Int×Int
 | 0=> (-1,-1)
 | k+1=>if Kp a b (pt xs (k+1)) r=true then XT a b r xs k else if(XT a b r xs k).2<Bg a b (pt xs (k+1)) then(((k+1:Nat) :Int),Bg a b (pt xs (k+1))) else XT a b r xs k
def far (r:Int) (xs:List (Int×Int)) :Int:= (XT (pt xs 0) (pt xs (xs.length- 1)) r xs (xs.length- 2)).1
def okPath (xs:List (Int×Int)) :Prop:=xs.length≤402∧∀p∈xs,bd2 p
theorem okPath.at_ {xs:List (Int×Int)} (h:okPath xs) {k:Nat} (hk:k<xs.length) :bd2 (pt xs k) :=by
 have:=h.2 xs[k] (DR hk)
 rwa [Vz hk] at this
theorem okPath.take {xs:List (Int×Int)} (h:okPath xs) (k:Nat) :okPath (xs.take k) :=⟨by rw [Ff];have:=h.1;omega,fun p hp=>h.2 p (FL hp)⟩
theorem okPath.drop {xs:List (Int×Int)} (h:okPath xs) (k:Nat) :okPath (xs.drop k) :=⟨by rw [D5];have:=h.1;omega,fun p hp=>h.2 p (FK hp)⟩
section
variable {n:Nat} {env:List (Nat×Value)} {w0:Bs} {Rs:List Res} {K:Act→World→Prop}
end
end Go.Proofs.Ytpncbbcmoiiipaa
