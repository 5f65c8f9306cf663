import Derived.Test.YtbahojdbmmjkcaaGreatMSnapped
import Derived.Shelf.Bits.Mul64
import Derived.Laws.BitsAllLaws
import Derived.Test.YtbahojdbmmjkcaaGreatMSimp
import Derived.Test.YtbahojdbmmjkcaaGreatMTrQ
import Derived.Test.YtbahojdbmmjkcaaGreatMTopo4
import Derived.Test.YtbahojdbmmjkcaaGreatMNetT
import Derived.Test.YtbahojdbmmjkcaaGreatMNetI
set_option linter.unusedVariables false
set_option linter.unusedSimpArgs false
namespace Go.Proofs.YtbahojdbmmjkcaaGreat
open Go Go.RowKit
variable {xs:List (Int×Int)}
set_option maxRecDepth 100000
set_option maxHeartbeats 4000000
def Xx (a b:Pn) :Int:= (b.1- a.1) * (b.1- a.1) + (b.2- a.2) * (b.2- a.2)
def alg (a b p:Pn) :Int:= (p.1- a.1) * (b.1- a.1) + (p.2- a.2) * (b.2- a.2)
def Ua (a b p:Pn) (r:Int) :Bool:=
 if Xx a p≤r*r∨Xx b p≤r*r then true else if alg a b p≤0∨Xx a b≤alg a b p then false else decide (tn a b p*tn a b p≤r*r*Xx a b)
theorem wI (x:Int) :0≤x*x:=by
 rcases Int.le_total 0 x with h | h
 ·exact jjD h h
 ·have:=jjD (show 0≤-x by omega) (show 0≤-x by omega)
  grind
theorem IT {x y B:Int} (h1: -B≤x∧x≤B) (h2: -B≤y∧y≤B) : -(B*B)≤x*y∧x*y≤B*B:=by
 have a1:=jjD (show 0≤B- x by omega) (show 0≤B- y by omega)
 have a2:=jjD (show 0≤B+x by omega) (show 0≤B+y by omega)
 have a3:=jjD (show 0≤B- x by omega) (show 0≤B+y by omega)
 have a4:=jjD (show 0≤B+x by omega) (show 0≤B- y by omega)
 constructor<;>grind
theorem yV {a b:Pn} (ha:bd2 a) (hb:bd2 b) : (-524288≤b.1- a.1∧b.1- a.1≤524288)∧-524288≤b.2- a.2∧b.2- a.2≤524288:=by
 obtain ⟨⟨h1,h2⟩,h3,h4⟩ :=ha
 obtain ⟨⟨k1,k2⟩,k3,k4⟩ :=hb
 omega
theorem jhc {a b:Pn} (ha:bd2 a) (hb:bd2 b) :0≤Xx a b∧Xx a b≤549755813888:=by
 have hd:=yV ha hb
 have h1:=IT hd.1 hd.1
 have h2:=IT hd.2 hd.2
 have:=wI (b.1- a.1)
 have:=wI (b.2- a.2)
 unfold Xx
 omega
theorem jiQ {a b c:Pn} (ha:bd2 a) (hb:bd2 b) (hc:bd2 c) : -549755813888≤tn a b c∧tn a b c≤549755813888:=by
 have hd:=yV ha hb
 have he:=yV ha hc
 have h1:=IT hd.1 he.2
 have h2:=IT hd.2 he.1
 unfold tn Q0
 omega
theorem jeC (m n K:Nat) (hK:0<K) : (m/K<n/K∨m/K=n/K∧m % K≤n % K)↔m≤n:=by
 have e1:=Nat.div_add_mod m K
 have e2:=Nat.div_add_mod n K
 have l1:=jkR m hK
 have l2:=jkR n hK
 constructor
 ·rintro(h |⟨h,h'⟩)
  ·have:K* (m/K+1)≤K* (n/K) :=Nat.mul_le_mul_left K h
   rw [Nat.mul_add] at this
   omega
  ·rw [h] at e1;omega
 ·intro h
  rcases Nat.lt_trichotomy (m/K) (n/K) with h1 | h1 | h1
  ·exact .inl h1
  ·rw [h1] at e1;exact .inr ⟨h1,by omega⟩
  ·have:K* (n/K+1)≤K* (m/K) :=Nat.mul_le_mul_left K h1
   rw [Nat.mul_add] at this
   omega
theorem jgT (a:Int) (h1: -9223372036854775808≤a) (h2:a≤9223372036854775807) :IntKind.i64.wrap a=a:=by simp [IntKind.wrap,IntKind.bits,IntKind.signed];omega
theorem SO (a b:Nat) (ha:a<9223372036854775808) (hb:b<9223372036854775808) :bits .and .i64 (a:Int) (b:Int) = ((a&&&b:Nat) :Int) :=by
 have hx:a&&&b<2^63:=Nat.and_lt_two_pow _ Om
 show IntKind.i64.wrap ((BitVec.ofInt 64 (a:Int) &&&BitVec.ofInt 64 (b:Int)).toNat:Int) =_
 rw [BitVec.toNat_and,ofInt_u64 a Om,ofInt_u64 b Om,jgT _ Om Om]
theorem NW (a b:Nat) (ha:a<9223372036854775808) (hb:b<9223372036854775808) :bits .or .i64 (a:Int) (b:Int) = ((a ||| b:Nat) :Int) :=by
 have hx:a ||| b<2^63:=Nat.or_lt_two_pow Om Om
 show IntKind.i64.wrap ((BitVec.ofInt 64 (a:Int) ||| BitVec.ofInt 64 (b:Int)).toNat:Int) =_
 rw [BitVec.toNat_or,ofInt_u64 a Om,ofInt_u64 b Om,jgT _ Om Om]
theorem Cc (a:Nat) (ha:a<9223372036854775808) :bits .and .i64 (a:Int) 2147483647= ((a % 2147483648:Nat) :Int) :=by
 have h:=SO a 2147483647 ha Om
 rw [show a&&&2147483647=a % 2147483648 from Nat.and_two_pow_sub_one_eq_mod a 31] at h
 exact h
theorem ji5 (a b:Nat) (ha:a<2147483648) (hb:b<2147483648) :bits .or .i64 ((a*2147483648:Nat) :Int) (b:Int) = ((a*2147483648+b:Nat) :Int) :=by
 have h:=NW (a*2147483648) b Om Om
 rw [nat_join 31 (a*2147483648) b Om Om] at h
 exact h
theorem L9 (a:Nat) (ha:a<9223372036854775808) :wrap64 (a:Int) = (a:Int) :=by unfold wrap64;omega
theorem jiY (a:Nat) : (a:Int) /2147483648= ((a/2147483648:Nat) :Int) :=by omega
theorem ji4 (a:Nat) : (a:Int) *2147483648= ((a*2147483648:Nat) :Int) :=by omega
theorem jiv (x y:Nat) (hx:x<1152921504606846976) (hy:y<1152921504606846976) :
  (x % 2147483648) * (y % 2147483648) <9223372036854775808∧(x/2147483648) * (y % 2147483648) <4611686018427387904∧(x % 2147483648) * (y/2147483648) <4611686018427387904∧
  (x/2147483648) * (y % 2147483648) + (x % 2147483648) * (y/2147483648) <9223372036854775808∧
  (x/2147483648) * (y % 2147483648) + (x % 2147483648) * (y/2147483648) + (x % 2147483648) * (y % 2147483648) /2147483648<9223372036854775808∧
  (x/2147483648) * (y/2147483648) <9223372036854775808∧
  (x/2147483648) * (y/2147483648) + ((x/2147483648) * (y % 2147483648) + (x % 2147483648) * (y/2147483648) + (x % 2147483648) * (y % 2147483648) /2147483648) /2147483648<9223372036854775808∧
  (x/2147483648) * (y/2147483648) + ((x/2147483648) * (y % 2147483648) + (x % 2147483648) * (y/2147483648) + (x % 2147483648) * (y % 2147483648) /2147483648) /2147483648=x*y/4611686018427387904∧
  ((x/2147483648) * (y % 2147483648) + (x % 2147483648) * (y/2147483648) + (x % 2147483648) * (y % 2147483648) /2147483648) % 2147483648*2147483648+ (x % 2147483648) * (y % 2147483648) % 2147483648=x*y % 4611686018427387904:=by
 have e:x*y= (x/2147483648) * (y/2147483648) * (2147483648*2147483648) + ((x/2147483648) * (y % 2147483648) + (x % 2147483648) * (y/2147483648)) *2147483648+ (x % 2147483648) * (y % 2147483648) :=by
  rw [←Lib.split_mul,Nat.div_add_mod' x 2147483648,Nat.div_add_mod' y 2147483648]
 have ha:x/2147483648* (y/2147483648)≤536870912*536870912:=jkH Om Om
 have hb:x/2147483648* (y % 2147483648)≤536870912*2147483648:=jkH Om Om
 have hc:x % 2147483648* (y/2147483648)≤2147483648*536870912:=jkH Om Om
 have hd:x % 2147483648* (y % 2147483648)≤2147483647*2147483647:=jkH Om Om
 rw [e]
 generalize (x/2147483648) * (y/2147483648) =a at*
 generalize (x/2147483648) * (y % 2147483648) =b at*
 generalize (x % 2147483648) * (y/2147483648) =c at*
 generalize (x % 2147483648) * (y % 2147483648) =d at*
 refine⟨by omega,by omega,by omega,by omega,by omega,by omega,by omega,by omega,by omega⟩
theorem Lw (a b:Nat) (ha:a<1152921504606846976) (hb:b<1152921504606846976) (w:World) :
  Calls Tryz.prog 241 #[.int .i64 a, .int .i64 b] w fun e w'=>e= .returned (.tuple #[.int .i64 ((a*b/4611686018427387904:Nat) :Int), .int .i64 ((a*b % 4611686018427387904:Nat) :Int)])∧w=w':=by
 obtain ⟨h1,h2,h3,h4,h5,h6,h7,h8,h9⟩ :=jiv a b ha hb
 have q:=jkR ((a/2147483648) * (b % 2147483648) + (a % 2147483648) * (b/2147483648) + (a % 2147483648) * (b % 2147483648) /2147483648) (show 0<2147483648 by decide)
 have q2:=jkR ((a % 2147483648) * (b % 2147483648)) (show 0<2147483648 by decide)
 go_enter Tryz.func241,Tryz.ntmps241
 go_wp2
 simp only [Cc a Om,Cc b Om,jiY,Mul64.mulN,Mul64.addN,L9 _ h1,L9 _ (Nat.lt_trans h2 Dc),L9 _ (Nat.lt_trans h3 Dc),L9 _ h4,L9 _ h5,L9 _ h6,L9 _ h7,Cc _ h1,Cc _ h5,ji4,L9 _ (show _*2147483648<9223372036854775808 from Nat.lt_of_le_of_lt (Nat.mul_le_mul_right 2147483648 (Nat.le_of_lt_succ q)) Dc),ji5 _ _ q q2]
 rw [h8,h9]
 go_ret2
 exact⟨rfl,rfl⟩
theorem X5 (a b:Pn) (w:World) (ha:bd2 a) (hb:bd2 b) :Calls Tryz.prog 191 #[pV a,pV b] w fun e w'=>e= .returned (.int .i64 (Xx a b))∧Over w w':=by
 have hd:=yV ha hb
 have h1:=IT hd.1 hd.1
 have h2:=IT hd.2 hd.2
 refine j6 (m:=28) (Tryz.func191) J J (lb J) ?_;refine S3 ?_;refine aX (fun b1=> ?_);refine N1 ?_;refine aX (fun b2=> ?_);refine N30 ?_;refine jK J (.tmp J) ?_
 intro w' hs
 exact⟨rfl,hs.fin⟩
theorem Fj (a b c d:Int) (h: (0≤a∧a<1152921504606846976)∧(0≤b∧b<1152921504606846976)∧(0≤c∧c<1152921504606846976)∧0≤d∧d<1152921504606846976) (w:World) :
  Calls Tryz.prog 192 #[.int .i64 a, .int .i64 b, .int .i64 c, .int .i64 d] w fun e w'=>e= .returned (.bool (decide (a*b≤c*d)))∧Over w w':=by
 obtain ⟨A,rfl⟩ :=Int.eq_ofNat_of_zero_le h.1.1
 obtain ⟨B,rfl⟩ :=Int.eq_ofNat_of_zero_le h.2.1.1
 obtain ⟨C,rfl⟩ :=Int.eq_ofNat_of_zero_le h.2.2.1.1
 obtain ⟨D,rfl⟩ :=Int.eq_ofNat_of_zero_le h.2.2.2.1
 rw [←Int.natCast_mul,←Int.natCast_mul,show decide (((A*B:Nat) :Int)≤((C*D:Nat) :Int)) =decide (A*B≤C*D) from decide_eq_decide.2 Int.ofNat_le]
 have hk:=jeC (A*B) (C*D) 4611686018427387904 Dc
 refine j6 (m:=38) (Tryz.func192) J J (lb J) ?_;refine S8 ?_;refine a9 (jM zv J J (fun w h=>Calls.still (Lw A B Om Om w))) ?_;refine S10 ?_;refine a9 (jM zv J J (fun w h=>Calls.still (Lw C D Om Om w))) ?_;refine S12 ?_;refine cV 28 (fun g1=> ?_) (fun g1=> ?_)
 ·refine S12 ?_;refine jK J (.tmp J) ?_
  intro w' hs
  exact⟨congrArg Ending.returned (congrArg Value.bool (jjT.2 ((show _↔_ by simp;omega).trans (hk.trans decide_eq_true_iff.symm)))),hs.fin⟩
 ·refine S8 ?_;refine cV 32 (fun g2=> ?_) (fun g2=> ?_)
  ·refine S12 ?_;refine jK J (.tmp J) ?_
   intro w' hs
   exact⟨congrArg Ending.returned (congrArg Value.bool (jjT.2 ((show _↔_ by simp;omega).trans (hk.trans decide_eq_true_iff.symm)))),hs.fin⟩
  ·refine S9 ?_;refine jK J (.tmp J) ?_
   intro w' hs
   exact⟨congrArg Ending.returned (congrArg Value.bool (jjT.2 ((show _↔_ by simp;omega).trans (hk.trans decide_eq_true_iff.symm)))),hs.fin⟩
theorem jat (a b p:Pn) (r:Int) (w:World) (ha:bd2 a) (hb:bd2 b) (hp:bd2 p) (hr:0≤r∧r≤262144) :Calls Tryz.prog 126 #[pV a,pV b,pV p, .int .i64 r] w fun e w'=>e= .returned (.bool (Ua a b p r))∧Over w w':=by
 have hd:=yV ha hb
 have he:=yV ha hp
 have h1:=IT he.1 hd.1
 have h2:=IT he.2 hd.2
 have hrr:=IT (B:=262144) (x:=r) (y:=r) Om Om
 have hr0:=wI r
 have ht:=jiQ ha hb hp
 have hs0:=jhc ha hb
 refine j6 (m:=76) (Tryz.func126) J J (lb J) ?_;refine S3 ?_;refine aX (fun b1=> ?_);refine N1 ?_;refine aX (fun b2=> ?_);refine N1 ?_;refine aX (fun b3=> ?_);refine N7 ?_;refine a9 (jM Wf J J (fun w h=>X5 _ _ w (by assumption) (by assumption))) ?_;refine S5 ?_;refine cV 18 (fun g1=> ?_) (fun g1=> ?_)
 ·refine S16 ?_;refine jK J (.tmp J) ?_
  intro w' hs
  exact⟨congrArg Ending.returned (congrArg Value.bool (by unfold Ua; (repeat' split) <;>first | rfl | (exfalso; (try simp only [alg] at*);omega) | simp [jk9])),hs.fin⟩
 ·refine S5 ?_;refine o9 (jM Wf J J (fun w h=>X5 _ _ w (by assumption) (by assumption))) ?_;refine S10 ?_;refine cZ (fun c1=> ?_) (fun c1=> ?_)
  ·refine S6 ?_;refine jK J (.tmp J) ?_
   intro w' hs
   exact⟨congrArg Ending.returned (congrArg Value.bool (by unfold Ua; (repeat' split) <;>first | rfl | (exfalso; (try simp only [alg] at*);omega) | simp [jk9])),hs.fin⟩
  ·refine S35 ?_;refine cV 52 (fun g2=> ?_) (fun g2=> ?_)
   ·refine S14 ?_;refine jK J (.tmp J) ?_
    intro w' hs
    exact⟨congrArg Ending.returned (congrArg Value.bool (by unfold Ua; (repeat' split) <;>first | rfl | (exfalso; (try simp only [alg] at*);omega) | simp [jk9])),hs.fin⟩
   ·refine S7 ?_;refine o9 (jM Wf J J (fun w h=>X5 _ _ w (by assumption) (by assumption))) ?_;refine S4 ?_;refine cZ (fun c2=> ?_) (fun c2=> ?_)
    ·refine S6 ?_;refine jK J (.tmp J) ?_
     intro w' hs
     exact⟨congrArg Ending.returned (congrArg Value.bool (by unfold Ua; (repeat' split) <;>first | rfl | (exfalso; (try simp only [alg] at*);omega) | simp [jk9])),hs.fin⟩
    ·refine S7 ?_;refine a9 (jM Qa J J (fun w h=>WK _ _ _ w ha hb hp)) ?_;refine S8 ?_;refine cZ (fun c3=> ?_) (fun c3=> ?_)
     ·refine S2 ?_;refine a9 (yK J J Om Om) ?_;refine S11 ?_;refine a9 (jM Wf J J (fun w h=>X5 _ _ w (by assumption) (by assumption))) ?_;refine a9 (jM zu J J (fun w h=>Fj _ _ _ _ Om w)) ?_;refine S3 ?_;refine jK J (.tmp J) ?_
      intro w' hs
      exact⟨congrArg Ending.returned (congrArg Value.bool (by unfold Ua; (repeat' split) <;>first | rfl | (exfalso; (try simp only [alg] at*);omega) | simp [jk9])),hs.fin⟩
     ·refine S11 ?_;refine a9 (jM Wf J J (fun w h=>X5 _ _ w (by assumption) (by assumption))) ?_;refine a9 (jM zu J J (fun w h=>Fj _ _ _ _ Om w)) ?_;refine S3 ?_;refine jK J (.tmp J) ?_
      intro w' hs
      exact⟨congrArg Ending.returned (congrArg Value.bool (by unfold Ua; (repeat' split) <;>first | rfl | (exfalso; (try simp only [alg] at*);omega) | simp [jk9])),hs.fin⟩
def jix (a b p:Pn) :Int:=if a=b then Xx a p else max (tn a b p) (-tn a b p)
def Es (a b:Pn) (r:Int) (xs:List (Int×Int)) :Nat→Int×Int
 | 0=> (-1,-1)
 | k+1=>if Ua a b (pt xs (k+1)) r=true then Es a b r xs k else if(Es a b r xs k).2<jix a b (pt xs (k+1)) then(((k+1:Nat) :Int),jix a b (pt xs (k+1))) else Es a b r xs k
def far (r:Int) (xs:List (Int×Int)) :Int:= (Es (pt xs 0) (pt xs (xs.length- 1)) r xs (xs.length- 2)).1
def okPath (xs:List (Int×Int)) :Prop:=xs.length≤402∧∀p∈xs,bd2 p
theorem okPath.at_ (h:okPath xs) {k:Nat} (hk:k<xs.length) :bd2 (pt xs k) :=by
 have:=h.2 xs[k] (jju hk)
 rwa [yU hk] at this
theorem okPath.take (h:okPath xs) (k:Nat) :okPath (xs.take k) :=⟨by rw [jjC];have:=h.1;omega,fun p hp=>h.2 p (jj6 hp)⟩
theorem okPath.drop (h:okPath xs) (k:Nat) :okPath (xs.drop k) :=⟨by rw [jjO];have:=h.1;omega,fun p hp=>h.2 p (jkf hp)⟩
section
variable {n:Nat} {env:List (Nat×Value)} {w0:Bs} {Rs:List Res} {K:Act→World→Prop}
end
end Go.Proofs.YtbahojdbmmjkcaaGreat
namespace Go.Proofs.YtbahojdbmmjkcaaGreat
open Go Go.RowKit
variable {a b p:Pn} {hot xs:List Pn} {k α:Int} {rs:List jO}
def ur (α β:Int) (p x:Pn) :Int:=α* (x.1- p.1) +β* (x.2- p.2)
theorem jiK {x y:Int} (hx:0≤x) (hy:0≤y) (h:x*x<y*y) :x<y:=by
 rcases jk5 x y with h1 | h1
 ·exact h1
 ·have:=Int.mul_le_mul h1 h1 hy hx
  omega
theorem sep {r:Int} (hr:0≤r) (h:Ua a b p r=false) :∃α β m:Int,0<m∧r*r* (α*α+β*β) <m*m∧m≤ur α β p a∧m≤ur α β p b:=by
 have hrr:=wI r
 unfold Ua at h
 split at h
 ·cases h
 ·rename_i h1
  have h1a:r*r<Xx a p:=Int.not_le.1 fun k=>h1 (.inl k)
  have h1b:r*r<Xx b p:=Int.not_le.1 fun k=>h1 (.inr k)
  split at h
  ·rename_i h2
   rcases h2 with h2 | h2
   ·refine⟨a.1- p.1,a.2- p.2,Xx a p,by omega,?_,?_,?_⟩
    ·have e: (a.1- p.1) * (a.1- p.1) + (a.2- p.2) * (a.2- p.2) =Xx a p:=by unfold Xx;grind
     rw [e]
     exact jjE h1a Om
    ·exact jk1 (by unfold Xx ur;grind)
    ·have e:ur (a.1- p.1) (a.2- p.2) p b=Xx a p- alg a b p:=by unfold ur Xx alg;grind
     omega
   ·refine⟨b.1- p.1,b.2- p.2,Xx b p,by omega,?_,?_,?_⟩
    ·have e: (b.1- p.1) * (b.1- p.1) + (b.2- p.2) * (b.2- p.2) =Xx b p:=by unfold Xx;grind
     rw [e]
     exact jjE h1b Om
    ·have e:ur (b.1- p.1) (b.2- p.2) p a=Xx b p+ (alg a b p- Xx a b) :=by unfold ur Xx alg;grind
     omega
    ·exact jk1 (by unfold Xx ur;grind)
  ·have h3:r*r*Xx a b<tn a b p*tn a b p:=by simpa using h
   have hd:0≤Xx a b:=by
    unfold Xx
    have:=wI (b.1- a.1)
    have:=wI (b.2- a.2)
    omega
   have key:∀s:Int,s*s=1→0<s*tn a b p→∃α β m:Int,0<m∧r*r* (α*α+β*β) <m*m∧m≤ur α β p a∧m≤ur α β p b:=fun s hs hp=>by
    refine⟨s* (b.2- a.2),s* (a.1- b.1),s*tn a b p,hp,?_,?_,?_⟩
    ·have e1:s* (b.2- a.2) * (s* (b.2- a.2)) +s* (a.1- b.1) * (s* (a.1- b.1)) =s*s*Xx a b:=by unfold Xx;grind
     have e2:s*tn a b p* (s*tn a b p) =s*s* (tn a b p*tn a b p) :=by grind
     rw [e1,e2,hs,Int.one_mul,Int.one_mul]
     exact h3
    ·exact jk1 (by simp only [ur,tn,Q0];grind)
    ·exact jk1 (by simp only [ur,tn,Q0];grind)
   have h0:0≤r*r*Xx a b:=jjD hrr hd
   rcases jj4 (tn a b p) 0 with ht | ht | ht
   ·exact key (-1) rfl Om
   ·rw [ht] at h3;omega
   ·exact key 1 rfl Om
theorem jbw (x:Int) : (x.natAbs:Int) * (x.natAbs:Int) =x*x:=by
 rcases Int.natAbs_eq x with h | h
 ·rw [←h]
 ·have: ((x.natAbs:Nat) :Int) = -x:=by omega
  rw [this];grind
def xT (p:Pn) (k:Int) (a b:Pn) :Prop:=∃α β:Int,k* ((α.natAbs:Int) + (β.natAbs:Int)) <2*ur α β p a∧k* ((α.natAbs:Int) + (β.natAbs:Int)) <2*ur α β p b
theorem jhd {r:Int} (hk:0≤k) (hr:k≤r) (h:Ua a b p r=false) :xT p k a b:=by
 obtain ⟨α,β,m,hm,h1,h2,h3⟩ :=sep Om h
 have hs: ((α.natAbs:Int) +β.natAbs) * ((α.natAbs:Int) +β.natAbs)≤2* (α*α+β*β) :=by
  have e1:=jbw α
  have e2:=jbw β
  have e3:=wI ((α.natAbs:Int) - β.natAbs)
  have e4: ((α.natAbs:Int) +β.natAbs) * ((α.natAbs:Int) +β.natAbs) =2* ((α.natAbs:Int) *α.natAbs+ (β.natAbs:Int) *β.natAbs) - ((α.natAbs:Int) - β.natAbs) * ((α.natAbs:Int) - β.natAbs) :=by grind
  rw [e4,e1,e2]
  omega
 obtain ⟨s,es⟩ :∃s:Int,s= (α.natAbs:Int) +β.natAbs:=⟨_,rfl⟩
 have hs0:0≤s:=by omega
 rw [←es] at hs
 have hkr:k*k≤r*r:=Int.mul_le_mul hr hr hk Om
 have h5: (k*s) * (k*s)≤2* (r*r* (α*α+β*β)) :=by
  have a1:k*k* (s*s)≤r*r* (s*s) :=jjn hkr (jjD hs0 hs0)
  have a2:r*r* (s*s)≤r*r* (2* (α*α+β*β)) :=jjM hs (wI r)
  have a3:k*s* (k*s) =k*k* (s*s) :=by grind
  have a4:r*r* (2* (α*α+β*β)) =2* (r*r* (α*α+β*β)) :=by grind
  omega
 have h6:k*s<2*m:=by
  refine jiK (jjD hk hs0) Om ?_
  have:2*m* (2*m) =4* (m*m) :=by grind
  have:=wI m
  omega
 exact⟨α,β,by rw [←es];omega,by rw [←es];omega⟩
theorem Ca {e v:Int} (h1: -v≤e) (h2:e≤v) : -((α.natAbs:Int) *v)≤α*e:=by
 rcases Int.natAbs_eq α with h | h
 ·have a:0≤(α.natAbs:Int) :=by omega
  have:=jjM h1 a
  have e1: (α.natAbs:Int) * -v= -((α.natAbs:Int) *v) :=by grind
  have e2: (α.natAbs:Int) *e=α*e:=by rw [←h]
  omega
 ·have a:0≤(α.natAbs:Int) :=by omega
  have:=jjM h2 a
  have e2: (α.natAbs:Int) *e= -(α*e) :=by
   have: ((α.natAbs:Nat) :Int) = -α:=by omega
   rw [this];grind
  omega
theorem NS {w:Pn} {β u v:Int} (h1: (k+1) * ((α.natAbs:Int) +β.natAbs) <2*ur α β p a) (h2: (k+1) * ((α.natAbs:Int) +β.natAbs) <2*ur α β p b) (hv:0<v) (h0:0≤u) (hu:u≤v) (h:wz a b w u v) :k* ((α.natAbs:Int) +β.natAbs) <2*ur α β p w:=by
 obtain ⟨s,es⟩ :∃s:Int,s= (α.natAbs:Int) +β.natAbs:=⟨_,rfl⟩
 obtain ⟨ga,ea⟩ :∃g:Int,g=ur α β p a:=⟨_,rfl⟩
 obtain ⟨gb,eb⟩ :∃g:Int,g=ur α β p b:=⟨_,rfl⟩
 obtain ⟨t,et⟩ :∃t:Int,t=k*s:=⟨_,rfl⟩
 have ek: (k+1) *s=t+s:=by rw [et];grind
 rw [←es,←ea,ek] at h1
 rw [←es,←eb,ek] at h2
 rw [←es,←et]
 obtain ⟨⟨x1,x2⟩,y1,y2⟩ :=h
 have ax: -v≤2*w.1*v- (2*a.1*v+u* (2* (b.1- a.1)))∧2*w.1*v- (2*a.1*v+u* (2* (b.1- a.1)))≤v:=by
  have e1: (2*w.1- 1) *v=2*w.1*v- v:=by grind
  have e2: (2*w.1- 1+2) *v=2*w.1*v+v:=by grind
  omega
 have ay: -v≤2*w.2*v- (2*a.2*v+u* (2* (b.2- a.2)))∧2*w.2*v- (2*a.2*v+u* (2* (b.2- a.2)))≤v:=by
  have e1: (2*w.2- 1) *v=2*w.2*v- v:=by grind
  have e2: (2*w.2- 1+2) *v=2*w.2*v+v:=by grind
  omega
 have bx:=Ca (α:=α) ax.1 ax.2
 have bY:=Ca (α:=β) ay.1 ay.2
 have main:2*v*ur α β p w= (v- u) * (2*ga) +u* (2*gb) +α* (2*w.1*v- (2*a.1*v+u* (2* (b.1- a.1)))) +β* (2*w.2*v- (2*a.2*v+u* (2* (b.2- a.2)))) :=by
  rw [ea,eb];unfold ur;grind
 have c1: (v- u) * (t+s+1)≤(v- u) * (2*ga) :=jjM Om Om
 have c2:u* (t+s+1)≤u* (2*gb) :=jjM Om h0
 have c3: (v- u) * (t+s+1) +u* (t+s+1) =v* (t+1) +v*s:=by grind
 have c4:v*s= (α.natAbs:Int) *v+ (β.natAbs:Int) *v:=by rw [es];grind
 have c5:v* (t+1)≤v* (2*ur α β p w) :=by
  have:v* (2*ur α β p w) =2*v*ur α β p w:=by grind
  omega
 have:=jks c5 hv
 omega
def cw (p:Pn) :List Pn→Int
 | a::b::l=>ws (sb a p) (sb b p) +cw p (b::l)
 | _=>0
theorem jhh {β:Int} {x:Pn} (h:0<ur α β p x) :Hf α β (sb x p) :=h
theorem Cu {α β:Int} {p:Pn} :∀ {l:List Pn} {a z:Pn},(∀x∈a:: (l++ [z]),Hf α β (sb x p))→cw p (a:: (l++ [z])) =up α (sb z p) - up α (sb a p)
 | [],a,z,h=>by
  show ws (sb a p) (sb z p) +0=_
  rw [um (h a (by simp)) (h z (by simp))]
  omega
 | b::l,a,z,h=>by
  show ws (sb a p) (sb b p) +cw p (b:: (l++ [z])) =_
  rw [um (h a (by simp)) (h b (by simp)),Cu (l:=l) (fun x hx=>h x (jjs _ hx))]
  omega
theorem Cv (p:Pn) :∀(l:List Pn) (b:Pn) (m:List Pn),cw p (l++b::m) =cw p (l++ [b]) +cw p (b::m)
 | [],b,m=>by simp [cw]
 | [a],b,m=>by
  show ws (sb a p) (sb b p) +cw p (b::m) =ws (sb a p) (sb b p) +0+cw p (b::m)
  omega
 | a::c::l,b,m=>by
  show ws (sb a p) (sb c p) +cw p ((c::l) ++b::m) =ws (sb a p) (sb c p) +cw p ((c::l) ++ [b]) +cw p (b::m)
  rw [Cv p (c::l) b m]
  omega
theorem Sw (p:Pn) :∀ {es:List (Pn×Pn)} {z:Pn},Lk es z→cw p (es.map (·.1) ++ [z]) =sm (fun d:Pn×Pn=>ws (sb d.1 p) (sb d.2 p)) es
 | [],_,_=>rfl
 | [e],z,h=>by
  have h:e.2=z:=h
  subst h
  rfl
 | e::f::l,z,h=>by
  have h:e.2=f.1∧Lk (f::l) z:=h
  have:=Sw p h.2
  show ws (sb e.1 p) (sb f.1 p) +cw p ((f::l).map (·.1) ++ [z]) =ws (sb e.1 p) (sb e.2 p) +sm _ (f::l)
  rw [this,h.1]
theorem Ct {hot:List Pn} (p:Pn) :∀ {es:List (Pn×Pn)} {z:Pn},Lk es z→(∀d∈es,d.1≠d.2∧d.1∈hot∧d.2∈hot)→cw p (es.flatMap (qX hot) ++ [z]) =sm (fun d:Pn×Pn=>cw p (qX hot d++ [d.2])) es
 | [],_,_,_=>rfl
 | [e],z,h,_=>by
  have h:e.2=z:=h
  subst h
  simp [sm]
 | e::f::l,z,h,ho=>by
  have h:e.2=f.1∧Lk (f::l) z:=h
  have ih:=Ct p h.2 (fun d hd=>ho d (jjs _ hd))
  obtain ⟨rest,er⟩ :=UO (l:=l) (ho f (by simp))
  show cw p ((qX hot e++ (f::l).flatMap (qX hot)) ++ [z]) =cw p (qX hot e++ [e.2]) +sm _ (f::l)
  rw [←ih,er,jjq,jjN,Cv,h.1]
theorem Ng (l:Leg) (p:Pn) :QB l p.1 p.2=ws (sb (lA l) p) (sb (lB l) p) :=by
 rw [Ug]
 have e:cr (sb (lA l) p) (sb (lB l) p) =Q0 l.ax l.ay l.bx l.b_y p.1 p.2:=by simp only [cr,sb,lA,lB,Q0];grind
 have q1: (l.ay≤p.2∧p.2<l.b_y)↔(l.ay- p.2≤0∧0<l.b_y- p.2) :=by omega
 have q2: (l.b_y≤p.2∧p.2<l.ay)↔(l.b_y- p.2≤0∧0<l.ay- p.2) :=by omega
 unfold ws
 rw [e]
 have c1: ((sb (lA l) p).2≤0∧0< (sb (lB l) p).2)↔(l.ay≤p.2∧p.2<l.b_y) :=q1.symm
 have c2: ((sb (lB l) p).2≤0∧0< (sb (lA l) p).2)↔(l.b_y≤p.2∧p.2<l.ay) :=q2.symm
 simp only [c1,c2]
theorem jf8 (p:Pn) (hb:bare xs) :ve p (JZ xs) =cw p (xs++ [pt xs 0]) :=by
 unfold ve
 rw [QC hb,wV]
 have h:=Sw p (Yn (xs:=xs))
 rw [vX] at h
 rw [h]
 refine J0 fun d _=> ?_
 rw [Ng]
 rfl
theorem jez {β:Int} (hne:a≠b) (ha:a∈hot) (hb:b∈hot) (h:∀x∈qC a b hot,0<ur α β p x) :cw p (qX hot (a,b) ++ [b]) =ws (sb a p) (sb b p) :=by
 obtain ⟨mid,e1,e2⟩ :=Vo (hot:=hot) (e:= (a,b)) ⟨hne,ha,hb⟩
 have hall:∀x∈a:: (mid++ [b]),Hf α β (sb x p) :=fun x hx=>jhh (h x (by rw [e2,e1];simpa using hx))
 rw [e1]
 show cw p (a:: (mid++ [b])) =_
 rw [Cu hall,um (hall a (by simp)) (hall b (by simp))]
theorem PE (hk:0≤k) (hnd:hot.Nodup) (hb:bare xs) (hm:∀q∈xs,q∈hot) (hf:∀e∈JZ xs,xT p (k+1) (lA e) (lB e)) :
  ve p (JZ (kv hot xs)) =ve p (JZ xs)∧∀e∈JZ (kv hot xs),xT p k (lA e) (lB e) :=by
 have hok:=U8 hb hm
 have hb2:= (uS hnd hb hm).1
 constructor
 ·rw [jf8 p hb2,WP hb]
  have hz:pt ((kN xs).flatMap (qX hot)) 0=pt xs 0:=by
   have h0:=hb.1
   cases hp:kN xs with
   | nil=>have:=congrArg List.length hp;rw [wF,jjK] at this;omega
   | cons e l=>
    obtain ⟨rest,er⟩ :=UO (l:=l) (hok e (by rw [hp];simp))
    rw [er]
    have:xs= (kN xs).map (·.1) := (vX xs).symm
    rw [this,hp]
    rfl
  rw [hz,Ct p Yn hok]
  unfold ve
  rw [QC hb,wV]
  refine J0 fun d hd=> ?_
  obtain ⟨o1,o2,o3⟩ :=hok d hd
  obtain ⟨α,β,f1,f2⟩ :=hf (Nn d) (by rw [QC hb];exact jjx.2 ⟨d,hd,rfl⟩)
  have e1:lA (Nn d) =d.1:=rfl
  have e2:lB (Nn d) =d.2:=rfl
  rw [e1] at f1
  rw [e2] at f2
  have h:=jez (p:=p) (α:=α) (β:=β) o1 o2 o3 (fun x hx=>by
   obtain ⟨_,hw⟩ :=kU.1 hx
   obtain ⟨u,v,hv,_,h0,hu,hin⟩ :=UF (Yk hw)
   have:=NS f1 f2 hv h0 hu hin
   have h3:0≤k* ((α.natAbs:Int) +β.natAbs) :=jjD hk Om
   omega)
  rw [Ng,e1,e2]
  exact h
 ·intro e he
  obtain ⟨f,hfm,⟨V,u,u',hV,hu,i1,i2,_⟩,_,_⟩ :=Hj hnd hb hm he
  obtain ⟨α,β,f1,f2⟩ :=hf f hfm
  exact⟨α,β,NS f1 f2 hV hu.1 Om i1,NS f1 f2 hV Om hu.2.2 i2⟩
theorem Nl (p:Pn) (E F:List Leg) :ve p (E++F) =ve p E+ve p F:=kV _ E F
theorem Nk (p:Pn) {rs ss:List jO} (hl:rs.length=ss.length) :∀k,k≤rs.length→(∀j,j<k→ve p (JZ (rg rs j)) =ve p (JZ (rg ss j)))→ve p (qE rs k) =ve p (qE ss k)
 | 0,_,_=>rfl
 | k+1,hk,h=>by
  show ve p (qE rs k++JZ (rg rs k)) =ve p (qE ss k++JZ (rg ss k))
  rw [Nl,Nl,Nk p hl k Om (fun j hj=>h j Om),h k Om]
theorem jhR {j:Nat} (h:j<rs.length) :rg rs j∈rs:=by
 have:rg rs j=rs[j] :=by simp [rg,List.getD,h]
 rw [this]
 exact jju h
theorem jaX (hk:0≤k) (hnd:hot.Nodup) (hb:bareG hot rs) (hf:∀e∈jt rs,xT p (k+1) (lA e) (lB e)) :
  ve p (jt (qq hot rs)) =ve p (jt rs)∧∀e∈jt (qq hot rs),xT p k (lA e) (lB e) :=by
 have one:∀r∈rs,ve p (JZ (kv hot r)) =ve p (JZ r)∧∀e∈JZ (kv hot r),xT p k (lA e) (lB e) :=fun r hr=>
  PE hk hnd (hb r hr).1 (hb r hr).2 (fun e he=>hf e (uU.2 ⟨r,hr,he⟩))
 constructor
 ·unfold jt
  rw [Kw]
  exact Nk p (Kw hot rs) _ (by rw [Kw];exact jjm _) (fun j hj=>by rw [GD hj];exact(one _ (jhR hj)).1)
 ·intro e he
  obtain ⟨r,hr,he⟩ :=uU.1 he
  obtain ⟨q,hq,rfl⟩ :=jjx.1 hr
  exact(one q hq).2 e he
theorem Ld {hot:List Pn} {p:Pn} (hnd:hot.Nodup) :∀(f:Nat) {rs ss:List jO} {r q:Nat},v6 hot f rs r=some (ss,q)→bareG hot rs→
  r≤q∧((∀e∈jt rs,xT p ((q:Int) - r) (lA e) (lB e))→ve p (jt ss) =ve p (jt rs)∧∀e∈jt ss,xT p 0 (lA e) (lB e))
 | 0,_,_,_,_,h,_=>by cases h
 | f+1,rs,ss,r,q,h,hb=>by
  unfold v6 at h
  split at h
  ·cases h
  ·split at h
   ·injection h with h
    injection h with h1 h2
    subst h1 h2
    exact⟨jjm _,fun hf=>⟨rfl,fun e he=>by have:=hf e he;rwa [Int.sub_self] at this⟩⟩
   ·obtain ⟨h1,h2⟩ :=Ld hnd f h (hb.snap hnd)
    refine⟨by omega,fun hf=> ?_⟩
    have e: (q:Int) - r= (q:Int) - ((r+1:Nat) :Int) +1:=by omega
    obtain ⟨a1,a2⟩ :=jaX (p:=p) (k:= (q:Int) - ((r+1:Nat) :Int)) Om hnd hb (fun d hd=>by rw [←e];exact hf d hd)
    obtain ⟨b1,b2⟩ :=h2 a2
    exact⟨b1.trans a1,b2⟩
end Go.Proofs.YtbahojdbmmjkcaaGreat
