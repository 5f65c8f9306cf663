import Derived.Test.YtbahojdbmmjkcaaGreatMNetT
import Derived.Test.YtbahojdbmmjkcaaGreatMOwn
set_option linter.unusedVariables false
set_option linter.unusedSimpArgs false
namespace Go.Proofs.YtbahojdbmmjkcaaGreat
open Go Go.RowKit
variable {B:List Leg} {a at_:Nat} {ps:List Pn} {u u0:List Bool}
theorem MX (v p q:Pn) :tn v q p= -tn v p q:=by simp only [tn,Q0];grind
theorem jd7 {v f p q:Pn} (h:GN v f p q=true) :GN v f q p=false:=by
 rw [Bool.eq_false_iff]
 intro h'
 rw [GO,xD] at h h'
 have:=MX v p q
 omega
theorem jbE {v p q r:Pn} (hp:p≠v) (hq:q≠v) (hr:r≠v) (h1:0<M9 v p q) (h2:0<M9 v q r) :0<M9 v p r:=by
 obtain ⟨P,uP,kP⟩ :=ZP hp
 obtain ⟨Q,uQ,kQ⟩ :=ZP hq
 obtain ⟨R,uR,kR⟩ :=ZP hr
 rw [xD] at*
 have d1:=u7 kP kQ
 have d2:=u7 kQ kR
 have d3:=u7 kP kR
 have b1:=zk v p
 have b2:=zk v q
 have b3:=zk v r
 have T:= (jeq uP uQ uR).t6
 by_cases e:yS v p=yS v q∧yS v q=yS v r
 ·have t:=T Om Om
  have t2:=t.2 Om
  clear T t
  exact .inr ⟨by omega,by omega⟩
 ·clear T
  exact .inl Om
theorem ja9 {v f p q r:Pn} (hp:p≠v) (hq:q≠v) (hr:r≠v) (h1:GN v f p q=true) (h2:GN v f q r=true) :GN v f p r=true:=by
 have ht:=jbE hp hq hr
 rw [GO] at*
 rcases h1 with h1 |⟨h1,h1'⟩ <;>rcases h2 with h2 |⟨h2,h2'⟩
 ·omega
 ·exact .inl ⟨h1.1,fun k=>h1.2 (h2.2 k)⟩
 ·exact .inl ⟨h1.2 h2.1,h2.2⟩
 ·exact .inr ⟨h1.trans h2,ht h1' h2'⟩
theorem ja8 {v f p q:Pn} (hp:p≠v) (hq:q≠v) (h:¬UB v p q) :GN v f p q=true∨GN v f q p=true:=by
 obtain ⟨P,uP,kP⟩ :=ZP hp
 obtain ⟨Q,uQ,kQ⟩ :=ZP hq
 have n:=Gg uP uQ kP kQ h
 have d:=u7 kP kQ
 rw [GO,GO]
 by_cases a:M9 v p f<0<;>by_cases b:M9 v q f<0
 ·simp only [a,b,not_true,and_false,false_or,true_and]
  rw [xD,xD,MX v p q]
  have b1:=zk v p
  have b2:=zk v q
  omega
 ·exact .inl (.inl ⟨a,b⟩)
 ·exact .inr (.inl ⟨b,a⟩)
 ·simp only [a,b,false_and,false_or,true_and]
  rw [xD,xD,MX v p q]
  have b1:=zk v p
  have b2:=zk v q
  omega
def LU (S:Nat→Bool) (lt:Nat→Nat→Bool) (b:Option Nat) (k:Nat) :Option Nat:=match b with
 | none=>if S k=true then some k else none
 | some m=>if(S k&&lt k m) =true then some k else some m
def wl (S:Nat→Bool) (lt:Nat→Nat→Bool) (n:Nat) :Option Nat:= (List.range n).foldl (LU S lt) none
theorem VN (S:Nat→Bool) (lt:Nat→Nat→Bool) (n:Nat) :wl S lt (n+1) =LU S lt (wl S lt n) n:=by
 unfold wl
 rw [List.range_succ,jle]
 rfl
theorem Zg (p:Nat→Bool) (S:Nat→Bool) (lt:Nat→Nat→Bool) :∀(l:List Nat) (b:Option Nat),(l.filter p).foldl (LU S lt) b=l.foldl (LU (fun k=>p k&&S k) lt) b
 | [],_=>rfl
 | k::l,b=>by
  rw [List.filter_cons]
  by_cases h:p k=true
  ·rw [if_pos h,jkk,jkk,Zg p S lt l]
   congr 1
   cases b<;>simp [LU,h]
  ·rw [if_neg h,jkk,Zg p S lt l]
   congr 1
   cases b<;>simp [LU,h]
theorem ya {S:Nat→Bool} {lt:Nat→Nat→Bool} :∀ {n m:Nat},wl S lt n=some m→m<n∧S m=true
 | 0,m,h=>by cases h
 | n+1,m,h=>by
  rw [VN] at h
  cases hb:wl S lt n with
  | none=>
   rw [hb] at h
   unfold LU at h
   simp only at h
   split at h
   ·rename_i hs
    injection h with h
    subst h
    exact⟨by omega,hs⟩
   ·cases h
  | some b=>
   have ih:=ya hb
   rw [hb] at h
   unfold LU at h
   simp only at h
   split at h
   ·rename_i hs
    injection h with h
    subst h
    simp only [jjl] at hs
    exact⟨by omega,hs.1⟩
   ·injection h with h
    subst h
    exact⟨by omega,ih.2⟩
theorem Bx {S:Nat→Bool} {lt lt':Nat→Nat→Bool} :∀ {n:Nat},(∀j k,j<n→k<n→S j=true→S k=true→j≠k→lt j k=lt' j k)→wl S lt n=wl S lt' n
 | 0,_=>rfl
 | n+1,h=>by
  rw [VN,VN,←Bx (n:=n) fun j k hj hk=>h j k Om Om]
  cases hb:wl S lt n with
  | none=>rfl
  | some b=>
   have:=ya hb
   unfold LU
   simp only
   by_cases hs:S n=true
   ·rw [h n b Om Om hs this.2 Om]
   ·simp [hs]
theorem LO {S S':Nat→Bool} {lt:Nat→Nat→Bool} :∀ {n:Nat},(∀j,j<n→S j=S' j)→wl S lt n=wl S' lt n
 | 0,_=>rfl
 | n+1,h=>by
  rw [VN,VN,LO (n:=n) fun j hj=>h j Om]
  unfold LU
  rw [h n Om]
structure IsMin (S:Nat→Bool) (lt:Nat→Nat→Bool) (n m:Nat) :Prop where
 le:m<n
 mem:S m=true
 min:∀j,j<n→S j=true→j≠m→lt m j=true
structure Ord (S:Nat→Bool) (lt:Nat→Nat→Bool) (n:Nat) :Prop where
 asym:∀j k,j<n→k<n→S j=true→S k=true→lt j k=true→lt k j=false
 trans:∀i j k,i<n→j<n→k<n→S i=true→S j=true→S k=true→lt i j=true→lt j k=true→lt i k=true
 total:∀j k,j<n→k<n→S j=true→S k=true→j≠k→lt j k=true∨lt k j=true
theorem Bz {S:Nat→Bool} {lt:Nat→Nat→Bool} {N:Nat} (h:Ord S lt N) :∀ {n:Nat},n≤N→(wl S lt n=none→∀j,j<n→S j=false)∧∀m,wl S lt n=some m→IsMin S lt n m
 | 0,_=>⟨fun _ j hj=>absurd hj Om,fun m h=>by cases h⟩
 | n+1,hn=>by
  have ih:=Bz h (n:=n) Om
  rw [VN]
  cases hb:wl S lt n with
  | none=>
   have hno:=ih.1 hb
   unfold LU
   simp only
   by_cases hs:S n=true
   ·rw [if_pos hs]
    refine⟨fun e=> (by cases e),fun m e=> ?_⟩
    injection e with e
    subst e
    refine⟨by omega,hs,fun j hj h1 h2=> ?_⟩
    rw [hno j Om] at h1
    cases h1
   ·rw [if_neg hs]
    refine⟨fun _ j hj=> ?_,fun m e=> (by cases e)⟩
    by_cases e:j=n
    ·subst e;simpa using hs
    ·exact hno j Om
  | some b=>
   have hm:=ih.2 b hb
   unfold LU
   simp only
   by_cases hs: (S n&&lt n b) =true
   ·rw [if_pos hs]
    simp only [jjl] at hs
    refine⟨fun e=> (by cases e),fun m e=> ?_⟩
    injection e with e
    subst e
    refine⟨by omega,hs.1,fun j hj h1 h2=> ?_⟩
    by_cases e:j=b
    ·subst e;exact hs.2
    ·exact h.trans n b j Om (by have:=hm.le;omega) Om hs.1 hm.mem h1 hs.2 (hm.min j Om h1 e)
   ·rw [if_neg hs]
    refine⟨fun e=> (by cases e),fun m e=> ?_⟩
    injection e with e
    subst e
    refine⟨by have:=hm.le;omega,hm.mem,fun j hj h1 h2=> ?_⟩
    by_cases e:j=n
    ·subst e
     have hl:lt j b=false:=by
      rw [jjl] at hs
      rw [Bool.eq_false_iff]
      exact fun k=>hs ⟨h1,k⟩
     rcases h.total j b Om (by have:=hm.le;omega) h1 hm.mem h2 with k | k
     ·rw [hl] at k;cases k
     ·exact k
    ·exact hm.min j Om h1 h2
structure TrOk (B:List Leg) :Prop where
 ne:∀j,j<B.length→lA (lg B j)≠lB (lg B j)
 apart:∀i j,i<B.length→j<B.length→i≠j→lA (lg B i) =lA (lg B j)→¬UB (lA (lg B i)) (lB (lg B i)) (lB (lg B j))
 back:∀i j,i<B.length→j<B.length→lA (lg B j) =lB (lg B i)→¬UB (lB (lg B i)) (lB (lg B j)) (lA (lg B i))
def yP (u:List Bool) (k:Nat) :Bool:=u.getD k false
def wZ (B:List Leg) (u:List Bool) (v:Pn) (k:Nat) :Bool:= !(yP u k) &&decide (lA (lg B k) =v)
def ltS (B:List Leg) (v f:Pn) (j k:Nat) :Bool:=GN v f (lB (lg B j)) (lB (lg B k))
def Ge (B:List Leg) (u:List Bool) (at_:Nat) :Option Nat:=wl (wZ B u (lB (lg B at_))) (ltS B (lB (lg B at_)) (lA (lg B at_))) B.length
def zX (B:List Leg) (u:List Bool) (at_ first:Nat) :Bool:=match Ge B u at_ with
 | none=>true
 | some m=>ltS B (lB (lg B at_)) (lA (lg B at_)) first m
def Yr (B:List Leg) (u:List Bool) (first at_:Nat) :Option Nat:=if(decide (lB (lg B at_) =lA (lg B first)) &&zX B u at_ first) =true then none else Ge B u at_
def SS (B:List Leg) (v:Pn) :List Nat:= (List.range B.length).filter fun k=>decide (lA (lg B k) =v)
def vO (u:List Bool) (first k:Nat) :Bool:= !(yP u k) || decide (k=first)
def ltI (B:List Leg) (v f:Pn) (j k:Nat) :Bool:=cwF v f (lB (lg B j)) (lB (lg B k))
def zg (B:List Leg) (u:List Bool) (first at_:Nat) :Option Nat:= (SS B (lB (lg B at_))).foldl (LU (vO u first) (ltI B (lB (lg B at_)) (lA (lg B at_)))) none
def BO (B:List Leg) (u:List Bool) (first at_:Nat) :Option Nat:=match zg B u first at_ with
 | none=>none
 | some m=>if m=first then none else some m
theorem jdt (h:TrOk B) (ha:at_<B.length) {S:Nat→Bool} (hS:∀k,S k=true→lA (lg B k) =lB (lg B at_)) :Ord S (ltS B (lB (lg B at_)) (lA (lg B at_))) B.length:=by
 have hne:∀k,k<B.length→S k=true→lB (lg B k)≠lB (lg B at_) :=fun k hk hs e=>h.ne k hk (by rw [hS k hs,e])
 refine⟨fun j k _ _ _ _ h1=>jd7 h1,fun i j k hi hj hk s1 s2 s3 h1 h2=>ja9 (hne i hi s1) (hne j hj s2) (hne k hk s3) h1 h2,fun j k hj hk s1 s2 hn=> ?_⟩
 refine ja8 (hne j hj s1) (hne k hk s2) ?_
 have:=h.apart j k hj hk hn (by rw [hS j s1,hS k s2])
 rw [hS j s1] at this
 exact this
theorem jbl (h:TrOk B) {first:Nat} (hf:first<B.length) (ha:at_<B.length) (hu:yP u first=true) :BO B u first at_=Yr B u first at_:=by
 have hb:zg B u first at_=wl (fun k=>decide (lA (lg B k) =lB (lg B at_)) &&vO u first k) (ltS B (lB (lg B at_)) (lA (lg B at_))) B.length:=by
  unfold zg SS
  rw [Zg]
  refine Bx fun j k hj hk s1 s2 hn=> ?_
  simp only [jjl,decide_eq_true_eq] at s1 s2
  have n1:lB (lg B j)≠lB (lg B at_) :=fun e=>h.ne j hj (by rw [s1.1,e])
  have n2:lB (lg B k)≠lB (lg B at_) :=fun e=>h.ne k hk (by rw [s2.1,e])
  have ap:=h.apart j k hj hk hn (by rw [s1.1,s2.1])
  rw [s1.1] at ap
  exact jha (h.ne at_ ha) n1 n2 (h.back at_ j ha hj s1.1) (h.back at_ k ha hk s2.1) ap
 have oD:=jdt h ha (S:=fun k=>decide (lA (lg B k) =lB (lg B at_)) &&vO u first k) (fun k hk=>by simp only [jjl,decide_eq_true_eq] at hk;exact hk.1)
 have oC:=jdt h ha (S:=wZ B u (lB (lg B at_))) (fun k hk=>by simp only [wZ,jjl,decide_eq_true_eq] at hk;exact hk.2)
 have sD:=Bz oD (jjm _)
 have sC:=Bz oC (jjm _)
 have cd:∀k,wZ B u (lB (lg B at_)) k=true→(decide (lA (lg B k) =lB (lg B at_)) &&vO u first k) =true:=fun k hk=>by
  simp only [wZ,vO,jjl,jkb,decide_eq_true_eq] at hk⊢
  exact⟨hk.2, .inl hk.1⟩
 have dc:∀k,k≠first→(decide (lA (lg B k) =lB (lg B at_)) &&vO u first k) =true→wZ B u (lB (lg B at_)) k=true:=fun k hn hk=>by
  simp only [wZ,vO,jjl,jkb,decide_eq_true_eq] at hk⊢
  exact⟨hk.2.resolve_right hn,hk.1⟩
 have nf:wZ B u (lB (lg B at_)) first=false:=by simp [wZ,hu]
 by_cases hv:lB (lg B at_) =lA (lg B first)
 ·
  have hD: (decide (lA (lg B first) =lB (lg B at_)) &&vO u first first) =true:=by simp [vO,hv]
  unfold BO Yr zX
  rw [hb]
  rw [decide_eq_true hv,jjG]
  unfold Ge
  cases eD:wl (fun k=>decide (lA (lg B k) =lB (lg B at_)) &&vO u first k) (ltS B (lB (lg B at_)) (lA (lg B at_))) B.length with
  | none=>
   have this: (decide (lA (lg B first) =lB (lg B at_)) &&vO u first first) =false:=sD.1 eD first hf
   rw [hD] at this
   cases this
  | some m=>
   have mD:=sD.2 m eD
   simp only
   cases eC:wl (wZ B u (lB (lg B at_))) (ltS B (lB (lg B at_)) (lA (lg B at_))) B.length with
   | none=>
    have hno:=sC.1 eC
    simp only [if_true]
    by_cases hm:m=first
    ·rw [if_pos hm]
    ·have:=hno m mD.le
     rw [dc m hm mD.mem] at this
     cases this
   | some m'=>
    have mC:=sC.2 m' eC
    simp only
    have hm':m'≠first:=fun e=>by have:=mC.mem;rw [e,nf] at this;cases this
    by_cases hm:m=first
    ·rw [if_pos hm]
     have:=mD.min m' mC.le (cd m' mC.mem) (by rw [hm];exact hm')
     rw [hm] at this
     rw [if_pos this]
    ·rw [if_neg hm]
     have e1:m=m':=Decidable.byContradiction fun k=>by
      have a1:=mD.min m' mC.le (cd m' mC.mem) (Ne.symm k)
      have a2:=mC.min m mD.le (dc m hm mD.mem) k
      have:=oC.asym m m' mD.le mC.le (dc m hm mD.mem) mC.mem a1
      rw [a2] at this
      cases this
     have a3:=mD.min first hf hD (Ne.symm hm)
     have a4:=oD.asym m first mD.le hf mD.mem hD a3
     subst e1
     show some m=if ltS B (lB (lg B at_)) (lA (lg B at_)) first m=true then none else some m
     rw [a4]
     rfl
 ·unfold BO Yr
  rw [hb,decide_eq_false hv,jjU,if_neg (by simp)]
  unfold Ge
  have e1:wl (fun k=>decide (lA (lg B k) =lB (lg B at_)) &&vO u first k) (ltS B (lB (lg B at_)) (lA (lg B at_))) B.length=wl (wZ B u (lB (lg B at_))) (ltS B (lB (lg B at_)) (lA (lg B at_))) B.length:=by
   refine LO fun k hk=> ?_
   by_cases e:k=first
   ·subst e
    rw [nf,decide_eq_false (fun k=>hv k.symm),jjU]
   ·unfold wZ vO
    rw [decide_eq_false e,Bool.or_false,Bool.and_comm]
  rw [e1]
  cases eC:wl (wZ B u (lB (lg B at_))) (ltS B (lB (lg B at_)) (lA (lg B at_))) B.length with
  | none=>rfl
  | some m=>
   have mC:=ya eC
   have:m≠first:=fun e=>by have:=mC.2;rw [e,nf] at this;cases this
   simp only
   rw [if_neg this]
def uq (u:List Bool) :Nat:= (u.filter (fun b=> !b)).length
def Ud (B:List Leg) (first:Nat) :Nat→List Bool→Nat→List Pn→List Bool×List Pn
 | 0,u,_,ps=> (u,ps)
 | f+1,u,a,ps=>match Yr B (u.set a true) first a with
  | none=> (u.set a true,ps++ [lA (lg B a)])
  | some m=>Ud B first f (u.set a true) m (ps++ [lA (lg B a)])
def kO (B:List Leg) :Nat→List Bool×List (List Pn)
 | 0=> (List.replicate B.length false,[])
 | k+1=>if yP (kO B k).1 k=true then kO B k else((Ud B k (uq (kO B k).1) (kO B k).1 k []).1,(kO B k).2++ [(Ud B k (uq (kO B k).1) (kO B k).1 k []).2])
def KJ (B:List Leg) :List (List Pn) := (kO B B.length).2
theorem GX {k:Nat} (ha:a<u.length) :yP (u.set a true) k= (decide (k=a) || yP u k) :=by
 unfold yP
 by_cases e:k=a
 ·subst e;simp [List.getD,ha]
 ·simp [List.getD,List.getElem?_set,Ne.symm e,e]
theorem XO:∀ {u:List Bool} {a:Nat},a<u.length→yP u a=false→uq (u.set a true) +1=uq u
 | [],a,h,_=>absurd h (by simp)
 | b::u,0,_,hb=>by
  have:b=false:=by simpa [yP] using hb
  subst this
  simp [uq]
 | b::u,a+1,h,hb=>by
  have hb':yP u a=false:=by simpa [yP] using hb
  have:=XO (u:=u) (a:=a) (by simpa using h) hb'
  unfold uq at*
  cases b<;>simp only [List.set_cons_succ,List.filter_cons,Bool.not_true,Bool.not_false,if_true,jkm,if_false,jjr] <;>omega
theorem Ro {first m:Nat} (h:Yr B u first a=some m) :m<B.length∧yP u m=false:=by
 unfold Yr at h
 split at h
 ·cases h
 ·have:=ya h
  refine⟨this.1,?_⟩
  have h2:=this.2
  simp only [wZ,jjl,jj9] at h2
  exact h2.1
structure RunI (B:List Leg) (first:Nat) (u0 u:List Bool) (a:Nat) (ps:List Pn) :Prop where
 eq:Ud B first (uq u0) u0 first [] =Ud B first (uq u) u a ps
 len:u.length=B.length
 la:a<B.length
 free:yP u a=false
 used:a=first∨yP u first=true
theorem RunI.start {first:Nat} (hl:u.length=B.length) (hf:first<B.length) (h:yP u first=false) :RunI B first u u first [] :=⟨rfl,hl,hf,h, .inl rfl⟩
theorem RunI.pos {first:Nat} (h:RunI B first u0 u a ps) :uq u=uq (u.set a true) +1:= (XO (by rw [h.len];exact h.la) h.free).symm
theorem RunI.first {first:Nat} (h:RunI B first u0 u a ps) :yP (u.set a true) first=true:=by
 rw [GX (by rw [h.len];exact h.la)]
 rcases h.used with e | e
 ·simp [e]
 ·simp [e]
theorem RunI.stop {first:Nat} (h:RunI B first u0 u a ps) (hs:Yr B (u.set a true) first a=none) :Ud B first (uq u0) u0 first [] = (u.set a true,ps++ [lA (lg B a)]) :=by
 rw [h.eq,h.pos,Ud,hs]
theorem RunI.more {first:Nat} {m:Nat} (h:RunI B first u0 u a ps) (hs:Yr B (u.set a true) first a=some m) :RunI B first u0 (u.set a true) m (ps++ [lA (lg B a)]) :=by
 have hm:=Ro hs
 exact⟨by rw [h.eq,h.pos,Ud,hs],by rw [jky];exact h.len,hm.1,hm.2, .inr h.first⟩
theorem I7 {B:List Leg} {first:Nat} :∀f u a ps,(Ud B first f u a ps).1.length=u.length∧(Ud B first f u a ps).2.length≤ps.length+f
 | 0,u,a,ps=>⟨rfl,jjm _⟩
 | f+1,u,a,ps=>by
  unfold Ud
  split
  ·exact⟨by simp,by simp⟩
  ·have:=I7 (B:=B) (first:=first) f (u.set a true) (by assumption) (ps++ [lA (lg B a)])
   rw [jky,jjk] at this
   exact⟨this.1,by have:=this.2;simp only [jjr,jjK] at this;omega⟩
theorem Ys {B:List Leg} :∀k,(kO B k).1.length=B.length
 | 0=>by simp [kO]
 | k+1=>by
  unfold kO
  split
  ·exact Ys k
  ·rw [(I7 _ _ _ _).1]
   exact Ys k
theorem Ie (u:List Bool) :uq u≤u.length:=jkZ _ _
theorem En {B:List Leg} {first:Nat} {p:Pn} :∀f u a ps,p∈(Ud B first f u a ps).2→a<B.length→p∈ps∨∃j,j<B.length∧p=lA (lg B j)
 | 0,u,a,ps,h,_=> .inl h
 | f+1,u,a,ps,h,ha=>by
  unfold Ud at h
  split at h
  ·simp only [jjz,jjp] at h
   rcases h with h | h
   ·exact .inl h
   ·exact .inr ⟨a,ha,h⟩
  ·rename_i m hm
   rcases En f _ _ _ h (Ro hm).1 with h | h
   ·simp only [jjz,jjp] at h
    rcases h with h | h
    ·exact .inl h
    ·exact .inr ⟨a,ha,h⟩
   ·exact .inr h
theorem jdY {B:List Leg} {first:Nat} :∀f u a ps,ps≠ []∨0<f→(Ud B first f u a ps).2≠ []
 | 0,u,a,ps,h=>h.resolve_right Om
 | f+1,u,a,ps,_=>by
  unfold Ud
  split
  ·simp
  ·exact jdY f _ _ _ (.inl (by simp))
theorem Yt {B:List Leg} :∀k,k≤B.length→(kO B k).2.length≤k∧∀r∈(kO B k).2,0<r.length∧r.length≤B.length∧∀p∈r,∃j,j<B.length∧p=lA (lg B j)
 | 0,_=>⟨jjm _,fun r hr=>by cases hr⟩
 | k+1,hk=>by
  have ih:=Yt (B:=B) k Om
  unfold kO
  split
  ·exact⟨Nat.le_succ_of_le ih.1,ih.2⟩
  ·rename_i hu
   refine⟨by simp only [jjk,jjr,jjK];omega,fun r hr=> ?_⟩
   simp only [jjz,jjp] at hr
   rcases hr with hr | rfl
   ·exact ih.2 r hr
   ·have hl:=Ys (B:=B) k
    have hc:=Ie (kO B k).1
    have hp:0<uq (kO B k).1:=by
     have:=XO (u:= (kO B k).1) (a:=k) Om (by simpa using hu)
     omega
    have h1:=I7 (B:=B) (first:=k) (uq (kO B k).1) (kO B k).1 k []
    have h2:=jdY (B:=B) (first:=k) (uq (kO B k).1) (kO B k).1 k [] (.inr hp)
    refine⟨List.length_pos_iff.2 h2,by have:=h1.2;simp only [jjK] at this;omega,fun p hp=> ?_⟩
    rcases En (B:=B) _ _ _ _ hp (show k<B.length by omega) with h | h
    ·cases h
    ·exact h
end Go.Proofs.YtbahojdbmmjkcaaGreat
namespace Go.Proofs.YtbahojdbmmjkcaaGreat
open Go Go.RowKit
variable {cs:List Value} {n:Nat} {pl:Nat→Option Addr×Nat} {rs:List jO} {x:Option Addr×Nat} {xs:List (Int×Int)}
set_option maxRecDepth 100000
set_option maxHeartbeats 4000000
theorem RK (A:Option Addr) (n c:Nat) (xs:List (Int×Int)) (w:World) (h:Pts w A n xs) (hn:0<n) (hn2:n≤1048577) :
  Calls Tryz.prog 75 #[.slice A n c] w fun e w'=>∃v,e= .returned v∧w'.ownsRow w.heap.size 28 2 v n (xs.flatMap Jr)∧Over w w':=by
 obtain ⟨b,o,rfl,_⟩ :=h.2 hn
 refine j6 (m:=8) (Tryz.func75) J J (lb J) ?_;refine S8 ?_;refine a9 (jaU jD J J) ?_;refine S1 ?_;refine Oc J (J) ?_;refine S5 ?_;refine Jy J J (KR) J (lb J) (fun b1=> ?_);refine Wi 0 2 J J ?_;refine N2 ?_;refine JY (k:=0) J jD jI Dc J Dc J J J (fun w' hs=>BK (h.over hs.fin) hn) (wj _) (by unfold maxLen;omega) Om (jjm _) (fun r1=> ?_);refine N3 ?_;refine jK J (.tmp J) ?_
 intro w' hs
 have hr0:w'.ownsRow w.heap.size 28 2 (.slice r1.1 (0+n) r1.2) (0+n) (xs.flatMap Jr) := (hs.all 0 _ rfl).1
 exact⟨_,rfl,by rw [jjP] at hr0⊢;exact hr0,hs.fin⟩
theorem IZ {w w':World} {Rs:List Res} (hs:St ⟨w,[]⟩ Rs w') {kr kp B T:Nat} {l:List Pc} (hr:Rs[kr]? =some (J3 B T 1 n (l.map Pc.val) x)) (hp:Rs[kp]? =some (vF l)) (hne:kr≠kp) (_e:w=w) (hl:l.length=n) (hrs:l.map (·.xs) =rs) (hm:∀j,j<rs.length→(rg rs j).length≤1099511627776) :OwnG w.heap.size w'.heap.size w' x.1 n rs:=by
 have hrow:w'.ownsRow B T 1 (.slice x.1 n x.2) n (l.map Pc.val) := (hs.all kr _ hr).1
 have hX:=hs.all kp _ hp
 rcases hrow.2 with⟨_,e⟩ |⟨g,cap,cur,e,hb,hg,hcap,hmax,hsz,htk⟩
 ·subst e
  obtain rfl:l= [] :=jjW hl
  subst hrs
  exact OwnG.nil _
 ·injection e with e1 e2 e3
  rw [e1]
  have hF: (J3 B T 1 n (l.map Pc.val) x).F g:=by show Value.ownBlock (.slice x.1 n x.2) =some g;rw [e1];rfl
  have hown:=IY (lo:=w.heap.size) (o:=0) hg (((hs.all kr _ hr).2.1 g hF).elim id (fun h=>by cases h)) (fun j hj=> ?_) hX.1 (fun h=>hs.apart kr kp _ _ hne hr hp g hF h) (fun q hq=> (hX.2.1 q hq).elim id (fun h=>by cases h)) (fun e he=> ?_)
  ·rw [hrs,hl] at hown
   exact hown
  ·have hc:cur[j]? = (l.map Pc.val)[j]? :=by rw [←htk,List.getElem?_take,if_pos Om];simp
   rw [jjP,hc]
   simp [hj]
  ·have:e.xs∈rs:=hrs▸jjx.2 ⟨e,he,rfl⟩
   obtain ⟨j,hj,e2⟩ :=jj0 this
   have:=hm j hj
   rw [←wu hj,e2] at this
   omega
def RevTo (cs:List Value) (o n i:Nat) (xs:List (Int×Int)) :Prop:=∀q,q<n→cs[o+q*2]? =some (.int .i64 (px xs (if q<i∨n- 1- i<q then n- 1- q else q)))∧cs[o+q*2+1]? =some (.int .i64 (py xs (if q<i∨n- 1- i<q then n- 1- q else q)))
theorem RevTo.step {o i:Nat} (h:RevTo cs o n i xs) (hi:2*i+1<n) (hl:∀q,q<n→o+q*2+1<cs.length) :
  RevTo (qP (qP cs (o+i*2) [.int .i64 (px xs (n- 1- i)), .int .i64 (py xs (n- 1- i))]) (o+ (n- 1- i) *2) [.int .i64 (px xs i), .int .i64 (py xs i)]) o n (i+1) xs:=by
 intro q hq
 have h1:=hl i Om
 have h2:=hl (n- 1- i) Om
 simp only [qP]
 by_cases e1:q=i
 ·subst e1
  rw [if_pos Om,List.getElem?_set_ne Om,List.getElem?_set_ne Om,List.getElem?_set_ne Om,List.getElem?_set_self Om,List.getElem?_set_ne Om,List.getElem?_set_ne Om,List.getElem?_set_self (by simp;omega)]
  exact⟨rfl,rfl⟩
 ·by_cases e2:q=n- 1- i
  ·subst e2
   rw [if_pos Om,List.getElem?_set_ne Om,List.getElem?_set_self (by simp;omega),List.getElem?_set_self (by simp;omega),show n- 1- (n- 1- i) =i by omega]
   exact⟨rfl,rfl⟩
  ·have:=h q hq
   have hif: (q<i+1∨n- 1- (i+1) <q)↔(q<i∨n- 1- i<q) :=by omega
   simp only [hif]
   rw [List.getElem?_set_ne Om,List.getElem?_set_ne Om,List.getElem?_set_ne Om,List.getElem?_set_ne Om,List.getElem?_set_ne Om,List.getElem?_set_ne Om,List.getElem?_set_ne Om,List.getElem?_set_ne Om]
   exact this
theorem RevTo.at_ {o i q:Nat} (h:RevTo cs o n i xs) (h1:i≤q) (h2:q≤n- 1- i) (hq:q<n) :cs[o+q*2]? =some (.int .i64 (px xs q))∧cs[o+q*2+1]? =some (.int .i64 (py xs q)) :=by
 have:=h q hq
 rwa [if_neg Om] at this
theorem OwnGd.put {lo hi:Nat} {w w':World} {b o T:Nat} {cs:Array Value} {k:Nat} (ys:jO) (h:OwnGd lo hi w b o T cs pl n rs) (hl:rs.length=n) (hk:k<n) (hy:ys.length= (rg rs k).length) (hw:Wrs (fun q=>0< (rg rs k).length∧q=uo (pl k).1∧jiJ lo hi q) w w') (hp:OwnP lo hi w' (pl k).1 (rg rs k).length ys) :OwnGd lo hi w' b o T cs pl n (rs.set k ys) :=by
 have hse:∀j,j<n→rg (rs.set k ys) j=if j=k then ys else rg rs j:=fun j hj=>by
  simp only [rg,List.getD_eq_getElem?_getD]
  by_cases e:j=k
  ·subst e;rw [if_pos rfl,List.getElem?_set_self Om];rfl
  ·rw [if_neg e,List.getElem?_set_ne (fun e'=>e e'.symm)]
 have hlen:∀j,j<n→(rg (rs.set k ys) j).length= (rg rs j).length:=fun j hj=>by
  rw [hse j hj]
  by_cases e:j=k
  ·subst e;rw [if_pos rfl,hy]
  ·rw [if_neg e]
 refine⟨h.low,h.high,(hw.block b (JT h.blk) fun hq=> ?_).trans h.blk,fun j hj=> ?_,fun j hj=> ?_,fun j hj=> ?_,fun i j hi hj hij=> ?_⟩
 ·exact h.off k hk hq.1 hq.2.1.symm
 ·rw [hlen _ hj];exact h.cell j hj
 ·rw [hse j hj]
  by_cases hjk:j=k
  ·subst hjk
   rw [if_pos rfl,hy]
   exact hp
  ·rw [if_neg hjk]
   by_cases h0:0< (rg rs j).length
   ·refine(h.pts j hj).agree fun p hp' h1 h2=> ?_
    obtain ⟨b',o',T',cs',e',_,_,hh',_⟩ := (h.pts j hj).2 h0
    rw [e'] at hp'
    injection hp' with hp'
    subst hp'
    refine hw.block b' (JT hh') fun hq=> ?_
    refine h.apart j k hj hk hjk h0 hq.1 ?_
    rw [e']
    exact hq.2.1
   ·exact⟨(h.pts j hj).1,fun h1=>absurd h1 h0⟩
 ·rw [hlen _ hj];exact h.off j hj
 ·rw [hlen _ hi,hlen _ hj];exact h.apart i j hi hj hij
end Go.Proofs.YtbahojdbmmjkcaaGreat
