import Derived.Test.YtpncbbcmoiiipaaGreatMNetT
import Derived.Test.YtpncbbcmoiiipaaGreatMOwn
set_option linter.unusedVariables false
set_option linter.unusedSimpArgs false
namespace Go.Proofs.YtpncbbcmoiiipaaGreat
open Go Go.RowKit
theorem Mv (v p q:Pn) :tn v q p= -tn v p q:=by simp only [tn,Q8];grind
theorem jdm {v f p q:Pn} (h:Ga v f p q=true) :Ga v f q p=false:=by
 rw [Bool.eq_false_iff]
 intro h'
 rw [Gb,xa] at h h'
 have:=Mv v p q
 omega
theorem jaV {v p q r:Pn} (hp:p≠v) (hq:q≠v) (hr:r≠v) (h1:0<ME v p q) (h2:0<ME v q r) :0<ME v p r:=by
 obtain ⟨P,uP,kP⟩ :=Zq hp
 obtain ⟨Q,uQ,kQ⟩ :=Zq hq
 obtain ⟨R,uR,kR⟩ :=Zq hr
 rw [xa] at*
 have d1:=uE kP kQ
 have d2:=uE kQ kR
 have d3:=uE kP kR
 have b1:=YW v p
 have b2:=YW v q
 have b3:=YW v r
 have T:= (jdF uP uQ uR).t6
 by_cases e:yz v p=yz v q∧yz v q=yz v r
 ·have t:=T Om Om
  have t2:=t.2 Om
  clear T t
  exact .inr ⟨by omega,by omega⟩
 ·clear T
  exact .inl Om
theorem jas {v f p q r:Pn} (hp:p≠v) (hq:q≠v) (hr:r≠v) (h1:Ga v f p q=true) (h2:Ga v f q r=true) :Ga v f p r=true:=by
 have ht:=jaV hp hq hr
 rw [Gb] at*
 rcases h1 with h1 |⟨h1,h1'⟩ <;>rcases h2 with h2 |⟨h2,h2'⟩
 ·omega
 ·exact .inl ⟨h1.1,fun k=>h1.2 (h2.2 k)⟩
 ·exact .inl ⟨h1.2 h2.1,h2.2⟩
 ·exact .inr ⟨h1.trans h2,ht h1' h2'⟩
theorem jar {v f p q:Pn} (hp:p≠v) (hq:q≠v) (h:¬Uk v p q) :Ga v f p q=true∨Ga v f q p=true:=by
 obtain ⟨P,uP,kP⟩ :=Zq hp
 obtain ⟨Q,uQ,kQ⟩ :=Zq hq
 have n:=XG uP uQ kP kQ h
 have d:=uE kP kQ
 rw [Gb,Gb]
 by_cases a:ME v p f<0<;>by_cases b:ME v q f<0
 ·simp only [a,b,not_true,and_false,false_or,true_and]
  rw [xa,xa,Mv v p q]
  have b1:=YW v p
  have b2:=YW v q
  omega
 ·exact .inl (.inl ⟨a,b⟩)
 ·exact .inr (.inl ⟨b,a⟩)
 ·simp only [a,b,false_and,false_or,true_and]
  rw [xa,xa,Mv v p q]
  have b1:=YW v p
  have b2:=YW v q
  omega
def Ls (S:Nat→Bool) (lt:Nat→Nat→Bool) (b:Option Nat) (k:Nat) :Option Nat:=match b with
 | none=>if S k=true then some k else none
 | some m=>if(S k&&lt k m) =true then some k else some m
def VY (S:Nat→Bool) (lt:Nat→Nat→Bool) (n:Nat) :Option Nat:= (List.range n).foldl (Ls S lt) none
theorem Vz (S:Nat→Bool) (lt:Nat→Nat→Bool) (n:Nat) :VY S lt (n+1) =Ls S lt (VY S lt n) n:=by
 unfold VY
 rw [List.range_succ,jj7]
 rfl
theorem zO (p:Nat→Bool) (S:Nat→Bool) (lt:Nat→Nat→Bool) :∀(l:List Nat) (b:Option Nat),(l.filter p).foldl (Ls S lt) b=l.foldl (Ls (fun k=>p k&&S k) lt) b
 | [],_=>rfl
 | k::l,b=>by
  rw [jj9]
  by_cases h:p k=true
  ·rw [if_pos h,jjd,jjd,zO p S lt l]
   congr 1
   cases b<;>simp [Ls,h]
  ·rw [if_neg h,jjd,zO p S lt l]
   congr 1
   cases b<;>simp [Ls,h]
theorem UQ {S:Nat→Bool} {lt:Nat→Nat→Bool} :∀ {n m:Nat},VY S lt n=some m→m<n∧S m=true
 | 0,m,h=>by cases h
 | n+1,m,h=>by
  rw [Vz] at h
  cases hb:VY S lt n with
  | none=>
   rw [hb] at h
   unfold Ls at h
   simp only at h
   split at h
   ·rename_i hs
    injection h with h
    subst h
    exact⟨by omega,hs⟩
   ·cases h
  | some b=>
   have ih:=UQ hb
   rw [hb] at h
   unfold Ls at h
   simp only at h
   split at h
   ·rename_i hs
    injection h with h
    subst h
    simp only [jig] at hs
    exact⟨by omega,hs.1⟩
   ·injection h with h
    subst h
    exact⟨by omega,ih.2⟩
theorem OV {S:Nat→Bool} {lt lt':Nat→Nat→Bool} :∀ {n:Nat},(∀j k,j<n→k<n→S j=true→S k=true→j≠k→lt j k=lt' j k)→VY S lt n=VY S lt' n
 | 0,_=>rfl
 | n+1,h=>by
  rw [Vz,Vz,←OV (n:=n) fun j k hj hk=>h j k Om Om]
  cases hb:VY S lt n with
  | none=>rfl
  | some b=>
   have:=UQ hb
   unfold Ls
   simp only
   by_cases hs:S n=true
   ·rw [h n b Om Om hs this.2 Om]
   ·simp [hs]
theorem Lm {S S':Nat→Bool} {lt:Nat→Nat→Bool} :∀ {n:Nat},(∀j,j<n→S j=S' j)→VY S lt n=VY S' lt n
 | 0,_=>rfl
 | n+1,h=>by
  rw [Vz,Vz,Lm (n:=n) fun j hj=>h j Om]
  unfold Ls
  rw [h n Om]
structure IsMin (S:Nat→Bool) (lt:Nat→Nat→Bool) (n m:Nat) :Prop where
 le:m<n
 mem:S m=true
 min:∀j,j<n→S j=true→j≠m→lt m j=true
structure Ord (S:Nat→Bool) (lt:Nat→Nat→Bool) (n:Nat) :Prop where
 asym:∀j k,j<n→k<n→S j=true→S k=true→lt j k=true→lt k j=false
 trans:∀i j k,i<n→j<n→k<n→S i=true→S j=true→S k=true→lt i j=true→lt j k=true→lt i k=true
 total:∀j k,j<n→k<n→S j=true→S k=true→j≠k→lt j k=true∨lt k j=true
theorem OW {S:Nat→Bool} {lt:Nat→Nat→Bool} {N:Nat} (h:Ord S lt N) :∀ {n:Nat},n≤N→(VY S lt n=none→∀j,j<n→S j=false)∧∀m,VY S lt n=some m→IsMin S lt n m
 | 0,_=>⟨fun _ j hj=>absurd hj Om,fun m h=>by cases h⟩
 | n+1,hn=>by
  have ih:=OW h (n:=n) Om
  rw [Vz]
  cases hb:VY S lt n with
  | none=>
   have hno:=ih.1 hb
   unfold Ls
   simp only
   by_cases hs:S n=true
   ·rw [if_pos hs]
    refine⟨fun e=> (by cases e),fun m e=> ?_⟩
    injection e with e
    subst e
    refine⟨by omega,hs,fun j hj h1 h2=> ?_⟩
    rw [hno j Om] at h1
    cases h1
   ·rw [if_neg hs]
    refine⟨fun _ j hj=> ?_,fun m e=> (by cases e)⟩
    by_cases e:j=n
    ·subst e;simpa using hs
    ·exact hno j Om
  | some b=>
   have hm:=ih.2 b hb
   unfold Ls
   simp only
   by_cases hs: (S n&&lt n b) =true
   ·rw [if_pos hs]
    simp only [jig] at hs
    refine⟨fun e=> (by cases e),fun m e=> ?_⟩
    injection e with e
    subst e
    refine⟨by omega,hs.1,fun j hj h1 h2=> ?_⟩
    by_cases e:j=b
    ·subst e;exact hs.2
    ·exact h.trans n b j Om (by have:=hm.le;omega) Om hs.1 hm.mem h1 hs.2 (hm.min j Om h1 e)
   ·rw [if_neg hs]
    refine⟨fun e=> (by cases e),fun m e=> ?_⟩
    injection e with e
    subst e
    refine⟨by have:=hm.le;omega,hm.mem,fun j hj h1 h2=> ?_⟩
    by_cases e:j=n
    ·subst e
     have hl:lt j b=false:=by
      rw [jig] at hs
      rw [Bool.eq_false_iff]
      exact fun k=>hs ⟨h1,k⟩
     rcases h.total j b Om (by have:=hm.le;omega) h1 hm.mem h2 with k | k
     ·rw [hl] at k;cases k
     ·exact k
    ·exact hm.min j Om h1 h2
structure TrOk (B:List Leg) :Prop where
 ne:∀j,j<B.length→lA (lg B j)≠lB (lg B j)
 apart:∀i j,i<B.length→j<B.length→i≠j→lA (lg B i) =lA (lg B j)→¬Uk (lA (lg B i)) (lB (lg B i)) (lB (lg B j))
 back:∀i j,i<B.length→j<B.length→lA (lg B j) =lB (lg B i)→¬Uk (lB (lg B i)) (lB (lg B j)) (lA (lg B i))
def yw (u:List Bool) (k:Nat) :Bool:=u.getD k false
def wD (B:List Leg) (u:List Bool) (v:Pn) (k:Nat) :Bool:= !(yw u k) &&decide (lA (lg B k) =v)
def ltS (B:List Leg) (v f:Pn) (j k:Nat) :Bool:=Ga v f (lB (lg B j)) (lB (lg B k))
def XE (B:List Leg) (u:List Bool) (at_:Nat) :Option Nat:=VY (wD B u (lB (lg B at_))) (ltS B (lB (lg B at_)) (lA (lg B at_))) B.length
def zF (B:List Leg) (u:List Bool) (at_ first:Nat) :Bool:=match XE B u at_ with
 | none=>true
 | some m=>ltS B (lB (lg B at_)) (lA (lg B at_)) first m
def y5 (B:List Leg) (u:List Bool) (first at_:Nat) :Option Nat:=if(decide (lB (lg B at_) =lA (lg B first)) &&zF B u at_ first) =true then none else XE B u at_
def Sd (B:List Leg) (v:Pn) :List Nat:= (List.range B.length).filter fun k=>decide (lA (lg B k) =v)
def vL (u:List Bool) (first k:Nat) :Bool:= !(yw u k) || decide (k=first)
def ltI (B:List Leg) (v f:Pn) (j k:Nat) :Bool:=cwF v f (lB (lg B j)) (lB (lg B k))
def YU (B:List Leg) (u:List Bool) (first at_:Nat) :Option Nat:= (Sd B (lB (lg B at_))).foldl (Ls (vL u first) (ltI B (lB (lg B at_)) (lA (lg B at_)))) none
def Ba (B:List Leg) (u:List Bool) (first at_:Nat) :Option Nat:=match YU B u first at_ with
 | none=>none
 | some m=>if m=first then none else some m
theorem jcG {B:List Leg} (h:TrOk B) {at_:Nat} (ha:at_<B.length) {S:Nat→Bool} (hS:∀k,S k=true→lA (lg B k) =lB (lg B at_)) :Ord S (ltS B (lB (lg B at_)) (lA (lg B at_))) B.length:=by
 have hne:∀k,k<B.length→S k=true→lB (lg B k)≠lB (lg B at_) :=fun k hk hs e=>h.ne k hk (by rw [hS k hs,e])
 refine⟨fun j k _ _ _ _ h1=>jdm h1,fun i j k hi hj hk s1 s2 s3 h1 h2=>jas (hne i hi s1) (hne j hj s2) (hne k hk s3) h1 h2,fun j k hj hk s1 s2 hn=> ?_⟩
 refine jar (hne j hj s1) (hne k hk s2) ?_
 have:=h.apart j k hj hk hn (by rw [hS j s1,hS k s2])
 rw [hS j s1] at this
 exact this
theorem jaE {B:List Leg} (h:TrOk B) {u:List Bool} {first at_:Nat} (hf:first<B.length) (ha:at_<B.length) (hu:yw u first=true) :Ba B u first at_=y5 B u first at_:=by
 have hb:YU B u first at_=VY (fun k=>decide (lA (lg B k) =lB (lg B at_)) &&vL u first k) (ltS B (lB (lg B at_)) (lA (lg B at_))) B.length:=by
  unfold YU Sd
  rw [zO]
  refine OV fun j k hj hk s1 s2 hn=> ?_
  simp only [jig,decide_eq_true_eq] at s1 s2
  have n1:lB (lg B j)≠lB (lg B at_) :=fun e=>h.ne j hj (by rw [s1.1,e])
  have n2:lB (lg B k)≠lB (lg B at_) :=fun e=>h.ne k hk (by rw [s2.1,e])
  have ap:=h.apart j k hj hk hn (by rw [s1.1,s2.1])
  rw [s1.1] at ap
  exact jgo (h.ne at_ ha) n1 n2 (h.back at_ j ha hj s1.1) (h.back at_ k ha hk s2.1) ap
 have oD:=jcG h ha (S:=fun k=>decide (lA (lg B k) =lB (lg B at_)) &&vL u first k) (fun k hk=>by simp only [jig,decide_eq_true_eq] at hk;exact hk.1)
 have oC:=jcG h ha (S:=wD B u (lB (lg B at_))) (fun k hk=>by simp only [wD,jig,decide_eq_true_eq] at hk;exact hk.2)
 have sD:=OW oD (jih _)
 have sC:=OW oC (jih _)
 have cd:∀k,wD B u (lB (lg B at_)) k=true→(decide (lA (lg B k) =lB (lg B at_)) &&vL u first k) =true:=fun k hk=>by
  simp only [wD,vL,jig,ji4,decide_eq_true_eq] at hk⊢
  exact⟨hk.2, .inl hk.1⟩
 have dc:∀k,k≠first→(decide (lA (lg B k) =lB (lg B at_)) &&vL u first k) =true→wD B u (lB (lg B at_)) k=true:=fun k hn hk=>by
  simp only [wD,vL,jig,ji4,decide_eq_true_eq] at hk⊢
  exact⟨hk.2.resolve_right hn,hk.1⟩
 have nf:wD B u (lB (lg B at_)) first=false:=by simp [wD,hu]
 by_cases hv:lB (lg B at_) =lA (lg B first)
 ·
  have hD: (decide (lA (lg B first) =lB (lg B at_)) &&vL u first first) =true:=by simp [vL,hv]
  unfold Ba y5 zF
  rw [hb]
  rw [decide_eq_true hv,jix]
  unfold XE
  cases eD:VY (fun k=>decide (lA (lg B k) =lB (lg B at_)) &&vL u first k) (ltS B (lB (lg B at_)) (lA (lg B at_))) B.length with
  | none=>
   have this: (decide (lA (lg B first) =lB (lg B at_)) &&vL u first first) =false:=sD.1 eD first hf
   rw [hD] at this
   cases this
  | some m=>
   have mD:=sD.2 m eD
   simp only
   cases eC:VY (wD B u (lB (lg B at_))) (ltS B (lB (lg B at_)) (lA (lg B at_))) B.length with
   | none=>
    have hno:=sC.1 eC
    simp only [if_true]
    by_cases hm:m=first
    ·rw [if_pos hm]
    ·have:=hno m mD.le
     rw [dc m hm mD.mem] at this
     cases this
   | some m'=>
    have mC:=sC.2 m' eC
    simp only
    have hm':m'≠first:=fun e=>by have:=mC.mem;rw [e,nf] at this;cases this
    by_cases hm:m=first
    ·rw [if_pos hm]
     have:=mD.min m' mC.le (cd m' mC.mem) (by rw [hm];exact hm')
     rw [hm] at this
     rw [if_pos this]
    ·rw [if_neg hm]
     have e1:m=m':=Decidable.byContradiction fun k=>by
      have a1:=mD.min m' mC.le (cd m' mC.mem) (Ne.symm k)
      have a2:=mC.min m mD.le (dc m hm mD.mem) k
      have:=oC.asym m m' mD.le mC.le (dc m hm mD.mem) mC.mem a1
      rw [a2] at this
      cases this
     have a3:=mD.min first hf hD (Ne.symm hm)
     have a4:=oD.asym m first mD.le hf mD.mem hD a3
     subst e1
     show some m=if ltS B (lB (lg B at_)) (lA (lg B at_)) first m=true then none else some m
     rw [a4]
     rfl
 ·unfold Ba y5
  rw [hb,decide_eq_false hv,jiC,if_neg (by simp)]
  unfold XE
  have e1:VY (fun k=>decide (lA (lg B k) =lB (lg B at_)) &&vL u first k) (ltS B (lB (lg B at_)) (lA (lg B at_))) B.length=VY (wD B u (lB (lg B at_))) (ltS B (lB (lg B at_)) (lA (lg B at_))) B.length:=by
   refine Lm fun k hk=> ?_
   by_cases e:k=first
   ·subst e
    rw [nf,decide_eq_false (fun k=>hv k.symm),jiC]
   ·unfold wD vL
    rw [decide_eq_false e,Bool.or_false,Bool.and_comm]
  rw [e1]
  cases eC:VY (wD B u (lB (lg B at_))) (ltS B (lB (lg B at_)) (lA (lg B at_))) B.length with
  | none=>rfl
  | some m=>
   have mC:=UQ eC
   have:m≠first:=fun e=>by have:=mC.2;rw [e,nf] at this;cases this
   simp only
   rw [if_neg this]
def W4 (u:List Bool) :Nat:= (u.filter (fun b=> !b)).length
def uK (B:List Leg) (first:Nat) :Nat→List Bool→Nat→List Pn→List Bool×List Pn
 | 0,u,_,ps=> (u,ps)
 | f+1,u,a,ps=>match y5 B (u.set a true) first a with
  | none=> (u.set a true,ps++ [lA (lg B a)])
  | some m=>uK B first f (u.set a true) m (ps++ [lA (lg B a)])
def kL (B:List Leg) :Nat→List Bool×List (List Pn)
 | 0=> (List.replicate B.length false,[])
 | k+1=>if yw (kL B k).1 k=true then kL B k else((uK B k (W4 (kL B k).1) (kL B k).1 k []).1,(kL B k).2++ [(uK B k (W4 (kL B k).1) (kL B k).1 k []).2])
def KG (B:List Leg) :List (List Pn) := (kL B B.length).2
theorem Gn {u:List Bool} {a k:Nat} (ha:a<u.length) :yw (u.set a true) k= (decide (k=a) || yw u k) :=by
 unfold yw
 by_cases e:k=a
 ·subst e;simp [List.getD,ha]
 ·simp [List.getD,List.getElem?_set,Ne.symm e,e]
theorem Xh:∀ {u:List Bool} {a:Nat},a<u.length→yw u a=false→W4 (u.set a true) +1=W4 u
 | [],a,h,_=>absurd h (by simp)
 | b::u,0,_,hb=>by
  have:b=false:=by simpa [yw] using hb
  subst this
  simp [W4]
 | b::u,a+1,h,hb=>by
  have hb':yw u a=false:=by simpa [yw] using hb
  have:=Xh (u:=u) (a:=a) (by simpa using h) hb'
  unfold W4 at*
  cases b<;>simp only [List.set_cons_succ,jj9,jju,jjq,if_true,jjg,if_false,jim] <;>omega
theorem IP {B:List Leg} {u:List Bool} {first a m:Nat} (h:y5 B u first a=some m) :m<B.length∧yw u m=false:=by
 unfold y5 at h
 split at h
 ·cases h
 ·have:=UQ h
  refine⟨this.1,?_⟩
  have h2:=this.2
  simp only [wD,jig,ji2] at h2
  exact h2.1
structure RunI (B:List Leg) (first:Nat) (u0 u:List Bool) (a:Nat) (ps:List Pn) :Prop where
 eq:uK B first (W4 u0) u0 first [] =uK B first (W4 u) u a ps
 len:u.length=B.length
 la:a<B.length
 free:yw u a=false
 used:a=first∨yw u first=true
theorem RunI.start {B:List Leg} {first:Nat} {u:List Bool} (hl:u.length=B.length) (hf:first<B.length) (h:yw u first=false) :RunI B first u u first [] :=⟨rfl,hl,hf,h, .inl rfl⟩
theorem RunI.pos {B:List Leg} {first:Nat} {u0 u:List Bool} {a:Nat} {ps:List Pn} (h:RunI B first u0 u a ps) :W4 u=W4 (u.set a true) +1:= (Xh (by rw [h.len];exact h.la) h.free).symm
theorem RunI.first {B:List Leg} {first:Nat} {u0 u:List Bool} {a:Nat} {ps:List Pn} (h:RunI B first u0 u a ps) :yw (u.set a true) first=true:=by
 rw [Gn (by rw [h.len];exact h.la)]
 rcases h.used with e | e
 ·simp [e]
 ·simp [e]
theorem RunI.stop {B:List Leg} {first:Nat} {u0 u:List Bool} {a:Nat} {ps:List Pn} (h:RunI B first u0 u a ps) (hs:y5 B (u.set a true) first a=none) :uK B first (W4 u0) u0 first [] = (u.set a true,ps++ [lA (lg B a)]) :=by
 rw [h.eq,h.pos,uK,hs]
theorem RunI.more {B:List Leg} {first:Nat} {u0 u:List Bool} {a m:Nat} {ps:List Pn} (h:RunI B first u0 u a ps) (hs:y5 B (u.set a true) first a=some m) :RunI B first u0 (u.set a true) m (ps++ [lA (lg B a)]) :=by
 have hm:=IP hs
 exact⟨by rw [h.eq,h.pos,uK,hs],by rw [jjv];exact h.len,hm.1,hm.2, .inr h.first⟩
theorem Iu {B:List Leg} {first:Nat} :∀f u a ps,(uK B first f u a ps).1.length=u.length∧(uK B first f u a ps).2.length≤ps.length+f
 | 0,u,a,ps=>⟨rfl,jih _⟩
 | f+1,u,a,ps=>by
  unfold uK
  split
  ·exact⟨by simp,by simp⟩
  ·have:=Iu (B:=B) (first:=first) f (u.set a true) (by assumption) (ps++ [lA (lg B a)])
   rw [jjv,jif] at this
   exact⟨this.1,by have:=this.2;simp only [jim,jiH] at this;omega⟩
theorem y6 {B:List Leg} :∀k,(kL B k).1.length=B.length
 | 0=>by simp [kL]
 | k+1=>by
  unfold kL
  split
  ·exact y6 k
  ·rw [(Iu _ _ _ _).1]
   exact y6 k
theorem FD (u:List Bool) :W4 u≤u.length:=jjV _ _
theorem CB {B:List Leg} {first:Nat} {p:Pn} :∀f u a ps,p∈(uK B first f u a ps).2→a<B.length→p∈ps∨∃j,j<B.length∧p=lA (lg B j)
 | 0,u,a,ps,h,_=> .inl h
 | f+1,u,a,ps,h,ha=>by
  unfold uK at h
  split at h
  ·simp only [jiv,jik] at h
   rcases h with h | h
   ·exact .inl h
   ·exact .inr ⟨a,ha,h⟩
  ·rename_i m hm
   rcases CB f _ _ _ h (IP hm).1 with h | h
   ·simp only [jiv,jik] at h
    rcases h with h | h
    ·exact .inl h
    ·exact .inr ⟨a,ha,h⟩
   ·exact .inr h
theorem jde {B:List Leg} {first:Nat} :∀f u a ps,ps≠ []∨0<f→(uK B first f u a ps).2≠ []
 | 0,u,a,ps,h=>h.resolve_right Om
 | f+1,u,a,ps,_=>by
  unfold uK
  split
  ·simp
  ·exact jde f _ _ _ (.inl (by simp))
theorem y7 {B:List Leg} :∀k,k≤B.length→(kL B k).2.length≤k∧∀r∈(kL B k).2,0<r.length∧r.length≤B.length∧∀p∈r,∃j,j<B.length∧p=lA (lg B j)
 | 0,_=>⟨jih _,fun r hr=>by cases hr⟩
 | k+1,hk=>by
  have ih:=y7 (B:=B) k Om
  unfold kL
  split
  ·exact⟨Nat.le_succ_of_le ih.1,ih.2⟩
  ·rename_i hu
   refine⟨by simp only [jif,jim,jiH];omega,fun r hr=> ?_⟩
   simp only [jiv,jik] at hr
   rcases hr with hr | rfl
   ·exact ih.2 r hr
   ·have hl:=y6 (B:=B) k
    have hc:=FD (kL B k).1
    have hp:0<W4 (kL B k).1:=by
     have:=Xh (u:= (kL B k).1) (a:=k) Om (by simpa using hu)
     omega
    have h1:=Iu (B:=B) (first:=k) (W4 (kL B k).1) (kL B k).1 k []
    have h2:=jde (B:=B) (first:=k) (W4 (kL B k).1) (kL B k).1 k [] (.inr hp)
    refine⟨List.length_pos_iff.2 h2,by have:=h1.2;simp only [jiH] at this;omega,fun p hp=> ?_⟩
    rcases CB (B:=B) _ _ _ _ hp (show k<B.length by omega) with h | h
    ·cases h
    ·exact h
end Go.Proofs.YtpncbbcmoiiipaaGreat
namespace Go.Proofs.YtpncbbcmoiiipaaGreat
open Go Go.RowKit
set_option maxRecDepth 100000
set_option maxHeartbeats 4000000
theorem I8 (A:Option Addr) (n c:Nat) (xs:List (Int×Int)) (w:World) (h:Pts w A n xs) (hn:0<n) (hn2:n≤1048577) :
  Calls Tryz.prog 87 #[.slice A n c] w fun e w'=>∃v,e= .returned v∧w'.ownsRow w.heap.size 56 2 v n (xs.flatMap Js)∧Over w w':=by
 obtain ⟨b,o,rfl,_⟩ :=h.2 hn
 refine Jh (m:=8) (Tryz.func87) J J (lb J) ?_;refine S8 ?_;refine a9 (jae jw J J) ?_;refine S1 ?_;refine Dh J (J) ?_;refine S5 ?_;refine Jx J J (vK) J (lb J) (fun b1=> ?_);refine WF 0 2 J J ?_;refine N2 ?_;refine JV (k:=0) J jw jH Dc J Dc J J J (fun w' hs=>IE (h.over hs.fin) hn) (Ww _) (by unfold maxLen;omega) Om (jih _) (fun r1=> ?_);refine N3 ?_;refine jM J (.tmp J) ?_
 intro w' hs
 have hr0:w'.ownsRow w.heap.size 56 2 (.slice r1.1 (0+n) r1.2) (0+n) (xs.flatMap Js) := (hs.all 0 _ rfl).1
 exact⟨_,rfl,by rw [jiL] at hr0⊢;exact hr0,hs.fin⟩
theorem Il {w w':World} {Rs:List Res} (hs:St ⟨w,[]⟩ Rs w') {kr kp B T n:Nat} {l:List Pc} {x:Option Addr×Nat} {rs:List jV} (hr:Rs[kr]? =some (JY B T 1 n (l.map Pc.val) x)) (hp:Rs[kp]? =some (vE l)) (hne:kr≠kp) (_e:w=w) (hl:l.length=n) (hrs:l.map (·.xs) =rs)
  (hm:∀j,j<rs.length→(rg rs j).length≤1099511627776) :OwnG w.heap.size w'.heap.size w' x.1 n rs:=by
 have hrow:w'.ownsRow B T 1 (.slice x.1 n x.2) n (l.map Pc.val) := (hs.all kr _ hr).1
 have hX:=hs.all kp _ hp
 rcases hrow.2 with⟨_,e⟩ |⟨g,cap,cur,e,hb,hg,hcap,hmax,hsz,htk⟩
 ·subst e
  obtain rfl:l= [] :=jiQ hl
  subst hrs
  exact OwnG.nil _
 ·injection e with e1 e2 e3
  rw [e1]
  have hF: (JY B T 1 n (l.map Pc.val) x).F g:=by show Value.ownBlock (.slice x.1 n x.2) =some g;rw [e1];rfl
  have hown:=Ik (lo:=w.heap.size) (o:=0) hg (((hs.all kr _ hr).2.1 g hF).elim id (fun h=>by cases h)) (fun j hj=> ?_) hX.1 (fun h=>hs.apart kr kp _ _ hne hr hp g hF h) (fun q hq=> (hX.2.1 q hq).elim id (fun h=>by cases h)) (fun e he=> ?_)
  ·rw [hrs,hl] at hown
   exact hown
  ·have hc:cur[j]? = (l.map Pc.val)[j]? :=by rw [←htk,List.getElem?_take,if_pos Om];simp
   rw [jiL,hc]
   simp [hj]
  ·have:e.xs∈rs:=hrs▸jip.2 ⟨e,he,rfl⟩
   obtain ⟨j,hj,e2⟩ :=ji0 this
   have:=hm j hj
   rw [←Wa hj,e2] at this
   omega
theorem jc0 {xs:List (Int×Int)} {k:Nat} (h:k<xs.length) :px xs.reverse k=px xs (xs.length- 1- k)∧py xs.reverse k=py xs (xs.length- 1- k) :=by
 have e:xs.reverse[k]? =xs[xs.length- 1- k]? :=List.getElem?_reverse h
 simp only [px,py,List.getD_eq_getElem?_getD,e]
 exact⟨trivial,trivial⟩
def RevTo (cs:List Value) (o n i:Nat) (xs:List (Int×Int)) :Prop:=∀q,q<n→cs[o+q*2]? =some (.int .i64 (px xs (if q<i∨n- 1- i<q then n- 1- q else q)))∧cs[o+q*2+1]? =some (.int .i64 (py xs (if q<i∨n- 1- i<q then n- 1- q else q)))
theorem RevTo.step {cs:List Value} {o n i:Nat} {xs:List (Int×Int)} (h:RevTo cs o n i xs) (hi:2*i+1<n) (hl:∀q,q<n→o+q*2+1<cs.length) :
  RevTo (qP (qP cs (o+i*2) [.int .i64 (px xs (n- 1- i)), .int .i64 (py xs (n- 1- i))]) (o+ (n- 1- i) *2) [.int .i64 (px xs i), .int .i64 (py xs i)]) o n (i+1) xs:=by
 intro q hq
 have h1:=hl i Om
 have h2:=hl (n- 1- i) Om
 simp only [qP]
 by_cases e1:q=i
 ·subst e1
  rw [if_pos Om,List.getElem?_set_ne Om,List.getElem?_set_ne Om,List.getElem?_set_ne Om,List.getElem?_set_self Om,List.getElem?_set_ne Om,List.getElem?_set_ne Om,List.getElem?_set_self (by simp;omega)]
  exact⟨rfl,rfl⟩
 ·by_cases e2:q=n- 1- i
  ·subst e2
   rw [if_pos Om,List.getElem?_set_ne Om,List.getElem?_set_self (by simp;omega),List.getElem?_set_self (by simp;omega),show n- 1- (n- 1- i) =i by omega]
   exact⟨rfl,rfl⟩
  ·have:=h q hq
   have hif: (q<i+1∨n- 1- (i+1) <q)↔(q<i∨n- 1- i<q) :=by omega
   simp only [hif]
   rw [List.getElem?_set_ne Om,List.getElem?_set_ne Om,List.getElem?_set_ne Om,List.getElem?_set_ne Om,List.getElem?_set_ne Om,List.getElem?_set_ne Om,List.getElem?_set_ne Om,List.getElem?_set_ne Om]
   exact this
theorem RevTo.at_ {cs:List Value} {o n i q:Nat} {xs:List (Int×Int)} (h:RevTo cs o n i xs) (h1:i≤q) (h2:q≤n- 1- i) (hq:q<n) :cs[o+q*2]? =some (.int .i64 (px xs q))∧cs[o+q*2+1]? =some (.int .i64 (py xs q)) :=by
 have:=h q hq
 rwa [if_neg Om] at this
theorem OwnGd.put {lo hi:Nat} {w w':World} {b o T:Nat} {cs:Array Value} {pl:Nat→Option Addr×Nat} {n k:Nat} {rs:List jV} (ys:jV) (h:OwnGd lo hi w b o T cs pl n rs) (hl:rs.length=n) (hk:k<n) (hy:ys.length= (rg rs k).length)
  (hw:Wrs (fun q=>0< (rg rs k).length∧q=W3 (pl k).1∧jhN lo hi q) w w') (hp:OwnP lo hi w' (pl k).1 (rg rs k).length ys) :OwnGd lo hi w' b o T cs pl n (rs.set k ys) :=by
 have hse:∀j,j<n→rg (rs.set k ys) j=if j=k then ys else rg rs j:=fun j hj=>by
  simp only [rg,List.getD_eq_getElem?_getD]
  by_cases e:j=k
  ·subst e;rw [if_pos rfl,List.getElem?_set_self Om];rfl
  ·rw [if_neg e,List.getElem?_set_ne (fun e'=>e e'.symm)]
 have hlen:∀j,j<n→(rg (rs.set k ys) j).length= (rg rs j).length:=fun j hj=>by
  rw [hse j hj]
  by_cases e:j=k
  ·subst e;rw [if_pos rfl,hy]
  ·rw [if_neg e]
 refine⟨h.low,h.high,(hw.block b (J3 h.blk) fun hq=> ?_).trans h.blk,fun j hj=> ?_,fun j hj=> ?_,fun j hj=> ?_,fun i j hi hj hij=> ?_⟩
 ·exact h.off k hk hq.1 hq.2.1.symm
 ·rw [hlen _ hj];exact h.cell j hj
 ·rw [hse j hj]
  by_cases hjk:j=k
  ·subst hjk
   rw [if_pos rfl,hy]
   exact hp
  ·rw [if_neg hjk]
   by_cases h0:0< (rg rs j).length
   ·refine(h.pts j hj).agree fun p hp' h1 h2=> ?_
    obtain ⟨b',o',T',cs',e',_,_,hh',_⟩ := (h.pts j hj).2 h0
    rw [e'] at hp'
    injection hp' with hp'
    subst hp'
    refine hw.block b' (J3 hh') fun hq=> ?_
    refine h.apart j k hj hk hjk h0 hq.1 ?_
    rw [e']
    exact hq.2.1
   ·exact⟨(h.pts j hj).1,fun h1=>absurd h1 h0⟩
 ·rw [hlen _ hj];exact h.off j hj
 ·rw [hlen _ hi,hlen _ hj];exact h.apart i j hi hj hij
def Ti (rs:List jV) :List jV:=if JE rs=true then rs.map List.reverse else []
def rvC (rs:List jV) :Int:=if JE rs=true then 0 else 1
def OQ (xs:List (Int×Int)) (j:Nat) :List (Int×Int) :=xs.reverse.take j
theorem Te {xs:List (Int×Int)} {j:Nat} (h:j<xs.length) : (OQ xs j).flatMap Js++ [.int .i64 (px xs (xs.length- 1- j)), .int .i64 (py xs (xs.length- 1- j))] = (OQ xs (j+1)).flatMap Js:=by
 unfold OQ
 rw [jin (by simpa using h),jio]
 congr 1
 rw [yg (by simpa using h),(jc0 h).1,(jc0 h).2]
 rfl
theorem NK (xs:List (Int×Int)) :OQ xs xs.length=xs.reverse:=jiK (by simp)
theorem D6 {rs:List jV} {k:Nat} (h:k<rs.length) :rg (rs.map List.reverse) k= (rg rs k).reverse:=by simp [rg,List.getD,h]
theorem zm (A:Option Addr) (n c:Nat) (rs:List jV) (w:World) (h:Rings w A n rs) (ht: (total rs:Int)≤1048577) :
  Calls Tryz.prog 40 #[qT A n c] w fun e w'=>∃A' c',e= .returned (.tuple #[qT A' (Ti rs).length c', .int .i64 (rvC rs)])∧OwnG w.heap.size w'.heap.size w' A' (Ti rs).length (Ti rs)∧Over w w':=by
 have hl:=h.1
 refine Jh (m:=53) (Tryz.func40) J J (lb J) ?_;refine S3 ?_;refine aX (fun b1=> ?_);refine N1 ?_;refine aL (fun b2=> ?_);refine N5 ?_;refine a9 (jT vD J J (fun w1 hs=>ZC _ _ A n c rs w1 (qo (k:=0) J J w1 hs) (J3 (hs.cel (k:=0) J)) (h.over hs.fin) ht)) ?_;refine S2 ?_;refine cZ (fun c1=> ?_) (fun c1=> ?_)
 ·refine S2 ?_;refine a9 (JU J J (qg)) ?_;refine S6 ?_;refine qv J (qh (k:=1) J jG J J) (.tmp J) ?_
  intro w' hs
  exact⟨none,0,by simp [Ti,rvC,c1],by simp only [Ti,c1];exact OwnG.nil none,hs.fin⟩
 ·have hr:JE rs=true:=by simpa using c1
  have hn40:=WR hr
  have eR:Ti rs=rs.map List.reverse:=if_pos hr
  have eC:rvC rs=0:=if_pos hr
  have eL: (Ti rs).length=n:=by rw [eR,jit,hl]
  refine S4 ?_;refine a9 (JU J J (qg)) ?_;refine S1 ?_;refine aL (fun b3=> ?_);refine N3 ?_;refine Q7 (T:=77) (s:=1) ?_;refine t9 ?_;refine Vq ?_;refine t9 ?_;refine S6 ?_;refine JQ (X:=Nat×(Option Addr×Nat)×List Pc) (fun x=>x.1≤n∧x.2.2.map (·.xs) = (rs.map List.reverse).take x.1) (fun x=>n- x.1) (fun x=> [(5, .int .i64 (x.1:Int))]) (kK [1,2,3,4]) (fun x=> [.cel b1 26 [.slice A n c], .cel b2 26 [.slice none 0 0], .cel b3 26 [.slice x.2.1.1 x.1 x.2.1.2],JY (Bs.N ⟨w,[]⟩) 77 1 x.1 (x.2.2.map Pc.val) x.2.1,vE x.2.2]) (0,(none,0),[]) (⟨jii _,J⟩) ⟨J,sz⟩ (fun _ h=>h) ?_
  intro⟨k,⟨rA,rc⟩,l⟩ hx L hL1
  refine v9 ?_;refine r9 ?_
  have hk:k≤n:=hx.1
  have hmp:l.map (·.xs) = (rs.map List.reverse).take k:=hx.2
  have hlk:l.length=k:=by have:=congrArg List.length hmp;rw [jit,jiy,jit] at this;omega
  refine S9 ?_;refine cZ (fun c2=> ?_) (fun c2=> ?_)
  ·have hlt:k<n:=Om
   obtain ⟨bb,oo,Ak,ck,rfl,hbB,hcell,hpts,hmax⟩ :=h.at_ hlt
   have hpos:=Qf (Km hr (show k<rs.length by omega))
   obtain ⟨pb,po,rfl,_⟩ :=hpts.2 hpos.1
   refine S6 ?_;refine a9 (JU J J (vJ)) ?_;refine S1 ?_;refine aL (fun b4=> ?_);refine N3 ?_;refine Q7 (T:=56) (s:=2) ?_;refine t9 ?_;refine S8 ?_;refine a9 (jn J J JG (NJ hcell hbB)) ?_;refine S5 ?_;refine JQ (X:=Nat×Option Addr×Nat) (fun y=>y.1≤(rg rs k).length) (fun y=> (rg rs k).length- y.1) (fun y=> [(7, .int .i64 (((rg rs k).length:Int) - 1- (y.1:Int)))]) (kK [1,2,3,4,5,12,13,14,15,16,19,6,20,21,22,23,24,25,26,27]) (fun y=> [.cel b1 26 [.slice (some ⟨bb,oo,none⟩) n c], .cel b2 26 [.slice none 0 0], .cel b3 26 [.slice rA k rc],JY (Bs.N ⟨w,[]⟩) 77 1 k (l.map Pc.val) (rA,rc),vE l, .cel b4 77 [.slice y.2.1 y.1 y.2.2],JY (Bs.N ⟨w,[]⟩) 56 2 y.1 ((OQ (rg rs k) y.1).flatMap Js) y.2]) (0,none,0) (jii _) ⟨vi Om,sz⟩ (fun _ h=>h) ?_
   intro⟨j,qA,qc⟩ hy L hL2
   refine v9 ?_;refine r9 ?_
   have hj:j≤(rg rs k).length:=hy
   refine S6 ?_;refine cZ (fun c3=> ?_) (fun c3=> ?_)
   ·have hjl:j< (rg rs k).length:=Om
    refine W7 7 (.int .i64 (((rg rs k).length- 1- j:Nat) :Int)) J (congrArg _ Om) ?_;refine S5 ?_;refine JS 12 ?_;refine dV 0 [1] ?_;refine dK 1 ?_;refine dV 2 [3,5,6,7,9,10,11] ?_;refine dV 3 [5,6,7,9,10,11] ?_;refine dV 4 [5,6,7,9,10,11] ?_;refine dV 5 [6,7,9,10,11] ?_;refine dV 6 [7,9,10,11] ?_;refine d9 7 J [9,10,11] (u9 J) (jn J J JG (NJ hcell hbB)) ?_;refine dV 8 [9,10,11] ?_;refine dV 9 [10,11] ?_;refine d9 10 J [11] (u9 J) (jk J J jj J (wL (b:=pb) (o:=po) hpts Om)) ?_;refine qe (i:=11) J Dc Kr J ?_;refine Jx J J (qM J) J (lb J) (fun b5=> ?_);refine n9 ?_;refine JO (u9 J) ?_;refine vg J Kr J ?_;refine JV (k:=6) J jw jH Dc J Dc J J J (fun w' hs=>Qb hs (k:=7) J J) (by simp [Value.oneCell']) (by unfold maxLen;omega) Om (jih _) (fun r1=> ?_);refine n9 ?_;refine Qx 15 [5] ?_;refine dK 13 ?_;refine qe (i:=14) J Dc Kr J ?_;refine S1 ?_;refine JO (uw [5] J) ?_;refine JK Kr ?_;refine S7 ?_
    exact Ji hL2 ((j+1,r1)) ((show j+1≤(rg rs k).length by omega)) (by simp only;omega) ⟨vi Om,sz⟩ (fun _ h=>h.upto ⟨J,J,J,J,J,J,by rw [←Te hjl],trivial⟩)
   ·have hje:j= (rg rs k).length:=Om
    subst hje
    rw [NK]
    refine S10 ?_;refine Jx J J (qH J) J (lb J) (fun b6=> ?_);refine N1 ?_;refine JV (k:=3) J jK Jw Dc J Dc J J J (fun w' hs=>Qb hs (k:=7) J J) (by simp [Value.oneCell']) (by unfold maxLen;omega) Om (jih _) (fun r2=> ?_);refine N4 ?_;refine ZY 6 J (by simp) (fun clo chi=> ?_);refine t9 ?_;refine wN 4 6 J J Dc J ?_;refine t9 ?_;refine S7 ?_
    exact Ji hL1 ((k+1,r2,l++ [⟨(rg rs k).reverse,qA,qc,clo,chi⟩])) (⟨show k+1≤n by omega,by rw [jiO,hmp,wl (by rw [jit];omega),D6 Om];rfl⟩) (by simp only;omega) ⟨vi Om,sz⟩ (fun _ h=>h.upto ⟨J,J,J,by rw [jiO];simp [Pc.val],(vT _ _).symm,trivial⟩)
  ·have hkn:k=n:=Om
   refine S13 ?_;refine qv J (qh (k:=1) J jG J J) (.tmp J) ?_
   intro w' hs
   subst hkn
   have hrs:l.map (·.xs) =rs.map List.reverse:=by rw [hmp,jiK (by rw [jit];omega)]
   refine⟨rA,rc,by rw [eL,eC],?_,hs.fin⟩
   rw [eL,eR]
   exact Il hs (kr:=3) (kp:=4) rfl rfl Dc rfl hlk hrs (fun j hj=>by rw [jit] at hj;have:=Qf (Km hr hj);rw [D6 hj,List.length_reverse];omega)
end Go.Proofs.YtpncbbcmoiiipaaGreat
