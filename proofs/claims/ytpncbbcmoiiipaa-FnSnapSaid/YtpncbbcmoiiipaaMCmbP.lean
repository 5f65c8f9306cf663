import Derived.Test.YtpncbbcmoiiipaaMSnapG
import Derived.Test.YtpncbbcmoiiipaaMSortLg
set_option linter.unusedVariables false
set_option linter.unusedSimpArgs false
namespace Go.Proofs.Ytpncbbcmoiiipaa
open Go Go.RowKit
theorem Lg {es:List (Pn×Pn)} {z:Pn} (h1:Lk es z) (h2:∀e,es.head?=some e→e.1=z) :Qj (es.map (·.1)) =es:=by
 obtain ⟨g1,g2⟩ :=HX h1
 have hp:∀j (hj:j<es.length),pt (es.map (·.1)) j=es[j].1:=fun j hj=>by
  rw [←QK (by simpa using hj)]
  simp
 refine F1 (by simp [Qj]) fun j hj hj'=> ?_
 simp only [Qj,F2,List.getElem_range]
 refine Prod.ext (hp j hj') ?_
 show pt (es.map (·.1)) (nx (es.map (·.1)) j) =_
 by_cases hj1:j+1<es.length
 ·rw [show nx (es.map (·.1)) j=j+1 from Ib (by simpa using hj1),hp _ hj1,←g1 j hj1]
 ·have hk:0<es.length:=by omega
  rw [show nx (es.map (·.1)) j=0 by unfold nx;rw [Fc,show j+1=es.length by omega,Nat.mod_self],hp 0 hk]
  have hz: (es[0]'hk).1=z:=h2 _ (by cases es with | nil=>simp at hk | cons a l=>rfl)
  have:es.length- 1=j:=by omega
  rw [hz,←g2 hk]
  simp only [this]
theorem xd {xs:List Pn} (h0:0<xs.length) (hk:0< (QJ xs).length) :Jf (QJ xs) =Jf xs:=by
 obtain ⟨h1,h2⟩ :=yY h0
 have e:QJ xs= ((Jf xs).map xt).map (·.1) :=by rw [List.map_map];rfl
 rw [qF (y8 h0 hk),e,Lg h1 h2,List.map_map]
 conv=>rhs;rw [←List.map_id (Jf xs)]
 rfl
theorem yQ (rs ss:List jx) :∀k,k≤rs.length→JJ (rs++ss) k=JJ rs k
 | 0,_=>rfl
 | k+1,hk=>by
  show JJ (rs++ss) k++Jf (rg (rs++ss) k) =JJ rs k++Jf (rg rs k)
  rw [yQ rs ss k Om]
  congr 2
  simp only [rg,List.getD_eq_getElem?_getD,List.getElem?_append_left (show k<rs.length by omega)]
theorem Uz (rs ss:List jx) :∀k,JJ (rs++ss) (rs.length+k) =jv rs++JJ ss k
 | 0=>by
  rw [Nat.add_zero,yQ rs ss _ (DM _)]
  exact(D7 _).symm
 | k+1=>by
  show JJ (rs++ss) (rs.length+k) ++Jf (rg (rs++ss) (rs.length+k)) =jv rs++ (JJ ss k++Jf (rg ss k))
  rw [Uz rs ss k,DN]
  congr 3
  simp only [rg,List.getD_eq_getElem?_getD,List.getElem?_append_right (Nat.le_add_right _ _),Nat.add_sub_cancel_left]
theorem YO (rs ss:List jx) :jv (rs++ss) =jv rs++jv ss:=by
 unfold jv
 rw [DK]
 exact Uz rs ss _
theorem YP (r:jx) :jv [r] =Jf r:=rfl
theorem Wg {rs:List jx} (hr:Je rs=true) :∀k,k≤rs.length→jv (QZ rs k) =JJ rs k
 | 0,_=>rfl
 | k+1,hk=>by
  have ih:=Wg hr k Om
  have hp:=qN (kC hr (show k<rs.length by omega))
  show _=JJ rs k++Jf (rg rs k)
  by_cases h:0< (QJ (rg rs k)).length
  ·rw [wF Om h,YO,ih,YP,xd hp.1 h]
  ·rw [WX Om h,ih]
   have e: (Jf (rg rs k)).length= (QJ (rg rs k)).length:= (Fc ..).symm
   rw [Fd (show(Jf (rg rs k)).length=0 by omega),D7]
theorem Wn {rs:List jx} (hr:Je rs=true) :jv (JP rs) =jv rs:=Wg hr _ (DM _)
theorem Md {r:List Pn} (h:bare r) :QJ r=r:=by
 show(Jf r).map lA=r
 rw [qF h,List.map_map]
 exact KM r
theorem Gh {ss:List jx} (h:∀r∈ss,bare r) :JP ss=ss:=by
 unfold JP QZ
 rw [FR]
 have e:ss.map QJ=ss:=by
  refine(List.map_congr_left (fun r hr=>Md (h r hr))).trans ?_
  simp
 rw [e]
 exact List.filter_eq_self.2 fun r hr=>decide_eq_true (h r hr).1
theorem Xv {E:List Leg} (hx:NoX E) {p:Pn} :∀i,i≤E.length→p∈VJ E i→∃k,k<i∧(p=lA (lg E k)∨p=lB (lg E k))
 | 0,_,h=>by simp [VJ] at h
 | i+1,hi,h=>by
  have hcz:∀k,k≤i→p∉cz E i k:=fun k=>by
   induction k with
   | zero=>intro _ h;simp [cz] at h
   | succ k ih=>
    intro hk h
    rw [cz] at h
    rcases DV.1 h with h | h
    ·exact ih Om h
    ·split at h
     ·rename_i h2
      exact hx _ (by rw [W6 (show i<E.length by omega)];exact DR _) _ (by rw [W6 (show k<E.length by omega)];exact DR _) (xw h2)
     ·cases h
  simp only [VJ,DV,DZ,Fp,or_false] at h
  rcases h with(h | h) | h
  ·obtain ⟨k,hk,e⟩ :=Xv hx i Om h
   exact⟨k,by omega,e⟩
  ·exact⟨i,by omega,h⟩
  ·exact absurd h (hcz i (DM _))
theorem LI {hot hot2:List Pn} {ss:List jx} (hb:bareG hot ss) (hs:qk hot ss=ss) (hnd:hot2.Nodup) (hsub:∀p∈hot2,p∈hot) (hb2:bareG hot2 ss) :qk hot2 ss=ss:=by
 have one:∀r∈ss,Qg hot2 r=r:=fun r hr=>by
  obtain ⟨br,bm⟩ :=hb2 r hr
  rw [Ks br]
  have hp:∀d∈Qj r,J3 hot2 d= [d.1] :=fun d hd=>by
   have he:LT d∈jv ss:=KG.2 ⟨r,hr,by rw [qF br];exact Fi.2 ⟨d,hd,rfl⟩⟩
   obtain ⟨_,_,hne,hpa⟩ :=wj hb hs he
   have e1:lA (LT d) =d.1:=rfl
   have e2:lB (LT d) =d.2:=rfl
   rw [e1,e2] at hpa hne
   obtain ⟨o1,o2,o3⟩ :=vJ br bm d hd
   obtain ⟨mid,hm⟩ :=ui o1 o2 o3
   have hn:=Vd (a:=d.1) (b:=d.2) hnd
   rw [hm] at hn
   have hmid:mid= [] :=by
    cases hmm:mid with
    | nil=>rfl
    | cons x l=>
     exfalso
     rw [hmm] at hm hn
     have hx:x∈qp d.1 d.2 hot2:=by rw [hm];simp
     obtain ⟨x1,x2⟩ :=Qu.1 hx
     have hx3:x∈qp d.1 d.2 hot:=Qu.2 ⟨hsub x x1,x2⟩
     rw [hpa] at hx3
     simp only [DZ,Fp,or_false] at hx3
     simp only [D6,List.nodup_cons,DZ,DV,Fp,or_false,not_or] at hn
     rcases hx3 with e | e
     ·exact hn.1.1 e.symm
     ·exact hn.2.1.2 e
   unfold J3
   rw [hm,hmid]
   rfl
  have: (Qj r).flatMap (J3 hot2) = (Qj r).map (·.1) :=by
   have key:∀l:List (Pn×Pn),(∀d∈l,J3 hot2 d= [d.1])→l.flatMap (J3 hot2) =l.map (·.1) :=fun l=>by
    induction l with
    | nil=>intro _;rfl
    | cons d l ih=>intro h;rw [D9,h d (by simp),ih (fun e he=>h e (D2 _ he))];rfl
   exact key _ hp
  rw [this,KM]
 unfold qk
 exact(List.map_congr_left one).trans (by simp)
theorem HB {p a b:Pn} (h:Wo p 0 a b) :VP a b p=false:=by
 obtain ⟨α,β,h1,h2⟩ :=h
 rw [FF] at h1 h2
 cases ho:VP a b p with
 | false=>rfl
 | true=>
  exfalso
  simp only [VP,xB,DL,beq_iff_eq,decide_eq_true_eq] at ho
  obtain ⟨⟨⟨⟨t,x1⟩,x2⟩,y1⟩,y2⟩ :=ho
  have ea:k7 α β p a=α* (a.1- p.1) +β* (a.2- p.2) :=rfl
  have eb:k7 α β p b=α* (b.1- p.1) +β* (b.2- p.2) :=rfl
  obtain ⟨A1,hA1⟩ :∃z,z=a.1- p.1:=⟨_,rfl⟩
  obtain ⟨A2,hA2⟩ :∃z,z=a.2- p.2:=⟨_,rfl⟩
  obtain ⟨B1,hB1⟩ :∃z,z=b.1- p.1:=⟨_,rfl⟩
  obtain ⟨B2,hB2⟩ :∃z,z=b.2- p.2:=⟨_,rfl⟩
  have ht:A1*B2=A2*B1:=by
   rw [hA1,hA2,hB1,hB2]
   unfold QX at t
   grind
  rw [←hA1,←hA2] at ea
  rw [←hB1,←hB2] at eb
  have hga:0<α*A1+β*A2:=by omega
  have hgb:0<α*B1+β*B2:=by omega
  have s1: (A1≤0∧0≤B1)∨(0≤A1∧B1≤0) :=by omega
  have s2: (A2≤0∧0≤B2)∨(0≤A2∧B2≤0) :=by omega
  have k1:B1* (α*A1+β*A2) =A1* (α*B1+β*B2) :=by grind
  have k2:B2* (α*A1+β*A2) =A2* (α*B1+β*B2) :=by grind
  have z1:A1=0:=by
   rcases Fx A1 0 with h | h | h
   ·have:=FA h hgb
    have:=DU (show 0≤B1 by omega) (FD hga)
    omega
   ·exact h
   ·have:=Fr h hgb
    have:=DU (show 0≤-B1 by omega) (FD hga)
    rw [Int.neg_mul] at this
    omega
  have z2:A2=0:=by
   rcases Fx A2 0 with h | h | h
   ·have:=FA h hgb
    have:=DU (show 0≤B2 by omega) (FD hga)
    omega
   ·exact h
   ·have:=Fr h hgb
    have:=DU (show 0≤-B2 by omega) (FD hga)
    rw [Int.neg_mul] at this
    omega
  rw [z1,z2] at hga
  omega
theorem HA {p a b:Pn} {k:Int} (hk:0≤k) (h:Wo p k a b) :Wo p 0 a b:=by
 obtain ⟨α,β,h1,h2⟩ :=h
 have:0≤k* ((α.natAbs:Int) +β.natAbs) :=DU hk Om
 exact⟨α,β,by rw [FF];omega,by rw [FF];omega⟩
theorem X3 {hot:List Pn} :∀(f:Nat) {rs ss:List jx} {r q:Nat},KY hot f rs r=some (ss,q)→q<r+f
 | 0,_,_,_,_,h=>by cases h
 | f+1,rs,ss,r,q,h=>by
  rw [KY] at h
  split at h
  ·cases h
  ·split at h
   ·injection h with h
    injection h with h2 h3
    omega
   ·have:=X3 f h
    omega
structure SnapF (rs ss:List jx) (q:Nat) :Prop where
 r:Vw rs=ss
 n:G5 rs=q
 c:GU rs=0
 q4:q≤401
 reg:Je ss=true
 isn:YS ss=true
 again:Vw ss=ss∧G5 ss=0∧GU ss=0
 mem:∀x∈ss,∀p∈x,p∈Wc rs
 wind:∀p:Pn,(∀e∈jv rs,Wo p q (lA e) (lB e))→K7 p (jv ss) =K7 p (jv rs)∧∀e∈jv ss,Wo p 0 (lA e) (lB e)
theorem OO {rs:List jx} (hr:Je rs=true) (hc:GU rs=0) :∃ss q,SnapF rs ss q:=by
 have hk:=XV hr
 obtain ⟨y1,y2,y3⟩ :=ze hr
 have hok:yh (Wc rs) (JP rs) =true:=by
  rw [y3] at hc
  split at hc
  ·assumption
  ·cases hc
 cases hst:u6 (Wc rs) (JP rs) with
 | none=>rw [yh,hst] at hok;cases hok
 | some x=>
  obtain ⟨ss,q⟩ :=x
  obtain ⟨s1,s2,_⟩ :=zl hst
  have hreg:=LH hk.nd hk.reg hk.bare hst
  obtain ⟨hfix,m,him⟩ :=X4 _ hst
  have he0:=Wn hr
  have hi:=Xw hk.nd m _ hk.bare (by rw [he0];exact Gt fun p hp=>by unfold Wc xj;rw [he0];exact(KU _ _).2 hp)
  rw [←him] at hi
  have hx:=zZ hk.nd hi.1 hi.2
  rw [hfix] at hx
  have hpair:∀e∈jv ss,∀f∈jv ss,Yh (lA e) (lB e) (lA f) (lB f) =true:=fun e he f hf=>GY hi.1 hfix hx (fun p hp=>V9 (hk.ok p hp)) he hf
  have hlok:=U5 hreg
  have hne:=zC ss ss.length
  have hisn:YS ss=true:=by
   rw [YS,hreg,FB]
   exact(uE fun i hi' k hk'=>by
    have m1:lg (jv ss) i∈jv ss:=by rw [W6 hi'];exact DR _
    have m2:lg (jv ss) k∈jv ss:=by rw [W6 (show k< (jv ss).length by omega)];exact DR _
    rw [←GO (hlok _ m1) (hlok _ m2) (hne _ m1) (hne _ m2)]
    exact hpair _ m1 _ m2).symm
  have hbar:∀r∈ss,bare r:=fun r h=> (hi.1 r h).1
  have hid:=Gh hbar
  have hk2:=XV hreg
  rw [hid] at hk2
  have hfix2:qk (Wc ss) ss=ss:=LI hi.1 hfix hk2.nd (fun p hp=>by
   unfold Wc xj at hp
   rw [hid] at hp
   obtain ⟨k,hk',e⟩ :=Xv hx _ (DM _) ((KU _ _).1 hp)
   have hmem:lg (jv ss) k∈jv ss:=by rw [W6 hk'];exact DR _
   obtain ⟨a1,a2,_,_⟩ :=wj hi.1 hfix hmem
   rcases e with e | e<;>rw [e] <;>assumption) hk2.bare
  have hst2:u6 (Wc ss) (JP ss) =some (ss,0) :=by
   rw [hid]
   show KY (Wc ss) (401+1) ss 0=_
   unfold KY
   rw [hfix2,if_neg (by rw [hreg];decide),if_pos rfl]
  obtain ⟨z1,z2,z3⟩ :=ze hreg
  obtain ⟨t1,t2,t3⟩ :=zl hst2
  refine⟨ss,q,by rw [y1,s1],by rw [y2,s2],hc,?_,hreg,hisn,⟨by rw [z1,t1],by rw [z2,t2];rfl,by rw [z3,t3];rfl⟩,fun x hxs p hp=> (hi.1 x hxs).2 p hp,fun p hf=> ?_⟩
  ·have:=X3 402 hst
   omega
  ·obtain ⟨_,w2⟩ :=Yv (p:=p) hk.nd 402 hst hk.bare
   rw [he0] at w2
   exact w2 (fun e he=>by have:=hf e he;rwa [Int.natCast_zero,Int.sub_zero])
end Go.Proofs.Ytpncbbcmoiiipaa
