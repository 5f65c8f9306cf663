import Derived.Test.YtpncbbcmoiiipaaMTopo3
set_option linter.unusedVariables false
set_option linter.unusedSimpArgs false
namespace Go.Proofs.Ytpncbbcmoiiipaa
open Go Go.RowKit
def Gc (p q:Pn) (l:List Pn) :Prop:=∃l1 l2,l=l1++p::q::l2
theorem V4 {hot:List Pn} {e:Pn×Pn} {l:List (Pn×Pn)} (h:e.1≠e.2∧e.1∈hot∧e.2∈hot) :∃rest,(e::l).flatMap (J3 hot) =e.1::rest:=by
 obtain ⟨mid,h1,_⟩ :=ka h
 exact⟨mid++l.flatMap (J3 hot),by rw [D9,h1];rfl⟩
theorem yV {hot:List Pn} {p q:Pn} :∀ {es:List (Pn×Pn)} {e:Pn×Pn} {z:Pn},Lk (e::es) z→(∀d∈e::es,d.1≠d.2∧d.1∈hot∧d.2∈hot)→Gc p q ((e::es).flatMap (J3 hot) ++ [z])→∃d∈e::es,Gc p q (qp d.1 d.2 hot)
 | [],e,z,hl,hm,hc=>by
  obtain ⟨mid,h1,h2⟩ :=ka (hm e (D3 ..))
  have hz:e.2=z:=hl
  refine⟨e,D3 ..,?_⟩
  rw [h2,hz]
  simpa using hc
 | f::l,e,z,hl,hm,hc=>by
  obtain ⟨mid,h1,h2⟩ :=ka (hm e (D3 ..))
  obtain ⟨rest,hr⟩ :=V4 (l:=l) (hm f (D2 _ (D3 ..)))
  have ih:=yV (p:=p) (q:=q) (es:=l) (e:=f) (z:=z) hl.2 (fun d hd=>hm d (D2 _ hd))
  have lift:Gc p q ((f::l).flatMap (J3 hot) ++ [z])→∃d∈e::f::l,Gc p q (qp d.1 d.2 hot) :=fun h=>by
   obtain ⟨d,hd,hk⟩ :=ih h
   exact⟨d,D2 _ hd,hk⟩
  obtain ⟨l1,l2,hc⟩ :=hc
  rw [D9,DN] at hc
  have hB: (f::l).flatMap (J3 hot) ++ [z] =f.1:: (rest++ [z]) :=by rw [hr];rfl
  rcases List.append_eq_append_iff.1 hc with⟨zs,h3,h4⟩ |⟨zs,h3,h4⟩
  ·exact lift ⟨zs,l2,h4⟩
  ·match zs,h3,h4 with
   | [],h3,h4=>exact lift ⟨[],l2,h4.symm⟩
   | [x],h3,h4=>
    rw [hB] at h4
    simp only [D6,Fl,List.cons.injEq] at h4
    refine⟨e,D3 ..,l1,[],?_⟩
    rw [h2,h3,hl.1,h4.1,h4.2.1]
    simp
   | x::y::zs,h3,h4=>
    simp only [D6,List.cons.injEq] at h4
    refine⟨e,D3 ..,l1,zs++ [e.2],?_⟩
    rw [h2,h3,h4.1,h4.2.1]
    simp
theorem L3 {l:List Pn} {j:Nat} (h:j+1<l.length) :Gc l[j] l[j+1] l:=
 ⟨l.take j,l.drop (j+2),by
  have e1:l.drop j=l[j] ::l.drop (j+1) :=Fw Om
  have e2:l.drop (j+1) =l[j+1] ::l.drop (j+2) :=Fw h
  rw [←e2,←e1,D1]⟩
theorem Gm {S:List Pn} {j:Nat} (h:j<S.length) :Gc (pt S j) (pt S (nx S j)) (S++ [pt S 0]) :=by
 have hc:=L3 (l:=S++ [pt S 0]) (j:=j) (by simp;omega)
 have e1: (S++ [pt S 0])[j]'(by simp;omega) =pt S j:=by rw [List.getElem_append_left h,QK h]
 have e2: (S++ [pt S 0])[j+1]'(by simp;omega) =pt S (nx S j) :=by
  by_cases k:j+1<S.length
  ·rw [List.getElem_append_left k,QK k,show nx S j=j+1 from Ib k]
  ·rw [List.getElem_append_right Om,show nx S j=0 by unfold nx;rw [show j+1=S.length by omega,Nat.mod_self]]
   simp
 rw [e1,e2] at hc
 exact hc
theorem W2 {hot xs:List Pn} (hnd:hot.Nodup) (hb:bare xs) (hm:∀p∈xs,p∈hot) {e:Leg} (he:e∈Jf (Qg hot xs)) :∃f∈Jf xs,Frag hot (lA f) (lB f) (lA e) (lB e)∧lA e∈hot∧lB e∈hot:=by
 have hS:= (wh hnd hb hm).1
 rw [qF hS] at he
 obtain ⟨pq,hpq,rfl⟩ :=Fi.1 he
 obtain ⟨j,hj,rfl⟩ :=Fi.1 hpq
 have hj:=FV.1 hj
 have hc:=Gm hj
 have hSp:=Ks (hot:=hot) hb
 have hlk:=WG (xs:=xs)
 have hok:=vJ hb hm
 have hhd:∀h:0< (Qj xs).length,((Qj xs)[0]'h).1=pt xs 0:=fun h=>by simp [Qj]
 have hlen:0< (Qj xs).length:=by rw [kM];exact hb.1
 cases hP:Qj xs with
 | nil=>rw [hP] at hlen;exact absurd hlen (by simp)
 | cons e0 es=>
  simp only [hP] at hlk hok hhd hlen hSp
  obtain ⟨rest,hr⟩ :=V4 (l:=es) (hok e0 (D3 ..))
  have h0:pt (Qg hot xs) 0=pt xs 0:=by
   rw [hSp,hr,←hhd hlen]
   rfl
  rw [h0,hSp] at hc
  obtain ⟨d,hd,l1,l2,hk⟩ :=yV hlk hok hc
  refine⟨LT d,?_,?_,?_,?_⟩
  ·rw [qF hb,hP]
   exact Fi.2 ⟨d,hd,rfl⟩
  ·have:=L8 hnd hk
   rw [←hSp] at this
   exact this
  ·exact yc (xs:=xs) (by show pt (Qg hot xs) j∈_;rw [←QK hj];exact DR _)
  ·have hn:nx (Qg hot xs) j< (Qg hot xs).length:=Nat.mod_lt _ Om
   exact yc (xs:=xs) (by show pt (Qg hot xs) (nx (Qg hot xs) j)∈_;rw [←QK hn];exact DR _)
theorem Yc {rs:List jx} {e:Leg} :∀k,e∈JJ rs k↔∃j,j<k∧e∈Jf (rg rs j)
 | 0=>by simp [JJ]
 | k+1=>by
  show e∈JJ rs k++Jf (rg rs k)↔_
  rw [DV,Yc k]
  constructor
  ·rintro(⟨j,h1,h2⟩ | h)
   ·exact⟨j,by omega,h2⟩
   ·exact⟨k,by omega,h⟩
  ·rintro⟨j,h1,h2⟩
   by_cases h:j=k
   ·subst h;exact .inr h2
   ·exact .inl ⟨j,by omega,h2⟩
theorem KG {rs:List jx} {e:Leg} :e∈jv rs↔∃r∈rs,e∈Jf r:=by
 unfold jv
 rw [Yc]
 constructor
 ·rintro⟨j,h1,h2⟩
  exact⟨rg rs j,by rw [←Ku h1];exact DR _,h2⟩
 ·rintro⟨r,h1,h2⟩
  obtain ⟨j,hj,e1⟩ :=Fe h1
  exact⟨j,hj,by rw [←Ku hj,e1];exact h2⟩
def G7 (hot:List Pn) (E:List Leg) :Prop:=∀e∈E,∀f∈E,zA hot (lA e) (lB e) (lA f) (lB f)
def NoX (E:List Leg) :Prop:=∀e∈E,∀f∈E,J4 (lA e) (lB e) (lA f) (lB f)≠true
theorem NoX.inv {hot:List Pn} {E:List Leg} (h:NoX E) :G7 hot E:=fun e he f hf hs=>absurd hs (h e he f hf)
theorem zZ {hot:List Pn} {rs:List jx} (hnd:hot.Nodup) (hb:bareG hot rs) (h:G7 hot (jv rs)) :NoX (jv (qk hot rs)) :=fun e he f hf=>by
 obtain ⟨r,hr,he⟩ :=KG.1 he
 obtain ⟨s,hs,hf⟩ :=KG.1 hf
 obtain ⟨r0,hr0,rfl⟩ :=Fi.1 hr
 obtain ⟨s0,hs0,rfl⟩ :=Fi.1 hs
 obtain ⟨e0,he0,F,m1,m2⟩ :=W2 hnd (hb r0 hr0).1 (hb r0 hr0).2 he
 obtain ⟨f0,hf0,G,m3,m4⟩ :=W2 hnd (hb s0 hs0).1 (hb s0 hs0).2 hf
 exact xh F G m1 m2 m3 m4 (h e0 (KG.2 ⟨r0,hr0,he0⟩) f0 (KG.2 ⟨s0,hs0,hf0⟩))
def BC (hot:List Pn) :Nat→List jx→List jx
 | 0,rs=>rs
 | n+1,rs=>BC hot n (qk hot rs)
theorem Xw {hot:List Pn} (hnd:hot.Nodup) :∀n rs,bareG hot rs→G7 hot (jv rs)→bareG hot (BC hot n rs)∧G7 hot (jv (BC hot n rs))
 | 0,rs,h1,h2=>⟨h1,h2⟩
 | n+1,rs,h1,h2=>Xw hnd n (qk hot rs) (h1.snap hnd) (zZ hnd h1 h2).inv
theorem X4 {hot:List Pn} :∀f {rs ss:List jx} {r q:Nat},KY hot f rs r=some (ss,q)→qk hot ss=ss∧∃n,ss=BC hot n rs
 | 0,_,_,_,_,h=>by cases h
 | f+1,rs,ss,r,q,h=>by
  unfold KY at h
  split at h
  ·cases h
  ·split at h
   ·rename_i e
    injection h with h
    injection h with h1 h2
    subst h1
    exact⟨e,0,rfl⟩
   ·obtain ⟨h1,n,h2⟩ :=X4 f h
    exact⟨h1,n+1,h2⟩
theorem zU {hot:List Pn} :∀ {es:List (Pn×Pn)},(∀d∈es,d.1≠d.2∧d.1∈hot∧d.2∈hot)→(es.flatMap (J3 hot)).length=es.length→∀e∈es,qp e.1 e.2 hot= [e.1,e.2]
 | [],_,_,e,he=>by cases he
 | d::l,h,hl,e,he=>by
  obtain ⟨mid,h1,h2⟩ :=ka (h d (D3 ..))
  have hg:= (W3 (es:=l) fun x hx=>h x (D2 _ hx)).1
  rw [D9,h1,DK,DT,DT] at hl
  rcases DZ.1 he with rfl | he
  ·obtain rfl:mid= [] :=Fd Om
   rw [h2,h1]
   rfl
  ·exact zU (fun x hx=>h x (D2 _ hx)) Om e he
theorem wj {hot:List Pn} {rs:List jx} (hb:bareG hot rs) (hs:qk hot rs=rs) {e:Leg} (he:e∈jv rs) :lA e∈hot∧lB e∈hot∧lA e≠lB e∧qp (lA e) (lB e) hot= [lA e,lB e] :=by
 obtain ⟨r,hr,he⟩ :=KG.1 he
 have hsr:Qg hot r=r:=by
  have:∀ {l:List jx},l.map (Qg hot) =l→∀x∈l,Qg hot x=x:=fun {l} =>by
   induction l with
   | nil=>intro _ x hx;cases hx
   | cons y l ih=>
    intro h x hx
    simp only [Fb,List.cons.injEq] at h
    rcases DZ.1 hx with rfl | hx
    ·exact h.1
    ·exact ih h.2 x hx
  exact this hs r hr
 obtain ⟨h1,h2⟩ :=hb r hr
 have hok:=vJ h1 h2
 rw [qF h1] at he
 obtain ⟨d,hd,rfl⟩ :=Fi.1 he
 have hl: ((Qj r).flatMap (J3 hot)).length= (Qj r).length:=by rw [←Ks h1,hsr,kM]
 obtain ⟨g1,g2,g3⟩ :=hok d hd
 exact⟨g2,g3,g1,zU hok hl d hd⟩
theorem xe (a b c d:Pn) : (QW a b c d).Nodup:=by
 have key:∀out p,out.Nodup→(yA a b c d out p).Nodup:=fun out p h=>by
  unfold yA
  split
  ·rename_i k
   simp only [DL,Fm] at k
   refine List.nodup_append.2 ⟨h,by simp,fun x hx y hy e=> ?_⟩
   rw [DP.1 hy] at e
   subst e
   have:=k.1
   rw [List.contains_eq_mem,decide_eq_false_iff_not] at this
   exact this hx
  ·exact h
 exact key _ _ (key _ _ (key _ _ (key _ _ List.nodup_nil)))
theorem GY {hot:List Pn} {rs:List jx} (hb:bareG hot rs) (hs:qk hot rs=rs) (hx:NoX (jv rs)) (hok:∀p∈hot,bd2 p) {e f:Leg} (he:e∈jv rs) (hf:f∈jv rs) :Yh (lA e) (lB e) (lA f) (lB f) =true:=by
 obtain ⟨e1,e2,e3,e4⟩ :=wj hb hs he
 obtain ⟨f1,f2,f3,f4⟩ :=wj hb hs hf
 have hno:=hx e he f hf
 generalize lA e=a at*
 generalize lB e=b at*
 generalize lA f=c at*
 generalize lB f=d at*
 have way:∀ {p q x:Pn},qp p q hot= [p,q]→p∈hot→q∈hot→x∈hot→VP p q x=true→x=p∨x=q:=fun {p q x} h hp hq hx ho=>by
  have hi:= (Oz (hok p hp) (hok q hq) ho).2
  unfold OV at hi
  simp only [DL] at hi
  obtain ⟨u,v,hv,_,h0,h1,h2⟩ :=Uf (a:=p) (b:=q) (p:=x) hi.2
  have hm:x∈qp p q hot:=Qu.2 ⟨hx,Zl hv h0 h1 h2⟩
  rw [h] at hm
  simpa using hm
 have both:∀q∈QW a b c d,(q=a∨q=b)∧(q=c∨q=d) :=fun q hq=>by
  obtain ⟨h1,h2⟩ :=qG.1 hq
  unfold Q6 at h2
  simp only [DL] at h2
  have hqh:q∈hot:=by
   rcases h1 with rfl | rfl | rfl | rfl<;>assumption
  exact⟨way e4 e1 e2 hqh h2.1,way f4 f1 f2 hqh h2.2⟩
 have nd:=xe a b c d
 unfold Yh
 split
 ·rfl
 ·split
  ·rename_i h2
   exact absurd (xw h2) hno
  ·split
   ·rename_i h1
    have:∃q,q∈QW a b c d:=by
     unfold Qx at h1
     cases hh:QW a b c d with
     | nil=>rw [hh] at h1;simp at h1;split at h1<;>omega
     | cons x l=>exact⟨x,by simp⟩
    obtain ⟨q,hq⟩ :=this
    obtain ⟨k1,k2⟩ :=both q hq
    simp only [Fm,F6,decide_eq_false_iff_not,ne_eq,Decidable.not_not]
    rcases k1 with rfl | rfl<;>rcases k2 with rfl | rfl<;>simp
   ·split
    ·rename_i h3
     unfold Qx at h3
     match hh:QW a b c d with
     | [] =>rw [hh] at h3;simp at h3;split at h3<;>omega
     | [x] =>rw [hh] at h3;simp at h3
     | x::y::l=>
      rw [hh] at nd both
      have hxy:x≠y:=fun e=> (List.nodup_cons.1 nd).1 (by rw [e];simp)
      obtain ⟨k1,k2⟩ :=both x (by simp)
      obtain ⟨k3,k4⟩ :=both y (by simp)
      rw [decide_eq_true_iff]
      rcases k1 with rfl | rfl<;>rcases k3 with rfl | rfl
      ·exact absurd rfl hxy
      ·rcases k2 with rfl | rfl<;>rcases k4 with rfl | rfl
       ·exact absurd rfl hxy
       ·exact .inl ⟨rfl,rfl⟩
       ·exact .inr ⟨rfl,rfl⟩
       ·exact absurd rfl hxy
      ·rcases k2 with rfl | rfl<;>rcases k4 with rfl | rfl
       ·exact absurd rfl hxy
       ·exact .inr ⟨rfl,rfl⟩
       ·exact .inl ⟨rfl,rfl⟩
       ·exact absurd rfl hxy
      ·exact absurd rfl hxy
    ·rfl
theorem yj {a b c d:Pn} (h:J4 a b c d=true) :Qx a b c d=2:=by
 have hn:QW a b c d= [] :=by
  refine List.eq_nil_iff_forall_not_mem.2 fun q hq=> ?_
  obtain ⟨h1,h2⟩ :=qG.1 hq
  unfold Q6 at h2
  simp only [DL] at h2
  have t1:= (kW.1 h2.1).1
  have t2:= (kW.1 h2.2).1
  obtain ⟨s1,s2⟩ :=QS.1 h
  rcases h1 with rfl | rfl | rfl | rfl<;>omega
 unfold Qx
 rw [hn,if_pos (show([] :List Pn).length=0 from rfl),if_pos h]
theorem Z7 {E:List Leg} {i k:Nat} (h:Qx (lA (lg E i)) (lB (lg E i)) (lA (lg E k)) (lB (lg E k)) =2) :∀j,k<j→Xn (lA (lg E i)) (lB (lg E i)) (lA (lg E k)) (lB (lg E k))∈cz E i j
 | 0,hj=>absurd hj Om
 | j+1,hj=>by
  unfold cz
  by_cases e:k=j
  ·subst e
   rw [if_pos h]
   simp
  ·exact Fy _ (Z7 h j Om)
theorem xk {E:List Leg} {i:Nat} {p:Pn} (h:p∈cz E i i) :∀n,i<n→p∈VJ E n
 | 0,hn=>absurd hn Om
 | n+1,hn=>by
  unfold VJ
  by_cases e:i=n
  ·subst e;exact F7 _ h
  ·exact Fy _ (Fy _ (xk h n Om))
theorem Lx {a b c d:Pn} {t t' v:Int} (h:sc a b t v=sc c d t' v) :v*tn c d a=t* (tn c d a- tn c d b) :=by
 have e1:2* (v*tn c d a+t* (tn c d b- tn c d a)) = (d.1- c.1) * ((sc a b t v).2- (sc c d t' v).2) - (d.2- c.2) * ((sc a b t v).1- (sc c d t' v).1) :=by simp only [sc,tn,QX];grind
 rw [h] at e1
 have e2:v*tn c d a+t* (tn c d b- tn c d a) =0:=by
  have: (d.1- c.1) * ((sc c d t' v).2- (sc c d t' v).2) - (d.2- c.2) * ((sc c d t' v).1- (sc c d t' v).1) =0:=by rw [Int.sub_self,Int.sub_self];simp
  omega
 have e3:t* (tn c d a- tn c d b) = -(t* (tn c d b- tn c d a)) :=by grind
 omega
theorem Hw {x y n D0 t v:Int} (hd:D0≠0) (hv:0<v) (h:v*n=t*D0) :wo (2*x) (2* (y- x)) (2*yX x y n D0- 1) t v:=by
 obtain ⟨N,D,hD,hND,g1,g2⟩ :=Z5 (x:=x) (y:=y) (n:=n) hd
 have hk:v*N=t*D:=by
  rcases hND with⟨_,rfl,rfl⟩ |⟨_,rfl,rfl⟩
  ·rw [Int.mul_neg,Int.mul_neg,h]
  ·exact h
 generalize yX x y n D0=r at*
 unfold wo
 have e: (2*x*v+t* (2* (y- x))) *D=2* (x*D+ (y- x) *N) *v:=by
  have: (2*x*v+t* (2* (y- x))) *D=2*x*D*v+2* (y- x) * (t*D) :=by grind
  rw [this,←hk]
  grind
 have m1:=DJ g1 (show 0≤v by omega)
 have m2:=D4 g2 hv
 rw [←e] at m1 m2
 have f1: (2*r- 1) *D*v= (2*r- 1) *v*D:=by grind
 have f2: (2*r+1) *D*v= (2*r- 1+2) *v*D:=by grind
 rw [f1] at m1
 rw [f2] at m2
 exact⟨Fa m1 hD,Fj m2 Om⟩
theorem zJ {a b c d:Pn} (hs:J4 a b c d=true) {t t' v:Int} (hv:0<v) (h:sc a b t v=sc c d t' v) :kF a b (Xn a b c d) t v:=by
 have hd:=KZ hs
 have hk2:v*M7 a c d=t*Hu a b c d:=by
  rw [UI,WZ]
  exact Lx h
 exact⟨Hw hd hv hk2,Hw hd hv hk2⟩
theorem ZI {a b c d:Pn} (h:J4 a b c d=true) :J4 c d a b=true:=by
 obtain ⟨h1,h2⟩ :=QS.1 h
 exact QS.2 ⟨h2,h1⟩
theorem Gt {E:List Leg} {hot:List Pn} (hh:∀p∈VJ E E.length,p∈hot) :G7 hot E:=fun e he f hf hs=>by
 obtain ⟨i,hi,rfl⟩ :=Ya he
 obtain ⟨k,hk,rfl⟩ :=Ya hf
 rcases Nat.lt_trichotomy i k with c | c | c
 ·have hs':=ZI hs
  refine⟨Xn (lA (lg E k)) (lB (lg E k)) (lA (lg E i)) (lB (lg E i)),hh _ (xk (Z7 (yj hs') k c) _ hk),fun t t' v hv h=> ?_⟩
  rw [Z3 (KZ hs) (KZ hs')]
  exact zJ hs hv h
 ·subst c
  exact absurd rfl (Yw hs).2.2.1
 ·exact⟨Xn (lA (lg E i)) (lB (lg E i)) (lA (lg E k)) (lB (lg E k)),hh _ (xk (Z7 (yj hs) i c) _ hi),fun t t' v hv h=>zJ hs hv h⟩
end Go.Proofs.Ytpncbbcmoiiipaa
