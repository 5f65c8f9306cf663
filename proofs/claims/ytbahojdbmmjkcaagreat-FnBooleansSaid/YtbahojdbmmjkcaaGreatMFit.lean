import Derived.Test.YtbahojdbmmjkcaaGreatMOwn
import Derived.Test.YtbahojdbmmjkcaaGreatMTrI
import Derived.Test.YtbahojdbmmjkcaaGreatMBrd2
import Derived.Test.YtbahojdbmmjkcaaGreatMSnapG
import Derived.Test.YtbahojdbmmjkcaaGreatMCmbP
import Derived.Test.YtbahojdbmmjkcaaGreatMTopo4
import Derived.Test.YtbahojdbmmjkcaaGreatMNetT
set_option linter.unusedVariables false
set_option linter.unusedSimpArgs false
namespace Go.Proofs.YtbahojdbmmjkcaaGreat
open Go Go.RowKit
variable {E F:List Leg} {hot:List Pn} {how:Int} {p:Pn} {q:Nat} {rs ss:List jO}
def Zf (rs:List jO) :List jO:=if Jp rs=true then rs else []
def Ze (rs:List jO) :Int:=if Jp rs=true then 0 else 5
theorem jcB (hE:∀l∈E,qM l) (hl:E.length≤400) (hr:Jp ss=true) (hb:∀r∈ss,bare r) (hs:∀l∈jt ss,l∈E) :HotOk (OD E) ss:=by
 have hends:∀l∈E,lA l∈OD E:=fun l hl=>by
  obtain ⟨k,hk,e⟩ :=jj0 hl
  have:= (XY (E:=E) _ (jjm _) k hk).1
  rw [Zo hk,e] at this
  exact(Vp _ _).2 this
 refine⟨hr,fun p hp=>Wu (Is hE _ (jjm _) p ((Vp _ _).1 hp)),WD _,DT (WD _),?_,fun r h=>⟨hb r h,fun p hp=> ?_⟩⟩
 ·have h1:=YX (yf E E.length)
  have h2:=YN E E.length
  have h3:E.length* (E.length+2)≤400*402:=jkH hl Om
  unfold OD
  omega
 ·have hbr:=hb r h
  have hp2:p∈(JZ r).map lA:=by
   rw [QC hbr,jk6]
   have e2: (kN r).map (lA∘Nn) = (kN r).map (·.1) :=rfl
   rw [e2,vX]
   exact hp
  obtain ⟨l,hl,rfl⟩ :=jjx.1 hp2
  exact hends l (hs l (uU.2 ⟨r,h,hl⟩))
structure CmOk (rs ss:List jO) :Prop where
 r1:Jp rs=true
 r2:Jp ss=true
 len: (jt rs++jt ss).length≤400
def D1 (rs ss:List jO) :List Leg:=jt rs++jt ss
def Wl (rs ss:List jO) :List Pn:=OD (D1 rs ss)
def V4 (rs ss:List jO) :List jO:=LS (Wl rs ss) (JO rs)
def VP (rs ss:List jO) :List jO:=LS (Wl rs ss) (JO ss)
def wD (rs ss:List jO) :Bool:=zL (Wl rs ss) (JO rs)
def WV (rs ss:List jO) :Bool:=zL (Wl rs ss) (JO ss)
def Qp (rs ss:List jO) (how:Int) :List Leg:=vH (jt (V4 rs ss)) (jt (VP rs ss)) how
def vJ (rs ss:List jO) (how:Int) :List jO:=KJ (Qp rs ss how)
section
variable {rs ss:List jO}
theorem CmOk.legs (h:CmOk rs ss) :∀l∈D1 rs ss,qM l:=fun l hl=> (jjz.1 hl).elim (GB h.r1 l) (GB h.r2 l)
theorem CmOk.hot1 (h:CmOk rs ss) :HotOk (Wl rs ss) (JO rs) :=jcB h.legs h.len (UV h.r1) (yi h.r1) fun l hl=>jka _ (by rwa [kz h.r1] at hl)
theorem CmOk.hot2 (h:CmOk rs ss) :HotOk (Wl rs ss) (JO ss) :=jcB h.legs h.len (UV h.r2) (yi h.r2) fun l hl=>jkw _ (by rwa [kz h.r2] at hl)
theorem ZK (hk:HotOk hot rs) (h:zL hot rs=true) :Jp (LS hot rs) =true∧qq hot (LS hot rs) =LS hot rs∧∃n,LS hot rs=RE hot n rs:=by
 cases hs:yN hot rs with
 | none=>rw [(xa hs).2.2] at h;cases h
 | some x=>
  obtain ⟨s,r⟩ :=x
  rw [(wJ hs).1]
  exact⟨jeh hk.nd hk.reg hk.bare hs,EI _ hs⟩
theorem CmOk.pair (h:CmOk rs ss) (ha:wD rs ss=true) (hb:WV rs ss=true) :XA (jt (V4 rs ss) ++jt (VP rs ss)) :=by
 have k1:=h.hot1
 have k2:=h.hot2
 obtain ⟨_,f1,n1,i1⟩ :=ZK k1 ha
 obtain ⟨_,f2,n2,i2⟩ :=ZK k2 hb
 have e1:RE (Wl rs ss) (n1+n2) (JO rs) =V4 rs ss:=by rw [Iu,←i1,Iv f1];rfl
 have e2:RE (Wl rs ss) (n1+n2) (JO ss) =VP rs ss:=by rw [Nat.add_comm,Iu,←i2,Iv f2];rfl
 have e:RE (Wl rs ss) (n1+n2) (JO rs++JO ss) =V4 rs ss++VP rs ss:=by rw [CH,e1,e2]
 have hb0:bareG (Wl rs ss) (JO rs++JO ss) :=fun r hr=> (jjz.1 hr).elim (k1.bare r) (k2.bare r)
 have he0:jt (JO rs++JO ss) =D1 rs ss:=by rw [Vk,kz h.r1,kz h.r2];rfl
 have hi:=CI k1.nd (n1+n2) _ hb0 (by rw [he0];exact jar fun p hp=> (Vp _ _).2 hp)
 rw [e] at hi
 have hfix:qq (Wl rs ss) (V4 rs ss++VP rs ss) =V4 rs ss++VP rs ss:=by
  unfold qq at*
  rw [jjQ]
  have a: (V4 rs ss).map (kv (Wl rs ss)) =V4 rs ss:=f1
  have b: (VP rs ss).map (kv (Wl rs ss)) =VP rs ss:=f2
  rw [a,b]
 have hx:=SQ k1.nd hi.1 hi.2
 rw [hfix] at hx
 intro x hx1 y hy1
 rw [←Vk] at hx1 hy1
 exact jbj hi.1 hfix hx (fun p hp=>UH (k1.ok p hp)) hx1 hy1
theorem CmOk.two (h:CmOk rs ss) (ha:wD rs ss=true) (hb:WV rs ss=true) :TwoE (jt (V4 rs ss)) (jt (VP rs ss)) :=by
 obtain ⟨r1,_⟩ :=ZK h.hot1 ha
 obtain ⟨r2,_⟩ :=ZK h.hot2 hb
 have g1:=y8 r1
 have g2:=y8 r2
 exact⟨g1.ok,g2.ok,g1.ne,g2.ne,YY r1,YY r2⟩
theorem CmOk.okT (h:CmOk rs ss) (ha:wD rs ss=true) (hb:WV rs ss=true) (how:Int) :okRs (vJ rs ss how) :=by
 have hB:BoOk (Qp rs ss how) :=xJ (h.two ha hb)
 have hl:=hB.len
 obtain ⟨h1,h2⟩ :=Yt (B:=Qp rs ss how) _ (jjm _)
 refine⟨by unfold vJ KJ;omega,fun r hr=> ?_⟩
 obtain ⟨g1,g2,g3⟩ :=h2 r hr
 refine⟨g1,by omega,fun p hp=> ?_⟩
 obtain ⟨j,hj,rfl⟩ :=g3 p hp
 exact(wP (kC hB.ok hj)).wide
end
def Zj (how:Int) :Bool:=decide (1≤how) &&decide (how≤4)
def YI (rs ss:List jO) :Bool:=Jp rs&&Jp ss
def UY (rs ss:List jO) :Bool:=decide ((jt rs++jt ss).length≤400) && (wD rs ss&&WV rs ss)
def RB (rs ss:List jO) (how:Int) :List jO:=if UY rs ss=true then Zf (vw (vJ rs ss how)) else []
def Co (rs ss:List jO) (how:Int) :Int:=if UY rs ss=true then Ze (vw (vJ rs ss how)) else 5
def kS (rs ss:List jO) (how:Int) :List jO:=if YI rs ss=true then(if Zj how=true then RB rs ss how else []) else []
def uY (rs ss:List jO) (how:Int) :Int:=if YI rs ss=true then(if Zj how=true then Co rs ss how else 2) else 1
theorem G6 (rs:List jO) :JO rs= (rs.map KY).filter fun r=>decide (0<r.length) :=by
 unfold JO vg
 rw [jj3]
theorem jdS (hr:Jp rs=true) :∀r∈rs,0<r.length:=fun r h=>by
 obtain ⟨i,hi,e⟩ :=jj0 h
 have:=qW (kE hr hi)
 rw [wu hi] at e
 rw [←e]
 omega
theorem T6 {a b c d:Pn} (h:qg a b c d=true) :qg b a d c=true∧Hg b a d c=Hg a b c d∧Hg c d a b=Hg a b c d:=by
 have f1:qg b a d c=true:=by rw [Uf,WQ,Uf,WQ];exact h
 have f2:qg d c b a=true:=yr f1
 have f3:qg c d a b=true:=yr h
 refine⟨f1,?_,xQ (K7 h) (K7 f3)⟩
 rw [xQ (K7 f2) (K7 f1),NB (K7 h) (K7 f2)]
def jbr (E:List Leg) (p:Pn) :Prop:=∃e∈E,∃f∈E,qg (lA e) (lB e) (lA f) (lB f) =true∧p=Hg (lA e) (lB e) (lA f) (lB f)
theorem jgB {E:List Leg} {p:Pn} :∀i,i≤E.length→p∈yf E i→(∃e∈E,p=lA e∨p=lB e)∨jbr E p
 | 0,_,h=>by simp [yf] at h
 | i+1,hi,h=>by
  have mi:∀k,k<E.length→lg E k∈E:=fun k hk=>by rw [Zo hk];exact jju _
  have hcz:∀k,k≤i→p∈cz E i k→jbr E p:=fun k=>by
   induction k with
   | zero=>intro _ h;simp [cz] at h
   | succ k ih=>
    intro hk h
    rw [cz] at h
    rcases jjz.1 h with h | h
    ·exact ih Om h
    ·split at h
     ·rename_i h2
      exact⟨_,mi i Om,_,mi k Om,IP h2,by simpa using h⟩
     ·cases h
  simp only [yf,jjz,jjw,jj8,or_false] at h
  rcases h with(h | h) | h
  ·exact jgB i Om h
  ·exact .inl ⟨_,mi i Om,h⟩
  ·exact .inr (hcz i (jjm _) h)
theorem T7 (a b:Pn) :qg a b a b≠true:=fun h=>by
 obtain ⟨h1,_⟩ :=K8.1 h
 have z:tn a b a=0:=by unfold tn Q0;grind
 rw [z] at h1
 omega
theorem jcE :p∈yf E E.length↔(∃e∈E,p=lA e∨p=lB e)∨jbr E p:=by
 refine⟨jgB _ (jjm _),?_⟩
 rintro(⟨e,he,h⟩ |⟨e,he,f,hf,hs,rfl⟩)
 ·obtain ⟨i,hi,rfl⟩ :=Yc he
  have:=XY E.length (jjm _) i hi
  rcases h with rfl | rfl
  ·exact this.1
  ·exact this.2
 ·obtain ⟨i,hi,rfl⟩ :=Yc he
  obtain ⟨k,hk,rfl⟩ :=Yc hf
  rcases Nat.lt_trichotomy i k with h | h | h
  ·rw [←(T6 hs).2.2]
   exact OE (Ot (yc (yr hs)) k h) _ hk
  ·rw [h] at hs
   exact absurd hs (T7 _ _)
  ·exact OE (Ot (yc hs) i h) _ hi
theorem X4 (es:List Leg) :jeE (Ko es) :=by
 have ha:Xy (Qe false es []) :=Wq List.Pairwise.nil
 rw [Ko]
 exact List.pairwise_map.2 ha
theorem Zl {es:List Leg} {q:Leg} :q∈Ko es↔∃e∈es,q=Q3 e:=by
 rw [Ko,jjx]
 rw [show(∃a∈Qe false es [],a.e=q)↔_ from Ws]
 simp
theorem xI (E1 E2:List Leg) (how:Int) :vH E1 E2 how=KK (Ko (E1++E2)) E1 E2 how:=by
 unfold vH xG KK
 rw [jj3]
theorem jal (a b c d:Pn) : (Qk b a c d).length= (Qk a b c d).length:=by
 refine List.Perm.length_eq ((jlc (WH _ _ _ _) (WH _ _ _ _)).2 fun q=> ?_)
 rw [qL,qL]
 unfold kd
 rw [MO a b]
 constructor
 ·rintro⟨h,k⟩
  exact⟨or_left_comm.1 h,k⟩
 ·rintro⟨h,k⟩
  exact⟨or_left_comm.1 h,k⟩
theorem NP (a b c d:Pn) : (Qk a b d c).length= (Qk a b c d).length:=by
 refine List.Perm.length_eq ((jlc (WH _ _ _ _) (WH _ _ _ _)).2 fun q=> ?_)
 rw [qL,qL]
 unfold kd
 rw [MO c d]
 have e:∀A B C D:Prop,(A∨B∨C∨D)→(A∨B∨D∨C) :=fun A B C D h=>h.imp id fun h=>h.imp id Or.symm
 constructor
 ·rintro⟨h,k⟩
  exact⟨e _ _ _ _ h,k⟩
 ·rintro⟨h,k⟩
  exact⟨e _ _ _ _ h,k⟩
theorem FA (a b c d:Pn) :VG b a c d=VG a b c d:=by
 have e1:KU b a c d=KU a b c d:=by unfold KU;rw [jk2 b.1,jk3 b.1,jk2 b.2,jk3 b.2]
 have e2:Qd b a c d=Qd a b c d:=by unfold Qd;rw [jal,Uf]
 have e3: (decide (b≠c) &&decide (b≠d) &&decide (a≠c) &&decide (a≠d)) = (decide (a≠c) &&decide (a≠d) &&decide (b≠c) &&decide (b≠d)) :=by
  cases decide (b≠c) <;>cases decide (b≠d) <;>cases decide (a≠c) <;>cases decide (a≠d) <;>rfl
 have e4:decide ((b=c∧a=d)∨(b=d∧a=c)) =decide ((a=c∧b=d)∨(a=d∧b=c)) :=decide_eq_decide.2 ⟨fun h=>h.elim (fun h=> .inr ⟨h.2,h.1⟩) fun h=> .inl ⟨h.2,h.1⟩,fun h=>h.elim (fun h=> .inr ⟨h.2,h.1⟩) fun h=> .inl ⟨h.2,h.1⟩⟩
 unfold VG
 rw [e1,e2,e3,e4]
theorem Bp (a b c d:Pn) :VG a b d c=VG a b c d:=by
 have e1:KU a b d c=KU a b c d:=by unfold KU;rw [jk2 d.1,jk3 d.1,jk2 d.2,jk3 d.2]
 have e0:qg a b d c=qg a b c d:=by rw [←WQ,Uf,WQ]
 have e2:Qd a b d c=Qd a b c d:=by unfold Qd;rw [NP,e0]
 have e3: (decide (a≠d) &&decide (a≠c) &&decide (b≠d) &&decide (b≠c)) = (decide (a≠c) &&decide (a≠d) &&decide (b≠c) &&decide (b≠d)) :=by
  cases decide (b≠c) <;>cases decide (b≠d) <;>cases decide (a≠c) <;>cases decide (a≠d) <;>rfl
 have e4:decide ((a=d∧b=c)∨(a=c∧b=d)) =decide ((a=c∧b=d)∨(a=d∧b=c)) :=decide_eq_decide.2 or_comm
 unfold VG
 rw [e1,e2,e3,e4]
theorem jaL (hP:XA E) (h:∀e∈F,∃e0∈E,e=e0∨e=ku e0) :XA F:=by
 intro e he f hf
 obtain ⟨e0,he0,ke⟩ :=h e he
 obtain ⟨f0,hf0,kf⟩ :=h f hf
 have h0:=hP e0 he0 f0 hf0
 rcases ke with rfl | rfl<;>rcases kf with rfl | rfl
 ·exact h0
 ·show VG (lA e) (lB e) (lB f0) (lA f0) =true
  rw [Bp];exact h0
 ·show VG (lB e0) (lA e0) (lA f) (lB f) =true
  rw [FA];exact h0
 ·show VG (lB e0) (lA e0) (lB f0) (lA f0) =true
  rw [FA,Bp];exact h0
theorem jdi (hP:XA E) :NoX E:=fun e he f hf hs=>by
 have h:=hP e he f hf
 have m:=yc hs
 have hap:¬KU (lA e) (lB e) (lA f) (lB f) =true:=fun k=>by rw [YC k] at m;cases m
 unfold VG at h
 rw [if_neg hap,if_pos m] at h
 cases h
theorem CJ {hot:List Pn} (hnd:hot.Nodup) :∀n {rs:List jO},bareG hot rs→bareG hot (RE hot n rs)
 | 0,_,h=>h
 | n+1,_,h=>CJ hnd n (h.snap hnd)
theorem jbk {hot2:List Pn} (hnd:hot2.Nodup) (hsub:∀p∈hot2,p∈hot) (hb2:bareG hot2 ss) (hw:∀e∈jt ss,∀x∈qC (lA e) (lB e) hot,x=lA e∨x=lB e) :qq hot2 ss=ss:=by
 have one:∀r∈ss,kv hot2 r=r:=fun r hr=>by
  obtain ⟨br,bm⟩ :=hb2 r hr
  rw [WP br]
  have hp:∀d∈kN r,qX hot2 d= [d.1] :=fun d hd=>by
   have he:Nn d∈jt ss:=uU.2 ⟨r,hr,by rw [QC br];exact jjx.2 ⟨d,hd,rfl⟩⟩
   have hwd:=hw _ he
   obtain ⟨o1,o2,o3⟩ :=U8 br bm d hd
   obtain ⟨mid,hm⟩ :=Z3 o1 o2 o3
   have hn:=uL (a:=d.1) (b:=d.2) hnd
   rw [hm] at hn
   have hmid:mid= [] :=by
    cases hmm:mid with
    | nil=>rfl
    | cons x l=>
     exfalso
     rw [hmm] at hm hn
     have hx:x∈qC d.1 d.2 hot2:=by rw [hm];simp
     obtain ⟨x1,x2⟩ :=kU.1 hx
     have hx3:x∈qC d.1 d.2 hot:=kU.2 ⟨hsub x x1,x2⟩
     have hx4:x=d.1∨x=d.2:=hwd x hx3
     simp only [jjN,jkJ,jjw,jjz,jj8,or_false,not_or] at hn
     rcases hx4 with e | e
     ·exact hn.1.1 e.symm
     ·exact hn.2.1.2 e
   unfold qX
   rw [hm,hmid]
   rfl
  have: (kN r).flatMap (qX hot2) = (kN r).map (·.1) :=by
   have key:∀l:List (Pn×Pn),(∀d∈l,qX hot2 d= [d.1])→l.flatMap (qX hot2) =l.map (·.1) :=fun l=>by
    induction l with
    | nil=>intro _;rfl
    | cons d l ih=>intro h;rw [jjH,h d (by simp),ih (fun e he=>h e (jjs _ he))];rfl
   exact key _ hp
  rw [this,vX]
 unfold qq
 exact(List.map_congr_left one).trans (by simp)
theorem CmOk.keys (h:CmOk rs ss) (ha:wD rs ss=true) (hb:WV rs ss=true) :
  Keys (Ko (jt (V4 rs ss) ++jt (VP rs ss))) (jt (V4 rs ss))∧Keys (Ko (jt (V4 rs ss) ++jt (VP rs ss))) (jt (VP rs ss)) :=by
 have hT:=h.two ha hb
 have hP:=h.pair ha hb
 obtain ⟨r1,_⟩ :=ZK h.hot1 ha
 obtain ⟨r2,_⟩ :=ZK h.hot2 hb
 exact⟨CL (xV _) (fun q=>Zl) hT.ne hP (fun e he=>jka _ he) (y8 r1).close,
  CL (xV _) (fun q=>Zl) hT.ne hP (fun e he=>jkw _ he) (y8 r2).close⟩
theorem CmOk.way (h:CmOk rs ss) (ha:wD rs ss=true) (hb:WV rs ss=true) {e:Leg} (he:e∈jt (V4 rs ss) ++jt (VP rs ss)) :
  lA e∈Wl rs ss∧lB e∈Wl rs ss∧qC (lA e) (lB e) (Wl rs ss) = [lA e,lB e] :=by
 have one:∀ {qs:List jO},HotOk (Wl rs ss) qs→zL (Wl rs ss) qs=true→e∈jt (LS (Wl rs ss) qs)→lA e∈Wl rs ss∧lB e∈Wl rs ss∧qC (lA e) (lB e) (Wl rs ss) = [lA e,lB e] :=fun {qs} hk ho he=>by
  obtain ⟨_,f,n,i⟩ :=ZK hk ho
  have hbg:bareG (Wl rs ss) (LS (Wl rs ss) qs) :=by rw [i];exact CJ hk.nd n hk.bare
  obtain ⟨a1,a2,_,a4⟩ :=Le hbg f he
  exact⟨a1,a2,a4⟩
 rcases jjz.1 he with he | he
 ·exact one h.hot1 ha he
 ·exact one h.hot2 hb he
theorem Rb {α:Type} {f:α→Int} :∀ {l:List α},(∀x∈l,0≤f x)→sm f l=0→∀x∈l,f x=0
 | [],_,_,x,hx=>by cases hx
 | a::l,h,hs,x,hx=>by
  have h1:=h a (jjJ ..)
  have h2:=Rd (l:=l) (f:=f) fun y hy=>h y (jjs _ hy)
  simp only [sm] at hs
  rcases jjw.1 hx with rfl | hx
  ·omega
  ·exact Rb (fun y hy=>h y (jjs _ hy)) Om x hx
theorem jdv {B:List Leg} (hne:∀l∈B,lA l≠lB l) (hc:∀v,sm (fun l=>UN v (lA l) - UN v (lB l)) B=0) (hr:Jp (vw (KJ B)) =true) :∀r∈vw (KJ B),bare r:=by
 have s:sm (Ol fun a b=>if a=b then 1 else 0) (vw (KJ B)) =0:=by
  rw [C5]
  refine(FW (fun a b=>if a=b then 1 else 0) hc).trans ?_
  exact(J0 fun l hl=>if_neg (hne l hl)).trans (uf B)
 have nn:∀r:List Pn,∀j∈List.range r.length,0≤(fun j=> (if pt r j=pt r (nx r j) then(1:Int) else 0)) j:=fun r j _=>by
  simp only
  split<;>decide
 have z:=Rb (fun r _=>by rw [Ha];exact Rd (nn r)) s
 intro r h
 refine⟨jdS hr r h,fun j hj e=> ?_⟩
 have zr:=z r h
 rw [Ha] at zr
 have:=Rb (nn r) zr j (jko.2 hj)
 simp only [if_pos e] at this
 cases this
structure OvT (rs ss:List jO) (how:Int) (T:List jO) :Prop where
 fit:UY T [] =true
 r:RB T [] 1=T
 c:Co T [] 1=0
 isn:jip T=true
 wind:∀p,ve p (jt T) =ix (Qg (ve p (jt (V4 rs ss))) (ve p (jt (VP rs ss))) how)
 area:0≤sm (fun l=>Dn (lA l) (lB l)) (jt T)
 perm: (jt T).Perm (Qp rs ss how)
 src:∀e∈jt T,∃e0∈jt (V4 rs ss) ++jt (VP rs ss),e=e0∨e=ku e0
theorem ji6 (h:CmOk rs ss) (ha:wD rs ss=true) (hb:WV rs ss=true) (hT:Jp (vw (vJ rs ss how)) =true) :OvT rs ss how (vw (vJ rs ss how)) :=by
 obtain ⟨T,eT⟩ :∃T,T=vw (vJ rs ss how) :=⟨_,rfl⟩
 rw [←eT] at hT⊢
 have eT':T=vw (KJ (Qp rs ss how)) :=eT
 have hTw:=h.two ha hb
 obtain ⟨k1,k2⟩ :=h.keys ha hb
 have hB:Qp rs ss how=KK (Ko (jt (V4 rs ss) ++jt (VP rs ss))) (jt (V4 rs ss)) (jt (VP rs ss)) how:=xI _ _ _
 have hc:∀v,sm (fun l=>UN v (lA l) - UN v (lB l)) (Qp rs ss how) =0:=fun v=>by rw [hB];exact xH k1 k2 v
 have hm:∀l∈Qp rs ss how,∃e∈jt (V4 rs ss) ++jt (VP rs ss),(l=e∨l=ku e) :=fun l hl=>MC hTw hl
 have hne:∀l∈Qp rs ss how,lA l≠lB l:=fun l hl=>by
  obtain ⟨e,he,k⟩ :=hm l hl
  have:=hTw.ne e he
  rcases k with rfl | rfl
  ·exact this
  ·exact fun z=>this z.symm
 have perm: (jt T).Perm (Qp rs ss how) :=by rw [eT'];exact jdw hne hc
 have src:∀e∈jt T,∃e0∈jt (V4 rs ss) ++jt (VP rs ss),e=e0∨e=ku e0:=fun e he=>hm e (perm.mem_iff.1 he)
 have hPT:XA (jt T) :=jaL (h.pair ha hb) src
 have hnx:=jdi hPT
 have hbare:∀r∈T,bare r:=by rw [eT'];exact jdv hne hc (by rw [←eT'];exact hT)
 have hid:=E5 hbare
 have e0:jt ([] :List jO) = [] :=rfl
 have hT2:CmOk T [] :=⟨hT,rfl,by rw [e0,jjL];exact YY hT⟩
 have hot2:=hT2.hot1
 rw [hid] at hot2
 have hsub:∀p∈Wl T [],p∈Wl rs ss:=fun p hp=>by
  unfold Wl D1 at hp
  rw [e0,jjL] at hp
  obtain ⟨k,hk,e⟩ :=CD hnx _ (jjm _) ((Vp _ _).1 hp)
  have hmem:lg (jt T) k∈jt T:=by rw [Zo hk];exact jju _
  obtain ⟨x,hx,kx⟩ :=src _ hmem
  obtain ⟨a1,a2,_⟩ :=h.way ha hb hx
  rcases kx with kx | kx<;>rw [kx] at e<;>rcases e with e | e<;>rw [e]
  ·exact a1
  ·exact a2
  ·exact a2
  ·exact a1
 have hway:∀e∈jt T,∀x∈qC (lA e) (lB e) (Wl rs ss),x=lA e∨x=lB e:=fun e he x hx=>by
  obtain ⟨e1,he1,k⟩ :=src e he
  obtain ⟨_,_,w⟩ :=h.way ha hb he1
  rcases k with rfl | rfl
  ·rw [w] at hx
   simpa using hx
  ·have hx':x∈qC (lB e1) (lA e1) (Wl rs ss) :=hx
   rw [TH h.hot1.nd,w] at hx'
   have:x=lB e1∨x=lA e1:=by simpa using hx'
   exact this
 have fix2:qq (Wl T []) T=T:=jbk hot2.nd hsub hot2.bare hway
 have st2:yN (Wl T []) (JO T) =some (T,0) :=by
  rw [hid]
  show v6 (Wl T []) (401+1) T 0=_
  unfold v6
  rw [fix2,if_neg (by rw [hT];decide),if_pos rfl]
 have a1:V4 T [] =T:= (wJ st2).1
 have o1:wD T [] =true:= (wJ st2).2.2
 have m2:yN (Wl T []) (JO []) =some ([],0) :=by
  have e0:∀f,v6 (Wl T []) (f+1) [] 0=some ([],0) :=fun f=>rfl
  exact e0 401
 have a2:VP T [] = [] := (wJ m2).1
 have o2:WV T [] =true:= (wJ m2).2.2
 have hfit:UY T [] =true:=by
  unfold UY
  rw [o1,o2,decide_eq_true hT2.len]
  rfl
 have hbrd:Qp T [] 1=Qp rs ss how:=by
  have e1:Qp T [] 1=vH (jt T) [] 1:=by unfold Qp;rw [a1,a2];rfl
  rw [e1,xI,jjL,hB]
  refine jac k1 k2 ?_ fun p=>by rw [←hB];exact jdf perm p
  refine zP (X4 _) ((X4 _).filter _) fun q=> ?_
  rw [Zl,jkc]
  constructor
  ·rintro⟨e,he,rfl⟩
   have he':=perm.mem_iff.1 he
   rw [hB] at he'
   obtain ⟨p,hp,hl⟩ :=jbT he'
   obtain ⟨n1,n2,_,_⟩ :=Gh (k1.ord p hp)
   have hn:Q3 e=p:=by rcases BA hl with k | k<;>rw [k] <;>assumption
   rw [hn]
   refine⟨hp,?_⟩
   cases hs:zK p (Qg (kZ (jt (V4 rs ss)) p).left (kZ (jt (VP rs ss)) p).left how) (Qg (kZ (jt (V4 rs ss)) p).right (kZ (jt (VP rs ss)) p).right how) with
   | nil=>rw [hs] at hl;cases hl
   | cons x l=>rfl
  ·rintro⟨hq,hs⟩
   cases hs2:zK q (Qg (kZ (jt (V4 rs ss)) q).left (kZ (jt (VP rs ss)) q).left how) (Qg (kZ (jt (V4 rs ss)) q).right (kZ (jt (VP rs ss)) q).right how) with
   | nil=>rw [hs2] at hs;cases hs
   | cons x l=>
    have hx:x∈zK q (Qg (kZ (jt (V4 rs ss)) q).left (kZ (jt (VP rs ss)) q).left how) (Qg (kZ (jt (V4 rs ss)) q).right (kZ (jt (VP rs ss)) q).right how) :=by rw [hs2];exact jjJ ..
    obtain ⟨n1,n2,_,_⟩ :=Gh (k1.ord q hq)
    refine⟨x,perm.mem_iff.2 (by rw [hB];exact jkO.2 ⟨q,hq,hx⟩),?_⟩
    rcases BA hx with k | k<;>rw [k]
    ·exact n1.symm
    ·exact n2.symm
 have hcm:vw (vJ T [] 1) =T:=by
  have e1:vJ T [] 1=KJ (Qp rs ss how) :=by unfold vJ;rw [hbrd]
  rw [e1,←eT']
 refine⟨hfit,?_,?_,?_,fun p=> ?_,?_,perm,src⟩
 ·unfold RB
  rw [if_pos hfit,hcm]
  exact if_pos hT
 ·unfold Co
  rw [if_pos hfit,hcm]
  exact if_pos hT
 ·have hlok:=GB hT
  have hne':=M8 T T.length
  rw [jip,hT,jjG]
  exact(TV fun i hi' k hk'=>by
   have m1:lg (jt T) i∈jt T:=by rw [Zo hi'];exact jju _
   have m2:lg (jt T) k∈jt T:=by rw [Zo (show k< (jt T).length by omega)];exact jju _
   rw [←jaS (hlok _ m1) (hlok _ m2) (hne' _ m1) (hne' _ m2)]
   exact hPT _ m1 _ m2).symm
 ·have e1:ve p (jt T) =ve p (Qp rs ss how) :=VU _ perm
  rw [e1,hB]
  exact jbV k1 k2 p
 ·rw [VU _ perm,hB]
  refine jbS k1 k2 (M:=262144) fun p hp=> ?_
  obtain ⟨kp,_⟩ :=ZY hTw.ok hTw.ne hp
  have:=kp.ok
  unfold qM at this
  omega
theorem Cq (h:E.Perm F) (hp:jbr E p) :jbr F p:=by
 obtain ⟨e,he,f,hf,k⟩ :=hp
 exact⟨e,h.mem_iff.1 he,f,h.mem_iff.1 hf,k⟩
theorem jcC (h:E.Perm F) :OD E=OD F:=by
 unfold OD
 refine F7 (WD _) (WD _) fun p=> ?_
 rw [Vp,Vp,jcE,jcE]
 constructor
 ·rintro(⟨e,he,k⟩ | k)
  ·exact .inl ⟨e,h.mem_iff.1 he,k⟩
  ·exact .inr (Cq h k)
 ·rintro(⟨e,he,k⟩ | k)
  ·exact .inl ⟨e,h.mem_iff.2 he,k⟩
  ·exact .inr (Cq h.symm k)
theorem Pd (h:E.Perm F) :Ko E=Ko F:=by
 refine zP (X4 _) (X4 _) fun q=> ?_
 rw [Zl,Zl]
 constructor
 ·rintro⟨e,he,k⟩;exact⟨e,h.mem_iff.1 he,k⟩
 ·rintro⟨e,he,k⟩;exact⟨e,h.mem_iff.2 he,k⟩
theorem jb8 (rs ss:List jO) :Wl ss rs=Wl rs ss:=by
 unfold Wl D1
 exact jcC List.perm_append_comm
theorem je0 (rs ss:List jO) :V4 ss rs=VP rs ss∧VP ss rs=V4 rs ss∧wD ss rs=WV rs ss∧WV ss rs=wD rs ss:=by
 unfold V4 VP wD WV
 rw [jb8 rs ss]
 exact⟨rfl,rfl,rfl,rfl⟩
theorem XL {K:List Leg} (G:Leg→Int) (hG:∀p,G (ku p) = -G p) :sm G (KK K E F how) =sm (fun p=>cB E F how p*G p) K:=by
 unfold KK
 rw [Z7]
 refine J0 fun p _=> ?_
 rw [GL p _ _ _ (hG p)]
 rfl
theorem X0 (a b:Int) :ix (Qg a b 1) =ix (Qg a b 2) +ix (Qg a b 3) +ix (Qg b a 3)∧ix (Qg a b 4) =ix (Qg a b 3) +ix (Qg b a 3) :=by
 unfold Qg
 cases(a==0) <;>cases(b==0) <;>exact⟨rfl,rfl⟩
def F6 (l:Leg) :Int:=Dn (lA l) (lB l)
theorem XC (l:Leg) :F6 (ku l) = -F6 l:=by
 show Dn (lB l) (lA l) = -Dn (lA l) (lB l)
 unfold Dn
 grind
theorem jbF :sm F6 (Qp rs ss 1) =sm F6 (Qp rs ss 2) +sm F6 (Qp rs ss 3) +sm F6 (Qp ss rs 3)∧sm F6 (Qp rs ss 4) =sm F6 (Qp rs ss 3) +sm F6 (Qp ss rs 3) :=by
 obtain ⟨c1,c2,_,_⟩ :=je0 rs ss
 have hk:Ko (jt (VP rs ss) ++jt (V4 rs ss)) =Ko (jt (V4 rs ss) ++jt (VP rs ss)) :=Pd List.perm_append_comm
 unfold Qp
 rw [c1,c2,xI,xI,xI,xI,xI,hk,XL F6 XC,XL F6 XC,XL F6 XC,XL F6 XC,XL F6 XC]
 rw [←yL,←yL,←yL]
 constructor
 ·refine J0 fun p _=> ?_
  have i1:= (X0 (kZ (jt (V4 rs ss)) p).left (kZ (jt (VP rs ss)) p).left).1
  have i2:= (X0 (kZ (jt (V4 rs ss)) p).right (kZ (jt (VP rs ss)) p).right).1
  have e:cB (jt (V4 rs ss)) (jt (VP rs ss)) 1 p=cB (jt (V4 rs ss)) (jt (VP rs ss)) 2 p+cB (jt (V4 rs ss)) (jt (VP rs ss)) 3 p+cB (jt (VP rs ss)) (jt (V4 rs ss)) 3 p:=by
   unfold cB
   omega
  rw [e,jlf,jlf]
 ·refine J0 fun p _=> ?_
  have i1:= (X0 (kZ (jt (V4 rs ss)) p).left (kZ (jt (VP rs ss)) p).left).2
  have i2:= (X0 (kZ (jt (V4 rs ss)) p).right (kZ (jt (VP rs ss)) p).right).2
  have e:cB (jt (V4 rs ss)) (jt (VP rs ss)) 4 p=cB (jt (V4 rs ss)) (jt (VP rs ss)) 3 p+cB (jt (VP rs ss)) (jt (V4 rs ss)) 3 p:=by
   unfold cB
   omega
  rw [e,jlf]
theorem Lc {hot:List Pn} :∀(f:Nat) {rs ss:List jO} {r q:Nat},v6 hot f rs r=some (ss,q)→r≤q
 | 0,_,_,_,_,h=>by cases h
 | f+1,rs,ss,r,q,h=>by
  rw [v6] at h
  split at h
  ·cases h
  ·split at h
   ·injection h with h
    injection h with h2 h3
    omega
   ·have:=Lc f h
    omega
theorem Ei (h:Jp (rs++ss) =true) :Jp rs=true∧Jp ss=true:=by
 unfold Jp at h⊢
 rw [Vk] at h
 simp only [jjl,decide_eq_true_eq,jjk,List.all_append] at h⊢
 obtain ⟨⟨h1,h2,h3⟩,h4⟩ :=h
 exact⟨⟨⟨by omega,h2⟩,by omega⟩,⟨by omega,h3⟩,by omega⟩
theorem Cd {α:Type} {a b c d:List α} (h:a++b=c++d) (hl:a.length=c.length) :a=c∧b=d:=List.append_inj h hl
theorem T0 {hot:List Pn} :∀(f:Nat) {A B S:List jO} {r q:Nat},v6 hot f (A++B) r=some (S,q)→∃SA qa,v6 hot f A r=some (SA,qa)∧qa≤q
 | 0,_,_,_,_,_,h=>by cases h
 | f+1,A,B,S,r,q,h=>by
  have hlow:=Lc _ h
  rw [v6] at h
  have es:qq hot (A++B) =qq hot A++qq hot B:=jjQ
  rw [es] at h
  by_cases c1:Jp (qq hot A++qq hot B) =false
  ·rw [if_pos c1] at h;cases h
  ·rw [if_neg c1] at h
   have hr:= (Ei (by simpa using c1)).1
   unfold v6
   rw [if_neg (by rw [hr];decide)]
   by_cases c2:qq hot A=A
   ·rw [if_pos c2]
    exact⟨A,r,rfl,hlow⟩
   ·rw [if_neg c2]
    have c3:¬qq hot A++qq hot B=A++B:=fun k=>c2 (Cd k (by unfold qq;rw [jjB])).1
    rw [if_neg c3] at h
    exact T0 f h
theorem FQ {hot:List Pn} :∀(f:Nat) {A B S:List jO} {r q:Nat},v6 hot f (A++B) r=some (S,q)→∃SB qb,v6 hot f B r=some (SB,qb)∧qb≤q
 | 0,_,_,_,_,_,h=>by cases h
 | f+1,A,B,S,r,q,h=>by
  have hlow:=Lc _ h
  rw [v6] at h
  have es:qq hot (A++B) =qq hot A++qq hot B:=jjQ
  rw [es] at h
  by_cases c1:Jp (qq hot A++qq hot B) =false
  ·rw [if_pos c1] at h;cases h
  ·rw [if_neg c1] at h
   have hr:= (Ei (by simpa using c1)).2
   unfold v6
   rw [if_neg (by rw [hr];decide)]
   by_cases c2:qq hot B=B
   ·rw [if_pos c2]
    exact⟨B,r,rfl,hlow⟩
   ·rw [if_neg c2]
    have c3:¬qq hot A++qq hot B=A++B:=fun k=>c2 (Cd k (by unfold qq;rw [jjB])).2
    rw [if_neg c3] at h
    exact FQ f h
theorem Oz {a b:Pn} {j k:Int} (hjk:j≤k) (h:xT p k a b) :xT p j a b:=by
 obtain ⟨α,β,h1,h2⟩ :=h
 have:=jjn hjk (show 0≤(α.natAbs:Int) +β.natAbs by omega)
 exact⟨α,β,by omega,by omega⟩
theorem Nv (rs ss:List jO) :JO (rs++ss) =JO rs++JO ss:=by
 rw [G6,G6,G6,jjQ,jkN]
theorem jcQ {S:List jO} (h:CmOk rs ss) (hst:yN (Wl rs ss) (JO (rs++ss)) =some (S,q)) :
  wD rs ss=true∧WV rs ss=true∧((∀e∈jt rs++jt ss,xT p q (lA e) (lB e))→
   ve p (jt (V4 rs ss)) =ve p (jt rs)∧ve p (jt (VP rs ss)) =ve p (jt ss)∧∀e∈jt (V4 rs ss) ++jt (VP rs ss),xT p 0 (lA e) (lB e)) :=by
 rw [Nv] at hst
 obtain ⟨SA,qa,sa,la⟩ :=T0 402 hst
 obtain ⟨SB,qb,sb,lb⟩ :=FQ 402 hst
 have us:∀(h:List Pn) (l:List jO),v6 h 402 l 0=yN h l:=fun _ _=>rfl
 have ta:yN (Wl rs ss) (JO rs) =some (SA,qa) :=sa
 have tb:yN (Wl rs ss) (JO ss) =some (SB,qb) :=sb
 have ea:V4 rs ss=SA:= (wJ ta).1
 have eb:VP rs ss=SB:= (wJ tb).1
 refine⟨(wJ ta).2.2,(wJ tb).2.2,fun hf=> ?_⟩
 have w1:= (Ld (p:=p) h.hot1.nd 402 sa h.hot1.bare).2 (by
  rw [kz h.r1]
  exact fun e he=>Oz Om (hf e (jka _ he)))
 have w2:= (Ld (p:=p) h.hot2.nd 402 sb h.hot2.bare).2 (by
  rw [kz h.r2]
  exact fun e he=>Oz Om (hf e (jkw _ he)))
 rw [kz h.r1] at w1
 rw [kz h.r2] at w2
 rw [ea,eb]
 exact⟨w1.1,w2.1,fun e he=> (jjz.1 he).elim (w1.2 e) (w2.2 e)⟩
theorem NR {T S:List jO} (h:CmOk rs ss) (hst:yN (Wl rs ss) (JO (rs++ss)) =some (S,q)) (hT:OvT rs ss how T) (hf:∀e∈jt rs++jt ss,xT p q (lA e) (lB e)) :
  ve p (jt T) =ix (Qg (ve p (jt rs)) (ve p (jt ss)) how)∧(∀e∈jt T,WW (lA e) (lB e) p=false)∧∀e∈jt rs++jt ss,WW (lA e) (lB e) p=false:=by
 obtain ⟨_,_,k⟩ :=jcQ (p:=p) h hst
 obtain ⟨w1,w2,w3⟩ :=k hf
 refine⟨by rw [hT.wind p,w1,w2],fun e he=> ?_,fun e he=>jcs (Oz Om (hf e he))⟩
 obtain ⟨e0,he0,ke⟩ :=hT.src e he
 have h0:=jcs (w3 e0 he0)
 rcases ke with rfl | rfl
 ·exact h0
 ·show WW (lB e0) (lA e0) p=false
  rw [MO];exact h0
theorem jgf (hj:Jp (rs++ss) =true) :Mx (rs++ss) =Wl rs ss:=by
 unfold Mx
 rw [kz hj,Vk]
 rfl
theorem jbp (E:List Leg) (p:Pn) :wind false E p.1 p.2=ve p E:=by
 rw [wind,Ln _ _ _ _ _ (jjm _),jj3]
 rfl
theorem OV:∀E:List Leg,KZ E=sm F6 E
 | [] =>rfl
 | e::E=>by
  have:=OV E
  have e1:U3 e=F6 e:=by
   unfold U3 F6 Dn lA lB
   grind
  simp only [KZ,sm,this,e1]
end Go.Proofs.YtbahojdbmmjkcaaGreat
