import Derived.Test.YtpncbbcmoiiipaaGreatMOwn
import Derived.Test.YtpncbbcmoiiipaaGreatMTrI
import Derived.Test.YtpncbbcmoiiipaaGreatMBrd2
import Derived.Test.YtpncbbcmoiiipaaGreatMSnapG
import Derived.Test.YtpncbbcmoiiipaaGreatMThin
import Derived.Test.YtpncbbcmoiiipaaGreatMTopo4
import Derived.Test.YtpncbbcmoiiipaaGreatMNetT
set_option linter.unusedVariables false
set_option linter.unusedSimpArgs false
namespace Go.Proofs.YtpncbbcmoiiipaaGreat
open Go Go.RowKit
def GL (rs:List jV) :List jV:=if JE rs=true then rs else []
def LM (rs:List jV) :Int:=if JE rs=true then 0 else 5
theorem T7 (rs:List jV) :smallR (GL rs) :=by
 unfold GL
 split
 ·exact smallR.of (by assumption)
 ·exact smallR.nil
theorem jbS {E:List Leg} (hE:∀l∈E,qN l) (hl:E.length≤400) {ss:List jV} (hr:JE ss=true) (hb:∀r∈ss,bare r) (hs:∀l∈jE ss,l∈E) :HotOk (Nb E) ss:=by
 have hends:∀l∈E,lA l∈Nb E:=fun l hl=>by
  obtain ⟨k,hk,e⟩ :=ji0 hl
  have:= (M0 (E:=E) _ (jih _) k hk).1
  rw [xx hk,e] at this
  exact(Wi _ _).2 this
 refine⟨hr,fun p hp=>yh (PM hE _ (jih _) p ((Wi _ _).1 hp)),UO _,Eg (UO _),?_,fun r h=>⟨hb r h,fun p hp=> ?_⟩⟩
 ·have h1:=xI (U0 E E.length)
  have h2:=Zz E E.length
  have h3:E.length* (E.length+2)≤400*402:=Nat.mul_le_mul hl Om
  unfold Nb
  omega
 ·have hbr:=hb r h
  have hp2:p∈(J0 r).map lA:=by
   rw [kz hbr,jj1]
   have e2: (KK r).map (lA∘mkL) = (KK r).map (·.1) :=rfl
   rw [e2,Wu]
   exact hp
  obtain ⟨l,hl,rfl⟩ :=jip.1 hp2
  exact hends l (hs l (Yw.2 ⟨r,h,hl⟩))
structure CmOk (rs ss:List jV) :Prop where
 r1:JE rs=true
 r2:JE ss=true
 len: (jE rs++jE ss).length≤400
def Dn (rs ss:List jV) :List Leg:=jE rs++jE ss
def wQ (rs ss:List jV) :List Pn:=Nb (Dn rs ss)
def uh (rs ss:List jV) :List jV:=IK (wQ rs ss) (J8 rs)
def Wn (rs ss:List jV) :List jV:=IK (wQ rs ss) (J8 ss)
def VA (rs ss:List jV) :Bool:=L6 (wQ rs ss) (J8 rs)
def WO (rs ss:List jV) :Bool:=L6 (wQ rs ss) (J8 ss)
def QG (rs ss:List jV) (how:Int) :List Leg:=vn (jE (uh rs ss)) (jE (Wn rs ss)) how
def vo (rs ss:List jV) (how:Int) :List jV:=KG (QG rs ss how)
section
variable {rs ss:List jV}
theorem CmOk.legs (h:CmOk rs ss) :∀l∈Dn rs ss,qN l:=fun l hl=> (jiv.1 hl).elim (OP h.r1 l) (OP h.r2 l)
theorem CmOk.hot1 (h:CmOk rs ss) :HotOk (wQ rs ss) (J8 rs) :=jbS h.legs h.len (Yj h.r1) (zx h.r1) fun l hl=>jjc _ (by rwa [vp h.r1] at hl)
theorem CmOk.hot2 (h:CmOk rs ss) :HotOk (wQ rs ss) (J8 ss) :=jbS h.legs h.len (Yj h.r2) (zx h.r2) fun l hl=>jjH _ (by rwa [vp h.r2] at hl)
theorem Zl {hot:List Pn} {rs:List jV} (hk:HotOk hot rs) (h:L6 hot rs=true) :JE (IK hot rs) =true∧qR hot (IK hot rs) =IK hot rs∧∃n,IK hot rs=I2 hot n rs:=by
 cases hs:zn hot rs with
 | none=>rw [(IL hs).2.2] at h;cases h
 | some x=>
  obtain ⟨s,r⟩ :=x
  rw [(wW hs).1]
  exact⟨jdw hk.nd hk.reg hk.bare hs,CW _ hs⟩
theorem CmOk.pair (h:CmOk rs ss) (ha:VA rs ss=true) (hb:WO rs ss=true) :x6 (jE (uh rs ss) ++jE (Wn rs ss)) :=by
 have k1:=h.hot1
 have k2:=h.hot2
 obtain ⟨_,f1,n1,i1⟩ :=Zl k1 ha
 obtain ⟨_,f2,n2,i2⟩ :=Zl k2 hb
 have e1:I2 (wQ rs ss) (n1+n2) (J8 rs) =uh rs ss:=by rw [FR,←i1,Fq9 f1];rfl
 have e2:I2 (wQ rs ss) (n1+n2) (J8 ss) =Wn rs ss:=by rw [Nat.add_comm,FR,←i2,Fq9 f2];rfl
 have e:I2 (wQ rs ss) (n1+n2) (J8 rs++J8 ss) =uh rs ss++Wn rs ss:=by rw [PR,e1,e2]
 have hb0:bareG (wQ rs ss) (J8 rs++J8 ss) :=fun r hr=> (jiv.1 hr).elim (k1.bare r) (k2.bare r)
 have he0:jE (J8 rs++J8 ss) =Dn rs ss:=by rw [Um,vp h.r1,vp h.r2];rfl
 have hi:=PS k1.nd (n1+n2) _ hb0 (by rw [he0];exact EH fun p hp=> (Wi _ _).2 hp)
 rw [e] at hi
 have hfix:qR (wQ rs ss) (uh rs ss++Wn rs ss) =uh rs ss++Wn rs ss:=by
  unfold qR at*
  rw [jiO]
  have a: (uh rs ss).map (kU (wQ rs ss)) =uh rs ss:=f1
  have b: (Wn rs ss).map (kU (wQ rs ss)) =Wn rs ss:=f2
  rw [a,b]
 have hx:=Sb k1.nd hi.1 hi.2
 rw [hfix] at hx
 intro x hx1 y hy1
 rw [←Um] at hx1 hy1
 exact jaC hi.1 hfix hx (fun p hp=>Yy (k1.ok p hp)) hx1 hy1
theorem CmOk.two (h:CmOk rs ss) (ha:VA rs ss=true) (hb:WO rs ss=true) :TwoE (jE (uh rs ss)) (jE (Wn rs ss)) :=by
 obtain ⟨r1,_⟩ :=Zl h.hot1 ha
 obtain ⟨r2,_⟩ :=Zl h.hot2 hb
 have g1:=yJ r1
 have g2:=yJ r2
 exact⟨g1.ok,g2.ok,g1.ne,g2.ne,xK r1,xK r2⟩
theorem CmOk.okT (h:CmOk rs ss) (ha:VA rs ss=true) (hb:WO rs ss=true) (how:Int) :okRs (vo rs ss how) :=by
 have hB:BoOk (QG rs ss how) :=xg (h.two ha hb)
 have hl:=hB.len
 obtain ⟨h1,h2⟩ :=y7 (B:=QG rs ss how) _ (jih _)
 refine⟨by unfold vo KG;omega,fun r hr=> ?_⟩
 obtain ⟨g1,g2,g3⟩ :=h2 r hr
 refine⟨g1,by omega,fun p hp=> ?_⟩
 obtain ⟨j,hj,rfl⟩ :=g3 p hp
 exact(VG (QS hB.ok hj)).wide
end
def HY (how:Int) :Bool:=decide (1≤how) &&decide (how≤4)
def xh (rs ss:List jV) :Bool:=JE rs&&JE ss
def VE (rs ss:List jV) :Bool:=decide ((jE rs++jE ss).length≤400) && (VA rs ss&&WO rs ss)
def LJ (rs ss:List jV) (how:Int) :List jV:=if VE rs ss=true then GL (KX (vo rs ss how)) else []
def FE (rs ss:List jV) (how:Int) :Int:=if VE rs ss=true then LM (KX (vo rs ss how)) else 5
def uU (rs ss:List jV) (how:Int) :List jV:=if xh rs ss=true then(if HY how=true then LJ rs ss how else []) else []
def Gz (rs ss:List jV) (how:Int) :Int:=if xh rs ss=true then(if HY how=true then FE rs ss how else 2) else 1
theorem Ev (rs ss:List jV) (how:Int) :smallR (LJ rs ss how) :=by
 unfold LJ
 split
 ·exact T7 _
 ·exact smallR.nil
theorem Et (rs ss:List jV) (how:Int) :smallR (uU rs ss how) :=by
 unfold uU
 split
 ·split
  ·exact Ev ..
  ·exact smallR.nil
 ·exact smallR.nil
theorem E8 {E F:List Leg} (hE:∀l∈E,lA l≠lB l) (hF:∀l∈F,lA l≠lB l) (h:∀G:Pn→Pn→Int,(∀a,G a a=0)→sm (fun l=>G (lA l) (lB l)) E=sm (fun l=>G (lA l) (lB l)) F) :E.Perm F:=by
 refine List.perm_iff_count.2 fun e=> ?_
 by_cases he:lA e=lB e
 ·have z:∀L:List Leg,(∀l∈L,lA l≠lB l)→L.count e=0:=fun L hL=>List.count_eq_zero.2 fun h=>hL e h he
  rw [z E hE,z F hF]
 ·have h':=h (fun a b=>if a=lA e∧b=lB e then 1 else 0) (fun a=>by
   show(if a=lA e∧a=lB e then(1:Int) else 0) =0
   rw [if_neg fun k=>he (k.1.symm.trans k.2)])
  have e1:∀L:List Leg,sm (fun l=>if lA l=lA e∧lB l=lB e then(1:Int) else 0) L=sm (fun x=>if x=e then 1 else 0) L:=fun L=>JW fun x _=>by
   by_cases k:x=e
   ·rw [if_pos k,if_pos (by rw [k];exact⟨rfl,rfl⟩)]
   ·rw [if_neg k,if_neg fun c=>k (U3 c.1 c.2)]
  have h2:sm (fun l=>if lA l=lA e∧lB l=lB e then(1:Int) else 0) E=sm (fun l=>if lA l=lA e∧lB l=lB e then(1:Int) else 0) F:=h'
  rw [e1,e1,Iy,Iy] at h2
  omega
theorem jbA (G:Pn→Pn→Int) :∀l:List Pn,cs G l.reverse=cs (fun a b=>G b a) l
 | [] =>rfl
 | [_] =>rfl
 | a::b::t=>by
  have ih:=jbA G (b::t)
  have e1: (a::b::t).reverse=t.reverse++b:: [a] :=by simp
  have e2: (b::t).reverse=t.reverse++ [b] :=by simp
  rw [e1,FG,←e2,ih]
  simp only [cs]
  omega
theorem jec (G:Pn→Pn→Int) (xs:List Pn) :Xf G xs.reverse=Xf (fun a b=>G b a) xs:=by
 cases xs with
 | nil=>rfl
 | cons x u=>
  have e1:UV (x::u).reverse u.length=x::u.reverse:=by
   unfold UV
   have: (x::u).reverse=u.reverse++ [x] :=by simp
   rw [this]
   have hl:u.reverse.length=u.length:=List.length_reverse
   rw [←hl,List.drop_left,List.take_left]
   rfl
  rw [←PA G _ u.length,e1]
  unfold Xf
  have e2:x::u.reverse++ [pt (x::u.reverse) 0] = ((x::u) ++ [pt (x::u) 0]).reverse:=by
   have p1:pt (x::u.reverse) 0=x:=rfl
   have p2:pt (x::u) 0=x:=rfl
   rw [p1,p2]
   simp
  rw [e2,jbA]
theorem jc6 (xs:List Pn) : (J0 xs.reverse).Perm ((J0 xs).map Qn) :=by
 refine E8 (uk _ _) (fun l hl=> ?_) fun G h0=> ?_
 ·obtain ⟨e,he,rfl⟩ :=jip.1 hl
  exact fun k=>uk xs xs.length e he k.symm
 ·rw [GK G h0,jec,VZ,←GK (fun a b=>G b a) h0]
  rfl
theorem zS (xs:List Pn) : (Q3 xs).length= (J0 xs).length:=by
 show((J0 xs).map lA).length=_
 rw [jit]
theorem jeD {xs:List Pn} (h0:0<xs.length) : (Q3 xs.reverse).length= (Q3 xs).length∧(0< (Q3 xs).length→Rv (Q3 xs) (Q3 xs.reverse)) :=by
 have hp:=jc6 xs
 have hl: (Q3 xs.reverse).length= (Q3 xs).length:=by
  rw [zS,zS,hp.length_eq,jit]
 have h0':0<xs.reverse.length:=by rw [List.length_reverse];exact h0
 refine⟨hl,fun hk=> ?_⟩
 have hk':0< (Q3 xs.reverse).length:=by omega
 exact⟨ZA h0 hk,ZA h0' hk',by rw [xr h0' hk',xr h0 hk];exact hp⟩
theorem Tt:∀ {rs:List jV},(∀r∈rs,0<r.length)→Rv2 ((rs.map Q3).filter fun r=>decide (0<r.length)) (((rs.map List.reverse).map Q3).filter fun r=>decide (0<r.length))
 | [],_=>trivial
 | r::rs,h=>by
  have ih:=Tt (rs:=rs) fun x hx=>h x (jiq _ hx)
  obtain ⟨h1,h2⟩ :=jeD (h r (jiE ..))
  simp only [jiA,jj9]
  rw [h1]
  by_cases k:0< (Q3 r).length
  ·rw [if_pos (decide_eq_true k),if_pos (decide_eq_true k)]
   exact⟨h2 k,ih⟩
  ·rw [if_neg (by simpa using k),if_neg (by simpa using k)]
   exact ih
theorem Di (rs:List jV) :J8 rs= (rs.map Q3).filter fun r=>decide (0<r.length) :=by
 unfold J8 vf
 rw [jiX]
theorem Tg {rs:List jV} (hr:JE rs=true) :∀r∈rs,0<r.length:=fun r h=>by
 obtain ⟨i,hi,e⟩ :=ji0 h
 have:=Qf (Km hr hi)
 rw [Wa hi] at e
 rw [←e]
 omega
theorem jd2 {rs:List jV} (hr:JE rs=true) :Rv2 (J8 rs) (J8 (rs.map List.reverse)) :=by
 rw [Di,Di]
 exact Tt (Tg hr)
theorem Lt {a b c d:Pn} (h:qf a b c d=true) :qf b a d c=true∧GH b a d c=GH a b c d∧GH c d a b=GH a b c d:=by
 have f1:qf b a d c=true:=by rw [uN,Wx,uN,Wx];exact h
 have f2:qf d c b a=true:=yc f1
 have f3:qf c d a b=true:=yc h
 refine⟨f1,?_,xp (K3 h) (K3 f3)⟩
 rw [xp (K3 f2) (K3 f1),TS (K3 h) (K3 f2)]
def jaK (E:List Leg) (p:Pn) :Prop:=∃e∈E,∃f∈E,qf (lA e) (lB e) (lA f) (lB f) =true∧p=GH (lA e) (lB e) (lA f) (lB f)
theorem jfN {E:List Leg} {p:Pn} :∀i,i≤E.length→p∈U0 E i→(∃e∈E,p=lA e∨p=lB e)∨jaK E p
 | 0,_,h=>by simp [U0] at h
 | i+1,hi,h=>by
  have mi:∀k,k<E.length→lg E k∈E:=fun k hk=>by rw [xx hk];exact jis _
  have hcz:∀k,k≤i→p∈cz E i k→jaK E p:=fun k=>by
   induction k with
   | zero=>intro _ h;simp [cz] at h
   | succ k ih=>
    intro hk h
    rw [cz] at h
    rcases jiv.1 h with h | h
    ·exact ih Om h
    ·split at h
     ·rename_i h2
      exact⟨_,mi i Om,_,mi k Om,Ia h2,by simpa using h⟩
     ·cases h
  simp only [U0,jiv,jir,ji3,or_false] at h
  rcases h with(h | h) | h
  ·exact jfN i Om h
  ·exact .inl ⟨_,mi i Om,h⟩
  ·exact .inr (hcz i (jih _) h)
theorem Tu (a b:Pn) :qf a b a b≠true:=fun h=>by
 obtain ⟨h1,_⟩ :=K4.1 h
 have z:tn a b a=0:=by unfold tn Q8;grind
 rw [z] at h1
 omega
theorem jbU {E:List Leg} {p:Pn} :p∈U0 E E.length↔(∃e∈E,p=lA e∨p=lB e)∨jaK E p:=by
 refine⟨jfN _ (jih _),?_⟩
 rintro(⟨e,he,h⟩ |⟨e,he,f,hf,hs,rfl⟩)
 ·obtain ⟨i,hi,rfl⟩ :=yN he
  have:=M0 E.length (jih _) i hi
  rcases h with rfl | rfl
  ·exact this.1
  ·exact this.2
 ·obtain ⟨i,hi,rfl⟩ :=yN he
  obtain ⟨k,hk,rfl⟩ :=yN hf
  rcases Nat.lt_trichotomy i k with h | h | h
  ·rw [←(Lt hs).2.2]
   exact MZ (MQ (US (yc hs)) k h) _ hk
  ·rw [h] at hs
   exact absurd hs (Tu _ _)
  ·exact MZ (MQ (US hs) i h) _ hi
theorem jbu {E F:List Leg} (h:F.Perm (E.map Qn)) {p:Pn} (hp:jaK F p) :jaK E p:=by
 obtain ⟨e,he,f,hf,hs,rfl⟩ :=hp
 obtain ⟨e0,he0,rfl⟩ :=jip.1 (h.mem_iff.1 he)
 obtain ⟨f0,hf0,rfl⟩ :=jip.1 (h.mem_iff.1 hf)
 have hs':=Lt hs
 exact⟨e0,he0,f0,hf0,hs'.1,hs'.2.1.symm⟩
theorem E7 {E F:List Leg} (h:F.Perm (E.map Qn)) :E.Perm (F.map Qn) :=by
 have:=h.map Qn
 rw [jj1] at this
 have e: (Qn∘Qn) = (id:Leg→Leg) :=by funext l;exact Ho l
 rw [e,List.map_id] at this
 exact this.symm
theorem PH {E F:List Leg} (h:F.Perm (E.map Qn)) {p:Pn} (hp:∃e∈F,p=lA e∨p=lB e) :∃e∈E,p=lA e∨p=lB e:=by
 obtain ⟨e,he,k⟩ :=hp
 obtain ⟨e0,he0,rfl⟩ :=jip.1 (h.mem_iff.1 he)
 exact⟨e0,he0,k.symm⟩
theorem jgu {E F:List Leg} (h:F.Perm (E.map Qn)) :Nb F=Nb E:=by
 unfold Nb
 refine Fv (UO _) (UO _) fun p=> ?_
 rw [Wi,Wi,jbU,jbU]
 have h':=E7 h
 exact⟨fun k=>k.elim (fun k=> .inl (PH h k)) fun k=> .inr (jbu h k),fun k=>k.elim (fun k=> .inl (PH h' k)) fun k=> .inr (jbu h' k)⟩
theorem Xv (es:List Leg) :jdR (KI es) :=by
 have ha:x5 (Qd false es []) :=wY List.Pairwise.nil
 rw [KI]
 exact List.pairwise_map.2 ha
theorem zT {es:List Leg} {q:Leg} :q∈KI es↔∃e∈es,q=Q5 e:=by
 rw [KI,jip]
 rw [show(∃a∈Qd false es [],a.e=q)↔_ from wZ]
 simp
theorem Fz (E1 E2:List Leg) (how:Int) :vn E1 E2 how=Kw (KI (E1++E2)) E1 E2 how:=by
 unfold vn xe Kw
 rw [jiX]
theorem ja8 {E1 E2 F1 F2:List Leg} {how:Int} (n1:∀e∈E1,lA e≠lB e) (n2:∀e∈E2,lA e≠lB e) (p1:F1.Perm (E1.map Qn)) (p2:F2.Perm (E2.map Qn)) :vn F1 F2 how=vn E1 E2 how:=by
 have hk:KI (F1++F2) =KI (E1++E2) :=by
  refine zv (Xv _) (Xv _) fun q=> ?_
  rw [zT,zT]
  have p: (F1++F2).Perm ((E1++E2).map Qn) :=by rw [jiO];exact p1.append p2
  have hn:∀e∈E1++E2,lA e≠lB e:=fun e he=> (jiv.1 he).elim (n1 e) (n2 e)
  constructor
  ·rintro⟨e,he,rfl⟩
   obtain ⟨e0,he0,rfl⟩ :=jip.1 (p.mem_iff.1 he)
   exact⟨e0,he0,U5 (hn e0 he0)⟩
  ·rintro⟨e0,he0,rfl⟩
   exact⟨Qn e0,p.mem_iff.2 (jip.2 ⟨e0,he0,rfl⟩),(U5 (hn e0 he0)).symm⟩
 rw [Fz,Fz,hk]
 exact jd7 n1 n2 p1 p2
theorem jg0 {rs:List jV} (hr:JE rs=true) (hr':JE (rs.map List.reverse) =true) (hl: (jE rs).length≤400) :
  LJ (rs.map List.reverse) [] 1=LJ rs [] 1∧FE (rs.map List.reverse) [] 1=FE rs [] 1:=by
 have hb:=jd2 hr
 have pE: (jE (rs.map List.reverse)).Perm ((jE rs).map Qn) :=by
  rw [←vp hr',←vp hr]
  exact hb.edges
 have eE:∀ss:List jV,Dn ss [] =jE ss:=fun ss=>jiG _
 have hH:wQ (rs.map List.reverse) [] =wQ rs [] :=by
  unfold wQ
  rw [eE,eE]
  exact jgu pE
 have hn: (jE rs++jE ([] :List jV)).length≤400:=by
  have:jE ([] :List jV) = [] :=rfl
  rw [this,jiG]
  exact hl
 have hcm:CmOk rs [] :=⟨hr,rfl,hn⟩
 have hot:=hcm.hot1
 have us:∀(h:List Pn) (l:List jV),WV h 402 l 0=zn h l:=fun _ _=>rfl
 obtain ⟨s1,s2⟩ :=CX hot.nd 402 0 hb hot.bare
 simp only [us] at s1 s2
 have eB:Wn (rs.map List.reverse) [] =Wn rs [] :=by unfold Wn;rw [hH]
 have eOB:WO (rs.map List.reverse) [] =WO rs [] :=by unfold WO;rw [hH]
 have eLen: (jE (rs.map List.reverse)).length= (jE rs).length:=by rw [pE.length_eq,jit]
 cases hst:zn (wQ rs []) (J8 rs) with
 | none=>
  have hst':zn (wQ rs []) (J8 (rs.map List.reverse)) =none:=s2 hst
  have o1:VA rs [] =false:=by unfold VA L6;rw [hst];rfl
  have o2:VA (rs.map List.reverse) [] =false:=by unfold VA L6;rw [hH,hst'];rfl
  have f1:VE rs [] =false:=by unfold VE;rw [o1,jiC,ji9]
  have f2:VE (rs.map List.reverse) [] =false:=by unfold VE;rw [o2,jiC,ji9]
  unfold LJ FE
  rw [f1,f2]
  constructor
  ·rw [if_neg Dc,if_neg Dc]
  ·rw [if_neg Dc,if_neg Dc]
 | some x=>
  obtain ⟨A,q⟩ :=x
  obtain ⟨A',hst',hA⟩ :=s1 A q hst
  have hst':zn (wQ rs []) (J8 (rs.map List.reverse)) =some (A',q) :=hst'
  have a1:uh rs [] =A:= (wW hst).1
  have a2:uh (rs.map List.reverse) [] =A':=by unfold uh;rw [hH];exact(wW hst').1
  have o1:VA rs [] =true:= (wW hst).2.2
  have o2:VA (rs.map List.reverse) [] =true:=by unfold VA;rw [hH];exact(wW hst').2.2
  have hf:VE (rs.map List.reverse) [] =VE rs [] :=by
   unfold VE
   rw [o1,o2,eOB,jif,jif,eLen]
  have hB0:jE (Wn rs []) = [] :=by
   have m1:J8 ([] :List jV) = [] :=rfl
   have m2:zn (wQ rs []) [] =some ([],0) :=by
    have e0:∀f,WV (wQ rs []) (f+1) [] 0=some ([],0) :=fun f=>rfl
    exact e0 401
   have:Wn rs [] = [] :=by unfold Wn;rw [m1];exact(wW m2).1
   rw [this]
   rfl
  have hbrd:QG (rs.map List.reverse) [] 1=QG rs [] 1:=by
   unfold QG
   rw [a1,a2,eB,hB0]
   exact ja8 (zt A A.length) (fun e he=>by cases he) hA.edges (List.Perm.refl _)
  unfold LJ FE vo
  rw [hf,hbrd]
  exact⟨rfl,rfl⟩
end Go.Proofs.YtpncbbcmoiiipaaGreat
