import Derived.Test.YtkagkgjjfdkoaaaGreatMPathR
import Derived.Test.YtkagkgjjfdkoaaaGreatMSnapped
import Derived.Test.YtkagkgjjfdkoaaaGreatMReg3
import Derived.Test.YtkagkgjjfdkoaaaGreatMRegBounds
import Derived.Test.YtkagkgjjfdkoaaaGreatMLawKit
set_option linter.unusedVariables false
set_option linter.unusedSimpArgs false
namespace Go.Proofs.YtkagkgjjfdkoaaaGreat
open Go Go.RowKit
set_option maxRecDepth 100000
set_option maxHeartbeats 4000000
def lowOk (s:Sp) (u v:Int) :Prop:=s.ln*v<u*s.ld∨(s.ln*v=u*s.ld∧s.lc=true)
def highOk (s:Sp) (u v:Int) :Prop:=u*s.hd<s.hn*v∨(u*s.hd=s.hn*v∧s.hc=true)
def YK (s:Sp) (u v:Int) :Prop:=lowOk s u v∧highOk s u v
theorem lowOk.le {s:Sp} {u v:Int} (h:lowOk s u v) :s.ln*v≤u*s.ld:=by rcases h with h |⟨h,_⟩ <;>omega
theorem highOk.le {s:Sp} {u v:Int} (h:highOk s u v) :u*s.hd≤s.hn*v:=by rcases h with h |⟨h,_⟩ <;>omega
theorem Eu {s x:Sp} {u v:Int} (hs:0<s.ld) (hx:0<x.ld) (hv:0<v) :lowOk (qE s x) u v↔lowOk s u v∧lowOk x u v:=by
 unfold qE
 split
 ·rename_i h
  have e:lowOk {s with ln:=x.ln,ld:=x.ld,lc:=x.lc} u v=lowOk x u v:=rfl
  rw [e]
  refine⟨fun hx'=>⟨?_,hx'⟩,fun h=>h.2⟩
  simp only [um,jfs,jeF,decide_eq_true_eq,jfq] at h
  rcases h with h |⟨h,ho⟩
  ·exact .inl (Vx hx hs hv (by omega) hx'.le)
  ·rcases hx' with h' |⟨_,h'⟩
   ·exact .inl (K5 hx hs hv (by omega) h')
   ·rw [ho] at h';cases h'
 ·rename_i h
  refine⟨fun h'=>⟨h',?_⟩,fun h=>h.1⟩
  simp only [um,jfs,jeF,decide_eq_true_eq,jfq,not_or,not_and,Bool.not_eq_false] at h
  obtain ⟨g1,g2⟩ :=h
  rcases h' with h' |⟨h',hc⟩
  ·exact .inl (K5 hs hx hv (by omega) h')
  ·by_cases g:x.ln*s.ld<s.ln*x.ld
   ·exact .inl (Vx hs hx hv g (by omega))
   ·have l1:=vT (a:=x.ln) (b:=x.ld) (c:=s.ln) (d:=s.ld) (e:=u) (f:=v) hs hx hv (by omega) (by omega)
    have l2:=vT (a:=u) (b:=v) (c:=s.ln) (d:=s.ld) (e:=x.ln) (f:=x.ld) hs hv hx (by omega) (by omega)
    exact .inr ⟨by omega,g2 (by omega)⟩
theorem N0 {s x:Sp} {u v:Int} (hs:0<s.hd) (hx:0<x.hd) (hv:0<v) :highOk (QS s x) u v↔highOk s u v∧highOk x u v:=by
 unfold QS
 split
 ·rename_i h
  have e:highOk {s with hn:=x.hn,hd:=x.hd,hc:=x.hc} u v=highOk x u v:=rfl
  rw [e]
  refine⟨fun hx'=>⟨?_,hx'⟩,fun h=>h.2⟩
  simp only [wE,jfs,jeF,decide_eq_true_eq,jfq] at h
  rcases h with h |⟨h,ho⟩
  ·exact .inl (K5 hx hv hs hx'.le (by omega))
  ·rcases hx' with h' |⟨_,h'⟩
   ·exact .inl (Vx hx hv hs h' (by omega))
   ·rw [ho] at h';cases h'
 ·rename_i h
  refine⟨fun h'=>⟨h',?_⟩,fun h=>h.1⟩
  simp only [wE,jfs,jeF,decide_eq_true_eq,jfq,not_or,not_and,Bool.not_eq_false] at h
  obtain ⟨g1,g2⟩ :=h
  rcases h' with h' |⟨h',hc⟩
  ·exact .inl (Vx hs hv hx h' (by omega))
  ·by_cases g:s.hn*x.hd<x.hn*s.hd
   ·exact .inl (K5 hs hv hx (by omega) g)
   ·have l1:=vT (a:=u) (b:=v) (c:=s.hn) (d:=s.hd) (e:=x.hn) (f:=x.hd) hs hv hx (by omega) (by omega)
    have l2:=vT (a:=x.hn) (b:=x.hd) (c:=s.hn) (d:=s.hd) (e:=u) (f:=v) hs hx hv (by omega) (by omega)
    exact .inr ⟨by omega,g2 (by omega)⟩
theorem jdj {s x:Sp} {u v:Int} :lowOk (QS s x) u v↔lowOk s u v:=by unfold QS;split<;>exact Iff.rfl
theorem jbv {s x:Sp} {u v:Int} :highOk (qE s x) u v↔highOk s u v:=by unfold qE;split<;>exact Iff.rfl
theorem UN {s x:Sp} {u v:Int} (hs:0<s.ld∧0<s.hd) (hx:0<x.ld∧0<x.hd) (hv:0<v) :YK (JT s x) u v↔YK s u v∧YK x u v:=by
 unfold YK JT
 rw [jdj,Eu hs.1 hx.1 hv,N0 (YJ hs hx).2 hx.2 hv,jbv]
 constructor
 ·rintro⟨⟨h1,h2⟩,h3,h4⟩;exact⟨⟨h1,h3⟩,h2,h4⟩
 ·rintro⟨⟨h1,h3⟩,h2,h4⟩;exact⟨⟨h1,h2⟩,h3,h4⟩
theorem DG {u v:Int} :YK Wq u v↔0≤u∧u≤v:=by
 unfold YK lowOk highOk Wq
 simp only [jfO,jf9,Int.one_mul,and_true]
 omega
def zL (f d lo u v:Int) :Prop:=lo*v≤f*v+u*d∧f*v+u*d< (lo+2) *v
theorem Uh {f d lo u v:Int} (hv:0<v) (h0:0≤u) (h1:u≤v) : (Kj f d lo=true∧YK (QE f d lo) u v)↔zL f d lo u v:=by
 have e1: (lo+2) *v=lo*v+2*v:=Int.add_mul ..
 by_cases hd:0<d
 ·have hp:Kj f d lo=true:=by unfold Kj;rw [decide_eq_false (by omega)];rfl
  have e2: (lo- f) *v=lo*v- f*v:=Int.sub_mul ..
  have e3: (lo+2- f) *v=lo*v+2*v- f*v:=by rw [Int.sub_mul,Int.add_mul]
  rw [hp]
  unfold QE
  rw [if_pos hd]
  unfold YK lowOk highOk zL
  simp only [true_and,and_true,jfC,and_false,or_false]
  rw [e1,e2,e3]
  omega
 ·by_cases hn:d<0
  ·have hp:Kj f d lo=true:=by unfold Kj;rw [decide_eq_false (by omega)];rfl
   have e2: (f- lo) *v=f*v- lo*v:=Int.sub_mul ..
   have e3: (f- lo- 2) *v=f*v- lo*v- 2*v:=by rw [Int.sub_mul,Int.sub_mul]
   have e4:u* (-d) = -(u*d) :=Int.mul_neg ..
   rw [hp]
   unfold QE
   rw [if_neg hd,if_pos hn]
   unfold YK lowOk highOk zL
   simp only [true_and,and_true,jfC,and_false,or_false]
   rw [e1,e2,e3,e4]
   omega
  ·obtain rfl:d=0:=by omega
   rw [VE,DG]
   unfold Kj zL
   rw [Int.mul_zero,Int.add_zero]
   simp only [decide_true,Bool.not_true,Bool.false_or,jeF,decide_eq_true_eq]
   constructor
   ·rintro⟨⟨g1,g2⟩,_⟩
    exact⟨jeH g1 (by omega),jfh g2 hv⟩
   ·rintro⟨g1,g2⟩
    exact⟨⟨jfk g1 hv,jfv g2 (by omega)⟩,h0,h1⟩
theorem HU {s:Sp} (hs:0<s.ld∧0<s.hd) (h:va s=true) :∃u v,0<v∧YK s u v:=by
 simp only [va,jfs,jeF,decide_eq_true_eq] at h
 rcases h with h |⟨⟨h,h1⟩,h2⟩
 ·have p:=jfw hs.1 hs.2
  refine⟨s.ln*s.hd+s.hn*s.ld,2* (s.ld*s.hd),by omega, .inl ?_, .inl ?_⟩
  ·have:=jfh (show s.ln*s.hd<s.hn*s.ld by omega) hs.1
   have e1:s.ln* (2* (s.ld*s.hd)) =2* (s.ln*s.hd*s.ld) :=by grind
   have e2: (s.ln*s.hd+s.hn*s.ld) *s.ld=s.ln*s.hd*s.ld+s.hn*s.ld*s.ld:=Int.add_mul ..
   rw [e1,e2]
   omega
  ·have:=jfh (show s.ln*s.hd<s.hn*s.ld by omega) hs.2
   have e1:s.hn* (2* (s.ld*s.hd)) =2* (s.hn*s.ld*s.hd) :=by grind
   have e2: (s.ln*s.hd+s.hn*s.ld) *s.hd=s.ln*s.hd*s.hd+s.hn*s.ld*s.hd:=Int.add_mul ..
   rw [e1,e2]
   omega
 ·exact⟨s.ln,s.ld,hs.1, .inr ⟨rfl,h1⟩, .inr ⟨by omega,h2⟩⟩
theorem EC {s:Sp} {u v:Int} (hs:0<s.ld∧0<s.hd) (hv:0<v) (h:YK s u v) :va s=true:=by
 simp only [va,jfs,jeF,decide_eq_true_eq]
 obtain ⟨h1,h2⟩ :=h
 by_cases g1:s.ln*v<u*s.ld
 ·have:=Vx (a:=s.ln) (b:=s.ld) (c:=u) (d:=v) (e:=s.hn) (f:=s.hd) hv hs.1 hs.2 g1 h2.le
  exact .inl (by omega)
 ·by_cases g2:u*s.hd<s.hn*v
  ·have:=K5 (a:=s.ln) (b:=s.ld) (c:=u) (d:=v) (e:=s.hn) (f:=s.hd) hv hs.1 hs.2 h1.le g2
   exact .inl (by omega)
  ·have l1:=vT (a:=s.ln) (b:=s.ld) (c:=u) (d:=v) (e:=s.hn) (f:=s.hd) hv hs.1 hs.2 h1.le h2.le
   have k1:=h1.resolve_left g1
   have k2:=h2.resolve_left g2
   have l2:=vT (a:=s.hn) (b:=s.hd) (c:=u) (d:=v) (e:=s.ln) (f:=s.ld) hv hs.2 hs.1 (by omega) (by omega)
   exact .inr ⟨⟨by omega,k1.2⟩,k2.2⟩
def wO (a b p:Pn) (u v:Int) :Prop:=zL (2*a.1) (2* (b.1- a.1)) (2*p.1- 1) u v∧zL (2*a.2) (2* (b.2- a.2)) (2*p.2- 1) u v
theorem Vl {a b p:Pn} {u v:Int} (hv:0<v) (h:WX a b p=true) :YK (JU a b p) u v↔(0≤u∧u≤v)∧wO a b p u v:=by
 unfold WX xm at h
 simp only [jeF] at h
 unfold JU wO
 rw [UN (Kw uu (kG _ _ _)) (kG _ _ _) hv,UN uu (kG _ _ _) hv,DG]
 constructor
 ·rintro⟨⟨⟨h0,h1⟩,h2⟩,h3⟩
  exact⟨⟨h0,h1⟩,(Uh hv h0 h1).1 ⟨h.1.1,h2⟩,(Uh hv h0 h1).1 ⟨h.1.2,h3⟩⟩
 ·rintro⟨⟨h0,h1⟩,h2,h3⟩
  exact⟨⟨⟨h0,h1⟩,((Uh hv h0 h1).2 h2).2⟩,((Uh hv h0 h1).2 h3).2⟩
theorem Dp {a b p:Pn} {u v:Int} (hv:0<v) (h0:0≤u) (h1:u≤v) (h:wO a b p u v) :WX a b p=true:=by
 have hx:= (Uh hv h0 h1).2 h.1
 have hy:= (Uh hv h0 h1).2 h.2
 have hm:YK (JU a b p) u v:=by
  unfold JU
  rw [UN (Kw uu (kG _ _ _)) (kG _ _ _) hv,UN uu (kG _ _ _) hv,DG]
  exact⟨⟨⟨h0,h1⟩,hx.2⟩,hy.2⟩
 have:=EC (Vk a b p) hv hm
 unfold WX xm
 rw [hx.1,hy.1]
 exact this
theorem UI {a b p q:Pn} {u v:Int} (hv:0<v) (h:wO a b p u v) (h':wO a b q u v) :p=q:=by
 have key:∀ {f d m n:Int},zL f d (2*m- 1) u v→zL f d (2*n- 1) u v→¬m<n:=by
  intro f d m n g g' hmn
  have:=jeH (show 2*m- 1+2≤2*n- 1 by omega) (show 0≤v by omega)
  have g2:=g.2
  have g1':=g'.1
  omega
 have x1:=key h.1 h'.1
 have x2:=key h'.1 h.1
 have y1:=key h.2 h'.2
 have y2:=key h'.2 h.2
 exact Prod.ext (by omega) (by omega)
theorem R6 (a b:Pn) :wO a b a 0 1:=by
 unfold wO zL
 simp only [jf9,jfO,Int.add_zero]
 omega
theorem Ec (a b:Pn) :wO a b b 1 1:=by
 unfold wO zL
 simp only [jf9,Int.one_mul]
 omega
theorem Eh (a b:Pn) :WX a b a=true:=Dp (by decide) (by decide) (by decide) (R6 a b)
theorem Ei (a b:Pn) :WX a b b=true:=Dp (by decide) (by decide) (by decide) (Ec a b)
theorem Mz {s x:Sp} :Y3 s x=true↔s.ln*x.ld<x.ln*s.ld∨(s.ln*x.ld=x.ln*s.ld∧s.lc=true∧x.lc=false) :=by
 simp only [Y3,jfs,jeF,decide_eq_true_eq,jfq]
 constructor
 ·rintro(h |⟨⟨h1,h2⟩,h3⟩)
  ·exact .inl (by omega)
  ·exact .inr ⟨by omega,h2,h3⟩
 ·rintro(h |⟨h1,h2,h3⟩)
  ·exact .inl (by omega)
  ·exact .inr ⟨⟨by omega,h2⟩,h3⟩
theorem IL {s x:Sp} (hs:0<s.ld) (hx:0<x.ld) (h:0≤s.ln) :0≤(JT s x).ln:=by
 have e: (JT s x).ln= (qE s x).ln:=by unfold JT QS;split<;>rfl
 rw [e]
 unfold qE
 split
 ·rename_i h'
  simp only [um,jfs,jeF,decide_eq_true_eq,jfq] at h'
  have h1:s.ln*x.ld≤x.ln*s.ld:=by rcases h' with h' |⟨h',_⟩ <;>omega
  have h2:0≤s.ln*x.ld:=jfl h (by omega)
  show 0≤x.ln
  refine jfx.1 fun hn=> ?_
  have:=jfS hn hs
  omega
 ·exact h
theorem Br (a b p:Pn) :0≤(JU a b p).ln:=
 IL (Kw uu (kG _ _ _)).1 (kG _ _ _).1 (IL uu.1 (kG _ _ _).1 (by decide))
theorem SF {a b p:Pn} (hi:WX a b p=true) (hne:p≠a) :VX a b a p=true:=by
 have ha:=Eh a b
 have ma:YK (JU a b a) 0 1:= (Vl (by decide) ha).2 ⟨⟨by decide,by decide⟩,R6 a b⟩
 have ua:=Br a b a
 have up:=Br a b p
 have pa:=Vk a b a
 have pp:=Vk a b p
 have l0: (JU a b a).ln=0∧(JU a b a).lc=true:=by
  have:=ma.1
  unfold lowOk at this
  simp only [jf9,jfO] at this
  rcases this with h |⟨h,hc⟩
  ·omega
  ·exact⟨h,hc⟩
 unfold VX
 rw [Mz,l0.1,l0.2,jfO]
 by_cases h:0< (JU a b p).ln
 ·exact .inl (jfw h pa.1)
 ·have e: (JU a b p).ln=0:=by omega
  rw [e,jfO]
  refine .inr ⟨J,J,?_⟩
  cases hc: (JU a b p).lc with
  | false=>rfl
  | true=>
   have hn:va (JU a b p) =true:=by unfold WX xm at hi;simp only [jeF] at hi;exact hi.2
   obtain ⟨u,v,hv,hm⟩ :=HU pp hn
   have h0:= (Vl hv hi).1 hm
   have hh:highOk (JU a b p) 0 1:=by
    have:=hm.2
    unfold highOk at this⊢
    simp only [jfO,jf9]
    have q1:0≤u* (JU a b p).hd:=jfl h0.1.1 (by omega)
    by_cases g:0< (JU a b p).hn
    ·exact .inl g
    ·have q2: (JU a b p).hn*v≤0:=Int.mul_nonpos_of_nonpos_of_nonneg (by omega) (by omega)
     rcases this with h' |⟨h',hc'⟩
     ·omega
     ·refine .inr ⟨?_,hc'⟩
      have: (JU a b p).hn*v=0:=by omega
      rcases Int.mul_eq_zero.1 this with h' | h'<;>omega
   have m0:YK (JU a b p) 0 1:=⟨.inr ⟨by rw [e];simp,hc⟩,hh⟩
   exact absurd (UI (by decide) ((Vl (by decide) hi).1 m0).2 (R6 a b)) hne
theorem PS {a b p:Pn} (hi:WX a b p=true) (hne:p≠b) :VX a b p b=true:=by
 have hb:=Ei a b
 have mb:YK (JU a b b) 1 1:= (Vl (by decide) hb).2 ⟨⟨by decide,by decide⟩,Ec a b⟩
 have pb:=Vk a b b
 have pp:=Vk a b p
 rcases Bool.eq_false_or_eq_true (VX a b p b) with h | h
 ·exact h
 ·exfalso
  have hns:¬((JU a b p).ln* (JU a b b).ld< (JU a b b).ln* (JU a b p).ld∨((JU a b p).ln* (JU a b b).ld= (JU a b b).ln* (JU a b p).ld∧(JU a b p).lc=true∧(JU a b b).lc=false)) :=fun h'=>by
   have:=Mz.2 h'
   unfold VX at h
   rw [h] at this
   cases this
  have hle: (JU a b b).ln* (JU a b p).ld≤(JU a b p).ln* (JU a b b).ld:=jfx.1 fun h'=>hns (.inl h')
  have hn:va (JU a b p) =true:=by unfold WX xm at hi;simp only [jeF] at hi;exact hi.2
  obtain ⟨u,v,hv,hm⟩ :=HU pp hn
  have h0:= (Vl hv hi).1 hm
  have hlow:lowOk (JU a b b) u v:=by
   by_cases g: (JU a b p).ln*v<u* (JU a b p).ld
   ·exact .inl (K5 pp.1 pb.1 hv hle g)
   ·obtain ⟨g1,g2⟩ :=hm.1.resolve_left g
    by_cases k: (JU a b b).ln* (JU a b p).ld< (JU a b p).ln* (JU a b b).ld
    ·exact .inl (Vx pp.1 pb.1 hv k (by omega))
    ·have l1:=vT (a:= (JU a b b).ln) (b:= (JU a b b).ld) (c:= (JU a b p).ln) (d:= (JU a b p).ld) (e:=u) (f:=v) pp.1 pb.1 hv (by omega) (by omega)
     have l2:=vT (a:=u) (b:=v) (c:= (JU a b p).ln) (d:= (JU a b p).ld) (e:= (JU a b b).ln) (f:= (JU a b b).ld) pp.1 hv pb.1 (by omega) (by omega)
     refine .inr ⟨by omega,?_⟩
     cases hc: (JU a b b).lc with
     | true=>rfl
     | false=>exact absurd (.inr ⟨by omega,g2,hc⟩) hns
  have hhigh:highOk (JU a b b) u v:=by
   have:=mb.2
   unfold highOk at this⊢
   simp only [Int.one_mul,jf9] at this
   have e:v* (JU a b b).hd= (JU a b b).hd*v:=jfn ..
   by_cases g:u<v
   ·have q:=jfh g pb.2
    have q2: (JU a b b).hd*v≤(JU a b b).hn*v:=jeH (by omega) (by omega)
    exact .inl (by omega)
   ·obtain rfl:u=v:=by have:=h0.1.2;omega
    rcases this with h' |⟨h',hc⟩
    ·have q2:=jfh h' hv
     exact .inl (by omega)
    ·exact .inr ⟨by rw [h',jfn],hc⟩
  exact hne (UI hv h0.2 ((Vl hv hb).1 ⟨hlow,hhigh⟩).2)
theorem jbU (a b:Pn) :KR a b a=true:=US (Z3 (by omega) (by omega)) (Yq (by omega) (by omega)) (Eh a b)
theorem jbV (a b:Pn) :KR a b b=true:=US (Z3 (by omega) (by omega)) (Yq (by omega) (by omega)) (Ei a b)
theorem X3 {a b p:Pn} (h:KR a b p=true) :WX a b p=true:=by unfold KR at h;simp only [jeF] at h;exact h.2
theorem wz {a b p:Pn} {hot:List Pn} :p∈Qj a b hot↔p∈hot∧KR a b p=true:=by
 rw [W0,Vp,zH,jgf]
theorem ZG {a b:Pn} {hot:List Pn} (h:hot.Nodup) : (Qj a b hot).Nodup:=by
 rw [W0]
 unfold Vp
 exact(MG (lt:=VX a b) (l:=hot.filter (KR a b))).nodup_iff.2 (h.sublist List.filter_sublist)
theorem X6 {a b:Pn} {hot:List Pn} (hne:a≠b) (ha:a∈hot) (hb:b∈hot) :∃mid,Qj a b hot=a:: (mid++ [b]) :=by
 have ma:a∈Qj a b hot:=wz.2 ⟨ha,jbU a b⟩
 have mb:b∈Qj a b hot:=wz.2 ⟨hb,jbV a b⟩
 have hi:∀p∈Qj a b hot,WX a b p=true:=fun p hp=>X3 (wz.1 hp).2
 have hs:uW (VX a b) (Qj a b hot) :=by rw [W0];exact MK a b hot
 revert ma mb hi hs
 generalize Qj a b hot=S
 intro ma mb hi hs
 cases S with
 | nil=>cases ma
 | cons x T=>
  obtain ⟨h1,h2⟩ :=jff.1 hs
  have hx:x=a:=Decidable.byContradiction fun hx=>by
   have hT:a∈T:= (je0.1 ma).resolve_left (fun e=>hx e.symm)
   have:=SF (hi x (jfd ..)) hx
   rw [h1 a hT] at this
   cases this
  subst hx
  have hbT:b∈T:= (je0.1 mb).resolve_left (fun e=>hne e.symm)
  rcases List.eq_nil_or_concat T with rfl |⟨mid,y,rfl⟩
  ·cases hbT
  ·rw [List.concat_eq_append] at*
   have hy:y=b:=Decidable.byContradiction fun hy=>by
    have hm:b∈mid:= (jeY.1 hbT).resolve_right (fun e=>hy (jeT.1 e).symm)
    have:=PS (hi y (je5 _ (jgd _ (jeT.2 rfl)))) hy
    rw [(jf4.1 h2).2.2 b hm y (jeT.2 rfl)] at this
    cases this
   exact⟨mid,by rw [hy]⟩
def mkL (e:Pn×Pn) :Leg:=⟨e.1.1,e.1.2,e.2.1,e.2.2⟩
def vL (xs:List Pn) :List (Pn×Pn) := (List.range xs.length).map fun j=> (pt xs j,pt xs (nx xs j))
def bare (xs:List Pn) :Prop:=0<xs.length∧∀j,j<xs.length→pt xs j≠pt xs (nx xs j)
def ku (hot:List Pn) (e:Pn×Pn) :List Pn:= (Qj e.1 e.2 hot).dropLast
def Km (hot xs:List Pn) :List Pn:= (J0 xs).flatMap fun l=>ku hot (lA l,lB l)
theorem Z8 {xs:List Pn} (h:bare xs) :∀k,k≤xs.length→qG xs k= ((List.range k).map fun j=> (pt xs j,pt xs (nx xs j))).map mkL
 | 0,_=>rfl
 | k+1,hk=>by
  have hne:=h.2 k (by omega)
  rw [Ke,if_neg (fun e=>hne (Prod.ext e.1 e.2)),Z8 h k (by omega),List.range_succ,jfa,jfa]
  rfl
theorem Vc {xs:List Pn} (h:bare xs) :J0 xs= (vL xs).map mkL:=Z8 h _ (jeD _)
theorem Y1 {hot xs:List Pn} (h:bare xs) :Km hot xs= (vL xs).flatMap (ku hot) :=by
 unfold Km
 rw [Vc h,List.flatMap_map]
 rfl
def Lk:List (Pn×Pn)→Pn→Prop
 | [],_=>True
 | [e],z=>e.2=z
 | e::f::l,z=>e.2=f.1∧Lk (f::l) z
theorem jcC:∀ {es:List (Pn×Pn)} {z:Pn},(∀i (h:i+1<es.length),(es[i]'(by omega)).2=es[i+1].1)→(∀h:0<es.length,(es[es.length- 1]'(by omega)).2=z)→Lk es z
 | [],_,_,_=>trivial
 | [e],z,_,h2=>h2 (by simp)
 | e::f::l,z,h1,h2=>⟨h1 0 (by simp),jcC (fun i h=>by have:=h1 (i+1) (by simpa using h);simpa using this) (fun h=>by have:=h2 (by simp);simpa using this)⟩
theorem WJ (xs:List Pn) : (vL xs).length=xs.length:=by simp [vL]
theorem I6 {xs:List Pn} :Lk (vL xs) (pt xs 0) :=by
 refine jcC (fun i h=> ?_) (fun h=> ?_)
 ·rw [WJ] at h
  simp only [vL,jfK,jgb]
  rw [show nx xs i=i+1 from jfY h]
 ·rw [WJ] at h
  simp only [vL,jfK,jgb,jeX,List.length_range]
  rw [show nx xs (xs.length- 1) =0 by unfold nx;rw [show xs.length- 1+1=xs.length by omega,Nat.mod_self]]
theorem Bp (xs:List Pn) : (vL xs).map (·.1) =xs:=by
 apply jfR
 ·simp [vL]
 ·intro i h1 h2
  simp only [vL,jfK,jgb]
  rw [Kl h2]
def Dis:List Pn→Prop
 | [] =>True
 | [_] =>True
 | p::q::l=>p≠q∧Dis (q::l)
theorem XK:∀ {l:List Pn},l.Nodup→Dis l
 | [],_=>trivial
 | [_],_=>trivial
 | p::q::l,h=>by
  obtain ⟨h1,h2⟩ :=List.nodup_cons.1 h
  exact⟨fun e=>h1 (e▸jfd ..),XK h2⟩
theorem F3:∀ {A:List Pn} {p:Pn} {B:List Pn},Dis (A++ [p])→Dis (p::B)→Dis (A++p::B)
 | [],_,_,_,h=>h
 | [a],p,B,h,h'=>⟨h.1,h'⟩
 | a::b::A,p,B,h,h'=>⟨h.1,F3 (A:=b::A) h.2 h'⟩
theorem CW:∀ {l:List Pn},Dis l→∀j,j+1<l.length→pt l j≠pt l (j+1)
 | [],_,j,h=>absurd h (by simp)
 | [_],_,j,h=>absurd h (by simp)
 | p::q::l,hd,0,_=>hd.1
 | p::q::l,hd,j+1,h=>by
  have:=CW hd.2 j (by simpa using h)
  simpa [pt,px,py] using this
theorem wB {hot:List Pn} {e:Pn×Pn} (h:e.1≠e.2∧e.1∈hot∧e.2∈hot) :∃mid,ku hot e=e.1::mid∧Qj e.1 e.2 hot=ku hot e++ [e.2] :=by
 obtain ⟨mid,hm⟩ :=X6 h.1 h.2.1 h.2.2
 refine⟨mid,?_,?_⟩
 ·unfold ku
  rw [hm,←jeG,List.dropLast_concat]
 ·unfold ku
  rw [hm,←jeG,List.dropLast_concat]
theorem Ie {hot:List Pn} (hnd:hot.Nodup) :∀ {es:List (Pn×Pn)} {e:Pn×Pn} {z:Pn},Lk (e::es) z→(∀d∈e::es,d.1≠d.2∧d.1∈hot∧d.2∈hot)→Dis ((e::es).flatMap (ku hot) ++ [z])∧∃rest,(e::es).flatMap (ku hot) =e.1::rest
 | [],e,z,hl,hm=>by
  obtain ⟨mid,h1,h2⟩ :=wB (hm e (jfd ..))
  have hz:e.2=z:=hl
  simp only [je4,List.flatMap_nil,je8]
  refine⟨?_,mid,h1⟩
  rw [←hz,←h2]
  exact XK (ZG hnd)
 | f::l,e,z,hl,hm=>by
  obtain ⟨mid,h1,h2⟩ :=wB (hm e (jfd ..))
  obtain ⟨k1,rest,k2⟩ :=Ie hnd (es:=l) (e:=f) (z:=z) hl.2 (fun d hd=>hm d (je5 _ hd))
  rw [je4]
  refine⟨?_,mid++ (f::l).flatMap (ku hot),by rw [h1];rfl⟩
  rw [jeN]
  rw [k2] at k1⊢
  refine F3 (B:=rest++ [z]) ?_ k1
  rw [←hl.1,←h2]
  exact XK (ZG hnd)
theorem XM {hot:List Pn} :∀ {es:List (Pn×Pn)},(∀d∈es,d.1≠d.2∧d.1∈hot∧d.2∈hot)→es.length≤(es.flatMap (ku hot)).length∧((es.flatMap (ku hot)).length=es.length→es.flatMap (ku hot) =es.map (·.1))
 | [],_=>⟨jeD _,fun _=>rfl⟩
 | e::l,h=>by
  obtain ⟨mid,h1,_⟩ :=wB (h e (jfd ..))
  obtain ⟨g1,g2⟩ :=XM (es:=l) fun d hd=>h d (je5 _ hd)
  rw [je4,h1,jeC,jeP,jeP]
  refine⟨by omega,fun hle=> ?_⟩
  obtain rfl:mid= [] :=je9 (by omega)
  rw [g2 (by simp only [je6] at hle;omega),jeZ]
  rfl
theorem x5 {hot xs:List Pn} (hb:bare xs) (hm:∀p∈xs,p∈hot) :∀d∈vL xs,d.1≠d.2∧d.1∈hot∧d.2∈hot:=fun d hd=>by
 obtain ⟨j,hj,rfl⟩ :=je7.1 hd
 have hj:=jgi.1 hj
 refine⟨hb.2 j hj,hm _ ?_,hm _ ?_⟩
 ·rw [←Kl hj];exact jeW _
 ·have hn:nx xs j<xs.length:=Nat.mod_lt _ hb.1
  show pt xs (nx xs j)∈xs
  rw [←Kl hn];exact jeW _
theorem Mx {hot xs:List Pn} {p:Pn} (h:p∈Km hot xs) :p∈hot:=by
 obtain ⟨l,_,hp⟩ :=jgh.1 h
 exact(wz.1 (List.dropLast_subset _ hp)).1
theorem NK {hot:List Pn} (hnd:hot.Nodup) :∀ {es:List (Pn×Pn)} {z:Pn},Lk es z→(∀d∈es,d.1≠d.2∧d.1∈hot∧d.2∈hot)→(∀h:0<es.length,(es[0]'h).1=z)→0<es.length→bare (es.flatMap (ku hot))
 | [],_,_,_,_,h=>absurd h (by simp)
 | e::l,z,hlk,hok,h0,hp=>by
  obtain ⟨k1,rest,k2⟩ :=Ie hnd hlk hok
  have he:e.1=z:=h0 hp
  generalize (e::l).flatMap (ku hot) =ys at*
  refine⟨by rw [k2];simp,fun j hj=> ?_⟩
  have hd:=CW k1 j (by simp;omega)
  have e1:pt (ys++ [z]) j=pt ys j:=by simp only [pt,px,py,List.getD_eq_getElem?_getD,List.getElem?_append_left hj]
  rw [e1] at hd
  by_cases hj1:j+1<ys.length
  ·rw [show nx ys j=j+1 from jfY hj1]
   have e2:pt (ys++ [z]) (j+1) =pt ys (j+1) :=by simp only [pt,px,py,List.getD_eq_getElem?_getD,List.getElem?_append_left hj1]
   rwa [e2] at hd
  ·have hjn:j+1=ys.length:=by omega
   rw [show nx ys j=0 by unfold nx;rw [hjn,Nat.mod_self]]
   have e2:pt (ys++ [z]) (j+1) =z:=by
    have e4: (ys++ [z])[j+1]? =some z:=by rw [List.getElem?_append_right (by omega),hjn,Nat.sub_self];rfl
    simp only [pt,px,py,List.getD_eq_getElem?_getD,e4]
    rfl
   have e3:pt ys 0=z:=by rw [k2,←he];rfl
   rw [e2] at hd
   rwa [e3]
theorem Gh {hot xs:List Pn} (hnd:hot.Nodup) (hb:bare xs) (hm:∀p∈xs,p∈hot) :bare (Km hot xs)∧xs.length≤(Km hot xs).length∧((Km hot xs).length=xs.length→Km hot xs=xs) :=by
 rw [Y1 hb]
 have hok:=x5 hb hm
 obtain ⟨g1,g2⟩ :=XM hok
 rw [WJ] at g1 g2
 exact⟨NK hnd I6 hok (fun h=>by simp [vL]) (by rw [WJ];exact hb.1),g1,fun h=>by rw [g2 h,Bp]⟩
def cnt (rs:List jS) :Nat:= (rs.map List.length).sum
def qT (hot:List Pn) (rs:List jS) :List jS:=rs.map (Km hot)
def bareG (hot:List Pn) (rs:List jS) :Prop:=∀r∈rs,bare r∧∀p∈r,p∈hot
theorem bareG.snap {hot:List Pn} {rs:List jS} (hnd:hot.Nodup) (h:bareG hot rs) :bareG hot (qT hot rs) :=fun r hr=>by
 obtain ⟨q,hq,rfl⟩ :=je7.1 hr
 exact⟨(Gh hnd (h q hq).1 (h q hq).2).1,fun p hp=>Mx hp⟩
theorem BB {hot:List Pn} (hnd:hot.Nodup) :∀ {rs:List jS},bareG hot rs→cnt rs≤cnt (qT hot rs)∧(cnt (qT hot rs) =cnt rs→qT hot rs=rs)
 | [],_=>⟨jeD _,fun _=>rfl⟩
 | r::l,h=>by
  obtain ⟨h1,h2⟩ :=h r (jfd ..)
  obtain ⟨_,g1,g2⟩ :=Gh hnd h1 h2
  obtain ⟨k1,k2⟩ :=BB hnd (rs:=l) fun q hq=>h q (je5 _ hq)
  have e1:cnt (qT hot (r::l)) = (Km hot r).length+cnt (qT hot l) :=rfl
  have e2:cnt (r::l) =r.length+cnt l:=rfl
  rw [e1,e2]
  refine⟨by omega,fun he=> ?_⟩
  have a1:=g2 (by omega)
  have a2:=k2 (by omega)
  show Km hot r::qT hot l=r::l
  rw [a1,a2]
theorem uH {xs:List Pn} (h:bare xs) : (J0 xs).length=xs.length:=by rw [Vc h,jeX,WJ]
theorem Z7 {rs:List jS} (h:∀r∈rs,bare r) : (Jm rs).length=cnt rs:=by
 have key:∀k,k≤rs.length→(Qg rs k).length=cnt (rs.take k) :=by
  intro k
  induction k with
  | zero=>intro _;rfl
  | succ k ih=>
   intro hk
   have hb:bare (rg rs k) :=by have:=h rs[k] (jeW (by omega));rwa [wl (by omega)] at this
   show(Qg rs k++J0 (rg rs k)).length=_
   rw [jeC,ih (by omega),uH hb,vk (by omega)]
   simp [cnt]
 have:=key rs.length (jeD _)
 rwa [jfr] at this
theorem R7 (A:Option Addr) (n c:Nat) (xs:List (Int×Int)) (w:World) (h:Pts w A n xs) :
  Calls Tryz.prog 106 #[.slice A n c] w fun e w'=>e= .returned (.bool (kH xs))∧Over w w':=by
 have hl:=h.1
 refine jU (m:=15) (Tryz.func106) J J (lb J) ?_;refine S10 ?_;refine cV 6 (fun g1=> ?_) (fun g1=> ?_)
 ·have h1:1≤n:= (by omega)
  refine S8 ?_;refine cV 11 (fun g2=> ?_) (fun g2=> ?_)
  ·have h2:n≤400:= (by omega)
   refine S3 ?_;refine o9 (jH XZ J J (fun w1 hs=>Fg A n c xs w1 (h.over hs.fin) (by omega))) ?_;refine S4 ?_;refine jL J (.tmp J) ?_
   intro w' hs
   exact⟨QJ (by unfold kH XA zS;rw [hl,decide_eq_true (show(1:Int)≤(n:Int) by omega),decide_eq_true (show(n:Int)≤400 by omega)];rfl),hs.fin⟩
  ·refine S6 ?_;refine jL J (.tmp J) ?_
   intro w' hs
   exact⟨QJ (by unfold kH XA;rw [hl,decide_eq_false (show¬(n:Int)≤400 by omega),Bool.and_false,jfp]),hs.fin⟩
 ·refine S11 ?_;refine jL J (.tmp J) ?_
  intro w' hs
  exact⟨QJ (by unfold kH XA;rw [hl,decide_eq_false (show¬(1:Int)≤(n:Int) by omega)];rfl),hs.fin⟩
theorem M8 (A:Option Addr) (n c:Nat) (xs:List (Int×Int)) (w:World) (h:Pts w A n xs) :
  Calls Tryz.prog 70 #[YX A n c] w fun e w'=>e= .returned (.bool (kH xs))∧Over w w':=by
 refine jU (m:=6) (Tryz.func70) J J (lb J) ?_;refine S3 ?_;refine aX (fun b1=> ?_);refine N6 ?_;refine a9 (jH LY J J (fun w1 hs=>R7 A n c xs w1 (h.over hs.fin))) ?_;refine S3 ?_;refine jL J (.tmp J) ?_
 intro w' hs
 exact⟨rfl,hs.fin⟩
theorem Iy (b o:Nat) (A:Option Addr) (n c:Nat) (xs:List (Int×Int)) (w:World) (hc:w.cell? ⟨b,o,none⟩ =some (.slice A n c)) (hb:b<w.heap.size) (h:Pts w A n xs) :
  Calls Tryz.prog 57 #[.pointer (some ⟨b,o,none⟩)] w fun e w'=>e= .returned (.bool (kH xs))∧Over w w':=by
 have hl:=h.1
 refine jU (m:=16) (Tryz.func57) J J (lb J) ?_;refine S9 ?_;refine a9 (jr J J JG (QM hc hb)) ?_;refine S1 ?_;refine a9 (jH zZ J J (fun w1 hs=>Calls.still (zu (n:Int) 1 400 w1))) ?_;refine S1 ?_;refine cV 9 (fun g1=> ?_) (fun g1=> ?_)
 ·have h2:n≤400:= (by unfold XA at g1;simp only [jeF,decide_eq_true_eq] at g1;omega)
  refine S7 ?_;refine o9 (jr J J JG (QM hc hb)) ?_;refine h9 ?_;refine o9 (jH xP J J (fun w1 hs=>Oj A n c xs w1 (h.over hs.fin) (by omega))) ?_;refine S4 ?_;refine jL J (.tmp J) ?_
  intro w' hs
  exact⟨QJ (by unfold kH;rw [hl,g1];rfl),hs.fin⟩
 ·refine S9 ?_;refine jL J (.tmp J) ?_
  intro w' hs
  exact⟨QJ (by unfold kH;rw [hl,g1];rfl),hs.fin⟩
theorem jcR {rs:List jS} (h:rs.all kH=true) {k:Nat} (hk:k<rs.length) :kH (rg rs k) =true:=by
 have:=jfP.1 h rs[k] (jeW hk)
 rwa [wl hk] at this
theorem Yj {rs:List jS} :∀ {k:Nat},k≤rs.length→(rs.take k).all kH=true→(Qg rs k).length≤400*k
 | 0,_,_=>jeD _
 | k+1,hk,h=>by
  rw [vk (by omega),List.all_append,jeF] at h
  have h2:kH (rg rs k) =true:=by simpa using h.2
  have:=Yj (k:=k) (by omega) h.1
  have:=Qa h2
  have:=Ki (rg rs k) (rg rs k).length
  show(Qg rs k++J0 (rg rs k)).length≤_
  rw [jeC]
  unfold J0
  omega
theorem GY {rs:List jS} (h:rs.all kH=true) :∀k,k≤rs.length→qF rs k≤400*k
 | 0,_=>jeD _
 | k+1,hk=>by
  have:=GY h k (by omega)
  have:=Qa (jcR h (show k<rs.length by omega))
  rw [qF]
  omega
theorem KG (A:Option Addr) (n c:Nat) (rs:List jS) (w:World) (h:Rings w A n rs) (hm: (n:Int)≤9223372036854775807) :
  Calls Tryz.prog 39 #[Ju A n c] w fun e w'=>e= .returned (.bool (JO rs))∧Over w w':=by
 have hl:=h.1
 refine jU (m:=28) (Tryz.func39) J J (lb J) ?_;refine S3 ?_;refine aX (fun b1=> ?_);refine N10 ?_;refine cZ (fun c1=> ?_) (fun c1=> ?_)
 ·refine S6 ?_;refine jL J (.tmp J) ?_
  intro w' hs
  exact⟨QJ (x8 (by omega)).symm,hs.fin⟩
 ·have h40:n≤40:= (by omega)
  refine S15 ?_;refine qi (X:=Nat) (fun k=>k≤n∧(rs.take k).all kH=true) (fun k=>n- k) (fun k=> [(3, .int .i64 ((Qg rs k).length:Int)),(13, .int .i64 (k:Int))]) (kK [2,11,12]) 0 (⟨jeE _,J⟩) ⟨J,sz⟩ ?_
  intro k hk L hL1
  refine v9 ?_
  obtain ⟨hk1,hk2⟩ :=hk
  refine S5 ?_;refine cZ (fun c2=> ?_) (fun c2=> ?_)
  ·have hlt:k<n:= (by omega)
   obtain ⟨bb,oo,Ak,ck,rfl,hbB,hcell,hpts,hmax⟩ :=h.at_ hlt
   have hsum:=Yj (show k≤rs.length by omega) hk2
   refine S7 ?_;refine a9 (jj J J JH J (ZM hcell hbB)) ?_;refine S1 ?_;refine aL (fun b2=> ?_);refine N7 ?_;refine a9 (jH xH J J (fun w1 hs=>M8 Ak _ ck (rg rs k) w1 (hpts.over hs.fin))) ?_;refine S2 ?_;refine cZ (fun c3=> ?_) (fun c3=> ?_)
   ·refine S11 ?_;refine jL J (.tmp J) ?_
    intro w' hs
    exact⟨QJ (GR (show k<rs.length by omega) c3).symm,hs.fin⟩
   ·have hp:=Qa c3
    have he:=Ki (rg rs k) (rg rs k).length
    have hs2: (Qg rs (k+1)).length= (Qg rs k).length+ (J0 (rg rs k)).length:=jeC
    have he': (J0 (rg rs k)).length≤(rg rs k).length:=he
    refine S6 ?_;refine jP uk (v:=fun x=> .slice x.1 _ x.2) (r:=fun x=>JP 0 56 4 _ _ x) (H:=fun _=>True) J J J (lb J) (fun w1 hs=>qS (W5 Ak _ ck (rg rs k) w1 (hpts.over hs.fin) (by omega))) ?_
    rintro⟨eA,ec⟩ -
    refine N10 ?_
    exact J8 hL1 (k+1) (⟨by omega,Ru (by omega) hk2 c3⟩) (by omega) ⟨vi (by rw [hs2];omega),vi (by omega),sz⟩ (u9 J)
  ·have hkn:k=n:= (by omega)
   refine S12 ?_;refine jL J (.tmp J) ?_
   intro w' hs
   have ha:rs.all kH=true:= (by rw [jfb (by omega)] at hk2;exact hk2)
   exact⟨QJ (by rw [ZN (by omega) ha];unfold Jm;rw [hl,←hkn];exact decide_eq_decide.2 (by omega)),hs.fin⟩
theorem WF (b1 o1:Nat) (A:Option Addr) (n c:Nat) (rs:List jS) (w:World) (hcell:w.cell? ⟨b1,o1,none⟩ =some (.slice A n c)) (hb1:b1<w.heap.size) (h:Rings w A n rs) (hm: (n:Int)≤9223372036854775807) :
  Calls Tryz.prog 34 #[.pointer (some ⟨b1,o1,none⟩)] w fun e w'=>e= .returned (.bool (JO rs))∧Over w w':=by
 have hl:=h.1
 refine jU (m:=31) (Tryz.func34) J J (lb J) ?_;refine S10 ?_;refine a9 (jr J J JN (QM hcell hb1)) ?_;refine S3 ?_;refine cZ (fun c1=> ?_) (fun c1=> ?_)
 ·refine S6 ?_;refine jL J (.tmp J) ?_
  intro w' hs
  exact⟨QJ (x8 (by omega)).symm,hs.fin⟩
 ·have h40:n≤40:= (by omega)
  refine S8 ?_;refine qi (X:=Nat) (fun k=>k≤n∧(rs.take k).all kH=true) (fun k=>n- k) (fun k=> [(3, .int .i64 (k:Int))]) (kK [0,2]) 0 (⟨jeE _,J⟩) ⟨J,sz⟩ ?_
  intro k hk L hL1
  refine v9 ?_
  obtain ⟨hk1,hk2⟩ :=hk
  refine S7 ?_;refine a9 (jr J J JN (QM hcell hb1)) ?_;refine S3 ?_;refine cZ (fun c2=> ?_) (fun c2=> ?_)
  ·have hlt:k<n:= (by omega)
   obtain ⟨bb,oo,Ak,ck,rfl,hbB,hcl,hpts,hmax⟩ :=h.at_ hlt
   refine S9 ?_;refine a9 (jr J J JN (QM hcell hb1)) ?_;refine S2 ?_;refine a9 (jH Hx J J (fun w1 hs=>Iy bb (oo+k*1) Ak _ ck (rg rs k) w1 (by rw [jfz];exact qU hcl hbB w1 hs) (jeR hbB hs.fin.size) (hpts.over hs.fin))) ?_;refine S2 ?_;refine cZ (fun c3=> ?_) (fun c3=> ?_)
   ·refine S10 ?_;refine jL J (.tmp J) ?_
    intro w' hs
    exact⟨QJ (GR (show k<rs.length by omega) c3).symm,hs.fin⟩
   ·refine S8 ?_
    exact J8 hL1 (k+1) (⟨by omega,Ru (by omega) hk2 c3⟩) (by omega) ⟨vi (by omega),sz⟩ (u9 J)
  ·have hkn:k=n:= (by omega)
   have ha:rs.all kH=true:= (by rw [jfb (by omega)] at hk2;exact hk2)
   have hsm:=GY ha rs.length (jeD _)
   have htot: (total rs:Int)≤1048577:= (by unfold total;omega)
   have hal:=Yj (rs:=rs) (k:=rs.length) (jeD _) (by rw [jfr];exact ha)
   refine S9 ?_;refine jP Vj (v:=fun x=> .slice x.1 _ x.2) (r:=fun x=>JP 0 118 4 _ _ x) (H:=fun _=>True) J J J (lb J) (fun w1 hs=>qS ((LN b1 o1 A n c rs w1 (qU hcell hb1 w1 hs) (jeR hb1 hs.fin.size) (h.over hs.fin) htot).mono fun e w' ⟨v,h1,_,h2,h3⟩ =>⟨v,h1,h2,h3⟩)) ?_
   rintro⟨eA,ec⟩ -
   refine N5 ?_;refine jL J (.tmp J) ?_
   intro w' hs
   exact⟨QJ (by rw [ZN (by omega) ha];exact decide_eq_decide.2 (by omega)),hs.fin⟩
def w6 (xs:List Pn) (k:Nat) :List Pn:= (qG xs k).map lA
def KY (xs:List Pn) :List Pn:=w6 xs xs.length
theorem DC:∀ {es:List (Pn×Pn)} {p q:Pn},Lk es p→Lk (es++ [(p,q)]) q
 | [],_,_,_=>rfl
 | [e],p,q,h=>⟨h,rfl⟩
 | e::f::l,p,q,h=>⟨h.1,DC (es:=f::l) h.2⟩
def Sh (l:Leg) :Pn×Pn:= (lA l,lB l)
theorem F5 {xs:List Pn} :∀k,k<xs.length→Lk ((qG xs k).map Sh) (pt xs k)∧((qG xs k) = []→pt xs k=pt xs 0)∧(∀e,((qG xs k).map Sh).head?=some e→e.1=pt xs 0)
 | 0,_=>⟨trivial,fun _=>rfl,fun e h=>by cases h⟩
 | k+1,hk=>by
  obtain ⟨h1,h2,h3⟩ :=F5 (xs:=xs) k (by omega)
  have hn:nx xs k=k+1:=jfY hk
  rw [Ke]
  split
  ·rename_i h
   have e:pt xs k=pt xs (k+1) :=by rw [hn] at h;exact Prod.ext h.1 h.2
   exact⟨e▸h1,fun h'=>e▸h2 h',h3⟩
  ·rw [jfa,hn]
   refine⟨DC h1,fun h'=>by simp at h',fun e he=> ?_⟩
   cases hE:qG xs k with
   | nil=>
    rw [hE] at he
    have: (pt xs k,pt xs (k+1)) =e:=Option.some.inj he
    rw [←this]
    exact h2 hE
   | cons a l=>
    rw [hE] at he h3
    exact h3 e (by simpa using he)
theorem OY {xs:List Pn} (h0:0<xs.length) :Lk ((J0 xs).map Sh) (pt xs 0)∧∀e,((J0 xs).map Sh).head?=some e→e.1=pt xs 0:=by
 obtain ⟨m,hm⟩ :∃m,xs.length=m+1:=⟨xs.length- 1,by omega⟩
 obtain ⟨h1,h2,h3⟩ :=F5 (xs:=xs) m (by omega)
 have hn:nx xs m=0:=by unfold nx;rw [hm,Nat.mod_self]
 unfold J0
 rw [hm,Ke]
 split
 ·rename_i h
  have e:pt xs m=pt xs 0:=by rw [hn] at h;exact Prod.ext h.1 h.2
  exact⟨e▸h1,h3⟩
 ·rw [jfa,hn]
  refine⟨DC h1,fun e he=> ?_⟩
  cases hE:qG xs m with
  | nil=>
   rw [hE] at he
   have: (pt xs m,pt xs 0) =e:=Option.some.inj he
   rw [←this]
   exact h2 hE
  | cons a l=>
   rw [hE] at he h3
   exact h3 e (by simpa using he)
theorem Es:∀ {es:List (Pn×Pn)} {z:Pn},Lk es z→(∀i (h:i+1<es.length),(es[i]'(by omega)).2=es[i+1].1)∧(∀h:0<es.length,(es[es.length- 1]'(by omega)).2=z)
 | [],_,_=>⟨fun i h=>absurd h (by simp),fun h=>absurd h (by simp)⟩
 | [e],z,hl=>⟨fun i h=>absurd h (by simp),fun _=>hl⟩
 | e::f::l,z,hl=>by
  obtain ⟨g1,g2⟩ :=Es (es:=f::l) hl.2
  refine⟨fun i h=> ?_,fun _=> ?_⟩
  ·cases i with
   | zero=>exact hl.1
   | succ i=>have:=g1 i (by simpa using h);simpa using this
  ·have:=g2 (by simp)
   simpa using this
theorem ja7 {es:List (Pn×Pn)} {z:Pn} (h1:Lk es z) (h2:∀e,es.head?=some e→e.1=z) (hall:∀d∈es,d.1≠d.2) (hk:0<es.length) :bare (es.map (·.1)) :=by
 obtain ⟨g1,g2⟩ :=Es h1
 have hp:∀j (hj:j<es.length),pt (es.map (·.1)) j=es[j].1:=fun j hj=>by
  rw [←Kl (by simpa using hj)]
  simp
 refine⟨by simpa using hk,fun j hj=> ?_⟩
 rw [jeX] at hj
 rw [hp j hj]
 by_cases hj1:j+1<es.length
 ·rw [show nx (es.map (·.1)) j=j+1 from jfY (by simpa using hj1),hp _ hj1,←g1 j hj1]
  exact hall _ (jeW _)
 ·have hjn:j+1=es.length:=by omega
  rw [show nx (es.map (·.1)) j=0 by unfold nx;rw [jeX,hjn,Nat.mod_self],hp 0 hk]
  have hz: (es[0]'hk).1=z:=h2 _ (by cases es with | nil=>simp at hk | cons a l=>rfl)
  rw [hz,←g2 hk]
  have:es.length- 1=j:=by omega
  simp only [this]
  exact hall _ (jeW _)
theorem O7 {xs:List Pn} (h0:0<xs.length) (hk:0< (KY xs).length) :bare (KY xs) :=by
 obtain ⟨h1,h2⟩ :=OY h0
 have hne:=yr xs xs.length
 have hne':∀l∈J0 xs,lA l≠lB l:=hne
 have e:KY xs= ((J0 xs).map Sh).map (·.1) :=by unfold KY w6 J0;rw [List.map_map];rfl
 have hall:∀d∈(J0 xs).map Sh,d.1≠d.2:=fun d hd=>by
  obtain ⟨l,hl,rfl⟩ :=je7.1 hd
  exact hne' l hl
 rw [e] at hk⊢
 rw [jeX] at hk
 exact ja7 h1 h2 hall hk
def K3 (rs:List jS) (k:Nat) :List jS:= ((rs.take k).map KY).filter fun r=>decide (0<r.length)
def J4 (rs:List jS) :List jS:=K3 rs rs.length
theorem yi {rs:List jS} {k:Nat} (hk:k<rs.length) (h:0< (KY (rg rs k)).length) :K3 rs (k+1) =K3 rs k++ [KY (rg rs k)] :=by
 unfold K3
 rw [vk hk,jfa,jfW]
 simp [h]
theorem zn {rs:List jS} {k:Nat} (hk:k<rs.length) (h:¬0< (KY (rg rs k)).length) :K3 rs (k+1) =K3 rs k:=by
 unfold K3
 rw [vk hk,jfa,jfW]
 have: (KY (rg rs k)).length=0:=by omega
 simp [je9 this]
theorem Ze (rs:List jS) (k:Nat) : (K3 rs k).length≤rs.length:=by
 unfold K3
 refine jft (jf0 _ _) ?_
 rw [jeX,jeV]
 omega
theorem Zf {rs:List jS} {k:Nat} {r:jS} (h:r∈K3 rs k) :0<r.length∧∃q∈rs,KY q=r:=by
 unfold K3 at h
 rw [jgf] at h
 obtain ⟨q,hq,e⟩ :=je7.1 h.1
 exact⟨by simpa using h.2,q,jfj hq,e⟩
theorem Iu (xs:List Pn) (k:Nat) : (w6 xs k).length≤k:=by
 unfold w6
 rw [jeX]
 exact Ki xs k
theorem LK {xs:List Pn} {k:Nat} (h:pt xs k≠pt xs (nx xs k)) :w6 xs (k+1) =w6 xs k++ [pt xs k] :=by
 unfold w6
 rw [Ke,if_neg (fun e=>h (Prod.ext e.1 e.2)),jfa]
 rfl
theorem O6 {xs:List Pn} {k:Nat} (h:pt xs k=pt xs (nx xs k)) :w6 xs (k+1) =w6 xs k:=by
 unfold w6
 simp only [pt] at h
 injection h with h1 h2
 rw [Ke,if_pos ⟨h1,h2⟩]
end Go.Proofs.YtkagkgjjfdkoaaaGreat
namespace Go.Proofs.YtkagkgjjfdkoaaaGreat
open Go Go.RowKit
theorem La {l:Int} {n:Nat} (h:0≤Zb l n) : (n:Int)≤l∧Zb l n=l- n:=by
 unfold Zb at*
 split
 ·exact⟨by assumption,rfl⟩
 ·rename_i h2;rw [if_neg h2] at h;omega
end Go.Proofs.YtkagkgjjfdkoaaaGreat
