import Derived.Test.YtbahojdbmmjkcaaGreatSPathR
import Derived.Test.YtbahojdbmmjkcaaGreatSSnapped
import Derived.Test.YtbahojdbmmjkcaaGreatSValidRegion
import Derived.Test.YtbahojdbmmjkcaaGreatSTo
set_option linter.unusedVariables false
set_option linter.unusedSimpArgs false
namespace Go.Proofs.YtbahojdbmmjkcaaGreat
open Go Go.RowKit
variable {a b p:Pn} {es:List (Pn×Pn)} {hot xs:List Pn} {k:Nat} {rs:List Jp} {s x:Sp} {u v:Int}
set_option maxRecDepth 100000
set_option maxHeartbeats 4000000
def lowOk (s:Sp) (u v:Int) :Prop:=s.ln*v<u*s.ld∨(s.ln*v=u*s.ld∧s.lc=true)
def highOk (s:Sp) (u v:Int) :Prop:=u*s.hd<s.hn*v∨(u*s.hd=s.hn*v∧s.hc=true)
def zv (s:Sp) (u v:Int) :Prop:=lowOk s u v∧highOk s u v
theorem lowOk.le (h:lowOk s u v) :s.ln*v≤u*s.ld:=by rcases h with h |⟨h,_⟩ <;>omega
theorem highOk.le (h:highOk s u v) :u*s.hd≤s.hn*v:=by rcases h with h |⟨h,_⟩ <;>omega
theorem jcr (hs:0<s.ld) (hx:0<x.ld) (hv:0<v) :lowOk (qT s x) u v↔lowOk s u v∧lowOk x u v:=by
 unfold qT
 split
 ·rename_i h
  have e:lowOk {s with ln:=x.ln,ld:=x.ld,lc:=x.lc} u v=lowOk x u v:=rfl
  rw [e]
  refine⟨fun hx'=>⟨?_,hx'⟩,fun h=>h.2⟩
  simp only [uM,ji2,jig,decide_eq_true_eq,ji0] at h
  rcases h with h |⟨h,ho⟩
  ·exact .inl (VD hx hs hv Om hx'.le)
  ·rcases hx' with h' |⟨_,h'⟩
   ·exact .inl (vj hx hs hv Om h')
   ·rw [ho] at h';cases h'
 ·rename_i h
  refine⟨fun h'=>⟨h',?_⟩,fun h=>h.1⟩
  simp only [uM,ji2,jig,decide_eq_true_eq,ji0,not_or,not_and,Bool.not_eq_false] at h
  obtain ⟨g1,g2⟩ :=h
  rcases h' with h' |⟨h',hc⟩
  ·exact .inl (vj hs hx hv Om h')
  ·by_cases g:x.ln*s.ld<s.ln*x.ld
   ·exact .inl (VD hs hx hv g Om)
   ·have l1:=Vd (a:=x.ln) (b:=x.ld) (c:=s.ln) (d:=s.ld) (e:=u) (f:=v) hs hx hv Om Om
    have l2:=Vd (a:=u) (b:=v) (c:=s.ln) (d:=s.ld) (e:=x.ln) (f:=x.ld) hs hv hx Om Om
    exact .inr ⟨by omega,g2 Om⟩
theorem E8 (hs:0<s.hd) (hx:0<x.hd) (hv:0<v) :highOk (ko s x) u v↔highOk s u v∧highOk x u v:=by
 unfold ko
 split
 ·rename_i h
  have e:highOk {s with hn:=x.hn,hd:=x.hd,hc:=x.hc} u v=highOk x u v:=rfl
  rw [e]
  refine⟨fun hx'=>⟨?_,hx'⟩,fun h=>h.2⟩
  simp only [wH,ji2,jig,decide_eq_true_eq,ji0] at h
  rcases h with h |⟨h,ho⟩
  ·exact .inl (vj hx hv hs hx'.le Om)
  ·rcases hx' with h' |⟨_,h'⟩
   ·exact .inl (VD hx hv hs h' Om)
   ·rw [ho] at h';cases h'
 ·rename_i h
  refine⟨fun h'=>⟨h',?_⟩,fun h=>h.1⟩
  simp only [wH,ji2,jig,decide_eq_true_eq,ji0,not_or,not_and,Bool.not_eq_false] at h
  obtain ⟨g1,g2⟩ :=h
  rcases h' with h' |⟨h',hc⟩
  ·exact .inl (VD hs hv hx h' Om)
  ·by_cases g:s.hn*x.hd<x.hn*s.hd
   ·exact .inl (vj hs hv hx Om g)
   ·have l1:=Vd (a:=u) (b:=v) (c:=s.hn) (d:=s.hd) (e:=x.hn) (f:=x.hd) hs hv hx Om Om
    have l2:=Vd (a:=x.hn) (b:=x.hd) (c:=s.hn) (d:=s.hd) (e:=u) (f:=v) hs hx hv Om Om
    exact .inr ⟨by omega,g2 Om⟩
theorem jgx :lowOk (ko s x) u v↔lowOk s u v:=by unfold ko;split<;>exact Iff.rfl
theorem jex :highOk (qT s x) u v↔highOk s u v:=by unfold qT;split<;>exact Iff.rfl
theorem ym (hs:0<s.ld∧0<s.hd) (hx:0<x.ld∧0<x.hd) (hv:0<v) :zv (J5 s x) u v↔zv s u v∧zv x u v:=by
 unfold zv J5
 rw [jgx,jcr hs.1 hx.1 hv,E8 (zu hs hx).2 hx.2 hv,jex]
 constructor
 ·rintro⟨⟨h1,h2⟩,h3,h4⟩;exact⟨⟨h1,h3⟩,h2,h4⟩
 ·rintro⟨⟨h1,h3⟩,h2,h4⟩;exact⟨⟨h1,h2⟩,h3,h4⟩
theorem IE :zv WG u v↔0≤u∧u≤v:=by
 unfold zv lowOk highOk WG
 simp only [jjl,jjG,Int.one_mul,and_true]
 omega
def ZE (f d lo u v:Int) :Prop:=lo*v≤f*v+u*d∧f*v+u*d< (lo+2) *v
theorem UK {f d lo:Int} (hv:0<v) (h0:0≤u) (h1:u≤v) : (KC f d lo=true∧zv (QZ f d lo) u v)↔ZE f d lo u v:=by
 have e1: (lo+2) *v=lo*v+2*v:=Int.add_mul ..
 by_cases hd:0<d
 ·have hp:KC f d lo=true:=by unfold KC;rw [decide_eq_false Om];rfl
  have e2: (lo- f) *v=lo*v- f*v:=Int.sub_mul ..
  have e3: (lo+2- f) *v=lo*v+2*v- f*v:=by rw [Int.sub_mul,Int.add_mul]
  rw [hp]
  unfold QZ
  rw [if_pos hd]
  unfold zv lowOk highOk ZE
  simp only [true_and,and_true,jjb,and_false,or_false]
  rw [e1,e2,e3]
  omega
 ·by_cases hn:d<0
  ·have hp:KC f d lo=true:=by unfold KC;rw [decide_eq_false Om];rfl
   have e2: (f- lo) *v=f*v- lo*v:=Int.sub_mul ..
   have e3: (f- lo- 2) *v=f*v- lo*v- 2*v:=by rw [Int.sub_mul,Int.sub_mul]
   have e4:u* (-d) = -(u*d) :=Int.mul_neg ..
   rw [hp]
   unfold QZ
   rw [if_neg hd,if_pos hn]
   unfold zv lowOk highOk ZE
   simp only [true_and,and_true,jjb,and_false,or_false]
   rw [e1,e2,e3,e4]
   omega
  ·obtain rfl:d=0:=by omega
   rw [VJ,IE]
   unfold KC ZE
   rw [Int.mul_zero,Int.add_zero]
   simp only [decide_true,Bool.not_true,Bool.false_or,jig,decide_eq_true_eq]
   constructor
   ·rintro⟨⟨g1,g2⟩,_⟩
    exact⟨jih g1 Om,jiQ g2 hv⟩
   ·rintro⟨g1,g2⟩
    exact⟨⟨jiT g1 hv,ji4 g2 Om⟩,h0,h1⟩
theorem LY (hs:0<s.ld∧0<s.hd) (h:vp s=true) :∃u v,0<v∧zv s u v:=by
 simp only [vp,ji2,jig,decide_eq_true_eq] at h
 rcases h with h |⟨⟨h,h1⟩,h2⟩
 ·have p:=ji5 hs.1 hs.2
  refine⟨s.ln*s.hd+s.hn*s.ld,2* (s.ld*s.hd),by omega, .inl ?_, .inl ?_⟩
  ·have:=jiQ (show s.ln*s.hd<s.hn*s.ld by omega) hs.1
   have e1:s.ln* (2* (s.ld*s.hd)) =2* (s.ln*s.hd*s.ld) :=by grind
   have e2: (s.ln*s.hd+s.hn*s.ld) *s.ld=s.ln*s.hd*s.ld+s.hn*s.ld*s.ld:=Int.add_mul ..
   rw [e1,e2]
   omega
  ·have:=jiQ (show s.ln*s.hd<s.hn*s.ld by omega) hs.2
   have e1:s.hn* (2* (s.ld*s.hd)) =2* (s.hn*s.ld*s.hd) :=by grind
   have e2: (s.ln*s.hd+s.hn*s.ld) *s.hd=s.ln*s.hd*s.hd+s.hn*s.ld*s.hd:=Int.add_mul ..
   rw [e1,e2]
   omega
 ·exact⟨s.ln,s.ld,hs.1, .inr ⟨rfl,h1⟩, .inr ⟨by omega,h2⟩⟩
theorem jcA (hs:0<s.ld∧0<s.hd) (hv:0<v) (h:zv s u v) :vp s=true:=by
 simp only [vp,ji2,jig,decide_eq_true_eq]
 obtain ⟨h1,h2⟩ :=h
 by_cases g1:s.ln*v<u*s.ld
 ·have:=VD (a:=s.ln) (b:=s.ld) (c:=u) (d:=v) (e:=s.hn) (f:=s.hd) hv hs.1 hs.2 g1 h2.le
  exact .inl Om
 ·by_cases g2:u*s.hd<s.hn*v
  ·have:=vj (a:=s.ln) (b:=s.ld) (c:=u) (d:=v) (e:=s.hn) (f:=s.hd) hv hs.1 hs.2 h1.le g2
   exact .inl Om
  ·have l1:=Vd (a:=s.ln) (b:=s.ld) (c:=u) (d:=v) (e:=s.hn) (f:=s.hd) hv hs.1 hs.2 h1.le h2.le
   have k1:=h1.resolve_left g1
   have k2:=h2.resolve_left g2
   have l2:=Vd (a:=s.hn) (b:=s.hd) (c:=u) (d:=v) (e:=s.ln) (f:=s.ld) hv hs.2 hs.1 Om Om
   exact .inr ⟨⟨by omega,k1.2⟩,k2.2⟩
def wV (a b p:Pn) (u v:Int) :Prop:=ZE (2*a.1) (2* (b.1- a.1)) (2*p.1- 1) u v∧ZE (2*a.2) (2* (b.2- a.2)) (2*p.2- 1) u v
theorem Vt (hv:0<v) (h:ui a b p=true) :zv (J6 a b p) u v↔(0≤u∧u≤v)∧wV a b p u v:=by
 unfold ui Xb at h
 simp only [jig] at h
 unfold J6 wV
 rw [ym (KM uZ (Ke _ _ _)) (Ke _ _ _) hv,ym uZ (Ke _ _ _) hv,IE]
 constructor
 ·rintro⟨⟨⟨h0,h1⟩,h2⟩,h3⟩
  exact⟨⟨h0,h1⟩,(UK hv h0 h1).1 ⟨h.1.1,h2⟩,(UK hv h0 h1).1 ⟨h.1.2,h3⟩⟩
 ·rintro⟨⟨h0,h1⟩,h2,h3⟩
  exact⟨⟨⟨h0,h1⟩,((UK hv h0 h1).2 h2).2⟩,((UK hv h0 h1).2 h3).2⟩
theorem Ih (hv:0<v) (h0:0≤u) (h1:u≤v) (h:wV a b p u v) :ui a b p=true:=by
 have hx:= (UK hv h0 h1).2 h.1
 have hy:= (UK hv h0 h1).2 h.2
 have hm:zv (J6 a b p) u v:=by
  unfold J6
  rw [ym (KM uZ (Ke _ _ _)) (Ke _ _ _) hv,ym uZ (Ke _ _ _) hv,IE]
  exact⟨⟨⟨h0,h1⟩,hx.2⟩,hy.2⟩
 have:=jcA (Vs a b p) hv hm
 unfold ui Xb
 rw [hx.1,hy.1]
 exact this
theorem yh {q:Pn} (hv:0<v) (h:wV a b p u v) (h':wV a b q u v) :p=q:=by
 have key:∀ {f d m n:Int},ZE f d (2*m- 1) u v→ZE f d (2*n- 1) u v→¬m<n:=by
  intro f d m n g g' hmn
  have:=jih (show 2*m- 1+2≤2*n- 1 by omega) (show 0≤v by omega)
  have g2:=g.2
  have g1':=g'.1
  omega
 have x1:=key h.1 h'.1
 have x2:=key h'.1 h.1
 have y1:=key h.2 h'.2
 have y2:=key h'.2 h.2
 exact Prod.ext Om Om
theorem NJ (a b:Pn) :wV a b a 0 1:=by
 unfold wV ZE
 simp only [jjG,jjl,Int.add_zero]
 omega
theorem jb9 (a b:Pn) :wV a b b 1 1:=by
 unfold wV ZE
 simp only [jjG,Int.one_mul]
 omega
theorem jce (a b:Pn) :ui a b a=true:=Ih Dc Dc Dc (NJ a b)
theorem jcf (a b:Pn) :ui a b b=true:=Ih Dc Dc Dc (jb9 a b)
theorem Bb :z8 s x=true↔s.ln*x.ld<x.ln*s.ld∨(s.ln*x.ld=x.ln*s.ld∧s.lc=true∧x.lc=false) :=by
 simp only [z8,ji2,jig,decide_eq_true_eq,ji0]
 constructor
 ·rintro(h |⟨⟨h1,h2⟩,h3⟩)
  ·exact .inl Om
  ·exact .inr ⟨by omega,h2,h3⟩
 ·rintro(h |⟨h1,h2,h3⟩)
  ·exact .inl Om
  ·exact .inr ⟨⟨by omega,h2⟩,h3⟩
theorem Tc (hs:0<s.ld) (hx:0<x.ld) (h:0≤s.ln) :0≤(J5 s x).ln:=by
 have e: (J5 s x).ln= (qT s x).ln:=by unfold J5 ko;split<;>rfl
 rw [e]
 unfold qT
 split
 ·rename_i h'
  simp only [uM,ji2,jig,decide_eq_true_eq,ji0] at h'
  have h1:s.ln*x.ld≤x.ln*s.ld:=by rcases h' with h' |⟨h',_⟩ <;>omega
  have h2:0≤s.ln*x.ld:=jiP h Om
  show 0≤x.ln
  refine jjn.1 fun hn=> ?_
  have:=jjq hn hs
  omega
 ·exact h
theorem Fk (a b p:Pn) :0≤(J6 a b p).ln:=
 Tc (KM uZ (Ke _ _ _)).1 (Ke _ _ _).1 (Tc uZ.1 (Ke _ _ _).1 Dc)
theorem Pz (hi:ui a b p=true) (hne:p≠a) :wh a b a p=true:=by
 have ha:=jce a b
 have ma:zv (J6 a b a) 0 1:= (Vt Dc ha).2 ⟨⟨by decide,by decide⟩,NJ a b⟩
 have ua:=Fk a b a
 have up:=Fk a b p
 have pa:=Vs a b a
 have pp:=Vs a b p
 have l0: (J6 a b a).ln=0∧(J6 a b a).lc=true:=by
  have:=ma.1
  unfold lowOk at this
  simp only [jjG,jjl] at this
  rcases this with h |⟨h,hc⟩
  ·omega
  ·exact⟨h,hc⟩
 unfold wh
 rw [Bb,l0.1,l0.2,jjl]
 by_cases h:0< (J6 a b p).ln
 ·exact .inl (ji5 h pa.1)
 ·have e: (J6 a b p).ln=0:=by omega
  rw [e,jjl]
  refine .inr ⟨J,J,?_⟩
  cases hc: (J6 a b p).lc with
  | false=>rfl
  | true=>
   have hn:vp (J6 a b p) =true:=by unfold ui Xb at hi;simp only [jig] at hi;exact hi.2
   obtain ⟨u,v,hv,hm⟩ :=LY pp hn
   have h0:= (Vt hv hi).1 hm
   have hh:highOk (J6 a b p) 0 1:=by
    have:=hm.2
    unfold highOk at this⊢
    simp only [jjl,jjG]
    have q1:0≤u* (J6 a b p).hd:=jiP h0.1.1 Om
    by_cases g:0< (J6 a b p).hn
    ·exact .inl g
    ·have q2: (J6 a b p).hn*v≤0:=Int.mul_nonpos_of_nonpos_of_nonneg Om Om
     rcases this with h' |⟨h',hc'⟩
     ·omega
     ·refine .inr ⟨?_,hc'⟩
      have: (J6 a b p).hn*v=0:=by omega
      rcases Int.mul_eq_zero.1 this with h' | h'<;>omega
   have m0:zv (J6 a b p) 0 1:=⟨.inr ⟨by rw [e];simp,hc⟩,hh⟩
   exact absurd (yh Dc ((Vt Dc hi).1 m0).2 (NJ a b)) hne
theorem jaY (hi:ui a b p=true) (hne:p≠b) :wh a b p b=true:=by
 have hb:=jcf a b
 have mb:zv (J6 a b b) 1 1:= (Vt Dc hb).2 ⟨⟨by decide,by decide⟩,jb9 a b⟩
 have pb:=Vs a b b
 have pp:=Vs a b p
 rcases Bool.eq_false_or_eq_true (wh a b p b) with h | h
 ·exact h
 ·exfalso
  have hns:¬((J6 a b p).ln* (J6 a b b).ld< (J6 a b b).ln* (J6 a b p).ld∨((J6 a b p).ln* (J6 a b b).ld= (J6 a b b).ln* (J6 a b p).ld∧(J6 a b p).lc=true∧(J6 a b b).lc=false)) :=fun h'=>by
   have:=Bb.2 h'
   unfold wh at h
   rw [h] at this
   cases this
  have hle: (J6 a b b).ln* (J6 a b p).ld≤(J6 a b p).ln* (J6 a b b).ld:=jjn.1 fun h'=>hns (.inl h')
  have hn:vp (J6 a b p) =true:=by unfold ui Xb at hi;simp only [jig] at hi;exact hi.2
  obtain ⟨u,v,hv,hm⟩ :=LY pp hn
  have h0:= (Vt hv hi).1 hm
  have hlow:lowOk (J6 a b b) u v:=by
   by_cases g: (J6 a b p).ln*v<u* (J6 a b p).ld
   ·exact .inl (vj pp.1 pb.1 hv hle g)
   ·obtain ⟨g1,g2⟩ :=hm.1.resolve_left g
    by_cases k: (J6 a b b).ln* (J6 a b p).ld< (J6 a b p).ln* (J6 a b b).ld
    ·exact .inl (VD pp.1 pb.1 hv k Om)
    ·have l1:=Vd (a:= (J6 a b b).ln) (b:= (J6 a b b).ld) (c:= (J6 a b p).ln) (d:= (J6 a b p).ld) (e:=u) (f:=v) pp.1 pb.1 hv Om Om
     have l2:=Vd (a:=u) (b:=v) (c:= (J6 a b p).ln) (d:= (J6 a b p).ld) (e:= (J6 a b b).ln) (f:= (J6 a b b).ld) pp.1 hv pb.1 Om Om
     refine .inr ⟨by omega,?_⟩
     cases hc: (J6 a b b).lc with
     | true=>rfl
     | false=>exact absurd (.inr ⟨by omega,g2,hc⟩) hns
  have hhigh:highOk (J6 a b b) u v:=by
   have:=mb.2
   unfold highOk at this⊢
   simp only [Int.one_mul,jjG] at this
   have e:v* (J6 a b b).hd= (J6 a b b).hd*v:=jiW ..
   by_cases g:u<v
   ·have q:=jiQ g pb.2
    have q2: (J6 a b b).hd*v≤(J6 a b b).hn*v:=jih Om Om
    exact .inl Om
   ·obtain rfl:u=v:=by have:=h0.1.2;omega
    rcases this with h' |⟨h',hc⟩
    ·have q2:=jiQ h' hv
     exact .inl Om
    ·exact .inr ⟨by rw [h',jiW],hc⟩
  exact hne (yh hv h0.2 ((Vt hv hb).1 ⟨hlow,hhigh⟩).2)
theorem je0 (a b:Pn) :K3 a b a=true:=yu (xT Om Om) (Y3 Om Om) (jce a b)
theorem je1 (a b:Pn) :K3 a b b=true:=yu (xT Om Om) (Y3 Om Om) (jcf a b)
theorem GW (h:K3 a b p=true) :ui a b p=true:=by unfold K3 at h;simp only [jig] at h;exact h.2
theorem wB :p∈Qv a b hot↔p∈hot∧K3 a b p=true:=by
 rw [um,Vv,ZC,jjT]
theorem xx (h:hot.Nodup) : (Qv a b hot).Nodup:=by
 rw [um]
 unfold Vv
 exact(Bj (lt:=wh a b) (l:=hot.filter (K3 a b))).nodup_iff.2 (h.sublist List.filter_sublist)
theorem G0 (hne:a≠b) (ha:a∈hot) (hb:b∈hot) :∃mid,Qv a b hot=a:: (mid++ [b]) :=by
 have ma:a∈Qv a b hot:=wB.2 ⟨ha,je0 a b⟩
 have mb:b∈Qv a b hot:=wB.2 ⟨hb,je1 a b⟩
 have hi:∀p∈Qv a b hot,ui a b p=true:=fun p hp=>GW (wB.1 hp).2
 have hs:Uw (wh a b) (Qv a b hot) :=by rw [um];exact Bo a b hot
 revert ma mb hi hs
 generalize Qv a b hot=S
 intro ma mb hi hs
 cases S with
 | nil=>cases ma
 | cons x T=>
  obtain ⟨h1,h2⟩ :=jiN.1 hs
  have hx:x=a:=Decidable.byContradiction fun hx=>by
   have hT:a∈T:= (jis.1 ma).resolve_left (fun e=>hx e.symm)
   have:=Pz (hi x (jiH ..)) hx
   rw [h1 a hT] at this
   cases this
  subst hx
  have hbT:b∈T:= (jis.1 mb).resolve_left (fun e=>hne e.symm)
  rcases List.eq_nil_or_concat T with rfl |⟨mid,y,rfl⟩
  ·cases hbT
  ·rw [List.concat_eq_append] at*
   have hy:y=b:=Decidable.byContradiction fun hy=>by
    have hm:b∈mid:= (jit.1 hbT).resolve_right (fun e=>hy (jin.1 e).symm)
    have:=jaY (hi y (jiz _ (jjM _ (jin.2 rfl)))) hy
    rw [(jjC.1 h2).2.2 b hm y (jin.2 rfl)] at this
    cases this
   exact⟨mid,by rw [hy]⟩
def mkL (e:Pn×Pn) :Leg:=⟨e.1.1,e.1.2,e.2.1,e.2.2⟩
def vU (xs:List Pn) :List (Pn×Pn) := (List.range xs.length).map fun j=> (pt xs j,pt xs (nx xs j))
def bare (xs:List Pn) :Prop:=0<xs.length∧∀j,j<xs.length→pt xs j≠pt xs (nx xs j)
def kT (hot:List Pn) (e:Pn×Pn) :List Pn:= (Qv e.1 e.2 hot).dropLast
def KD (hot xs:List Pn) :List Pn:= (qf xs).flatMap fun l=>kT hot (lA l,lB l)
theorem xZ {xs:List Pn} (h:bare xs) :∀k,k≤xs.length→qZ xs k= ((List.range k).map fun j=> (pt xs j,pt xs (nx xs j))).map mkL
 | 0,_=>rfl
 | k+1,hk=>by
  have hne:=h.2 k Om
  rw [Kx,if_neg (fun e=>hne (Prod.ext e.1 e.2)),xZ h k Om,List.range_succ,jiG,jiG]
  rfl
theorem Vo (h:bare xs) :qf xs= (vU xs).map mkL:=xZ h _ (jif _)
theorem z6 (h:bare xs) :KD hot xs= (vU xs).flatMap (kT hot) :=by
 unfold KD
 rw [Vo h,List.flatMap_map]
 rfl
def Lk:List (Pn×Pn)→Pn→Prop
 | [],_=>True
 | [e],z=>e.2=z
 | e::f::l,z=>e.2=f.1∧Lk (f::l) z
theorem jfK:∀ {es:List (Pn×Pn)} {z:Pn},(∀i (h:i+1<es.length),(es[i]'(by omega)).2=es[i+1].1)→(∀h:0<es.length,(es[es.length- 1]'(by omega)).2=z)→Lk es z
 | [],_,_,_=>trivial
 | [e],z,_,h2=>h2 (by simp)
 | e::f::l,z,h1,h2=>⟨h1 0 (by simp),jfK (fun i h=>by have:=h1 (i+1) (by simpa using h);simpa using this) (fun h=>by have:=h2 (by simp);simpa using this)⟩
theorem W0 (xs:List Pn) : (vU xs).length=xs.length:=by simp [vU]
theorem Tz :Lk (vU xs) (pt xs 0) :=by
 refine jfK (fun i h=> ?_) (fun h=> ?_)
 ·rw [W0] at h
  simp only [vU,jje,jjB]
  rw [show nx xs i=i+1 from jju h]
 ·rw [W0] at h
  simp only [vU,jje,jjB,jip,List.length_range]
  rw [show nx xs (xs.length- 1) =0 by unfold nx;rw [show xs.length- 1+1=xs.length by omega,Nat.mod_self]]
theorem Fi (xs:List Pn) : (vU xs).map (·.1) =xs:=by
 apply jjp
 ·simp [vU]
 ·intro i h1 h2
  simp only [vU,jje,jjB]
  rw [kB h2]
def Dis:List Pn→Prop
 | [] =>True
 | [_] =>True
 | p::q::l=>p≠q∧Dis (q::l)
theorem Gq:∀ {l:List Pn},l.Nodup→Dis l
 | [],_=>trivial
 | [_],_=>trivial
 | p::q::l,h=>by
  obtain ⟨h1,h2⟩ :=List.nodup_cons.1 h
  exact⟨fun e=>h1 (e▸jiH ..),Gq h2⟩
theorem Sf:∀ {A:List Pn} {p:Pn} {B:List Pn},Dis (A++ [p])→Dis (p::B)→Dis (A++p::B)
 | [],_,_,_,h=>h
 | [a],p,B,h,h'=>⟨h.1,h'⟩
 | a::b::A,p,B,h,h'=>⟨h.1,Sf (A:=b::A) h.2 h'⟩
theorem jbT:∀ {l:List Pn},Dis l→∀j,j+1<l.length→pt l j≠pt l (j+1)
 | [],_,j,h=>absurd h (by simp)
 | [_],_,j,h=>absurd h (by simp)
 | p::q::l,hd,0,_=>hd.1
 | p::q::l,hd,j+1,h=>by
  have:=jbT hd.2 j (by simpa using h)
  simpa [pt,px,py] using this
theorem wC {e:Pn×Pn} (h:e.1≠e.2∧e.1∈hot∧e.2∈hot) :∃mid,kT hot e=e.1::mid∧Qv e.1 e.2 hot=kT hot e++ [e.2] :=by
 obtain ⟨mid,hm⟩ :=G0 h.1 h.2.1 h.2.2
 refine⟨mid,?_,?_⟩
 ·unfold kT
  rw [hm,←jiI,List.dropLast_concat]
 ·unfold kT
  rw [hm,←jiI,List.dropLast_concat]
theorem Sx {hot:List Pn} (hnd:hot.Nodup) :∀ {es:List (Pn×Pn)} {e:Pn×Pn} {z:Pn},Lk (e::es) z→(∀d∈e::es,d.1≠d.2∧d.1∈hot∧d.2∈hot)→Dis ((e::es).flatMap (kT hot) ++ [z])∧∃rest,(e::es).flatMap (kT hot) =e.1::rest
 | [],e,z,hl,hm=>by
  obtain ⟨mid,h1,h2⟩ :=wC (hm e (jiH ..))
  have hz:e.2=z:=hl
  simp only [jiA,List.flatMap_nil,jiC]
  refine⟨?_,mid,h1⟩
  rw [←hz,←h2]
  exact Gq (xx hnd)
 | f::l,e,z,hl,hm=>by
  obtain ⟨mid,h1,h2⟩ :=wC (hm e (jiH ..))
  obtain ⟨k1,rest,k2⟩ :=Sx hnd (es:=l) (e:=f) (z:=z) hl.2 (fun d hd=>hm d (jiz _ hd))
  rw [jiA]
  refine⟨?_,mid++ (f::l).flatMap (kT hot),by rw [h1];rfl⟩
  rw [jil]
  rw [k2] at k1⊢
  refine Sf (B:=rest++ [z]) ?_ k1
  rw [←hl.1,←h2]
  exact Gq (xx hnd)
theorem Gr {hot:List Pn} :∀ {es:List (Pn×Pn)},(∀d∈es,d.1≠d.2∧d.1∈hot∧d.2∈hot)→es.length≤(es.flatMap (kT hot)).length∧((es.flatMap (kT hot)).length=es.length→es.flatMap (kT hot) =es.map (·.1))
 | [],_=>⟨jif _,fun _=>rfl⟩
 | e::l,h=>by
  obtain ⟨mid,h1,_⟩ :=wC (h e (jiH ..))
  obtain ⟨g1,g2⟩ :=Gr (es:=l) fun d hd=>h d (jiz _ hd)
  rw [jiA,h1,jid,jij,jij]
  refine⟨by omega,fun hle=> ?_⟩
  obtain rfl:mid= [] :=jiE Om
  rw [g2 (by simp only [jiw] at hle;omega),jiv]
  rfl
theorem XL (hb:bare xs) (hm:∀p∈xs,p∈hot) :∀d∈vU xs,d.1≠d.2∧d.1∈hot∧d.2∈hot:=fun d hd=>by
 obtain ⟨j,hj,rfl⟩ :=jiD.1 hd
 have hj:=jjN.1 hj
 refine⟨hb.2 j hj,hm _ ?_,hm _ ?_⟩
 ·rw [←kB hj];exact jir _
 ·have hn:nx xs j<xs.length:=Nat.mod_lt _ hb.1
  show pt xs (nx xs j)∈xs
  rw [←kB hn];exact jir _
theorem O9 (h:p∈KD hot xs) :p∈hot:=by
 obtain ⟨l,_,hp⟩ :=jjI.1 h
 exact(wB.1 (List.dropLast_subset _ hp)).1
theorem EL (hnd:hot.Nodup) :∀ {es:List (Pn×Pn)} {z:Pn},Lk es z→(∀d∈es,d.1≠d.2∧d.1∈hot∧d.2∈hot)→(∀h:0<es.length,(es[0]'h).1=z)→0<es.length→bare (es.flatMap (kT hot))
 | [],_,_,_,_,h=>absurd h (by simp)
 | e::l,z,hlk,hok,h0,hp=>by
  obtain ⟨k1,rest,k2⟩ :=Sx hnd hlk hok
  have he:e.1=z:=h0 hp
  generalize (e::l).flatMap (kT hot) =ys at*
  refine⟨by rw [k2];simp,fun j hj=> ?_⟩
  have hd:=jbT k1 j (by simp;omega)
  have e1:pt (ys++ [z]) j=pt ys j:=by simp only [pt,px,py,List.getD_eq_getElem?_getD,List.getElem?_append_left hj]
  rw [e1] at hd
  by_cases hj1:j+1<ys.length
  ·rw [show nx ys j=j+1 from jju hj1]
   have e2:pt (ys++ [z]) (j+1) =pt ys (j+1) :=by simp only [pt,px,py,List.getD_eq_getElem?_getD,List.getElem?_append_left hj1]
   rwa [e2] at hd
  ·have hjn:j+1=ys.length:=by omega
   rw [show nx ys j=0 by unfold nx;rw [hjn,Nat.mod_self]]
   have e2:pt (ys++ [z]) (j+1) =z:=by
    have e4: (ys++ [z])[j+1]? =some z:=by rw [List.getElem?_append_right Om,hjn,Nat.sub_self];rfl
    simp only [pt,px,py,List.getD_eq_getElem?_getD,e4]
    rfl
   have e3:pt ys 0=z:=by rw [k2,←he];rfl
   rw [e2] at hd
   rwa [e3]
theorem Hg (hnd:hot.Nodup) (hb:bare xs) (hm:∀p∈xs,p∈hot) :bare (KD hot xs)∧xs.length≤(KD hot xs).length∧((KD hot xs).length=xs.length→KD hot xs=xs) :=by
 rw [z6 hb]
 have hok:=XL hb hm
 obtain ⟨g1,g2⟩ :=Gr hok
 rw [W0] at g1 g2
 exact⟨EL hnd Tz hok (fun h=>by simp [vU]) (by rw [W0];exact hb.1),g1,fun h=>by rw [g2 h,Fi]⟩
def cnt (rs:List Jp) :Nat:= (rs.map List.length).sum
def Qg (hot:List Pn) (rs:List Jp) :List Jp:=rs.map (KD hot)
def bareG (hot:List Pn) (rs:List Jp) :Prop:=∀r∈rs,bare r∧∀p∈r,p∈hot
theorem bareG.snap (hnd:hot.Nodup) (h:bareG hot rs) :bareG hot (Qg hot rs) :=fun r hr=>by
 obtain ⟨q,hq,rfl⟩ :=jiD.1 hr
 exact⟨(Hg hnd (h q hq).1 (h q hq).2).1,fun p hp=>O9 hp⟩
theorem Fw {hot:List Pn} (hnd:hot.Nodup) :∀ {rs:List Jp},bareG hot rs→cnt rs≤cnt (Qg hot rs)∧(cnt (Qg hot rs) =cnt rs→Qg hot rs=rs)
 | [],_=>⟨jif _,fun _=>rfl⟩
 | r::l,h=>by
  obtain ⟨h1,h2⟩ :=h r (jiH ..)
  obtain ⟨_,g1,g2⟩ :=Hg hnd h1 h2
  obtain ⟨k1,k2⟩ :=Fw hnd (rs:=l) fun q hq=>h q (jiz _ hq)
  have e1:cnt (Qg hot (r::l)) = (KD hot r).length+cnt (Qg hot l) :=rfl
  have e2:cnt (r::l) =r.length+cnt l:=rfl
  rw [e1,e2]
  refine⟨by omega,fun he=> ?_⟩
  have a1:=g2 Om
  have a2:=k2 Om
  show KD hot r::Qg hot l=r::l
  rw [a1,a2]
theorem Uj (h:bare xs) : (qf xs).length=xs.length:=by rw [Vo h,jip,W0]
theorem xY (h:∀r∈rs,bare r) : (Jw rs).length=cnt rs:=by
 have key:∀k,k≤rs.length→(Qe rs k).length=cnt (rs.take k) :=by
  intro k
  induction k with
  | zero=>intro _;rfl
  | succ k ih=>
   intro hk
   have hb:bare (rg rs k) :=by have:=h rs[k] (jir Om);rwa [Wc Om] at this
   show(Qe rs k++qf (rg rs k)).length=_
   rw [jid,ih Om,Uj hb,wU Om]
   simp [cnt]
 have:=key rs.length (jif _)
 rwa [jiM] at this
theorem NK (A:Option Addr) (n c:Nat) (xs:List (Int×Int)) (w:World) (h:Pts w A n xs) :
  Calls Tryz.prog 152 #[.slice A n c] w fun e w'=>e= .returned (.bool (q6 xs))∧Over w w':=by
 have hl:=h.1
 refine jK (m:=15) (Tryz.func152) J J (lb J) ?_;refine S10 ?_;refine cV 6 (fun g1=> ?_) (fun g1=> ?_)
 ·have h1:1≤n:=Om
  refine S8 ?_;refine cV 11 (fun g2=> ?_) (fun g2=> ?_)
  ·have h2:n≤400:=Om
   refine S3 ?_;refine o9 (jG VF J J (fun w1 hs=>WD A n c xs w1 (h.over hs.fin) Om)) ?_;refine S4 ?_;refine jJ J (.tmp J) ?_
   intro w' hs
   exact⟨QH (by unfold q6 Yt QJ;rw [hl,decide_eq_true (show(1:Int)≤(n:Int) by omega),decide_eq_true (show(n:Int)≤400 by omega)];rfl),hs.fin⟩
  ·refine S6 ?_;refine jJ J (.tmp J) ?_
   intro w' hs
   exact⟨QH (by unfold q6 Yt;rw [hl,decide_eq_false (show¬(n:Int)≤400 by omega),jjJ,jiS]),hs.fin⟩
 ·refine S11 ?_;refine jJ J (.tmp J) ?_
  intro w' hs
  exact⟨QH (by unfold q6 Yt;rw [hl,decide_eq_false (show¬(1:Int)≤(n:Int) by omega)];rfl),hs.fin⟩
theorem BQ (A:Option Addr) (n c:Nat) (xs:List (Int×Int)) (w:World) (h:Pts w A n xs) :
  Calls Tryz.prog 97 #[H6 A n c] w fun e w'=>e= .returned (.bool (q6 xs))∧Over w w':=by
 refine jK (m:=6) (Tryz.func97) J J (lb J) ?_;refine S3 ?_;refine aX (fun b1=> ?_);refine N6 ?_;refine a9 (jG zD J J (fun w1 hs=>NK A n c xs w1 (h.over hs.fin))) ?_;refine S3 ?_;refine jJ J (.tmp J) ?_
 intro w' hs
 exact⟨rfl,hs.fin⟩
theorem SU (b o:Nat) (A:Option Addr) (n c:Nat) (xs:List (Int×Int)) (w:World) (hc:w.cell? ⟨b,o,none⟩ =some (.slice A n c)) (hb:b<w.heap.size) (h:Pts w A n xs) :
  Calls Tryz.prog 95 #[.pointer (some ⟨b,o,none⟩)] w fun e w'=>e= .returned (.bool (q6 xs))∧Over w w':=by
 have hl:=h.1
 refine jK (m:=16) (Tryz.func95) J J (lb J) ?_;refine S9 ?_;refine a9 (jq J J JV (kH hc hb)) ?_;refine S1 ?_;refine a9 (jG W7 J J (fun w1 hs=>Calls.still (wM (n:Int) 1 400 w1))) ?_;refine S1 ?_;refine cV 9 (fun g1=> ?_) (fun g1=> ?_)
 ·have h2:n≤400:= (by unfold Yt at g1;simp only [jig,decide_eq_true_eq] at g1;omega)
  refine S7 ?_;refine o9 (jq J J JV (kH hc hb)) ?_;refine h9 ?_;refine o9 (jG Vf J J (fun w1 hs=>wa A n c xs w1 (h.over hs.fin) Om)) ?_;refine S4 ?_;refine jJ J (.tmp J) ?_
  intro w' hs
  exact⟨QH (by unfold q6;rw [hl,g1];rfl),hs.fin⟩
 ·refine S9 ?_;refine jJ J (.tmp J) ?_
  intro w' hs
  exact⟨QH (by unfold q6;rw [hl,g1];rfl),hs.fin⟩
theorem jf6 (h:rs.all q6=true) (hk:k<rs.length) :q6 (rg rs k) =true:=by
 have:=jjo.1 h rs[k] (jir hk)
 rwa [Wc hk] at this
theorem YU {rs:List Jp} :∀ {k:Nat},k≤rs.length→(rs.take k).all q6=true→(Qe rs k).length≤400*k
 | 0,_,_=>jif _
 | k+1,hk,h=>by
  rw [wU Om,List.all_append,jig] at h
  have h2:q6 (rg rs k) =true:=by simpa using h.2
  have:=YU (k:=k) Om h.1
  have:=Qz h2
  have:=KB (rg rs k) (rg rs k).length
  show(Qe rs k++qf (rg rs k)).length≤_
  rw [jid]
  unfold qf
  omega
theorem Ld {rs:List Jp} (h:rs.all q6=true) :∀k,k≤rs.length→QP rs k≤400*k
 | 0,_=>jif _
 | k+1,hk=>by
  have:=Ld h k Om
  have:=Qz (jf6 h (show k<rs.length by omega))
  rw [QP]
  omega
theorem wi (A:Option Addr) (n c:Nat) (rs:List Jp) (w:World) (h:Rings w A n rs) (hm: (n:Int)≤9223372036854775807) :
  Calls Tryz.prog 53 #[qG A n c] w fun e w'=>e= .returned (.bool (J0 rs))∧Over w w':=by
 have hl:=h.1
 refine jK (m:=28) (Tryz.func53) J J (lb J) ?_;refine S3 ?_;refine aX (fun b1=> ?_);refine N10 ?_;refine cZ (fun c1=> ?_) (fun c1=> ?_)
 ·refine S6 ?_;refine jJ J (.tmp J) ?_
  intro w' hs
  exact⟨QH (uW Om).symm,hs.fin⟩
 ·have h40:n≤40:=Om
  refine S15 ?_;refine qj (X:=Nat) (fun k=>k≤n∧(rs.take k).all q6=true) (fun k=>n- k) (fun k=> [(3, .int .i64 ((Qe rs k).length:Int)),(13, .int .i64 (k:Int))]) (kK [2,11,12]) 0 (⟨jie _,J⟩) ⟨J,sz⟩ ?_
  intro k hk L hL1
  refine v9 ?_
  obtain ⟨hk1,hk2⟩ :=hk
  refine S5 ?_;refine cZ (fun c2=> ?_) (fun c2=> ?_)
  ·have hlt:k<n:=Om
   obtain ⟨bb,oo,Ak,ck,rfl,hbB,hcell,hpts,hmax⟩ :=h.at_ hlt
   have hsum:=YU (show k≤rs.length by omega) hk2
   refine S7 ?_;refine a9 (jk J J JW J (OX hcell hbB)) ?_;refine S1 ?_;refine aL (fun b2=> ?_);refine N7 ?_;refine a9 (jG Xu J J (fun w1 hs=>BQ Ak _ ck (rg rs k) w1 (hpts.over hs.fin))) ?_;refine S2 ?_;refine cZ (fun c3=> ?_) (fun c3=> ?_)
   ·refine S11 ?_;refine jJ J (.tmp J) ?_
    intro w' hs
    exact⟨QH (UM (show k<rs.length by omega) c3).symm,hs.fin⟩
   ·have hp:=Qz c3
    have he:=KB (rg rs k) (rg rs k).length
    have hs2: (Qe rs (k+1)).length= (Qe rs k).length+ (qf (rg rs k)).length:=jid
    have he': (qf (rg rs k)).length≤(rg rs k).length:=he
    refine S6 ?_;refine JQ uK (v:=fun x=> .slice x.1 _ x.2) (r:=fun x=>JS 0 96 4 _ _ x) (H:=fun _=>True) J J J (lb J) (fun w1 hs=>qI (wm Ak _ ck (rg rs k) w1 (hpts.over hs.fin) Om)) ?_
    rintro⟨eA,ec⟩ -
    refine N10 ?_
    exact qa hL1 (k+1) (⟨by omega,X2 Om hk2 c3⟩) Om ⟨vi (by rw [hs2];omega),vi Om,sz⟩ (u9 J)
  ·have hkn:k=n:=Om
   refine S12 ?_;refine jJ J (.tmp J) ?_
   intro w' hs
   have ha:rs.all q6=true:= (by rw [jiu Om] at hk2;exact hk2)
   exact⟨QH (by rw [Ut Om ha];unfold Jw;rw [hl,←hkn];exact decide_eq_decide.2 Om),hs.fin⟩
theorem Gy (b1 o1:Nat) (A:Option Addr) (n c:Nat) (rs:List Jp) (w:World) (hcell:w.cell? ⟨b1,o1,none⟩ =some (.slice A n c)) (hb1:b1<w.heap.size) (h:Rings w A n rs) (hm: (n:Int)≤9223372036854775807) :
  Calls Tryz.prog 46 #[.pointer (some ⟨b1,o1,none⟩)] w fun e w'=>e= .returned (.bool (J0 rs))∧Over w w':=by
 have hl:=h.1
 refine jK (m:=31) (Tryz.func46) J J (lb J) ?_;refine S10 ?_;refine a9 (jq J J J3 (kH hcell hb1)) ?_;refine S3 ?_;refine cZ (fun c1=> ?_) (fun c1=> ?_)
 ·refine S6 ?_;refine jJ J (.tmp J) ?_
  intro w' hs
  exact⟨QH (uW Om).symm,hs.fin⟩
 ·have h40:n≤40:=Om
  refine S8 ?_;refine qj (X:=Nat) (fun k=>k≤n∧(rs.take k).all q6=true) (fun k=>n- k) (fun k=> [(3, .int .i64 (k:Int))]) (kK [0,2]) 0 (⟨jie _,J⟩) ⟨J,sz⟩ ?_
  intro k hk L hL1
  refine v9 ?_
  obtain ⟨hk1,hk2⟩ :=hk
  refine S7 ?_;refine a9 (jq J J J3 (kH hcell hb1)) ?_;refine S3 ?_;refine cZ (fun c2=> ?_) (fun c2=> ?_)
  ·have hlt:k<n:=Om
   obtain ⟨bb,oo,Ak,ck,rfl,hbB,hcl,hpts,hmax⟩ :=h.at_ hlt
   refine S9 ?_;refine a9 (jq J J J3 (kH hcell hb1)) ?_;refine S2 ?_;refine a9 (jG LL J J (fun w1 hs=>SU bb (oo+k*1) Ak _ ck (rg rs k) w1 (by rw [jja];exact Qb hcl hbB w1 hs) (jio hbB hs.fin.size) (hpts.over hs.fin))) ?_;refine S2 ?_;refine cZ (fun c3=> ?_) (fun c3=> ?_)
   ·refine S10 ?_;refine jJ J (.tmp J) ?_
    intro w' hs
    exact⟨QH (UM (show k<rs.length by omega) c3).symm,hs.fin⟩
   ·refine S8 ?_
    exact qa hL1 (k+1) (⟨by omega,X2 Om hk2 c3⟩) Om ⟨vi Om,sz⟩ (u9 J)
  ·have hkn:k=n:=Om
   have ha:rs.all q6=true:= (by rw [jiu Om] at hk2;exact hk2)
   have hsm:=Ld ha rs.length (jif _)
   have htot: (total rs:Int)≤1048577:= (by unfold total;omega)
   have hal:=YU (rs:=rs) (k:=rs.length) (jif _) (by rw [jiM];exact ha)
   refine S9 ?_;refine JQ Vr (v:=fun x=> .slice x.1 _ x.2) (r:=fun x=>JS 0 147 4 _ _ x) (H:=fun _=>True) J J J (lb J) (fun w1 hs=>qI ((xh b1 o1 A n c rs w1 (Qb hcell hb1 w1 hs) (jio hb1 hs.fin.size) (h.over hs.fin) htot).mono fun e w' ⟨v,h1,_,h2,h3⟩ =>⟨v,h1,h2,h3⟩)) ?_
   rintro⟨eA,ec⟩ -
   refine N5 ?_;refine jJ J (.tmp J) ?_
   intro w' hs
   exact⟨QH (by rw [Ut Om ha];exact decide_eq_decide.2 Om),hs.fin⟩
def Wf (xs:List Pn) (k:Nat) :List Pn:= (qZ xs k).map lA
def vc (xs:List Pn) :List Pn:=Wf xs xs.length
theorem IA:∀ {es:List (Pn×Pn)} {p q:Pn},Lk es p→Lk (es++ [(p,q)]) q
 | [],_,_,_=>rfl
 | [e],p,q,h=>⟨h,rfl⟩
 | e::f::l,p,q,h=>⟨h.1,IA (es:=f::l) h.2⟩
def NY (l:Leg) :Pn×Pn:= (lA l,lB l)
theorem Sj {xs:List Pn} :∀k,k<xs.length→Lk ((qZ xs k).map NY) (pt xs k)∧((qZ xs k) = []→pt xs k=pt xs 0)∧(∀e,((qZ xs k).map NY).head?=some e→e.1=pt xs 0)
 | 0,_=>⟨trivial,fun _=>rfl,fun e h=>by cases h⟩
 | k+1,hk=>by
  obtain ⟨h1,h2,h3⟩ :=Sj (xs:=xs) k Om
  have hn:nx xs k=k+1:=jju hk
  rw [Kx]
  split
  ·rename_i h
   have e:pt xs k=pt xs (k+1) :=by rw [hn] at h;exact Prod.ext h.1 h.2
   exact⟨e▸h1,fun h'=>e▸h2 h',h3⟩
  ·rw [jiG,hn]
   refine⟨IA h1,fun h'=>by simp at h',fun e he=> ?_⟩
   cases hE:qZ xs k with
   | nil=>
    rw [hE] at he
    have: (pt xs k,pt xs (k+1)) =e:=Option.some.inj he
    rw [←this]
    exact h2 hE
   | cons a l=>
    rw [hE] at he h3
    exact h3 e (by simpa using he)
theorem DP (h0:0<xs.length) :Lk ((qf xs).map NY) (pt xs 0)∧∀e,((qf xs).map NY).head?=some e→e.1=pt xs 0:=by
 obtain ⟨m,hm⟩ :∃m,xs.length=m+1:=⟨xs.length- 1,by omega⟩
 obtain ⟨h1,h2,h3⟩ :=Sj (xs:=xs) m Om
 have hn:nx xs m=0:=by unfold nx;rw [hm,Nat.mod_self]
 unfold qf
 rw [hm,Kx]
 split
 ·rename_i h
  have e:pt xs m=pt xs 0:=by rw [hn] at h;exact Prod.ext h.1 h.2
  exact⟨e▸h1,h3⟩
 ·rw [jiG,hn]
  refine⟨IA h1,fun e he=> ?_⟩
  cases hE:qZ xs m with
  | nil=>
   rw [hE] at he
   have: (pt xs m,pt xs 0) =e:=Option.some.inj he
   rw [←this]
   exact h2 hE
  | cons a l=>
   rw [hE] at he h3
   exact h3 e (by simpa using he)
theorem jcp:∀ {es:List (Pn×Pn)} {z:Pn},Lk es z→(∀i (h:i+1<es.length),(es[i]'(by omega)).2=es[i+1].1)∧(∀h:0<es.length,(es[es.length- 1]'(by omega)).2=z)
 | [],_,_=>⟨fun i h=>absurd h (by simp),fun h=>absurd h (by simp)⟩
 | [e],z,hl=>⟨fun i h=>absurd h (by simp),fun _=>hl⟩
 | e::f::l,z,hl=>by
  obtain ⟨g1,g2⟩ :=jcp (es:=f::l) hl.2
  refine⟨fun i h=> ?_,fun _=> ?_⟩
  ·cases i with
   | zero=>exact hl.1
   | succ i=>have:=g1 i (by simpa using h);simpa using this
  ·have:=g2 (by simp)
   simpa using this
theorem jd9 {z:Pn} (h1:Lk es z) (h2:∀e,es.head?=some e→e.1=z) (hall:∀d∈es,d.1≠d.2) (hk:0<es.length) :bare (es.map (·.1)) :=by
 obtain ⟨g1,g2⟩ :=jcp h1
 have hp:∀j (hj:j<es.length),pt (es.map (·.1)) j=es[j].1:=fun j hj=>by
  rw [←kB (by simpa using hj)]
  simp
 refine⟨by simpa using hk,fun j hj=> ?_⟩
 rw [jip] at hj
 rw [hp j hj]
 by_cases hj1:j+1<es.length
 ·rw [show nx (es.map (·.1)) j=j+1 from jju (by simpa using hj1),hp _ hj1,←g1 j hj1]
  exact hall _ (jir _)
 ·have hjn:j+1=es.length:=by omega
  rw [show nx (es.map (·.1)) j=0 by unfold nx;rw [jip,hjn,Nat.mod_self],hp 0 hk]
  have hz: (es[0]'hk).1=z:=h2 _ (by cases es with | nil=>simp at hk | cons a l=>rfl)
  rw [hz,←g2 hk]
  have:es.length- 1=j:=by omega
  simp only [this]
  exact hall _ (jir _)
theorem DZ (h0:0<xs.length) (hk:0< (vc xs).length) :bare (vc xs) :=by
 obtain ⟨h1,h2⟩ :=DP h0
 have hne:=yZ xs xs.length
 have hne':∀l∈qf xs,lA l≠lB l:=hne
 have e:vc xs= ((qf xs).map NY).map (·.1) :=by unfold vc Wf qf;rw [List.map_map];rfl
 have hall:∀d∈(qf xs).map NY,d.1≠d.2:=fun d hd=>by
  obtain ⟨l,hl,rfl⟩ :=jiD.1 hd
  exact hne' l hl
 rw [e] at hk⊢
 rw [jip] at hk
 exact jd9 h1 h2 hall hk
def vg (rs:List Jp) (k:Nat) :List Jp:= ((rs.take k).map vc).filter fun r=>decide (0<r.length)
def qh (rs:List Jp) :List Jp:=vg rs rs.length
theorem yP (hk:k<rs.length) (h:0< (vc (rg rs k)).length) :vg rs (k+1) =vg rs k++ [vc (rg rs k)] :=by
 unfold vg
 rw [wU hk,jiG,jjK]
 simp [h]
theorem Zl (hk:k<rs.length) (h:¬0< (vc (rg rs k)).length) :vg rs (k+1) =vg rs k:=by
 unfold vg
 rw [wU hk,jiG,jjK]
 have: (vc (rg rs k)).length=0:=by omega
 simp [jiE this]
theorem Z4 (rs:List Jp) (k:Nat) : (vg rs k).length≤rs.length:=by
 unfold vg
 refine jiY (jjL _ _) ?_
 rw [jip,jim]
 omega
theorem Z5 {r:Jp} (h:r∈vg rs k) :0<r.length∧∃q∈rs,vc q=r:=by
 unfold vg at h
 rw [jjT] at h
 obtain ⟨q,hq,e⟩ :=jiD.1 h.1
 exact⟨by simpa using h.2,q,jiL hq,e⟩
theorem SN (xs:List Pn) (k:Nat) : (Wf xs k).length≤k:=by
 unfold Wf
 rw [jip]
 exact KB xs k
theorem M1 (h:pt xs k≠pt xs (nx xs k)) :Wf xs (k+1) =Wf xs k++ [pt xs k] :=by
 unfold Wf
 rw [Kx,if_neg (fun e=>h (Prod.ext e.1 e.2)),jiG]
 rfl
theorem DY (h:pt xs k=pt xs (nx xs k)) :Wf xs (k+1) =Wf xs k:=by
 unfold Wf
 simp only [pt] at h
 injection h with h1 h2
 rw [Kx,if_pos ⟨h1,h2⟩]
end Go.Proofs.YtbahojdbmmjkcaaGreat
