import Derived.Test.YtbahojdbmmjkcaaGreatPPathR
import Derived.Test.YtbahojdbmmjkcaaGreatPSnapped
import Derived.Test.YtbahojdbmmjkcaaGreatPReg3
import Derived.Test.YtbahojdbmmjkcaaGreatPTo
set_option linter.unusedVariables false
set_option linter.unusedSimpArgs false
namespace Go.Proofs.YtbahojdbmmjkcaaGreat
open Go Go.RowKit
variable {a b p:Pn} {es:List (Pn×Pn)} {hot xs:List Pn} {k:Nat} {rs:List jK} {s x:Sp} {u v:Int}
set_option maxRecDepth 100000
set_option maxHeartbeats 4000000
def lowOk (s:Sp) (u v:Int) :Prop:=s.ln*v<u*s.ld∨(s.ln*v=u*s.ld∧s.lc=true)
def highOk (s:Sp) (u v:Int) :Prop:=u*s.hd<s.hn*v∨(u*s.hd=s.hn*v∧s.hc=true)
def Y0 (s:Sp) (u v:Int) :Prop:=lowOk s u v∧highOk s u v
theorem lowOk.le (h:lowOk s u v) :s.ln*v≤u*s.ld:=by rcases h with h |⟨h,_⟩ <;>omega
theorem highOk.le (h:highOk s u v) :u*s.hd≤s.hn*v:=by rcases h with h |⟨h,_⟩ <;>omega
theorem jaO (hs:0<s.ld) (hx:0<x.ld) (hv:0<v) :lowOk (qN s x) u v↔lowOk s u v∧lowOk x u v:=by
 unfold qN
 split
 ·rename_i h
  have e:lowOk {s with ln:=x.ln,ld:=x.ld,lc:=x.lc} u v=lowOk x u v:=rfl
  rw [e]
  refine⟨fun hx'=>⟨?_,hx'⟩,fun h=>h.2⟩
  simp only [uj,jhg,jgy,decide_eq_true_eq,jhe] at h
  rcases h with h |⟨h,ho⟩
  ·exact .inl (Vq hx hs hv Om hx'.le)
  ·rcases hx' with h' |⟨_,h'⟩
   ·exact .inl (KZ hx hs hv Om h')
   ·rw [ho] at h';cases h'
 ·rename_i h
  refine⟨fun h'=>⟨h',?_⟩,fun h=>h.1⟩
  simp only [uj,jhg,jgy,decide_eq_true_eq,jhe,not_or,not_and,Bool.not_eq_false] at h
  obtain ⟨g1,g2⟩ :=h
  rcases h' with h' |⟨h',hc⟩
  ·exact .inl (KZ hs hx hv Om h')
  ·by_cases g:x.ln*s.ld<s.ln*x.ld
   ·exact .inl (Vq hs hx hv g Om)
   ·have l1:=vM (a:=x.ln) (b:=x.ld) (c:=s.ln) (d:=s.ld) (e:=u) (f:=v) hs hx hv Om Om
    have l2:=vM (a:=u) (b:=v) (c:=s.ln) (d:=s.ld) (e:=x.ln) (f:=x.ld) hs hv hx Om Om
    exact .inr ⟨by omega,g2 Om⟩
theorem Ci (hs:0<s.hd) (hx:0<x.hd) (hv:0<v) :highOk (QV s x) u v↔highOk s u v∧highOk x u v:=by
 unfold QV
 split
 ·rename_i h
  have e:highOk {s with hn:=x.hn,hd:=x.hd,hc:=x.hc} u v=highOk x u v:=rfl
  rw [e]
  refine⟨fun hx'=>⟨?_,hx'⟩,fun h=>h.2⟩
  simp only [wn,jhg,jgy,decide_eq_true_eq,jhe] at h
  rcases h with h |⟨h,ho⟩
  ·exact .inl (KZ hx hv hs hx'.le Om)
  ·rcases hx' with h' |⟨_,h'⟩
   ·exact .inl (Vq hx hv hs h' Om)
   ·rw [ho] at h';cases h'
 ·rename_i h
  refine⟨fun h'=>⟨h',?_⟩,fun h=>h.1⟩
  simp only [wn,jhg,jgy,decide_eq_true_eq,jhe,not_or,not_and,Bool.not_eq_false] at h
  obtain ⟨g1,g2⟩ :=h
  rcases h' with h' |⟨h',hc⟩
  ·exact .inl (Vq hs hv hx h' Om)
  ·by_cases g:s.hn*x.hd<x.hn*s.hd
   ·exact .inl (KZ hs hv hx Om g)
   ·have l1:=vM (a:=u) (b:=v) (c:=s.hn) (d:=s.hd) (e:=x.hn) (f:=x.hd) hs hv hx Om Om
    have l2:=vM (a:=x.hn) (b:=x.hd) (c:=s.hn) (d:=s.hd) (e:=u) (f:=v) hs hx hv Om Om
    exact .inr ⟨by omega,g2 Om⟩
theorem je3 :lowOk (QV s x) u v↔lowOk s u v:=by unfold QV;split<;>exact Iff.rfl
theorem jc2 :highOk (qN s x) u v↔highOk s u v:=by unfold qN;split<;>exact Iff.rfl
theorem U5 (hs:0<s.ld∧0<s.hd) (hx:0<x.ld∧0<x.hd) (hv:0<v) :Y0 (J3 s x) u v↔Y0 s u v∧Y0 x u v:=by
 unfold Y0 J3
 rw [je3,jaO hs.1 hx.1 hv,Ci (YZ hs hx).2 hx.2 hv,jc2]
 constructor
 ·rintro⟨⟨h1,h2⟩,h3,h4⟩;exact⟨⟨h1,h3⟩,h2,h4⟩
 ·rintro⟨⟨h1,h3⟩,h2,h4⟩;exact⟨⟨h1,h2⟩,h3,h4⟩
theorem Fi :Y0 Wi u v↔0≤u∧u≤v:=by
 unfold Y0 lowOk highOk Wi
 simp only [jhE,jhU,Int.one_mul,and_true]
 omega
def zT (f d lo u v:Int) :Prop:=lo*v≤f*v+u*d∧f*v+u*d< (lo+2) *v
theorem Ut {f d lo:Int} (hv:0<v) (h0:0≤u) (h1:u≤v) : (Kk f d lo=true∧Y0 (QD f d lo) u v)↔zT f d lo u v:=by
 have e1: (lo+2) *v=lo*v+2*v:=Int.add_mul ..
 by_cases hd:0<d
 ·have hp:Kk f d lo=true:=by unfold Kk;rw [decide_eq_false Om];rfl
  have e2: (lo- f) *v=lo*v- f*v:=Int.sub_mul ..
  have e3: (lo+2- f) *v=lo*v+2*v- f*v:=by rw [Int.sub_mul,Int.add_mul]
  rw [hp]
  unfold QD
  rw [if_pos hd]
  unfold Y0 lowOk highOk zT
  simp only [true_and,and_true,jhr,and_false,or_false]
  rw [e1,e2,e3]
  omega
 ·by_cases hn:d<0
  ·have hp:Kk f d lo=true:=by unfold Kk;rw [decide_eq_false Om];rfl
   have e2: (f- lo) *v=f*v- lo*v:=Int.sub_mul ..
   have e3: (f- lo- 2) *v=f*v- lo*v- 2*v:=by rw [Int.sub_mul,Int.sub_mul]
   have e4:u* (-d) = -(u*d) :=Int.mul_neg ..
   rw [hp]
   unfold QD
   rw [if_neg hd,if_pos hn]
   unfold Y0 lowOk highOk zT
   simp only [true_and,and_true,jhr,and_false,or_false]
   rw [e1,e2,e3,e4]
   omega
  ·obtain rfl:d=0:=by omega
   rw [Vx,Fi]
   unfold Kk zT
   rw [Int.mul_zero,Int.add_zero]
   simp only [decide_true,Bool.not_true,Bool.false_or,jgy,decide_eq_true_eq]
   constructor
   ·rintro⟨⟨g1,g2⟩,_⟩
    exact⟨jgz g1 Om,jg6 g2 hv⟩
   ·rintro⟨g1,g2⟩
    exact⟨⟨jg8 g1 hv,jhl g2 Om⟩,h0,h1⟩
theorem H5 (hs:0<s.ld∧0<s.hd) (h:K5 s=true) :∃u v,0<v∧Y0 s u v:=by
 simp only [K5,jhg,jgy,decide_eq_true_eq] at h
 rcases h with h |⟨⟨h,h1⟩,h2⟩
 ·have p:=jhm hs.1 hs.2
  refine⟨s.ln*s.hd+s.hn*s.ld,2* (s.ld*s.hd),by omega, .inl ?_, .inl ?_⟩
  ·have:=jg6 (show s.ln*s.hd<s.hn*s.ld by omega) hs.1
   have e1:s.ln* (2* (s.ld*s.hd)) =2* (s.ln*s.hd*s.ld) :=by grind
   have e2: (s.ln*s.hd+s.hn*s.ld) *s.ld=s.ln*s.hd*s.ld+s.hn*s.ld*s.ld:=Int.add_mul ..
   rw [e1,e2]
   omega
  ·have:=jg6 (show s.ln*s.hd<s.hn*s.ld by omega) hs.2
   have e1:s.hn* (2* (s.ld*s.hd)) =2* (s.hn*s.ld*s.hd) :=by grind
   have e2: (s.ln*s.hd+s.hn*s.ld) *s.hd=s.ln*s.hd*s.hd+s.hn*s.ld*s.hd:=Int.add_mul ..
   rw [e1,e2]
   omega
 ·exact⟨s.ln,s.ld,hs.1, .inr ⟨rfl,h1⟩, .inr ⟨by omega,h2⟩⟩
theorem jaX (hs:0<s.ld∧0<s.hd) (hv:0<v) (h:Y0 s u v) :K5 s=true:=by
 simp only [K5,jhg,jgy,decide_eq_true_eq]
 obtain ⟨h1,h2⟩ :=h
 by_cases g1:s.ln*v<u*s.ld
 ·have:=Vq (a:=s.ln) (b:=s.ld) (c:=u) (d:=v) (e:=s.hn) (f:=s.hd) hv hs.1 hs.2 g1 h2.le
  exact .inl Om
 ·by_cases g2:u*s.hd<s.hn*v
  ·have:=KZ (a:=s.ln) (b:=s.ld) (c:=u) (d:=v) (e:=s.hn) (f:=s.hd) hv hs.1 hs.2 h1.le g2
   exact .inl Om
  ·have l1:=vM (a:=s.ln) (b:=s.ld) (c:=u) (d:=v) (e:=s.hn) (f:=s.hd) hv hs.1 hs.2 h1.le h2.le
   have k1:=h1.resolve_left g1
   have k2:=h2.resolve_left g2
   have l2:=vM (a:=s.hn) (b:=s.hd) (c:=u) (d:=v) (e:=s.ln) (f:=s.ld) hv hs.2 hs.1 Om Om
   exact .inr ⟨⟨by omega,k1.2⟩,k2.2⟩
def wB (a b p:Pn) (u v:Int) :Prop:=zT (2*a.1) (2* (b.1- a.1)) (2*p.1- 1) u v∧zT (2*a.2) (2* (b.2- a.2)) (2*p.2- 1) u v
theorem Vd (hv:0<v) (h:WZ a b p=true) :Y0 (J4 a b p) u v↔(0≤u∧u≤v)∧wB a b p u v:=by
 unfold WZ xt at h
 simp only [jgy] at h
 unfold J4 wB
 rw [U5 (Ku uu (kB _ _ _)) (kB _ _ _) hv,U5 uu (kB _ _ _) hv,Fi]
 constructor
 ·rintro⟨⟨⟨h0,h1⟩,h2⟩,h3⟩
  exact⟨⟨h0,h1⟩,(Ut hv h0 h1).1 ⟨h.1.1,h2⟩,(Ut hv h0 h1).1 ⟨h.1.2,h3⟩⟩
 ·rintro⟨⟨h0,h1⟩,h2,h3⟩
  exact⟨⟨⟨h0,h1⟩,((Ut hv h0 h1).2 h2).2⟩,((Ut hv h0 h1).2 h3).2⟩
theorem DV (hv:0<v) (h0:0≤u) (h1:u≤v) (h:wB a b p u v) :WZ a b p=true:=by
 have hx:= (Ut hv h0 h1).2 h.1
 have hy:= (Ut hv h0 h1).2 h.2
 have hm:Y0 (J4 a b p) u v:=by
  unfold J4
  rw [U5 (Ku uu (kB _ _ _)) (kB _ _ _) hv,U5 uu (kB _ _ _) hv,Fi]
  exact⟨⟨⟨h0,h1⟩,hx.2⟩,hy.2⟩
 have:=jaX (Vc a b p) hv hm
 unfold WZ xt
 rw [hx.1,hy.1]
 exact this
theorem U0 {q:Pn} (hv:0<v) (h:wB a b p u v) (h':wB a b q u v) :p=q:=by
 have key:∀ {f d m n:Int},zT f d (2*m- 1) u v→zT f d (2*n- 1) u v→¬m<n:=by
  intro f d m n g g' hmn
  have:=jgz (show 2*m- 1+2≤2*n- 1 by omega) (show 0≤v by omega)
  have g2:=g.2
  have g1':=g'.1
  omega
 have x1:=key h.1 h'.1
 have x2:=key h'.1 h.1
 have y1:=key h.2 h'.2
 have y2:=key h'.2 h.2
 exact Prod.ext Om Om
theorem SS (a b:Pn) :wB a b a 0 1:=by
 unfold wB zT
 simp only [jhU,jhE,Int.add_zero]
 omega
theorem jat (a b:Pn) :wB a b b 1 1:=by
 unfold wB zT
 simp only [jhU,Int.one_mul]
 omega
theorem jay (a b:Pn) :WZ a b a=true:=DV Dc Dc Dc (SS a b)
theorem jaz (a b:Pn) :WZ a b b=true:=DV Dc Dc Dc (jat a b)
theorem MS :zm s x=true↔s.ln*x.ld<x.ln*s.ld∨(s.ln*x.ld=x.ln*s.ld∧s.lc=true∧x.lc=false) :=by
 simp only [zm,jhg,jgy,decide_eq_true_eq,jhe]
 constructor
 ·rintro(h |⟨⟨h1,h2⟩,h3⟩)
  ·exact .inl Om
  ·exact .inr ⟨by omega,h2,h3⟩
 ·rintro(h |⟨h1,h2,h3⟩)
  ·exact .inl Om
  ·exact .inr ⟨⟨by omega,h2⟩,h3⟩
theorem Ry (hs:0<s.ld) (hx:0<x.ld) (h:0≤s.ln) :0≤(J3 s x).ln:=by
 have e: (J3 s x).ln= (qN s x).ln:=by unfold J3 QV;split<;>rfl
 rw [e]
 unfold qN
 split
 ·rename_i h'
  simp only [uj,jhg,jgy,decide_eq_true_eq,jhe] at h'
  have h1:s.ln*x.ld≤x.ln*s.ld:=by rcases h' with h' |⟨h',_⟩ <;>omega
  have h2:0≤s.ln*x.ld:=jg9 h Om
  show 0≤x.ln
  refine jhG.1 fun hn=> ?_
  have:=jhI hn hs
  omega
 ·exact h
theorem BW (a b p:Pn) :0≤(J4 a b p).ln:=
 Ry (Ku uu (kB _ _ _)).1 (kB _ _ _).1 (Ry uu.1 (kB _ _ _).1 Dc)
theorem Tz (hi:WZ a b p=true) (hne:p≠a) :VW a b a p=true:=by
 have ha:=jay a b
 have ma:Y0 (J4 a b a) 0 1:= (Vd Dc ha).2 ⟨⟨by decide,by decide⟩,SS a b⟩
 have ua:=BW a b a
 have up:=BW a b p
 have pa:=Vc a b a
 have pp:=Vc a b p
 have l0: (J4 a b a).ln=0∧(J4 a b a).lc=true:=by
  have:=ma.1
  unfold lowOk at this
  simp only [jhU,jhE] at this
  rcases this with h |⟨h,hc⟩
  ·omega
  ·exact⟨h,hc⟩
 unfold VW
 rw [MS,l0.1,l0.2,jhE]
 by_cases h:0< (J4 a b p).ln
 ·exact .inl (jhm h pa.1)
 ·have e: (J4 a b p).ln=0:=by omega
  rw [e,jhE]
  refine .inr ⟨J,J,?_⟩
  cases hc: (J4 a b p).lc with
  | false=>rfl
  | true=>
   have hn:K5 (J4 a b p) =true:=by unfold WZ xt at hi;simp only [jgy] at hi;exact hi.2
   obtain ⟨u,v,hv,hm⟩ :=H5 pp hn
   have h0:= (Vd hv hi).1 hm
   have hh:highOk (J4 a b p) 0 1:=by
    have:=hm.2
    unfold highOk at this⊢
    simp only [jhE,jhU]
    have q1:0≤u* (J4 a b p).hd:=jg9 h0.1.1 Om
    by_cases g:0< (J4 a b p).hn
    ·exact .inl g
    ·have q2: (J4 a b p).hn*v≤0:=Int.mul_nonpos_of_nonpos_of_nonneg Om Om
     rcases this with h' |⟨h',hc'⟩
     ·omega
     ·refine .inr ⟨?_,hc'⟩
      have: (J4 a b p).hn*v=0:=by omega
      rcases Int.mul_eq_zero.1 this with h' | h'<;>omega
   have m0:Y0 (J4 a b p) 0 1:=⟨.inr ⟨by rw [e];simp,hc⟩,hh⟩
   exact absurd (U0 Dc ((Vd Dc hi).1 m0).2 (SS a b)) hne
theorem C3 (hi:WZ a b p=true) (hne:p≠b) :VW a b p b=true:=by
 have hb:=jaz a b
 have mb:Y0 (J4 a b b) 1 1:= (Vd Dc hb).2 ⟨⟨by decide,by decide⟩,jat a b⟩
 have pb:=Vc a b b
 have pp:=Vc a b p
 rcases Bool.eq_false_or_eq_true (VW a b p b) with h | h
 ·exact h
 ·exfalso
  have hns:¬((J4 a b p).ln* (J4 a b b).ld< (J4 a b b).ln* (J4 a b p).ld∨((J4 a b p).ln* (J4 a b b).ld= (J4 a b b).ln* (J4 a b p).ld∧(J4 a b p).lc=true∧(J4 a b b).lc=false)) :=fun h'=>by
   have:=MS.2 h'
   unfold VW at h
   rw [h] at this
   cases this
  have hle: (J4 a b b).ln* (J4 a b p).ld≤(J4 a b p).ln* (J4 a b b).ld:=jhG.1 fun h'=>hns (.inl h')
  have hn:K5 (J4 a b p) =true:=by unfold WZ xt at hi;simp only [jgy] at hi;exact hi.2
  obtain ⟨u,v,hv,hm⟩ :=H5 pp hn
  have h0:= (Vd hv hi).1 hm
  have hlow:lowOk (J4 a b b) u v:=by
   by_cases g: (J4 a b p).ln*v<u* (J4 a b p).ld
   ·exact .inl (KZ pp.1 pb.1 hv hle g)
   ·obtain ⟨g1,g2⟩ :=hm.1.resolve_left g
    by_cases k: (J4 a b b).ln* (J4 a b p).ld< (J4 a b p).ln* (J4 a b b).ld
    ·exact .inl (Vq pp.1 pb.1 hv k Om)
    ·have l1:=vM (a:= (J4 a b b).ln) (b:= (J4 a b b).ld) (c:= (J4 a b p).ln) (d:= (J4 a b p).ld) (e:=u) (f:=v) pp.1 pb.1 hv Om Om
     have l2:=vM (a:=u) (b:=v) (c:= (J4 a b p).ln) (d:= (J4 a b p).ld) (e:= (J4 a b b).ln) (f:= (J4 a b b).ld) pp.1 hv pb.1 Om Om
     refine .inr ⟨by omega,?_⟩
     cases hc: (J4 a b b).lc with
     | true=>rfl
     | false=>exact absurd (.inr ⟨by omega,g2,hc⟩) hns
  have hhigh:highOk (J4 a b b) u v:=by
   have:=mb.2
   unfold highOk at this⊢
   simp only [Int.one_mul,jhU] at this
   have e:v* (J4 a b b).hd= (J4 a b b).hd*v:=jha ..
   by_cases g:u<v
   ·have q:=jg6 g pb.2
    have q2: (J4 a b b).hd*v≤(J4 a b b).hn*v:=jgz Om Om
    exact .inl Om
   ·obtain rfl:u=v:=by have:=h0.1.2;omega
    rcases this with h' |⟨h',hc⟩
    ·have q2:=jg6 h' hv
     exact .inl Om
    ·exact .inr ⟨by rw [h',jha],hc⟩
  exact hne (U0 hv h0.2 ((Vd hv hb).1 ⟨hlow,hhigh⟩).2)
theorem jdu (a b:Pn) :KK a b a=true:=U9 (xf Om Om) (YG Om Om) (jay a b)
theorem jdv (a b:Pn) :KK a b b=true:=U9 (xf Om Om) (YG Om Om) (jaz a b)
theorem Ga (h:KK a b p=true) :WZ a b p=true:=by unfold KK at h;simp only [jgy] at h;exact h.2
theorem wj :p∈Qi a b hot↔p∈hot∧KK a b p=true:=by
 rw [W3,Vf,zN,jh2]
theorem ZT (h:hot.Nodup) : (Qi a b hot).Nodup:=by
 rw [W3]
 unfold Vf
 exact(M0 (lt:=VW a b) (l:=hot.filter (KK a b))).nodup_iff.2 (h.sublist List.filter_sublist)
theorem Gf (hne:a≠b) (ha:a∈hot) (hb:b∈hot) :∃mid,Qi a b hot=a:: (mid++ [b]) :=by
 have ma:a∈Qi a b hot:=wj.2 ⟨ha,jdu a b⟩
 have mb:b∈Qi a b hot:=wj.2 ⟨hb,jdv a b⟩
 have hi:∀p∈Qi a b hot,WZ a b p=true:=fun p hp=>Ga (wj.1 hp).2
 have hs:Ub (VW a b) (Qi a b hot) :=by rw [W3];exact M5 a b hot
 revert ma mb hi hs
 generalize Qi a b hot=S
 intro ma mb hi hs
 cases S with
 | nil=>cases ma
 | cons x T=>
  obtain ⟨h1,h2⟩ :=jg4.1 hs
  have hx:x=a:=Decidable.byContradiction fun hx=>by
   have hT:a∈T:= (jgK.1 ma).resolve_left (fun e=>hx e.symm)
   have:=Tz (hi x (jgZ ..)) hx
   rw [h1 a hT] at this
   cases this
  subst hx
  have hbT:b∈T:= (jgK.1 mb).resolve_left (fun e=>hne e.symm)
  rcases List.eq_nil_or_concat T with rfl |⟨mid,y,rfl⟩
  ·cases hbT
  ·rw [List.concat_eq_append] at*
   have hy:y=b:=Decidable.byContradiction fun hy=>by
    have hm:b∈mid:= (jgL.1 hbT).resolve_right (fun e=>hy (jgC.1 e).symm)
    have:=C3 (hi y (jgP _ (jh1 _ (jgC.2 rfl)))) hy
    rw [(jhS.1 h2).2.2 b hm y (jgC.2 rfl)] at this
    cases this
   exact⟨mid,by rw [hy]⟩
def mkL (e:Pn×Pn) :Leg:=⟨e.1.1,e.1.2,e.2.1,e.2.2⟩
def vz (xs:List Pn) :List (Pn×Pn) := (List.range xs.length).map fun j=> (pt xs j,pt xs (nx xs j))
def bare (xs:List Pn) :Prop:=0<xs.length∧∀j,j<xs.length→pt xs j≠pt xs (nx xs j)
def kt (hot:List Pn) (e:Pn×Pn) :List Pn:= (Qi e.1 e.2 hot).dropLast
def Km (hot xs:List Pn) :List Pn:= (Jy xs).flatMap fun l=>kt hot (lA l,lB l)
theorem xl {xs:List Pn} (h:bare xs) :∀k,k≤xs.length→qI xs k= ((List.range k).map fun j=> (pt xs j,pt xs (nx xs j))).map mkL
 | 0,_=>rfl
 | k+1,hk=>by
  have hne:=h.2 k Om
  rw [Kd,if_neg (fun e=>hne (Prod.ext e.1 e.2)),xl h k Om,List.range_succ,jgS,jgS]
  rfl
theorem vW (h:bare xs) :Jy xs= (vz xs).map mkL:=xl h _ (jgx _)
theorem zk (h:bare xs) :Km hot xs= (vz xs).flatMap (kt hot) :=by
 unfold Km
 rw [vW h,List.flatMap_map]
 rfl
def Lk:List (Pn×Pn)→Pn→Prop
 | [],_=>True
 | [e],z=>e.2=z
 | e::f::l,z=>e.2=f.1∧Lk (f::l) z
theorem jej:∀ {es:List (Pn×Pn)} {z:Pn},(∀i (h:i+1<es.length),(es[i]'(by omega)).2=es[i+1].1)→(∀h:0<es.length,(es[es.length- 1]'(by omega)).2=z)→Lk es z
 | [],_,_,_=>trivial
 | [e],z,_,h2=>h2 (by simp)
 | e::f::l,z,h1,h2=>⟨h1 0 (by simp),jej (fun i h=>by have:=h1 (i+1) (by simpa using h);simpa using this) (fun h=>by have:=h2 (by simp);simpa using this)⟩
theorem WF (xs:List Pn) : (vz xs).length=xs.length:=by simp [vz]
theorem RS :Lk (vz xs) (pt xs 0) :=by
 refine jej (fun i h=> ?_) (fun h=> ?_)
 ·rw [WF] at h
  simp only [vz,jhx,jhY]
  rw [show nx xs i=i+1 from jhM h]
 ·rw [WF] at h
  simp only [vz,jhx,jhY,jgF,List.length_range]
  rw [show nx xs (xs.length- 1) =0 by unfold nx;rw [show xs.length- 1+1=xs.length by omega,Nat.mod_self]]
theorem BU (xs:List Pn) : (vz xs).map (·.1) =xs:=by
 apply jhH
 ·simp [vz]
 ·intro i h1 h2
  simp only [vz,jhx,jhY]
  rw [Kl h2]
def Dis:List Pn→Prop
 | [] =>True
 | [_] =>True
 | p::q::l=>p≠q∧Dis (q::l)
theorem XO:∀ {l:List Pn},l.Nodup→Dis l
 | [],_=>trivial
 | [_],_=>trivial
 | p::q::l,h=>by
  obtain ⟨h1,h2⟩ :=List.nodup_cons.1 h
  exact⟨fun e=>h1 (e▸jgZ ..),XO h2⟩
theorem IV:∀ {A:List Pn} {p:Pn} {B:List Pn},Dis (A++ [p])→Dis (p::B)→Dis (A++p::B)
 | [],_,_,_,h=>h
 | [a],p,B,h,h'=>⟨h.1,h'⟩
 | a::b::A,p,B,h,h'=>⟨h.1,IV (A:=b::A) h.2 h'⟩
theorem jab:∀ {l:List Pn},Dis l→∀j,j+1<l.length→pt l j≠pt l (j+1)
 | [],_,j,h=>absurd h (by simp)
 | [_],_,j,h=>absurd h (by simp)
 | p::q::l,hd,0,_=>hd.1
 | p::q::l,hd,j+1,h=>by
  have:=jab hd.2 j (by simpa using h)
  simpa [pt,px,py] using this
theorem wl {e:Pn×Pn} (h:e.1≠e.2∧e.1∈hot∧e.2∈hot) :∃mid,kt hot e=e.1::mid∧Qi e.1 e.2 hot=kt hot e++ [e.2] :=by
 obtain ⟨mid,hm⟩ :=Gf h.1 h.2.1 h.2.2
 refine⟨mid,?_,?_⟩
 ·unfold kt
  rw [hm,←jg0,List.dropLast_concat]
 ·unfold kt
  rw [hm,←jg0,List.dropLast_concat]
theorem I5 {hot:List Pn} (hnd:hot.Nodup) :∀ {es:List (Pn×Pn)} {e:Pn×Pn} {z:Pn},Lk (e::es) z→(∀d∈e::es,d.1≠d.2∧d.1∈hot∧d.2∈hot)→Dis ((e::es).flatMap (kt hot) ++ [z])∧∃rest,(e::es).flatMap (kt hot) =e.1::rest
 | [],e,z,hl,hm=>by
  obtain ⟨mid,h1,h2⟩ :=wl (hm e (jgZ ..))
  have hz:e.2=z:=hl
  simp only [jgU,List.flatMap_nil,jgW]
  refine⟨?_,mid,h1⟩
  rw [←hz,←h2]
  exact XO (ZT hnd)
 | f::l,e,z,hl,hm=>by
  obtain ⟨mid,h1,h2⟩ :=wl (hm e (jgZ ..))
  obtain ⟨k1,rest,k2⟩ :=I5 hnd (es:=l) (e:=f) (z:=z) hl.2 (fun d hd=>hm d (jgP _ hd))
  rw [jgU]
  refine⟨?_,mid++ (f::l).flatMap (kt hot),by rw [h1];rfl⟩
  rw [jgB]
  rw [k2] at k1⊢
  refine IV (B:=rest++ [z]) ?_ k1
  rw [←hl.1,←h2]
  exact XO (ZT hnd)
theorem XP {hot:List Pn} :∀ {es:List (Pn×Pn)},(∀d∈es,d.1≠d.2∧d.1∈hot∧d.2∈hot)→es.length≤(es.flatMap (kt hot)).length∧((es.flatMap (kt hot)).length=es.length→es.flatMap (kt hot) =es.map (·.1))
 | [],_=>⟨jgx _,fun _=>rfl⟩
 | e::l,h=>by
  obtain ⟨mid,h1,_⟩ :=wl (h e (jgZ ..))
  obtain ⟨g1,g2⟩ :=XP (es:=l) fun d hd=>h d (jgP _ hd)
  rw [jgU,h1,jgv,jgD,jgD]
  refine⟨by omega,fun hle=> ?_⟩
  obtain rfl:mid= [] :=jgX Om
  rw [g2 (by simp only [jgY] at hle;omega),jgM]
  rfl
theorem Xc (hb:bare xs) (hm:∀p∈xs,p∈hot) :∀d∈vz xs,d.1≠d.2∧d.1∈hot∧d.2∈hot:=fun d hd=>by
 obtain ⟨j,hj,rfl⟩ :=jgO.1 hd
 have hj:=jh9.1 hj
 refine⟨hb.2 j hj,hm _ ?_,hm _ ?_⟩
 ·rw [←Kl hj];exact jgH _
 ·have hn:nx xs j<xs.length:=Nat.mod_lt _ hb.1
  show pt xs (nx xs j)∈xs
  rw [←Kl hn];exact jgH _
theorem MQ (h:p∈Km hot xs) :p∈hot:=by
 obtain ⟨l,_,hp⟩ :=jh3.1 h
 exact(wj.1 (List.dropLast_subset _ hp)).1
theorem P4 (hnd:hot.Nodup) :∀ {es:List (Pn×Pn)} {z:Pn},Lk es z→(∀d∈es,d.1≠d.2∧d.1∈hot∧d.2∈hot)→(∀h:0<es.length,(es[0]'h).1=z)→0<es.length→bare (es.flatMap (kt hot))
 | [],_,_,_,_,h=>absurd h (by simp)
 | e::l,z,hlk,hok,h0,hp=>by
  obtain ⟨k1,rest,k2⟩ :=I5 hnd hlk hok
  have he:e.1=z:=h0 hp
  generalize (e::l).flatMap (kt hot) =ys at*
  refine⟨by rw [k2];simp,fun j hj=> ?_⟩
  have hd:=jab k1 j (by simp;omega)
  have e1:pt (ys++ [z]) j=pt ys j:=by simp only [pt,px,py,List.getD_eq_getElem?_getD,List.getElem?_append_left hj]
  rw [e1] at hd
  by_cases hj1:j+1<ys.length
  ·rw [show nx ys j=j+1 from jhM hj1]
   have e2:pt (ys++ [z]) (j+1) =pt ys (j+1) :=by simp only [pt,px,py,List.getD_eq_getElem?_getD,List.getElem?_append_left hj1]
   rwa [e2] at hd
  ·have hjn:j+1=ys.length:=by omega
   rw [show nx ys j=0 by unfold nx;rw [hjn,Nat.mod_self]]
   have e2:pt (ys++ [z]) (j+1) =z:=by
    have e4: (ys++ [z])[j+1]? =some z:=by rw [List.getElem?_append_right Om,hjn,Nat.sub_self];rfl
    simp only [pt,px,py,List.getD_eq_getElem?_getD,e4]
    rfl
   have e3:pt ys 0=z:=by rw [k2,←he];rfl
   rw [e2] at hd
   rwa [e3]
theorem Gs (hnd:hot.Nodup) (hb:bare xs) (hm:∀p∈xs,p∈hot) :bare (Km hot xs)∧xs.length≤(Km hot xs).length∧((Km hot xs).length=xs.length→Km hot xs=xs) :=by
 rw [zk hb]
 have hok:=Xc hb hm
 obtain ⟨g1,g2⟩ :=XP hok
 rw [WF] at g1 g2
 exact⟨P4 hnd RS hok (fun h=>by simp [vz]) (by rw [WF];exact hb.1),g1,fun h=>by rw [g2 h,BU]⟩
def cnt (rs:List jK) :Nat:= (rs.map List.length).sum
def qY (hot:List Pn) (rs:List jK) :List jK:=rs.map (Km hot)
def bareG (hot:List Pn) (rs:List jK) :Prop:=∀r∈rs,bare r∧∀p∈r,p∈hot
theorem bareG.snap (hnd:hot.Nodup) (h:bareG hot rs) :bareG hot (qY hot rs) :=fun r hr=>by
 obtain ⟨q,hq,rfl⟩ :=jgO.1 hr
 exact⟨(Gs hnd (h q hq).1 (h q hq).2).1,fun p hp=>MQ hp⟩
theorem B8 {hot:List Pn} (hnd:hot.Nodup) :∀ {rs:List jK},bareG hot rs→cnt rs≤cnt (qY hot rs)∧(cnt (qY hot rs) =cnt rs→qY hot rs=rs)
 | [],_=>⟨jgx _,fun _=>rfl⟩
 | r::l,h=>by
  obtain ⟨h1,h2⟩ :=h r (jgZ ..)
  obtain ⟨_,g1,g2⟩ :=Gs hnd h1 h2
  obtain ⟨k1,k2⟩ :=B8 hnd (rs:=l) fun q hq=>h q (jgP _ hq)
  have e1:cnt (qY hot (r::l)) = (Km hot r).length+cnt (qY hot l) :=rfl
  have e2:cnt (r::l) =r.length+cnt l:=rfl
  rw [e1,e2]
  refine⟨by omega,fun he=> ?_⟩
  have a1:=g2 Om
  have a2:=k2 Om
  show Km hot r::qY hot l=r::l
  rw [a1,a2]
theorem uH (h:bare xs) : (Jy xs).length=xs.length:=by rw [vW h,jgF,WF]
theorem xj (h:∀r∈rs,bare r) : (Jx rs).length=cnt rs:=by
 have key:∀k,k≤rs.length→(qW rs k).length=cnt (rs.take k) :=by
  intro k
  induction k with
  | zero=>intro _;rfl
  | succ k ih=>
   intro hk
   have hb:bare (rg rs k) :=by have:=h rs[k] (jgH Om);rwa [Vm Om] at this
   show(qW rs k++Jy (rg rs k)).length=_
   rw [jgv,ih Om,uH hb,VA Om]
   simp [cnt]
 have:=key rs.length (jgx _)
 rwa [jhf] at this
theorem SU (A:Option Addr) (n c:Nat) (xs:List (Int×Int)) (w:World) (h:Pts w A n xs) :
  Calls Tryz.prog 152 #[.slice A n c] w fun e w'=>e= .returned (.bool (qG xs))∧Over w w':=by
 have hl:=h.1
 refine jT (m:=15) (Tryz.func152) J J (lb J) ?_;refine S10 ?_;refine cV 6 (fun g1=> ?_) (fun g1=> ?_)
 ·have h1:1≤n:=Om
  refine S8 ?_;refine cV 11 (fun g2=> ?_) (fun g2=> ?_)
  ·have h2:n≤400:=Om
   refine S3 ?_;refine o9 (jJ X3 J J (fun w1 hs=>Xv A n c xs w1 (h.over hs.fin) Om)) ?_;refine S4 ?_;refine jL J (.tmp J) ?_
   intro w' hs
   exact⟨Qs (by unfold qG Z7 uA;rw [hl,decide_eq_true (show(1:Int)≤(n:Int) by omega),decide_eq_true (show(n:Int)≤400 by omega)];rfl),hs.fin⟩
  ·refine S6 ?_;refine jL J (.tmp J) ?_
   intro w' hs
   exact⟨Qs (by unfold qG Z7;rw [hl,decide_eq_false (show¬(n:Int)≤400 by omega),Bool.and_false,jhd]),hs.fin⟩
 ·refine S11 ?_;refine jL J (.tmp J) ?_
  intro w' hs
  exact⟨Qs (by unfold qG Z7;rw [hl,decide_eq_false (show¬(1:Int)≤(n:Int) by omega)];rfl),hs.fin⟩
theorem Ox (A:Option Addr) (n c:Nat) (xs:List (Int×Int)) (w:World) (h:Pts w A n xs) :
  Calls Tryz.prog 97 #[Uv A n c] w fun e w'=>e= .returned (.bool (qG xs))∧Over w w':=by
 refine jT (m:=6) (Tryz.func97) J J (lb J) ?_;refine S3 ?_;refine aX (fun b1=> ?_);refine N6 ?_;refine a9 (jJ Ml J J (fun w1 hs=>SU A n c xs w1 (h.over hs.fin))) ?_;refine S3 ?_;refine jL J (.tmp J) ?_
 intro w' hs
 exact⟨rfl,hs.fin⟩
theorem Rm (b o:Nat) (A:Option Addr) (n c:Nat) (xs:List (Int×Int)) (w:World) (hc:w.cell? ⟨b,o,none⟩ =some (.slice A n c)) (hb:b<w.heap.size) (h:Pts w A n xs) :
  Calls Tryz.prog 95 #[.pointer (some ⟨b,o,none⟩)] w fun e w'=>e= .returned (.bool (qG xs))∧Over w w':=by
 have hl:=h.1
 refine jT (m:=16) (Tryz.func95) J J (lb J) ?_;refine S9 ?_;refine a9 (jl J J JK (Qn hc hb)) ?_;refine S1 ?_;refine a9 (jJ OS J J (fun w1 hs=>Calls.still (U1 (n:Int) 1 400 w1))) ?_;refine S1 ?_;refine cV 9 (fun g1=> ?_) (fun g1=> ?_)
 ·have h2:n≤400:= (by unfold Z7 at g1;simp only [jgy,decide_eq_true_eq] at g1;omega)
  refine S7 ?_;refine o9 (jl J J JK (Qn hc hb)) ?_;refine h9 ?_;refine o9 (jJ xW J J (fun w1 hs=>Ze A n c xs w1 (h.over hs.fin) Om)) ?_;refine S4 ?_;refine jL J (.tmp J) ?_
  intro w' hs
  exact⟨Qs (by unfold qG;rw [hl,g1];rfl),hs.fin⟩
 ·refine S9 ?_;refine jL J (.tmp J) ?_
  intro w' hs
  exact⟨Qs (by unfold qG;rw [hl,g1];rfl),hs.fin⟩
theorem jeA (h:rs.all qG=true) (hk:k<rs.length) :qG (rg rs k) =true:=by
 have:=jhR.1 h rs[k] (jgH hk)
 rwa [Vm hk] at this
theorem YA {rs:List jK} :∀ {k:Nat},k≤rs.length→(rs.take k).all qG=true→(qW rs k).length≤400*k
 | 0,_,_=>jgx _
 | k+1,hk,h=>by
  rw [VA Om,List.all_append,jgy] at h
  have h2:qG (rg rs k) =true:=by simpa using h.2
  have:=YA (k:=k) Om h.1
  have:=qS h2
  have:=Ki (rg rs k) (rg rs k).length
  show(qW rs k++Jy (rg rs k)).length≤_
  rw [jgv]
  unfold Jy
  omega
theorem G5 {rs:List jK} (h:rs.all qG=true) :∀k,k≤rs.length→qD rs k≤400*k
 | 0,_=>jgx _
 | k+1,hk=>by
  have:=G5 h k Om
  have:=qS (jeA h (show k<rs.length by omega))
  rw [qD]
  omega
theorem VX (A:Option Addr) (n c:Nat) (rs:List jK) (w:World) (h:Rings w A n rs) (hm: (n:Int)≤9223372036854775807) :
  Calls Tryz.prog 53 #[qK A n c] w fun e w'=>e= .returned (.bool (JW rs))∧Over w w':=by
 have hl:=h.1
 refine jT (m:=28) (Tryz.func53) J J (lb J) ?_;refine S3 ?_;refine aX (fun b1=> ?_);refine N10 ?_;refine cZ (fun c1=> ?_) (fun c1=> ?_)
 ·refine S6 ?_;refine jL J (.tmp J) ?_
  intro w' hs
  exact⟨Qs (uq Om).symm,hs.fin⟩
 ·have h40:n≤40:=Om
  refine S15 ?_;refine J9 (X:=Nat) (fun k=>k≤n∧(rs.take k).all qG=true) (fun k=>n- k) (fun k=> [(3, .int .i64 ((qW rs k).length:Int)),(13, .int .i64 (k:Int))]) (kK [2,11,12]) 0 (⟨jgw _,J⟩) ⟨J,sz⟩ ?_
  intro k hk L hL1
  refine v9 ?_
  obtain ⟨hk1,hk2⟩ :=hk
  refine S5 ?_;refine cZ (fun c2=> ?_) (fun c2=> ?_)
  ·have hlt:k<n:=Om
   obtain ⟨bb,oo,Ak,ck,rfl,hbB,hcell,hpts,hmax⟩ :=h.at_ hlt
   have hsum:=YA (show k≤rs.length by omega) hk2
   refine S7 ?_;refine a9 (jk J J JB J (uW hcell hbB)) ?_;refine S1 ?_;refine aL (fun b2=> ?_);refine N7 ?_;refine a9 (jJ xP J J (fun w1 hs=>Ox Ak _ ck (rg rs k) w1 (hpts.over hs.fin))) ?_;refine S2 ?_;refine cZ (fun c3=> ?_) (fun c3=> ?_)
   ·refine S11 ?_;refine jL J (.tmp J) ?_
    intro w' hs
    exact⟨Qs (Uu (show k<rs.length by omega) c3).symm,hs.fin⟩
   ·have hp:=qS c3
    have he:=Ki (rg rs k) (rg rs k).length
    have hs2: (qW rs (k+1)).length= (qW rs k).length+ (Jy (rg rs k)).length:=jgv
    have he': (Jy (rg rs k)).length≤(rg rs k).length:=he
    refine S6 ?_;refine JR ka (v:=fun x=> .slice x.1 _ x.2) (r:=fun x=>JQ 0 96 4 _ _ x) (H:=fun _=>True) J J J (lb J) (fun w1 hs=>qJ (kb Ak _ ck (rg rs k) w1 (hpts.over hs.fin) Om)) ?_
    rintro⟨eA,ec⟩ -
    refine N10 ?_
    exact JY hL1 (k+1) (⟨by omega,Xp Om hk2 c3⟩) Om ⟨vi (by rw [hs2];omega),vi Om,sz⟩ (u9 J)
  ·have hkn:k=n:=Om
   refine S12 ?_;refine jL J (.tmp J) ?_
   intro w' hs
   have ha:rs.all qG=true:= (by rw [jgR Om] at hk2;exact hk2)
   exact⟨Qs (by rw [uX Om ha];unfold Jx;rw [hl,←hkn];exact decide_eq_decide.2 Om),hs.fin⟩
theorem XT (b1 o1:Nat) (A:Option Addr) (n c:Nat) (rs:List jK) (w:World) (hcell:w.cell? ⟨b1,o1,none⟩ =some (.slice A n c)) (hb1:b1<w.heap.size) (h:Rings w A n rs) (hm: (n:Int)≤9223372036854775807) :
  Calls Tryz.prog 46 #[.pointer (some ⟨b1,o1,none⟩)] w fun e w'=>e= .returned (.bool (JW rs))∧Over w w':=by
 have hl:=h.1
 refine jT (m:=31) (Tryz.func46) J J (lb J) ?_;refine S10 ?_;refine a9 (jl J J Jz (Qn hcell hb1)) ?_;refine S3 ?_;refine cZ (fun c1=> ?_) (fun c1=> ?_)
 ·refine S6 ?_;refine jL J (.tmp J) ?_
  intro w' hs
  exact⟨Qs (uq Om).symm,hs.fin⟩
 ·have h40:n≤40:=Om
  refine S8 ?_;refine J9 (X:=Nat) (fun k=>k≤n∧(rs.take k).all qG=true) (fun k=>n- k) (fun k=> [(3, .int .i64 (k:Int))]) (kK [0,2]) 0 (⟨jgw _,J⟩) ⟨J,sz⟩ ?_
  intro k hk L hL1
  refine v9 ?_
  obtain ⟨hk1,hk2⟩ :=hk
  refine S7 ?_;refine a9 (jl J J Jz (Qn hcell hb1)) ?_;refine S3 ?_;refine cZ (fun c2=> ?_) (fun c2=> ?_)
  ·have hlt:k<n:=Om
   obtain ⟨bb,oo,Ak,ck,rfl,hbB,hcl,hpts,hmax⟩ :=h.at_ hlt
   refine S9 ?_;refine a9 (jl J J Jz (Qn hcell hb1)) ?_;refine S2 ?_;refine a9 (jJ HK J J (fun w1 hs=>Rm bb (oo+k*1) Ak _ ck (rg rs k) w1 (by rw [jhn];exact qP hcl hbB w1 hs) (jgA hbB hs.fin.size) (hpts.over hs.fin))) ?_;refine S2 ?_;refine cZ (fun c3=> ?_) (fun c3=> ?_)
   ·refine S10 ?_;refine jL J (.tmp J) ?_
    intro w' hs
    exact⟨Qs (Uu (show k<rs.length by omega) c3).symm,hs.fin⟩
   ·refine S8 ?_
    exact JY hL1 (k+1) (⟨by omega,Xp Om hk2 c3⟩) Om ⟨vi Om,sz⟩ (u9 J)
  ·have hkn:k=n:=Om
   have ha:rs.all qG=true:= (by rw [jgR Om] at hk2;exact hk2)
   have hsm:=G5 ha rs.length (jgx _)
   have htot: (total rs:Int)≤1048577:= (by unfold total;omega)
   have hal:=YA (rs:=rs) (k:=rs.length) (jgx _) (by rw [jhf];exact ha)
   refine S9 ?_;refine JR v6 (v:=fun x=> .slice x.1 _ x.2) (r:=fun x=>JQ 0 147 4 _ _ x) (H:=fun _=>True) J J J (lb J) (fun w1 hs=>qJ ((ZG b1 o1 A n c rs w1 (qP hcell hb1 w1 hs) (jgA hb1 hs.fin.size) (h.over hs.fin) htot).mono fun e w' ⟨v,h1,_,h2,h3⟩ =>⟨v,h1,h2,h3⟩)) ?_
   rintro⟨eA,ec⟩ -
   refine N5 ?_;refine jL J (.tmp J) ?_
   intro w' hs
   exact⟨Qs (by rw [uX Om ha];exact decide_eq_decide.2 Om),hs.fin⟩
def wL (xs:List Pn) (k:Nat) :List Pn:= (qI xs k).map lA
def KT (xs:List Pn) :List Pn:=wL xs xs.length
theorem Fc:∀ {es:List (Pn×Pn)} {p q:Pn},Lk es p→Lk (es++ [(p,q)]) q
 | [],_,_,_=>rfl
 | [e],p,q,h=>⟨h,rfl⟩
 | e::f::l,p,q,h=>⟨h.1,Fc (es:=f::l) h.2⟩
def Tc (l:Leg) :Pn×Pn:= (lA l,lB l)
theorem IX {xs:List Pn} :∀k,k<xs.length→Lk ((qI xs k).map Tc) (pt xs k)∧((qI xs k) = []→pt xs k=pt xs 0)∧(∀e,((qI xs k).map Tc).head?=some e→e.1=pt xs 0)
 | 0,_=>⟨trivial,fun _=>rfl,fun e h=>by cases h⟩
 | k+1,hk=>by
  obtain ⟨h1,h2,h3⟩ :=IX (xs:=xs) k Om
  have hn:nx xs k=k+1:=jhM hk
  rw [Kd]
  split
  ·rename_i h
   have e:pt xs k=pt xs (k+1) :=by rw [hn] at h;exact Prod.ext h.1 h.2
   exact⟨e▸h1,fun h'=>e▸h2 h',h3⟩
  ·rw [jgS,hn]
   refine⟨Fc h1,fun h'=>by simp at h',fun e he=> ?_⟩
   cases hE:qI xs k with
   | nil=>
    rw [hE] at he
    have: (pt xs k,pt xs (k+1)) =e:=Option.some.inj he
    rw [←this]
    exact h2 hE
   | cons a l=>
    rw [hE] at he h3
    exact h3 e (by simpa using he)
theorem Bn (h0:0<xs.length) :Lk ((Jy xs).map Tc) (pt xs 0)∧∀e,((Jy xs).map Tc).head?=some e→e.1=pt xs 0:=by
 obtain ⟨m,hm⟩ :∃m,xs.length=m+1:=⟨xs.length- 1,by omega⟩
 obtain ⟨h1,h2,h3⟩ :=IX (xs:=xs) m Om
 have hn:nx xs m=0:=by unfold nx;rw [hm,Nat.mod_self]
 unfold Jy
 rw [hm,Kd]
 split
 ·rename_i h
  have e:pt xs m=pt xs 0:=by rw [hn] at h;exact Prod.ext h.1 h.2
  exact⟨e▸h1,h3⟩
 ·rw [jgS,hn]
  refine⟨Fc h1,fun e he=> ?_⟩
  cases hE:qI xs m with
  | nil=>
   rw [hE] at he
   have: (pt xs m,pt xs 0) =e:=Option.some.inj he
   rw [←this]
   exact h2 hE
  | cons a l=>
   rw [hE] at he h3
   exact h3 e (by simpa using he)
theorem jaM:∀ {es:List (Pn×Pn)} {z:Pn},Lk es z→(∀i (h:i+1<es.length),(es[i]'(by omega)).2=es[i+1].1)∧(∀h:0<es.length,(es[es.length- 1]'(by omega)).2=z)
 | [],_,_=>⟨fun i h=>absurd h (by simp),fun h=>absurd h (by simp)⟩
 | [e],z,hl=>⟨fun i h=>absurd h (by simp),fun _=>hl⟩
 | e::f::l,z,hl=>by
  obtain ⟨g1,g2⟩ :=jaM (es:=f::l) hl.2
  refine⟨fun i h=> ?_,fun _=> ?_⟩
  ·cases i with
   | zero=>exact hl.1
   | succ i=>have:=g1 i (by simpa using h);simpa using this
  ·have:=g2 (by simp)
   simpa using this
theorem jcD {z:Pn} (h1:Lk es z) (h2:∀e,es.head?=some e→e.1=z) (hall:∀d∈es,d.1≠d.2) (hk:0<es.length) :bare (es.map (·.1)) :=by
 obtain ⟨g1,g2⟩ :=jaM h1
 have hp:∀j (hj:j<es.length),pt (es.map (·.1)) j=es[j].1:=fun j hj=>by
  rw [←Kl (by simpa using hj)]
  simp
 refine⟨by simpa using hk,fun j hj=> ?_⟩
 rw [jgF] at hj
 rw [hp j hj]
 by_cases hj1:j+1<es.length
 ·rw [show nx (es.map (·.1)) j=j+1 from jhM (by simpa using hj1),hp _ hj1,←g1 j hj1]
  exact hall _ (jgH _)
 ·have hjn:j+1=es.length:=by omega
  rw [show nx (es.map (·.1)) j=0 by unfold nx;rw [jgF,hjn,Nat.mod_self],hp 0 hk]
  have hz: (es[0]'hk).1=z:=h2 _ (by cases es with | nil=>simp at hk | cons a l=>rfl)
  rw [hz,←g2 hk]
  have:es.length- 1=j:=by omega
  simp only [this]
  exact hall _ (jgH _)
theorem Bw (h0:0<xs.length) (hk:0< (KT xs).length) :bare (KT xs) :=by
 obtain ⟨h1,h2⟩ :=Bn h0
 have hne:=yE xs xs.length
 have hne':∀l∈Jy xs,lA l≠lB l:=hne
 have e:KT xs= ((Jy xs).map Tc).map (·.1) :=by unfold KT wL Jy;rw [List.map_map];rfl
 have hall:∀d∈(Jy xs).map Tc,d.1≠d.2:=fun d hd=>by
  obtain ⟨l,hl,rfl⟩ :=jgO.1 hd
  exact hne' l hl
 rw [e] at hk⊢
 rw [jgF] at hk
 exact jcD h1 h2 hall hk
def KY (rs:List jK) (k:Nat) :List jK:= ((rs.take k).map KT).filter fun r=>decide (0<r.length)
def qb (rs:List jK) :List jK:=KY rs rs.length
theorem yt (hk:k<rs.length) (h:0< (KT (rg rs k)).length) :KY rs (k+1) =KY rs k++ [KT (rg rs k)] :=by
 unfold KY
 rw [VA hk,jgS,jhX]
 simp [h]
theorem zv (hk:k<rs.length) (h:¬0< (KT (rg rs k)).length) :KY rs (k+1) =KY rs k:=by
 unfold KY
 rw [VA hk,jgS,jhX]
 have: (KT (rg rs k)).length=0:=by omega
 simp [jgX this]
theorem Zs (rs:List jK) (k:Nat) : (KY rs k).length≤rs.length:=by
 unfold KY
 refine jhi (jhZ _ _) ?_
 rw [jgF,jgJ]
 omega
theorem Zt {r:jK} (h:r∈KY rs k) :0<r.length∧∃q∈rs,KT q=r:=by
 unfold KY at h
 rw [jh2] at h
 obtain ⟨q,hq,e⟩ :=jgO.1 h.1
 exact⟨by simpa using h.2,q,jg7 hq,e⟩
theorem Ri (xs:List Pn) (k:Nat) : (wL xs k).length≤k:=by
 unfold wL
 rw [jgF]
 exact Ki xs k
theorem L3 (h:pt xs k≠pt xs (nx xs k)) :wL xs (k+1) =wL xs k++ [pt xs k] :=by
 unfold wL
 rw [Kd,if_neg (fun e=>h (Prod.ext e.1 e.2)),jgS]
 rfl
theorem Bv (h:pt xs k=pt xs (nx xs k)) :wL xs (k+1) =wL xs k:=by
 unfold wL
 simp only [pt] at h
 injection h with h1 h2
 rw [Kd,if_pos ⟨h1,h2⟩]
end Go.Proofs.YtbahojdbmmjkcaaGreat
