import Derived.Test.YtpncbbcmoiiipaaGreatKPathR
import Derived.Test.YtpncbbcmoiiipaaGreatKSnapped
import Derived.Test.YtpncbbcmoiiipaaGreatKValidRegion
import Derived.Test.YtpncbbcmoiiipaaGreatKTo
set_option linter.unusedVariables false
set_option linter.unusedSimpArgs false
namespace Go.Proofs.YtpncbbcmoiiipaaGreat
open Go Go.RowKit
set_option maxRecDepth 100000
set_option maxHeartbeats 4000000
def lowOk (s:Sp) (u v:Int) :Prop:=s.ln*v<u*s.ld∨(s.ln*v=u*s.ld∧s.lc=true)
def highOk (s:Sp) (u v:Int) :Prop:=u*s.hd<s.hn*v∨(u*s.hd=s.hn*v∧s.hc=true)
def yr (s:Sp) (u v:Int) :Prop:=lowOk s u v∧highOk s u v
theorem lowOk.le {s:Sp} {u v:Int} (h:lowOk s u v) :s.ln*v≤u*s.ld:=by rcases h with h |⟨h,_⟩ <;>omega
theorem highOk.le {s:Sp} {u v:Int} (h:highOk s u v) :u*s.hd≤s.hn*v:=by rcases h with h |⟨h,_⟩ <;>omega
theorem jcd {s x:Sp} {u v:Int} (hs:0<s.ld) (hx:0<x.ld) (hv:0<v) :lowOk (qY s x) u v↔lowOk s u v∧lowOk x u v:=by
 unfold qY
 split
 ·rename_i h
  have e:lowOk {s with ln:=x.ln,ld:=x.ld,lc:=x.lc} u v=lowOk x u v:=rfl
  rw [e]
  refine⟨fun hx'=>⟨?_,hx'⟩,fun h=>h.2⟩
  simp only [Ui,ji4,jig,decide_eq_true_eq,ji2] at h
  rcases h with h |⟨h,ho⟩
  ·exact .inl (wd hx hs hv Om hx'.le)
  ·rcases hx' with h' |⟨_,h'⟩
   ·exact .inl (KS hx hs hv Om h')
   ·rw [ho] at h';cases h'
 ·rename_i h
  refine⟨fun h'=>⟨h',?_⟩,fun h=>h.1⟩
  simp only [Ui,ji4,jig,decide_eq_true_eq,ji2,not_or,not_and,Bool.not_eq_false] at h
  obtain ⟨g1,g2⟩ :=h
  rcases h' with h' |⟨h',hc⟩
  ·exact .inl (KS hs hx hv Om h')
  ·by_cases g:x.ln*s.ld<s.ln*x.ld
   ·exact .inl (wd hs hx hv g Om)
   ·have l1:=vq (a:=x.ln) (b:=x.ld) (c:=s.ln) (d:=s.ld) (e:=u) (f:=v) hs hx hv Om Om
    have l2:=vq (a:=u) (b:=v) (c:=s.ln) (d:=s.ld) (e:=x.ln) (f:=x.ld) hs hv hx Om Om
    exact .inr ⟨by omega,g2 Om⟩
theorem EE {s x:Sp} {u v:Int} (hs:0<s.hd) (hx:0<x.hd) (hv:0<v) :highOk (ko s x) u v↔highOk s u v∧highOk x u v:=by
 unfold ko
 split
 ·rename_i h
  have e:highOk {s with hn:=x.hn,hd:=x.hd,hc:=x.hc} u v=highOk x u v:=rfl
  rw [e]
  refine⟨fun hx'=>⟨?_,hx'⟩,fun h=>h.2⟩
  simp only [Wk,ji4,jig,decide_eq_true_eq,ji2] at h
  rcases h with h |⟨h,ho⟩
  ·exact .inl (KS hx hv hs hx'.le Om)
  ·rcases hx' with h' |⟨_,h'⟩
   ·exact .inl (wd hx hv hs h' Om)
   ·rw [ho] at h';cases h'
 ·rename_i h
  refine⟨fun h'=>⟨h',?_⟩,fun h=>h.1⟩
  simp only [Wk,ji4,jig,decide_eq_true_eq,ji2,not_or,not_and,Bool.not_eq_false] at h
  obtain ⟨g1,g2⟩ :=h
  rcases h' with h' |⟨h',hc⟩
  ·exact .inl (wd hs hv hx h' Om)
  ·by_cases g:s.hn*x.hd<x.hn*s.hd
   ·exact .inl (KS hs hv hx Om g)
   ·have l1:=vq (a:=u) (b:=v) (c:=s.hn) (d:=s.hd) (e:=x.hn) (f:=x.hd) hs hv hx Om Om
    have l2:=vq (a:=x.hn) (b:=x.hd) (c:=s.hn) (d:=s.hd) (e:=u) (f:=v) hs hx hv Om Om
    exact .inr ⟨by omega,g2 Om⟩
theorem jgB {s x:Sp} {u v:Int} :lowOk (ko s x) u v↔lowOk s u v:=by unfold ko;split<;>exact Iff.rfl
theorem jey {s x:Sp} {u v:Int} :highOk (qY s x) u v↔highOk s u v:=by unfold qY;split<;>exact Iff.rfl
theorem yQ {s x:Sp} {u v:Int} (hs:0<s.ld∧0<s.hd) (hx:0<x.ld∧0<x.hd) (hv:0<v) :yr (J7 s x) u v↔yr s u v∧yr x u v:=by
 unfold yr J7
 rw [jgB,jcd hs.1 hx.1 hv,EE (zW hs hx).2 hx.2 hv,jey]
 constructor
 ·rintro⟨⟨h1,h2⟩,h3,h4⟩;exact⟨⟨h1,h3⟩,h2,h4⟩
 ·rintro⟨⟨h1,h3⟩,h2,h4⟩;exact⟨⟨h1,h2⟩,h3,h4⟩
theorem Ib {u v:Int} :yr W6 u v↔0≤u∧u≤v:=by
 unfold yr lowOk highOk W6
 simp only [ji7,jjM,Int.one_mul,and_true]
 omega
def zR (f d lo u v:Int) :Prop:=lo*v≤f*v+u*d∧f*v+u*d< (lo+2) *v
theorem U9 {f d lo u v:Int} (hv:0<v) (h0:0≤u) (h1:u≤v) : (KM f d lo=true∧yr (QW f d lo) u v)↔zR f d lo u v:=by
 have e1: (lo+2) *v=lo*v+2*v:=Int.add_mul ..
 by_cases hd:0<d
 ·have hp:KM f d lo=true:=by unfold KM;rw [decide_eq_false Om];rfl
  have e2: (lo- f) *v=lo*v- f*v:=Int.sub_mul ..
  have e3: (lo+2- f) *v=lo*v+2*v- f*v:=by rw [Int.sub_mul,Int.add_mul]
  rw [hp]
  unfold QW
  rw [if_pos hd]
  unfold yr lowOk highOk zR
  simp only [true_and,and_true,jjg,and_false,or_false]
  rw [e1,e2,e3]
  omega
 ·by_cases hn:d<0
  ·have hp:KM f d lo=true:=by unfold KM;rw [decide_eq_false Om];rfl
   have e2: (f- lo) *v=f*v- lo*v:=Int.sub_mul ..
   have e3: (f- lo- 2) *v=f*v- lo*v- 2*v:=by rw [Int.sub_mul,Int.sub_mul]
   have e4:u* (-d) = -(u*d) :=Int.mul_neg ..
   rw [hp]
   unfold QW
   rw [if_neg hd,if_pos hn]
   unfold yr lowOk highOk zR
   simp only [true_and,and_true,jjg,and_false,or_false]
   rw [e1,e2,e3,e4]
   omega
  ·obtain rfl:d=0:=by omega
   rw [wi,Ib]
   unfold KM zR
   rw [Int.mul_zero,Int.add_zero]
   simp only [decide_true,Bool.not_true,Bool.false_or,jig,decide_eq_true_eq]
   constructor
   ·rintro⟨⟨g1,g2⟩,_⟩
    exact⟨jij g1 Om,jiz g2 hv⟩
   ·rintro⟨g1,g2⟩
    exact⟨⟨jiS g1 hv,jiP g2 Om⟩,h0,h1⟩
theorem Mi {s:Sp} (hs:0<s.ld∧0<s.hd) (h:vP s=true) :∃u v,0<v∧yr s u v:=by
 simp only [vP,ji4,jig,decide_eq_true_eq] at h
 rcases h with h |⟨⟨h,h1⟩,h2⟩
 ·have p:=jiU hs.1 hs.2
  refine⟨s.ln*s.hd+s.hn*s.ld,2* (s.ld*s.hd),by omega, .inl ?_, .inl ?_⟩
  ·have:=jiz (show s.ln*s.hd<s.hn*s.ld by omega) hs.1
   have e1:s.ln* (2* (s.ld*s.hd)) =2* (s.ln*s.hd*s.ld) :=by grind
   have e2: (s.ln*s.hd+s.hn*s.ld) *s.ld=s.ln*s.hd*s.ld+s.hn*s.ld*s.ld:=Int.add_mul ..
   rw [e1,e2]
   omega
  ·have:=jiz (show s.ln*s.hd<s.hn*s.ld by omega) hs.2
   have e1:s.hn* (2* (s.ld*s.hd)) =2* (s.hn*s.ld*s.hd) :=by grind
   have e2: (s.ln*s.hd+s.hn*s.ld) *s.hd=s.ln*s.hd*s.hd+s.hn*s.ld*s.hd:=Int.add_mul ..
   rw [e1,e2]
   omega
 ·exact⟨s.ln,s.ld,hs.1, .inr ⟨rfl,h1⟩, .inr ⟨by omega,h2⟩⟩
theorem jcj {s:Sp} {u v:Int} (hs:0<s.ld∧0<s.hd) (hv:0<v) (h:yr s u v) :vP s=true:=by
 simp only [vP,ji4,jig,decide_eq_true_eq]
 obtain ⟨h1,h2⟩ :=h
 by_cases g1:s.ln*v<u*s.ld
 ·have:=wd (a:=s.ln) (b:=s.ld) (c:=u) (d:=v) (e:=s.hn) (f:=s.hd) hv hs.1 hs.2 g1 h2.le
  exact .inl Om
 ·by_cases g2:u*s.hd<s.hn*v
  ·have:=KS (a:=s.ln) (b:=s.ld) (c:=u) (d:=v) (e:=s.hn) (f:=s.hd) hv hs.1 hs.2 h1.le g2
   exact .inl Om
  ·have l1:=vq (a:=s.ln) (b:=s.ld) (c:=u) (d:=v) (e:=s.hn) (f:=s.hd) hv hs.1 hs.2 h1.le h2.le
   have k1:=h1.resolve_left g1
   have k2:=h2.resolve_left g2
   have l2:=vq (a:=s.hn) (b:=s.hd) (c:=u) (d:=v) (e:=s.ln) (f:=s.ld) hv hs.2 hs.1 Om Om
   exact .inr ⟨⟨by omega,k1.2⟩,k2.2⟩
def wu (a b p:Pn) (u v:Int) :Prop:=zR (2*a.1) (2* (b.1- a.1)) (2*p.1- 1) u v∧zR (2*a.2) (2* (b.2- a.2)) (2*p.2- 1) u v
theorem KZ {a b p:Pn} {u v:Int} (hv:0<v) (h:Ve a b p=true) :yr (JZ a b p) u v↔(0≤u∧u≤v)∧wu a b p u v:=by
 unfold Ve Xr at h
 simp only [jig] at h
 unfold JZ wu
 rw [yQ (K0 Ur (kZ _ _ _)) (kZ _ _ _) hv,yQ Ur (kZ _ _ _) hv,Ib]
 constructor
 ·rintro⟨⟨⟨h0,h1⟩,h2⟩,h3⟩
  exact⟨⟨h0,h1⟩,(U9 hv h0 h1).1 ⟨h.1.1,h2⟩,(U9 hv h0 h1).1 ⟨h.1.2,h3⟩⟩
 ·rintro⟨⟨h0,h1⟩,h2,h3⟩
  exact⟨⟨⟨h0,h1⟩,((U9 hv h0 h1).2 h2).2⟩,((U9 hv h0 h1).2 h3).2⟩
theorem Mf {a b p:Pn} {u v:Int} (hv:0<v) (h0:0≤u) (h1:u≤v) (h:wu a b p u v) :Ve a b p=true:=by
 have hx:= (U9 hv h0 h1).2 h.1
 have hy:= (U9 hv h0 h1).2 h.2
 have hm:yr (JZ a b p) u v:=by
  unfold JZ
  rw [yQ (K0 Ur (kZ _ _ _)) (kZ _ _ _) hv,yQ Ur (kZ _ _ _) hv,Ib]
  exact⟨⟨⟨h0,h1⟩,hx.2⟩,hy.2⟩
 have:=jcj (KY a b p) hv hm
 unfold Ve Xr
 rw [hx.1,hy.1]
 exact this
theorem Uu {a b p q:Pn} {u v:Int} (hv:0<v) (h:wu a b p u v) (h':wu a b q u v) :p=q:=by
 have key:∀ {f d m n:Int},zR f d (2*m- 1) u v→zR f d (2*n- 1) u v→¬m<n:=by
  intro f d m n g g' hmn
  have:=jij (show 2*m- 1+2≤2*n- 1 by omega) (show 0≤v by omega)
  have g2:=g.2
  have g1':=g'.1
  omega
 have x1:=key h.1 h'.1
 have x2:=key h'.1 h.1
 have y1:=key h.2 h'.2
 have y2:=key h'.2 h.2
 exact Prod.ext Om Om
theorem Nc (a b:Pn) :wu a b a 0 1:=by
 unfold wu zR
 simp only [jjM,ji7,Int.add_zero]
 omega
theorem jbV (a b:Pn) :wu a b b 1 1:=by
 unfold wu zR
 simp only [jjM,Int.one_mul]
 omega
theorem jb0 (a b:Pn) :Ve a b a=true:=Mf Dc Dc Dc (Nc a b)
theorem jb1 (a b:Pn) :Ve a b b=true:=Mf Dc Dc Dc (jbV a b)
theorem Gc {s x:Sp} :Y7 s x=true↔s.ln*x.ld<x.ln*s.ld∨(s.ln*x.ld=x.ln*s.ld∧s.lc=true∧x.lc=false) :=by
 simp only [Y7,ji4,jig,decide_eq_true_eq,ji2]
 constructor
 ·rintro(h |⟨⟨h1,h2⟩,h3⟩)
  ·exact .inl Om
  ·exact .inr ⟨by omega,h2,h3⟩
 ·rintro(h |⟨h1,h2,h3⟩)
  ·exact .inl Om
  ·exact .inr ⟨⟨by omega,h2⟩,h3⟩
theorem SD {s x:Sp} (hs:0<s.ld) (hx:0<x.ld) (h:0≤s.ln) :0≤(J7 s x).ln:=by
 have e: (J7 s x).ln= (qY s x).ln:=by unfold J7 ko;split<;>rfl
 rw [e]
 unfold qY
 split
 ·rename_i h'
  simp only [Ui,ji4,jig,decide_eq_true_eq,ji2] at h'
  have h1:s.ln*x.ld≤x.ln*s.ld:=by rcases h' with h' |⟨h',_⟩ <;>omega
  have h2:0≤s.ln*x.ld:=jiF h Om
  show 0≤x.ln
  refine jjr.1 fun hn=> ?_
  have:=jjh hn hs
  omega
 ·exact h
theorem D1 (a b p:Pn) :0≤(JZ a b p).ln:=
 SD (K0 Ur (kZ _ _ _)).1 (kZ _ _ _).1 (SD Ur.1 (kZ _ _ _).1 Dc)
theorem NP {a b p:Pn} (hi:Ve a b p=true) (hne:p≠a) :KN a b a p=true:=by
 have ha:=jb0 a b
 have ma:yr (JZ a b a) 0 1:= (KZ Dc ha).2 ⟨⟨by decide,by decide⟩,Nc a b⟩
 have ua:=D1 a b a
 have up:=D1 a b p
 have pa:=KY a b a
 have pp:=KY a b p
 have l0: (JZ a b a).ln=0∧(JZ a b a).lc=true:=by
  have:=ma.1
  unfold lowOk at this
  simp only [jjM,ji7] at this
  rcases this with h |⟨h,hc⟩
  ·omega
  ·exact⟨h,hc⟩
 unfold KN
 rw [Gc,l0.1,l0.2,ji7]
 by_cases h:0< (JZ a b p).ln
 ·exact .inl (jiU h pa.1)
 ·have e: (JZ a b p).ln=0:=by omega
  rw [e,ji7]
  refine .inr ⟨J,J,?_⟩
  cases hc: (JZ a b p).lc with
  | false=>rfl
  | true=>
   have hn:vP (JZ a b p) =true:=by unfold Ve Xr at hi;simp only [jig] at hi;exact hi.2
   obtain ⟨u,v,hv,hm⟩ :=Mi pp hn
   have h0:= (KZ hv hi).1 hm
   have hh:highOk (JZ a b p) 0 1:=by
    have:=hm.2
    unfold highOk at this⊢
    simp only [ji7,jjM]
    have q1:0≤u* (JZ a b p).hd:=jiF h0.1.1 Om
    by_cases g:0< (JZ a b p).hn
    ·exact .inl g
    ·have q2: (JZ a b p).hn*v≤0:=Int.mul_nonpos_of_nonpos_of_nonneg Om Om
     rcases this with h' |⟨h',hc'⟩
     ·omega
     ·refine .inr ⟨?_,hc'⟩
      have: (JZ a b p).hn*v=0:=by omega
      rcases Int.mul_eq_zero.1 this with h' | h'<;>omega
   have m0:yr (JZ a b p) 0 1:=⟨.inr ⟨by rw [e];simp,hc⟩,hh⟩
   exact absurd (Uu Dc ((KZ Dc hi).1 m0).2 (Nc a b)) hne
theorem jat {a b p:Pn} (hi:Ve a b p=true) (hne:p≠b) :KN a b p b=true:=by
 have hb:=jb1 a b
 have mb:yr (JZ a b b) 1 1:= (KZ Dc hb).2 ⟨⟨by decide,by decide⟩,jbV a b⟩
 have pb:=KY a b b
 have pp:=KY a b p
 rcases Bool.eq_false_or_eq_true (KN a b p b) with h | h
 ·exact h
 ·exfalso
  have hns:¬((JZ a b p).ln* (JZ a b b).ld< (JZ a b b).ln* (JZ a b p).ld∨((JZ a b p).ln* (JZ a b b).ld= (JZ a b b).ln* (JZ a b p).ld∧(JZ a b p).lc=true∧(JZ a b b).lc=false)) :=fun h'=>by
   have:=Gc.2 h'
   unfold KN at h
   rw [h] at this
   cases this
  have hle: (JZ a b b).ln* (JZ a b p).ld≤(JZ a b p).ln* (JZ a b b).ld:=jjr.1 fun h'=>hns (.inl h')
  have hn:vP (JZ a b p) =true:=by unfold Ve Xr at hi;simp only [jig] at hi;exact hi.2
  obtain ⟨u,v,hv,hm⟩ :=Mi pp hn
  have h0:= (KZ hv hi).1 hm
  have hlow:lowOk (JZ a b b) u v:=by
   by_cases g: (JZ a b p).ln*v<u* (JZ a b p).ld
   ·exact .inl (KS pp.1 pb.1 hv hle g)
   ·obtain ⟨g1,g2⟩ :=hm.1.resolve_left g
    by_cases k: (JZ a b b).ln* (JZ a b p).ld< (JZ a b p).ln* (JZ a b b).ld
    ·exact .inl (wd pp.1 pb.1 hv k Om)
    ·have l1:=vq (a:= (JZ a b b).ln) (b:= (JZ a b b).ld) (c:= (JZ a b p).ln) (d:= (JZ a b p).ld) (e:=u) (f:=v) pp.1 pb.1 hv Om Om
     have l2:=vq (a:=u) (b:=v) (c:= (JZ a b p).ln) (d:= (JZ a b p).ld) (e:= (JZ a b b).ln) (f:= (JZ a b b).ld) pp.1 hv pb.1 Om Om
     refine .inr ⟨by omega,?_⟩
     cases hc: (JZ a b b).lc with
     | true=>rfl
     | false=>exact absurd (.inr ⟨by omega,g2,hc⟩) hns
  have hhigh:highOk (JZ a b b) u v:=by
   have:=mb.2
   unfold highOk at this⊢
   simp only [Int.one_mul,jjM] at this
   have e:v* (JZ a b b).hd= (JZ a b b).hd*v:=jiV ..
   by_cases g:u<v
   ·have q:=jiz g pb.2
    have q2: (JZ a b b).hd*v≤(JZ a b b).hn*v:=jij Om Om
    exact .inl Om
   ·obtain rfl:u=v:=by have:=h0.1.2;omega
    rcases this with h' |⟨h',hc⟩
    ·have q2:=jiz h' hv
     exact .inl Om
    ·exact .inr ⟨by rw [h',jiV],hc⟩
  exact hne (Uu hv h0.2 ((KZ hv hb).1 ⟨hlow,hhigh⟩).2)
theorem je4 (a b:Pn) :KJ a b a=true:=yW (Xd Om Om) (zC Om Om) (jb0 a b)
theorem je5 (a b:Pn) :KJ a b b=true:=yW (Xd Om Om) (zC Om Om) (jb1 a b)
theorem ZG {a b p:Pn} (h:KJ a b p=true) :Ve a b p=true:=by unfold KJ at h;simp only [jig] at h;exact h.2
theorem Ku {a b p:Pn} {hot:List Pn} :p∈qD a b hot↔p∈hot∧KJ a b p=true:=by
 rw [wK,V0,ZO,ji6]
theorem ut {a b:Pn} {hot:List Pn} (h:hot.Nodup) : (qD a b hot).Nodup:=by
 rw [wK]
 unfold V0
 exact(O8 (lt:=KN a b) (l:=hot.filter (KJ a b))).nodup_iff.2 (h.sublist List.filter_sublist)
theorem ZH {a b:Pn} {hot:List Pn} (hne:a≠b) (ha:a∈hot) (hb:b∈hot) :∃mid,qD a b hot=a:: (mid++ [b]) :=by
 have ma:a∈qD a b hot:=Ku.2 ⟨ha,je4 a b⟩
 have mb:b∈qD a b hot:=Ku.2 ⟨hb,je5 a b⟩
 have hi:∀p∈qD a b hot,Ve a b p=true:=fun p hp=>ZG (Ku.1 hp).2
 have hs:Uy (KN a b) (qD a b hot) :=by rw [wK];exact Zm a b hot
 revert ma mb hi hs
 generalize qD a b hot=S
 intro ma mb hi hs
 cases S with
 | nil=>cases ma
 | cons x T=>
  obtain ⟨h1,h2⟩ :=jiR.1 hs
  have hx:x=a:=Decidable.byContradiction fun hx=>by
   have hT:a∈T:= (jir.1 ma).resolve_left (fun e=>hx e.symm)
   have:=NP (hi x (jiE ..)) hx
   rw [h1 a hT] at this
   cases this
  subst hx
  have hbT:b∈T:= (jir.1 mb).resolve_left (fun e=>hne e.symm)
  rcases List.eq_nil_or_concat T with rfl |⟨mid,y,rfl⟩
  ·cases hbT
  ·rw [List.concat_eq_append] at*
   have hy:y=b:=Decidable.byContradiction fun hy=>by
    have hm:b∈mid:= (jiv.1 hbT).resolve_right (fun e=>hy (jik.1 e).symm)
    have:=jat (hi y (jiq _ (jjH _ (jik.2 rfl)))) hy
    rw [(jjN.1 h2).2.2 b hm y (jik.2 rfl)] at this
    cases this
   exact⟨mid,by rw [hy]⟩
def mkL (e:Pn×Pn) :Leg:=⟨e.1.1,e.1.2,e.2.1,e.2.2⟩
def KK (xs:List Pn) :List (Pn×Pn) := (List.range xs.length).map fun j=> (pt xs j,pt xs (nx xs j))
def bare (xs:List Pn) :Prop:=0<xs.length∧∀j,j<xs.length→pt xs j≠pt xs (nx xs j)
def Qs (hot:List Pn) (e:Pn×Pn) :List Pn:= (qD e.1 e.2 hot).dropLast
def kU (hot xs:List Pn) :List Pn:= (J0 xs).flatMap fun l=>Qs hot (lA l,lB l)
theorem Xm {xs:List Pn} (h:bare xs) :∀k,k≤xs.length→qC xs k= ((List.range k).map fun j=> (pt xs j,pt xs (nx xs j))).map mkL
 | 0,_=>rfl
 | k+1,hk=>by
  have hne:=h.2 k Om
  rw [KA,if_neg (fun e=>hne (Prod.ext e.1 e.2)),Xm h k Om,List.range_succ,jiO,jiO]
  rfl
theorem kz {xs:List Pn} (h:bare xs) :J0 xs= (KK xs).map mkL:=Xm h _ (jih _)
theorem uM {hot xs:List Pn} (h:bare xs) :kU hot xs= (KK xs).flatMap (Qs hot) :=by
 unfold kU
 rw [kz h,List.flatMap_map]
 rfl
def Lk:List (Pn×Pn)→Pn→Prop
 | [],_=>True
 | [e],z=>e.2=z
 | e::f::l,z=>e.2=f.1∧Lk (f::l) z
theorem jfT:∀ {es:List (Pn×Pn)} {z:Pn},(∀i (h:i+1<es.length),(es[i]'(by omega)).2=es[i+1].1)→(∀h:0<es.length,(es[es.length- 1]'(by omega)).2=z)→Lk es z
 | [],_,_,_=>trivial
 | [e],z,_,h2=>h2 (by simp)
 | e::f::l,z,h1,h2=>⟨h1 0 (by simp),jfT (fun i h=>by have:=h1 (i+1) (by simpa using h);simpa using this) (fun h=>by have:=h2 (by simp);simpa using this)⟩
theorem Wv (xs:List Pn) : (KK xs).length=xs.length:=by simp [KK]
theorem XZ {xs:List Pn} :Lk (KK xs) (pt xs 0) :=by
 refine jfT (fun i h=> ?_) (fun h=> ?_)
 ·rw [Wv] at h
  simp only [KK,jjs,jjU]
  rw [show nx xs i=i+1 from jjx h]
 ·rw [Wv] at h
  simp only [KK,jjs,jjU,jit,List.length_range]
  rw [show nx xs (xs.length- 1) =0 by unfold nx;rw [show xs.length- 1+1=xs.length by omega,Nat.mod_self]]
theorem Wu (xs:List Pn) : (KK xs).map (·.1) =xs:=by
 apply jjz
 ·simp [KK]
 ·intro i h1 h2
  simp only [KK,jjs,jjU]
  rw [Kk h2]
def Dis:List Pn→Prop
 | [] =>True
 | [_] =>True
 | p::q::l=>p≠q∧Dis (q::l)
theorem GJ:∀ {l:List Pn},l.Nodup→Dis l
 | [],_=>trivial
 | [_],_=>trivial
 | p::q::l,h=>by
  obtain ⟨h1,h2⟩ :=List.nodup_cons.1 h
  exact⟨fun e=>h1 (e▸jiE ..),GJ h2⟩
theorem RQ:∀ {A:List Pn} {p:Pn} {B:List Pn},Dis (A++ [p])→Dis (p::B)→Dis (A++p::B)
 | [],_,_,_,h=>h
 | [a],p,B,h,h'=>⟨h.1,h'⟩
 | a::b::A,p,B,h,h'=>⟨h.1,RQ (A:=b::A) h.2 h'⟩
theorem jbG:∀ {l:List Pn},Dis l→∀j,j+1<l.length→pt l j≠pt l (j+1)
 | [],_,j,h=>absurd h (by simp)
 | [_],_,j,h=>absurd h (by simp)
 | p::q::l,hd,0,_=>hd.1
 | p::q::l,hd,j+1,h=>by
  have:=jbG hd.2 j (by simpa using h)
  simpa [pt,px,py] using this
theorem VW {hot:List Pn} {e:Pn×Pn} (h:e.1≠e.2∧e.1∈hot∧e.2∈hot) :∃mid,Qs hot e=e.1::mid∧qD e.1 e.2 hot=Qs hot e++ [e.2] :=by
 obtain ⟨mid,hm⟩ :=ZH h.1 h.2.1 h.2.2
 refine⟨mid,?_,?_⟩
 ·unfold Qs
  rw [hm,←jiJ,List.dropLast_concat]
 ·unfold Qs
  rw [hm,←jiJ,List.dropLast_concat]
theorem R4 {hot:List Pn} (hnd:hot.Nodup) :∀ {es:List (Pn×Pn)} {e:Pn×Pn} {z:Pn},Lk (e::es) z→(∀d∈e::es,d.1≠d.2∧d.1∈hot∧d.2∈hot)→Dis ((e::es).flatMap (Qs hot) ++ [z])∧∃rest,(e::es).flatMap (Qs hot) =e.1::rest
 | [],e,z,hl,hm=>by
  obtain ⟨mid,h1,h2⟩ :=VW (hm e (jiE ..))
  have hz:e.2=z:=hl
  simp only [jiB,List.flatMap_nil,jiG]
  refine⟨?_,mid,h1⟩
  rw [←hz,←h2]
  exact GJ (ut hnd)
 | f::l,e,z,hl,hm=>by
  obtain ⟨mid,h1,h2⟩ :=VW (hm e (jiE ..))
  obtain ⟨k1,rest,k2⟩ :=R4 hnd (es:=l) (e:=f) (z:=z) hl.2 (fun d hd=>hm d (jiq _ hd))
  rw [jiB]
  refine⟨?_,mid++ (f::l).flatMap (Qs hot),by rw [h1];rfl⟩
  rw [jil]
  rw [k2] at k1⊢
  refine RQ (B:=rest++ [z]) ?_ k1
  rw [←hl.1,←h2]
  exact GJ (ut hnd)
theorem GM {hot:List Pn} :∀ {es:List (Pn×Pn)},(∀d∈es,d.1≠d.2∧d.1∈hot∧d.2∈hot)→es.length≤(es.flatMap (Qs hot)).length∧((es.flatMap (Qs hot)).length=es.length→es.flatMap (Qs hot) =es.map (·.1))
 | [],_=>⟨jih _,fun _=>rfl⟩
 | e::l,h=>by
  obtain ⟨mid,h1,_⟩ :=VW (h e (jiE ..))
  obtain ⟨g1,g2⟩ :=GM (es:=l) fun d hd=>h d (jiq _ hd)
  rw [jiB,h1,jif,jim,jim]
  refine⟨by omega,fun hle=> ?_⟩
  obtain rfl:mid= [] :=jiQ Om
  rw [g2 (by simp only [jiH] at hle;omega),jiA]
  rfl
theorem yY {hot xs:List Pn} (hb:bare xs) (hm:∀p∈xs,p∈hot) :∀d∈KK xs,d.1≠d.2∧d.1∈hot∧d.2∈hot:=fun d hd=>by
 obtain ⟨j,hj,rfl⟩ :=jip.1 hd
 have hj:=List.mem_range.1 hj
 refine⟨hb.2 j hj,hm _ ?_,hm _ ?_⟩
 ·rw [←Kk hj];exact jis _
 ·have hn:nx xs j<xs.length:=Nat.mod_lt _ hb.1
  show pt xs (nx xs j)∈xs
  rw [←Kk hn];exact jis _
theorem O1 {hot xs:List Pn} {p:Pn} (h:p∈kU hot xs) :p∈hot:=by
 obtain ⟨l,_,hp⟩ :=jjL.1 h
 exact(Ku.1 (List.dropLast_subset _ hp)).1
theorem Ej {hot:List Pn} (hnd:hot.Nodup) :∀ {es:List (Pn×Pn)} {z:Pn},Lk es z→(∀d∈es,d.1≠d.2∧d.1∈hot∧d.2∈hot)→(∀h:0<es.length,(es[0]'h).1=z)→0<es.length→bare (es.flatMap (Qs hot))
 | [],_,_,_,_,h=>absurd h (by simp)
 | e::l,z,hlk,hok,h0,hp=>by
  obtain ⟨k1,rest,k2⟩ :=R4 hnd hlk hok
  have he:e.1=z:=h0 hp
  generalize (e::l).flatMap (Qs hot) =ys at*
  refine⟨by rw [k2];simp,fun j hj=> ?_⟩
  have hd:=jbG k1 j (by simp;omega)
  have e1:pt (ys++ [z]) j=pt ys j:=by simp only [pt,px,py,List.getD_eq_getElem?_getD,List.getElem?_append_left hj]
  rw [e1] at hd
  by_cases hj1:j+1<ys.length
  ·rw [show nx ys j=j+1 from jjx hj1]
   have e2:pt (ys++ [z]) (j+1) =pt ys (j+1) :=by simp only [pt,px,py,List.getD_eq_getElem?_getD,List.getElem?_append_left hj1]
   rwa [e2] at hd
  ·have hjn:j+1=ys.length:=by omega
   rw [show nx ys j=0 by unfold nx;rw [hjn,Nat.mod_self]]
   have e2:pt (ys++ [z]) (j+1) =z:=by
    have e4: (ys++ [z])[j+1]? =some z:=by rw [List.getElem?_append_right Om,hjn,jp3];rfl
    simp only [pt,px,py,List.getD_eq_getElem?_getD,e4]
    rfl
   have e3:pt ys 0=z:=by rw [k2,←he];rfl
   rw [e2] at hd
   rwa [e3]
theorem Ux {hot xs:List Pn} (hnd:hot.Nodup) (hb:bare xs) (hm:∀p∈xs,p∈hot) :bare (kU hot xs)∧xs.length≤(kU hot xs).length∧((kU hot xs).length=xs.length→kU hot xs=xs) :=by
 rw [uM hb]
 have hok:=yY hb hm
 obtain ⟨g1,g2⟩ :=GM hok
 rw [Wv] at g1 g2
 exact⟨Ej hnd XZ hok (fun h=>by simp [KK]) (by rw [Wv];exact hb.1),g1,fun h=>by rw [g2 h,Wu]⟩
def cnt (rs:List jV) :Nat:= (rs.map List.length).sum
def qR (hot:List Pn) (rs:List jV) :List jV:=rs.map (kU hot)
def bareG (hot:List Pn) (rs:List jV) :Prop:=∀r∈rs,bare r∧∀p∈r,p∈hot
theorem bareG.snap {hot:List Pn} {rs:List jV} (hnd:hot.Nodup) (h:bareG hot rs) :bareG hot (qR hot rs) :=fun r hr=>by
 obtain ⟨q,hq,rfl⟩ :=jip.1 hr
 exact⟨(Ux hnd (h q hq).1 (h q hq).2).1,fun p hp=>O1 hp⟩
theorem ZN {hot:List Pn} (hnd:hot.Nodup) :∀ {rs:List jV},bareG hot rs→cnt rs≤cnt (qR hot rs)∧(cnt (qR hot rs) =cnt rs→qR hot rs=rs)
 | [],_=>⟨jih _,fun _=>rfl⟩
 | r::l,h=>by
  obtain ⟨h1,h2⟩ :=h r (jiE ..)
  obtain ⟨_,g1,g2⟩ :=Ux hnd h1 h2
  obtain ⟨k1,k2⟩ :=ZN hnd (rs:=l) fun q hq=>h q (jiq _ hq)
  have e1:cnt (qR hot (r::l)) = (kU hot r).length+cnt (qR hot l) :=rfl
  have e2:cnt (r::l) =r.length+cnt l:=rfl
  rw [e1,e2]
  refine⟨by omega,fun he=> ?_⟩
  have a1:=g2 Om
  have a2:=k2 Om
  show kU hot r::qR hot l=r::l
  rw [a1,a2]
theorem VR {xs:List Pn} (h:bare xs) : (J0 xs).length=xs.length:=by rw [kz h,jit,Wv]
theorem Xk {rs:List jV} (h:∀r∈rs,bare r) : (jE rs).length=cnt rs:=by
 have key:∀k,k≤rs.length→(qJ rs k).length=cnt (rs.take k) :=by
  intro k
  induction k with
  | zero=>intro _;rfl
  | succ k ih=>
   intro hk
   have hb:bare (rg rs k) :=by have:=h rs[k] (jis Om);rwa [Wa Om] at this
   show(qJ rs k++J0 (rg rs k)).length=_
   rw [jif,ih Om,VR hb,wl Om]
   simp [cnt]
 have:=key rs.length (jih _)
 rwa [jiX] at this
theorem Nd (A:Option Addr) (n c:Nat) (xs:List (Int×Int)) (w:World) (h:Pts w A n xs) :
  Calls Tryz.prog 128 #[.slice A n c] w fun e w'=>e= .returned (.bool (QA xs))∧Over w w':=by
 have hl:=h.1
 refine Jh (m:=15) (Tryz.func128) J J (lb J) ?_;refine S10 ?_;refine cV 6 (fun g1=> ?_) (fun g1=> ?_)
 ·have h1:1≤n:=Om
  refine S8 ?_;refine cV 11 (fun g2=> ?_) (fun g2=> ?_)
  ·have h2:n≤400:=Om
   refine S3 ?_;refine o9 (jT G4 J J (fun w1 hs=>IU A n c xs w1 (h.over hs.fin) Om)) ?_;refine S4 ?_;refine jM J (.tmp J) ?_
   intro w' hs
   exact⟨QH (by unfold QA xZ WE;rw [hl,decide_eq_true (show(1:Int)≤(n:Int) by omega),decide_eq_true (show(n:Int)≤400 by omega)];rfl),hs.fin⟩
  ·refine S6 ?_;refine jM J (.tmp J) ?_
   intro w' hs
   exact⟨QH (by unfold QA xZ;rw [hl,decide_eq_false (show¬(n:Int)≤400 by omega),Bool.and_false,jiC]),hs.fin⟩
 ·refine S11 ?_;refine jM J (.tmp J) ?_
  intro w' hs
  exact⟨QH (by unfold QA xZ;rw [hl,decide_eq_false (show¬(1:Int)≤(n:Int) by omega)];rfl),hs.fin⟩
theorem BB (A:Option Addr) (n c:Nat) (xs:List (Int×Int)) (w:World) (h:Pts w A n xs) :
  Calls Tryz.prog 117 #[Tf A n c] w fun e w'=>e= .returned (.bool (QA xs))∧Over w w':=by
 refine Jh (m:=6) (Tryz.func117) J J (lb J) ?_;refine S3 ?_;refine aX (fun b1=> ?_);refine N6 ?_;refine a9 (jT Oo J J (fun w1 hs=>Nd A n c xs w1 (h.over hs.fin))) ?_;refine S3 ?_;refine jM J (.tmp J) ?_
 intro w' hs
 exact⟨rfl,hs.fin⟩
theorem Sn (b o:Nat) (A:Option Addr) (n c:Nat) (xs:List (Int×Int)) (w:World) (hc:w.cell? ⟨b,o,none⟩ =some (.slice A n c)) (hb:b<w.heap.size) (h:Pts w A n xs) :
  Calls Tryz.prog 115 #[.pointer (some ⟨b,o,none⟩)] w fun e w'=>e= .returned (.bool (QA xs))∧Over w w':=by
 have hl:=h.1
 refine Jh (m:=16) (Tryz.func115) J J (lb J) ?_;refine S9 ?_;refine a9 (jn J J JG (kI hc hb)) ?_;refine S1 ?_;refine a9 (jT BU J J (fun w1 hs=>Calls.still (yL (n:Int) 1 400 w1))) ?_;refine S1 ?_;refine cV 9 (fun g1=> ?_) (fun g1=> ?_)
 ·have h2:n≤400:= (by unfold xZ at g1;simp only [jig,decide_eq_true_eq] at g1;omega)
  refine S7 ?_;refine o9 (jn J J JG (kI hc hb)) ?_;refine h9 ?_;refine o9 (jT XR J J (fun w1 hs=>Z1 A n c xs w1 (h.over hs.fin) Om)) ?_;refine S4 ?_;refine jM J (.tmp J) ?_
  intro w' hs
  exact⟨QH (by unfold QA;rw [hl,g1];rfl),hs.fin⟩
 ·refine S9 ?_;refine jM J (.tmp J) ?_
  intro w' hs
  exact⟨QH (by unfold QA;rw [hl,g1];rfl),hs.fin⟩
theorem jf7 {rs:List jV} (h:rs.all QA=true) {k:Nat} (hk:k<rs.length) :QA (rg rs k) =true:=by
 have:=jjn.1 h rs[k] (jis hk)
 rwa [Wa hk] at this
theorem zu {rs:List jV} :∀ {k:Nat},k≤rs.length→(rs.take k).all QA=true→(qJ rs k).length≤400*k
 | 0,_,_=>jih _
 | k+1,hk,h=>by
  rw [wl Om,List.all_append,jig] at h
  have h2:QA (rg rs k) =true:=by simpa using h.2
  have:=zu (k:=k) Om h.1
  have:=Qf h2
  have:=KH (rg rs k) (rg rs k).length
  show(qJ rs k++J0 (rg rs k)).length≤_
  rw [jif]
  unfold J0
  omega
theorem Lu {rs:List jV} (h:rs.all QA=true) :∀k,k≤rs.length→Wz rs k≤400*k
 | 0,_=>jih _
 | k+1,hk=>by
  have:=Lu h k Om
  have:=Qf (jf7 h (show k<rs.length by omega))
  rw [Wz]
  omega
theorem wM (A:Option Addr) (n c:Nat) (rs:List jV) (w:World) (h:Rings w A n rs) (hm: (n:Int)≤9223372036854775807) :
  Calls Tryz.prog 81 #[qT A n c] w fun e w'=>e= .returned (.bool (JE rs))∧Over w w':=by
 have hl:=h.1
 refine Jh (m:=28) (Tryz.func81) J J (lb J) ?_;refine S3 ?_;refine aX (fun b1=> ?_);refine N10 ?_;refine cZ (fun c1=> ?_) (fun c1=> ?_)
 ·refine S6 ?_;refine jM J (.tmp J) ?_
  intro w' hs
  exact⟨QH (YE Om).symm,hs.fin⟩
 ·have h40:n≤40:=Om
  refine S15 ?_;refine qz (X:=Nat) (fun k=>k≤n∧(rs.take k).all QA=true) (fun k=>n- k) (fun k=> [(3, .int .i64 ((qJ rs k).length:Int)),(13, .int .i64 (k:Int))]) (kK [2,11,12]) 0 (⟨jii _,J⟩) ⟨J,sz⟩ ?_
  intro k hk L hL1
  refine v9 ?_
  obtain ⟨hk1,hk2⟩ :=hk
  refine S5 ?_;refine cZ (fun c2=> ?_) (fun c2=> ?_)
  ·have hlt:k<n:=Om
   obtain ⟨bb,oo,Ak,ck,rfl,hbB,hcell,hpts,hmax⟩ :=h.at_ hlt
   have hsum:=zu (show k≤rs.length by omega) hk2
   refine S7 ?_;refine a9 (jk J J JM J (OO hcell hbB)) ?_;refine S1 ?_;refine aL (fun b2=> ?_);refine N7 ?_;refine a9 (jT XJ J J (fun w1 hs=>BB Ak _ ck (rg rs k) w1 (hpts.over hs.fin))) ?_;refine S2 ?_;refine cZ (fun c3=> ?_) (fun c3=> ?_)
   ·refine S11 ?_;refine jM J (.tmp J) ?_
    intro w' hs
    exact⟨QH (Zg (show k<rs.length by omega) c3).symm,hs.fin⟩
   ·have hp:=Qf c3
    have he:=KH (rg rs k) (rg rs k).length
    have hs2: (qJ rs (k+1)).length= (qJ rs k).length+ (J0 (rg rs k)).length:=jif
    have he': (J0 (rg rs k)).length≤(rg rs k).length:=he
    refine S6 ?_;refine J4 Ug (v:=fun x=> .slice x.1 _ x.2) (r:=fun x=>JY 0 131 4 _ _ x) (H:=fun _=>True) J J J (lb J) (fun w1 hs=>Qh (uW Ak _ ck (rg rs k) w1 (hpts.over hs.fin) Om)) ?_
    rintro⟨eA,ec⟩ -
    refine N10 ?_
    exact qi hL1 (k+1) (⟨by omega,Bb Om hk2 c3⟩) Om ⟨vi (by rw [hs2];omega),vi Om,sz⟩ (u9 J)
  ·have hkn:k=n:=Om
   refine S12 ?_;refine jM J (.tmp J) ?_
   intro w' hs
   have ha:rs.all QA=true:= (by rw [jiK Om] at hk2;exact hk2)
   exact⟨QH (by rw [UP Om ha];unfold jE;rw [hl,←hkn];exact decide_eq_decide.2 Om),hs.fin⟩
theorem GT (b1 o1:Nat) (A:Option Addr) (n c:Nat) (rs:List jV) (w:World) (hcell:w.cell? ⟨b1,o1,none⟩ =some (.slice A n c)) (hb1:b1<w.heap.size) (h:Rings w A n rs) (hm: (n:Int)≤9223372036854775807) :
  Calls Tryz.prog 73 #[.pointer (some ⟨b1,o1,none⟩)] w fun e w'=>e= .returned (.bool (JE rs))∧Over w w':=by
 have hl:=h.1
 refine Jh (m:=31) (Tryz.func73) J J (lb J) ?_;refine S10 ?_;refine a9 (jn J J JR (kI hcell hb1)) ?_;refine S3 ?_;refine cZ (fun c1=> ?_) (fun c1=> ?_)
 ·refine S6 ?_;refine jM J (.tmp J) ?_
  intro w' hs
  exact⟨QH (YE Om).symm,hs.fin⟩
 ·have h40:n≤40:=Om
  refine S8 ?_;refine qz (X:=Nat) (fun k=>k≤n∧(rs.take k).all QA=true) (fun k=>n- k) (fun k=> [(3, .int .i64 (k:Int))]) (kK [0,2]) 0 (⟨jii _,J⟩) ⟨J,sz⟩ ?_
  intro k hk L hL1
  refine v9 ?_
  obtain ⟨hk1,hk2⟩ :=hk
  refine S7 ?_;refine a9 (jn J J JR (kI hcell hb1)) ?_;refine S3 ?_;refine cZ (fun c2=> ?_) (fun c2=> ?_)
  ·have hlt:k<n:=Om
   obtain ⟨bb,oo,Ak,ck,rfl,hbB,hcl,hpts,hmax⟩ :=h.at_ hlt
   refine S9 ?_;refine a9 (jn J J JR (kI hcell hb1)) ?_;refine S2 ?_;refine a9 (jT LY J J (fun w1 hs=>Sn bb (oo+k*1) Ak _ ck (rg rs k) w1 (by rw [jjf];exact Qm hcl hbB w1 hs) (jiu hbB hs.fin.size) (hpts.over hs.fin))) ?_;refine S2 ?_;refine cZ (fun c3=> ?_) (fun c3=> ?_)
   ·refine S10 ?_;refine jM J (.tmp J) ?_
    intro w' hs
    exact⟨QH (Zg (show k<rs.length by omega) c3).symm,hs.fin⟩
   ·refine S8 ?_
    exact qi hL1 (k+1) (⟨by omega,Bb Om hk2 c3⟩) Om ⟨vi Om,sz⟩ (u9 J)
  ·have hkn:k=n:=Om
   have ha:rs.all QA=true:= (by rw [jiK Om] at hk2;exact hk2)
   have hsm:=Lu ha rs.length (jih _)
   have htot: (total rs:Int)≤1048577:= (by unfold total;omega)
   have hal:=zu (rs:=rs) (k:=rs.length) (jih _) (by rw [jiX];exact ha)
   refine S9 ?_;refine J4 KW (v:=fun x=> .slice x.1 _ x.2) (r:=fun x=>JY 0 120 4 _ _ x) (H:=fun _=>True) J J J (lb J) (fun w1 hs=>Qh ((UG b1 o1 A n c rs w1 (Qm hcell hb1 w1 hs) (jiu hb1 hs.fin.size) (h.over hs.fin) htot).mono fun e w' ⟨v,h1,_,h2,h3⟩ =>⟨v,h1,h2,h3⟩)) ?_
   rintro⟨eA,ec⟩ -
   refine N5 ?_;refine jM J (.tmp J) ?_
   intro w' hs
   exact⟨QH (by rw [UP Om ha];exact decide_eq_decide.2 Om),hs.fin⟩
def WH (xs:List Pn) (k:Nat) :List Pn:= (qC xs k).map lA
def Q3 (xs:List Pn) :List Pn:=WH xs xs.length
theorem F8:∀ {es:List (Pn×Pn)} {p q:Pn},Lk es p→Lk (es++ [(p,q)]) q
 | [],_,_,_=>rfl
 | [e],p,q,h=>⟨h,rfl⟩
 | e::f::l,p,q,h=>⟨h.1,F8 (es:=f::l) h.2⟩
def Nn (l:Leg) :Pn×Pn:= (lA l,lB l)
theorem RT {xs:List Pn} :∀k,k<xs.length→Lk ((qC xs k).map Nn) (pt xs k)∧((qC xs k) = []→pt xs k=pt xs 0)∧(∀e,((qC xs k).map Nn).head?=some e→e.1=pt xs 0)
 | 0,_=>⟨trivial,fun _=>rfl,fun e h=>by cases h⟩
 | k+1,hk=>by
  obtain ⟨h1,h2,h3⟩ :=RT (xs:=xs) k Om
  have hn:nx xs k=k+1:=jjx hk
  rw [KA]
  split
  ·rename_i h
   have e:pt xs k=pt xs (k+1) :=by rw [hn] at h;exact Prod.ext h.1 h.2
   exact⟨e▸h1,fun h'=>e▸h2 h',h3⟩
  ·rw [jiO,hn]
   refine⟨F8 h1,fun h'=>by simp at h',fun e he=> ?_⟩
   cases hE:qC xs k with
   | nil=>
    rw [hE] at he
    have: (pt xs k,pt xs (k+1)) =e:=Option.some.inj he
    rw [←this]
    exact h2 hE
   | cons a l=>
    rw [hE] at he h3
    exact h3 e (by simpa using he)
theorem Dw {xs:List Pn} (h0:0<xs.length) :Lk ((J0 xs).map Nn) (pt xs 0)∧∀e,((J0 xs).map Nn).head?=some e→e.1=pt xs 0:=by
 obtain ⟨m,hm⟩ :∃m,xs.length=m+1:=⟨xs.length- 1,by omega⟩
 obtain ⟨h1,h2,h3⟩ :=RT (xs:=xs) m Om
 have hn:nx xs m=0:=by unfold nx;rw [hm,Nat.mod_self]
 unfold J0
 rw [hm,KA]
 split
 ·rename_i h
  have e:pt xs m=pt xs 0:=by rw [hn] at h;exact Prod.ext h.1 h.2
  exact⟨e▸h1,h3⟩
 ·rw [jiO,hn]
  refine⟨F8 h1,fun e he=> ?_⟩
  cases hE:qC xs m with
  | nil=>
   rw [hE] at he
   have: (pt xs m,pt xs 0) =e:=Option.some.inj he
   rw [←this]
   exact h2 hE
  | cons a l=>
   rw [hE] at he h3
   exact h3 e (by simpa using he)
theorem jca:∀ {es:List (Pn×Pn)} {z:Pn},Lk es z→(∀i (h:i+1<es.length),(es[i]'(by omega)).2=es[i+1].1)∧(∀h:0<es.length,(es[es.length- 1]'(by omega)).2=z)
 | [],_,_=>⟨fun i h=>absurd h (by simp),fun h=>absurd h (by simp)⟩
 | [e],z,hl=>⟨fun i h=>absurd h (by simp),fun _=>hl⟩
 | e::f::l,z,hl=>by
  obtain ⟨g1,g2⟩ :=jca (es:=f::l) hl.2
  refine⟨fun i h=> ?_,fun _=> ?_⟩
  ·cases i with
   | zero=>exact hl.1
   | succ i=>have:=g1 i (by simpa using h);simpa using this
  ·have:=g2 (by simp)
   simpa using this
theorem jd1 {es:List (Pn×Pn)} {z:Pn} (h1:Lk es z) (h2:∀e,es.head?=some e→e.1=z) (hall:∀d∈es,d.1≠d.2) (hk:0<es.length) :bare (es.map (·.1)) :=by
 obtain ⟨g1,g2⟩ :=jca h1
 have hp:∀j (hj:j<es.length),pt (es.map (·.1)) j=es[j].1:=fun j hj=>by
  rw [←Kk (by simpa using hj)]
  simp
 refine⟨by simpa using hk,fun j hj=> ?_⟩
 rw [jit] at hj
 rw [hp j hj]
 by_cases hj1:j+1<es.length
 ·rw [show nx (es.map (·.1)) j=j+1 from jjx (by simpa using hj1),hp _ hj1,←g1 j hj1]
  exact hall _ (jis _)
 ·have hjn:j+1=es.length:=by omega
  rw [show nx (es.map (·.1)) j=0 by unfold nx;rw [jit,hjn,Nat.mod_self],hp 0 hk]
  have hz: (es[0]'hk).1=z:=h2 _ (by cases es with | nil=>simp at hk | cons a l=>rfl)
  rw [hz,←g2 hk]
  have:es.length- 1=j:=by omega
  simp only [this]
  exact hall _ (jis _)
theorem ZA {xs:List Pn} (h0:0<xs.length) (hk:0< (Q3 xs).length) :bare (Q3 xs) :=by
 obtain ⟨h1,h2⟩ :=Dw h0
 have hne:=uk xs xs.length
 have hne':∀l∈J0 xs,lA l≠lB l:=hne
 have e:Q3 xs= ((J0 xs).map Nn).map (·.1) :=by unfold Q3 WH J0;rw [List.map_map];rfl
 have hall:∀d∈(J0 xs).map Nn,d.1≠d.2:=fun d hd=>by
  obtain ⟨l,hl,rfl⟩ :=jip.1 hd
  exact hne' l hl
 rw [e] at hk⊢
 rw [jit] at hk
 exact jd1 h1 h2 hall hk
def vf (rs:List jV) (k:Nat) :List jV:= ((rs.take k).map Q3).filter fun r=>decide (0<r.length)
def J8 (rs:List jV) :List jV:=vf rs rs.length
theorem Yk {rs:List jV} {k:Nat} (hk:k<rs.length) (h:0< (Q3 (rg rs k)).length) :vf rs (k+1) =vf rs k++ [Q3 (rg rs k)] :=by
 unfold vf
 rw [wl hk,jiO,jjT]
 simp [h]
theorem Zs {rs:List jV} {k:Nat} (hk:k<rs.length) (h:¬0< (Q3 (rg rs k)).length) :vf rs (k+1) =vf rs k:=by
 unfold vf
 rw [wl hk,jiO,jjT]
 have: (Q3 (rg rs k)).length=0:=by omega
 simp [jiQ this]
theorem xb (rs:List jV) (k:Nat) : (vf rs k).length≤rs.length:=by
 unfold vf
 refine jjb (jjV _ _) ?_
 rw [jit,jiy]
 omega
theorem xd {rs:List jV} {k:Nat} {r:jV} (h:r∈vf rs k) :0<r.length∧∃q∈rs,Q3 q=r:=by
 unfold vf at h
 rw [ji6] at h
 obtain ⟨q,hq,e⟩ :=jip.1 h.1
 exact⟨by simpa using h.2,q,jiZ hq,e⟩
theorem Sf (xs:List Pn) (k:Nat) : (WH xs k).length≤k:=by
 unfold WH
 rw [jit]
 exact KH xs k
theorem M7 {xs:List Pn} {k:Nat} (h:pt xs k≠pt xs (nx xs k)) :WH xs (k+1) =WH xs k++ [pt xs k] :=by
 unfold WH
 rw [KA,if_neg (fun e=>h (Prod.ext e.1 e.2)),jiO]
 rfl
theorem DD {xs:List Pn} {k:Nat} (h:pt xs k=pt xs (nx xs k)) :WH xs (k+1) =WH xs k:=by
 unfold WH
 simp only [pt] at h
 injection h with h1 h2
 rw [KA,if_pos ⟨h1,h2⟩]
end Go.Proofs.YtpncbbcmoiiipaaGreat
