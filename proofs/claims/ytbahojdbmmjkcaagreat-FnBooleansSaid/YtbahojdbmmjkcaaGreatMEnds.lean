import Derived.Test.YtbahojdbmmjkcaaGreatMPathR
import Derived.Test.YtbahojdbmmjkcaaGreatMSnapped
import Derived.Test.YtbahojdbmmjkcaaGreatMValidRegion
import Derived.Test.YtbahojdbmmjkcaaGreatMOwn
set_option linter.unusedVariables false
set_option linter.unusedSimpArgs false
namespace Go.Proofs.YtbahojdbmmjkcaaGreat
open Go Go.RowKit
variable {a b p:Pn} {es:List (Pn×Pn)} {hot xs:List Pn} {k:Nat} {rs:List jO} {s x:Sp} {u v:Int}
set_option maxRecDepth 100000
set_option maxHeartbeats 4000000
def lowOk (s:Sp) (u v:Int) :Prop:=s.ln*v<u*s.ld∨(s.ln*v=u*s.ld∧s.lc=true)
def highOk (s:Sp) (u v:Int) :Prop:=u*s.hd<s.hn*v∨(u*s.hd=s.hn*v∧s.hc=true)
def yH (s:Sp) (u v:Int) :Prop:=lowOk s u v∧highOk s u v
theorem lowOk.le (h:lowOk s u v) :s.ln*v≤u*s.ld:=by rcases h with h |⟨h,_⟩ <;>omega
theorem highOk.le (h:highOk s u v) :u*s.hd≤s.hn*v:=by rcases h with h |⟨h,_⟩ <;>omega
theorem jcZ (hs:0<s.ld) (hx:0<x.ld) (hv:0<v) :lowOk (qV s x) u v↔lowOk s u v∧lowOk x u v:=by
 unfold qV
 split
 ·rename_i h
  have e:lowOk {s with ln:=x.ln,ld:=x.ld,lc:=x.lc} u v=lowOk x u v:=rfl
  rw [e]
  refine⟨fun hx'=>⟨?_,hx'⟩,fun h=>h.2⟩
  simp only [Uz,jkb,jjl,decide_eq_true_eq,jj9] at h
  rcases h with h |⟨h,ho⟩
  ·exact .inl (wy hx hs hv Om hx'.le)
  ·rcases hx' with h' |⟨_,h'⟩
   ·exact .inl (KX hx hs hv Om h')
   ·rw [ho] at h';cases h'
 ·rename_i h
  refine⟨fun h'=>⟨h',?_⟩,fun h=>h.1⟩
  simp only [Uz,jkb,jjl,decide_eq_true_eq,jj9,not_or,not_and,Bool.not_eq_false] at h
  obtain ⟨g1,g2⟩ :=h
  rcases h' with h' |⟨h',hc⟩
  ·exact .inl (KX hs hx hv Om h')
  ·by_cases g:x.ln*s.ld<s.ln*x.ld
   ·exact .inl (wy hs hx hv g Om)
   ·have l1:=vq (a:=x.ln) (b:=x.ld) (c:=s.ln) (d:=s.ld) (e:=u) (f:=v) hs hx hv Om Om
    have l2:=vq (a:=u) (b:=v) (c:=s.ln) (d:=s.ld) (e:=x.ln) (f:=x.ld) hs hv hx Om Om
    exact .inr ⟨by omega,g2 Om⟩
theorem jao (hs:0<s.hd) (hx:0<x.hd) (hv:0<v) :highOk (kh s x) u v↔highOk s u v∧highOk x u v:=by
 unfold kh
 split
 ·rename_i h
  have e:highOk {s with hn:=x.hn,hd:=x.hd,hc:=x.hc} u v=highOk x u v:=rfl
  rw [e]
  refine⟨fun hx'=>⟨?_,hx'⟩,fun h=>h.2⟩
  simp only [WE,jkb,jjl,decide_eq_true_eq,jj9] at h
  rcases h with h |⟨h,ho⟩
  ·exact .inl (KX hx hv hs hx'.le Om)
  ·rcases hx' with h' |⟨_,h'⟩
   ·exact .inl (wy hx hv hs h' Om)
   ·rw [ho] at h';cases h'
 ·rename_i h
  refine⟨fun h'=>⟨h',?_⟩,fun h=>h.1⟩
  simp only [WE,jkb,jjl,decide_eq_true_eq,jj9,not_or,not_and,Bool.not_eq_false] at h
  obtain ⟨g1,g2⟩ :=h
  rcases h' with h' |⟨h',hc⟩
  ·exact .inl (wy hs hv hx h' Om)
  ·by_cases g:s.hn*x.hd<x.hn*s.hd
   ·exact .inl (KX hs hv hx Om g)
   ·have l1:=vq (a:=u) (b:=v) (c:=s.hn) (d:=s.hd) (e:=x.hn) (f:=x.hd) hs hv hx Om Om
    have l2:=vq (a:=x.hn) (b:=x.hd) (c:=s.hn) (d:=s.hd) (e:=u) (f:=v) hs hx hv Om Om
    exact .inr ⟨by omega,g2 Om⟩
theorem jhq :lowOk (kh s x) u v↔lowOk s u v:=by unfold kh;split<;>exact Iff.rfl
theorem jfk :highOk (qV s x) u v↔highOk s u v:=by unfold qV;split<;>exact Iff.rfl
theorem Ye (hs:0<s.ld∧0<s.hd) (hx:0<x.ld∧0<x.hd) (hv:0<v) :yH (J6 s x) u v↔yH s u v∧yH x u v:=by
 unfold yH J6
 rw [jhq,jcZ hs.1 hx.1 hv,jao (Zp hs hx).2 hx.2 hv,jfk]
 constructor
 ·rintro⟨⟨h1,h2⟩,h3,h4⟩;exact⟨⟨h1,h3⟩,h2,h4⟩
 ·rintro⟨⟨h1,h3⟩,h2,h4⟩;exact⟨⟨h1,h2⟩,h3,h4⟩
theorem IQ :yH uu u v↔0≤u∧u≤v:=by
 unfold yH lowOk highOk uu
 simp only [jkd,jkP,Int.one_mul,and_true]
 omega
def Zk (f d lo u v:Int) :Prop:=lo*v≤f*v+u*d∧f*v+u*d< (lo+2) *v
theorem yp {f d lo:Int} (hv:0<v) (h0:0≤u) (h1:u≤v) : (KO f d lo=true∧yH (QV f d lo) u v)↔Zk f d lo u v:=by
 have e1: (lo+2) *v=lo*v+2*v:=jlf ..
 by_cases hd:0<d
 ·have hp:KO f d lo=true:=by unfold KO;rw [decide_eq_false Om];rfl
  have e2: (lo- f) *v=lo*v- f*v:=Int.sub_mul ..
  have e3: (lo+2- f) *v=lo*v+2*v- f*v:=by rw [Int.sub_mul,jlf]
  rw [hp]
  unfold QV
  rw [if_pos hd]
  unfold yH lowOk highOk Zk
  simp only [true_and,and_true,jkm,and_false,or_false]
  rw [e1,e2,e3]
  omega
 ·by_cases hn:d<0
  ·have hp:KO f d lo=true:=by unfold KO;rw [decide_eq_false Om];rfl
   have e2: (f- lo) *v=f*v- lo*v:=Int.sub_mul ..
   have e3: (f- lo- 2) *v=f*v- lo*v- 2*v:=by rw [Int.sub_mul,Int.sub_mul]
   have e4:u* (-d) = -(u*d) :=Int.mul_neg ..
   rw [hp]
   unfold QV
   rw [if_neg hd,if_pos hn]
   unfold yH lowOk highOk Zk
   simp only [true_and,and_true,jkm,and_false,or_false]
   rw [e1,e2,e3,e4]
   omega
  ·obtain rfl:d=0:=by omega
   rw [wG,IQ]
   unfold KO Zk
   rw [jkT,jk4]
   simp only [decide_true,Bool.not_true,Bool.false_or,jjl,decide_eq_true_eq]
   constructor
   ·rintro⟨⟨g1,g2⟩,_⟩
    exact⟨jjn g1 Om,jjE g2 hv⟩
   ·rintro⟨g1,g2⟩
    exact⟨⟨jjY g1 hv,jjV g2 Om⟩,h0,h1⟩
theorem MJ (hs:0<s.ld∧0<s.hd) (h:vT s=true) :∃u v,0<v∧yH s u v:=by
 simp only [vT,jkb,jjl,decide_eq_true_eq] at h
 rcases h with h |⟨⟨h,h1⟩,h2⟩
 ·have p:=jjZ hs.1 hs.2
  refine⟨s.ln*s.hd+s.hn*s.ld,2* (s.ld*s.hd),by omega, .inl ?_, .inl ?_⟩
  ·have:=jjE (show s.ln*s.hd<s.hn*s.ld by omega) hs.1
   have e1:s.ln* (2* (s.ld*s.hd)) =2* (s.ln*s.hd*s.ld) :=by grind
   have e2: (s.ln*s.hd+s.hn*s.ld) *s.ld=s.ln*s.hd*s.ld+s.hn*s.ld*s.ld:=jlf ..
   rw [e1,e2]
   omega
  ·have:=jjE (show s.ln*s.hd<s.hn*s.ld by omega) hs.2
   have e1:s.hn* (2* (s.ld*s.hd)) =2* (s.hn*s.ld*s.hd) :=by grind
   have e2: (s.ln*s.hd+s.hn*s.ld) *s.hd=s.ln*s.hd*s.hd+s.hn*s.ld*s.hd:=jlf ..
   rw [e1,e2]
   omega
 ·exact⟨s.ln,s.ld,hs.1, .inr ⟨rfl,h1⟩, .inr ⟨by omega,h2⟩⟩
theorem jc5 (hs:0<s.ld∧0<s.hd) (hv:0<v) (h:yH s u v) :vT s=true:=by
 simp only [vT,jkb,jjl,decide_eq_true_eq]
 obtain ⟨h1,h2⟩ :=h
 by_cases g1:s.ln*v<u*s.ld
 ·have:=wy (a:=s.ln) (b:=s.ld) (c:=u) (d:=v) (e:=s.hn) (f:=s.hd) hv hs.1 hs.2 g1 h2.le
  exact .inl Om
 ·by_cases g2:u*s.hd<s.hn*v
  ·have:=KX (a:=s.ln) (b:=s.ld) (c:=u) (d:=v) (e:=s.hn) (f:=s.hd) hv hs.1 hs.2 h1.le g2
   exact .inl Om
  ·have l1:=vq (a:=s.ln) (b:=s.ld) (c:=u) (d:=v) (e:=s.hn) (f:=s.hd) hv hs.1 hs.2 h1.le h2.le
   have k1:=h1.resolve_left g1
   have k2:=h2.resolve_left g2
   have l2:=vq (a:=s.hn) (b:=s.hd) (c:=u) (d:=v) (e:=s.ln) (f:=s.ld) hv hs.2 hs.1 Om Om
   exact .inr ⟨⟨by omega,k1.2⟩,k2.2⟩
def wz (a b p:Pn) (u v:Int) :Prop:=Zk (2*a.1) (2* (b.1- a.1)) (2*p.1- 1) u v∧Zk (2*a.2) (2* (b.2- a.2)) (2*p.2- 1) u v
theorem K5 (hv:0<v) (h:Vm a b p=true) :yH (J4 a b p) u v↔(0≤u∧u≤v)∧wz a b p u v:=by
 unfold Vm XZ at h
 simp only [jjl] at h
 unfold J4 wz
 rw [Ye (K6 UL (Kf _ _ _)) (Kf _ _ _) hv,Ye UL (Kf _ _ _) hv,IQ]
 constructor
 ·rintro⟨⟨⟨h0,h1⟩,h2⟩,h3⟩
  exact⟨⟨h0,h1⟩,(yp hv h0 h1).1 ⟨h.1.1,h2⟩,(yp hv h0 h1).1 ⟨h.1.2,h3⟩⟩
 ·rintro⟨⟨h0,h1⟩,h2,h3⟩
  exact⟨⟨⟨h0,h1⟩,((yp hv h0 h1).2 h2).2⟩,((yp hv h0 h1).2 h3).2⟩
theorem MG (hv:0<v) (h0:0≤u) (h1:u≤v) (h:wz a b p u v) :Vm a b p=true:=by
 have hx:= (yp hv h0 h1).2 h.1
 have hy:= (yp hv h0 h1).2 h.2
 have hm:yH (J4 a b p) u v:=by
  unfold J4
  rw [Ye (K6 UL (Kf _ _ _)) (Kf _ _ _) hv,Ye UL (Kf _ _ _) hv,IQ]
  exact⟨⟨⟨h0,h1⟩,hx.2⟩,hy.2⟩
 have:=jc5 (K4 a b p) hv hm
 unfold Vm XZ
 rw [hx.1,hy.1]
 exact this
theorem UP {q:Pn} (hv:0<v) (h:wz a b p u v) (h':wz a b q u v) :p=q:=by
 have key:∀ {f d m n:Int},Zk f d (2*m- 1) u v→Zk f d (2*n- 1) u v→¬m<n:=by
  intro f d m n g g' hmn
  have:=jjn (show 2*m- 1+2≤2*n- 1 by omega) (show 0≤v by omega)
  have g2:=g.2
  have g1':=g'.1
  omega
 have x1:=key h.1 h'.1
 have x2:=key h'.1 h.1
 have y1:=key h.2 h'.2
 have y2:=key h'.2 h.2
 exact Prod.ext Om Om
theorem NX (a b:Pn) :wz a b a 0 1:=by
 unfold wz Zk
 simp only [jkP,jkd,jk4]
 omega
theorem jcF (a b:Pn) :wz a b b 1 1:=by
 unfold wz Zk
 simp only [jkP,Int.one_mul]
 omega
theorem jcK (a b:Pn) :Vm a b a=true:=MG Dc Dc Dc (NX a b)
theorem jcL (a b:Pn) :Vm a b b=true:=MG Dc Dc Dc (jcF a b)
theorem GP :zC s x=true↔s.ln*x.ld<x.ln*s.ld∨(s.ln*x.ld=x.ln*s.ld∧s.lc=true∧x.lc=false) :=by
 simp only [zC,jkb,jjl,decide_eq_true_eq,jj9]
 constructor
 ·rintro(h |⟨⟨h1,h2⟩,h3⟩)
  ·exact .inl Om
  ·exact .inr ⟨by omega,h2,h3⟩
 ·rintro(h |⟨h1,h2,h3⟩)
  ·exact .inl Om
  ·exact .inr ⟨⟨by omega,h2⟩,h3⟩
theorem To (hs:0<s.ld) (hx:0<x.ld) (h:0≤s.ln) :0≤(J6 s x).ln:=by
 have e: (J6 s x).ln= (qV s x).ln:=by unfold J6 kh;split<;>rfl
 rw [e]
 unfold qV
 split
 ·rename_i h'
  simp only [Uz,jkb,jjl,decide_eq_true_eq,jj9] at h'
  have h1:s.ln*x.ld≤x.ln*s.ld:=by rcases h' with h' |⟨h',_⟩ <;>omega
  have h2:0≤s.ln*x.ld:=jjD h Om
  show 0≤x.ln
  refine jkn.1 fun hn=> ?_
  have:=jke hn hs
  omega
 ·exact h
theorem FC (a b p:Pn) :0≤(J4 a b p).ln:=
 To (K6 UL (Kf _ _ _)).1 (Kf _ _ _).1 (To UL.1 (Kf _ _ _).1 Dc)
theorem PJ (hi:Vm a b p=true) (hne:p≠a) :KQ a b a p=true:=by
 have ha:=jcK a b
 have ma:yH (J4 a b a) 0 1:= (K5 Dc ha).2 ⟨⟨by decide,by decide⟩,NX a b⟩
 have ua:=FC a b a
 have up:=FC a b p
 have pa:=K4 a b a
 have pp:=K4 a b p
 have l0: (J4 a b a).ln=0∧(J4 a b a).lc=true:=by
  have:=ma.1
  unfold lowOk at this
  simp only [jkP,jkd] at this
  rcases this with h |⟨h,hc⟩
  ·omega
  ·exact⟨h,hc⟩
 unfold KQ
 rw [GP,l0.1,l0.2,jkd]
 by_cases h:0< (J4 a b p).ln
 ·exact .inl (jjZ h pa.1)
 ·have e: (J4 a b p).ln=0:=by omega
  rw [e,jkd]
  refine .inr ⟨J,J,?_⟩
  cases hc: (J4 a b p).lc with
  | false=>rfl
  | true=>
   have hn:vT (J4 a b p) =true:=by unfold Vm XZ at hi;simp only [jjl] at hi;exact hi.2
   obtain ⟨u,v,hv,hm⟩ :=MJ pp hn
   have h0:= (K5 hv hi).1 hm
   have hh:highOk (J4 a b p) 0 1:=by
    have:=hm.2
    unfold highOk at this⊢
    simp only [jkd,jkP]
    have q1:0≤u* (J4 a b p).hd:=jjD h0.1.1 Om
    by_cases g:0< (J4 a b p).hn
    ·exact .inl g
    ·have q2: (J4 a b p).hn*v≤0:=Int.mul_nonpos_of_nonpos_of_nonneg Om Om
     rcases this with h' |⟨h',hc'⟩
     ·omega
     ·refine .inr ⟨?_,hc'⟩
      have: (J4 a b p).hn*v=0:=by omega
      rcases Int.mul_eq_zero.1 this with h' | h'<;>omega
   have m0:yH (J4 a b p) 0 1:=⟨.inr ⟨by rw [e];simp,hc⟩,hh⟩
   exact absurd (UP Dc ((K5 Dc hi).1 m0).2 (NX a b)) hne
theorem jba (hi:Vm a b p=true) (hne:p≠b) :KQ a b p b=true:=by
 have hb:=jcL a b
 have mb:yH (J4 a b b) 1 1:= (K5 Dc hb).2 ⟨⟨by decide,by decide⟩,jcF a b⟩
 have pb:=K4 a b b
 have pp:=K4 a b p
 rcases Bool.eq_false_or_eq_true (KQ a b p b) with h | h
 ·exact h
 ·exfalso
  have hns:¬((J4 a b p).ln* (J4 a b b).ld< (J4 a b b).ln* (J4 a b p).ld∨((J4 a b p).ln* (J4 a b b).ld= (J4 a b b).ln* (J4 a b p).ld∧(J4 a b p).lc=true∧(J4 a b b).lc=false)) :=fun h'=>by
   have:=GP.2 h'
   unfold KQ at h
   rw [h] at this
   cases this
  have hle: (J4 a b b).ln* (J4 a b p).ld≤(J4 a b p).ln* (J4 a b b).ld:=jkn.1 fun h'=>hns (.inl h')
  have hn:vT (J4 a b p) =true:=by unfold Vm XZ at hi;simp only [jjl] at hi;exact hi.2
  obtain ⟨u,v,hv,hm⟩ :=MJ pp hn
  have h0:= (K5 hv hi).1 hm
  have hlow:lowOk (J4 a b b) u v:=by
   by_cases g: (J4 a b p).ln*v<u* (J4 a b p).ld
   ·exact .inl (KX pp.1 pb.1 hv hle g)
   ·obtain ⟨g1,g2⟩ :=hm.1.resolve_left g
    by_cases k: (J4 a b b).ln* (J4 a b p).ld< (J4 a b p).ln* (J4 a b b).ld
    ·exact .inl (wy pp.1 pb.1 hv k Om)
    ·have l1:=vq (a:= (J4 a b b).ln) (b:= (J4 a b b).ld) (c:= (J4 a b p).ln) (d:= (J4 a b p).ld) (e:=u) (f:=v) pp.1 pb.1 hv Om Om
     have l2:=vq (a:=u) (b:=v) (c:= (J4 a b p).ln) (d:= (J4 a b p).ld) (e:= (J4 a b b).ln) (f:= (J4 a b b).ld) pp.1 hv pb.1 Om Om
     refine .inr ⟨by omega,?_⟩
     cases hc: (J4 a b b).lc with
     | true=>rfl
     | false=>exact absurd (.inr ⟨by omega,g2,hc⟩) hns
  have hhigh:highOk (J4 a b b) u v:=by
   have:=mb.2
   unfold highOk at this⊢
   simp only [Int.one_mul,jkP] at this
   have e:v* (J4 a b b).hd= (J4 a b b).hd*v:=jj1 ..
   by_cases g:u<v
   ·have q:=jjE g pb.2
    have q2: (J4 a b b).hd*v≤(J4 a b b).hn*v:=jjn Om Om
    exact .inl Om
   ·obtain rfl:u=v:=by have:=h0.1.2;omega
    rcases this with h' |⟨h',hc⟩
    ·have q2:=jjE h' hv
     exact .inl Om
    ·exact .inr ⟨by rw [h',jj1],hc⟩
  exact hne (UP hv h0.2 ((K5 hv hb).1 ⟨hlow,hhigh⟩).2)
theorem jfQ (a b:Pn) :KN a b a=true:=Yl (XK Om Om) (zU Om Om) (jcK a b)
theorem jfR (a b:Pn) :KN a b b=true:=Yl (XK Om Om) (zU Om Om) (jcL a b)
theorem Yk (h:KN a b p=true) :Vm a b p=true:=by unfold KN at h;simp only [jjl] at h;exact h.2
theorem kU :p∈qC a b hot↔p∈hot∧KN a b p=true:=by
 rw [Wg,wm,Z9,jkc]
theorem uL (h:hot.Nodup) : (qC a b hot).Nodup:=by
 rw [Wg]
 unfold wm
 exact(BM (lt:=KQ a b) (l:=hot.filter (KN a b))).nodup_iff.2 (h.sublist List.filter_sublist)
theorem Z3 (hne:a≠b) (ha:a∈hot) (hb:b∈hot) :∃mid,qC a b hot=a:: (mid++ [b]) :=by
 have ma:a∈qC a b hot:=kU.2 ⟨ha,jfQ a b⟩
 have mb:b∈qC a b hot:=kU.2 ⟨hb,jfR a b⟩
 have hi:∀p∈qC a b hot,Vm a b p=true:=fun p hp=>Yk (kU.1 hp).2
 have hs:UU (KQ a b) (qC a b hot) :=by rw [Wg];exact ZL a b hot
 revert ma mb hi hs
 generalize qC a b hot=S
 intro ma mb hi hs
 cases S with
 | nil=>cases ma
 | cons x T=>
  obtain ⟨h1,h2⟩ :=jjX.1 hs
  have hx:x=a:=Decidable.byContradiction fun hx=>by
   have hT:a∈T:= (jjw.1 ma).resolve_left (fun e=>hx e.symm)
   have:=PJ (hi x (jjJ ..)) hx
   rw [h1 a hT] at this
   cases this
  subst hx
  have hbT:b∈T:= (jjw.1 mb).resolve_left (fun e=>hne e.symm)
  rcases List.eq_nil_or_concat T with rfl |⟨mid,y,rfl⟩
  ·cases hbT
  ·rw [List.concat_eq_append] at*
   have hy:y=b:=Decidable.byContradiction fun hy=>by
    have hm:b∈mid:= (jjz.1 hbT).resolve_right (fun e=>hy (jjp.1 e).symm)
    have:=jba (hi y (jjs _ (jkw _ (jjp.2 rfl)))) hy
    rw [(jkQ.1 h2).2.2 b hm y (jjp.2 rfl)] at this
    cases this
   exact⟨mid,by rw [hy]⟩
def Nn (e:Pn×Pn) :Leg:=⟨e.1.1,e.1.2,e.2.1,e.2.2⟩
def kN (xs:List Pn) :List (Pn×Pn) := (List.range xs.length).map fun j=> (pt xs j,pt xs (nx xs j))
def bare (xs:List Pn) :Prop:=0<xs.length∧∀j,j<xs.length→pt xs j≠pt xs (nx xs j)
def qX (hot:List Pn) (e:Pn×Pn) :List Pn:= (qC e.1 e.2 hot).dropLast
def kv (hot xs:List Pn) :List Pn:= (JZ xs).flatMap fun l=>qX hot (lA l,lB l)
theorem XT {xs:List Pn} (h:bare xs) :∀k,k≤xs.length→qy xs k= ((List.range k).map fun j=> (pt xs j,pt xs (nx xs j))).map Nn
 | 0,_=>rfl
 | k+1,hk=>by
  have hne:=h.2 k Om
  rw [Kb,if_neg (fun e=>hne (Prod.ext e.1 e.2)),XT h k Om,List.range_succ,jjQ,jjQ]
  rfl
theorem QC (h:bare xs) :JZ xs= (kN xs).map Nn:=XT h _ (jjm _)
theorem WP (h:bare xs) :kv hot xs= (kN xs).flatMap (qX hot) :=by
 unfold kv
 rw [QC h,List.flatMap_map]
 rfl
def Lk:List (Pn×Pn)→Pn→Prop
 | [],_=>True
 | [e],z=>e.2=z
 | e::f::l,z=>e.2=f.1∧Lk (f::l) z
theorem jgG:∀ {es:List (Pn×Pn)} {z:Pn},(∀i (h:i+1<es.length),(es[i]'(by omega)).2=es[i+1].1)→(∀h:0<es.length,(es[es.length- 1]'(by omega)).2=z)→Lk es z
 | [],_,_,_=>trivial
 | [e],z,_,h2=>h2 (by simp)
 | e::f::l,z,h1,h2=>⟨h1 0 (by simp),jgG (fun i h=>by have:=h1 (i+1) (by simpa using h);simpa using this) (fun h=>by have:=h2 (by simp);simpa using this)⟩
theorem wF (xs:List Pn) : (kN xs).length=xs.length:=by simp [kN]
theorem Yn :Lk (kN xs) (pt xs 0) :=by
 refine jgG (fun i h=> ?_) (fun h=> ?_)
 ·rw [wF] at h
  simp only [kN,jkx,jkY]
  rw [show nx xs i=i+1 from jkA h]
 ·rw [wF] at h
  simp only [kN,jkx,jkY,jjB,List.length_range]
  rw [show nx xs (xs.length- 1) =0 by unfold nx;rw [show xs.length- 1+1=xs.length by omega,jk8]]
theorem vX (xs:List Pn) : (kN xs).map (·.1) =xs:=by
 apply jkC
 ·simp [kN]
 ·intro i h1 h2
  simp only [kN,jkx,jkY]
  rw [Kg h2]
def Dis:List Pn→Prop
 | [] =>True
 | [_] =>True
 | p::q::l=>p≠q∧Dis (q::l)
theorem Hh:∀ {l:List Pn},l.Nodup→Dis l
 | [],_=>trivial
 | [_],_=>trivial
 | p::q::l,h=>by
  obtain ⟨h1,h2⟩ :=jkJ.1 h
  exact⟨fun e=>h1 (e▸jjJ ..),Hh h2⟩
theorem Sy:∀ {A:List Pn} {p:Pn} {B:List Pn},Dis (A++ [p])→Dis (p::B)→Dis (A++p::B)
 | [],_,_,_,h=>h
 | [a],p,B,h,h'=>⟨h.1,h'⟩
 | a::b::A,p,B,h,h'=>⟨h.1,Sy (A:=b::A) h.2 h'⟩
theorem jcn:∀ {l:List Pn},Dis l→∀j,j+1<l.length→pt l j≠pt l (j+1)
 | [],_,j,h=>absurd h (by simp)
 | [_],_,j,h=>absurd h (by simp)
 | p::q::l,hd,0,_=>hd.1
 | p::q::l,hd,j+1,h=>by
  have:=jcn hd.2 j (by simpa using h)
  simpa [pt,px,py] using this
theorem Vo {e:Pn×Pn} (h:e.1≠e.2∧e.1∈hot∧e.2∈hot) :∃mid,qX hot e=e.1::mid∧qC e.1 e.2 hot=qX hot e++ [e.2] :=by
 obtain ⟨mid,hm⟩ :=Z3 h.1 h.2.1 h.2.2
 refine⟨mid,?_,?_⟩
 ·unfold qX
  rw [hm,←jjN,List.dropLast_concat]
 ·unfold qX
  rw [hm,←jjN,List.dropLast_concat]
theorem SJ {hot:List Pn} (hnd:hot.Nodup) :∀ {es:List (Pn×Pn)} {e:Pn×Pn} {z:Pn},Lk (e::es) z→(∀d∈e::es,d.1≠d.2∧d.1∈hot∧d.2∈hot)→Dis ((e::es).flatMap (qX hot) ++ [z])∧∃rest,(e::es).flatMap (qX hot) =e.1::rest
 | [],e,z,hl,hm=>by
  obtain ⟨mid,h1,h2⟩ :=Vo (hm e (jjJ ..))
  have hz:e.2=z:=hl
  simp only [jjH,List.flatMap_nil,jjL]
  refine⟨?_,mid,h1⟩
  rw [←hz,←h2]
  exact Hh (uL hnd)
 | f::l,e,z,hl,hm=>by
  obtain ⟨mid,h1,h2⟩ :=Vo (hm e (jjJ ..))
  obtain ⟨k1,rest,k2⟩ :=SJ hnd (es:=l) (e:=f) (z:=z) hl.2 (fun d hd=>hm d (jjs _ hd))
  rw [jjH]
  refine⟨?_,mid++ (f::l).flatMap (qX hot),by rw [h1];rfl⟩
  rw [jjq]
  rw [k2] at k1⊢
  refine Sy (B:=rest++ [z]) ?_ k1
  rw [←hl.1,←h2]
  exact Hh (uL hnd)
theorem Hl {hot:List Pn} :∀ {es:List (Pn×Pn)},(∀d∈es,d.1≠d.2∧d.1∈hot∧d.2∈hot)→es.length≤(es.flatMap (qX hot)).length∧((es.flatMap (qX hot)).length=es.length→es.flatMap (qX hot) =es.map (·.1))
 | [],_=>⟨jjm _,fun _=>rfl⟩
 | e::l,h=>by
  obtain ⟨mid,h1,_⟩ :=Vo (h e (jjJ ..))
  obtain ⟨g1,g2⟩ :=Hl (es:=l) fun d hd=>h d (jjs _ hd)
  rw [jjH,h1,jjk,jjr,jjr]
  refine⟨by omega,fun hle=> ?_⟩
  obtain rfl:mid= [] :=jjW Om
  rw [g2 (by simp only [jjK] at hle;omega),jjF]
  rfl
theorem U8 (hb:bare xs) (hm:∀p∈xs,p∈hot) :∀d∈kN xs,d.1≠d.2∧d.1∈hot∧d.2∈hot:=fun d hd=>by
 obtain ⟨j,hj,rfl⟩ :=jjx.1 hd
 have hj:=jko.1 hj
 refine⟨hb.2 j hj,hm _ ?_,hm _ ?_⟩
 ·rw [←Kg hj];exact jju _
 ·have hn:nx xs j<xs.length:=jkR _ hb.1
  show pt xs (nx xs j)∈xs
  rw [←Kg hn];exact jju _
theorem BE (h:p∈kv hot xs) :p∈hot:=by
 obtain ⟨l,_,hp⟩ :=jkO.1 h
 exact(kU.1 (List.dropLast_subset _ hp)).1
theorem E6 (hnd:hot.Nodup) :∀ {es:List (Pn×Pn)} {z:Pn},Lk es z→(∀d∈es,d.1≠d.2∧d.1∈hot∧d.2∈hot)→(∀h:0<es.length,(es[0]'h).1=z)→0<es.length→bare (es.flatMap (qX hot))
 | [],_,_,_,_,h=>absurd h (by simp)
 | e::l,z,hlk,hok,h0,hp=>by
  obtain ⟨k1,rest,k2⟩ :=SJ hnd hlk hok
  have he:e.1=z:=h0 hp
  generalize (e::l).flatMap (qX hot) =ys at*
  refine⟨by rw [k2];simp,fun j hj=> ?_⟩
  have hd:=jcn k1 j (by simp;omega)
  have e1:pt (ys++ [z]) j=pt ys j:=by simp only [pt,px,py,List.getD_eq_getElem?_getD,List.getElem?_append_left hj]
  rw [e1] at hd
  by_cases hj1:j+1<ys.length
  ·rw [show nx ys j=j+1 from jkA hj1]
   have e2:pt (ys++ [z]) (j+1) =pt ys (j+1) :=by simp only [pt,px,py,List.getD_eq_getElem?_getD,List.getElem?_append_left hj1]
   rwa [e2] at hd
  ·have hjn:j+1=ys.length:=by omega
   rw [show nx ys j=0 by unfold nx;rw [hjn,jk8]]
   have e2:pt (ys++ [z]) (j+1) =z:=by
    have e4: (ys++ [z])[j+1]? =some z:=by rw [List.getElem?_append_right Om,hjn,Nat.sub_self];rfl
    simp only [pt,px,py,List.getD_eq_getElem?_getD,e4]
    rfl
   have e3:pt ys 0=z:=by rw [k2,←he];rfl
   rw [e2] at hd
   rwa [e3]
theorem uS (hnd:hot.Nodup) (hb:bare xs) (hm:∀p∈xs,p∈hot) :bare (kv hot xs)∧xs.length≤(kv hot xs).length∧((kv hot xs).length=xs.length→kv hot xs=xs) :=by
 rw [WP hb]
 have hok:=U8 hb hm
 obtain ⟨g1,g2⟩ :=Hl hok
 rw [wF] at g1 g2
 exact⟨E6 hnd Yn hok (fun h=>by simp [kN]) (by rw [wF];exact hb.1),g1,fun h=>by rw [g2 h,vX]⟩
def cnt (rs:List jO) :Nat:= (rs.map List.length).sum
def qq (hot:List Pn) (rs:List jO) :List jO:=rs.map (kv hot)
def bareG (hot:List Pn) (rs:List jO) :Prop:=∀r∈rs,bare r∧∀p∈r,p∈hot
theorem bareG.snap (hnd:hot.Nodup) (h:bareG hot rs) :bareG hot (qq hot rs) :=fun r hr=>by
 obtain ⟨q,hq,rfl⟩ :=jjx.1 hr
 exact⟨(uS hnd (h q hq).1 (h q hq).2).1,fun p hp=>BE hp⟩
theorem FM {hot:List Pn} (hnd:hot.Nodup) :∀ {rs:List jO},bareG hot rs→cnt rs≤cnt (qq hot rs)∧(cnt (qq hot rs) =cnt rs→qq hot rs=rs)
 | [],_=>⟨jjm _,fun _=>rfl⟩
 | r::l,h=>by
  obtain ⟨h1,h2⟩ :=h r (jjJ ..)
  obtain ⟨_,g1,g2⟩ :=uS hnd h1 h2
  obtain ⟨k1,k2⟩ :=FM hnd (rs:=l) fun q hq=>h q (jjs _ hq)
  have e1:cnt (qq hot (r::l)) = (kv hot r).length+cnt (qq hot l) :=rfl
  have e2:cnt (r::l) =r.length+cnt l:=rfl
  rw [e1,e2]
  refine⟨by omega,fun he=> ?_⟩
  have a1:=g2 Om
  have a2:=k2 Om
  show kv hot r::qq hot l=r::l
  rw [a1,a2]
theorem wb (h:bare xs) : (JZ xs).length=xs.length:=by rw [QC h,jjB,wF]
theorem XR (h:∀r∈rs,bare r) : (jt rs).length=cnt rs:=by
 have key:∀k,k≤rs.length→(qE rs k).length=cnt (rs.take k) :=by
  intro k
  induction k with
  | zero=>intro _;rfl
  | succ k ih=>
   intro hk
   have hb:bare (rg rs k) :=by have:=h rs[k] (jju Om);rwa [wu Om] at this
   show(qE rs k++JZ (rg rs k)).length=_
   rw [jjk,ih Om,wb hb,VO Om]
   simp [cnt]
 have:=key rs.length (jjm _)
 rwa [jj3] at this
theorem NY (A:Option Addr) (n c:Nat) (xs:List (Int×Int)) (w:World) (h:Pts w A n xs) :
  Calls Tryz.prog 152 #[.slice A n c] w fun e w'=>e= .returned (.bool (Qz xs))∧Over w w':=by
 have hl:=h.1
 refine j6 (m:=15) (Tryz.func152) J J (lb J) ?_;refine S10 ?_;refine cV 6 (fun g1=> ?_) (fun g1=> ?_)
 ·have h1:1≤n:=Om
  refine S8 ?_;refine cV 11 (fun g2=> ?_) (fun g2=> ?_)
  ·have h2:n≤400:=Om
   refine S3 ?_;refine o9 (jM HF J J (fun w1 hs=>Ru A n c xs w1 (h.over hs.fin) Om)) ?_;refine S4 ?_;refine jK J (.tmp J) ?_
   intro w' hs
   exact⟨QF (by unfold Qz ZX WY;rw [hl,decide_eq_true (show(1:Int)≤(n:Int) by omega),decide_eq_true (show(n:Int)≤400 by omega)];rfl),hs.fin⟩
  ·refine S6 ?_;refine jK J (.tmp J) ?_
   intro w' hs
   exact⟨QF (by unfold Qz ZX;rw [hl,decide_eq_false (show¬(n:Int)≤400 by omega),jkW,jjU]),hs.fin⟩
 ·refine S11 ?_;refine jK J (.tmp J) ?_
  intro w' hs
  exact⟨QF (by unfold Qz ZX;rw [hl,decide_eq_false (show¬(1:Int)≤(n:Int) by omega)];rfl),hs.fin⟩
theorem Dg (A:Option Addr) (n c:Nat) (xs:List (Int×Int)) (w:World) (h:Pts w A n xs) :
  Calls Tryz.prog 97 #[TP A n c] w fun e w'=>e= .returned (.bool (Qz xs))∧Over w w':=by
 refine j6 (m:=6) (Tryz.func97) J J (lb J) ?_;refine S3 ?_;refine aX (fun b1=> ?_);refine N6 ?_;refine a9 (jM O4 J J (fun w1 hs=>NY A n c xs w1 (h.over hs.fin))) ?_;refine S3 ?_;refine jK J (.tmp J) ?_
 intro w' hs
 exact⟨rfl,hs.fin⟩
theorem Ta (b o:Nat) (A:Option Addr) (n c:Nat) (xs:List (Int×Int)) (w:World) (hc:w.cell? ⟨b,o,none⟩ =some (.slice A n c)) (hb:b<w.heap.size) (h:Pts w A n xs) :
  Calls Tryz.prog 95 #[.pointer (some ⟨b,o,none⟩)] w fun e w'=>e= .returned (.bool (Qz xs))∧Over w w':=by
 have hl:=h.1
 refine j6 (m:=16) (Tryz.func95) J J (lb J) ?_;refine S9 ?_;refine a9 (jo J J JH (QW hc hb)) ?_;refine S1 ?_;refine a9 (jM yI J J (fun w1 hs=>Calls.still (uH (n:Int) 1 400 w1))) ?_;refine S1 ?_;refine cV 9 (fun g1=> ?_) (fun g1=> ?_)
 ·have h2:n≤400:= (by unfold ZX at g1;simp only [jjl,decide_eq_true_eq] at g1;omega)
  refine S7 ?_;refine o9 (jo J J JH (QW hc hb)) ?_;refine h9 ?_;refine o9 (jM Gn J J (fun w1 hs=>xu A n c xs w1 (h.over hs.fin) Om)) ?_;refine S4 ?_;refine jK J (.tmp J) ?_
  intro w' hs
  exact⟨QF (by unfold Qz;rw [hl,g1];rfl),hs.fin⟩
 ·refine S9 ?_;refine jK J (.tmp J) ?_
  intro w' hs
  exact⟨QF (by unfold Qz;rw [hl,g1];rfl),hs.fin⟩
theorem jgU (h:rs.all Qz=true) (hk:k<rs.length) :Qz (rg rs k) =true:=by
 have:=jkj.1 h rs[k] (jju hk)
 rwa [wu hk] at this
theorem zO {rs:List jO} :∀ {k:Nat},k≤rs.length→(rs.take k).all Qz=true→(qE rs k).length≤400*k
 | 0,_,_=>jjm _
 | k+1,hk,h=>by
  rw [VO Om,List.all_append,jjl] at h
  have h2:Qz (rg rs k) =true:=by simpa using h.2
  have:=zO (k:=k) Om h.1
  have:=qW h2
  have:=KM (rg rs k) (rg rs k).length
  show(qE rs k++JZ (rg rs k)).length≤_
  rw [jjk]
  unfold JZ
  omega
theorem LV {rs:List jO} (h:rs.all Qz=true) :∀k,k≤rs.length→WR rs k≤400*k
 | 0,_=>jjm _
 | k+1,hk=>by
  have:=LV h k Om
  have:=qW (jgU h (show k<rs.length by omega))
  rw [WR]
  omega
theorem Wh (A:Option Addr) (n c:Nat) (rs:List jO) (w:World) (h:Rings w A n rs) (hm: (n:Int)≤9223372036854775807) :
  Calls Tryz.prog 53 #[qr A n c] w fun e w'=>e= .returned (.bool (Jp rs))∧Over w w':=by
 have hl:=h.1
 refine j6 (m:=28) (Tryz.func53) J J (lb J) ?_;refine S3 ?_;refine aX (fun b1=> ?_);refine N10 ?_;refine cZ (fun c1=> ?_) (fun c1=> ?_)
 ·refine S6 ?_;refine jK J (.tmp J) ?_
  intro w' hs
  exact⟨QF (YZ Om).symm,hs.fin⟩
 ·have h40:n≤40:=Om
  refine S15 ?_;refine qv (X:=Nat) (fun k=>k≤n∧(rs.take k).all Qz=true) (fun k=>n- k) (fun k=> [(3, .int .i64 ((qE rs k).length:Int)),(13, .int .i64 (k:Int))]) (kK [2,11,12]) 0 (⟨jjo _,J⟩) ⟨J,sz⟩ ?_
  intro k hk L hL1
  refine v9 ?_
  obtain ⟨hk1,hk2⟩ :=hk
  refine S5 ?_;refine cZ (fun c2=> ?_) (fun c2=> ?_)
  ·have hlt:k<n:=Om
   obtain ⟨bb,oo,Ak,ck,rfl,hbB,hcell,hpts,hmax⟩ :=h.at_ hlt
   have hsum:=zO (show k≤rs.length by omega) hk2
   refine S7 ?_;refine a9 (jl J J JP J (Bu hcell hbB)) ?_;refine S1 ?_;refine aL (fun b2=> ?_);refine N7 ?_;refine a9 (jM Gi J J (fun w1 hs=>Dg Ak _ ck (rg rs k) w1 (hpts.over hs.fin))) ?_;refine S2 ?_;refine cZ (fun c3=> ?_) (fun c3=> ?_)
   ·refine S11 ?_;refine jK J (.tmp J) ?_
    intro w' hs
    exact⟨QF (ZF (show k<rs.length by omega) c3).symm,hs.fin⟩
   ·have hp:=qW c3
    have he:=KM (rg rs k) (rg rs k).length
    have hs2: (qE rs (k+1)).length= (qE rs k).length+ (JZ (rg rs k)).length:=jjk
    have he': (JZ (rg rs k)).length≤(rg rs k).length:=he
    refine S6 ?_;refine JU Ux (v:=fun x=> .slice x.1 _ x.2) (r:=fun x=>J3 0 96 4 _ _ x) (H:=fun _=>True) J J J (lb J) (fun w1 hs=>Qf (Uk Ak _ ck (rg rs k) w1 (hpts.over hs.fin) Om)) ?_
    rintro⟨eA,ec⟩ -
    refine N10 ?_
    exact qf hL1 (k+1) (⟨by omega,BP Om hk2 c3⟩) Om ⟨vi (by rw [hs2];omega),vi Om,sz⟩ (u9 J)
  ·have hkn:k=n:=Om
   refine S12 ?_;refine jK J (.tmp J) ?_
   intro w' hs
   have ha:rs.all Qz=true:= (by rw [jjR Om] at hk2;exact hk2)
   exact⟨QF (by rw [U9 Om ha];unfold jt;rw [hl,←hkn];exact decide_eq_decide.2 Om),hs.fin⟩
theorem ZZ (b1 o1:Nat) (A:Option Addr) (n c:Nat) (rs:List jO) (w:World) (hcell:w.cell? ⟨b1,o1,none⟩ =some (.slice A n c)) (hb1:b1<w.heap.size) (h:Rings w A n rs) (hm: (n:Int)≤9223372036854775807) :
  Calls Tryz.prog 46 #[.pointer (some ⟨b1,o1,none⟩)] w fun e w'=>e= .returned (.bool (Jp rs))∧Over w w':=by
 have hl:=h.1
 refine j6 (m:=31) (Tryz.func46) J J (lb J) ?_;refine S10 ?_;refine a9 (jo J J JL (QW hcell hb1)) ?_;refine S3 ?_;refine cZ (fun c1=> ?_) (fun c1=> ?_)
 ·refine S6 ?_;refine jK J (.tmp J) ?_
  intro w' hs
  exact⟨QF (YZ Om).symm,hs.fin⟩
 ·have h40:n≤40:=Om
  refine S8 ?_;refine qv (X:=Nat) (fun k=>k≤n∧(rs.take k).all Qz=true) (fun k=>n- k) (fun k=> [(3, .int .i64 (k:Int))]) (kK [0,2]) 0 (⟨jjo _,J⟩) ⟨J,sz⟩ ?_
  intro k hk L hL1
  refine v9 ?_
  obtain ⟨hk1,hk2⟩ :=hk
  refine S7 ?_;refine a9 (jo J J JL (QW hcell hb1)) ?_;refine S3 ?_;refine cZ (fun c2=> ?_) (fun c2=> ?_)
  ·have hlt:k<n:=Om
   obtain ⟨bb,oo,Ak,ck,rfl,hbB,hcl,hpts,hmax⟩ :=h.at_ hlt
   refine S9 ?_;refine a9 (jo J J JL (QW hcell hb1)) ?_;refine S2 ?_;refine a9 (jM Mr J J (fun w1 hs=>Ta bb (oo+k*1) Ak _ ck (rg rs k) w1 (by rw [jki];exact Qi hcl hbB w1 hs) (jjy hbB hs.fin.size) (hpts.over hs.fin))) ?_;refine S2 ?_;refine cZ (fun c3=> ?_) (fun c3=> ?_)
   ·refine S10 ?_;refine jK J (.tmp J) ?_
    intro w' hs
    exact⟨QF (ZF (show k<rs.length by omega) c3).symm,hs.fin⟩
   ·refine S8 ?_
    exact qf hL1 (k+1) (⟨by omega,BP Om hk2 c3⟩) Om ⟨vi Om,sz⟩ (u9 J)
  ·have hkn:k=n:=Om
   have ha:rs.all Qz=true:= (by rw [jjR Om] at hk2;exact hk2)
   have hsm:=LV ha rs.length (jjm _)
   have htot: (total rs:Int)≤1048577:= (by unfold total;omega)
   have hal:=zO (rs:=rs) (k:=rs.length) (jjm _) (by rw [jj3];exact ha)
   refine S9 ?_;refine JU K3 (v:=fun x=> .slice x.1 _ x.2) (r:=fun x=>J3 0 147 4 _ _ x) (H:=fun _=>True) J J J (lb J) (fun w1 hs=>Qf ((U2 b1 o1 A n c rs w1 (Qi hcell hb1 w1 hs) (jjy hb1 hs.fin.size) (h.over hs.fin) htot).mono fun e w' ⟨v,h1,_,h2,h3⟩ =>⟨v,h1,h2,h3⟩)) ?_
   rintro⟨eA,ec⟩ -
   refine N5 ?_;refine jK J (.tmp J) ?_
   intro w' hs
   exact⟨QF (by rw [U9 Om ha];exact decide_eq_decide.2 Om),hs.fin⟩
def W1 (xs:List Pn) (k:Nat) :List Pn:= (qy xs k).map lA
def KY (xs:List Pn) :List Pn:=W1 xs xs.length
theorem IM:∀ {es:List (Pn×Pn)} {p q:Pn},Lk es p→Lk (es++ [(p,q)]) q
 | [],_,_,_=>rfl
 | [e],p,q,h=>⟨h,rfl⟩
 | e::f::l,p,q,h=>⟨h.1,IM (es:=f::l) h.2⟩
def Pi (l:Leg) :Pn×Pn:= (lA l,lB l)
theorem SC {xs:List Pn} :∀k,k<xs.length→Lk ((qy xs k).map Pi) (pt xs k)∧((qy xs k) = []→pt xs k=pt xs 0)∧(∀e,((qy xs k).map Pi).head?=some e→e.1=pt xs 0)
 | 0,_=>⟨trivial,fun _=>rfl,fun e h=>by cases h⟩
 | k+1,hk=>by
  obtain ⟨h1,h2,h3⟩ :=SC (xs:=xs) k Om
  have hn:nx xs k=k+1:=jkA hk
  rw [Kb]
  split
  ·rename_i h
   have e:pt xs k=pt xs (k+1) :=by rw [hn] at h;exact Prod.ext h.1 h.2
   exact⟨e▸h1,fun h'=>e▸h2 h',h3⟩
  ·rw [jjQ,hn]
   refine⟨IM h1,fun h'=>by simp at h',fun e he=> ?_⟩
   cases hE:qy xs k with
   | nil=>
    rw [hE] at he
    have: (pt xs k,pt xs (k+1)) =e:=Option.some.inj he
    rw [←this]
    exact h2 hE
   | cons a l=>
    rw [hE] at he h3
    exact h3 e (by simpa using he)
theorem D8 (h0:0<xs.length) :Lk ((JZ xs).map Pi) (pt xs 0)∧∀e,((JZ xs).map Pi).head?=some e→e.1=pt xs 0:=by
 obtain ⟨m,hm⟩ :∃m,xs.length=m+1:=⟨xs.length- 1,by omega⟩
 obtain ⟨h1,h2,h3⟩ :=SC (xs:=xs) m Om
 have hn:nx xs m=0:=by unfold nx;rw [hm,jk8]
 unfold JZ
 rw [hm,Kb]
 split
 ·rename_i h
  have e:pt xs m=pt xs 0:=by rw [hn] at h;exact Prod.ext h.1 h.2
  exact⟨e▸h1,h3⟩
 ·rw [jjQ,hn]
  refine⟨IM h1,fun e he=> ?_⟩
  cases hE:qy xs m with
  | nil=>
   rw [hE] at he
   have: (pt xs m,pt xs 0) =e:=Option.some.inj he
   rw [←this]
   exact h2 hE
  | cons a l=>
   rw [hE] at he h3
   exact h3 e (by simpa using he)
theorem jcW:∀ {es:List (Pn×Pn)} {z:Pn},Lk es z→(∀i (h:i+1<es.length),(es[i]'(by omega)).2=es[i+1].1)∧(∀h:0<es.length,(es[es.length- 1]'(by omega)).2=z)
 | [],_,_=>⟨fun i h=>absurd h (by simp),fun h=>absurd h (by simp)⟩
 | [e],z,hl=>⟨fun i h=>absurd h (by simp),fun _=>hl⟩
 | e::f::l,z,hl=>by
  obtain ⟨g1,g2⟩ :=jcW (es:=f::l) hl.2
  refine⟨fun i h=> ?_,fun _=> ?_⟩
  ·cases i with
   | zero=>exact hl.1
   | succ i=>have:=g1 i (by simpa using h);simpa using this
  ·have:=g2 (by simp)
   simpa using this
theorem jeP {z:Pn} (h1:Lk es z) (h2:∀e,es.head?=some e→e.1=z) (hall:∀d∈es,d.1≠d.2) (hk:0<es.length) :bare (es.map (·.1)) :=by
 obtain ⟨g1,g2⟩ :=jcW h1
 have hp:∀j (hj:j<es.length),pt (es.map (·.1)) j=es[j].1:=fun j hj=>by
  rw [←Kg (by simpa using hj)]
  simp
 refine⟨by simpa using hk,fun j hj=> ?_⟩
 rw [jjB] at hj
 rw [hp j hj]
 by_cases hj1:j+1<es.length
 ·rw [show nx (es.map (·.1)) j=j+1 from jkA (by simpa using hj1),hp _ hj1,←g1 j hj1]
  exact hall _ (jju _)
 ·have hjn:j+1=es.length:=by omega
  rw [show nx (es.map (·.1)) j=0 by unfold nx;rw [jjB,hjn,jk8],hp 0 hk]
  have hz: (es[0]'hk).1=z:=h2 _ (by cases es with | nil=>simp at hk | cons a l=>rfl)
  rw [hz,←g2 hk]
  have:es.length- 1=j:=by omega
  simp only [this]
  exact hall _ (jju _)
theorem Fh (h0:0<xs.length) (hk:0< (KY xs).length) :bare (KY xs) :=by
 obtain ⟨h1,h2⟩ :=D8 h0
 have hne:=YL xs xs.length
 have hne':∀l∈JZ xs,lA l≠lB l:=hne
 have e:KY xs= ((JZ xs).map Pi).map (·.1) :=by unfold KY W1 JZ;rw [jk6];rfl
 have hall:∀d∈(JZ xs).map Pi,d.1≠d.2:=fun d hd=>by
  obtain ⟨l,hl,rfl⟩ :=jjx.1 hd
  exact hne' l hl
 rw [e] at hk⊢
 rw [jjB] at hk
 exact jeP h1 h2 hall hk
def vg (rs:List jO) (k:Nat) :List jO:= ((rs.take k).map KY).filter fun r=>decide (0<r.length)
def JO (rs:List jO) :List jO:=vg rs rs.length
theorem YE (hk:k<rs.length) (h:0< (KY (rg rs k)).length) :vg rs (k+1) =vg rs k++ [KY (rg rs k)] :=by
 unfold vg
 rw [VO hk,jjQ,jkN]
 simp [h]
theorem ZR (hk:k<rs.length) (h:¬0< (KY (rg rs k)).length) :vg rs (k+1) =vg rs k:=by
 unfold vg
 rw [VO hk,jjQ,jkN]
 have: (KY (rg rs k)).length=0:=by omega
 simp [jjW this]
theorem xE (rs:List jO) (k:Nat) : (vg rs k).length≤rs.length:=by
 unfold vg
 refine jkh (jkZ _ _) ?_
 rw [jjB,jjC]
 omega
theorem xF {r:jO} (h:r∈vg rs k) :0<r.length∧∃q∈rs,KY q=r:=by
 unfold vg at h
 rw [jkc] at h
 obtain ⟨q,hq,e⟩ :=jjx.1 h.1
 exact⟨by simpa using h.2,q,jj6 hq,e⟩
theorem SU (xs:List Pn) (k:Nat) : (W1 xs k).length≤k:=by
 unfold W1
 rw [jjB]
 exact KM xs k
theorem OK (h:pt xs k≠pt xs (nx xs k)) :W1 xs (k+1) =W1 xs k++ [pt xs k] :=by
 unfold W1
 rw [Kb,if_neg (fun e=>h (Prod.ext e.1 e.2)),jjQ]
 rfl
theorem Fg (h:pt xs k=pt xs (nx xs k)) :W1 xs (k+1) =W1 xs k:=by
 unfold W1
 simp only [pt] at h
 injection h with h1 h2
 rw [Kb,if_pos ⟨h1,h2⟩]
end Go.Proofs.YtbahojdbmmjkcaaGreat
