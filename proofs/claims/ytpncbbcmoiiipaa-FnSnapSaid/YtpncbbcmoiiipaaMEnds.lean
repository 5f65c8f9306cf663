import Derived.Test.YtpncbbcmoiiipaaMPathR
import Derived.Test.YtpncbbcmoiiipaaMSnapped
import Derived.Test.YtpncbbcmoiiipaaMReg3
import Derived.Test.YtpncbbcmoiiipaaMRegBounds
set_option linter.unusedVariables false
set_option linter.unusedSimpArgs false
namespace Go.Proofs.Ytpncbbcmoiiipaa
open Go Go.RowKit
set_option maxRecDepth 100000
set_option maxHeartbeats 4000000
def lowOk (s:Sp) (u v:Int) :Prop:=s.ln*v<u*s.ld∨(s.ln*v=u*s.ld∧s.lc=true)
def highOk (s:Sp) (u v:Int) :Prop:=u*s.hd<s.hn*v∨(u*s.hd=s.hn*v∧s.hc=true)
def VL (s:Sp) (u v:Int) :Prop:=lowOk s u v∧highOk s u v
theorem lowOk.le {s:Sp} {u v:Int} (h:lowOk s u v) :s.ln*v≤u*s.ld:=by rcases h with h |⟨h,_⟩ <;>omega
theorem highOk.le {s:Sp} {u v:Int} (h:highOk s u v) :u*s.hd≤s.hn*v:=by rcases h with h |⟨h,_⟩ <;>omega
theorem H0 {s x:Sp} {u v:Int} (hs:0<s.ld) (hx:0<x.ld) (hv:0<v) :lowOk (JQ s x) u v↔lowOk s u v∧lowOk x u v:=by
 unfold JQ
 split
 ·rename_i h
  have e:lowOk {s with ln:=x.ln,ld:=x.ld,lc:=x.lc} u v=lowOk x u v:=rfl
  rw [e]
  refine⟨fun hx'=>⟨?_,hx'⟩,fun h=>h.2⟩
  simp only [Vt,Fu,DL,decide_eq_true_eq,Fm] at h
  rcases h with h |⟨h,ho⟩
  ·exact .inl (ke hx hs hv Om hx'.le)
  ·rcases hx' with h' |⟨_,h'⟩
   ·exact .inl (QB hx hs hv Om h')
   ·rw [ho] at h';cases h'
 ·rename_i h
  refine⟨fun h'=>⟨h',?_⟩,fun h=>h.1⟩
  simp only [Vt,Fu,DL,decide_eq_true_eq,Fm,not_or,not_and,Bool.not_eq_false] at h
  obtain ⟨g1,g2⟩ :=h
  rcases h' with h' |⟨h',hc⟩
  ·exact .inl (QB hs hx hv Om h')
  ·by_cases g:x.ln*s.ld<s.ln*x.ld
   ·exact .inl (ke hs hx hv g Om)
   ·have l1:=Q2 (a:=x.ln) (b:=x.ld) (c:=s.ln) (d:=s.ld) (e:=u) (f:=v) hs hx hv Om Om
    have l2:=Q2 (a:=u) (b:=v) (c:=s.ln) (d:=s.ld) (e:=x.ln) (f:=x.ld) hs hv hx Om Om
    exact .inr ⟨by omega,g2 Om⟩
theorem Gs {s x:Sp} {u v:Int} (hs:0<s.hd) (hx:0<x.hd) (hv:0<v) :highOk (qD s x) u v↔highOk s u v∧highOk x u v:=by
 unfold qD
 split
 ·rename_i h
  have e:highOk {s with hn:=x.hn,hd:=x.hd,hc:=x.hc} u v=highOk x u v:=rfl
  rw [e]
  refine⟨fun hx'=>⟨?_,hx'⟩,fun h=>h.2⟩
  simp only [K6,Fu,DL,decide_eq_true_eq,Fm] at h
  rcases h with h |⟨h,ho⟩
  ·exact .inl (QB hx hv hs hx'.le Om)
  ·rcases hx' with h' |⟨_,h'⟩
   ·exact .inl (ke hx hv hs h' Om)
   ·rw [ho] at h';cases h'
 ·rename_i h
  refine⟨fun h'=>⟨h',?_⟩,fun h=>h.1⟩
  simp only [K6,Fu,DL,decide_eq_true_eq,Fm,not_or,not_and,Bool.not_eq_false] at h
  obtain ⟨g1,g2⟩ :=h
  rcases h' with h' |⟨h',hc⟩
  ·exact .inl (ke hs hv hx h' Om)
  ·by_cases g:s.hn*x.hd<x.hn*s.hd
   ·exact .inl (QB hs hv hx Om g)
   ·have l1:=Q2 (a:=u) (b:=v) (c:=s.hn) (d:=s.hd) (e:=x.hn) (f:=x.hd) hs hv hx Om Om
    have l2:=Q2 (a:=x.hn) (b:=x.hd) (c:=s.hn) (d:=s.hd) (e:=u) (f:=v) hs hx hv Om Om
    exact .inr ⟨by omega,g2 Om⟩
theorem Ok {s x:Sp} {u v:Int} :lowOk (qD s x) u v↔lowOk s u v:=by unfold qD;split<;>exact Iff.rfl
theorem Ma {s x:Sp} {u v:Int} :highOk (JQ s x) u v↔highOk s u v:=by unfold JQ;split<;>exact Iff.rfl
theorem vE {s x:Sp} {u v:Int} (hs:0<s.ld∧0<s.hd) (hx:0<x.ld∧0<x.hd) (hv:0<v) :VL (Jj s x) u v↔VL s u v∧VL x u v:=by
 unfold VL Jj
 rw [Ok,H0 hs.1 hx.1 hv,Gs (VK hs hx).2 hx.2 hv,Ma]
 constructor
 ·rintro⟨⟨h1,h2⟩,h3,h4⟩;exact⟨⟨h1,h3⟩,h2,h4⟩
 ·rintro⟨⟨h1,h3⟩,h2,h4⟩;exact⟨⟨h1,h2⟩,h3,h4⟩
theorem YY {u v:Int} :VL K8 u v↔0≤u∧u≤v:=by
 unfold VL lowOk highOk K8
 simp only [FF,F3,Int.one_mul,and_true]
 omega
def wo (f d lo u v:Int) :Prop:=lo*v≤f*v+u*d∧f*v+u*d< (lo+2) *v
theorem vg {f d lo u v:Int} (hv:0<v) (h0:0≤u) (h1:u≤v) : (kw f d lo=true∧VL (qB f d lo) u v)↔wo f d lo u v:=by
 have e1: (lo+2) *v=lo*v+2*v:=Int.add_mul ..
 by_cases hd:0<d
 ·have hp:kw f d lo=true:=by unfold kw;rw [decide_eq_false Om];rfl
  have e2: (lo- f) *v=lo*v- f*v:=Int.sub_mul ..
  have e3: (lo+2- f) *v=lo*v+2*v- f*v:=by rw [Int.sub_mul,Int.add_mul]
  rw [hp]
  unfold qB
  rw [if_pos hd]
  unfold VL lowOk highOk wo
  simp only [true_and,and_true,F5,and_false,or_false]
  rw [e1,e2,e3]
  omega
 ·by_cases hn:d<0
  ·have hp:kw f d lo=true:=by unfold kw;rw [decide_eq_false Om];rfl
   have e2: (f- lo) *v=f*v- lo*v:=Int.sub_mul ..
   have e3: (f- lo- 2) *v=f*v- lo*v- 2*v:=by rw [Int.sub_mul,Int.sub_mul]
   have e4:u* (-d) = -(u*d) :=Int.mul_neg ..
   rw [hp]
   unfold qB
   rw [if_neg hd,if_pos hn]
   unfold VL lowOk highOk wo
   simp only [true_and,and_true,F5,and_false,or_false]
   rw [e1,e2,e3,e4]
   omega
  ·obtain rfl:d=0:=by omega
   rw [kg,YY]
   unfold kw wo
   rw [Int.mul_zero,Int.add_zero]
   simp only [decide_true,Bool.not_true,F0,DL,decide_eq_true_eq]
   constructor
   ·rintro⟨⟨g1,g2⟩,_⟩
    exact⟨DJ g1 Om,D4 g2 hv⟩
   ·rintro⟨g1,g2⟩
    exact⟨⟨Fa g1 hv,Fj g2 Om⟩,h0,h1⟩
theorem Uh {s:Sp} (hs:0<s.ld∧0<s.hd) (h:kn s=true) :∃u v,0<v∧VL s u v:=by
 simp only [kn,Fu,DL,decide_eq_true_eq] at h
 rcases h with h |⟨⟨h,h1⟩,h2⟩
 ·have p:=Fr hs.1 hs.2
  refine⟨s.ln*s.hd+s.hn*s.ld,2* (s.ld*s.hd),by omega, .inl ?_, .inl ?_⟩
  ·have:=D4 (show s.ln*s.hd<s.hn*s.ld by omega) hs.1
   have e1:s.ln* (2* (s.ld*s.hd)) =2* (s.ln*s.hd*s.ld) :=by grind
   have e2: (s.ln*s.hd+s.hn*s.ld) *s.ld=s.ln*s.hd*s.ld+s.hn*s.ld*s.ld:=Int.add_mul ..
   rw [e1,e2]
   omega
  ·have:=D4 (show s.ln*s.hd<s.hn*s.ld by omega) hs.2
   have e1:s.hn* (2* (s.ld*s.hd)) =2* (s.hn*s.ld*s.hd) :=by grind
   have e2: (s.ln*s.hd+s.hn*s.ld) *s.hd=s.ln*s.hd*s.hd+s.hn*s.ld*s.hd:=Int.add_mul ..
   rw [e1,e2]
   omega
 ·exact⟨s.ln,s.ld,hs.1, .inr ⟨rfl,h1⟩, .inr ⟨by omega,h2⟩⟩
theorem H5 {s:Sp} {u v:Int} (hs:0<s.ld∧0<s.hd) (hv:0<v) (h:VL s u v) :kn s=true:=by
 simp only [kn,Fu,DL,decide_eq_true_eq]
 obtain ⟨h1,h2⟩ :=h
 by_cases g1:s.ln*v<u*s.ld
 ·have:=ke (a:=s.ln) (b:=s.ld) (c:=u) (d:=v) (e:=s.hn) (f:=s.hd) hv hs.1 hs.2 g1 h2.le
  exact .inl Om
 ·by_cases g2:u*s.hd<s.hn*v
  ·have:=QB (a:=s.ln) (b:=s.ld) (c:=u) (d:=v) (e:=s.hn) (f:=s.hd) hv hs.1 hs.2 h1.le g2
   exact .inl Om
  ·have l1:=Q2 (a:=s.ln) (b:=s.ld) (c:=u) (d:=v) (e:=s.hn) (f:=s.hd) hv hs.1 hs.2 h1.le h2.le
   have k1:=h1.resolve_left g1
   have k2:=h2.resolve_left g2
   have l2:=Q2 (a:=s.hn) (b:=s.hd) (c:=u) (d:=v) (e:=s.ln) (f:=s.ld) hv hs.2 hs.1 Om Om
   exact .inr ⟨⟨by omega,k1.2⟩,k2.2⟩
def kF (a b p:Pn) (u v:Int) :Prop:=wo (2*a.1) (2* (b.1- a.1)) (2*p.1- 1) u v∧wo (2*a.2) (2* (b.2- a.2)) (2*p.2- 1) u v
theorem Q9 {a b p:Pn} {u v:Int} (hv:0<v) (h:K9 a b p=true) :VL (Ji a b p) u v↔(0≤u∧u≤v)∧kF a b p u v:=by
 unfold K9 UN at h
 simp only [DL] at h
 unfold Ji kF
 rw [vE (Qh KI (qM _ _ _)) (qM _ _ _) hv,vE KI (qM _ _ _) hv,YY]
 constructor
 ·rintro⟨⟨⟨h0,h1⟩,h2⟩,h3⟩
  exact⟨⟨h0,h1⟩,(vg hv h0 h1).1 ⟨h.1.1,h2⟩,(vg hv h0 h1).1 ⟨h.1.2,h3⟩⟩
 ·rintro⟨⟨h0,h1⟩,h2,h3⟩
  exact⟨⟨⟨h0,h1⟩,((vg hv h0 h1).2 h2).2⟩,((vg hv h0 h1).2 h3).2⟩
theorem YR {a b p:Pn} {u v:Int} (hv:0<v) (h0:0≤u) (h1:u≤v) (h:kF a b p u v) :K9 a b p=true:=by
 have hx:= (vg hv h0 h1).2 h.1
 have hy:= (vg hv h0 h1).2 h.2
 have hm:VL (Ji a b p) u v:=by
  unfold Ji
  rw [vE (Qh KI (qM _ _ _)) (qM _ _ _) hv,vE KI (qM _ _ _) hv,YY]
  exact⟨⟨⟨h0,h1⟩,hx.2⟩,hy.2⟩
 have:=H5 (Q8 a b p) hv hm
 unfold K9 UN
 rw [hx.1,hy.1]
 exact this
theorem vA {a b p q:Pn} {u v:Int} (hv:0<v) (h:kF a b p u v) (h':kF a b q u v) :p=q:=by
 have key:∀ {f d m n:Int},wo f d (2*m- 1) u v→wo f d (2*n- 1) u v→¬m<n:=by
  intro f d m n g g' hmn
  have:=DJ (show 2*m- 1+2≤2*n- 1 by omega) (show 0≤v by omega)
  have g2:=g.2
  have g1':=g'.1
  omega
 have x1:=key h.1 h'.1
 have x2:=key h'.1 h.1
 have y1:=key h.2 h'.2
 have y2:=key h'.2 h.2
 exact Prod.ext Om Om
theorem xn (a b:Pn) :kF a b a 0 1:=by
 unfold kF wo
 simp only [F3,FF,Int.add_zero]
 omega
theorem HI (a b:Pn) :kF a b b 1 1:=by
 unfold kF wo
 simp only [F3,Int.one_mul]
 omega
theorem HQ (a b:Pn) :K9 a b a=true:=YR Dc Dc Dc (xn a b)
theorem HS (a b:Pn) :K9 a b b=true:=YR Dc Dc Dc (HI a b)
theorem yd {s x:Sp} :Yr s x=true↔s.ln*x.ld<x.ln*s.ld∨(s.ln*x.ld=x.ln*s.ld∧s.lc=true∧x.lc=false) :=by
 simp only [Yr,Fu,DL,decide_eq_true_eq,Fm]
 constructor
 ·rintro(h |⟨⟨h1,h2⟩,h3⟩)
  ·exact .inl Om
  ·exact .inr ⟨by omega,h2,h3⟩
 ·rintro(h |⟨h1,h2,h3⟩)
  ·exact .inl Om
  ·exact .inr ⟨⟨by omega,h2⟩,h3⟩
theorem Zd {s x:Sp} (hs:0<s.ld) (hx:0<x.ld) (h:0≤s.ln) :0≤(Jj s x).ln:=by
 have e: (Jj s x).ln= (JQ s x).ln:=by unfold Jj qD;split<;>rfl
 rw [e]
 unfold JQ
 split
 ·rename_i h'
  simp only [Vt,Fu,DL,decide_eq_true_eq,Fm] at h'
  have h1:s.ln*x.ld≤x.ln*s.ld:=by rcases h' with h' |⟨h',_⟩ <;>omega
  have h2:0≤s.ln*x.ld:=DU h Om
  show 0≤x.ln
  refine FO.1 fun hn=> ?_
  have:=FA hn hs
  omega
 ·exact h
theorem Yi (a b p:Pn) :0≤(Ji a b p).ln:=
 Zd (Qh KI (qM _ _ _)).1 (qM _ _ _).1 (Zd KI.1 (qM _ _ _).1 Dc)
theorem xP {a b p:Pn} (hi:K9 a b p=true) (hne:p≠a) :vN a b a p=true:=by
 have ha:=HQ a b
 have ma:VL (Ji a b a) 0 1:= (Q9 Dc ha).2 ⟨⟨by decide,by decide⟩,xn a b⟩
 have ua:=Yi a b a
 have up:=Yi a b p
 have pa:=Q8 a b a
 have pp:=Q8 a b p
 have l0: (Ji a b a).ln=0∧(Ji a b a).lc=true:=by
  have:=ma.1
  unfold lowOk at this
  simp only [F3,FF] at this
  rcases this with h |⟨h,hc⟩
  ·omega
  ·exact⟨h,hc⟩
 unfold vN
 rw [yd,l0.1,l0.2,FF]
 by_cases h:0< (Ji a b p).ln
 ·exact .inl (Fr h pa.1)
 ·have e: (Ji a b p).ln=0:=by omega
  rw [e,FF]
  refine .inr ⟨J,J,?_⟩
  cases hc: (Ji a b p).lc with
  | false=>rfl
  | true=>
   have hn:kn (Ji a b p) =true:=by unfold K9 UN at hi;simp only [DL] at hi;exact hi.2
   obtain ⟨u,v,hv,hm⟩ :=Uh pp hn
   have h0:= (Q9 hv hi).1 hm
   have hh:highOk (Ji a b p) 0 1:=by
    have:=hm.2
    unfold highOk at this⊢
    simp only [FF,F3]
    have q1:0≤u* (Ji a b p).hd:=DU h0.1.1 Om
    by_cases g:0< (Ji a b p).hn
    ·exact .inl g
    ·have q2: (Ji a b p).hn*v≤0:=Int.mul_nonpos_of_nonpos_of_nonneg Om Om
     rcases this with h' |⟨h',hc'⟩
     ·omega
     ·refine .inr ⟨?_,hc'⟩
      have: (Ji a b p).hn*v=0:=by omega
      rcases Int.mul_eq_zero.1 this with h' | h'<;>omega
   have m0:VL (Ji a b p) 0 1:=⟨.inr ⟨by rw [e];simp,hc⟩,hh⟩
   exact absurd (vA Dc ((Q9 Dc hi).1 m0).2 (xn a b)) hne
theorem GV {a b p:Pn} (hi:K9 a b p=true) (hne:p≠b) :vN a b p b=true:=by
 have hb:=HS a b
 have mb:VL (Ji a b b) 1 1:= (Q9 Dc hb).2 ⟨⟨by decide,by decide⟩,HI a b⟩
 have pb:=Q8 a b b
 have pp:=Q8 a b p
 rcases Bool.eq_false_or_eq_true (vN a b p b) with h | h
 ·exact h
 ·exfalso
  have hns:¬((Ji a b p).ln* (Ji a b b).ld< (Ji a b b).ln* (Ji a b p).ld∨((Ji a b p).ln* (Ji a b b).ld= (Ji a b b).ln* (Ji a b p).ld∧(Ji a b p).lc=true∧(Ji a b b).lc=false)) :=fun h'=>by
   have:=yd.2 h'
   unfold vN at h
   rw [h] at this
   cases this
  have hle: (Ji a b b).ln* (Ji a b p).ld≤(Ji a b p).ln* (Ji a b b).ld:=FO.1 fun h'=>hns (.inl h')
  have hn:kn (Ji a b p) =true:=by unfold K9 UN at hi;simp only [DL] at hi;exact hi.2
  obtain ⟨u,v,hv,hm⟩ :=Uh pp hn
  have h0:= (Q9 hv hi).1 hm
  have hlow:lowOk (Ji a b b) u v:=by
   by_cases g: (Ji a b p).ln*v<u* (Ji a b p).ld
   ·exact .inl (QB pp.1 pb.1 hv hle g)
   ·obtain ⟨g1,g2⟩ :=hm.1.resolve_left g
    by_cases k: (Ji a b b).ln* (Ji a b p).ld< (Ji a b p).ln* (Ji a b b).ld
    ·exact .inl (ke pp.1 pb.1 hv k Om)
    ·have l1:=Q2 (a:= (Ji a b b).ln) (b:= (Ji a b b).ld) (c:= (Ji a b p).ln) (d:= (Ji a b p).ld) (e:=u) (f:=v) pp.1 pb.1 hv Om Om
     have l2:=Q2 (a:=u) (b:=v) (c:= (Ji a b p).ln) (d:= (Ji a b p).ld) (e:= (Ji a b b).ln) (f:= (Ji a b b).ld) pp.1 hv pb.1 Om Om
     refine .inr ⟨by omega,?_⟩
     cases hc: (Ji a b b).lc with
     | true=>rfl
     | false=>exact absurd (.inr ⟨by omega,g2,hc⟩) hns
  have hhigh:highOk (Ji a b b) u v:=by
   have:=mb.2
   unfold highOk at this⊢
   simp only [Int.one_mul,F3] at this
   have e:v* (Ji a b b).hd= (Ji a b b).hd*v:=Fg ..
   by_cases g:u<v
   ·have q:=D4 g pb.2
    have q2: (Ji a b b).hd*v≤(Ji a b b).hn*v:=DJ Om Om
    exact .inl Om
   ·obtain rfl:u=v:=by have:=h0.1.2;omega
    rcases this with h' |⟨h',hc⟩
    ·have q2:=D4 h' hv
     exact .inl Om
    ·exact .inr ⟨by rw [h',Fg],hc⟩
  exact hne (vA hv h0.2 ((Q9 hv hb).1 ⟨hlow,hhigh⟩).2)
theorem Mu (a b:Pn) :kl a b a=true:=vH (UF Om Om) (VA Om Om) (HQ a b)
theorem Mv (a b:Pn) :kl a b b=true:=vH (UF Om Om) (VA Om Om) (HS a b)
theorem wa {a b p:Pn} (h:kl a b p=true) :K9 a b p=true:=by unfold kl at h;simp only [DL] at h;exact h.2
theorem Qu {a b p:Pn} {hot:List Pn} :p∈qp a b hot↔p∈hot∧kl a b p=true:=by
 rw [vK,yi,zk,List.mem_filter]
theorem Vd {a b:Pn} {hot:List Pn} (h:hot.Nodup) : (qp a b hot).Nodup:=by
 rw [vK]
 unfold yi
 exact(LF (lt:=vN a b) (l:=hot.filter (kl a b))).nodup_iff.2 (h.sublist List.filter_sublist)
theorem ui {a b:Pn} {hot:List Pn} (hne:a≠b) (ha:a∈hot) (hb:b∈hot) :∃mid,qp a b hot=a:: (mid++ [b]) :=by
 have ma:a∈qp a b hot:=Qu.2 ⟨ha,Mu a b⟩
 have mb:b∈qp a b hot:=Qu.2 ⟨hb,Mv a b⟩
 have hi:∀p∈qp a b hot,K9 a b p=true:=fun p hp=>wa (Qu.1 hp).2
 have hs:wn (vN a b) (qp a b hot) :=by rw [vK];exact ZH a b hot
 revert ma mb hi hs
 generalize qp a b hot=S
 intro ma mb hi hs
 cases S with
 | nil=>cases ma
 | cons x T=>
  obtain ⟨h1,h2⟩ :=Fn.1 hs
  have hx:x=a:=Decidable.byContradiction fun hx=>by
   have hT:a∈T:= (DZ.1 ma).resolve_left (fun e=>hx e.symm)
   have:=xP (hi x (D3 ..)) hx
   rw [h1 a hT] at this
   cases this
  subst hx
  have hbT:b∈T:= (DZ.1 mb).resolve_left (fun e=>hne e.symm)
  rcases List.eq_nil_or_concat T with rfl |⟨mid,y,rfl⟩
  ·cases hbT
  ·rw [List.concat_eq_append] at*
   have hy:y=b:=Decidable.byContradiction fun hy=>by
    have hm:b∈mid:= (DV.1 hbT).resolve_right (fun e=>hy (DP.1 e).symm)
    have:=GV (hi y (D2 _ (F7 _ (DP.2 rfl)))) hy
    rw [(FZ.1 h2).2.2 b hm y (DP.2 rfl)] at this
    cases this
   exact⟨mid,by rw [hy]⟩
def LT (e:Pn×Pn) :Leg:=⟨e.1.1,e.1.2,e.2.1,e.2.2⟩
def Qj (xs:List Pn) :List (Pn×Pn) := (List.range xs.length).map fun j=> (pt xs j,pt xs (nx xs j))
def bare (xs:List Pn) :Prop:=0<xs.length∧∀j,j<xs.length→pt xs j≠pt xs (nx xs j)
def J3 (hot:List Pn) (e:Pn×Pn) :List Pn:= (qp e.1 e.2 hot).dropLast
def Qg (hot xs:List Pn) :List Pn:= (Jf xs).flatMap fun l=>J3 hot (lA l,lB l)
theorem Wm {xs:List Pn} (h:bare xs) :∀k,k≤xs.length→JK xs k= ((List.range k).map fun j=> (pt xs j,pt xs (nx xs j))).map LT
 | 0,_=>rfl
 | k+1,hk=>by
  have hne:=h.2 k Om
  rw [q5,if_neg (fun e=>hne (Prod.ext e.1 e.2)),Wm h k Om,List.range_succ,FC,FC]
  rfl
theorem qF {xs:List Pn} (h:bare xs) :Jf xs= (Qj xs).map LT:=Wm h _ (DM _)
theorem Ks {hot xs:List Pn} (h:bare xs) :Qg hot xs= (Qj xs).flatMap (J3 hot) :=by
 unfold Qg
 rw [qF h,List.flatMap_map]
 rfl
def Lk:List (Pn×Pn)→Pn→Prop
 | [],_=>True
 | [e],z=>e.2=z
 | e::f::l,z=>e.2=f.1∧Lk (f::l) z
theorem MV:∀ {es:List (Pn×Pn)} {z:Pn},(∀i (h:i+1<es.length),(es[i]'(by omega)).2=es[i+1].1)→(∀h:0<es.length,(es[es.length- 1]'(by omega)).2=z)→Lk es z
 | [],_,_,_=>trivial
 | [e],z,_,h2=>h2 (by simp)
 | e::f::l,z,h1,h2=>⟨h1 0 (by simp),MV (fun i h=>by have:=h1 (i+1) (by simpa using h);simpa using this) (fun h=>by have:=h2 (by simp);simpa using this)⟩
theorem kM (xs:List Pn) : (Qj xs).length=xs.length:=by simp [Qj]
theorem WG {xs:List Pn} :Lk (Qj xs) (pt xs 0) :=by
 refine MV (fun i h=> ?_) (fun h=> ?_)
 ·rw [kM] at h
  simp only [Qj,F2,List.getElem_range]
  rw [show nx xs i=i+1 from Ib h]
 ·rw [kM] at h
  simp only [Qj,F2,List.getElem_range,Fc,List.length_range]
  rw [show nx xs (xs.length- 1) =0 by unfold nx;rw [show xs.length- 1+1=xs.length by omega,Nat.mod_self]]
theorem KM (xs:List Pn) : (Qj xs).map (·.1) =xs:=by
 apply F1
 ·simp [Qj]
 ·intro i h1 h2
  simp only [Qj,F2,List.getElem_range]
  rw [QK h2]
def M4:List Pn→Prop
 | [] =>True
 | [_] =>True
 | p::q::l=>p≠q∧M4 (q::l)
theorem W1:∀ {l:List Pn},l.Nodup→M4 l
 | [],_=>trivial
 | [_],_=>trivial
 | p::q::l,h=>by
  obtain ⟨h1,h2⟩ :=List.nodup_cons.1 h
  exact⟨fun e=>h1 (e▸D3 ..),W1 h2⟩
theorem zN:∀ {A:List Pn} {p:Pn} {B:List Pn},M4 (A++ [p])→M4 (p::B)→M4 (A++p::B)
 | [],_,_,_,h=>h
 | [a],p,B,h,h'=>⟨h.1,h'⟩
 | a::b::A,p,B,h,h'=>⟨h.1,zN (A:=b::A) h.2 h'⟩
theorem Hy:∀ {l:List Pn},M4 l→∀j,j+1<l.length→pt l j≠pt l (j+1)
 | [],_,j,h=>absurd h (by simp)
 | [_],_,j,h=>absurd h (by simp)
 | p::q::l,hd,0,_=>hd.1
 | p::q::l,hd,j+1,h=>by
  have:=Hy hd.2 j (by simpa using h)
  simpa [pt,px,py] using this
theorem ka {hot:List Pn} {e:Pn×Pn} (h:e.1≠e.2∧e.1∈hot∧e.2∈hot) :∃mid,J3 hot e=e.1::mid∧qp e.1 e.2 hot=J3 hot e++ [e.2] :=by
 obtain ⟨mid,hm⟩ :=ui h.1 h.2.1 h.2.2
 refine⟨mid,?_,?_⟩
 ·unfold J3
  rw [hm,←D6,List.dropLast_concat]
 ·unfold J3
  rw [hm,←D6,List.dropLast_concat]
theorem zT {hot:List Pn} (hnd:hot.Nodup) :∀ {es:List (Pn×Pn)} {e:Pn×Pn} {z:Pn},Lk (e::es) z→(∀d∈e::es,d.1≠d.2∧d.1∈hot∧d.2∈hot)→M4 ((e::es).flatMap (J3 hot) ++ [z])∧∃rest,(e::es).flatMap (J3 hot) =e.1::rest
 | [],e,z,hl,hm=>by
  obtain ⟨mid,h1,h2⟩ :=ka (hm e (D3 ..))
  have hz:e.2=z:=hl
  simp only [D9,List.flatMap_nil,D7]
  refine⟨?_,mid,h1⟩
  rw [←hz,←h2]
  exact W1 (Vd hnd)
 | f::l,e,z,hl,hm=>by
  obtain ⟨mid,h1,h2⟩ :=ka (hm e (D3 ..))
  obtain ⟨k1,rest,k2⟩ :=zT hnd (es:=l) (e:=f) (z:=z) hl.2 (fun d hd=>hm d (D2 _ hd))
  rw [D9]
  refine⟨?_,mid++ (f::l).flatMap (J3 hot),by rw [h1];rfl⟩
  rw [DN]
  rw [k2] at k1⊢
  refine zN (B:=rest++ [z]) ?_ k1
  rw [←hl.1,←h2]
  exact W1 (Vd hnd)
theorem W3 {hot:List Pn} :∀ {es:List (Pn×Pn)},(∀d∈es,d.1≠d.2∧d.1∈hot∧d.2∈hot)→es.length≤(es.flatMap (J3 hot)).length∧((es.flatMap (J3 hot)).length=es.length→es.flatMap (J3 hot) =es.map (·.1))
 | [],_=>⟨DM _,fun _=>rfl⟩
 | e::l,h=>by
  obtain ⟨mid,h1,_⟩ :=ka (h e (D3 ..))
  obtain ⟨g1,g2⟩ :=W3 (es:=l) fun d hd=>h d (D2 _ hd)
  rw [D9,h1,DK,DT,DT]
  refine⟨by omega,fun hle=> ?_⟩
  obtain rfl:mid= [] :=Fd Om
  rw [g2 (by simp only [D8] at hle;omega),Fb]
  rfl
theorem vJ {hot xs:List Pn} (hb:bare xs) (hm:∀p∈xs,p∈hot) :∀d∈Qj xs,d.1≠d.2∧d.1∈hot∧d.2∈hot:=fun d hd=>by
 obtain ⟨j,hj,rfl⟩ :=Fi.1 hd
 have hj:=FV.1 hj
 refine⟨hb.2 j hj,hm _ ?_,hm _ ?_⟩
 ·rw [←QK hj];exact DR _
 ·have hn:nx xs j<xs.length:=Nat.mod_lt _ hb.1
  show pt xs (nx xs j)∈xs
  rw [←QK hn];exact DR _
theorem yc {hot xs:List Pn} {p:Pn} (h:p∈Qg hot xs) :p∈hot:=by
 obtain ⟨l,_,hp⟩ :=List.mem_flatMap.1 h
 exact(Qu.1 (List.dropLast_subset _ hp)).1
theorem Gi {hot:List Pn} (hnd:hot.Nodup) :∀ {es:List (Pn×Pn)} {z:Pn},Lk es z→(∀d∈es,d.1≠d.2∧d.1∈hot∧d.2∈hot)→(∀h:0<es.length,(es[0]'h).1=z)→0<es.length→bare (es.flatMap (J3 hot))
 | [],_,_,_,_,h=>absurd h (by simp)
 | e::l,z,hlk,hok,h0,hp=>by
  obtain ⟨k1,rest,k2⟩ :=zT hnd hlk hok
  have he:e.1=z:=h0 hp
  generalize (e::l).flatMap (J3 hot) =ys at*
  refine⟨by rw [k2];simp,fun j hj=> ?_⟩
  have hd:=Hy k1 j (by simp;omega)
  have e1:pt (ys++ [z]) j=pt ys j:=by simp only [pt,px,py,List.getD_eq_getElem?_getD,List.getElem?_append_left hj]
  rw [e1] at hd
  by_cases hj1:j+1<ys.length
  ·rw [show nx ys j=j+1 from Ib hj1]
   have e2:pt (ys++ [z]) (j+1) =pt ys (j+1) :=by simp only [pt,px,py,List.getD_eq_getElem?_getD,List.getElem?_append_left hj1]
   rwa [e2] at hd
  ·have hjn:j+1=ys.length:=by omega
   rw [show nx ys j=0 by unfold nx;rw [hjn,Nat.mod_self]]
   have e2:pt (ys++ [z]) (j+1) =z:=by
    have e4: (ys++ [z])[j+1]? =some z:=by rw [List.getElem?_append_right Om,hjn,Nat.sub_self];rfl
    simp only [pt,px,py,List.getD_eq_getElem?_getD,e4]
    rfl
   have e3:pt ys 0=z:=by rw [k2,←he];rfl
   rw [e2] at hd
   rwa [e3]
theorem wh {hot xs:List Pn} (hnd:hot.Nodup) (hb:bare xs) (hm:∀p∈xs,p∈hot) :bare (Qg hot xs)∧xs.length≤(Qg hot xs).length∧((Qg hot xs).length=xs.length→Qg hot xs=xs) :=by
 rw [Ks hb]
 have hok:=vJ hb hm
 obtain ⟨g1,g2⟩ :=W3 hok
 rw [kM] at g1 g2
 exact⟨Gi hnd WG hok (fun h=>by simp [Qj]) (by rw [kM];exact hb.1),g1,fun h=>by rw [g2 h,KM]⟩
def cnt (rs:List jx) :Nat:= (rs.map List.length).sum
def qk (hot:List Pn) (rs:List jx) :List jx:=rs.map (Qg hot)
def bareG (hot:List Pn) (rs:List jx) :Prop:=∀r∈rs,bare r∧∀p∈r,p∈hot
theorem bareG.snap {hot:List Pn} {rs:List jx} (hnd:hot.Nodup) (h:bareG hot rs) :bareG hot (qk hot rs) :=fun r hr=>by
 obtain ⟨q,hq,rfl⟩ :=Fi.1 hr
 exact⟨(wh hnd (h q hq).1 (h q hq).2).1,fun p hp=>yc hp⟩
theorem Yq {hot:List Pn} (hnd:hot.Nodup) :∀ {rs:List jx},bareG hot rs→cnt rs≤cnt (qk hot rs)∧(cnt (qk hot rs) =cnt rs→qk hot rs=rs)
 | [],_=>⟨DM _,fun _=>rfl⟩
 | r::l,h=>by
  obtain ⟨h1,h2⟩ :=h r (D3 ..)
  obtain ⟨_,g1,g2⟩ :=wh hnd h1 h2
  obtain ⟨k1,k2⟩ :=Yq hnd (rs:=l) fun q hq=>h q (D2 _ hq)
  have e1:cnt (qk hot (r::l)) = (Qg hot r).length+cnt (qk hot l) :=rfl
  have e2:cnt (r::l) =r.length+cnt l:=rfl
  rw [e1,e2]
  refine⟨by omega,fun he=> ?_⟩
  have a1:=g2 Om
  have a2:=k2 Om
  show Qg hot r::qk hot l=r::l
  rw [a1,a2]
theorem KO {xs:List Pn} (h:bare xs) : (Jf xs).length=xs.length:=by rw [qF h,Fc,kM]
theorem Wl {rs:List jx} (h:∀r∈rs,bare r) : (jv rs).length=cnt rs:=by
 have key:∀k,k≤rs.length→(JJ rs k).length=cnt (rs.take k) :=by
  intro k
  induction k with
  | zero=>intro _;rfl
  | succ k ih=>
   intro hk
   have hb:bare (rg rs k) :=by have:=h rs[k] (DR Om);rwa [Ku Om] at this
   show(JJ rs k++Jf (rg rs k)).length=_
   rw [DK,ih Om,KO hb,vO Om]
   simp [cnt]
 have:=key rs.length (DM _)
 rwa [FR] at this
theorem xp (A:Option Addr) (n c:Nat) (xs:List (Int×Int)) (w:World) (h:Pts w A n xs) :
  Calls Try.prog 47 #[.slice A n c] w fun e w'=>e= .returned (.bool (qd xs))∧Over w w':=by
 have hl:=h.1
 refine Jh (m:=15) (Try.func47) J J (lb J) ?_;refine Dg ?_;refine cV 6 (fun g1=> ?_) (fun g1=> ?_)
 ·have h1:1≤n:=Om
  refine S8 ?_;refine cV 11 (fun g2=> ?_) (fun g2=> ?_)
  ·have h2:n≤400:=Om
   refine S3 ?_;refine o9 (jN ue J J (fun w1 hs=>WO A n c xs w1 (h.over hs.fin) Om)) ?_;refine S4 ?_;refine jG J (.tmp J) ?_
   intro w' hs
   exact⟨Qy (by unfold qd wB vu;rw [hl,decide_eq_true (show(1:Int)≤(n:Int) by omega),decide_eq_true (show(n:Int)≤400 by omega)];rfl),hs.fin⟩
  ·refine S6 ?_;refine jG J (.tmp J) ?_
   intro w' hs
   exact⟨Qy (by unfold qd wB;rw [hl,decide_eq_false (show¬(n:Int)≤400 by omega),Bool.and_false,FH]),hs.fin⟩
 ·refine Dh ?_;refine jG J (.tmp J) ?_
  intro w' hs
  exact⟨Qy (by unfold qd wB;rw [hl,decide_eq_false (show¬(1:Int)≤(n:Int) by omega)];rfl),hs.fin⟩
theorem yz (A:Option Addr) (n c:Nat) (xs:List (Int×Int)) (w:World) (h:Pts w A n xs) :
  Calls Try.prog 30 #[Zx A n c] w fun e w'=>e= .returned (.bool (qd xs))∧Over w w':=by
 refine Jh (m:=6) (Try.func30) J J (lb J) ?_;refine S3 ?_;refine aX (fun b1=> ?_);refine N6 ?_;refine a9 (jN UW J J (fun w1 hs=>xp A n c xs w1 (h.over hs.fin))) ?_;refine S3 ?_;refine jG J (.tmp J) ?_
 intro w' hs
 exact⟨rfl,hs.fin⟩
theorem ut {rs:List jx} :∀ {k:Nat},k≤rs.length→(rs.take k).all qd=true→(JJ rs k).length≤400*k
 | 0,_,_=>DM _
 | k+1,hk,h=>by
  rw [vO Om,List.all_append,DL] at h
  have h2:qd (rg rs k) =true:=by simpa using h.2
  have:=ut (k:=k) Om h.1
  have:=qN h2
  have:=QI (rg rs k) (rg rs k).length
  show(JJ rs k++Jf (rg rs k)).length≤_
  rw [DK]
  unfold Jf
  omega
theorem uP (A:Option Addr) (n c:Nat) (rs:List jx) (w:World) (h:Rings w A n rs) (hm: (n:Int)≤9223372036854775807) :
  Calls Try.prog 14 #[kP A n c] w fun e w'=>e= .returned (.bool (Je rs))∧Over w w':=by
 have hl:=h.1
 refine Jh (m:=28) (Try.func14) J J (lb J) ?_;refine S3 ?_;refine aX (fun b1=> ?_);refine B8 ?_;refine cZ (fun c1=> ?_) (fun c1=> ?_)
 ·refine S6 ?_;refine jG J (.tmp J) ?_
  intro w' hs
  exact⟨Qy (Vg Om).symm,hs.fin⟩
 ·have h40:n≤40:=Om
  refine Dl ?_;refine qC (X:=Nat) (fun k=>k≤n∧(rs.take k).all qd=true) (fun k=>n- k) (fun k=> [(3, .int .i64 ((JJ rs k).length:Int)),(13, .int .i64 (k:Int))]) (kK [2,11,12]) 0 (⟨DQ _,J⟩) ⟨J,sz⟩ ?_
  intro k hk L hL1
  refine v9 ?_
  obtain ⟨hk1,hk2⟩ :=hk
  refine S5 ?_;refine cZ (fun c2=> ?_) (fun c2=> ?_)
  ·have hlt:k<n:=Om
   obtain ⟨bb,oo,Ak,ck,rfl,hbB,hcell,hpts,hmax⟩ :=h.at_ hlt
   have hsum:=ut (show k≤rs.length by omega) hk2
   refine S7 ?_;refine a9 (jj J J qg J (zb hcell hbB)) ?_;refine S1 ?_;refine aL (fun b2=> ?_);refine N7 ?_;refine a9 (jN WD J J (fun w1 hs=>yz Ak _ ck (rg rs k) w1 (hpts.over hs.fin))) ?_;refine S2 ?_;refine cZ (fun c3=> ?_) (fun c3=> ?_)
   ·refine Dh ?_;refine jG J (.tmp J) ?_
    intro w' hs
    exact⟨Qy (VT (show k<rs.length by omega) c3).symm,hs.fin⟩
   ·have hp:=qN c3
    have he:=QI (rg rs k) (rg rs k).length
    have hs2: (JJ rs (k+1)).length= (JJ rs k).length+ (Jf (rg rs k)).length:=DK
    have he': (Jf (rg rs k)).length≤(rg rs k).length:=he
    refine S6 ?_;refine QQ KE (v:=fun x=> .slice x.1 _ x.2) (r:=fun x=>qx 0 54 4 _ _ x) (H:=fun _=>True) J J J (lb J) (fun w1 hs=>KH (kA Ak _ ck (rg rs k) w1 (hpts.over hs.fin) Om)) ?_
    rintro⟨eA,ec⟩ -
    refine B8 ?_
    exact qy hL1 (k+1) (⟨by omega,yl Om hk2 c3⟩) Om ⟨vi (by rw [hs2];omega),vi Om,sz⟩ (u9 J)
  ·have hkn:k=n:=Om
   refine Di ?_;refine jG J (.tmp J) ?_
   intro w' hs
   have ha:rs.all qd=true:= (by rw [Fk Om] at hk2;exact hk2)
   exact⟨Qy (by rw [KW Om ha];unfold jv;rw [hl,←hkn];exact decide_eq_decide.2 Om),hs.fin⟩
def kS (xs:List Pn) (k:Nat) :List Pn:= (JK xs k).map lA
def QJ (xs:List Pn) :List Pn:=kS xs xs.length
theorem YX:∀ {es:List (Pn×Pn)} {p q:Pn},Lk es p→Lk (es++ [(p,q)]) q
 | [],_,_,_=>rfl
 | [e],p,q,h=>⟨h,rfl⟩
 | e::f::l,p,q,h=>⟨h.1,YX (es:=f::l) h.2⟩
def xt (l:Leg) :Pn×Pn:= (lA l,lB l)
theorem zQ {xs:List Pn} :∀k,k<xs.length→Lk ((JK xs k).map xt) (pt xs k)∧((JK xs k) = []→pt xs k=pt xs 0)∧(∀e,((JK xs k).map xt).head?=some e→e.1=pt xs 0)
 | 0,_=>⟨trivial,fun _=>rfl,fun e h=>by cases h⟩
 | k+1,hk=>by
  obtain ⟨h1,h2,h3⟩ :=zQ (xs:=xs) k Om
  have hn:nx xs k=k+1:=Ib hk
  rw [q5]
  split
  ·rename_i h
   have e:pt xs k=pt xs (k+1) :=by rw [hn] at h;exact Prod.ext h.1 h.2
   exact⟨e▸h1,fun h'=>e▸h2 h',h3⟩
  ·rw [FC,hn]
   refine⟨YX h1,fun h'=>by simp at h',fun e he=> ?_⟩
   cases hE:JK xs k with
   | nil=>
    rw [hE] at he
    have: (pt xs k,pt xs (k+1)) =e:=Option.some.inj he
    rw [←this]
    exact h2 hE
   | cons a l=>
    rw [hE] at he h3
    exact h3 e (by simpa using he)
theorem yY {xs:List Pn} (h0:0<xs.length) :Lk ((Jf xs).map xt) (pt xs 0)∧∀e,((Jf xs).map xt).head?=some e→e.1=pt xs 0:=by
 obtain ⟨m,hm⟩ :∃m,xs.length=m+1:=⟨xs.length- 1,by omega⟩
 obtain ⟨h1,h2,h3⟩ :=zQ (xs:=xs) m Om
 have hn:nx xs m=0:=by unfold nx;rw [hm,Nat.mod_self]
 unfold Jf
 rw [hm,q5]
 split
 ·rename_i h
  have e:pt xs m=pt xs 0:=by rw [hn] at h;exact Prod.ext h.1 h.2
  exact⟨e▸h1,h3⟩
 ·rw [FC,hn]
  refine⟨YX h1,fun e he=> ?_⟩
  cases hE:JK xs m with
  | nil=>
   rw [hE] at he
   have: (pt xs m,pt xs 0) =e:=Option.some.inj he
   rw [←this]
   exact h2 hE
  | cons a l=>
   rw [hE] at he h3
   exact h3 e (by simpa using he)
theorem HX:∀ {es:List (Pn×Pn)} {z:Pn},Lk es z→(∀i (h:i+1<es.length),(es[i]'(by omega)).2=es[i+1].1)∧(∀h:0<es.length,(es[es.length- 1]'(by omega)).2=z)
 | [],_,_=>⟨fun i h=>absurd h (by simp),fun h=>absurd h (by simp)⟩
 | [e],z,hl=>⟨fun i h=>absurd h (by simp),fun _=>hl⟩
 | e::f::l,z,hl=>by
  obtain ⟨g1,g2⟩ :=HX (es:=f::l) hl.2
  refine⟨fun i h=> ?_,fun _=> ?_⟩
  ·cases i with
   | zero=>exact hl.1
   | succ i=>have:=g1 i (by simpa using h);simpa using this
  ·have:=g2 (by simp)
   simpa using this
theorem LV {es:List (Pn×Pn)} {z:Pn} (h1:Lk es z) (h2:∀e,es.head?=some e→e.1=z) (hall:∀d∈es,d.1≠d.2) (hk:0<es.length) :bare (es.map (·.1)) :=by
 obtain ⟨g1,g2⟩ :=HX h1
 have hp:∀j (hj:j<es.length),pt (es.map (·.1)) j=es[j].1:=fun j hj=>by
  rw [←QK (by simpa using hj)]
  simp
 refine⟨by simpa using hk,fun j hj=> ?_⟩
 rw [Fc] at hj
 rw [hp j hj]
 by_cases hj1:j+1<es.length
 ·rw [show nx (es.map (·.1)) j=j+1 from Ib (by simpa using hj1),hp _ hj1,←g1 j hj1]
  exact hall _ (DR _)
 ·have hjn:j+1=es.length:=by omega
  rw [show nx (es.map (·.1)) j=0 by unfold nx;rw [Fc,hjn,Nat.mod_self],hp 0 hk]
  have hz: (es[0]'hk).1=z:=h2 _ (by cases es with | nil=>simp at hk | cons a l=>rfl)
  rw [hz,←g2 hk]
  have:es.length- 1=j:=by omega
  simp only [this]
  exact hall _ (DR _)
theorem y8 {xs:List Pn} (h0:0<xs.length) (hk:0< (QJ xs).length) :bare (QJ xs) :=by
 obtain ⟨h1,h2⟩ :=yY h0
 have hne:=vX xs xs.length
 have hne':∀l∈Jf xs,lA l≠lB l:=hne
 have e:QJ xs= ((Jf xs).map xt).map (·.1) :=by unfold QJ kS Jf;rw [List.map_map];rfl
 have hall:∀d∈(Jf xs).map xt,d.1≠d.2:=fun d hd=>by
  obtain ⟨l,hl,rfl⟩ :=Fi.1 hd
  exact hne' l hl
 rw [e] at hk⊢
 rw [Fc] at hk
 exact LV h1 h2 hall hk
def QZ (rs:List jx) (k:Nat) :List jx:= ((rs.take k).map QJ).filter fun r=>decide (0<r.length)
def JP (rs:List jx) :List jx:=QZ rs rs.length
theorem wF {rs:List jx} {k:Nat} (hk:k<rs.length) (h:0< (QJ (rg rs k)).length) :QZ rs (k+1) =QZ rs k++ [QJ (rg rs k)] :=by
 unfold QZ
 rw [vO hk,FC,List.filter_append]
 simp [h]
theorem WX {rs:List jx} {k:Nat} (hk:k<rs.length) (h:¬0< (QJ (rg rs k)).length) :QZ rs (k+1) =QZ rs k:=by
 unfold QZ
 rw [vO hk,FC,List.filter_append]
 have: (QJ (rg rs k)).length=0:=by omega
 simp [Fd this]
theorem UD (rs:List jx) (k:Nat) : (QZ rs k).length≤rs.length:=by
 unfold QZ
 refine FE (List.length_filter_le _ _) ?_
 rw [Fc,Ff]
 omega
theorem wE {rs:List jx} {k:Nat} {r:jx} (h:r∈QZ rs k) :0<r.length∧∃q∈rs,QJ q=r:=by
 unfold QZ at h
 rw [List.mem_filter] at h
 obtain ⟨q,hq,e⟩ :=Fi.1 h.1
 exact⟨by simpa using h.2,q,FL hq,e⟩
theorem z6 (xs:List Pn) (k:Nat) : (kS xs k).length≤k:=by
 unfold kS
 rw [Fc]
 exact QI xs k
theorem UP {xs:List Pn} {k:Nat} (h:pt xs k≠pt xs (nx xs k)) :kS xs (k+1) =kS xs k++ [pt xs k] :=by
 unfold kS
 rw [q5,if_neg (fun e=>h (Prod.ext e.1 e.2)),FC]
 rfl
theorem y7 {xs:List Pn} {k:Nat} (h:pt xs k=pt xs (nx xs k)) :kS xs (k+1) =kS xs k:=by
 unfold kS
 simp only [pt] at h
 injection h with h1 h2
 rw [q5,if_pos ⟨h1,h2⟩]
end Go.Proofs.Ytpncbbcmoiiipaa
