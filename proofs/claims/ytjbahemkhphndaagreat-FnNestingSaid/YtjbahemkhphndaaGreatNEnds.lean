import Derived.Test.YtjbahemkhphndaaGreatNPathR
import Derived.Test.YtjbahemkhphndaaGreatNSnapped
import Derived.Test.YtjbahemkhphndaaGreatNValidRegion
import Derived.Test.YtjbahemkhphndaaGreatNOwn
set_option linter.unusedVariables false
set_option linter.unusedSimpArgs false
namespace Go.Proofs.YtjbahemkhphndaaGreat
open Go Go.RowKit
variable{a b p:Pn}{es:List (Pn×Pn)}{hot xs:List Pn}{k:Nat}{rs:List jI}{s x:Sp}{u v:Int}
set_option maxRecDepth 100000
set_option maxHeartbeats 4000000
def lowOk(s:Sp)(u v:Int):Prop:=s.ln*v<u*s.ld\/(s.ln*v=u*s.ld/\s.lc=true)
def highOk(s:Sp)(u v:Int):Prop:=u*s.hd<s.hn*v\/(u*s.hd=s.hn*v/\s.hc=true)
def Ys(s:Sp)(u v:Int):Prop:=lowOk s u v/\highOk s u v
theorem lowOk.le(h:lowOk s u v):s.ln*v<=u*s.ld:=by rcases h with h|⟨h,_⟩<;>omega
theorem highOk.le(h:highOk s u v):u*s.hd<=s.hn*v:=by rcases h with h|⟨h,_⟩<;>omega
theorem jeQ(hs:0<s.ld)(hx:0<x.ld)(hv:0<v):lowOk (q5 s x) u v↔lowOk s u v/\lowOk x u v:=by
 unfold q5;split
 .rename_i h;have e:lowOk {s with ln:=x.ln,ld:=x.ld,lc:=x.lc} u v=lowOk x u v:=rfl
  rw[e];refine⟨λhx'=>⟨?_,hx'⟩,λh=>h.2⟩;simp only[UQ,jml,jlK,decide_eq_true_eq,jmo] at h;rcases h with h|⟨h,ho⟩
  .exact .inl (wD hx hs hv Om hx'.le)
  .rcases hx' with h'|⟨_,h'⟩
   .exact .inl (vj hx hs hv Om h')
   .rw[ho] at h';cases h'
 .rename_i h;refine⟨λh'=>⟨h',?_⟩,λh=>h.1⟩;simp only[UQ,jml,jlK,decide_eq_true_eq,jmo,not_or,not_and,Bool.not_eq_false] at h;obtain⟨g1,g2⟩:=h;rcases h' with h'|⟨h',hc⟩
  .exact .inl (vj hs hx hv Om h')
  .by_cases g:x.ln*s.ld<s.ln*x.ld
   .exact .inl (wD hs hx hv g Om)
   .have l1:=vG (a:=x.ln) (b:=x.ld) (c:=s.ln) (d:=s.ld) (e:=u) (f:=v) hs hx hv Om Om;have l2:=vG (a:=u) (b:=v) (c:=s.ln) (d:=s.ld) (e:=x.ln) (f:=x.ld) hs hv hx Om Om
    exact .inr ⟨by omega,g2 Om⟩
theorem jca(hs:0<s.hd)(hx:0<x.hd)(hv:0<v):highOk (kH s x) u v↔highOk s u v/\highOk x u v:=by
 unfold kH;split
 .rename_i h;have e:highOk {s with hn:=x.hn,hd:=x.hd,hc:=x.hc} u v=highOk x u v:=rfl
  rw[e];refine⟨λhx'=>⟨?_,hx'⟩,λh=>h.2⟩;simp only[Wx,jml,jlK,decide_eq_true_eq,jmo] at h;rcases h with h|⟨h,ho⟩
  .exact .inl (vj hx hv hs hx'.le Om)
  .rcases hx' with h'|⟨_,h'⟩
   .exact .inl (wD hx hv hs h' Om)
   .rw[ho] at h';cases h'
 .rename_i h;refine⟨λh'=>⟨h',?_⟩,λh=>h.1⟩;simp only[Wx,jml,jlK,decide_eq_true_eq,jmo,not_or,not_and,Bool.not_eq_false] at h;obtain⟨g1,g2⟩:=h;rcases h' with h'|⟨h',hc⟩
  .exact .inl (wD hs hv hx h' Om)
  .by_cases g:s.hn*x.hd<x.hn*s.hd
   .exact .inl (vj hs hv hx Om g)
   .have l1:=vG (a:=u) (b:=v) (c:=s.hn) (d:=s.hd) (e:=x.hn) (f:=x.hd) hs hv hx Om Om;have l2:=vG (a:=x.hn) (b:=x.hd) (c:=s.hn) (d:=s.hd) (e:=u) (f:=v) hs hx hv Om Om
    exact .inr ⟨by omega,g2 Om⟩
theorem jjO :lowOk (kH s x) u v↔lowOk s u v:=by unfold kH;split<;>exact Iff.rfl
theorem jhm :highOk (q5 s x) u v↔highOk s u v:=by unfold q5;split<;>exact Iff.rfl
theorem YQ(hs:0<s.ld/\0<s.hd)(hx:0<x.ld/\0<x.hd)(hv:0<v):Ys (J7 s x) u v↔Ys s u v/\Ys x u v:=by
 unfold Ys J7;rw[jjO,jeQ hs.1 hx.1 hv,jca (xa hs hx).2 hx.2 hv,jhm];constructor
 .rintro⟨⟨h1,h2⟩,h3,h4⟩;exact⟨⟨h1,h3⟩,h2,h4⟩
 .rintro⟨⟨h1,h3⟩,h2,h4⟩;exact⟨⟨h1,h2⟩,h3,h4⟩
theorem R6 :Ys ux u v↔0<=u/\u<=v:=by
 unfold Ys lowOk highOk ux;simp only[jmz,jnk,jnK,and_true];omega
def Z6(f d lo u v:Int):Prop:=lo*v<=f*v+u*d/\f*v+u*d<(lo+2)*v
theorem y7{f d lo:Int}(hv:0<v)(h0:0<=u)(h1:u<=v):(va f d lo=true/\Ys (Q7 f d lo) u v)↔Z6 f d lo u v:=by
 have e1:(lo+2)*v=lo*v+2*v:=Int.add_mul ..;by_cases hd:0<d
 .have hp:va f d lo=true:=by unfold va;rw[decide_eq_false Om];rfl
  have e2:(lo-f)*v=lo*v-f*v:=jnl ..;have e3:(lo+2-f)*v=lo*v+2*v-f*v:=by rw[jnl,Int.add_mul]
  rw[hp];unfold Q7;rw[if_pos hd];unfold Ys lowOk highOk Z6;simp only[true_and,and_true,jmF,and_false,or_false];rw[e1,e2,e3];omega
 .by_cases hn:d<0
  .have hp:va f d lo=true:=by unfold va;rw[decide_eq_false Om];rfl
   have e2:(f-lo)*v=f*v-lo*v:=jnl ..;have e3:(f-lo-2)*v=f*v-lo*v-2*v:=by rw[jnl,jnl]
   have e4:u*(-d)= -(u*d):=Int.mul_neg ..;rw[hp];unfold Q7;rw[if_neg hd,if_pos hn];unfold Ys lowOk highOk Z6;simp only[true_and,and_true,jmF,and_false,or_false];rw[e1,e2,e3,e4];omega
  .obtain rfl:d=0:=by omega
   rw[wH,R6];unfold va Z6;rw[jm2,jnr];simp only[decide_true,Bool.not_true,Bool.false_or,jlK,decide_eq_true_eq];constructor
   .rintro⟨⟨g1,g2⟩,_⟩;exact⟨jlO g1 Om,jl6 g2 hv⟩
   .rintro⟨g1,g2⟩;exact⟨⟨jmk g1 hv,jmm g2 Om⟩,h0,h1⟩
theorem OG(hs:0<s.ld/\0<s.hd)(h:Vh s=true):∃u v,0<v/\Ys s u v:=by
 simp only[Vh,jml,jlK,decide_eq_true_eq] at h;rcases h with h|⟨⟨h,h1⟩,h2⟩
 .have p:=jmj hs.1 hs.2;refine⟨s.ln*s.hd+s.hn*s.ld,2*(s.ld*s.hd),by omega,.inl ?_,.inl ?_⟩
  .have:=jl6 (show s.ln*s.hd<s.hn*s.ld by omega) hs.1;have e1:s.ln*(2*(s.ld*s.hd))=2*(s.ln*s.hd*s.ld):=by grind
   have e2:(s.ln*s.hd+s.hn*s.ld)*s.ld=s.ln*s.hd*s.ld+s.hn*s.ld*s.ld:=Int.add_mul ..;rw[e1,e2];omega
  .have:=jl6 (show s.ln*s.hd<s.hn*s.ld by omega) hs.2;have e1:s.hn*(2*(s.ld*s.hd))=2*(s.hn*s.ld*s.hd):=by grind
   have e2:(s.ln*s.hd+s.hn*s.ld)*s.hd=s.ln*s.hd*s.hd+s.hn*s.ld*s.hd:=Int.add_mul ..;rw[e1,e2];omega
 .exact⟨s.ln,s.ld,hs.1,.inr ⟨rfl,h1⟩,.inr ⟨by omega,h2⟩⟩
theorem jeZ(hs:0<s.ld/\0<s.hd)(hv:0<v)(h:Ys s u v):Vh s=true:=by
 simp only[Vh,jml,jlK,decide_eq_true_eq];obtain⟨h1,h2⟩:=h;by_cases g1:s.ln*v<u*s.ld
 .have:=wD (a:=s.ln) (b:=s.ld) (c:=u) (d:=v) (e:=s.hn) (f:=s.hd) hv hs.1 hs.2 g1 h2.le;exact .inl Om
 .by_cases g2:u*s.hd<s.hn*v
  .have:=vj (a:=s.ln) (b:=s.ld) (c:=u) (d:=v) (e:=s.hn) (f:=s.hd) hv hs.1 hs.2 h1.le g2;exact .inl Om
  .have l1:=vG (a:=s.ln) (b:=s.ld) (c:=u) (d:=v) (e:=s.hn) (f:=s.hd) hv hs.1 hs.2 h1.le h2.le;have k1:=h1.resolve_left g1
   have k2:=h2.resolve_left g2;have l2:=vG (a:=s.hn) (b:=s.hd) (c:=u) (d:=v) (e:=s.ln) (f:=s.ld) hv hs.2 hs.1 Om Om
   exact .inr ⟨⟨by omega,k1.2⟩,k2.2⟩
def wR(a b p:Pn)(u v:Int):Prop:=Z6 (2*a.1) (2*(b.1-a.1)) (2*p.1-1) u v/\Z6 (2*a.2) (2*(b.2-a.2)) (2*p.2-1) u v
theorem vo(hv:0<v)(h:Vx a b p=true):Ys (J5 a b p) u v↔(0<=u/\u<=v)/\wR a b p u v:=by
 unfold Vx G1 at h;simp only[jlK] at h;unfold J5 wR;rw[YQ (vq U2 (Kx _ _ _)) (Kx _ _ _) hv,YQ U2 (Kx _ _ _) hv,R6];constructor
 .rintro⟨⟨⟨h0,h1⟩,h2⟩,h3⟩;exact⟨⟨h0,h1⟩,(y7 hv h0 h1).1 ⟨h.1.1,h2⟩,(y7 hv h0 h1).1 ⟨h.1.2,h3⟩⟩
 .rintro⟨⟨h0,h1⟩,h2,h3⟩;exact⟨⟨⟨h0,h1⟩,((y7 hv h0 h1).2 h2).2⟩,((y7 hv h0 h1).2 h3).2⟩
theorem OD(hv:0<v)(h0:0<=u)(h1:u<=v)(h:wR a b p u v):Vx a b p=true:=by
 have hx:=(y7 hv h0 h1).2 h.1;have hy:=(y7 hv h0 h1).2 h.2
 have hm:Ys (J5 a b p) u v:=by
  unfold J5;rw[YQ (vq U2 (Kx _ _ _)) (Kx _ _ _) hv,YQ U2 (Kx _ _ _) hv,R6];exact⟨⟨⟨h0,h1⟩,hx.2⟩,hy.2⟩
 have:=jeZ (vn a b p) hv hm;unfold Vx G1;rw[hx.1,hy.1];exact this
theorem U5{q:Pn}(hv:0<v)(h:wR a b p u v)(h':wR a b q u v):p=q:=by
 have key:∀{f d m n:Int},Z6 f d (2*m-1) u v->Z6 f d (2*n-1) u v->¬m<n:=by
  intro f d m n g g' hmn;have:=jlO (show 2*m-1+2<=2*n-1 by omega) (show 0<=v by omega)
  have g2:=g.2;have g1':=g'.1
  omega
 have x1:=key h.1 h'.1;have x2:=key h'.1 h.1
 have y1:=key h.2 h'.2;have y2:=key h'.2 h.2
 exact Prod.ext Om Om
theorem CH(a b:Pn):wR a b a 0 1:=by
 unfold wR Z6;simp only[jnk,jmz,jnr];omega
theorem jex(a b:Pn):wR a b b 1 1:=by
 unfold wR Z6;simp only[jnk,jnK];omega
theorem jeD(a b:Pn):Vx a b a=true:=OD Dc Dc Dc (CH a b)
theorem jeE(a b:Pn):Vx a b b=true:=OD Dc Dc Dc (jex a b)
theorem HU :Zw s x=true↔s.ln*x.ld<x.ln*s.ld\/(s.ln*x.ld=x.ln*s.ld/\s.lc=true/\x.lc=false):=by
 simp only[Zw,jml,jlK,decide_eq_true_eq,jmo];constructor
 .rintro(h|⟨⟨h1,h2⟩,h3⟩)
  .exact .inl Om
  .exact .inr ⟨by omega,h2,h3⟩
 .rintro(h|⟨h1,h2,h3⟩)
  .exact .inl Om
  .exact .inr ⟨⟨by omega,h2⟩,h3⟩
theorem NR(hs:0<s.ld)(hx:0<x.ld)(h:0<=s.ln):0<=(J7 s x).ln:=by
 have e:(J7 s x).ln=(q5 s x).ln:=by unfold J7 kH;split<;>rfl
 rw[e];unfold q5;split
 .rename_i h';simp only[UQ,jml,jlK,decide_eq_true_eq,jmo] at h';have h1:s.ln*x.ld<=x.ln*s.ld:=by rcases h' with h'|⟨h',_⟩<;>omega
  have h2:0<=s.ln*x.ld:=jl2 h Om;show 0<=x.ln
  refine jmS.1 λhn=>?_
  have:=jmD hn hs;omega
 .exact h
theorem IE(a b p:Pn):0<=(J5 a b p).ln:=
 NR (vq U2 (Kx _ _ _)).1 (Kx _ _ _).1 (NR U2.1 (Kx _ _ _).1 Dc)
theorem Eo(hi:Vx a b p=true)(hne:p≠a):vc a b a p=true:=by
 have ha:=jeD a b;have ma:Ys (J5 a b a) 0 1:=(vo Dc ha).2 ⟨⟨by decide,by decide⟩,CH a b⟩
 have ua:=IE a b a;have up:=IE a b p
 have pa:=vn a b a;have pp:=vn a b p
 have l0:(J5 a b a).ln=0/\(J5 a b a).lc=true:=by
  have:=ma.1;unfold lowOk at this;simp only[jnk,jmz] at this;rcases this with h|⟨h,hc⟩
  .omega
  .exact⟨h,hc⟩
 unfold vc;rw[HU,l0.1,l0.2,jmz];by_cases h:0<(J5 a b p).ln
 .exact .inl (jmj h pa.1)
 .have e:(J5 a b p).ln=0:=by omega
  rw[e,jmz];refine .inr ⟨J,J,?_⟩;cases hc:(J5 a b p).lc with
  |false=>rfl
  |true=>
   have hn:Vh (J5 a b p)=true:=by unfold Vx G1 at hi;simp only[jlK] at hi;exact hi.2
   obtain⟨u,v,hv,hm⟩:=OG pp hn;have h0:=(vo hv hi).1 hm
   have hh:highOk (J5 a b p) 0 1:=by
    have:=hm.2;unfold highOk at this⊢;simp only[jmz,jnk];have q1:0<=u*(J5 a b p).hd:=jl2 h0.1.1 Om
    by_cases g:0<(J5 a b p).hn
    .exact .inl g
    .have q2:(J5 a b p).hn*v<=0:=Int.mul_nonpos_of_nonpos_of_nonneg Om Om;rcases this with h'|⟨h',hc'⟩
     .omega
     .refine .inr ⟨?_,hc'⟩;have:(J5 a b p).hn*v=0:=by omega
      rcases Int.mul_eq_zero.1 this with h'|h'<;>omega
   have m0:Ys (J5 a b p) 0 1:=⟨.inr ⟨by rw[e];simp,hc⟩,hh⟩;exact absurd (U5 Dc ((vo Dc hi).1 m0).2 (CH a b)) hne
theorem jc0(hi:Vx a b p=true)(hne:p≠b):vc a b p b=true:=by
 have hb:=jeE a b;have mb:Ys (J5 a b b) 1 1:=(vo Dc hb).2 ⟨⟨by decide,by decide⟩,jex a b⟩
 have pb:=vn a b b;have pp:=vn a b p
 rcases Bool.eq_false_or_eq_true (vc a b p b) with h|h
 .exact h
 .exfalso;have hns:¬((J5 a b p).ln*(J5 a b b).ld<(J5 a b b).ln*(J5 a b p).ld\/((J5 a b p).ln*(J5 a b b).ld=(J5 a b b).ln*(J5 a b p).ld/\(J5 a b p).lc=true/\(J5 a b b).lc=false)):=λh'=>by
   have:=HU.2 h';unfold vc at h;rw[h] at this;cases this
  have hle:(J5 a b b).ln*(J5 a b p).ld<=(J5 a b p).ln*(J5 a b b).ld:=jmS.1 λh'=>hns (.inl h')
  have hn:Vh (J5 a b p)=true:=by unfold Vx G1 at hi;simp only[jlK] at hi;exact hi.2
  obtain⟨u,v,hv,hm⟩:=OG pp hn;have h0:=(vo hv hi).1 hm
  have hlow:lowOk (J5 a b b) u v:=by
   by_cases g:(J5 a b p).ln*v<u*(J5 a b p).ld
   .exact .inl (vj pp.1 pb.1 hv hle g)
   .obtain⟨g1,g2⟩:=hm.1.resolve_left g;by_cases k:(J5 a b b).ln*(J5 a b p).ld<(J5 a b p).ln*(J5 a b b).ld
    .exact .inl (wD pp.1 pb.1 hv k Om)
    .have l1:=vG (a:=(J5 a b b).ln) (b:=(J5 a b b).ld) (c:=(J5 a b p).ln) (d:=(J5 a b p).ld) (e:=u) (f:=v) pp.1 pb.1 hv Om Om;have l2:=vG (a:=u) (b:=v) (c:=(J5 a b p).ln) (d:=(J5 a b p).ld) (e:=(J5 a b b).ln) (f:=(J5 a b b).ld) pp.1 hv pb.1 Om Om
     refine .inr ⟨by omega,?_⟩;cases hc:(J5 a b b).lc with
     |true=>rfl
     |false=>exact absurd (.inr ⟨by omega,g2,hc⟩) hns
  have hhigh:highOk (J5 a b b) u v:=by
   have:=mb.2;unfold highOk at this⊢;simp only[jnK,jnk] at this;have e:v*(J5 a b b).hd=(J5 a b b).hd*v:=jmn ..
   by_cases g:u<v
   .have q:=jl6 g pb.2;have q2:(J5 a b b).hd*v<=(J5 a b b).hn*v:=jlO Om Om
    exact .inl Om
   .obtain rfl:u=v:=by have:=h0.1.2;omega
    rcases this with h'|⟨h',hc⟩
    .have q2:=jl6 h' hv;exact .inl Om
    .exact .inr ⟨by rw[h',jmn],hc⟩
  exact hne (U5 hv h0.2 ((vo hv hb).1 ⟨hlow,hhigh⟩).2)
theorem jhV(a b:Pn):K9 a b a=true:=YX (GO Om Om) (ZT Om Om) (jeD a b)
theorem jhW(a b:Pn):K9 a b b=true:=YX (GO Om Om) (ZT Om Om) (jeE a b)
theorem xV(h:K9 a b p=true):Vx a b p=true:=by unfold K9 at h;simp only[jlK] at h;exact h.2
theorem KV :p∈qJ a b hot↔p∈hot/\K9 a b p=true:=by
 rw[Wd,ww,Xc,jmx]
theorem uY(h:hot.Nodup):(qJ a b hot).Nodup:=by
 rw[Wd];unfold ww;exact(DJ (lt:=vc a b) (l:=hot.filter (K9 a b))).nodup_iff.2 (h.sublist List.filter_sublist)
theorem xX(hne:a≠b)(ha:a∈hot)(hb:b∈hot):∃mid,qJ a b hot=a::(mid++[b]):=by
 have ma:a∈qJ a b hot:=KV.2 ⟨ha,jhV a b⟩;have mb:b∈qJ a b hot:=KV.2 ⟨hb,jhW a b⟩
 have hi:∀p∈qJ a b hot,Vx a b p=true:=λp hp=>xV (KV.1 hp).2
 have hs:ya (vc a b) (qJ a b hot):=by rw[Wd];exact xz a b hot
 revert ma mb hi hs;generalize qJ a b hot=S;intro ma mb hi hs;cases S with
 |nil=>cases ma
 |cons x T=>
  obtain⟨h1,h2⟩:=jmc.1 hs;have hx:x=a:=Decidable.byContradiction λhx=>by
   have hT:a∈T:=(jlP.1 ma).resolve_left (λe=>hx e.symm);have:=Eo (hi x (jl7 ..)) hx
   rw[h1 a hT] at this;cases this
  subst hx;have hbT:b∈T:=(jlP.1 mb).resolve_left (λe=>hne e.symm)
  rcases List.eq_nil_or_concat T with rfl|⟨mid,y,rfl⟩
  .cases hbT
  .rw[List.concat_eq_append] at*;have hy:y=b:=Decidable.byContradiction λhy=>by
    have hm:b∈mid:=(jl0.1 hbT).resolve_right (λe=>hy (jlM.1 e).symm);have:=jc0 (hi y (jlQ _ (jnd _ (jlM.2 rfl)))) hy
    rw[(jm9.1 h2).2.2 b hm y (jlM.2 rfl)] at this;cases this
   exact⟨mid,by rw[hy]⟩
def mkL(e:Pn×Pn):Leg:=⟨e.1.1,e.1.2,e.2.1,e.2.2⟩
def KN(xs:List Pn):List (Pn×Pn):=(List.range xs.length).map λj=>(pt xs j,pt xs (nx xs j))
def bare(xs:List Pn):Prop:=0<xs.length/\∀j,j<xs.length->pt xs j≠pt xs (nx xs j)
def QA(hot:List Pn)(e:Pn×Pn):List Pn:=(qJ e.1 e.2 hot).dropLast
def Ko(hot xs:List Pn):List Pn:=(Jh xs).flatMap λl=>QA hot (lA l,lB l)
theorem GW{xs:List Pn}(h:bare xs):∀k,k<=xs.length->qI xs k=((List.range k).map λj=>(pt xs j,pt xs (nx xs j))).map mkL
 |0,_=>rfl
 |k+1,hk=>by
  have hne:=h.2 k Om;rw[K7,if_neg (λe=>hne (Prod.ext e.1 e.2)),GW h k Om,jm3,jma,jma];rfl
theorem QQ(h:bare xs):Jh xs=(KN xs).map mkL:=GW h _ (jlL _)
theorem Uu(h:bare xs):Ko hot xs=(KN xs).flatMap (QA hot):=by
 unfold Ko;rw[QQ h,List.flatMap_map];rfl
def Lk:List (Pn×Pn)->Pn->Prop
 |[],_=>True
 |[e],z=>e.2=z
 |e::f::l,z=>e.2=f.1/\Lk (f::l) z
theorem jiW:∀{es:List (Pn×Pn)} {z:Pn},(∀i (h:i+1<es.length),(es[i]'(by omega)).2=es[i+1].1)->(∀h:0<es.length,(es[es.length-1]'(by omega)).2=z)->Lk es z
 |[],_,_,_=>trivial
 |[e],z,_,h2=>h2 (by simp)
 |e::f::l,z,h1,h2=>⟨h1 0 (by simp),jiW (λi h=>by have:=h1 (i+1) (by simpa using h);simpa using this) (λh=>by have:=h2 (by simp);simpa using this)⟩
theorem WK(xs:List Pn):(KN xs).length=xs.length:=by simp[KN]
theorem HC :Lk (KN xs) (pt xs 0):=by
 refine jiW (λi h=>?_) (λh=>?_)
 .rw[WK] at h;simp only[KN,jmW,jnp];rw[show nx xs i=i+1 from jm0 h]
 .rw[WK] at h;simp only[KN,jmW,jnp,jlV,List.length_range];rw[show nx xs (xs.length-1)=0 by unfold nx;rw[show xs.length-1+1=xs.length by omega,jnD]]
theorem WJ(xs:List Pn):(KN xs).map (·.1)=xs:=by
 apply jm5
 .simp[KN]
 .intro i h1 h2;simp only[KN,jmW,jnp];rw[KO h2]
def Dis:List Pn->Prop
 |[]=>True
 |[_]=>True
 |p::q::l=>p≠q/\Dis (q::l)
theorem Lq:∀{l:List Pn},l.Nodup->Dis l
 |[],_=>trivial
 |[_],_=>trivial
 |p::q::l,h=>by
  obtain⟨h1,h2⟩:=jmY.1 h;exact⟨λe=>h1 (e▸jl7 ..),Lq h2⟩
theorem TZ:∀{A:List Pn} {p:Pn} {B:List Pn},Dis (A++[p])->Dis (p::B)->Dis (A++p::B)
 |[],_,_,_,h=>h
 |[a],p,B,h,h'=>⟨h.1,h'⟩
 |a::b::A,p,B,h,h'=>⟨h.1,TZ (A:=b::A) h.2 h'⟩
theorem jed:∀{l:List Pn},Dis l->∀j,j+1<l.length->pt l j≠pt l (j+1)
 |[],_,j,h=>absurd h (by simp)
 |[_],_,j,h=>absurd h (by simp)
 |p::q::l,hd,0,_=>hd.1
 |p::q::l,hd,j+1,h=>by
  have:=jed hd.2 j (by simpa using h);simpa[pt,px,py] using this
theorem wv{e:Pn×Pn}(h:e.1≠e.2/\e.1∈hot/\e.2∈hot):∃mid,QA hot e=e.1::mid/\qJ e.1 e.2 hot=QA hot e++[e.2]:=by
 obtain⟨mid,hm⟩:=xX h.1 h.2.1 h.2.2;refine⟨mid,?_,?_⟩
 .unfold QA;rw[hm,<-jmf,List.dropLast_concat]
 .unfold QA;rw[hm,<-jmf,List.dropLast_concat]
theorem Nf{hot:List Pn}(hnd:hot.Nodup):∀{es:List (Pn×Pn)} {e:Pn×Pn} {z:Pn},Lk (e::es) z->(∀d∈e::es,d.1≠d.2/\d.1∈hot/\d.2∈hot)->Dis ((e::es).flatMap (QA hot)++[z])/\∃rest,(e::es).flatMap (QA hot)=e.1::rest
 |[],e,z,hl,hm=>by
  obtain⟨mid,h1,h2⟩:=wv (hm e (jl7 ..));have hz:e.2=z:=hl
  simp only[jl4,List.flatMap_nil,jl9];refine⟨?_,mid,h1⟩;rw[<-hz,<-h2];exact Lq (uY hnd)
 |f::l,e,z,hl,hm=>by
  obtain⟨mid,h1,h2⟩:=wv (hm e (jl7 ..));obtain⟨k1,rest,k2⟩:=Nf hnd (es:=l) (e:=f) (z:=z) hl.2 (λd hd=>hm d (jlQ _ hd));rw[jl4];refine⟨?_,mid++(f::l).flatMap (QA hot),by rw[h1];rfl⟩;rw[jlT];rw[k2] at k1⊢;refine TZ (B:=rest++[z]) ?_ k1;rw[<-hl.1,<-h2];exact Lq (uY hnd)
theorem Lt{hot:List Pn}:∀{es:List (Pn×Pn)},(∀d∈es,d.1≠d.2/\d.1∈hot/\d.2∈hot)->es.length<=(es.flatMap (QA hot)).length/\((es.flatMap (QA hot)).length=es.length->es.flatMap (QA hot)=es.map (·.1))
 |[],_=>⟨jlL _,λ_=>rfl⟩
 |e::l,h=>by
  obtain⟨mid,h1,_⟩:=wv (h e (jl7 ..));obtain⟨g1,g2⟩:=Lt (es:=l) λd hd=>h d (jlQ _ hd)
  rw[jl4,h1,jlJ,jlS,jlS];refine⟨by omega,λhle=>?_⟩;obtain rfl:mid=[]:=jmh Om;rw[g2 (by simp only[jl5] at hle;omega),jmA];rfl
theorem YZ(hb:bare xs)(hm:∀p∈xs,p∈hot):∀d∈KN xs,d.1≠d.2/\d.1∈hot/\d.2∈hot:=λd hd=>by
 obtain⟨j,hj,rfl⟩:=jlR.1 hd;have hj:=jmB.1 hj
 refine⟨hb.2 j hj,hm _ ?_,hm _ ?_⟩
 .rw[<-KO hj];exact jlY _
 .have hn:nx xs j<xs.length:=jnA _ hb.1;show pt xs (nx xs j)∈xs
  rw[<-KO hn];exact jlY _
theorem DB(h:p∈Ko hot xs):p∈hot:=by
 obtain⟨l,_,hp⟩:=jm8.1 h;exact(KV.1 (List.dropLast_subset _ hp)).1
theorem jbR(hnd:hot.Nodup):∀{es:List (Pn×Pn)} {z:Pn},Lk es z->(∀d∈es,d.1≠d.2/\d.1∈hot/\d.2∈hot)->(∀h:0<es.length,(es[0]'h).1=z)->0<es.length->bare (es.flatMap (QA hot))
 |[],_,_,_,_,h=>absurd h (by simp)
 |e::l,z,hlk,hok,h0,hp=>by
  obtain⟨k1,rest,k2⟩:=Nf hnd hlk hok;have he:e.1=z:=h0 hp
  generalize (e::l).flatMap (QA hot)=ys at*;refine⟨by rw[k2];simp,λj hj=>?_⟩;have hd:=jed k1 j (by simp;omega)
  have e1:pt (ys++[z]) j=pt ys j:=by simp only[pt,px,py,List.getD_eq_getElem?_getD,List.getElem?_append_left hj]
  rw[e1] at hd;by_cases hj1:j+1<ys.length
  .rw[show nx ys j=j+1 from jm0 hj1];have e2:pt (ys++[z]) (j+1)=pt ys (j+1):=by simp only[pt,px,py,List.getD_eq_getElem?_getD,List.getElem?_append_left hj1]
   rwa [e2] at hd
  .have hjn:j+1=ys.length:=by omega
   rw[show nx ys j=0 by unfold nx;rw[hjn,jnD]];have e2:pt (ys++[z]) (j+1)=z:=by
    have e4:(ys++[z])[j+1]? =some z:=by rw[List.getElem?_append_right Om,hjn,Nat.sub_self];rfl
    simp only[pt,px,py,List.getD_eq_getElem?_getD,e4];rfl
   have e3:pt ys 0=z:=by rw[k2,<-he];rfl
   rw[e2] at hd
   rwa [e3]
theorem U9(hnd:hot.Nodup)(hb:bare xs)(hm:∀p∈xs,p∈hot):bare (Ko hot xs)/\xs.length<=(Ko hot xs).length/\((Ko hot xs).length=xs.length->Ko hot xs=xs):=by
 rw[Uu hb];have hok:=YZ hb hm
 obtain⟨g1,g2⟩:=Lt hok;rw[WK] at g1 g2;exact⟨jbR hnd HC hok (λh=>by simp[KN]) (by rw[WK];exact hb.1),g1,λh=>by rw[g2 h,WJ]⟩
def cnt(rs:List jI):Nat:=(rs.map List.length).sum
def q8(hot:List Pn)(rs:List jI):List jI:=rs.map (Ko hot)
def bareG(hot:List Pn)(rs:List jI):Prop:=∀r∈rs,bare r/\∀p∈r,p∈hot
theorem bareG.snap(hnd:hot.Nodup)(h:bareG hot rs):bareG hot (q8 hot rs):=λr hr=>by
 obtain⟨q,hq,rfl⟩:=jlR.1 hr;exact⟨(U9 hnd (h q hq).1 (h q hq).2).1,λp hp=>DB hp⟩
theorem IT{hot:List Pn}(hnd:hot.Nodup):∀{rs:List jI},bareG hot rs->cnt rs<=cnt (q8 hot rs)/\(cnt (q8 hot rs)=cnt rs->q8 hot rs=rs)
 |[],_=>⟨jlL _,λ_=>rfl⟩
 |r::l,h=>by
  obtain⟨h1,h2⟩:=h r (jl7 ..);obtain⟨_,g1,g2⟩:=U9 hnd h1 h2;obtain⟨k1,k2⟩:=IT hnd (rs:=l) λq hq=>h q (jlQ _ hq)
  have e1:cnt (q8 hot (r::l))=(Ko hot r).length+cnt (q8 hot l):=rfl;have e2:cnt (r::l)=r.length+cnt l:=rfl
  rw[e1,e2];refine⟨by omega,λhe=>?_⟩;have a1:=g2 Om
  have a2:=k2 Om;show Ko hot r::q8 hot l=r::l
  rw[a1,a2]
theorem wl(h:bare xs):(Jh xs).length=xs.length:=by rw[QQ h,jlV,WK]
theorem GU(h:∀r∈rs,bare r):(jH rs).length=cnt rs:=by
 have key:∀k,k<=rs.length->(qx rs k).length=cnt (rs.take k):=by
  intro k
  induction k with
  |zero=>intro _;rfl
  |succ k ih=>
   intro hk;have hb:bare (rg rs k):=by have:=h rs[k] (jlY Om);rwa [wb Om] at this
   show(qx rs k++Jh (rg rs k)).length=_;rw[jlJ,ih Om,wl hb,WQ Om];simp[cnt]
 have:=key rs.length (jlL _)
 rwa [jms] at this
theorem CJ(A:Option Addr)(n c:Nat)(xs:List (Int×Int))(w:World)(h:Pts w A n xs):
  Calls Tryz.prog 36 #[.slice A n c] w λe w'=>e=.returned (.bool (qM xs))/\Over w w':=by
 have hl:=h.1;refine Jm (m:=15) (Tryz.func36) J J (lb J) ?_;refine S10 ?_;refine cV 6 (λg1=>?_) (λg1=>?_)
 .have h1:1<=n:=Om;refine S8 ?_;refine cV 11 (λg2=>?_) (λg2=>?_)
  .have h2:n<=400:=Om;refine S3 ?_;refine o9 (jT LK J J (λw1 hs=>H5 A n c xs w1 (h.over hs.fin) Om)) ?_;refine S4 ?_;refine jK J (.tmp J) ?_;intro w' hs;exact⟨Q4 (by unfold qM X2 WY;rw[hl,decide_eq_true (show(1:Int)<=(n:Int) by omega),decide_eq_true (show(n:Int)<=400 by omega)];rfl),hs.fin⟩
  .refine S6 ?_;refine jK J (.tmp J) ?_;intro w' hs;exact⟨Q4 (by unfold qM X2;rw[hl,decide_eq_false (show¬(n:Int)<=400 by omega),jno,jmg]),hs.fin⟩
 .refine S11 ?_;refine jK J (.tmp J) ?_;intro w' hs;exact⟨Q4 (by unfold qM X2;rw[hl,decide_eq_false (show¬(1:Int)<=(n:Int) by omega)];rfl),hs.fin⟩
theorem Fe(A:Option Addr)(n c:Nat)(xs:List (Int×Int))(w:World)(h:Pts w A n xs):
  Calls Tryz.prog 23 #[XE A n c] w λe w'=>e=.returned (.bool (qM xs))/\Over w w':=by
 refine Jm (m:=6) (Tryz.func23) J J (lb J) ?_;refine S3 ?_;refine aX (λb1=>?_);refine N6 ?_;refine a9 (jT BV J J (λw1 hs=>CJ A n c xs w1 (h.over hs.fin))) ?_;refine S3 ?_;refine jK J (.tmp J) ?_;intro w' hs;exact⟨rfl,hs.fin⟩
theorem NA(b o:Nat)(A:Option Addr)(n c:Nat)(xs:List (Int×Int))(w:World)(hc:w.cell? ⟨b,o,none⟩=some (.slice A n c))(hb:b<w.heap.size)(h:Pts w A n xs):
  Calls Tryz.prog 21 #[.pointer (some ⟨b,o,none⟩)] w λe w'=>e=.returned (.bool (qM xs))/\Over w w':=by
 have hl:=h.1;refine Jm (m:=16) (Tryz.func21) J J (lb J) ?_;refine S9 ?_;refine a9 (jn J J JH (QZ hc hb)) ?_;refine S1 ?_;refine a9 (jT FB J J (λw1 hs=>Calls.still (YN (n:Int) 1 400 w1))) ?_;refine S1 ?_;refine cV 9 (λg1=>?_) (λg1=>?_)
 .have h2:n<=400:=(by unfold X2 at g1;simp only[jlK,decide_eq_true_eq] at g1;omega);refine S7 ?_;refine o9 (jn J J JH (QZ hc hb)) ?_;refine h9 ?_;refine o9 (jT Hu J J (λw1 hs=>Xy A n c xs w1 (h.over hs.fin) Om)) ?_;refine S4 ?_;refine jK J (.tmp J) ?_;intro w' hs;exact⟨Q4 (by unfold qM;rw[hl,g1];rfl),hs.fin⟩
 .refine S9 ?_;refine jK J (.tmp J) ?_;intro w' hs;exact⟨Q4 (by unfold qM;rw[hl,g1];rfl),hs.fin⟩
theorem jjd(h:rs.all qM=true)(hk:k<rs.length):qM (rg rs k)=true:=by
 have:=jm4.1 h rs[k] (jlY hk)
 rwa [wb hk] at this
theorem ZM{rs:List jI}:∀{k:Nat},k<=rs.length->(rs.take k).all qM=true->(qx rs k).length<=400*k
 |0,_,_=>jlL _
 |k+1,hk,h=>by
  rw[WQ Om,List.all_append,jlK] at h;have h2:qM (rg rs k)=true:=by simpa using h.2
  have:=ZM (k:=k) Om h.1;have:=Qj h2
  have:=Ku (rg rs k) (rg rs k).length;show(qx rs k++Jh (rg rs k)).length<=_
  rw[jlJ];unfold Jh;omega
theorem MO{rs:List jI}(h:rs.all qM=true):∀k,k<=rs.length->uk rs k<=400*k
 |0,_=>jlL _
 |k+1,hk=>by
  have:=MO h k Om;have:=Qj (jjd h (show k<rs.length by omega))
  rw[uk];omega
theorem We(A:Option Addr)(n c:Nat)(rs:List jI)(w:World)(h:Rings w A n rs)(hm:(n:Int)<=9223372036854775807):
  Calls Tryz.prog 13 #[qU A n c] w λe w'=>e=.returned (.bool (JG rs))/\Over w w':=by
 have hl:=h.1;refine Jm (m:=28) (Tryz.func13) J J (lb J) ?_;refine S3 ?_;refine aX (λb1=>?_);refine N10 ?_;refine cZ (λc1=>?_) (λc1=>?_)
 .refine S6 ?_;refine jK J (.tmp J) ?_;intro w' hs;exact⟨Q4 (UY Om).symm,hs.fin⟩
 .have h40:n<=40:=Om;refine S15 ?_;refine qD (X:=Nat) (λk=>k<=n/\(rs.take k).all qM=true) (λk=>n-k) (λk=>[(3,.int .i64 ((qx rs k).length:Int)),(13,.int .i64 (k:Int))]) (kK [2,11,12]) 0 (⟨jlN _,J⟩) ⟨J,sz⟩ ?_;intro k hk L hL1;refine v9 ?_;obtain⟨hk1,hk2⟩:=hk;refine S5 ?_;refine cZ (λc2=>?_) (λc2=>?_)
  .have hlt:k<n:=Om;obtain⟨bb,oo,Ak,ck,rfl,hbB,hcell,hpts,hmax⟩:=h.at_ hlt;have hsum:=ZM (show k<=rs.length by omega) hk2
   refine S7 ?_;refine a9 (jj J J Jz J (Wv hcell hbB)) ?_;refine S1 ?_;refine aL (λb2=>?_);refine N7 ?_;refine a9 (jT Hl J J (λw1 hs=>Fe Ak _ ck (rg rs k) w1 (hpts.over hs.fin))) ?_;refine S2 ?_;refine cZ (λc3=>?_) (λc3=>?_)
   .refine S11 ?_;refine jK J (.tmp J) ?_;intro w' hs;exact⟨Q4 (Yb (show k<rs.length by omega) c3).symm,hs.fin⟩
   .have hp:=Qj c3;have he:=Ku (rg rs k) (rg rs k).length
    have hs2:(qx rs (k+1)).length=(qx rs k).length+(Jh (rg rs k)).length:=jlJ;have he':(Jh (rg rs k)).length<=(rg rs k).length:=he
    refine S6 ?_;refine J4 Ka (v:=λx=>.slice x.1 _ x.2) (r:=λx=>JV 0 72 4 _ _ x) (H:=λ_=>True) J J J (lb J) (λw1 hs=>q6 (kw Ak _ ck (rg rs k) w1 (hpts.over hs.fin) Om)) ?_;rintro⟨eA,ec⟩-;refine N10 ?_;exact J6 hL1 (k+1) (⟨by omega,HW Om hk2 c3⟩) Om ⟨vi (by rw[hs2];omega),vi Om,sz⟩ (u9 J)
  .have hkn:k=n:=Om;refine S12 ?_;refine jK J (.tmp J) ?_;intro w' hs;have ha:rs.all qM=true:=(by rw[jme Om] at hk2;exact hk2)
   exact⟨Q4 (by rw[Ua Om ha];unfold jH;rw[hl,<-hkn];exact decide_eq_decide.2 Om),hs.fin⟩
theorem Lz(b1 o1:Nat)(A:Option Addr)(n c:Nat)(rs:List jI)(w:World)(hcell:w.cell? ⟨b1,o1,none⟩=some (.slice A n c))(hb1:b1<w.heap.size)(h:Rings w A n rs)(hm:(n:Int)<=9223372036854775807):
  Calls Tryz.prog 19 #[.pointer (some ⟨b1,o1,none⟩)] w λe w'=>e=.returned (.bool (JG rs))/\Over w w':=by
 have hl:=h.1;refine Jm (m:=31) (Tryz.func19) J J (lb J) ?_;refine S10 ?_;refine a9 (jn J J JA (QZ hcell hb1)) ?_;refine S3 ?_;refine cZ (λc1=>?_) (λc1=>?_)
 .refine S6 ?_;refine jK J (.tmp J) ?_;intro w' hs;exact⟨Q4 (UY Om).symm,hs.fin⟩
 .have h40:n<=40:=Om;refine S8 ?_;refine qD (X:=Nat) (λk=>k<=n/\(rs.take k).all qM=true) (λk=>n-k) (λk=>[(3,.int .i64 (k:Int))]) (kK [0,2]) 0 (⟨jlN _,J⟩) ⟨J,sz⟩ ?_;intro k hk L hL1;refine v9 ?_;obtain⟨hk1,hk2⟩:=hk;refine S7 ?_;refine a9 (jn J J JA (QZ hcell hb1)) ?_;refine S3 ?_;refine cZ (λc2=>?_) (λc2=>?_)
  .have hlt:k<n:=Om;obtain⟨bb,oo,Ak,ck,rfl,hbB,hcl,hpts,hmax⟩:=h.at_ hlt;refine S9 ?_;refine a9 (jn J J JA (QZ hcell hb1)) ?_;refine S2 ?_;refine a9 (jT Ol J J (λw1 hs=>NA bb (oo+k*1) Ak _ ck (rg rs k) w1 (by rw[jmL];exact Ql hcl hbB w1 hs) (jlU hbB hs.fin.size) (hpts.over hs.fin))) ?_;refine S2 ?_;refine cZ (λc3=>?_) (λc3=>?_)
   .refine S10 ?_;refine jK J (.tmp J) ?_;intro w' hs;exact⟨Q4 (Yb (show k<rs.length by omega) c3).symm,hs.fin⟩
   .refine S8 ?_;exact J6 hL1 (k+1) (⟨by omega,HW Om hk2 c3⟩) Om ⟨vi Om,sz⟩ (u9 J)
  .have hkn:k=n:=Om;have ha:rs.all qM=true:=(by rw[jme Om] at hk2;exact hk2)
   have hsm:=MO ha rs.length (jlL _);have htot:(total rs:Int)<=1048577:=(by unfold total;omega)
   have hal:=ZM (rs:=rs) (k:=rs.length) (jlL _) (by rw[jms];exact ha);refine S9 ?_;refine J4 wu (v:=λx=>.slice x.1 _ x.2) (r:=λx=>JV 0 101 4 _ _ x) (H:=λ_=>True) J J J (lb J) (λw1 hs=>q6 ((X4 b1 o1 A n c rs w1 (Ql hcell hb1 w1 hs) (jlU hb1 hs.fin.size) (h.over hs.fin) htot).mono λe w' ⟨v,h1,_,h2,h3⟩=>⟨v,h1,h2,h3⟩)) ?_;rintro⟨eA,ec⟩-;refine N5 ?_;refine jK J (.tmp J) ?_;intro w' hs;exact⟨Q4 (by rw[Ua Om ha];exact decide_eq_decide.2 Om),hs.fin⟩
def W3(xs:List Pn)(k:Nat):List Pn:=(qI xs k).map lA
def vx(xs:List Pn):List Pn:=W3 xs xs.length
theorem R4:∀{es:List (Pn×Pn)} {p q:Pn},Lk es p->Lk (es++[(p,q)]) q
 |[],_,_,_=>rfl
 |[e],p,q,h=>⟨h,rfl⟩
 |e::f::l,p,q,h=>⟨h.1,R4 (es:=f::l) h.2⟩
def CR(l:Leg):Pn×Pn:=(lA l,lB l)
theorem T8{xs:List Pn}:∀k,k<xs.length->Lk ((qI xs k).map CR) (pt xs k)/\((qI xs k)=[]->pt xs k=pt xs 0)/\(∀e,((qI xs k).map CR).head?=some e->e.1=pt xs 0)
 |0,_=>⟨trivial,λ_=>rfl,λe h=>by cases h⟩
 |k+1,hk=>by
  obtain⟨h1,h2,h3⟩:=T8 (xs:=xs) k Om;have hn:nx xs k=k+1:=jm0 hk
  rw[K7];split
  .rename_i h;have e:pt xs k=pt xs (k+1):=by rw[hn] at h;exact Prod.ext h.1 h.2
   exact⟨e▸h1,λh'=>e▸h2 h',h3⟩
  .rw[jma,hn];refine⟨R4 h1,λh'=>by simp at h',λe he=>?_⟩;cases hE:qI xs k with
   |nil=>
    rw[hE] at he;have:(pt xs k,pt xs (k+1))=e:=Option.some.inj he
    rw[<-this];exact h2 hE
   |cons a l=>
    rw[hE] at he h3;exact h3 e (by simpa using he)
theorem F9(h0:0<xs.length):Lk ((Jh xs).map CR) (pt xs 0)/\∀e,((Jh xs).map CR).head?=some e->e.1=pt xs 0:=by
 obtain⟨m,hm⟩:∃m,xs.length=m+1:=⟨xs.length-1,by omega⟩;obtain⟨h1,h2,h3⟩:=T8 (xs:=xs) m Om;have hn:nx xs m=0:=by unfold nx;rw[hm,jnD]
 unfold Jh;rw[hm,K7];split
 .rename_i h;have e:pt xs m=pt xs 0:=by rw[hn] at h;exact Prod.ext h.1 h.2
  exact⟨e▸h1,h3⟩
 .rw[jma,hn];refine⟨R4 h1,λe he=>?_⟩;cases hE:qI xs m with
  |nil=>
   rw[hE] at he;have:(pt xs m,pt xs 0)=e:=Option.some.inj he
   rw[<-this];exact h2 hE
  |cons a l=>
   rw[hE] at he h3;exact h3 e (by simpa using he)
theorem jeN:∀{es:List (Pn×Pn)} {z:Pn},Lk es z->(∀i (h:i+1<es.length),(es[i]'(by omega)).2=es[i+1].1)/\(∀h:0<es.length,(es[es.length-1]'(by omega)).2=z)
 |[],_,_=>⟨λi h=>absurd h (by simp),λh=>absurd h (by simp)⟩
 |[e],z,hl=>⟨λi h=>absurd h (by simp),λ_=>hl⟩
 |e::f::l,z,hl=>by
  obtain⟨g1,g2⟩:=jeN (es:=f::l) hl.2;refine⟨λi h=>?_,λ_=>?_⟩
  .cases i with
   |zero=>exact hl.1
   |succ i=>have:=g1 i (by simpa using h);simpa using this
  .have:=g2 (by simp);simpa using this
theorem jgS{z:Pn}(h1:Lk es z)(h2:∀e,es.head?=some e->e.1=z)(hall:∀d∈es,d.1≠d.2)(hk:0<es.length):bare (es.map (·.1)):=by
 obtain⟨g1,g2⟩:=jeN h1;have hp:∀j (hj:j<es.length),pt (es.map (·.1)) j=es[j].1:=λj hj=>by
  rw[<-KO (by simpa using hj)];simp
 refine⟨by simpa using hk,λj hj=>?_⟩;rw[jlV] at hj;rw[hp j hj];by_cases hj1:j+1<es.length
 .rw[show nx (es.map (·.1)) j=j+1 from jm0 (by simpa using hj1),hp _ hj1,<-g1 j hj1];exact hall _ (jlY _)
 .have hjn:j+1=es.length:=by omega
  rw[show nx (es.map (·.1)) j=0 by unfold nx;rw[jlV,hjn,jnD],hp 0 hk];have hz:(es[0]'hk).1=z:=h2 _ (by cases es with|nil=>simp at hk|cons a l=>rfl)
  rw[hz,<-g2 hk];have:es.length-1=j:=by omega
  simp only[this];exact hall _ (jlY _)
theorem Ii(h0:0<xs.length)(hk:0<(vx xs).length):bare (vx xs):=by
 obtain⟨h1,h2⟩:=F9 h0;have hne:=zw xs xs.length
 have hne':∀l∈Jh xs,lA l≠lB l:=hne;have e:vx xs=((Jh xs).map CR).map (·.1):=by unfold vx W3 Jh;rw[jni];rfl
 have hall:∀d∈(Jh xs).map CR,d.1≠d.2:=λd hd=>by
  obtain⟨l,hl,rfl⟩:=jlR.1 hd;exact hne' l hl
 rw[e] at hk⊢;rw[jlV] at hk;exact jgS h1 h2 hall hk
def vR(rs:List jI)(k:Nat):List jI:=((rs.take k).map vx).filter λr=>decide (0<r.length)
def ql(rs:List jI):List jI:=vR rs rs.length
theorem zk(hk:k<rs.length)(h:0<(vx (rg rs k)).length):vR rs (k+1)=vR rs k++[vx (rg rs k)]:=by
 unfold vR;rw[WQ hk,jma,jnh];simp[h]
theorem xI(hk:k<rs.length)(h:¬0<(vx (rg rs k)).length):vR rs (k+1)=vR rs k:=by
 unfold vR;rw[WQ hk,jma,jnh];have:(vx (rg rs k)).length=0:=by omega
 simp[jmh this]
theorem XM(rs:List jI)(k:Nat):(vR rs k).length<=rs.length:=by
 unfold vR;refine jmC (jnq _ _) ?_;rw[jlV,jl3];omega
theorem XN{r:jI}(h:r∈vR rs k):0<r.length/\∃q∈rs,vx q=r:=by
 unfold vR at h;rw[jmx] at h;obtain⟨q,hq,e⟩:=jlR.1 h.1;exact⟨by simpa using h.2,q,jmp hq,e⟩
theorem Nr(xs:List Pn)(k:Nat):(W3 xs k).length<=k:=by
 unfold W3;rw[jlV];exact Ku xs k
theorem BI(h:pt xs k≠pt xs (nx xs k)):W3 xs (k+1)=W3 xs k++[pt xs k]:=by
 unfold W3;rw[K7,if_neg (λe=>h (Prod.ext e.1 e.2)),jma];rfl
theorem Ih(h:pt xs k=pt xs (nx xs k)):W3 xs (k+1)=W3 xs k:=by
 unfold W3;simp only[pt] at h;injection h with h1 h2
 rw[K7,if_pos ⟨h1,h2⟩]
end Go.Proofs.YtjbahemkhphndaaGreat
