import Derived.Test.YtjbahemkhphndaaGreatNCross
import Derived.Test.YtjbahemkhphndaaGreatNEnds
import Derived.Test.YtjbahemkhphndaaGreatNOwn
set_option linter.unusedVariables false
set_option linter.unusedSimpArgs false
namespace Go.Proofs.YtjbahemkhphndaaGreat
open Go Go.RowKit
variable{V d f lo u u':Int}{a b g:Pn}{s x:Sp}
def ku(s x:Sp):Prop:=x.hn*s.ld<s.ln*x.hd\/(x.hn*s.ld=s.ln*x.hd/\(s.lc=false\/x.hc=false))
theorem jhM(h:Vh s=false):ku s s:=by
 simp only[Vh,Bool.or_eq_false_iff,jnn,decide_eq_false_iff_not] at h;unfold ku;by_cases e:s.ln*s.hd-s.hn*s.ld=0
 .refine .inr ⟨by omega,?_⟩;rcases h.2 with(h2|h2)|h2
  .exact absurd e h2
  .exact .inl h2
  .exact .inr h2
 .exact .inl Om
theorem jhB(s x:Sp):((J7 s x).ln=s.ln/\(J7 s x).ld=s.ld/\(J7 s x).lc=s.lc)\/((J7 s x).ln=x.ln/\(J7 s x).ld=x.ld/\(J7 s x).lc=x.lc):=by
 unfold J7 kH q5
 repeat' split
 all_goals simp
theorem jeo(s x:Sp):((J7 s x).hn=s.hn/\(J7 s x).hd=s.hd/\(J7 s x).hc=s.hc)\/((J7 s x).hn=x.hn/\(J7 s x).hd=x.hd/\(J7 s x).hc=x.hc):=by
 unfold J7 kH q5
 repeat' split
 all_goals simp
theorem jau{y:Sp}(h:ku (J7 s x) y):ku s y\/ku x y:=by
 unfold ku at*;rcases jhB s x with⟨e1,e2,e3⟩|⟨e1,e2,e3⟩<;>rw[e1,e2,e3] at h
 .exact .inl h
 .exact .inr h
theorem Ha{y:Sp}(h:ku y (J7 s x)):ku y s\/ku y x:=by
 unfold ku at*;rcases jeo s x with⟨e1,e2,e3⟩|⟨e1,e2,e3⟩<;>rw[e1,e2,e3] at h
 .exact .inl h
 .exact .inr h
def DG(u u' V:Int):Sp:=⟨u,V,true,u',V,true⟩
theorem jlA(hV:0<V)(h1:u<=u')(hd:d≠0)(h:ku (DG u u' V) (Q7 f d lo)\/ku (Q7 f d lo) (DG u u' V)):
  (∀t,t=u\/t=u'->2*V<=f*V+t*d-lo*V)\/(∀t,t=u\/t=u'->f*V+t*d-lo*V<0):=by
 have e1:(lo+2-f)*V=lo*V+2*V-f*V:=by grind
 have e2:(lo-f)*V=lo*V-f*V:=by grind
 have e3:(f-lo)*V=f*V-lo*V:=by grind
 have e4:(f-lo-2)*V=f*V-lo*V-2*V:=by grind
 rcases Int.lt_or_gt_of_ne hd with hn|hp
 .have m:u'*d<=u*d:=jnb h1 Om;have e5:u* -d= -(u*d):=Int.mul_neg ..
  have e6:u'* -d= -(u'*d):=Int.mul_neg ..;unfold ku Q7 DG at h;rw[if_neg Om,if_pos hn] at h;simp only[jng,or_false,or_self,and_false,or_true,and_true] at h;rw[e3,e4,e5,e6] at h;rcases h with h|h
  .refine .inr λt ht=>?_
   rcases ht with rfl|rfl<;>omega
  .refine .inl λt ht=>?_
   rcases ht with rfl|rfl<;>omega
 .have m:u*d<=u'*d:=jlO h1 Om;unfold ku Q7 DG at h;rw[if_pos hp] at h;simp only[jng,or_false,false_or,or_self,and_false,or_true,and_true] at h;rw[e1,e2] at h;rcases h with h|h
  .refine .inl λt ht=>?_
   rcases ht with rfl|rfl<;>omega
  .refine .inr λt ht=>?_
   rcases ht with rfl|rfl<;>omega
theorem So(h:0<d):Q7 f d lo=⟨lo-f,d,true,lo+2-f,d,false⟩:=if_pos h
theorem Sn(h:d<0):Q7 f d lo=⟨f-lo-2,-d,false,f-lo,-d,true⟩:=by unfold Q7;rw[if_neg Om,if_pos h]
theorem jld{f' d' lo':Int}(hV:0<V)(hd:d≠0)(hd':d'≠0)(h:ku (Q7 f d lo) (Q7 f' d' lo')):
  ∃α β:Int,∀t b1 b2,0<=b1->b1<2*V->0<=b2->b2<2*V->0<α*(f*V+t*d-lo*V-b1)+β*(f'*V+t*d'-lo'*V-b2):=by
 have i1:∀t b1 b2:Int,-d'*(f*V+t*d-lo*V-b1)+d*(f'*V+t*d'-lo'*V-b2)=V*(d*(f'-lo')-d'*(f-lo))+d'*b1-d*b2:=λt b1 b2=>by grind
 have i2:∀t b1 b2:Int,d'*(f*V+t*d-lo*V-b1)+ -d*(f'*V+t*d'-lo'*V-b2)=V* -(d*(f'-lo')-d'*(f-lo))-d'*b1+d*b2:=λt b1 b2=>by grind
 have e1:(lo'+2-f')*d=2*d-d*(f'-lo'):=by grind
 have e2:(lo-f)*d'= -(d'*(f-lo)):=by grind
 have e3:(f'-lo')*d=d*(f'-lo'):=by grind
 have e4:(lo-f)* -d'=d'*(f-lo):=by grind
 have e5:(lo'+2-f')* -d=d*(f'-lo')-2*d:=by grind
 have e6:(f-lo-2)*d'=d'*(f-lo)-2*d':=by grind
 have e7:(f'-lo')* -d= -(d*(f'-lo')):=by grind
 have e8:(f-lo-2)* -d'=2*d'-d'*(f-lo):=by grind
 rcases Int.lt_or_gt_of_ne hd with hn|hp<;>rcases Int.lt_or_gt_of_ne hd' with hn'|hp'
 .refine⟨-d',d,λt b1 b2 g1 g2 g3 g4=>?_⟩;rw[i1];rw[Sn hn,Sn hn',ku] at h;simp only[true_or,and_true] at h;rw[e7,e8] at h;have m:=jmr (show-(2*d')<=d*(f'-lo')-d'*(f-lo) by omega) (show 0<=V by omega)
  have m1:=jmj (show 0< -d' by omega) (show 0<2*V-b1 by omega);have m2:=jl2 (show 0≤-d by omega) g3
  have k1:V* -(2*d')= -d'*(2*V-b1)+ -(d'*b1):=by grind
  have k2: -d*b2= -(d*b2):=jnz ..;omega
 .refine⟨d',-d,λt b1 b2 g1 g2 g3 g4=>?_⟩;rw[i2];rw[Sn hn,So hp',ku] at h;simp only[true_or,and_true] at h;rw[e5,e6] at h;have m:=jmr (show 2*d'-2*d≤-(d*(f'-lo')-d'*(f-lo)) by omega) (show 0<=V by omega)
  have m1:=jmj hp' (show 0<2*V-b1 by omega);have m2:=jmj (show 0< -d by omega) (show 0<2*V-b2 by omega)
  have k1:V*(2*d'-2*d)=d'*(2*V-b1)+ -d*(2*V-b2)+d'*b1-d*b2:=by grind
  omega
 .refine⟨d',-d,λt b1 b2 g1 g2 g3 g4=>?_⟩;rw[i2];rw[So hp,Sn hn',ku] at h;simp only[jng,or_self,and_false,or_false] at h;rw[e3,e4] at h;have m:=jmj hV (show 0< -(d*(f'-lo')-d'*(f-lo)) by omega)
  have m1:=jl2 (show 0≤-d' by omega) g1;have m2:=jl2 (show 0<=d by omega) g3
  have k2: -d'*b1= -(d'*b1):=jnz ..;omega
 .refine⟨-d',d,λt b1 b2 g1 g2 g3 g4=>?_⟩;rw[i1];rw[So hp,So hp',ku] at h;simp only[jng,false_or,and_true] at h;rw[e1,e2] at h;have m:=jmr (show 2*d<=d*(f'-lo')-d'*(f-lo) by omega) (show 0<=V by omega)
  have m1:=jmj hp (show 0<2*V-b2 by omega);have m2:=jl2 (show 0<=d' by omega) g1
  have k1:V*(2*d)=d*(2*V-b2)+d*b2:=by grind
  omega
def sc(a b:Pn)(u v:Int):Pn:=(2*a.1*v+u*(2*(b.1-a.1)),2*a.2*v+u*(2*(b.2-a.2)))
def Lw(V:Int)(g Y:Pn):Prop:=((2*g.1-1)*V<=Y.1/\Y.1<(2*g.1-1+2)*V)/\(2*g.2-1)*V<=Y.2/\Y.2<(2*g.2-1+2)*V
theorem Vw{p:Pn}{v:Int}:wR a b p u v↔Lw v p (sc a b u v):=Iff.rfl
def O6(a b g:Pn)(V u u':Int):Prop:=∀t v,0<v->u*v<=t*V->t*V<=u'*v->¬wR a b g t v
def Sep(V:Int)(g X X':Pn):Prop:=∃α β:Int,∀Z:Pn,Z=X\/Z=X'->∀b1 b2,0<=b1->b1<2*V->0<=b2->b2<2*V->0<α*(Z.1-(2*g.1-1)*V-b1)+β*(Z.2-(2*g.2-1)*V-b2)
theorem jbo(hx:0<x.hd)(hV:0<V)(h0:0<=u)(h:ku ux x):ku (DG u u' V) x:=by
 unfold ku ux at h;unfold ku DG;simp only[jnk,jmz,jng,false_or] at h⊢;have m:=jl2 h0 (show 0<=x.hd by omega)
 rcases h with h|⟨h,hc⟩
 .have:=jmD h hV;exact .inl Om
 .rw[h,jmz];by_cases k:u*x.hd=0
  .exact .inr ⟨k.symm,hc⟩
  .exact .inl Om
theorem PN(hx:0<x.ld)(hV:0<V)(h1:u'<=V)(h:ku x ux):ku x (DG u u' V):=by
 unfold ku ux at h;unfold ku DG;simp only[jnk,jnK,jng,or_false] at h⊢;have m:=jlO h1 (show 0<=x.ld by omega)
 rcases h with h|⟨h,hc⟩
 .have:=jl6 h hV;rw[jmn x.ld V] at this;exact .inl Om
 .rw[<-h];rw[jmn V x.ld] at m;by_cases k:u'*x.ld=x.ld*V
  .exact .inr ⟨k,hc⟩
  .exact .inl Om
theorem IH :¬ku (Q7 f d lo) (Q7 f d lo):=by
 rcases jmv d 0 with h|h|h
 .unfold Q7 ku;rw[if_neg Om,if_pos h];simp only[true_or,and_true];have e:(f-lo-2)* -d=(f-lo)* -d-2* -d:=by grind
  omega
 .subst h;rw[wH];unfold ku ux;simp
 .unfold Q7 ku;rw[if_pos h];simp only[jng,or_true,and_true];have e:(lo+2-f)*d=(lo-f)*d+2*d:=by grind
  omega
theorem jbe(hV:0<V)(h0:0<=u)(h1:u<=u')(h2:u'<=V)(h:va f d lo=false\/ku (DG u u' V) (Q7 f d lo)\/ku (Q7 f d lo) (DG u u' V)):
  (∀t,t=u\/t=u'->2*V<=f*V+t*d-lo*V)\/(∀t,t=u\/t=u'->f*V+t*d-lo*V<0):=by
 by_cases hd:d=0
 .subst hd;rw[wH] at h;have hk:va f 0 lo=false:=by
   rcases h with h|h|h
   .exact h
   .unfold ku DG ux at h;simp at h;omega
   .unfold ku DG ux at h;simp at h;omega
  unfold va at hk;simp only[decide_true,Bool.not_true,Bool.false_or,jnn,decide_eq_false_iff_not] at hk;rcases hk with hk|hk
  .refine .inr λt _=>?_
   have:=jl6 (show f<lo by omega) hV;omega
  .refine .inl λt _=>?_
   have:=jlO (show lo+2<=f by omega) (show 0<=V by omega);have e:(lo+2)*V=lo*V+2*V:=by grind
   omega
 .rcases h with h|h
  .unfold va at h;rw[decide_eq_false hd] at h;cases h
  .exact jlA hV h1 hd h
theorem jlB(h:(∀t,t=u\/t=u'->2*V<=2*a.1*V+t*(2*(b.1-a.1))-(2*g.1-1)*V)\/(∀t,t=u\/t=u'->2*a.1*V+t*(2*(b.1-a.1))-(2*g.1-1)*V<0)):Sep V g (sc a b u V) (sc a b u' V):=by
 rcases h with h|h
 .refine⟨1,0,λZ hZ b1 b2 g1 g2 g3 g4=>?_⟩;rw[jnK,jmz];rcases hZ with rfl|rfl
  .have:=h u (.inl rfl);simp only[sc];omega
  .have:=h u' (.inr rfl);simp only[sc];omega
 .refine⟨-1,0,λZ hZ b1 b2 g1 g2 g3 g4=>?_⟩;rw[jmz];rcases hZ with rfl|rfl
  .have:=h u (.inl rfl);simp only[sc];omega
  .have:=h u' (.inr rfl);simp only[sc];omega
theorem jlC(h:(∀t,t=u\/t=u'->2*V<=2*a.2*V+t*(2*(b.2-a.2))-(2*g.2-1)*V)\/(∀t,t=u\/t=u'->2*a.2*V+t*(2*(b.2-a.2))-(2*g.2-1)*V<0)):Sep V g (sc a b u V) (sc a b u' V):=by
 rcases h with h|h
 .refine⟨0,1,λZ hZ b1 b2 g1 g2 g3 g4=>?_⟩;rw[jnK,jmz];rcases hZ with rfl|rfl
  .have:=h u (.inl rfl);simp only[sc];omega
  .have:=h u' (.inr rfl);simp only[sc];omega
 .refine⟨0,-1,λZ hZ b1 b2 g1 g2 g3 g4=>?_⟩;rw[jmz];rcases hZ with rfl|rfl
  .have:=h u (.inl rfl);simp only[sc];omega
  .have:=h u' (.inr rfl);simp only[sc];omega
theorem Hg(hV:0<V)(h0:0<=u)(h1:u<=u')(h2:u'<=V)(h:O6 a b g V u u'):Sep V g (sc a b u V) (sc a b u' V):=by
 generalize ef:2*a.1=f;generalize ed:2*(b.1-a.1)=d;generalize el:2*g.1-1=lo;generalize ef':2*a.2=f';generalize ed':2*(b.2-a.2)=d';generalize el':2*g.2-1=lo';have hX:(va f d lo=false\/ku (DG u u' V) (Q7 f d lo)\/ku (Q7 f d lo) (DG u u' V))->Sep V g (sc a b u V) (sc a b u' V):=λh=>jlB (by rw[ef,ed,el];exact jbe hV h0 h1 h2 h)
 have hY:(va f' d' lo'=false\/ku (DG u u' V) (Q7 f' d' lo')\/ku (Q7 f' d' lo') (DG u u' V))->Sep V g (sc a b u V) (sc a b u' V):=λh=>jlC (by rw[ef',ed',el'];exact jbe hV h0 h1 h2 h)
 by_cases k1:va f d lo=false
 .exact hX (.inl k1)
 by_cases k2:va f' d' lo'=false
 .exact hY (.inl k2)
 simp only[Bool.not_eq_false] at k1 k2;have pK:0<(DG u u' V).ld/\0<(DG u u' V).hd:=⟨hV,hV⟩
 have pX:=Kx f d lo;have pY:=Kx f' d' lo'
 have hno:Vh (J7 (J7 (DG u u' V) (Q7 f d lo)) (Q7 f' d' lo'))=false:=by
  rcases Bool.eq_false_or_eq_true (Vh (J7 (J7 (DG u u' V) (Q7 f d lo)) (Q7 f' d' lo'))) with e|e
  .exfalso;obtain⟨t,v,hv,hm⟩:=OG (vq (vq pK pX) pY) e;rw[YQ (vq pK pX) pY hv,YQ pK pX hv] at hm;have g1:u*v<=t*V:=hm.1.1.1.le
   have g2:t*V<=u'*v:=hm.1.1.2.le;have t0:0<=t:=by
    refine jmS.1 λk=>?_
    have:=jmD k hV;have:=jl2 h0 (show 0<=v by omega)
    omega
   have t1:t<=v:=by
    have k1:=jlO h2 (show 0<=v by omega);have k2:t*V<=v*V:=by rw[jmn v V];omega
    exact jmk k2 hV
   refine h t v hv g1 g2 ?_;unfold wR;rw[ef,ed,el,ef',ed',el'];exact⟨(y7 hv t0 t1).1 ⟨k1,hm.1.2⟩,(y7 hv t0 t1).1 ⟨k2,hm.2⟩⟩
  .exact e
 have hKK:¬ku (DG u u' V) (DG u u' V):=by
  unfold ku DG;simp only[jng,or_self,and_false,or_false];have:=jlO h1 (show 0<=V by omega)
  omega
 have hXY:ku (Q7 f d lo) (Q7 f' d' lo')->Sep V g (sc a b u V) (sc a b u' V):=λk=>by
  by_cases z:d=0
  .subst z;rw[wH] at k;exact hY (.inr (.inl (jbo pY.2 hV h0 k)))
  .by_cases z':d'=0
   .subst z';rw[wH] at k;exact hX (.inr (.inr (PN pX.1 hV h2 k)))
   .obtain⟨α,β,q⟩:=jld hV z z' k;refine⟨α,β,λZ hZ b1 b2 g1 g2 g3 g4=>?_⟩;rw[el,el'];rcases hZ with rfl|rfl
    .have:=q u b1 b2 g1 g2 g3 g4;simp only[sc];rw[ef,ed,ef',ed'];exact this
    .have:=q u' b1 b2 g1 g2 g3 g4;simp only[sc];rw[ef,ed,ef',ed'];exact this
 have hYX:ku (Q7 f' d' lo') (Q7 f d lo)->Sep V g (sc a b u V) (sc a b u' V):=λk=>by
  by_cases z:d=0
  .subst z;rw[wH] at k;exact hY (.inr (.inr (PN pY.1 hV h2 k)))
  .by_cases z':d'=0
   .subst z';rw[wH] at k;exact hX (.inr (.inl (jbo pX.2 hV h0 k)))
   .obtain⟨α,β,q⟩:=jld hV z' z k;refine⟨β,α,λZ hZ b1 b2 g1 g2 g3 g4=>?_⟩;rw[el,el'];rcases hZ with rfl|rfl
    .have:=q u b2 b1 g3 g4 g1 g2;simp only[sc];rw[ef,ed,ef',ed'];omega
    .have:=q u' b2 b1 g3 g4 g1 g2;simp only[sc];rw[ef,ed,ef',ed'];omega
 rcases jau (jhM hno) with k|k
 .rcases jau k with k|k<;>rcases Ha k with k|k
  .rcases Ha k with k|k
   .exact absurd k hKK
   .exact hX (.inr (.inl k))
  .exact hY (.inr (.inl k))
  .rcases Ha k with k|k
   .exact hX (.inr (.inr k))
   .exact absurd k IH
  .exact hXY k
 .rcases Ha k with k|k
  .rcases Ha k with k|k
   .exact hY (.inr (.inr k))
   .exact hYX k
  .exact absurd k IH
theorem HM{h h' X X' Y:Pn}(hV:0<V)(hs:Sep V g X X')(hy:Lw V g Y)(hx:Lw V h X)(hx':Lw V h' X'):
  ∃α β:Int,Hf α β (sb X Y)/\Hf α β (sb X' Y)/\Hf α β (sb h g)/\Hf α β (sb h' g):=by
 obtain⟨α,β,q⟩:=hs;have box:∀{p Z:Pn},Lw V p Z->(0<=Z.1-(2*p.1-1)*V/\Z.1-(2*p.1-1)*V<2*V)/\0<=Z.2-(2*p.2-1)*V/\Z.2-(2*p.2-1)*V<2*V:=λ{p Z} h=>by
  have e1:(2*p.1-1+2)*V=(2*p.1-1)*V+2*V:=by grind
  have e2:(2*p.2-1+2)*V=(2*p.2-1)*V+2*V:=by grind
  obtain⟨⟨h1,h2⟩,h3,h4⟩:=h;rw[e1] at h2;rw[e2] at h4;omega
 have by_:=box hy;have bx:=box hx
 have bx':=box hx';have hc:∀p:Pn,0<α*((2*p.1-1)*V-(2*g.1-1)*V)+β*((2*p.2-1)*V-(2*g.2-1)*V)->Hf α β (sb p g):=λp k=>by
  have e:α*((2*p.1-1)*V-(2*g.1-1)*V)+β*((2*p.2-1)*V-(2*g.2-1)*V)=(2*V)*(α*(p.1-g.1)+β*(p.2-g.2)):=by grind
  rw[e] at k;have s:=Kp (a:=2*V) (b:=α*(p.1-g.1)+β*(p.2-g.2)) rfl
  show 0<α*(p.1-g.1)+β*(p.2-g.2);omega
 refine⟨α,β,?_,?_,hc h ?_,hc h' ?_⟩
 .have:=q X (.inl rfl) _ _ by_.1.1 by_.1.2 by_.2.1 by_.2.2;simp only[Int.sub_sub_self,Hf,sb] at this⊢;rw[show X.1-(2*g.1-1)*V-(Y.1-(2*g.1-1)*V)=X.1-Y.1 by omega,show X.2-(2*g.2-1)*V-(Y.2-(2*g.2-1)*V)=X.2-Y.2 by omega] at this;exact this
 .have:=q X' (.inr rfl) _ _ by_.1.1 by_.1.2 by_.2.1 by_.2.2;simp only[Hf,sb] at this⊢;rw[show X'.1-(2*g.1-1)*V-(Y.1-(2*g.1-1)*V)=X'.1-Y.1 by omega,show X'.2-(2*g.2-1)*V-(Y.2-(2*g.2-1)*V)=X'.2-Y.2 by omega] at this;exact this
 .have:=q X (.inl rfl) _ _ bx.1.1 bx.1.2 bx.2.1 bx.2.2;rw[show X.1-(2*g.1-1)*V-(X.1-(2*h.1-1)*V)=(2*h.1-1)*V-(2*g.1-1)*V by omega,show X.2-(2*g.2-1)*V-(X.2-(2*h.2-1)*V)=(2*h.2-1)*V-(2*g.2-1)*V by omega] at this;exact this
 .have:=q X' (.inr rfl) _ _ bx'.1.1 bx'.1.2 bx'.2.1 bx'.2.2;rw[show X'.1-(2*g.1-1)*V-(X'.1-(2*h'.1-1)*V)=(2*h'.1-1)*V-(2*g.1-1)*V by omega,show X'.2-(2*g.2-1)*V-(X'.2-(2*h'.2-1)*V)=(2*h'.2-1)*V-(2*g.2-1)*V by omega] at this;exact this
theorem Z5{α β:Int}{P Q:Pn}(h:Hf α β (sb P Q)):Hf (-α) (-β) (sb Q P):=by
 unfold Hf sb at*;have e: -α*(Q.1-P.1)+ -β*(Q.2-P.2)=α*(P.1-Q.1)+β*(P.2-Q.2):=by grind
 simp only;rw[e];exact h
theorem C0{h h' g' X X' Y Y':Pn}(hV:0<V)(hx:Lw V h X)(hx':Lw V h' X')(hy:Lw V g Y)(hy':Lw V g' Y')(s1:Sep V g X X')(s2:Sep V g' X X')(s3:Sep V h Y Y')(s4:Sep V h' Y Y'):XA X X' Y Y'=XA h h' g g':=by
 obtain⟨α1,β1,a1,a2,a3,a4⟩:=HM hV s1 hy hx hx';obtain⟨α2,β2,b1,b2,b3,b4⟩:=HM hV s4 hx' hy hy';obtain⟨α3,β3,c1,c2,c3,c4⟩:=HM hV s2 hy' hx hx';obtain⟨α4,β4,d1,d2,d3,d4⟩:=HM hV s3 hx hy hy';have q1:=O5 a1 a2 a3 a4
 have q2:=O5 (Z5 b1) (Z5 b2) (Z5 b3) (Z5 b4);have q3:=O5 c2 c1 c4 c3
 have q4:=O5 (Z5 d2) (Z5 d1) (Z5 d4) (Z5 d3);unfold XA;omega
theorem Id{p q Z:Pn}(hV:0<V)(h:Lw V p Z)(h':Lw V q Z):p=q:=by
 have key:∀{m n z:Int},(2*n-1)*V<=z->z<(2*m-1+2)*V->¬m<n:=by
  intro m n z g1 g2 hmn;have:=jlO (show 2*m-1+2<=2*n-1 by omega) (show 0<=V by omega)
  omega
 have x1:=key h.1.1 h'.1.2;have x2:=key h'.1.1 h.1.2
 have y1:=key h.2.1 h'.2.2;have y2:=key h'.2.1 h.2.2
 exact Prod.ext Om Om
theorem jj4{X X' Y:Pn}(hne:X≠X')(h:uV X X' Y=true):∃k j:Int,0<k/\0<=j/\j<=k/\k*(Y.1-X.1)=j*(X'.1-X.1)/\k*(Y.2-X.2)=j*(X'.2-X.2):=by
 obtain⟨ht,hx,hy⟩:=KM.1 h;have ht':(X'.1-X.1)*(Y.2-X.2)=(X'.2-X.2)*(Y.1-X.1):=by simp only[tn,kU] at ht;omega
 rcases jmv X.1 X'.1 with c|c|c
 .exact⟨X'.1-X.1,Y.1-X.1,by omega,by omega,by omega,by grind,by grind⟩
 .rcases jmv X.2 X'.2 with e|e|e
  .exact⟨X'.2-X.2,Y.2-X.2,by omega,by omega,by omega,by grind,by grind⟩
  .exact absurd (Prod.ext c e) hne
  .exact⟨X.2-X'.2,X.2-Y.2,by omega,by omega,by omega,by grind,by grind⟩
 .exact⟨X.1-X'.1,X.1-Y.1,by omega,by omega,by omega,by grind,by grind⟩
theorem OK{Y:Pn}(hV:0<V)(h1:u<=u')(hne:sc a b u V≠sc a b u' V)(hm:O6 a b g V u u')(hy:Lw V g Y):uV (sc a b u V) (sc a b u' V) Y≠true:=λho=>by
 obtain⟨k,j,hk,h0,hj,e1,e2⟩:=jj4 hne ho;have m1:=jl2 h0 (show 0<=u'-u by omega)
 have m2:=jlO hj (show 0<=u'-u by omega);refine hm (u*k+j*(u'-u)) (V*k) (jmj hV hk) ?_ ?_ ?_
 .have e:(u*k+j*(u'-u))*V=u*(V*k)+j*(u'-u)*V:=by grind
  have:=jl2 m1 (show 0<=V by omega);omega
 .have e:(u*k+j*(u'-u))*V=u*(V*k)+j*(u'-u)*V:=by grind
  have e':u'*(V*k)=u*(V*k)+k*(u'-u)*V:=by grind
  have:=jlO m2 (show 0<=V by omega);omega
 .rw[Vw];have f1:(sc a b (u*k+j*(u'-u)) (V*k)).1=k*Y.1:=by
   have:k*Y.1=k*(sc a b u V).1+j*((sc a b u' V).1-(sc a b u V).1):=by grind
   rw[this];simp only[sc];grind
  have f2:(sc a b (u*k+j*(u'-u)) (V*k)).2=k*Y.2:=by
   have:k*Y.2=k*(sc a b u V).2+j*((sc a b u' V).2-(sc a b u V).2):=by grind
   rw[this];simp only[sc];grind
  unfold Lw;rw[f1,f2];obtain⟨⟨g1,g2⟩,g3,g4⟩:=hy;have r:∀x:Int,x*(V*k)=k*(x*V):=λx=>by grind
  rw[r,r,r,r];exact⟨⟨jmr g1 Om,jnG g2 hk⟩,jmr g3 Om,jnG g4 hk⟩
theorem jfi{c d h h' g':Pn}{w w':Int}(hV:0<V)(hu:0<=u/\u<=u'/\u'<=V)(hw:0<=w/\w<=w'/\w'<=V)(ih:wR a b h u V)(ih':wR a b h' u' V)(ig:wR c d g w V)(ig':wR c d g' w' V)(hne:h≠h')(hne':g≠g')(m1:O6 a b g V u u')(m2:O6 a b g' V u u')(m3:O6 c d h V w w')(m4:O6 c d h' V w w')(hs:qC (sc a b u V) (sc a b u' V) (sc c d w V) (sc c d w' V)≠true):qC h h' g g'≠true:=λhc=>by
 have nx:sc a b u V≠sc a b u' V:=λe=>hne (Id hV (Vw.1 ih) (by rw[e];exact Vw.1 ih'))
 have ny:sc c d w V≠sc c d w' V:=λe=>hne' (Id hV (Vw.1 ig) (by rw[e];exact Vw.1 ig'))
 refine NQ hc ?_;rw[<-C0 hV (Vw.1 ih) (Vw.1 ih') (Vw.1 ig) (Vw.1 ig') (Hg hV hu.1 hu.2.1 hu.2.2 m1) (Hg hV hu.1 hu.2.1 hu.2.2 m2) (Hg hV hw.1 hw.2.1 hw.2.2 m3) (Hg hV hw.1 hw.2.1 hw.2.2 m4)];exact jcn ⟨nx,ny,OK hV hu.2.1 nx m1 (Vw.1 ig),OK hV hu.2.1 nx m2 (Vw.1 ig'),OK hV hw.2.1 ny m3 (Vw.1 ih),OK hV hw.2.1 ny m4 (Vw.1 ih')⟩ hs
end Go.Proofs.YtjbahemkhphndaaGreat
