import Derived.Test.YtpncbbcmoiiipaaGreatMSnapped
import Derived.Shelf.Bits.Mul64
import Derived.Laws.BitsAllLaws
import Derived.Test.YtpncbbcmoiiipaaGreatMSimp
import Derived.Test.YtpncbbcmoiiipaaGreatMTrQ
import Derived.Test.YtpncbbcmoiiipaaGreatMTopo4
import Derived.Test.YtpncbbcmoiiipaaGreatMNetT
import Derived.Test.YtpncbbcmoiiipaaGreatMNetI
import Derived.Test.YtpncbbcmoiiipaaGreatMSnapG
import Derived.Test.YtpncbbcmoiiipaaGreatMRay2
import Derived.MapKept
set_option linter.unusedVariables false
set_option linter.unusedSimpArgs false
namespace Go.Proofs.YtpncbbcmoiiipaaGreat
open Go Go.RowKit
set_option maxRecDepth 100000
set_option maxHeartbeats 4000000
def HV (a b:Pn) :Int:= (b.1- a.1) * (b.1- a.1) + (b.2- a.2) * (b.2- a.2)
def alg (a b p:Pn) :Int:= (p.1- a.1) * (b.1- a.1) + (p.2- a.2) * (b.2- a.2)
def jct (a b p:Pn) (r:Int) :Bool:=
 if HV a p≤r*r∨HV b p≤r*r then true else if alg a b p≤0∨HV a b≤alg a b p then false else decide (tn a b p*tn a b p≤r*r*HV a b)
theorem HB (x:Int) :0≤x*x:=by
 rcases Int.le_total 0 x with h | h
 ·exact jiF h h
 ·have:=jiF (show 0≤-x by omega) (show 0≤-x by omega)
  grind
def jhD (a b p:Pn) :Int:=if a=b then HV a p else max (tn a b p) (-tn a b p)
def CF (a b:Pn) (r:Int) (xs:List (Int×Int)) :Nat→Int×Int
 | 0=> (-1,-1)
 | k+1=>if jct a b (pt xs (k+1)) r=true then CF a b r xs k else if(CF a b r xs k).2<jhD a b (pt xs (k+1)) then(((k+1:Nat) :Int),jhD a b (pt xs (k+1))) else CF a b r xs k
def far (r:Int) (xs:List (Int×Int)) :Int:= (CF (pt xs 0) (pt xs (xs.length- 1)) r xs (xs.length- 2)).1
def okPath (xs:List (Int×Int)) :Prop:=xs.length≤402∧∀p∈xs,bd2 p
theorem okPath.at_ {xs:List (Int×Int)} (h:okPath xs) {k:Nat} (hk:k<xs.length) :bd2 (pt xs k) :=by
 have:=h.2 xs[k] (jis hk)
 rwa [yg hk] at this
theorem okPath.take {xs:List (Int×Int)} (h:okPath xs) (k:Nat) :okPath (xs.take k) :=⟨by rw [jiy];have:=h.1;omega,fun p hp=>h.2 p (jiZ hp)⟩
theorem okPath.drop {xs:List (Int×Int)} (h:okPath xs) (k:Nat) :okPath (xs.drop k) :=⟨by rw [jiI];have:=h.1;omega,fun p hp=>h.2 p (ji8 hp)⟩
section
variable {n:Nat} {env:List (Nat×Value)} {w0:Bs} {Rs:List Res} {K:Act→World→Prop}
end
end Go.Proofs.YtpncbbcmoiiipaaGreat
namespace Go.Proofs.YtpncbbcmoiiipaaGreat
open Go Go.RowKit
def LN (α β:Int) (p x:Pn) :Int:=α* (x.1- p.1) +β* (x.2- p.2)
theorem sep {a b p:Pn} {r:Int} (hr:0≤r) (h:jct a b p r=false) :∃α β m:Int,0<m∧r*r* (α*α+β*β) <m*m∧m≤LN α β p a∧m≤LN α β p b:=by
 have hrr:=HB r
 unfold jct at h
 split at h
 ·cases h
 ·rename_i h1
  have h1a:r*r<HV a p:=Int.not_le.1 fun k=>h1 (.inl k)
  have h1b:r*r<HV b p:=Int.not_le.1 fun k=>h1 (.inr k)
  split at h
  ·rename_i h2
   rcases h2 with h2 | h2
   ·refine⟨a.1- p.1,a.2- p.2,HV a p,by omega,?_,?_,?_⟩
    ·have e: (a.1- p.1) * (a.1- p.1) + (a.2- p.2) * (a.2- p.2) =HV a p:=by unfold HV;grind
     rw [e]
     exact jiz h1a Om
    ·exact jjX (by unfold HV LN;grind)
    ·have e:LN (a.1- p.1) (a.2- p.2) p b=HV a p- alg a b p:=by unfold LN HV alg;grind
     omega
   ·refine⟨b.1- p.1,b.2- p.2,HV b p,by omega,?_,?_,?_⟩
    ·have e: (b.1- p.1) * (b.1- p.1) + (b.2- p.2) * (b.2- p.2) =HV b p:=by unfold HV;grind
     rw [e]
     exact jiz h1b Om
    ·have e:LN (b.1- p.1) (b.2- p.2) p a=HV b p+ (alg a b p- HV a b) :=by unfold LN HV alg;grind
     omega
    ·exact jjX (by unfold HV LN;grind)
  ·have h3:r*r*HV a b<tn a b p*tn a b p:=by simpa using h
   have hd:0≤HV a b:=by
    unfold HV
    have:=HB (b.1- a.1)
    have:=HB (b.2- a.2)
    omega
   have key:∀s:Int,s*s=1→0<s*tn a b p→∃α β m:Int,0<m∧r*r* (α*α+β*β) <m*m∧m≤LN α β p a∧m≤LN α β p b:=fun s hs hp=>by
    refine⟨s* (b.2- a.2),s* (a.1- b.1),s*tn a b p,hp,?_,?_,?_⟩
    ·have e1:s* (b.2- a.2) * (s* (b.2- a.2)) +s* (a.1- b.1) * (s* (a.1- b.1)) =s*s*HV a b:=by unfold HV;grind
     have e2:s*tn a b p* (s*tn a b p) =s*s* (tn a b p*tn a b p) :=by grind
     rw [e1,e2,hs,Int.one_mul,Int.one_mul]
     exact h3
    ·exact jjX (by simp only [LN,tn,Q8];grind)
    ·exact jjX (by simp only [LN,tn,Q8];grind)
   have h0:0≤r*r*HV a b:=jiF hrr hd
   rcases ji1 (tn a b p) 0 with ht | ht | ht
   ·exact key (-1) rfl Om
   ·rw [ht] at h3;omega
   ·exact key 1 rfl Om
theorem jcM {es:List (Pn×Pn)} {z:Pn} (h1:Lk es z) (h2:∀e,es.head?=some e→e.1=z) :KK (es.map (·.1)) =es:=by
 obtain ⟨g1,g2⟩ :=jca h1
 have hp:∀j (hj:j<es.length),pt (es.map (·.1)) j=es[j].1:=fun j hj=>by
  rw [←Kk (by simpa using hj)]
  simp
 refine jjz (by simp [KK]) fun j hj hj'=> ?_
 simp only [KK,jjs,jjU]
 refine Prod.ext (hp j hj') ?_
 show pt (es.map (·.1)) (nx (es.map (·.1)) j) =_
 by_cases hj1:j+1<es.length
 ·rw [show nx (es.map (·.1)) j=j+1 from jjx (by simpa using hj1),hp _ hj1,←g1 j hj1]
 ·have hk:0<es.length:=by omega
  rw [show nx (es.map (·.1)) j=0 by unfold nx;rw [jit,show j+1=es.length by omega,jj3],hp 0 hk]
  have hz: (es[0]'hk).1=z:=h2 _ (by cases es with | nil=>simp at hk | cons a l=>rfl)
  have:es.length- 1=j:=by omega
  rw [hz,←g2 hk]
  simp only [this]
theorem xr {xs:List Pn} (h0:0<xs.length) (hk:0< (Q3 xs).length) :J0 (Q3 xs) =J0 xs:=by
 obtain ⟨h1,h2⟩ :=Dw h0
 have e:Q3 xs= ((J0 xs).map Nn).map (·.1) :=by rw [jj1];rfl
 rw [kz (ZA h0 hk),e,jcM h1 h2,jj1]
 conv=>rhs;rw [←List.map_id (J0 xs)]
 rfl
theorem Df (rs ss:List jV) :∀k,k≤rs.length→qJ (rs++ss) k=qJ rs k
 | 0,_=>rfl
 | k+1,hk=>by
  show qJ (rs++ss) k++J0 (rg (rs++ss) k) =qJ rs k++J0 (rg rs k)
  rw [Df rs ss k Om]
  congr 2
  simp only [rg,List.getD_eq_getElem?_getD,List.getElem?_append_left (show k<rs.length by omega)]
theorem MD (rs ss:List jV) :∀k,qJ (rs++ss) (rs.length+k) =jE rs++qJ ss k
 | 0=>by
  rw [jj2,Df rs ss _ (jih _)]
  exact(jiG _).symm
 | k+1=>by
  show qJ (rs++ss) (rs.length+k) ++J0 (rg (rs++ss) (rs.length+k)) =jE rs++ (qJ ss k++J0 (rg ss k))
  rw [MD rs ss k,jil]
  congr 3
  simp only [rg,List.getD_eq_getElem?_getD,List.getElem?_append_right (Nat.le_add_right _ _),Nat.add_sub_cancel_left]
theorem Um (rs ss:List jV) :jE (rs++ss) =jE rs++jE ss:=by
 unfold jE
 rw [jif]
 exact MD rs ss _
theorem Xl (r:jV) :jE [r] =J0 r:=rfl
theorem x7 {rs:List jV} (hr:JE rs=true) :∀k,k≤rs.length→jE (vf rs k) =qJ rs k
 | 0,_=>rfl
 | k+1,hk=>by
  have ih:=x7 hr k Om
  have hp:=Qf (Km hr (show k<rs.length by omega))
  show _=qJ rs k++J0 (rg rs k)
  by_cases h:0< (Q3 (rg rs k)).length
  ·rw [Yk Om h,Um,ih,Xl,xr hp.1 h]
  ·rw [Zs Om h,ih]
   have e: (J0 (rg rs k)).length= (Q3 (rg rs k)).length:= (jit ..).symm
   rw [jiQ (show(J0 (rg rs k)).length=0 by omega),jiG]
theorem vp {rs:List jV} (hr:JE rs=true) :jE (J8 rs) =jE rs:=x7 hr _ (jih _)
theorem jeB {r:List Pn} (h:bare r) :Q3 r=r:=by
 show(J0 r).map lA=r
 rw [kz h,jj1]
 exact Wu r
theorem Ei {ss:List jV} (h:∀r∈ss,bare r) :J8 ss=ss:=by
 unfold J8 vf
 rw [jiX]
 have e:ss.map Q3=ss:=by
  refine(List.map_congr_left (fun r hr=>jeB (h r hr))).trans ?_
  simp
 rw [e]
 exact List.filter_eq_self.2 fun r hr=>decide_eq_true (h r hr).1
theorem PN {E:List Leg} (hx:NoX E) {p:Pn} :∀i,i≤E.length→p∈U0 E i→∃k,k<i∧(p=lA (lg E k)∨p=lB (lg E k))
 | 0,_,h=>by simp [U0] at h
 | i+1,hi,h=>by
  have hcz:∀k,k≤i→p∉cz E i k:=fun k=>by
   induction k with
   | zero=>intro _ h;simp [cz] at h
   | succ k ih=>
    intro hk h
    rw [cz] at h
    rcases jiv.1 h with h | h
    ·exact ih Om h
    ·split at h
     ·rename_i h2
      exact hx _ (by rw [xx (show i<E.length by omega)];exact jis _) _ (by rw [xx (show k<E.length by omega)];exact jis _) (Ia h2)
     ·cases h
  simp only [U0,jiv,jir,ji3,or_false] at h
  rcases h with(h | h) | h
  ·obtain ⟨k,hk,e⟩ :=PN hx i Om h
   exact⟨k,by omega,e⟩
  ·exact⟨i,by omega,h⟩
  ·exact absurd h (hcz i (jih _))
def BG:List Pn→List Leg
 | a::b::l=>mkL (a,b) ::BG (b::l)
 | _=> []
theorem FB:∀(u:List Pn) (a:Pn) (v:List Pn),BG (u++a::v) =BG (u++ [a]) ++BG (a::v)
 | [],a,v=>by simp [BG]
 | [x],a,v=>by simp [BG]
 | x::y::u,a,v=>by
  have:=FB (y::u) a v
  simp only [jiJ,BG] at this⊢
  rw [this]
theorem Py:∀l:List Pn,BG l.reverse= ((BG l).map Qn).reverse
 | [] =>rfl
 | [_] =>rfl
 | a::b::t=>by
  have ih:=Py (b::t)
  have e1: (a::b::t).reverse=t.reverse++b:: [a] :=by simp
  have e2: (b::t).reverse=t.reverse++ [b] :=by simp
  rw [e1,FB,←e2,ih]
  simp only [BG,jiA,List.reverse_cons]
  rfl
theorem jbk:∀ {es:List (Pn×Pn)} {z:Pn},Lk es z→BG (es.map (·.1) ++ [z]) =es.map mkL
 | [],_,_=>rfl
 | [e],z,h=>by
  have h:e.2=z:=h
  subst h
  rfl
 | e::f::l,z,h=>by
  have h:e.2=f.1∧Lk (f::l) z:=h
  have:=jbk h.2
  show mkL (e.1,f.1) ::BG ((f::l).map (·.1) ++ [z]) =mkL (e.1,e.2) :: (f::l).map mkL
  rw [this,h.1]
theorem RA {hot:List Pn} :∀ {es:List (Pn×Pn)} {z:Pn},Lk es z→(∀d∈es,d.1≠d.2∧d.1∈hot∧d.2∈hot)→BG (es.flatMap (Qs hot) ++ [z]) =es.flatMap fun d=>BG (Qs hot d++ [d.2])
 | [],_,_,_=>rfl
 | [e],z,h,_=>by
  have h:e.2=z:=h
  subst h
  simp
 | e::f::l,z,h,ho=>by
  have h:e.2=f.1∧Lk (f::l) z:=h
  have ih:=RA h.2 (fun d hd=>ho d (jiq _ hd))
  obtain ⟨rest,er⟩ :=Zy (l:=l) (ho f (by simp))
  show BG ((Qs hot e++ (f::l).flatMap (Qs hot)) ++ [z]) =BG (Qs hot e++ [e.2]) ++ (f::l).flatMap fun d=>BG (Qs hot d++ [d.2])
  rw [←ih,er,jil,jiJ,FB,h.1]
theorem jd0 {xs:List Pn} (hb:bare xs) :J0 xs=BG (xs++ [pt xs 0]) :=by
 have h:=jbk (XZ (xs:=xs))
 rw [Wu] at h
 rw [kz hb,h]
theorem O0 {hot xs:List Pn} (hnd:hot.Nodup) (hb:bare xs) (hm:∀p∈xs,p∈hot) :J0 (kU hot xs) = (J0 xs).flatMap fun e=>BG (qD (lA e) (lB e) hot) :=by
 have hok:=yY hb hm
 have hb2:= (Ux hnd hb hm).1
 rw [jd0 hb2,uM hb]
 have hz:pt ((KK xs).flatMap (Qs hot)) 0=pt xs 0:=by
  have h0:=hb.1
  cases hp:KK xs with
  | nil=>have:=congrArg List.length hp;rw [Wv,jiH] at this;omega
  | cons e l=>
   obtain ⟨rest,er⟩ :=Zy (l:=l) (hok e (by rw [hp];simp))
   rw [er]
   have:xs= (KK xs).map (·.1) := (Wu xs).symm
   rw [this,hp]
   rfl
 rw [hz,RA XZ hok,kz hb,List.flatMap_map]
 refine congrArg List.flatten (List.map_congr_left fun d hd=> ?_)
 obtain ⟨mid,h1,h2⟩ :=VW (hok d hd)
 show _=BG (qD d.1 d.2 hot)
 rw [h2]
structure Rv (r s:List Pn) :Prop where
 br:bare r
 bs:bare s
 pm: (J0 s).Perm ((J0 r).map Qn)
theorem Dy {α β:Type} {f g:α→List β} :∀ {l:List α},(∀a∈l,(f a).Perm (g a))→(l.flatMap f).Perm (l.flatMap g)
 | [],_=>List.Perm.refl _
 | a::l,h=>by
  rw [jiB,jiB]
  exact(h a (jiE ..)).append (Dy fun b hb=>h b (jiq _ hb))
theorem T8 {α β:Type} (f:α→List β) {l m:List α} (h:l.Perm m) : (l.flatMap f).Perm (m.flatMap f) :=by
 induction h with
 | nil=>exact List.Perm.refl _
 | cons a _ ih=>rw [jiB,jiB];exact ih.append_left _
 | swap a b l=>
  simp only [jiB]
  rw [←jil,←jil]
  exact List.perm_append_comm.append_right _
 | trans _ _ h1 h2=>exact h1.trans h2
theorem jck {xs:List Pn} (hb:bare xs) (p:Pn) :p∈xs↔∃e∈J0 xs,lA e=p:=by
 rw [kz hb]
 constructor
 ·intro h
  rw [←Wu xs] at h
  obtain ⟨d,hd,e⟩ :=jip.1 h
  exact⟨mkL d,jip.2 ⟨d,hd,rfl⟩,e⟩
 ·rintro⟨e,he,rfl⟩
  obtain ⟨d,hd,rfl⟩ :=jip.1 he
  show d.1∈xs
  have:d.1∈(KK xs).map (·.1) :=jip.2 ⟨d,hd,rfl⟩
  rwa [Wu] at this
theorem jci {xs:List Pn} (hb:bare xs) (p:Pn) :p∈xs↔∃e∈J0 xs,lB e=p:=by
 have h0:=hb.1
 rw [kz hb]
 constructor
 ·intro h
  obtain ⟨j,hj,e⟩ :=ji0 h
  rw [Kk hj] at e
  have key:∃i,i<xs.length∧nx xs i=j:=by
   by_cases k:j=0
   ·exact⟨xs.length- 1,by omega,by unfold nx;rw [show xs.length- 1+1=xs.length by omega,jj3,k]⟩
   ·exact⟨j- 1,by omega,by unfold nx;rw [show j- 1+1=j by omega,jjx hj]⟩
  obtain ⟨i,hi,hn⟩ :=key
  refine⟨mkL (pt xs i,pt xs (nx xs i)),jip.2 ⟨_,jip.2 ⟨i,jjo.2 hi,J⟩,J⟩,?_⟩
  show pt xs (nx xs i) =p
  rw [hn,e]
 ·rintro⟨e,he,rfl⟩
  obtain ⟨d,hd,rfl⟩ :=jip.1 he
  obtain ⟨j,hj,rfl⟩ :=jip.1 hd
  have hn:nx xs j<xs.length:=Nat.mod_lt _ h0
  show pt xs (nx xs j)∈xs
  rw [←Kk hn]
  exact jis _
theorem Rv.len {r s:List Pn} (h:Rv r s) :s.length=r.length:=by
 have:=h.pm.length_eq
 rw [jit,VR h.bs,VR h.br] at this
 exact this
theorem Rv.mem {r s:List Pn} (h:Rv r s) (p:Pn) :p∈s↔p∈r:=by
 rw [jck h.bs,jci h.br]
 constructor
 ·rintro⟨e,he,rfl⟩
  obtain ⟨f,hf,rfl⟩ :=jip.1 (h.pm.mem_iff.1 he)
  exact⟨f,hf,rfl⟩
 ·rintro⟨f,hf,rfl⟩
  exact⟨Qn f,h.pm.mem_iff.2 (jip.2 ⟨f,hf,rfl⟩),rfl⟩
theorem Rv.snap {hot r s:List Pn} (hnd:hot.Nodup) (h:Rv r s) (hm:∀p∈r,p∈hot) :Rv (kU hot r) (kU hot s) :=by
 have hm':∀p∈s,p∈hot:=fun p hp=>hm p ((h.mem p).1 hp)
 refine⟨(Ux hnd h.br hm).1,(Ux hnd h.bs hm').1,?_⟩
 rw [O0 hnd h.bs hm',O0 hnd h.br hm]
 refine(T8 _ h.pm).trans ?_
 rw [List.flatMap_map,List.map_flatMap]
 refine Dy fun e _=> ?_
 show(BG (qD (lB e) (lA e) hot)).Perm _
 rw [SW hnd,Py]
 exact List.reverse_perm _
def Rv2:List jV→List jV→Prop
 | [],[] =>True
 | r::rs,s::ss=>Rv r s∧Rv2 rs ss
 | _,_=>False
theorem Rv2.snap {hot:List Pn} (hnd:hot.Nodup) :∀ {rs ss:List jV},Rv2 rs ss→bareG hot rs→Rv2 (qR hot rs) (qR hot ss)
 | [],[],_,_=>trivial
 | [],_::_,h,_=>h.elim
 | _::_,[],h,_=>h.elim
 | r::rs,s::ss,h,hb=>⟨h.1.snap hnd (hb r (jiE ..)).2,Rv2.snap hnd (rs:=rs) (ss:=ss) h.2 fun x hx=>hb x (jiq _ hx)⟩
theorem Rv2.bare {hot:List Pn} :∀ {rs ss:List jV},Rv2 rs ss→bareG hot rs→bareG hot ss
 | [],[],_,_=>fun x hx=>by cases hx
 | [],_::_,h,_=>h.elim
 | _::_,[],h,_=>h.elim
 | r::rs,s::ss,h,hb=>fun x hx=>by
  rcases jir.1 hx with rfl | hx
  ·exact⟨h.1.bs,fun p hp=> (hb r (jiE ..)).2 p ((h.1.mem p).1 hp)⟩
  ·exact Rv2.bare (rs:=rs) (ss:=ss) h.2 (fun y hy=>hb y (jiq _ hy)) x hx
theorem Z0 (r:jV) (rs:List jV) :jE (r::rs) =J0 r++jE rs:=by
 have:=Um [r] rs
 rw [Xl] at this
 exact this
theorem Rv2.edges:∀ {rs ss:List jV},Rv2 rs ss→(jE ss).Perm ((jE rs).map Qn)
 | [],[],_=>List.Perm.refl _
 | [],_::_,h=>h.elim
 | _::_,[],h=>h.elim
 | r::rs,s::ss,h=>by
  rw [Z0,Z0,jiO]
  exact h.1.pm.append (Rv2.edges (rs:=rs) (ss:=ss) h.2)
theorem Rv2.cnt:∀ {rs ss:List jV},Rv2 rs ss→Go.Proofs.YtpncbbcmoiiipaaGreat.cnt ss=Go.Proofs.YtpncbbcmoiiipaaGreat.cnt rs∧ss.length=rs.length
 | [],[],_=>⟨rfl,rfl⟩
 | [],_::_,h=>h.elim
 | _::_,[],h=>h.elim
 | r::rs,s::ss,h=>by
  obtain ⟨h1,h2⟩ :=Rv2.cnt (rs:=rs) (ss:=ss) h.2
  have h3:=h.1.len
  unfold Go.Proofs.YtpncbbcmoiiipaaGreat.cnt at h1⊢
  simp only [jiA,List.sum_cons,jim]
  omega
theorem De {xs:List Pn} :WE xs=true↔∀p∈xs,wR p.1 p.2=true:=by
 unfold WE
 rw [jjn]
theorem Rv2.ring:∀ {rs ss:List jV},Rv2 rs ss→ss.all QA=rs.all QA
 | [],[],_=>rfl
 | [],_::_,h=>h.elim
 | _::_,[],h=>h.elim
 | r::rs,s::ss,h=>by
  have e:QA s=QA r:=by
   have h1:WE s=WE r:=by
    rw [jiN,De,De]
    exact⟨fun k p hp=>k p ((h.1.mem p).2 hp),fun k p hp=>k p ((h.1.mem p).1 hp)⟩
   unfold QA
   rw [h.1.len,h1]
  rw [List.all_cons,List.all_cons,e,Rv2.ring (rs:=rs) (ss:=ss) h.2]
theorem Rv2.reg {rs ss:List jV} (h:Rv2 rs ss) :JE ss=JE rs:=by
 have e: (jE ss).length= (jE rs).length:=by rw [h.edges.length_eq,jit]
 unfold JE
 rw [h.cnt.2,h.ring,e]
theorem Rv2.fix {hot:List Pn} (hnd:hot.Nodup) {rs ss:List jV} (h:Rv2 rs ss) (hb:bareG hot rs) :qR hot ss=ss↔qR hot rs=rs:=by
 have h1:= (h.snap hnd hb).cnt.1
 have h2:=h.cnt.1
 constructor
 ·intro k
  refine(ZN hnd hb).2 ?_
  rw [k] at h1
  omega
 ·intro k
  refine(ZN hnd (h.bare hb)).2 ?_
  rw [k] at h1
  omega
theorem CX {hot:List Pn} (hnd:hot.Nodup) :∀(f:Nat) {rs ss:List jV} (r:Nat),Rv2 rs ss→bareG hot rs→
  (∀A q,WV hot f rs r=some (A,q)→∃A',WV hot f ss r=some (A',q)∧Rv2 A A')∧(WV hot f rs r=none→WV hot f ss r=none)
 | 0,_,_,_,_,_=>⟨(fun _ _ h=>by cases h),fun _=>rfl⟩
 | f+1,rs,ss,r,h,hb=>by
  have hs:=h.snap hnd hb
  obtain ⟨i1,i2⟩ :=CX hnd f (r+1) hs (hb.snap hnd)
  have hr:=hs.reg
  have hf:=h.fix hnd hb
  unfold WV
  rw [hr]
  by_cases c1:JE (qR hot rs) =false
  ·rw [if_pos c1,if_pos c1]
   exact⟨(fun _ _ h=>by cases h),fun _=>rfl⟩
  ·rw [if_neg c1,if_neg c1]
   by_cases c2:qR hot rs=rs
   ·rw [if_pos c2,if_pos (hf.2 c2)]
    refine⟨fun A q k=> ?_,fun k=>by cases k⟩
    injection k with k
    injection k with k1 k2
    exact⟨ss,by rw [k2],k1▸h⟩
   ·rw [if_neg c2,if_neg fun k=>c2 (hf.1 k)]
    exact⟨i1,i2⟩
end Go.Proofs.YtpncbbcmoiiipaaGreat
namespace Go.Proofs.YtpncbbcmoiiipaaGreat
open Go Go.RowKit Go.MapKept
def ww:List (Pn×Value)→Nat→List MapEntry
 | [],_=> []
 | (p,v) ::l,i=>⟨pV p,v,i⟩ ::ww l (i+1)
def ZS (G:List (Pn×Value)) :Obj:= .map (ww G 0).toArray G.length
def Res.mp (b:Nat) (G:List (Pn×Value)) :Res where
 F:= (· =b)
 P w:=w.heap[b]? =some (ZS G)
 low _ h _ hc:=hc▸J3 h
 B:=0
 dep w w' h _ hb:= (hb b (J3 h) (.inr rfl)).trans h
def KR (p:Pn) :List (Pn×Value)→Nat→Option (Nat×Value)
 | [],_=>none
 | (q,v) ::l,i=>if p=q then some (i,v) else KR p l (i+1)
structure MapTy (P:Program) (T K E:TypeId) :Prop where
 map:P.underlying T=some (.map K E)
 chk:∀e p w,(Instr.checkKey e 10000 K (pV p)).run P w= .ok () w
 eq:∀p q w,(Op.equal K (pV p) (pV q)).run P w= .ok (p.1==q.1&&p.2==q.2) w
 now:∃d,P.underlying K=some d∧∀p q,Instr.sameNow d (pV p) (pV q) =none
 zero:∀w,(zeroValue E).run P w= .ok (.slice none 0 0) w
theorem jgc {p q:Pn} : (p.1==q.1&&p.2==q.2) =decide (p=q) :=by
 rw [jiN]
 simp [Prod.ext_iff]
section
variable {P:Program} {T K E:TypeId} {w:World}
theorem RW (H:MapTy P T K E) (p:Pn) :∀(G:List (Pn×Value)) (i:Nat),(Instr.findAsking K (pV p) (ww G i) i).run P w= .ok (KR p G i) w
 | [],i=>by simp [Instr.findAsking,ww,KR]
 | (q,v) ::l,i=>by
  have ih:=RW H p l (i+1)
  simp only [Instr.findAsking,ww,KR,Sem.run_bind,H.eq,Result.andThen_ok,jgc]
  by_cases h:p=q
  ·simp [h]
  ·simp [h,ih]
theorem RX (H:MapTy P T K E) (p:Pn) (G:List (Pn×Value)) : (Instr.findKey K (pV p) (ww G 0)).run P w= .ok (KR p G 0) w:=by
 obtain ⟨d,hd,hn⟩ :=H.now
 unfold Instr.findKey
 simp only [Sem.run_bind,run_underlying hd,Result.andThen_ok]
 cases G with
 | nil=>simp [ww,Instr.findNow,KR]
 | cons a l=>
  obtain ⟨q,v⟩ :=a
  have:Instr.findNow d (pV p) (ww ((q,v) ::l) 0) 0=none:=by simp [ww,Instr.findNow,hn]
  rw [this]
  exact RW H p _ 0
theorem Mh:∀(G:List (Pn×Value)) (i j:Nat),(ww G i)[j]? = (G[j]?).map fun e=>⟨pV e.1,e.2,i+j⟩
 | [],_,_=>by simp [ww]
 | (p,v) ::l,i,0=>by simp [ww]
 | (p,v) ::l,i,j+1=>by
  simp only [ww,List.getElem?_cons_succ,Mh l (i+1) j]
  rw [show i+1+j=i+ (j+1) by omega]
theorem DM:∀(G:List (Pn×Value)) (i:Nat) (p:Pn) (v:Value),ww G i++ [⟨pV p,v,i+G.length⟩] =ww (G++ [(p,v)]) i
 | [],i,p,v=>by simp [ww]
 | (q,u) ::l,i,p,v=>by
  have:=DM l (i+1) p v
  simp only [ww,jiJ,jim]
  rw [←this,show i+1+l.length=i+ (l.length+1) by omega]
theorem MX {p:Pn} :∀ {G:List (Pn×Value)} {i j:Nat} {v:Value},KR p G i=some (j,v)→i≤j∧G[j- i]? =some (p,v)
 | [],_,_,_,h=>by cases h
 | (q,u) ::l,i,j,v,h=>by
  unfold KR at h
  split at h
  ·rename_i e
   injection h with h
   injection h with h1 h2
   subst h1 h2 e
   simp
  ·have:=MX h
   refine⟨by omega,?_⟩
   rw [show j- i= (j- (i+1)) +1 by omega]
   simpa using this.2
theorem jb5 (p:Pn) : (Instr.keyThatStays (pV p) (pV p)).run P w= .ok (pV p) w:=by
 have hs:Instr.sameBits 10000 (pV p) (pV p) =true:=by
  show Instr.sameBits (9999+1) (pV p) (pV p) =true
  simp [Instr.sameBits,pV]
 simp [Instr.keyThatStays,hs]
def Ee (p:Pn) (G:List (Pn×Value)) :List (Pn×Value) :=match KR p G 0 with
 | some _=>G
 | none=>G++ [(p, .slice none 0 0)]
def jaa (p:Pn) (G:List (Pn×Value)) :Nat:=match KR p G 0 with
 | some x=>x.1
 | none=>G.length
def Bj (p:Pn) (G:List (Pn×Value)) :Value:=match KR p G 0 with
 | some x=>x.2
 | none=> .slice none 0 0
theorem jbP {w:World} {b:Nat} {o o':Obj} (h:w.heap[b]? =some o) : ({w with heap:=w.heap.setIfInBounds b o'} :World).heap[b]? =some o':=by
 have:=J3 h
 simp [Array.getElem?_setIfInBounds,this]
theorem jam (H:MapTy P T K E) {b:Nat} {G:List (Pn×Value)} (hb:w.heap[b]? =some (ZS G)) (p:Pn) :
  (Instr.mapEntry T (.map (some b)) (pV p)).run P w= .ok (.tuple #[Bj p G, .int .i64 (jaa p G:Nat)]) {w with heap:=w.heap.setIfInBounds b (ZS (Ee p G))} :=by
 have hb':w.heap[b]? =some (.map (ww G 0).toArray G.length) :=hb
 have hf: (Instr.findKey K (pV p) (ww G 0).toArray.toList).run P w= .ok (KR p G 0) w:=by rw [jjj];exact RX H p G
 unfold Bj jaa Ee
 cases hg:KR p G 0 with
 | none=>
  rw [hg] at hf
  have e: (ww G 0).toArray.push ⟨pV p, .slice none 0 0,G.length⟩ = (ww (G++ [(p, .slice none 0 0)]) 0).toArray:=by
   rw [←DM,jiL]
   simp
  simp only [Instr.mapEntry,Sem.run_bind,run_underlying H.map,Result.andThen_ok,MapKept.run_getObj_map hb',H.chk,hf,H.zero,MapKept.run_setObj_map _ hb',e,Sem.run_pure,goInt]
  unfold ZS
  rw [jif]
  rfl
 | some x=>
  obtain ⟨j,v⟩ :=x
  rw [hg] at hf
  obtain ⟨_,hj⟩ :=MX hg
  rw [Nat.sub_zero] at hj
  have hj': (ww G 0).toArray[j]? =some ⟨pV p,v,j⟩ :=by
   rw [List.getElem?_toArray,Mh,hj]
   simp
  have hsame: (ww G 0).toArray.modify j (fun e=> {e with key:=pV p}) = (ww G 0).toArray:=by
   apply Array.ext'
   rw [Array.toList_modify]
   refine List.ext_getElem? fun i=> ?_
   rw [List.getElem?_modify]
   by_cases hi:j=i
   ·subst hi
    rw [List.getElem?_toArray] at hj'
    simp [hj']
   ·simp [hi]
  simp only [Instr.mapEntry,Sem.run_bind,run_underlying H.map,Result.andThen_ok,MapKept.run_getObj_map hb',H.chk,hf,hj',jj4,Option.getD_some,jb5,hsame,MapKept.run_setObj_map _ hb',Sem.run_pure,goInt]
  rfl
theorem Ru:∀(G:List (Pn×Value)) (i j:Nat),j<G.length→(ww G i).findIdx? (fun e=> ((e.born:Nat) :Int) == ((i+j:Nat) :Int)) =some j
 | [],_,_,h=>absurd h (by simp)
 | (p,v) ::l,i,0,_=>by simp [ww,List.findIdx?_cons]
 | (p,v) ::l,i,j+1,h=>by
  have ih:=Ru l (i+1) j (by simpa using h)
  rw [show i+1+j=i+ (j+1) by omega] at ih
  have hb: (((i:Nat) :Int) == ((i+ (j+1) :Nat) :Int)) =false:=by rw [beq_eq_false_iff_ne];omega
  simp only [ww,List.findIdx?_cons,hb,ih]
  simp
theorem jcf {G:List (Pn×Value)} {j:Nat} {p:Pn} {u v:Value} (h:G[j]? =some (p,u)) : (ww G 0).toArray.modify j (fun e=> {e with val:=v}) = (ww (G.set j (p,v)) 0).toArray:=by
 apply Array.ext'
 rw [Array.toList_modify]
 refine List.ext_getElem? fun i=> ?_
 have hj:= (List.getElem?_eq_some_iff.1 h).1
 rw [List.getElem?_modify,jjj,Mh,Mh,List.getElem?_set]
 by_cases hi:j=i
 ·subst hi
  obtain ⟨_,e⟩ :=List.getElem?_eq_some_iff.1 h
  simp [hj,e]
 ·simp [hi]
theorem run_store {b:Nat} {G:List (Pn×Value)} (hb:w.heap[b]? =some (ZS G)) {j:Nat} {p:Pn} {u v:Value} (h:G[j]? =some (p,u)) :
  (Instr.entryStore T (.map (some b)) (.int .i64 (j:Nat)) v).run P w= .ok () {w with heap:=w.heap.setIfInBounds b (ZS (G.set j (p,v)))} :=by
 have hb':w.heap[b]? =some (.map (ww G 0).toArray G.length) :=hb
 have hj:= (List.getElem?_eq_some_iff.1 h).1
 have hidx: (ww G 0).toArray.findIdx? (fun e=> ((e.born:Nat) :Int) == ((j:Nat) :Int)) =some j:=by
  have:=Ru G 0 j hj
  rw [jiL] at this
  simpa using this
 simp only [Instr.entryStore,Sem.run_bind,Sem.run_pure,Result.andThen_ok,MapKept.run_getObj_map hb',asInt,asIntOf,hidx,jcf h,MapKept.run_setObj_map _ hb']
 unfold ZS
 rw [jjv]
theorem jdd (H:MapTy P T K E) {b:Nat} {G:List (Pn×Value)} (hb:w.heap[b]? =some (ZS G)) (p:Pn) :
  (Instr.lookup T (.map (some b)) (pV p) false).run P w= .ok (Bj p G) w:=by
 have hb':w.heap[b]? =some (.map (ww G 0).toArray G.length) :=hb
 have hf: (Instr.findKey K (pV p) (ww G 0).toArray.toList).run P w= .ok (KR p G 0) w:=by rw [jjj];exact RX H p G
 unfold Bj
 cases hg:KR p G 0 with
 | none=>
  rw [hg] at hf
  simp [Instr.lookup,run_underlying H.map,MapKept.run_getObj_map hb',H.chk,hf,H.zero,Result.andThen]
 | some x=>
  rw [hg] at hf
  simp [Instr.lookup,run_underlying H.map,MapKept.run_getObj_map hb',H.chk,hf,Result.andThen]
end
section
variable {P:Program} {n:Nat} {env:List (Nat×Value)} {w0:Bs} {Rs:List Res} {o:Oper} {Q:Exit→Act→World→Prop} {K:Act→World→Prop}
theorem NE {T d:Nat} (ho:o.op= .makeMap T none) (hd:o.dst=some d) (hn:d<n) (h:∀b,At n ((d, .map (some b)) ::env) w0 (Rs++ [.mp b []]) K) :At n env w0 Rs (fun a w=>o.wp P a w K Q) :=fun a w hF hs=>by
 have: (execOp a.eval o).run P w= .ok (.value (.map (some w.heap.size))) (w.alloc (.map #[] 0)) :=by
  unfold execOp
  simp only [ho]
  simp [Instr.makeMap]
 show o.upon P a K Q ((execOp a.eval o).run P w)
 rw [this,Oper.upon_value,hd]
 exact h _ _ _ (hF.put hn _) (hs.add (Over.alloc _ _) (by show(w.alloc (.map #[] 0)).heap[w.heap.size]? =some (.map #[] 0);exact(MapKept.heap_alloc w _).1) (fun b hb=>Nat.le_of_eq hb.symm) ⟨jii _,fun _ _=>jii _⟩)
theorem jco {w:World} {k b:Nat} {G G':List (Pn×Value)} (hs:St w0 Rs w) (hk:Rs[k]? =some (.mp b G)) :St w0 (Rs.set k (.mp b G')) {w with heap:=w.heap.setIfInBounds b (ZS G')} :=by
 have hh:w.heap[b]? =some (ZS G) := (hs.all k _ hk).1
 have hlow:= (hs.all k _ hk).2.1 b rfl
 have hne:∀c,c≠b→({w with heap:=w.heap.setIfInBounds b (ZS G')} :World).heap[c]? =w.heap[c]? :=fun c hc=>by simp [Array.getElem?_setIfInBounds,Ne.symm hc]
 refine hs.upd hk ⟨hs.over.os,hs.over.tape,hs.over.output,by simpa using hs.over.size,fun c hc hx=> ?_⟩ (by simp) (fun c _ h=>hne c h) (jbP hh) (fun c hc=> .inl hc) J
 have:c≠b:=fun e=>by
  subst e
  rcases hlow with h | h
  ·have h:w0.N≤c:=h
   omega
  ·exact hx h
 rw [hne c this]
 exact hs.over.block c hc hx
theorem SS {T Kt E:TypeId} {k b d:Nat} {x y:Operand} {G:List (Pn×Value)} (H:MapTy P T Kt E) (p:Pn) (ho:o.op= .mapEntry T x y) (hx:ev env x=some (.map (some b))) (hy:ev env y=some (pV p)) (hk:Rs[k]? =some (.mp b G)) (hd:o.dst=some d) (hn:d<n)
  (h:At n ((d, .tuple #[Bj p G, .int .i64 (jaa p G:Nat)]) ::env) w0 (Rs.set k (.mp b (Ee p G))) K) :At n env w0 Rs (fun a w=>o.wp P a w K Q) :=fun a w hF hs=>by
 have hh:w.heap[b]? =some (ZS G) := (hs.all k _ hk).1
 have hrun: (execOp a.eval o).run P w= .ok (.value (.tuple #[Bj p G, .int .i64 (jaa p G:Nat)])) {w with heap:=w.heap.setIfInBounds b (ZS (Ee p G))} :=by
  unfold execOp
  simp only [ho,hF.ev hx,hF.ev hy,Sem.run_bind,jam H hh p,Result.andThen_ok,Sem.run_pure]
 show o.upon P a K Q ((execOp a.eval o).run P w)
 rw [hrun,Oper.upon_value,hd]
 exact h _ _ (hF.put hn _) (jco hs hk)
theorem BX {T:TypeId} {k b j:Nat} {x y z:Operand} {G:List (Pn×Value)} {p:Pn} {u v:Value} (ho:o.op= .entryStore T x y z) (hd:o.dst=none) (hx:ev env x=some (.map (some b))) (hy:ev env y=some (.int .i64 (j:Nat))) (hz:ev env z=some v) (hk:Rs[k]? =some (.mp b G)) (hg:G[j]? =some (p,u))
  (h:At n env w0 (Rs.set k (.mp b (G.set j (p,v)))) K) :At n env w0 Rs (fun a w=>o.wp P a w K Q) :=fun a w hF hs=>by
 have hh:w.heap[b]? =some (ZS G) := (hs.all k _ hk).1
 have hrun: (execOp a.eval o).run P w= .ok .skip {w with heap:=w.heap.setIfInBounds b (ZS (G.set j (p,v)))} :=by
  unfold execOp
  simp only [ho,hF.ev hx,hF.ev hy,hF.ev hz,Sem.run_bind,run_store hh hg,Result.andThen_ok,Sem.run_pure]
 show o.upon P a K Q ((execOp a.eval o).run P w)
 rw [hrun,Oper.upon_skip,hd]
 exact h _ _ hF (jco hs hk)
theorem jaf {T Kt E:TypeId} {k b:Nat} {x y:Operand} {G:List (Pn×Value)} (H:MapTy P T Kt E) (p:Pn) (hk:Rs[k]? =some (.mp b G)) (ho:o.op= .lookup T x y false) (hx:ev env x=some (.map (some b))) (hy:ev env y=some (pV p)) :Qt P o n env w0 Rs (Bj p G) :=
 Q9 fun a w hF hs=>by
  have hh:w.heap[b]? =some (ZS G) := (hs.all k _ hk).1
  unfold execOp
  simp only [ho,hF.ev hx,hF.ev hy,Sem.run_bind,jdd H hh p,Result.andThen_ok,Sem.run_pure]
end
theorem jfV:MapTy Tryz.prog 197 56 198 where
 map:=by kernel_rfl
 chk:=fun e p w=>by kernel_rfl
 eq:=fun p q w=>by
  show(Op.equalIn (9999+1) 56 (.agg #[.int .i64 p.1, .int .i64 p.2]) (.agg #[.int .i64 q.1, .int .i64 q.2])).run Tryz.prog w=_
  have hp:Tryz.prog.stoodInHeld 56=false:=by kernel_rfl
  rw [run_equalIn_agg w 9999 56 _ _ Kr hp]
  simp only [Program.fieldsOf,Tryz.underlying56]
  cases h1: (p.1==q.1) <;>cases h2: (p.2==q.2)
  all_goals
   simp only [beq_iff_eq,beq_eq_false_iff_ne] at h1 h2
   simp [Op.eqFields,go_sem, *]
 now:=⟨_,Tryz.underlying56,fun p q=>rfl⟩
 zero:=fun w=>by kernel_rfl
end Go.Proofs.YtpncbbcmoiiipaaGreat
