import Derived.Test.YtpncbbcmoiiipaaMSd
import Derived.Test.YtpncbbcmoiiipaaMOpen3
import Derived.Test.YtpncbbcmoiiipaaMSnapG
import Derived.Test.YtpncbbcmoiiipaaMSd2
import Derived.Test.YtpncbbcmoiiipaaMSimp
import Derived.Test.YtpncbbcmoiiipaaMThin
import Derived.Test.YtpncbbcmoiiipaaMTopo4
set_option linter.unusedVariables false
set_option linter.unusedSimpArgs false
namespace Go.Proofs.Ytpncbbcmoiiipaa
end Go.Proofs.Ytpncbbcmoiiipaa
namespace Go.Proofs.Ytpncbbcmoiiipaa
open Go Go.Shelf Go.RowKit Go.Lib Go.Sort
structure Gw where
 val:Leg
 ok:kq val
instance:Inhabited Gw:=⟨⟨⟨0,0,0,0⟩,⟨by decide,by decide⟩,⟨by decide,by decide⟩,⟨by decide,by decide⟩,by decide,by decide⟩⟩
end Go.Proofs.Ytpncbbcmoiiipaa
namespace Go.Proofs.Ytpncbbcmoiiipaa
open Go Go.RowKit
theorem YD (h:Bool) (ls:List Leg) (x y:Int) :∀k,k≤ls.length→Q0 h ls x y k=sm (fun e=>Vu (W0 h e) x y) (ls.take k)
 | 0,_=>rfl
 | k+1,hk=>by rw [Q0,MF _ Om,ZY Om,YD h ls x y k Om]
def K7 (p:Pn) (E:List Leg) :Int:=sm (fun e=>Vu e p.1 p.2) E
theorem Legs.ovx {w w':World} {X:List Nat} {A:Option Addr} {n:Nat} {ls:List Leg} (h:Legs w A n ls) (ho:Ovx ⟨w,X⟩ w') (hne:0<n→∀p,A=some p→p.block∉X) :Legs w' A n ls:=by
 refine⟨h.1,fun hn=> ?_⟩
 obtain ⟨b,o,rfl,hlt,hc⟩ :=h.2 hn
 have hs:w.heap.size≤w'.heap.size:=ho.size
 have hb:w'.heap[b]? =w.heap[b]? :=ho.block b hlt (hne hn _ rfl)
 have hcell:∀o',w'.cell? ⟨b,o',none⟩ =w.cell? ⟨b,o',none⟩ :=fun o'=>by simp only [World.cell?,hb]
 exact⟨b,o,rfl,by omega,fun k hk=>by rw [hcell,hcell,hcell,hcell];exact hc k hk⟩
section
variable {P:Program} {n:Nat} {env:List (Nat×Value)} {w0:Bs} {Rs:List Res} {o:Oper} {Q:Exit→Act→World→Prop} {K:Act→World→Prop}
end
theorem xM {α β:Type} (f:β→Int) (g:α→β) :∀l:List α,sm f (l.map g) =sm (fun x=>f (g x)) l
 | [] =>rfl
 | x::l=>by simp only [Fb,sm,xM f g l]
def k7 (α β:Int) (p x:Pn) :Int:=α* (x.1- p.1) +β* (x.2- p.2)
theorem Bz {x y:Int} (hx:0≤x) (hy:0≤y) (h:x*x<y*y) :x<y:=by
 rcases Int.lt_or_le x y with h1 | h1
 ·exact h1
 ·have:=Int.mul_le_mul h1 h1 hy hx
  omega
theorem B7 {a b p:Pn} {r:Int} (hr:0≤r) (h:Kp a b p r=false) :∃α β m:Int,0<m∧r*r* (α*α+β*β) <m*m∧m≤k7 α β p a∧m≤k7 α β p b:=by
 have hrr:=kh r
 unfold Kp at h
 split at h
 ·cases h
 ·rename_i h1
  have h1a:r*r<Wa a p:=Int.not_le.1 fun k=>h1 (.inl k)
  have h1b:r*r<Wa b p:=Int.not_le.1 fun k=>h1 (.inr k)
  split at h
  ·rename_i h2
   rcases h2 with h2 | h2
   ·refine⟨a.1- p.1,a.2- p.2,Wa a p,by omega,?_,?_,?_⟩
    ·have e: (a.1- p.1) * (a.1- p.1) + (a.2- p.2) * (a.2- p.2) =Wa a p:=by unfold Wa;grind
     rw [e]
     exact D4 h1a Om
    ·exact Int.le_of_eq (by unfold Wa k7;grind)
    ·have e:k7 (a.1- p.1) (a.2- p.2) p b=Wa a p- G4 a b p:=by unfold k7 Wa G4;grind
     omega
   ·refine⟨b.1- p.1,b.2- p.2,Wa b p,by omega,?_,?_,?_⟩
    ·have e: (b.1- p.1) * (b.1- p.1) + (b.2- p.2) * (b.2- p.2) =Wa b p:=by unfold Wa;grind
     rw [e]
     exact D4 h1b Om
    ·have e:k7 (b.1- p.1) (b.2- p.2) p a=Wa b p+ (G4 a b p- Wa a b) :=by unfold k7 Wa G4;grind
     omega
    ·exact Int.le_of_eq (by unfold Wa k7;grind)
  ·have h3:r*r*Wa a b<tn a b p*tn a b p:=by simpa using h
   have hd:0≤Wa a b:=by
    unfold Wa
    have:=kh (b.1- a.1)
    have:=kh (b.2- a.2)
    omega
   have key:∀s:Int,s*s=1→0<s*tn a b p→∃α β m:Int,0<m∧r*r* (α*α+β*β) <m*m∧m≤k7 α β p a∧m≤k7 α β p b:=fun s hs hp=>by
    refine⟨s* (b.2- a.2),s* (a.1- b.1),s*tn a b p,hp,?_,?_,?_⟩
    ·have e1:s* (b.2- a.2) * (s* (b.2- a.2)) +s* (a.1- b.1) * (s* (a.1- b.1)) =s*s*Wa a b:=by unfold Wa;grind
     have e2:s*tn a b p* (s*tn a b p) =s*s* (tn a b p*tn a b p) :=by grind
     rw [e1,e2,hs,Int.one_mul,Int.one_mul]
     exact h3
    ·exact Int.le_of_eq (by simp only [k7,tn,QX];grind)
    ·exact Int.le_of_eq (by simp only [k7,tn,QX];grind)
   have h0:0≤r*r*Wa a b:=DU hrr hd
   rcases Fx (tn a b p) 0 with ht | ht | ht
   ·exact key (-1) rfl Om
   ·rw [ht] at h3;omega
   ·exact key 1 rfl Om
theorem G8 (x:Int) : (x.natAbs:Int) * (x.natAbs:Int) =x*x:=by
 rcases Int.natAbs_eq x with h | h
 ·rw [←h]
 ·have: ((x.natAbs:Nat) :Int) = -x:=by omega
  rw [this];grind
def Wo (p:Pn) (k:Int) (a b:Pn) :Prop:=∃α β:Int,k* ((α.natAbs:Int) + (β.natAbs:Int)) <2*k7 α β p a∧k* ((α.natAbs:Int) + (β.natAbs:Int)) <2*k7 α β p b
theorem Od {a b p:Pn} {r k:Int} (hk:0≤k) (hr:k≤r) (h:Kp a b p r=false) :Wo p k a b:=by
 obtain ⟨α,β,m,hm,h1,h2,h3⟩ :=B7 Om h
 have hs: ((α.natAbs:Int) +β.natAbs) * ((α.natAbs:Int) +β.natAbs)≤2* (α*α+β*β) :=by
  have e1:=G8 α
  have e2:=G8 β
  have e3:=kh ((α.natAbs:Int) - β.natAbs)
  have e4: ((α.natAbs:Int) +β.natAbs) * ((α.natAbs:Int) +β.natAbs) =2* ((α.natAbs:Int) *α.natAbs+ (β.natAbs:Int) *β.natAbs) - ((α.natAbs:Int) - β.natAbs) * ((α.natAbs:Int) - β.natAbs) :=by grind
  rw [e4,e1,e2]
  omega
 obtain ⟨s,es⟩ :∃s:Int,s= (α.natAbs:Int) +β.natAbs:=⟨_,rfl⟩
 have hs0:0≤s:=by omega
 rw [←es] at hs
 have hkr:k*k≤r*r:=Int.mul_le_mul hr hr hk Om
 have h5: (k*s) * (k*s)≤2* (r*r* (α*α+β*β)) :=by
  have a1:k*k* (s*s)≤r*r* (s*s) :=DJ hkr (DU hs0 hs0)
  have a2:r*r* (s*s)≤r*r* (2* (α*α+β*β)) :=DW hs (kh r)
  have a3:k*s* (k*s) =k*k* (s*s) :=by grind
  have a4:r*r* (2* (α*α+β*β)) =2* (r*r* (α*α+β*β)) :=by grind
  omega
 have h6:k*s<2*m:=by
  refine Bz (DU hk hs0) Om ?_
  have:2*m* (2*m) =4* (m*m) :=by grind
  have:=kh m
  omega
 exact⟨α,β,by rw [←es];omega,by rw [←es];omega⟩
theorem Xd {α e v:Int} (h1: -v≤e) (h2:e≤v) : -((α.natAbs:Int) *v)≤α*e:=by
 rcases Int.natAbs_eq α with h | h
 ·have a:0≤(α.natAbs:Int) :=by omega
  have:=DW h1 a
  have e1: (α.natAbs:Int) * -v= -((α.natAbs:Int) *v) :=by grind
  have e2: (α.natAbs:Int) *e=α*e:=by rw [←h]
  omega
 ·have a:0≤(α.natAbs:Int) :=by omega
  have:=DW h2 a
  have e2: (α.natAbs:Int) *e= -(α*e) :=by
   have: ((α.natAbs:Nat) :Int) = -α:=by omega
   rw [this];grind
  omega
theorem xf {a b p w:Pn} {k α β u v:Int} (h1: (k+1) * ((α.natAbs:Int) +β.natAbs) <2*k7 α β p a) (h2: (k+1) * ((α.natAbs:Int) +β.natAbs) <2*k7 α β p b)
  (hv:0<v) (h0:0≤u) (hu:u≤v) (h:kF a b w u v) :k* ((α.natAbs:Int) +β.natAbs) <2*k7 α β p w:=by
 obtain ⟨s,es⟩ :∃s:Int,s= (α.natAbs:Int) +β.natAbs:=⟨_,rfl⟩
 obtain ⟨ga,ea⟩ :∃g:Int,g=k7 α β p a:=⟨_,rfl⟩
 obtain ⟨gb,eb⟩ :∃g:Int,g=k7 α β p b:=⟨_,rfl⟩
 obtain ⟨t,et⟩ :∃t:Int,t=k*s:=⟨_,rfl⟩
 have ek: (k+1) *s=t+s:=by rw [et];grind
 rw [←es,←ea,ek] at h1
 rw [←es,←eb,ek] at h2
 rw [←es,←et]
 obtain ⟨⟨x1,x2⟩,y1,y2⟩ :=h
 have ax: -v≤2*w.1*v- (2*a.1*v+u* (2* (b.1- a.1)))∧2*w.1*v- (2*a.1*v+u* (2* (b.1- a.1)))≤v:=by
  have e1: (2*w.1- 1) *v=2*w.1*v- v:=by grind
  have e2: (2*w.1- 1+2) *v=2*w.1*v+v:=by grind
  omega
 have ay: -v≤2*w.2*v- (2*a.2*v+u* (2* (b.2- a.2)))∧2*w.2*v- (2*a.2*v+u* (2* (b.2- a.2)))≤v:=by
  have e1: (2*w.2- 1) *v=2*w.2*v- v:=by grind
  have e2: (2*w.2- 1+2) *v=2*w.2*v+v:=by grind
  omega
 have bx:=Xd (α:=α) ax.1 ax.2
 have bY:=Xd (α:=β) ay.1 ay.2
 have main:2*v*k7 α β p w= (v- u) * (2*ga) +u* (2*gb) +α* (2*w.1*v- (2*a.1*v+u* (2* (b.1- a.1)))) +β* (2*w.2*v- (2*a.2*v+u* (2* (b.2- a.2)))) :=by
  rw [ea,eb];unfold k7;grind
 have c1: (v- u) * (t+s+1)≤(v- u) * (2*ga) :=DW Om Om
 have c2:u* (t+s+1)≤u* (2*gb) :=DW Om h0
 have c3: (v- u) * (t+s+1) +u* (t+s+1) =v* (t+1) +v*s:=by grind
 have c4:v*s= (α.natAbs:Int) *v+ (β.natAbs:Int) *v:=by rw [es];grind
 have c5:v* (t+1)≤v* (2*k7 α β p w) :=by
  have:v* (2*k7 α β p w) =2*v*k7 α β p w:=by grind
  omega
 have:=Fv c5 hv
 omega
def cw (p:Pn) :List Pn→Int
 | a::b::l=>ws (sb a p) (sb b p) +cw p (b::l)
 | _=>0
theorem Og {α β:Int} {p x:Pn} (h:0<k7 α β p x) :Hf α β (sb x p) :=h
theorem Xr {α β:Int} {p:Pn} :∀ {l:List Pn} {a z:Pn},(∀x∈a:: (l++ [z]),Hf α β (sb x p))→cw p (a:: (l++ [z])) =up α (sb z p) - up α (sb a p)
 | [],a,z,h=>by
  show ws (sb a p) (sb z p) +0=_
  rw [kZ (h a (by simp)) (h z (by simp))]
  omega
 | b::l,a,z,h=>by
  show ws (sb a p) (sb b p) +cw p (b:: (l++ [z])) =_
  rw [kZ (h a (by simp)) (h b (by simp)),Xr (l:=l) (fun x hx=>h x (D2 _ hx))]
  omega
theorem Xs (p:Pn) :∀(l:List Pn) (b:Pn) (m:List Pn),cw p (l++b::m) =cw p (l++ [b]) +cw p (b::m)
 | [],b,m=>by simp [cw]
 | [a],b,m=>by
  show ws (sb a p) (sb b p) +cw p (b::m) =ws (sb a p) (sb b p) +0+cw p (b::m)
  omega
 | a::c::l,b,m=>by
  show ws (sb a p) (sb c p) +cw p ((c::l) ++b::m) =ws (sb a p) (sb c p) +cw p ((c::l) ++ [b]) +cw p (b::m)
  rw [Xs p (c::l) b m]
  omega
theorem zM (p:Pn) :∀ {es:List (Pn×Pn)} {z:Pn},Lk es z→cw p (es.map (·.1) ++ [z]) =sm (fun d:Pn×Pn=>ws (sb d.1 p) (sb d.2 p)) es
 | [],_,_=>rfl
 | [e],z,h=>by
  have h:e.2=z:=h
  subst h
  rfl
 | e::f::l,z,h=>by
  have h:e.2=f.1∧Lk (f::l) z:=h
  have:=zM p h.2
  show ws (sb e.1 p) (sb f.1 p) +cw p ((f::l).map (·.1) ++ [z]) =ws (sb e.1 p) (sb e.2 p) +sm _ (f::l)
  rw [this,h.1]
theorem Xq {hot:List Pn} (p:Pn) :∀ {es:List (Pn×Pn)} {z:Pn},Lk es z→(∀d∈es,d.1≠d.2∧d.1∈hot∧d.2∈hot)→cw p (es.flatMap (J3 hot) ++ [z]) =sm (fun d:Pn×Pn=>cw p (J3 hot d++ [d.2])) es
 | [],_,_,_=>rfl
 | [e],z,h,_=>by
  have h:e.2=z:=h
  subst h
  simp [sm]
 | e::f::l,z,h,ho=>by
  have h:e.2=f.1∧Lk (f::l) z:=h
  have ih:=Xq p h.2 (fun d hd=>ho d (D2 _ hd))
  obtain ⟨rest,er⟩ :=V4 (l:=l) (ho f (by simp))
  show cw p ((J3 hot e++ (f::l).flatMap (J3 hot)) ++ [z]) =cw p (J3 hot e++ [e.2]) +sm _ (f::l)
  rw [←ih,er,DN,D6,Xs,h.1]
theorem ZM (l:Leg) (p:Pn) :Vu l p.1 p.2=ws (sb (lA l) p) (sb (lB l) p) :=by
 rw [LJ]
 have e:cr (sb (lA l) p) (sb (lB l) p) =QX l.ax l.ay l.bx l.b_y p.1 p.2:=by simp only [cr,sb,lA,lB,QX];grind
 have q1: (l.ay≤p.2∧p.2<l.b_y)↔(l.ay- p.2≤0∧0<l.b_y- p.2) :=by omega
 have q2: (l.b_y≤p.2∧p.2<l.ay)↔(l.b_y- p.2≤0∧0<l.ay- p.2) :=by omega
 unfold ws
 rw [e]
 have c1: ((sb (lA l) p).2≤0∧0< (sb (lB l) p).2)↔(l.ay≤p.2∧p.2<l.b_y) :=q1.symm
 have c2: ((sb (lB l) p).2≤0∧0< (sb (lA l) p).2)↔(l.b_y≤p.2∧p.2<l.ay) :=q2.symm
 simp only [c1,c2]
theorem MC {xs:List Pn} (p:Pn) (hb:bare xs) :K7 p (Jf xs) =cw p (xs++ [pt xs 0]) :=by
 unfold K7
 rw [qF hb,xM]
 have h:=zM p (WG (xs:=xs))
 rw [KM] at h
 rw [h]
 refine U9 fun d _=> ?_
 rw [ZM]
 rfl
theorem LN {hot:List Pn} {p a b:Pn} {α β:Int} (hne:a≠b) (ha:a∈hot) (hb:b∈hot) (h:∀x∈qp a b hot,0<k7 α β p x) :cw p (J3 hot (a,b) ++ [b]) =ws (sb a p) (sb b p) :=by
 obtain ⟨mid,e1,e2⟩ :=ka (hot:=hot) (e:= (a,b)) ⟨hne,ha,hb⟩
 have hall:∀x∈a:: (mid++ [b]),Hf α β (sb x p) :=fun x hx=>Og (h x (by rw [e2,e1];simpa using hx))
 rw [e1]
 show cw p (a:: (mid++ [b])) =_
 rw [Xr hall,kZ (hall a (by simp)) (hall b (by simp))]
theorem xK {hot xs:List Pn} {p:Pn} {k:Int} (hk:0≤k) (hnd:hot.Nodup) (hb:bare xs) (hm:∀q∈xs,q∈hot) (hf:∀e∈Jf xs,Wo p (k+1) (lA e) (lB e)) :
  K7 p (Jf (Qg hot xs)) =K7 p (Jf xs)∧∀e∈Jf (Qg hot xs),Wo p k (lA e) (lB e) :=by
 have hok:=vJ hb hm
 have hb2:= (wh hnd hb hm).1
 constructor
 ·rw [MC p hb2,Ks hb]
  have hz:pt ((Qj xs).flatMap (J3 hot)) 0=pt xs 0:=by
   have h0:=hb.1
   cases hp:Qj xs with
   | nil=>have:=congrArg List.length hp;rw [kM,D8] at this;omega
   | cons e l=>
    obtain ⟨rest,er⟩ :=V4 (l:=l) (hok e (by rw [hp];simp))
    rw [er]
    have:xs= (Qj xs).map (·.1) := (KM xs).symm
    rw [this,hp]
    rfl
  rw [hz,Xq p WG hok]
  unfold K7
  rw [qF hb,xM]
  refine U9 fun d hd=> ?_
  obtain ⟨o1,o2,o3⟩ :=hok d hd
  obtain ⟨α,β,f1,f2⟩ :=hf (LT d) (by rw [qF hb];exact Fi.2 ⟨d,hd,rfl⟩)
  have e1:lA (LT d) =d.1:=rfl
  have e2:lB (LT d) =d.2:=rfl
  rw [e1] at f1
  rw [e2] at f2
  have h:=LN (p:=p) (α:=α) (β:=β) o1 o2 o3 (fun x hx=>by
   obtain ⟨_,hw⟩ :=Qu.1 hx
   obtain ⟨u,v,hv,_,h0,hu,hin⟩ :=Uf (wa hw)
   have:=xf f1 f2 hv h0 hu hin
   have h3:0≤k* ((α.natAbs:Int) +β.natAbs) :=DU hk Om
   omega)
  rw [ZM,e1,e2]
  exact h
 ·intro e he
  obtain ⟨f,hfm,⟨V,u,u',hV,hu,i1,i2,_⟩,_,_⟩ :=W2 hnd hb hm he
  obtain ⟨α,β,f1,f2⟩ :=hf f hfm
  exact⟨α,β,xf f1 f2 hV hu.1 Om i1,xf f1 f2 hV Om hu.2.2 i2⟩
theorem ZR (p:Pn) (E F:List Leg) :K7 p (E++F) =K7 p E+K7 p F:=un _ E F
theorem ZQ (p:Pn) {rs ss:List jx} (hl:rs.length=ss.length) :∀k,k≤rs.length→(∀j,j<k→K7 p (Jf (rg rs j)) =K7 p (Jf (rg ss j)))→K7 p (JJ rs k) =K7 p (JJ ss k)
 | 0,_,_=>rfl
 | k+1,hk,h=>by
  show K7 p (JJ rs k++Jf (rg rs k)) =K7 p (JJ ss k++Jf (rg ss k))
  rw [ZR,ZR,ZQ p hl k Om (fun j hj=>h j Om),h k Om]
theorem OM {rs:List jx} {j:Nat} (h:j<rs.length) :rg rs j∈rs:=by
 have:rg rs j=rs[j] :=by simp [rg,List.getD,h]
 rw [this]
 exact DR h
theorem GP {hot:List Pn} {rs:List jx} {p:Pn} {k:Int} (hk:0≤k) (hnd:hot.Nodup) (hb:bareG hot rs) (hf:∀e∈jv rs,Wo p (k+1) (lA e) (lB e)) :
  K7 p (jv (qk hot rs)) =K7 p (jv rs)∧∀e∈jv (qk hot rs),Wo p k (lA e) (lB e) :=by
 have one:∀r∈rs,K7 p (Jf (Qg hot r)) =K7 p (Jf r)∧∀e∈Jf (Qg hot r),Wo p k (lA e) (lB e) :=fun r hr=>
  xK hk hnd (hb r hr).1 (hb r hr).2 (fun e he=>hf e (KG.2 ⟨r,hr,he⟩))
 constructor
 ·unfold jv
  rw [kO]
  exact ZQ p (kO hot rs) _ (by rw [kO];exact DM _) (fun j hj=>by rw [Zw hj];exact(one _ (OM hj)).1)
 ·intro e he
  obtain ⟨r,hr,he⟩ :=KG.1 he
  obtain ⟨q,hq,rfl⟩ :=Fi.1 hr
  exact(one q hq).2 e he
theorem Yv {hot:List Pn} {p:Pn} (hnd:hot.Nodup) :∀(f:Nat) {rs ss:List jx} {r q:Nat},KY hot f rs r=some (ss,q)→bareG hot rs→
  r≤q∧((∀e∈jv rs,Wo p ((q:Int) - r) (lA e) (lB e))→K7 p (jv ss) =K7 p (jv rs)∧∀e∈jv ss,Wo p 0 (lA e) (lB e))
 | 0,_,_,_,_,h,_=>by cases h
 | f+1,rs,ss,r,q,h,hb=>by
  unfold KY at h
  split at h
  ·cases h
  ·split at h
   ·injection h with h
    injection h with h1 h2
    subst h1 h2
    exact⟨DM _,fun hf=>⟨rfl,fun e he=>by have:=hf e he;rwa [Int.sub_self] at this⟩⟩
   ·obtain ⟨h1,h2⟩ :=Yv hnd f h (hb.snap hnd)
    refine⟨by omega,fun hf=> ?_⟩
    have e: (q:Int) - r= (q:Int) - ((r+1:Nat) :Int) +1:=by omega
    obtain ⟨a1,a2⟩ :=GP (p:=p) (k:= (q:Int) - ((r+1:Nat) :Int)) Om hnd hb (fun d hd=>by rw [←e];exact hf d hd)
    obtain ⟨b1,b2⟩ :=h2 a2
    exact⟨b1.trans a1,b2⟩
end Go.Proofs.Ytpncbbcmoiiipaa
