import Derived.Test.YtbahojdbmmjkcaaGreatMSnapG
import Derived.Test.YtbahojdbmmjkcaaGreatMThin
import Derived.Test.YtbahojdbmmjkcaaGreatMTopo4
import Derived.Test.YtbahojdbmmjkcaaGreatMRay2
import Derived.MapKept
set_option linter.unusedVariables false
set_option linter.unusedSimpArgs false
namespace Go.Proofs.YtbahojdbmmjkcaaGreat
open Go Go.RowKit
variable {es:List (Pn×Pn)} {hot r s xs:List Pn} {rs ss:List jO}
theorem jdA {z:Pn} (h1:Lk es z) (h2:∀e,es.head?=some e→e.1=z) :kN (es.map (·.1)) =es:=by
 obtain ⟨g1,g2⟩ :=jcW h1
 have hp:∀j (hj:j<es.length),pt (es.map (·.1)) j=es[j].1:=fun j hj=>by
  rw [←Kg (by simpa using hj)]
  simp
 refine jkC (by simp [kN]) fun j hj hj'=> ?_
 simp only [kN,jkx,jkY]
 refine Prod.ext (hp j hj') ?_
 show pt (es.map (·.1)) (nx (es.map (·.1)) j) =_
 by_cases hj1:j+1<es.length
 ·rw [show nx (es.map (·.1)) j=j+1 from jkA (by simpa using hj1),hp _ hj1,←g1 j hj1]
 ·have hk:0<es.length:=by omega
  rw [show nx (es.map (·.1)) j=0 by unfold nx;rw [jjB,show j+1=es.length by omega,jk8],hp 0 hk]
  have hz: (es[0]'hk).1=z:=h2 _ (by cases es with | nil=>simp at hk | cons a l=>rfl)
  have:es.length- 1=j:=by omega
  rw [hz,←g2 hk]
  simp only [this]
theorem NO (h0:0<xs.length) (hk:0< (KY xs).length) :JZ (KY xs) =JZ xs:=by
 obtain ⟨h1,h2⟩ :=D8 h0
 have e:KY xs= ((JZ xs).map Pi).map (·.1) :=by rw [jk6];rfl
 rw [QC (Fh h0 hk),e,jdA h1 h2,jk6]
 conv=>rhs;rw [←List.map_id (JZ xs)]
 rfl
theorem DR (rs ss:List jO) :∀k,k≤rs.length→qE (rs++ss) k=qE rs k
 | 0,_=>rfl
 | k+1,hk=>by
  show qE (rs++ss) k++JZ (rg (rs++ss) k) =qE rs k++JZ (rg rs k)
  rw [DR rs ss k Om]
  congr 2
  simp only [rg,List.getD_eq_getElem?_getD,List.getElem?_append_left (show k<rs.length by omega)]
theorem M7 (rs ss:List jO) :∀k,qE (rs++ss) (rs.length+k) =jt rs++qE ss k
 | 0=>by
  rw [jk7,DR rs ss _ (jjm _)]
  exact(jjL _).symm
 | k+1=>by
  show qE (rs++ss) (rs.length+k) ++JZ (rg (rs++ss) (rs.length+k)) =jt rs++ (qE ss k++JZ (rg ss k))
  rw [M7 rs ss k,jjq]
  congr 3
  simp only [rg,List.getD_eq_getElem?_getD,List.getElem?_append_right (Nat.le_add_right _ _),Nat.add_sub_cancel_left]
theorem Vk (rs ss:List jO) :jt (rs++ss) =jt rs++jt ss:=by
 unfold jt
 rw [jjk]
 exact M7 rs ss _
theorem XS (r:jO) :jt [r] =JZ r:=rfl
theorem XE {rs:List jO} (hr:Jp rs=true) :∀k,k≤rs.length→jt (vg rs k) =qE rs k
 | 0,_=>rfl
 | k+1,hk=>by
  have ih:=XE hr k Om
  have hp:=qW (kE hr (show k<rs.length by omega))
  show _=qE rs k++JZ (rg rs k)
  by_cases h:0< (KY (rg rs k)).length
  ·rw [YE Om h,Vk,ih,XS,NO hp.1 h]
  ·rw [ZR Om h,ih]
   have e: (JZ (rg rs k)).length= (KY (rg rs k)).length:= (jjB ..).symm
   rw [jjW (show(JZ (rg rs k)).length=0 by omega),jjL]
theorem kz (hr:Jp rs=true) :jt (JO rs) =jt rs:=XE hr _ (jjm _)
theorem jfn (h:bare r) :KY r=r:=by
 show(JZ r).map lA=r
 rw [QC h,jk6]
 exact vX r
theorem E5 (h:∀r∈ss,bare r) :JO ss=ss:=by
 unfold JO vg
 rw [jj3]
 have e:ss.map KY=ss:=by
  refine(List.map_congr_left (fun r hr=>jfn (h r hr))).trans ?_
  simp
 rw [e]
 exact List.filter_eq_self.2 fun r hr=>decide_eq_true (h r hr).1
theorem CD {E:List Leg} (hx:NoX E) {p:Pn} :∀i,i≤E.length→p∈yf E i→∃k,k<i∧(p=lA (lg E k)∨p=lB (lg E k))
 | 0,_,h=>by simp [yf] at h
 | i+1,hi,h=>by
  have hcz:∀k,k≤i→p∉cz E i k:=fun k=>by
   induction k with
   | zero=>intro _ h;simp [cz] at h
   | succ k ih=>
    intro hk h
    rw [cz] at h
    rcases jjz.1 h with h | h
    ·exact ih Om h
    ·split at h
     ·rename_i h2
      exact hx _ (by rw [Zo (show i<E.length by omega)];exact jju _) _ (by rw [Zo (show k<E.length by omega)];exact jju _) (IP h2)
     ·cases h
  simp only [yf,jjz,jjw,jj8,or_false] at h
  rcases h with(h | h) | h
  ·obtain ⟨k,hk,e⟩ :=CD hx i Om h
   exact⟨k,by omega,e⟩
  ·exact⟨i,by omega,h⟩
  ·exact absurd h (hcz i (jjm _))
theorem jcs {p a b:Pn} (h:xT p 0 a b) :WW a b p=false:=by
 obtain ⟨α,β,h1,h2⟩ :=h
 rw [jkd] at h1 h2
 cases ho:WW a b p with
 | false=>rfl
 | true=>
  exfalso
  simp only [WW,DC,jjl,beq_iff_eq,decide_eq_true_eq] at ho
  obtain ⟨⟨⟨⟨t,x1⟩,x2⟩,y1⟩,y2⟩ :=ho
  have ea:ur α β p a=α* (a.1- p.1) +β* (a.2- p.2) :=rfl
  have eb:ur α β p b=α* (b.1- p.1) +β* (b.2- p.2) :=rfl
  obtain ⟨A1,hA1⟩ :∃z,z=a.1- p.1:=⟨_,rfl⟩
  obtain ⟨A2,hA2⟩ :∃z,z=a.2- p.2:=⟨_,rfl⟩
  obtain ⟨B1,hB1⟩ :∃z,z=b.1- p.1:=⟨_,rfl⟩
  obtain ⟨B2,hB2⟩ :∃z,z=b.2- p.2:=⟨_,rfl⟩
  have ht:A1*B2=A2*B1:=by
   rw [hA1,hA2,hB1,hB2]
   unfold Q0 at t
   grind
  rw [←hA1,←hA2] at ea
  rw [←hB1,←hB2] at eb
  have hga:0<α*A1+β*A2:=by omega
  have hgb:0<α*B1+β*B2:=by omega
  have s1: (A1≤0∧0≤B1)∨(0≤A1∧B1≤0) :=by omega
  have s2: (A2≤0∧0≤B2)∨(0≤A2∧B2≤0) :=by omega
  have k1:B1* (α*A1+β*A2) =A1* (α*B1+β*B2) :=by grind
  have k2:B2* (α*A1+β*A2) =A2* (α*B1+β*B2) :=by grind
  have z1:A1=0:=by
   rcases jj4 A1 0 with h | h | h
   ·have:=jke h hgb
    have:=jjD (show 0≤B1 by omega) (jj7 hga)
    omega
   ·exact h
   ·have:=jjZ h hgb
    have:=jjD (show 0≤-B1 by omega) (jj7 hga)
    rw [jlh] at this
    omega
  have z2:A2=0:=by
   rcases jj4 A2 0 with h | h | h
   ·have:=jke h hgb
    have:=jjD (show 0≤B2 by omega) (jj7 hga)
    omega
   ·exact h
   ·have:=jjZ h hgb
    have:=jjD (show 0≤-B2 by omega) (jj7 hga)
    rw [jlh] at this
    omega
  rw [z1,z2] at hga
  omega
theorem EH {hot:List Pn} :∀(f:Nat) {rs ss:List jO} {r q:Nat},v6 hot f rs r=some (ss,q)→q<r+f
 | 0,_,_,_,_,h=>by cases h
 | f+1,rs,ss,r,q,h=>by
  rw [v6] at h
  split at h
  ·cases h
  ·split at h
   ·injection h with h
    injection h with h2 h3
    omega
   ·have:=EH f h
    omega
def Dl:List Pn→List Leg
 | a::b::l=>Nn (a,b) ::Dl (b::l)
 | _=> []
theorem Ic:∀(u:List Pn) (a:Pn) (v:List Pn),Dl (u++a::v) =Dl (u++ [a]) ++Dl (a::v)
 | [],a,v=>by simp [Dl]
 | [x],a,v=>by simp [Dl]
 | x::y::u,a,v=>by
  have:=Ic (y::u) a v
  simp only [jjN,Dl] at this⊢
  rw [this]
theorem Cm:∀l:List Pn,Dl l.reverse= ((Dl l).map ku).reverse
 | [] =>rfl
 | [_] =>rfl
 | a::b::t=>by
  have ih:=Cm (b::t)
  have e1: (a::b::t).reverse=t.reverse++b:: [a] :=by simp
  have e2: (b::t).reverse=t.reverse++ [b] :=by simp
  rw [e1,Ic,←e2,ih]
  simp only [Dl,jjF,List.reverse_cons]
  rfl
theorem jb4:∀ {es:List (Pn×Pn)} {z:Pn},Lk es z→Dl (es.map (·.1) ++ [z]) =es.map Nn
 | [],_,_=>rfl
 | [e],z,h=>by
  have h:e.2=z:=h
  subst h
  rfl
 | e::f::l,z,h=>by
  have h:e.2=f.1∧Lk (f::l) z:=h
  have:=jb4 h.2
  show Nn (e.1,f.1) ::Dl ((f::l).map (·.1) ++ [z]) =Nn (e.1,e.2) :: (f::l).map Nn
  rw [this,h.1]
theorem Se {hot:List Pn} :∀ {es:List (Pn×Pn)} {z:Pn},Lk es z→(∀d∈es,d.1≠d.2∧d.1∈hot∧d.2∈hot)→Dl (es.flatMap (qX hot) ++ [z]) =es.flatMap fun d=>Dl (qX hot d++ [d.2])
 | [],_,_,_=>rfl
 | [e],z,h,_=>by
  have h:e.2=z:=h
  subst h
  simp
 | e::f::l,z,h,ho=>by
  have h:e.2=f.1∧Lk (f::l) z:=h
  have ih:=Se h.2 (fun d hd=>ho d (jjs _ hd))
  obtain ⟨rest,er⟩ :=UO (l:=l) (ho f (by simp))
  show Dl ((qX hot e++ (f::l).flatMap (qX hot)) ++ [z]) =Dl (qX hot e++ [e.2]) ++ (f::l).flatMap fun d=>Dl (qX hot d++ [d.2])
  rw [←ih,er,jjq,jjN,Ic,h.1]
theorem jeO (hb:bare xs) :JZ xs=Dl (xs++ [pt xs 0]) :=by
 have h:=jb4 (Yn (xs:=xs))
 rw [vX] at h
 rw [QC hb,h]
theorem BD (hnd:hot.Nodup) (hb:bare xs) (hm:∀p∈xs,p∈hot) :JZ (kv hot xs) = (JZ xs).flatMap fun e=>Dl (qC (lA e) (lB e) hot) :=by
 have hok:=U8 hb hm
 have hb2:= (uS hnd hb hm).1
 rw [jeO hb2,WP hb]
 have hz:pt ((kN xs).flatMap (qX hot)) 0=pt xs 0:=by
  have h0:=hb.1
  cases hp:kN xs with
  | nil=>have:=congrArg List.length hp;rw [wF,jjK] at this;omega
  | cons e l=>
   obtain ⟨rest,er⟩ :=UO (l:=l) (hok e (by rw [hp];simp))
   rw [er]
   have:xs= (kN xs).map (·.1) := (vX xs).symm
   rw [this,hp]
   rfl
 rw [hz,Se Yn hok,QC hb,List.flatMap_map]
 refine congrArg List.flatten (List.map_congr_left fun d hd=> ?_)
 obtain ⟨mid,h1,h2⟩ :=Vo (hok d hd)
 show _=Dl (qC d.1 d.2 hot)
 rw [h2]
structure Rv (r s:List Pn) :Prop where
 br:bare r
 bs:bare s
 pm: (JZ s).Perm ((JZ r).map ku)
theorem Fa {α β:Type} {f g:α→List β} :∀ {l:List α},(∀a∈l,(f a).Perm (g a))→(l.flatMap f).Perm (l.flatMap g)
 | [],_=>List.Perm.refl _
 | a::l,h=>by
  rw [jjH,jjH]
  exact(h a (jjJ ..)).append (Fa fun b hb=>h b (jjs _ hb))
theorem NT {α β:Type} (f:α→List β) {l m:List α} (h:l.Perm m) : (l.flatMap f).Perm (m.flatMap f) :=by
 induction h with
 | nil=>exact List.Perm.refl _
 | cons a _ ih=>rw [jjH,jjH];exact ih.append_left _
 | swap a b l=>
  simp only [jjH]
  rw [←jjq,←jjq]
  exact List.perm_append_comm.append_right _
 | trans _ _ h1 h2=>exact h1.trans h2
theorem jc6 (hb:bare xs) (p:Pn) :p∈xs↔∃e∈JZ xs,lA e=p:=by
 rw [QC hb]
 constructor
 ·intro h
  rw [←vX xs] at h
  obtain ⟨d,hd,e⟩ :=jjx.1 h
  exact⟨Nn d,jjx.2 ⟨d,hd,rfl⟩,e⟩
 ·rintro⟨e,he,rfl⟩
  obtain ⟨d,hd,rfl⟩ :=jjx.1 he
  show d.1∈xs
  have:d.1∈(kN xs).map (·.1) :=jjx.2 ⟨d,hd,rfl⟩
  rwa [vX] at this
theorem jc4 (hb:bare xs) (p:Pn) :p∈xs↔∃e∈JZ xs,lB e=p:=by
 have h0:=hb.1
 rw [QC hb]
 constructor
 ·intro h
  obtain ⟨j,hj,e⟩ :=jj0 h
  rw [Kg hj] at e
  have key:∃i,i<xs.length∧nx xs i=j:=by
   by_cases k:j=0
   ·exact⟨xs.length- 1,by omega,by unfold nx;rw [show xs.length- 1+1=xs.length by omega,jk8,k]⟩
   ·exact⟨j- 1,by omega,by unfold nx;rw [show j- 1+1=j by omega,jkA hj]⟩
  obtain ⟨i,hi,hn⟩ :=key
  refine⟨Nn (pt xs i,pt xs (nx xs i)),jjx.2 ⟨_,jjx.2 ⟨i,jko.2 hi,J⟩,J⟩,?_⟩
  show pt xs (nx xs i) =p
  rw [hn,e]
 ·rintro⟨e,he,rfl⟩
  obtain ⟨d,hd,rfl⟩ :=jjx.1 he
  obtain ⟨j,hj,rfl⟩ :=jjx.1 hd
  have hn:nx xs j<xs.length:=jkR _ h0
  show pt xs (nx xs j)∈xs
  rw [←Kg hn]
  exact jju _
theorem Rv.len (h:Rv r s) :s.length=r.length:=by
 have:=h.pm.length_eq
 rw [jjB,wb h.bs,wb h.br] at this
 exact this
theorem Rv.mem (h:Rv r s) (p:Pn) :p∈s↔p∈r:=by
 rw [jc6 h.bs,jc4 h.br]
 constructor
 ·rintro⟨e,he,rfl⟩
  obtain ⟨f,hf,rfl⟩ :=jjx.1 (h.pm.mem_iff.1 he)
  exact⟨f,hf,rfl⟩
 ·rintro⟨f,hf,rfl⟩
  exact⟨ku f,h.pm.mem_iff.2 (jjx.2 ⟨f,hf,rfl⟩),rfl⟩
theorem Rv.snap (hnd:hot.Nodup) (h:Rv r s) (hm:∀p∈r,p∈hot) :Rv (kv hot r) (kv hot s) :=by
 have hm':∀p∈s,p∈hot:=fun p hp=>hm p ((h.mem p).1 hp)
 refine⟨(uS hnd h.br hm).1,(uS hnd h.bs hm').1,?_⟩
 rw [BD hnd h.bs hm',BD hnd h.br hm]
 refine(NT _ h.pm).trans ?_
 rw [List.flatMap_map,List.map_flatMap]
 refine Fa fun e _=> ?_
 show(Dl (qC (lB e) (lA e) hot)).Perm _
 rw [TH hnd,Cm]
 exact List.reverse_perm _
def Rv2:List jO→List jO→Prop
 | [],[] =>True
 | r::rs,s::ss=>Rv r s∧Rv2 rs ss
 | _,_=>False
theorem Rv2.snap {hot:List Pn} (hnd:hot.Nodup) :∀ {rs ss:List jO},Rv2 rs ss→bareG hot rs→Rv2 (qq hot rs) (qq hot ss)
 | [],[],_,_=>trivial
 | [],_::_,h,_=>h.elim
 | _::_,[],h,_=>h.elim
 | r::rs,s::ss,h,hb=>⟨h.1.snap hnd (hb r (jjJ ..)).2,Rv2.snap hnd (rs:=rs) (ss:=ss) h.2 fun x hx=>hb x (jjs _ hx)⟩
theorem Rv2.bare {hot:List Pn} :∀ {rs ss:List jO},Rv2 rs ss→bareG hot rs→bareG hot ss
 | [],[],_,_=>fun x hx=>by cases hx
 | [],_::_,h,_=>h.elim
 | _::_,[],h,_=>h.elim
 | r::rs,s::ss,h,hb=>fun x hx=>by
  rcases jjw.1 hx with rfl | hx
  ·exact⟨h.1.bs,fun p hp=> (hb r (jjJ ..)).2 p ((h.1.mem p).1 hp)⟩
  ·exact Rv2.bare (rs:=rs) (ss:=ss) h.2 (fun y hy=>hb y (jjs _ hy)) x hx
theorem xt (r:jO) (rs:List jO) :jt (r::rs) =JZ r++jt rs:=by
 have:=Vk [r] rs
 rw [XS] at this
 exact this
theorem Rv2.edges:∀ {rs ss:List jO},Rv2 rs ss→(jt ss).Perm ((jt rs).map ku)
 | [],[],_=>List.Perm.refl _
 | [],_::_,h=>h.elim
 | _::_,[],h=>h.elim
 | r::rs,s::ss,h=>by
  rw [xt,xt,jjQ]
  exact h.1.pm.append (Rv2.edges (rs:=rs) (ss:=ss) h.2)
theorem Rv2.cnt:∀ {rs ss:List jO},Rv2 rs ss→Go.Proofs.YtbahojdbmmjkcaaGreat.cnt ss=Go.Proofs.YtbahojdbmmjkcaaGreat.cnt rs∧ss.length=rs.length
 | [],[],_=>⟨rfl,rfl⟩
 | [],_::_,h=>h.elim
 | _::_,[],h=>h.elim
 | r::rs,s::ss,h=>by
  obtain ⟨h1,h2⟩ :=Rv2.cnt (rs:=rs) (ss:=ss) h.2
  have h3:=h.1.len
  unfold Go.Proofs.YtbahojdbmmjkcaaGreat.cnt at h1⊢
  simp only [jjF,List.sum_cons,jjr]
  omega
theorem DQ :WY xs=true↔∀p∈xs,wW p.1 p.2=true:=by
 unfold WY
 rw [jkj]
theorem Rv2.ring:∀ {rs ss:List jO},Rv2 rs ss→ss.all Qz=rs.all Qz
 | [],[],_=>rfl
 | [],_::_,h=>h.elim
 | _::_,[],h=>h.elim
 | r::rs,s::ss,h=>by
  have e:Qz s=Qz r:=by
   have h1:WY s=WY r:=by
    rw [jjT,DQ,DQ]
    exact⟨fun k p hp=>k p ((h.1.mem p).2 hp),fun k p hp=>k p ((h.1.mem p).1 hp)⟩
   unfold Qz
   rw [h.1.len,h1]
  rw [List.all_cons,List.all_cons,e,Rv2.ring (rs:=rs) (ss:=ss) h.2]
theorem Rv2.reg (h:Rv2 rs ss) :Jp ss=Jp rs:=by
 have e: (jt ss).length= (jt rs).length:=by rw [h.edges.length_eq,jjB]
 unfold Jp
 rw [h.cnt.2,h.ring,e]
end Go.Proofs.YtbahojdbmmjkcaaGreat
namespace Go.Proofs.YtbahojdbmmjkcaaGreat
open Go Go.RowKit Go.MapKept
variable {G:List (Pn×Value)} {T:TypeId} {b j k:Nat} {p:Pn} {u v:Value} {w:World} {x y:Operand}
def wT:List (Pn×Value)→Nat→List MapEntry
 | [],_=> []
 | (p,v) ::l,i=>⟨pV p,v,i⟩ ::wT l (i+1)
def xg (G:List (Pn×Value)) :Obj:= .map (wT G 0).toArray G.length
def Res.mp (b:Nat) (G:List (Pn×Value)) :Res where
 F:= (· =b)
 P w:=w.heap[b]? =some (xg G)
 low _ h _ hc:=hc▸JT h
 B:=0
 dep w w' h _ hb:= (hb b (JT h) (.inr rfl)).trans h
def KW (p:Pn) :List (Pn×Value)→Nat→Option (Nat×Value)
 | [],_=>none
 | (q,v) ::l,i=>if p=q then some (i,v) else KW p l (i+1)
structure MapTy (P:Program) (T K E:TypeId) :Prop where
 map:P.underlying T=some (.map K E)
 chk:∀e p w,(Instr.checkKey e 10000 K (pV p)).run P w= .ok () w
 eq:∀p q w,(Op.equal K (pV p) (pV q)).run P w= .ok (p.1==q.1&&p.2==q.2) w
 now:∃d,P.underlying K=some d∧∀p q,Instr.sameNow d (pV p) (pV q) =none
 zero:∀w,(zeroValue E).run P w= .ok (.slice none 0 0) w
theorem jgZ {q:Pn} : (p.1==q.1&&p.2==q.2) =decide (p=q) :=by
 rw [jjT]
 simp [Prod.ext_iff]
section
variable {P:Program} {T K E:TypeId} {w:World}
theorem SE (H:MapTy P T K E) (p:Pn) :∀(G:List (Pn×Value)) (i:Nat),(Instr.findAsking K (pV p) (wT G i) i).run P w= .ok (KW p G i) w
 | [],i=>by simp [Instr.findAsking,wT,KW]
 | (q,v) ::l,i=>by
  have ih:=SE H p l (i+1)
  simp only [Instr.findAsking,wT,KW,Sem.run_bind,H.eq,Result.andThen_ok,jgZ]
  by_cases h:p=q
  ·simp [h]
  ·simp [h,ih]
theorem SF (H:MapTy P T K E) (p:Pn) (G:List (Pn×Value)) : (Instr.findKey K (pV p) (wT G 0)).run P w= .ok (KW p G 0) w:=by
 obtain ⟨d,hd,hn⟩ :=H.now
 unfold Instr.findKey
 simp only [Sem.run_bind,run_underlying hd,Result.andThen_ok]
 cases G with
 | nil=>simp [wT,Instr.findNow,KW]
 | cons a l=>
  obtain ⟨q,v⟩ :=a
  have:Instr.findNow d (pV p) (wT ((q,v) ::l) 0) 0=none:=by simp [wT,Instr.findNow,hn]
  rw [this]
  exact SE H p _ 0
theorem MI:∀(G:List (Pn×Value)) (i j:Nat),(wT G i)[j]? = (G[j]?).map fun e=>⟨pV e.1,e.2,i+j⟩
 | [],_,_=>by simp [wT]
 | (p,v) ::l,i,0=>by simp [wT]
 | (p,v) ::l,i,j+1=>by
  simp only [wT,List.getElem?_cons_succ,MI l (i+1) j]
  rw [show i+1+j=i+ (j+1) by omega]
theorem Fr:∀(G:List (Pn×Value)) (i:Nat) (p:Pn) (v:Value),wT G i++ [⟨pV p,v,i+G.length⟩] =wT (G++ [(p,v)]) i
 | [],i,p,v=>by simp [wT]
 | (q,u) ::l,i,p,v=>by
  have:=Fr l (i+1) p v
  simp only [wT,jjN,jjr]
  rw [←this,show i+1+l.length=i+ (l.length+1) by omega]
theorem OB {p:Pn} :∀ {G:List (Pn×Value)} {i j:Nat} {v:Value},KW p G i=some (j,v)→i≤j∧G[j- i]? =some (p,v)
 | [],_,_,_,h=>by cases h
 | (q,u) ::l,i,j,v,h=>by
  unfold KW at h
  split at h
  ·rename_i e
   injection h with h
   injection h with h1 h2
   subst h1 h2 e
   simp
  ·have:=OB h
   refine⟨by omega,?_⟩
   rw [show j- i= (j- (i+1)) +1 by omega]
   simpa using this.2
theorem jcR (p:Pn) : (Instr.keyThatStays (pV p) (pV p)).run P w= .ok (pV p) w:=by
 have hs:Instr.sameBits 10000 (pV p) (pV p) =true:=by
  show Instr.sameBits (9999+1) (pV p) (pV p) =true
  simp [Instr.sameBits,pV]
 simp [Instr.keyThatStays,hs]
def E0 (p:Pn) (G:List (Pn×Value)) :List (Pn×Value) :=match KW p G 0 with
 | some _=>G
 | none=>G++ [(p, .slice none 0 0)]
def jaP (p:Pn) (G:List (Pn×Value)) :Nat:=match KW p G 0 with
 | some x=>x.1
 | none=>G.length
def BW (p:Pn) (G:List (Pn×Value)) :Value:=match KW p G 0 with
 | some x=>x.2
 | none=> .slice none 0 0
theorem jcy {o o':Obj} (h:w.heap[b]? =some o) : ({w with heap:=w.heap.setIfInBounds b o'} :World).heap[b]? =some o':=by
 have:=JT h
 simp [Array.getElem?_setIfInBounds,this]
theorem ja3 (H:MapTy P T K E) (hb:w.heap[b]? =some (xg G)) (p:Pn) :
  (Instr.mapEntry T (.map (some b)) (pV p)).run P w= .ok (.tuple #[BW p G, .int .i64 (jaP p G:Nat)]) {w with heap:=w.heap.setIfInBounds b (xg (E0 p G))} :=by
 have hb':w.heap[b]? =some (.map (wT G 0).toArray G.length) :=hb
 have hf: (Instr.findKey K (pV p) (wT G 0).toArray.toList).run P w= .ok (KW p G 0) w:=by rw [jkr];exact SF H p G
 unfold BW jaP E0
 cases hg:KW p G 0 with
 | none=>
  rw [hg] at hf
  have e: (wT G 0).toArray.push ⟨pV p, .slice none 0 0,G.length⟩ = (wT (G++ [(p, .slice none 0 0)]) 0).toArray:=by
   rw [←Fr,jjP]
   simp
  simp only [Instr.mapEntry,Sem.run_bind,run_underlying H.map,Result.andThen_ok,MapKept.run_getObj_map hb',H.chk,hf,H.zero,MapKept.run_setObj_map _ hb',e,Sem.run_pure,goInt]
  unfold xg
  rw [jjk]
  rfl
 | some x=>
  obtain ⟨j,v⟩ :=x
  rw [hg] at hf
  obtain ⟨_,hj⟩ :=OB hg
  rw [Nat.sub_zero] at hj
  have hj': (wT G 0).toArray[j]? =some ⟨pV p,v,j⟩ :=by
   rw [List.getElem?_toArray,MI,hj]
   simp
  have hsame: (wT G 0).toArray.modify j (fun e=> {e with key:=pV p}) = (wT G 0).toArray:=by
   apply Array.ext'
   rw [Array.toList_modify]
   refine List.ext_getElem? fun i=> ?_
   rw [List.getElem?_modify]
   by_cases hi:j=i
   ·subst hi
    rw [List.getElem?_toArray] at hj'
    simp [hj']
   ·simp [hi]
  simp only [Instr.mapEntry,Sem.run_bind,run_underlying H.map,Result.andThen_ok,MapKept.run_getObj_map hb',H.chk,hf,hj',jla,Option.getD_some,jcR,hsame,MapKept.run_setObj_map _ hb',Sem.run_pure,goInt]
  rfl
theorem R9:∀(G:List (Pn×Value)) (i j:Nat),j<G.length→(wT G i).findIdx? (fun e=> ((e.born:Nat) :Int) == ((i+j:Nat) :Int)) =some j
 | [],_,_,h=>absurd h (by simp)
 | (p,v) ::l,i,0,_=>by simp [wT,List.findIdx?_cons]
 | (p,v) ::l,i,j+1,h=>by
  have ih:=R9 l (i+1) j (by simpa using h)
  rw [show i+1+j=i+ (j+1) by omega] at ih
  have hb: (((i:Nat) :Int) == ((i+ (j+1) :Nat) :Int)) =false:=by rw [beq_eq_false_iff_ne];omega
  simp only [wT,List.findIdx?_cons,hb,ih]
  simp
theorem jc1 (h:G[j]? =some (p,u)) : (wT G 0).toArray.modify j (fun e=> {e with val:=v}) = (wT (G.set j (p,v)) 0).toArray:=by
 apply Array.ext'
 rw [Array.toList_modify]
 refine List.ext_getElem? fun i=> ?_
 have hj:= (List.getElem?_eq_some_iff.1 h).1
 rw [List.getElem?_modify,jkr,MI,MI,List.getElem?_set]
 by_cases hi:j=i
 ·subst hi
  obtain ⟨_,e⟩ :=List.getElem?_eq_some_iff.1 h
  simp [hj,e]
 ·simp [hi]
theorem run_store (hb:w.heap[b]? =some (xg G)) (h:G[j]? =some (p,u)) :
  (Instr.entryStore T (.map (some b)) (.int .i64 (j:Nat)) v).run P w= .ok () {w with heap:=w.heap.setIfInBounds b (xg (G.set j (p,v)))} :=by
 have hb':w.heap[b]? =some (.map (wT G 0).toArray G.length) :=hb
 have hj:= (List.getElem?_eq_some_iff.1 h).1
 have hidx: (wT G 0).toArray.findIdx? (fun e=> ((e.born:Nat) :Int) == ((j:Nat) :Int)) =some j:=by
  have:=R9 G 0 j hj
  rw [jjP] at this
  simpa using this
 simp only [Instr.entryStore,Sem.run_bind,Sem.run_pure,Result.andThen_ok,MapKept.run_getObj_map hb',asInt,asIntOf,hidx,jc1 h,MapKept.run_setObj_map _ hb']
 unfold xg
 rw [jky]
theorem jdX (H:MapTy P T K E) (hb:w.heap[b]? =some (xg G)) (p:Pn) :
  (Instr.lookup T (.map (some b)) (pV p) false).run P w= .ok (BW p G) w:=by
 have hb':w.heap[b]? =some (.map (wT G 0).toArray G.length) :=hb
 have hf: (Instr.findKey K (pV p) (wT G 0).toArray.toList).run P w= .ok (KW p G 0) w:=by rw [jkr];exact SF H p G
 unfold BW
 cases hg:KW p G 0 with
 | none=>
  rw [hg] at hf
  simp [Instr.lookup,run_underlying H.map,MapKept.run_getObj_map hb',H.chk,hf,H.zero,Result.andThen]
 | some x=>
  rw [hg] at hf
  simp [Instr.lookup,run_underlying H.map,MapKept.run_getObj_map hb',H.chk,hf,Result.andThen]
end
section
variable {P:Program} {n:Nat} {env:List (Nat×Value)} {w0:Bs} {Rs:List Res} {o:Oper} {Q:Exit→Act→World→Prop} {K:Act→World→Prop}
theorem PA {T d:Nat} (ho:o.op= .makeMap T none) (hd:o.dst=some d) (hn:d<n) (h:∀b,At n ((d, .map (some b)) ::env) w0 (Rs++ [.mp b []]) K) :At n env w0 Rs (fun a w=>o.wp P a w K Q) :=fun a w hF hs=>by
 have: (execOp a.eval o).run P w= .ok (.value (.map (some w.heap.size))) (w.alloc (.map #[] 0)) :=by
  unfold execOp
  simp only [ho]
  simp [Instr.makeMap]
 show o.upon P a K Q ((execOp a.eval o).run P w)
 rw [this,Oper.upon_value,hd]
 exact h _ _ _ (hF.put hn _) (hs.add (Over.alloc _ _) (by show(w.alloc (.map #[] 0)).heap[w.heap.size]? =some (.map #[] 0);exact(MapKept.heap_alloc w _).1) (fun b hb=>Nat.le_of_eq hb.symm) ⟨jjo _,fun _ _=>jjo _⟩)
theorem jda {G':List (Pn×Value)} (hs:St w0 Rs w) (hk:Rs[k]? =some (.mp b G)) :St w0 (Rs.set k (.mp b G')) {w with heap:=w.heap.setIfInBounds b (xg G')} :=by
 have hh:w.heap[b]? =some (xg G) := (hs.all k _ hk).1
 have hlow:= (hs.all k _ hk).2.1 b rfl
 have hne:∀c,c≠b→({w with heap:=w.heap.setIfInBounds b (xg G')} :World).heap[c]? =w.heap[c]? :=fun c hc=>by simp [Array.getElem?_setIfInBounds,Ne.symm hc]
 refine hs.upd hk ⟨hs.over.os,hs.over.tape,hs.over.output,by simpa using hs.over.size,fun c hc hx=> ?_⟩ (by simp) (fun c _ h=>hne c h) (jcy hh) (fun c hc=> .inl hc) J
 have:c≠b:=fun e=>by
  subst e
  rcases hlow with h | h
  ·have h:w0.N≤c:=h
   omega
  ·exact hx h
 rw [hne c this]
 exact hs.over.block c hc hx
theorem TD {Kt E:TypeId} {d:Nat} (H:MapTy P T Kt E) (p:Pn) (ho:o.op= .mapEntry T x y) (hx:ev env x=some (.map (some b))) (hy:ev env y=some (pV p)) (hk:Rs[k]? =some (.mp b G)) (hd:o.dst=some d) (hn:d<n) (h:At n ((d, .tuple #[BW p G, .int .i64 (jaP p G:Nat)]) ::env) w0 (Rs.set k (.mp b (E0 p G))) K) :At n env w0 Rs (fun a w=>o.wp P a w K Q) :=fun a w hF hs=>by
 have hh:w.heap[b]? =some (xg G) := (hs.all k _ hk).1
 have hrun: (execOp a.eval o).run P w= .ok (.value (.tuple #[BW p G, .int .i64 (jaP p G:Nat)])) {w with heap:=w.heap.setIfInBounds b (xg (E0 p G))} :=by
  unfold execOp
  simp only [ho,hF.ev hx,hF.ev hy,Sem.run_bind,ja3 H hh p,Result.andThen_ok,Sem.run_pure]
 show o.upon P a K Q ((execOp a.eval o).run P w)
 rw [hrun,Oper.upon_value,hd]
 exact h _ _ (hF.put hn _) (jda hs hk)
theorem DE {z:Operand} (ho:o.op= .entryStore T x y z) (hd:o.dst=none) (hx:ev env x=some (.map (some b))) (hy:ev env y=some (.int .i64 (j:Nat))) (hz:ev env z=some v) (hk:Rs[k]? =some (.mp b G)) (hg:G[j]? =some (p,u)) (h:At n env w0 (Rs.set k (.mp b (G.set j (p,v)))) K) :At n env w0 Rs (fun a w=>o.wp P a w K Q) :=fun a w hF hs=>by
 have hh:w.heap[b]? =some (xg G) := (hs.all k _ hk).1
 have hrun: (execOp a.eval o).run P w= .ok .skip {w with heap:=w.heap.setIfInBounds b (xg (G.set j (p,v)))} :=by
  unfold execOp
  simp only [ho,hF.ev hx,hF.ev hy,hF.ev hz,Sem.run_bind,run_store hh hg,Result.andThen_ok,Sem.run_pure]
 show o.upon P a K Q ((execOp a.eval o).run P w)
 rw [hrun,Oper.upon_skip,hd]
 exact h _ _ hF (jda hs hk)
theorem jaV {Kt E:TypeId} (H:MapTy P T Kt E) (p:Pn) (hk:Rs[k]? =some (.mp b G)) (ho:o.op= .lookup T x y false) (hx:ev env x=some (.map (some b))) (hy:ev env y=some (pV p)) :Qt P o n env w0 Rs (BW p G) :=
 Q5 fun a w hF hs=>by
  have hh:w.heap[b]? =some (xg G) := (hs.all k _ hk).1
  unfold execOp
  simp only [ho,hF.ev hx,hF.ev hy,Sem.run_bind,jdX H hh p,Result.andThen_ok,Sem.run_pure]
end
theorem jgI:MapTy Tryz.prog 165 28 166 where
 map:=by kernel_rfl
 chk:=fun e p w=>by kernel_rfl
 eq:=fun p q w=>by
  show(Op.equalIn (9999+1) 28 (.agg #[.int .i64 p.1, .int .i64 p.2]) (.agg #[.int .i64 q.1, .int .i64 q.2])).run Tryz.prog w=_
  have hp:Tryz.prog.stoodInHeld 28=false:=by kernel_rfl
  rw [run_equalIn_agg w 9999 28 _ _ Kr hp]
  simp only [Program.fieldsOf,Tryz.underlying28]
  cases h1: (p.1==q.1) <;>cases h2: (p.2==q.2)
  all_goals
   simp only [beq_iff_eq,beq_eq_false_iff_ne] at h1 h2
   simp [Op.eqFields,go_sem, *]
 now:=⟨_,Tryz.underlying28,fun p q=>rfl⟩
 zero:=fun w=>by kernel_rfl
end Go.Proofs.YtbahojdbmmjkcaaGreat
