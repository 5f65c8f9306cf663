import Derived.Test.YtpncbbcmoiiipaaGreatKRowKit
import Derived.Test.YtpncbbcmoiiipaaGreatKTrS
set_option linter.unusedVariables false
set_option linter.unusedSimpArgs false
namespace Go.Proofs.YtpncbbcmoiiipaaGreat
open Go Go.RowKit
set_option maxRecDepth 100000
set_option maxHeartbeats 4000000
theorem RO (o b p:Pn) (w:World) (ho:bd2 o) (hb:bd2 b) (hp:bd2 p) :Calls Tryz.prog 221 #[pV o,pV b,pV p] w fun e w'=>e= .returned (.int .i64 (cwH o b p))∧Over w w':=by
 refine Jh (m:=18) (Tryz.func221) J J (lb J) ?_;refine S3 ?_;refine aX (fun b1=> ?_);refine N1 ?_;refine aX (fun b2=> ?_);refine N1 ?_;refine aX (fun b3=> ?_);refine N8 ?_;refine a9 (jT KD J J (fun w1 hs=>HG o b p w1 ho hb hp)) ?_;refine S9 ?_;refine cZ (fun c1=> ?_) (fun c1=> ?_)
 ·refine S7 ?_;refine jM J (.tmp J) ?_
  intro w' hs
  exact⟨YF (by rw [cwH,if_pos c1]),hs.fin⟩
 ·refine S6 ?_;refine cZ (fun c2=> ?_) (fun c2=> ?_)
  ·refine S7 ?_;refine jM J (.tmp J) ?_
   intro w' hs
   exact⟨YF (by rw [cwH,if_neg Om,if_pos c2]),hs.fin⟩
  ·refine S8 ?_;refine jM J (.tmp J) ?_
   intro w' hs
   exact⟨YF (by rw [cwH,if_neg Om,if_neg c2]),hs.fin⟩
theorem Du (o b p q:Pn) (w:World) (ho:bd2 o) (hb:bd2 b) (hp:bd2 p) (hq:bd2 q) :Calls Tryz.prog 173 #[pV o,pV b,pV p,pV q] w fun e w'=>e= .returned (.bool (cwF o b p q))∧Over w w':=by
 refine Jh (m:=30) (Tryz.func173) J J (lb J) ?_;refine S3 ?_;refine aX (fun b1=> ?_);refine N1 ?_;refine aX (fun b2=> ?_);refine N1 ?_;refine aX (fun b3=> ?_);refine N1 ?_;refine aX (fun b4=> ?_);refine N5 ?_;refine JS 10 ?_;refine dK 0 ?_;refine dK 1 ?_;refine dK 2 ?_;refine dZ 3 J (jT W9 J J (fun w1 hs=>RO o b p w1 ho hb hp)) ?_;refine dK 4 ?_;refine dK 5 ?_;refine dK 6 ?_;refine dZ 7 J (jT W9 J J (fun w1 hs=>RO o b q w1 ho hb hq)) ?_;refine dK 8 ?_;refine dK 9 ?_;refine JK Kr ?_;refine S7 ?_;refine cZ (fun c1=> ?_) (fun c1=> ?_)
 ·refine S9 ?_;refine jM J (.tmp J) ?_
  intro w' hs
  exact⟨QH (by rw [cwF,if_pos c1]),hs.fin⟩
 ·refine S7 ?_;refine a9 (jT KD J J (fun w1 hs=>HG o p q w1 ho hp hq)) ?_;refine S4 ?_;refine jM J (.tmp J) ?_
  intro w' hs
  exact⟨QH (by rw [cwF,if_neg (by simpa using c1)]),hs.fin⟩
structure Gp where
 p:Pn
 x:Option Addr×Nat
 is:List Nat
def Gp.val (g:Gp) :Pn×Value:= (g.p, .slice g.x.1 g.is.length g.x.2)
abbrev ixR (is:List Nat) (x:Option Addr×Nat) :Res:=JY 0 3 1 is.length (is.map fun (i:Nat) =>Value.int .i64 (i:Int)) x
def Gp.res (g:Gp) :Res:=ixR g.is g.x
def wF (l:List Gp) :List (Pn×Value) :=l.map Gp.val
abbrev R7 (l:List Gp) :Res:= .many (l.map Gp.res)
def UF (v:Pn) :List Gp→List Nat
 | [] => []
 | g::l=>if v=g.p then g.is else UF v l
theorem MY {v:Pn} :∀ {l:List Gp} {i:Nat},KR v (wF l) i=none→UF v l= []
 | [],_,_=>rfl
 | g::l,i,h=>by
  have h: (if v=g.p then some (i,g.val.2) else KR v (wF l) (i+1)) =none:=h
  unfold UF
  split at h
  ·cases h
  ·rename_i hn
   rw [if_neg hn]
   exact MY h
theorem Xp {v:Pn} {j:Nat} {u:Value} :∀ {l:List Gp} {i:Nat},KR v (wF l) i=some (j,u)→i≤j∧∃g,l[j- i]? =some g∧g.p=v∧u= .slice g.x.1 g.is.length g.x.2∧UF v l=g.is
 | [],_,h=>by cases h
 | g::l,i,h=>by
  have h: (if v=g.p then some (i,g.val.2) else KR v (wF l) (i+1)) =some (j,u) :=h
  unfold UF
  split at h
  ·rename_i e
   injection h with h
   injection h with h1 h2
   subst h1
   rw [if_pos e]
   exact⟨jih _,g,by simp,e.symm,h2.symm,rfl⟩
  ·rename_i hn
   rw [if_neg hn]
   obtain ⟨h1,g',h2,h3⟩ :=Xp h
   refine⟨by omega,g',?_,h3⟩
   rw [show j- i= (j- (i+1)) +1 by omega]
   simpa using h2
theorem Nf {p v:Pn} {g':Gp} (hg:g'.p=p) {j:Nat} {u:Value} :∀ {l:List Gp} {i:Nat},KR p (wF l) i=some (j,u)→UF v (l.set (j- i) g') =if v=p then g'.is else UF v l
 | [],_,h=>by cases h
 | g::l,i,h=>by
  have h: (if p=g.p then some (i,g.val.2) else KR p (wF l) (i+1)) =some (j,u) :=h
  split at h
  ·rename_i e
   injection h with h
   injection h with h1 h2
   subst h1
   rw [jp3,jp2]
   simp only [UF,hg]
   by_cases hv:v=p
   ·rw [if_pos hv,if_pos hv]
   ·rw [if_neg hv,if_neg hv,if_neg (fun k=>hv (k.trans e.symm))]
  ·rename_i hn
   have hj:= (Xp h).1
   have ih:=Nf (v:=v) hg h
   rw [show j- i= (j- (i+1)) +1 by omega,List.set_cons_succ]
   simp only [UF]
   by_cases hv:v=g.p
   ·rw [if_pos hv,if_pos hv,if_neg (fun k=>hn (k.symm.trans hv))]
   ·rw [if_neg hv,if_neg hv,ih]
def YY (p:Pn) :Gp:=⟨p,(none,0),[]⟩
theorem jgx {p v:Pn} :∀ {l:List Gp},KR p (wF l) 0=none→UF v (l++ [YY p]) =UF v l:=by
 have key:∀(l:List Gp) (i:Nat),KR p (wF l) i=none→UF v (l++ [YY p]) =UF v l:=by
  intro l
  induction l with
  | nil=>
   intro i _
   simp only [jiW,UF,YY]
   split<;>rfl
  | cons g l ih=>
   intro i h
   have h: (if p=g.p then some (i,g.val.2) else KR p (wF l) (i+1)) =none:=h
   split at h
   ·cases h
   ·simp only [jiJ,UF]
    rw [ih _ h]
 intro l h
 exact key l 0 h
theorem PK {p:Pn} :∀ {l:List Gp} {i:Nat},KR p (wF l) i=none→KR p (wF (l++ [YY p])) i=some (i+l.length, .slice none 0 0)
 | [],i,_=>by simp [wF,YY,Gp.val,KR]
 | g::l,i,h=>by
  have h: (if p=g.p then some (i,g.val.2) else KR p (wF l) (i+1)) =none:=h
  split at h
  ·cases h
  ·rename_i hn
   show(if p=g.p then some (i,g.val.2) else KR p (wF (l++ [YY p])) (i+1)) =_
   rw [if_neg hn,PK h,jim]
   congr 2
   omega
theorem jga (l:List Gp) (p:Pn) :∃(l':List Gp) (j:Nat) (g:Gp),Ee p (wF l) =wF l'∧jaa p (wF l) =j∧Bj p (wF l) = .slice g.x.1 g.is.length g.x.2∧l'[j]? =some g∧g.p=p∧g.is=UF p l∧(l'=l∨l'=l++ [YY p])∧
  ∀g',g'.p=p→∀v,UF v (l'.set j g') =if v=p then g'.is else UF v l:=by
 unfold Ee jaa Bj
 cases h:KR p (wF l) 0 with
 | none=>
  have h2:=PK h
  rw [jiL] at h2
  refine⟨l++ [YY p],l.length,YY p,by simp [wF,YY,Gp.val],by simp [wF],J,by simp,J,(MY h).symm, .inr J,fun g' hg v=> ?_⟩
  have:=Nf (v:=v) hg h2
  rw [jp4] at this
  rw [this,jgx h]
 | some x=>
  obtain ⟨j,u⟩ :=x
  obtain ⟨_,g,h1,h2,h3,h4⟩ :=Xp h
  rw [jp4] at h1
  refine⟨l,j,g,J,J,h3,h1,h2,h4.symm, .inl J,fun g' hg v=> ?_⟩
  have:=Nf (v:=v) hg h
  rw [jp4] at this
  exact this
theorem jcb (l:List Gp) (v:Pn) :∃x:Option Addr×Nat,Bj v (wF l) = .slice x.1 (UF v l).length x.2∧∀w,(R7 l).P w→(ixR (UF v l) x).P w:=by
 unfold Bj
 cases h:KR v (wF l) 0 with
 | none=>
  rw [MY h]
  exact⟨(none,0),rfl,fun w _=>World.ownsRow_nil _ _ _ _⟩
 | some y=>
  obtain ⟨j,u⟩ :=y
  obtain ⟨_,g,h1,h2,h3,h4⟩ :=Xp h
  rw [jp4] at h1
  rw [h4]
  exact⟨g.x,h3,fun w hP=> (hP.1 g.res (jip.2 ⟨g,List.mem_of_getElem? h1,rfl⟩)).1⟩
section
variable {n:Nat} {env:List (Nat×Value)} {w0:Bs} {Rs:List Res} {K:Act→World→Prop}
theorem jhC {p:Pn} (b:Nat) :¬(YY p).res.F b:=fun h=>by
 have h:Value.ownBlock (.slice none 0 0) =some b:=h
 simp [Value.ownBlock] at h
theorem ja0 (k:Nat) {l l':List Gp} {p:Pn} (hk:Rs[k]? =some (R7 l)) (hl:l'=l∨l'=l++ [YY p]) (h:At n env w0 (Rs.set k (R7 l')) K) :At n env w0 Rs K:=fun a w hf hs=>by
 refine h a w hf (hs.chg hk (fun hP=> ?_) (fun c hc=> ?_) J)
 ·rcases hl with rfl | rfl
  ·exact hP
  ·rw [R7,jiO]
   refine⟨fun r hr=> ?_,?_⟩
   ·rcases jiv.1 hr with hr | hr
    ·exact hP.1 r hr
    ·rw [jik.1 hr]
     exact⟨World.ownsRow_nil _ _ _ _,rfl⟩
   ·refine jjN.2 ⟨hP.2,jjD _ _,fun r _ s hs b _ hb=> ?_⟩
    rw [jik.1 hs] at hb
    exact jhC b hb
 ·rcases hl with rfl | rfl
  ·exact hc
  ·obtain ⟨r,hr,hb⟩ :=hc
   rw [jiO] at hr
   rcases jiv.1 hr with hr | hr
   ·exact⟨r,hr,hb⟩
   ·rw [jik.1 hr] at hb
    exact absurd hb (jhC c)
theorem jdX (k j:Nat) {L:List Res} {r:Res} (hk:Rs[k]? =some (.many L)) (hj:L[j]? =some r) (h:At n env w0 (Rs.set k (.many (L.eraseIdx j)) ++ [r]) K) :At n env w0 Rs K:=fun a w hf hs=>by
 have hm:=hs.all k _ hk
 have hmem:r∈L:=List.mem_of_getElem? hj
 have hperm:L.Perm (r::L.eraseIdx j) :=by
  obtain ⟨hl,e⟩ :=List.getElem?_eq_some_iff.1 hj
  have e1:L=L.take j++r::L.drop (j+1) :=by rw [←e,←jiY hl,jiw]
  rw [List.eraseIdx_eq_take_drop_succ]
  conv=>lhs;rw [e1]
  exact List.perm_middle
 have hpw: (r::L.eraseIdx j).Pairwise (fun (r s:Res) =>∀b:Nat,r.F b→¬s.F b) :=hperm.pairwise hm.1.2 (fun h b h1 h2=>h b h2 h1)
 have hpc:=jiR.1 hpw
 have hs1:St w0 (Rs.set k (.many (L.eraseIdx j))) w:=hs.chg hk (fun hP=>⟨fun s hs'=>hP.1 s (List.mem_of_mem_eraseIdx hs'),hpc.2⟩) (fun c hc=>by
  obtain ⟨s,hs',hb⟩ :=hc
  exact⟨s,List.mem_of_mem_eraseIdx hs',hb⟩) rfl
 refine h a w hf (hs1.add' (hm.1.1 r hmem).1 (fun b hb=>hm.2.1 b ⟨r,hmem,hb⟩) (fun i s hi b hb hsb=> ?_) (hm.1.1 r hmem).2)
 rw [List.getElem?_set] at hi
 by_cases hik:k=i
 ·rw [if_pos hik] at hi
  split at hi
  ·injection hi with hi
   subst hi
   obtain ⟨t,ht,hb2⟩ :=hsb
   exact hpc.1 t ht b hb hb2
  ·cases hi
 ·rw [if_neg hik] at hi
  exact hs.apart k i _ _ hik hk hi b ⟨r,hmem,hb⟩ hsb
theorem ja1 (k:Nat) {L L':List Res} (hk:Rs[k]? =some (.many L)) (hp:L.Perm L') (h:At n env w0 (Rs.set k (.many L')) K) :At n env w0 Rs K:=fun a w hf hs=>
 h a w hf (hs.chg hk (fun hP=>DN hp hP) (fun c hc=>by
  obtain ⟨s,hs',hb⟩ :=hc
  exact⟨s,hp.mem_iff.2 hs',hb⟩) rfl)
end
theorem jaq {α:Type} {L:List α} {j:Nat} {r:α} (h:j<L.length) : (L.eraseIdx j++ [r]).Perm (L.set j r) :=by
 rw [List.eraseIdx_eq_take_drop_succ,List.set_eq_take_append_cons_drop,if_pos h]
 rw [jil]
 exact List.Perm.append_left _ (List.perm_append_comm (l₁:=L.drop (j+1)) (l₂:= [r]))
def Nh (B:List Leg) (v:Pn) (k:Nat) :List Nat:= (List.range k).filter fun i=>decide (lA (lg B i) =v)
theorem EI (B:List Leg) (v:Pn) (k:Nat) :Nh B v (k+1) =if v=lA (lg B k) then Nh B v k++ [k] else Nh B v k:=by
 unfold Nh
 rw [List.range_succ,jjT]
 by_cases h:v=lA (lg B k)
 ·rw [if_pos h];simp [h]
 ·rw [if_neg h];simp [Ne.symm h]
theorem Sc (B:List Leg) (v:Pn) (k:Nat) : (Nh B v k).length≤k:=by
 have:=jjV (fun i=>decide (lA (lg B i) =v)) (List.range k)
 rwa [List.length_range] at this
theorem PL {S:Nat→Bool} {lt:Nat→Nat→Bool} {m:Nat} :∀ {l:List Nat} {b:Option Nat},l.foldl (Ls S lt) b=some m→b=some m∨m∈l
 | [],b,h=> .inl h
 | k::l,b,h=>by
  rw [jjd] at h
  rcases PL h with h | h
  ·unfold Ls at h
   split at h
   ·split at h
    ·injection h with h;exact .inr (by rw [h];simp)
    ·cases h
   ·split at h
    ·injection h with h;exact .inr (by rw [h];simp)
    ·exact .inl h
  ·exact .inr (jiq _ h)
def BF (B:List Leg) (u:List Bool) (f a:Nat) (k:Nat) :Option Nat:= ((Sd B (lB (lg B a))).take k).foldl (Ls (vL u f) (ltI B (lB (lg B a)) (lA (lg B a)))) none
theorem jbg {B:List Leg} {u:List Bool} {f a k:Nat} (h:k< (Sd B (lB (lg B a))).length) :BF B u f a (k+1) =Ls (vL u f) (ltI B (lB (lg B a)) (lA (lg B a))) (BF B u f a k) (Sd B (lB (lg B a)))[k] :=by
 unfold BF
 rw [jin h,jj7]
 rfl
theorem jbf {B:List Leg} {u:List Bool} {f a k m:Nat} (h:BF B u f a k=some m) :m<B.length:=by
 rcases PL h with h | h
 ·cases h
 ·have:=jiZ h
  unfold Sd at this
  exact List.mem_range.1 (ji6.1 this).1
theorem jgy {B:List Leg} {v:Pn} {k:Nat} (h:k< (Sd B v).length) : (Sd B v)[k] <B.length:=by
 have:=jis h
 unfold Sd at this
 exact List.mem_range.1 (ji6.1 this).1
def tkI (B:List Leg) (u:List Bool) (f a:Nat) (b:Option Nat) (x:Nat) :Bool:=vL u f x&&Z8 (ltI B (lB (lg B a)) (lA (lg B a))) b x
theorem jdB {B:List Leg} {u:List Bool} {f a x:Nat} {b:Option Nat} (h:tkI B u f a b x=true) :Ls (vL u f) (ltI B (lB (lg B a)) (lA (lg B a))) b x=some x:=by
 unfold tkI Z8 at h
 unfold Ls
 cases b<;>simp_all
theorem jdA {B:List Leg} {u:List Bool} {f a x:Nat} {b:Option Nat} (h:tkI B u f a b x=false) :Ls (vL u f) (ltI B (lB (lg B a)) (lA (lg B a))) b x=b:=by
 unfold tkI Z8 at h
 unfold Ls
 cases b<;>simp_all
theorem jbM {u:List Bool} {f x:Nat} (h:yw u x=false) :vL u f x=true:=by simp [vL,h]
theorem jbN {u:List Bool} {f x:Nat} (h:x=f) :vL u f x=true:=by simp [vL,h]
theorem jgr {u:List Bool} {f x:Nat} (h:yw u x=true) (h2:¬x=f) :vL u f x=false:=by simp [vL,h,h2]
theorem jd8 {B:List Leg} {u:List Bool} {f a:Nat} :BF B u f a (Sd B (lB (lg B a))).length=YU B u f a:=by
 unfold BF YU
 rw [jiX]
def Ry (b:Option Nat) (f:Nat) :Bool:=match b with
 | none=>true
 | some m=>decide (m=f)
theorem jbd {B:List Leg} {u:List Bool} {f a:Nat} (h:Ry (YU B u f a) f=true) :Ba B u f a=none:=by
 unfold Ba
 cases e:YU B u f a with
 | none=>rfl
 | some m=>
  rw [e] at h
  simp only [Ry,decide_eq_true_eq] at h
  simp only
  rw [if_pos h]
theorem jgf {B:List Leg} {u:List Bool} {f a:Nat} (h:Ry (YU B u f a) f=false) :∃m,YU B u f a=some m∧Ba B u f a=some m:=by
 unfold Ba
 cases e:YU B u f a with
 | none=>rw [e] at h;cases h
 | some m=>
  rw [e] at h
  simp only [Ry,decide_eq_false_iff_not] at h
  exact⟨m,rfl,by simp only;rw [if_neg h]⟩
theorem jgs (p:Pn) (x:Option Addr×Nat) (is:List Nat) (i:Nat) : (Gp.mk p x (is++ [i])).res=JY 0 3 1 (is.length+1) (is.map (fun (i:Nat) =>Value.int .i64 (i:Int)) ++ [.int .i64 (i:Int)]) x:=by
 simp [Gp.res,ixR]
theorem jew {l:List Gp} {j:Nat} {g':Gp} {v:Value} {p:Pn} (hp:g'.p=p) (h:g'.val.2=v) : (wF l).set j (p,v) =wF (l.set j g') :=by
 rw [wF,wF,List.map_set]
 congr 1
 subst hp h
 rfl
theorem jhx {is:List Nat} {k:Nat} (h:k<is.length) : (is.map fun (i:Nat) =>Value.int .i64 (i:Int))[k]? =some (.int .i64 ((is[k] :Nat) :Int)) :=by simp [h]
section
variable {w0:Bs} {Rs:List Res}
theorem jh5 {is:List Nat} {x:Option Addr×Nat} {k m:Nat} (hr:∀w,St w0 Rs w→(ixR is x).P w) (h:k<is.length) (hm:m=is[k]) :∀w,St w0 Rs w→w.cell? ⟨W3 x.1,0+k*1,none⟩ =some (.int .i64 ((m:Nat) :Int)) :=fun w hs=>by
 rw [jiL,jjf,hm]
 exact X5 (hr w hs) (jhx h)
end
theorem jdC {B:List Leg} {u:List Bool} {f a x:Nat} {b:Option Nat} (h:vL u f x=true) (hb:b=none) :true=tkI B u f a b x:=by simp [tkI,h,hb,Z8]
theorem jdD {B:List Leg} {u:List Bool} {f a x m:Nat} {b:Option Nat} (h:vL u f x=true) (hb:b=some m) :cwF (lB (lg B a)) (lA (lg B a)) (lB (lg B x)) (lB (lg B m)) =tkI B u f a b x:=by simp [tkI,h,hb,Z8,ltI]
theorem jg8 {B:List Leg} {u:List Bool} {f a x:Nat} {b:Option Nat} (h:vL u f x=false) :false=tkI B u f a b x:=by simp [tkI,h]
theorem jhn {b:Option Nat} {f:Nat} (hb:b=none) :true=Ry b f:=by rw [hb];rfl
theorem jho {b:Option Nat} {f m:Nat} (hb:b=some m) : (((m:Nat) :Int) == ((f:Nat) :Int)) =Ry b f:=by
 rw [hb,jiN]
 simp only [Ry,beq_iff_eq,decide_eq_true_eq]
 omega
theorem jai {w:World} {B T n:Nat} {l:List Pc} {x:Option Addr×Nat} (hrow: (JY B T 1 n (l.map Pc.val) x).P w) (hP: (vE l).P w) (hl:l.length=n) (hc:∀e∈l,e.xs.length≤e.c) :RingsC w x.1 n (l.map (·.xs)) :=by
 have hrow:w.ownsRow B T 1 (.slice x.1 n x.2) n (l.map Pc.val) :=hrow
 refine⟨by rw [jit,hl],fun h0=> ?_⟩
 obtain ⟨g,hg⟩ :∃g,x.1=some ⟨g,0,none⟩ :=by
  rcases hrow.2 with⟨_,e⟩ |⟨g,cap,cur,e,_⟩
  ·omega
  ·injection e with e1
   exact⟨g,e1⟩
 rw [hg] at hrow⊢
 refine⟨g,0,J,jdc hrow,fun k hk=> ?_⟩
 have hkl:k<l.length:=by omega
 have hm:=jis hkl
 rw [YG hkl]
 refine⟨l[k].A,l[k].c,?_,Ze hP hm,hc _ hm⟩
 have:=CA hrow (j:=k) (v:=l[k].val) (by rw [List.getElem?_map,List.getElem?_eq_getElem hkl];rfl)
 rw [jjf] at this
 exact this
abbrev L5 (lo hi n:Nat) (rs:List jV) (A:Option Addr) :Res:= .clo lo hi (fun w=>RingsC w A n rs)
theorem je9 {w w':World} {Rs:List Res} (hs:St ⟨w,[]⟩ Rs w') {kr kp B T n:Nat} {l:List Pc} {x:Option Addr×Nat} {rs:List jV} (hr:Rs[kr]? =some (JY B T 1 n (l.map Pc.val) x)) (hp:Rs[kp]? =some (vE l)) (hl:l.length=n) (hrs:l.map (·.xs) =rs) (hc:∀e∈l,e.xs.length≤e.c) : (L5 w.heap.size w'.heap.size n rs x.1).P w':=by
 have h1:=hs.all kr _ hr
 have h2:=hs.all kp _ hp
 have f1:∀b,(JY B T 1 n (l.map Pc.val) x).F b→w.heap.size≤b:=fun b hb=> (h1.2.1 b hb).elim id (fun h=>by cases h)
 have f2:∀b,(vE l).F b→w.heap.size≤b:=fun b hb=> (h2.2.1 b hb).elim id (fun h=>by cases h)
 refine⟨jih _,fun u hu ha=> ?_⟩
 rw [←hrs]
 exact jai (Res.dep _ w' u h1.1 hu fun b hb h=>ha b (h.elim (fun k=>absurd k (Nat.not_lt_zero _)) (f1 b)) hb) (Res.dep _ w' u h2.1 hu fun b hb h=>ha b (h.elim (fun k=>absurd k (Nat.not_lt_zero _)) (f2 b)) hb) hl hc
theorem V6 (A:Option Addr) (n c:Nat) (B:List Leg) (w:World) (h:Legs w A n B) (hB:BoOk B) (hT:TrOk B) :
  Calls Tryz.prog 110 #[.slice A n c] w fun e w'=>∃A' c',e= .returned (qT A' (KG B).length c')∧OwnG w.heap.size w'.heap.size w' A' (KG B).length (KG B)∧(L5 w.heap.size w'.heap.size (KG B).length (KG B) A').P w'∧Over w w':=by
 have hl:=h.1
 have hn:=hB.len
 rw [hl] at hn
 have hok:=hB.ok
 refine Jh (m:=124) (Tryz.func110) J J (lb J) ?_;refine S3 ?_;refine aL (fun b1=> ?_);refine N4 ?_;refine NE J J Dc (fun mb=> ?_);refine N2 ?_;refine Vq ?_;refine t9 ?_;refine S8 ?_;refine JQ (X:=Nat×List Gp) (fun x=>x.1≤n∧∀v,UF v x.2=Nh B v x.1) (fun x=>n- x.1) (fun x=> [(19, .int .i64 (x.1:Int))]) (kK [0,2,3,17,18]) (fun x=> [.cel b1 26 [.slice none 0 0], .mp mb (wF x.2),R7 x.2]) (0,[]) (⟨jii _,fun v=>rfl⟩) ⟨J,sz⟩ (fun _ h=>h) ?_
 intro⟨i,l⟩ hx L hL1
 refine v9 ?_;refine r9 ?_
 obtain ⟨hi,hix⟩ :i≤n∧∀v,UF v l=Nh B v i:=hx
 refine S5 ?_;refine cZ (fun c1=> ?_) (fun c1=> ?_)
 ·have hil:i<n:=Om
  obtain ⟨eb,eo,rfl,_⟩ :=h.2 Om
  obtain ⟨l',j,g,k1,k2,k3,k4,k5,k6,k7,k8⟩ :=jga l (lA (lg B i))
  have hgl:g.is.length≤4096:= (by rw [k6,hix];have:=Sc B (lA (lg B i)) i;omega)
  have hjl:= (List.getElem?_eq_some_iff.1 k4).1
  refine S7 ?_;refine a9 (jN (j:=i) J J J Jf Om) ?_;refine a9 (jk J J qG J (ya (fun w' hs=>h.over hs.fin) hil)) ?_;refine S1 ?_;refine aL (fun b2=> ?_);refine N10 ?_;refine Jx J J (MJ J) J (lb J) (fun b3=> ?_);refine N1 ?_;refine SS (k:=1) jfV (lA (lg B i)) J J J J J Dc ?_
  rw [k1,k2,k3]
  refine n9 ?_;refine ja0 2 J k7 ?_;refine t9 ?_;refine jdX 2 j J (by rw [List.getElem?_map,k4];rfl) ?_;refine t9 ?_;refine S2 ?_;refine JV (k:=5) J xV IT Dc J Dc J J J (fun w' hs=>Qb hs (k:=4) J J) (by simp [Value.oneCell']) (by unfold maxLen;omega) Om (jii _) (fun r1=> ?_);refine N2 ?_;refine BX (k:=1) (j:=j) (p:=lA (lg B i)) (u:= .slice g.x.1 g.is.length g.x.2) J J J J J J (by rw [wF,List.getElem?_map,k4];simp [Gp.val,k5]) ?_;refine n9 ?_
  obtain ⟨g',hg'⟩ :∃g':Gp,g'=⟨lA (lg B i),r1,g.is++ [i]⟩ :=⟨_,rfl⟩
  have hgr:=jgs (lA (lg B i)) r1 g.is i
  rw [←hg'] at hgr
  refine wN 2 5 J J Dc J ?_;refine t9 ?_;refine ja1 2 (L':= (l'.set j g').map Gp.res) J (by rw [List.map_set];have hp:=jaq (L:=l'.map Gp.res) (r:=g'.res) (j:=j) (by simpa using hjl);rw [hgr] at hp⊢;exact hp) ?_;refine t9 ?_
  rw [jew (g':=g') (by rw [hg']) (by rw [hg'];simp [Gp.val])]
  refine S7 ?_
  exact Ji hL1 ((i+1,l'.set j g')) (⟨(show i+1≤n by omega),fun v=> (by rw [k8 g' (by rw [hg']) v,EI,hg',hix v,k6,hix];split<;>simp_all)⟩) (by simp only;omega) ⟨vi Om,sz⟩ (u9 J)
 ·have hin:i=n:=Om
  have hixs:∀v,UF v l=Sd B v:= (fun v=>by rw [hix v,hin,←hl];rfl)
  clear hix
  refine S10 ?_;refine Cj J J J Va Yb J Dc Om Om (fun b4=> ?_);refine N2 ?_;refine Dg 3 1 n (b:=b4) (U:=4) (cs:= (List.replicate n false).map Value.bool) (by rw [←jbJ];simp) (by simp) Om ?_;refine t9 ?_;refine S3 ?_;refine aL (fun b5=> ?_);refine N1 ?_;refine Q7 (T:=77) (s:=1) ?_;refine t9 ?_;refine Vq ?_;refine t9 ?_;refine S8 ?_;refine JQ (X:=Nat×(Option Addr×Nat)×List Pc) (fun x=>x.1≤n∧x.2.2.map (·.xs) = (kL B x.1).2∧(∀e∈x.2.2,e.xs.length≤e.c)) (fun x=>n- x.1) (fun x=> [(39, .int .i64 (x.1:Int))]) (kK [0,2,3,6,7,38]) (fun x=> [.cel b1 26 [.slice none 0 0], .mp mb (wF l),R7 l,boR n (kL B x.1).1 (some ⟨b4,0,none⟩,n), .cel b5 26 [.slice x.2.1.1 x.2.2.length x.2.1.2],JY (Bs.N ⟨w,[]⟩) 77 1 x.2.2.length (x.2.2.map Pc.val) x.2.1,vE x.2.2]) (0,(none,0),[]) (⟨jii _,rfl,fun e he=> (by cases he)⟩) ⟨rfl,sz⟩ (fun _ h=>by rw [show(kL B 0).1=List.replicate n false by rw [←hl];rfl];exact h) ?_
  intro⟨i,⟨rA,rc⟩,ll⟩ hx2 L hL2
  refine v9 ?_;refine r9 ?_
  obtain ⟨hi,hmp,hcp⟩ :i≤n∧ll.map (·.xs) = (kL B i).2∧(∀e∈ll,e.xs.length≤e.c) :=hx2
  have hul: (kL B i).1.length=n:= (by rw [y6,hl])
  obtain ⟨tl1,tl2⟩ :=y7 (B:=B) i Om
  have hll:ll.length≤4096:= (by have:=congrArg List.length hmp;rw [jit] at this;omega)
  refine S5 ?_;refine cZ (fun c2=> ?_) (fun c2=> ?_)
  ·have hil:i<n:=Om
   refine S14 ?_;refine a9 (qQ (r:= (some ⟨b4,0,none⟩,n)) (j:=i) (fun w hs=> (hs.all 3 _ J).1) J J J Va hil) ?_;refine a9 (jn J J QT (jfg (r:= (some ⟨b4,0,none⟩,n)) (fun w hs=> (hs.all 3 _ J).1) Om)) ?_;refine S1 ?_;refine cZ (fun c3=> ?_) (fun c3=> ?_)
   ·refine S8 ?_
    exact Ji hL2 ((i+1,(rA,rc),ll)) (⟨(show i+1≤n by omega),(by rw [Gi c3];exact hmp),hcp⟩) (by simp only;omega) ⟨vi Om,sz⟩ (fun _ h=>h.upto ⟨J,J,J,by rw [Gi c3],sz⟩)
   ·obtain ⟨u0,hu0⟩ :∃u0,u0= (kL B i).1:=⟨_,rfl⟩
    have hst:yw u0 i=false:= (by rw [hu0];exact c3)
    obtain ⟨R,hR⟩ :∃R,R=uK B i (W4 u0) u0 i [] :=⟨_,rfl⟩
    have hnx:kL B (i+1) = (R.1,(kL B i).2++ [R.2]) := (by rw [C0 c3,hR,hu0])
    rw [←hu0] at hul⊢
    obtain ⟨_,hRl⟩ :=y7 (B:=B) (i+1) Om
    have hRs:R.2.length≤4096:= (by have:= (hRl R.2 (by rw [hnx];simp)).2.1;omega)
    obtain ⟨eb,eo,rfl,_⟩ :=h.2 Om
    refine S5 ?_;refine Q7 (T:=56) (s:=2) ?_;refine N1 ?_;refine Ul (X:= (Option Addr×Nat)×Int) (fun x=>True) (fun x=> [(9, .slice x.1.1 R.2.length x.1.2),(10, .int .i64 x.2)]) (kK [0,2,3,6,7,38,39,40,41,8,42,43,44,45]) (fun x=> [.cel b1 26 [.slice none 0 0], .mp mb (wF l),R7 l,boR n R.1 (some ⟨b4,0,none⟩,n), .cel b5 26 [.slice rA ll.length rc],JY (Bs.N ⟨w,[]⟩) 77 1 ll.length (ll.map Pc.val) (rA,rc),vE ll,JY (Bs.N ⟨w,[]⟩) 56 2 R.2.length (R.2.flatMap Js) x.1]) (fun L h_4=> ?_) ?_
    ·refine S6 ?_;refine JQ (X:=List Bool×Nat×List Pn×Option Addr×Nat) (fun y=>RunI B i u0 y.1 y.2.1 y.2.2.1∧y.2.2.1.length+W4 y.1≤4096) (fun y=>W4 y.1) (fun y=> [(9, .slice y.2.2.2.1 y.2.2.1.length y.2.2.2.2),(10, .int .i64 (y.2.1:Int))]) (kK [0,2,3,6,7,38,39,40,41,8,42,43,44,45,46]) (fun y=> [.cel b1 26 [.slice none 0 0], .mp mb (wF l),R7 l,boR n y.1 (some ⟨b4,0,none⟩,n), .cel b5 26 [.slice rA ll.length rc],JY (Bs.N ⟨w,[]⟩) 77 1 ll.length (ll.map Pc.val) (rA,rc),vE ll,JY (Bs.N ⟨w,[]⟩) 56 2 y.2.2.1.length (y.2.2.1.flatMap Js) y.2.2.2]) (u0,i,[],none,0) (⟨RunI.start Om Om hst,(by have:=FD u0;simp;omega)⟩) ⟨J,sz⟩ (fun _ h=>h) ?_
     intro⟨u,k,ps,qA,qc⟩ hy L hL3
     refine v9 ?_;refine r9 ?_
     obtain ⟨hI,hy2⟩ :RunI B i u0 u k ps∧ps.length+W4 u≤4096:=hy
     have hkB:=hI.la
     have hun:u.length=n:= (by rw [hI.len,hl])
     have hkn:k<n:=Om
     have hpos:=hI.pos
     obtain ⟨hk1,hk2⟩ :=BS hok hkB
     refine S5 ?_;refine a9 (qQ (r:= (some ⟨b4,0,none⟩,n)) (j:=k) (fun w hs=> (hs.all 3 _ J).1) J J J Va hkn) ?_;refine S1 ?_;refine Uw (k:=3) (r:= (some ⟨b4,0,none⟩,n)) (vs:= [.bool true]) J J J J (by rfl) (by rfl) Yb.szx J J (by simp) (by rw [jit];simp only [jim,jiH];omega) ?_;refine n9 ?_
     rw [ja5 Om]
     refine S6 ?_;refine a9 (jN (j:=k) J J J Jf Om) ?_;refine S1 ?_;refine a9 (jk J J jj J (J5 (fun w' hs=>h.over hs.fin) hkn)) ?_;refine S1 ?_;refine Jx J J (qM J) J (lb J) (fun b6=> ?_);refine N1 ?_;refine JV (k:=7) J jw jH Dc J Dc J J J (fun w' hs=>Qb hs (k:=8) J J) (by simp [Value.oneCell']) (by unfold maxLen;omega) Om (jih _) (fun r2=> ?_);refine N4 ?_;refine JS 15 ?_;refine dK 0 ?_;refine dK 1 ?_;refine dZ 2 J (jN (j:=k) J J J Jf Om) ?_;refine dK 3 ?_;refine dZ 4 J (jk J J jj J (JX (fun w' hs=>h.over hs.fin) hkn)) ?_;refine dK 5 ?_;refine dK 6 ?_;refine dZ 7 J (jN (j:=k) J J J Jf Om) ?_;refine dK 8 ?_;refine dZ 9 J (jk J J jj J (J5 (fun w' hs=>h.over hs.fin) hkn)) ?_;refine FH (i:=10) (j:=11) J J Dc Dc Dc J J J J Dc Dc Dc J J jH jH Kr Kr Kr (u9 J) (fun b7 b8=> ?_);refine n9 ?_;refine qe (i:=12) J Dc Kr J ?_;refine S1 ?_;refine JO (u9 J) ?_;refine qe (i:=13) J Dc Kr J ?_;refine j9 10 jH.szx ?_;refine n9 ?_;refine JO (u9 J) ?_;refine dK 14 ?_;refine JK Kr ?_;refine S3 ?_
     obtain ⟨xk,hxv,hxr⟩ :=jcb l (lB (lg B k))
     rw [hixs] at hxv hxr
     have hbk:=jd8 (B:=B) (u:=u.set k true) (f:=i) (a:=k)
     have hsm:=jaE hT (first:=i) (at_:=k) Om hkB hI.first
     have hixl: (Sd B (lB (lg B k))).length≤B.length:= (by have:=Sc B (lB (lg B k)) B.length;exact this)
     refine S3 ?_;refine a9 ((jaf (k:=1) jfV (lB (lg B k)) J J J J).as (hxv)) ?_;refine S4 ?_;refine qz (X:=Nat) (fun q=>q≤(Sd B (lB (lg B k))).length) (fun q=> (Sd B (lB (lg B k))).length- q) (fun q=> [(13, .int .i64 (ze (BF B (u.set k true) i k q))),(72, .int .i64 (q:Int))]) (kK [0,2,3,6,7,38,39,40,41,8,42,43,44,45,46,9,10,47,48,49,50,51,52,53,54,55,56,57,58,59,60,61,62,63,64,65,66,67,11,12,68,69,70,71]) 0 (jii _) ⟨J,sz⟩ ?_
     intro q hq L hL4
     refine V5 ?_;refine cZ (fun c4=> ?_) (fun c4=> ?_)
     ·have hql:q< (Sd B (lB (lg B k))).length:=Om
      obtain ⟨x,hx⟩ :∃x,x= (Sd B (lB (lg B k)))[q] :=⟨_,rfl⟩
      have hxn:x<n:= (by rw [hx,←hl];exact jgy hql)
      obtain ⟨hx1,hx2⟩ :=BS hok (show x<B.length by omega)
      have hst:=jbg (B:=B) (u:=u.set k true) (f:=i) (a:=k) hql
      rw [←hx] at hst
      refine S6 ?_;refine a9 (qQ (r:=xk) (j:=q) (fun w hs=>hxr w (hs.all 2 _ J).1) J J J xV hql) ?_;refine a9 (jn J J YO (jh5 (x:=xk) (m:=x) (fun w hs=>hxr w (hs.all 2 _ J).1) hql hx)) ?_;refine S2 ?_;refine qt [(104, .bool (tkI B (u.set k true) i k (BF B (u.set k true) i k q) x))] (kK [0,2,3,6,7,38,39,40,41,8,42,43,44,45,46,9,10,47,48,49,50,51,52,53,54,55,56,57,58,59,60,61,62,63,64,65,66,67,11,12,68,69,70,71,13,72,73,74,75,15]) (fun L h_21=> ?_) ?_
      ·refine yP mixed Kr (fun _ _ d _ _ h=>by cases d<;>exact h) ?_;refine x9 q9 ?_;refine x9 q9 ?_;refine x9 (qQ (r:= (some ⟨b4,0,none⟩,n)) (j:=x) (fun w hs=> (hs.all 3 _ J).1) J J J Va hxn) ?_;refine x9 (jn J J QT (jfg (r:= (some ⟨b4,0,none⟩,n)) (fun w hs=> (hs.all 3 _ J).1) (by rw [jjv];omega))) ?_;refine x9 (qS J J) ?_;refine x9 q9 ?_;refine Q0 81 J (fun g1=> ?_) (fun g1=> ?_)
       ·try simp only[zz] at g1
        (iterate 3 refine z9 ?_);refine x9 (jW J J J) ?_;refine x9 q9 ?_;refine y9 q9 ?_;refine y9 (Ju J J J) ?_;refine y9 q9 ?_;refine Q0 89 J (fun g2=> ?_) (fun g2=> ?_)
        ·try simp only[zz] at g2
         (iterate 13 refine z9 ?_);refine y9 (jW J J J) ?_;refine x9 (jW J J J) ?_;refine KC ?_;refine S1 ?_
         exact Jk h_21 ⟨vb (jdC (jbM g1) (yG g2)),sz⟩ (u9 J)
        ·try simp only[zz] at g2
         obtain ⟨m,hm⟩ :=yH (by first | exact g4 | exact g2)
         have hmn:m<n:= (by rw [←hl];exact jbf hm)
         obtain ⟨hm1,hm2⟩ :=BS hok (show m<B.length by omega)
         refine y9 (jk J J jj J (jY (k:=9) J)) ?_;refine y9 (jk J J jj J (jY (k:=10) J)) ?_;refine y9 q9 ?_;refine y9 q9 ?_;refine y9 (jN (j:=x) J J J Jf Om) ?_;refine y9 (jf J J ql) ?_;refine y9 (jk J J jj J (JX (fun w' hs=>h.over hs.fin) hxn)) ?_;refine y9 q9 ?_;refine y9 ((ja J J).as (congrArg _ (show ze (BF B (u.set k true) i k q) = ((m:Nat) :Int) by rw [hm];rfl))) ?_;refine y9 (jN (j:=m) J J J Jf Om) ?_;refine y9 (jf J J ql) ?_;refine y9 (jk J J jj J (JX (j:=m) (fun w' hs=>h.over hs.fin) hmn)) ?_;refine y9 (jT WI J J (fun w1 hs=>Du (lB (lg B k)) (lA (lg B k)) (lB (lg B x)) (lB (lg B m)) w1 hk2 hk1 hx2 hm2)) ?_;refine y9 (jL J J J) ?_;refine x9 (jW J J J) ?_;refine KC ?_;refine S1 ?_
         exact Jk h_21 ⟨vb (jdD (jbM g1) hm),sz⟩ (u9 J)
       ·try simp only[zz] at g1
        refine y9 q9 ?_;refine y9 q9 ?_;refine y9 (qF J J J) ?_;refine x9 (jL J J J) ?_;refine x9 q9 ?_;refine Q0 86 J (fun g3=> ?_) (fun g3=> ?_)
        ·try simp only[zz] at g3
         refine y9 q9 ?_;refine y9 (Ju J J J) ?_;refine y9 q9 ?_;refine Q0 89 J (fun g4=> ?_) (fun g4=> ?_)
         ·try simp only[zz] at g4
          (iterate 13 refine z9 ?_);refine y9 (jW J J J) ?_;refine x9 (jW J J J) ?_;refine KC ?_;refine S1 ?_
          exact Jk h_21 ⟨vb (jdC (jbN Om) (yG g4)),sz⟩ (u9 J)
         ·try simp only[zz] at g4
          obtain ⟨m,hm⟩ :=yH (by first | exact g4 | exact g2)
          have hmn:m<n:= (by rw [←hl];exact jbf hm)
          obtain ⟨hm1,hm2⟩ :=BS hok (show m<B.length by omega)
          refine y9 (jk J J jj J (jY (k:=9) J)) ?_;refine y9 (jk J J jj J (jY (k:=10) J)) ?_;refine y9 q9 ?_;refine y9 q9 ?_;refine y9 (jN (j:=x) J J J Jf Om) ?_;refine y9 (jf J J ql) ?_;refine y9 (jk J J jj J (JX (fun w' hs=>h.over hs.fin) hxn)) ?_;refine y9 q9 ?_;refine y9 ((ja J J).as (congrArg _ (show ze (BF B (u.set k true) i k q) = ((m:Nat) :Int) by rw [hm];rfl))) ?_;refine y9 (jN (j:=m) J J J Jf Om) ?_;refine y9 (jf J J ql) ?_;refine y9 (jk J J jj J (JX (j:=m) (fun w' hs=>h.over hs.fin) hmn)) ?_;refine y9 (jT WI J J (fun w1 hs=>Du (lB (lg B k)) (lA (lg B k)) (lB (lg B x)) (lB (lg B m)) w1 hk2 hk1 hx2 hm2)) ?_;refine y9 (jL J J J) ?_;refine x9 (jW J J J) ?_;refine KC ?_;refine S1 ?_
          exact Jk h_21 ⟨vb (jdD (jbN Om) hm),sz⟩ (u9 J)
        ·try simp only[zz] at g3
         (iterate 3 refine z9 ?_);(iterate 13 refine qm J J J J J Dc ?_);refine z9 ?_;refine x9 (jL J J J) ?_;refine KC ?_;refine S1 ?_
         exact Jk h_21 ⟨vb (jg8 (jgr g1 Om)),sz⟩ (u9 J)
      ·refine v9 ?_;refine cZ (fun c5=> ?_) (fun c5=> ?_)
       ·refine S10 ?_
        exact qi hL4 (q+1) Om Om ⟨vi (by rw [hst,jdB c5];rfl),vi Om,sz⟩ (u9 J)
       ·refine S7 ?_
        exact qi hL4 (q+1) Om Om ⟨vi (by rw [hst,jdA c5]),vi Om,sz⟩ (u9 J)
     ·obtain rfl:q= (Sd B (lB (lg B k))).length:=Om
      rw [hbk]
      refine S6 ?_;refine qt [(113, .bool (Ry (YU B (u.set k true) i k) i))] (kK [0,2,3,6,7,38,39,40,41,8,42,43,44,45,46,9,10,47,48,49,50,51,52,53,54,55,56,57,58,59,60,61,62,63,64,65,66,67,11,12,68,69,70,71,13,72,73]) (fun L h_24=> ?_) ?_
      ·refine S4 ?_;refine cV 109 (fun g5=> ?_) (fun g5=> ?_)
       ·refine S5 ?_
        exact Jk h_24 ⟨vb (jhn (yG g5)),sz⟩ (u9 J)
       ·obtain ⟨m,hm⟩ :=yH g5
        refine h9 ?_;refine o9 ((ja J J).as (congrArg _ (show ze (YU B (u.set k true) i k) = ((m:Nat) :Int) by rw [hm];rfl))) ?_;refine S6 ?_
        exact Jk h_24 ⟨vb (jho hm),sz⟩ (u9 J)
      ·refine v9 ?_;refine cZ (fun c6=> ?_) (fun c6=> ?_)
       ·have hRe:R= (u.set k true,ps++ [lA (lg B k)]) := (by rw [hR];exact hI.stop (hsm▸jbd c6))
        refine S6 ?_
        exact kg h_4 ((r2,(k:Int))) (trivial) ⟨by rw [hRe,jif];rfl,sz⟩ (fun _ h=> (h.picks [0,1,2,3,4,5,6,7] Dc).upto ⟨J,J,J,by rw [hRe],J,J,J,by rw [hRe,jif,jio];rfl,trivial⟩)
       ·obtain ⟨m,hm,hm2⟩ :=jgf c6
        rw [hm]
        refine S3 ?_;refine a9 ((ja J J).as (congrArg _ (show ze (some m) = ((m:Nat) :Int) from J))) ?_;refine S4 ?_
        exact Ji hL3 ((u.set k true,m,ps++ [lA (lg B k)],r2)) (⟨hI.more (hsm▸hm2),(by simp only [jif,jim,jiH];omega)⟩) (by simp only;omega) ⟨by rw [jif];rfl,sz⟩ (fun _ h=> (h.picks [0,1,2,3,4,5,6,7] Dc).upto ⟨J,J,J,J,J,J,J,by rw [jif,jio];rfl,trivial⟩)
    ·rintro⟨⟨pA,pc⟩,_⟩ -
     refine v9 ?_;refine r9 ?_;refine S4 ?_;refine a9 (JU J J (Vs J)) ?_;refine S1 ?_;refine Jx J J (qH J) J (lb J) (fun b9=> ?_);refine N1 ?_;refine JV (k:=5) J jK Jw Dc J Dc J J J (fun w' hs=>Qb hs (k:=8) J J) (by simp [Value.oneCell']) (by unfold maxLen;omega) Om (jih _) (fun r3=> ?_);refine N4 ?_;refine ky (fun w hs=>uZ (hs.all 7 _ J).1) ?_
     intro hcap
     refine ZY 7 J J (fun clo chi=> ?_);refine t9 ?_;refine wN 6 7 J J Dc J ?_;refine t9 ?_;refine S6 ?_
     exact Ji hL2 ((i+1,r3,ll++ [⟨R.2,pA,pc,clo,chi⟩])) (⟨(show i+1≤n by omega),(by rw [jiO,hmp,hnx];rfl),fun e he=> (jiv.1 he).elim (hcp e) (fun h=>by rw [jik.1 h];exact hcap)⟩) (by simp only;omega) ⟨vi Om,sz⟩ (fun _ h=>h.upto ⟨J,J,J,by rw [hnx],by rw [jif];rfl,by rw [jif,jiO];rfl,(vT _ _).symm,trivial⟩)
  ·have hin:i=n:=Om
   have htr:ll.map (·.xs) =KG B:= (by rw [hmp,hin,←hl];rfl)
   have htl: (KG B).length=ll.length:= (by rw [←htr,jit])
   refine S12 ?_;refine jM J (qh (k:=0) J jG J J) ?_
   intro w' hs
   exact⟨rA,rc,by rw [htl],by rw [htl];exact yZ hs (kr:=5) (kp:=6) rfl rfl Dc rfl rfl htr (fun j hj=>by rw [←Wa hj];have:= (tl2 _ (by rw [←hmp,htr];exact jis hj)).2.1;omega),by rw [htl];exact je9 hs (kr:=5) (kp:=6) rfl rfl rfl htr hcp,hs.fin⟩
end Go.Proofs.YtpncbbcmoiiipaaGreat
