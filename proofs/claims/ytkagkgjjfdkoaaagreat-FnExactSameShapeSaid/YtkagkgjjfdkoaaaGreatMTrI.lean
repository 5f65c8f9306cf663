import Derived.Test.YtkagkgjjfdkoaaaGreatMCmp
import Derived.Test.YtkagkgjjfdkoaaaGreatMTrS
set_option linter.unusedVariables false
set_option linter.unusedSimpArgs false
namespace Go.Proofs.YtkagkgjjfdkoaaaGreat
open Go Go.RowKit
set_option maxRecDepth 100000
set_option maxHeartbeats 4000000
theorem F2 (o b p:Pn) (w:World) (ho:bd2 o) (hb:bd2 b) (hp:bd2 p) :Calls Tryz.prog 127 #[pV o,pV b,pV p] w fun e w'=>e= .returned (.int .i64 (Cf o b p))∧Over w w':=by
 refine jU (m:=18) (Tryz.func127) J J (lb J) ?_;refine S3 ?_;refine aX (fun b1=> ?_);refine N1 ?_;refine aX (fun b2=> ?_);refine N1 ?_;refine aX (fun b3=> ?_);refine N8 ?_;refine a9 (jH kC J J (fun w1 hs=>ZR o b p w1 ho hb hp)) ?_;refine S9 ?_;refine cZ (fun c1=> ?_) (fun c1=> ?_)
 ·refine S7 ?_;refine jL J (.tmp J) ?_
  intro w' hs
  exact⟨W8 (by rw [Cf,if_pos c1]),hs.fin⟩
 ·refine S6 ?_;refine cZ (fun c2=> ?_) (fun c2=> ?_)
  ·refine S7 ?_;refine jL J (.tmp J) ?_
   intro w' hs
   exact⟨W8 (by rw [Cf,if_neg (by omega),if_pos c2]),hs.fin⟩
  ·refine S8 ?_;refine jL J (.tmp J) ?_
   intro w' hs
   exact⟨W8 (by rw [Cf,if_neg (by omega),if_neg c2]),hs.fin⟩
theorem OW (o b p q:Pn) (w:World) (ho:bd2 o) (hb:bd2 b) (hp:bd2 p) (hq:bd2 q) :Calls Tryz.prog 83 #[pV o,pV b,pV p,pV q] w fun e w'=>e= .returned (.bool (cwF o b p q))∧Over w w':=by
 refine jU (m:=30) (Tryz.func83) J J (lb J) ?_;refine S3 ?_;refine aX (fun b1=> ?_);refine N1 ?_;refine aX (fun b2=> ?_);refine N1 ?_;refine aX (fun b3=> ?_);refine N1 ?_;refine aX (fun b4=> ?_);refine N5 ?_;refine Jw 10 ?_;refine dK 0 ?_;refine dK 1 ?_;refine dK 2 ?_;refine dZ 3 J (jH Wu J J (fun w1 hs=>F2 o b p w1 ho hb hp)) ?_;refine dK 4 ?_;refine dK 5 ?_;refine dK 6 ?_;refine dZ 7 J (jH Wu J J (fun w1 hs=>F2 o b q w1 ho hb hq)) ?_;refine dK 8 ?_;refine dK 9 ?_;refine Jj (by kernel_rfl) ?_;refine S7 ?_;refine cZ (fun c1=> ?_) (fun c1=> ?_)
 ·refine S9 ?_;refine jL J (.tmp J) ?_
  intro w' hs
  exact⟨QJ (by rw [cwF,if_pos c1]),hs.fin⟩
 ·refine S7 ?_;refine a9 (jH kC J J (fun w1 hs=>ZR o p q w1 ho hp hq)) ?_;refine S4 ?_;refine jL J (.tmp J) ?_
  intro w' hs
  exact⟨QJ (by rw [cwF,if_neg (by simpa using c1)]),hs.fin⟩
structure Gp where
 p:Pn
 x:Option Addr×Nat
 is:List Nat
def Gp.val (g:Gp) :Pn×Value:= (g.p, .slice g.x.1 g.is.length g.x.2)
abbrev ixR (is:List Nat) (x:Option Addr×Nat) :Res:=JP 0 3 1 is.length (is.map fun (i:Nat) =>Value.int .i64 (i:Int)) x
def Gp.res (g:Gp) :Res:=ixR g.is g.x
def VR (l:List Gp) :List (Pn×Value) :=l.map Gp.val
abbrev Ij (l:List Gp) :Res:= .many (l.map Gp.res)
def uJ (v:Pn) :List Gp→List Nat
 | [] => []
 | g::l=>if v=g.p then g.is else uJ v l
theorem LE {v:Pn} :∀ {l:List Gp} {i:Nat},Kr v (VR l) i=none→uJ v l= []
 | [],_,_=>rfl
 | g::l,i,h=>by
  have h: (if v=g.p then some (i,g.val.2) else Kr v (VR l) (i+1)) =none:=h
  unfold uJ
  split at h
  ·cases h
  ·rename_i hn
   rw [if_neg hn]
   exact LE h
theorem xh {v:Pn} {j:Nat} {u:Value} :∀ {l:List Gp} {i:Nat},Kr v (VR l) i=some (j,u)→i≤j∧∃g,l[j- i]? =some g∧g.p=v∧u= .slice g.x.1 g.is.length g.x.2∧uJ v l=g.is
 | [],_,h=>by cases h
 | g::l,i,h=>by
  have h: (if v=g.p then some (i,g.val.2) else Kr v (VR l) (i+1)) =some (j,u) :=h
  unfold uJ
  split at h
  ·rename_i e
   injection h with h
   injection h with h1 h2
   subst h1
   rw [if_pos e]
   exact⟨jeD _,g,by simp,e.symm,h2.symm,rfl⟩
  ·rename_i hn
   rw [if_neg hn]
   obtain ⟨h1,g',h2,h3⟩ :=xh h
   refine⟨by omega,g',?_,h3⟩
   rw [show j- i= (j- (i+1)) +1 by omega]
   simpa using h2
theorem R8 {p v:Pn} {g':Gp} (hg:g'.p=p) {j:Nat} {u:Value} :∀ {l:List Gp} {i:Nat},Kr p (VR l) i=some (j,u)→uJ v (l.set (j- i) g') =if v=p then g'.is else uJ v l
 | [],_,h=>by cases h
 | g::l,i,h=>by
  have h: (if p=g.p then some (i,g.val.2) else Kr p (VR l) (i+1)) =some (j,u) :=h
  split at h
  ·rename_i e
   injection h with h
   injection h with h1 h2
   subst h1
   rw [Nat.sub_self,jeM]
   simp only [uJ,hg]
   by_cases hv:v=p
   ·rw [if_pos hv,if_pos hv]
   ·rw [if_neg hv,if_neg hv,if_neg (fun k=>hv (k.trans e.symm))]
  ·rename_i hn
   have hj:= (xh h).1
   have ih:=R8 (v:=v) hg h
   rw [show j- i= (j- (i+1)) +1 by omega,jeO]
   simp only [uJ]
   by_cases hv:v=g.p
   ·rw [if_pos hv,if_pos hv,if_neg (fun k=>hn (k.symm.trans hv))]
   ·rw [if_neg hv,if_neg hv,ih]
def yT (p:Pn) :Gp:=⟨p,(none,0),[]⟩
theorem jdd {p v:Pn} :∀ {l:List Gp},Kr p (VR l) 0=none→uJ v (l++ [yT p]) =uJ v l:=by
 have key:∀(l:List Gp) (i:Nat),Kr p (VR l) i=none→uJ v (l++ [yT p]) =uJ v l:=by
  intro l
  induction l with
  | nil=>
   intro i _
   simp only [jeL,uJ,yT]
   split<;>rfl
  | cons g l ih=>
   intro i h
   have h: (if p=g.p then some (i,g.val.2) else Kr p (VR l) (i+1)) =none:=h
   split at h
   ·cases h
   ·simp only [jeG,uJ]
    rw [ih _ h]
 intro l h
 exact key l 0 h
theorem Ts {p:Pn} :∀ {l:List Gp} {i:Nat},Kr p (VR l) i=none→Kr p (VR (l++ [yT p])) i=some (i+l.length, .slice none 0 0)
 | [],i,_=>by simp [VR,yT,Gp.val,Kr]
 | g::l,i,h=>by
  have h: (if p=g.p then some (i,g.val.2) else Kr p (VR l) (i+1)) =none:=h
  split at h
  ·cases h
  ·rename_i hn
   show(if p=g.p then some (i,g.val.2) else Kr p (VR (l++ [yT p])) (i+1)) =_
   rw [if_neg hn,Ts h,jeP]
   congr 2
   omega
theorem jcS (l:List Gp) (p:Pn) :∃(l':List Gp) (j:Nat) (g:Gp),NH p (VR l) =VR l'∧Pz p (VR l) =j∧MR p (VR l) = .slice g.x.1 g.is.length g.x.2∧l'[j]? =some g∧g.p=p∧g.is=uJ p l∧(l'=l∨l'=l++ [yT p])∧
  ∀g',g'.p=p→∀v,uJ v (l'.set j g') =if v=p then g'.is else uJ v l:=by
 unfold NH Pz MR
 cases h:Kr p (VR l) 0 with
 | none=>
  have h2:=Ts h
  rw [je3] at h2
  refine⟨l++ [yT p],l.length,yT p,by simp [VR,yT,Gp.val],by simp [VR],J,by simp,J,(LE h).symm, .inr J,fun g' hg v=> ?_⟩
  have:=R8 (v:=v) hg h2
  rw [Nat.sub_zero] at this
  rw [this,jdd h]
 | some x=>
  obtain ⟨j,u⟩ :=x
  obtain ⟨_,g,h1,h2,h3,h4⟩ :=xh h
  rw [Nat.sub_zero] at h1
  refine⟨l,j,g,J,J,h3,h1,h2,h4.symm, .inl J,fun g' hg v=> ?_⟩
  have:=R8 (v:=v) hg h
  rw [Nat.sub_zero] at this
  exact this
theorem Et (l:List Gp) (v:Pn) :∃x:Option Addr×Nat,MR v (VR l) = .slice x.1 (uJ v l).length x.2∧∀w,(Ij l).P w→(ixR (uJ v l) x).P w:=by
 unfold MR
 cases h:Kr v (VR l) 0 with
 | none=>
  rw [LE h]
  exact⟨(none,0),rfl,fun w _=>World.ownsRow_nil _ _ _ _⟩
 | some y=>
  obtain ⟨j,u⟩ :=y
  obtain ⟨_,g,h1,h2,h3,h4⟩ :=xh h
  rw [Nat.sub_zero] at h1
  rw [h4]
  exact⟨g.x,h3,fun w hP=> (hP.1 g.res (je7.2 ⟨g,List.mem_of_getElem? h1,rfl⟩)).1⟩
section
variable {n:Nat} {env:List (Nat×Value)} {w0:Bs} {Rs:List Res} {K:Act→World→Prop}
theorem jd0 {p:Pn} (b:Nat) :¬(yT p).res.F b:=fun h=>by
 have h:Value.ownBlock (.slice none 0 0) =some b:=h
 simp [Value.ownBlock] at h
theorem Cr (k:Nat) {l l':List Gp} {p:Pn} (hk:Rs[k]? =some (Ij l)) (hl:l'=l∨l'=l++ [yT p]) (h:At n env w0 (Rs.set k (Ij l')) K) :At n env w0 Rs K:=fun a w hf hs=>by
 refine h a w hf (hs.chg hk (fun hP=> ?_) (fun c hc=> ?_) J)
 ·rcases hl with rfl | rfl
  ·exact hP
  ·rw [Ij,jfa]
   refine⟨fun r hr=> ?_,?_⟩
   ·rcases jeY.1 hr with hr | hr
    ·exact hP.1 r hr
    ·rw [jeT.1 hr]
     exact⟨World.ownsRow_nil _ _ _ _,rfl⟩
   ·refine jf4.2 ⟨hP.2,jf5 _ _,fun r _ s hs b _ hb=> ?_⟩
    rw [jeT.1 hs] at hb
    exact jd0 b hb
 ·rcases hl with rfl | rfl
  ·exact hc
  ·obtain ⟨r,hr,hb⟩ :=hc
   rw [jfa] at hr
   rcases jeY.1 hr with hr | hr
   ·exact⟨r,hr,hb⟩
   ·rw [jeT.1 hr] at hb
    exact absurd hb (jd0 c)
theorem ja4 (k j:Nat) {L:List Res} {r:Res} (hk:Rs[k]? =some (.many L)) (hj:L[j]? =some r) (h:At n env w0 (Rs.set k (.many (L.eraseIdx j)) ++ [r]) K) :At n env w0 Rs K:=fun a w hf hs=>by
 have hm:=hs.all k _ hk
 have hmem:r∈L:=List.mem_of_getElem? hj
 have hperm:L.Perm (r::L.eraseIdx j) :=by
  obtain ⟨hl,e⟩ :=List.getElem?_eq_some_iff.1 hj
  have e1:L=L.take j++r::L.drop (j+1) :=by rw [←e,←jfi hl,jeU]
  rw [jge]
  conv=>lhs;rw [e1]
  exact List.perm_middle
 have hpw: (r::L.eraseIdx j).Pairwise (fun (r s:Res) =>∀b:Nat,r.F b→¬s.F b) :=hperm.pairwise hm.1.2 (fun h b h1 h2=>h b h2 h1)
 have hpc:=jff.1 hpw
 have hs1:St w0 (Rs.set k (.many (L.eraseIdx j))) w:=hs.chg hk (fun hP=>⟨fun s hs'=>hP.1 s (List.mem_of_mem_eraseIdx hs'),hpc.2⟩) (fun c hc=>by
  obtain ⟨s,hs',hb⟩ :=hc
  exact⟨s,List.mem_of_mem_eraseIdx hs',hb⟩) rfl
 refine h a w hf (hs1.add' (hm.1.1 r hmem).1 (fun b hb=>hm.2.1 b ⟨r,hmem,hb⟩) (fun i s hi b hb hsb=> ?_) (hm.1.1 r hmem).2)
 rw [List.getElem?_set] at hi
 by_cases hik:k=i
 ·rw [if_pos hik] at hi
  split at hi
  ·injection hi with hi
   subst hi
   obtain ⟨t,ht,hb2⟩ :=hsb
   exact hpc.1 t ht b hb hb2
  ·cases hi
 ·rw [if_neg hik] at hi
  exact hs.apart k i _ _ hik hk hi b ⟨r,hmem,hb⟩ hsb
theorem Cs (k:Nat) {L L':List Res} (hk:Rs[k]? =some (.many L)) (hp:L.Perm L') (h:At n env w0 (Rs.set k (.many L')) K) :At n env w0 Rs K:=fun a w hf hs=>
 h a w hf (hs.chg hk (fun hP=>Bg hp hP) (fun c hc=>by
  obtain ⟨s,hs',hb⟩ :=hc
  exact⟨s,hp.mem_iff.2 hs',hb⟩) rfl)
end
theorem PP {α:Type} {L:List α} {j:Nat} {r:α} (h:j<L.length) : (L.eraseIdx j++ [r]).Perm (L.set j r) :=by
 rw [jge,List.set_eq_take_append_cons_drop,if_pos h]
 rw [jeN]
 exact List.Perm.append_left _ (List.perm_append_comm (l₁:=L.drop (j+1)) (l₂:= [r]))
def R9 (B:List Leg) (v:Pn) (k:Nat) :List Nat:= (List.range k).filter fun i=>decide (lA (lg B i) =v)
theorem Pd (B:List Leg) (v:Pn) (k:Nat) :R9 B v (k+1) =if v=lA (lg B k) then R9 B v k++ [k] else R9 B v k:=by
 unfold R9
 rw [List.range_succ,jfW]
 by_cases h:v=lA (lg B k)
 ·rw [if_pos h];simp [h]
 ·rw [if_neg h];simp [Ne.symm h]
theorem Ir (B:List Leg) (v:Pn) (k:Nat) : (R9 B v k).length≤k:=by
 have:=jf0 (fun i=>decide (lA (lg B i) =v)) (List.range k)
 rwa [List.length_range] at this
theorem Tt {S:Nat→Bool} {lt:Nat→Nat→Bool} {m:Nat} :∀ {l:List Nat} {b:Option Nat},l.foldl (H7 S lt) b=some m→b=some m∨m∈l
 | [],b,h=> .inl h
 | k::l,b,h=>by
  rw [jfD] at h
  rcases Tt h with h | h
  ·unfold H7 at h
   split at h
   ·split at h
    ·injection h with h;exact .inr (by rw [h];simp)
    ·cases h
   ·split at h
    ·injection h with h;exact .inr (by rw [h];simp)
    ·exact .inl h
  ·exact .inr (je5 _ h)
def Oa (B:List Leg) (u:List Bool) (f a:Nat) (k:Nat) :Option Nat:= ((Is B (lB (lg B a))).take k).foldl (H7 (K6 u f) (ltI B (lB (lg B a)) (lA (lg B a)))) none
theorem CD {B:List Leg} {u:List Bool} {f a k:Nat} (h:k< (Is B (lB (lg B a))).length) :Oa B u f a (k+1) =H7 (K6 u f) (ltI B (lB (lg B a)) (lA (lg B a))) (Oa B u f a k) (Is B (lB (lg B a)))[k] :=by
 unfold Oa
 rw [jeS h,jgm]
 rfl
theorem CC {B:List Leg} {u:List Bool} {f a k m:Nat} (h:Oa B u f a k=some m) :m<B.length:=by
 rcases Tt h with h | h
 ·cases h
 ·have:=jfj h
  unfold Is at this
  exact jgi.1 (jgf.1 this).1
theorem jde {B:List Leg} {v:Pn} {k:Nat} (h:k< (Is B v).length) : (Is B v)[k] <B.length:=by
 have:=jeW h
 unfold Is at this
 exact jgi.1 (jgf.1 this).1
def tkI (B:List Leg) (u:List Bool) (f a:Nat) (b:Option Nat) (x:Nat) :Bool:=K6 u f x&&Zc (ltI B (lB (lg B a)) (lA (lg B a))) b x
theorem jaP {B:List Leg} {u:List Bool} {f a x:Nat} {b:Option Nat} (h:tkI B u f a b x=true) :H7 (K6 u f) (ltI B (lB (lg B a)) (lA (lg B a))) b x=some x:=by
 unfold tkI Zc at h
 unfold H7
 cases b<;>simp_all
theorem jaO {B:List Leg} {u:List Bool} {f a x:Nat} {b:Option Nat} (h:tkI B u f a b x=false) :H7 (K6 u f) (ltI B (lB (lg B a)) (lA (lg B a))) b x=b:=by
 unfold tkI Zc at h
 unfold H7
 cases b<;>simp_all
theorem C2 {u:List Bool} {f x:Nat} (h:Gm u x=false) :K6 u f x=true:=by simp [K6,h]
theorem C3 {u:List Bool} {f x:Nat} (h:x=f) :K6 u f x=true:=by simp [K6,h]
theorem jc7 {u:List Bool} {f x:Nat} (h:Gm u x=true) (h2:¬x=f) :K6 u f x=false:=by simp [K6,h,h2]
theorem jbc {B:List Leg} {u:List Bool} {f a:Nat} :Oa B u f a (Is B (lB (lg B a))).length=yP B u f a:=by
 unfold Oa yP
 rw [jfr]
def FP (b:Option Nat) (f:Nat) :Bool:=match b with
 | none=>true
 | some m=>decide (m=f)
theorem CA {B:List Leg} {u:List Bool} {f a:Nat} (h:FP (yP B u f a) f=true) :MJ B u f a=none:=by
 unfold MJ
 cases e:yP B u f a with
 | none=>rfl
 | some m=>
  rw [e] at h
  simp only [FP,decide_eq_true_eq] at h
  simp only
  rw [if_pos h]
theorem jcX {B:List Leg} {u:List Bool} {f a:Nat} (h:FP (yP B u f a) f=false) :∃m,yP B u f a=some m∧MJ B u f a=some m:=by
 unfold MJ
 cases e:yP B u f a with
 | none=>rw [e] at h;cases h
 | some m=>
  rw [e] at h
  simp only [FP,decide_eq_false_iff_not] at h
  exact⟨m,rfl,by simp only;rw [if_neg h]⟩
theorem jc8 (p:Pn) (x:Option Addr×Nat) (is:List Nat) (i:Nat) : (Gp.mk p x (is++ [i])).res=JP 0 3 1 (is.length+1) (is.map (fun (i:Nat) =>Value.int .i64 (i:Int)) ++ [.int .i64 (i:Int)]) x:=by
 simp [Gp.res,ixR]
theorem jbu {l:List Gp} {j:Nat} {g':Gp} {v:Value} {p:Pn} (hp:g'.p=p) (h:g'.val.2=v) : (VR l).set j (p,v) =VR (l.set j g') :=by
 rw [VR,VR,List.map_set]
 congr 1
 subst hp h
 rfl
theorem jdY {is:List Nat} {k:Nat} (h:k<is.length) : (is.map fun (i:Nat) =>Value.int .i64 (i:Int))[k]? =some (.int .i64 ((is[k] :Nat) :Int)) :=by simp [h]
section
variable {w0:Bs} {Rs:List Res}
theorem jel {is:List Nat} {x:Option Addr×Nat} {k m:Nat} (hr:∀w,St w0 Rs w→(ixR is x).P w) (h:k<is.length) (hm:m=is[k]) :∀w,St w0 Rs w→w.cell? ⟨wN x.1,0+k*1,none⟩ =some (.int .i64 ((m:Nat) :Int)) :=fun w hs=>by
 rw [je3,jfz,hm]
 exact Xc (hr w hs) (jdY h)
end
theorem jaQ {B:List Leg} {u:List Bool} {f a x:Nat} {b:Option Nat} (h:K6 u f x=true) (hb:b=none) :true=tkI B u f a b x:=by simp [tkI,h,hb,Zc]
theorem jaR {B:List Leg} {u:List Bool} {f a x m:Nat} {b:Option Nat} (h:K6 u f x=true) (hb:b=some m) :cwF (lB (lg B a)) (lA (lg B a)) (lB (lg B x)) (lB (lg B m)) =tkI B u f a b x:=by simp [tkI,h,hb,Zc,ltI]
theorem jdG {B:List Leg} {u:List Bool} {f a x:Nat} {b:Option Nat} (h:K6 u f x=false) :false=tkI B u f a b x:=by simp [tkI,h]
theorem jdP {b:Option Nat} {f:Nat} (hb:b=none) :true=FP b f:=by rw [hb];rfl
theorem jdQ {b:Option Nat} {f m:Nat} (hb:b=some m) : (((m:Nat) :Int) == ((f:Nat) :Int)) =FP b f:=by
 rw [hb,jfo]
 simp only [FP,beq_iff_eq,decide_eq_true_eq]
 omega
theorem PH {w:World} {B T n:Nat} {l:List Pc} {x:Option Addr×Nat} (hrow: (JP B T 1 n (l.map Pc.val) x).P w) (hP: (ve l).P w) (hl:l.length=n) (hc:∀e∈l,e.xs.length≤e.c) :RingsC w x.1 n (l.map (·.xs)) :=by
 have hrow:w.ownsRow B T 1 (.slice x.1 n x.2) n (l.map Pc.val) :=hrow
 refine⟨by rw [jeX,hl],fun h0=> ?_⟩
 obtain ⟨g,hg⟩ :∃g,x.1=some ⟨g,0,none⟩ :=by
  rcases hrow.2 with⟨_,e⟩ |⟨g,cap,cur,e,_⟩
  ·omega
  ·injection e with e1
   exact⟨g,e1⟩
 rw [hg] at hrow⊢
 refine⟨g,0,J,SB hrow,fun k hk=> ?_⟩
 have hkl:k<l.length:=by omega
 have hm:=jeW hkl
 rw [Uv hkl]
 refine⟨l[k].A,l[k].c,?_,yC hP hm,hc _ hm⟩
 have:=DX hrow (j:=k) (v:=l[k].val) (by rw [List.getElem?_map,List.getElem?_eq_getElem hkl];rfl)
 rw [jfz] at this
 exact this
abbrev HE (lo hi n:Nat) (rs:List jS) (A:Option Addr) :Res:= .clo lo hi (fun w=>RingsC w A n rs)
theorem jbX {w w':World} {Rs:List Res} (hs:St ⟨w,[]⟩ Rs w') {kr kp B T n:Nat} {l:List Pc} {x:Option Addr×Nat} {rs:List jS} (hr:Rs[kr]? =some (JP B T 1 n (l.map Pc.val) x)) (hp:Rs[kp]? =some (ve l)) (hl:l.length=n) (hrs:l.map (·.xs) =rs) (hc:∀e∈l,e.xs.length≤e.c) : (HE w.heap.size w'.heap.size n rs x.1).P w':=by
 have h1:=hs.all kr _ hr
 have h2:=hs.all kp _ hp
 have f1:∀b,(JP B T 1 n (l.map Pc.val) x).F b→w.heap.size≤b:=fun b hb=> (h1.2.1 b hb).elim id (fun h=>by cases h)
 have f2:∀b,(ve l).F b→w.heap.size≤b:=fun b hb=> (h2.2.1 b hb).elim id (fun h=>by cases h)
 refine⟨jeD _,fun u hu ha=> ?_⟩
 rw [←hrs]
 exact PH (Res.dep _ w' u h1.1 hu fun b hb h=>ha b (h.elim (fun k=>absurd k (Nat.not_lt_zero _)) (f1 b)) hb) (Res.dep _ w' u h2.1 hu fun b hb h=>ha b (h.elim (fun k=>absurd k (Nat.not_lt_zero _)) (f2 b)) hb) hl hc
theorem Vs (A:Option Addr) (n c:Nat) (B:List Leg) (w:World) (h:Legs w A n B) (hB:BoOk B) (hT:TrOk B) :
  Calls Tryz.prog 46 #[.slice A n c] w fun e w'=>∃A' c',e= .returned (Ju A' (Wk B).length c')∧OwnG w.heap.size w'.heap.size w' A' (Wk B).length (Wk B)∧(HE w.heap.size w'.heap.size (Wk B).length (Wk B) A').P w'∧Over w w':=by
 have hl:=h.1
 have hn:=hB.len
 rw [hl] at hn
 have hok:=hB.ok
 refine jU (m:=124) (Tryz.func46) J J (lb J) ?_;refine S3 ?_;refine aL (fun b1=> ?_);refine N4 ?_;refine Sw J J (by decide) (fun mb=> ?_);refine N2 ?_;refine vF ?_;refine ji (by simp only [jeL,jeG,jeM,jeO,jeJ,jeI,Value.cells,jeK];rfl) ?_;refine S8 ?_;refine JI (X:=Nat×List Gp) (fun x=>x.1≤n∧∀v,uJ v x.2=R9 B v x.1) (fun x=>n- x.1) (fun x=> [(19, .int .i64 (x.1:Int))]) (kK [0,2,3,17,18]) (fun x=> [.cel b1 29 [.slice none 0 0], .mp mb (VR x.2),Ij x.2]) (0,[]) (⟨jeE _,fun v=>rfl⟩) ⟨J,sz⟩ (fun _ h=>h) ?_
 intro⟨i,l⟩ hx L hL1
 refine v9 ?_;refine ji (by first | (dsimp only;done) | (dsimp only;rfl) | rfl) ?_
 obtain ⟨hi,hix⟩ :i≤n∧∀v,uJ v l=R9 B v i:=hx
 refine S5 ?_;refine cZ (fun c1=> ?_) (fun c1=> ?_)
 ·have hil:i<n:= (by omega)
  obtain ⟨eb,eo,rfl,_⟩ :=h.2 (by omega)
  obtain ⟨l',j,g,k1,k2,k3,k4,k5,k6,k7,k8⟩ :=jcS l (lA (lg B i))
  have hgl:g.is.length≤4096:= (by rw [k6,hix];have:=Ir B (lA (lg B i)) i;omega)
  have hjl:= (List.getElem?_eq_some_iff.1 k4).1
  refine S7 ?_;refine a9 (jT (j:=i) J J J j5 (by omega)) ?_;refine a9 (jj J J qp J (y6 (fun w' hs=>h.over hs.fin) hil)) ?_;refine S1 ?_;refine aL (fun b2=> ?_);refine N10 ?_;refine Jp J J (Lr J) J (lb J) (fun b3=> ?_);refine N1 ?_;refine I1 (k:=1) jcE (lA (lg B i)) J J J J J (by decide) ?_
  rw [k1,k2,k3]
  refine n9 ?_;refine Cr 2 J k7 ?_;refine ji (by simp only [jeL,jeG,jeM,jeO,jeJ,jeI,Value.cells,jeK];rfl) ?_;refine ja4 2 j J (by rw [List.getElem?_map,k4];rfl) ?_;refine ji (by simp only [jeL,jeG,jeM,jeO,jeJ,jeI,Value.cells,jeK];rfl) ?_;refine S2 ?_;refine JL (k:=5) J ZV jcp (by decide) J (by decide) J J J (fun w' hs=>q6 hs (k:=4) J J) (by simp [Value.oneCell']) (by unfold maxLen;omega) (by omega) (jeE _) (fun r1=> ?_);refine N2 ?_;refine Oy (k:=1) (j:=j) (p:=lA (lg B i)) (u:= .slice g.x.1 g.is.length g.x.2) J J J J J J (by rw [VR,List.getElem?_map,k4];simp [Gp.val,k5]) ?_;refine n9 ?_
  obtain ⟨g',hg'⟩ :∃g':Gp,g'=⟨lA (lg B i),r1,g.is++ [i]⟩ :=⟨_,rfl⟩
  have hgr:=jc8 (lA (lg B i)) r1 g.is i
  rw [←hg'] at hgr
  refine VY 2 5 J J (by decide) J ?_;refine ji (by simp only [jeL,jeG,jeM,jeO,jeJ,jeI,Value.cells,jeK];rfl) ?_;refine Cs 2 (L':= (l'.set j g').map Gp.res) J (by rw [List.map_set];have hp:=PP (L:=l'.map Gp.res) (r:=g'.res) (j:=j) (by simpa using hjl);rw [hgr] at hp⊢;exact hp) ?_;refine ji (by simp only [jeL,jeG,jeM,jeO,jeJ,jeI,Value.cells,jeK];rfl) ?_
  rw [jbu (g':=g') (by rw [hg']) (by rw [hg'];simp [Gp.val])]
  refine S7 ?_
  exact j8 hL1 ((i+1,l'.set j g')) (⟨(show i+1≤n by omega),fun v=> (by rw [k8 g' (by rw [hg']) v,Pd,hg',hix v,k6,hix];split<;>simp_all)⟩) (by simp only;omega) ⟨vi (by omega),sz⟩ (u9 J)
 ·have hin:i=n:= (by omega)
  have hixs:∀v,uJ v l=Is B v:= (fun v=>by rw [hix v,hin,←hl];rfl)
  clear hix
  refine S10 ?_;refine DP J J J vp U6 J (by decide) (by omega) (by omega) (fun b4=> ?_);refine N2 ?_;refine OM 3 1 n (b:=b4) (U:=4) (cs:= (List.replicate n false).map Value.bool) (by rw [←CZ];simp) (by simp) (by omega) ?_;refine ji (by simp only [jeL,jeG,jeM,jeO,jeJ,jeI,Value.cells,jeK];rfl) ?_;refine S3 ?_;refine aL (fun b5=> ?_);refine N1 ?_;refine kz (T:=71) (s:=1) ?_;refine ji (by simp only [jeL,jeG,jeM,jeO,jeJ,jeI,Value.cells,jeK];rfl) ?_;refine vF ?_;refine ji (by simp only [jeL,jeG,jeM,jeO,jeJ,jeI,Value.cells,jeK];rfl) ?_;refine S8 ?_;refine JI (X:=Nat×(Option Addr×Nat)×List Pc) (fun x=>x.1≤n∧x.2.2.map (·.xs) = (Kg B x.1).2∧(∀e∈x.2.2,e.xs.length≤e.c)) (fun x=>n- x.1) (fun x=> [(39, .int .i64 (x.1:Int))]) (kK [0,2,3,6,7,38]) (fun x=> [.cel b1 29 [.slice none 0 0], .mp mb (VR l),Ij l,boR n (Kg B x.1).1 (some ⟨b4,0,none⟩,n), .cel b5 29 [.slice x.2.1.1 x.2.2.length x.2.1.2],JP (Bs.N ⟨w,[]⟩) 71 1 x.2.2.length (x.2.2.map Pc.val) x.2.1,ve x.2.2]) (0,(none,0),[]) (⟨jeE _,rfl,fun e he=> (by cases he)⟩) ⟨rfl,sz⟩ (fun _ h=>by rw [show(Kg B 0).1=List.replicate n false by rw [←hl];rfl];exact h) ?_
  intro⟨i,⟨rA,rc⟩,ll⟩ hx2 L hL2
  refine v9 ?_;refine ji (by first | (dsimp only;done) | (dsimp only;rfl) | rfl) ?_
  obtain ⟨hi,hmp,hcp⟩ :i≤n∧ll.map (·.xs) = (Kg B i).2∧(∀e∈ll,e.xs.length≤e.c) :=hx2
  have hul: (Kg B i).1.length=n:= (by rw [Y8,hl])
  obtain ⟨tl1,tl2⟩ :=U3 (B:=B) i (by omega)
  have hll:ll.length≤4096:= (by have:=congrArg List.length hmp;rw [jeX] at this;omega)
  refine S5 ?_;refine cZ (fun c2=> ?_) (fun c2=> ?_)
  ·have hil:i<n:= (by omega)
   refine S14 ?_;refine a9 (qx (r:= (some ⟨b4,0,none⟩,n)) (j:=i) (fun w hs=> (hs.all 3 _ J).1) J J J vp hil) ?_;refine a9 (jr J J QC (jb3 (r:= (some ⟨b4,0,none⟩,n)) (fun w hs=> (hs.all 3 _ J).1) (by omega))) ?_;refine S1 ?_;refine cZ (fun c3=> ?_) (fun c3=> ?_)
   ·refine S8 ?_
    exact j8 hL2 ((i+1,(rA,rc),ll)) (⟨(show i+1≤n by omega),(by rw [Xp c3];exact hmp),hcp⟩) (by simp only;omega) ⟨vi (by omega),sz⟩ (fun _ h=>h.upto ⟨J,J,J,by rw [Xp c3],sz⟩)
   ·obtain ⟨u0,hu0⟩ :∃u0,u0= (Kg B i).1:=⟨_,rfl⟩
    have hst:Gm u0 i=false:= (by rw [hu0];exact c3)
    obtain ⟨R,hR⟩ :∃R,R=UZ B i (WT u0) u0 i [] :=⟨_,rfl⟩
    have hnx:Kg B (i+1) = (R.1,(Kg B i).2++ [R.2]) := (by rw [Nu c3,hR,hu0])
    rw [←hu0] at hul⊢
    obtain ⟨_,hRl⟩ :=U3 (B:=B) (i+1) (by omega)
    have hRs:R.2.length≤4096:= (by have:= (hRl R.2 (by rw [hnx];simp)).2.1;omega)
    obtain ⟨eb,eo,rfl,_⟩ :=h.2 (by omega)
    refine S5 ?_;refine kz (T:=54) (s:=2) ?_;refine N1 ?_;refine KZ (X:= (Option Addr×Nat)×Int) (fun x=>True) (fun x=> [(9, .slice x.1.1 R.2.length x.1.2),(10, .int .i64 x.2)]) (kK [0,2,3,6,7,38,39,40,41,8,42,43,44,45]) (fun x=> [.cel b1 29 [.slice none 0 0], .mp mb (VR l),Ij l,boR n R.1 (some ⟨b4,0,none⟩,n), .cel b5 29 [.slice rA ll.length rc],JP (Bs.N ⟨w,[]⟩) 71 1 ll.length (ll.map Pc.val) (rA,rc),ve ll,JP (Bs.N ⟨w,[]⟩) 54 2 R.2.length (R.2.flatMap j7) x.1]) (fun L h_4=> ?_) ?_
    ·refine S6 ?_;refine JI (X:=List Bool×Nat×List Pn×Option Addr×Nat) (fun y=>RunI B i u0 y.1 y.2.1 y.2.2.1∧y.2.2.1.length+WT y.1≤4096) (fun y=>WT y.1) (fun y=> [(9, .slice y.2.2.2.1 y.2.2.1.length y.2.2.2.2),(10, .int .i64 (y.2.1:Int))]) (kK [0,2,3,6,7,38,39,40,41,8,42,43,44,45,46]) (fun y=> [.cel b1 29 [.slice none 0 0], .mp mb (VR l),Ij l,boR n y.1 (some ⟨b4,0,none⟩,n), .cel b5 29 [.slice rA ll.length rc],JP (Bs.N ⟨w,[]⟩) 71 1 ll.length (ll.map Pc.val) (rA,rc),ve ll,JP (Bs.N ⟨w,[]⟩) 54 2 y.2.2.1.length (y.2.2.1.flatMap j7) y.2.2.2]) (u0,i,[],none,0) (⟨RunI.start (by omega) (by omega) hst,(by have:=B8 u0;simp;omega)⟩) ⟨J,sz⟩ (fun _ h=>h) ?_
     intro⟨u,k,ps,qA,qc⟩ hy L hL3
     refine v9 ?_;refine ji (by first | (dsimp only;done) | (dsimp only;rfl) | rfl) ?_
     obtain ⟨hI,hy2⟩ :RunI B i u0 u k ps∧ps.length+WT u≤4096:=hy
     have hkB:=hI.la
     have hun:u.length=n:= (by rw [hI.len,hl])
     have hkn:k<n:= (by omega)
     have hpos:=hI.pos
     obtain ⟨hk1,hk2⟩ :=Ou hok hkB
     refine S5 ?_;refine a9 (qx (r:= (some ⟨b4,0,none⟩,n)) (j:=k) (fun w hs=> (hs.all 3 _ J).1) J J J vp hkn) ?_;refine S1 ?_;refine uz (k:=3) (r:= (some ⟨b4,0,none⟩,n)) (vs:= [.bool true]) J J J J (by rfl) (by rfl) U6.szx J J (by simp) (by rw [jeX];simp only [jeP,je6];omega) ?_;refine n9 ?_
     rw [Cw (by omega)]
     refine S6 ?_;refine a9 (jT (j:=k) J J J j5 (by omega)) ?_;refine S1 ?_;refine a9 (jj J J jl J (Qc (fun w' hs=>h.over hs.fin) hkn)) ?_;refine S1 ?_;refine Jp J J (qP J) J (lb J) (fun b6=> ?_);refine N1 ?_;refine JL (k:=7) J jt jO (by decide) J (by decide) J J J (fun w' hs=>q6 hs (k:=8) J J) (by simp [Value.oneCell']) (by unfold maxLen;omega) (by omega) (jeD _) (fun r2=> ?_);refine N4 ?_;refine Jw 15 ?_;refine dK 0 ?_;refine dK 1 ?_;refine dZ 2 J (jT (j:=k) J J J j5 (by omega)) ?_;refine dK 3 ?_;refine dZ 4 J (jj J J jl J (qR (fun w' hs=>h.over hs.fin) hkn)) ?_;refine dK 5 ?_;refine dK 6 ?_;refine dZ 7 J (jT (j:=k) J J J j5 (by omega)) ?_;refine dK 8 ?_;refine dZ 9 J (jj J J jl J (Qc (fun w' hs=>h.over hs.fin) hkn)) ?_;refine Dc (i:=10) (j:=11) J J (by decide) (by decide) (by decide) J J J J (by decide) (by decide) (by decide) J J jO jO (by kernel_rfl) (by kernel_rfl) (by kernel_rfl) (u9 J) (fun b7 b8=> ?_);refine n9 ?_;refine Jh (i:=12) J (by decide) (by kernel_rfl) J ?_;refine S1 ?_;refine jJ (u9 J) ?_;refine Jh (i:=13) J (by decide) (by kernel_rfl) J ?_;refine j9 10 jO.szx ?_;refine n9 ?_;refine jJ (u9 J) ?_;refine dK 14 ?_;refine Jj (by kernel_rfl) ?_;refine S3 ?_
     obtain ⟨xk,hxv,hxr⟩ :=Et l (lB (lg B k))
     rw [hixs] at hxv hxr
     have hbk:=jbc (B:=B) (u:=u.set k true) (f:=i) (a:=k)
     have hsm:=P7 hT (first:=i) (at_:=k) (by omega) hkB hI.first
     have hixl: (Is B (lB (lg B k))).length≤B.length:= (by have:=Ir B (lB (lg B k)) B.length;exact this)
     refine S3 ?_;refine a9 ((PE (k:=1) jcE (lB (lg B k)) J J J J).as (hxv)) ?_;refine S4 ?_;refine qi (X:=Nat) (fun q=>q≤(Is B (lB (lg B k))).length) (fun q=> (Is B (lB (lg B k))).length- q) (fun q=> [(13, .int .i64 (Ye (Oa B (u.set k true) i k q))),(72, .int .i64 (q:Int))]) (kK [0,2,3,6,7,38,39,40,41,8,42,43,44,45,46,9,10,47,48,49,50,51,52,53,54,55,56,57,58,59,60,61,62,63,64,65,66,67,11,12,68,69,70,71]) 0 (jeE _) ⟨J,sz⟩ ?_
     intro q hq L hL4
     refine V5 ?_;refine cZ (fun c4=> ?_) (fun c4=> ?_)
     ·have hql:q< (Is B (lB (lg B k))).length:= (by omega)
      obtain ⟨x,hx⟩ :∃x,x= (Is B (lB (lg B k)))[q] :=⟨_,rfl⟩
      have hxn:x<n:= (by rw [hx,←hl];exact jde hql)
      obtain ⟨hx1,hx2⟩ :=Ou hok (show x<B.length by omega)
      have hst:=CD (B:=B) (u:=u.set k true) (f:=i) (a:=k) hql
      rw [←hx] at hst
      refine S6 ?_;refine a9 (qx (r:=xk) (j:=q) (fun w hs=>hxr w (hs.all 2 _ J).1) J J J ZV hql) ?_;refine a9 (jr J J jco (jel (x:=xk) (m:=x) (fun w hs=>hxr w (hs.all 2 _ J).1) hql hx)) ?_;refine S2 ?_;refine qd [(104, .bool (tkI B (u.set k true) i k (Oa B (u.set k true) i k q) x))] (kK [0,2,3,6,7,38,39,40,41,8,42,43,44,45,46,9,10,47,48,49,50,51,52,53,54,55,56,57,58,59,60,61,62,63,64,65,66,67,11,12,68,69,70,71,13,72,73,74,75,15]) (fun L h_21=> ?_) ?_
      ·refine UL mixed (by kernel_rfl) (fun _ _ d _ _ h=>by cases d<;>exact h) ?_;refine x9 q9 ?_;refine x9 q9 ?_;refine x9 (qx (r:= (some ⟨b4,0,none⟩,n)) (j:=x) (fun w hs=> (hs.all 3 _ J).1) J J J vp hxn) ?_;refine x9 (jr J J QC (jb3 (r:= (some ⟨b4,0,none⟩,n)) (fun w hs=> (hs.all 3 _ J).1) (by rw [jfM];omega))) ?_;refine x9 (J5 J J) ?_;refine x9 q9 ?_;refine K7 81 J (fun g1=> ?_) (fun g1=> ?_)
       ·try simp only[zz] at g1
        refine z9 ?_;refine z9 ?_;refine z9 ?_;refine x9 (Jc J J J) ?_;refine x9 q9 ?_;refine y9 q9 ?_;refine y9 (j6 J J J) ?_;refine y9 q9 ?_;refine K7 89 J (fun g2=> ?_) (fun g2=> ?_)
        ·try simp only[zz] at g2
         refine z9 ?_;refine z9 ?_;refine z9 ?_;refine z9 ?_;refine z9 ?_;refine z9 ?_;refine z9 ?_;refine z9 ?_;refine z9 ?_;refine z9 ?_;refine z9 ?_;refine z9 ?_;refine z9 ?_;refine y9 (Jc J J J) ?_;refine x9 (Jc J J J) ?_;refine Vf ?_;refine S1 ?_
         exact Jb h_21 ⟨vb (jaQ (C2 g1) (UE g2)),sz⟩ (u9 J)
        ·try simp only[zz] at g2
         obtain ⟨m,hm⟩ :=UF (by first | exact g4 | exact g2)
         have hmn:m<n:= (by rw [←hl];exact CC hm)
         obtain ⟨hm1,hm2⟩ :=Ou hok (show m<B.length by omega)
         refine y9 (jj J J jl J (jF (k:=9) J)) ?_;refine y9 (jj J J jl J (jF (k:=10) J)) ?_;refine y9 q9 ?_;refine y9 q9 ?_;refine y9 (jT (j:=x) J J J j5 (by omega)) ?_;refine y9 (jh J J J9) ?_;refine y9 (jj J J jl J (qR (fun w' hs=>h.over hs.fin) hxn)) ?_;refine y9 q9 ?_;refine y9 ((ja J J).as (congrArg _ (show Ye (Oa B (u.set k true) i k q) = ((m:Nat) :Int) by rw [hm];rfl))) ?_;refine y9 (jT (j:=m) J J J j5 (by omega)) ?_;refine y9 (jh J J J9) ?_;refine y9 (jj J J jl J (qR (j:=m) (fun w' hs=>h.over hs.fin) hmn)) ?_;refine y9 (jH Wa J J (fun w1 hs=>OW (lB (lg B k)) (lA (lg B k)) (lB (lg B x)) (lB (lg B m)) w1 hk2 hk1 hx2 hm2)) ?_;refine y9 (jM J J J) ?_;refine x9 (Jc J J J) ?_;refine Vf ?_;refine S1 ?_
         exact Jb h_21 ⟨vb (jaR (C2 g1) hm),sz⟩ (u9 J)
       ·try simp only[zz] at g1
        refine y9 q9 ?_;refine y9 q9 ?_;refine y9 (qB J J J) ?_;refine x9 (jM J J J) ?_;refine x9 q9 ?_;refine K7 86 J (fun g3=> ?_) (fun g3=> ?_)
        ·try simp only[zz] at g3
         refine y9 q9 ?_;refine y9 (j6 J J J) ?_;refine y9 q9 ?_;refine K7 89 J (fun g4=> ?_) (fun g4=> ?_)
         ·try simp only[zz] at g4
          refine z9 ?_;refine z9 ?_;refine z9 ?_;refine z9 ?_;refine z9 ?_;refine z9 ?_;refine z9 ?_;refine z9 ?_;refine z9 ?_;refine z9 ?_;refine z9 ?_;refine z9 ?_;refine z9 ?_;refine y9 (Jc J J J) ?_;refine x9 (Jc J J J) ?_;refine Vf ?_;refine S1 ?_
          exact Jb h_21 ⟨vb (jaQ (C3 (by omega)) (UE g4)),sz⟩ (u9 J)
         ·try simp only[zz] at g4
          obtain ⟨m,hm⟩ :=UF (by first | exact g4 | exact g2)
          have hmn:m<n:= (by rw [←hl];exact CC hm)
          obtain ⟨hm1,hm2⟩ :=Ou hok (show m<B.length by omega)
          refine y9 (jj J J jl J (jF (k:=9) J)) ?_;refine y9 (jj J J jl J (jF (k:=10) J)) ?_;refine y9 q9 ?_;refine y9 q9 ?_;refine y9 (jT (j:=x) J J J j5 (by omega)) ?_;refine y9 (jh J J J9) ?_;refine y9 (jj J J jl J (qR (fun w' hs=>h.over hs.fin) hxn)) ?_;refine y9 q9 ?_;refine y9 ((ja J J).as (congrArg _ (show Ye (Oa B (u.set k true) i k q) = ((m:Nat) :Int) by rw [hm];rfl))) ?_;refine y9 (jT (j:=m) J J J j5 (by omega)) ?_;refine y9 (jh J J J9) ?_;refine y9 (jj J J jl J (qR (j:=m) (fun w' hs=>h.over hs.fin) hmn)) ?_;refine y9 (jH Wa J J (fun w1 hs=>OW (lB (lg B k)) (lA (lg B k)) (lB (lg B x)) (lB (lg B m)) w1 hk2 hk1 hx2 hm2)) ?_;refine y9 (jM J J J) ?_;refine x9 (Jc J J J) ?_;refine Vf ?_;refine S1 ?_
          exact Jb h_21 ⟨vb (jaR (C3 (by omega)) hm),sz⟩ (u9 J)
        ·try simp only[zz] at g3
         refine z9 ?_;refine z9 ?_;refine z9 ?_;refine qs J J J J J (by decide) ?_;refine qs J J J J J (by decide) ?_;refine qs J J J J J (by decide) ?_;refine qs J J J J J (by decide) ?_;refine qs J J J J J (by decide) ?_;refine qs J J J J J (by decide) ?_;refine qs J J J J J (by decide) ?_;refine qs J J J J J (by decide) ?_;refine qs J J J J J (by decide) ?_;refine qs J J J J J (by decide) ?_;refine qs J J J J J (by decide) ?_;refine qs J J J J J (by decide) ?_;refine qs J J J J J (by decide) ?_;refine z9 ?_;refine x9 (jM J J J) ?_;refine Vf ?_;refine S1 ?_
         exact Jb h_21 ⟨vb (jdG (jc7 g1 (by omega))),sz⟩ (u9 J)
      ·refine v9 ?_;refine cZ (fun c5=> ?_) (fun c5=> ?_)
       ·refine S10 ?_
        exact J8 hL4 (q+1) (by omega) (by omega) ⟨vi (by rw [hst,jaP c5];rfl),vi (by omega),sz⟩ (u9 J)
       ·refine S7 ?_
        exact J8 hL4 (q+1) (by omega) (by omega) ⟨vi (by rw [hst,jaO c5]),vi (by omega),sz⟩ (u9 J)
     ·obtain rfl:q= (Is B (lB (lg B k))).length:= (by omega)
      rw [hbk]
      refine S6 ?_;refine qd [(113, .bool (FP (yP B (u.set k true) i k) i))] (kK [0,2,3,6,7,38,39,40,41,8,42,43,44,45,46,9,10,47,48,49,50,51,52,53,54,55,56,57,58,59,60,61,62,63,64,65,66,67,11,12,68,69,70,71,13,72,73]) (fun L h_24=> ?_) ?_
      ·refine S4 ?_;refine cV 109 (fun g5=> ?_) (fun g5=> ?_)
       ·refine S5 ?_
        exact Jb h_24 ⟨vb (jdP (UE g5)),sz⟩ (u9 J)
       ·obtain ⟨m,hm⟩ :=UF g5
        refine h9 ?_;refine o9 ((ja J J).as (congrArg _ (show Ye (yP B (u.set k true) i k) = ((m:Nat) :Int) by rw [hm];rfl))) ?_;refine S6 ?_
        exact Jb h_24 ⟨vb (jdQ hm),sz⟩ (u9 J)
      ·refine v9 ?_;refine cZ (fun c6=> ?_) (fun c6=> ?_)
       ·have hRe:R= (u.set k true,ps++ [lA (lg B k)]) := (by rw [hR];exact hI.stop (hsm▸CA c6))
        refine S6 ?_
        exact JZ h_4 ((r2,(k:Int))) (trivial) ⟨by rw [hRe,jeC];rfl,sz⟩ (fun _ h=> (h.picks [0,1,2,3,4,5,6,7] (by decide)).upto ⟨J,J,J,by rw [hRe],J,J,J,by rw [hRe,jeC,jeQ];rfl,trivial⟩)
       ·obtain ⟨m,hm,hm2⟩ :=jcX c6
        rw [hm]
        refine S3 ?_;refine a9 ((ja J J).as (congrArg _ (show Ye (some m) = ((m:Nat) :Int) from J))) ?_;refine S4 ?_
        exact j8 hL3 ((u.set k true,m,ps++ [lA (lg B k)],r2)) (⟨hI.more (hsm▸hm2),(by simp only [jeC,jeP,je6];omega)⟩) (by simp only;omega) ⟨by rw [jeC];rfl,sz⟩ (fun _ h=> (h.picks [0,1,2,3,4,5,6,7] (by decide)).upto ⟨J,J,J,J,J,J,J,by rw [jeC,jeQ];rfl,trivial⟩)
    ·rintro⟨⟨pA,pc⟩,_⟩ -
     refine v9 ?_;refine ji (by first | (dsimp only;done) | (dsimp only;rfl) | rfl) ?_;refine S4 ?_;refine a9 (JV J J (KH J)) ?_;refine S1 ?_;refine Jp J J (qz J) J (lb J) (fun b9=> ?_);refine N1 ?_;refine JL (k:=5) J jI Jn (by decide) J (by decide) J J J (fun w' hs=>q6 hs (k:=8) J J) (by simp [Value.oneCell']) (by unfold maxLen;omega) (by omega) (jeD _) (fun r3=> ?_);refine N4 ?_;refine QF (fun w hs=>wC (hs.all 7 _ J).1) ?_
     intro hcap
     refine zT 7 J J (fun clo chi=> ?_);refine ji (by simp only [jeL,jeG,jeM,jeO,jeJ,jeI,Value.cells,jeK];rfl) ?_;refine VY 6 7 J J (by decide) J ?_;refine ji (by simp only [jeL,jeG,jeM,jeO,jeJ,jeI,Value.cells,jeK];rfl) ?_;refine S6 ?_
     exact j8 hL2 ((i+1,r3,ll++ [⟨R.2,pA,pc,clo,chi⟩])) (⟨(show i+1≤n by omega),(by rw [jfa,hmp,hnx];rfl),fun e he=> (jeY.1 he).elim (hcp e) (fun h=>by rw [jeT.1 h];exact hcap)⟩) (by simp only;omega) ⟨vi (by omega),sz⟩ (fun _ h=>h.upto ⟨J,J,J,by rw [hnx],by rw [jeC];rfl,by rw [jeC,jfa];rfl,(vf _ _).symm,trivial⟩)
  ·have hin:i=n:= (by omega)
   have htr:ll.map (·.xs) =Wk B:= (by rw [hmp,hin,←hl];rfl)
   have htl: (Wk B).length=ll.length:= (by rw [←htr,jeX])
   refine S12 ?_;refine jL J (J3 (k:=0) J jn J J) ?_
   intro w' hs
   exact⟨rA,rc,by rw [htl],by rw [htl];exact UV hs (kr:=5) (kp:=6) rfl rfl (by decide) rfl rfl htr (fun j hj=>by rw [←wl hj];have:= (tl2 _ (by rw [←hmp,htr];exact jeW hj)).2.1;omega),by rw [htl];exact jbX hs (kr:=5) (kp:=6) rfl rfl rfl htr hcp,hs.fin⟩
end Go.Proofs.YtkagkgjjfdkoaaaGreat
