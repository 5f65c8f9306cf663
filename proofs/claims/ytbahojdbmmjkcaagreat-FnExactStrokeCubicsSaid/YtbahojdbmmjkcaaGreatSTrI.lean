import Derived.Test.YtbahojdbmmjkcaaGreatSMap
import Derived.Test.YtbahojdbmmjkcaaGreatSTrS
set_option linter.unusedVariables false
set_option linter.unusedSimpArgs false
namespace Go.Proofs.YtbahojdbmmjkcaaGreat
open Go Go.RowKit
variable {B:List Leg} {L:List Res} {a f j k m:Nat} {b:Option Nat} {is:List Nat} {l:List Pc} {p:Pn} {u:List Bool} {w:World} {x:Option Addr×Nat}
set_option maxRecDepth 100000
set_option maxHeartbeats 4000000
theorem Se (o b p:Pn) (w:World) (ho:bd2 o) (hb:bd2 b) (hp:bd2 p) :Calls Tryz.prog 181 #[pV o,pV b,pV p] w fun e w'=>e= .returned (.int .i64 (cwH o b p))∧Over w w':=by
 refine jK (m:=18) (Tryz.func181) J J (lb J) ?_;refine S3 ?_;refine aX (fun b1=> ?_);refine N1 ?_;refine aX (fun b2=> ?_);refine N1 ?_;refine aX (fun b3=> ?_);refine N8 ?_;refine a9 (jG kZ J J (fun w1 hs=>Hm o b p w1 ho hb hp)) ?_;refine S9 ?_;refine cZ (fun c1=> ?_) (fun c1=> ?_)
 ·refine S7 ?_;refine jJ J (.tmp J) ?_
  intro w' hs
  exact⟨ux (by rw [cwH,if_pos c1]),hs.fin⟩
 ·refine S6 ?_;refine cZ (fun c2=> ?_) (fun c2=> ?_)
  ·refine S7 ?_;refine jJ J (.tmp J) ?_
   intro w' hs
   exact⟨ux (by rw [cwH,if_neg Om,if_pos c2]),hs.fin⟩
  ·refine S8 ?_;refine jJ J (.tmp J) ?_
   intro w' hs
   exact⟨ux (by rw [cwH,if_neg Om,if_neg c2]),hs.fin⟩
theorem DM (o b p q:Pn) (w:World) (ho:bd2 o) (hb:bd2 b) (hp:bd2 p) (hq:bd2 q) :Calls Tryz.prog 120 #[pV o,pV b,pV p,pV q] w fun e w'=>e= .returned (.bool (cwF o b p q))∧Over w w':=by
 refine jK (m:=30) (Tryz.func120) J J (lb J) ?_;refine S3 ?_;refine aX (fun b1=> ?_);refine N1 ?_;refine aX (fun b2=> ?_);refine N1 ?_;refine aX (fun b3=> ?_);refine N1 ?_;refine aX (fun b4=> ?_);refine N5 ?_;refine JH 10 ?_;refine dK 0 ?_;refine dK 1 ?_;refine dK 2 ?_;refine dZ 3 J (jG WL J J (fun w1 hs=>Se o b p w1 ho hb hp)) ?_;refine dK 4 ?_;refine dK 5 ?_;refine dK 6 ?_;refine dZ 7 J (jG WL J J (fun w1 hs=>Se o b q w1 ho hb hq)) ?_;refine dK 8 ?_;refine dK 9 ?_;refine JB Kr ?_;refine S7 ?_;refine cZ (fun c1=> ?_) (fun c1=> ?_)
 ·refine S9 ?_;refine jJ J (.tmp J) ?_
  intro w' hs
  exact⟨QH (by rw [cwF,if_pos c1]),hs.fin⟩
 ·refine S7 ?_;refine a9 (jG kZ J J (fun w1 hs=>Hm o p q w1 ho hp hq)) ?_;refine S4 ?_;refine jJ J (.tmp J) ?_
  intro w' hs
  exact⟨QH (by rw [cwF,if_neg (by simpa using c1)]),hs.fin⟩
structure Gp where
 p:Pn
 x:Option Addr×Nat
 is:List Nat
def Gp.val (g:Gp) :Pn×Value:= (g.p, .slice g.x.1 g.is.length g.x.2)
abbrev ixR (is:List Nat) (x:Option Addr×Nat) :Res:=JS 0 3 1 is.length (is.map fun (i:Nat) =>Value.int .i64 (i:Int)) x
def Gp.res (g:Gp) :Res:=ixR g.is g.x
def V4 (l:List Gp) :List (Pn×Value) :=l.map Gp.val
abbrev SA (l:List Gp) :Res:= .many (l.map Gp.res)
def Ul (v:Pn) :List Gp→List Nat
 | [] => []
 | g::l=>if v=g.p then g.is else Ul v l
theorem MQ {v:Pn} :∀ {l:List Gp} {i:Nat},KH v (V4 l) i=none→Ul v l= []
 | [],_,_=>rfl
 | g::l,i,h=>by
  have h: (if v=g.p then some (i,g.val.2) else KH v (V4 l) (i+1)) =none:=h
  unfold Ul
  split at h
  ·cases h
  ·rename_i hn
   rw [if_neg hn]
   exact MQ h
theorem x7 {v:Pn} {j:Nat} {u:Value} :∀ {l:List Gp} {i:Nat},KH v (V4 l) i=some (j,u)→i≤j∧∃g,l[j- i]? =some g∧g.p=v∧u= .slice g.x.1 g.is.length g.x.2∧Ul v l=g.is
 | [],_,h=>by cases h
 | g::l,i,h=>by
  have h: (if v=g.p then some (i,g.val.2) else KH v (V4 l) (i+1)) =some (j,u) :=h
  unfold Ul
  split at h
  ·rename_i e
   injection h with h
   injection h with h1 h2
   subst h1
   rw [if_pos e]
   exact⟨jif _,g,by simp,e.symm,h2.symm,rfl⟩
  ·rename_i hn
   rw [if_neg hn]
   obtain ⟨h1,g',h2,h3⟩ :=x7 h
   refine⟨by omega,g',?_,h3⟩
   rw [show j- i= (j- (i+1)) +1 by omega]
   simpa using h2
theorem NM {p v:Pn} {g':Gp} (hg:g'.p=p) {j:Nat} {u:Value} :∀ {l:List Gp} {i:Nat},KH p (V4 l) i=some (j,u)→Ul v (l.set (j- i) g') =if v=p then g'.is else Ul v l
 | [],_,h=>by cases h
 | g::l,i,h=>by
  have h: (if p=g.p then some (i,g.val.2) else KH p (V4 l) (i+1)) =some (j,u) :=h
  split at h
  ·rename_i e
   injection h with h
   injection h with h1 h2
   subst h1
   rw [Nat.sub_self,List.set_cons_zero]
   simp only [Ul,hg]
   by_cases hv:v=p
   ·rw [if_pos hv,if_pos hv]
   ·rw [if_neg hv,if_neg hv,if_neg (fun k=>hv (k.trans e.symm))]
  ·rename_i hn
   have hj:= (x7 h).1
   have ih:=NM (v:=v) hg h
   rw [show j- i= (j- (i+1)) +1 by omega,List.set_cons_succ]
   simp only [Ul]
   by_cases hv:v=g.p
   ·rw [if_pos hv,if_pos hv,if_neg (fun k=>hn (k.symm.trans hv))]
   ·rw [if_neg hv,if_neg hv,ih]
def Yv (p:Pn) :Gp:=⟨p,(none,0),[]⟩
theorem jgs {v:Pn} :∀ {l:List Gp},KH p (V4 l) 0=none→Ul v (l++ [Yv p]) =Ul v l:=by
 have key:∀(l:List Gp) (i:Nat),KH p (V4 l) i=none→Ul v (l++ [Yv p]) =Ul v l:=by
  intro l
  induction l with
  | nil=>
   intro i _
   simp only [jiV,Ul,Yv]
   split<;>rfl
  | cons g l ih=>
   intro i h
   have h: (if p=g.p then some (i,g.val.2) else KH p (V4 l) (i+1)) =none:=h
   split at h
   ·cases h
   ·simp only [jiI,Ul]
    rw [ih _ h]
 intro l h
 exact key l 0 h
theorem Ci {p:Pn} :∀ {l:List Gp} {i:Nat},KH p (V4 l) i=none→KH p (V4 (l++ [Yv p])) i=some (i+l.length, .slice none 0 0)
 | [],i,_=>by simp [V4,Yv,Gp.val,KH]
 | g::l,i,h=>by
  have h: (if p=g.p then some (i,g.val.2) else KH p (V4 l) (i+1)) =none:=h
  split at h
  ·cases h
  ·rename_i hn
   show(if p=g.p then some (i,g.val.2) else KH p (V4 (l++ [Yv p])) (i+1)) =_
   rw [if_neg hn,Ci h,jij]
   congr 2
   omega
theorem jf8 (l:List Gp) (p:Pn) :∃(l':List Gp) (j:Nat) (g:Gp),EI p (V4 l) =V4 l'∧jaC p (V4 l) =j∧Bz p (V4 l) = .slice g.x.1 g.is.length g.x.2∧l'[j]? =some g∧g.p=p∧g.is=Ul p l∧(l'=l∨l'=l++ [Yv p])∧
  ∀g',g'.p=p→∀v,Ul v (l'.set j g') =if v=p then g'.is else Ul v l:=by
 unfold EI jaC Bz
 cases h:KH p (V4 l) 0 with
 | none=>
  have h2:=Ci h
  rw [jiB] at h2
  refine⟨l++ [Yv p],l.length,Yv p,by simp [V4,Yv,Gp.val],by simp [V4],J,by simp,J,(MQ h).symm, .inr J,fun g' hg v=> ?_⟩
  have:=NM (v:=v) hg h2
  rw [jjR] at this
  rw [this,jgs h]
 | some x=>
  obtain ⟨j,u⟩ :=x
  obtain ⟨_,g,h1,h2,h3,h4⟩ :=x7 h
  rw [jjR] at h1
  refine⟨l,j,g,J,J,h3,h1,h2,h4.symm, .inl J,fun g' hg v=> ?_⟩
  have:=NM (v:=v) hg h
  rw [jjR] at this
  exact this
theorem jcq (l:List Gp) (v:Pn) :∃x:Option Addr×Nat,Bz v (V4 l) = .slice x.1 (Ul v l).length x.2∧∀w,(SA l).P w→(ixR (Ul v l) x).P w:=by
 unfold Bz
 cases h:KH v (V4 l) 0 with
 | none=>
  rw [MQ h]
  exact⟨(none,0),rfl,fun w _=>World.ownsRow_nil _ _ _ _⟩
 | some y=>
  obtain ⟨j,u⟩ :=y
  obtain ⟨_,g,h1,h2,h3,h4⟩ :=x7 h
  rw [jjR] at h1
  rw [h4]
  exact⟨g.x,h3,fun w hP=> (hP.1 g.res (jiD.2 ⟨g,List.mem_of_getElem? h1,rfl⟩)).1⟩
section
variable {n:Nat} {env:List (Nat×Value)} {w0:Bs} {Rs:List Res} {K:Act→World→Prop}
theorem jhx (b:Nat) :¬(Yv p).res.F b:=fun h=>by
 have h:Value.ownBlock (.slice none 0 0) =some b:=h
 simp [Value.ownBlock] at h
theorem jbq (k:Nat) {l l':List Gp} (hk:Rs[k]? =some (SA l)) (hl:l'=l∨l'=l++ [Yv p]) (h:At n env w0 (Rs.set k (SA l')) K) :At n env w0 Rs K:=fun a w hf hs=>by
 refine h a w hf (hs.chg hk (fun hP=> ?_) (fun c hc=> ?_) J)
 ·rcases hl with rfl | rfl
  ·exact hP
  ·rw [SA,jiG]
   refine⟨fun r hr=> ?_,?_⟩
   ·rcases jit.1 hr with hr | hr
    ·exact hP.1 r hr
    ·rw [jin.1 hr]
     exact⟨World.ownsRow_nil _ _ _ _,rfl⟩
   ·refine jjC.2 ⟨hP.2,jjD _ _,fun r _ s hs b _ hb=> ?_⟩
    rw [jin.1 hs] at hb
    exact jhx b hb
 ·rcases hl with rfl | rfl
  ·exact hc
  ·obtain ⟨r,hr,hb⟩ :=hc
   rw [jiG] at hr
   rcases jit.1 hr with hr | hr
   ·exact⟨r,hr,hb⟩
   ·rw [jin.1 hr] at hb
    exact absurd hb (jhx c)
theorem jd5 (k j:Nat) {r:Res} (hk:Rs[k]? =some (.many L)) (hj:L[j]? =some r) (h:At n env w0 (Rs.set k (.many (L.eraseIdx j)) ++ [r]) K) :At n env w0 Rs K:=fun a w hf hs=>by
 have hm:=hs.all k _ hk
 have hmem:r∈L:=List.mem_of_getElem? hj
 have hperm:L.Perm (r::L.eraseIdx j) :=by
  obtain ⟨hl,e⟩ :=List.getElem?_eq_some_iff.1 hj
  have e1:L=L.take j++r::L.drop (j+1) :=by rw [←e,←jiR hl,jiq]
  rw [List.eraseIdx_eq_take_drop_succ]
  conv=>lhs;rw [e1]
  exact List.perm_middle
 have hpw: (r::L.eraseIdx j).Pairwise (fun (r s:Res) =>∀b:Nat,r.F b→¬s.F b) :=hperm.pairwise hm.1.2 (fun h b h1 h2=>h b h2 h1)
 have hpc:=jiN.1 hpw
 have hs1:St w0 (Rs.set k (.many (L.eraseIdx j))) w:=hs.chg hk (fun hP=>⟨fun s hs'=>hP.1 s (List.mem_of_mem_eraseIdx hs'),hpc.2⟩) (fun c hc=>by
  obtain ⟨s,hs',hb⟩ :=hc
  exact⟨s,List.mem_of_mem_eraseIdx hs',hb⟩) rfl
 refine h a w hf (hs1.add' (hm.1.1 r hmem).1 (fun b hb=>hm.2.1 b ⟨r,hmem,hb⟩) (fun i s hi b hb hsb=> ?_) (hm.1.1 r hmem).2)
 rw [List.getElem?_set] at hi
 by_cases hik:k=i
 ·rw [if_pos hik] at hi
  split at hi
  ·injection hi with hi
   subst hi
   obtain ⟨t,ht,hb2⟩ :=hsb
   exact hpc.1 t ht b hb hb2
  ·cases hi
 ·rw [if_neg hik] at hi
  exact hs.apart k i _ _ hik hk hi b ⟨r,hmem,hb⟩ hsb
theorem jbr (k:Nat) {L':List Res} (hk:Rs[k]? =some (.many L)) (hp:L.Perm L') (h:At n env w0 (Rs.set k (.many L')) K) :At n env w0 Rs K:=fun a w hf hs=>
 h a w hf (hs.chg hk (fun hP=>Fa hp hP) (fun c hc=>by
  obtain ⟨s,hs',hb⟩ :=hc
  exact⟨s,hp.mem_iff.2 hs',hb⟩) rfl)
end
theorem jaU {α:Type} {L:List α} {r:α} (h:j<L.length) : (L.eraseIdx j++ [r]).Perm (L.set j r) :=by
 rw [List.eraseIdx_eq_take_drop_succ,List.set_eq_take_append_cons_drop,if_pos h]
 rw [jil]
 exact List.Perm.append_left _ (List.perm_append_comm (l₁:=L.drop (j+1)) (l₂:= [r]))
def NN (B:List Leg) (v:Pn) (k:Nat) :List Nat:= (List.range k).filter fun i=>decide (lA (lg B i) =v)
theorem jad (B:List Leg) (v:Pn) (k:Nat) :NN B v (k+1) =if v=lA (lg B k) then NN B v k++ [k] else NN B v k:=by
 unfold NN
 rw [List.range_succ,jjK]
 by_cases h:v=lA (lg B k)
 ·rw [if_pos h];simp [h]
 ·rw [if_neg h];simp [Ne.symm h]
theorem SI (B:List Leg) (v:Pn) (k:Nat) : (NN B v k).length≤k:=by
 have:=jjL (fun i=>decide (lA (lg B i) =v)) (List.range k)
 rwa [List.length_range] at this
theorem Cj {S:Nat→Bool} {lt:Nat→Nat→Bool} {m:Nat} :∀ {l:List Nat} {b:Option Nat},l.foldl (Mb S lt) b=some m→b=some m∨m∈l
 | [],b,h=> .inl h
 | k::l,b,h=>by
  rw [ji7] at h
  rcases Cj h with h | h
  ·unfold Mb at h
   split at h
   ·split at h
    ·injection h with h;exact .inr (by rw [h];simp)
    ·cases h
   ·split at h
    ·injection h with h;exact .inr (by rw [h];simp)
    ·exact .inl h
  ·exact .inr (jiz _ h)
def BS (B:List Leg) (u:List Bool) (f a:Nat) (k:Nat) :Option Nat:= ((SJ B (lB (lg B a))).take k).foldl (Mb (vk u f) (ltI B (lB (lg B a)) (lA (lg B a)))) none
theorem jbC (h:k< (SJ B (lB (lg B a))).length) :BS B u f a (k+1) =Mb (vk u f) (ltI B (lB (lg B a)) (lA (lg B a))) (BS B u f a k) (SJ B (lB (lg B a)))[k] :=by
 unfold BS
 rw [jik h,jjQ]
 rfl
theorem jbB (h:BS B u f a k=some m) :m<B.length:=by
 rcases Cj h with h | h
 ·cases h
 ·have:=jiL h
  unfold SJ at this
  exact jjN.1 (jjT.1 this).1
theorem jgt {v:Pn} (h:k< (SJ B v).length) : (SJ B v)[k] <B.length:=by
 have:=jir h
 unfold SJ at this
 exact jjN.1 (jjT.1 this).1
def tkI (B:List Leg) (u:List Bool) (f a:Nat) (b:Option Nat) (x:Nat) :Bool:=vk u f x&&Z1 (ltI B (lB (lg B a)) (lA (lg B a))) b x
theorem jdS {x:Nat} (h:tkI B u f a b x=true) :Mb (vk u f) (ltI B (lB (lg B a)) (lA (lg B a))) b x=some x:=by
 unfold tkI Z1 at h
 unfold Mb
 cases b<;>simp_all
theorem jdR {x:Nat} (h:tkI B u f a b x=false) :Mb (vk u f) (ltI B (lB (lg B a)) (lA (lg B a))) b x=b:=by
 unfold tkI Z1 at h
 unfold Mb
 cases b<;>simp_all
theorem jb0 {x:Nat} (h:Hu u x=false) :vk u f x=true:=by simp [vk,h]
theorem jb1 {x:Nat} (h:x=f) :vk u f x=true:=by simp [vk,h]
theorem jgn {x:Nat} (h:Hu u x=true) (h2:¬x=f) :vk u f x=false:=by simp [vk,h,h2]
theorem jee :BS B u f a (SJ B (lB (lg B a))).length=Yq B u f a:=by
 unfold BS Yq
 rw [jiM]
def RW (b:Option Nat) (f:Nat) :Bool:=match b with
 | none=>true
 | some m=>decide (m=f)
theorem jbz (h:RW (Yq B u f a) f=true) :Bn B u f a=none:=by
 unfold Bn
 cases e:Yq B u f a with
 | none=>rfl
 | some m=>
  rw [e] at h
  simp only [RW,decide_eq_true_eq] at h
  simp only
  rw [if_pos h]
theorem jgc (h:RW (Yq B u f a) f=false) :∃m,Yq B u f a=some m∧Bn B u f a=some m:=by
 unfold Bn
 cases e:Yq B u f a with
 | none=>rw [e] at h;cases h
 | some m=>
  rw [e] at h
  simp only [RW,decide_eq_false_iff_not] at h
  exact⟨m,rfl,by simp only;rw [if_neg h]⟩
theorem jgo (p:Pn) (x:Option Addr×Nat) (is:List Nat) (i:Nat) : (Gp.mk p x (is++ [i])).res=JS 0 3 1 (is.length+1) (is.map (fun (i:Nat) =>Value.int .i64 (i:Int)) ++ [.int .i64 (i:Int)]) x:=by
 simp [Gp.res,ixR]
theorem jew {l:List Gp} {g':Gp} {v:Value} (hp:g'.p=p) (h:g'.val.2=v) : (V4 l).set j (p,v) =V4 (l.set j g') :=by
 rw [V4,V4,List.map_set]
 congr 1
 subst hp h
 rfl
theorem jht (h:k<is.length) : (is.map fun (i:Nat) =>Value.int .i64 (i:Int))[k]? =some (.int .i64 ((is[k] :Nat) :Int)) :=by simp [h]
section
variable {w0:Bs} {Rs:List Res}
theorem jh1 (hr:∀w,St w0 Rs w→(ixR is x).P w) (h:k<is.length) (hm:m=is[k]) :∀w,St w0 Rs w→w.cell? ⟨VW x.1,0+k*1,none⟩ =some (.int .i64 ((m:Nat) :Int)) :=fun w hs=>by
 rw [jiB,jja,hm]
 exact zW (hr w hs) (jht h)
end
theorem jdT {x:Nat} (h:vk u f x=true) (hb:b=none) :true=tkI B u f a b x:=by simp [tkI,h,hb,Z1]
theorem jdU {x:Nat} (h:vk u f x=true) (hb:b=some m) :cwF (lB (lg B a)) (lA (lg B a)) (lB (lg B x)) (lB (lg B m)) =tkI B u f a b x:=by simp [tkI,h,hb,Z1,ltI]
theorem jg8 {x:Nat} (h:vk u f x=false) :false=tkI B u f a b x:=by simp [tkI,h]
theorem jhh (hb:b=none) :true=RW b f:=by rw [hb];rfl
theorem jhi (hb:b=some m) : (((m:Nat) :Int) == ((f:Nat) :Int)) =RW b f:=by
 rw [hb,jiK]
 simp only [RW,beq_iff_eq,decide_eq_true_eq]
 omega
theorem jaM {B T n:Nat} (hrow: (JS B T 1 n (l.map Pc.val) x).P w) (hP: (vu l).P w) (hl:l.length=n) (hc:∀e∈l,e.xs.length≤e.c) :RingsC w x.1 n (l.map (·.xs)) :=by
 have hrow:w.ownsRow B T 1 (.slice x.1 n x.2) n (l.map Pc.val) :=hrow
 refine⟨by rw [jip,hl],fun h0=> ?_⟩
 obtain ⟨g,hg⟩ :∃g,x.1=some ⟨g,0,none⟩ :=by
  rcases hrow.2 with⟨_,e⟩ |⟨g,cap,cur,e,_⟩
  ·omega
  ·injection e with e1
   exact⟨g,e1⟩
 rw [hg] at hrow⊢
 refine⟨g,0,J,jdl hrow,fun k hk=> ?_⟩
 have hkl:k<l.length:=by omega
 have hm:=jir hkl
 rw [Yf hkl]
 refine⟨l[k].A,l[k].c,?_,zQ hP hm,hc _ hm⟩
 have:=C1 hrow (j:=k) (v:=l[k].val) (by rw [List.getElem?_map,List.getElem?_eq_getElem hkl];rfl)
 rw [jja] at this
 exact this
abbrev LQ (lo hi n:Nat) (rs:List Jp) (A:Option Addr) :Res:= .clo lo hi (fun w=>RingsC w A n rs)
theorem je3 {w':World} {Rs:List Res} (hs:St ⟨w,[]⟩ Rs w') {kr kp B T n:Nat} {rs:List Jp} (hr:Rs[kr]? =some (JS B T 1 n (l.map Pc.val) x)) (hp:Rs[kp]? =some (vu l)) (hl:l.length=n) (hrs:l.map (·.xs) =rs) (hc:∀e∈l,e.xs.length≤e.c) : (LQ w.heap.size w'.heap.size n rs x.1).P w':=by
 have h1:=hs.all kr _ hr
 have h2:=hs.all kp _ hp
 have f1:∀b,(JS B T 1 n (l.map Pc.val) x).F b→w.heap.size≤b:=fun b hb=> (h1.2.1 b hb).elim id (fun h=>by cases h)
 have f2:∀b,(vu l).F b→w.heap.size≤b:=fun b hb=> (h2.2.1 b hb).elim id (fun h=>by cases h)
 refine⟨jif _,fun u hu ha=> ?_⟩
 rw [←hrs]
 exact jaM (Res.dep _ w' u h1.1 hu fun b hb h=>ha b (h.elim (fun k=>absurd k (jjP _)) (f1 b)) hb) (Res.dep _ w' u h2.1 hu fun b hb h=>ha b (h.elim (fun k=>absurd k (jjP _)) (f2 b)) hb) hl hc
theorem Vx (A:Option Addr) (n c:Nat) (B:List Leg) (w:World) (h:Legs w A n B) (hB:BoOk B) (hT:TrOk B) :
  Calls Tryz.prog 60 #[.slice A n c] w fun e w'=>∃A' c',e= .returned (qG A' (Wx B).length c')∧OwnG w.heap.size w'.heap.size w' A' (Wx B).length (Wx B)∧(LQ w.heap.size w'.heap.size (Wx B).length (Wx B) A').P w'∧Over w w':=by
 have hl:=h.1
 have hn:=hB.len
 rw [hl] at hn
 have hok:=hB.ok
 refine jK (m:=124) (Tryz.func60) J J (lb J) ?_;refine S3 ?_;refine aL (fun b1=> ?_);refine N4 ?_;refine Pm J J Dc (fun mb=> ?_);refine N2 ?_;refine Vl ?_;refine t9 ?_;refine S8 ?_;refine JE (X:=Nat×List Gp) (fun x=>x.1≤n∧∀v,Ul v x.2=NN B v x.1) (fun x=>n- x.1) (fun x=> [(19, .int .i64 (x.1:Int))]) (kK [0,2,3,17,18]) (fun x=> [.cel b1 26 [.slice none 0 0], .mp mb (V4 x.2),SA x.2]) (0,[]) (⟨jie _,fun v=>rfl⟩) ⟨J,sz⟩ (fun _ h=>h) ?_
 intro⟨i,l⟩ hx L hL1
 refine v9 ?_;refine r9 ?_
 obtain ⟨hi,hix⟩ :i≤n∧∀v,Ul v l=NN B v i:=hx
 refine S5 ?_;refine cZ (fun c1=> ?_) (fun c1=> ?_)
 ·have hil:i<n:=Om
  obtain ⟨eb,eo,rfl,_⟩ :=h.2 Om
  obtain ⟨l',j,g,k1,k2,k3,k4,k5,k6,k7,k8⟩ :=jf8 l (lA (lg B i))
  have hgl:g.is.length≤4096:= (by rw [k6,hix];have:=SI B (lA (lg B i)) i;omega)
  have hjl:= (List.getElem?_eq_some_iff.1 k4).1
  refine S7 ?_;refine a9 (jH (j:=i) J J J Jf Om) ?_;refine a9 (jk J J qx J (yx (fun w' hs=>h.over hs.fin) hil)) ?_;refine S1 ?_;refine aL (fun b2=> ?_);refine N10 ?_;refine jX J J (Mz J) J (lb J) (fun b3=> ?_);refine N1 ?_;refine Tu (k:=1) jfO (lA (lg B i)) J J J J J Dc ?_
  rw [k1,k2,k3]
  refine n9 ?_;refine jbq 2 J k7 ?_;refine t9 ?_;refine jd5 2 j J (by rw [List.getElem?_map,k4];rfl) ?_;refine t9 ?_;refine S2 ?_;refine JK (k:=5) J xI jfx Dc J Dc J J J (fun w' hs=>qD hs (k:=4) J J) (by simp [Value.oneCell']) (by unfold maxLen;omega) Om (jie _) (fun r1=> ?_);refine N2 ?_;refine Dl (k:=1) (j:=j) (p:=lA (lg B i)) (u:= .slice g.x.1 g.is.length g.x.2) J J J J J J (by rw [V4,List.getElem?_map,k4];simp [Gp.val,k5]) ?_;refine n9 ?_
  obtain ⟨g',hg'⟩ :∃g':Gp,g'=⟨lA (lg B i),r1,g.is++ [i]⟩ :=⟨_,rfl⟩
  have hgr:=jgo (lA (lg B i)) r1 g.is i
  rw [←hg'] at hgr
  refine Wb 2 5 J J Dc J ?_;refine t9 ?_;refine jbr 2 (L':= (l'.set j g').map Gp.res) J (by rw [List.map_set];have hp:=jaU (L:=l'.map Gp.res) (r:=g'.res) (j:=j) (by simpa using hjl);rw [hgr] at hp⊢;exact hp) ?_;refine t9 ?_
  rw [jew (g':=g') (by rw [hg']) (by rw [hg'];simp [Gp.val])]
  refine S7 ?_
  exact Jd hL1 ((i+1,l'.set j g')) (⟨(show i+1≤n by omega),fun v=> (by rw [k8 g' (by rw [hg']) v,jad,hg',hix v,k6,hix];split<;>simp_all)⟩) (by simp only;omega) ⟨vi Om,sz⟩ (u9 J)
 ·have hin:i=n:=Om
  have hixs:∀v,Ul v l=SJ B v:= (fun v=>by rw [hix v,hin,←hl];rfl)
  clear hix
  refine S10 ?_;refine IQ J J J vC yK J Dc Om Om (fun b4=> ?_);refine N2 ?_;refine DB 3 1 n (b:=b4) (U:=4) (cs:= (List.replicate n false).map Value.bool) (by rw [←jbV];simp) (by simp) Om ?_;refine t9 ?_;refine S3 ?_;refine aL (fun b5=> ?_);refine N1 ?_;refine Q7 (T:=74) (s:=1) ?_;refine t9 ?_;refine Vl ?_;refine t9 ?_;refine S8 ?_;refine JE (X:=Nat×(Option Addr×Nat)×List Pc) (fun x=>x.1≤n∧x.2.2.map (·.xs) = (Kz B x.1).2∧(∀e∈x.2.2,e.xs.length≤e.c)) (fun x=>n- x.1) (fun x=> [(39, .int .i64 (x.1:Int))]) (kK [0,2,3,6,7,38]) (fun x=> [.cel b1 26 [.slice none 0 0], .mp mb (V4 l),SA l,boR n (Kz B x.1).1 (some ⟨b4,0,none⟩,n), .cel b5 26 [.slice x.2.1.1 x.2.2.length x.2.1.2],JS (Bs.N ⟨w,[]⟩) 74 1 x.2.2.length (x.2.2.map Pc.val) x.2.1,vu x.2.2]) (0,(none,0),[]) (⟨jie _,rfl,fun e he=> (by cases he)⟩) ⟨rfl,sz⟩ (fun _ h=>by rw [show(Kz B 0).1=List.replicate n false by rw [←hl];rfl];exact h) ?_
  intro⟨i,⟨rA,rc⟩,ll⟩ hx2 L hL2
  refine v9 ?_;refine r9 ?_
  obtain ⟨hi,hmp,hcp⟩ :i≤n∧ll.map (·.xs) = (Kz B i).2∧(∀e∈ll,e.xs.length≤e.c) :=hx2
  have hul: (Kz B i).1.length=n:= (by rw [Zf,hl])
  obtain ⟨tl1,tl2⟩ :=yH (B:=B) i Om
  have hll:ll.length≤4096:= (by have:=congrArg List.length hmp;rw [jip] at this;omega)
  refine S5 ?_;refine cZ (fun c2=> ?_) (fun c2=> ?_)
  ·have hil:i<n:=Om
   refine S14 ?_;refine a9 (qM (r:= (some ⟨b4,0,none⟩,n)) (j:=i) (fun w hs=> (hs.all 3 _ J).1) J J J vC hil) ?_;refine a9 (jq J J QV (je8 (r:= (some ⟨b4,0,none⟩,n)) (fun w hs=> (hs.all 3 _ J).1) Om)) ?_;refine S1 ?_;refine cZ (fun c3=> ?_) (fun c3=> ?_)
   ·refine S8 ?_
    exact Jd hL2 ((i+1,(rA,rc),ll)) (⟨(show i+1≤n by omega),(by rw [X4 c3];exact hmp),hcp⟩) (by simp only;omega) ⟨vi Om,sz⟩ (fun _ h=>h.upto ⟨J,J,J,by rw [X4 c3],sz⟩)
   ·obtain ⟨u0,hu0⟩ :∃u0,u0= (Kz B i).1:=⟨_,rfl⟩
    have hst:Hu u0 i=false:= (by rw [hu0];exact c3)
    obtain ⟨R,hR⟩ :∃R,R=yD B i (ud u0) u0 i [] :=⟨_,rfl⟩
    have hnx:Kz B (i+1) = (R.1,(Kz B i).2++ [R.2]) := (by rw [Ev c3,hR,hu0])
    rw [←hu0] at hul⊢
    obtain ⟨_,hRl⟩ :=yH (B:=B) (i+1) Om
    have hRs:R.2.length≤4096:= (by have:= (hRl R.2 (by rw [hnx];simp)).2.1;omega)
    obtain ⟨eb,eo,rfl,_⟩ :=h.2 Om
    refine S5 ?_;refine Q7 (T:=28) (s:=2) ?_;refine N1 ?_;refine Uz (X:= (Option Addr×Nat)×Int) (fun x=>True) (fun x=> [(9, .slice x.1.1 R.2.length x.1.2),(10, .int .i64 x.2)]) (kK [0,2,3,6,7,38,39,40,41,8,42,43,44,45]) (fun x=> [.cel b1 26 [.slice none 0 0], .mp mb (V4 l),SA l,boR n R.1 (some ⟨b4,0,none⟩,n), .cel b5 26 [.slice rA ll.length rc],JS (Bs.N ⟨w,[]⟩) 74 1 ll.length (ll.map Pc.val) (rA,rc),vu ll,JS (Bs.N ⟨w,[]⟩) 28 2 R.2.length (R.2.flatMap jV) x.1]) (fun L h_4=> ?_) ?_
    ·refine S6 ?_;refine JE (X:=List Bool×Nat×List Pn×Option Addr×Nat) (fun y=>RunI B i u0 y.1 y.2.1 y.2.2.1∧y.2.2.1.length+ud y.1≤4096) (fun y=>ud y.1) (fun y=> [(9, .slice y.2.2.2.1 y.2.2.1.length y.2.2.2.2),(10, .int .i64 (y.2.1:Int))]) (kK [0,2,3,6,7,38,39,40,41,8,42,43,44,45,46]) (fun y=> [.cel b1 26 [.slice none 0 0], .mp mb (V4 l),SA l,boR n y.1 (some ⟨b4,0,none⟩,n), .cel b5 26 [.slice rA ll.length rc],JS (Bs.N ⟨w,[]⟩) 74 1 ll.length (ll.map Pc.val) (rA,rc),vu ll,JS (Bs.N ⟨w,[]⟩) 28 2 y.2.2.1.length (y.2.2.1.flatMap jV) y.2.2.2]) (u0,i,[],none,0) (⟨RunI.start Om Om hst,(by have:=FY u0;simp;omega)⟩) ⟨J,sz⟩ (fun _ h=>h) ?_
     intro⟨u,k,ps,qA,qc⟩ hy L hL3
     refine v9 ?_;refine r9 ?_
     obtain ⟨hI,hy2⟩ :RunI B i u0 u k ps∧ps.length+ud u≤4096:=hy
     have hkB:=hI.la
     have hun:u.length=n:= (by rw [hI.len,hl])
     have hkn:k<n:=Om
     have hpos:=hI.pos
     obtain ⟨hk1,hk2⟩ :=Dd hok hkB
     refine S5 ?_;refine a9 (qM (r:= (some ⟨b4,0,none⟩,n)) (j:=k) (fun w hs=> (hs.all 3 _ J).1) J J J vC hkn) ?_;refine S1 ?_;refine Ud (k:=3) (r:= (some ⟨b4,0,none⟩,n)) (vs:= [.bool true]) J J J J (by rfl) (by rfl) yK.szx J J (by simp) (by rw [jip];simp only [jij,jiw];omega) ?_;refine n9 ?_
     rw [jbv Om]
     refine S6 ?_;refine a9 (jH (j:=k) J J J Jf Om) ?_;refine S1 ?_;refine a9 (jk J J jj J (Qq (fun w' hs=>h.over hs.fin) hkn)) ?_;refine S1 ?_;refine jX J J (J9 J) J (lb J) (fun b6=> ?_);refine N1 ?_;refine JK (k:=7) J jl jD Dc J Dc J J J (fun w' hs=>qD hs (k:=8) J J) (by simp [Value.oneCell']) (by unfold maxLen;omega) Om (jif _) (fun r2=> ?_);refine N4 ?_;refine JH 15 ?_;refine dK 0 ?_;refine dK 1 ?_;refine dZ 2 J (jH (j:=k) J J J Jf Om) ?_;refine dK 3 ?_;refine dZ 4 J (jk J J jj J (Qa (fun w' hs=>h.over hs.fin) hkn)) ?_;refine dK 5 ?_;refine dK 6 ?_;refine dZ 7 J (jH (j:=k) J J J Jf Om) ?_;refine dK 8 ?_;refine dZ 9 J (jk J J jj J (Qq (fun w' hs=>h.over hs.fin) hkn)) ?_;refine F3 (i:=10) (j:=11) J J Dc Dc Dc J J J J Dc Dc Dc J J jD jD Kr Kr Kr (u9 J) (fun b7 b8=> ?_);refine n9 ?_;refine qd (i:=12) J Dc Kr J ?_;refine S1 ?_;refine JU (u9 J) ?_;refine qd (i:=13) J Dc Kr J ?_;refine j9 10 jD.szx ?_;refine n9 ?_;refine JU (u9 J) ?_;refine dK 14 ?_;refine JB Kr ?_;refine S3 ?_
     obtain ⟨xk,hxv,hxr⟩ :=jcq l (lB (lg B k))
     rw [hixs] at hxv hxr
     have hbk:=jee (B:=B) (u:=u.set k true) (f:=i) (a:=k)
     have hsm:=ja7 hT (first:=i) (at_:=k) Om hkB hI.first
     have hixl: (SJ B (lB (lg B k))).length≤B.length:= (by have:=SI B (lB (lg B k)) B.length;exact this)
     refine S3 ?_;refine a9 ((jaJ (k:=1) jfO (lB (lg B k)) J J J J).as (hxv)) ?_;refine S4 ?_;refine qj (X:=Nat) (fun q=>q≤(SJ B (lB (lg B k))).length) (fun q=> (SJ B (lB (lg B k))).length- q) (fun q=> [(13, .int .i64 (YL (BS B (u.set k true) i k q))),(72, .int .i64 (q:Int))]) (kK [0,2,3,6,7,38,39,40,41,8,42,43,44,45,46,9,10,47,48,49,50,51,52,53,54,55,56,57,58,59,60,61,62,63,64,65,66,67,11,12,68,69,70,71]) 0 (jie _) ⟨J,sz⟩ ?_
     intro q hq L hL4
     refine V5 ?_;refine cZ (fun c4=> ?_) (fun c4=> ?_)
     ·have hql:q< (SJ B (lB (lg B k))).length:=Om
      obtain ⟨x,hx⟩ :∃x,x= (SJ B (lB (lg B k)))[q] :=⟨_,rfl⟩
      have hxn:x<n:= (by rw [hx,←hl];exact jgt hql)
      obtain ⟨hx1,hx2⟩ :=Dd hok (show x<B.length by omega)
      have hst:=jbC (B:=B) (u:=u.set k true) (f:=i) (a:=k) hql
      rw [←hx] at hst
      refine S6 ?_;refine a9 (qM (r:=xk) (j:=q) (fun w hs=>hxr w (hs.all 2 _ J).1) J J J xI hql) ?_;refine a9 (jq J J jfw (jh1 (x:=xk) (m:=x) (fun w hs=>hxr w (hs.all 2 _ J).1) hql hx)) ?_;refine S2 ?_;refine qr [(104, .bool (tkI B (u.set k true) i k (BS B (u.set k true) i k q) x))] (kK [0,2,3,6,7,38,39,40,41,8,42,43,44,45,46,9,10,47,48,49,50,51,52,53,54,55,56,57,58,59,60,61,62,63,64,65,66,67,11,12,68,69,70,71,13,72,73,74,75,15]) (fun L h_21=> ?_) ?_
      ·refine Xm mixed Kr (fun _ _ d _ _ h=>by cases d<;>exact h) ?_;refine x9 q9 ?_;refine x9 q9 ?_;refine x9 (qM (r:= (some ⟨b4,0,none⟩,n)) (j:=x) (fun w hs=> (hs.all 3 _ J).1) J J J vC hxn) ?_;refine x9 (jq J J QV (je8 (r:= (some ⟨b4,0,none⟩,n)) (fun w hs=> (hs.all 3 _ J).1) (by rw [jjf];omega))) ?_;refine x9 (qp J J) ?_;refine x9 q9 ?_;refine vl 81 J (fun g1=> ?_) (fun g1=> ?_)
       ·try simp only[zz] at g1
        (iterate 3 refine z9 ?_);refine x9 (Ji J J J) ?_;refine x9 q9 ?_;refine y9 q9 ?_;refine y9 (Jq J J J) ?_;refine y9 q9 ?_;refine vl 89 J (fun g2=> ?_) (fun g2=> ?_)
        ·try simp only[zz] at g2
         (iterate 13 refine z9 ?_);refine y9 (Ji J J J) ?_;refine x9 (Ji J J J) ?_;refine wy ?_;refine S1 ?_
         exact Js h_21 ⟨vb (jdT (jb0 g1) (yc g2)),sz⟩ (u9 J)
        ·try simp only[zz] at g2
         obtain ⟨m,hm⟩ :=yd (by first | exact g4 | exact g2)
         have hmn:m<n:= (by rw [←hl];exact jbB hm)
         obtain ⟨hm1,hm2⟩ :=Dd hok (show m<B.length by omega)
         refine y9 (jk J J jj J (Jj (k:=9) J)) ?_;refine y9 (jk J J jj J (Jj (k:=10) J)) ?_;refine y9 q9 ?_;refine y9 q9 ?_;refine y9 (jH (j:=x) J J J Jf Om) ?_;refine y9 (jg J J qi) ?_;refine y9 (jk J J jj J (Qa (fun w' hs=>h.over hs.fin) hxn)) ?_;refine y9 q9 ?_;refine y9 ((ja J J).as (congrArg _ (show YL (BS B (u.set k true) i k q) = ((m:Nat) :Int) by rw [hm];rfl))) ?_;refine y9 (jH (j:=m) J J J Jf Om) ?_;refine y9 (jg J J qi) ?_;refine y9 (jk J J jj J (Qa (j:=m) (fun w' hs=>h.over hs.fin) hmn)) ?_;refine y9 (jG Wj J J (fun w1 hs=>DM (lB (lg B k)) (lA (lg B k)) (lB (lg B x)) (lB (lg B m)) w1 hk2 hk1 hx2 hm2)) ?_;refine y9 (jM J J J) ?_;refine x9 (Ji J J J) ?_;refine wy ?_;refine S1 ?_
         exact Js h_21 ⟨vb (jdU (jb0 g1) hm),sz⟩ (u9 J)
       ·try simp only[zz] at g1
        refine y9 q9 ?_;refine y9 q9 ?_;refine y9 (qX J J J) ?_;refine x9 (jM J J J) ?_;refine x9 q9 ?_;refine vl 86 J (fun g3=> ?_) (fun g3=> ?_)
        ·try simp only[zz] at g3
         refine y9 q9 ?_;refine y9 (Jq J J J) ?_;refine y9 q9 ?_;refine vl 89 J (fun g4=> ?_) (fun g4=> ?_)
         ·try simp only[zz] at g4
          (iterate 13 refine z9 ?_);refine y9 (Ji J J J) ?_;refine x9 (Ji J J J) ?_;refine wy ?_;refine S1 ?_
          exact Js h_21 ⟨vb (jdT (jb1 Om) (yc g4)),sz⟩ (u9 J)
         ·try simp only[zz] at g4
          obtain ⟨m,hm⟩ :=yd (by first | exact g4 | exact g2)
          have hmn:m<n:= (by rw [←hl];exact jbB hm)
          obtain ⟨hm1,hm2⟩ :=Dd hok (show m<B.length by omega)
          refine y9 (jk J J jj J (Jj (k:=9) J)) ?_;refine y9 (jk J J jj J (Jj (k:=10) J)) ?_;refine y9 q9 ?_;refine y9 q9 ?_;refine y9 (jH (j:=x) J J J Jf Om) ?_;refine y9 (jg J J qi) ?_;refine y9 (jk J J jj J (Qa (fun w' hs=>h.over hs.fin) hxn)) ?_;refine y9 q9 ?_;refine y9 ((ja J J).as (congrArg _ (show YL (BS B (u.set k true) i k q) = ((m:Nat) :Int) by rw [hm];rfl))) ?_;refine y9 (jH (j:=m) J J J Jf Om) ?_;refine y9 (jg J J qi) ?_;refine y9 (jk J J jj J (Qa (j:=m) (fun w' hs=>h.over hs.fin) hmn)) ?_;refine y9 (jG Wj J J (fun w1 hs=>DM (lB (lg B k)) (lA (lg B k)) (lB (lg B x)) (lB (lg B m)) w1 hk2 hk1 hx2 hm2)) ?_;refine y9 (jM J J J) ?_;refine x9 (Ji J J J) ?_;refine wy ?_;refine S1 ?_
          exact Js h_21 ⟨vb (jdU (jb1 Om) hm),sz⟩ (u9 J)
        ·try simp only[zz] at g3
         (iterate 3 refine z9 ?_);(iterate 13 refine qH J J J J J Dc ?_);refine z9 ?_;refine x9 (jM J J J) ?_;refine wy ?_;refine S1 ?_
         exact Js h_21 ⟨vb (jg8 (jgn g1 Om)),sz⟩ (u9 J)
      ·refine v9 ?_;refine cZ (fun c5=> ?_) (fun c5=> ?_)
       ·refine S10 ?_
        exact qa hL4 (q+1) Om Om ⟨vi (by rw [hst,jdS c5];rfl),vi Om,sz⟩ (u9 J)
       ·refine S7 ?_
        exact qa hL4 (q+1) Om Om ⟨vi (by rw [hst,jdR c5]),vi Om,sz⟩ (u9 J)
     ·obtain rfl:q= (SJ B (lB (lg B k))).length:=Om
      rw [hbk]
      refine S6 ?_;refine qr [(113, .bool (RW (Yq B (u.set k true) i k) i))] (kK [0,2,3,6,7,38,39,40,41,8,42,43,44,45,46,9,10,47,48,49,50,51,52,53,54,55,56,57,58,59,60,61,62,63,64,65,66,67,11,12,68,69,70,71,13,72,73]) (fun L h_24=> ?_) ?_
      ·refine S4 ?_;refine cV 109 (fun g5=> ?_) (fun g5=> ?_)
       ·refine S5 ?_
        exact Js h_24 ⟨vb (jhh (yc g5)),sz⟩ (u9 J)
       ·obtain ⟨m,hm⟩ :=yd g5
        refine h9 ?_;refine o9 ((ja J J).as (congrArg _ (show YL (Yq B (u.set k true) i k) = ((m:Nat) :Int) by rw [hm];rfl))) ?_;refine S6 ?_
        exact Js h_24 ⟨vb (jhi hm),sz⟩ (u9 J)
      ·refine v9 ?_;refine cZ (fun c6=> ?_) (fun c6=> ?_)
       ·have hRe:R= (u.set k true,ps++ [lA (lg B k)]) := (by rw [hR];exact hI.stop (hsm▸jbz c6))
        refine S6 ?_
        exact Ka h_4 ((r2,(k:Int))) (trivial) ⟨by rw [hRe,jid];rfl,sz⟩ (fun _ h=> (h.picks [0,1,2,3,4,5,6,7] Dc).upto ⟨J,J,J,by rw [hRe],J,J,J,by rw [hRe,jid,jii];rfl,trivial⟩)
       ·obtain ⟨m,hm,hm2⟩ :=jgc c6
        rw [hm]
        refine S3 ?_;refine a9 ((ja J J).as (congrArg _ (show YL (some m) = ((m:Nat) :Int) from J))) ?_;refine S4 ?_
        exact Jd hL3 ((u.set k true,m,ps++ [lA (lg B k)],r2)) (⟨hI.more (hsm▸hm2),(by simp only [jid,jij,jiw];omega)⟩) (by simp only;omega) ⟨by rw [jid];rfl,sz⟩ (fun _ h=> (h.picks [0,1,2,3,4,5,6,7] Dc).upto ⟨J,J,J,J,J,J,J,by rw [jid,jii];rfl,trivial⟩)
    ·rintro⟨⟨pA,pc⟩,_⟩ -
     refine v9 ?_;refine r9 ?_;refine S4 ?_;refine a9 (JF J J (KW J)) ?_;refine S1 ?_;refine jX J J (qN J) J (lb J) (fun b9=> ?_);refine N1 ?_;refine JK (k:=5) J jS JA Dc J Dc J J J (fun w' hs=>qD hs (k:=8) J J) (by simp [Value.oneCell']) (by unfold maxLen;omega) Om (jif _) (fun r3=> ?_);refine N4 ?_;refine qR (fun w hs=>v6 (hs.all 7 _ J).1) ?_
     intro hcap
     refine ZM 7 J J (fun clo chi=> ?_);refine t9 ?_;refine Wb 6 7 J J Dc J ?_;refine t9 ?_;refine S6 ?_
     exact Jd hL2 ((i+1,r3,ll++ [⟨R.2,pA,pc,clo,chi⟩])) (⟨(show i+1≤n by omega),(by rw [jiG,hmp,hnx];rfl),fun e he=> (jit.1 he).elim (hcp e) (fun h=>by rw [jin.1 h];exact hcap)⟩) (by simp only;omega) ⟨vi Om,sz⟩ (fun _ h=>h.upto ⟨J,J,J,by rw [hnx],by rw [jid];rfl,by rw [jid,jiG];rfl,(vZ _ _).symm,trivial⟩)
  ·have hin:i=n:=Om
   have htr:ll.map (·.xs) =Wx B:= (by rw [hmp,hin,←hl];rfl)
   have htl: (Wx B).length=ll.length:= (by rw [←htr,jip])
   refine S12 ?_;refine jJ J (JZ (k:=0) J jE J J) ?_
   intro w' hs
   exact⟨rA,rc,by rw [htl],by rw [htl];exact yv hs (kr:=5) (kp:=6) rfl rfl Dc rfl rfl htr (fun j hj=>by rw [←Wc hj];have:= (tl2 _ (by rw [←hmp,htr];exact jir hj)).2.1;omega),by rw [htl];exact je3 hs (kr:=5) (kp:=6) rfl rfl rfl htr hcp,hs.fin⟩
end Go.Proofs.YtbahojdbmmjkcaaGreat
