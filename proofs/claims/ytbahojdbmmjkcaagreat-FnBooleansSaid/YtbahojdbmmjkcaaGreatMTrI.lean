import Derived.Test.YtbahojdbmmjkcaaGreatMCmbP
import Derived.Test.YtbahojdbmmjkcaaGreatMTrS
set_option linter.unusedVariables false
set_option linter.unusedSimpArgs false
namespace Go.Proofs.YtbahojdbmmjkcaaGreat
open Go Go.RowKit
variable {B:List Leg} {L:List Res} {a f j k m:Nat} {b:Option Nat} {is:List Nat} {l:List Pc} {p:Pn} {u:List Bool} {w:World} {x:Option Addr×Nat}
set_option maxRecDepth 100000
set_option maxHeartbeats 4000000
theorem Sv (o b p:Pn) (w:World) (ho:bd2 o) (hb:bd2 b) (hp:bd2 p) :Calls Tryz.prog 181 #[pV o,pV b,pV p] w fun e w'=>e= .returned (.int .i64 (cwH o b p))∧Over w w':=by
 refine j6 (m:=18) (Tryz.func181) J J (lb J) ?_;refine S3 ?_;refine aX (fun b1=> ?_);refine N1 ?_;refine aX (fun b2=> ?_);refine N1 ?_;refine aX (fun b3=> ?_);refine N8 ?_;refine a9 (jM KG J J (fun w1 hs=>Lh o b p w1 ho hb hp)) ?_;refine S9 ?_;refine cZ (fun c1=> ?_) (fun c1=> ?_)
 ·refine S7 ?_;refine jK J (.tmp J) ?_
  intro w' hs
  exact⟨Y0 (by rw [cwH,if_pos c1]),hs.fin⟩
 ·refine S6 ?_;refine cZ (fun c2=> ?_) (fun c2=> ?_)
  ·refine S7 ?_;refine jK J (.tmp J) ?_
   intro w' hs
   exact⟨Y0 (by rw [cwH,if_neg Om,if_pos c2]),hs.fin⟩
  ·refine S8 ?_;refine jK J (.tmp J) ?_
   intro w' hs
   exact⟨Y0 (by rw [cwH,if_neg Om,if_neg c2]),hs.fin⟩
theorem D7 (o b p q:Pn) (w:World) (ho:bd2 o) (hb:bd2 b) (hp:bd2 p) (hq:bd2 q) :Calls Tryz.prog 120 #[pV o,pV b,pV p,pV q] w fun e w'=>e= .returned (.bool (cwF o b p q))∧Over w w':=by
 refine j6 (m:=30) (Tryz.func120) J J (lb J) ?_;refine S3 ?_;refine aX (fun b1=> ?_);refine N1 ?_;refine aX (fun b2=> ?_);refine N1 ?_;refine aX (fun b3=> ?_);refine N1 ?_;refine aX (fun b4=> ?_);refine N5 ?_;refine JS 10 ?_;refine dK 0 ?_;refine dK 1 ?_;refine dK 2 ?_;refine dZ 3 J (jM ux J J (fun w1 hs=>Sv o b p w1 ho hb hp)) ?_;refine dK 4 ?_;refine dK 5 ?_;refine dK 6 ?_;refine dZ 7 J (jM ux J J (fun w1 hs=>Sv o b q w1 ho hb hq)) ?_;refine dK 8 ?_;refine dK 9 ?_;refine JJ Kr ?_;refine S7 ?_;refine cZ (fun c1=> ?_) (fun c1=> ?_)
 ·refine S9 ?_;refine jK J (.tmp J) ?_
  intro w' hs
  exact⟨QF (by rw [cwF,if_pos c1]),hs.fin⟩
 ·refine S7 ?_;refine a9 (jM KG J J (fun w1 hs=>Lh o p q w1 ho hp hq)) ?_;refine S4 ?_;refine jK J (.tmp J) ?_
  intro w' hs
  exact⟨QF (by rw [cwF,if_neg (by simpa using c1)]),hs.fin⟩
structure Gp where
 p:Pn
 x:Option Addr×Nat
 is:List Nat
def Gp.val (g:Gp) :Pn×Value:= (g.p, .slice g.x.1 g.is.length g.x.2)
abbrev ixR (is:List Nat) (x:Option Addr×Nat) :Res:=J3 0 3 1 is.length (is.map fun (i:Nat) =>Value.int .i64 (i:Int)) x
def Gp.res (g:Gp) :Res:=ixR g.is g.x
def Wa (l:List Gp) :List (Pn×Value) :=l.map Gp.val
abbrev SM (l:List Gp) :Res:= .many (l.map Gp.res)
def U1 (v:Pn) :List Gp→List Nat
 | [] => []
 | g::l=>if v=g.p then g.is else U1 v l
theorem OC {v:Pn} :∀ {l:List Gp} {i:Nat},KW v (Wa l) i=none→U1 v l= []
 | [],_,_=>rfl
 | g::l,i,h=>by
  have h: (if v=g.p then some (i,g.val.2) else KW v (Wa l) (i+1)) =none:=h
  unfold U1
  split at h
  ·cases h
  ·rename_i hn
   rw [if_neg hn]
   exact OC h
theorem XW {v:Pn} {j:Nat} {u:Value} :∀ {l:List Gp} {i:Nat},KW v (Wa l) i=some (j,u)→i≤j∧∃g,l[j- i]? =some g∧g.p=v∧u= .slice g.x.1 g.is.length g.x.2∧U1 v l=g.is
 | [],_,h=>by cases h
 | g::l,i,h=>by
  have h: (if v=g.p then some (i,g.val.2) else KW v (Wa l) (i+1)) =some (j,u) :=h
  unfold U1
  split at h
  ·rename_i e
   injection h with h
   injection h with h1 h2
   subst h1
   rw [if_pos e]
   exact⟨jjm _,g,by simp,e.symm,h2.symm,rfl⟩
  ·rename_i hn
   rw [if_neg hn]
   obtain ⟨h1,g',h2,h3⟩ :=XW h
   refine⟨by omega,g',?_,h3⟩
   rw [show j- i= (j- (i+1)) +1 by omega]
   simpa using h2
theorem NZ {p v:Pn} {g':Gp} (hg:g'.p=p) {j:Nat} {u:Value} :∀ {l:List Gp} {i:Nat},KW p (Wa l) i=some (j,u)→U1 v (l.set (j- i) g') =if v=p then g'.is else U1 v l
 | [],_,h=>by cases h
 | g::l,i,h=>by
  have h: (if p=g.p then some (i,g.val.2) else KW p (Wa l) (i+1)) =some (j,u) :=h
  split at h
  ·rename_i e
   injection h with h
   injection h with h1 h2
   subst h1
   rw [Nat.sub_self,List.set_cons_zero]
   simp only [U1,hg]
   by_cases hv:v=p
   ·rw [if_pos hv,if_pos hv]
   ·rw [if_neg hv,if_neg hv,if_neg (fun k=>hv (k.trans e.symm))]
  ·rename_i hn
   have hj:= (XW h).1
   have ih:=NZ (v:=v) hg h
   rw [show j- i= (j- (i+1)) +1 by omega,List.set_cons_succ]
   simp only [U1]
   by_cases hv:v=g.p
   ·rw [if_pos hv,if_pos hv,if_neg (fun k=>hn (k.symm.trans hv))]
   ·rw [if_neg hv,if_neg hv,ih]
def zm (p:Pn) :Gp:=⟨p,(none,0),[]⟩
theorem jhm {v:Pn} :∀ {l:List Gp},KW p (Wa l) 0=none→U1 v (l++ [zm p]) =U1 v l:=by
 have key:∀(l:List Gp) (i:Nat),KW p (Wa l) i=none→U1 v (l++ [zm p]) =U1 v l:=by
  intro l
  induction l with
  | nil=>
   intro i _
   simp only [jj2,U1,zm]
   split<;>rfl
  | cons g l ih=>
   intro i h
   have h: (if p=g.p then some (i,g.val.2) else KW p (Wa l) (i+1)) =none:=h
   split at h
   ·cases h
   ·simp only [jjN,U1]
    rw [ih _ h]
 intro l h
 exact key l 0 h
theorem CB {p:Pn} :∀ {l:List Gp} {i:Nat},KW p (Wa l) i=none→KW p (Wa (l++ [zm p])) i=some (i+l.length, .slice none 0 0)
 | [],i,_=>by simp [Wa,zm,Gp.val,KW]
 | g::l,i,h=>by
  have h: (if p=g.p then some (i,g.val.2) else KW p (Wa l) (i+1)) =none:=h
  split at h
  ·cases h
  ·rename_i hn
   show(if p=g.p then some (i,g.val.2) else KW p (Wa (l++ [zm p])) (i+1)) =_
   rw [if_neg hn,CB h,jjr]
   congr 2
   omega
theorem jgX (l:List Gp) (p:Pn) :∃(l':List Gp) (j:Nat) (g:Gp),E0 p (Wa l) =Wa l'∧jaP p (Wa l) =j∧BW p (Wa l) = .slice g.x.1 g.is.length g.x.2∧l'[j]? =some g∧g.p=p∧g.is=U1 p l∧(l'=l∨l'=l++ [zm p])∧
  ∀g',g'.p=p→∀v,U1 v (l'.set j g') =if v=p then g'.is else U1 v l:=by
 unfold E0 jaP BW
 cases h:KW p (Wa l) 0 with
 | none=>
  have h2:=CB h
  rw [jjP] at h2
  refine⟨l++ [zm p],l.length,zm p,by simp [Wa,zm,Gp.val],by simp [Wa],J,by simp,J,(OC h).symm, .inr J,fun g' hg v=> ?_⟩
  have:=NZ (v:=v) hg h2
  rw [Nat.sub_zero] at this
  rw [this,jhm h]
 | some x=>
  obtain ⟨j,u⟩ :=x
  obtain ⟨_,g,h1,h2,h3,h4⟩ :=XW h
  rw [Nat.sub_zero] at h1
  refine⟨l,j,g,J,J,h3,h1,h2,h4.symm, .inl J,fun g' hg v=> ?_⟩
  have:=NZ (v:=v) hg h
  rw [Nat.sub_zero] at this
  exact this
theorem jcX (l:List Gp) (v:Pn) :∃x:Option Addr×Nat,BW v (Wa l) = .slice x.1 (U1 v l).length x.2∧∀w,(SM l).P w→(ixR (U1 v l) x).P w:=by
 unfold BW
 cases h:KW v (Wa l) 0 with
 | none=>
  rw [OC h]
  exact⟨(none,0),rfl,fun w _=>World.ownsRow_nil _ _ _ _⟩
 | some y=>
  obtain ⟨j,u⟩ :=y
  obtain ⟨_,g,h1,h2,h3,h4⟩ :=XW h
  rw [Nat.sub_zero] at h1
  rw [h4]
  exact⟨g.x,h3,fun w hP=> (hP.1 g.res (jjx.2 ⟨g,List.mem_of_getElem? h1,rfl⟩)).1⟩
section
variable {n:Nat} {env:List (Nat×Value)} {w0:Bs} {Rs:List Res} {K:Act→World→Prop}
theorem jiw (b:Nat) :¬(zm p).res.F b:=fun h=>by
 have h:Value.ownBlock (.slice none 0 0) =some b:=h
 simp [Value.ownBlock] at h
theorem jbK (k:Nat) {l l':List Gp} (hk:Rs[k]? =some (SM l)) (hl:l'=l∨l'=l++ [zm p]) (h:At n env w0 (Rs.set k (SM l')) K) :At n env w0 Rs K:=fun a w hf hs=>by
 refine h a w hf (hs.chg hk (fun hP=> ?_) (fun c hc=> ?_) J)
 ·rcases hl with rfl | rfl
  ·exact hP
  ·rw [SM,jjQ]
   refine⟨fun r hr=> ?_,?_⟩
   ·rcases jjz.1 hr with hr | hr
    ·exact hP.1 r hr
    ·rw [jjp.1 hr]
     exact⟨World.ownsRow_nil _ _ _ _,rfl⟩
   ·refine jkQ.2 ⟨hP.2,jkG _ _,fun r _ s hs b _ hb=> ?_⟩
    rw [jjp.1 hs] at hb
    exact jiw b hb
 ·rcases hl with rfl | rfl
  ·exact hc
  ·obtain ⟨r,hr,hb⟩ :=hc
   rw [jjQ] at hr
   rcases jjz.1 hr with hr | hr
   ·exact⟨r,hr,hb⟩
   ·rw [jjp.1 hr] at hb
    exact absurd hb (jiw c)
theorem jeL (k j:Nat) {r:Res} (hk:Rs[k]? =some (.many L)) (hj:L[j]? =some r) (h:At n env w0 (Rs.set k (.many (L.eraseIdx j)) ++ [r]) K) :At n env w0 Rs K:=fun a w hf hs=>by
 have hm:=hs.all k _ hk
 have hmem:r∈L:=List.mem_of_getElem? hj
 have hperm:L.Perm (r::L.eraseIdx j) :=by
  obtain ⟨hl,e⟩ :=List.getElem?_eq_some_iff.1 hj
  have e1:L=L.take j++r::L.drop (j+1) :=by rw [←e,←jj5 hl,jjA]
  rw [List.eraseIdx_eq_take_drop_succ]
  conv=>lhs;rw [e1]
  exact List.perm_middle
 have hpw: (r::L.eraseIdx j).Pairwise (fun (r s:Res) =>∀b:Nat,r.F b→¬s.F b) :=hperm.pairwise hm.1.2 (fun h b h1 h2=>h b h2 h1)
 have hpc:=jjX.1 hpw
 have hs1:St w0 (Rs.set k (.many (L.eraseIdx j))) w:=hs.chg hk (fun hP=>⟨fun s hs'=>hP.1 s (List.mem_of_mem_eraseIdx hs'),hpc.2⟩) (fun c hc=>by
  obtain ⟨s,hs',hb⟩ :=hc
  exact⟨s,List.mem_of_mem_eraseIdx hs',hb⟩) rfl
 refine h a w hf (hs1.add' (hm.1.1 r hmem).1 (fun b hb=>hm.2.1 b ⟨r,hmem,hb⟩) (fun i s hi b hb hsb=> ?_) (hm.1.1 r hmem).2)
 rw [List.getElem?_set] at hi
 by_cases hik:k=i
 ·rw [if_pos hik] at hi
  split at hi
  ·injection hi with hi
   subst hi
   obtain ⟨t,ht,hb2⟩ :=hsb
   exact hpc.1 t ht b hb hb2
  ·cases hi
 ·rw [if_neg hik] at hi
  exact hs.apart k i _ _ hik hk hi b ⟨r,hmem,hb⟩ hsb
theorem jbL (k:Nat) {L':List Res} (hk:Rs[k]? =some (.many L)) (hp:L.Perm L') (h:At n env w0 (Rs.set k (.many L')) K) :At n env w0 Rs K:=fun a w hf hs=>
 h a w hf (hs.chg hk (fun hP=>Fs hp hP) (fun c hc=>by
  obtain ⟨s,hs',hb⟩ :=hc
  exact⟨s,hp.mem_iff.2 hs',hb⟩) rfl)
end
theorem ja7 {α:Type} {L:List α} {r:α} (h:j<L.length) : (L.eraseIdx j++ [r]).Perm (L.set j r) :=by
 rw [List.eraseIdx_eq_take_drop_succ,List.set_eq_take_append_cons_drop,if_pos h]
 rw [jjq]
 exact List.Perm.append_left _ (List.perm_append_comm (l₁:=L.drop (j+1)) (l₂:= [r]))
def N0 (B:List Leg) (v:Pn) (k:Nat) :List Nat:= (List.range k).filter fun i=>decide (lA (lg B i) =v)
theorem jas (B:List Leg) (v:Pn) (k:Nat) :N0 B v (k+1) =if v=lA (lg B k) then N0 B v k++ [k] else N0 B v k:=by
 unfold N0
 rw [List.range_succ,jkN]
 by_cases h:v=lA (lg B k)
 ·rw [if_pos h];simp [h]
 ·rw [if_neg h];simp [Ne.symm h]
theorem SR (B:List Leg) (v:Pn) (k:Nat) : (N0 B v k).length≤k:=by
 have:=jkZ (fun i=>decide (lA (lg B i) =v)) (List.range k)
 rwa [List.length_range] at this
theorem CC {S:Nat→Bool} {lt:Nat→Nat→Bool} {m:Nat} :∀ {l:List Nat} {b:Option Nat},l.foldl (LU S lt) b=some m→b=some m∨m∈l
 | [],b,h=> .inl h
 | k::l,b,h=>by
  rw [jkk] at h
  rcases CC h with h | h
  ·unfold LU at h
   split at h
   ·split at h
    ·injection h with h;exact .inr (by rw [h];simp)
    ·cases h
   ·split at h
    ·injection h with h;exact .inr (by rw [h];simp)
    ·exact .inl h
  ·exact .inr (jjs _ h)
def Dk (B:List Leg) (u:List Bool) (f a:Nat) (k:Nat) :Option Nat:= ((SS B (lB (lg B a))).take k).foldl (LU (vO u f) (ltI B (lB (lg B a)) (lA (lg B a)))) none
theorem jbZ (h:k< (SS B (lB (lg B a))).length) :Dk B u f a (k+1) =LU (vO u f) (ltI B (lB (lg B a)) (lA (lg B a))) (Dk B u f a k) (SS B (lB (lg B a)))[k] :=by
 unfold Dk
 rw [jjt h,jle]
 rfl
theorem jbY (h:Dk B u f a k=some m) :m<B.length:=by
 rcases CC h with h | h
 ·cases h
 ·have:=jj6 h
  unfold SS at this
  exact jko.1 (jkc.1 this).1
theorem jhn {v:Pn} (h:k< (SS B v).length) : (SS B v)[k] <B.length:=by
 have:=jju h
 unfold SS at this
 exact jko.1 (jkc.1 this).1
def tkI (B:List Leg) (u:List Bool) (f a:Nat) (b:Option Nat) (x:Nat) :Bool:=vO u f x&&xC (ltI B (lB (lg B a)) (lA (lg B a))) b x
theorem jem {x:Nat} (h:tkI B u f a b x=true) :LU (vO u f) (ltI B (lB (lg B a)) (lA (lg B a))) b x=some x:=by
 unfold tkI xC at h
 unfold LU
 cases b<;>simp_all
theorem jel {x:Nat} (h:tkI B u f a b x=false) :LU (vO u f) (ltI B (lB (lg B a)) (lA (lg B a))) b x=b:=by
 unfold tkI xC at h
 unfold LU
 cases b<;>simp_all
theorem jcv {x:Nat} (h:yP u x=false) :vO u f x=true:=by simp [vO,h]
theorem jcw {x:Nat} (h:x=f) :vO u f x=true:=by simp [vO,h]
theorem jhf {x:Nat} (h:yP u x=true) (h2:¬x=f) :vO u f x=false:=by simp [vO,h,h2]
theorem jeU :Dk B u f a (SS B (lB (lg B a))).length=zg B u f a:=by
 unfold Dk zg
 rw [jj3]
def Sc (b:Option Nat) (f:Nat) :Bool:=match b with
 | none=>true
 | some m=>decide (m=f)
theorem jbW (h:Sc (zg B u f a) f=true) :BO B u f a=none:=by
 unfold BO
 cases e:zg B u f a with
 | none=>rfl
 | some m=>
  rw [e] at h
  simp only [Sc,decide_eq_true_eq] at h
  simp only
  rw [if_pos h]
theorem jg4 (h:Sc (zg B u f a) f=false) :∃m,zg B u f a=some m∧BO B u f a=some m:=by
 unfold BO
 cases e:zg B u f a with
 | none=>rw [e] at h;cases h
 | some m=>
  rw [e] at h
  simp only [Sc,decide_eq_false_iff_not] at h
  exact⟨m,rfl,by simp only;rw [if_neg h]⟩
theorem jhg (p:Pn) (x:Option Addr×Nat) (is:List Nat) (i:Nat) : (Gp.mk p x (is++ [i])).res=J3 0 3 1 (is.length+1) (is.map (fun (i:Nat) =>Value.int .i64 (i:Int)) ++ [.int .i64 (i:Int)]) x:=by
 simp [Gp.res,ixR]
theorem jfi {l:List Gp} {g':Gp} {v:Value} (hp:g'.p=p) (h:g'.val.2=v) : (Wa l).set j (p,v) =Wa (l.set j g') :=by
 rw [Wa,Wa,List.map_set]
 congr 1
 subst hp h
 rfl
theorem jiq (h:k<is.length) : (is.map fun (i:Nat) =>Value.int .i64 (i:Int))[k]? =some (.int .i64 ((is[k] :Nat) :Int)) :=by simp [h]
section
variable {w0:Bs} {Rs:List Res}
theorem jja (hr:∀w,St w0 Rs w→(ixR is x).P w) (h:k<is.length) (hm:m=is[k]) :∀w,St w0 Rs w→w.cell? ⟨uo x.1,0+k*1,none⟩ =some (.int .i64 ((m:Nat) :Int)) :=fun w hs=>by
 rw [jjP,jki,hm]
 exact GH (hr w hs) (jiq h)
end
theorem jen {x:Nat} (h:vO u f x=true) (hb:b=none) :true=tkI B u f a b x:=by simp [tkI,h,hb,xC]
theorem jeo {x:Nat} (h:vO u f x=true) (hb:b=some m) :cwF (lB (lg B a)) (lA (lg B a)) (lB (lg B x)) (lB (lg B m)) =tkI B u f a b x:=by simp [tkI,h,hb,xC,ltI]
theorem jhZ {x:Nat} (h:vO u f x=false) :false=tkI B u f a b x:=by simp [tkI,h]
theorem jid (hb:b=none) :true=Sc b f:=by rw [hb];rfl
theorem jie (hb:b=some m) : (((m:Nat) :Int) == ((f:Nat) :Int)) =Sc b f:=by
 rw [hb,jjT]
 simp only [Sc,beq_iff_eq,decide_eq_true_eq]
 omega
theorem jaZ {B T n:Nat} (hrow: (J3 B T 1 n (l.map Pc.val) x).P w) (hP: (vF l).P w) (hl:l.length=n) (hc:∀e∈l,e.xs.length≤e.c) :RingsC w x.1 n (l.map (·.xs)) :=by
 have hrow:w.ownsRow B T 1 (.slice x.1 n x.2) n (l.map Pc.val) :=hrow
 refine⟨by rw [jjB,hl],fun h0=> ?_⟩
 obtain ⟨g,hg⟩ :∃g,x.1=some ⟨g,0,none⟩ :=by
  rcases hrow.2 with⟨_,e⟩ |⟨g,cap,cur,e,_⟩
  ·omega
  ·injection e with e1
   exact⟨g,e1⟩
 rw [hg] at hrow⊢
 refine⟨g,0,J,jdW hrow,fun k hk=> ?_⟩
 have hkl:k<l.length:=by omega
 have hm:=jju hkl
 rw [Y1 hkl]
 refine⟨l[k].A,l[k].c,?_,ZD hP hm,hc _ hm⟩
 have:=Em hrow (j:=k) (v:=l[k].val) (by rw [List.getElem?_map,List.getElem?_eq_getElem hkl];rfl)
 rw [jki] at this
 exact this
abbrev Mw (lo hi n:Nat) (rs:List jO) (A:Option Addr) :Res:= .clo lo hi (fun w=>RingsC w A n rs)
theorem jfV {w':World} {Rs:List Res} (hs:St ⟨w,[]⟩ Rs w') {kr kp B T n:Nat} {rs:List jO} (hr:Rs[kr]? =some (J3 B T 1 n (l.map Pc.val) x)) (hp:Rs[kp]? =some (vF l)) (hl:l.length=n) (hrs:l.map (·.xs) =rs) (hc:∀e∈l,e.xs.length≤e.c) : (Mw w.heap.size w'.heap.size n rs x.1).P w':=by
 have h1:=hs.all kr _ hr
 have h2:=hs.all kp _ hp
 have f1:∀b,(J3 B T 1 n (l.map Pc.val) x).F b→w.heap.size≤b:=fun b hb=> (h1.2.1 b hb).elim id (fun h=>by cases h)
 have f2:∀b,(vF l).F b→w.heap.size≤b:=fun b hb=> (h2.2.1 b hb).elim id (fun h=>by cases h)
 refine⟨jjm _,fun u hu ha=> ?_⟩
 rw [←hrs]
 exact jaZ (Res.dep _ w' u h1.1 hu fun b hb h=>ha b (h.elim (fun k=>absurd k (Nat.not_lt_zero _)) (f1 b)) hb) (Res.dep _ w' u h2.1 hu fun b hb h=>ha b (h.elim (fun k=>absurd k (Nat.not_lt_zero _)) (f2 b)) hb) hl hc
theorem wo (A:Option Addr) (n c:Nat) (B:List Leg) (w:World) (h:Legs w A n B) (hB:BoOk B) (hT:TrOk B) :
  Calls Tryz.prog 60 #[.slice A n c] w fun e w'=>∃A' c',e= .returned (qr A' (KJ B).length c')∧OwnG w.heap.size w'.heap.size w' A' (KJ B).length (KJ B)∧(Mw w.heap.size w'.heap.size (KJ B).length (KJ B) A').P w'∧Over w w':=by
 have hl:=h.1
 have hn:=hB.len
 rw [hl] at hn
 have hok:=hB.ok
 refine j6 (m:=124) (Tryz.func60) J J (lb J) ?_;refine S3 ?_;refine aL (fun b1=> ?_);refine N4 ?_;refine PA J J Dc (fun mb=> ?_);refine N2 ?_;refine Vz ?_;refine t9 ?_;refine S8 ?_;refine JX (X:=Nat×List Gp) (fun x=>x.1≤n∧∀v,U1 v x.2=N0 B v x.1) (fun x=>n- x.1) (fun x=> [(19, .int .i64 (x.1:Int))]) (kK [0,2,3,17,18]) (fun x=> [.cel b1 26 [.slice none 0 0], .mp mb (Wa x.2),SM x.2]) (0,[]) (⟨jjo _,fun v=>rfl⟩) ⟨J,sz⟩ (fun _ h=>h) ?_
 intro⟨i,l⟩ hx L hL1
 refine v9 ?_;refine r9 ?_
 obtain ⟨hi,hix⟩ :i≤n∧∀v,U1 v l=N0 B v i:=hx
 refine S5 ?_;refine cZ (fun c1=> ?_) (fun c1=> ?_)
 ·have hil:i<n:=Om
  obtain ⟨eb,eo,rfl,_⟩ :=h.2 Om
  obtain ⟨l',j,g,k1,k2,k3,k4,k5,k6,k7,k8⟩ :=jgX l (lA (lg B i))
  have hgl:g.is.length≤4096:= (by rw [k6,hix];have:=SR B (lA (lg B i)) i;omega)
  have hjl:= (List.getElem?_eq_some_iff.1 k4).1
  refine S7 ?_;refine a9 (jV (j:=i) J J J Jk Om) ?_;refine a9 (jl J J qI J (zB (fun w' hs=>h.over hs.fin) hil)) ?_;refine S1 ?_;refine aL (fun b2=> ?_);refine N10 ?_;refine Jy J J (Oh J) J (lb J) (fun b3=> ?_);refine N1 ?_;refine TD (k:=1) jgI (lA (lg B i)) J J J J J Dc ?_
  rw [k1,k2,k3]
  refine n9 ?_;refine jbK 2 J k7 ?_;refine t9 ?_;refine jeL 2 j J (by rw [List.getElem?_map,k4];rfl) ?_;refine t9 ?_;refine S2 ?_;refine JY (k:=5) J Xu Rt Dc J Dc J J J (fun w' hs=>Qb hs (k:=4) J J) (by simp [Value.oneCell']) (by unfold maxLen;omega) Om (jjo _) (fun r1=> ?_);refine N2 ?_;refine DE (k:=1) (j:=j) (p:=lA (lg B i)) (u:= .slice g.x.1 g.is.length g.x.2) J J J J J J (by rw [Wa,List.getElem?_map,k4];simp [Gp.val,k5]) ?_;refine n9 ?_
  obtain ⟨g',hg'⟩ :∃g':Gp,g'=⟨lA (lg B i),r1,g.is++ [i]⟩ :=⟨_,rfl⟩
  have hgr:=jhg (lA (lg B i)) r1 g.is i
  rw [←hg'] at hgr
  refine wt 2 5 J J Dc J ?_;refine t9 ?_;refine jbL 2 (L':= (l'.set j g').map Gp.res) J (by rw [List.map_set];have hp:=ja7 (L:=l'.map Gp.res) (r:=g'.res) (j:=j) (by simpa using hjl);rw [hgr] at hp⊢;exact hp) ?_;refine t9 ?_
  rw [jfi (g':=g') (by rw [hg']) (by rw [hg'];simp [Gp.val])]
  refine S7 ?_
  exact Jq hL1 ((i+1,l'.set j g')) (⟨(show i+1≤n by omega),fun v=> (by rw [k8 g' (by rw [hg']) v,jas,hg',hix v,k6,hix];split<;>simp_all)⟩) (by simp only;omega) ⟨vi Om,sz⟩ (u9 J)
 ·have hin:i=n:=Om
  have hixs:∀v,U1 v l=SS B v:= (fun v=>by rw [hix v,hin,←hl];rfl)
  clear hix
  refine S10 ?_;refine C4 J J J Vg Yw J Dc Om Om (fun b4=> ?_);refine N2 ?_;refine DU 3 1 n (b:=b4) (U:=4) (cs:= (List.replicate n false).map Value.bool) (by rw [←jcr];simp) (by simp) Om ?_;refine t9 ?_;refine S3 ?_;refine aL (fun b5=> ?_);refine N1 ?_;refine kt (T:=74) (s:=1) ?_;refine t9 ?_;refine Vz ?_;refine t9 ?_;refine S8 ?_;refine JX (X:=Nat×(Option Addr×Nat)×List Pc) (fun x=>x.1≤n∧x.2.2.map (·.xs) = (kO B x.1).2∧(∀e∈x.2.2,e.xs.length≤e.c)) (fun x=>n- x.1) (fun x=> [(39, .int .i64 (x.1:Int))]) (kK [0,2,3,6,7,38]) (fun x=> [.cel b1 26 [.slice none 0 0], .mp mb (Wa l),SM l,boR n (kO B x.1).1 (some ⟨b4,0,none⟩,n), .cel b5 26 [.slice x.2.1.1 x.2.2.length x.2.1.2],J3 (Bs.N ⟨w,[]⟩) 74 1 x.2.2.length (x.2.2.map Pc.val) x.2.1,vF x.2.2]) (0,(none,0),[]) (⟨jjo _,rfl,fun e he=> (by cases he)⟩) ⟨rfl,sz⟩ (fun _ h=>by rw [show(kO B 0).1=List.replicate n false by rw [←hl];rfl];exact h) ?_
  intro⟨i,⟨rA,rc⟩,ll⟩ hx2 L hL2
  refine v9 ?_;refine r9 ?_
  obtain ⟨hi,hmp,hcp⟩ :i≤n∧ll.map (·.xs) = (kO B i).2∧(∀e∈ll,e.xs.length≤e.c) :=hx2
  have hul: (kO B i).1.length=n:= (by rw [Ys,hl])
  obtain ⟨tl1,tl2⟩ :=Yt (B:=B) i Om
  have hll:ll.length≤4096:= (by have:=congrArg List.length hmp;rw [jjB] at this;omega)
  refine S5 ?_;refine cZ (fun c2=> ?_) (fun c2=> ?_)
  ·have hil:i<n:=Om
   refine S14 ?_;refine a9 (qQ (r:= (some ⟨b4,0,none⟩,n)) (j:=i) (fun w hs=> (hs.all 3 _ J).1) J J J Vg hil) ?_;refine a9 (jo J J QT (jf1 (r:= (some ⟨b4,0,none⟩,n)) (fun w hs=> (hs.all 3 _ J).1) Om)) ?_;refine S1 ?_;refine cZ (fun c3=> ?_) (fun c3=> ?_)
   ·refine S8 ?_
    exact Jq hL2 ((i+1,(rA,rc),ll)) (⟨(show i+1≤n by omega),(by rw [GS c3];exact hmp),hcp⟩) (by simp only;omega) ⟨vi Om,sz⟩ (fun _ h=>h.upto ⟨J,J,J,by rw [GS c3],sz⟩)
   ·obtain ⟨u0,hu0⟩ :∃u0,u0= (kO B i).1:=⟨_,rfl⟩
    have hst:yP u0 i=false:= (by rw [hu0];exact c3)
    obtain ⟨R,hR⟩ :∃R,R=Ud B i (uq u0) u0 i [] :=⟨_,rfl⟩
    have hnx:kO B (i+1) = (R.1,(kO B i).2++ [R.2]) := (by rw [EL c3,hR,hu0])
    rw [←hu0] at hul⊢
    obtain ⟨_,hRl⟩ :=Yt (B:=B) (i+1) Om
    have hRs:R.2.length≤4096:= (by have:= (hRl R.2 (by rw [hnx];simp)).2.1;omega)
    obtain ⟨eb,eo,rfl,_⟩ :=h.2 Om
    refine S5 ?_;refine kt (T:=28) (s:=2) ?_;refine N1 ?_;refine UC (X:= (Option Addr×Nat)×Int) (fun x=>True) (fun x=> [(9, .slice x.1.1 R.2.length x.1.2),(10, .int .i64 x.2)]) (kK [0,2,3,6,7,38,39,40,41,8,42,43,44,45]) (fun x=> [.cel b1 26 [.slice none 0 0], .mp mb (Wa l),SM l,boR n R.1 (some ⟨b4,0,none⟩,n), .cel b5 26 [.slice rA ll.length rc],J3 (Bs.N ⟨w,[]⟩) 74 1 ll.length (ll.map Pc.val) (rA,rc),vF ll,J3 (Bs.N ⟨w,[]⟩) 28 2 R.2.length (R.2.flatMap Jr) x.1]) (fun L h_4=> ?_) ?_
    ·refine S6 ?_;refine JX (X:=List Bool×Nat×List Pn×Option Addr×Nat) (fun y=>RunI B i u0 y.1 y.2.1 y.2.2.1∧y.2.2.1.length+uq y.1≤4096) (fun y=>uq y.1) (fun y=> [(9, .slice y.2.2.2.1 y.2.2.1.length y.2.2.2.2),(10, .int .i64 (y.2.1:Int))]) (kK [0,2,3,6,7,38,39,40,41,8,42,43,44,45,46]) (fun y=> [.cel b1 26 [.slice none 0 0], .mp mb (Wa l),SM l,boR n y.1 (some ⟨b4,0,none⟩,n), .cel b5 26 [.slice rA ll.length rc],J3 (Bs.N ⟨w,[]⟩) 74 1 ll.length (ll.map Pc.val) (rA,rc),vF ll,J3 (Bs.N ⟨w,[]⟩) 28 2 y.2.2.1.length (y.2.2.1.flatMap Jr) y.2.2.2]) (u0,i,[],none,0) (⟨RunI.start Om Om hst,(by have:=Ie u0;simp;omega)⟩) ⟨J,sz⟩ (fun _ h=>h) ?_
     intro⟨u,k,ps,qA,qc⟩ hy L hL3
     refine v9 ?_;refine r9 ?_
     obtain ⟨hI,hy2⟩ :RunI B i u0 u k ps∧ps.length+uq u≤4096:=hy
     have hkB:=hI.la
     have hun:u.length=n:= (by rw [hI.len,hl])
     have hkn:k<n:=Om
     have hpos:=hI.pos
     obtain ⟨hk1,hk2⟩ :=DA hok hkB
     refine S5 ?_;refine a9 (qQ (r:= (some ⟨b4,0,none⟩,n)) (j:=k) (fun w hs=> (hs.all 3 _ J).1) J J J Vg hkn) ?_;refine S1 ?_;refine UT (k:=3) (r:= (some ⟨b4,0,none⟩,n)) (vs:= [.bool true]) J J J J (by rfl) (by rfl) Yw.szx J J (by simp) (by rw [jjB];simp only [jjr,jjK];omega) ?_;refine n9 ?_
     rw [jbP Om]
     refine S6 ?_;refine a9 (jV (j:=k) J J J Jk Om) ?_;refine S1 ?_;refine a9 (jl J J jk J (Qn (fun w' hs=>h.over hs.fin) hkn)) ?_;refine S1 ?_;refine Jy J J (qT J) J (lb J) (fun b6=> ?_);refine N1 ?_;refine JY (k:=7) J jD jI Dc J Dc J J J (fun w' hs=>Qb hs (k:=8) J J) (by simp [Value.oneCell']) (by unfold maxLen;omega) Om (jjm _) (fun r2=> ?_);refine N4 ?_;refine JS 15 ?_;refine dK 0 ?_;refine dK 1 ?_;refine dZ 2 J (jV (j:=k) J J J Jk Om) ?_;refine dK 3 ?_;refine dZ 4 J (jl J J jk J (q5 (fun w' hs=>h.over hs.fin) hkn)) ?_;refine dK 5 ?_;refine dK 6 ?_;refine dZ 7 J (jV (j:=k) J J J Jk Om) ?_;refine dK 8 ?_;refine dZ 9 J (jl J J jk J (Qn (fun w' hs=>h.over hs.fin) hkn)) ?_;refine Ih (i:=10) (j:=11) J J Dc Dc Dc J J J J Dc Dc Dc J J jI jI Kr Kr Kr (u9 J) (fun b7 b8=> ?_);refine n9 ?_;refine J7 (i:=12) J Dc Kr J ?_;refine S1 ?_;refine JN (u9 J) ?_;refine J7 (i:=13) J Dc Kr J ?_;refine j9 10 jI.szx ?_;refine n9 ?_;refine JN (u9 J) ?_;refine dK 14 ?_;refine JJ Kr ?_;refine S3 ?_
     obtain ⟨xk,hxv,hxr⟩ :=jcX l (lB (lg B k))
     rw [hixs] at hxv hxr
     have hbk:=jeU (B:=B) (u:=u.set k true) (f:=i) (a:=k)
     have hsm:=jbl hT (first:=i) (at_:=k) Om hkB hI.first
     have hixl: (SS B (lB (lg B k))).length≤B.length:= (by have:=SR B (lB (lg B k)) B.length;exact this)
     refine S3 ?_;refine a9 ((jaV (k:=1) jgI (lB (lg B k)) J J J J).as (hxv)) ?_;refine S4 ?_;refine qv (X:=Nat) (fun q=>q≤(SS B (lB (lg B k))).length) (fun q=> (SS B (lB (lg B k))).length- q) (fun q=> [(13, .int .i64 (zI (Dk B (u.set k true) i k q))),(72, .int .i64 (q:Int))]) (kK [0,2,3,6,7,38,39,40,41,8,42,43,44,45,46,9,10,47,48,49,50,51,52,53,54,55,56,57,58,59,60,61,62,63,64,65,66,67,11,12,68,69,70,71]) 0 (jjo _) ⟨J,sz⟩ ?_
     intro q hq L hL4
     refine V5 ?_;refine cZ (fun c4=> ?_) (fun c4=> ?_)
     ·have hql:q< (SS B (lB (lg B k))).length:=Om
      obtain ⟨x,hx⟩ :∃x,x= (SS B (lB (lg B k)))[q] :=⟨_,rfl⟩
      have hxn:x<n:= (by rw [hx,←hl];exact jhn hql)
      obtain ⟨hx1,hx2⟩ :=DA hok (show x<B.length by omega)
      have hst:=jbZ (B:=B) (u:=u.set k true) (f:=i) (a:=k) hql
      rw [←hx] at hst
      refine S6 ?_;refine a9 (qQ (r:=xk) (j:=q) (fun w hs=>hxr w (hs.all 2 _ J).1) J J J Xu hql) ?_;refine a9 (jo J J Y9 (jja (x:=xk) (m:=x) (fun w hs=>hxr w (hs.all 2 _ J).1) hql hx)) ?_;refine S2 ?_;refine qt [(104, .bool (tkI B (u.set k true) i k (Dk B (u.set k true) i k q) x))] (kK [0,2,3,6,7,38,39,40,41,8,42,43,44,45,46,9,10,47,48,49,50,51,52,53,54,55,56,57,58,59,60,61,62,63,64,65,66,67,11,12,68,69,70,71,13,72,73,74,75,15]) (fun L h_21=> ?_) ?_
      ·refine Gb mixed Kr (fun _ _ d _ _ h=>by cases d<;>exact h) ?_;refine x9 q9 ?_;refine x9 q9 ?_;refine x9 (qQ (r:= (some ⟨b4,0,none⟩,n)) (j:=x) (fun w hs=> (hs.all 3 _ J).1) J J J Vg hxn) ?_;refine x9 (jo J J QT (jf1 (r:= (some ⟨b4,0,none⟩,n)) (fun w hs=> (hs.all 3 _ J).1) (by rw [jky];omega))) ?_;refine x9 (qO J J) ?_;refine x9 q9 ?_;refine vP 81 J (fun g1=> ?_) (fun g1=> ?_)
       ·try simp only[zz] at g1
        (iterate 3 refine z9 ?_);refine x9 (jN J J J) ?_;refine x9 q9 ?_;refine y9 q9 ?_;refine y9 (Jt J J J) ?_;refine y9 q9 ?_;refine vP 89 J (fun g2=> ?_) (fun g2=> ?_)
        ·try simp only[zz] at g2
         (iterate 13 refine z9 ?_);refine y9 (jN J J J) ?_;refine x9 (jN J J J) ?_;refine Wx ?_;refine S1 ?_
         exact Jo h_21 ⟨vb (jen (jcv g1) (y5 g2)),sz⟩ (u9 J)
        ·try simp only[zz] at g2
         obtain ⟨m,hm⟩ :=y6 (by first | exact g4 | exact g2)
         have hmn:m<n:= (by rw [←hl];exact jbY hm)
         obtain ⟨hm1,hm2⟩ :=DA hok (show m<B.length by omega)
         refine y9 (jl J J jk J (jR (k:=9) J)) ?_;refine y9 (jl J J jk J (jR (k:=10) J)) ?_;refine y9 q9 ?_;refine y9 q9 ?_;refine y9 (jV (j:=x) J J J Jk Om) ?_;refine y9 (jg J J ql) ?_;refine y9 (jl J J jk J (q5 (fun w' hs=>h.over hs.fin) hxn)) ?_;refine y9 q9 ?_;refine y9 ((ja J J).as (congrArg _ (show zI (Dk B (u.set k true) i k q) = ((m:Nat) :Int) by rw [hm];rfl))) ?_;refine y9 (jV (j:=m) J J J Jk Om) ?_;refine y9 (jg J J ql) ?_;refine y9 (jl J J jk J (q5 (j:=m) (fun w' hs=>h.over hs.fin) hmn)) ?_;refine y9 (jM W2 J J (fun w1 hs=>D7 (lB (lg B k)) (lA (lg B k)) (lB (lg B x)) (lB (lg B m)) w1 hk2 hk1 hx2 hm2)) ?_;refine y9 (jL J J J) ?_;refine x9 (jN J J J) ?_;refine Wx ?_;refine S1 ?_
         exact Jo h_21 ⟨vb (jeo (jcv g1) hm),sz⟩ (u9 J)
       ·try simp only[zz] at g1
        refine y9 q9 ?_;refine y9 q9 ?_;refine y9 (qD J J J) ?_;refine x9 (jL J J J) ?_;refine x9 q9 ?_;refine vP 86 J (fun g3=> ?_) (fun g3=> ?_)
        ·try simp only[zz] at g3
         refine y9 q9 ?_;refine y9 (Jt J J J) ?_;refine y9 q9 ?_;refine vP 89 J (fun g4=> ?_) (fun g4=> ?_)
         ·try simp only[zz] at g4
          (iterate 13 refine z9 ?_);refine y9 (jN J J J) ?_;refine x9 (jN J J J) ?_;refine Wx ?_;refine S1 ?_
          exact Jo h_21 ⟨vb (jen (jcw Om) (y5 g4)),sz⟩ (u9 J)
         ·try simp only[zz] at g4
          obtain ⟨m,hm⟩ :=y6 (by first | exact g4 | exact g2)
          have hmn:m<n:= (by rw [←hl];exact jbY hm)
          obtain ⟨hm1,hm2⟩ :=DA hok (show m<B.length by omega)
          refine y9 (jl J J jk J (jR (k:=9) J)) ?_;refine y9 (jl J J jk J (jR (k:=10) J)) ?_;refine y9 q9 ?_;refine y9 q9 ?_;refine y9 (jV (j:=x) J J J Jk Om) ?_;refine y9 (jg J J ql) ?_;refine y9 (jl J J jk J (q5 (fun w' hs=>h.over hs.fin) hxn)) ?_;refine y9 q9 ?_;refine y9 ((ja J J).as (congrArg _ (show zI (Dk B (u.set k true) i k q) = ((m:Nat) :Int) by rw [hm];rfl))) ?_;refine y9 (jV (j:=m) J J J Jk Om) ?_;refine y9 (jg J J ql) ?_;refine y9 (jl J J jk J (q5 (j:=m) (fun w' hs=>h.over hs.fin) hmn)) ?_;refine y9 (jM W2 J J (fun w1 hs=>D7 (lB (lg B k)) (lA (lg B k)) (lB (lg B x)) (lB (lg B m)) w1 hk2 hk1 hx2 hm2)) ?_;refine y9 (jL J J J) ?_;refine x9 (jN J J J) ?_;refine Wx ?_;refine S1 ?_
          exact Jo h_21 ⟨vb (jeo (jcw Om) hm),sz⟩ (u9 J)
        ·try simp only[zz] at g3
         (iterate 3 refine z9 ?_);(iterate 13 refine qJ J J J J J Dc ?_);refine z9 ?_;refine x9 (jL J J J) ?_;refine Wx ?_;refine S1 ?_
         exact Jo h_21 ⟨vb (jhZ (jhf g1 Om)),sz⟩ (u9 J)
      ·refine v9 ?_;refine cZ (fun c5=> ?_) (fun c5=> ?_)
       ·refine S10 ?_
        exact qf hL4 (q+1) Om Om ⟨vi (by rw [hst,jem c5];rfl),vi Om,sz⟩ (u9 J)
       ·refine S7 ?_
        exact qf hL4 (q+1) Om Om ⟨vi (by rw [hst,jel c5]),vi Om,sz⟩ (u9 J)
     ·obtain rfl:q= (SS B (lB (lg B k))).length:=Om
      rw [hbk]
      refine S6 ?_;refine qt [(113, .bool (Sc (zg B (u.set k true) i k) i))] (kK [0,2,3,6,7,38,39,40,41,8,42,43,44,45,46,9,10,47,48,49,50,51,52,53,54,55,56,57,58,59,60,61,62,63,64,65,66,67,11,12,68,69,70,71,13,72,73]) (fun L h_24=> ?_) ?_
      ·refine S4 ?_;refine cV 109 (fun g5=> ?_) (fun g5=> ?_)
       ·refine S5 ?_
        exact Jo h_24 ⟨vb (jid (y5 g5)),sz⟩ (u9 J)
       ·obtain ⟨m,hm⟩ :=y6 g5
        refine h9 ?_;refine o9 ((ja J J).as (congrArg _ (show zI (zg B (u.set k true) i k) = ((m:Nat) :Int) by rw [hm];rfl))) ?_;refine S6 ?_
        exact Jo h_24 ⟨vb (jie hm),sz⟩ (u9 J)
      ·refine v9 ?_;refine cZ (fun c6=> ?_) (fun c6=> ?_)
       ·have hRe:R= (u.set k true,ps++ [lA (lg B k)]) := (by rw [hR];exact hI.stop (hsm▸jbW c6))
        refine S6 ?_
        exact ka h_4 ((r2,(k:Int))) (trivial) ⟨by rw [hRe,jjk];rfl,sz⟩ (fun _ h=> (h.picks [0,1,2,3,4,5,6,7] Dc).upto ⟨J,J,J,by rw [hRe],J,J,J,by rw [hRe,jjk,jjv];rfl,trivial⟩)
       ·obtain ⟨m,hm,hm2⟩ :=jg4 c6
        rw [hm]
        refine S3 ?_;refine a9 ((ja J J).as (congrArg _ (show zI (some m) = ((m:Nat) :Int) from J))) ?_;refine S4 ?_
        exact Jq hL3 ((u.set k true,m,ps++ [lA (lg B k)],r2)) (⟨hI.more (hsm▸hm2),(by simp only [jjk,jjr,jjK];omega)⟩) (by simp only;omega) ⟨by rw [jjk];rfl,sz⟩ (fun _ h=> (h.picks [0,1,2,3,4,5,6,7] Dc).upto ⟨J,J,J,J,J,J,J,by rw [jjk,jjv];rfl,trivial⟩)
    ·rintro⟨⟨pA,pc⟩,_⟩ -
     refine v9 ?_;refine r9 ?_;refine S4 ?_;refine a9 (JR J J (vm J)) ?_;refine S1 ?_;refine Jy J J (qz J) J (lb J) (fun b9=> ?_);refine N1 ?_;refine JY (k:=5) J jJ Jw Dc J Dc J J J (fun w' hs=>Qb hs (k:=8) J J) (by simp [Value.oneCell']) (by unfold maxLen;omega) Om (jjm _) (fun r3=> ?_);refine N4 ?_;refine kL (fun w hs=>Uo (hs.all 7 _ J).1) ?_
     intro hcap
     refine zR 7 J J (fun clo chi=> ?_);refine t9 ?_;refine wt 6 7 J J Dc J ?_;refine t9 ?_;refine S6 ?_
     exact Jq hL2 ((i+1,r3,ll++ [⟨R.2,pA,pc,clo,chi⟩])) (⟨(show i+1≤n by omega),(by rw [jjQ,hmp,hnx];rfl),fun e he=> (jjz.1 he).elim (hcp e) (fun h=>by rw [jjp.1 h];exact hcap)⟩) (by simp only;omega) ⟨vi Om,sz⟩ (fun _ h=>h.upto ⟨J,J,J,by rw [hnx],by rw [jjk];rfl,by rw [jjk,jjQ];rfl,(vo _ _).symm,trivial⟩)
  ·have hin:i=n:=Om
   have htr:ll.map (·.xs) =KJ B:= (by rw [hmp,hin,←hl];rfl)
   have htl: (KJ B).length=ll.length:= (by rw [←htr,jjB])
   refine S12 ?_;refine jK J (J8 (k:=0) J jv J J) ?_
   intro w' hs
   exact⟨rA,rc,by rw [htl],by rw [htl];exact Yo hs (kr:=5) (kp:=6) rfl rfl Dc rfl rfl htr (fun j hj=>by rw [←wu hj];have:= (tl2 _ (by rw [←hmp,htr];exact jju hj)).2.1;omega),by rw [htl];exact jfV hs (kr:=5) (kp:=6) rfl rfl rfl htr hcp,hs.fin⟩
end Go.Proofs.YtbahojdbmmjkcaaGreat
