import Derived.Test.YtbahojdbmmjkcaaGreatMMeet
import Derived.Test.YtbahojdbmmjkcaaGreatMOwn
import Derived.Test.YtbahojdbmmjkcaaGreatMValidRegion
import Derived.Still
set_option linter.unusedVariables false
set_option linter.unusedSimpArgs false
namespace Go.Proofs.YtbahojdbmmjkcaaGreat
open Go Go.RowKit
variable {a:Act} {c t:Bool} {d dj i j:Nat} {env:List (Nat×Value)} {l:List Oper} {o oj:Oper} {v:Value} {x:Option Addr×Nat} {xs:List (Int×Int)}
set_option maxRecDepth 100000
set_option maxHeartbeats 4000000
def lA (l:Leg) :Pn:= (l.ax,l.ay)
def lB (l:Leg) :Pn:= (l.bx,l.b_y)
theorem wP {l:Leg} (h:qM l) :bd2 (lA l) :=⟨h.1,h.2.1⟩
theorem WM {l:Leg} (h:qM l) :bd2 (lB l) :=⟨h.2.2.1,h.2.2.2⟩
abbrev ji3 (l:Leg) :Value:= .agg #[.int .i64 l.ax, .int .i64 l.ay, .int .i64 l.bx, .int .i64 l.b_y]
def jdz (e f:Leg) :Bool:=jdy (lA e) (lB e) (lA f) (lB f)
theorem pq {p:Pn} {x y:Int} : (p.1==x&&p.2==y) =decide (p= (x,y)) :=by
 rw [jjT];simp [Prod.ext_iff]
theorem ue (b o h cap s:Nat) :sliced (some ⟨b,o,none⟩) 0 h cap s= .slice (some ⟨b,o,none⟩) h cap:=by
 unfold sliced
 simp [Q1]
theorem wH {w:World} {w0:Bs} {Rs:List Res} {k B T s n:Nat} {xs:List Value} (hk:Rs[k]? =some (J3 B T s n xs x)) (hs:St w0 Rs w) (hn:0<n) :∃g,x.1=some ⟨g,0,none⟩ :=by
 have h:w.ownsRow B T s (.slice x.1 n x.2) n xs:= (hs.all k _ hk).1
 rcases h.2 with⟨_,e⟩ |⟨g,cap,cur,e,_⟩
 ·omega
 ·injection e with e1
  exact⟨g,e1⟩
def Rf (ls:List Leg) :Bool:= (List.range ls.length).all fun i=> (List.range i).all fun k=>jdz (lg ls i) (lg ls k)
theorem TV {ls:List Leg} (h:∀i,i<ls.length→∀k,k<i→jdz (lg ls i) (lg ls k) =true) :true=Rf ls:=by
 symm
 rw [Rf,jkj]
 intro i hi
 rw [jkj]
 intro k hk
 exact h i (jko.1 hi) k (jko.1 hk)
theorem YL (xs:List (Int×Int)) :∀k,∀l∈qy xs k,lA l≠lB l
 | 0,l,hl=>by simp [qy] at hl
 | k+1,l,hl=>by
  rw [Kb] at hl
  split at hl
  ·exact YL xs k l hl
  ·rename_i h
   rcases jjz.1 hl with h1 | h1
   ·exact YL xs k l h1
   ·rw [jjp.1 h1]
    intro e
    simp only [lA,lB,Prod.mk.injEq] at e
    exact h e
theorem M8 (rs:List jO) :∀k,∀l∈qE rs k,lA l≠lB l
 | 0,l,hl=>by simp [qE] at hl
 | k+1,l,hl=>by
  simp only [qE,jjz] at hl
  rcases hl with h | h
  ·exact M8 rs k l h
  ·exact YL _ _ l h
def jip (rs:List jO) :Bool:=Jp rs&&Rf (jt rs)
section
variable {P:Program} {n:Nat} {w0:Bs} {Rs:List Res} {ops:Array Oper} {Q:Exit→Act→World→Prop} {K:Act→World→Prop}
def Wants (ops:Array Oper) (env:List (Nat×Value)) (o:Oper) :Prop:=o.guard=none∨∃j c oj dj,o.guard=some (j,c)∧ops[j]? =some oj∧oj.dst=some dj∧look env dj=some (.bool c)
def Leaves (ops:Array Oper) (env:List (Nat×Value)) (o:Oper) :Prop:=∃j c oj dj,o.guard=some (j,c)∧ops[j]? =some oj∧oj.dst=some dj∧(look env dj=some undef∨∃b,look env dj=some (.bool b)∧b≠c)
def Lx (P:Program) (ops:Array Oper) (n:Nat) (w0:Bs) (Rs:List Res) (K:Act→World→Prop) :List Oper→List (Nat×Value)→Prop
 | [],env=>At n env w0 Rs K
 | o::rest,env=>∃d v,o.dst=some d∧d<n∧((Wants ops env o∧Qt P o n env w0 Rs v)∨(Leaves ops env o∧v=undef))∧Lx P ops n w0 Rs K rest ((d,v) ::env)
theorem Wants.wanted (h:Wants ops env o) (hf:Frm n env a) :Region.wanted o (yielded ops a.tmps) =true:=by
 rcases h with h |⟨j,c,oj,dj,hg,hj,hdj,hb⟩
 ·simp [Region.wanted,h]
 ·simp [Region.wanted,hg,B6 hf hj hdj hb]
theorem Leaves.wanted (h:Leaves ops env o) (hf:Frm n env a) :Region.wanted o (yielded ops a.tmps) =false:=by
 obtain ⟨j,c,oj,dj,hg,hj,hdj,hb |⟨b,hb,hne⟩⟩ :=h
 ·simp [Region.wanted,hg,Xv hf hj hdj hb]
 ·simp [Region.wanted,hg,B6 hf hj hdj hb,hne]
def Ci (o:Oper) :List Nat:=o.after.toList.filterMap fun e=>match Region.binds .any e with | true=>some e.on | false=>none
def Iq9 (l:List Oper) (o:Oper) :List Nat:=
 (o.op.operands.toList.filterMap fun | .tmp t=>some t | _=>none) ++
 (match o.guard with
  | some (g,_) => ((l[g]?).bind (·.dst)).toList
  | none=> [])
def jaA (x:Nat) :List Nat→Bool
 | [] =>false
 | y::r=>match Nat.beq x y with
  | true=>true
  | false=>jaA x r
def jeV (af:List Nat) (k t:Nat) :List Nat→Nat→Bool
 | [],_=>true
 | d::r,i=> (match Nat.beq d t with
  | true=>Nat.blt i k&&jaA i af
  | false=>true) &&jeV af k t r (i+1)
def Lt (o:Oper) :Nat:=match o.dst with | some d=>d | none=>0
def Nx (l:List Oper) (ds:List Nat) (k:Nat) (o:Oper) :Bool:=
 (match o.dst with | some _=>true | none=>false) && (match o.op with | .select .. =>false | _=>true) && (Ci o).all (fun i=>Nat.blt i k) && (Iq9 l o).all (fun t=>jeV (Ci o) k t ds 0)
def Id (l:List Oper) (ds:List Nat) :List Oper→Nat→Bool
 | [],_=>true
 | o::r,k=>Nx l ds k o&&Id l ds r (k+1)
def IV:List Nat→Bool
 | [] =>true
 | d::r=> (match jaA d r with | true=>false | false=>true) &&IV r
def IK (l:List Oper) :Bool:=IV (l.map Lt) &&Id l (l.map Lt) l 0
theorem O0 {x:Nat} :∀ {l:List Nat},jaA x l=true↔x∈l
 | [] =>by simp [jaA]
 | y::r=>by
  unfold jaA
  cases h:Nat.beq x y with
  | true=>simp [jkL h]
  | false=>
   have:x≠y:=fun e=>by subst e;simp at h
   simp [this,O0]
theorem DZ {af:List Nat} {k t:Nat} :∀ {ds:List Nat} {i:Nat},jeV af k t ds i=true→∀j,ds[j]? =some t→i+j<k∧i+j∈af
 | [],_,_,j,hj=>by simp at hj
 | d::r,i,h,j,hj=>by
  simp only [jeV,jjl] at h
  match j,hj with
  | 0,hj=>
   simp at hj
   subst hj
   have h1:=h.1
   simp only [Nat.beq_refl,jjl] at h1
   exact⟨by simpa using h1.1,by simpa using O0.1 h1.2⟩
  | j+1,hj=>
   have:=DZ h.2 j (by simpa using hj)
   rw [show i+ (j+1) =i+1+j by omega]
   exact this
theorem LK:∀ {ds:List Nat},IV ds=true→ds.Nodup
 | [],_=>List.nodup_nil
 | d::r,h=>by
  simp only [IV,jjl] at h
  refine jkJ.2 ⟨fun hm=> ?_,LK h.2⟩
  rw [O0.2 hm] at h
  exact absurd h.1 (by simp)
theorem Lr {l:List Oper} {ds:List Nat} :∀ {r:List Oper} {k:Nat},Id l ds r k=true→∀j o,r[j]? =some o→Nx l ds (k+j) o=true
 | [],_,_,j,o,hj=>by simp at hj
 | a::r,k,h,j,o,hj=>by
  simp only [Id,jjl] at h
  match j,hj with
  | 0,hj=>simp at hj;subst hj;exact h.1
  | j+1,hj=>
   rw [show k+ (j+1) =k+1+j by omega]
   exact Lr h.2 j o (by simpa using hj)
structure LexOk (l:List Oper) :Prop where
 dst:∀(k:Nat) (o:Oper),l[k]? =some o→∃d,o.dst=some d
 sel:∀(k:Nat) (o:Oper),l[k]? =some o→∀cs b,o.op≠ .select cs b
 aft:∀(k:Nat) (o:Oper),l[k]? =some o→∀e∈o.after,Region.binds .any e=true→e.on<k
 look:∀(k:Nat) (o:Oper),l[k]? =some o→∀t∈o.looksAt l.toArray,∀(i:Nat) (oi:Oper),l[i]? =some oi→oi.dst=some t→i<k∧∃e∈o.after,Region.binds .any e=true∧e.on=i
 diff:∀(i j:Nat) (oi oj:Oper) (d:Nat),i≠j→l[i]? =some oi→l[j]? =some oj→oi.dst=some d→oj.dst≠some d
theorem Po (h:IK l=true) :LexOk l:=by
 simp only [IK,jjl] at h
 obtain ⟨hn,ha⟩ :=h
 have key:∀(k:Nat) (o:Oper),l[k]? =some o→Nx l (l.map Lt) k o=true:=fun k o hk=>by simpa using Lr ha k o hk
 have hdst:∀(k:Nat) (o:Oper),l[k]? =some o→∃d,o.dst=some d:=fun k o hk=>by
  have:=key k o hk
  simp only [Nx,jjl] at this
  cases hd:o.dst with
  | some d=>exact⟨d,rfl⟩
  | none=>rw [hd] at this;exact absurd this.1.1.1 (by simp)
 refine⟨hdst,fun k o hk cs b heq=> ?_,fun k o hk e he hb=> ?_,fun k o hk t ht i oi hi hd=> ?_,fun i j oi oj d hij hi hj hd hd'=> ?_⟩
 ·have:=key k o hk
  simp only [Nx,jjl,heq] at this
  exact absurd this.1.1.2 (by simp)
 ·have:=key k o hk
  simp only [Nx,jjl,jkj] at this
  have h2:=this.1.2 e.on (List.mem_filterMap.2 ⟨e,by simpa using he,by simp [hb]⟩)
  simpa using h2
 ·have:=key k o hk
  simp only [Nx,jjl,jkj] at this
  have hl:t∈Iq9 l o:=by
   have e:o.looksAt l.toArray=Iq9 l o:=by unfold Oper.looksAt Iq9;simp only [List.getElem?_toArray];rfl
   rw [←e];exact ht
  have h2:=DZ (this.2 t hl) i (by simp [hi,Lt,hd])
  rw [jjP] at h2
  refine⟨h2.1,?_⟩
  obtain ⟨e,he,h3⟩ :=List.mem_filterMap.1 h2.2
  refine⟨e,by simpa using he,?_⟩
  cases hb:Region.binds .any e with
  | true=>rw [hb] at h3;simp at h3;exact⟨rfl,h3⟩
  | false=>rw [hb] at h3;simp at h3
 ·have hnd:=LK hn
  have e1: (l.map Lt)[i]? =some d:=by simp [hi,Lt,hd]
  have e2: (l.map Lt)[j]? =some d:=by simp [hj,Lt,hd']
  exact hij ((List.getElem?_inj (by have:= (List.getElem?_eq_some_iff.1 e1).1;exact this) hnd).1 (e1.trans e2.symm))
theorem Tq {L:List Oper} (hok:LexOk L) (hQ:∀c a d v w,Q (.panic c) (Act.put a d v) w→Q (.panic c) a w) :∀(l:List Oper) (k:Nat) (listed:Array Bool) (env:List (Nat×Value)) (a:Act) (W:World),(∀j,l[j]? =L[k+j]?)→(∀i,i<L.length→listed[i]? =some (decide (i<k)))→listed.size=L.length→k+l.length=L.length→
  Lx P L.toArray n w0 Rs (fun a w=>Q .normal a w) l env→Frm n env a→St w0 Rs W→vl P .any L.toArray Q (yh w0 Rs) l.length listed a W
 | [],k,listed,env,a,W,_,hls,hsz,hkl,h,hf,hS=>Kk (by
   cases hr:Region.ready .any L.toArray listed with
   | nil=>rfl
   | cons x xs=>
    have hx:x∈Region.ready .any L.toArray listed:=by rw [hr];exact jjJ
    obtain ⟨h1,o,ho,_⟩ :=mem_ready.1 hx
    have hlt:x<L.length:=by simpa using (Array.getElem?_eq_some_iff.1 ho).1
    have:=hls x hlt
    rw [Array.getD_eq_getD_getElem?,this] at h1
    simp at h1
    simp at hkl
    omega) (fun w hw=>h a w hf (hS.over_ hw)) _
 | o::l,k,listed,env,a,W,hl,hls,hsz,hkl,h,hf,hS=>by
  have h0:L[k]? =some o:=by simpa using (hl 0).symm
  have hkL:k<L.length:= (List.getElem?_eq_some_iff.1 h0).1
  obtain ⟨d,v,hd,hn,hw,hrest⟩ :=h
  have hun:∀j,j<L.length→listed.getD j true=decide (j<k) :=fun j hj=>by rw [Array.getD_eq_getD_getElem?,hls j hj];rfl
  refine G1 (v:=v) (i:=k) (by simpa using h0) (fun j o cs b hj=>hok.sel j o (by simpa using hj) cs b) (fun c a w=>hQ c a _ _ w) l.length listed a W hS (fun j oj hj hne hlj hno=> ?_) ?_ ?_ ?_
  ·have hj':L[j]? =some oj:=by simpa using hj
   have hjl:j<L.length:= (List.getElem?_eq_some_iff.1 hj').1
   have hkj:k<j:=by
    rw [hun j hjl] at hlj
    simp at hlj
    omega
   obtain ⟨dj,hdj⟩ :=hok.dst j oj hj'
   unfold Oper.apart
   rw [hd,hdj]
   have a1: (oj.looksAt L.toArray).contains d=false:=by
    cases hc: (oj.looksAt L.toArray).contains d with
    | false=>rfl
    | true=>
     obtain ⟨_,e,he,hb,hon⟩ :=hok.look j oj hj' d (by simpa using hc) k o h0 hd
     exact absurd hon (hno e he hb)
   have a2: (o.looksAt L.toArray).contains dj=false:=by
    cases hc: (o.looksAt L.toArray).contains dj with
    | false=>rfl
    | true=>
     have:= (hok.look k o h0 dj (by simpa using hc) j oj hj' hdj).1
     omega
   have a3: (some dj !=some d) =true:=by
    have:=hok.diff k j o oj d Om h0 hj' hd
    rw [hdj] at this
    simpa using this
   simp only [a1,a2,a3]
   rfl
  ·rw [mem_ready]
   refine⟨by rw [hun k hkL];simp,o,by simpa using h0,fun e he hb=> ?_⟩
   have hlt:=hok.aft k o h0 e he hb
   rw [Array.getD_eq_getD_getElem?,hls e.on Om]
   simpa using hlt
  ·rcases hw with⟨hw,hq⟩ |⟨hw,rfl⟩
   ·exact .inl ⟨hw.wanted hf,fun w' hs'=> (hq a w' hf hs').gives⟩
   ·exact .inr ⟨hw.wanted hf,rfl⟩
  ·rw [hd]
   refine Tq hok hQ l (k+1) _ _ _ W (fun j=>by have:=hl (j+1);simpa [jkz,Nat.add_comm 1 j] using this) (fun i hi=> ?_) (by simpa using hsz) (by simp at hkl;omega) hrest (hf.put hn v) hS
   by_cases e:k=i
   ·subst e
    rw [Array.getElem?_setIfInBounds_self_of_lt (by rw [hsz];exact hkL)]
    simp
   ·rw [Array.getElem?_setIfInBounds_ne e,hls i hi]
    congr 1
    simp
    omega
theorem Gb {id:Nat} (hm:P.follows .mixedOrders=true) (hB:IK l=true) (hQ:∀c a d v w,Q (.panic c) (Act.put a d v) w→Q (.panic c) a w) (h:Lx P l.toArray n w0 Rs (fun a w=>Q .normal a w) l env) :
  At n env w0 Rs (fun a w=> (Code.region id l.toArray true).wp P Q a w) :=fun a w hf hs=>by
 refine Kl (B:=yh w0 Rs) hs hm J fun _=> ?_
 have:=Tq (P:=P) (Po hB) hQ l 0 (Array.replicate l.toArray.size false) env a w (by simp) (fun i hi=>by simp [hi]) (by simp) (by simp) h hf hs
 simpa using this
theorem Wx (h:At n env w0 Rs K) :Lx P ops n w0 Rs K [] env:=h
theorem QI (hg:o.guard=none) (hd:o.dst=some d) (hn:d<n) (hq:Qt P o n env w0 Rs v) (h:Lx P ops n w0 Rs K l ((d,v) ::env)) :Lx P ops n w0 Rs K (o::l) env:=⟨d,v,hd,hn, .inl ⟨.inl hg,hq⟩,h⟩
theorem JQ (hg:o.guard=some (j,c)) (hj:ops[j]? =some oj) (hdj:oj.dst=some dj) (hb:look env dj=some (.bool c)) (hd:o.dst=some d) (hn:d<n) (hq:Qt P o n env w0 Rs v) (h:Lx P ops n w0 Rs K l ((d,v) ::env)) :Lx P ops n w0 Rs K (o::l) env:=
 ⟨d,v,hd,hn, .inl ⟨.inr ⟨j,c,oj,dj,hg,hj,hdj,hb⟩,hq⟩,h⟩
theorem j5 {b:Bool} (hg:o.guard=some (j,c)) (hj:ops[j]? =some oj) (hdj:oj.dst=some dj) (hb:look env dj=some (.bool b)) (hne:b≠c) (hd:o.dst=some d) (hn:d<n) (h:Lx P ops n w0 Rs K l ((d,undef) ::env)) :Lx P ops n w0 Rs K (o::l) env:=
 ⟨d,undef,hd,hn, .inr ⟨⟨j,c,oj,dj,hg,hj,hdj, .inr ⟨b,hb,hne⟩⟩,rfl⟩,h⟩
theorem x9 (hq:Qt P o n env w0 Rs v) (h:Lx P ops n w0 Rs K l ((d,v) ::env)) (hg:o.guard=none:=by exact rfl) (hd:o.dst=some d:=by exact rfl) (hn:d<n:=by decide) :Lx P ops n w0 Rs K (o::l) env:=QI hg hd hn hq h
theorem y9 (hq:Qt P o n env w0 Rs v) (h:Lx P ops n w0 Rs K l ((d,v) ::env)) (hg:o.guard=some (j,c) :=by exact rfl) (hj:ops[j]? =some oj:=by exact rfl) (hdj:oj.dst=some dj:=by exact rfl) (hb:look env dj=some (.bool c) :=by exact rfl) (hd:o.dst=some d:=by exact rfl) (hn:d<n:=by decide) :Lx P ops n w0 Rs K (o::l) env:=JQ hg hj hdj hb hd hn hq h
theorem z9 {b:Bool} (h:Lx P ops n w0 Rs K l ((d,undef) ::env)) (hg:o.guard=some (j,c) :=by exact rfl) (hj:ops[j]? =some oj:=by exact rfl) (hdj:oj.dst=some dj:=by exact rfl) (hb:look env dj=some (.bool b) :=by exact rfl) (hne:b≠c:=by decide) (hd:o.dst=some d:=by exact rfl) (hn:d<n:=by decide) :Lx P ops n w0 Rs K (o::l) env:=j5 hg hj hdj hb hne hd hn h
theorem qJ (hg:o.guard=some (j,c)) (hj:ops[j]? =some oj) (hdj:oj.dst=some dj) (hb:look env dj=some undef) (hd:o.dst=some d) (hn:d<n) (h:Lx P ops n w0 Rs K l ((d,undef) ::env)) :Lx P ops n w0 Rs K (o::l) env:=
 ⟨d,undef,hd,hn, .inr ⟨⟨j,c,oj,dj,hg,hj,hdj, .inl hb⟩,rfl⟩,h⟩
theorem Frm.congr {env':List (Nat×Value)} (h:Frm n env a) (he:∀t,look env' t=look env t) :Frm n env' a:=⟨h.size,fun t v hv=>h.get t v (by rw [←he];exact hv),h.defers⟩
theorem Tp:∀(l:List Oper) {env env':List (Nat×Value)} (he:∀t,look env' t=look env t),Lx P ops n w0 Rs K l env'→Lx P ops n w0 Rs K l env
 | [],env,env',he,h=>fun a w hf hs=>h a w (hf.congr he) hs
 | o::l,env,env',he,h=>by
  obtain ⟨d,v,hd,hn,hw,hrest⟩ :=h
  refine⟨d,v,hd,hn,?_,Tp l (fun t=> ?_) hrest⟩
  ·rcases hw with⟨hw,hq⟩ |⟨hw,hv⟩
   ·refine .inl ⟨?_,fun a w hf hs=>hq a w (hf.congr he) hs⟩
    rcases hw with hw |⟨j,c,oj,dj,hg,hj,hdj,hb⟩
    ·exact .inl hw
    ·exact .inr ⟨j,c,oj,dj,hg,hj,hdj,by rw [←he];exact hb⟩
   ·refine .inr ⟨?_,hv⟩
    obtain ⟨j,c,oj,dj,hg,hj,hdj,hb |⟨b,hb,hne⟩⟩ :=hw
    ·exact⟨j,c,oj,dj,hg,hj,hdj, .inl (by rw [←he];exact hb)⟩
    ·exact⟨j,c,oj,dj,hg,hj,hdj, .inr ⟨b,by rw [←he];exact hb,hne⟩⟩
  ·simp only [look]
   split
   ·rfl
   ·exact he t
theorem jgH (t:Nat) (v':Value) (hv:look env t=some v) (e:v=v') (h:Lx P ops n w0 Rs K l ((t,v') ::env)) :Lx P ops n w0 Rs K l env:=Tp l (fun k=>by
 simp only [look]
 split
 ·rename_i hb
  have:t=k:=jkL hb
  subst this
  rw [hv,e]
 ·rfl) h
theorem vP (d:Nat) (hv:look env d=some (.bool t)) (h1:t=true→Lx P ops n w0 Rs K l ((d, .bool true) ::env)) (h2:t=false→Lx P ops n w0 Rs K l ((d, .bool false) ::env)) :Lx P ops n w0 Rs K l env:=by
 cases t with
 | true=>exact jgH d (.bool true) hv rfl (h1 rfl)
 | false=>exact jgH d (.bool false) hv rfl (h2 rfl)
end
theorem WI (n:Int) (w:World) :Calls Tryz.prog 158 #[.int .i64 n] w fun e w'=>e= .returned (.int .i64 (wR n))∧Over w w':=by
 refine j6 (m:=9) (Tryz.func158) J J (lb J) ?_;refine S12 ?_;refine cZ (fun c1=> ?_) (fun c1=> ?_)
 ·refine S7 ?_;refine jK J (.tmp J) ?_
  intro w' hs
  exact⟨Y0 (by have:=Uq n;omega),hs.fin⟩
 ·refine S6 ?_;refine cZ (fun c2=> ?_) (fun c2=> ?_)
  ·refine S7 ?_;refine jK J (.tmp J) ?_
   intro w' hs
   exact⟨Y0 (by have:=Uq n;omega),hs.fin⟩
  ·refine S8 ?_;refine jK J (.tmp J) ?_
   intro w' hs
   exact⟨Y0 (by have:=Uq n;omega),hs.fin⟩
theorem CM (a b c:Pn) (w:World) (ha:bd2 a) (hb:bd2 b) (hc:bd2 c) :Calls Tryz.prog 127 #[pV a,pV b,pV c] w fun e w'=>e= .returned (.bool (WW a b c))∧Over w w':=by
 obtain ⟨a1,a2⟩ :=VA ha;obtain ⟨b1,b2⟩ :=VA hb;obtain ⟨c1,c2⟩ :=VA hc
 exact Fk a.1 a.2 b.1 b.2 c.1 c.2 w a1 a2 b1 b2 c1 c2
theorem WK (a b c:Pn) (w:World) (ha:bd2 a) (hb:bd2 b) (hc:bd2 c) :Calls Tryz.prog 128 #[pV a,pV b,pV c] w fun e w'=>e= .returned (.int .i64 (tn a b c))∧Over w w':=by
 obtain ⟨a1,a2⟩ :=VA ha;obtain ⟨b1,b2⟩ :=VA hb;obtain ⟨c1,c2⟩ :=VA hc
 exact WJ a.1 a.2 b.1 b.2 c.1 c.2 w a1.1 a1.2 a2.1 a2.2 b1.1 b1.2 b2.1 b2.2 c1.1 c1.2 c2.1 c2.2
section
variable {w0:Bs} {Rs:List Res}
theorem jdO {b o m:Nat} (h:∀w,St w0 Rs w→Pts w (some ⟨b,o,none⟩) m xs) (hj:j<m) :∀w',St w0 Rs w'→∀q v,[Value.int .i64 (px xs j),Value.int .i64 (py xs j)][q]? =some v→w'.cell? ⟨b,o+j*2+q,none⟩ =some v:=fun w' hs q v hv=>by
 obtain ⟨b',o',e,_,h1,h2⟩ := (h w' hs).at_ hj
 injection e with e
 injection e with e1 e2 _
 subst e1 e2
 match q,hv with
 | 0,hv=>simp at hv;subst hv;exact h1
 | 1,hv=>simp at hv;subst hv;exact h2
end
def Iq (a b c d:Pn) (i:Nat) :Pn:= [a,b,c,d].getD i (0,0)
theorem jff {a b c d:Pn} (ha:bd2 a) (hb:bd2 b) (hc:bd2 c) (hd:bd2 d) (hi:i<4) :bd2 (Iq a b c d i) :=by
 match i,hi with
 | 0,_=>exact ha
 | 1,_=>exact hb
 | 2,_=>exact hc
 | 3,_=>exact hd
theorem SL (a b c d:Pn) (hi:i<4) : [Value.int .i64 a.1, .int .i64 a.2, .int .i64 b.1, .int .i64 b.2, .int .i64 c.1, .int .i64 c.2, .int .i64 d.1, .int .i64 d.2][0+i*2]? =some (.int .i64 (Iq a b c d i).1)∧
  [Value.int .i64 a.1, .int .i64 a.2, .int .i64 b.1, .int .i64 b.2, .int .i64 c.1, .int .i64 c.2, .int .i64 d.1, .int .i64 d.2][0+i*2+1]? =some (.int .i64 (Iq a b c d i).2) :=by
 match i,hi with
 | 0,_=>exact⟨rfl,rfl⟩
 | 1,_=>exact⟨rfl,rfl⟩
 | 2,_=>exact⟨rfl,rfl⟩
 | 3,_=>exact⟨rfl,rfl⟩
def y7 (a b c d:Pn) :Nat→List Pn
 | 0=> []
 | i+1=>Mc a b c d (y7 a b c d i) (Iq a b c d i)
theorem jak (a b c d:Pn) :y7 a b c d 4=Qk a b c d:=rfl
theorem D9 (a b c d:Pn) :∀i,(y7 a b c d i).length≤i
 | 0=>by simp [y7]
 | i+1=>by
  have:=D9 a b c d i
  simp only [y7,Mc]
  split
  ·simp;omega
  ·omega
theorem Dm {es:List Pn} {k:Nat} (hk:k<es.length) (p:Pn) : (es.take (k+1)).contains p= ((es.take k).contains p || (px es k==p.1&&py es k==p.2)) :=by
 rw [jjt hk]
 rw [jjT]
 simp only [List.contains_eq_mem,jjz,jjp,decide_eq_true_eq,jkb,jjl,beq_iff_eq]
 rw [yU hk]
 obtain ⟨x,y⟩ :=p
 simp only [Prod.mk.injEq]
 constructor
 ·rintro(h | h)
  ·exact .inl h
  ·exact .inr ⟨h.1.symm,h.2.symm⟩
 ·rintro(h | h)
  ·exact .inl h
  ·exact .inr ⟨h.1.symm,h.2.symm⟩
theorem Ox {a b c d:Pn} (h:t= (!((y7 a b c d i).contains (Iq a b c d i)) &&kd a b c d (Iq a b c d i))) :y7 a b c d (i+1) =if t=true then y7 a b c d i++ [Iq a b c d i] else y7 a b c d i:=by rw [h];rfl
theorem Lv (a b c d:Pn) (w:World) (ha:bd2 a) (hb:bd2 b) (hc:bd2 c) (hd:bd2 d) :Calls Tryz.prog 157 #[pV a,pV b,pV c,pV d] w fun e w'=>∃v,e= .returned v∧w'.ownsRow w.heap.size 28 2 v (Qk a b c d).length ((Qk a b c d).flatMap Jr)∧Over w w':=by
 refine j6 (m:=63) (Tryz.func157) J J (lb J) ?_;refine S3 ?_;refine aX (fun b1=> ?_);refine N1 ?_;refine aX (fun b2=> ?_);refine N1 ?_;refine aX (fun b3=> ?_);refine N1 ?_;refine aX (fun b4=> ?_);refine N5 ?_;refine Jy J J (KR) J (lb J) (fun b5=> ?_);refine Wi 4 2 J J ?_;refine N9 ?_;refine Jy J J (vD J J J J) J (lb J) (fun b6=> ?_);refine N8 ?_;refine JX (X:=Nat×Option Addr×Nat) (fun x=>x.1≤4) (fun x=>4- x.1) (fun x=> [(11, .int .i64 (x.1:Int)),(9, .slice x.2.1 (y7 a b c d x.1).length x.2.2)]) (kK [4,5,6,7,8,10]) (fun x=> [.cel b1 28 [.int .i64 a.1, .int .i64 a.2], .cel b2 28 [.int .i64 b.1, .int .i64 b.2], .cel b3 28 [.int .i64 c.1, .int .i64 c.2], .cel b4 28 [.int .i64 d.1, .int .i64 d.2],J3 (Bs.N ⟨w,[]⟩) 28 2 (y7 a b c d x.1).length ((y7 a b c d x.1).flatMap Jr) x.2, .cel b6 28 [.int .i64 a.1, .int .i64 a.2, .int .i64 b.1, .int .i64 b.2, .int .i64 c.1, .int .i64 c.2, .int .i64 d.1, .int .i64 d.2]]) (0,some ⟨b5,0,none⟩,0) (jjo _) ⟨J,sz⟩ (fun _ h=>h) ?_
 intro⟨i,eA,ec⟩ hx L hL1
 refine v9 ?_;refine r9 ?_
 have hi:i≤4:=hx
 have hel:=D9 a b c d i
 obtain ⟨es,hes⟩ :∃es,y7 a b c d i=es:=⟨_,rfl⟩
 rw [hes] at hel
 simp only [hes]
 refine S6 ?_;refine cZ (fun c1=> ?_) (fun c1=> ?_)
 ·have hlt:i<4:=Om
  obtain ⟨p,hp⟩ :∃p,Iq a b c d i=p:=⟨_,rfl⟩
  have hpb:bd2 p:=hp▸jff ha hb hc hd hlt
  obtain ⟨f1,f2⟩ :=SL a b c d hlt
  rw [hp] at f1 f2
  refine S9 ?_;refine a9 (jl J J jk J (YA (k:=5) J f1 f2)) ?_;refine S1 ?_;refine aL (fun b7=> ?_);refine N13 ?_;refine qv (X:=Nat) (fun k=>k≤es.length) (fun k=>es.length- k) (fun k=> [(14, .int .i64 (k:Int)),(13, .bool ((es.take k).contains p))]) (kK [4,5,6,7,8,10,11,9,21,22,25,26,27,28,12]) 0 (jjo _) ⟨J,sz⟩ ?_
  intro k hk L hL2
  refine V8 ?_;refine cZ (fun c2=> ?_) (fun c2=> ?_)
  ·have hkt:k<es.length:=Om
   have hcs:=Dm hkt p
   refine kL (fun w hs=>wH (k:=4) J hs Om) ?_
   rintro⟨eg,rfl⟩
   refine S5 ?_;refine JS 10 ?_;refine dK 0 ?_;refine dK 1 ?_;refine cV 36 (fun g1=> ?_) (fun g1=> ?_)
   ·refine fK 2 ?_;refine fK 3 ?_;refine fK 4 ?_;refine fK 5 ?_;refine fK 6 ?_;refine fK 7 ?_;refine dK 8 ?_;refine dK 9 ?_;refine JJ Kr ?_;refine S7 ?_
    exact qf hL2 (k+1) Om Om ⟨vi Om,vb (by rw [hcs,g1];rfl),sz⟩ (u9 J)
   ·refine eK 2 ?_;refine eK 3 ?_;refine eK 4 ?_;refine eZ 5 J (jl J J jk J (jdO (fun w' hs=>ub (hs.all 4 _ J).1 J) hkt)) ?_;refine eK 6 ?_;refine eK 7 ?_;refine dK 8 ?_;refine dK 9 ?_;refine JJ Kr ?_;refine S7 ?_
    exact qf hL2 (k+1) Om Om ⟨vi Om,vb (by rw [hcs,g1];rfl),sz⟩ (u9 J)
  ·have hke:k=es.length:=Om
   subst hke
   rw [jj3]
   refine S5 ?_;refine qt [(57, .bool (!(es.contains p) &&kd a b c d p))] (kK [4,5,6,7,8,10,11,9,21,22,25,26,27,28,12,14,13,29,30,31,32]) (fun L h_12=> ?_) ?_
   ·refine S4 ?_;refine cV 46 (fun g2=> ?_) (fun g2=> ?_)
    ·refine S7 ?_;refine o9 (jM yJ J J (fun w h=>CM a b p w ha hb hpb)) ?_;refine S2 ?_;refine cV 52 (fun g3=> ?_) (fun g3=> ?_)
     ·refine S7 ?_;refine o9 (jM yJ J J (fun w h=>CM c d p w hc hd hpb)) ?_;refine S2 ?_
      exact Jo h_12 ⟨vb (by rw [kd];simp only [*,Bool.not_true,Bool.not_false,jjG,jjU]),sz⟩ (u9 J)
     ·refine S6 ?_
      exact Jo h_12 ⟨vb (by rw [kd];simp only [*,Bool.not_true,Bool.not_false,jjG,jjU]),sz⟩ (u9 J)
    ·refine S12 ?_
     exact Jo h_12 ⟨vb (by rw [kd];simp only [*,Bool.not_true,Bool.not_false,jjG,jjU]),sz⟩ (u9 J)
   ·refine v9 ?_;refine cZ (fun c3=> ?_) (fun c3=> ?_)
    ·have hst:=Ox (a:=a) (b:=b) (c:=c) (d:=d) (i:=i) (t:=true) (by rw [hes,hp,c3])
     rw [if_pos rfl,hes,hp] at hst
     refine S4 ?_;refine Jy J J (qT J) J (lb J) (fun b8=> ?_);refine N1 ?_;refine JY (k:=4) J jD jI Dc J Dc J J J (fun w' hs=>Qb hs (k:=7) J J) (by simp [Value.oneCell']) (by unfold maxLen;omega) Om (jjm _) (fun r1=> ?_);refine N9 ?_
     exact Jq hL1 ((i+1,r1)) ((show i+1≤4 by omega)) (by simp only;omega) ⟨vi Om,by simp only [hst,jjk];rfl,sz⟩ (fun _ h=>h.upto ⟨J,J,J,J,by simp only [hst,jjv,jjk];rfl,sz⟩)
    ·have hst:=Ox (a:=a) (b:=b) (c:=c) (d:=d) (i:=i) (t:=false) (by rw [hes,hp,c3])
     rw [if_neg (by simp),hes] at hst
     refine S8 ?_
     exact Jq hL1 ((i+1,eA,ec)) ((show i+1≤4 by omega)) (by simp only;omega) ⟨vi Om,by simp only [hst];rfl,sz⟩ (fun _ h=>h.upto ⟨J,J,J,J,by simp only [hst],sz⟩)
 ·have hie:i=4:=Om
  subst hie
  rw [jak] at hes
  refine S11 ?_;refine jK J (.tmp J) ?_
  intro w' hs
  exact⟨_,rfl,by rw [hes];exact(hs.all 4 _ rfl).1,hs.fin⟩
theorem jaz {a b c d:Pn} : ((Qk a b c d).length=0→Qd a b c d=if qg a b c d=true then 2 else 0)∧((Qk a b c d).length=1→Qd a b c d=1)∧(¬(Qk a b c d).length=0→¬(Qk a b c d).length=1→Qd a b c d=3) :=by
 unfold Qd
 refine⟨fun h=>by rw [if_pos h],fun h=>by rw [if_neg Om,if_pos h],fun h h'=>by rw [if_neg h,if_neg h']⟩
theorem OL (a b c d:Pn) (w:World) (ha:bd2 a) (hb:bd2 b) (hc:bd2 c) (hd:bd2 d) :Calls Tryz.prog 106 #[pV a,pV b,pV c,pV d] w fun e w'=>e= .returned (.int .i64 (Qd a b c d))∧Over w w':=by
 have m1:=Y3 (tn a b c) (tn a b d)
 have m2:=Y3 (tn c d a) (tn c d b)
 have hl:= @jaz a b c d
 refine j6 (m:=45) (Tryz.func106) J J (lb J) ?_;refine S3 ?_;refine aX (fun b1=> ?_);refine N1 ?_;refine aX (fun b2=> ?_);refine N1 ?_;refine aX (fun b3=> ?_);refine N1 ?_;refine aX (fun b4=> ?_);refine N10 ?_;refine JU zq (v:=fun x=> .slice x.1 _ x.2) (r:=fun x=>J3 0 28 2 _ _ x) (H:=fun _=>True) J J J (lb J) (fun w1 hs=>Qf (Lv a b c d w1 ha hb hc hd)) ?_
 rintro⟨eA,ec⟩ -
 refine N8 ?_;refine cZ (fun c1=> ?_) (fun c1=> ?_)
 ·refine S1 ?_;refine qt [(42, .bool (qg a b c d))] (kK [8]) (fun L h_3=> ?_) ?_
  ·refine S1 ?_;refine JS 26 ?_;refine dK 0 ?_;refine dK 1 ?_;refine dK 2 ?_;refine dZ 3 J (jM Qa J J (fun w h=>WK _ _ _ w (by assumption) (by assumption) (by assumption))) ?_;refine dZ 4 J (jM vn J J (fun w h=>WI _ w)) ?_;refine dK 5 ?_;refine dK 6 ?_;refine dK 7 ?_;refine dZ 8 J (jM Qa J J (fun w h=>WK _ _ _ w (by assumption) (by assumption) (by assumption))) ?_;refine dZ 9 J (jM vn J J (fun w h=>WI _ w)) ?_;refine dK 10 ?_;refine dK 11 ?_;refine dK 12 ?_;refine cV 29 (fun g1=> ?_) (fun g1=> ?_)
   ·refine eK 13 ?_;refine eK 14 ?_;refine eK 15 ?_;refine eZ 16 J (jM Qa J J (fun w h=>WK _ _ _ w (by assumption) (by assumption) (by assumption))) ?_;refine eZ 17 J (jM vn J J (fun w h=>WI _ w)) ?_;refine eK 18 ?_;refine eK 19 ?_;refine eK 20 ?_;refine eZ 21 J (jM Qa J J (fun w h=>WK _ _ _ w (by assumption) (by assumption) (by assumption))) ?_;refine eZ 22 J (jM vn J J (fun w h=>WI _ w)) ?_;refine eK 23 ?_;refine eK 24 ?_;refine dK 25 ?_;refine JJ Kr ?_;refine S1 ?_
    exact Jo h_3 ⟨vb (by simp [qg, *] <;>omega),sz⟩ (u9 J)
   ·refine fK 13 ?_;refine fK 14 ?_;refine fK 15 ?_;refine fK 16 ?_;refine fK 17 ?_;refine fK 18 ?_;refine fK 19 ?_;refine fK 20 ?_;refine fK 21 ?_;refine fK 22 ?_;refine fK 23 ?_;refine fK 24 ?_;refine dK 25 ?_;refine JJ Kr ?_;refine S1 ?_
    exact Jo h_3 ⟨vb (by simp [qg, *] <;>omega),sz⟩ (u9 J)
  ·refine v9 ?_;refine cZ (fun c2=> ?_) (fun c2=> ?_)
   ·refine S8 ?_;refine jK J (.tmp J) ?_
    intro w' hs
    exact⟨Y0 (by rw [hl.1 Om,if_pos (by assumption)]),hs.fin⟩
   ·refine S9 ?_;refine jK J (.tmp J) ?_
    intro w' hs
    exact⟨Y0 (by rw [hl.1 Om,if_neg (by simp [*])]),hs.fin⟩
 ·refine S5 ?_;refine cZ (fun c3=> ?_) (fun c3=> ?_)
  ·refine S7 ?_;refine jK J (.tmp J) ?_
   intro w' hs
   exact⟨Y0 (by rw [hl.2.1 Om]),hs.fin⟩
  ·refine S8 ?_;refine jK J (.tmp J) ?_
   intro w' hs
   exact⟨Y0 (by rw [hl.2.2 Om Om]),hs.fin⟩
section
variable {w:World} {Rs:List Res}
theorem qn {b o:Nat} {l:Leg} (h:∀q v,(Ji l)[q]? =some v→w.cell? ⟨b,o+q,none⟩ =some v) (hb:b<w.heap.size) :
  (∀w',St ⟨w,[]⟩ Rs w'→w'.cell? ⟨b,o+0+0,none⟩ =some (.int .i64 l.ax))∧(∀w',St ⟨w,[]⟩ Rs w'→w'.cell? ⟨b,o+0+1,none⟩ =some (.int .i64 l.ay))∧
  (∀w',St ⟨w,[]⟩ Rs w'→w'.cell? ⟨b,o+2+0,none⟩ =some (.int .i64 l.bx))∧(∀w',St ⟨w,[]⟩ Rs w'→w'.cell? ⟨b,o+2+1,none⟩ =some (.int .i64 l.b_y)) :=
 ⟨Qi (h 0 _ rfl) hb,Qi (h 1 _ rfl) hb,Qi (h 2 _ rfl) hb,Qi (h 3 _ rfl) hb⟩
end
theorem Ix (b1_ o1 b2_ o2:Nat) (e f:Leg) (w:World) (h1:∀q v,(Ji e)[q]? =some v→w.cell? ⟨b1_,o1+q,none⟩ =some v) (h2:∀q v,(Ji f)[q]? =some v→w.cell? ⟨b2_,o2+q,none⟩ =some v) (hb1:b1_<w.heap.size) (hb2:b2_<w.heap.size) :
  Calls Tryz.prog 105 #[.pointer (some ⟨b1_,o1,none⟩), .pointer (some ⟨b2_,o2,none⟩)] w fun r w'=>r= .returned (.bool (KU (lA e) (lB e) (lA f) (lB f)))∧Over w w':=by
 refine j6 (m:=103) (Tryz.func105) J J (lb J) ?_;refine S5 ?_;refine Gb mixed Kr (fun _ _ d _ _ h=>by cases d<;>exact h) ?_;refine x9 q9 ?_;refine x9 (j4 J J) ?_;refine x9 (jg J J JD) ?_;refine x9 (jg J J Jn) ?_;refine x9 (jo rfl rfl ju (by first | exact(qn h1 hb1).1 | exact(qn h1 hb1).2.1 | exact(qn h1 hb1).2.2.1 | exact(qn h1 hb1).2.2.2 | exact(qn h2 hb2).1 | exact(qn h2 hb2).2.1 | exact(qn h2 hb2).2.2.1 | exact(qn h2 hb2).2.2.2)) ?_;refine x9 q9 ?_;refine x9 (j4 J J) ?_;refine x9 (jg J J JG) ?_;refine x9 (jg J J Jn) ?_;refine x9 (jo rfl rfl ju (by first | exact(qn h1 hb1).1 | exact(qn h1 hb1).2.1 | exact(qn h1 hb1).2.2.1 | exact(qn h1 hb1).2.2.2 | exact(qn h2 hb2).1 | exact(qn h2 hb2).2.1 | exact(qn h2 hb2).2.2.1 | exact(qn h2 hb2).2.2.2)) ?_;refine x9 (jM vU J J (fun w h=>Calls.still (we _ _ w))) ?_;refine x9 q9 ?_;refine x9 (j4 J J) ?_;refine x9 (jg J J JD) ?_;refine x9 (jg J J Jn) ?_;refine x9 (jo rfl rfl ju (by first | exact(qn h1 hb1).1 | exact(qn h1 hb1).2.1 | exact(qn h1 hb1).2.2.1 | exact(qn h1 hb1).2.2.2 | exact(qn h2 hb2).1 | exact(qn h2 hb2).2.1 | exact(qn h2 hb2).2.2.1 | exact(qn h2 hb2).2.2.2)) ?_;refine x9 q9 ?_;refine x9 (j4 J J) ?_;refine x9 (jg J J JG) ?_;refine x9 (jg J J Jn) ?_;refine x9 (jo rfl rfl ju (by first | exact(qn h1 hb1).1 | exact(qn h1 hb1).2.1 | exact(qn h1 hb1).2.2.1 | exact(qn h1 hb1).2.2.2 | exact(qn h2 hb2).1 | exact(qn h2 hb2).2.1 | exact(qn h2 hb2).2.2.1 | exact(qn h2 hb2).2.2.2)) ?_;refine x9 (jM vV J J (fun w h=>Calls.still (wg _ _ w))) ?_;refine x9 (Jt J J J) ?_;refine x9 q9 ?_;refine vP 28 J (fun g1=> ?_) (fun g1=> ?_)
 ·try simp only[zz] at g1
  (iterate 23 refine z9 ?_);refine x9 (jN J J J) ?_;refine x9 q9 ?_;(iterate 23 refine z9 ?_);refine x9 (jN J J J) ?_;refine x9 q9 ?_;(iterate 23 refine z9 ?_);refine x9 (jN J J J) ?_;refine x9 s9 ?_;refine Wx ?_;refine S2 ?_;refine jK J (.tmp J) ?_
  intro w' hs
  exact⟨QF (by rw [jjT];simp only [KU,jkb,decide_eq_true_eq,true_iff];simp only [lA,lB];omega),hs.fin⟩
 ·try simp only[zz] at g1
  refine y9 q9 ?_;refine y9 (j4 J J) ?_;refine y9 (jg J J JD) ?_;refine y9 (jg J J Jn) ?_;refine y9 (jo rfl rfl ju (by first | exact(qn h1 hb1).1 | exact(qn h1 hb1).2.1 | exact(qn h1 hb1).2.2.1 | exact(qn h1 hb1).2.2.2 | exact(qn h2 hb2).1 | exact(qn h2 hb2).2.1 | exact(qn h2 hb2).2.2.1 | exact(qn h2 hb2).2.2.2)) ?_;refine y9 q9 ?_;refine y9 (j4 J J) ?_;refine y9 (jg J J JG) ?_;refine y9 (jg J J Jn) ?_;refine y9 (jo rfl rfl ju (by first | exact(qn h1 hb1).1 | exact(qn h1 hb1).2.1 | exact(qn h1 hb1).2.2.1 | exact(qn h1 hb1).2.2.2 | exact(qn h2 hb2).1 | exact(qn h2 hb2).2.1 | exact(qn h2 hb2).2.2.1 | exact(qn h2 hb2).2.2.2)) ?_;refine y9 (jM vU J J (fun w h=>Calls.still (we _ _ w))) ?_;refine y9 q9 ?_;refine y9 (j4 J J) ?_;refine y9 (jg J J JD) ?_;refine y9 (jg J J Jn) ?_;refine y9 (jo rfl rfl ju (by first | exact(qn h1 hb1).1 | exact(qn h1 hb1).2.1 | exact(qn h1 hb1).2.2.1 | exact(qn h1 hb1).2.2.2 | exact(qn h2 hb2).1 | exact(qn h2 hb2).2.1 | exact(qn h2 hb2).2.2.1 | exact(qn h2 hb2).2.2.2)) ?_;refine y9 q9 ?_;refine y9 (j4 J J) ?_;refine y9 (jg J J JG) ?_;refine y9 (jg J J Jn) ?_;refine y9 (jo rfl rfl ju (by first | exact(qn h1 hb1).1 | exact(qn h1 hb1).2.1 | exact(qn h1 hb1).2.2.1 | exact(qn h1 hb1).2.2.2 | exact(qn h2 hb2).1 | exact(qn h2 hb2).2.1 | exact(qn h2 hb2).2.2.1 | exact(qn h2 hb2).2.2.2)) ?_;refine y9 (jM vV J J (fun w h=>Calls.still (wg _ _ w))) ?_;refine y9 (Jt J J J) ?_;refine x9 (jL J J J) ?_;refine x9 q9 ?_;refine vP 53 J (fun g2=> ?_) (fun g2=> ?_)
  ·try simp only[zz] at g2
   (iterate 23 refine z9 ?_);refine x9 (jN J J J) ?_;refine x9 q9 ?_;(iterate 23 refine z9 ?_);refine x9 (jN J J J) ?_;refine x9 s9 ?_;refine Wx ?_;refine S2 ?_;refine jK J (.tmp J) ?_
   intro w' hs
   exact⟨QF (by rw [jjT];simp only [KU,jkb,decide_eq_true_eq,true_iff];simp only [lA,lB];omega),hs.fin⟩
  ·try simp only[zz] at g2
   refine y9 q9 ?_;refine y9 (j4 J J) ?_;refine y9 (jg J J JD) ?_;refine y9 (jg J J jH) ?_;refine y9 (jo rfl rfl ju (by first | exact(qn h1 hb1).1 | exact(qn h1 hb1).2.1 | exact(qn h1 hb1).2.2.1 | exact(qn h1 hb1).2.2.2 | exact(qn h2 hb2).1 | exact(qn h2 hb2).2.1 | exact(qn h2 hb2).2.2.1 | exact(qn h2 hb2).2.2.2)) ?_;refine y9 q9 ?_;refine y9 (j4 J J) ?_;refine y9 (jg J J JG) ?_;refine y9 (jg J J jH) ?_;refine y9 (jo rfl rfl ju (by first | exact(qn h1 hb1).1 | exact(qn h1 hb1).2.1 | exact(qn h1 hb1).2.2.1 | exact(qn h1 hb1).2.2.2 | exact(qn h2 hb2).1 | exact(qn h2 hb2).2.1 | exact(qn h2 hb2).2.2.1 | exact(qn h2 hb2).2.2.2)) ?_;refine y9 (jM vU J J (fun w h=>Calls.still (we _ _ w))) ?_;refine y9 q9 ?_;refine y9 (j4 J J) ?_;refine y9 (jg J J JD) ?_;refine y9 (jg J J jH) ?_;refine y9 (jo rfl rfl ju (by first | exact(qn h1 hb1).1 | exact(qn h1 hb1).2.1 | exact(qn h1 hb1).2.2.1 | exact(qn h1 hb1).2.2.2 | exact(qn h2 hb2).1 | exact(qn h2 hb2).2.1 | exact(qn h2 hb2).2.2.1 | exact(qn h2 hb2).2.2.2)) ?_;refine y9 q9 ?_;refine y9 (j4 J J) ?_;refine y9 (jg J J JG) ?_;refine y9 (jg J J jH) ?_;refine y9 (jo rfl rfl ju (by first | exact(qn h1 hb1).1 | exact(qn h1 hb1).2.1 | exact(qn h1 hb1).2.2.1 | exact(qn h1 hb1).2.2.2 | exact(qn h2 hb2).1 | exact(qn h2 hb2).2.1 | exact(qn h2 hb2).2.2.1 | exact(qn h2 hb2).2.2.2)) ?_;refine y9 (jM vV J J (fun w h=>Calls.still (wg _ _ w))) ?_;refine y9 (Jt J J J) ?_;refine x9 (jL J J J) ?_;refine x9 q9 ?_;refine vP 78 J (fun g3=> ?_) (fun g3=> ?_)
   ·try simp only[zz] at g3
    (iterate 23 refine z9 ?_);refine x9 (jN J J J) ?_;refine x9 s9 ?_;refine Wx ?_;refine S2 ?_;refine jK J (.tmp J) ?_
    intro w' hs
    exact⟨QF (by rw [jjT];simp only [KU,jkb,decide_eq_true_eq,true_iff];simp only [lA,lB];omega),hs.fin⟩
   ·try simp only[zz] at g3
    refine y9 q9 ?_;refine y9 (j4 J J) ?_;refine y9 (jg J J JD) ?_;refine y9 (jg J J jH) ?_;refine y9 (jo rfl rfl ju (by first | exact(qn h1 hb1).1 | exact(qn h1 hb1).2.1 | exact(qn h1 hb1).2.2.1 | exact(qn h1 hb1).2.2.2 | exact(qn h2 hb2).1 | exact(qn h2 hb2).2.1 | exact(qn h2 hb2).2.2.1 | exact(qn h2 hb2).2.2.2)) ?_;refine y9 q9 ?_;refine y9 (j4 J J) ?_;refine y9 (jg J J JG) ?_;refine y9 (jg J J jH) ?_;refine y9 (jo rfl rfl ju (by first | exact(qn h1 hb1).1 | exact(qn h1 hb1).2.1 | exact(qn h1 hb1).2.2.1 | exact(qn h1 hb1).2.2.2 | exact(qn h2 hb2).1 | exact(qn h2 hb2).2.1 | exact(qn h2 hb2).2.2.1 | exact(qn h2 hb2).2.2.2)) ?_;refine y9 (jM vU J J (fun w h=>Calls.still (we _ _ w))) ?_;refine y9 q9 ?_;refine y9 (j4 J J) ?_;refine y9 (jg J J JD) ?_;refine y9 (jg J J jH) ?_;refine y9 (jo rfl rfl ju (by first | exact(qn h1 hb1).1 | exact(qn h1 hb1).2.1 | exact(qn h1 hb1).2.2.1 | exact(qn h1 hb1).2.2.2 | exact(qn h2 hb2).1 | exact(qn h2 hb2).2.1 | exact(qn h2 hb2).2.2.1 | exact(qn h2 hb2).2.2.2)) ?_;refine y9 q9 ?_;refine y9 (j4 J J) ?_;refine y9 (jg J J JG) ?_;refine y9 (jg J J jH) ?_;refine y9 (jo rfl rfl ju (by first | exact(qn h1 hb1).1 | exact(qn h1 hb1).2.1 | exact(qn h1 hb1).2.2.1 | exact(qn h1 hb1).2.2.2 | exact(qn h2 hb2).1 | exact(qn h2 hb2).2.1 | exact(qn h2 hb2).2.2.1 | exact(qn h2 hb2).2.2.2)) ?_;refine y9 (jM vV J J (fun w h=>Calls.still (wg _ _ w))) ?_;refine y9 (Jt J J J) ?_;refine x9 (jL J J J) ?_;refine x9 s9 ?_;refine Wx ?_;refine S2 ?_;refine jK J (.tmp J) ?_
    intro w' hs
    exact⟨QF (by rw [jjT];simp only [KU,jkb,decide_eq_true_eq,true_iff];simp only [lA,lB];omega),hs.fin⟩
def psL (e f:Leg) :Bool:=VG (lA e) (lB e) (lA f) (lB f)
theorem jaS {e f:Leg} (he:qM e) (hf:qM f) (ne:lA e≠lB e) (nf:lA f≠lB f) :psL e f=jdz e f:= (jaM (wP he) (WM he) (wP hf) (WM hf) ne nf).symm
end Go.Proofs.YtbahojdbmmjkcaaGreat
