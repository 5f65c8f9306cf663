import Derived.Test.YtkagkgjjfdkoaaaGreatMMeet
import Derived.Test.YtkagkgjjfdkoaaaGreatMLawKit
import Derived.Test.YtkagkgjjfdkoaaaGreatMReg3
import Derived.Still
set_option linter.unusedVariables false
set_option linter.unusedSimpArgs false
namespace Go.Proofs.YtkagkgjjfdkoaaaGreat
open Go Go.RowKit
set_option maxRecDepth 100000
set_option maxHeartbeats 4000000
def lA (l:Leg) :Pn:= (l.ax,l.ay)
def lB (l:Leg) :Pn:= (l.bx,l.b_y)
theorem wL {l:Leg} (h:qO l) :bd2 (lA l) :=⟨h.1,h.2.1⟩
theorem Wt {l:Leg} (h:qO l) :bd2 (lB l) :=⟨h.2.2.1,h.2.2.2⟩
abbrev jed (l:Leg) :Value:= .agg #[.int .i64 l.ax, .int .i64 l.ay, .int .i64 l.bx, .int .i64 l.b_y]
theorem pq {p:Pn} {x y:Int} : (p.1==x&&p.2==y) =decide (p= (x,y)) :=by
 rw [jfo];simp [Prod.ext_iff]
theorem GM {P:Nat→Prop} {k:Nat} (h:∀q,q<k→P q) (hk:P k) :∀q,q<k+1→P q:=fun q hq=>by
 rcases jfG q k with h1 | h1
 ·exact h q h1
 ·obtain rfl:q=k:=by omega
  exact hk
theorem VG (b o h cap s:Nat) :sliced (some ⟨b,o,none⟩) 0 h cap s= .slice (some ⟨b,o,none⟩) h cap:=by
 unfold sliced
 simp [Qz]
theorem K2 {w:World} {w0:Bs} {Rs:List Res} {k B T s n:Nat} {x:Option Addr×Nat} {xs:List Value} (hk:Rs[k]? =some (JP B T s n xs x)) (hs:St w0 Rs w) (hn:0<n) :∃g,x.1=some ⟨g,0,none⟩ :=by
 have h:w.ownsRow B T s (.slice x.1 n x.2) n xs:= (hs.all k _ hk).1
 rcases h.2 with⟨_,e⟩ |⟨g,cap,cur,e,_⟩
 ·omega
 ·injection e with e1
  exact⟨g,e1⟩
theorem yr (xs:List (Int×Int)) :∀k,∀l∈qG xs k,lA l≠lB l
 | 0,l,hl=>by simp [qG] at hl
 | k+1,l,hl=>by
  rw [Ke] at hl
  split at hl
  ·exact yr xs k l hl
  ·rename_i h
   rcases jeY.1 hl with h1 | h1
   ·exact yr xs k l h1
   ·rw [jeT.1 h1]
    intro e
    simp only [lA,lB,Prod.mk.injEq] at e
    exact h e
theorem FF (rs:List jS) :∀k,∀l∈Qg rs k,lA l≠lB l
 | 0,l,hl=>by simp [Qg] at hl
 | k+1,l,hl=>by
  simp only [Qg,jeY] at hl
  rcases hl with h | h
  ·exact FF rs k l h
  ·exact yr _ _ l h
section
variable {P:Program} {n:Nat} {w0:Bs} {Rs:List Res} {ops:Array Oper} {Q:Exit→Act→World→Prop} {K:Act→World→Prop}
def Wants (ops:Array Oper) (env:List (Nat×Value)) (o:Oper) :Prop:=o.guard=none∨∃j c oj dj,o.guard=some (j,c)∧ops[j]? =some oj∧oj.dst=some dj∧look env dj=some (.bool c)
def Leaves (ops:Array Oper) (env:List (Nat×Value)) (o:Oper) :Prop:=∃j c oj dj,o.guard=some (j,c)∧ops[j]? =some oj∧oj.dst=some dj∧(look env dj=some undef∨∃b,look env dj=some (.bool b)∧b≠c)
def Lx (P:Program) (ops:Array Oper) (n:Nat) (w0:Bs) (Rs:List Res) (K:Act→World→Prop) :List Oper→List (Nat×Value)→Prop
 | [],env=>At n env w0 Rs K
 | o::rest,env=>∃d v,o.dst=some d∧d<n∧((Wants ops env o∧Qt P o n env w0 Rs v)∨(Leaves ops env o∧v=undef))∧Lx P ops n w0 Rs K rest ((d,v) ::env)
theorem Wants.wanted {env:List (Nat×Value)} {o:Oper} {a:Act} (h:Wants ops env o) (hf:Frm n env a) :Region.wanted o (yielded ops a.tmps) =true:=by
 rcases h with h |⟨j,c,oj,dj,hg,hj,hdj,hb⟩
 ·simp [Region.wanted,h]
 ·simp [Region.wanted,hg,Fl hf hj hdj hb]
theorem Leaves.wanted {env:List (Nat×Value)} {o:Oper} {a:Act} (h:Leaves ops env o) (hf:Frm n env a) :Region.wanted o (yielded ops a.tmps) =false:=by
 obtain ⟨j,c,oj,dj,hg,hj,hdj,hb |⟨b,hb,hne⟩⟩ :=h
 ·simp [Region.wanted,hg,ZW hf hj hdj hb]
 ·simp [Region.wanted,hg,Fl hf hj hdj hb,hne]
def Th (o:Oper) :List Nat:=o.after.toList.filterMap fun e=>match Region.binds .any e with | true=>some e.on | false=>none
def DD (l:List Oper) (o:Oper) :List Nat:=
 (o.op.operands.toList.filterMap fun | .tmp t=>some t | _=>none) ++
 (match o.guard with
  | some (g,_) => ((l[g]?).bind (·.dst)).toList
  | none=> [])
def Pk (x:Nat) :List Nat→Bool
 | [] =>false
 | y::r=>match Nat.beq x y with
  | true=>true
  | false=>Pk x r
def jbd (af:List Nat) (k t:Nat) :List Nat→Nat→Bool
 | [],_=>true
 | d::r,i=> (match Nat.beq d t with
  | true=>Nat.blt i k&&Pk i af
  | false=>true) &&jbd af k t r (i+1)
def Gy (o:Oper) :Nat:=match o.dst with | some d=>d | none=>0
def RM (l:List Oper) (ds:List Nat) (k:Nat) (o:Oper) :Bool:=
 (match o.dst with | some _=>true | none=>false) && (match o.op with | .select .. =>false | _=>true) && (Th o).all (fun i=>Nat.blt i k) && (DD l o).all (fun t=>jbd (Th o) k t ds 0)
def B7 (l:List Oper) (ds:List Nat) :List Oper→Nat→Bool
 | [],_=>true
 | o::r,k=>RM l ds k o&&B7 l ds r (k+1)
def DK:List Nat→Bool
 | [] =>true
 | d::r=> (match Pk d r with | true=>false | false=>true) &&DK r
def DA (l:List Oper) :Bool:=DK (l.map Gy) &&B7 l (l.map Gy) l 0
theorem LW {x:Nat} :∀ {l:List Nat},Pk x l=true↔x∈l
 | [] =>by simp [Pk]
 | y::r=>by
  unfold Pk
  cases h:Nat.beq x y with
  | true=>simp [jf1 h]
  | false=>
   have:x≠y:=fun e=>by subst e;simp at h
   simp [this,LW]
theorem OQ {af:List Nat} {k t:Nat} :∀ {ds:List Nat} {i:Nat},jbd af k t ds i=true→∀j,ds[j]? =some t→i+j<k∧i+j∈af
 | [],_,_,j,hj=>by simp at hj
 | d::r,i,h,j,hj=>by
  simp only [jbd,jeF] at h
  match j,hj with
  | 0,hj=>
   simp at hj
   subst hj
   have h1:=h.1
   simp only [Nat.beq_refl,jeF] at h1
   exact⟨by simpa using h1.1,by simpa using LW.1 h1.2⟩
  | j+1,hj=>
   have:=OQ h.2 j (by simpa using hj)
   rw [show i+ (j+1) =i+1+j by omega]
   exact this
theorem GP:∀ {ds:List Nat},DK ds=true→ds.Nodup
 | [],_=>List.nodup_nil
 | d::r,h=>by
  simp only [DK,jeF] at h
  refine List.nodup_cons.2 ⟨fun hm=> ?_,GP h.2⟩
  rw [LW.2 hm] at h
  exact absurd h.1 (by simp)
theorem Gu {l:List Oper} {ds:List Nat} :∀ {r:List Oper} {k:Nat},B7 l ds r k=true→∀j o,r[j]? =some o→RM l ds (k+j) o=true
 | [],_,_,j,o,hj=>by simp at hj
 | a::r,k,h,j,o,hj=>by
  simp only [B7,jeF] at h
  match j,hj with
  | 0,hj=>simp at hj;subst hj;exact h.1
  | j+1,hj=>
   rw [show k+ (j+1) =k+1+j by omega]
   exact Gu h.2 j o (by simpa using hj)
structure LexOk (l:List Oper) :Prop where
 dst:∀(k:Nat) (o:Oper),l[k]? =some o→∃d,o.dst=some d
 sel:∀(k:Nat) (o:Oper),l[k]? =some o→∀cs b,o.op≠ .select cs b
 aft:∀(k:Nat) (o:Oper),l[k]? =some o→∀e∈o.after,Region.binds .any e=true→e.on<k
 look:∀(k:Nat) (o:Oper),l[k]? =some o→∀t∈o.looksAt l.toArray,∀(i:Nat) (oi:Oper),l[i]? =some oi→oi.dst=some t→i<k∧∃e∈o.after,Region.binds .any e=true∧e.on=i
 diff:∀(i j:Nat) (oi oj:Oper) (d:Nat),i≠j→l[i]? =some oi→l[j]? =some oj→oi.dst=some d→oj.dst≠some d
theorem Sk {l:List Oper} (h:DA l=true) :LexOk l:=by
 simp only [DA,jeF] at h
 obtain ⟨hn,ha⟩ :=h
 have key:∀(k:Nat) (o:Oper),l[k]? =some o→RM l (l.map Gy) k o=true:=fun k o hk=>by simpa using Gu ha k o hk
 have hdst:∀(k:Nat) (o:Oper),l[k]? =some o→∃d,o.dst=some d:=fun k o hk=>by
  have:=key k o hk
  simp only [RM,jeF] at this
  cases hd:o.dst with
  | some d=>exact⟨d,rfl⟩
  | none=>rw [hd] at this;exact absurd this.1.1.1 (by simp)
 refine⟨hdst,fun k o hk cs b heq=> ?_,fun k o hk e he hb=> ?_,fun k o hk t ht i oi hi hd=> ?_,fun i j oi oj d hij hi hj hd hd'=> ?_⟩
 ·have:=key k o hk
  simp only [RM,jeF,heq] at this
  exact absurd this.1.1.2 (by simp)
 ·have:=key k o hk
  simp only [RM,jeF,jfP] at this
  have h2:=this.1.2 e.on (List.mem_filterMap.2 ⟨e,by simpa using he,by simp [hb]⟩)
  simpa using h2
 ·have:=key k o hk
  simp only [RM,jeF,jfP] at this
  have hl:t∈DD l o:=by
   have e:o.looksAt l.toArray=DD l o:=by unfold Oper.looksAt DD;simp only [List.getElem?_toArray];rfl
   rw [←e];exact ht
  have h2:=OQ (this.2 t hl) i (by simp [hi,Gy,hd])
  rw [je3] at h2
  refine⟨h2.1,?_⟩
  obtain ⟨e,he,h3⟩ :=List.mem_filterMap.1 h2.2
  refine⟨e,by simpa using he,?_⟩
  cases hb:Region.binds .any e with
  | true=>rw [hb] at h3;simp at h3;exact⟨rfl,h3⟩
  | false=>rw [hb] at h3;simp at h3
 ·have hnd:=GP hn
  have e1: (l.map Gy)[i]? =some d:=by simp [hi,Gy,hd]
  have e2: (l.map Gy)[j]? =some d:=by simp [hj,Gy,hd']
  exact hij ((List.getElem?_inj (by have:= (List.getElem?_eq_some_iff.1 e1).1;exact this) hnd).1 (e1.trans e2.symm))
theorem Iq9 {L:List Oper} (hok:LexOk L) (hQ:∀c a d v w,Q (.panic c) (Act.put a d v) w→Q (.panic c) a w) :∀(l:List Oper) (k:Nat) (listed:Array Bool) (env:List (Nat×Value)) (a:Act) (W:World),(∀j,l[j]? =L[k+j]?)→(∀i,i<L.length→listed[i]? =some (decide (i<k)))→listed.size=L.length→k+l.length=L.length→
  Lx P L.toArray n w0 Rs (fun a w=>Q .normal a w) l env→Frm n env a→St w0 Rs W→KF P .any L.toArray Q (uZ w0 Rs) l.length listed a W
 | [],k,listed,env,a,W,_,hls,hsz,hkl,h,hf,hS=>QY (by
   cases hr:Region.ready .any L.toArray listed with
   | nil=>rfl
   | cons x xs=>
    have hx:x∈Region.ready .any L.toArray listed:=by rw [hr];exact jfd
    obtain ⟨h1,o,ho,_⟩ :=mem_ready.1 hx
    have hlt:x<L.length:=by simpa using (Array.getElem?_eq_some_iff.1 ho).1
    have:=hls x hlt
    rw [Array.getD_eq_getD_getElem?,this] at h1
    simp at h1
    simp at hkl
    omega) (fun w hw=>h a w hf (hS.over_ hw)) _
 | o::l,k,listed,env,a,W,hl,hls,hsz,hkl,h,hf,hS=>by
  have h0:L[k]? =some o:=by simpa using (hl 0).symm
  have hkL:k<L.length:= (List.getElem?_eq_some_iff.1 h0).1
  obtain ⟨d,v,hd,hn,hw,hrest⟩ :=h
  have hun:∀j,j<L.length→listed.getD j true=decide (j<k) :=fun j hj=>by rw [Array.getD_eq_getD_getElem?,hls j hj];rfl
  refine Xw (v:=v) (i:=k) (by simpa using h0) (fun j o cs b hj=>hok.sel j o (by simpa using hj) cs b) (fun c a w=>hQ c a _ _ w) l.length listed a W hS (fun j oj hj hne hlj hno=> ?_) ?_ ?_ ?_
  ·have hj':L[j]? =some oj:=by simpa using hj
   have hjl:j<L.length:= (List.getElem?_eq_some_iff.1 hj').1
   have hkj:k<j:=by
    rw [hun j hjl] at hlj
    simp at hlj
    omega
   obtain ⟨dj,hdj⟩ :=hok.dst j oj hj'
   unfold Oper.apart
   rw [hd,hdj]
   have a1: (oj.looksAt L.toArray).contains d=false:=by
    cases hc: (oj.looksAt L.toArray).contains d with
    | false=>rfl
    | true=>
     obtain ⟨_,e,he,hb,hon⟩ :=hok.look j oj hj' d (by simpa using hc) k o h0 hd
     exact absurd hon (hno e he hb)
   have a2: (o.looksAt L.toArray).contains dj=false:=by
    cases hc: (o.looksAt L.toArray).contains dj with
    | false=>rfl
    | true=>
     have:= (hok.look k o h0 dj (by simpa using hc) j oj hj' hdj).1
     omega
   have a3: (some dj !=some d) =true:=by
    have:=hok.diff k j o oj d (by omega) h0 hj' hd
    rw [hdj] at this
    simpa using this
   simp only [a1,a2,a3]
   rfl
  ·rw [mem_ready]
   refine⟨by rw [hun k hkL];simp,o,by simpa using h0,fun e he hb=> ?_⟩
   have hlt:=hok.aft k o h0 e he hb
   rw [Array.getD_eq_getD_getElem?,hls e.on (by omega)]
   simpa using hlt
  ·rcases hw with⟨hw,hq⟩ |⟨hw,rfl⟩
   ·exact .inl ⟨hw.wanted hf,fun w' hs'=> (hq a w' hf hs').gives⟩
   ·exact .inr ⟨hw.wanted hf,rfl⟩
  ·rw [hd]
   refine Iq9 hok hQ l (k+1) _ _ _ W (fun j=>by have:=hl (j+1);simpa [jfN,Nat.add_comm 1 j] using this) (fun i hi=> ?_) (by simpa using hsz) (by simp at hkl;omega) hrest (hf.put hn v) hS
   by_cases e:k=i
   ·subst e
    rw [Array.getElem?_setIfInBounds_self_of_lt (by rw [hsz];exact hkL)]
    simp
   ·rw [Array.getElem?_setIfInBounds_ne e,hls i hi]
    congr 1
    simp
    omega
theorem UL {id:Nat} {l:List Oper} {env:List (Nat×Value)} (hm:P.follows .mixedOrders=true) (hB:DA l=true) (hQ:∀c a d v w,Q (.panic c) (Act.put a d v) w→Q (.panic c) a w) (h:Lx P l.toArray n w0 Rs (fun a w=>Q .normal a w) l env) :
  At n env w0 Rs (fun a w=> (Code.region id l.toArray true).wp P Q a w) :=fun a w hf hs=>by
 refine QZ (B:=uZ w0 Rs) hs hm J fun _=> ?_
 have:=Iq9 (P:=P) (Sk hB) hQ l 0 (Array.replicate l.toArray.size false) env a w (by simp) (fun i hi=>by simp [hi]) (by simp) (by simp) h hf hs
 simpa using this
theorem Vf {env:List (Nat×Value)} (h:At n env w0 Rs K) :Lx P ops n w0 Rs K [] env:=h
theorem qm {env:List (Nat×Value)} {o:Oper} {l:List Oper} {d:Nat} {v:Value} (hg:o.guard=none) (hd:o.dst=some d) (hn:d<n) (hq:Qt P o n env w0 Rs v) (h:Lx P ops n w0 Rs K l ((d,v) ::env)) :Lx P ops n w0 Rs K (o::l) env:=⟨d,v,hd,hn, .inl ⟨.inl hg,hq⟩,h⟩
theorem JE {env:List (Nat×Value)} {o:Oper} {l:List Oper} {d j dj:Nat} {v:Value} {c:Bool} {oj:Oper} (hg:o.guard=some (j,c)) (hj:ops[j]? =some oj) (hdj:oj.dst=some dj) (hb:look env dj=some (.bool c)) (hd:o.dst=some d) (hn:d<n) (hq:Qt P o n env w0 Rs v) (h:Lx P ops n w0 Rs K l ((d,v) ::env)) :Lx P ops n w0 Rs K (o::l) env:=
 ⟨d,v,hd,hn, .inl ⟨.inr ⟨j,c,oj,dj,hg,hj,hdj,hb⟩,hq⟩,h⟩
theorem jX {env:List (Nat×Value)} {o:Oper} {l:List Oper} {d j dj:Nat} {b c:Bool} {oj:Oper} (hg:o.guard=some (j,c)) (hj:ops[j]? =some oj) (hdj:oj.dst=some dj) (hb:look env dj=some (.bool b)) (hne:b≠c) (hd:o.dst=some d) (hn:d<n) (h:Lx P ops n w0 Rs K l ((d,undef) ::env)) :Lx P ops n w0 Rs K (o::l) env:=
 ⟨d,undef,hd,hn, .inr ⟨⟨j,c,oj,dj,hg,hj,hdj, .inr ⟨b,hb,hne⟩⟩,rfl⟩,h⟩
theorem x9 {env:List (Nat×Value)} {o:Oper} {l:List Oper} {d:Nat} {v:Value} (hq:Qt P o n env w0 Rs v) (h:Lx P ops n w0 Rs K l ((d,v) ::env)) (hg:o.guard=none:=by exact rfl) (hd:o.dst=some d:=by exact rfl) (hn:d<n:=by decide) :Lx P ops n w0 Rs K (o::l) env:=qm hg hd hn hq h
theorem y9 {env:List (Nat×Value)} {o:Oper} {l:List Oper} {d j dj:Nat} {v:Value} {c:Bool} {oj:Oper} (hq:Qt P o n env w0 Rs v) (h:Lx P ops n w0 Rs K l ((d,v) ::env)) (hg:o.guard=some (j,c) :=by exact rfl) (hj:ops[j]? =some oj:=by exact rfl) (hdj:oj.dst=some dj:=by exact rfl) (hb:look env dj=some (.bool c) :=by exact rfl) (hd:o.dst=some d:=by exact rfl) (hn:d<n:=by decide) :Lx P ops n w0 Rs K (o::l) env:=JE hg hj hdj hb hd hn hq h
theorem z9 {env:List (Nat×Value)} {o:Oper} {l:List Oper} {d j dj:Nat} {b c:Bool} {oj:Oper} (h:Lx P ops n w0 Rs K l ((d,undef) ::env)) (hg:o.guard=some (j,c) :=by exact rfl) (hj:ops[j]? =some oj:=by exact rfl) (hdj:oj.dst=some dj:=by exact rfl) (hb:look env dj=some (.bool b) :=by exact rfl) (hne:b≠c:=by decide) (hd:o.dst=some d:=by exact rfl) (hn:d<n:=by decide) :Lx P ops n w0 Rs K (o::l) env:=jX hg hj hdj hb hne hd hn h
theorem qs {env:List (Nat×Value)} {o:Oper} {l:List Oper} {d j dj:Nat} {c:Bool} {oj:Oper} (hg:o.guard=some (j,c)) (hj:ops[j]? =some oj) (hdj:oj.dst=some dj) (hb:look env dj=some undef) (hd:o.dst=some d) (hn:d<n) (h:Lx P ops n w0 Rs K l ((d,undef) ::env)) :Lx P ops n w0 Rs K (o::l) env:=
 ⟨d,undef,hd,hn, .inr ⟨⟨j,c,oj,dj,hg,hj,hdj, .inl hb⟩,rfl⟩,h⟩
theorem Frm.congr {env env':List (Nat×Value)} {a:Act} (h:Frm n env a) (he:∀t,look env' t=look env t) :Frm n env' a:=⟨h.size,fun t v hv=>h.get t v (by rw [←he];exact hv),h.defers⟩
theorem IM:∀(l:List Oper) {env env':List (Nat×Value)} (he:∀t,look env' t=look env t),Lx P ops n w0 Rs K l env'→Lx P ops n w0 Rs K l env
 | [],env,env',he,h=>fun a w hf hs=>h a w (hf.congr he) hs
 | o::l,env,env',he,h=>by
  obtain ⟨d,v,hd,hn,hw,hrest⟩ :=h
  refine⟨d,v,hd,hn,?_,IM l (fun t=> ?_) hrest⟩
  ·rcases hw with⟨hw,hq⟩ |⟨hw,hv⟩
   ·refine .inl ⟨?_,fun a w hf hs=>hq a w (hf.congr he) hs⟩
    rcases hw with hw |⟨j,c,oj,dj,hg,hj,hdj,hb⟩
    ·exact .inl hw
    ·exact .inr ⟨j,c,oj,dj,hg,hj,hdj,by rw [←he];exact hb⟩
   ·refine .inr ⟨?_,hv⟩
    obtain ⟨j,c,oj,dj,hg,hj,hdj,hb |⟨b,hb,hne⟩⟩ :=hw
    ·exact⟨j,c,oj,dj,hg,hj,hdj, .inl (by rw [←he];exact hb)⟩
    ·exact⟨j,c,oj,dj,hg,hj,hdj, .inr ⟨b,by rw [←he];exact hb,hne⟩⟩
  ·simp only [look]
   split
   ·rfl
   ·exact he t
theorem jcD {l:List Oper} {env:List (Nat×Value)} (t:Nat) (v':Value) {v:Value} (hv:look env t=some v) (e:v=v') (h:Lx P ops n w0 Rs K l ((t,v') ::env)) :Lx P ops n w0 Rs K l env:=IM l (fun k=>by
 simp only [look]
 split
 ·rename_i hb
  have:t=k:=jf1 hb
  subst this
  rw [hv,e]
 ·rfl) h
theorem K7 {l:List Oper} {env:List (Nat×Value)} (d:Nat) {t:Bool} (hv:look env d=some (.bool t)) (h1:t=true→Lx P ops n w0 Rs K l ((d, .bool true) ::env)) (h2:t=false→Lx P ops n w0 Rs K l ((d, .bool false) ::env)) :Lx P ops n w0 Rs K l env:=by
 cases t with
 | true=>exact jcD d (.bool true) hv rfl (h1 rfl)
 | false=>exact jcD d (.bool false) hv rfl (h2 rfl)
end
theorem wI (n:Int) (w:World) :Calls Tryz.prog 140 #[.int .i64 n] w fun e w'=>e= .returned (.int .i64 (Wh n))∧Over w w':=by
 refine jU (m:=9) (Tryz.func140) J J (lb J) ?_;refine S12 ?_;refine cZ (fun c1=> ?_) (fun c1=> ?_)
 ·refine S7 ?_;refine jL J (.tmp J) ?_
  intro w' hs
  exact⟨W8 (by have:=W9 n;omega),hs.fin⟩
 ·refine S6 ?_;refine cZ (fun c2=> ?_) (fun c2=> ?_)
  ·refine S7 ?_;refine jL J (.tmp J) ?_
   intro w' hs
   exact⟨W8 (by have:=W9 n;omega),hs.fin⟩
  ·refine S8 ?_;refine jL J (.tmp J) ?_
   intro w' hs
   exact⟨W8 (by have:=W9 n;omega),hs.fin⟩
theorem TB (a b c:Pn) (w:World) (ha:bd2 a) (hb:bd2 b) (hc:bd2 c) :Calls Tryz.prog 168 #[pV a,pV b,pV c] w fun e w'=>e= .returned (.bool (uX a b c))∧Over w w':=by
 obtain ⟨a1,a2⟩ :=vG ha;obtain ⟨b1,b2⟩ :=vG hb;obtain ⟨c1,c2⟩ :=vG hc
 exact Pe a.1 a.2 b.1 b.2 c.1 c.2 w a1 a2 b1 b2 c1 c2
theorem wJ (a b c:Pn) (w:World) (ha:bd2 a) (hb:bd2 b) (hc:bd2 c) :Calls Tryz.prog 141 #[pV a,pV b,pV c] w fun e w'=>e= .returned (.int .i64 (tn a b c))∧Over w w':=by
 obtain ⟨a1,a2⟩ :=vG ha;obtain ⟨b1,b2⟩ :=vG hb;obtain ⟨c1,c2⟩ :=vG hc
 exact Ub a.1 a.2 b.1 b.2 c.1 c.2 w a1.1 a1.2 a2.1 a2.2 b1.1 b1.2 b2.1 b2.2 c1.1 c1.2 c2.1 c2.2
section
variable {w0:Bs} {Rs:List Res}
theorem Mq {b o m j:Nat} {xs:List (Int×Int)} (h:∀w,St w0 Rs w→Pts w (some ⟨b,o,none⟩) m xs) (hj:j<m) :∀w',St w0 Rs w'→∀q v,[Value.int .i64 (px xs j),Value.int .i64 (py xs j)][q]? =some v→w'.cell? ⟨b,o+j*2+q,none⟩ =some v:=fun w' hs q v hv=>by
 obtain ⟨b',o',e,_,h1,h2⟩ := (h w' hs).at_ hj
 injection e with e
 injection e with e1 e2 _
 subst e1 e2
 match q,hv with
 | 0,hv=>simp at hv;subst hv;exact h1
 | 1,hv=>simp at hv;subst hv;exact h2
end
def Dj (a b c d:Pn) (i:Nat) :Pn:= [a,b,c,d].getD i (0,0)
theorem jbs {a b c d:Pn} (ha:bd2 a) (hb:bd2 b) (hc:bd2 c) (hd:bd2 d) {i:Nat} (hi:i<4) :bd2 (Dj a b c d i) :=by
 match i,hi with
 | 0,_=>exact ha
 | 1,_=>exact hb
 | 2,_=>exact hc
 | 3,_=>exact hd
theorem Ih (a b c d:Pn) {i:Nat} (hi:i<4) : [Value.int .i64 a.1, .int .i64 a.2, .int .i64 b.1, .int .i64 b.2, .int .i64 c.1, .int .i64 c.2, .int .i64 d.1, .int .i64 d.2][0+i*2]? =some (.int .i64 (Dj a b c d i).1)∧
  [Value.int .i64 a.1, .int .i64 a.2, .int .i64 b.1, .int .i64 b.2, .int .i64 c.1, .int .i64 c.2, .int .i64 d.1, .int .i64 d.2][0+i*2+1]? =some (.int .i64 (Dj a b c d i).2) :=by
 match i,hi with
 | 0,_=>exact⟨rfl,rfl⟩
 | 1,_=>exact⟨rfl,rfl⟩
 | 2,_=>exact⟨rfl,rfl⟩
 | 3,_=>exact⟨rfl,rfl⟩
def UG (a b c d:Pn) :Nat→List Pn
 | 0=> []
 | i+1=>He a b c d (UG a b c d i) (Dj a b c d i)
theorem NY (a b c d:Pn) :UG a b c d 4=Q0 a b c d:=rfl
theorem OZ (a b c d:Pn) :∀i,(UG a b c d i).length≤i
 | 0=>by simp [UG]
 | i+1=>by
  have:=OZ a b c d i
  simp only [UG,He]
  split
  ·simp;omega
  ·omega
theorem Oc {es:List Pn} {k:Nat} (hk:k<es.length) (p:Pn) : (es.take (k+1)).contains p= ((es.take k).contains p || (px es k==p.1&&py es k==p.2)) :=by
 rw [jeS hk]
 rw [jfo]
 simp only [List.contains_eq_mem,jeY,jeT,decide_eq_true_eq,jfs,jeF,beq_iff_eq]
 rw [Ya hk]
 obtain ⟨x,y⟩ :=p
 simp only [Prod.mk.injEq]
 constructor
 ·rintro(h | h)
  ·exact .inl h
  ·exact .inr ⟨h.1.symm,h.2.symm⟩
 ·rintro(h | h)
  ·exact .inl h
  ·exact .inr ⟨h.1.symm,h.2.symm⟩
theorem LA {a b c d:Pn} {i:Nat} {t:Bool} (h:t= (!((UG a b c d i).contains (Dj a b c d i)) &&KC a b c d (Dj a b c d i))) :UG a b c d (i+1) =if t=true then UG a b c d i++ [Dj a b c d i] else UG a b c d i:=by rw [h];rfl
theorem GA (a b c d:Pn) (w:World) (ha:bd2 a) (hb:bd2 b) (hc:bd2 c) (hd:bd2 d) :Calls Tryz.prog 139 #[pV a,pV b,pV c,pV d] w fun e w'=>∃v,e= .returned v∧w'.ownsRow w.heap.size 54 2 v (Q0 a b c d).length ((Q0 a b c d).flatMap j7)∧Over w w':=by
 refine jU (m:=63) (Tryz.func139) J J (lb J) ?_;refine S3 ?_;refine aX (fun b1=> ?_);refine N1 ?_;refine aX (fun b2=> ?_);refine N1 ?_;refine aX (fun b3=> ?_);refine N1 ?_;refine aX (fun b4=> ?_);refine N5 ?_;refine Jp J J (kt) J (lb J) (fun b5=> ?_);refine vR 4 2 J J ?_;refine N9 ?_;refine Jp J J (Um J J J J) J (lb J) (fun b6=> ?_);refine N8 ?_;refine JI (X:=Nat×Option Addr×Nat) (fun x=>x.1≤4) (fun x=>4- x.1) (fun x=> [(11, .int .i64 (x.1:Int)),(9, .slice x.2.1 (UG a b c d x.1).length x.2.2)]) (kK [4,5,6,7,8,10]) (fun x=> [.cel b1 54 [.int .i64 a.1, .int .i64 a.2], .cel b2 54 [.int .i64 b.1, .int .i64 b.2], .cel b3 54 [.int .i64 c.1, .int .i64 c.2], .cel b4 54 [.int .i64 d.1, .int .i64 d.2],JP (Bs.N ⟨w,[]⟩) 54 2 (UG a b c d x.1).length ((UG a b c d x.1).flatMap j7) x.2, .cel b6 54 [.int .i64 a.1, .int .i64 a.2, .int .i64 b.1, .int .i64 b.2, .int .i64 c.1, .int .i64 c.2, .int .i64 d.1, .int .i64 d.2]]) (0,some ⟨b5,0,none⟩,0) (jeE _) ⟨J,sz⟩ (fun _ h=>h) ?_
 intro⟨i,eA,ec⟩ hx L hL1
 refine v9 ?_;refine ji (by first | (dsimp only;done) | (dsimp only;rfl) | rfl) ?_
 have hi:i≤4:=hx
 have hel:=OZ a b c d i
 obtain ⟨es,hes⟩ :∃es,UG a b c d i=es:=⟨_,rfl⟩
 rw [hes] at hel
 simp only [hes]
 refine S6 ?_;refine cZ (fun c1=> ?_) (fun c1=> ?_)
 ·have hlt:i<4:= (by omega)
  obtain ⟨p,hp⟩ :∃p,Dj a b c d i=p:=⟨_,rfl⟩
  have hpb:bd2 p:=hp▸jbs ha hb hc hd hlt
  obtain ⟨f1,f2⟩ :=Ih a b c d hlt
  rw [hp] at f1 f2
  refine S9 ?_;refine a9 (jj J J jl J (Yg (k:=5) J f1 f2)) ?_;refine S1 ?_;refine aL (fun b7=> ?_);refine N13 ?_;refine qi (X:=Nat) (fun k=>k≤es.length) (fun k=>es.length- k) (fun k=> [(14, .int .i64 (k:Int)),(13, .bool ((es.take k).contains p))]) (kK [4,5,6,7,8,10,11,9,21,22,25,26,27,28,12]) 0 (jeE _) ⟨J,sz⟩ ?_
  intro k hk L hL2
  refine V8 ?_;refine cZ (fun c2=> ?_) (fun c2=> ?_)
  ·have hkt:k<es.length:= (by omega)
   have hcs:=Oc hkt p
   refine QF (fun w hs=>K2 (k:=4) J hs (by omega)) ?_
   rintro⟨eg,rfl⟩
   refine S5 ?_;refine Jw 10 ?_;refine dK 0 ?_;refine dK 1 ?_;refine cV 36 (fun g1=> ?_) (fun g1=> ?_)
   ·refine fK 2 ?_;refine fK 3 ?_;refine fK 4 ?_;refine fK 5 ?_;refine fK 6 ?_;refine fK 7 ?_;refine dK 8 ?_;refine dK 9 ?_;refine Jj (by kernel_rfl) ?_;refine S7 ?_
    exact J8 hL2 (k+1) (by omega) (by omega) ⟨vi (by omega),vb (by rw [hcs,g1];rfl),sz⟩ (u9 J)
   ·refine eK 2 ?_;refine eK 3 ?_;refine eK 4 ?_;refine eZ 5 J (jj J J jl J (Mq (fun w' hs=>vx (hs.all 4 _ J).1 J) hkt)) ?_;refine eK 6 ?_;refine eK 7 ?_;refine dK 8 ?_;refine dK 9 ?_;refine Jj (by kernel_rfl) ?_;refine S7 ?_
    exact J8 hL2 (k+1) (by omega) (by omega) ⟨vi (by omega),vb (by rw [hcs,g1];rfl),sz⟩ (u9 J)
  ·have hke:k=es.length:= (by omega)
   subst hke
   rw [jfr]
   refine S5 ?_;refine qd [(57, .bool (!(es.contains p) &&KC a b c d p))] (kK [4,5,6,7,8,10,11,9,21,22,25,26,27,28,12,14,13,29,30,31,32]) (fun L h_12=> ?_) ?_
   ·refine S4 ?_;refine cV 46 (fun g2=> ?_) (fun g2=> ?_)
    ·refine S7 ?_;refine o9 (jH z6 J J (fun w h=>TB a b p w ha hb hpb)) ?_;refine S2 ?_;refine cV 52 (fun g3=> ?_) (fun g3=> ?_)
     ·refine S7 ?_;refine o9 (jH z6 J J (fun w h=>TB c d p w hc hd hpb)) ?_;refine S2 ?_
      exact Jb h_12 ⟨vb (by rw [KC];simp only [*,Bool.not_true,Bool.not_false,jfe,jfp]),sz⟩ (u9 J)
     ·refine S6 ?_
      exact Jb h_12 ⟨vb (by rw [KC];simp only [*,Bool.not_true,Bool.not_false,jfe,jfp]),sz⟩ (u9 J)
    ·refine S12 ?_
     exact Jb h_12 ⟨vb (by rw [KC];simp only [*,Bool.not_true,Bool.not_false,jfe,jfp]),sz⟩ (u9 J)
   ·refine v9 ?_;refine cZ (fun c3=> ?_) (fun c3=> ?_)
    ·have hst:=LA (a:=a) (b:=b) (c:=c) (d:=d) (i:=i) (t:=true) (by rw [hes,hp,c3])
     rw [if_pos rfl,hes,hp] at hst
     refine S4 ?_;refine Jp J J (qP J) J (lb J) (fun b8=> ?_);refine N1 ?_;refine JL (k:=4) J jt jO (by decide) J (by decide) J J J (fun w' hs=>q6 hs (k:=7) J J) (by simp [Value.oneCell']) (by unfold maxLen;omega) (by omega) (jeD _) (fun r1=> ?_);refine N9 ?_
     exact j8 hL1 ((i+1,r1)) ((show i+1≤4 by omega)) (by simp only;omega) ⟨vi (by omega),by simp only [hst,jeC];rfl,sz⟩ (fun _ h=>h.upto ⟨J,J,J,J,by simp only [hst,jeQ,jeC];rfl,sz⟩)
    ·have hst:=LA (a:=a) (b:=b) (c:=c) (d:=d) (i:=i) (t:=false) (by rw [hes,hp,c3])
     rw [if_neg (by simp),hes] at hst
     refine S8 ?_
     exact j8 hL1 ((i+1,eA,ec)) ((show i+1≤4 by omega)) (by simp only;omega) ⟨vi (by omega),by simp only [hst];rfl,sz⟩ (fun _ h=>h.upto ⟨J,J,J,J,by simp only [hst],sz⟩)
 ·have hie:i=4:= (by omega)
  subst hie
  rw [NY] at hes
  refine S11 ?_;refine jL J (.tmp J) ?_
  intro w' hs
  exact⟨_,rfl,by rw [hes];exact(hs.all 4 _ rfl).1,hs.fin⟩
theorem Pj {a b c d:Pn} : ((Q0 a b c d).length=0→Q1 a b c d=if qM a b c d=true then 2 else 0)∧((Q0 a b c d).length=1→Q1 a b c d=1)∧(¬(Q0 a b c d).length=0→¬(Q0 a b c d).length=1→Q1 a b c d=3) :=by
 unfold Q1
 refine⟨fun h=>by rw [if_pos h],fun h=>by rw [if_neg (by omega),if_pos h],fun h h'=>by rw [if_neg h,if_neg h']⟩
theorem LL (a b c d:Pn) (w:World) (ha:bd2 a) (hb:bd2 b) (hc:bd2 c) (hd:bd2 d) :Calls Tryz.prog 96 #[pV a,pV b,pV c,pV d] w fun e w'=>e= .returned (.int .i64 (Q1 a b c d))∧Over w w':=by
 have m1:=yE (tn a b c) (tn a b d)
 have m2:=yE (tn c d a) (tn c d b)
 have hl:= @Pj a b c d
 refine jU (m:=45) (Tryz.func96) J J (lb J) ?_;refine S3 ?_;refine aX (fun b1=> ?_);refine N1 ?_;refine aX (fun b2=> ?_);refine N1 ?_;refine aX (fun b3=> ?_);refine N1 ?_;refine aX (fun b4=> ?_);refine N10 ?_;refine jP yW (v:=fun x=> .slice x.1 _ x.2) (r:=fun x=>JP 0 54 2 _ _ x) (H:=fun _=>True) J J J (lb J) (fun w1 hs=>qS (GA a b c d w1 ha hb hc hd)) ?_
 rintro⟨eA,ec⟩ -
 refine N8 ?_;refine cZ (fun c1=> ?_) (fun c1=> ?_)
 ·refine S1 ?_;refine qd [(42, .bool (qM a b c d))] (kK [8]) (fun L h_3=> ?_) ?_
  ·refine S1 ?_;refine Jw 26 ?_;refine dK 0 ?_;refine dK 1 ?_;refine dK 2 ?_;refine dZ 3 J (jH Qi J J (fun w h=>wJ _ _ _ w (by assumption) (by assumption) (by assumption))) ?_;refine dZ 4 J (jH KJ J J (fun w h=>wI _ w)) ?_;refine dK 5 ?_;refine dK 6 ?_;refine dK 7 ?_;refine dZ 8 J (jH Qi J J (fun w h=>wJ _ _ _ w (by assumption) (by assumption) (by assumption))) ?_;refine dZ 9 J (jH KJ J J (fun w h=>wI _ w)) ?_;refine dK 10 ?_;refine dK 11 ?_;refine dK 12 ?_;refine cV 29 (fun g1=> ?_) (fun g1=> ?_)
   ·refine eK 13 ?_;refine eK 14 ?_;refine eK 15 ?_;refine eZ 16 J (jH Qi J J (fun w h=>wJ _ _ _ w (by assumption) (by assumption) (by assumption))) ?_;refine eZ 17 J (jH KJ J J (fun w h=>wI _ w)) ?_;refine eK 18 ?_;refine eK 19 ?_;refine eK 20 ?_;refine eZ 21 J (jH Qi J J (fun w h=>wJ _ _ _ w (by assumption) (by assumption) (by assumption))) ?_;refine eZ 22 J (jH KJ J J (fun w h=>wI _ w)) ?_;refine eK 23 ?_;refine eK 24 ?_;refine dK 25 ?_;refine Jj (by kernel_rfl) ?_;refine S1 ?_
    exact Jb h_3 ⟨vb (by simp [qM, *] <;>omega),sz⟩ (u9 J)
   ·refine fK 13 ?_;refine fK 14 ?_;refine fK 15 ?_;refine fK 16 ?_;refine fK 17 ?_;refine fK 18 ?_;refine fK 19 ?_;refine fK 20 ?_;refine fK 21 ?_;refine fK 22 ?_;refine fK 23 ?_;refine fK 24 ?_;refine dK 25 ?_;refine Jj (by kernel_rfl) ?_;refine S1 ?_
    exact Jb h_3 ⟨vb (by simp [qM, *] <;>omega),sz⟩ (u9 J)
  ·refine v9 ?_;refine cZ (fun c2=> ?_) (fun c2=> ?_)
   ·refine S8 ?_;refine jL J (.tmp J) ?_
    intro w' hs
    exact⟨W8 (by rw [hl.1 (by omega),if_pos (by assumption)]),hs.fin⟩
   ·refine S9 ?_;refine jL J (.tmp J) ?_
    intro w' hs
    exact⟨W8 (by rw [hl.1 (by omega),if_neg (by simp [*])]),hs.fin⟩
 ·refine S5 ?_;refine cZ (fun c3=> ?_) (fun c3=> ?_)
  ·refine S7 ?_;refine jL J (.tmp J) ?_
   intro w' hs
   exact⟨W8 (by rw [hl.2.1 (by omega)]),hs.fin⟩
  ·refine S8 ?_;refine jL J (.tmp J) ?_
   intro w' hs
   exact⟨W8 (by rw [hl.2.2 (by omega) (by omega)]),hs.fin⟩
section
variable {w:World} {Rs:List Res}
theorem qb {b o:Nat} {l:Leg} (h:∀q v,(jZ l)[q]? =some v→w.cell? ⟨b,o+q,none⟩ =some v) (hb:b<w.heap.size) :
  (∀w',St ⟨w,[]⟩ Rs w'→w'.cell? ⟨b,o+0+0,none⟩ =some (.int .i64 l.ax))∧(∀w',St ⟨w,[]⟩ Rs w'→w'.cell? ⟨b,o+0+1,none⟩ =some (.int .i64 l.ay))∧
  (∀w',St ⟨w,[]⟩ Rs w'→w'.cell? ⟨b,o+2+0,none⟩ =some (.int .i64 l.bx))∧(∀w',St ⟨w,[]⟩ Rs w'→w'.cell? ⟨b,o+2+1,none⟩ =some (.int .i64 l.b_y)) :=
 ⟨qU (h 0 _ rfl) hb,qU (h 1 _ rfl) hb,qU (h 2 _ rfl) hb,qU (h 3 _ rfl) hb⟩
end
theorem Dt (b1_ o1 b2_ o2:Nat) (e f:Leg) (w:World) (h1:∀q v,(jZ e)[q]? =some v→w.cell? ⟨b1_,o1+q,none⟩ =some v) (h2:∀q v,(jZ f)[q]? =some v→w.cell? ⟨b2_,o2+q,none⟩ =some v) (hb1:b1_<w.heap.size) (hb2:b2_<w.heap.size) :
  Calls Tryz.prog 95 #[.pointer (some ⟨b1_,o1,none⟩), .pointer (some ⟨b2_,o2,none⟩)] w fun r w'=>r= .returned (.bool (WA (lA e) (lB e) (lA f) (lB f)))∧Over w w':=by
 refine jU (m:=103) (Tryz.func95) J J (lb J) ?_;refine S5 ?_;refine UL mixed (by kernel_rfl) (fun _ _ d _ _ h=>by cases d<;>exact h) ?_;refine x9 q9 ?_;refine x9 (Jk J J) ?_;refine x9 (jh J J Jy) ?_;refine x9 (jh J J Jg) ?_;refine x9 (jr rfl rfl jz (by first | exact(qb h1 hb1).1 | exact(qb h1 hb1).2.1 | exact(qb h1 hb1).2.2.1 | exact(qb h1 hb1).2.2.2 | exact(qb h2 hb2).1 | exact(qb h2 hb2).2.1 | exact(qb h2 hb2).2.2.1 | exact(qb h2 hb2).2.2.2)) ?_;refine x9 q9 ?_;refine x9 (Jk J J) ?_;refine x9 (jh J J JB) ?_;refine x9 (jh J J Jg) ?_;refine x9 (jr rfl rfl jz (by first | exact(qb h1 hb1).1 | exact(qb h1 hb1).2.1 | exact(qb h1 hb1).2.2.1 | exact(qb h1 hb1).2.2.2 | exact(qb h2 hb2).1 | exact(qb h2 hb2).2.1 | exact(qb h2 hb2).2.2.1 | exact(qb h2 hb2).2.2.2)) ?_;refine x9 (jH vc J J (fun w h=>Calls.still (Vd _ _ w))) ?_;refine x9 q9 ?_;refine x9 (Jk J J) ?_;refine x9 (jh J J Jy) ?_;refine x9 (jh J J Jg) ?_;refine x9 (jr rfl rfl jz (by first | exact(qb h1 hb1).1 | exact(qb h1 hb1).2.1 | exact(qb h1 hb1).2.2.1 | exact(qb h1 hb1).2.2.2 | exact(qb h2 hb2).1 | exact(qb h2 hb2).2.1 | exact(qb h2 hb2).2.2.1 | exact(qb h2 hb2).2.2.2)) ?_;refine x9 q9 ?_;refine x9 (Jk J J) ?_;refine x9 (jh J J JB) ?_;refine x9 (jh J J Jg) ?_;refine x9 (jr rfl rfl jz (by first | exact(qb h1 hb1).1 | exact(qb h1 hb1).2.1 | exact(qb h1 hb1).2.2.1 | exact(qb h1 hb1).2.2.2 | exact(qb h2 hb2).1 | exact(qb h2 hb2).2.1 | exact(qb h2 hb2).2.2.1 | exact(qb h2 hb2).2.2.2)) ?_;refine x9 (jH vd J J (fun w h=>Calls.still (Ve _ _ w))) ?_;refine x9 (j6 J J J) ?_;refine x9 q9 ?_;refine K7 28 J (fun g1=> ?_) (fun g1=> ?_)
 ·try simp only[zz] at g1
  refine z9 ?_;refine z9 ?_;refine z9 ?_;refine z9 ?_;refine z9 ?_;refine z9 ?_;refine z9 ?_;refine z9 ?_;refine z9 ?_;refine z9 ?_;refine z9 ?_;refine z9 ?_;refine z9 ?_;refine z9 ?_;refine z9 ?_;refine z9 ?_;refine z9 ?_;refine z9 ?_;refine z9 ?_;refine z9 ?_;refine z9 ?_;refine z9 ?_;refine z9 ?_;refine x9 (Jc J J J) ?_;refine x9 q9 ?_;refine z9 ?_;refine z9 ?_;refine z9 ?_;refine z9 ?_;refine z9 ?_;refine z9 ?_;refine z9 ?_;refine z9 ?_;refine z9 ?_;refine z9 ?_;refine z9 ?_;refine z9 ?_;refine z9 ?_;refine z9 ?_;refine z9 ?_;refine z9 ?_;refine z9 ?_;refine z9 ?_;refine z9 ?_;refine z9 ?_;refine z9 ?_;refine z9 ?_;refine z9 ?_;refine x9 (Jc J J J) ?_;refine x9 q9 ?_;refine z9 ?_;refine z9 ?_;refine z9 ?_;refine z9 ?_;refine z9 ?_;refine z9 ?_;refine z9 ?_;refine z9 ?_;refine z9 ?_;refine z9 ?_;refine z9 ?_;refine z9 ?_;refine z9 ?_;refine z9 ?_;refine z9 ?_;refine z9 ?_;refine z9 ?_;refine z9 ?_;refine z9 ?_;refine z9 ?_;refine z9 ?_;refine z9 ?_;refine z9 ?_;refine x9 (Jc J J J) ?_;refine x9 s9 ?_;refine Vf ?_;refine S2 ?_;refine jL J (.tmp J) ?_
  intro w' hs
  exact⟨QJ (by rw [jfo];simp only [WA,jfs,decide_eq_true_eq,true_iff];simp only [lA,lB];omega),hs.fin⟩
 ·try simp only[zz] at g1
  refine y9 q9 ?_;refine y9 (Jk J J) ?_;refine y9 (jh J J Jy) ?_;refine y9 (jh J J Jg) ?_;refine y9 (jr rfl rfl jz (by first | exact(qb h1 hb1).1 | exact(qb h1 hb1).2.1 | exact(qb h1 hb1).2.2.1 | exact(qb h1 hb1).2.2.2 | exact(qb h2 hb2).1 | exact(qb h2 hb2).2.1 | exact(qb h2 hb2).2.2.1 | exact(qb h2 hb2).2.2.2)) ?_;refine y9 q9 ?_;refine y9 (Jk J J) ?_;refine y9 (jh J J JB) ?_;refine y9 (jh J J Jg) ?_;refine y9 (jr rfl rfl jz (by first | exact(qb h1 hb1).1 | exact(qb h1 hb1).2.1 | exact(qb h1 hb1).2.2.1 | exact(qb h1 hb1).2.2.2 | exact(qb h2 hb2).1 | exact(qb h2 hb2).2.1 | exact(qb h2 hb2).2.2.1 | exact(qb h2 hb2).2.2.2)) ?_;refine y9 (jH vc J J (fun w h=>Calls.still (Vd _ _ w))) ?_;refine y9 q9 ?_;refine y9 (Jk J J) ?_;refine y9 (jh J J Jy) ?_;refine y9 (jh J J Jg) ?_;refine y9 (jr rfl rfl jz (by first | exact(qb h1 hb1).1 | exact(qb h1 hb1).2.1 | exact(qb h1 hb1).2.2.1 | exact(qb h1 hb1).2.2.2 | exact(qb h2 hb2).1 | exact(qb h2 hb2).2.1 | exact(qb h2 hb2).2.2.1 | exact(qb h2 hb2).2.2.2)) ?_;refine y9 q9 ?_;refine y9 (Jk J J) ?_;refine y9 (jh J J JB) ?_;refine y9 (jh J J Jg) ?_;refine y9 (jr rfl rfl jz (by first | exact(qb h1 hb1).1 | exact(qb h1 hb1).2.1 | exact(qb h1 hb1).2.2.1 | exact(qb h1 hb1).2.2.2 | exact(qb h2 hb2).1 | exact(qb h2 hb2).2.1 | exact(qb h2 hb2).2.2.1 | exact(qb h2 hb2).2.2.2)) ?_;refine y9 (jH vd J J (fun w h=>Calls.still (Ve _ _ w))) ?_;refine y9 (j6 J J J) ?_;refine x9 (jM J J J) ?_;refine x9 q9 ?_;refine K7 53 J (fun g2=> ?_) (fun g2=> ?_)
  ·try simp only[zz] at g2
   refine z9 ?_;refine z9 ?_;refine z9 ?_;refine z9 ?_;refine z9 ?_;refine z9 ?_;refine z9 ?_;refine z9 ?_;refine z9 ?_;refine z9 ?_;refine z9 ?_;refine z9 ?_;refine z9 ?_;refine z9 ?_;refine z9 ?_;refine z9 ?_;refine z9 ?_;refine z9 ?_;refine z9 ?_;refine z9 ?_;refine z9 ?_;refine z9 ?_;refine z9 ?_;refine x9 (Jc J J J) ?_;refine x9 q9 ?_;refine z9 ?_;refine z9 ?_;refine z9 ?_;refine z9 ?_;refine z9 ?_;refine z9 ?_;refine z9 ?_;refine z9 ?_;refine z9 ?_;refine z9 ?_;refine z9 ?_;refine z9 ?_;refine z9 ?_;refine z9 ?_;refine z9 ?_;refine z9 ?_;refine z9 ?_;refine z9 ?_;refine z9 ?_;refine z9 ?_;refine z9 ?_;refine z9 ?_;refine z9 ?_;refine x9 (Jc J J J) ?_;refine x9 s9 ?_;refine Vf ?_;refine S2 ?_;refine jL J (.tmp J) ?_
   intro w' hs
   exact⟨QJ (by rw [jfo];simp only [WA,jfs,decide_eq_true_eq,true_iff];simp only [lA,lB];omega),hs.fin⟩
  ·try simp only[zz] at g2
   refine y9 q9 ?_;refine y9 (Jk J J) ?_;refine y9 (jh J J Jy) ?_;refine y9 (jh J J jQ) ?_;refine y9 (jr rfl rfl jz (by first | exact(qb h1 hb1).1 | exact(qb h1 hb1).2.1 | exact(qb h1 hb1).2.2.1 | exact(qb h1 hb1).2.2.2 | exact(qb h2 hb2).1 | exact(qb h2 hb2).2.1 | exact(qb h2 hb2).2.2.1 | exact(qb h2 hb2).2.2.2)) ?_;refine y9 q9 ?_;refine y9 (Jk J J) ?_;refine y9 (jh J J JB) ?_;refine y9 (jh J J jQ) ?_;refine y9 (jr rfl rfl jz (by first | exact(qb h1 hb1).1 | exact(qb h1 hb1).2.1 | exact(qb h1 hb1).2.2.1 | exact(qb h1 hb1).2.2.2 | exact(qb h2 hb2).1 | exact(qb h2 hb2).2.1 | exact(qb h2 hb2).2.2.1 | exact(qb h2 hb2).2.2.2)) ?_;refine y9 (jH vc J J (fun w h=>Calls.still (Vd _ _ w))) ?_;refine y9 q9 ?_;refine y9 (Jk J J) ?_;refine y9 (jh J J Jy) ?_;refine y9 (jh J J jQ) ?_;refine y9 (jr rfl rfl jz (by first | exact(qb h1 hb1).1 | exact(qb h1 hb1).2.1 | exact(qb h1 hb1).2.2.1 | exact(qb h1 hb1).2.2.2 | exact(qb h2 hb2).1 | exact(qb h2 hb2).2.1 | exact(qb h2 hb2).2.2.1 | exact(qb h2 hb2).2.2.2)) ?_;refine y9 q9 ?_;refine y9 (Jk J J) ?_;refine y9 (jh J J JB) ?_;refine y9 (jh J J jQ) ?_;refine y9 (jr rfl rfl jz (by first | exact(qb h1 hb1).1 | exact(qb h1 hb1).2.1 | exact(qb h1 hb1).2.2.1 | exact(qb h1 hb1).2.2.2 | exact(qb h2 hb2).1 | exact(qb h2 hb2).2.1 | exact(qb h2 hb2).2.2.1 | exact(qb h2 hb2).2.2.2)) ?_;refine y9 (jH vd J J (fun w h=>Calls.still (Ve _ _ w))) ?_;refine y9 (j6 J J J) ?_;refine x9 (jM J J J) ?_;refine x9 q9 ?_;refine K7 78 J (fun g3=> ?_) (fun g3=> ?_)
   ·try simp only[zz] at g3
    refine z9 ?_;refine z9 ?_;refine z9 ?_;refine z9 ?_;refine z9 ?_;refine z9 ?_;refine z9 ?_;refine z9 ?_;refine z9 ?_;refine z9 ?_;refine z9 ?_;refine z9 ?_;refine z9 ?_;refine z9 ?_;refine z9 ?_;refine z9 ?_;refine z9 ?_;refine z9 ?_;refine z9 ?_;refine z9 ?_;refine z9 ?_;refine z9 ?_;refine z9 ?_;refine x9 (Jc J J J) ?_;refine x9 s9 ?_;refine Vf ?_;refine S2 ?_;refine jL J (.tmp J) ?_
    intro w' hs
    exact⟨QJ (by rw [jfo];simp only [WA,jfs,decide_eq_true_eq,true_iff];simp only [lA,lB];omega),hs.fin⟩
   ·try simp only[zz] at g3
    refine y9 q9 ?_;refine y9 (Jk J J) ?_;refine y9 (jh J J Jy) ?_;refine y9 (jh J J jQ) ?_;refine y9 (jr rfl rfl jz (by first | exact(qb h1 hb1).1 | exact(qb h1 hb1).2.1 | exact(qb h1 hb1).2.2.1 | exact(qb h1 hb1).2.2.2 | exact(qb h2 hb2).1 | exact(qb h2 hb2).2.1 | exact(qb h2 hb2).2.2.1 | exact(qb h2 hb2).2.2.2)) ?_;refine y9 q9 ?_;refine y9 (Jk J J) ?_;refine y9 (jh J J JB) ?_;refine y9 (jh J J jQ) ?_;refine y9 (jr rfl rfl jz (by first | exact(qb h1 hb1).1 | exact(qb h1 hb1).2.1 | exact(qb h1 hb1).2.2.1 | exact(qb h1 hb1).2.2.2 | exact(qb h2 hb2).1 | exact(qb h2 hb2).2.1 | exact(qb h2 hb2).2.2.1 | exact(qb h2 hb2).2.2.2)) ?_;refine y9 (jH vc J J (fun w h=>Calls.still (Vd _ _ w))) ?_;refine y9 q9 ?_;refine y9 (Jk J J) ?_;refine y9 (jh J J Jy) ?_;refine y9 (jh J J jQ) ?_;refine y9 (jr rfl rfl jz (by first | exact(qb h1 hb1).1 | exact(qb h1 hb1).2.1 | exact(qb h1 hb1).2.2.1 | exact(qb h1 hb1).2.2.2 | exact(qb h2 hb2).1 | exact(qb h2 hb2).2.1 | exact(qb h2 hb2).2.2.1 | exact(qb h2 hb2).2.2.2)) ?_;refine y9 q9 ?_;refine y9 (Jk J J) ?_;refine y9 (jh J J JB) ?_;refine y9 (jh J J jQ) ?_;refine y9 (jr rfl rfl jz (by first | exact(qb h1 hb1).1 | exact(qb h1 hb1).2.1 | exact(qb h1 hb1).2.2.1 | exact(qb h1 hb1).2.2.2 | exact(qb h2 hb2).1 | exact(qb h2 hb2).2.1 | exact(qb h2 hb2).2.2.1 | exact(qb h2 hb2).2.2.2)) ?_;refine y9 (jH vd J J (fun w h=>Calls.still (Ve _ _ w))) ?_;refine y9 (j6 J J J) ?_;refine x9 (jM J J J) ?_;refine x9 s9 ?_;refine Vf ?_;refine S2 ?_;refine jL J (.tmp J) ?_
    intro w' hs
    exact⟨QJ (by rw [jfo];simp only [WA,jfs,decide_eq_true_eq,true_iff];simp only [lA,lB];omega),hs.fin⟩
end Go.Proofs.YtkagkgjjfdkoaaaGreat
