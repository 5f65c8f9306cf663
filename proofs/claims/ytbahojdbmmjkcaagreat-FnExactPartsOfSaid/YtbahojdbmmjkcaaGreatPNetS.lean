import Derived.Test.YtbahojdbmmjkcaaGreatPCmp
import Derived.Test.YtbahojdbmmjkcaaGreatPNetQ
set_option linter.unusedVariables false
set_option linter.unusedSimpArgs false
namespace Go.Proofs.YtbahojdbmmjkcaaGreat
open Go Go.RowKit
variable {A:Option Addr} {K:Act→World→Prop} {cs xs:List Value} {e p:Leg} {i j k m n:Nat} {l:List Nt} {r x:Option Addr×Nat} {s:Bool} {v:Int}
set_option maxRecDepth 100000
set_option maxHeartbeats 4000000
theorem Legs.ovx {w w':World} {X:List Nat} {ls:List Leg} (h:Legs w A n ls) (ho:Ovx ⟨w,X⟩ w') (hne:0<n→∀p,A=some p→p.block∉X) :Legs w' A n ls:=by
 refine⟨h.1,fun hn=> ?_⟩
 obtain ⟨b,o,rfl,hlt,hc⟩ :=h.2 hn
 have hs:w.heap.size≤w'.heap.size:=ho.size
 have hb:w'.heap[b]? =w.heap[b]? :=ho.block b hlt (hne hn _ rfl)
 have hcell:∀o',w'.cell? ⟨b,o',none⟩ =w.cell? ⟨b,o',none⟩ :=fun o'=>by simp only [World.cell?,hb]
 exact⟨b,o,rfl,by omega,fun k hk=>by rw [hcell,hcell,hcell,hcell];exact hc k hk⟩
def FC (x:Option Addr×Nat) :List Nat:=match x.1 with
 | some p=> [p.block]
 | none=> []
theorem UL {B T s:Nat} {b:Nat} : (JQ B T s n xs x).F b↔b∈FC x:=by
 show Value.ownBlock (.slice x.1 n x.2) =some b↔_
 unfold FC
 cases hx:x.1 with
 | none=>simp [Value.ownBlock]
 | some p=>
  simp only [Value.ownBlock,jgC]
  constructor
  ·intro h;injection h with h;exact h.symm
  ·intro h;rw [h]
theorem Qc {w w':World} {B T s:Nat} (h: (JQ B T s n xs x).P w) (hO:Over w w') : (JQ B T s n xs x).P w':=
 (JQ B T s n xs x).dep w w' h hO.size fun b hb _=>hO.out.block b hb
abbrev Ib (l:List Nt) (x:Option Addr×Nat) :Res:=JQ 0 262 8 l.length (l.flatMap qi) x
section
variable {P:Program} {n:Nat} {env:List (Nat×Value)} {w0:Bs} {Rs:List Res} {o:Oper} {Q:Exit→Act→World→Prop} {K:Act→World→Prop}
theorem qj {T U:TypeId} {x y:Operand} {B s:Nat} (hr:∀w,St w0 Rs w→(JQ B U s m xs r).P w) (ho:o.op= .indexAddr T x y) (hx:ev env x=some (.slice r.1 m r.2)) (hy:ev env y=some (.int .i64 (j:Int))) (hT:TyL P T U s) (hj:j<m) :
  Qt P o n env w0 Rs (.pointer (some ⟨Vl r.1,0+j*s,none⟩)) :=fun a w hf hs=>by
 have e:=jdO (hr w hs) Om
 rw [e] at hx
 exact jG (j:=j) ho hx hy hT hj a w hf hs
theorem Fq (h:j<l.length) :l[j]? =some (nt l j) :=by rw [List.getElem?_eq_getElem h,YB h]
theorem kd (x:Nt) : (qi x).length=8:=rfl
theorem ZY {off:Nat} {v:Value} (hr:∀w,St w0 Rs w→(JQ 0 262 8 m (l.flatMap qi) r).P w) (hj:j<l.length) (he:off=j*8+i) (hv: (qi (nt l j))[i]? =some v) :∀w,St w0 Rs w→w.cell? ⟨Vl r.1,off,none⟩ =some v:=fun w hs=>by
 refine zf (hr w hs) ?_
 have hi:= (List.getElem?_eq_some_iff.1 hv).1
 rw [kd] at hi
 rw [he,xo qi 8 kd l j i hj hi,YB hj]
 exact hv
theorem Zk {off:Nat} (vs:List Value) (i:Nat) (hr:∀w,St w0 Rs w→(JQ 0 262 8 m (l.flatMap qi) r).P w) (hj:j<l.length) (he:off=j*8+i) (hv:∀q v,vs[q]? =some v→(qi (nt l j))[i+q]? =some v) :∀w,St w0 Rs w→∀q v,vs[q]? =some v→w.cell? ⟨Vl r.1,off+q,none⟩ =some v:=fun w hs q v h=>
 ZY hr hj Om (hv q v h) w hs
end
theorem Z1 {a b:Value} (h0:cs[i]? =some a) (h1:cs[i+1]? =some b) :∀q v,[a,b][q]? =some v→cs[i+q]? =some v:=fun q v h=>by
 match q,h with
 | 0,h=>simp at h;subst h;exact h0
 | 1,h=>simp at h;subst h;exact h1
theorem HZ {a b c d:Value} (h0:cs[i]? =some a) (h1:cs[i+1]? =some b) (h2:cs[i+2]? =some c) (h3:cs[i+3]? =some d) :∀q v,[a,b,c,d][q]? =some v→cs[i+q]? =some v:=fun q v h=>by
 match q,h with
 | 0,h=>simp at h;subst h;exact h0
 | 1,h=>simp at h;subst h;exact h1
 | 2,h=>simp at h;subst h;exact h2
 | 3,h=>simp at h;subst h;exact h3
theorem jev {α:Type} {f:α→Int} (h:∀x,0≤f x) :∀ {l:List α} {x:α},x∈l→f x≤sm f l
 | y::l,x,hx=>by
  have h1:=h y
  have h2:=jb2 h l
  simp only [sm]
  rcases jgK.1 hx with rfl | hx
  ·omega
  ·have:=jev h hx;omega
theorem Zw (h:k<l.length) : -aS s l≤vU s (nt l k)∧vU s (nt l k)≤aS s l:=by
 have h1:=jev (f:=fun x=>zS (vU s x)) (fun x=>DT _) (XY h)
 have h2:=Ns (vU s (nt l k))
 unfold aS
 omega
theorem Im {es:List Leg} (h:i<es.length) :q8 s (es.take (i+1)) l=wG s (lg es i) (q8 s (es.take i) l) :=by
 rw [jgE h,VG h]
 simp [q8]
theorem Wq {s:Bool} :∀(es:List Leg) (l:List Nt),(q8 s es l).length≤l.length+es.length
 | [],l=>jgx _
 | e::es,l=>by
  have h1:=Wq (s:=s) es (wG s e l)
  have h2:=Ip (s:=s) (e:=e) l
  have e1:q8 s (e::es) l=q8 s es (wG s e l) :=rfl
  rw [e1,jgD]
  omega
theorem jff (hk:k≤l.length) :nt (XS l k p) k=Y1 p∧(XS l k p).length=l.length+1:=by
 unfold XS
 refine⟨?_,by simp;omega⟩
 rw [nt,List.getD_eq_getElem?_getD,List.getElem?_append_right (by simp;omega)]
 simp [jgJ,jhu hk]
theorem Cj (hk:k≤l.length) : (XS l k p).flatMap qi= (l.flatMap qi).take (k*8) ++qi (Y1 p) ++ (l.flatMap qi).drop (k*8) :=by
 have e1: (l.flatMap qi).take (k*8) = (l.take k).flatMap qi:=by
  conv=>lhs;rw [←jgI k l,jgG]
  rw [List.take_left' (by rw [VO qi 8 kd,jgJ,jhu hk])]
 have e2: (l.flatMap qi).drop (k*8) = (l.drop k).flatMap qi:=by
  conv=>lhs;rw [←jgI k l,jgG]
  rw [List.drop_left' (by rw [VO qi 8 kd,jgJ,jhu hk])]
 rw [e1,e2,XS,jgG,jgU,jgB]
theorem jbj (l:List Nt) :∀u∈l.flatMap qi,u.oneCell'=true:=fun u hu=>by
 obtain ⟨x,_,hx⟩ :=jh3.1 hu
 simp only [qi,jU,jg0,jhb,jgK,jhz,or_false] at hx
 rcases hx with rfl | rfl | rfl | rfl | rfl | rfl | rfl | rfl<;>rfl
theorem EQ (h:k<l.length) (hv:v= (nt l k).two+sg e) :qB (l.flatMap qi) (0+k*8+5) [.int .i64 v] = (l.set k (VM true (sg e) (nt l k))).flatMap qi:=
 WW qi kd (Fq h) (jU (nt l k).e++ [.int .i64 (nt l k).one]) [.int .i64 (nt l k).two] [.int .i64 v] [.int .i64 (nt l k).l1, .int .i64 (nt l k).l2] (by simp [qi]) (by subst hv;simp [qi,VM]) rfl (by simp [jU])
theorem EP (h:k<l.length) (hv:v= (nt l k).one+sg e) :qB (l.flatMap qi) (0+k*8+4) [.int .i64 v] = (l.set k (VM false (sg e) (nt l k))).flatMap qi:=
 WW qi kd (Fq h) (jU (nt l k).e) [.int .i64 (nt l k).one] [.int .i64 v] [.int .i64 (nt l k).two, .int .i64 (nt l k).l1, .int .i64 (nt l k).l2] (by simp [qi]) (by subst hv;simp [qi,VM]) rfl (by simp [jU])
theorem Xi {x:Nt} : (l.set k x).length=l.length:=jhy
theorem jcC {env:List (Nat×Value)} {w0:Bs} {Rs:List Res} (k s:Nat) {b U:Nat} (hk:Rs[k]? =some (.cel b U [])) (h:At n env w0 (Rs.set k (.row 0 U s (.slice (some ⟨b,0,none⟩) 0 0) 0 [])) K) :At n env w0 Rs K:=fun a w hf hs=>by
 refine h a w hf (hs.chg hk (fun hP=> ?_) (fun c hc=> ?_) J)
 ·exact⟨by simp, .inr ⟨b,0,#[],rfl,jgw _,hP,jgx _,by unfold maxLen;omega,by simp,by simp⟩⟩
 ·have:some b=some c:=hc
  injection this with this
  exact this.symm
theorem jde {p:Nat→Prop} (h:∀j,j<k→p j) (hk:p k) :∀j,j<k+1→p j:=fun j hj=>by
 rcases jhK (Nat.le_of_lt_succ hj) with h1 | rfl
 ·exact h j h1
 ·exact hk
theorem je4 (hk:k<m) (h2:¬wc (lA e) (lA p)) (h3: (e.ax==p.ax&&e.ay==p.ay) =true) :decide (wc (lB e) (lB p)) =decide (k<m∧Zj e p) :=by
 simp only [jgy,beq_iff_eq] at h3
 refine decide_eq_decide.2 ⟨fun h=>⟨hk, .inr ⟨Prod.ext h3.1 h3.2,h⟩⟩,fun h=> ?_⟩
 rcases h.2 with h | h
 ·exact absurd h h2
 ·exact h.2
theorem je5 (h2:¬wc (lA e) (lA p)) (h3: (e.ax==p.ax&&e.ay==p.ay) =false) :false=decide (k<m∧Zj e p) :=by
 refine(decide_eq_false fun h=> ?_).symm
 rcases h.2 with h | h
 ·exact h2 h
 ·rw [show e.ax=p.ax from congrArg Prod.fst h.1,show e.ay=p.ay from congrArg Prod.snd h.1] at h3
  simp at h3
theorem L8 (A:Option Addr) (n c:Nat) (es:List Leg) (s:Bool) (l:List Nt) (x:Option Addr×Nat) (w:World) (h:Legs w A n es) (hok:∀l∈es,qr l) (hn:n≤4096) (hl:l.length≤4096) (ha:∀t,aS t l≤4096) (hr: (Ib l x).P w) (hne:0<n→∀p,A=some p→p.block∉FC x) :
  Calls Tryz.prog 186 #[.slice x.1 l.length x.2, .slice A n c, .bool s] w fun e w'=>∃y:Option Addr×Nat,e= .returned (.slice y.1 (q8 s es l).length y.2)∧Wrs (Ib l x).F w w'∧(Ib (q8 s es l) y).P w'∧(∀b,(Ib (q8 s es l) y).F b→(Ib l x).F b∨w.heap.size≤b)∧(Ib (q8 s es l) y).B=0:=by
 have hln:=h.1
 refine WO (m:=119) (FC x) (Ib l x) (hr) (fun b hb=>UL.1 hb) J (Tryz.func186) J J (lb J) ?_;refine S10 ?_;refine JN (X:=Nat×Option Addr×Nat) (fun y=>y.1≤n) (fun y=>n- y.1) (fun y=> [(0, .slice y.2.1 (q8 s (es.take y.1) l).length y.2.2),(7, .int .i64 (y.1:Int))]) (kK [1,2,6]) (fun y=> [Ib (q8 s (es.take y.1) l) y.2]) (0,x) (jgw _) ⟨J,sz⟩ (fun _ h=>h) ?_
 intro⟨i,rA,rc⟩ hi L hL1
 refine v9 ?_;refine r9 ?_
 have hi:i≤n:=hi
 obtain ⟨M,hM⟩ :∃M,M=q8 s (es.take i) l:=⟨_,rfl⟩
 have hMl:M.length≤8192:= (by have:=Wq (s:=s) (es.take i) l;rw [jgJ] at this;rw [hM];omega)
 have hMa:∀t,aS t M≤8192:= (fun t=>by have h1:=Yy (s:=s) (t:=t) (es.take i) l;have h2:=ha t;rw [jgJ] at h1;rw [hM];split at h1<;>omega)
 rw [←hM]
 refine S8 ?_;refine cZ (fun c1=> ?_) (fun c1=> ?_)
 ·have hlt:i<n:=Om
  obtain ⟨eb,eo,rfl,_⟩ :=h.2 Om
  obtain ⟨E,hE⟩ :∃E,E=lg es i:=⟨_,rfl⟩
  have hEo:qr E:=hE▸QK hok (show i<es.length by omega)
  have hnext:q8 s (es.take (i+1)) l=wG s E M:= (by rw [Im Om,hM,hE])
  refine S9 ?_;refine a9 (jk J J Kp J (uV (fun w' hs=>h.ovx hs.over hne) hlt)) ?_;refine S1 ?_;refine aL (fun b1=> ?_);refine N3 ?_
  rw [←hE]
  refine S4 ?_;refine Wu [(9, .int .i64 (sg E))] ([Ib M (rA,rc), .cel b1 147 (jU (Ky E))]) (kK [1,2,6,0,7,12,13,14,15,18,19,20,21,8]) (fun L h_t26=> ?_) ?_
  ·refine S6 ?_;refine a9 (jJ kO J J (fun w1 hs=>wv (lB E) (lA E) w1)) ?_;refine S1 ?_;refine cZ (fun c2=> ?_) (fun c2=> ?_)
   ·refine S6 ?_;refine a9 (J0 J J (vS J J)) ?_;refine S6 ?_
    exact Jr h_t26 ⟨vi (by rw [sg,if_pos c2]),sz⟩ (fun _ h=>h.upto ⟨J,by rw [Ky,if_pos c2];rfl,trivial⟩)
   ·refine S2 ?_
    exact Jr h_t26 ⟨vi (by rw [sg,if_neg c2]),sz⟩ (fun _ h=>h.upto ⟨J,by rw [Ky,if_neg c2];rfl,trivial⟩)
  ·refine v9 ?_
   obtain ⟨p,hp⟩ :∃p,p=Ky E:=⟨_,rfl⟩
   rw [←hp]
   refine S6 ?_;refine J9 (X:=Nat) (fun k=>k≤M.length∧∀j,j<k→Zj (nt M j).e p) (fun k=>M.length- k) (fun k=> [(10, .int .i64 (k:Int))]) (kK [1,2,6,0,7,12,13,14,15,18,19,20,21,8,9]) 0 (⟨jgw _,fun j hj=>absurd hj Om⟩) ⟨J,sz⟩ ?_
   intro k hk L hL2
   refine v9 ?_
   obtain ⟨hkl,hkq⟩ :=hk
   refine S1 ?_;refine qn [(68, .bool (decide (k<M.length∧Zj (nt M k).e p)))] (kK [1,2,6,0,7,12,13,14,15,18,19,20,21,8,9,10]) (fun L h_10=> ?_) ?_
   ·refine xF mixed Kr (fun _ _ d _ _ h=>by cases d<;>exact h) ?_;refine x9 q9 ?_;refine x9 q9 ?_;refine x9 (JH J J JJ) ?_;refine x9 (Jj J J J) ?_;refine x9 q9 ?_;refine K2 36 J (fun g1=> ?_) (fun g1=> ?_)
    ·try simp only[zz] at g1
     have hk':k<M.length:=Om
     refine y9 q9 ?_;refine y9 q9 ?_;refine y9 (qj (j:=k) (fun w hs=> (hs.all 0 _ J).1) J J J JJ hk') ?_;refine y9 (jg J J Qd) ?_;refine y9 (jg J J JA) ?_;refine y9 (jk J J jj J (Zk [.int .i64 (nt M k).e.ax, .int .i64 (nt M k).e.ay] 0 (fun w hs=> (hs.all 0 _ J).1) hk' Om (Z1 J J))) ?_;refine y9 (jg J J JA) ?_;refine y9 (jk J J jj J (yo (k:=1) J J J)) ?_;refine y9 (jJ kO J J (fun w1 hs=>wv (lA (nt M k).e) (lA p) w1)) ?_;refine y9 q9 ?_;refine K2 46 J (fun g2=> ?_) (fun g2=> ?_)
     ·try simp only[zz] at g2
      (iterate 10 refine z9 ?_);(iterate 9 refine qv J J J J J Dc ?_);refine z9 ?_;refine y9 (Jk J J J) ?_;refine x9 (Jk J J J) ?_;refine wd ?_;refine S1 ?_
      exact Jr h_10 ⟨vb (decide_eq_true ⟨hk', .inl g2⟩).symm,sz⟩ (u9 J)
     ·try simp only[zz] at g2
      refine y9 q9 ?_;refine y9 q9 ?_;refine y9 (qj (j:=k) (fun w hs=> (hs.all 0 _ J).1) J J J JJ hk') ?_;refine y9 (jg J J Qd) ?_;refine y9 (jg J J JA) ?_;refine y9 (jk J J jj J (Zk [.int .i64 (nt M k).e.ax, .int .i64 (nt M k).e.ay] 0 (fun w hs=> (hs.all 0 _ J).1) hk' Om (Z1 J J))) ?_;refine y9 (jg J J JA) ?_;refine y9 (jk J J jj J (yo (k:=1) J J J)) ?_;refine y9 (vC J J J) ?_;refine y9 q9 ?_;refine K2 56 J (fun g3=> ?_) (fun g3=> ?_)
      ·try simp only[zz] at g3
       refine y9 q9 ?_;refine y9 q9 ?_;refine y9 (qj (j:=k) (fun w hs=> (hs.all 0 _ J).1) J J J JJ hk') ?_;refine y9 (jg J J Qd) ?_;refine y9 (jg J J JC) ?_;refine y9 (jk J J jj J (Zk [.int .i64 (nt M k).e.bx, .int .i64 (nt M k).e.b_y] 2 (fun w hs=> (hs.all 0 _ J).1) hk' Om (Z1 J J))) ?_;refine y9 (jg J J JC) ?_;refine y9 (jk J J jj J (yo (k:=1) J J J)) ?_;refine y9 (jJ kO J J (fun w1 hs=>wv (lB (nt M k).e) (lB p) w1)) ?_;refine y9 (Jk J J J) ?_;refine y9 (jN J J J) ?_;refine x9 (Jk J J J) ?_;refine wd ?_;refine S1 ?_
       exact Jr h_10 ⟨vb (je4 hk' g2 g3),sz⟩ (u9 J)
      ·try simp only[zz] at g3
       (iterate 9 refine z9 ?_);refine y9 (jN J J J) ?_;refine y9 (jN J J J) ?_;refine x9 (Jk J J J) ?_;refine wd ?_;refine S1 ?_
       exact Jr h_10 ⟨vb (je5 g2 g3),sz⟩ (u9 J)
    ·try simp only[zz] at g1
     (iterate 10 refine z9 ?_);(iterate 20 refine qv J J J J J Dc ?_);refine z9 ?_;refine x9 (jN J J J) ?_;refine wd ?_;refine S1 ?_
     exact Jr h_10 ⟨vb (decide_eq_false fun h=>by omega).symm,sz⟩ (u9 J)
   ·refine v9 ?_;refine cZ (fun c3=> ?_) (fun c3=> ?_)
    ·refine S10 ?_
     exact JY hL2 (k+1) (⟨by omega,jde hkq c3.2⟩) Om ⟨vi Om,sz⟩ (u9 J)
    ·refine S5 ?_;refine Ug (X:=List Nt×Option Addr×Nat) (fun z=>k<z.1.length∧q8 s (es.take (i+1)) l=z.1.set k (VM s (sg E) (nt z.1 k))∧z.1.length≤8193∧∀t,-8192≤vU t (nt z.1 k)∧vU t (nt z.1 k)≤8192) (fun z=> [(0, .slice z.2.1 z.1.length z.2.2)]) (kK [1,2,6,7,12,13,14,15,18,19,20,21,8,9,10,68]) (fun z=> [Ib z.1 z.2, .cel b1 147 (jU p)]) (fun L h_t83=> ?_) ?_
     ·refine qn [(83, .bool (!decide (k<M.length∧(nt M k).e=p)))] (kK [1,2,6,0,7,12,13,14,15,18,19,20,21,8,9,10,68]) (fun L h_12=> ?_) ?_
      ·refine xF mixed Kr (fun _ _ d _ _ h=>by cases d<;>exact h) ?_;refine x9 q9 ?_;refine x9 q9 ?_;refine x9 (JH J J JJ) ?_;refine x9 (qL J J J) ?_;refine x9 q9 ?_;refine K2 75 J (fun g4=> ?_) (fun g4=> ?_)
       ·try simp only[zz] at g4
        (iterate 7 refine z9 ?_);refine x9 (Jk J J J) ?_;refine wd ?_;refine S1 ?_
        exact Jr h_12 ⟨vb (by rw [decide_eq_false (fun h=>by omega)];rfl),sz⟩ (u9 J)
       ·try simp only[zz] at g4
        refine y9 q9 ?_;refine y9 q9 ?_;refine y9 (qj (j:=k) (fun w hs=> (hs.all 0 _ J).1) J J J JJ Om) ?_;refine y9 (jg J J Qd) ?_;refine y9 (jk J J Kp J (Zk [.int .i64 (nt M k).e.ax, .int .i64 (nt M k).e.ay, .int .i64 (nt M k).e.bx, .int .i64 (nt M k).e.b_y] 0 (fun w hs=> (hs.all 0 _ J).1) (show k<M.length by omega) Om (HZ J J J J))) ?_;refine y9 (jk J J Kp J (jX (k:=1) J)) ?_;refine y9 (zb J J J) ?_;refine x9 (jN J J J) ?_;refine wd ?_;refine S1 ?_
        exact Jr h_12 ⟨vb (by rw [IY (e:= (nt M k).e) (f:=p)];have:k<M.length:=Om;simp [this]),sz⟩ (u9 J)
      ·refine v9 ?_;refine cZ (fun c4=> ?_) (fun c4=> ?_)
       ·have hstop:k<M.length→¬Zj (nt M k).e (Ky E)∧(nt M k).e≠Ky E:= (fun h=>⟨fun h2=>c3 ⟨h,hp▸h2⟩,fun h2=>c4 ⟨h,hp▸h2⟩⟩)
        have hnew:q8 s (es.take (i+1)) l= (XS M k p).set k (VM s (sg E) (nt (XS M k p) k)) := (by rw [hnext,Iq hkl (fun j hj=>hp▸hkq j hj) hstop,hp])
        obtain ⟨hnk,hnl⟩ :=jff (p:=p) hkl
        have hsg:=R8 E
        have hkI:k< (XS M k p).length:=Om
        refine Q1 (fun w hs=>W8 (hs.all 0 _ J).1) ?_
        intro hcap
        refine S3 ?_;refine Jw J J (YI) J (lb J) (fun b2=> ?_);refine n9 ?_;refine jcC 2 8 J ?_;refine t9 ?_;refine S2 ?_;refine a9 (kS J J J JJ Om) ?_;refine S1 ?_;refine JV (k:=2) J JJ uc Dc J Dc J J J (fun w' hs=>Eb (hs.all 0 _ J).1 hkl) ((fun u hu=>jbj M u (jg7 hu))) (by unfold maxLen;omega) Om (jgw _) (fun r1=> ?_);refine N6 ?_;refine a9 (J0 J J (xe J)) ?_;refine S1 ?_;refine Jw J J (yx J) J (lb J) (fun b3=> ?_);refine N1 ?_;refine JV (k:=2) J JJ uc Dc J Dc J J J (fun w' hs=>qR hs (k:=3) J J) (by simp [Value.oneCell']) (by unfold maxLen;omega) Om (jgw _) (fun r2=> ?_);refine N6 ?_;refine a9 (vG J J J JJ hkl) ?_;refine S1 ?_;refine JV (k:=2) J JJ uc Dc J Dc J J J (fun w' hs=>Ea (hs.all 0 _ J).1 hkl) ((fun u hu=>jbj M u (jhh hu))) (by unfold maxLen;omega) Om (jgw _) (fun r3=> ?_);refine N2 ?_
        rw [show 0+k+1+ (M.length- k) = (XS M k p).length by omega]
        rw [show List.take (k*8) (List.flatMap qi M) ++ [Value.int IntKind.i64 p.ax,Value.int IntKind.i64 p.ay,Value.int IntKind.i64 p.bx,Value.int IntKind.i64 p.b_y,Value.int IntKind.i64 0,Value.int IntKind.i64 0,Value.int IntKind.i64 0,Value.int IntKind.i64 0] ++List.drop (k*8) (List.flatMap qi M) = (XS M k p).flatMap qi from(Cj hkl).symm]
        exact ky h_t83 ((XS M k p,r3)) (⟨hkI,hnew,by simp only;omega,fun t=>by rw [hnk];cases t<;> (show-8192≤(0:Int)∧(0:Int)≤8192;omega)⟩) ⟨rfl,sz⟩ (fun _ h=> (h.picks [2,1] Dc).upto ⟨rfl,sz⟩)
       ·have hst:k<M.length∧(nt M k).e=p:=c4
        have hold:q8 s (es.take (i+1)) l=M.set k (VM s (sg E) (nt M k)) := (by rw [hnext,Ir hst.1 (fun j hj=>hp▸hkq j hj) (hp▸hst.2)])
        refine S2 ?_
        exact ky h_t83 ((M,rA,rc)) (⟨hst.1,hold,by simp only;omega,fun t=>by have h1:=Zw (s:=t) hst.1;have h2:=hMa t;simp only;omega⟩) ⟨J,sz⟩ (fun _ h=>h.picks [0,1] Dc)
     ·rintro⟨I,qA,qc⟩ ⟨hIk,hIn,hIl,hIa⟩
      refine v9 ?_;refine r9 ?_
      have hIk:k<I.length:=hIk
      have hIl:I.length≤8193:=hIl
      have hIn:q8 s (es.take (i+1)) l=I.set k (VM s (sg E) (nt I k)) :=hIn
      have hsg:=R8 E
      have hI1:=hIa true
      have hI2:=hIa false
      simp only [vU,if_true,jhr,if_false] at hI1 hI2
      refine S4 ?_;refine cZ (fun c5=> ?_) (fun c5=> ?_)
      ·refine S3 ?_;refine a9 (qj (j:=k) (fun w hs=> (hs.all 0 _ J).1) J J J JJ hIk) ?_;refine S1 ?_;refine a9 (jl J J jt (ZY (i:=5) (fun w hs=> (hs.all 0 _ J).1) hIk Om J)) ?_;refine S2 ?_;refine a9 (qj (j:=k) (fun w hs=> (hs.all 0 _ J).1) J J J JJ hIk) ?_;refine S2 ?_;refine WE (k:=0) (vs:= [.int .i64 ((nt I k).two+sg E)]) J J J J (by rfl) (by rfl) QI.szx J J (by simp) (by rw [VO qi 8 kd];simp only [jgD,jgY];omega) ?_;refine n9 ?_
       rw [EQ hIk rfl]
       refine S8 ?_
       exact j4 hL1 ((i+1,qA,qc)) ((show i+1≤n by omega)) (by simp only;omega) ⟨(by rw [hIn,Xi];rfl),vi Om,sz⟩ (fun _ h=>h.upto ⟨by rw [hIn,c5,Ib,Xi],trivial⟩)
      ·refine S3 ?_;refine a9 (qj (j:=k) (fun w hs=> (hs.all 0 _ J).1) J J J JJ hIk) ?_;refine S1 ?_;refine a9 (jl J J jt (ZY (i:=4) (fun w hs=> (hs.all 0 _ J).1) hIk Om J)) ?_;refine S2 ?_;refine a9 (qj (j:=k) (fun w hs=> (hs.all 0 _ J).1) J J J JJ hIk) ?_;refine S2 ?_;refine WE (k:=0) (vs:= [.int .i64 ((nt I k).one+sg E)]) J J J J (by rfl) (by rfl) QI.szx J J (by simp) (by rw [VO qi 8 kd];simp only [jgD,jgY];omega) ?_;refine n9 ?_
       rw [EP hIk rfl]
       refine S8 ?_
       exact j4 hL1 ((i+1,qA,qc)) ((show i+1≤n by omega)) (by simp only;omega) ⟨(by rw [hIn,Xi];rfl),vi Om,sz⟩ (fun _ h=>h.upto ⟨by rw [hIn,c5,Ib,Xi],trivial⟩)
 ·have hin:i=n:=Om
  have hMe:M=q8 s es l:= (by rw [hM,hin,←hln,jhf])
  refine S11 ?_;refine jL J (.tmp J) ?_
  intro w' hs
  exact⟨(rA,rc),by rw [hMe],hs.over.wrs.mono fun b hb=>UL.2 hb,by have:= (hs.all 0 _ rfl).1;rw [hMe] at this;exact this,fun b hb=>by have:= (hs.all 0 _ rfl).2.1 b (by rw [hMe];exact hb);exact this.elim .inr (fun h=> .inl (UL.2 h)),rfl⟩
end Go.Proofs.YtbahojdbmmjkcaaGreat
