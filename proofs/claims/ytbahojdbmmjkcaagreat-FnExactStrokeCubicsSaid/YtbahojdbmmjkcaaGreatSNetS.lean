import Derived.Test.YtbahojdbmmjkcaaGreatSCmp
import Derived.Test.YtbahojdbmmjkcaaGreatSLegSort
import Derived.Test.YtbahojdbmmjkcaaGreatSStabP
import Derived.Test.YtbahojdbmmjkcaaGreatSHot
set_option linter.unusedVariables false
set_option linter.unusedSimpArgs false
namespace Go.Proofs.YtbahojdbmmjkcaaGreat
open Go Go.RowKit
variable {A:Option Addr} {K:Act→World→Prop} {a b xs ys:List Pn} {cs:List Value} {e:Leg} {i j k m n:Nat} {l:List Nt} {p q:Pn} {r x:Option Addr×Nat} {s:Bool} {v:Int} {w:World} {α:Type}
set_option maxRecDepth 100000
set_option maxHeartbeats 4000000
theorem Legs.ovx {w':World} {X:List Nat} {ls:List Leg} (h:Legs w A n ls) (ho:Ovx ⟨w,X⟩ w') (hne:0<n→∀p,A=some p→p.block∉X) :Legs w' A n ls:=by
 refine⟨h.1,fun hn=> ?_⟩
 obtain ⟨b,o,rfl,hlt,hc⟩ :=h.2 hn
 have hs:w.heap.size≤w'.heap.size:=ho.size
 have hb:w'.heap[b]? =w.heap[b]? :=ho.block b hlt (hne hn _ rfl)
 have hcell:∀o',w'.cell? ⟨b,o',none⟩ =w.cell? ⟨b,o',none⟩ :=fun o'=>by simp only [World.cell?,hb]
 exact⟨b,o,rfl,by omega,fun k hk=>by rw [hcell,hcell,hcell,hcell];exact hc k hk⟩
def jaK (x:Option Addr×Nat) :List Nat:=match x.1 with
 | some p=> [p.block]
 | none=> []
theorem G4 {B T s:Nat} {xs:List Value} {b:Nat} : (JS B T s n xs x).F b↔b∈jaK x:=by
 show Value.ownBlock (.slice x.1 n x.2) =some b↔_
 unfold jaK
 cases hx:x.1 with
 | none=>simp [Value.ownBlock]
 | some p=>
  simp only [Value.ownBlock,jin]
  constructor
  ·intro h;injection h with h;exact h.symm
  ·intro h;rw [h]
theorem Qn {w':World} {B T s:Nat} {xs:List Value} (h: (JS B T s n xs x).P w) (hO:Over w w') : (JS B T s n xs x).P w':=
 (JS B T s n xs x).dep w w' h hO.size fun b hb _=>hO.out.block b hb
abbrev Rx (l:List Nt) (x:Option Addr×Nat) :Res:=JS 0 262 8 l.length (l.flatMap qm) x
section
variable {P:Program} {n:Nat} {env:List (Nat×Value)} {w0:Bs} {Rs:List Res} {o:Oper} {Q:Exit→Act→World→Prop} {K:Act→World→Prop}
theorem qM {T U:TypeId} {x y:Operand} {B s:Nat} {xs:List Value} (hr:∀w,St w0 Rs w→(JS B U s m xs r).P w) (ho:o.op= .indexAddr T x y) (hx:ev env x=some (.slice r.1 m r.2)) (hy:ev env y=some (.int .i64 (j:Int))) (hT:TyL P T U s) (hj:j<m) :
  Qt P o n env w0 Rs (.pointer (some ⟨VW r.1,0+j*s,none⟩)) :=fun a w hf hs=>by
 have e:=C2 (hr w hs) Om
 rw [e] at hx
 exact jH (j:=j) ho hx hy hT hj a w hf hs
theorem Iq9 (h:j<l.length) :l[j]? =some (nt l j) :=by rw [List.getElem?_eq_getElem h,YV h]
theorem kM (x:Nt) : (qm x).length=8:=rfl
theorem xz {off:Nat} {v:Value} (hr:∀w,St w0 Rs w→(JS 0 262 8 m (l.flatMap qm) r).P w) (hj:j<l.length) (he:off=j*8+i) (hv: (qm (nt l j))[i]? =some v) :∀w,St w0 Rs w→w.cell? ⟨VW r.1,off,none⟩ =some v:=fun w hs=>by
 refine zW (hr w hs) ?_
 have hi:= (List.getElem?_eq_some_iff.1 hv).1
 rw [kM] at hi
 rw [he,y3 qm 8 kM l j i hj hi,YV hj]
 exact hv
theorem ZX {off:Nat} (vs:List Value) (i:Nat) (hr:∀w,St w0 Rs w→(JS 0 262 8 m (l.flatMap qm) r).P w) (hj:j<l.length) (he:off=j*8+i) (hv:∀q v,vs[q]? =some v→(qm (nt l j))[i+q]? =some v) :∀w,St w0 Rs w→∀q v,vs[q]? =some v→w.cell? ⟨VW r.1,off+q,none⟩ =some v:=fun w hs q v h=>
 xz hr hj Om (hv q v h) w hs
end
theorem xF {a b:Value} (h0:cs[i]? =some a) (h1:cs[i+1]? =some b) :∀q v,[a,b][q]? =some v→cs[i+q]? =some v:=fun q v h=>by
 match q,h with
 | 0,h=>simp at h;subst h;exact h0
 | 1,h=>simp at h;subst h;exact h1
theorem LV {a b c d:Value} (h0:cs[i]? =some a) (h1:cs[i+1]? =some b) (h2:cs[i+2]? =some c) (h3:cs[i+3]? =some d) :∀q v,[a,b,c,d][q]? =some v→cs[i+q]? =some v:=fun q v h=>by
 match q,h with
 | 0,h=>simp at h;subst h;exact h0
 | 1,h=>simp at h;subst h;exact h1
 | 2,h=>simp at h;subst h;exact h2
 | 3,h=>simp at h;subst h;exact h3
theorem jfY {α:Type} {f:α→Int} (h:∀x,0≤f x) :∀ {l:List α} {x:α},x∈l→f x≤sm f l
 | y::l,x,hx=>by
  have h1:=h y
  have h2:=jdC h l
  simp only [sm]
  rcases jis.1 hx with rfl | hx
  ·omega
  ·have:=jfY h hx;omega
theorem Z8 (h:k<l.length) : -aS s l≤Vm s (nt l k)∧Vm s (nt l k)≤aS s l:=by
 have h1:=jfY (f:=fun x=>ZD (Vm s x)) (fun x=>Ie _) (GF h)
 have h2:=Cm (Vm s (nt l k))
 unfold aS
 omega
theorem RG {es:List Leg} (h:i<es.length) :Qj s (es.take (i+1)) l=Wa s (lg es i) (Qj s (es.take i) l) :=by
 rw [jik h,Uf h]
 simp [Qj]
theorem WO {s:Bool} :∀(es:List Leg) (l:List Nt),(Qj s es l).length≤l.length+es.length
 | [],l=>jif _
 | e::es,l=>by
  have h1:=WO (s:=s) es (Wa s e l)
  have h2:=RI (s:=s) (e:=e) l
  have e1:Qj s (e::es) l=Qj s es (Wa s e l) :=rfl
  rw [e1,jij]
  omega
theorem jgJ {p:Leg} (hk:k≤l.length) :nt (Gu l k p) k=zw p∧(Gu l k p).length=l.length+1:=by
 unfold Gu
 refine⟨?_,by simp;omega⟩
 rw [nt,List.getD_eq_getElem?_getD,List.getElem?_append_right (by simp;omega)]
 simp [jim,jiZ hk]
theorem jab {p:Leg} (hk:k≤l.length) : (Gu l k p).flatMap qm= (l.flatMap qm).take (k*8) ++qm (zw p) ++ (l.flatMap qm).drop (k*8) :=by
 have e1: (l.flatMap qm).take (k*8) = (l.take k).flatMap qm:=by
  conv=>lhs;rw [←jiq k l,jii]
  rw [List.take_left' (by rw [vS qm 8 kM,jim,jiZ hk])]
 have e2: (l.flatMap qm).drop (k*8) = (l.drop k).flatMap qm:=by
  conv=>lhs;rw [←jiq k l,jii]
  rw [List.drop_left' (by rw [vS qm 8 kM,jim,jiZ hk])]
 rw [e1,e2,Gu,jii,jiA,jil]
theorem jcQ (l:List Nt) :∀u∈l.flatMap qm,u.oneCell'=true:=fun u hu=>by
 obtain ⟨x,_,hx⟩ :=jjI.1 hu
 simp only [qm,Je,jiI,jiV,jis,ji3,or_false] at hx
 rcases hx with rfl | rfl | rfl | rfl | rfl | rfl | rfl | rfl<;>rfl
theorem jbE (h:k<l.length) (hv:v= (nt l k).two+sg e) :qL (l.flatMap qm) (0+k*8+5) [.int .i64 v] = (l.set k (VY true (sg e) (nt l k))).flatMap qm:=
 UC qm kM (Iq9 h) (Je (nt l k).e++ [.int .i64 (nt l k).one]) [.int .i64 (nt l k).two] [.int .i64 v] [.int .i64 (nt l k).l1, .int .i64 (nt l k).l2] (by simp [qm]) (by subst hv;simp [qm,VY]) rfl (by simp [Je])
theorem jbD (h:k<l.length) (hv:v= (nt l k).one+sg e) :qL (l.flatMap qm) (0+k*8+4) [.int .i64 v] = (l.set k (VY false (sg e) (nt l k))).flatMap qm:=
 UC qm kM (Iq9 h) (Je (nt l k).e) [.int .i64 (nt l k).one] [.int .i64 v] [.int .i64 (nt l k).two, .int .i64 (nt l k).l1, .int .i64 (nt l k).l2] (by simp [qm]) (by subst hv;simp [qm,VY]) rfl (by simp [Je])
theorem XT {x:Nt} : (l.set k x).length=l.length:=jjf
theorem jd8 {env:List (Nat×Value)} {w0:Bs} {Rs:List Res} (k s:Nat) {b U:Nat} (hk:Rs[k]? =some (.cel b U [])) (h:At n env w0 (Rs.set k (.row 0 U s (.slice (some ⟨b,0,none⟩) 0 0) 0 [])) K) :At n env w0 Rs K:=fun a w hf hs=>by
 refine h a w hf (hs.chg hk (fun hP=> ?_) (fun c hc=> ?_) J)
 ·exact⟨by simp, .inr ⟨b,0,#[],rfl,jie _,hP,jif _,by unfold maxLen;omega,by simp,by simp⟩⟩
 ·have:some b=some c:=hc
  injection this with this
  exact this.symm
theorem jeJ {p:Nat→Prop} (h:∀j,j<k→p j) (hk:p k) :∀j,j<k+1→p j:=fun j hj=>by
 rcases jjt (Nat.le_of_lt_succ hj) with h1 | rfl
 ·exact h j h1
 ·exact hk
theorem jgy {p:Leg} (hk:k<m) (h2:¬ww (lA e) (lA p)) (h3: (e.ax==p.ax&&e.ay==p.ay) =true) :decide (ww (lB e) (lB p)) =decide (k<m∧ZT e p) :=by
 simp only [jig,beq_iff_eq] at h3
 refine decide_eq_decide.2 ⟨fun h=>⟨hk, .inr ⟨Prod.ext h3.1 h3.2,h⟩⟩,fun h=> ?_⟩
 rcases h.2 with h | h
 ·exact absurd h h2
 ·exact h.2
theorem jgz {p:Leg} (h2:¬ww (lA e) (lA p)) (h3: (e.ax==p.ax&&e.ay==p.ay) =false) :false=decide (k<m∧ZT e p) :=by
 refine(decide_eq_false fun h=> ?_).symm
 rcases h.2 with h | h
 ·exact h2 h
 ·rw [show e.ax=p.ax from congrArg Prod.fst h.1,show e.ay=p.ay from congrArg Prod.snd h.1] at h3
  simp at h3
theorem M8 (A:Option Addr) (n c:Nat) (es:List Leg) (s:Bool) (l:List Nt) (x:Option Addr×Nat) (w:World) (h:Legs w A n es) (hok:∀l∈es,qU l) (hn:n≤4096) (hl:l.length≤4096) (ha:∀t,aS t l≤4096) (hr: (Rx l x).P w) (hne:0<n→∀p,A=some p→p.block∉jaK x) :
  Calls Tryz.prog 186 #[.slice x.1 l.length x.2, .slice A n c, .bool s] w fun e w'=>∃y:Option Addr×Nat,e= .returned (.slice y.1 (Qj s es l).length y.2)∧Wrs (Rx l x).F w w'∧(Rx (Qj s es l) y).P w'∧(∀b,(Rx (Qj s es l) y).F b→(Rx l x).F b∨w.heap.size≤b)∧(Rx (Qj s es l) y).B=0:=by
 have hln:=h.1
 refine Yl (m:=119) (jaK x) (Rx l x) (hr) (fun b hb=>G4.1 hb) J (Tryz.func186) J J (lb J) ?_;refine S10 ?_;refine JE (X:=Nat×Option Addr×Nat) (fun y=>y.1≤n) (fun y=>n- y.1) (fun y=> [(0, .slice y.2.1 (Qj s (es.take y.1) l).length y.2.2),(7, .int .i64 (y.1:Int))]) (kK [1,2,6]) (fun y=> [Rx (Qj s (es.take y.1) l) y.2]) (0,x) (jie _) ⟨J,sz⟩ (fun _ h=>h) ?_
 intro⟨i,rA,rc⟩ hi L hL1
 refine v9 ?_;refine r9 ?_
 have hi:i≤n:=hi
 obtain ⟨M,hM⟩ :∃M,M=Qj s (es.take i) l:=⟨_,rfl⟩
 have hMl:M.length≤8192:= (by have:=WO (s:=s) (es.take i) l;rw [jim] at this;rw [hM];omega)
 have hMa:∀t,aS t M≤8192:= (fun t=>by have h1:=YS (s:=s) (t:=t) (es.take i) l;have h2:=ha t;rw [jim] at h1;rw [hM];split at h1<;>omega)
 rw [←hM]
 refine S8 ?_;refine cZ (fun c1=> ?_) (fun c1=> ?_)
 ·have hlt:i<n:=Om
  obtain ⟨eb,eo,rfl,_⟩ :=h.2 Om
  obtain ⟨E,hE⟩ :∃E,E=lg es i:=⟨_,rfl⟩
  have hEo:qU E:=hE▸kk hok (show i<es.length by omega)
  have hnext:Qj s (es.take (i+1)) l=Wa s E M:= (by rw [RG Om,hM,hE])
  refine S9 ?_;refine a9 (jk J J KG J (yx (fun w' hs=>h.ovx hs.over hne) hlt)) ?_;refine S1 ?_;refine aL (fun b1=> ?_);refine N3 ?_
  rw [←hE]
  refine S4 ?_;refine WR [(9, .int .i64 (sg E))] ([Rx M (rA,rc), .cel b1 147 (Je (KR E))]) (kK [1,2,6,0,7,12,13,14,15,18,19,20,21,8]) (fun L h_t26=> ?_) ?_
  ·refine S6 ?_;refine a9 (jG Kn J J (fun w1 hs=>wO (lB E) (lA E) w1)) ?_;refine S1 ?_;refine cZ (fun c2=> ?_) (fun c2=> ?_)
   ·refine S6 ?_;refine a9 (JF J J (Kb J J)) ?_;refine S6 ?_
    exact Js h_t26 ⟨vi (by rw [sg,if_pos c2]),sz⟩ (fun _ h=>h.upto ⟨J,by rw [KR,if_pos c2];rfl,trivial⟩)
   ·refine S2 ?_
    exact Js h_t26 ⟨vi (by rw [sg,if_neg c2]),sz⟩ (fun _ h=>h.upto ⟨J,by rw [KR,if_neg c2];rfl,trivial⟩)
  ·refine v9 ?_
   obtain ⟨p,hp⟩ :∃p,p=KR E:=⟨_,rfl⟩
   rw [←hp]
   refine S6 ?_;refine qj (X:=Nat) (fun k=>k≤M.length∧∀j,j<k→ZT (nt M j).e p) (fun k=>M.length- k) (fun k=> [(10, .int .i64 (k:Int))]) (kK [1,2,6,0,7,12,13,14,15,18,19,20,21,8,9]) 0 (⟨jie _,fun j hj=>absurd hj Om⟩) ⟨J,sz⟩ ?_
   intro k hk L hL2
   refine v9 ?_
   obtain ⟨hkl,hkq⟩ :=hk
   refine S1 ?_;refine qr [(68, .bool (decide (k<M.length∧ZT (nt M k).e p)))] (kK [1,2,6,0,7,12,13,14,15,18,19,20,21,8,9,10]) (fun L h_10=> ?_) ?_
   ·refine Xm mixed Kr (fun _ _ d _ _ h=>by cases d<;>exact h) ?_;refine x9 q9 ?_;refine x9 q9 ?_;refine x9 (Jx J J JM) ?_;refine x9 (Jq J J J) ?_;refine x9 q9 ?_;refine vl 36 J (fun g1=> ?_) (fun g1=> ?_)
    ·try simp only[zz] at g1
     have hk':k<M.length:=Om
     refine y9 q9 ?_;refine y9 q9 ?_;refine y9 (qM (j:=k) (fun w hs=> (hs.all 0 _ J).1) J J J JM hk') ?_;refine y9 (jg J J Qo) ?_;refine y9 (jg J J JG) ?_;refine y9 (jk J J jj J (ZX [.int .i64 (nt M k).e.ax, .int .i64 (nt M k).e.ay] 0 (fun w hs=> (hs.all 0 _ J).1) hk' Om (xF J J))) ?_;refine y9 (jg J J JG) ?_;refine y9 (jk J J jj J (w6 (k:=1) J J J)) ?_;refine y9 (jG Kn J J (fun w1 hs=>wO (lA (nt M k).e) (lA p) w1)) ?_;refine y9 q9 ?_;refine vl 46 J (fun g2=> ?_) (fun g2=> ?_)
     ·try simp only[zz] at g2
      (iterate 10 refine z9 ?_);(iterate 9 refine qH J J J J J Dc ?_);refine z9 ?_;refine y9 (Ji J J J) ?_;refine x9 (Ji J J J) ?_;refine wy ?_;refine S1 ?_
      exact Js h_10 ⟨vb (decide_eq_true ⟨hk', .inl g2⟩).symm,sz⟩ (u9 J)
     ·try simp only[zz] at g2
      refine y9 q9 ?_;refine y9 q9 ?_;refine y9 (qM (j:=k) (fun w hs=> (hs.all 0 _ J).1) J J J JM hk') ?_;refine y9 (jg J J Qo) ?_;refine y9 (jg J J JG) ?_;refine y9 (jk J J jj J (ZX [.int .i64 (nt M k).e.ax, .int .i64 (nt M k).e.ay] 0 (fun w hs=> (hs.all 0 _ J).1) hk' Om (xF J J))) ?_;refine y9 (jg J J JG) ?_;refine y9 (jk J J jj J (w6 (k:=1) J J J)) ?_;refine y9 (KY J J J) ?_;refine y9 q9 ?_;refine vl 56 J (fun g3=> ?_) (fun g3=> ?_)
      ·try simp only[zz] at g3
       refine y9 q9 ?_;refine y9 q9 ?_;refine y9 (qM (j:=k) (fun w hs=> (hs.all 0 _ J).1) J J J JM hk') ?_;refine y9 (jg J J Qo) ?_;refine y9 (jg J J JL) ?_;refine y9 (jk J J jj J (ZX [.int .i64 (nt M k).e.bx, .int .i64 (nt M k).e.b_y] 2 (fun w hs=> (hs.all 0 _ J).1) hk' Om (xF J J))) ?_;refine y9 (jg J J JL) ?_;refine y9 (jk J J jj J (w6 (k:=1) J J J)) ?_;refine y9 (jG Kn J J (fun w1 hs=>wO (lB (nt M k).e) (lB p) w1)) ?_;refine y9 (Ji J J J) ?_;refine y9 (jM J J J) ?_;refine x9 (Ji J J J) ?_;refine wy ?_;refine S1 ?_
       exact Js h_10 ⟨vb (jgy hk' g2 g3),sz⟩ (u9 J)
      ·try simp only[zz] at g3
       (iterate 9 refine z9 ?_);refine y9 (jM J J J) ?_;refine y9 (jM J J J) ?_;refine x9 (Ji J J J) ?_;refine wy ?_;refine S1 ?_
       exact Js h_10 ⟨vb (jgz g2 g3),sz⟩ (u9 J)
    ·try simp only[zz] at g1
     (iterate 10 refine z9 ?_);(iterate 20 refine qH J J J J J Dc ?_);refine z9 ?_;refine x9 (jM J J J) ?_;refine wy ?_;refine S1 ?_
     exact Js h_10 ⟨vb (decide_eq_false fun h=>by omega).symm,sz⟩ (u9 J)
   ·refine v9 ?_;refine cZ (fun c3=> ?_) (fun c3=> ?_)
    ·refine S10 ?_
     exact qa hL2 (k+1) (⟨by omega,jeJ hkq c3.2⟩) Om ⟨vi Om,sz⟩ (u9 J)
    ·refine S5 ?_;refine Uz (X:=List Nt×Option Addr×Nat) (fun z=>k<z.1.length∧Qj s (es.take (i+1)) l=z.1.set k (VY s (sg E) (nt z.1 k))∧z.1.length≤8193∧∀t,-8192≤Vm t (nt z.1 k)∧Vm t (nt z.1 k)≤8192) (fun z=> [(0, .slice z.2.1 z.1.length z.2.2)]) (kK [1,2,6,7,12,13,14,15,18,19,20,21,8,9,10,68]) (fun z=> [Rx z.1 z.2, .cel b1 147 (Je p)]) (fun L h_t83=> ?_) ?_
     ·refine qr [(83, .bool (!decide (k<M.length∧(nt M k).e=p)))] (kK [1,2,6,0,7,12,13,14,15,18,19,20,21,8,9,10,68]) (fun L h_12=> ?_) ?_
      ·refine Xm mixed Kr (fun _ _ d _ _ h=>by cases d<;>exact h) ?_;refine x9 q9 ?_;refine x9 q9 ?_;refine x9 (Jx J J JM) ?_;refine x9 (qX J J J) ?_;refine x9 q9 ?_;refine vl 75 J (fun g4=> ?_) (fun g4=> ?_)
       ·try simp only[zz] at g4
        (iterate 7 refine z9 ?_);refine x9 (Ji J J J) ?_;refine wy ?_;refine S1 ?_
        exact Js h_12 ⟨vb (by rw [decide_eq_false (fun h=>by omega)];rfl),sz⟩ (u9 J)
       ·try simp only[zz] at g4
        refine y9 q9 ?_;refine y9 q9 ?_;refine y9 (qM (j:=k) (fun w hs=> (hs.all 0 _ J).1) J J J JM Om) ?_;refine y9 (jg J J Qo) ?_;refine y9 (jk J J KG J (ZX [.int .i64 (nt M k).e.ax, .int .i64 (nt M k).e.ay, .int .i64 (nt M k).e.bx, .int .i64 (nt M k).e.b_y] 0 (fun w hs=> (hs.all 0 _ J).1) (show k<M.length by omega) Om (LV J J J J))) ?_;refine y9 (jk J J KG J (Jj (k:=1) J)) ?_;refine y9 (zU J J J) ?_;refine x9 (jM J J J) ?_;refine wy ?_;refine S1 ?_
        exact Js h_12 ⟨vb (by rw [Sk (e:= (nt M k).e) (f:=p)];have:k<M.length:=Om;simp [this]),sz⟩ (u9 J)
      ·refine v9 ?_;refine cZ (fun c4=> ?_) (fun c4=> ?_)
       ·have hstop:k<M.length→¬ZT (nt M k).e (KR E)∧(nt M k).e≠KR E:= (fun h=>⟨fun h2=>c3 ⟨h,hp▸h2⟩,fun h2=>c4 ⟨h,hp▸h2⟩⟩)
        have hnew:Qj s (es.take (i+1)) l= (Gu M k p).set k (VY s (sg E) (nt (Gu M k p) k)) := (by rw [hnext,RJ hkl (fun j hj=>hp▸hkq j hj) hstop,hp])
        obtain ⟨hnk,hnl⟩ :=jgJ (p:=p) hkl
        have hsg:=TQ E
        have hkI:k< (Gu M k p).length:=Om
        refine qR (fun w hs=>v6 (hs.all 0 _ J).1) ?_
        intro hcap
        refine S3 ?_;refine jX J J (Y4) J (lb J) (fun b2=> ?_);refine n9 ?_;refine jd8 2 8 J ?_;refine t9 ?_;refine S2 ?_;refine a9 (QS J J J JM Om) ?_;refine S1 ?_;refine JK (k:=2) J JM uC Dc J Dc J J J (fun w' hs=>ja4 (hs.all 0 _ J).1 hkl) ((fun u hu=>jcQ M u (jiL hu))) (by unfold maxLen;omega) Om (jie _) (fun r1=> ?_);refine N6 ?_;refine a9 (JF J J (xR J)) ?_;refine S1 ?_;refine jX J J (yT J) J (lb J) (fun b3=> ?_);refine N1 ?_;refine JK (k:=2) J JM uC Dc J Dc J J J (fun w' hs=>qD hs (k:=3) J J) (by simp [Value.oneCell']) (by unfold maxLen;omega) Om (jie _) (fun r2=> ?_);refine N6 ?_;refine a9 (KZ J J J JM hkl) ?_;refine S1 ?_;refine JK (k:=2) J JM uC Dc J Dc J J J (fun w' hs=>Hi (hs.all 0 _ J).1 hkl) ((fun u hu=>jcQ M u (jiX hu))) (by unfold maxLen;omega) Om (jie _) (fun r3=> ?_);refine N2 ?_
        rw [show 0+k+1+ (M.length- k) = (Gu M k p).length by omega]
        rw [show List.take (k*8) (List.flatMap qm M) ++ [Value.int IntKind.i64 p.ax,Value.int IntKind.i64 p.ay,Value.int IntKind.i64 p.bx,Value.int IntKind.i64 p.b_y,Value.int IntKind.i64 0,Value.int IntKind.i64 0,Value.int IntKind.i64 0,Value.int IntKind.i64 0] ++List.drop (k*8) (List.flatMap qm M) = (Gu M k p).flatMap qm from(jab hkl).symm]
        exact Ka h_t83 ((Gu M k p,r3)) (⟨hkI,hnew,by simp only;omega,fun t=>by rw [hnk];cases t<;> (show-8192≤(0:Int)∧(0:Int)≤8192;omega)⟩) ⟨rfl,sz⟩ (fun _ h=> (h.picks [2,1] Dc).upto ⟨rfl,sz⟩)
       ·have hst:k<M.length∧(nt M k).e=p:=c4
        have hold:Qj s (es.take (i+1)) l=M.set k (VY s (sg E) (nt M k)) := (by rw [hnext,RK hst.1 (fun j hj=>hp▸hkq j hj) (hp▸hst.2)])
        refine S2 ?_
        exact Ka h_t83 ((M,rA,rc)) (⟨hst.1,hold,by simp only;omega,fun t=>by have h1:=Z8 (s:=t) hst.1;have h2:=hMa t;simp only;omega⟩) ⟨J,sz⟩ (fun _ h=>h.picks [0,1] Dc)
     ·rintro⟨I,qA,qc⟩ ⟨hIk,hIn,hIl,hIa⟩
      refine v9 ?_;refine r9 ?_
      have hIk:k<I.length:=hIk
      have hIl:I.length≤8193:=hIl
      have hIn:Qj s (es.take (i+1)) l=I.set k (VY s (sg E) (nt I k)) :=hIn
      have hsg:=TQ E
      have hI1:=hIa true
      have hI2:=hIa false
      simp only [Vm,if_true,jjb,if_false] at hI1 hI2
      refine S4 ?_;refine cZ (fun c5=> ?_) (fun c5=> ?_)
      ·refine S3 ?_;refine a9 (qM (j:=k) (fun w hs=> (hs.all 0 _ J).1) J J J JM hIk) ?_;refine S1 ?_;refine a9 (jq J J jt (xz (i:=5) (fun w hs=> (hs.all 0 _ J).1) hIk Om J)) ?_;refine S2 ?_;refine a9 (qM (j:=k) (fun w hs=> (hs.all 0 _ J).1) J J J JM hIk) ?_;refine S2 ?_;refine Ud (k:=0) (vs:= [.int .i64 ((nt I k).two+sg E)]) J J J J (by rfl) (by rfl) qW.szx J J (by simp) (by rw [vS qm 8 kM];simp only [jij,jiw];omega) ?_;refine n9 ?_
       rw [jbE hIk rfl]
       refine S8 ?_
       exact Jd hL1 ((i+1,qA,qc)) ((show i+1≤n by omega)) (by simp only;omega) ⟨(by rw [hIn,XT];rfl),vi Om,sz⟩ (fun _ h=>h.upto ⟨by rw [hIn,c5,Rx,XT],trivial⟩)
      ·refine S3 ?_;refine a9 (qM (j:=k) (fun w hs=> (hs.all 0 _ J).1) J J J JM hIk) ?_;refine S1 ?_;refine a9 (jq J J jt (xz (i:=4) (fun w hs=> (hs.all 0 _ J).1) hIk Om J)) ?_;refine S2 ?_;refine a9 (qM (j:=k) (fun w hs=> (hs.all 0 _ J).1) J J J JM hIk) ?_;refine S2 ?_;refine Ud (k:=0) (vs:= [.int .i64 ((nt I k).one+sg E)]) J J J J (by rfl) (by rfl) qW.szx J J (by simp) (by rw [vS qm 8 kM];simp only [jij,jiw];omega) ?_;refine n9 ?_
       rw [jbD hIk rfl]
       refine S8 ?_
       exact Jd hL1 ((i+1,qA,qc)) ((show i+1≤n by omega)) (by simp only;omega) ⟨(by rw [hIn,XT];rfl),vi Om,sz⟩ (fun _ h=>h.upto ⟨by rw [hIn,c5,Rx,XT],trivial⟩)
 ·have hin:i=n:=Om
  have hMe:M=Qj s es l:= (by rw [hM,hin,←hln,jiM])
  refine S11 ?_;refine jJ J (.tmp J) ?_
  intro w' hs
  exact⟨(rA,rc),by rw [hMe],hs.over.wrs.mono fun b hb=>G4.2 hb,by have:= (hs.all 0 _ rfl).1;rw [hMe] at this;exact this,fun b hb=>by have:= (hs.all 0 _ rfl).2.1 b (by rw [hMe];exact hb);exact this.elim .inr (fun h=> .inl (G4.2 h)),rfl⟩
def yxC (p q:Pn) :Int:=if p.2=q.2 then Wv (p.1- q.1) else Wv (p.2- q.2)
theorem Eh {n:Int} :Wv n<0↔n<0:=by unfold Wv;split<;> (try split) <;>omega
theorem Eg {n:Int} :Wv n=0↔n=0:=by unfold Wv;split<;> (try split) <;>omega
theorem EB :yxC p q<0↔ww p q:=by
 unfold yxC ww
 split
 ·rw [Eh];omega
 ·rw [Eh];omega
theorem Uv :yxC p q=0↔p=q:=by
 obtain ⟨a,b⟩ :=p
 obtain ⟨c,d⟩ :=q
 simp only [yxC,Prod.mk.injEq]
 split
 ·rw [Eg];omega
 ·rw [Eg];omega
def WW:List Pn→List Pn→Int
 | [],[] =>0
 | [],_::_=> -1
 | _::_,[] =>1
 | p::a,q::b=>if yxC p q=0 then WW a b else yxC p q
def WX (a b:List Pn) :Bool:=decide (WW a b<0)
theorem Od :WX a [] =false:=by cases a<;>rfl
theorem Iy :WX [] (q::b) =true:=rfl
theorem Uc :WX (p::a) (q::b) =true↔ww p q∨(p=q∧WX a b=true) :=by
 unfold WX
 rw [decide_eq_true_eq,decide_eq_true_eq,WW]
 split
 ·rename_i h
  have:=Uv.1 h
  subst this
  exact⟨fun h=> .inr ⟨rfl,h⟩,fun h=>h.elim (fun h=>absurd h (Q8 p)) (·.2)⟩
 ·rename_i h
  rw [EB]
  exact⟨.inl,fun h'=>h'.elim id fun h'=>absurd (Uv.2 h'.1) h⟩
theorem GC:∀a b:List Pn,WX a b=true→WX b a=false
 | _,[],h=>by rw [Od] at h;cases h
 | [],q::b,_=>Od
 | p::a,q::b,h=>by
  rw [Bool.eq_false_iff,_root_.Ne,Uc]
  intro h2
  rcases Uc.1 h with h1 |⟨rfl,h1⟩
  ·rcases h2 with h2 |⟨rfl,_⟩
   ·exact Q8 p (vY h1 h2)
   ·exact Q8 _ h1
  ·rcases h2 with h2 |⟨_,h2⟩
   ·exact Q8 _ h2
   ·rw [GC a b h1] at h2;cases h2
theorem Cu:∀a b c:List Pn,WX a c=true→WX a b=true∨WX b c=true
 | _,_,[],h=>by rw [Od] at h;cases h
 | [],[],_::_,_=> .inr Iy
 | _::_,[],_::_,_=> .inr Iy
 | [],_::_,_::_,_=> .inl Iy
 | p::a,q::b,r::c,h=>by
  rw [Uc,Uc]
  rcases UE p q with h1 | rfl | h1
  ·exact .inl (.inl h1)
  ·rcases Uc.1 h with h2 |⟨rfl,h2⟩
   ·exact .inr (.inl h2)
   ·rcases Cu a b c h2 with h3 | h3
    ·exact .inl (.inr ⟨rfl,h3⟩)
    ·exact .inr (.inr ⟨rfl,h3⟩)
  ·rcases Uc.1 h with h2 |⟨rfl,h2⟩
   ·exact .inr (.inl (vY h1 h2))
   ·exact .inr (.inl h1)
theorem D5:Weak WX:=⟨GC,fun a b c h1 h2=>by
 rw [Bool.eq_false_iff]
 intro h
 rcases Cu a b c h with h3 | h3
 ·rw [h1] at h3;cases h3
 ·rw [h2] at h3;cases h3⟩
theorem Weak.by {β:Type} {lt:β→β→Bool} (W:Weak lt) (f:α→β) :Weak fun x y=>lt (f x) (f y) :=⟨fun a b h=>W.asym _ _ h,fun a b c h1 h2=>W.neg _ _ _ h1 h2⟩
theorem Zq (h:k<xs.length) :xs.drop k=pt xs k::xs.drop (k+1) :=by
 rw [jiR h,U5 h]
 rfl
theorem Iv (h1:k<xs.length) (h2:k<ys.length) (h:pt xs k=pt ys k) :WW (xs.drop k) (ys.drop k) =WW (xs.drop (k+1)) (ys.drop (k+1)) :=by
 rw [Zq h1,Zq h2,WW,if_pos (Uv.2 h)]
theorem Iw (h1:k<xs.length) (h2:k<ys.length) (h:pt xs k≠pt ys k) :WW (xs.drop k) (ys.drop k) =yxC (pt xs k) (pt ys k) :=by
 rw [Zq h1,Zq h2,WW,if_neg (fun h'=>h (Uv.1 h'))]
theorem Xk (h1:k=xs.length) (h2:k≤ys.length) :WW (xs.drop k) (ys.drop k) =if k<ys.length then-1 else 0:=by
 rw [ji8 Om]
 split
 ·rename_i h;rw [Zq h];rfl
 ·rw [ji8 Om];rfl
theorem S0 (h1:k<xs.length) (h2:ys.length≤k) :WW (xs.drop k) (ys.drop k) =1:=by
 rw [Zq h1,ji8 h2];rfl
def U3 (xs:List Pn) (k:Nat) :List Pn:=xs.drop k++xs.take k
def vA (xs:List Pn) :Nat→Nat
 | 0=>0
 | k+1=>if WX (U3 xs k) (U3 xs (vA xs k)) =true then k else vA xs k
def Wz (xs:List Pn) :List Pn:=U3 xs (vA xs xs.length)
theorem wn : (U3 xs k).length=xs.length:=by simp [U3];omega
theorem C0 :p∈U3 xs k↔p∈xs:=by
 unfold U3
 rw [jit,or_comm,←jit,jiq]
theorem jdk (xs:List Pn) :U3 xs 0=xs:=by simp [U3]
theorem VM : (Wz xs).length=xs.length:=wn
theorem jbb :p∈Wz xs↔p∈xs:=C0
theorem jak (a:List Pn) :WX a a=false:=by
 cases h:WX a a
 ·rfl
 ·rw [GC a a h] at h;cases h
theorem Hl (xs:List Pn) :vA xs 1=0:=by simp [vA,jak]
theorem X5 (xs:List Pn) :∀k,0<k→vA xs k<k
 | 0,h=>absurd h Om
 | 1,_=>by rw [Hl];omega
 | k+2,_=>by
  rw [vA]
  split
  ·omega
  ·have:=X5 xs (k+1) Om;omega
theorem IT (hk:k<xs.length) (hj:j<xs.length) :pt (U3 xs k) j=pt xs ((k+j) % xs.length) :=by
 have e: (U3 xs k)[j]? =xs[(k+j) % xs.length]? :=by
  unfold U3
  by_cases h:j<xs.length- k
  ·rw [List.getElem?_append_left (by simpa using h),List.getElem?_drop,jju Om]
  ·rw [List.getElem?_append_right (by simpa using h),jiy,List.getElem?_take,if_pos Om]
   congr 1
   rw [Nat.mod_eq_sub_mod Om,jju Om]
   omega
 simp only [pt,px,py,List.getD_eq_getElem?_getD,e]
theorem jaj (h1:0<xs.length) (h2:0<ys.length) (h:0<yxC (pt xs 0) (pt ys 0)) :WX xs ys=false:=by
 have:=Iw (k:=0) h1 h2 (fun e=>by rw [Uv.2 e] at h;omega)
 rw [List.drop_zero,List.drop_zero] at this
 unfold WX
 rw [this,decide_eq_false_iff_not]
 omega
theorem je5 (hk:k<xs.length) :pt (U3 xs k) 0=pt xs k:=by rw [IT hk Om,jjO,jju hk]
theorem FG (h:WX (U3 xs k) (U3 xs (vA xs k)) =true) :vA xs (k+1) =k:=by rw [vA,if_pos h]
theorem Bu (h:WX (U3 xs k) (U3 xs (vA xs k)) =false) :vA xs (k+1) =vA xs k:=by rw [vA,if_neg (by rw [h];decide)]
theorem Dn (hk:k<xs.length) (hj:j<xs.length) : ((U3 xs k).take j).flatMap jV++jV (pt xs ((k+j) % xs.length)) = ((U3 xs k).take (j+1)).flatMap jV:=by
 rw [jik (by rw [wn];exact hj),jii,U5 (by rw [wn];exact hj)]
 have:=IT hk hj
 unfold pt at this
 rw [this]
 simp [pt]
theorem Cn {lt:α→α→Bool} (W:Weak lt) {l:List α} (hs:Uw lt l) {x:α} (hk:k≤l.length) (hi:∀q∈l.drop k,lt x q=true) (hlo:k=0∨∃p,l[k- 1]? =some p∧lt x p=false) :V9 lt x l=l.take k++x::l.drop k:=by
 have:=MV (lt:=lt) x (l.take k) (l.drop k) (fun p hp=> ?_) (fun q hq=>hi q (List.mem_of_mem_head? hq))
 ·rwa [jiq] at this
 ·rcases hlo with rfl |⟨r,hr,hx⟩
  ·simp at hp
  ·obtain ⟨i,hi',e⟩ :=jiU hp
   rw [jim] at hi'
   rw [List.getElem_take] at e
   obtain ⟨hr1,rfl⟩ :=List.getElem?_eq_some_iff.1 hr
   subst e
   rcases jjt (show i≤k- 1 by omega) with h1 | rfl
   ·exact W.neg _ _ _ hx (jjc.1 hs i (k- 1) Om hr1 h1)
   ·exact hx
theorem HE (p q:Pn) (w:World) (hp:YZ p) (hq:YZ q) :Calls Tryz.prog 112 #[pV p,pV q] w fun e w'=>e= .returned (.int .i64 (yxC p q))∧Over w w':=by
 obtain ⟨⟨p1,p2⟩,p3,p4⟩ :=hp
 obtain ⟨⟨q1,q2⟩,q3,q4⟩ :=hq
 refine jK (m:=22) (Tryz.func112) J J (lb J) ?_;refine S3 ?_;refine aX (fun b1=> ?_);refine N1 ?_;refine aX (fun b2=> ?_);refine N11 ?_;refine cZ (fun c1=> ?_) (fun c1=> ?_)
 ·refine S7 ?_;refine a9 (jG Q3 J J (fun w h=>Calls.still (Ku _ w))) ?_;refine S4 ?_;refine jJ J (.tmp J) ?_
  intro w' hs
  exact⟨by rw [yxC,if_neg c1],hs.fin⟩
 ·refine S9 ?_;refine a9 (jG Q3 J J (fun w h=>Calls.still (Ku _ w))) ?_;refine S3 ?_;refine jJ J (.tmp J) ?_
  intro w' hs
  exact⟨by rw [yxC,if_pos Om],hs.fin⟩
theorem Pts.dropT {b o c:Nat} (h:Pts w (some ⟨b,o,none⟩) n xs) (hk:k≤n) (hc:n≤c) :Pts w (some ⟨b,YN o k c 2,none⟩) (n- k) (xs.drop k) :=by
 have hl:=h.1
 refine⟨by rw [jiy,hl],fun h0=> ?_⟩
 obtain ⟨b',o',e,hlt,hx⟩ :=h.2 Om
 injection e with e
 injection e with e1 e2
 subst e1 e2
 refine⟨_,_,J,hlt,fun j hj=> ?_⟩
 have hd:∀j,px (xs.drop k) j=px xs (k+j)∧py (xs.drop k) j=py xs (k+j) :=fun j=>by
  simp only [px,py,List.getD_eq_getElem?_getD,List.getElem?_drop]
  exact⟨trivial,trivial⟩
 rw [YN,if_neg Om,(hd j).1,(hd j).2,show o+k*2+j*2=o+ (k+j) *2 by omega]
 exact hx (k+j) Om
theorem Pts.takeT (h:Pts w A n xs) (hk:k≤n) :Pts w A k (xs.take k) :=by
 have hl:=h.1
 refine⟨by rw [jim];omega,fun h0=> ?_⟩
 obtain ⟨b,o,e,hlt,hx⟩ :=h.2 Om
 refine⟨b,o,e,hlt,fun j hj=> ?_⟩
 have hd:px (xs.take k) j=px xs j∧py (xs.take k) j=py xs j:=by
  simp only [px,py,List.getD_eq_getElem?_getD,List.getElem?_take,if_pos hj]
  exact⟨trivial,trivial⟩
 rw [hd.1,hd.2]
 exact hx j Om
end Go.Proofs.YtbahojdbmmjkcaaGreat
