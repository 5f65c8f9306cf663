import Derived.Test.YtpncbbcmoiiipaaGreatKRowKit
import Derived.Test.YtpncbbcmoiiipaaGreatKLegSort
import Derived.Test.YtpncbbcmoiiipaaGreatKStabP
import Derived.Test.YtpncbbcmoiiipaaGreatKHot
set_option linter.unusedVariables false
set_option linter.unusedSimpArgs false
namespace Go.Proofs.YtpncbbcmoiiipaaGreat
open Go Go.RowKit
set_option maxRecDepth 100000
set_option maxHeartbeats 4000000
theorem Legs.ovx {w w':World} {X:List Nat} {A:Option Addr} {n:Nat} {ls:List Leg} (h:Legs w A n ls) (ho:Ovx ⟨w,X⟩ w') (hne:0<n→∀p,A=some p→p.block∉X) :Legs w' A n ls:=by
 refine⟨h.1,fun hn=> ?_⟩
 obtain ⟨b,o,rfl,hlt,hc⟩ :=h.2 hn
 have hs:w.heap.size≤w'.heap.size:=ho.size
 have hb:w'.heap[b]? =w.heap[b]? :=ho.block b hlt (hne hn _ rfl)
 have hcell:∀o',w'.cell? ⟨b,o',none⟩ =w.cell? ⟨b,o',none⟩ :=fun o'=>by simp only [World.cell?,hb]
 exact⟨b,o,rfl,by omega,fun k hk=>by rw [hcell,hcell,hcell,hcell];exact hc k hk⟩
def jag (x:Option Addr×Nat) :List Nat:=match x.1 with
 | some p=> [p.block]
 | none=> []
theorem Hm {B T s n:Nat} {xs:List Value} {x:Option Addr×Nat} {b:Nat} : (JY B T s n xs x).F b↔b∈jag x:=by
 show Value.ownBlock (.slice x.1 n x.2) =some b↔_
 unfold jag
 cases hx:x.1 with
 | none=>simp [Value.ownBlock]
 | some p=>
  simp only [Value.ownBlock,jik]
  constructor
  ·intro h;injection h with h;exact h.symm
  ·intro h;rw [h]
theorem ke {w w':World} {B T s n:Nat} {xs:List Value} {x:Option Addr×Nat} (h: (JY B T s n xs x).P w) (hO:Over w w') : (JY B T s n xs x).P w':=
 (JY B T s n xs x).dep w w' h hO.size fun b hb _=>hO.out.block b hb
abbrev I5 (l:List Nt) (x:Option Addr×Nat) :Res:=JY 0 212 8 l.length (l.flatMap qq) x
section
variable {P:Program} {n:Nat} {env:List (Nat×Value)} {w0:Bs} {Rs:List Res} {o:Oper} {Q:Exit→Act→World→Prop} {K:Act→World→Prop}
theorem qQ {T U:TypeId} {x y:Operand} {B m j s:Nat} {xs:List Value} {r:Option Addr×Nat} (hr:∀w,St w0 Rs w→(JY B U s m xs r).P w) (ho:o.op= .indexAddr T x y) (hx:ev env x=some (.slice r.1 m r.2)) (hy:ev env y=some (.int .i64 (j:Int))) (hT:TyL P T U s) (hj:j<m) :
  Qt P o n env w0 Rs (.pointer (some ⟨W3 r.1,0+j*s,none⟩)) :=fun a w hf hs=>by
 have e:=jfm (hr w hs) Om
 rw [e] at hx
 exact jN (j:=j) ho hx hy hT hj a w hf hs
theorem Ih {l:List Nt} {j:Nat} (h:j<l.length) :l[j]? =some (nt l j) :=by rw [List.getElem?_eq_getElem h,zw h]
theorem kE (x:Nt) : (qq x).length=8:=rfl
theorem xJ {m:Nat} {l:List Nt} {r:Option Addr×Nat} {j off i:Nat} {v:Value} (hr:∀w,St w0 Rs w→(JY 0 212 8 m (l.flatMap qq) r).P w) (hj:j<l.length) (he:off=j*8+i) (hv: (qq (nt l j))[i]? =some v) :∀w,St w0 Rs w→w.cell? ⟨W3 r.1,off,none⟩ =some v:=fun w hs=>by
 refine X5 (hr w hs) ?_
 have hi:= (List.getElem?_eq_some_iff.1 hv).1
 rw [kE] at hi
 rw [he,Xo qq 8 kE l j i hj hi,zw hj]
 exact hv
theorem Z5 {m:Nat} {l:List Nt} {r:Option Addr×Nat} {j off:Nat} (vs:List Value) (i:Nat) (hr:∀w,St w0 Rs w→(JY 0 212 8 m (l.flatMap qq) r).P w) (hj:j<l.length) (he:off=j*8+i) (hv:∀q v,vs[q]? =some v→(qq (nt l j))[i+q]? =some v) :∀w,St w0 Rs w→∀q v,vs[q]? =some v→w.cell? ⟨W3 r.1,off+q,none⟩ =some v:=fun w hs q v h=>
 xJ hr hj Om (hv q v h) w hs
end
theorem xS {a b:Value} {cs:List Value} {i:Nat} (h0:cs[i]? =some a) (h1:cs[i+1]? =some b) :∀q v,[a,b][q]? =some v→cs[i+q]? =some v:=fun q v h=>by
 match q,h with
 | 0,h=>simp at h;subst h;exact h0
 | 1,h=>simp at h;subst h;exact h1
theorem Me {a b c d:Value} {cs:List Value} {i:Nat} (h0:cs[i]? =some a) (h1:cs[i+1]? =some b) (h2:cs[i+2]? =some c) (h3:cs[i+3]? =some d) :∀q v,[a,b,c,d][q]? =some v→cs[i+q]? =some v:=fun q v h=>by
 match q,h with
 | 0,h=>simp at h;subst h;exact h0
 | 1,h=>simp at h;subst h;exact h1
 | 2,h=>simp at h;subst h;exact h2
 | 3,h=>simp at h;subst h;exact h3
theorem jf2 {α:Type} {f:α→Int} (h:∀x,0≤f x) :∀ {l:List α} {x:α},x∈l→f x≤sm f l
 | y::l,x,hx=>by
  have h1:=h y
  have h2:=jdl h l
  simp only [sm]
  rcases jir.1 hx with rfl | hx
  ·omega
  ·have:=jf2 h hx;omega
theorem xj {s:Bool} {l:List Nt} {k:Nat} (h:k<l.length) : -aS s l≤VP s (nt l k)∧VP s (nt l k)≤aS s l:=by
 have h1:=jf2 (f:=fun x=>ZR (VP s x)) (fun x=>FQ _) (GZ h)
 have h2:=PO (VP s (nt l k))
 unfold aS
 omega
theorem Rh {s:Bool} {es:List Leg} {l:List Nt} {i:Nat} (h:i<es.length) :Qd s (es.take (i+1)) l=WC s (lg es i) (Qd s (es.take i) l) :=by
 rw [jin h,Uz h]
 simp [Qd]
theorem ue {s:Bool} :∀(es:List Leg) (l:List Nt),(Qd s es l).length≤l.length+es.length
 | [],l=>jih _
 | e::es,l=>by
  have h1:=ue (s:=s) es (WC s e l)
  have h2:=Rj (s:=s) (e:=e) l
  have e1:Qd s (e::es) l=Qd s es (WC s e l) :=rfl
  rw [e1,jim]
  omega
theorem jgM {l:List Nt} {k:Nat} {p:Leg} (hk:k≤l.length) :nt (GQ l k p) k=zX p∧(GQ l k p).length=l.length+1:=by
 unfold GQ
 refine⟨?_,by simp;omega⟩
 rw [nt,List.getD_eq_getElem?_getD,List.getElem?_append_right (by simp;omega)]
 simp [jiy,jjm hk]
theorem EG {l:List Nt} {k:Nat} {p:Leg} (hk:k≤l.length) : (GQ l k p).flatMap qq= (l.flatMap qq).take (k*8) ++qq (zX p) ++ (l.flatMap qq).drop (k*8) :=by
 have e1: (l.flatMap qq).take (k*8) = (l.take k).flatMap qq:=by
  conv=>lhs;rw [←jiw k l,jio]
  rw [List.take_left' (by rw [WG qq 8 kE,jiy,jjm hk])]
 have e2: (l.flatMap qq).drop (k*8) = (l.drop k).flatMap qq:=by
  conv=>lhs;rw [←jiw k l,jio]
  rw [List.drop_left' (by rw [WG qq 8 kE,jiy,jjm hk])]
 rw [e1,e2,GQ,jio,jiB,jil]
theorem jcC (l:List Nt) :∀u∈l.flatMap qq,u.oneCell'=true:=fun u hu=>by
 obtain ⟨x,_,hx⟩ :=jjL.1 hu
 simp only [qq,jZ,jiJ,jiW,jir,ji3,or_false] at hx
 rcases hx with rfl | rfl | rfl | rfl | rfl | rfl | rfl | rfl<;>rfl
theorem jbi {l:List Nt} {k:Nat} {e:Leg} (h:k<l.length) {v:Int} (hv:v= (nt l k).two+sg e) :qP (l.flatMap qq) (0+k*8+5) [.int .i64 v] = (l.set k (wC true (sg e) (nt l k))).flatMap qq:=
 UZ qq kE (Ih h) (jZ (nt l k).e++ [.int .i64 (nt l k).one]) [.int .i64 (nt l k).two] [.int .i64 v] [.int .i64 (nt l k).l1, .int .i64 (nt l k).l2] (by simp [qq]) (by subst hv;simp [qq,wC]) rfl (by simp [jZ])
theorem jbh {l:List Nt} {k:Nat} {e:Leg} (h:k<l.length) {v:Int} (hv:v= (nt l k).one+sg e) :qP (l.flatMap qq) (0+k*8+4) [.int .i64 v] = (l.set k (wC false (sg e) (nt l k))).flatMap qq:=
 UZ qq kE (Ih h) (jZ (nt l k).e) [.int .i64 (nt l k).one] [.int .i64 v] [.int .i64 (nt l k).two, .int .i64 (nt l k).l1, .int .i64 (nt l k).l2] (by simp [qq]) (by subst hv;simp [qq,wC]) rfl (by simp [jZ])
theorem X7 {l:List Nt} {k:Nat} {x:Nt} : (l.set k x).length=l.length:=jjv
theorem jdZ {n:Nat} {env:List (Nat×Value)} {w0:Bs} {Rs:List Res} {K:Act→World→Prop} (k s:Nat) {b U:Nat} (hk:Rs[k]? =some (.cel b U [])) (h:At n env w0 (Rs.set k (.row 0 U s (.slice (some ⟨b,0,none⟩) 0 0) 0 [])) K) :At n env w0 Rs K:=fun a w hf hs=>by
 refine h a w hf (hs.chg hk (fun hP=> ?_) (fun c hc=> ?_) J)
 ·exact⟨by simp, .inr ⟨b,0,#[],rfl,jii _,hP,jih _,by unfold maxLen;omega,by simp,by simp⟩⟩
 ·have:some b=some c:=hc
  injection this with this
  exact this.symm
theorem jeM {p:Nat→Prop} {k:Nat} (h:∀j,j<k→p j) (hk:p k) :∀j,j<k+1→p j:=fun j hj=>by
 rcases jjp (Nat.le_of_lt_succ hj) with h1 | rfl
 ·exact h j h1
 ·exact hk
theorem jgC {k m:Nat} {e p:Leg} (hk:k<m) (h2:¬vh (lA e) (lA p)) (h3: (e.ax==p.ax&&e.ay==p.ay) =true) :decide (vh (lB e) (lB p)) =decide (k<m∧Z4 e p) :=by
 simp only [jig,beq_iff_eq] at h3
 refine decide_eq_decide.2 ⟨fun h=>⟨hk, .inr ⟨Prod.ext h3.1 h3.2,h⟩⟩,fun h=> ?_⟩
 rcases h.2 with h | h
 ·exact absurd h h2
 ·exact h.2
theorem jgD {k m:Nat} {e p:Leg} (h2:¬vh (lA e) (lA p)) (h3: (e.ax==p.ax&&e.ay==p.ay) =false) :false=decide (k<m∧Z4 e p) :=by
 refine(decide_eq_false fun h=> ?_).symm
 rcases h.2 with h | h
 ·exact h2 h
 ·rw [show e.ax=p.ax from congrArg Prod.fst h.1,show e.ay=p.ay from congrArg Prod.snd h.1] at h3
  simp at h3
theorem Oa (A:Option Addr) (n c:Nat) (es:List Leg) (s:Bool) (l:List Nt) (x:Option Addr×Nat) (w:World) (h:Legs w A n es) (hok:∀l∈es,qN l) (hn:n≤4096) (hl:l.length≤4096) (ha:∀t,aS t l≤4096)
  (hr: (I5 l x).P w) (hne:0<n→∀p,A=some p→p.block∉jag x) :
  Calls Tryz.prog 137 #[.slice x.1 l.length x.2, .slice A n c, .bool s] w fun e w'=>∃y:Option Addr×Nat,e= .returned (.slice y.1 (Qd s es l).length y.2)∧Wrs (I5 l x).F w w'∧(I5 (Qd s es l) y).P w'∧(∀b,(I5 (Qd s es l) y).F b→(I5 l x).F b∨w.heap.size≤b)∧(I5 (Qd s es l) y).B=0:=by
 have hln:=h.1
 refine Vp (m:=119) (jag x) (I5 l x) (hr) (fun b hb=>Hm.1 hb) J (Tryz.func137) J J (lb J) ?_;refine S10 ?_;refine JQ (X:=Nat×Option Addr×Nat) (fun y=>y.1≤n) (fun y=>n- y.1) (fun y=> [(0, .slice y.2.1 (Qd s (es.take y.1) l).length y.2.2),(7, .int .i64 (y.1:Int))]) (kK [1,2,6]) (fun y=> [I5 (Qd s (es.take y.1) l) y.2]) (0,x) (jii _) ⟨J,sz⟩ (fun _ h=>h) ?_
 intro⟨i,rA,rc⟩ hi L hL1
 refine v9 ?_;refine r9 ?_
 have hi:i≤n:=hi
 obtain ⟨M,hM⟩ :∃M,M=Qd s (es.take i) l:=⟨_,rfl⟩
 have hMl:M.length≤8192:= (by have:=ue (s:=s) (es.take i) l;rw [jiy] at this;rw [hM];omega)
 have hMa:∀t,aS t M≤8192:= (fun t=>by have h1:=zp (s:=s) (t:=t) (es.take i) l;have h2:=ha t;rw [jiy] at h1;rw [hM];split at h1<;>omega)
 rw [←hM]
 refine S8 ?_;refine cZ (fun c1=> ?_) (fun c1=> ?_)
 ·have hlt:i<n:=Om
  obtain ⟨eb,eo,rfl,_⟩ :=h.2 Om
  obtain ⟨E,hE⟩ :∃E,E=lg es i:=⟨_,rfl⟩
  have hEo:qN E:=hE▸QS hok (show i<es.length by omega)
  have hnext:Qd s (es.take (i+1)) l=WC s E M:= (by rw [Rh Om,hM,hE])
  refine S9 ?_;refine a9 (jk J J KQ J (ya (fun w' hs=>h.ovx hs.over hne) hlt)) ?_;refine S1 ?_;refine aL (fun b1=> ?_);refine N3 ?_
  rw [←hE]
  refine S4 ?_;refine uf [(9, .int .i64 (sg E))] ([I5 M (rA,rc), .cel b1 120 (jZ (Q5 E))]) (kK [1,2,6,0,7,12,13,14,15,18,19,20,21,8]) (fun L h_t26=> ?_) ?_
  ·refine S6 ?_;refine a9 (jT Kj J J (fun w1 hs=>Ws (lB E) (lA E) w1)) ?_;refine S1 ?_;refine cZ (fun c2=> ?_) (fun c2=> ?_)
   ·refine S6 ?_;refine a9 (JU J J (uC J J)) ?_;refine S6 ?_
    exact Jk h_t26 ⟨vi (by rw [sg,if_pos c2]),sz⟩ (fun _ h=>h.upto ⟨J,by rw [Q5,if_pos c2];rfl,trivial⟩)
   ·refine S2 ?_
    exact Jk h_t26 ⟨vi (by rw [sg,if_neg c2]),sz⟩ (fun _ h=>h.upto ⟨J,by rw [Q5,if_neg c2];rfl,trivial⟩)
  ·refine v9 ?_
   obtain ⟨p,hp⟩ :∃p,p=Q5 E:=⟨_,rfl⟩
   rw [←hp]
   refine S6 ?_;refine qz (X:=Nat) (fun k=>k≤M.length∧∀j,j<k→Z4 (nt M j).e p) (fun k=>M.length- k) (fun k=> [(10, .int .i64 (k:Int))]) (kK [1,2,6,0,7,12,13,14,15,18,19,20,21,8,9]) 0 (⟨jii _,fun j hj=>absurd hj Om⟩) ⟨J,sz⟩ ?_
   intro k hk L hL2
   refine v9 ?_
   obtain ⟨hkl,hkq⟩ :=hk
   refine S1 ?_;refine qt [(68, .bool (decide (k<M.length∧Z4 (nt M k).e p)))] (kK [1,2,6,0,7,12,13,14,15,18,19,20,21,8,9,10]) (fun L h_10=> ?_) ?_
   ·refine yP mixed Kr (fun _ _ d _ _ h=>by cases d<;>exact h) ?_;refine x9 q9 ?_;refine x9 q9 ?_;refine x9 (JN J J JH) ?_;refine x9 (Ju J J J) ?_;refine x9 q9 ?_;refine Q0 36 J (fun g1=> ?_) (fun g1=> ?_)
    ·try simp only[zz] at g1
     have hk':k<M.length:=Om
     refine y9 q9 ?_;refine y9 q9 ?_;refine y9 (qQ (j:=k) (fun w hs=> (hs.all 0 _ J).1) J J J JH hk') ?_;refine y9 (jf J J Qq) ?_;refine y9 (jf J J Jl) ?_;refine y9 (jk J J jj J (Z5 [.int .i64 (nt M k).e.ax, .int .i64 (nt M k).e.ay] 0 (fun w hs=> (hs.all 0 _ J).1) hk' Om (xS J J))) ?_;refine y9 (jf J J Jl) ?_;refine y9 (jk J J jj J (Yg (k:=1) J J J)) ?_;refine y9 (jT Kj J J (fun w1 hs=>Ws (lA (nt M k).e) (lA p) w1)) ?_;refine y9 q9 ?_;refine Q0 46 J (fun g2=> ?_) (fun g2=> ?_)
     ·try simp only[zz] at g2
      (iterate 10 refine z9 ?_);(iterate 9 refine qm J J J J J Dc ?_);refine z9 ?_;refine y9 (jW J J J) ?_;refine x9 (jW J J J) ?_;refine KC ?_;refine S1 ?_
      exact Jk h_10 ⟨vb (decide_eq_true ⟨hk', .inl g2⟩).symm,sz⟩ (u9 J)
     ·try simp only[zz] at g2
      refine y9 q9 ?_;refine y9 q9 ?_;refine y9 (qQ (j:=k) (fun w hs=> (hs.all 0 _ J).1) J J J JH hk') ?_;refine y9 (jf J J Qq) ?_;refine y9 (jf J J Jl) ?_;refine y9 (jk J J jj J (Z5 [.int .i64 (nt M k).e.ax, .int .i64 (nt M k).e.ay] 0 (fun w hs=> (hs.all 0 _ J).1) hk' Om (xS J J))) ?_;refine y9 (jf J J Jl) ?_;refine y9 (jk J J jj J (Yg (k:=1) J J J)) ?_;refine y9 (Qv J J J) ?_;refine y9 q9 ?_;refine Q0 56 J (fun g3=> ?_) (fun g3=> ?_)
      ·try simp only[zz] at g3
       refine y9 q9 ?_;refine y9 q9 ?_;refine y9 (qQ (j:=k) (fun w hs=> (hs.all 0 _ J).1) J J J JH hk') ?_;refine y9 (jf J J Qq) ?_;refine y9 (jf J J Jp) ?_;refine y9 (jk J J jj J (Z5 [.int .i64 (nt M k).e.bx, .int .i64 (nt M k).e.b_y] 2 (fun w hs=> (hs.all 0 _ J).1) hk' Om (xS J J))) ?_;refine y9 (jf J J Jp) ?_;refine y9 (jk J J jj J (Yg (k:=1) J J J)) ?_;refine y9 (jT Kj J J (fun w1 hs=>Ws (lB (nt M k).e) (lB p) w1)) ?_;refine y9 (jW J J J) ?_;refine y9 (jL J J J) ?_;refine x9 (jW J J J) ?_;refine KC ?_;refine S1 ?_
       exact Jk h_10 ⟨vb (jgC hk' g2 g3),sz⟩ (u9 J)
      ·try simp only[zz] at g3
       (iterate 9 refine z9 ?_);refine y9 (jL J J J) ?_;refine y9 (jL J J J) ?_;refine x9 (jW J J J) ?_;refine KC ?_;refine S1 ?_
       exact Jk h_10 ⟨vb (jgD g2 g3),sz⟩ (u9 J)
    ·try simp only[zz] at g1
     (iterate 10 refine z9 ?_);(iterate 20 refine qm J J J J J Dc ?_);refine z9 ?_;refine x9 (jL J J J) ?_;refine KC ?_;refine S1 ?_
     exact Jk h_10 ⟨vb (decide_eq_false fun h=>by omega).symm,sz⟩ (u9 J)
   ·refine v9 ?_;refine cZ (fun c3=> ?_) (fun c3=> ?_)
    ·refine S10 ?_
     exact qi hL2 (k+1) (⟨by omega,jeM hkq c3.2⟩) Om ⟨vi Om,sz⟩ (u9 J)
    ·refine S5 ?_;refine Ul (X:=List Nt×Option Addr×Nat) (fun z=>k<z.1.length∧Qd s (es.take (i+1)) l=z.1.set k (wC s (sg E) (nt z.1 k))∧z.1.length≤8193∧∀t,-8192≤VP t (nt z.1 k)∧VP t (nt z.1 k)≤8192) (fun z=> [(0, .slice z.2.1 z.1.length z.2.2)]) (kK [1,2,6,7,12,13,14,15,18,19,20,21,8,9,10,68]) (fun z=> [I5 z.1 z.2, .cel b1 120 (jZ p)]) (fun L h_t83=> ?_) ?_
     ·refine qt [(83, .bool (!decide (k<M.length∧(nt M k).e=p)))] (kK [1,2,6,0,7,12,13,14,15,18,19,20,21,8,9,10,68]) (fun L h_12=> ?_) ?_
      ·refine yP mixed Kr (fun _ _ d _ _ h=>by cases d<;>exact h) ?_;refine x9 q9 ?_;refine x9 q9 ?_;refine x9 (JN J J JH) ?_;refine x9 (qF J J J) ?_;refine x9 q9 ?_;refine Q0 75 J (fun g4=> ?_) (fun g4=> ?_)
       ·try simp only[zz] at g4
        (iterate 7 refine z9 ?_);refine x9 (jW J J J) ?_;refine KC ?_;refine S1 ?_
        exact Jk h_12 ⟨vb (by rw [decide_eq_false (fun h=>by omega)];rfl),sz⟩ (u9 J)
       ·try simp only[zz] at g4
        refine y9 q9 ?_;refine y9 q9 ?_;refine y9 (qQ (j:=k) (fun w hs=> (hs.all 0 _ J).1) J J J JH Om) ?_;refine y9 (jf J J Qq) ?_;refine y9 (jk J J KQ J (Z5 [.int .i64 (nt M k).e.ax, .int .i64 (nt M k).e.ay, .int .i64 (nt M k).e.bx, .int .i64 (nt M k).e.b_y] 0 (fun w hs=> (hs.all 0 _ J).1) (show k<M.length by omega) Om (Me J J J J))) ?_;refine y9 (jk J J KQ J (jY (k:=1) J)) ?_;refine y9 (Zf J J J) ?_;refine x9 (jL J J J) ?_;refine KC ?_;refine S1 ?_
        exact Jk h_12 ⟨vb (by rw [RU (e:= (nt M k).e) (f:=p)];have:k<M.length:=Om;simp [this]),sz⟩ (u9 J)
      ·refine v9 ?_;refine cZ (fun c4=> ?_) (fun c4=> ?_)
       ·have hstop:k<M.length→¬Z4 (nt M k).e (Q5 E)∧(nt M k).e≠Q5 E:= (fun h=>⟨fun h2=>c3 ⟨h,hp▸h2⟩,fun h2=>c4 ⟨h,hp▸h2⟩⟩)
        have hnew:Qd s (es.take (i+1)) l= (GQ M k p).set k (wC s (sg E) (nt (GQ M k p) k)) := (by rw [hnext,Rk hkl (fun j hj=>hp▸hkq j hj) hstop,hp])
        obtain ⟨hnk,hnl⟩ :=jgM (p:=p) hkl
        have hsg:=Tk E
        have hkI:k< (GQ M k p).length:=Om
        refine ky (fun w hs=>uZ (hs.all 0 _ J).1) ?_
        intro hcap
        refine S3 ?_;refine Jx J J (zD) J (lb J) (fun b2=> ?_);refine n9 ?_;refine jdZ 2 8 J ?_;refine t9 ?_;refine S2 ?_;refine a9 (Kl J J J JH Om) ?_;refine S1 ?_;refine JV (k:=2) J JH Ub Dc J Dc J J J (fun w' hs=>jaA (hs.all 0 _ J).1 hkl) ((fun u hu=>jcC M u (jiZ hu))) (by unfold maxLen;omega) Om (jii _) (fun r1=> ?_);refine N6 ?_;refine a9 (JU J J (Xc J)) ?_;refine S1 ?_;refine Jx J J (Yn J) J (lb J) (fun b3=> ?_);refine N1 ?_;refine JV (k:=2) J JH Ub Dc J Dc J J J (fun w' hs=>Qb hs (k:=3) J J) (by simp [Value.oneCell']) (by unfold maxLen;omega) Om (jii _) (fun r2=> ?_);refine N6 ?_;refine a9 (Vy J J J JH hkl) ?_;refine S1 ?_;refine JV (k:=2) J JH Ub Dc J Dc J J J (fun w' hs=>jaz (hs.all 0 _ J).1 hkl) ((fun u hu=>jcC M u (ji8 hu))) (by unfold maxLen;omega) Om (jii _) (fun r3=> ?_);refine N2 ?_
        rw [show 0+k+1+ (M.length- k) = (GQ M k p).length by omega]
        rw [show List.take (k*8) (List.flatMap qq M) ++ [Value.int IntKind.i64 p.ax,Value.int IntKind.i64 p.ay,Value.int IntKind.i64 p.bx,Value.int IntKind.i64 p.b_y,Value.int IntKind.i64 0,Value.int IntKind.i64 0,Value.int IntKind.i64 0,Value.int IntKind.i64 0] ++List.drop (k*8) (List.flatMap qq M) = (GQ M k p).flatMap qq from(EG hkl).symm]
        exact kg h_t83 ((GQ M k p,r3)) (⟨hkI,hnew,by simp only;omega,fun t=>by rw [hnk];cases t<;> (show-8192≤(0:Int)∧(0:Int)≤8192;omega)⟩) ⟨rfl,sz⟩ (fun _ h=> (h.picks [2,1] Dc).upto ⟨rfl,sz⟩)
       ·have hst:k<M.length∧(nt M k).e=p:=c4
        have hold:Qd s (es.take (i+1)) l=M.set k (wC s (sg E) (nt M k)) := (by rw [hnext,Rl hst.1 (fun j hj=>hp▸hkq j hj) (hp▸hst.2)])
        refine S2 ?_
        exact kg h_t83 ((M,rA,rc)) (⟨hst.1,hold,by simp only;omega,fun t=>by have h1:=xj (s:=t) hst.1;have h2:=hMa t;simp only;omega⟩) ⟨J,sz⟩ (fun _ h=>h.picks [0,1] Dc)
     ·rintro⟨I,qA,qc⟩ ⟨hIk,hIn,hIl,hIa⟩
      refine v9 ?_;refine r9 ?_
      have hIk:k<I.length:=hIk
      have hIl:I.length≤8193:=hIl
      have hIn:Qd s (es.take (i+1)) l=I.set k (wC s (sg E) (nt I k)) :=hIn
      have hsg:=Tk E
      have hI1:=hIa true
      have hI2:=hIa false
      simp only [VP,if_true,jjg,if_false] at hI1 hI2
      refine S4 ?_;refine cZ (fun c5=> ?_) (fun c5=> ?_)
      ·refine S3 ?_;refine a9 (qQ (j:=k) (fun w hs=> (hs.all 0 _ J).1) J J J JH hIk) ?_;refine S1 ?_;refine a9 (jn J J jt (xJ (i:=5) (fun w hs=> (hs.all 0 _ J).1) hIk Om J)) ?_;refine S2 ?_;refine a9 (qQ (j:=k) (fun w hs=> (hs.all 0 _ J).1) J J J JH hIk) ?_;refine S2 ?_;refine Uw (k:=0) (vs:= [.int .i64 ((nt I k).two+sg E)]) J J J J (by rfl) (by rfl) kS.szx J J (by simp) (by rw [WG qq 8 kE];simp only [jim,jiH];omega) ?_;refine n9 ?_
       rw [jbi hIk rfl]
       refine S8 ?_
       exact Ji hL1 ((i+1,qA,qc)) ((show i+1≤n by omega)) (by simp only;omega) ⟨(by rw [hIn,X7];rfl),vi Om,sz⟩ (fun _ h=>h.upto ⟨by rw [hIn,c5,I5,X7],trivial⟩)
      ·refine S3 ?_;refine a9 (qQ (j:=k) (fun w hs=> (hs.all 0 _ J).1) J J J JH hIk) ?_;refine S1 ?_;refine a9 (jn J J jt (xJ (i:=4) (fun w hs=> (hs.all 0 _ J).1) hIk Om J)) ?_;refine S2 ?_;refine a9 (qQ (j:=k) (fun w hs=> (hs.all 0 _ J).1) J J J JH hIk) ?_;refine S2 ?_;refine Uw (k:=0) (vs:= [.int .i64 ((nt I k).one+sg E)]) J J J J (by rfl) (by rfl) kS.szx J J (by simp) (by rw [WG qq 8 kE];simp only [jim,jiH];omega) ?_;refine n9 ?_
       rw [jbh hIk rfl]
       refine S8 ?_
       exact Ji hL1 ((i+1,qA,qc)) ((show i+1≤n by omega)) (by simp only;omega) ⟨(by rw [hIn,X7];rfl),vi Om,sz⟩ (fun _ h=>h.upto ⟨by rw [hIn,c5,I5,X7],trivial⟩)
 ·have hin:i=n:=Om
  have hMe:M=Qd s es l:= (by rw [hM,hin,←hln,jiX])
  refine S11 ?_;refine jM J (.tmp J) ?_
  intro w' hs
  exact⟨(rA,rc),by rw [hMe],hs.over.wrs.mono fun b hb=>Hm.2 hb,by have:= (hs.all 0 _ rfl).1;rw [hMe] at this;exact this,fun b hb=>by have:= (hs.all 0 _ rfl).2.1 b (by rw [hMe];exact hb);exact this.elim .inr (fun h=> .inl (Hm.2 h)),rfl⟩
def yxC (p q:Pn) :Int:=if p.2=q.2 then wt (p.1- q.1) else wt (p.2- q.2)
theorem CL {n:Int} :wt n<0↔n<0:=by unfold wt;split<;> (try split) <;>omega
theorem CK {n:Int} :wt n=0↔n=0:=by unfold wt;split<;> (try split) <;>omega
theorem C7 {p q:Pn} :yxC p q<0↔vh p q:=by
 unfold yxC vh
 split
 ·rw [CL];omega
 ·rw [CL];omega
theorem UU {p q:Pn} :yxC p q=0↔p=q:=by
 obtain ⟨a,b⟩ :=p
 obtain ⟨c,d⟩ :=q
 simp only [yxC,Prod.mk.injEq]
 split
 ·rw [CK];omega
 ·rw [CK];omega
def uo:List Pn→List Pn→Int
 | [],[] =>0
 | [],_::_=> -1
 | _::_,[] =>1
 | p::a,q::b=>if yxC p q=0 then uo a b else yxC p q
def uq (a b:List Pn) :Bool:=decide (uo a b<0)
theorem Oh {a:List Pn} :uq a [] =false:=by cases a<;>rfl
theorem F7 {q:Pn} {b:List Pn} :uq [] (q::b) =true:=rfl
theorem Uv {p q:Pn} {a b:List Pn} :uq (p::a) (q::b) =true↔vh p q∨(p=q∧uq a b=true) :=by
 unfold uq
 rw [decide_eq_true_eq,decide_eq_true_eq,uo]
 split
 ·rename_i h
  have:=UU.1 h
  subst this
  exact⟨fun h=> .inr ⟨rfl,h⟩,fun h=>h.elim (fun h=>absurd h (kC p)) (·.2)⟩
 ·rename_i h
  rw [C7]
  exact⟨.inl,fun h'=>h'.elim id fun h'=>absurd (UU.2 h'.1) h⟩
theorem GV:∀a b:List Pn,uq a b=true→uq b a=false
 | _,[],h=>by rw [Oh] at h;cases h
 | [],q::b,_=>Oh
 | p::a,q::b,h=>by
  rw [Bool.eq_false_iff,_root_.Ne,Uv]
  intro h2
  rcases Uv.1 h with h1 |⟨rfl,h1⟩
  ·rcases h2 with h2 |⟨rfl,_⟩
   ·exact kC p (Vx h1 h2)
   ·exact kC _ h1
  ·rcases h2 with h2 |⟨_,h2⟩
   ·exact kC _ h2
   ·rw [GV a b h1] at h2;cases h2
theorem PZ:∀a b c:List Pn,uq a c=true→uq a b=true∨uq b c=true
 | _,_,[],h=>by rw [Oh] at h;cases h
 | [],[],_::_,_=> .inr F7
 | _::_,[],_::_,_=> .inr F7
 | [],_::_,_::_,_=> .inl F7
 | p::a,q::b,r::c,h=>by
  rw [Uv,Uv]
  rcases U4 p q with h1 | rfl | h1
  ·exact .inl (.inl h1)
  ·rcases Uv.1 h with h2 |⟨rfl,h2⟩
   ·exact .inr (.inl h2)
   ·rcases PZ a b c h2 with h3 | h3
    ·exact .inl (.inr ⟨rfl,h3⟩)
    ·exact .inr (.inr ⟨rfl,h3⟩)
  ·rcases Uv.1 h with h2 |⟨rfl,h2⟩
   ·exact .inr (.inl (Vx h1 h2))
   ·exact .inr (.inl h1)
theorem DJ:Weak uq:=⟨GV,fun a b c h1 h2=>by
 rw [Bool.eq_false_iff]
 intro h
 rcases PZ a b c h with h3 | h3
 ·rw [h1] at h3;cases h3
 ·rw [h2] at h3;cases h3⟩
theorem Weak.by {α β:Type} {lt:β→β→Bool} (W:Weak lt) (f:α→β) :Weak fun x y=>lt (f x) (f y) :=⟨fun a b h=>W.asym _ _ h,fun a b c h1 h2=>W.neg _ _ _ h1 h2⟩
theorem Zx {xs:List Pn} {k:Nat} (h:k<xs.length) :xs.drop k=pt xs k::xs.drop (k+1) :=by
 rw [jiY h,yg h]
 rfl
theorem F4 {xs ys:List Pn} {k:Nat} (h1:k<xs.length) (h2:k<ys.length) (h:pt xs k=pt ys k) :uo (xs.drop k) (ys.drop k) =uo (xs.drop (k+1)) (ys.drop (k+1)) :=by
 rw [Zx h1,Zx h2,uo,if_pos (UU.2 h)]
theorem F5 {xs ys:List Pn} {k:Nat} (h1:k<xs.length) (h2:k<ys.length) (h:pt xs k≠pt ys k) :uo (xs.drop k) (ys.drop k) =yxC (pt xs k) (pt ys k) :=by
 rw [Zx h1,Zx h2,uo,if_neg (fun h'=>h (UU.1 h'))]
theorem XA {xs ys:List Pn} {k:Nat} (h1:k=xs.length) (h2:k≤ys.length) :uo (xs.drop k) (ys.drop k) =if k<ys.length then-1 else 0:=by
 rw [jja Om]
 split
 ·rename_i h;rw [Zx h];rfl
 ·rw [jja Om];rfl
theorem Sy {xs ys:List Pn} {k:Nat} (h1:k<xs.length) (h2:ys.length≤k) :uo (xs.drop k) (ys.drop k) =1:=by
 rw [Zx h1,jja h2];rfl
def UV (xs:List Pn) (k:Nat) :List Pn:=xs.drop k++xs.take k
def v6 (xs:List Pn) :Nat→Nat
 | 0=>0
 | k+1=>if uq (UV xs k) (UV xs (v6 xs k)) =true then k else v6 xs k
def WX (xs:List Pn) :List Pn:=UV xs (v6 xs xs.length)
theorem wU {xs:List Pn} {k:Nat} : (UV xs k).length=xs.length:=by simp [UV];omega
theorem Cz {xs:List Pn} {k:Nat} {p:Pn} :p∈UV xs k↔p∈xs:=by
 unfold UV
 rw [jiv,or_comm,←jiv,jiw]
theorem jdb (xs:List Pn) :UV xs 0=xs:=by simp [UV]
theorem wm {xs:List Pn} : (WX xs).length=xs.length:=wU
theorem jaG {xs:List Pn} {p:Pn} :p∈WX xs↔p∈xs:=Cz
theorem EN (a:List Pn) :uq a a=false:=by
 cases h:uq a a
 ·rfl
 ·rw [GV a a h] at h;cases h
theorem HF (xs:List Pn) :v6 xs 1=0:=by simp [v6,EN]
theorem Gk (xs:List Pn) :∀k,0<k→v6 xs k<k
 | 0,h=>absurd h Om
 | 1,_=>by rw [HF];omega
 | k+2,_=>by
  rw [v6]
  split
  ·omega
  ·have:=Gk xs (k+1) Om;omega
theorem Ip {xs:List Pn} {k j:Nat} (hk:k<xs.length) (hj:j<xs.length) :pt (UV xs k) j=pt xs ((k+j) % xs.length) :=by
 have e: (UV xs k)[j]? =xs[(k+j) % xs.length]? :=by
  unfold UV
  by_cases h:j<xs.length- k
  ·rw [List.getElem?_append_left (by simpa using h),List.getElem?_drop,jjx Om]
  ·rw [List.getElem?_append_right (by simpa using h),jiI,List.getElem?_take,if_pos Om]
   congr 1
   rw [Nat.mod_eq_sub_mod Om,jjx Om]
   omega
 simp only [pt,px,py,List.getD_eq_getElem?_getD,e]
theorem EL {xs ys:List Pn} (h1:0<xs.length) (h2:0<ys.length) (h:0<yxC (pt xs 0) (pt ys 0)) :uq xs ys=false:=by
 have:=F5 (k:=0) h1 h2 (fun e=>by rw [UU.2 e] at h;omega)
 rw [List.drop_zero,List.drop_zero] at this
 unfold uq
 rw [this,decide_eq_false_iff_not]
 omega
theorem jfc {xs:List Pn} {k:Nat} (hk:k<xs.length) :pt (UV xs k) 0=pt xs k:=by rw [Ip hk Om,jj2,jjx hk]
theorem Fl {xs:List Pn} {k:Nat} (h:uq (UV xs k) (UV xs (v6 xs k)) =true) :v6 xs (k+1) =k:=by rw [v6,if_pos h]
theorem Be {xs:List Pn} {k:Nat} (h:uq (UV xs k) (UV xs (v6 xs k)) =false) :v6 xs (k+1) =v6 xs k:=by rw [v6,if_neg (by rw [h];decide)]
theorem BZ {xs:List Pn} {k j:Nat} (hk:k<xs.length) (hj:j<xs.length) : ((UV xs k).take j).flatMap Js++Js (pt xs ((k+j) % xs.length)) = ((UV xs k).take (j+1)).flatMap Js:=by
 rw [jin (by rw [wU];exact hj),jio,yg (by rw [wU];exact hj)]
 have:=Ip hk hj
 unfold pt at this
 rw [this]
 simp [pt]
theorem PP {α:Type} {lt:α→α→Bool} (W:Weak lt) {l:List α} (hs:Uy lt l) {x:α} {k:Nat} (hk:k≤l.length) (hi:∀q∈l.drop k,lt x q=true) (hlo:k=0∨∃p,l[k- 1]? =some p∧lt x p=false) :VS lt x l=l.take k++x::l.drop k:=by
 have:=M3 (lt:=lt) x (l.take k) (l.drop k) (fun p hp=> ?_) (fun q hq=>hi q (List.mem_of_mem_head? hq))
 ·rwa [jiw] at this
 ·rcases hlo with rfl |⟨r,hr,hx⟩
  ·simp at hp
  ·obtain ⟨i,hi',e⟩ :=ji0 hp
   rw [jiy] at hi'
   rw [List.getElem_take] at e
   obtain ⟨hr1,rfl⟩ :=List.getElem?_eq_some_iff.1 hr
   subst e
   rcases jjp (show i≤k- 1 by omega) with h1 | rfl
   ·exact W.neg _ _ _ hx (jjl.1 hs i (k- 1) Om hr1 h1)
   ·exact hx
theorem HU (p q:Pn) (w:World) (hp:ZQ p) (hq:ZQ q) :Calls Tryz.prog 166 #[pV p,pV q] w fun e w'=>e= .returned (.int .i64 (yxC p q))∧Over w w':=by
 obtain ⟨⟨p1,p2⟩,p3,p4⟩ :=hp
 obtain ⟨⟨q1,q2⟩,q3,q4⟩ :=hq
 refine Jh (m:=22) (Tryz.func166) J J (lb J) ?_;refine S3 ?_;refine aX (fun b1=> ?_);refine N1 ?_;refine aX (fun b2=> ?_);refine N11 ?_;refine cZ (fun c1=> ?_) (fun c1=> ?_)
 ·refine S7 ?_;refine a9 (jT Q6 J J (fun w h=>Calls.still (Kv _ w))) ?_;refine S4 ?_;refine jM J (.tmp J) ?_
  intro w' hs
  exact⟨by rw [yxC,if_neg c1],hs.fin⟩
 ·refine S9 ?_;refine a9 (jT Q6 J J (fun w h=>Calls.still (Kv _ w))) ?_;refine S3 ?_;refine jM J (.tmp J) ?_
  intro w' hs
  exact⟨by rw [yxC,if_pos Om],hs.fin⟩
theorem Pts.dropT {w:World} {b o n c k:Nat} {xs:List Pn} (h:Pts w (some ⟨b,o,none⟩) n xs) (hk:k≤n) (hc:n≤c) :Pts w (some ⟨b,zf o k c 2,none⟩) (n- k) (xs.drop k) :=by
 have hl:=h.1
 refine⟨by rw [jiI,hl],fun h0=> ?_⟩
 obtain ⟨b',o',e,hlt,hx⟩ :=h.2 Om
 injection e with e
 injection e with e1 e2
 subst e1 e2
 refine⟨_,_,J,hlt,fun j hj=> ?_⟩
 have hd:∀j,px (xs.drop k) j=px xs (k+j)∧py (xs.drop k) j=py xs (k+j) :=fun j=>by
  simp only [px,py,List.getD_eq_getElem?_getD,List.getElem?_drop]
  exact⟨trivial,trivial⟩
 rw [zf,if_neg Om,(hd j).1,(hd j).2,show o+k*2+j*2=o+ (k+j) *2 by omega]
 exact hx (k+j) Om
theorem Pts.takeT {w:World} {A:Option Addr} {n k:Nat} {xs:List Pn} (h:Pts w A n xs) (hk:k≤n) :Pts w A k (xs.take k) :=by
 have hl:=h.1
 refine⟨by rw [jiy];omega,fun h0=> ?_⟩
 obtain ⟨b,o,e,hlt,hx⟩ :=h.2 Om
 refine⟨b,o,e,hlt,fun j hj=> ?_⟩
 have hd:px (xs.take k) j=px xs j∧py (xs.take k) j=py xs j:=by
  simp only [px,py,List.getD_eq_getElem?_getD,List.getElem?_take,if_pos hj]
  exact⟨trivial,trivial⟩
 rw [hd.1,hd.2]
 exact hx j Om
end Go.Proofs.YtpncbbcmoiiipaaGreat
