import Derived.Test.YtbahojdbmmjkcaaGreatSTurn
import Derived.Test.YtbahojdbmmjkcaaGreatSStab
set_option linter.unusedVariables false
set_option linter.unusedSimpArgs false
namespace Go.Proofs.YtbahojdbmmjkcaaGreat
open Go Go.RowKit
variable {A:Option Addr} {B c j k n:Nat} {K:Act→World→Prop} {Rs:List Res} {args:Array Value} {e:Pc} {env:List (Nat×Value)} {l:List Pc} {rs:List Jp} {w:World} {w0:Bs} {x:Option Addr×Nat} {xs:List Value}
set_option maxRecDepth 100000
set_option maxHeartbeats 4000000
def wv (e f:Pc) :Bool:=WX e.xs f.xs
theorem D6:Weak wv:=D5.by (fun e:Pc=>e.xs)
theorem Cv (l:List Pc) : (Ki wv l).map (·.xs) =Ki WX (l.map (·.xs)) := (Ra (fun x _ y _=>rfl)).symm
theorem Fa {l l':List Res} (hp:l.Perm l') (h: (Res.many l).P w) : (Res.many l').P w:=
 ⟨fun r hr=>h.1 r (hp.mem_iff.2 hr),h.2.perm hp (fun hxy b h1 h2=>hxy b h2 h1)⟩
theorem P4 (k:Nat) {l':List Pc} (hk:Rs[k]? =some (vu l)) (hp:l.Perm l') (h:At n env w0 (Rs.set k (vu l')) K) :At n env w0 Rs K:=
 fun a w hf hs=>h a w hf (hs.chg hk (fun hP=>Fa (hp.map Pc.res) hP) (fun b ⟨r,hr,hb⟩ =>⟨r,(hp.map Pc.res).mem_iff.2 hr,hb⟩) rfl)
theorem CJ {P:Program} {f:FuncId} {w1:World} {T s:Nat} (h:Calls P f args w1 fun e w'=>∃v,e= .returned (.agg #[v])∧w'.ownsRow w1.heap.size T s v n xs∧Over w1 w') :
  Calls P f args w1 fun e w'=>∃x:Option Addr×Nat,e= .returned (.agg #[.slice x.1 n x.2])∧Over w1 w'∧(JS 0 T s n xs x).P w'∧(∀b,(JS 0 T s n xs x).F b→w1.heap.size≤b)∧(JS 0 T s n xs x).B=0∧True:=by
 refine h.mono ?_
 rintro e w' ⟨v,rfl,hr,hO⟩
 obtain ⟨x,rfl⟩ :=W2 hr
 exact⟨x,rfl,hO,wo hr (jie _),fun b hb=> (hr.lt b hb).1,sz⟩
theorem jfk {U m:Nat} (h:w.ownsRow B U 1 (.slice A m c) m xs) (hk:k≤m) :Src 1 (sliced A 0 k c 1) k (xs.take k) w:=by
 have hlen:=h.1
 refine⟨by rw [jim];omega,?_⟩
 rcases h.2 with⟨e,e2⟩ |⟨g,cap,cur,e,hb,hg,hcap,_⟩
 ·injection e with e1 e3 e4
  subst e1 e2 e4
  obtain rfl:k=0:=by omega
  exact .inl ⟨rfl,rfl⟩
 ·injection e with e1 e3 e4
  subst e1 e4
  rw [vf]
  refine .inr ⟨_,_,J,fun j u hu=>h.cells J j u ?_⟩
  rw [List.getElem?_take] at hu
  split at hu
  ·exact hu
  ·cases hu
theorem jfl {U m:Nat} (h:w.ownsRow B U 1 (.slice A m c) m xs) (hk:k≤m) :Src 1 (sliced A k m c 1) (m- k) (xs.drop k) w:=by
 have hlen:=h.1
 refine⟨by rw [jiy];omega,?_⟩
 rcases h.2 with⟨e,e2⟩ |⟨g,cap,cur,e,hb,hg,hcap,_⟩
 ·injection e with e1 e3 e4
  subst e1 e2 e4
  obtain rfl:k=0:=by omega
  exact .inl ⟨rfl,rfl⟩
 ·injection e with e1 e3 e4
  subst e1 e4
  rw [uY hcap hk]
  refine .inr ⟨_,_,J,fun j u hu=> ?_⟩
  rw [List.getElem?_drop] at hu
  have:=h.cells rfl _ u hu
  have hj:= (List.getElem?_eq_some_iff.1 hu).1
  rw [Q1] at this⊢
  rw [←this]
  congr 2
  unfold YN
  rw [if_neg Om]
  omega
theorem zQ (h: (vu l).P w) (he:e∈l) :Pts w e.A e.xs.length e.xs:=by
 have h1:= (h.1 e.res (jiD.2 ⟨e,he,rfl⟩)).1
 exact(jaF h1).pts
def okRs (rs:List Jp) :Prop:=rs.length≤1048576∧∀r∈rs,0<r.length∧r.length≤1048577∧∀p∈r,YZ p
theorem okRs.at_ (h:okRs rs) (hk:k<rs.length) :0< (rg rs k).length∧(rg rs k).length≤1048577∧∀p∈rg rs k,YZ p:=by
 have:=h.2 rs[k] (jir hk)
 rwa [Wc hk] at this
def Wq (rs:List Jp) :List Jp:=Ki WX (rs.map Wz)
theorem ON (rs:List Jp) : (Wq rs).length=rs.length:=by rw [Wq,Qs,jip]
theorem jcW {r:Jp} (h:r∈Wq rs) :∃q∈rs,Wz q=r:=by
 rw [Wq,ZC] at h
 exact jiD.1 h
theorem OO (h:okRs rs) (hj:j< (Wq rs).length) : (rg (Wq rs) j).length≤1048577:=by
 obtain ⟨q,hq,e⟩ :=jcW (jir hj)
 rw [Wc hj] at e
 rw [←e,VM]
 exact(h.2 q hq).2.1
theorem CZ (h:k<rs.length) :rg (rs.map Wz) k=Wz (rg rs k) :=by simp [rg,List.getD,h]
def GB (e:Pc) (l:List Pc) (j:Nat) :Bool:=match (Ki wv l)[j- 1]? with
 | some q=>wv e q
 | none=>false
theorem SY (hj:j≤(Ki wv l).length) (hj0:0<j) (hle:GB e l j=true) (h:∀q∈(Ki wv l).drop j,wv e q=true) :∀q∈(Ki wv l).drop (j- 1),wv e q=true:=fun q hq=>by
 rw [jiR Om,show j- 1+1=j by omega] at hq
 rcases jis.1 hq with rfl | hq
 ·unfold GB at hle
  rw [List.getElem?_eq_getElem Om] at hle
  exact hle
 ·exact h q hq
theorem SZ (hj:j≤(Ki wv l).length) (h: (decide (0<j) &&GB e l j) =false) :j=0∨∃p,(Ki wv l)[j- 1]? =some p∧wv e p=false:=by
 by_cases h0:0<j
 ·rw [decide_eq_true h0,jiJ] at h
  refine .inr ⟨(Ki wv l)[j- 1]'(by omega),List.getElem?_eq_getElem Om,?_⟩
  unfold GB at h
  rw [List.getElem?_eq_getElem Om] at h
  exact h
 ·exact .inl Om
theorem C1 {U s m g:Nat} {v:Value} (h:w.ownsRow B U s (.slice (some ⟨g,0,none⟩) m c) m xs) (hv:xs[j]? =some v) :w.cell? ⟨g,0+j*1,none⟩ =some v:=by
 have:=h.cells rfl j v hv
 rw [Q1] at this
 rw [jja]
 exact this
theorem jdl {U s m g:Nat} (h:w.ownsRow B U s (.slice (some ⟨g,0,none⟩) m c) m xs) :g<w.heap.size:= (h.lt g rfl).2
theorem Ip (A:Option Addr) (n c:Nat) (rs:List Jp) (w:World) (h:Rings w A n rs) (hok:okRs rs) :
  Calls Tryz.prog 188 #[.slice A n c] w fun e w'=>∃A' c',e= .returned (qG A' n c')∧OwnG w.heap.size w'.heap.size w' A' n (Wq rs)∧Over w w':=by
 have hl:=h.1
 have hn40:=hok.1
 refine jK (m:=48) (Tryz.func188) J J (lb J) ?_;refine S3 ?_;refine aL (fun b1=> ?_);refine N4 ?_;refine jX J J (wu) J (lb J) (fun b2=> ?_);refine KQ 1 1 J J ?_;refine N2 ?_;refine Vl ?_;refine t9 ?_;refine S6 ?_;refine JE (X:=Nat×(Option Addr×Nat)×List Pc) (fun x=>x.1≤n∧x.2.2.map (·.xs) = (rs.map Wz).take x.1) (fun x=>n- x.1) (fun x=> [(3, .slice x.2.1.1 x.1 x.2.1.2),(4, .int .i64 (x.1:Int))]) (kK [0,2]) (fun x=> [.cel b1 26 [.slice none 0 0],JS (Bs.N ⟨w,[]⟩) 74 1 x.1 ((Ki wv x.2.2).map Pc.val) x.2.1,vu x.2.2]) (0,(some ⟨b2,0,none⟩,0),[]) (⟨jie _,J⟩) ⟨J,sz⟩ (fun _ h=>h) ?_
 intro⟨k,⟨rA,rc⟩,l⟩ hx L hL1
 refine v9 ?_;refine r9 ?_
 have hk:k≤n:=hx.1
 have hmp:l.map (·.xs) = (rs.map Wz).take k:=hx.2
 have hlk:l.length=k:= (by have:=congrArg List.length hmp;rw [jip,jim,jip] at this;omega)
 have hsl: (Ki wv l).length=k:= (Qs l).trans hlk
 have hmem:∀q∈l,q.xs.length≤1048577:= (fun q hq=>by obtain ⟨r,hr,e⟩ :=jiD.1 (jiL (hmp▸jiD.2 ⟨q,hq,rfl⟩));rw [←e,VM];exact(hok.2 r hr).2.1)
 refine qR (fun w hs=>v6 (hs.all 1 _ J).1) ?_
 intro hcap
 refine S8 ?_;refine cZ (fun c1=> ?_) (fun c1=> ?_)
 ·have hlt:k<n:=Om
  obtain ⟨bb,oo,Ak,ck,rfl,hbB,hcell,hpts,hmax⟩ :=h.at_ hlt
  obtain ⟨hr0,hr1,hr2⟩ :=hok.at_ (show k<rs.length by omega)
  refine S10 ?_;refine JQ XF (v:=fun x=> .agg #[.slice x.1 _ x.2]) (r:=fun x=>JS 0 28 2 _ _ x) (H:=fun _=>True) J J J (lb J) (fun w1 hs=>CJ (Db bb (oo+k*1) Ak _ ck (rg rs k) w1 (by rw [jja];exact Qb hcell hbB w1 hs) (jio hbB hs.fin.size) (hpts.over hs.fin) hr0 hr1)) ?_
  rintro⟨tA,tc⟩ -
  refine N1 ?_;refine aL (fun b3=> ?_);refine N3 ?_;refine ZM 3 J VM (fun clo chi=> ?_);refine t9 ?_
  obtain ⟨e,he⟩ :∃e:Pc,e=⟨Wz (rg rs k),tA,tc,clo,chi⟩ :=⟨_,rfl⟩
  have hexs:e.xs.length= (rg rs k).length:= (by rw [he];exact VM)
  refine S8 ?_;refine qj (X:=Nat) (fun j=>j≤k∧∀q∈(Ki wv l).drop j,wv e q=true) (fun j=>j) (fun j=> [(6, .int .i64 (j:Int))]) (kK [0,2,3,4,9,10,11,12,15,16,17,18,5,19,20]) k (⟨jif _,fun q hq=>by rw [ji8 Om] at hq;cases hq⟩) ⟨rfl,sz⟩ ?_
  intro j hj L hL2
  refine v9 ?_
  obtain ⟨hjk,hjq⟩ :=hj
  refine S1 ?_;refine qr [(29, .bool (decide (0<j) &&GB e l j))] (kK [0,2,3,4,9,10,11,12,15,16,17,18,5,19,20,6]) (fun L h_7=> ?_) ?_
  ·refine S4 ?_;refine cV 23 (fun g1=> ?_) (fun g1=> ?_)
   ·have hj0:0<j:=Om
    refine qR (fun w hs=>kI (k:=1) J hs Om) ?_
    rintro⟨eg,rfl⟩
    obtain ⟨q,hq⟩ :∃q,(Ki wv l)[j- 1]? =some q:=⟨_,List.getElem?_eq_getElem Om⟩
    have hqm:q∈l:= (ZC l q).1 (List.mem_of_getElem? hq)
    refine S5 ?_;refine o9 ((JC J J J Om Om).as (congrArg _ (show((j:Int) - 1) = ((j- 1:Nat) :Int) by omega))) ?_;refine h9 ?_;refine o9 (jH (j:=j- 1) J J J jS Om) ?_;refine h9 ?_;refine o9 (jG LO J J (fun w1 hs=>SW _ 0 eg (0+ (j- 1) *1) tA q.A _ tc q.xs.length q.c (Wz (rg rs k)) q.xs w1 (cell_of_row w1 _ _ _ _ (0,0) (hs.cel (k:=4) J)) (J4 (hs.cel (k:=4) J)) (C1 (hs.all 1 _ J).1 (by rw [List.getElem?_map,hq];rfl)) (jdl (hs.all 1 _ J).1) (by have:= (jaF (hs.all 3 _ J).1).pts;rw [VM] at this;exact this) (zQ (hs.all 2 _ J).1 hqm) Om (by have:=hmem q hqm;omega))) ?_;refine S2 ?_
    exact Js h_7 ⟨vb (by rw [show decide (0<j) =true from decide_eq_true hj0,jiJ,GB,hq,he];rfl),sz⟩ (u9 J)
   ·refine S7 ?_
    exact Js h_7 ⟨vb (by rw [show decide (0<j) =false from decide_eq_false Om,jiS]),sz⟩ (u9 J)
  ·refine v9 ?_;refine cZ (fun c2=> ?_) (fun c2=> ?_)
   ·simp only [jig,decide_eq_true_eq] at c2
    obtain ⟨hj0,hle⟩ :=c2
    refine S10 ?_
    exact qa hL2 (j- 1) (⟨by omega,fun q hq=>SY Om hj0 hle hjq q hq⟩) Om ⟨vi Om,sz⟩ (u9 J)
   ·have hins:V9 wv e (Ki wv l) = (Ki wv l).take j++e:: (Ki wv l).drop j:=Cn D6 (wq D6 l) Om hjq (SZ Om c2)
    refine S8 ?_;refine jX J J (wu) J (lb J) (fun b4=> ?_);refine KQ 5 1 J J ?_;refine N2 ?_;refine a9 (QS J J J jS Om) ?_;refine S1 ?_;refine JK (k:=5) rfl jS JA Dc rfl Dc rfl rfl rfl (fun w' hs=>jfk (hs.all 1 _ rfl).1 hjk) ((fun u hu=>by obtain ⟨q,_,rfl⟩ :=jiD.1 (jiL hu);rfl)) (by unfold maxLen;omega) Om (jif _) (fun r1=> ?_);refine N7 ?_;refine jX J J (qN J) J (lb J) (fun b5=> ?_);refine N1 ?_;refine JK (k:=5) J jS JA Dc J Dc J J J (fun w' hs=>qD hs (k:=6) J J) (by simp [Value.oneCell']) (by unfold maxLen;omega) Om (jif _) (fun r2=> ?_);refine N6 ?_;refine a9 (KZ J J J jS Om) ?_;refine S1 ?_;refine JK (k:=5) rfl jS JA Dc rfl Dc rfl rfl rfl (fun w' hs=>jfl (hs.all 1 _ rfl).1 hjk) ((fun u hu=>by obtain ⟨q,_,rfl⟩ :=jiD.1 (jiX hu);rfl)) (by unfold maxLen;omega) Om (jif _) (fun r3=> ?_);refine N2 ?_;refine Wb 2 3 J J Dc J ?_;refine t9 ?_;refine S7 ?_
    exact Jd hL1 ((k+1,r3,l++ [e])) (⟨show k+1≤n by omega,by rw [jiG,hmp,wU (by rw [jip];omega),CZ Om,he];rfl⟩) (by simp only;omega) ⟨(by rw [show 0+j+1+ (k- j) =k+1 by omega];rfl),vi Om,sz⟩ (fun _ h=> (h.picks [0,4,2] Dc).upto ⟨J,by rw [Bl,hins,show 0+j+1+ (k- j) =k+1 by omega,jiG,jiv,List.map_take,List.map_drop,he];simp [Pc.val,VM],by rw [he];exact(vZ _ _).symm,trivial⟩)
 ·have hkn:k=n:=Om
  subst hkn
  refine P4 2 J (Bj (lt:=wv) (l:=l)).symm ?_;refine t9 ?_;refine S8 ?_;refine a9 (JF J J (xQ J)) ?_;refine S4 ?_;refine jJ J (JZ (k:=0) J jE J J) ?_
  intro w' hs
  have hrs: (Ki wv l).map (·.xs) =Wq rs:= (by rw [Cv,hmp,jiu (by rw [jip];omega)];rfl)
  exact⟨rA,rc,rfl,XM hs (kr:=1) (kp:=2) rfl rfl Dc rfl hsl hrs (fun j hj=>by have:=OO hok hj;omega),hs.fin⟩
def intOf:Option Value→Int
 | some (.int _ x) =>x
 | _=>0
def Xd (w:World) :Value→List Pn
 | .slice (some p) n _=> (List.range n).map fun k=> (intOf (w.cell? ⟨p.block,p.off+k*2,none⟩),intOf (w.cell? ⟨p.block,p.off+k*2+1,none⟩))
 | _=> []
theorem Xe {xs:List Pn} (h:Pts w A n xs) :Xd w (.slice A n c) =xs:=by
 have hl:=h.1
 by_cases h0:0<n
 ·obtain ⟨b,o,rfl,_,hc⟩ :=h.2 h0
  apply jjp
  ·simp [Xd,hl]
  ·intro k h1 h2
   simp only [Xd,jje,jjB]
   rw [(hc k Om).1,(hc k Om).2,U5 h2]
   rfl
 ·obtain rfl:n=0:=by omega
  obtain rfl:xs= [] :=jiE hl
  cases A<;>rfl
theorem TD {w':World} {xs:List Pn} {X:List Nat} (h:Pts w A n xs) (ho:Ovx ⟨w,X⟩ w') (hA:0<n→VW A∉X) :Pts w' A n xs:=⟨h.1,fun h0=>by
 obtain ⟨b,o,rfl,hb,hc⟩ :=h.2 h0
 have e:w'.heap[b]? =w.heap[b]? :=ho.block b hb (hA h0)
 refine⟨b,o,J,jio hb ho.size,fun k hk=> ?_⟩
 rw [World.cell?_of_block (a:=⟨b,o+k*2,none⟩) e,World.cell?_of_block (a:=⟨b,o+k*2+1,none⟩) e]
 exact hc k hk⟩
theorem jcm (hP: (vu l).P w) :∀x∈l,∀y∈l,QI (fun u v=>WW (Xd w u) (Xd w v)) x.val y.val=wv x y:=fun x hx y hy=>by
 have e:WW (Xd w x.val) (Xd w y.val) =WW x.xs y.xs:=by rw [Pc.val,Pc.val,Xe (zQ hP hx),Xe (zQ hP hy)]
 exact decide_eq_decide.2 (by show WW (Xd w x.val) (Xd w y.val) <0↔_;rw [e])
theorem Dr (hs:St w0 Rs w) {kr kp:Nat} (hr:Rs[kr]? =some (JS B 74 1 n (l.map Pc.val) x)) (hp:Rs[kp]? =some (vu l)) (hne:kr≠kp) (hl:l.length=n) (hb:∀e∈l,e.xs.length≤1048577∧∀p∈e.xs,YZ p) (hn:n≤1099511627776) :
  Calls Tryz.prog 117 #[.slice x.1 n x.2, .func (.func 118) #[] #[]] w fun e w'=>e= .returned (.tuple #[])∧Wrs (JS B 74 1 n (l.map Pc.val) x).F w w'∧(JS 0 74 1 n ((Ki wv l).map Pc.val) x).P w':=by
 have hrow:w.ownsRow B 74 1 (.slice x.1 n x.2) n (l.map Pc.val) := (hs.all kr _ hr).1
 have hP: (vu l).P w:= (hs.all kp _ hp).1
 rcases hrow.2 with⟨e,e2⟩ |⟨g,cap,cur,e,hbg,hg,hcap,hmax,hsz,htk⟩
 ·subst e2
  obtain rfl:l= [] :=jiE hl
  refine(ja0 x.1 x.2 _ w).mono ?_
  rintro e' w' ⟨rfl,hO⟩
  refine⟨J,Wrs.of hO,?_⟩
  show w'.ownsRow 0 74 1 (.slice x.1 0 x.2) 0 _
  rw [e]
  exact World.ownsRow_nil _ _ _ _
 ·injection e with e1 e3 e4
  have hF:∀b,b=g→(JS B 74 1 n (l.map Pc.val) x).F b:=by
   rintro b rfl
   show Value.ownBlock (.slice x.1 n x.2) =some _
   rw [e1]
   rfl
  have hcl:cur.toList.length=cap:=by simp [hsz]
  rw [jja] at htk
  have hcur:cur= (l.map Pc.val++cur.toList.drop n).toArray:=by
   rw [←htk,jiq,jjd]
  have hap:∀e∈l,0<e.xs.length→VW e.A∉ [g] :=fun e he h0 hm=>by
   have hm':VW e.A=g:=by simpa using hm
   have h1:= (hP.1 e.res (jiD.2 ⟨e,he,rfl⟩)).1
   obtain ⟨b,o,T',cs,hA,hlo,hhi,_⟩ := (jaF h1).2 h0
   refine hs.apart kr kp _ _ hne hr hp g (hF g J) ⟨e.res,jiD.2 ⟨e,he,J⟩,?_⟩
   rw [hA] at hm'
   exact⟨hm'▸hlo,hm'▸hhi⟩
  have hC:CmpOk w g (·∈l.map Pc.val) (fun u v=>WW (Xd w u) (Xd w v)) :=by
   refine⟨fun u hu v hv w' ho=> ?_,D5.by (Xd w),fun u hu=> ?_⟩
   ·obtain ⟨e,he,rfl⟩ :=jiD.1 hu
    obtain ⟨f,hf,rfl⟩ :=jiD.1 hv
    have:=hb e he
    have:=hb f hf
    rw [Pc.val,Pc.val,Xe (zQ hP he),Xe (zQ hP hf)]
    exact LP _ _ _ _ _ _ e.xs f.xs w' (TD (zQ hP he) ho (hap e he)) (TD (zQ hP hf) ho (hap f hf)) (hb e he).2 (hb f hf).2 Om Om
   ·obtain ⟨e,he,rfl⟩ :=jiD.1 hu
    rfl
  have:=PB g 74 (l.map Pc.val) (cur.toList.drop n) n x.2 _ _ w hC (by rw [←hcur];exact hg) (by rw [jip,hl]) hn (fun u hu=>hu)
  rw [e1]
  refine this.mono ?_
  rintro e' w' ⟨rfl,hw,hh⟩
  refine⟨J,⟨hw.os,hw.tape,hw.output,hw.size,fun c hc hnc=>hw.block c hc (fun ec=>hnc (hF c ec))⟩,?_⟩
  have em:Ki (QI fun u v=>WW (Xd w u) (Xd w v)) (l.map Pc.val) = (Ki wv l).map Pc.val:=Ra (jcm hP)
  rw [em] at hh
  have hml: ((Ki wv l).map Pc.val).length=n:=by rw [jip,Qs,hl]
  refine⟨by rw [hml,jja], .inr ⟨g,x.2,_,by rw [e1],jie _,hh,by rw [e4];exact hcap,by rw [e4];exact hmax,?_,?_⟩⟩
  ·rw [ji1,jid,hml,jiy,hcl,e4]
   omega
  ·rw [jja,jjj,List.take_append_of_le_length Om,jiu Om]
def RingsC (w:World) (A:Option Addr) (n:Nat) (rs:List Jp) :Prop:=
 rs.length=n∧(0<n→∃b o,A=some ⟨b,o,none⟩∧b<w.heap.size∧∀k,k<n→∃Ak ck,w.cell? ⟨b,o+k,none⟩ =some (.slice Ak (rg rs k).length ck)∧Pts w Ak (rg rs k).length (rg rs k)∧(rg rs k).length≤ck)
theorem RingsC.over {w':World} (h:RingsC w A n rs) (hb:Over w w') :RingsC w' A n rs:=by
 refine⟨h.1,fun hn=> ?_⟩
 obtain ⟨b,o,hA,hlt,hc⟩ :=h.2 hn
 refine⟨b,o,hA,jio hlt hb.size,fun k hk=> ?_⟩
 obtain ⟨Ak,ck,h1,h2,h3⟩ :=hc k hk
 exact⟨Ak,ck,((Jr hb).1 b _ hlt).trans h1,h2.over hb,h3⟩
theorem RingsC.at_ (h:RingsC w A n rs) (hk:k<n) :
  ∃b o Ak ck,A=some ⟨b,o,none⟩∧b<w.heap.size∧w.cell? ⟨b,o+k,none⟩ =some (.slice Ak (rg rs k).length ck)∧Pts w Ak (rg rs k).length (rg rs k)∧(rg rs k).length≤ck:=by
 obtain ⟨b,o,hA,hb,hc⟩ :=h.2 Om
 obtain ⟨Ak,ck,h1,h2,h3⟩ :=hc k hk
 exact⟨b,o,Ak,ck,hA,hb,h1,h2,h3⟩
theorem vt (A:Option Addr) (n c:Nat) (rs:List Jp) (w:World) (h:RingsC w A n rs) (hok:okRs rs) :
  Calls Tryz.prog 59 #[qG A n c] w fun e w'=>∃A' c',e= .returned (qG A' n c')∧OwnG w.heap.size w'.heap.size w' A' n (Wq rs)∧Over w w':=by
 have hl:=h.1
 have hn40:=hok.1
 refine jK (m:=25) (Tryz.func59) J J (lb J) ?_;refine S3 ?_;refine aX (fun b1=> ?_);refine N1 ?_;refine aL (fun b2=> ?_);refine N4 ?_;refine aL (fun b3=> ?_);refine N1 ?_;refine Q7 (T:=74) (s:=1) ?_;refine t9 ?_;refine Vl ?_;refine t9 ?_;refine S9 ?_;refine JE (X:=Nat×(Option Addr×Nat)×List Pc) (fun x=>x.1≤n∧x.2.2.map (·.xs) = (rs.map Wz).take x.1) (fun x=>n- x.1) (fun x=> [(9, .int .i64 (x.1:Int))]) (kK [2,3,7,8]) (fun x=> [.cel b1 26 [.slice A n c], .cel b2 26 [.slice none 0 0], .cel b3 26 [.slice x.2.1.1 x.1 x.2.1.2],JS (Bs.N ⟨w,[]⟩) 74 1 x.1 (x.2.2.map Pc.val) x.2.1,vu x.2.2]) (0,(none,0),[]) (⟨jie _,J⟩) ⟨J,sz⟩ (fun _ h=>h) ?_
 intro⟨k,⟨rA,rc⟩,l⟩ hx L hL1
 refine v9 ?_;refine r9 ?_
 have hk:k≤n:=hx.1
 have hmp:l.map (·.xs) = (rs.map Wz).take k:=hx.2
 have hlk:l.length=k:= (by have:=congrArg List.length hmp;rw [jip,jim,jip] at this;omega)
 refine S5 ?_;refine cZ (fun c1=> ?_) (fun c1=> ?_)
 ·have hlt:k<n:=Om
  obtain ⟨bb,oo,Ak,ck,rfl,hbB,hcell,hpts,hck⟩ :=h.at_ hlt
  obtain ⟨hr0,hr1,hr2⟩ :=hok.at_ (show k<rs.length by omega)
  refine S7 ?_;refine a9 (jk J J JW J (OX hcell hbB)) ?_;refine S1 ?_;refine aL (fun b4=> ?_);refine N4 ?_;refine JH 5 ?_;refine dV 0 [1] ?_;refine dK 1 ?_;refine dV 2 [3] ?_;refine qd (i:=3) J Dc Kr J ?_;refine JQ GN (v:=fun x=> .agg #[.slice x.1 _ x.2]) (r:=fun x=>JS 0 28 2 _ _ x) (H:=fun _=>True) J J J (lb J) (fun w1 hs=>CJ (Rj Ak _ ck (rg rs k) w1 (hpts.over hs.fin) hr0 hck hr2 hr1)) ?_
  rintro⟨cA,cc⟩ -
  refine n9 ?_;refine UB (u9 J) ?_;refine qd (i:=4) J Dc Kr J ?_;refine jX J J (qN J) J (lb J) (fun b5=> ?_);refine n9 ?_;refine JU (u9 J) ?_;refine kN J Kr J ?_;refine JK (k:=3) J jS JA Dc J Dc J J J (fun w' hs=>qD hs (k:=7) J J) (by simp [Value.oneCell']) (by unfold maxLen;omega) Om (jif _) (fun r1=> ?_);refine n9 ?_;refine Q0 8 [2] ?_;refine dK 6 ?_;refine qd (i:=7) J Dc Kr J ?_;refine S1 ?_;refine JU (uw [2] J) ?_;refine JB Kr ?_;refine ZM 6 J VM (fun clo chi=> ?_);refine t9 ?_;refine Wb 4 6 J J Dc J ?_;refine t9 ?_;refine S6 ?_
  exact Jd hL1 ((k+1,r1,l++ [⟨Wz (rg rs k),cA,cc,clo,chi⟩])) (⟨show k+1≤n by omega,by rw [jiG,hmp,wU (by rw [jip];omega),CZ Om];rfl⟩) (by simp only;omega) ⟨vi Om,sz⟩ (fun _ h=>h.upto ⟨J,J,J,by rw [jiG];simp [Pc.val,VM],(vZ _ _).symm,trivial⟩)
 ·have hkn:k=n:=Om
  subst hkn
  have hall:l.map (·.xs) =rs.map Wz:= (by rw [hmp,jiu (by rw [jip];omega)])
  have hbd:∀e∈l,e.xs.length≤1048577∧∀p∈e.xs,YZ p:= (fun e he=>by obtain ⟨r,hr,e2⟩ :=jiD.1 (hall▸jiD.2 ⟨e,he,rfl⟩ :e.xs∈rs.map Wz);rw [←e2];exact⟨by rw [VM];exact(hok.2 r hr).2.1,fun p hp=> (hok.2 r hr).2.2 p (jbb.1 hp)⟩)
  refine S10 ?_;refine vT (k:=3) (r':=JS 0 74 1 k ((Ki wv l).map Pc.val) (rA,rc)) K2 J J J Dc J (fun w1 hs=>Dr hs (kr:=3) (kp:=4) J J Dc hlk hbd Om) (fun _ h=>h) J ?_;refine N1 ?_;refine P4 4 J (Bj (lt:=wv) (l:=l)).symm ?_;refine t9 ?_;refine S7 ?_;refine jJ J (JZ (k:=1) J jE J J) ?_
  intro w' hs
  have hrs: (Ki wv l).map (·.xs) =Wq rs:= (by rw [Cv,hall];rfl)
  exact⟨rA,rc,rfl,XM hs (kr:=3) (kp:=4) rfl rfl Dc rfl ((Qs l).trans hlk) hrs (fun j hj=>by have:=OO hok hj;omega),hs.fin⟩
end Go.Proofs.YtbahojdbmmjkcaaGreat
