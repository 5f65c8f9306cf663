import Derived.Test.YtbahojdbmmjkcaaGreatPTurn
import Derived.Test.YtbahojdbmmjkcaaGreatPStab
set_option linter.unusedVariables false
set_option linter.unusedSimpArgs false
namespace Go.Proofs.YtbahojdbmmjkcaaGreat
open Go Go.RowKit
variable {A:Option Addr} {B c j k n:Nat} {K:Act→World→Prop} {Rs:List Res} {args:Array Value} {e:Pc} {env:List (Nat×Value)} {l:List Pc} {rs:List jK} {w:World} {w0:Bs} {x:Option Addr×Nat} {xs:List Value}
set_option maxRecDepth 100000
set_option maxHeartbeats 4000000
def wb (e f:Pc) :Bool:=WB e.xs f.xs
theorem BE:Weak wb:=BD.by (fun e:Pc=>e.xs)
theorem NC (l:List Pc) : (kG wb l).map (·.xs) =kG WB (l.map (·.xs)) := (FQ (fun x _ y _=>rfl)).symm
theorem BI {l l':List Res} (hp:l.Perm l') (h: (Res.many l).P w) : (Res.many l').P w:=
 ⟨fun r hr=>h.1 r (hp.mem_iff.2 hr),h.2.perm hp (fun hxy b h1 h2=>hxy b h2 h1)⟩
theorem T9 (k:Nat) {l':List Pc} (hk:Rs[k]? =some (ke l)) (hp:l.Perm l') (h:At n env w0 (Rs.set k (ke l')) K) :At n env w0 Rs K:=
 fun a w hf hs=>h a w hf (hs.chg hk (fun hP=>BI (hp.map Pc.res) hP) (fun b ⟨r,hr,hb⟩ =>⟨r,(hp.map Pc.res).mem_iff.2 hr,hb⟩) rfl)
theorem NP {P:Program} {f:FuncId} {w1:World} {T s:Nat} (h:Calls P f args w1 fun e w'=>∃v,e= .returned (.agg #[v])∧w'.ownsRow w1.heap.size T s v n xs∧Over w1 w') :
  Calls P f args w1 fun e w'=>∃x:Option Addr×Nat,e= .returned (.agg #[.slice x.1 n x.2])∧Over w1 w'∧(JQ 0 T s n xs x).P w'∧(∀b,(JQ 0 T s n xs x).F b→w1.heap.size≤b)∧(JQ 0 T s n xs x).B=0∧True:=by
 refine h.mono ?_
 rintro e w' ⟨v,rfl,hr,hO⟩
 obtain ⟨x,rfl⟩ :=WL hr
 exact⟨x,rfl,hO,Vy hr (jgw _),fun b hb=> (hr.lt b hb).1,sz⟩
theorem jdW {U m:Nat} (h:w.ownsRow B U 1 (.slice A m c) m xs) (hk:k≤m) :Src 1 (sliced A 0 k c 1) k (xs.take k) w:=by
 have hlen:=h.1
 refine⟨by rw [jgJ];omega,?_⟩
 rcases h.2 with⟨e,e2⟩ |⟨g,cap,cur,e,hb,hg,hcap,_⟩
 ·injection e with e1 e3 e4
  subst e1 e2 e4
  obtain rfl:k=0:=by omega
  exact .inl ⟨rfl,rfl⟩
 ·injection e with e1 e3 e4
  subst e1 e4
  rw [w6]
  refine .inr ⟨_,_,J,fun j u hu=>h.cells J j u ?_⟩
  rw [List.getElem?_take] at hu
  split at hu
  ·exact hu
  ·cases hu
theorem jdX {U m:Nat} (h:w.ownsRow B U 1 (.slice A m c) m xs) (hk:k≤m) :Src 1 (sliced A k m c 1) (m- k) (xs.drop k) w:=by
 have hlen:=h.1
 refine⟨by rw [jgQ];omega,?_⟩
 rcases h.2 with⟨e,e2⟩ |⟨g,cap,cur,e,hb,hg,hcap,_⟩
 ·injection e with e1 e3 e4
  subst e1 e2 e4
  obtain rfl:k=0:=by omega
  exact .inl ⟨rfl,rfl⟩
 ·injection e with e1 e3 e4
  subst e1 e4
  rw [ut hcap hk]
  refine .inr ⟨_,_,J,fun j u hu=> ?_⟩
  rw [List.getElem?_drop] at hu
  have:=h.cells rfl _ u hu
  have hj:= (List.getElem?_eq_some_iff.1 hu).1
  rw [QJ] at this⊢
  rw [←this]
  congr 2
  unfold Ys
  rw [if_neg Om]
  omega
theorem Y8 (h: (ke l).P w) (he:e∈l) :Pts w e.A e.xs.length e.xs:=by
 have h1:= (h.1 e.res (jgO.2 ⟨e,he,rfl⟩)).1
 exact(CL h1).pts
def okRs (rs:List jK) :Prop:=rs.length≤1048576∧∀r∈rs,0<r.length∧r.length≤1048577∧∀p∈r,zQ p
theorem okRs.at_ (h:okRs rs) (hk:k<rs.length) :0< (rg rs k).length∧(rg rs k).length≤1048577∧∀p∈rg rs k,zQ p:=by
 have:=h.2 rs[k] (jgH hk)
 rwa [Vm hk] at this
def wX (rs:List jK) :List jK:=kG WB (rs.map Wc)
theorem MC (rs:List jK) : (wX rs).length=rs.length:=by rw [wX,Qh,jgF]
theorem jbn {r:jK} (h:r∈wX rs) :∃q∈rs,Wc q=r:=by
 rw [wX,zN] at h
 exact jgO.1 h
theorem MD (h:okRs rs) (hj:j< (wX rs).length) : (rg (wX rs) j).length≤1048577:=by
 obtain ⟨q,hq,e⟩ :=jbn (jgH hj)
 rw [Vm hj] at e
 rw [←e,VC]
 exact(h.2 q hq).2.1
theorem Ph (h:k<rs.length) :rg (rs.map Wc) k=Wc (rg rs k) :=by simp [rg,List.getD,h]
def XU (e:Pc) (l:List Pc) (j:Nat) :Bool:=match (kG wb l)[j- 1]? with
 | some q=>wb e q
 | none=>false
theorem Rt (hj:j≤(kG wb l).length) (hj0:0<j) (hle:XU e l j=true) (h:∀q∈(kG wb l).drop j,wb e q=true) :∀q∈(kG wb l).drop (j- 1),wb e q=true:=fun q hq=>by
 rw [jg3 Om,show j- 1+1=j by omega] at hq
 rcases jgK.1 hq with rfl | hq
 ·unfold XU at hle
  rw [List.getElem?_eq_getElem Om] at hle
  exact hle
 ·exact h q hq
theorem Ru (hj:j≤(kG wb l).length) (h: (decide (0<j) &&XU e l j) =false) :j=0∨∃p,(kG wb l)[j- 1]? =some p∧wb e p=false:=by
 by_cases h0:0<j
 ·rw [decide_eq_true h0,jg2] at h
  refine .inr ⟨(kG wb l)[j- 1]'(by omega),List.getElem?_eq_getElem Om,?_⟩
  unfold XU at h
  rw [List.getElem?_eq_getElem Om] at h
  exact h
 ·exact .inl Om
theorem Pj {U s m g:Nat} {v:Value} (h:w.ownsRow B U s (.slice (some ⟨g,0,none⟩) m c) m xs) (hv:xs[j]? =some v) :w.cell? ⟨g,0+j*1,none⟩ =some v:=by
 have:=h.cells rfl j v hv
 rw [QJ] at this
 rw [jhn]
 exact this
theorem jbT {U s m g:Nat} (h:w.ownsRow B U s (.slice (some ⟨g,0,none⟩) m c) m xs) :g<w.heap.size:= (h.lt g rfl).2
theorem D1 (A:Option Addr) (n c:Nat) (rs:List jK) (w:World) (h:Rings w A n rs) (hok:okRs rs) :
  Calls Tryz.prog 188 #[.slice A n c] w fun e w'=>∃A' c',e= .returned (qK A' n c')∧OwnG w.heap.size w'.heap.size w' A' n (wX rs)∧Over w w':=by
 have hl:=h.1
 have hn40:=hok.1
 refine jT (m:=48) (Tryz.func188) J J (lb J) ?_;refine S3 ?_;refine aL (fun b1=> ?_);refine N4 ?_;refine Jw J J (wa) J (lb J) (fun b2=> ?_);refine vK 1 1 J J ?_;refine N2 ?_;refine vu ?_;refine t9 ?_;refine S6 ?_;refine JN (X:=Nat×(Option Addr×Nat)×List Pc) (fun x=>x.1≤n∧x.2.2.map (·.xs) = (rs.map Wc).take x.1) (fun x=>n- x.1) (fun x=> [(3, .slice x.2.1.1 x.1 x.2.1.2),(4, .int .i64 (x.1:Int))]) (kK [0,2]) (fun x=> [.cel b1 26 [.slice none 0 0],JQ (Bs.N ⟨w,[]⟩) 74 1 x.1 ((kG wb x.2.2).map Pc.val) x.2.1,ke x.2.2]) (0,(some ⟨b2,0,none⟩,0),[]) (⟨jgw _,J⟩) ⟨J,sz⟩ (fun _ h=>h) ?_
 intro⟨k,⟨rA,rc⟩,l⟩ hx L hL1
 refine v9 ?_;refine r9 ?_
 have hk:k≤n:=hx.1
 have hmp:l.map (·.xs) = (rs.map Wc).take k:=hx.2
 have hlk:l.length=k:= (by have:=congrArg List.length hmp;rw [jgF,jgJ,jgF] at this;omega)
 have hsl: (kG wb l).length=k:= (Qh l).trans hlk
 have hmem:∀q∈l,q.xs.length≤1048577:= (fun q hq=>by obtain ⟨r,hr,e⟩ :=jgO.1 (jg7 (hmp▸jgO.2 ⟨q,hq,rfl⟩));rw [←e,VC];exact(hok.2 r hr).2.1)
 refine Q1 (fun w hs=>W8 (hs.all 1 _ J).1) ?_
 intro hcap
 refine S8 ?_;refine cZ (fun c1=> ?_) (fun c1=> ?_)
 ·have hlt:k<n:=Om
  obtain ⟨bb,oo,Ak,ck,rfl,hbB,hcell,hpts,hmax⟩ :=h.at_ hlt
  obtain ⟨hr0,hr1,hr2⟩ :=hok.at_ (show k<rs.length by omega)
  refine S10 ?_;refine JR x6 (v:=fun x=> .agg #[.slice x.1 _ x.2]) (r:=fun x=>JQ 0 28 2 _ _ x) (H:=fun _=>True) J J J (lb J) (fun w1 hs=>NP (OM bb (oo+k*1) Ak _ ck (rg rs k) w1 (by rw [jhn];exact qP hcell hbB w1 hs) (jgA hbB hs.fin.size) (hpts.over hs.fin) hr0 hr1)) ?_
  rintro⟨tA,tc⟩ -
  refine N1 ?_;refine aL (fun b3=> ?_);refine N3 ?_;refine y4 3 J VC (fun clo chi=> ?_);refine t9 ?_
  obtain ⟨e,he⟩ :∃e:Pc,e=⟨Wc (rg rs k),tA,tc,clo,chi⟩ :=⟨_,rfl⟩
  have hexs:e.xs.length= (rg rs k).length:= (by rw [he];exact VC)
  refine S8 ?_;refine J9 (X:=Nat) (fun j=>j≤k∧∀q∈(kG wb l).drop j,wb e q=true) (fun j=>j) (fun j=> [(6, .int .i64 (j:Int))]) (kK [0,2,3,4,9,10,11,12,15,16,17,18,5,19,20]) k (⟨jgx _,fun q hq=>by rw [jhq Om] at hq;cases hq⟩) ⟨rfl,sz⟩ ?_
  intro j hj L hL2
  refine v9 ?_
  obtain ⟨hjk,hjq⟩ :=hj
  refine S1 ?_;refine qn [(29, .bool (decide (0<j) &&XU e l j))] (kK [0,2,3,4,9,10,11,12,15,16,17,18,5,19,20,6]) (fun L h_7=> ?_) ?_
  ·refine S4 ?_;refine cV 23 (fun g1=> ?_) (fun g1=> ?_)
   ·have hj0:0<j:=Om
    refine Q1 (fun w hs=>KX (k:=1) J hs Om) ?_
    rintro⟨eg,rfl⟩
    obtain ⟨q,hq⟩ :∃q,(kG wb l)[j- 1]? =some q:=⟨_,List.getElem?_eq_getElem Om⟩
    have hqm:q∈l:= (zN l q).1 (List.mem_of_getElem? hq)
    refine S5 ?_;refine o9 ((JL J J J Om Om).as (congrArg _ (show((j:Int) - 1) = ((j- 1:Nat) :Int) by omega))) ?_;refine h9 ?_;refine o9 (jG (j:=j- 1) J J J jw Om) ?_;refine h9 ?_;refine o9 (jJ HM J J (fun w1 hs=>Ro _ 0 eg (0+ (j- 1) *1) tA q.A _ tc q.xs.length q.c (Wc (rg rs k)) q.xs w1 (cell_of_row w1 _ _ _ _ (0,0) (hs.cel (k:=4) J)) (JZ (hs.cel (k:=4) J)) (Pj (hs.all 1 _ J).1 (by rw [List.getElem?_map,hq];rfl)) (jbT (hs.all 1 _ J).1) (by have:= (CL (hs.all 3 _ J).1).pts;rw [VC] at this;exact this) (Y8 (hs.all 2 _ J).1 hqm) Om (by have:=hmem q hqm;omega))) ?_;refine S2 ?_
    exact Jr h_7 ⟨vb (by rw [show decide (0<j) =true from decide_eq_true hj0,jg2,XU,hq,he];rfl),sz⟩ (u9 J)
   ·refine S7 ?_
    exact Jr h_7 ⟨vb (by rw [show decide (0<j) =false from decide_eq_false Om,jhd]),sz⟩ (u9 J)
  ·refine v9 ?_;refine cZ (fun c2=> ?_) (fun c2=> ?_)
   ·simp only [jgy,decide_eq_true_eq] at c2
    obtain ⟨hj0,hle⟩ :=c2
    refine S10 ?_
    exact JY hL2 (j- 1) (⟨by omega,fun q hq=>Rt Om hj0 hle hjq q hq⟩) Om ⟨vi Om,sz⟩ (u9 J)
   ·have hins:VQ wb e (kG wb l) = (kG wb l).take j++e:: (kG wb l).drop j:=Nu BE (V4 BE l) Om hjq (Ru Om c2)
    refine S8 ?_;refine Jw J J (wa) J (lb J) (fun b4=> ?_);refine vK 5 1 J J ?_;refine N2 ?_;refine a9 (kS J J J jw Om) ?_;refine S1 ?_;refine JV (k:=5) rfl jw Js Dc rfl Dc rfl rfl rfl (fun w' hs=>jdW (hs.all 1 _ rfl).1 hjk) ((fun u hu=>by obtain ⟨q,_,rfl⟩ :=jgO.1 (jg7 hu);rfl)) (by unfold maxLen;omega) Om (jgx _) (fun r1=> ?_);refine N7 ?_;refine Jw J J (qp J) J (lb J) (fun b5=> ?_);refine N1 ?_;refine JV (k:=5) J jw Js Dc J Dc J J J (fun w' hs=>qR hs (k:=6) J J) (by simp [Value.oneCell']) (by unfold maxLen;omega) Om (jgx _) (fun r2=> ?_);refine N6 ?_;refine a9 (vG J J J jw Om) ?_;refine S1 ?_;refine JV (k:=5) rfl jw Js Dc rfl Dc rfl rfl rfl (fun w' hs=>jdX (hs.all 1 _ rfl).1 hjk) ((fun u hu=>by obtain ⟨q,_,rfl⟩ :=jgO.1 (jhh hu);rfl)) (by unfold maxLen;omega) Om (jgx _) (fun r3=> ?_);refine N2 ?_;refine KU 2 3 J J Dc J ?_;refine t9 ?_;refine S7 ?_
    exact j4 hL1 ((k+1,r3,l++ [e])) (⟨show k+1≤n by omega,by rw [jgS,hmp,VA (by rw [jgF];omega),Ph Om,he];rfl⟩) (by simp only;omega) ⟨(by rw [show 0+j+1+ (k- j) =k+1 by omega];rfl),vi Om,sz⟩ (fun _ h=> (h.picks [0,4,2] Dc).upto ⟨J,by rw [M1,hins,show 0+j+1+ (k- j) =k+1 by omega,jgS,jgM,List.map_take,List.map_drop,he];simp [Pc.val,VC],by rw [he];exact(K9 _ _).symm,trivial⟩)
 ·have hkn:k=n:=Om
  subst hkn
  refine T9 2 J (M0 (lt:=wb) (l:=l)).symm ?_;refine t9 ?_;refine S8 ?_;refine a9 (J0 J J (wH J)) ?_;refine S4 ?_;refine jL J (qh (k:=0) J jI J J) ?_
  intro w' hs
  have hrs: (kG wb l).map (·.xs) =wX rs:= (by rw [NC,hmp,jgR (by rw [jgF];omega)];rfl)
  exact⟨rA,rc,rfl,NY hs (kr:=1) (kp:=2) rfl rfl Dc rfl hsl hrs (fun j hj=>by have:=MD hok hj;omega),hs.fin⟩
def intOf:Option Value→Int
 | some (.int _ x) =>x
 | _=>0
def xv (w:World) :Value→List Pn
 | .slice (some p) n _=> (List.range n).map fun k=> (intOf (w.cell? ⟨p.block,p.off+k*2,none⟩),intOf (w.cell? ⟨p.block,p.off+k*2+1,none⟩))
 | _=> []
theorem xw {xs:List Pn} (h:Pts w A n xs) :xv w (.slice A n c) =xs:=by
 have hl:=h.1
 by_cases h0:0<n
 ·obtain ⟨b,o,rfl,_,hc⟩ :=h.2 h0
  apply jhH
  ·simp [xv,hl]
  ·intro k h1 h2
   simp only [xv,jhx,jhY]
   rw [(hc k Om).1,(hc k Om).2,yq h2]
   rfl
 ·obtain rfl:n=0:=by omega
  obtain rfl:xs= [] :=jgX hl
  cases A<;>rfl
theorem RW {w':World} {xs:List Pn} {X:List Nat} (h:Pts w A n xs) (ho:Ovx ⟨w,X⟩ w') (hA:0<n→Vl A∉X) :Pts w' A n xs:=⟨h.1,fun h0=>by
 obtain ⟨b,o,rfl,hb,hc⟩ :=h.2 h0
 have e:w'.heap[b]? =w.heap[b]? :=ho.block b hb (hA h0)
 refine⟨b,o,J,jgA hb ho.size,fun k hk=> ?_⟩
 rw [World.cell?_of_block (a:=⟨b,o+k*2,none⟩) e,World.cell?_of_block (a:=⟨b,o+k*2+1,none⟩) e]
 exact hc k hk⟩
theorem jaJ (hP: (ke l).P w) :∀x∈l,∀y∈l,Qu (fun u v=>WA (xv w u) (xv w v)) x.val y.val=wb x y:=fun x hx y hy=>by
 have e:WA (xv w x.val) (xv w y.val) =WA x.xs y.xs:=by rw [Pc.val,Pc.val,xw (Y8 hP hx),xw (Y8 hP hy)]
 exact decide_eq_decide.2 (by show WA (xv w x.val) (xv w y.val) <0↔_;rw [e])
theorem OY (hs:St w0 Rs w) {kr kp:Nat} (hr:Rs[kr]? =some (JQ B 74 1 n (l.map Pc.val) x)) (hp:Rs[kp]? =some (ke l)) (hne:kr≠kp) (hl:l.length=n) (hb:∀e∈l,e.xs.length≤1048577∧∀p∈e.xs,zQ p) (hn:n≤1099511627776) :
  Calls Tryz.prog 117 #[.slice x.1 n x.2, .func (.func 118) #[] #[]] w fun e w'=>e= .returned (.tuple #[])∧Wrs (JQ B 74 1 n (l.map Pc.val) x).F w w'∧(JQ 0 74 1 n ((kG wb l).map Pc.val) x).P w':=by
 have hrow:w.ownsRow B 74 1 (.slice x.1 n x.2) n (l.map Pc.val) := (hs.all kr _ hr).1
 have hP: (ke l).P w:= (hs.all kp _ hp).1
 rcases hrow.2 with⟨e,e2⟩ |⟨g,cap,cur,e,hbg,hg,hcap,hmax,hsz,htk⟩
 ·subst e2
  obtain rfl:l= [] :=jgX hl
  refine(C5 x.1 x.2 _ w).mono ?_
  rintro e' w' ⟨rfl,hO⟩
  refine⟨J,Wrs.of hO,?_⟩
  show w'.ownsRow 0 74 1 (.slice x.1 0 x.2) 0 _
  rw [e]
  exact World.ownsRow_nil _ _ _ _
 ·injection e with e1 e3 e4
  have hF:∀b,b=g→(JQ B 74 1 n (l.map Pc.val) x).F b:=by
   rintro b rfl
   show Value.ownBlock (.slice x.1 n x.2) =some _
   rw [e1]
   rfl
  have hcl:cur.toList.length=cap:=by simp [hsz]
  rw [jhn] at htk
  have hcur:cur= (l.map Pc.val++cur.toList.drop n).toArray:=by
   rw [←htk,jgI,jhB]
  have hap:∀e∈l,0<e.xs.length→Vl e.A∉ [g] :=fun e he h0 hm=>by
   have hm':Vl e.A=g:=by simpa using hm
   have h1:= (hP.1 e.res (jgO.2 ⟨e,he,rfl⟩)).1
   obtain ⟨b,o,T',cs,hA,hlo,hhi,_⟩ := (CL h1).2 h0
   refine hs.apart kr kp _ _ hne hr hp g (hF g J) ⟨e.res,jgO.2 ⟨e,he,J⟩,?_⟩
   rw [hA] at hm'
   exact⟨hm'▸hlo,hm'▸hhi⟩
  have hC:CmpOk w g (·∈l.map Pc.val) (fun u v=>WA (xv w u) (xv w v)) :=by
   refine⟨fun u hu v hv w' ho=> ?_,BD.by (xv w),fun u hu=> ?_⟩
   ·obtain ⟨e,he,rfl⟩ :=jgO.1 hu
    obtain ⟨f,hf,rfl⟩ :=jgO.1 hv
    have:=hb e he
    have:=hb f hf
    rw [Pc.val,Pc.val,xw (Y8 hP he),xw (Y8 hP hf)]
    exact HQ _ _ _ _ _ _ e.xs f.xs w' (RW (Y8 hP he) ho (hap e he)) (RW (Y8 hP hf) ho (hap f hf)) (hb e he).2 (hb f hf).2 Om Om
   ·obtain ⟨e,he,rfl⟩ :=jgO.1 hu
    rfl
  have:=TB g 74 (l.map Pc.val) (cur.toList.drop n) n x.2 _ _ w hC (by rw [←hcur];exact hg) (by rw [jgF,hl]) hn (fun u hu=>hu)
  rw [e1]
  refine this.mono ?_
  rintro e' w' ⟨rfl,hw,hh⟩
  refine⟨J,⟨hw.os,hw.tape,hw.output,hw.size,fun c hc hnc=>hw.block c hc (fun ec=>hnc (hF c ec))⟩,?_⟩
  have em:kG (Qu fun u v=>WA (xv w u) (xv w v)) (l.map Pc.val) = (kG wb l).map Pc.val:=FQ (jaJ hP)
  rw [em] at hh
  have hml: ((kG wb l).map Pc.val).length=n:=by rw [jgF,Qh,hl]
  refine⟨by rw [hml,jhn], .inr ⟨g,x.2,_,by rw [e1],jgw _,hh,by rw [e4];exact hcap,by rw [e4];exact hmax,?_,?_⟩⟩
  ·rw [jhk,jgv,hml,jgQ,hcl,e4]
   omega
  ·rw [jhn,jhw,List.take_append_of_le_length Om,jgR Om]
def RingsC (w:World) (A:Option Addr) (n:Nat) (rs:List jK) :Prop:=
 rs.length=n∧(0<n→∃b o,A=some ⟨b,o,none⟩∧b<w.heap.size∧∀k,k<n→∃Ak ck,w.cell? ⟨b,o+k,none⟩ =some (.slice Ak (rg rs k).length ck)∧Pts w Ak (rg rs k).length (rg rs k)∧(rg rs k).length≤ck)
theorem RingsC.over {w':World} (h:RingsC w A n rs) (hb:Over w w') :RingsC w' A n rs:=by
 refine⟨h.1,fun hn=> ?_⟩
 obtain ⟨b,o,hA,hlt,hc⟩ :=h.2 hn
 refine⟨b,o,hA,jgA hlt hb.size,fun k hk=> ?_⟩
 obtain ⟨Ak,ck,h1,h2,h3⟩ :=hc k hk
 exact⟨Ak,ck,((Jt hb).1 b _ hlt).trans h1,h2.over hb,h3⟩
theorem RingsC.at_ (h:RingsC w A n rs) (hk:k<n) :
  ∃b o Ak ck,A=some ⟨b,o,none⟩∧b<w.heap.size∧w.cell? ⟨b,o+k,none⟩ =some (.slice Ak (rg rs k).length ck)∧Pts w Ak (rg rs k).length (rg rs k)∧(rg rs k).length≤ck:=by
 obtain ⟨b,o,hA,hb,hc⟩ :=h.2 Om
 obtain ⟨Ak,ck,h1,h2,h3⟩ :=hc k hk
 exact⟨b,o,Ak,ck,hA,hb,h1,h2,h3⟩
theorem K8 (A:Option Addr) (n c:Nat) (rs:List jK) (w:World) (h:RingsC w A n rs) (hok:okRs rs) :
  Calls Tryz.prog 59 #[qK A n c] w fun e w'=>∃A' c',e= .returned (qK A' n c')∧OwnG w.heap.size w'.heap.size w' A' n (wX rs)∧Over w w':=by
 have hl:=h.1
 have hn40:=hok.1
 refine jT (m:=25) (Tryz.func59) J J (lb J) ?_;refine S3 ?_;refine aX (fun b1=> ?_);refine N1 ?_;refine aL (fun b2=> ?_);refine N4 ?_;refine aL (fun b3=> ?_);refine N1 ?_;refine kh (T:=74) (s:=1) ?_;refine t9 ?_;refine vu ?_;refine t9 ?_;refine S9 ?_;refine JN (X:=Nat×(Option Addr×Nat)×List Pc) (fun x=>x.1≤n∧x.2.2.map (·.xs) = (rs.map Wc).take x.1) (fun x=>n- x.1) (fun x=> [(9, .int .i64 (x.1:Int))]) (kK [2,3,7,8]) (fun x=> [.cel b1 26 [.slice A n c], .cel b2 26 [.slice none 0 0], .cel b3 26 [.slice x.2.1.1 x.1 x.2.1.2],JQ (Bs.N ⟨w,[]⟩) 74 1 x.1 (x.2.2.map Pc.val) x.2.1,ke x.2.2]) (0,(none,0),[]) (⟨jgw _,J⟩) ⟨J,sz⟩ (fun _ h=>h) ?_
 intro⟨k,⟨rA,rc⟩,l⟩ hx L hL1
 refine v9 ?_;refine r9 ?_
 have hk:k≤n:=hx.1
 have hmp:l.map (·.xs) = (rs.map Wc).take k:=hx.2
 have hlk:l.length=k:= (by have:=congrArg List.length hmp;rw [jgF,jgJ,jgF] at this;omega)
 refine S5 ?_;refine cZ (fun c1=> ?_) (fun c1=> ?_)
 ·have hlt:k<n:=Om
  obtain ⟨bb,oo,Ak,ck,rfl,hbB,hcell,hpts,hck⟩ :=h.at_ hlt
  obtain ⟨hr0,hr1,hr2⟩ :=hok.at_ (show k<rs.length by omega)
  refine S7 ?_;refine a9 (jk J J JB J (uW hcell hbB)) ?_;refine S1 ?_;refine aL (fun b4=> ?_);refine N4 ?_;refine JS 5 ?_;refine dV 0 [1] ?_;refine dK 1 ?_;refine dV 2 [3] ?_;refine J8 (i:=3) J Dc Kr J ?_;refine JR X2 (v:=fun x=> .agg #[.slice x.1 _ x.2]) (r:=fun x=>JQ 0 28 2 _ _ x) (H:=fun _=>True) J J J (lb J) (fun w1 hs=>NP (FZ Ak _ ck (rg rs k) w1 (hpts.over hs.fin) hr0 hck hr2 hr1)) ?_
  rintro⟨cA,cc⟩ -
  refine n9 ?_;refine WP (u9 J) ?_;refine J8 (i:=4) J Dc Kr J ?_;refine Jw J J (qp J) J (lb J) (fun b5=> ?_);refine n9 ?_;refine JU (u9 J) ?_;refine KB J Kr J ?_;refine JV (k:=3) J jw Js Dc J Dc J J J (fun w' hs=>qR hs (k:=7) J J) (by simp [Value.oneCell']) (by unfold maxLen;omega) Om (jgx _) (fun r1=> ?_);refine n9 ?_;refine QH 8 [2] ?_;refine dK 6 ?_;refine J8 (i:=7) J Dc Kr J ?_;refine S1 ?_;refine JU (uw [2] J) ?_;refine JI Kr ?_;refine y4 6 J VC (fun clo chi=> ?_);refine t9 ?_;refine KU 4 6 J J Dc J ?_;refine t9 ?_;refine S6 ?_
  exact j4 hL1 ((k+1,r1,l++ [⟨Wc (rg rs k),cA,cc,clo,chi⟩])) (⟨show k+1≤n by omega,by rw [jgS,hmp,VA (by rw [jgF];omega),Ph Om];rfl⟩) (by simp only;omega) ⟨vi Om,sz⟩ (fun _ h=>h.upto ⟨J,J,J,by rw [jgS];simp [Pc.val,VC],(K9 _ _).symm,trivial⟩)
 ·have hkn:k=n:=Om
  subst hkn
  have hall:l.map (·.xs) =rs.map Wc:= (by rw [hmp,jgR (by rw [jgF];omega)])
  have hbd:∀e∈l,e.xs.length≤1048577∧∀p∈e.xs,zQ p:= (fun e he=>by obtain ⟨r,hr,e2⟩ :=jgO.1 (hall▸jgO.2 ⟨e,he,rfl⟩ :e.xs∈rs.map Wc);rw [←e2];exact⟨by rw [VC];exact(hok.2 r hr).2.1,fun p hp=> (hok.2 r hr).2.2 p (Ej.1 hp)⟩)
  refine S10 ?_;refine Va (k:=3) (r':=JQ 0 74 1 k ((kG wb l).map Pc.val) (rA,rc)) KJ J J J Dc J (fun w1 hs=>OY hs (kr:=3) (kp:=4) J J Dc hlk hbd Om) (fun _ h=>h) J ?_;refine N1 ?_;refine T9 4 J (M0 (lt:=wb) (l:=l)).symm ?_;refine t9 ?_;refine S7 ?_;refine jL J (qh (k:=1) J jI J J) ?_
  intro w' hs
  have hrs: (kG wb l).map (·.xs) =wX rs:= (by rw [NC,hall];rfl)
  exact⟨rA,rc,rfl,NY hs (kr:=3) (kp:=4) rfl rfl Dc rfl ((Qh l).trans hlk) hrs (fun j hj=>by have:=MD hok hj;omega),hs.fin⟩
end Go.Proofs.YtbahojdbmmjkcaaGreat
