import Derived.Test.YtbahojdbmmjkcaaGreatMTurn
import Derived.Test.YtbahojdbmmjkcaaGreatMStab
set_option linter.unusedVariables false
set_option linter.unusedSimpArgs false
namespace Go.Proofs.YtbahojdbmmjkcaaGreat
open Go Go.RowKit
variable {A:Option Addr} {B c j k n:Nat} {K:Act→World→Prop} {Rs:List Res} {args:Array Value} {e:Pc} {env:List (Nat×Value)} {l:List Pc} {rs:List jO} {w:World} {w0:Bs} {x:Option Addr×Nat} {xs:List Value}
set_option maxRecDepth 100000
set_option maxHeartbeats 4000000
def Ww (e f:Pc) :Bool:=uJ e.xs f.xs
theorem Fp:Weak Ww:=Fo.by (fun e:Pc=>e.xs)
theorem CQ (l:List Pc) : (Kd Ww l).map (·.xs) =Kd uJ (l.map (·.xs)) := (Rj (fun x _ y _=>rfl)).symm
theorem Fs {l l':List Res} (hp:l.Perm l') (h: (Res.many l).P w) : (Res.many l').P w:=
 ⟨fun r hr=>h.1 r (hp.mem_iff.2 hr),h.2.perm hp (fun hxy b h1 h2=>hxy b h2 h1)⟩
theorem Cg (k:Nat) {l':List Pc} (hk:Rs[k]? =some (vF l)) (hp:l.Perm l') (h:At n env w0 (Rs.set k (vF l')) K) :At n env w0 Rs K:=
 fun a w hf hs=>h a w hf (hs.chg hk (fun hP=>Fs (hp.map Pc.res) hP) (fun b ⟨r,hr,hb⟩ =>⟨r,(hp.map Pc.res).mem_iff.2 hr,hb⟩) rfl)
theorem C0 {P:Program} {f:FuncId} {w1:World} {T s:Nat} (h:Calls P f args w1 fun e w'=>∃v,e= .returned (.agg #[v])∧w'.ownsRow w1.heap.size T s v n xs∧Over w1 w') :
  Calls P f args w1 fun e w'=>∃x:Option Addr×Nat,e= .returned (.agg #[.slice x.1 n x.2])∧Over w1 w'∧(J3 0 T s n xs x).P w'∧(∀b,(J3 0 T s n xs x).F b→w1.heap.size≤b)∧(J3 0 T s n xs x).B=0∧True:=by
 refine h.mono ?_
 rintro e w' ⟨v,rfl,hr,hO⟩
 obtain ⟨x,rfl⟩ :=uN hr
 exact⟨x,rfl,hO,UJ hr (jjo _),fun b hb=> (hr.lt b hb).1,sz⟩
theorem jgj {U m:Nat} (h:w.ownsRow B U 1 (.slice A m c) m xs) (hk:k≤m) :Src 1 (sliced A 0 k c 1) k (xs.take k) w:=by
 have hlen:=h.1
 refine⟨by rw [jjC];omega,?_⟩
 rcases h.2 with⟨e,e2⟩ |⟨g,cap,cur,e,hb,hg,hcap,_⟩
 ·injection e with e1 e3 e4
  subst e1 e2 e4
  obtain rfl:k=0:=by omega
  exact .inl ⟨rfl,rfl⟩
 ·injection e with e1 e3 e4
  subst e1 e4
  rw [ue]
  refine .inr ⟨_,_,J,fun j u hu=>h.cells J j u ?_⟩
  rw [List.getElem?_take] at hu
  split at hu
  ·exact hu
  ·cases hu
theorem jgk {U m:Nat} (h:w.ownsRow B U 1 (.slice A m c) m xs) (hk:k≤m) :Src 1 (sliced A k m c 1) (m- k) (xs.drop k) w:=by
 have hlen:=h.1
 refine⟨by rw [jjO];omega,?_⟩
 rcases h.2 with⟨e,e2⟩ |⟨g,cap,cur,e,hb,hg,hcap,_⟩
 ·injection e with e1 e3 e4
  subst e1 e2 e4
  obtain rfl:k=0:=by omega
  exact .inl ⟨rfl,rfl⟩
 ·injection e with e1 e3 e4
  subst e1 e4
  rw [UK hcap hk]
  refine .inr ⟨_,_,J,fun j u hu=> ?_⟩
  rw [List.getElem?_drop] at hu
  have:=h.cells rfl _ u hu
  have hj:= (List.getElem?_eq_some_iff.1 hu).1
  rw [Q1] at this⊢
  rw [←this]
  congr 2
  unfold zJ
  rw [if_neg Om]
  omega
theorem ZD (h: (vF l).P w) (he:e∈l) :Pts w e.A e.xs.length e.xs:=by
 have h1:= (h.1 e.res (jjx.2 ⟨e,he,rfl⟩)).1
 exact(jdF h1).pts
def okRs (rs:List jO) :Prop:=rs.length≤1048576∧∀r∈rs,0<r.length∧r.length≤1048577∧∀p∈r,xe p
theorem okRs.at_ (h:okRs rs) (hk:k<rs.length) :0< (rg rs k).length∧(rg rs k).length≤1048577∧∀p∈rg rs k,xe p:=by
 have:=h.2 rs[k] (jju hk)
 rwa [wu hk] at this
def vw (rs:List jO) :List jO:=Kd uJ (rs.map ui)
theorem Bn (rs:List jO) : (vw rs).length=rs.length:=by rw [vw,Qw,jjB]
theorem jds {r:jO} (h:r∈vw rs) :∃q∈rs,ui q=r:=by
 rw [vw,Z9] at h
 exact jjx.1 h
theorem Bo (h:okRs rs) (hj:j< (vw rs).length) : (rg (vw rs) j).length≤1048577:=by
 obtain ⟨q,hq,e⟩ :=jds (jju hj)
 rw [wu hj] at e
 rw [←e,wK]
 exact(h.2 q hq).2.1
theorem Ek (h:k<rs.length) :rg (rs.map ui) k=ui (rg rs k) :=by simp [rg,List.getD,h]
def Hu (e:Pc) (l:List Pc) (j:Nat) :Bool:=match (Kd Ww l)[j- 1]? with
 | some q=>Ww e q
 | none=>false
theorem Tf (hj:j≤(Kd Ww l).length) (hj0:0<j) (hle:Hu e l j=true) (h:∀q∈(Kd Ww l).drop j,Ww e q=true) :∀q∈(Kd Ww l).drop (j- 1),Ww e q=true:=fun q hq=>by
 rw [jj5 Om,show j- 1+1=j by omega] at hq
 rcases jjw.1 hq with rfl | hq
 ·unfold Hu at hle
  rw [List.getElem?_eq_getElem Om] at hle
  exact hle
 ·exact h q hq
theorem Tg (hj:j≤(Kd Ww l).length) (h: (decide (0<j) &&Hu e l j) =false) :j=0∨∃p,(Kd Ww l)[j- 1]? =some p∧Ww e p=false:=by
 by_cases h0:0<j
 ·rw [decide_eq_true h0,jjG] at h
  refine .inr ⟨(Kd Ww l)[j- 1]'(by omega),List.getElem?_eq_getElem Om,?_⟩
  unfold Hu at h
  rw [List.getElem?_eq_getElem Om] at h
  exact h
 ·exact .inl Om
theorem Em {U s m g:Nat} {v:Value} (h:w.ownsRow B U s (.slice (some ⟨g,0,none⟩) m c) m xs) (hv:xs[j]? =some v) :w.cell? ⟨g,0+j*1,none⟩ =some v:=by
 have:=h.cells rfl j v hv
 rw [Q1] at this
 rw [jki]
 exact this
theorem jdW {U s m g:Nat} (h:w.ownsRow B U s (.slice (some ⟨g,0,none⟩) m c) m xs) :g<w.heap.size:= (h.lt g rfl).2
theorem Iz (A:Option Addr) (n c:Nat) (rs:List jO) (w:World) (h:Rings w A n rs) (hok:okRs rs) :
  Calls Tryz.prog 188 #[.slice A n c] w fun e w'=>∃A' c',e= .returned (qr A' n c')∧OwnG w.heap.size w'.heap.size w' A' n (vw rs)∧Over w w':=by
 have hl:=h.1
 have hn40:=hok.1
 refine j6 (m:=48) (Tryz.func188) J J (lb J) ?_;refine S3 ?_;refine aL (fun b1=> ?_);refine N4 ?_;refine Jy J J (Wv) J (lb J) (fun b2=> ?_);refine Wi 1 1 J J ?_;refine N2 ?_;refine Vz ?_;refine t9 ?_;refine S6 ?_;refine JX (X:=Nat×(Option Addr×Nat)×List Pc) (fun x=>x.1≤n∧x.2.2.map (·.xs) = (rs.map ui).take x.1) (fun x=>n- x.1) (fun x=> [(3, .slice x.2.1.1 x.1 x.2.1.2),(4, .int .i64 (x.1:Int))]) (kK [0,2]) (fun x=> [.cel b1 26 [.slice none 0 0],J3 (Bs.N ⟨w,[]⟩) 74 1 x.1 ((Kd Ww x.2.2).map Pc.val) x.2.1,vF x.2.2]) (0,(some ⟨b2,0,none⟩,0),[]) (⟨jjo _,J⟩) ⟨J,sz⟩ (fun _ h=>h) ?_
 intro⟨k,⟨rA,rc⟩,l⟩ hx L hL1
 refine v9 ?_;refine r9 ?_
 have hk:k≤n:=hx.1
 have hmp:l.map (·.xs) = (rs.map ui).take k:=hx.2
 have hlk:l.length=k:= (by have:=congrArg List.length hmp;rw [jjB,jjC,jjB] at this;omega)
 have hsl: (Kd Ww l).length=k:= (Qw l).trans hlk
 have hmem:∀q∈l,q.xs.length≤1048577:= (fun q hq=>by obtain ⟨r,hr,e⟩ :=jjx.1 (jj6 (hmp▸jjx.2 ⟨q,hq,rfl⟩));rw [←e,wK];exact(hok.2 r hr).2.1)
 refine kL (fun w hs=>Uo (hs.all 1 _ J).1) ?_
 intro hcap
 refine S8 ?_;refine cZ (fun c1=> ?_) (fun c1=> ?_)
 ·have hlt:k<n:=Om
  obtain ⟨bb,oo,Ak,ck,rfl,hbB,hcell,hpts,hmax⟩ :=h.at_ hlt
  obtain ⟨hr0,hr1,hr2⟩ :=hok.at_ (show k<rs.length by omega)
  refine S10 ?_;refine JU Gu (v:=fun x=> .agg #[.slice x.1 _ x.2]) (r:=fun x=>J3 0 28 2 _ _ x) (H:=fun _=>True) J J J (lb J) (fun w1 hs=>C0 (Dz bb (oo+k*1) Ak _ ck (rg rs k) w1 (by rw [jki];exact Qi hcell hbB w1 hs) (jjy hbB hs.fin.size) (hpts.over hs.fin) hr0 hr1)) ?_
  rintro⟨tA,tc⟩ -
  refine N1 ?_;refine aL (fun b3=> ?_);refine N3 ?_;refine zR 3 J wK (fun clo chi=> ?_);refine t9 ?_
  obtain ⟨e,he⟩ :∃e:Pc,e=⟨ui (rg rs k),tA,tc,clo,chi⟩ :=⟨_,rfl⟩
  have hexs:e.xs.length= (rg rs k).length:= (by rw [he];exact wK)
  refine S8 ?_;refine qv (X:=Nat) (fun j=>j≤k∧∀q∈(Kd Ww l).drop j,Ww e q=true) (fun j=>j) (fun j=> [(6, .int .i64 (j:Int))]) (kK [0,2,3,4,9,10,11,12,15,16,17,18,5,19,20]) k (⟨jjm _,fun q hq=>by rw [jkg Om] at hq;cases hq⟩) ⟨rfl,sz⟩ ?_
  intro j hj L hL2
  refine v9 ?_
  obtain ⟨hjk,hjq⟩ :=hj
  refine S1 ?_;refine qt [(29, .bool (decide (0<j) &&Hu e l j))] (kK [0,2,3,4,9,10,11,12,15,16,17,18,5,19,20,6]) (fun L h_7=> ?_) ?_
  ·refine S4 ?_;refine cV 23 (fun g1=> ?_) (fun g1=> ?_)
   ·have hj0:0<j:=Om
    refine kL (fun w hs=>wH (k:=1) J hs Om) ?_
    rintro⟨eg,rfl⟩
    obtain ⟨q,hq⟩ :∃q,(Kd Ww l)[j- 1]? =some q:=⟨_,List.getElem?_eq_getElem Om⟩
    have hqm:q∈l:= (Z9 l q).1 (List.mem_of_getElem? hq)
    refine S5 ?_;refine o9 ((JF J J J Om Om).as (congrArg _ (show((j:Int) - 1) = ((j- 1:Nat) :Int) by omega))) ?_;refine h9 ?_;refine o9 (jV (j:=j- 1) J J J jJ Om) ?_;refine h9 ?_;refine o9 (jM Mu J J (fun w1 hs=>Td _ 0 eg (0+ (j- 1) *1) tA q.A _ tc q.xs.length q.c (ui (rg rs k)) q.xs w1 (cell_of_row w1 _ _ _ _ (0,0) (hs.cel (k:=4) J)) (JT (hs.cel (k:=4) J)) (Em (hs.all 1 _ J).1 (by rw [List.getElem?_map,hq];rfl)) (jdW (hs.all 1 _ J).1) (by have:= (jdF (hs.all 3 _ J).1).pts;rw [wK] at this;exact this) (ZD (hs.all 2 _ J).1 hqm) Om (by have:=hmem q hqm;omega))) ?_;refine S2 ?_
    exact Jo h_7 ⟨vb (by rw [show decide (0<j) =true from decide_eq_true hj0,jjG,Hu,hq,he];rfl),sz⟩ (u9 J)
   ·refine S7 ?_
    exact Jo h_7 ⟨vb (by rw [show decide (0<j) =false from decide_eq_false Om,jjU]),sz⟩ (u9 J)
  ·refine v9 ?_;refine cZ (fun c2=> ?_) (fun c2=> ?_)
   ·simp only [jjl,decide_eq_true_eq] at c2
    obtain ⟨hj0,hle⟩ :=c2
    refine S10 ?_
    exact qf hL2 (j- 1) (⟨by omega,fun q hq=>Tf Om hj0 hle hjq q hq⟩) Om ⟨vi Om,sz⟩ (u9 J)
   ·have hins:wd Ww e (Kd Ww l) = (Kd Ww l).take j++e:: (Kd Ww l).drop j:=CF Fp (Wo Fp l) Om hjq (Tg Om c2)
    refine S8 ?_;refine Jy J J (Wv) J (lb J) (fun b4=> ?_);refine Wi 5 1 J J ?_;refine N2 ?_;refine a9 (Kv J J J jJ Om) ?_;refine S1 ?_;refine JY (k:=5) rfl jJ Jw Dc rfl Dc rfl rfl rfl (fun w' hs=>jgj (hs.all 1 _ rfl).1 hjk) ((fun u hu=>by obtain ⟨q,_,rfl⟩ :=jjx.1 (jj6 hu);rfl)) (by unfold maxLen;omega) Om (jjm _) (fun r1=> ?_);refine N7 ?_;refine Jy J J (qz J) J (lb J) (fun b5=> ?_);refine N1 ?_;refine JY (k:=5) J jJ Jw Dc J Dc J J J (fun w' hs=>Qb hs (k:=6) J J) (by simp [Value.oneCell']) (by unfold maxLen;omega) Om (jjm _) (fun r2=> ?_);refine N6 ?_;refine a9 (VM J J J jJ Om) ?_;refine S1 ?_;refine JY (k:=5) rfl jJ Jw Dc rfl Dc rfl rfl rfl (fun w' hs=>jgk (hs.all 1 _ rfl).1 hjk) ((fun u hu=>by obtain ⟨q,_,rfl⟩ :=jjx.1 (jkf hu);rfl)) (by unfold maxLen;omega) Om (jjm _) (fun r3=> ?_);refine N2 ?_;refine wt 2 3 J J Dc J ?_;refine t9 ?_;refine S7 ?_
    exact Jq hL1 ((k+1,r3,l++ [e])) (⟨show k+1≤n by omega,by rw [jjQ,hmp,VO (by rw [jjB];omega),Ek Om,he];rfl⟩) (by simp only;omega) ⟨(by rw [show 0+j+1+ (k- j) =k+1 by omega];rfl),vi Om,sz⟩ (fun _ h=> (h.picks [0,4,2] Dc).upto ⟨J,by rw [BN,hins,show 0+j+1+ (k- j) =k+1 by omega,jjQ,jjF,List.map_take,List.map_drop,he];simp [Pc.val,wK],by rw [he];exact(vo _ _).symm,trivial⟩)
 ·have hkn:k=n:=Om
  subst hkn
  refine Cg 2 J (BM (lt:=Ww) (l:=l)).symm ?_;refine t9 ?_;refine S8 ?_;refine a9 (JR J J (XH J)) ?_;refine S4 ?_;refine jK J (J8 (k:=0) J jv J J) ?_
  intro w' hs
  have hrs: (Kd Ww l).map (·.xs) =vw rs:= (by rw [CQ,hmp,jjR (by rw [jjB];omega)];rfl)
  exact⟨rA,rc,rfl,IZ hs (kr:=1) (kp:=2) rfl rfl Dc rfl hsl hrs (fun j hj=>by have:=Bo hok hj;omega),hs.fin⟩
def intOf:Option Value→Int
 | some (.int _ x) =>x
 | _=>0
def X2 (w:World) :Value→List Pn
 | .slice (some p) n _=> (List.range n).map fun k=> (intOf (w.cell? ⟨p.block,p.off+k*2,none⟩),intOf (w.cell? ⟨p.block,p.off+k*2+1,none⟩))
 | _=> []
theorem X3 {xs:List Pn} (h:Pts w A n xs) :X2 w (.slice A n c) =xs:=by
 have hl:=h.1
 by_cases h0:0<n
 ·obtain ⟨b,o,rfl,_,hc⟩ :=h.2 h0
  apply jkC
  ·simp [X2,hl]
  ·intro k h1 h2
   simp only [X2,jkx,jkY]
   rw [(hc k Om).1,(hc k Om).2,yU h2]
   rfl
 ·obtain rfl:n=0:=by omega
  obtain rfl:xs= [] :=jjW hl
  cases A<;>rfl
theorem TL {w':World} {xs:List Pn} {X:List Nat} (h:Pts w A n xs) (ho:Ovx ⟨w,X⟩ w') (hA:0<n→uo A∉X) :Pts w' A n xs:=⟨h.1,fun h0=>by
 obtain ⟨b,o,rfl,hb,hc⟩ :=h.2 h0
 have e:w'.heap[b]? =w.heap[b]? :=ho.block b hb (hA h0)
 refine⟨b,o,J,jjy hb ho.size,fun k hk=> ?_⟩
 rw [World.cell?_of_block (a:=⟨b,o+k*2,none⟩) e,World.cell?_of_block (a:=⟨b,o+k*2+1,none⟩) e]
 exact hc k hk⟩
theorem jcV (hP: (vF l).P w) :∀x∈l,∀y∈l,QJ (fun u v=>uI (X2 w u) (X2 w v)) x.val y.val=Ww x y:=fun x hx y hy=>by
 have e:uI (X2 w x.val) (X2 w y.val) =uI x.xs y.xs:=by rw [Pc.val,Pc.val,X3 (ZD hP hx),X3 (ZD hP hy)]
 exact decide_eq_decide.2 (by show uI (X2 w x.val) (X2 w y.val) <0↔_;rw [e])
theorem DI (hs:St w0 Rs w) {kr kp:Nat} (hr:Rs[kr]? =some (J3 B 74 1 n (l.map Pc.val) x)) (hp:Rs[kp]? =some (vF l)) (hne:kr≠kp) (hl:l.length=n) (hb:∀e∈l,e.xs.length≤1048577∧∀p∈e.xs,xe p) (hn:n≤1099511627776) :
  Calls Tryz.prog 117 #[.slice x.1 n x.2, .func (.func 118) #[] #[]] w fun e w'=>e= .returned (.tuple #[])∧Wrs (J3 B 74 1 n (l.map Pc.val) x).F w w'∧(J3 0 74 1 n ((Kd Ww l).map Pc.val) x).P w':=by
 have hrow:w.ownsRow B 74 1 (.slice x.1 n x.2) n (l.map Pc.val) := (hs.all kr _ hr).1
 have hP: (vF l).P w:= (hs.all kp _ hp).1
 rcases hrow.2 with⟨e,e2⟩ |⟨g,cap,cur,e,hbg,hg,hcap,hmax,hsz,htk⟩
 ·subst e2
  obtain rfl:l= [] :=jjW hl
  refine(jbc x.1 x.2 _ w).mono ?_
  rintro e' w' ⟨rfl,hO⟩
  refine⟨J,Wrs.of hO,?_⟩
  show w'.ownsRow 0 74 1 (.slice x.1 0 x.2) 0 _
  rw [e]
  exact World.ownsRow_nil _ _ _ _
 ·injection e with e1 e3 e4
  have hF:∀b,b=g→(J3 B 74 1 n (l.map Pc.val) x).F b:=by
   rintro b rfl
   show Value.ownBlock (.slice x.1 n x.2) =some _
   rw [e1]
   rfl
  have hcl:cur.toList.length=cap:=by simp [hsz]
  rw [jki] at htk
  have hcur:cur= (l.map Pc.val++cur.toList.drop n).toArray:=by
   rw [←htk,jjA,jkB]
  have hap:∀e∈l,0<e.xs.length→uo e.A∉ [g] :=fun e he h0 hm=>by
   have hm':uo e.A=g:=by simpa using hm
   have h1:= (hP.1 e.res (jjx.2 ⟨e,he,rfl⟩)).1
   obtain ⟨b,o,T',cs,hA,hlo,hhi,_⟩ := (jdF h1).2 h0
   refine hs.apart kr kp _ _ hne hr hp g (hF g J) ⟨e.res,jjx.2 ⟨e,he,J⟩,?_⟩
   rw [hA] at hm'
   exact⟨hm'▸hlo,hm'▸hhi⟩
  have hC:CmpOk w g (·∈l.map Pc.val) (fun u v=>uI (X2 w u) (X2 w v)) :=by
   refine⟨fun u hu v hv w' ho=> ?_,Fo.by (X2 w),fun u hu=> ?_⟩
   ·obtain ⟨e,he,rfl⟩ :=jjx.1 hu
    obtain ⟨f,hf,rfl⟩ :=jjx.1 hv
    have:=hb e he
    have:=hb f hf
    rw [Pc.val,Pc.val,X3 (ZD hP he),X3 (ZD hP hf)]
    exact Mv _ _ _ _ _ _ e.xs f.xs w' (TL (ZD hP he) ho (hap e he)) (TL (ZD hP hf) ho (hap f hf)) (hb e he).2 (hb f hf).2 Om Om
   ·obtain ⟨e,he,rfl⟩ :=jjx.1 hu
    rfl
  have:=PL g 74 (l.map Pc.val) (cur.toList.drop n) n x.2 _ _ w hC (by rw [←hcur];exact hg) (by rw [jjB,hl]) hn (fun u hu=>hu)
  rw [e1]
  refine this.mono ?_
  rintro e' w' ⟨rfl,hw,hh⟩
  refine⟨J,⟨hw.os,hw.tape,hw.output,hw.size,fun c hc hnc=>hw.block c hc (fun ec=>hnc (hF c ec))⟩,?_⟩
  have em:Kd (QJ fun u v=>uI (X2 w u) (X2 w v)) (l.map Pc.val) = (Kd Ww l).map Pc.val:=Rj (jcV hP)
  rw [em] at hh
  have hml: ((Kd Ww l).map Pc.val).length=n:=by rw [jjB,Qw,hl]
  refine⟨by rw [hml,jki], .inr ⟨g,x.2,_,by rw [e1],jjo _,hh,by rw [e4];exact hcap,by rw [e4];exact hmax,?_,?_⟩⟩
  ·rw [jkl,jjk,hml,jjO,hcl,e4]
   omega
  ·rw [jki,jkr,List.take_append_of_le_length Om,jjR Om]
def RingsC (w:World) (A:Option Addr) (n:Nat) (rs:List jO) :Prop:=
 rs.length=n∧(0<n→∃b o,A=some ⟨b,o,none⟩∧b<w.heap.size∧∀k,k<n→∃Ak ck,w.cell? ⟨b,o+k,none⟩ =some (.slice Ak (rg rs k).length ck)∧Pts w Ak (rg rs k).length (rg rs k)∧(rg rs k).length≤ck)
theorem RingsC.over {w':World} (h:RingsC w A n rs) (hb:Over w w') :RingsC w' A n rs:=by
 refine⟨h.1,fun hn=> ?_⟩
 obtain ⟨b,o,hA,hlt,hc⟩ :=h.2 hn
 refine⟨b,o,hA,jjy hlt hb.size,fun k hk=> ?_⟩
 obtain ⟨Ak,ck,h1,h2,h3⟩ :=hc k hk
 exact⟨Ak,ck,((Jz hb).1 b _ hlt).trans h1,h2.over hb,h3⟩
theorem RingsC.at_ (h:RingsC w A n rs) (hk:k<n) :
  ∃b o Ak ck,A=some ⟨b,o,none⟩∧b<w.heap.size∧w.cell? ⟨b,o+k,none⟩ =some (.slice Ak (rg rs k).length ck)∧Pts w Ak (rg rs k).length (rg rs k)∧(rg rs k).length≤ck:=by
 obtain ⟨b,o,hA,hb,hc⟩ :=h.2 Om
 obtain ⟨Ak,ck,h1,h2,h3⟩ :=hc k hk
 exact⟨b,o,Ak,ck,hA,hb,h1,h2,h3⟩
theorem vW (A:Option Addr) (n c:Nat) (rs:List jO) (w:World) (h:RingsC w A n rs) (hok:okRs rs) :
  Calls Tryz.prog 59 #[qr A n c] w fun e w'=>∃A' c',e= .returned (qr A' n c')∧OwnG w.heap.size w'.heap.size w' A' n (vw rs)∧Over w w':=by
 have hl:=h.1
 have hn40:=hok.1
 refine j6 (m:=25) (Tryz.func59) J J (lb J) ?_;refine S3 ?_;refine aX (fun b1=> ?_);refine N1 ?_;refine aL (fun b2=> ?_);refine N4 ?_;refine aL (fun b3=> ?_);refine N1 ?_;refine kt (T:=74) (s:=1) ?_;refine t9 ?_;refine Vz ?_;refine t9 ?_;refine S9 ?_;refine JX (X:=Nat×(Option Addr×Nat)×List Pc) (fun x=>x.1≤n∧x.2.2.map (·.xs) = (rs.map ui).take x.1) (fun x=>n- x.1) (fun x=> [(9, .int .i64 (x.1:Int))]) (kK [2,3,7,8]) (fun x=> [.cel b1 26 [.slice A n c], .cel b2 26 [.slice none 0 0], .cel b3 26 [.slice x.2.1.1 x.1 x.2.1.2],J3 (Bs.N ⟨w,[]⟩) 74 1 x.1 (x.2.2.map Pc.val) x.2.1,vF x.2.2]) (0,(none,0),[]) (⟨jjo _,J⟩) ⟨J,sz⟩ (fun _ h=>h) ?_
 intro⟨k,⟨rA,rc⟩,l⟩ hx L hL1
 refine v9 ?_;refine r9 ?_
 have hk:k≤n:=hx.1
 have hmp:l.map (·.xs) = (rs.map ui).take k:=hx.2
 have hlk:l.length=k:= (by have:=congrArg List.length hmp;rw [jjB,jjC,jjB] at this;omega)
 refine S5 ?_;refine cZ (fun c1=> ?_) (fun c1=> ?_)
 ·have hlt:k<n:=Om
  obtain ⟨bb,oo,Ak,ck,rfl,hbB,hcell,hpts,hck⟩ :=h.at_ hlt
  obtain ⟨hr0,hr1,hr2⟩ :=hok.at_ (show k<rs.length by omega)
  refine S7 ?_;refine a9 (jl J J JP J (Bu hcell hbB)) ?_;refine S1 ?_;refine aL (fun b4=> ?_);refine N4 ?_;refine JS 5 ?_;refine dV 0 [1] ?_;refine dK 1 ?_;refine dV 2 [3] ?_;refine J7 (i:=3) J Dc Kr J ?_;refine JU HE (v:=fun x=> .agg #[.slice x.1 _ x.2]) (r:=fun x=>J3 0 28 2 _ _ x) (H:=fun _=>True) J J J (lb J) (fun w1 hs=>C0 (Rq Ak _ ck (rg rs k) w1 (hpts.over hs.fin) hr0 hck hr2 hr1)) ?_
  rintro⟨cA,cc⟩ -
  refine n9 ?_;refine UD (u9 J) ?_;refine J7 (i:=4) J Dc Kr J ?_;refine Jy J J (qz J) J (lb J) (fun b5=> ?_);refine n9 ?_;refine JN (u9 J) ?_;refine KV J Kr J ?_;refine JY (k:=3) J jJ Jw Dc J Dc J J J (fun w' hs=>Qb hs (k:=7) J J) (by simp [Value.oneCell']) (by unfold maxLen;omega) Om (jjm _) (fun r1=> ?_);refine n9 ?_;refine Qv 8 [2] ?_;refine dK 6 ?_;refine J7 (i:=7) J Dc Kr J ?_;refine S1 ?_;refine JN (uw [2] J) ?_;refine JJ Kr ?_;refine zR 6 J wK (fun clo chi=> ?_);refine t9 ?_;refine wt 4 6 J J Dc J ?_;refine t9 ?_;refine S6 ?_
  exact Jq hL1 ((k+1,r1,l++ [⟨ui (rg rs k),cA,cc,clo,chi⟩])) (⟨show k+1≤n by omega,by rw [jjQ,hmp,VO (by rw [jjB];omega),Ek Om];rfl⟩) (by simp only;omega) ⟨vi Om,sz⟩ (fun _ h=>h.upto ⟨J,J,J,by rw [jjQ];simp [Pc.val,wK],(vo _ _).symm,trivial⟩)
 ·have hkn:k=n:=Om
  subst hkn
  have hall:l.map (·.xs) =rs.map ui:= (by rw [hmp,jjR (by rw [jjB];omega)])
  have hbd:∀e∈l,e.xs.length≤1048577∧∀p∈e.xs,xe p:= (fun e he=>by obtain ⟨r,hr,e2⟩ :=jjx.1 (hall▸jjx.2 ⟨e,he,rfl⟩ :e.xs∈rs.map ui);rw [←e2];exact⟨by rw [wK];exact(hok.2 r hr).2.1,fun p hp=> (hok.2 r hr).2.2 p (jbn.1 hp)⟩)
  refine S10 ?_;refine Zx (k:=3) (r':=J3 0 74 1 k ((Kd Ww l).map Pc.val) (rA,rc)) vu J J J Dc J (fun w1 hs=>DI hs (kr:=3) (kp:=4) J J Dc hlk hbd Om) (fun _ h=>h) J ?_;refine N1 ?_;refine Cg 4 J (BM (lt:=Ww) (l:=l)).symm ?_;refine t9 ?_;refine S7 ?_;refine jK J (J8 (k:=1) J jv J J) ?_
  intro w' hs
  have hrs: (Kd Ww l).map (·.xs) =vw rs:= (by rw [CQ,hall];rfl)
  exact⟨rA,rc,rfl,IZ hs (kr:=3) (kp:=4) rfl rfl Dc rfl ((Qw l).trans hlk) hrs (fun j hj=>by have:=Bo hok hj;omega),hs.fin⟩
end Go.Proofs.YtbahojdbmmjkcaaGreat
