import Derived.Test.YtjbahemkhphndaaGreatNTurn
import Derived.Test.YtjbahemkhphndaaGreatNStab
set_option linter.unusedVariables false
set_option linter.unusedSimpArgs false
namespace Go.Proofs.YtjbahemkhphndaaGreat
open Go Go.RowKit
variable{A:Option Addr}{B c j k n:Nat}{K:Act->World->Prop}{Rs:List Res}{args:Array Value}{e:Pc}{env:List (Nat×Value)}{l:List Pc}{rs:List jI}{w:World}{w0:Bs}{x:Option Addr×Nat}{xs:List Value}
set_option maxRecDepth 100000
set_option maxHeartbeats 4000000
def Wo(e f:Pc):Bool:=uT e.xs f.xs
theorem Ip:Weak Wo:=Io.by (λe:Pc=>e.xs)
theorem jas(l:List Pc):(Kq Wo l).map (·.xs)=Kq uT (l.map (·.xs)):=(SM (λx _ y _=>rfl)).symm
theorem Iu{l l':List Res}(hp:l.Perm l')(h:(Res.many l).P w):(Res.many l').P w:=
 ⟨λr hr=>h.1 r (hp.mem_iff.2 hr),h.2.perm hp (λhxy b h1 h2=>hxy b h2 h1)⟩
theorem EP(k:Nat){l':List Pc}(hk:Rs[k]? =some (KD l))(hp:l.Perm l')(h:At n env w0 (Rs.set k (KD l')) K):At n env w0 Rs K:=
 λa w hf hs=>h a w hf (hs.chg hk (λhP=>Iu (hp.map Pc.res) hP) (λb ⟨r,hr,hb⟩=>⟨r,(hp.map Pc.res).mem_iff.2 hr,hb⟩) rfl)
theorem jaN{P:Program}{f:FuncId}{w1:World}{T s:Nat}(h:Calls P f args w1 λe w'=>∃v,e=.returned (.agg #[v])/\w'.ownsRow w1.heap.size T s v n xs/\Over w1 w'):
  Calls P f args w1 λe w'=>∃x:Option Addr×Nat,e=.returned (.agg #[.slice x.1 n x.2])/\Over w1 w'/\(JV 0 T s n xs x).P w'/\(∀b,(JV 0 T s n xs x).F b->w1.heap.size<=b)/\(JV 0 T s n xs x).B=0/\True:=by
 refine h.mono ?_;rintro e w' ⟨v,rfl,hr,hO⟩;obtain⟨x,rfl⟩:=Ub hr;exact⟨x,rfl,hO,wI hr (jlN _),λb hb=>(hr.lt b hb).1,sz⟩
theorem jix{U m:Nat}(h:w.ownsRow B U 1 (.slice A m c) m xs)(hk:k<=m):Src 1 (sliced A 0 k c 1) k (xs.take k) w:=by
 have hlen:=h.1;refine⟨by rw[jl3];omega,?_⟩;rcases h.2 with⟨e,e2⟩|⟨g,cap,cur,e,hb,hg,hcap,_⟩
 .injection e with e1 e3 e4
  subst e1 e2 e4;obtain rfl:k=0:=by omega
  exact .inl ⟨rfl,rfl⟩
 .injection e with e1 e3 e4
  subst e1 e4;rw[ui];refine .inr ⟨_,_,J,λj u hu=>h.cells J j u ?_⟩;rw[List.getElem?_take] at hu;split at hu
  .exact hu
  .cases hu
theorem jiy{U m:Nat}(h:w.ownsRow B U 1 (.slice A m c) m xs)(hk:k<=m):Src 1 (sliced A k m c 1) (m-k) (xs.drop k) w:=by
 have hlen:=h.1;refine⟨by rw[jmb];omega,?_⟩;rcases h.2 with⟨e,e2⟩|⟨g,cap,cur,e,hb,hg,hcap,_⟩
 .injection e with e1 e3 e4
  subst e1 e2 e4;obtain rfl:k=0:=by omega
  exact .inl ⟨rfl,rfl⟩
 .injection e with e1 e3 e4
  subst e1 e4;rw[U0 hcap hk];refine .inr ⟨_,_,J,λj u hu=>?_⟩;rw[List.getElem?_drop] at hu;have:=h.cells rfl _ u hu
  have hj:=(List.getElem?_eq_some_iff.1 hu).1;rw[kq] at this⊢;rw[<-this];congr 2;unfold ZG;rw[if_neg Om];omega
theorem xo(h:(KD l).P w)(he:e∈l):Pts w e.A e.xs.length e.xs:=by
 have h1:=(h.1 e.res (jlR.2 ⟨e,he,rfl⟩)).1;exact(jfw h1).pts
def okRs(rs:List jI):Prop:=rs.length<=1048576/\∀r∈rs,0<r.length/\r.length<=1048577/\∀p∈r,Xh p
theorem okRs.at_(h:okRs rs)(hk:k<rs.length):0<(rg rs k).length/\(rg rs k).length<=1048577/\∀p∈rg rs k,Xh p:=by
 have:=h.2 rs[k] (jlY hk)
 rwa [wb hk] at this
def vm(rs:List jI):List jI:=Kq uT (rs.map wQ)
theorem Di(rs:List jI):(vm rs).length=rs.length:=by rw[vm,QC,jlV]
theorem Pk{r:jI}(h:r∈vm rs):∃q∈rs,wQ q=r:=by
 rw[vm,Xc] at h;exact jlR.1 h
theorem Dj(h:okRs rs)(hj:j<(vm rs).length):(rg (vm rs) j).length<=1048577:=by
 obtain⟨q,hq,e⟩:=Pk (jlY hj);rw[wb hj] at e;rw[<-e,wJ];exact(h.2 q hq).2.1
theorem ja2(h:k<rs.length):rg (rs.map wQ) k=wQ (rg rs k):=by simp[rg,List.getD,h]
def LA(e:Pc)(l:List Pc)(j:Nat):Bool:=match (Kq Wo l)[j-1]? with
 |some q=>Wo e q
 |none=>false
theorem NG(hj:j<=(Kq Wo l).length)(hj0:0<j)(hle:LA e l j=true)(h:∀q∈(Kq Wo l).drop j,Wo e q=true):∀q∈(Kq Wo l).drop (j-1),Wo e q=true:=λq hq=>by
 rw[jmu Om,show j-1+1=j by omega] at hq;rcases jlP.1 hq with rfl|hq
 .unfold LA at hle;rw[List.getElem?_eq_getElem Om] at hle;exact hle
 .exact h q hq
theorem NH(hj:j<=(Kq Wo l).length)(h:(decide (0<j) &&LA e l j)=false):j=0\/∃p,(Kq Wo l)[j-1]? =some p/\Wo e p=false:=by
 by_cases h0:0<j
 .rw[decide_eq_true h0,jlZ] at h;refine .inr ⟨(Kq Wo l)[j-1]'(by omega),List.getElem?_eq_getElem Om,?_⟩;unfold LA at h;rw[List.getElem?_eq_getElem Om] at h;exact h
 .exact .inl Om
theorem ja5{U s m g:Nat}{v:Value}(h:w.ownsRow B U s (.slice (some ⟨g,0,none⟩) m c) m xs)(hv:xs[j]? =some v):w.cell? ⟨g,0+j*1,none⟩=some v:=by
 have:=h.cells rfl j v hv;rw[kq] at this;rw[jmL];exact this
theorem jfO{U s m g:Nat}(h:w.ownsRow B U s (.slice (some ⟨g,0,none⟩) m c) m xs):g<w.heap.size:=(h.lt g rfl).2
theorem RN(A:Option Addr)(n c:Nat)(rs:List jI)(w:World)(h:Rings w A n rs)(hok:okRs rs):
  Calls Tryz.prog 46 #[.slice A n c] w λe w'=>∃A' c',e=.returned (qU A' n c')/\OwnG w.heap.size w'.heap.size w' A' n (vm rs)/\Over w w':=by
 have hl:=h.1;have hn40:=hok.1
 refine Jm (m:=48) (Tryz.func46) J J (lb J) ?_;refine S3 ?_;refine aL (λb1=>?_);refine N4 ?_;refine j5 J J (Vv) J (lb J) (λb2=>?_);refine W0 1 1 J J ?_;refine N2 ?_;refine KY ?_;refine t9 ?_;refine S6 ?_;refine JW (X:=Nat×(Option Addr×Nat)×List Pc) (λx=>x.1<=n/\x.2.2.map (·.xs)=(rs.map wQ).take x.1) (λx=>n-x.1) (λx=>[(3,.slice x.2.1.1 x.1 x.2.1.2),(4,.int .i64 (x.1:Int))]) (kK [0,2]) (λx=>[.cel b1 25 [.slice none 0 0],JV (Bs.N ⟨w,[]⟩) 41 1 x.1 ((Kq Wo x.2.2).map Pc.val) x.2.1,KD x.2.2]) (0,(some ⟨b2,0,none⟩,0),[]) (⟨jlN _,J⟩) ⟨J,sz⟩ (λ_ h=>h) ?_;intro⟨k,⟨rA,rc⟩,l⟩ hx L hL1;refine v9 ?_;refine r9 ?_;have hk:k<=n:=hx.1
 have hmp:l.map (·.xs)=(rs.map wQ).take k:=hx.2;have hlk:l.length=k:=(by have:=congrArg List.length hmp;rw[jlV,jl3,jlV] at this;omega)
 have hsl:(Kq Wo l).length=k:=(QC l).trans hlk;have hmem:∀q∈l,q.xs.length<=1048577:=(λq hq=>by obtain⟨r,hr,e⟩:=jlR.1 (jmp (hmp▸jlR.2 ⟨q,hq,rfl⟩));rw[<-e,wJ];exact(hok.2 r hr).2.1)
 refine kW (λw hs=>UD (hs.all 1 _ J).1) ?_;intro hcap;refine S8 ?_;refine cZ (λc1=>?_) (λc1=>?_)
 .have hlt:k<n:=Om;obtain⟨bb,oo,Ak,ck,rfl,hbB,hcell,hpts,hmax⟩:=h.at_ hlt;obtain⟨hr0,hr1,hr2⟩:=hok.at_ (show k<rs.length by omega);refine S10 ?_;refine J4 Hz (v:=λx=>.agg #[.slice x.1 _ x.2]) (r:=λx=>JV 0 36 2 _ _ x) (H:=λ_=>True) J J J (lb J) (λw1 hs=>jaN (Fw bb (oo+k*1) Ak _ ck (rg rs k) w1 (by rw[jmL];exact Ql hcell hbB w1 hs) (jlU hbB hs.fin.size) (hpts.over hs.fin) hr0 hr1)) ?_;rintro⟨tA,tc⟩-;refine N1 ?_;refine aL (λb3=>?_);refine N3 ?_;refine YC 3 J wJ (λclo chi=>?_);refine t9 ?_;obtain⟨e,he⟩:∃e:Pc,e=⟨wQ (rg rs k),tA,tc,clo,chi⟩:=⟨_,rfl⟩;have hexs:e.xs.length=(rg rs k).length:=(by rw[he];exact wJ)
  refine S8 ?_;refine qD (X:=Nat) (λj=>j<=k/\∀q∈(Kq Wo l).drop j,Wo e q=true) (λj=>j) (λj=>[(6,.int .i64 (j:Int))]) (kK [0,2,3,4,9,10,11,12,15,16,17,18,5,19,20]) k (⟨jlL _,λq hq=>by rw[jmG Om] at hq;cases hq⟩) ⟨rfl,sz⟩ ?_;intro j hj L hL2;refine v9 ?_;obtain⟨hjk,hjq⟩:=hj;refine S1 ?_;refine qH [(29,.bool (decide (0<j) &&LA e l j))] (kK [0,2,3,4,9,10,11,12,15,16,17,18,5,19,20,6]) (λL h_7=>?_) ?_
  .refine S4 ?_;refine cV 23 (λg1=>?_) (λg1=>?_)
   .have hj0:0<j:=Om;refine kW (λw hs=>V4 (k:=1) J hs Om) ?_;rintro⟨eg,rfl⟩;obtain⟨q,hq⟩:∃q,(Kq Wo l)[j-1]? =some q:=⟨_,List.getElem?_eq_getElem Om⟩;have hqm:q∈l:=(Xc l q).1 (List.mem_of_getElem? hq)
    refine S5 ?_;refine o9 ((JP J J J Om Om).as (congrArg _ (show((j:Int)-1)=((j-1:Nat):Int) by omega))) ?_;refine h9 ?_;refine o9 (jQ (j:=j-1) J J J jC Om) ?_;refine h9 ?_;refine o9 (jT Ot J J (λw1 hs=>ND _ 0 eg (0+(j-1)*1) tA q.A _ tc q.xs.length q.c (wQ (rg rs k)) q.xs w1 (cell_of_row w1 _ _ _ _ (0,0) (hs.cel (k:=4) J)) (J3 (hs.cel (k:=4) J)) (ja5 (hs.all 1 _ J).1 (by rw[List.getElem?_map,hq];rfl)) (jfO (hs.all 1 _ J).1) (by have:=(jfw (hs.all 3 _ J).1).pts;rw[wJ] at this;exact this) (xo (hs.all 2 _ J).1 hqm) Om (by have:=hmem q hqm;omega))) ?_;refine S2 ?_;exact Jx h_7 ⟨vb (by rw[show decide (0<j)=true from decide_eq_true hj0,jlZ,LA,hq,he];rfl),sz⟩ (u9 J)
   .refine S7 ?_;exact Jx h_7 ⟨vb (by rw[show decide (0<j)=false from decide_eq_false Om,jmg]),sz⟩ (u9 J)
  .refine v9 ?_;refine cZ (λc2=>?_) (λc2=>?_)
   .simp only[jlK,decide_eq_true_eq] at c2;obtain⟨hj0,hle⟩:=c2;refine S10 ?_;exact J6 hL2 (j-1) (⟨by omega,λq hq=>NG Om hj0 hle hjq q hq⟩) Om ⟨vi Om,sz⟩ (u9 J)
   .have hins:wm Wo e (Kq Wo l)=(Kq Wo l).take j++e::(Kq Wo l).drop j:=jah Ip (Wj Ip l) Om hjq (NH Om c2);refine S8 ?_;refine j5 J J (Vv) J (lb J) (λb4=>?_);refine W0 5 1 J J ?_;refine N2 ?_;refine a9 (KQ J J J jC Om) ?_;refine S1 ?_;refine JQ (k:=5) rfl jC Jl Dc rfl Dc rfl rfl rfl (λw' hs=>jix (hs.all 1 _ rfl).1 hjk) ((λu hu=>by obtain⟨q,_,rfl⟩:=jlR.1 (jmp hu);rfl)) (by unfold maxLen;omega) Om (jlL _) (λr1=>?_);refine N7 ?_;refine j5 J J (qe J) J (lb J) (λb5=>?_);refine N1 ?_;refine JQ (k:=5) J jC Jl Dc J Dc J J J (λw' hs=>qL hs (k:=6) J J) (by simp[Value.oneCell']) (by unfold maxLen;omega) Om (jlL _) (λr2=>?_);refine N6 ?_;refine a9 (VR J J J jC Om) ?_;refine S1 ?_;refine JQ (k:=5) rfl jC Jl Dc rfl Dc rfl rfl rfl (λw' hs=>jiy (hs.all 1 _ rfl).1 hjk) ((λu hu=>by obtain⟨q,_,rfl⟩:=jlR.1 (jmy hu);rfl)) (by unfold maxLen;omega) Om (jlL _) (λr3=>?_);refine N2 ?_;refine Ke 2 3 J J Dc J ?_;refine t9 ?_;refine S7 ?_;exact Jn hL1 ((k+1,r3,l++[e])) (⟨show k+1<=n by omega,by rw[jma,hmp,WQ (by rw[jlV];omega),ja2 Om,he];rfl⟩) (by simp only;omega) ⟨(by rw[show 0+j+1+(k-j)=k+1 by omega];rfl),vi Om,sz⟩ (λ_ h=>(h.picks [0,4,2] Dc).upto ⟨J,by rw[DK,hins,show 0+j+1+(k-j)=k+1 by omega,jma,jmA,List.map_take,List.map_drop,he];simp[Pc.val,wJ],by rw[he];exact(ve _ _).symm,trivial⟩)
 .have hkn:k=n:=Om;subst hkn;refine EP 2 J (DJ (lt:=Wo) (l:=l)).symm ?_;refine t9 ?_;refine S8 ?_;refine a9 (JD J J (VY J)) ?_;refine S4 ?_;refine jK J (qj (k:=0) J jD J J) ?_;intro w' hs;have hrs:(Kq Wo l).map (·.xs)=vm rs:=(by rw[jas,hmp,jme (by rw[jlV];omega)];rfl)
  exact⟨rA,rc,rfl,jaS hs (kr:=1) (kp:=2) rfl rfl Dc rfl hsl hrs (λj hj=>by have:=Dj hok hj;omega),hs.fin⟩
def intOf:Option Value->Int
 |some (.int _ x)=>x
 |_=>0
def G3(w:World):Value->List Pn
 |.slice (some p) n _=>(List.range n).map λk=>(intOf (w.cell? ⟨p.block,p.off+k*2,none⟩),intOf (w.cell? ⟨p.block,p.off+k*2+1,none⟩))
 |_=>[]
theorem G4{xs:List Pn}(h:Pts w A n xs):G3 w (.slice A n c)=xs:=by
 have hl:=h.1;by_cases h0:0<n
 .obtain⟨b,o,rfl,_,hc⟩:=h.2 h0;apply jm5
  .simp[G3,hl]
  .intro k h1 h2;simp only[G3,jmW,jnp];rw[(hc k Om).1,(hc k Om).2,YB h2];rfl
 .obtain rfl:n=0:=by omega
  obtain rfl:xs=[]:=jmh hl;cases A<;>rfl
theorem PA{w':World}{xs:List Pn}{X:List Nat}(h:Pts w A n xs)(ho:Ovx ⟨w,X⟩ w')(hA:0<n->VK A∉X):Pts w' A n xs:=⟨h.1,λh0=>by
 obtain⟨b,o,rfl,hb,hc⟩:=h.2 h0;have e:w'.heap[b]? =w.heap[b]? :=ho.block b hb (hA h0)
 refine⟨b,o,J,jlU hb ho.size,λk hk=>?_⟩;rw[World.cell?_of_block (a:=⟨b,o+k*2,none⟩) e,World.cell?_of_block (a:=⟨b,o+k*2+1,none⟩) e];exact hc k hk⟩
theorem jeM(hP:(KD l).P w):∀x∈l,∀y∈l,QP (λu v=>uS (G3 w u) (G3 w v)) x.val y.val=Wo x y:=λx hx y hy=>by
 have e:uS (G3 w x.val) (G3 w y.val)=uS x.xs y.xs:=by rw[Pc.val,Pc.val,G4 (xo hP hx),G4 (xo hP hy)]
 exact decide_eq_decide.2 (by show uS (G3 w x.val) (G3 w y.val)<0↔_;rw[e])
theorem FG(hs:St w0 Rs w){kr kp:Nat}(hr:Rs[kr]? =some (JV B 41 1 n (l.map Pc.val) x))(hp:Rs[kp]? =some (KD l))(hne:kr≠kp)(hl:l.length=n)(hb:∀e∈l,e.xs.length<=1048577/\∀p∈e.xs,Xh p)(hn:n<=1099511627776):
  Calls Tryz.prog 113 #[.slice x.1 n x.2,.func (.func 114) #[] #[]] w λe w'=>e=.returned (.tuple #[])/\Wrs (JV B 41 1 n (l.map Pc.val) x).F w w'/\(JV 0 41 1 n ((Kq Wo l).map Pc.val) x).P w':=by
 have hrow:w.ownsRow B 41 1 (.slice x.1 n x.2) n (l.map Pc.val):=(hs.all kr _ hr).1;have hP:(KD l).P w:=(hs.all kp _ hp).1
 rcases hrow.2 with⟨e,e2⟩|⟨g,cap,cur,e,hbg,hg,hcap,hmax,hsz,htk⟩
 .subst e2;obtain rfl:l=[]:=jmh hl;refine(jc2 x.1 x.2 _ w).mono ?_;rintro e' w' ⟨rfl,hO⟩;refine⟨J,Wrs.of hO,?_⟩;show w'.ownsRow 0 41 1 (.slice x.1 0 x.2) 0 _
  rw[e];exact World.ownsRow_nil _ _ _ _
 .injection e with e1 e3 e4
  have hF:∀b,b=g->(JV B 41 1 n (l.map Pc.val) x).F b:=by
   rintro b rfl;show Value.ownBlock (.slice x.1 n x.2)=some _
   rw[e1];rfl
  have hcl:cur.toList.length=cap:=by simp[hsz]
  rw[jmL] at htk;have hcur:cur=(l.map Pc.val++cur.toList.drop n).toArray:=by
   rw[<-htk,jl1,jm1]
  have hap:∀e∈l,0<e.xs.length->VK e.A∉ [g]:=λe he h0 hm=>by
   have hm':VK e.A=g:=by simpa using hm
   have h1:=(hP.1 e.res (jlR.2 ⟨e,he,rfl⟩)).1;obtain⟨b,o,T',cs,hA,hlo,hhi,_⟩:=(jfw h1).2 h0;refine hs.apart kr kp _ _ hne hr hp g (hF g J) ⟨e.res,jlR.2 ⟨e,he,J⟩,?_⟩;rw[hA] at hm';exact⟨hm'▸hlo,hm'▸hhi⟩
  have hC:CmpOk w g (·∈l.map Pc.val) (λu v=>uS (G3 w u) (G3 w v)):=by
   refine⟨λu hu v hv w' ho=>?_,Io.by (G3 w),λu hu=>?_⟩
   .obtain⟨e,he,rfl⟩:=jlR.1 hu;obtain⟨f,hf,rfl⟩:=jlR.1 hv;have:=hb e he
    have:=hb f hf;rw[Pc.val,Pc.val,G4 (xo hP he),G4 (xo hP hf)];exact Ou _ _ _ _ _ _ e.xs f.xs w' (PA (xo hP he) ho (hap e he)) (PA (xo hP hf) ho (hap f hf)) (hb e he).2 (hb f hf).2 Om Om
   .obtain⟨e,he,rfl⟩:=jlR.1 hu;rfl
  have:=Er g 41 (l.map Pc.val) (cur.toList.drop n) n x.2 _ _ w hC (by rw[<-hcur];exact hg) (by rw[jlV,hl]) hn (λu hu=>hu);rw[e1];refine this.mono ?_;rintro e' w' ⟨rfl,hw,hh⟩;refine⟨J,⟨hw.os,hw.tape,hw.output,hw.size,λc hc hnc=>hw.block c hc (λec=>hnc (hF c ec))⟩,?_⟩;have em:Kq (QP λu v=>uS (G3 w u) (G3 w v)) (l.map Pc.val)=(Kq Wo l).map Pc.val:=SM (jeM hP)
  rw[em] at hh;have hml:((Kq Wo l).map Pc.val).length=n:=by rw[jlV,QC,hl]
  refine⟨by rw[hml,jmL],.inr ⟨g,x.2,_,by rw[e1],jlN _,hh,by rw[e4];exact hcap,by rw[e4];exact hmax,?_,?_⟩⟩
  .rw[jmJ,jlJ,hml,jmb,hcl,e4];omega
  .rw[jmL,jmP,List.take_append_of_le_length Om,jme Om]
def RingsC(w:World)(A:Option Addr)(n:Nat)(rs:List jI):Prop:=
 rs.length=n/\(0<n->∃b o,A=some ⟨b,o,none⟩/\b<w.heap.size/\∀k,k<n->∃Ak ck,w.cell? ⟨b,o+k,none⟩=some (.slice Ak (rg rs k).length ck)/\Pts w Ak (rg rs k).length (rg rs k)/\(rg rs k).length<=ck)
theorem RingsC.over{w':World}(h:RingsC w A n rs)(hb:Over w w'):RingsC w' A n rs:=by
 refine⟨h.1,λhn=>?_⟩;obtain⟨b,o,hA,hlt,hc⟩:=h.2 hn;refine⟨b,o,hA,jlU hlt hb.size,λk hk=>?_⟩;obtain⟨Ak,ck,h1,h2,h3⟩:=hc k hk;exact⟨Ak,ck,((Jy hb).1 b _ hlt).trans h1,h2.over hb,h3⟩
theorem RingsC.at_(h:RingsC w A n rs)(hk:k<n):
  ∃b o Ak ck,A=some ⟨b,o,none⟩/\b<w.heap.size/\w.cell? ⟨b,o+k,none⟩=some (.slice Ak (rg rs k).length ck)/\Pts w Ak (rg rs k).length (rg rs k)/\(rg rs k).length<=ck:=by
 obtain⟨b,o,hA,hb,hc⟩:=h.2 Om;obtain⟨Ak,ck,h1,h2,h3⟩:=hc k hk;exact⟨b,o,Ak,ck,hA,hb,h1,h2,h3⟩
theorem Vl(A:Option Addr)(n c:Nat)(rs:List jI)(w:World)(h:RingsC w A n rs)(hok:okRs rs):
  Calls Tryz.prog 97 #[qU A n c] w λe w'=>∃A' c',e=.returned (qU A' n c')/\OwnG w.heap.size w'.heap.size w' A' n (vm rs)/\Over w w':=by
 have hl:=h.1;have hn40:=hok.1
 refine Jm (m:=25) (Tryz.func97) J J (lb J) ?_;refine S3 ?_;refine aX (λb1=>?_);refine N1 ?_;refine aL (λb2=>?_);refine N4 ?_;refine aL (λb3=>?_);refine N1 ?_;refine QO (T:=41) (s:=1) ?_;refine t9 ?_;refine KY ?_;refine t9 ?_;refine S9 ?_;refine JW (X:=Nat×(Option Addr×Nat)×List Pc) (λx=>x.1<=n/\x.2.2.map (·.xs)=(rs.map wQ).take x.1) (λx=>n-x.1) (λx=>[(9,.int .i64 (x.1:Int))]) (kK [2,3,7,8]) (λx=>[.cel b1 25 [.slice A n c],.cel b2 25 [.slice none 0 0],.cel b3 25 [.slice x.2.1.1 x.1 x.2.1.2],JV (Bs.N ⟨w,[]⟩) 41 1 x.1 (x.2.2.map Pc.val) x.2.1,KD x.2.2]) (0,(none,0),[]) (⟨jlN _,J⟩) ⟨J,sz⟩ (λ_ h=>h) ?_;intro⟨k,⟨rA,rc⟩,l⟩ hx L hL1;refine v9 ?_;refine r9 ?_;have hk:k<=n:=hx.1
 have hmp:l.map (·.xs)=(rs.map wQ).take k:=hx.2;have hlk:l.length=k:=(by have:=congrArg List.length hmp;rw[jlV,jl3,jlV] at this;omega)
 refine S5 ?_;refine cZ (λc1=>?_) (λc1=>?_)
 .have hlt:k<n:=Om;obtain⟨bb,oo,Ak,ck,rfl,hbB,hcell,hpts,hck⟩:=h.at_ hlt;obtain⟨hr0,hr1,hr2⟩:=hok.at_ (show k<rs.length by omega);refine S7 ?_;refine a9 (jj J J Jz J (Wv hcell hbB)) ?_;refine S1 ?_;refine aL (λb4=>?_);refine N4 ?_;refine JY 5 ?_;refine dV 0 [1] ?_;refine dK 1 ?_;refine dV 2 [3] ?_;refine qg (i:=3) J Dc Kr J ?_;refine J4 LJ (v:=λx=>.agg #[.slice x.1 _ x.2]) (r:=λx=>JV 0 36 2 _ _ x) (H:=λ_=>True) J J J (lb J) (λw1 hs=>jaN (SU Ak _ ck (rg rs k) w1 (hpts.over hs.fin) hr0 hck hr2 hr1)) ?_;rintro⟨cA,cc⟩-;refine n9 ?_;refine yL (u9 J) ?_;refine qg (i:=4) J Dc Kr J ?_;refine j5 J J (qe J) J (lb J) (λb5=>?_);refine n9 ?_;refine JS (u9 J) ?_;refine vg J Kr J ?_;refine JQ (k:=3) J jC Jl Dc J Dc J J J (λw' hs=>qL hs (k:=7) J J) (by simp[Value.oneCell']) (by unfold maxLen;omega) Om (jlL _) (λr1=>?_);refine n9 ?_;refine Qy 8 [2] ?_;refine dK 6 ?_;refine qg (i:=7) J Dc Kr J ?_;refine S1 ?_;refine JS (uw [2] J) ?_;refine JK Kr ?_;refine YC 6 J wJ (λclo chi=>?_);refine t9 ?_;refine Ke 4 6 J J Dc J ?_;refine t9 ?_;refine S6 ?_;exact Jn hL1 ((k+1,r1,l++[⟨wQ (rg rs k),cA,cc,clo,chi⟩])) (⟨show k+1<=n by omega,by rw[jma,hmp,WQ (by rw[jlV];omega),ja2 Om];rfl⟩) (by simp only;omega) ⟨vi Om,sz⟩ (λ_ h=>h.upto ⟨J,J,J,by rw[jma];simp[Pc.val,wJ],(ve _ _).symm,trivial⟩)
 .have hkn:k=n:=Om;subst hkn;have hall:l.map (·.xs)=rs.map wQ:=(by rw[hmp,jme (by rw[jlV];omega)])
  have hbd:∀e∈l,e.xs.length<=1048577/\∀p∈e.xs,Xh p:=(λe he=>by obtain⟨r,hr,e2⟩:=jlR.1 (hall▸jlR.2 ⟨e,he,rfl⟩:e.xs∈rs.map wQ);rw[<-e2];exact⟨by rw[wJ];exact(hok.2 r hr).2.1,λp hp=>(hok.2 r hr).2.2 p (jdd.1 hp)⟩);refine S10 ?_;refine xh (k:=3) (r':=JV 0 41 1 k ((Kq Wo l).map Pc.val) (rA,rc)) vK J J J Dc J (λw1 hs=>FG hs (kr:=3) (kp:=4) J J Dc hlk hbd Om) (λ_ h=>h) J ?_;refine N1 ?_;refine EP 4 J (DJ (lt:=Wo) (l:=l)).symm ?_;refine t9 ?_;refine S7 ?_;refine jK J (qj (k:=1) J jD J J) ?_;intro w' hs;have hrs:(Kq Wo l).map (·.xs)=vm rs:=(by rw[jas,hall];rfl)
  exact⟨rA,rc,rfl,jaS hs (kr:=3) (kp:=4) rfl rfl Dc rfl ((QC l).trans hlk) hrs (λj hj=>by have:=Dj hok hj;omega),hs.fin⟩
end Go.Proofs.YtjbahemkhphndaaGreat
