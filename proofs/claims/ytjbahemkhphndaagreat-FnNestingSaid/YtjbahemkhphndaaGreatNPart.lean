import Derived.Test.YtjbahemkhphndaaGreatNSect9
import Derived.Test.YtjbahemkhphndaaGreatNRay2
import Derived.Test.YtjbahemkhphndaaGreatNRev
import Derived.Test.YtjbahemkhphndaaGreatNBounds
set_option linter.unusedVariables false
set_option linter.unusedSimpArgs false
namespace Go.Proofs.YtjbahemkhphndaaGreat
open Go Go.RowKit
variable{T:List jI}{i k:Nat}{w:World}{x:Option Addr×Nat}{xs:List Value}
section
variable{n:Nat}{env:List (Nat×Value)}{w0:Bs}{Rs:List Res}{K:Act->World->Prop}
theorem jdy(k:Nat){r:Res}(hk:Rs[k]? =some r)(hB:r.B=0)(h:At n env w0 (Rs.set k (.many [r])) K):At n env w0 Rs K:=λa w hf hs=>
 h a w hf (hs.chg hk (λhP=>⟨λs hs'=>by rw[jlM.1 hs'];exact⟨hP,hB⟩,jmK _ _⟩) (λb hb=>by obtain⟨s,hs',hb⟩:=hb;rw[jlM.1 hs'] at hb;exact hb) rfl)
theorem jbO(k:Nat){B T s m:Nat}(hk:Rs[k]? =some (JV B T s m xs x))(h:At n env w0 (Rs.set k (JV 0 T s m xs x)) K):At n env w0 Rs K:=λa w hf hs=>
 h a w hf (hs.chg hk (λhP=>wI hP (jlN _)) (λb hb=>hb) rfl)
end
structure Rp where
 A:Option Addr
 c:Nat
 l:List Pc
def Rp.rs(p:Rp):List jI:=p.l.map (·.xs)
def Rp.val(p:Rp):Value:=.slice p.A p.l.length p.c
abbrev Rp.row(p:Rp):Res:=JV 0 41 1 p.l.length (p.l.map Pc.val) (p.A,p.c)
def Rp.res(p:Rp):Res:=.many [p.row,KD p.l]
theorem jko{p:Rp}(h:p.res.P w)(hm:smallR p.rs):OwnG 0 w.heap.size w p.A p.l.length p.rs:=by
 have hrow:w.ownsRow 0 41 1 (.slice p.A p.l.length p.c) p.l.length (p.l.map Pc.val):=(h.1 p.row (by simp)).1;have hX:=(h.1 (KD p.l) (by simp)).1
 have hap:∀b,p.row.F b->¬(KD p.l).F b:=by have:=h.2;simpa using this
 rcases hrow.2 with⟨_,e⟩|⟨g,cap,cur,e,hb,hg,hcap,hmax,hsz,htk⟩
 .have:p.l=[]:=jmh e;have e2:p.rs=[]:=by rw[Rp.rs,this];rfl
  rw[e,e2];exact OwnG.nil _
 .injection e with e1 e2 e3
  rw[e1];have hF:p.row.F g:=by show Value.ownBlock (.slice p.A p.l.length p.c)=some g;rw[e1];rfl
  refine ON (lo:=0) (o:=0) hg (jlN _) (λj hj=>?_) hX (hap g hF) (λq _=>jlN _) (λe he=>?_)
  .have hc:cur[j]? =(p.l.map Pc.val)[j]? :=by rw[<-htk,List.getElem?_take,if_pos Om];simp
   rw[jmd,hc];simp[hj]
  .have:e.xs∈p.rs:=jlR.2 ⟨e,he,rfl⟩;obtain⟨j,hj,e2⟩:=jmq this;have:=hm.2 j hj
   rw[<-wb hj,e2] at this;omega
theorem jfP{p:Rp}(h:p.res.P w)(hm:smallR p.rs):Rings w p.A p.l.length p.rs:=(jko h hm).rings
abbrev ppR(x:Option Addr×Nat)(ps:List Rp):Res:=.many [JV 0 25 1 ps.length (ps.map Rp.val) x,.many (ps.map Rp.res)]
theorem jkg{ps:List Rp}(h:(ppR x ps).P w):(JV 0 25 1 ps.length (ps.map Rp.val) x).P w:=(h.1 _ (by simp)).1
theorem jh7{ps:List Rp}(h:(ppR x ps).P w):(Res.many (ps.map Rp.res)).P w:=(h.1 _ (by simp)).1
def rpN(ps:List Rp)(k:Nat):Rp:=ps.getD k ⟨none,0,[]⟩
theorem SA{ps:List Rp}(h:k<ps.length):ps[k]? =some (rpN ps k):=by simp[rpN,List.getD,h]
theorem jk8{ps:List Rp}(h:(Res.many (ps.map Rp.res)).P w)(hk:k<ps.length):(rpN ps k).res.P w:=(h.1 _ (jlR.2 ⟨_,List.mem_of_getElem? (SA hk),rfl⟩)).1
def uy(rs:List jI)(i:Nat):Int:=vO (rg rs i) (rg rs i).length
def M8(rs:List jI)(i:Nat):Nat->List jI
 |0=>[]
 |k+1=>if Qh rs k rs.length=(i:Int)/\uy rs k<0 then M8 rs i k++[rg rs k] else M8 rs i k
def Xm(rs:List jI)(i k:Nat):List jI:=rg rs i::M8 rs i k
def UA(rs:List jI):Nat->List (List jI)
 |0=>[]
 |k+1=>if uy rs k<=0 then UA rs k else UA rs k++[Xm rs k rs.length]
def paL(rs:List jI):List (List jI):=if zg rs=0 then UA rs rs.length else []
theorem jer{rs:List jI}(h:Qh rs k rs.length=(i:Int))(h2:uy rs k<0):M8 rs i (k+1)=M8 rs i k++[rg rs k]:=if_pos ⟨h,h2⟩
theorem jeq{rs:List jI}(h:¬(Qh rs k rs.length=(i:Int)/\uy rs k<0)):M8 rs i (k+1)=M8 rs i k:=if_neg h
theorem OL{rs:List jI}(h:uy rs k<=0):UA rs (k+1)=UA rs k:=if_pos h
theorem Sk{rs:List jI}(h:¬uy rs k<=0):UA rs (k+1)=UA rs k++[Xm rs k rs.length]:=if_neg h
theorem jep(rs:List jI)(i:Nat):∀k,(M8 rs i k).length<=k
 |0=>jlL _
 |k+1=>by
  have:=jep rs i k;unfold M8;split
  .rw[jlJ];simp;omega
  .omega
theorem jfq(rs:List jI):∀k,(UA rs k).length<=k
 |0=>jlL _
 |k+1=>by
  have:=jfq rs k;unfold UA;split
  .omega
  .rw[jlJ];simp;omega
theorem jf0{α:Type}{f g:α->Int}:∀{l:List α},(∀x∈l,f x<=g x)->sm f l<=sm g l
 |[],_=>jna _
 |a::l,h=>by
  have h1:=h a (by simp);have h2:=jf0 (l:=l) λx hx=>h x (jlQ _ hx)
  simp only[sm];omega
theorem Xa{α:Type}:∀l:List α,sm (λ_=>(1:Int)) l=(l.length:Int)
 |[]=>rfl
 |a::l=>by
  simp only[sm,Xa l,jlS];omega
theorem IS{f:Nat->Int}(hf:∀k,0<=f k){L:List Nat}{n:Nat}(hn:L.Nodup)(hl:∀k∈L,k<n):sm f L<=sm f (List.range n):=by
 have e1:sm f L=sm (λk=>sm (λj=>if j=k then f j else 0) (List.range n)) L:=JC λk hk=>by
  rw[HJ (hl k hk) λj _ h=>if_neg h,if_pos rfl]
 rw[e1,HS];refine jf0 λj _=>?_
 by_cases c:j∈L
 .rw[OW hn j c λl _ h=>if_neg (Ne.symm h),if_pos rfl];exact jna _
 .have:sm (λk=>if j=k then f j else 0) L=0:=(JC λk hk=>if_neg λe=>c (by rw[e];exact hk)).trans (Q0 L)
  rw[this];exact hf j
theorem Rd(rs:List jI):∀k,qx rs k=(List.range k).flatMap λj=>Jh (rg rs j)
 |0=>rfl
 |k+1=>by
  have e0:qx rs (k+1)=qx rs k++Jh (rg rs k):=rfl;rw[e0,Rd rs k,jm3,jlW];simp
theorem O3(T:List jI)(i:Nat):uy T i=sm (λl=>Xi (lA l) (lB l)) (Jh (rg T i)):=by
 unfold uy;rw[<-XZ,yl]
def hoL(T:List jI)(i k:Nat):List Nat:=(List.range k).filter λj=>decide (Qh T j T.length=(i:Int)/\uy T j<0)
theorem RE(T:List jI)(i:Nat):∀k,M8 T i k=(hoL T i k).map (rg T)
 |0=>rfl
 |k+1=>by
  have e:hoL T i (k+1)=hoL T i k++[k].filter λj=>decide (Qh T j T.length=(i:Int)/\uy T j<0):=by
   unfold hoL;rw[jm3,jnh]
  by_cases c:Qh T k T.length=(i:Int)/\uy T k<0
  .rw[jer c.1 c.2,e,RE T i k,List.filter_cons_of_pos (by simpa using c)];simp
  .rw[jeq c,e,RE T i k,List.filter_cons_of_neg (by simpa using c)];simp
def Dp(T:List jI):Nat->Nat
 |0=>0
 |k+1=>if uy T k<=0 then Dp T k else Dp T k+1
theorem Sj(T:List jI):∀k,(UA T k).length=Dp T k
 |0=>rfl
 |k+1=>by
  unfold Dp;split
  .rename_i h;rw[OL h,Sj T k]
  .rename_i h;rw[Sk h,jlJ,Sj T k];rfl
theorem Sq(T:List jI):∀k,Dp T k<=k
 |0=>jlL _
 |k+1=>by
  have:=Sq T k;unfold Dp;split<;>omega
structure NstA (T:List jI):Prop where
 zero:∀i,i<T.length->uy T i≠0
 hole:∀i,i<T.length->uy T i<0->0<=Qh T i T.length
 self:∀i,i<T.length->Qh T i T.length≠(i:Int)
 reg:∀s∈UA T T.length,JG s=true
 pos:∀s∈UA T T.length,0<GB s
 sum:sm GB (UA T T.length)=GB T
theorem jk1(hr:JG T=true)(hc:P9 T=true):NstA T:=by
 obtain⟨K,F,hK,_⟩:=Pa hr hc;have hM:∀p∈K,-((262144:Nat):Int)<=p.ay/\p.b_y<=(262144:Nat):=λp hp=>by
  obtain⟨j,hj,e,he,rfl⟩:=hK p hp;have hok:=PF hr e ((U7 T.length).2 ⟨j,hj,he⟩)
  unfold qK at hok;unfold qh;split
  .show-((262144:Nat):Int)<=e.b_y/\e.ay<=(262144:Nat);omega
  .omega
 have sgn1:∀i,i<T.length->(cM (λk=>Jh (rg T k)) i i=1->0<uy T i)/\(cM (λk=>Jh (rg T k)) i i=0->uy T i<0):=λi hi=>by
  rw[O3];exact⟨F.ring_pos hM hK hi,F.ring_neg hM hK hi⟩
 have c01:∀i,i<T.length->cM (λk=>Jh (rg T k)) i i=0\/cM (λk=>Jh (rg T k)) i i=1:=λi hi=>F.c01 hi
 have hself:∀i,i<T.length->Qh T i T.length≠(i:Int):=λi hi h=>(F.par_some hi h).ne rfl
 have hbd:=Sm T;have inm:∀i,i<T.length->uy T i<0->∃p:Nat,Qh T i T.length=(p:Int)/\Inm (λk=>Jh (rg T k)) T.length i p/\0<uy T p:=λi hi h=>by
  have hc0:=(c01 i hi).resolve_right λk=>by have:=(sgn1 i hi).1 k;omega
  have hp:0<=Qh T i T.length:=jmS.1 λk=>by have:=F.par_none hi k;omega
  have e:Qh T i T.length=((Qh T i T.length).toNat:Int):=by omega
  have hI:=F.par_some hi e;have:=F.opp hi hI
  exact⟨_,e,hI,(sgn1 _ hI.lt).1 Om⟩
 have prt:∀i,i<T.length->0<uy T i->Prt (λk=>Jh (rg T k)) T.length i (hoL T i T.length):=λi hi h=>by
  refine⟨hi,(c01 i hi).resolve_left λk=>by have:=(sgn1 i hi).2 k;omega,List.nodup_range.filter _,λk hk=>?_⟩;obtain⟨h1,h2⟩:=jmx.1 hk;have hkl:=jmB.1 h1
  simp only[decide_eq_true_eq] at h2;exact⟨hkl,F.par_some hkl h2.1,(c01 k hkl).resolve_right λz=>by have:=(sgn1 k hkl).1 z;omega⟩
 have lst:∀i,i<T.length->0<uy T i->(∀k∈i::hoL T i T.length,k<T.length)/\(i::hoL T i T.length).Nodup:=λi hi h=>by
  have P:=prt i hi h;refine⟨λk hk=>?_,jmY.2 ⟨λk=>?_,P.nd⟩⟩
  .rcases jlP.1 hk with e|e
   .rw[e];exact hi
   .exact(P.mem k e).1
  .have:=(P.mem i k).2.2;have:=P.pos
   omega
 have pe:∀i,jH (Xm T i T.length)=(i::hoL T i T.length).flatMap λk=>Jh (rg T k):=λi=>by
  have e:Xm T i T.length=(i::hoL T i T.length).map (rg T):=by unfold Xm;rw[RE];rfl
  rw[jdo,e,List.flatMap_map]
 have hn40:=V0 hr;have hE400:=zP hr
 have preg:∀i,i<T.length->0<uy T i->JG (Xm T i T.length)=true:=λi hi h=>by
  obtain⟨l1,l2⟩:=lst i hi h;have e:Xm T i T.length=(i::hoL T i T.length).map (rg T):=by unfold Xm;rw[RE];rfl
  have w1:=IS (f:=λ_=>1) (λ_=>by decide) l2 l1;rw[Xa,Xa,List.length_range] at w1;have w2:=IS (f:=λk=>sm (λ_=>(1:Int)) (Jh (rg T k))) (λk=>by rw[Xa];omega) l2 l1
  rw[<-U1 (λ_=>(1:Int)) (λk=>Jh (rg T k)),<-U1 (λ_=>(1:Int)) (λk=>Jh (rg T k)),Xa,Xa,<-pe,<-Rd] at w2;have hA:(jH T).length=(qx T T.length).length:=rfl
  have hring:(Xm T i T.length).all qM=true:=jm4.2 λr hr2=>by
   rw[e] at hr2;obtain⟨k,hk,rfl⟩:=jlR.1 hr2;exact kg hr (l1 k hk)
  rw[Ua (by rw[e,jlV];omega) hring];exact decide_eq_true Om
 have parea:∀i,i<T.length->0<uy T i->GB (Xm T i T.length)=uy T i+sm (uy T) (hoL T i T.length):=λi hi h=>by
  have e1:GB (Xm T i T.length)=QR (jH (Xm T i T.length)):=if_pos (preg i hi h);rw[e1,yl,pe,U1];simp only[sm];rw[O3 T i];congr 1;exact JC λk _=>(O3 T k).symm
 have ppos:∀i,i<T.length->0<uy T i->0<GB (Xm T i T.length):=λi hi h=>by
  obtain⟨l1,l2⟩:=lst i hi h;have P:=prt i hi h
  have e1:GB (Xm T i T.length)=QR (jH (Xm T i T.length)):=if_pos (preg i hi h);rw[e1,yl,pe];refine F.area l1 l2 hM hK (i:=i) (by simp) λj hj=>?_
  obtain⟨s1,s2⟩:=P.sum F hj;have e2:sm (λk=>cM (λk=>Jh (rg T k)) k j) (i::hoL T i T.length)=cM (λk=>Jh (rg T k)) i j+sm (λk=>cM (λk=>Jh (rg T k)) k j) (hoL T i T.length):=rfl
  rw[e2];exact⟨s1,λhm=>s2 (jlP.1 hm)⟩
 have pmem:∀k,k<=T.length->∀s∈UA T k,∃i,i<T.length/\0<uy T i/\s=Xm T i T.length:=λk=>by
  induction k with
  |zero=>intro _ s hs;cases hs
  |succ k ih=>
   intro hk s hs;by_cases c:uy T k<=0
   .rw[OL c] at hs;exact ih Om s hs
   .rw[Sk c] at hs;rcases jl0.1 hs with h|h
    .exact ih Om s h
    .exact⟨k,by omega,by omega,jlM.1 h⟩
 have psum:∀k,k<=T.length->sm GB (UA T k)=sm (λi=>if 0<uy T i then uy T i+sm (λj=>if Qh T j T.length=(i:Int)/\uy T j<0 then uy T j else 0) (List.range T.length) else 0) (List.range k):=λk=>by
  induction k with
  |zero=>intro _;rfl
  |succ k ih=>
   intro hk;rw[jm3,Qz,<-ih Om];by_cases c:uy T k<=0
   .rw[OL c];simp only[sm];rw[if_neg Om];omega
   .rw[Sk c,Qz];simp only[sm];rw[if_pos Om,parea k Om Om];congr 2;congr 1;unfold hoL;rw[MJ];refine JC λj _=>?_
    by_cases d:Qh T j T.length=(k:Int)/\uy T j<0
    .rw[if_pos d,if_pos (by simpa using d)]
    .rw[if_neg d,if_neg (by simpa using d)]
 have hz:∀i,i<T.length->uy T i≠0:=λi hi h=>by
  rcases c01 i hi with c|c
  .have:=(sgn1 i hi).2 c;omega
  .have:=(sgn1 i hi).1 c;omega
 refine⟨hz,λi hi h=>?_,hself,λs hs=>?_,λs hs=>?_,?_⟩
 .obtain⟨p,e,_⟩:=inm i hi h;omega
 .obtain⟨i,hi,h,rfl⟩:=pmem _ (jlL _) s hs;exact preg i hi h
 .obtain⟨i,hi,h,rfl⟩:=pmem _ (jlL _) s hs;exact ppos i hi h
 .rw[psum _ (jlL _)];have e1:GB T=sm (uy T) (List.range T.length):=by
   have:GB T=QR (jH T):=if_pos hr;rw[this,yl];have:jH T=(List.range T.length).flatMap λj=>Jh (rg T j):=Rd T T.length
   rw[this,U1];exact JC λk _=>(O3 T k).symm
  have e2:sm (λi=>if 0<uy T i then uy T i+sm (λj=>if Qh T j T.length=(i:Int)/\uy T j<0 then uy T j else 0) (List.range T.length) else 0) (List.range T.length)=sm (λi=>if 0<uy T i then uy T i else 0) (List.range T.length)+sm (λi=>sm (λj=>if 0<uy T i/\Qh T j T.length=(i:Int)/\uy T j<0 then uy T j else 0) (List.range T.length)) (List.range T.length):=by
   rw[<-UF];refine JC λi _=>?_
   by_cases c:0<uy T i
   .rw[if_pos c,if_pos c];congr 1;refine JC λj _=>?_
    by_cases d:Qh T j T.length=(i:Int)/\uy T j<0
    .rw[if_pos d,if_pos ⟨c,d⟩]
    .rw[if_neg d,if_neg λk=>d k.2]
   .rw[if_neg c,if_neg c];have:sm (λj=>if 0<uy T i/\Qh T j T.length=(i:Int)/\uy T j<0 then uy T j else 0) (List.range T.length)=0:=(JC λj _=>if_neg λk=>c k.1).trans (Q0 _)
    rw[this];rfl
  rw[e2,HS,e1,<-UF];refine JC λk hk=>?_
  have hkl:=jmB.1 hk;by_cases c:uy T k<0
  .obtain⟨p,e,hI,hp⟩:=inm k hkl c;rw[if_neg Om,HJ hI.lt λi _ hn=>if_neg λz=>hn Om,if_pos ⟨hp,e,c⟩];omega
  .have:=hz k hkl;have z:sm (λi=>if 0<uy T i/\Qh T k T.length=((i:Nat):Int)/\uy T k<0 then uy T k else 0) (List.range T.length)=0:=(JC λi _=>if_neg λz=>c z.2.2).trans (Q0 _)
   rw[if_pos Om,z];omega
theorem Se{m:Leg}{Y:Int}(h1:2*m.ay<=Y)(h2:Y<=2*m.b_y):num (tw m) Y<=2*max m.ax m.bx*den (tw m)/\2*min m.ax m.bx*den (tw m)<=num (tw m) Y:=by
 have e:num (tw m) Y=2*m.ax*den (tw m)+2*(m.bx-m.ax)*(Y-2*m.ay):=by
  show 2*m.ax*den (tw m)+(2*m.bx-2*m.ax)*(Y-2*m.ay)=_;grind
 have hd:den (tw m)=2*m.b_y-2*m.ay:=rfl;rw[e];rcases Int.le_total m.ax m.bx with c|c
 .rw[Int.max_eq_right c,Int.min_eq_left c];have a1:=jl2 (show 0<=2*(m.bx-m.ax) by omega) (show 0<=Y-2*m.ay by omega)
  have a2:=jl2 (show 0<=2*(m.bx-m.ax) by omega) (show 0<=2*m.b_y-Y by omega);have x:2*m.bx*den (tw m)=2*m.ax*den (tw m)+2*(m.bx-m.ax)*(Y-2*m.ay)+2*(m.bx-m.ax)*(2*m.b_y-Y):=by rw[hd];grind
  constructor<;>omega
 .rw[Int.max_eq_left c,Int.min_eq_right c];have a1:=jl2 (show 0<=2*(m.ax-m.bx) by omega) (show 0<=Y-2*m.ay by omega)
  have a2:=jl2 (show 0<=2*(m.ax-m.bx) by omega) (show 0<=2*m.b_y-Y by omega);have x1:2*(m.bx-m.ax)*(Y-2*m.ay)= -(2*(m.ax-m.bx)*(Y-2*m.ay)):=by grind
  have x:2*m.ax*den (tw m)=2*m.bx*den (tw m)+2*(m.ax-m.bx)*(Y-2*m.ay)+2*(m.ax-m.bx)*(2*m.b_y-Y):=by rw[hd];grind
  constructor<;>omega
theorem RT{a b d:Int}(hd:0<d)(h:a*d<=b*d):a<=b:=jmk h hd
theorem jfg{a d:Int}(hd:0<d)(h:0<=a*d):0<=a:=by
 rcases Int.lt_or_le a 0 with c|c
 .have:=jmD c hd;omega
 .exact c
theorem jba{K E:List Leg}{q:Leg->Bool}(h:sN K E q≠0):∃m∈K,qd E m≠0/\q m=true:=by
 refine Decidable.byContradiction λhc=>h ?_
 unfold sN;refine(JC λm hm=>?_).trans (Q0 K);by_cases c:qd E m=0
 .rw[c];simp
 .have:q m=false:=by
   rw[jmR];exact λk=>hc ⟨m,hm,c,k⟩
  rw[this];simp[ix]
theorem NJ{K E:List Leg}(h:Keys K E)(W:Int):sN K E (λe=>QF (tw e) W)=0:=by
 have hc:=h.net.close (λ_ y=>ix (decide (y<=W)));rw[VC] at hc;rw[<-hc];unfold sN;refine JC λe he=>?_
 rw[xD];congr 1;have ho:=Dk (h.ord e he)
 have q1:(tw e).ay=2*e.ay:=rfl;have q2:(tw e).b_y=2*e.b_y:=rfl
 show ix (QF (tw e) W)=ix (decide ((tw e).ay<=W))-ix (decide ((tw e).b_y<=W));unfold QF ix;by_cases a:(tw e).ay<=W
 .rw[decide_eq_true a,jlZ];by_cases b:(tw e).b_y<=W
  .rw[decide_eq_true b,decide_eq_false (show¬W<(tw e).b_y by omega)];rfl
  .rw[decide_eq_false b,decide_eq_true (show W<(tw e).b_y by omega)];rfl
 .rw[decide_eq_false a,decide_eq_false (show¬(tw e).b_y<=W by omega)];rfl
theorem jfT{K E:List Leg}{a b:Leg->Bool}(h0:sN K E a=0)(hb:sN K E (λe=>a e&&b e)≠0):sN K E (λe=>a e&& !b e)≠0:=by
 have:sN K E a=sN K E (λe=>a e&&b e)+sN K E (λe=>a e&& !b e):=Ww λe _=>by cases a e<;>cases b e<;>rfl
 omega
section
variable{K:List Leg}{n:Nat}{E:Nat->List Leg}
theorem Fam.sides(F:Fam K n E){p:Nat}(hi:i<n)(hp:p<n)(hn:p≠i)(hc:cM E p i≠0){e:Leg}(he:e∈E i){v:Pn}(hv:lA e=v\/lB e=v):
  (∃m∈K,qd (E p) m≠0/\(m.ay<=v.2/\v.2<=m.b_y)/\v.1<=max m.ax m.bx)/\∃m∈K,qd (E p) m≠0/\min m.ax m.bx<=v.1:=by
 have hq:=F.mem hi he;have hKp:=F.key p hp
 obtain⟨h0,h1,h2⟩:=F.other hp hi hn he;have hout:Qw (E p) (qh e)=cM E p i:=by
  unfold Q5 at h1 h2;split at h1
  .exact h1
  .rename_i c;rw[if_neg c] at h2;exact h2
 have hvq:lA (qh e)=v\/lB (qh e)=v:=by
  rcases kb (e:=e) with c|c
  .rw[<-c];exact hv
  .rcases hv with h|h
   .exact .inr ((Yc c).trans h)
   .exact .inl ((uD c).trans h)
 generalize qh e=q at*;have ho:q.ay<q.b_y\/(q.ay=q.b_y/\q.ax<q.bx):=hKp.ord q hq
 rcases ho with hlt|⟨heq,hx⟩
 .have tq:(tw q).ay=2*q.ay/\(tw q).b_y=2*q.b_y:=⟨rfl,rfl⟩;obtain⟨W,Y,hYv,ha,hW1,hW2,hYq,hnum⟩:∃W Y:Int,Y=2*v.2/\QF (tw q) W=true/\W<=Y/\Y<=W+1/\Y<=(tw q).b_y/\num (tw q) Y=2*v.1*den (tw q):=by
   rcases hvq with h|h
   .have e1:q.ay=v.2:=congrArg Prod.snd h;have e2:q.ax=v.1:=congrArg Prod.fst h
    refine⟨2*q.ay,2*q.ay,by omega,qt.2 Om,by omega,by omega,by omega,?_⟩;rw[Yv,xe,vV,e2];grind
   .have e1:q.b_y=v.2:=congrArg Prod.snd h;have e2:q.bx=v.1:=congrArg Prod.fst h
    refine⟨2*q.b_y-1,2*q.b_y,by omega,qt.2 Om,by omega,by omega,by omega,?_⟩;rw[Yv,Zl,vV,e2];grind
  have dq:=we ha;have hr:=WI hKp hq ha
  rw[hout] at hr;have hne:∀m,qd (E p) m≠0->m≠q:=λm hm k=>hm (by rw[k];exact h0)
  have place:∀m,QF (tw m) W=true->2*m.ay<=Y/\Y<=2*m.b_y:=λm hm=>by
   have:=qt.1 hm;have q1:(tw m).ay=2*m.ay:=rfl
   have q2:(tw m).b_y=2*m.b_y:=rfl;omega
  constructor
  .obtain⟨m,m1,m2,m3⟩:=jba (K:=K) (E:=E p) (q:=λe=>QF (tw e) W&&wV (tw e) (tw q)) (by rw[<-hr];exact hc);simp only[jlK] at m3;obtain⟨m3,m4⟩:=m3;obtain⟨p1,p2⟩:=place m m3;have dm:=we m3
   have hd:=Z2 (yE (hKp.sep m m1 q hq (hne m m2))) m3 ha m4 hW1 p2 hYq;unfold K3 at hd;rw[hnum] at hd;have hcm:2*v.1*den (tw m)*den (tw q)=2*v.1*den (tw q)*den (tw m):=by grind
   have h3:0<=num (tw m) Y-2*v.1*den (tw m):=jfg dq (by rw[jnl];omega);have h4:=RT dm (show 2*v.1*den (tw m)<=2*max m.ax m.bx*den (tw m) by have:=(Se p1 p2).1;omega)
   exact⟨m,m1,m2,by omega,by omega⟩
  .obtain⟨m,m1,m2,m3⟩:=jba (jfT (b:=λe=>wV (tw e) (tw q)) (NJ hKp W) (by rw[<-hr];exact hc));simp only[jlK,jmo] at m3;obtain⟨m3,m4⟩:=m3;obtain⟨p1,p2⟩:=place m m3;have dm:=we m3
   have hs:=yE (hKp.sep m m1 q hq (hne m m2));have m5:=(Sy hs m3 ha).resolve_left (by rw[m4];decide)
   have hd:=Z2 (yE (hKp.sep q hq m m1 (Ne.symm (hne m m2)))) ha m3 m5 hW1 hYq p2;unfold K3 at hd;rw[hnum] at hd;have hcm:2*v.1*den (tw m)*den (tw q)=2*v.1*den (tw q)*den (tw m):=by grind
   have h3:0<=2*v.1*den (tw m)-num (tw m) Y:=jfg dq (by rw[jnl];omega);have h4:=RT dm (show 2*min m.ax m.bx*den (tw m)<=2*v.1*den (tw m) by have:=(Se p1 p2).2;omega)
   exact⟨m,m1,m2,by omega⟩
 .have e1:v.2=q.ay/\q.ax<=v.1/\v.1<=q.bx:=by
   rcases hvq with h|h
   .have z1:q.ay=v.2:=congrArg Prod.snd h;have z2:q.ax=v.1:=congrArg Prod.fst h
    omega
   .have z1:q.b_y=v.2:=congrArg Prod.snd h;have z2:q.bx=v.1:=congrArg Prod.fst h
    omega
  have place:∀m,QF (tw m) (2*q.ay)=true->2*m.ay<=2*q.ay/\2*q.ay<=2*m.b_y:=λm hm=>by
   have:=qt.1 hm;have q1:(tw m).ay=2*m.ay:=rfl
   have q2:(tw m).b_y=2*m.b_y:=rfl;omega
  constructor
  .have hr:=hKp.lev_out hq heq true (X:=2*q.bx) rfl;rw[hout,Mm] at hr;obtain⟨m,m1,m2,m3⟩:=jba (K:=K) (E:=E p) (q:=λe=>Xg (2*q.bx) (2*q.ay) (2*q.ay) true (tw e)) (by rw[<-hr];exact hc);simp only[Xg,jlK,if_true,decide_eq_true_eq] at m3;obtain⟨m3,m4⟩:=m3;obtain⟨p1,p2⟩:=place m m3;have h4:=RT (we m3) (show 2*q.bx*den (tw m)<=2*max m.ax m.bx*den (tw m) by have:=(Se p1 p2).1;omega)
   exact⟨m,m1,m2,by omega,by omega⟩
  .have hr:=hKp.lev_out hq heq false (X:=2*q.ax) rfl;rw[hout,Mm] at hr;have hr2:cM E p i=sN K (E p) (λe=>QF (tw e) (2*q.ay) &&decide (2*q.ax*den (tw e)<num (tw e) (2*q.ay))):=hr.trans (jkp λe _=>by unfold Xg;rw[if_neg Dc])
   obtain⟨m,m1,m2,m3⟩:=jba (jfT (b:=λe=>decide (2*q.ax*den (tw e)<num (tw e) (2*q.ay))) (NJ hKp (2*q.ay)) (by rw[<-hr2];exact hc));simp only[jlK,jmo,decide_eq_false_iff_not] at m3;obtain⟨m3,m4⟩:=m3;obtain⟨p1,p2⟩:=place m m3;have h4:=RT (we m3) (show 2*min m.ax m.bx*den (tw m)<=2*q.ax*den (tw m) by have:=(Se p1 p2).2;omega)
   exact⟨m,m1,m2,by omega⟩
end
theorem CY(xs:List Pn):∀k j,j<k->(X7 xs k<=px xs j/\px xs j<=X0 xs k)/\X8 xs k<=py xs j/\py xs j<=X1 xs k
 |0,j,h=>by omega
 |k+1,j,h=>by
  by_cases c:k=0
  .subst c;obtain⟨a1,a2,a3,a4⟩:=Oz xs;rw[a1,a2,a3,a4,show j=0 by omega];omega
  .obtain⟨a1,a2,a3,a4⟩:=GL xs (show 1<=k by omega);rw[a1,a2,a3,a4];by_cases d:j=k
   .subst d;omega
   .have:=CY xs k j Om;omega
theorem jiX(xs:List Pn):∀k,1<=k->(∃j,j<k/\X7 xs k=px xs j)/\(∃j,j<k/\X8 xs k=py xs j)/\(∃j,j<k/\X0 xs k=px xs j)/\∃j,j<k/\X1 xs k=py xs j
 |0,h=>by omega
 |k+1,_=>by
  by_cases c:k=0
  .subst c;obtain⟨a1,a2,a3,a4⟩:=Oz xs;exact⟨⟨0,by omega,a1⟩,⟨0,by omega,a2⟩,⟨0,by omega,a3⟩,⟨0,by omega,a4⟩⟩
  .obtain⟨a1,a2,a3,a4⟩:=GL xs (show 1<=k by omega);obtain⟨⟨j1,q1,r1⟩,⟨j2,q2,r2⟩,⟨j3,q3,r3⟩,⟨j4,q4,r4⟩⟩:=jiX xs k Om;rw[a1,a2,a3,a4];refine⟨?_,?_,?_,?_⟩
   .by_cases d:X7 xs k<=px xs k
    .exact⟨j1,by omega,by omega⟩
    .exact⟨k,by omega,by omega⟩
   .by_cases d:X8 xs k<=py xs k
    .exact⟨j2,by omega,by omega⟩
    .exact⟨k,by omega,by omega⟩
   .by_cases d:px xs k<=X0 xs k
    .exact⟨j3,by omega,by omega⟩
    .exact⟨k,by omega,by omega⟩
   .by_cases d:py xs k<=X1 xs k
    .exact⟨j4,by omega,by omega⟩
    .exact⟨k,by omega,by omega⟩
structure BoxIn (xs ys:List Pn):Prop where
 lx:X7 xs xs.length<=X7 ys ys.length
 ly:X8 xs xs.length<=X8 ys ys.length
 hx:X0 ys ys.length<=X0 xs xs.length
 hy:X1 ys ys.length<=X1 xs xs.length
theorem jbQ{xs:List Pn}(h:bare xs){f:Leg}(hf:f∈Jh xs):∃j k,j<xs.length/\k<xs.length/\f.ax=px xs j/\f.ay=py xs j/\f.bx=px xs k/\f.b_y=py xs k:=by
 rw[QQ h] at hf;obtain⟨d,hd,rfl⟩:=jlR.1 hf;obtain⟨j,hj,rfl⟩:=jlR.1 hd;have hj:=jmB.1 hj
 exact⟨j,nx xs j,hj,jnA _ Om,rfl,rfl,rfl,rfl⟩
theorem jhR(hr:JG T=true)(hc:P9 T=true){p:Nat}(hi:i<T.length)(hp:Qh T i T.length=(p:Int)):BoxIn (rg T p) (rg T i):=by
 obtain⟨K,F,hK,hb⟩:=Pa hr hc;have hI:=F.par_some hi hp
 have hpl:=hI.lt;have bi:bare (rg T i):=hb _ (by rw[<-wb hi];exact jlY _)
 have bp:bare (rg T p):=hb _ (by rw[<-wb hpl];exact jlY _);have key:∀j,j<(rg T i).length->(X7 (rg T p) (rg T p).length<=px (rg T i) j/\px (rg T i) j<=X0 (rg T p) (rg T p).length)/\X8 (rg T p) (rg T p).length<=py (rg T i) j/\py (rg T i) j<=X1 (rg T p) (rg T p).length:=λj hj=>by
  have he:mkL (pt (rg T i) j,pt (rg T i) (nx (rg T i) j))∈Jh (rg T i):=by
   rw[QQ bi];exact jlR.2 ⟨_,jlR.2 ⟨j,jmB.2 hj,rfl⟩,rfl⟩
  obtain⟨⟨m,m1,m2,m3,m4⟩,m',m1',m2',m4'⟩:=F.sides hi hpl hI.ne hI.ar he (v:=pt (rg T i) j) (.inl rfl);have inb:∀m,qd (Jh (rg T p)) m≠0->((X7 (rg T p) (rg T p).length<=m.ax/\m.ax<=X0 (rg T p) (rg T p).length)/\X7 (rg T p) (rg T p).length<=m.bx/\m.bx<=X0 (rg T p) (rg T p).length)/\(X8 (rg T p) (rg T p).length<=m.ay/\m.ay<=X1 (rg T p) (rg T p).length)/\X8 (rg T p) (rg T p).length<=m.b_y/\m.b_y<=X1 (rg T p) (rg T p).length:=λm hm=>by
   obtain⟨f,hf,rfl⟩:=xu.1 (Yu (E:=λk=>Jh (rg T k)) (i:=p) hm);obtain⟨j,k,hj,hk,f1,f2,f3,f4⟩:=jbQ bp hf;have a1:=CY (rg T p) (rg T p).length j hj
   have a2:=CY (rg T p) (rg T p).length k hk;unfold qh;split
   .show((_<=f.bx/\f.bx<=_)/\_<=f.ax/\f.ax<=_)/\(_<=f.b_y/\f.b_y<=_)/\_<=f.ay/\f.ay<=_;omega
   .omega
  have b1:=inb m m2;have b2:=inb m' m2'
  have e1:(pt (rg T i) j).1=px (rg T i) j:=rfl;have e2:(pt (rg T i) j).2=py (rg T i) j:=rfl
  rw[e2] at m3;rw[e1] at m4 m4';omega
 obtain⟨⟨j1,q1,r1⟩,⟨j2,q2,r2⟩,⟨j3,q3,r3⟩,⟨j4,q4,r4⟩⟩:=jiX (rg T i) (rg T i).length bi.1;have k1:=key j1 q1
 have k2:=key j2 q2;have k3:=key j3 q3
 have k4:=key j4 q4;exact⟨by omega,by omega,by omega,by omega⟩
end Go.Proofs.YtjbahemkhphndaaGreat
