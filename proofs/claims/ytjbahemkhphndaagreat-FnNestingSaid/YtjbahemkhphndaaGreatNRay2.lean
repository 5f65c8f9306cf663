import Derived.Test.YtjbahemkhphndaaGreatNRay
import Derived.Test.YtjbahemkhphndaaGreatNTrQ
import Derived.Test.YtjbahemkhphndaaGreatNOrder
import Derived.Test.YtjbahemkhphndaaGreatNSnapped
import Derived.Shelf.Bits.Mul64
import Derived.Laws.BitsAllLaws
import Derived.Test.YtjbahemkhphndaaGreatNSimp
import Derived.Test.YtjbahemkhphndaaGreatNRev
import Derived.Test.YtjbahemkhphndaaGreatNTopo4
import Derived.Test.YtjbahemkhphndaaGreatNNetT
import Derived.Test.YtjbahemkhphndaaGreatNNetI
import Derived.Test.YtjbahemkhphndaaGreatNSnapG
import Derived.MapKept
set_option linter.unusedVariables false
set_option linter.unusedSimpArgs false
namespace Go.Proofs.YtjbahemkhphndaaGreat
open Go Go.RowKit
variable{B E:List Leg}{es:List (Pn×Pn)}{hot r s xs:List Pn}{rs ss:List jI}{u:List Bool}{α:Type}
theorem IP{S:Nat->Bool}{lt:Nat->Nat->Bool}:∀{n:Nat},VW S lt n=none->∀j,j<n->S j=false
 |0,_,j,hj=>absurd hj Om
 |n+1,h,j,hj=>by
  rw[VS] at h;cases hb:VW S lt n with
  |some m=>
   rw[hb] at h;unfold MN at h;simp only at h;split at h<;>cases h
  |none=>
   rw[hb] at h;unfold MN at h;simp only at h;rcases jmT (Nat.le_of_lt_succ hj) with k|k
   .exact IP hb j k
   .rw[k];split at h
    .cases h
    .rename_i hs;simpa using hs
def cs(F:Pn->Pn->Int):List Pn->Int
 |a::b::l=>F a b+cs F (b::l)
 |_=>0
def sR(n:Nat)(u:List Bool)(G:Nat->Int):Int:=sm (λk=>if WR u k=true then G k else 0) (List.range n)
def uR(n:Nat)(u:List Bool)(G:Nat->Int):Int:=sm (λk=>if WR u k=true then 0 else G k) (List.range n)
theorem jfU{n:Nat}{a:Nat}(G:Nat->Int)(ha:a<n)(hl:a<u.length)(hu:WR u a=false):sR n (u.set a true) G=sR n u G+G a/\uR n (u.set a true) G=uR n u G-G a:=by
 have h1:=L6 (List.nodup_range (n:=n)) (k:=a) (jmB.2 ha) G;unfold sR uR;rw[<-h1,<-UF,<-Ud];constructor
 .refine JC λk _=>?_
  rw[Xe hl];by_cases hk:a=k
  .rw[if_pos hk,<-hk,hu];simp
  .rw[if_neg hk,decide_eq_false (Ne.symm hk),Bool.false_or,jnr]
 .refine JC λk _=>?_
  rw[Xe hl];by_cases hk:a=k
  .rw[if_pos hk,<-hk,hu];simp
  .rw[if_neg hk,decide_eq_false (Ne.symm hk),Bool.false_or,Int.sub_zero]
def aB(B:List Leg)(v:Pn)(k:Nat):Int:=Um v (lA (lg B k))-Um v (lB (lg B k))
def gB(F:Pn->Pn->Int)(B:List Leg)(k:Nat):Int:=F (lA (lg B k)) (lB (lg B k))
theorem jdw(v:Pn):Um v v=1:=by unfold Um;rw[decide_eq_true rfl];rfl
theorem jdv(v p:Pn):0<=Um v p/\Um v p<=1:=by unfold Um ix;split<;>omega
theorem jjf{v p:Pn}(h:Um v p=1):p=v:=by
 unfold Um ix at h;split at h
 .rename_i k;simpa using k
 .cases h
theorem IQ{α:Type}{f:α->Int}:∀{l:List α},(∀x∈l,f x<=0)->sm f l<=0
 |[],_=>jna _
 |x::l,h=>by
  have h1:=h x (by simp);have h2:=IQ (l:=l) λy hy=>h y (jlQ _ hy)
  simp only[sm];omega
theorem ja8{B:List Leg}(F:Pn->Pn->Int){first:Nat}:∀(f:Nat) (u:List Bool) (a:Nat) (ps:List Pn),u.length=B.length->a<B.length->WR u a=false->WS u<=f->
  (∀v,uR B.length u (aB B v)=Um v (lA (lg B a))-Um v (lA (lg B first)))->
  ∃tl,(VV B first f u a ps).2=ps++lA (lg B a)::tl/\cs F (lA (lg B a)::(tl++[lA (lg B first)]))+sR B.length u (gB F B)=sR B.length (VV B first f u a ps).1 (gB F B)/\
   (∀v,uR B.length (VV B first f u a ps).1 (aB B v)=0)/\(∀k,WR u k=true->WR (VV B first f u a ps).1 k=true)/\WR (VV B first f u a ps).1 a=true
 |0,u,a,ps,hl,ha,hu,hc,_=>by
  have:=zu Om hu;omega
 |f+1,u,a,ps,hl,ha,hu,hc,hb=>by
  have hcs:=zu (show a<u.length by omega) hu;obtain⟨s1,s2⟩:=jfU (gB F B) ha Om hu;have hb2:∀v,uR B.length (u.set a true) (aB B v)=Um v (lB (lg B a))-Um v (lA (lg B first)):=λv=>by
   rw[(jfU (aB B v) ha Om hu).2,hb v];unfold aB;omega
  have hmono:∀k,WR u k=true->WR (u.set a true) k=true:=λk hk=>by rw[Xe Om,hk,Bool.or_true]
  have hself:WR (u.set a true) a=true:=by rw[Xe Om];simp
  unfold VV;cases hs:Uv B (u.set a true) first a with
  |none=>
   have hclose:lB (lg B a)=lA (lg B first):=by
    unfold Uv at hs;split at hs
    .rename_i hd;rw[jlK,decide_eq_true_iff] at hd;exact hd.1
    .have hno:=IP hs;have hle:uR B.length (u.set a true) (aB B (lB (lg B a)))<=0:=by
      unfold uR;refine IQ λk hk=>?_
      by_cases hk2:WR (u.set a true) k=true
      .rw[if_pos hk2];exact jna _
      .rw[if_neg hk2];have hn:=hno k (jmB.1 hk)
       unfold vF at hn;have hk3:WR (u.set a true) k=false:=by simpa using hk2
       rw[hk3,Bool.not_false,jlZ,decide_eq_false_iff_not] at hn;have z:Um (lB (lg B a)) (lA (lg B k))=0:=by unfold Um;rw[decide_eq_false hn];rfl
       have:=(jdv (lB (lg B a)) (lB (lg B k))).1;unfold aB;omega
     rw[hb2,jdw] at hle;have:=jdv (lB (lg B a)) (lA (lg B first))
     exact(jjf Om).symm
   refine⟨[],by simp,?_,λv=>?_,hmono,hself⟩
   .show F _ _+0+_=_;rw[s1,<-hclose];unfold gB;omega
   .rw[hb2,hclose];omega
  |some m=>
   simp only;obtain⟨hm,hum⟩:=SS hs;have hlm:lA (lg B m)=lB (lg B a):=by
    unfold Uv at hs;split at hs
    .cases hs
    .have:=(yx hs).2;unfold vF at this;rw[jlK,decide_eq_true_iff] at this;exact this.2
   obtain⟨tl,t1,t2,t3,t4,t5⟩:=ja8 F (first:=first) f (u.set a true) m (ps++[lA (lg B a)]) (by rw[jmV,hl]) hm hum Om (λv=>by rw[hb2 v,hlm])
   refine⟨lA (lg B m)::tl,by rw[t1];simp,?_,t3,λk hk=>t4 k (hmono k hk),t4 a hself⟩;show F _ _+cs F (lA (lg B m)::(tl++[lA (lg B first)]))+_=_
   rw[<-t2,s1,hlm];unfold gB;omega
theorem H4(n k:Nat):WR (List.replicate n false) k=false:=by
 unfold WR;rw[List.getD_eq_getElem?_getD,List.getElem?_replicate];split<;>rfl
theorem jgo{B:List Leg}(F:Pn->Pn->Int)(hc:∀v,uR B.length (List.replicate B.length false) (aB B v)=0):∀k,k<=B.length->
  sm (λr=>cs F (r++[pt r 0])) (kN B k).2=sR B.length (kN B k).1 (gB F B)/\(∀v,uR B.length (kN B k).1 (aB B v)=0)/\∀j,j<k->WR (kN B k).1 j=true
 |0,_=>by
  refine⟨?_,hc,λj hj=>absurd hj Om⟩;show 0=_
  unfold sR;refine(Q0 (List.range B.length)).symm.trans (JC λk _=>?_);rw[if_neg (by show¬WR (List.replicate B.length false) k=true;rw[H4];simp)]
 |k+1,hk=>by
  obtain⟨i1,i2,i3⟩:=jgo F hc k Om;unfold kN;split
  .rename_i hu;refine⟨i1,i2,λj hj=>?_⟩;rcases jmT (Nat.le_of_lt_succ hj) with c|c
   .exact i3 j c
   .rw[c];exact hu
  .rename_i hu;obtain⟨tl,t1,t2,t3,t4,t5⟩:=ja8 F (first:=k) (WS (kN B k).1) (kN B k).1 k [] (yD k) Om (by simpa using hu) (jlL _) (λv=>by rw[i2 v];omega)
   refine⟨?_,t3,λj hj=>?_⟩
   .rw[Qz,i1,<-t2];simp only[sm];rw[t1];have:pt ([]++lA (lg B k)::tl) 0=lA (lg B k):=rfl
    rw[this];simp only[jN,jO];omega
   .rcases jmT (Nat.le_of_lt_succ hj) with c|c
    .exact t4 j (i3 j c)
    .rw[c];exact t5
theorem ji9(g:Leg->Int)(B:List Leg):sm (λk=>g (lg B k)) (List.range B.length)=sm g B:=by
 have key:∀k,k<=B.length->sm (λk=>g (lg B k)) (List.range k)=sm g (B.take k):=λk=>by
  induction k with
  |zero=>intro _;rfl
  |succ k ih=>
   intro hk;rw[jm3,Qz,ih Om,jlX Om,Qz];have:lg B k=B[k]:=by simp[lg,List.getD,show k<B.length by omega]
   simp only[sm,this]
 rw[key _ (jlL _),jms]
theorem I3(F:Pn->Pn->Int)(hc:∀v,sm (λl=>Um v (lA l)-Um v (lB l)) B=0):sm (λr=>cs F (r++[pt r 0])) (Ki B)=sm (λl=>F (lA l) (lB l)) B:=by
 have h0:∀v,uR B.length (List.replicate B.length false) (aB B v)=0:=λv=>by
  rw[<-hc v,<-ji9];unfold uR;refine JC λk _=>?_
  rw[if_neg (by rw[H4];simp)];rfl
 obtain⟨t1,_,t3⟩:=jgo F h0 B.length (jlL _);unfold Ki;rw[t1,<-ji9];unfold sR;refine JC λk hk=>?_
 rw[if_pos (t3 k (jmB.1 hk))];rfl
theorem Cr(F:Pn->Pn->Int):∀(u:List Pn) (a:Pn) (v:List Pn),cs F (u++a::v)=cs F (u++[a])+cs F (a::v)
 |[],a,v=>by simp[cs]
 |[x],a,v=>by simp only[jmf,jmt,cs];omega
 |x::y::u,a,v=>by
  have:=Cr F (y::u) a v;simp only[jmf,cs] at this⊢;omega
def Bm(F:Pn->Pn->Int)(r:List Pn):Int:=cs F (r++[pt r 0])
theorem EY(F:Pn->Pn->Int)(xs:List Pn)(k:Nat):Bm F (Yd xs k)=Bm F xs:=by
 unfold Bm Yd;have h:=jl1 k xs
 cases hu:xs.take k with
 |nil=>rw[hu] at h;rw[jl9];rw[jmt] at h;rw[h]
 |cons a u=>
  cases hv:xs.drop k with
  |nil=>rw[hv,jl9,hu] at h;rw[jmt,h]
  |cons b v=>
   rw[hu,hv] at h;rw[<-h];show cs F ((b::v++a::u)++[b])=cs F ((a::u++b::v)++[a])
   rw[jlT,jlT];show cs F ((b::v)++a::(u++[b]))=cs F ((a::u)++b::(v++[a]))
   rw[Cr F (b::v),Cr F (a::u)];show cs F ((b::v)++[a])+cs F ((a::u)++[b])=cs F ((a::u)++[b])+cs F ((b::v)++[a])
   omega
theorem TV(F:Pn->Pn->Int):∀L:List Pn,cs F L=sm (λj=>F (pt L j) (pt L (j+1))) (List.range (L.length-1))
 |[]=>rfl
 |[_]=>rfl
 |a::b::l=>by
  have ih:=TV F (b::l);show F a b+cs F (b::l)=_
  rw[ih];show _=sm _ (List.range (l.length+1))
  rw[List.range_succ_eq_map];simp only[sm];rw[VC];rfl
theorem Lm(F:Pn->Pn->Int)(xs:List Pn):Bm F xs=sm (λj=>F (pt xs j) (pt xs (nx xs j))) (List.range xs.length):=by
 unfold Bm;rw[TV];rw[show(xs++[pt xs 0]).length-1=xs.length by simp];refine JC λj hj=>?_
 have hj:=jmB.1 hj;have e1:pt (xs++[pt xs 0]) j=pt xs j:=by
  simp only[pt,px,py,List.getD_eq_getElem?_getD,List.getElem?_append_left hj]
 rw[e1];congr 1;unfold nx;by_cases k:j+1<xs.length
 .rw[jm0 k];simp only[pt,px,py,List.getD_eq_getElem?_getD,List.getElem?_append_left k]
 .have:j+1=xs.length:=by omega
  rw[this,jnD];have e4:(xs++[pt xs 0])[xs.length]? =some (pt xs 0):=by rw[List.getElem?_append_right (jlL _),Nat.sub_self];rfl
  generalize pt xs 0=z at e4⊢;simp only[pt,px,py,List.getD_eq_getElem?_getD,e4];rfl
theorem Ms(F:Pn->Pn->Int)(h0:∀a,F a a=0)(xs:List Pn):∀k,sm (λl=>F (lA l) (lB l)) (qI xs k)=sm (λj=>F (pt xs j) (pt xs (nx xs j))) (List.range k)
 |0=>rfl
 |k+1=>by
  rw[jm3,Qz,<-Ms F h0 xs k];have e:F (lA (Il xs k)) (lB (Il xs k))=F (pt xs k) (pt xs (nx xs k)):=rfl
  have e0:qI xs (k+1)=if L3 xs k=true then qI xs k else qI xs k++[Il xs k]:=rfl
  rw[e0];split
  .rename_i hs;simp only[L3,jlK,beq_iff_eq] at hs;have:pt xs k=pt xs (nx xs k):=Prod.ext hs.1 hs.2
   simp only[sm];rw[<-this,h0];omega
  .rw[Qz];simp only[sm];rw[e]
theorem Lr(F:Pn->Pn->Int)(h0:∀a,F a a=0)(xs:List Pn):sm (λl=>F (lA l) (lB l)) (Jh xs)=Bm F xs:=by
 rw[Lm];exact Ms F h0 xs _
theorem jgF(F:Pn->Pn->Int)(h0:∀a,F a a=0)(rs:List (List (Int×Int))):sm (λl=>F (lA l) (lB l)) (jH rs)=sm (Bm F) rs:=by
 have key:∀k,k<=rs.length->sm (λl=>F (lA l) (lB l)) (qx rs k)=sm (Bm F) (rs.take k):=λk=>by
  induction k with
  |zero=>intro _;rfl
  |succ k ih=>
   intro hk;unfold qx;rw[Qz,ih Om,jlX (show k<rs.length by omega),Qz,Lr F h0,wb];simp only[sm];omega
 have:=key rs.length (jlL _);rw[jms] at this;exact this
theorem jfZ{α:Type}(lt:α->α->Bool)(f:α->Int)(x:α):∀l:List α,sm f (wm lt x l)=f x+sm f l
 |[]=>rfl
 |y::l=>by
  unfold wm;split
  .rfl
  .simp only[sm];rw[jfZ lt f x l];omega
theorem jkt(lt:α->α->Bool)(f:α->Int)(l:List α):sm f (Kq lt l)=sm f l:=by
 have key:∀(l acc:List α),sm f (l.foldl (λacc x=>wm lt x acc) acc)=sm f acc+sm f l:=λl=>by
  induction l with
  |nil=>intro acc;simp[sm]
  |cons x l ih=>
   intro acc;rw[jmI,ih,jfZ];simp only[sm];omega
 unfold Kq;rw[key];simp[sm]
theorem jaQ(F:Pn->Pn->Int)(rs:List (List (Int×Int))):sm (Bm F) (vm rs)=sm (Bm F) rs:=by
 unfold vm;rw[jkt,VC];exact JC λr _=>EY F r _
theorem jhZ(F:Pn->Pn->Int)(h0:∀a,F a a=0)(hc:∀v,sm (λl=>Um v (lA l)-Um v (lB l)) B=0):sm (λl=>F (lA l) (lB l)) (jH (vm (Ki B)))=sm (λl=>F (lA l) (lB l)) B:=by
 rw[jgF F h0,jaQ];exact I3 F hc
theorem SF(e:Leg)(l:List Leg):sm (λx=>if x=e then 1 else 0) l=(l.count e:Int):=by
 induction l with
 |nil=>rfl
 |cons x l ih=>
  simp only[sm];rw[ih,List.count_cons];by_cases k:x=e
  .rw[if_pos k,if_pos (by simpa using k)];omega
  .rw[if_neg k,if_neg (by simpa using k)];omega
theorem yM(xs:List Pn):∀k,∀l∈qI xs k,lA l≠lB l
 |0,l,h=>by cases h
 |k+1,l,h=>by
  unfold qI at h;split at h
  .exact yM xs k l h
  .rename_i hs;rcases jl0.1 h with h|h
   .exact yM xs k l h
   .rw[jlM.1 h];intro e;refine hs ?_;have e1:px xs k=px xs (nx xs k):=congrArg Prod.fst e
    have e2:py xs k=py xs (nx xs k):=congrArg Prod.snd e;simp[L3,e1,e2]
theorem jdq(rs:List (List (Int×Int))):∀k,∀l∈qx rs k,lA l≠lB l
 |0,l,h=>by cases h
 |k+1,l,h=>(jl0.1 h).elim (jdq rs k l) (yM _ _ l)
theorem Pm(hne:∀l∈B,lA l≠lB l)(hc:∀v,sm (λl=>Um v (lA l)-Um v (lB l)) B=0):(jH (vm (Ki B))).Perm B:=by
 refine List.perm_iff_count.2 λe=>?_
 by_cases he:lA e=lB e
 .have z:∀L:List Leg,(∀l∈L,lA l≠lB l)->L.count e=0:=λL hL=>List.count_eq_zero.2 λh=>hL e h he
  rw[z (jH _) (jdq _ _),z _ hne]
 .have h:=jhZ (B:=B) (λa b=>if a=lA e/\b=lB e then 1 else 0) (λa=>by
   show(if a=lA e/\a=lB e then(1:Int) else 0)=0
   rw[if_neg λk=>he (k.1.symm.trans k.2)]) hc
  have e1:∀L:List Leg,sm (λl=>if lA l=lA e/\lB l=lB e then(1:Int) else 0) L=sm (λx=>if x=e then 1 else 0) L:=λL=>JC λx _=>by
   by_cases k:x=e
   .rw[if_pos k,if_pos (by rw[k];exact⟨rfl,rfl⟩)]
   .rw[if_neg k,if_neg λc=>k (G7 c.1 c.2)]
  have h':sm (λl=>if lA l=lA e/\lB l=lB e then(1:Int) else 0) (jH (vm (Ki B)))=sm (λl=>if lA l=lA e/\lB l=lB e then(1:Int) else 0) B:=h
  rw[e1,e1,SF,SF] at h';omega
theorem BU{F:List Leg}(h:E.Perm F)(p:Leg):Q5 E p=Q5 F p:=by
 unfold Q5 qd Qw;rw[uj _ h,uj _ h]
theorem OV(f:α->Int)(l:List α):sm (λx=> -f x) l= -sm f l:=by
 induction l with
 |nil=>rfl
 |cons x l ih=>simp only[sm,ih];omega
theorem jis{e:Leg}(h:lA e≠lB e):sg (qW e)= -sg e:=by
 have hab:(lA e).1≠(lB e).1\/(lA e).2≠(lB e).2:=by
  by_cases k:(lA e).1=(lB e).1
  .exact .inr λz=>h (Prod.ext k z)
  .exact .inl k
 have e1:lA (qW e)=lB e:=rfl;have e2:lB (qW e)=lA e:=rfl
 unfold sg;rw[e1,e2];by_cases k:vv (lB e) (lA e)
 .have n:¬vv (lA e) (lB e):=by unfold vv at k⊢;omega
  rw[if_pos k,if_neg n];rfl
 .have n:vv (lA e) (lB e):=by unfold vv at k⊢;omega
  rw[if_neg k,if_pos n]
theorem jhI(hne:∀e∈E,lA e≠lB e)(p:Leg):(Q5 (E.map qW) p).left= -(Q5 E p).left/\(Q5 (E.map qW) p).right= -(Q5 E p).right:=by
 have h1:qd (E.map qW) p= -qd E p:=by
  unfold qd;rw[VC,<-OV];refine JC λe he=>?_
  rw[zJ (hne e he),jis (hne e he)];split<;>simp
 have h2:Qw (E.map qW) p= -Qw E p:=by
  unfold Qw;rw[VC,<-OV];refine JC λe he=>?_
  rw[zJ (hne e he)];have:kk (ko true (qW e)) (kS p) (QY p)= -kk (ko true e) (kS p) (QY p):=Xf (ko true e) _ _
  rw[this];split<;>simp
 unfold Q5;rw[h1,h2];split
 .exact⟨rfl,by simp only;omega⟩
 .exact⟨by simp only;omega,rfl⟩
def Mq(a b:Pn):Int:=(b.1-a.1)*(b.1-a.1)+(b.2-a.2)*(b.2-a.2)
def alg(a b p:Pn):Int:=(p.1-a.1)*(b.1-a.1)+(p.2-a.2)*(b.2-a.2)
def jfc(a b p:Pn)(r:Int):Bool:=
 if Mq a p<=r*r\/Mq b p<=r*r then true else if alg a b p<=0\/Mq a b<=alg a b p then false else decide (tn a b p*tn a b p<=r*r*Mq a b)
theorem Ma(x:Int):0<=x*x:=by
 rcases Int.le_total 0 x with h|h
 .exact jl2 h h
 .have:=jl2 (show 0≤-x by omega) (show 0≤-x by omega);grind
def jk2(a b p:Pn):Int:=if a=b then Mq a p else max (tn a b p) (-tn a b p)
def jbc(a b:Pn)(r:Int)(xs:List (Int×Int)):Nat->Int×Int
 |0=>(-1,-1)
 |k+1=>if jfc a b (pt xs (k+1)) r=true then jbc a b r xs k else if(jbc a b r xs k).2<jk2 a b (pt xs (k+1)) then(((k+1:Nat):Int),jk2 a b (pt xs (k+1))) else jbc a b r xs k
def far(r:Int)(xs:List (Int×Int)):Int:=(jbc (pt xs 0) (pt xs (xs.length-1)) r xs (xs.length-2)).1
def okPath(xs:List (Int×Int)):Prop:=xs.length<=402/\∀p∈xs,bd2 p
theorem okPath.at_{xs:List (Int×Int)}(h:okPath xs){k:Nat}(hk:k<xs.length):bd2 (pt xs k):=by
 have:=h.2 xs[k] (jlY hk)
 rwa [YB hk] at this
theorem okPath.take{xs:List (Int×Int)}(h:okPath xs)(k:Nat):okPath (xs.take k):=⟨by rw[jl3];have:=h.1;omega,λp hp=>h.2 p (jmp hp)⟩
theorem okPath.drop{xs:List (Int×Int)}(h:okPath xs)(k:Nat):okPath (xs.drop k):=⟨by rw[jmb];have:=h.1;omega,λp hp=>h.2 p (jmy hp)⟩
section
variable{n:Nat}{env:List (Nat×Value)}{w0:Bs}{Rs:List Res}{K:Act->World->Prop}
theorem jgP(k s m:Nat)(hX:w0.X=[]){b U:Nat}{cs:List Value}(hk:Rs[k]? =some (.cel b U cs))(hl:cs.length=m*s)(hm:m<=maxLen)(h:At n env w0 (Rs.set k (.row w0.N U s (.slice (some ⟨b,0,none⟩) m m) m cs)) K):At n env w0 Rs K:=λa w hf hs=>by
 have hlow:w0.N<=b:=((hs.all k _ hk).2.1 b rfl).elim id (λh=>by rw[hX] at h;cases h);refine h a w hf (hs.chg hk (λhP=>?_) (λc hc=>?_) J)
 .exact⟨hl,.inr ⟨b,m,cs.toArray,rfl,hlow,hP,jlL _,hm,by simp[hl],by simp[<-hl]⟩⟩
 .have:some b=some c:=hc;injection this with this
  exact this.symm
end
def M7(α β:Int)(p x:Pn):Int:=α*(x.1-p.1)+β*(x.2-p.2)
theorem sep{a b p:Pn}{r:Int}(hr:0<=r)(h:jfc a b p r=false):∃α β m:Int,0<m/\r*r*(α*α+β*β)<m*m/\m<=M7 α β p a/\m<=M7 α β p b:=by
 have hrr:=Ma r;unfold jfc at h;split at h
 .cases h
 .rename_i h1;have h1a:r*r<Mq a p:=Int.not_le.1 λk=>h1 (.inl k)
  have h1b:r*r<Mq b p:=Int.not_le.1 λk=>h1 (.inr k)
  split at h
  .rename_i h2;rcases h2 with h2|h2
   .refine⟨a.1-p.1,a.2-p.2,Mq a p,by omega,?_,?_,?_⟩
    .have e:(a.1-p.1)*(a.1-p.1)+(a.2-p.2)*(a.2-p.2)=Mq a p:=by unfold Mq;grind
     rw[e];exact jl6 h1a Om
    .exact jns (by unfold Mq M7;grind)
    .have e:M7 (a.1-p.1) (a.2-p.2) p b=Mq a p-alg a b p:=by unfold M7 Mq alg;grind
     omega
   .refine⟨b.1-p.1,b.2-p.2,Mq b p,by omega,?_,?_,?_⟩
    .have e:(b.1-p.1)*(b.1-p.1)+(b.2-p.2)*(b.2-p.2)=Mq b p:=by unfold Mq;grind
     rw[e];exact jl6 h1b Om
    .have e:M7 (b.1-p.1) (b.2-p.2) p a=Mq b p+(alg a b p-Mq a b):=by unfold M7 Mq alg;grind
     omega
    .exact jns (by unfold Mq M7;grind)
  .have h3:r*r*Mq a b<tn a b p*tn a b p:=by simpa using h
   have hd:0<=Mq a b:=by
    unfold Mq;have:=Ma (b.1-a.1)
    have:=Ma (b.2-a.2);omega
   have key:∀s:Int,s*s=1->0<s*tn a b p->∃α β m:Int,0<m/\r*r*(α*α+β*β)<m*m/\m<=M7 α β p a/\m<=M7 α β p b:=λs hs hp=>by
    refine⟨s*(b.2-a.2),s*(a.1-b.1),s*tn a b p,hp,?_,?_,?_⟩
    .have e1:s*(b.2-a.2)*(s*(b.2-a.2))+s*(a.1-b.1)*(s*(a.1-b.1))=s*s*Mq a b:=by unfold Mq;grind
     have e2:s*tn a b p*(s*tn a b p)=s*s*(tn a b p*tn a b p):=by grind
     rw[e1,e2,hs,jnK,jnK];exact h3
    .exact jns (by simp only[M7,tn,kU];grind)
    .exact jns (by simp only[M7,tn,kU];grind)
   have h0:0<=r*r*Mq a b:=jl2 hrr hd;rcases jmv (tn a b p) 0 with ht|ht|ht
   .exact key (-1) rfl Om
   .rw[ht] at h3;omega
   .exact key 1 rfl Om
theorem Pt{z:Pn}(h1:Lk es z)(h2:∀e,es.head?=some e->e.1=z):KN (es.map (·.1))=es:=by
 obtain⟨g1,g2⟩:=jeN h1;have hp:∀j (hj:j<es.length),pt (es.map (·.1)) j=es[j].1:=λj hj=>by
  rw[<-KO (by simpa using hj)];simp
 refine jm5 (by simp[KN]) λj hj hj'=>?_
 simp only[KN,jmW,jnp];refine Prod.ext (hp j hj') ?_;show pt (es.map (·.1)) (nx (es.map (·.1)) j)=_
 by_cases hj1:j+1<es.length
 .rw[show nx (es.map (·.1)) j=j+1 from jm0 (by simpa using hj1),hp _ hj1,<-g1 j hj1]
 .have hk:0<es.length:=by omega
  rw[show nx (es.map (·.1)) j=0 by unfold nx;rw[jlV,show j+1=es.length by omega,jnD],hp 0 hk];have hz:(es[0]'hk).1=z:=h2 _ (by cases es with|nil=>simp at hk|cons a l=>rfl)
  have:es.length-1=j:=by omega
  rw[hz,<-g2 hk];simp only[this]
theorem Cx(h0:0<xs.length)(hk:0<(vx xs).length):Jh (vx xs)=Jh xs:=by
 obtain⟨h1,h2⟩:=F9 h0;have e:vx xs=((Jh xs).map CR).map (·.1):=by rw[jni];rfl
 rw[QQ (Ii h0 hk),e,Pt h1 h2,jni]
 conv=>rhs;rw[<-List.map_id (Jh xs)]
 rfl
theorem FP(rs ss:List jI):∀k,k<=rs.length->qx (rs++ss) k=qx rs k
 |0,_=>rfl
 |k+1,hk=>by
  show qx (rs++ss) k++Jh (rg (rs++ss) k)=qx rs k++Jh (rg rs k);rw[FP rs ss k Om];congr 2;simp only[rg,List.getD_eq_getElem?_getD,List.getElem?_append_left (show k<rs.length by omega)]
theorem Ba(rs ss:List jI):∀k,qx (rs++ss) (rs.length+k)=jH rs++qx ss k
 |0=>by
  rw[jnC,FP rs ss _ (jlL _)];exact(jl9 _).symm
 |k+1=>by
  show qx (rs++ss) (rs.length+k)++Jh (rg (rs++ss) (rs.length+k))=jH rs++(qx ss k++Jh (rg ss k));rw[Ba rs ss k,jlT];congr 3;simp only[rg,List.getD_eq_getElem?_getD,List.getElem?_append_right (Nat.le_add_right _ _),Nat.add_sub_cancel_left]
theorem UT(rs ss:List jI):jH (rs++ss)=jH rs++jH ss:=by
 unfold jH;rw[jlJ];exact Ba rs ss _
theorem GV(r:jI):jH [r]=Jh r:=rfl
theorem GJ{rs:List jI}(hr:JG rs=true):∀k,k<=rs.length->jH (vR rs k)=qx rs k
 |0,_=>rfl
 |k+1,hk=>by
  have ih:=GJ hr k Om;have hp:=Qj (kg hr (show k<rs.length by omega))
  show _=qx rs k++Jh (rg rs k);by_cases h:0<(vx (rg rs k)).length
  .rw[zk Om h,UT,ih,GV,Cx hp.1 h]
  .rw[xI Om h,ih];have e:(Jh (rg rs k)).length=(vx (rg rs k)).length:=(jlV ..).symm
   rw[jmh (show(Jh (rg rs k)).length=0 by omega),jl9]
theorem wC(hr:JG rs=true):jH (ql rs)=jH rs:=GJ hr _ (jlL _)
theorem jhr(h:bare r):vx r=r:=by
 show(Jh r).map lA=r;rw[QQ h,jni];exact WJ r
theorem jbP(h:∀r∈ss,bare r):ql ss=ss:=by
 unfold ql vR;rw[jms];have e:ss.map vx=ss:=by
  refine(jnL (λr hr=>jhr (h r hr))).trans ?_;simp
 rw[e];exact List.filter_eq_self.2 λr hr=>decide_eq_true (h r hr).1
theorem jaf{E:List Leg}(hx:NoX E){p:Pn}:∀i,i<=E.length->p∈zb E i->∃k,k<i/\(p=lA (lg E k)\/p=lB (lg E k))
 |0,_,h=>by simp[zb] at h
 |i+1,hi,h=>by
  have hcz:∀k,k<=i->p∉cz E i k:=λk=>by
   induction k with
   |zero=>intro _ h;simp[cz] at h
   |succ k ih=>
    intro hk h;rw[cz] at h;rcases jl0.1 h with h|h
    .exact ih Om h
    .split at h
     .rename_i h2;exact hx _ (by rw[BR (show i<E.length by omega)];exact jlY _) _ (by rw[BR (show k<E.length by omega)];exact jlY _) (C2 h2)
     .cases h
  simp only[zb,jl0,jlP,jmi,or_false] at h;rcases h with(h|h)|h
  .obtain⟨k,hk,e⟩:=jaf hx i Om h;exact⟨k,by omega,e⟩
  .exact⟨i,by omega,h⟩
  .exact absurd h (hcz i (jlL _))
def Fi:List Pn->List Leg
 |a::b::l=>mkL (a,b)::Fi (b::l)
 |_=>[]
theorem Rm:∀(u:List Pn) (a:Pn) (v:List Pn),Fi (u++a::v)=Fi (u++[a])++Fi (a::v)
 |[],a,v=>by simp[Fi]
 |[x],a,v=>by simp[Fi]
 |x::y::u,a,v=>by
  have:=Rm (y::u) a v;simp only[jmf,Fi] at this⊢;rw[this]
theorem EV:∀l:List Pn,Fi l.reverse=((Fi l).map qW).reverse
 |[]=>rfl
 |[_]=>rfl
 |a::b::t=>by
  have ih:=EV (b::t);have e1:(a::b::t).reverse=t.reverse++b::[a]:=by simp
  have e2:(b::t).reverse=t.reverse++[b]:=by simp
  rw[e1,Rm,<-e2,ih];simp only[Fi,jmA,List.reverse_cons];rfl
theorem jdT:∀{es:List (Pn×Pn)} {z:Pn},Lk es z->Fi (es.map (·.1)++[z])=es.map mkL
 |[],_,_=>rfl
 |[e],z,h=>by
  have h:e.2=z:=h;subst h;rfl
 |e::f::l,z,h=>by
  have h:e.2=f.1/\Lk (f::l) z:=h;have:=jdT h.2
  show mkL (e.1,f.1)::Fi ((f::l).map (·.1)++[z])=mkL (e.1,e.2)::(f::l).map mkL;rw[this,h.1]
theorem TJ{hot:List Pn}:∀{es:List (Pn×Pn)} {z:Pn},Lk es z->(∀d∈es,d.1≠d.2/\d.1∈hot/\d.2∈hot)->Fi (es.flatMap (QA hot)++[z])=es.flatMap λd=>Fi (QA hot d++[d.2])
 |[],_,_,_=>rfl
 |[e],z,h,_=>by
  have h:e.2=z:=h;subst h;simp
 |e::f::l,z,h,ho=>by
  have h:e.2=f.1/\Lk (f::l) z:=h;have ih:=TJ h.2 (λd hd=>ho d (jlQ _ hd))
  obtain⟨rest,er⟩:=xO (l:=l) (ho f (by simp));show Fi ((QA hot e++(f::l).flatMap (QA hot))++[z])=Fi (QA hot e++[e.2])++(f::l).flatMap λd=>Fi (QA hot d++[d.2])
  rw[<-ih,er,jlT,jmf,Rm,h.1]
theorem jgR(hb:bare xs):Jh xs=Fi (xs++[pt xs 0]):=by
 have h:=jdT (HC (xs:=xs));rw[WJ] at h;rw[QQ hb,h]
theorem DA(hnd:hot.Nodup)(hb:bare xs)(hm:∀p∈xs,p∈hot):Jh (Ko hot xs)=(Jh xs).flatMap λe=>Fi (qJ (lA e) (lB e) hot):=by
 have hok:=YZ hb hm;have hb2:=(U9 hnd hb hm).1
 rw[jgR hb2,Uu hb];have hz:pt ((KN xs).flatMap (QA hot)) 0=pt xs 0:=by
  have h0:=hb.1;cases hp:KN xs with
  |nil=>have:=congrArg List.length hp;rw[WK,jl5] at this;omega
  |cons e l=>
   obtain⟨rest,er⟩:=xO (l:=l) (hok e (by rw[hp];simp));rw[er];have:xs=(KN xs).map (·.1):=(WJ xs).symm
   rw[this,hp];rfl
 rw[hz,TJ HC hok,QQ hb,List.flatMap_map];refine congrArg List.flatten (jnL λd hd=>?_);obtain⟨mid,h1,h2⟩:=wv (hok d hd);show _=Fi (qJ d.1 d.2 hot)
 rw[h2]
structure Rv (r s:List Pn):Prop where
 br:bare r
 bs:bare s
 pm:(Jh s).Perm ((Jh r).map qW)
theorem Ib{α β:Type}{f g:α->List β}:∀{l:List α},(∀a∈l,(f a).Perm (g a))->(l.flatMap f).Perm (l.flatMap g)
 |[],_=>List.Perm.refl _
 |a::l,h=>by
  rw[jl4,jl4];exact(h a (jl7 ..)).append (Ib λb hb=>h b (jlQ _ hb))
theorem CC{β:Type}(f:α->List β){l m:List α}(h:l.Perm m):(l.flatMap f).Perm (m.flatMap f):=by
 induction h with
 |nil=>exact List.Perm.refl _
 |cons a _ ih=>rw[jl4,jl4];exact ih.append_left _
 |swap a b l=>
  simp only[jl4];rw[<-jlT,<-jlT];exact List.perm_append_comm.append_right _
 |trans _ _ h1 h2=>exact h1.trans h2
theorem je0(hb:bare xs)(p:Pn):p∈xs↔∃e∈Jh xs,lA e=p:=by
 rw[QQ hb];constructor
 .intro h;rw[<-WJ xs] at h;obtain⟨d,hd,e⟩:=jlR.1 h;exact⟨mkL d,jlR.2 ⟨d,hd,rfl⟩,e⟩
 .rintro⟨e,he,rfl⟩;obtain⟨d,hd,rfl⟩:=jlR.1 he;show d.1∈xs
  have:d.1∈(KN xs).map (·.1):=jlR.2 ⟨d,hd,rfl⟩
  rwa [WJ] at this
theorem jeY(hb:bare xs)(p:Pn):p∈xs↔∃e∈Jh xs,lB e=p:=by
 have h0:=hb.1;rw[QQ hb];constructor
 .intro h;obtain⟨j,hj,e⟩:=jmq h;rw[KO hj] at e;have key:∃i,i<xs.length/\nx xs i=j:=by
   by_cases k:j=0
   .exact⟨xs.length-1,by omega,by unfold nx;rw[show xs.length-1+1=xs.length by omega,jnD,k]⟩
   .exact⟨j-1,by omega,by unfold nx;rw[show j-1+1=j by omega,jm0 hj]⟩
  obtain⟨i,hi,hn⟩:=key;refine⟨mkL (pt xs i,pt xs (nx xs i)),jlR.2 ⟨_,jlR.2 ⟨i,jmB.2 hi,J⟩,J⟩,?_⟩;show pt xs (nx xs i)=p
  rw[hn,e]
 .rintro⟨e,he,rfl⟩;obtain⟨d,hd,rfl⟩:=jlR.1 he;obtain⟨j,hj,rfl⟩:=jlR.1 hd;have hn:nx xs j<xs.length:=jnA _ h0
  show pt xs (nx xs j)∈xs;rw[<-KO hn];exact jlY _
theorem Rv.len(h:Rv r s):s.length=r.length:=by
 have:=h.pm.length_eq;rw[jlV,wl h.bs,wl h.br] at this;exact this
theorem Rv.mem(h:Rv r s)(p:Pn):p∈s↔p∈r:=by
 rw[je0 h.bs,jeY h.br];constructor
 .rintro⟨e,he,rfl⟩;obtain⟨f,hf,rfl⟩:=jlR.1 (h.pm.mem_iff.1 he);exact⟨f,hf,rfl⟩
 .rintro⟨f,hf,rfl⟩;exact⟨qW f,h.pm.mem_iff.2 (jlR.2 ⟨f,hf,rfl⟩),rfl⟩
theorem Rv.snap(hnd:hot.Nodup)(h:Rv r s)(hm:∀p∈r,p∈hot):Rv (Ko hot r) (Ko hot s):=by
 have hm':∀p∈s,p∈hot:=λp hp=>hm p ((h.mem p).1 hp)
 refine⟨(U9 hnd h.br hm).1,(U9 hnd h.bs hm').1,?_⟩;rw[DA hnd h.bs hm',DA hnd h.br hm];refine(CC _ h.pm).trans ?_;rw[List.flatMap_map,List.map_flatMap];refine Ib λe _=>?_
 show(Fi (qJ (lB e) (lA e) hot)).Perm _;rw[Pu hnd,EV];exact List.reverse_perm _
def Rv2:List jI->List jI->Prop
 |[],[]=>True
 |r::rs,s::ss=>Rv r s/\Rv2 rs ss
 |_,_=>False
theorem Rv2.snap{hot:List Pn}(hnd:hot.Nodup):∀{rs ss:List jI},Rv2 rs ss->bareG hot rs->Rv2 (q8 hot rs) (q8 hot ss)
 |[],[],_,_=>trivial
 |[],_::_,h,_=>h.elim
 |_::_,[],h,_=>h.elim
 |r::rs,s::ss,h,hb=>⟨h.1.snap hnd (hb r (jl7 ..)).2,Rv2.snap hnd (rs:=rs) (ss:=ss) h.2 λx hx=>hb x (jlQ _ hx)⟩
theorem Rv2.bare{hot:List Pn}:∀{rs ss:List jI},Rv2 rs ss->bareG hot rs->bareG hot ss
 |[],[],_,_=>λx hx=>by cases hx
 |[],_::_,h,_=>h.elim
 |_::_,[],h,_=>h.elim
 |r::rs,s::ss,h,hb=>λx hx=>by
  rcases jlP.1 hx with rfl|hx
  .exact⟨h.1.bs,λp hp=>(hb r (jl7 ..)).2 p ((h.1.mem p).1 hp)⟩
  .exact Rv2.bare (rs:=rs) (ss:=ss) h.2 (λy hy=>hb y (jlQ _ hy)) x hx
theorem Xw(r:jI)(rs:List jI):jH (r::rs)=Jh r++jH rs:=by
 have:=UT [r] rs;rw[GV] at this;exact this
theorem Rv2.edges:∀{rs ss:List jI},Rv2 rs ss->(jH ss).Perm ((jH rs).map qW)
 |[],[],_=>List.Perm.refl _
 |[],_::_,h=>h.elim
 |_::_,[],h=>h.elim
 |r::rs,s::ss,h=>by
  rw[Xw,Xw,jma];exact h.1.pm.append (Rv2.edges (rs:=rs) (ss:=ss) h.2)
theorem Rv2.cnt:∀{rs ss:List jI},Rv2 rs ss->Go.Proofs.YtjbahemkhphndaaGreat.cnt ss=Go.Proofs.YtjbahemkhphndaaGreat.cnt rs/\ss.length=rs.length
 |[],[],_=>⟨rfl,rfl⟩
 |[],_::_,h=>h.elim
 |_::_,[],h=>h.elim
 |r::rs,s::ss,h=>by
  obtain⟨h1,h2⟩:=Rv2.cnt (rs:=rs) (ss:=ss) h.2;have h3:=h.1.len
  unfold Go.Proofs.YtjbahemkhphndaaGreat.cnt at h1⊢;simp only[jmA,List.sum_cons,jlS];omega
theorem FO :WY xs=true↔∀p∈xs,WT p.1 p.2=true:=by
 unfold WY;rw[jm4]
theorem Rv2.ring:∀{rs ss:List jI},Rv2 rs ss->ss.all qM=rs.all qM
 |[],[],_=>rfl
 |[],_::_,h=>h.elim
 |_::_,[],h=>h.elim
 |r::rs,s::ss,h=>by
  have e:qM s=qM r:=by
   have h1:WY s=WY r:=by
    rw[jl8,FO,FO];exact⟨λk p hp=>k p ((h.1.mem p).2 hp),λk p hp=>k p ((h.1.mem p).1 hp)⟩
   unfold qM;rw[h.1.len,h1]
  rw[List.all_cons,List.all_cons,e,Rv2.ring (rs:=rs) (ss:=ss) h.2]
theorem Rv2.reg(h:Rv2 rs ss):JG ss=JG rs:=by
 have e:(jH ss).length=(jH rs).length:=by rw[h.edges.length_eq,jlV]
 unfold JG;rw[h.cnt.2,h.ring,e]
end Go.Proofs.YtjbahemkhphndaaGreat
namespace Go.Proofs.YtjbahemkhphndaaGreat
open Go Go.RowKit Go.MapKept
variable{G:List (Pn×Value)}{T:TypeId}{b j k:Nat}{p:Pn}{u v:Value}{w:World}{x y:Operand}
def wT:List (Pn×Value)->Nat->List MapEntry
 |[],_=>[]
 |(p,v)::l,i=>⟨pV p,v,i⟩::wT l (i+1)
def Xk(G:List (Pn×Value)):Obj:=.map (wT G 0).toArray G.length
def Res.mp(b:Nat)(G:List (Pn×Value)):Res where
 F:=(· =b)
 P w:=w.heap[b]? =some (Xk G)
 low _ h _ hc:=hc▸J3 h
 B:=0
 dep w w' h _ hb:=(hb b (J3 h) (.inr rfl)).trans h
def vh(p:Pn):List (Pn×Value)->Nat->Option (Nat×Value)
 |[],_=>none
 |(q,v)::l,i=>if p=q then some (i,v) else vh p l (i+1)
structure MapTy (P:Program) (T K E:TypeId):Prop where
 map:P.underlying T=some (.map K E)
 chk:∀e p w,(Instr.checkKey e 10000 K (pV p)).run P w=.ok () w
 eq:∀p q w,(Op.equal K (pV p) (pV q)).run P w=.ok (p.1==q.1&&p.2==q.2) w
 now:∃d,P.underlying K=some d/\∀p q,Instr.sameNow d (pV p) (pV q)=none
 zero:∀w,(zeroValue E).run P w=.ok (.slice none 0 0) w
theorem jjk{q:Pn}:(p.1==q.1&&p.2==q.2)=decide (p=q):=by
 rw[jl8];simp[Prod.ext_iff]
section
variable{P:Program}{T K E:TypeId}{w:World}
theorem Na(H:MapTy P T K E)(p:Pn):∀(G:List (Pn×Value)) (i:Nat),(Instr.findAsking K (pV p) (wT G i) i).run P w=.ok (vh p G i) w
 |[],i=>by simp[Instr.findAsking,wT,vh]
 |(q,v)::l,i=>by
  have ih:=Na H p l (i+1);simp only[Instr.findAsking,wT,vh,Sem.run_bind,H.eq,Result.andThen_ok,jjk];by_cases h:p=q
  .simp[h]
  .simp[h,ih]
theorem Nb(H:MapTy P T K E)(p:Pn)(G:List (Pn×Value)):(Instr.findKey K (pV p) (wT G 0)).run P w=.ok (vh p G 0) w:=by
 obtain⟨d,hd,hn⟩:=H.now;unfold Instr.findKey;simp only[Sem.run_bind,run_underlying hd,Result.andThen_ok];cases G with
 |nil=>simp[wT,Instr.findNow,vh]
 |cons a l=>
  obtain⟨q,v⟩:=a;have:Instr.findNow d (pV p) (wT ((q,v)::l) 0) 0=none:=by simp[wT,Instr.findNow,hn]
  rw[this];exact Na H p _ 0
theorem OF:∀(G:List (Pn×Value)) (i j:Nat),(wT G i)[j]? =(G[j]?).map λe=>⟨pV e.1,e.2,i+j⟩
 |[],_,_=>by simp[wT]
 |(p,v)::l,i,0=>by simp[wT]
 |(p,v)::l,i,j+1=>by
  simp only[wT,List.getElem?_cons_succ,OF l (i+1) j];rw[show i+1+j=i+(j+1) by omega]
theorem Is:∀(G:List (Pn×Value)) (i:Nat) (p:Pn) (v:Value),wT G i++[⟨pV p,v,i+G.length⟩]=wT (G++[(p,v)]) i
 |[],i,p,v=>by simp[wT]
 |(q,u)::l,i,p,v=>by
  have:=Is l (i+1) p v;simp only[wT,jmf,jlS];rw[<-this,show i+1+l.length=i+(l.length+1) by omega]
theorem Bz{p:Pn}:∀{G:List (Pn×Value)} {i j:Nat} {v:Value},vh p G i=some (j,v)->i<=j/\G[j-i]? =some (p,v)
 |[],_,_,_,h=>by cases h
 |(q,u)::l,i,j,v,h=>by
  unfold vh at h;split at h
  .rename_i e;injection h with h
   injection h with h1 h2
   subst h1 h2 e;simp
  .have:=Bz h;refine⟨by omega,?_⟩;rw[show j-i=(j-(i+1))+1 by omega];simpa using this.2
theorem jeJ(p:Pn):(Instr.keyThatStays (pV p) (pV p)).run P w=.ok (pV p) w:=by
 have hs:Instr.sameBits 10000 (pV p) (pV p)=true:=by
  show Instr.sameBits (9999+1) (pV p) (pV p)=true;simp[Instr.sameBits,pV]
 simp[Instr.keyThatStays,hs]
def jbK(p:Pn)(G:List (Pn×Value)):List (Pn×Value):=match vh p G 0 with
 |some _=>G
 |none=>G++[(p,.slice none 0 0)]
def jcF(p:Pn)(G:List (Pn×Value)):Nat:=match vh p G 0 with
 |some x=>x.1
 |none=>G.length
def DU(p:Pn)(G:List (Pn×Value)):Value:=match vh p G 0 with
 |some x=>x.2
 |none=>.slice none 0 0
theorem jen{o o':Obj}(h:w.heap[b]? =some o):({w with heap:=w.heap.setIfInBounds b o'}:World).heap[b]? =some o':=by
 have:=J3 h;simp[Array.getElem?_setIfInBounds,this]
theorem jcT(H:MapTy P T K E)(hb:w.heap[b]? =some (Xk G))(p:Pn):
  (Instr.mapEntry T (.map (some b)) (pV p)).run P w=.ok (.tuple #[DU p G,.int .i64 (jcF p G:Nat)]) {w with heap:=w.heap.setIfInBounds b (Xk (jbK p G))}:=by
 have hb':w.heap[b]? =some (.map (wT G 0).toArray G.length):=hb;have hf:(Instr.findKey K (pV p) (wT G 0).toArray.toList).run P w=.ok (vh p G 0) w:=by rw[jmP];exact Nb H p G
 unfold DU jcF jbK;cases hg:vh p G 0 with
 |none=>
  rw[hg] at hf;have e:(wT G 0).toArray.push ⟨pV p,.slice none 0 0,G.length⟩=(wT (G++[(p,.slice none 0 0)]) 0).toArray:=by
   rw[<-Is,jmd];simp
  simp only[Instr.mapEntry,Sem.run_bind,run_underlying H.map,Result.andThen_ok,MapKept.run_getObj_map hb',H.chk,hf,H.zero,MapKept.run_setObj_map _ hb',e,Sem.run_pure,goInt];unfold Xk;rw[jlJ];rfl
 |some x=>
  obtain⟨j,v⟩:=x;rw[hg] at hf;obtain⟨_,hj⟩:=Bz hg;rw[Nat.sub_zero] at hj;have hj':(wT G 0).toArray[j]? =some ⟨pV p,v,j⟩:=by
   rw[List.getElem?_toArray,OF,hj];simp
  have hsame:(wT G 0).toArray.modify j (λe=>{e with key:=pV p})=(wT G 0).toArray:=by
   apply Array.ext';rw[Array.toList_modify];refine List.ext_getElem? λi=>?_
   rw[List.getElem?_modify];by_cases hi:j=i
   .subst hi;rw[List.getElem?_toArray] at hj';simp[hj']
   .simp[hi]
  simp only[Instr.mapEntry,Sem.run_bind,run_underlying H.map,Result.andThen_ok,MapKept.run_getObj_map hb',H.chk,hf,hj',jnE,Option.getD_some,jeJ,hsame,MapKept.run_setObj_map _ hb',Sem.run_pure,goInt];rfl
theorem TE:∀(G:List (Pn×Value)) (i j:Nat),j<G.length->(wT G i).findIdx? (λe=>((e.born:Nat):Int)==((i+j:Nat):Int))=some j
 |[],_,_,h=>absurd h (by simp)
 |(p,v)::l,i,0,_=>by simp[wT,List.findIdx?_cons]
 |(p,v)::l,i,j+1,h=>by
  have ih:=TE l (i+1) j (by simpa using h);rw[show i+1+j=i+(j+1) by omega] at ih;have hb:(((i:Nat):Int)==((i+(j+1):Nat):Int))=false:=by rw[beq_eq_false_iff_ne];omega
  simp only[wT,List.findIdx?_cons,hb,ih];simp
theorem jeT(h:G[j]? =some (p,u)):(wT G 0).toArray.modify j (λe=>{e with val:=v})=(wT (G.set j (p,v)) 0).toArray:=by
 apply Array.ext';rw[Array.toList_modify];refine List.ext_getElem? λi=>?_
 have hj:=(List.getElem?_eq_some_iff.1 h).1;rw[List.getElem?_modify,jmP,OF,OF,List.getElem?_set];by_cases hi:j=i
 .subst hi;obtain⟨_,e⟩:=List.getElem?_eq_some_iff.1 h;simp[hj,e]
 .simp[hi]
theorem run_store(hb:w.heap[b]? =some (Xk G))(h:G[j]? =some (p,u)):
  (Instr.entryStore T (.map (some b)) (.int .i64 (j:Nat)) v).run P w=.ok () {w with heap:=w.heap.setIfInBounds b (Xk (G.set j (p,v)))}:=by
 have hb':w.heap[b]? =some (.map (wT G 0).toArray G.length):=hb;have hj:=(List.getElem?_eq_some_iff.1 h).1
 have hidx:(wT G 0).toArray.findIdx? (λe=>((e.born:Nat):Int)==((j:Nat):Int))=some j:=by
  have:=TE G 0 j hj;rw[jmd] at this;simpa using this
 simp only[Instr.entryStore,Sem.run_bind,Sem.run_pure,Result.andThen_ok,MapKept.run_getObj_map hb',asInt,asIntOf,hidx,jeT h,MapKept.run_setObj_map _ hb'];unfold Xk;rw[jmV]
theorem jfQ(H:MapTy P T K E)(hb:w.heap[b]? =some (Xk G))(p:Pn):
  (Instr.lookup T (.map (some b)) (pV p) false).run P w=.ok (DU p G) w:=by
 have hb':w.heap[b]? =some (.map (wT G 0).toArray G.length):=hb;have hf:(Instr.findKey K (pV p) (wT G 0).toArray.toList).run P w=.ok (vh p G 0) w:=by rw[jmP];exact Nb H p G
 unfold DU;cases hg:vh p G 0 with
 |none=>
  rw[hg] at hf;simp[Instr.lookup,run_underlying H.map,MapKept.run_getObj_map hb',H.chk,hf,H.zero,Result.andThen]
 |some x=>
  rw[hg] at hf;simp[Instr.lookup,run_underlying H.map,MapKept.run_getObj_map hb',H.chk,hf,Result.andThen]
end
section
variable{P:Program}{n:Nat}{env:List (Nat×Value)}{w0:Bs}{Rs:List Res}{o:Oper}{Q:Exit->Act->World->Prop}{K:Act->World->Prop}
theorem Ea{T d:Nat}(ho:o.op=.makeMap T none)(hd:o.dst=some d)(hn:d<n)(h:∀b,At n ((d,.map (some b))::env) w0 (Rs++[.mp b []]) K):At n env w0 Rs (λa w=>o.wp P a w K Q):=λa w hF hs=>by
 have:(execOp a.eval o).run P w=.ok (.value (.map (some w.heap.size))) (w.alloc (.map #[] 0)):=by
  unfold execOp;simp only[ho];simp[Instr.makeMap]
 show o.upon P a K Q ((execOp a.eval o).run P w);rw[this,Oper.upon_value,hd];exact h _ _ _ (hF.put hn _) (hs.add (Over.alloc _ _) (by show(w.alloc (.map #[] 0)).heap[w.heap.size]? =some (.map #[] 0);exact(MapKept.heap_alloc w _).1) (λb hb=>Nat.le_of_eq hb.symm) ⟨jlN _,λ_ _=>jlN _⟩)
theorem je5{G':List (Pn×Value)}(hs:St w0 Rs w)(hk:Rs[k]? =some (.mp b G)):St w0 (Rs.set k (.mp b G')) {w with heap:=w.heap.setIfInBounds b (Xk G')}:=by
 have hh:w.heap[b]? =some (Xk G):=(hs.all k _ hk).1;have hlow:=(hs.all k _ hk).2.1 b rfl
 have hne:∀c,c≠b->({w with heap:=w.heap.setIfInBounds b (Xk G')}:World).heap[c]? =w.heap[c]? :=λc hc=>by simp[Array.getElem?_setIfInBounds,Ne.symm hc]
 refine hs.upd hk ⟨hs.over.os,hs.over.tape,hs.over.output,by simpa using hs.over.size,λc hc hx=>?_⟩ (by simp) (λc _ h=>hne c h) (jen hh) (λc hc=>.inl hc) J;have:c≠b:=λe=>by
  subst e;rcases hlow with h|h
  .have h:w0.N<=c:=h;omega
  .exact hx h
 rw[hne c this];exact hs.over.block c hc hx
theorem Pj{Kt E:TypeId}{d:Nat}(H:MapTy P T Kt E)(p:Pn)(ho:o.op=.mapEntry T x y)(hx:ev env x=some (.map (some b)))(hy:ev env y=some (pV p))(hk:Rs[k]? =some (.mp b G))(hd:o.dst=some d)(hn:d<n)(h:At n ((d,.tuple #[DU p G,.int .i64 (jcF p G:Nat)])::env) w0 (Rs.set k (.mp b (jbK p G))) K):At n env w0 Rs (λa w=>o.wp P a w K Q):=λa w hF hs=>by
 have hh:w.heap[b]? =some (Xk G):=(hs.all k _ hk).1;have hrun:(execOp a.eval o).run P w=.ok (.value (.tuple #[DU p G,.int .i64 (jcF p G:Nat)])) {w with heap:=w.heap.setIfInBounds b (Xk (jbK p G))}:=by
  unfold execOp;simp only[ho,hF.ev hx,hF.ev hy,Sem.run_bind,jcT H hh p,Result.andThen_ok,Sem.run_pure]
 show o.upon P a K Q ((execOp a.eval o).run P w);rw[hrun,Oper.upon_value,hd];exact h _ _ (hF.put hn _) (je5 hs hk)
theorem FC{z:Operand}(ho:o.op=.entryStore T x y z)(hd:o.dst=none)(hx:ev env x=some (.map (some b)))(hy:ev env y=some (.int .i64 (j:Nat)))(hz:ev env z=some v)(hk:Rs[k]? =some (.mp b G))(hg:G[j]? =some (p,u))(h:At n env w0 (Rs.set k (.mp b (G.set j (p,v)))) K):At n env w0 Rs (λa w=>o.wp P a w K Q):=λa w hF hs=>by
 have hh:w.heap[b]? =some (Xk G):=(hs.all k _ hk).1;have hrun:(execOp a.eval o).run P w=.ok .skip {w with heap:=w.heap.setIfInBounds b (Xk (G.set j (p,v)))}:=by
  unfold execOp;simp only[ho,hF.ev hx,hF.ev hy,hF.ev hz,Sem.run_bind,run_store hh hg,Result.andThen_ok,Sem.run_pure]
 show o.upon P a K Q ((execOp a.eval o).run P w);rw[hrun,Oper.upon_skip,hd];exact h _ _ hF (je5 hs hk)
theorem jcM{Kt E:TypeId}(H:MapTy P T Kt E)(p:Pn)(hk:Rs[k]? =some (.mp b G))(ho:o.op=.lookup T x y false)(hx:ev env x=some (.map (some b)))(hy:ev env y=some (pV p)):Qt P o n env w0 Rs (DU p G):=
 kd λa w hF hs=>by
  have hh:w.heap[b]? =some (Xk G):=(hs.all k _ hk).1;unfold execOp;simp only[ho,hF.ev hx,hF.ev hy,Sem.run_bind,jfQ H hh p,Result.andThen_ok,Sem.run_pure]
end
theorem jiZ:MapTy Tryz.prog 153 36 154 where
 map:=by kernel_rfl
 chk:=λe p w=>by kernel_rfl
 eq:=λp q w=>by
  show(Op.equalIn (9999+1) 36 (.agg #[.int .i64 p.1,.int .i64 p.2]) (.agg #[.int .i64 q.1,.int .i64 q.2])).run Tryz.prog w=_;have hp:Tryz.prog.stoodInHeld 36=false:=by kernel_rfl
  rw[run_equalIn_agg w 9999 36 _ _ Kr hp];simp only[Program.fieldsOf,Tryz.underlying36];cases h1:(p.1==q.1)<;>cases h2:(p.2==q.2)
  all_goals
   simp only[beq_iff_eq,beq_eq_false_iff_ne] at h1 h2;simp[Op.eqFields,go_sem, *]
 now:=⟨_,Tryz.underlying36,λp q=>rfl⟩
 zero:=λw=>by kernel_rfl
end Go.Proofs.YtjbahemkhphndaaGreat
