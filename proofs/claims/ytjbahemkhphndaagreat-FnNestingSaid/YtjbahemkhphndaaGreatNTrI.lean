import Derived.Test.YtjbahemkhphndaaGreatNRay2
import Derived.Test.YtjbahemkhphndaaGreatNTrS
set_option linter.unusedVariables false
set_option linter.unusedSimpArgs false
namespace Go.Proofs.YtjbahemkhphndaaGreat
open Go Go.RowKit
variable{B:List Leg}{L:List Res}{a f j k m:Nat}{b:Option Nat}{is:List Nat}{l:List Pc}{p:Pn}{u:List Bool}{w:World}{x:Option Addr×Nat}
set_option maxRecDepth 100000
set_option maxHeartbeats 4000000
theorem TY(o b p:Pn)(w:World)(ho:bd2 o)(hb:bd2 b)(hp:bd2 p):Calls Tryz.prog 141 #[pV o,pV b,pV p] w λe w'=>e=.returned (.int .i64 (cwH o b p))/\Over w w':=by
 refine Jm (m:=18) (Tryz.func141) J J (lb J) ?_;refine S3 ?_;refine aX (λb1=>?_);refine N1 ?_;refine aX (λb2=>?_);refine N1 ?_;refine aX (λb3=>?_);refine N8 ?_;refine a9 (jT K8 J J (λw1 hs=>Mf o b p w1 ho hb hp)) ?_;refine S9 ?_;refine cZ (λc1=>?_) (λc1=>?_)
 .refine S7 ?_;refine jK J (.tmp J) ?_;intro w' hs;exact⟨Y1 (by rw[cwH,if_pos c1]),hs.fin⟩
 .refine S6 ?_;refine cZ (λc2=>?_) (λc2=>?_)
  .refine S7 ?_;refine jK J (.tmp J) ?_;intro w' hs;exact⟨Y1 (by rw[cwH,if_neg Om,if_pos c2]),hs.fin⟩
  .refine S8 ?_;refine jK J (.tmp J) ?_;intro w' hs;exact⟨Y1 (by rw[cwH,if_neg Om,if_neg c2]),hs.fin⟩
theorem F7(o b p q:Pn)(w:World)(ho:bd2 o)(hb:bd2 b)(hp:bd2 p)(hq:bd2 q):Calls Tryz.prog 116 #[pV o,pV b,pV p,pV q] w λe w'=>e=.returned (.bool (cwF o b p q))/\Over w w':=by
 refine Jm (m:=30) (Tryz.func116) J J (lb J) ?_;refine S3 ?_;refine aX (λb1=>?_);refine N1 ?_;refine aX (λb2=>?_);refine N1 ?_;refine aX (λb3=>?_);refine N1 ?_;refine aX (λb4=>?_);refine N5 ?_;refine JY 10 ?_;refine dK 0 ?_;refine dK 1 ?_;refine dK 2 ?_;refine dZ 3 J (jT uC J J (λw1 hs=>TY o b p w1 ho hb hp)) ?_;refine dK 4 ?_;refine dK 5 ?_;refine dK 6 ?_;refine dZ 7 J (jT uC J J (λw1 hs=>TY o b q w1 ho hb hq)) ?_;refine dK 8 ?_;refine dK 9 ?_;refine JK Kr ?_;refine S7 ?_;refine cZ (λc1=>?_) (λc1=>?_)
 .refine S9 ?_;refine jK J (.tmp J) ?_;intro w' hs;exact⟨Q4 (by rw[cwF,if_pos c1]),hs.fin⟩
 .refine S7 ?_;refine a9 (jT K8 J J (λw1 hs=>Mf o p q w1 ho hp hq)) ?_;refine S4 ?_;refine jK J (.tmp J) ?_;intro w' hs;exact⟨Q4 (by rw[cwF,if_neg (by simpa using c1)]),hs.fin⟩
structure Gp where
 p:Pn
 x:Option Addr×Nat
 is:List Nat
def Gp.val(g:Gp):Pn×Value:=(g.p,.slice g.x.1 g.is.length g.x.2)
abbrev ixR(is:List Nat)(x:Option Addr×Nat):Res:=JV 0 3 1 is.length (is.map λ(i:Nat)=>Value.int .i64 (i:Int)) x
def Gp.res(g:Gp):Res:=ixR g.is g.x
def w6(l:List Gp):List (Pn×Value):=l.map Gp.val
abbrev Ni(l:List Gp):Res:=.many (l.map Gp.res)
def yj(v:Pn):List Gp->List Nat
 |[]=>[]
 |g::l=>if v=g.p then g.is else yj v l
theorem BB{v:Pn}:∀{l:List Gp} {i:Nat},vh v (w6 l) i=none->yj v l=[]
 |[],_,_=>rfl
 |g::l,i,h=>by
  have h:(if v=g.p then some (i,g.val.2) else vh v (w6 l) (i+1))=none:=h
  unfold yj;split at h
  .cases h
  .rename_i hn;rw[if_neg hn];exact BB h
theorem GZ{v:Pn}{j:Nat}{u:Value}:∀{l:List Gp} {i:Nat},vh v (w6 l) i=some (j,u)->i<=j/\∃g,l[j-i]? =some g/\g.p=v/\u=.slice g.x.1 g.is.length g.x.2/\yj v l=g.is
 |[],_,h=>by cases h
 |g::l,i,h=>by
  have h:(if v=g.p then some (i,g.val.2) else vh v (w6 l) (i+1))=some (j,u):=h
  unfold yj;split at h
  .rename_i e;injection h with h
   injection h with h1 h2
   subst h1;rw[if_pos e];exact⟨jlL _,g,by simp,e.symm,h2.symm,rfl⟩
  .rename_i hn;rw[if_neg hn];obtain⟨h1,g',h2,h3⟩:=GZ h;refine⟨by omega,g',?_,h3⟩;rw[show j-i=(j-(i+1))+1 by omega];simpa using h2
theorem CK{p v:Pn}{g':Gp}(hg:g'.p=p){j:Nat}{u:Value}:∀{l:List Gp} {i:Nat},vh p (w6 l) i=some (j,u)->yj v (l.set (j-i) g')=if v=p then g'.is else yj v l
 |[],_,h=>by cases h
 |g::l,i,h=>by
  have h:(if p=g.p then some (i,g.val.2) else vh p (w6 l) (i+1))=some (j,u):=h
  split at h
  .rename_i e;injection h with h
   injection h with h1 h2
   subst h1;rw[Nat.sub_self,List.set_cons_zero];simp only[yj,hg];by_cases hv:v=p
   .rw[if_pos hv,if_pos hv]
   .rw[if_neg hv,if_neg hv,if_neg (λk=>hv (k.trans e.symm))]
  .rename_i hn;have hj:=(GZ h).1
   have ih:=CK (v:=v) hg h;rw[show j-i=(j-(i+1))+1 by omega,List.set_cons_succ];simp only[yj];by_cases hv:v=g.p
   .rw[if_pos hv,if_pos hv,if_neg (λk=>hn (k.symm.trans hv))]
   .rw[if_neg hv,if_neg hv,ih]
def Zj(p:Pn):Gp:=⟨p,(none,0),[]⟩
theorem jjJ{v:Pn}:∀{l:List Gp},vh p (w6 l) 0=none->yj v (l++[Zj p])=yj v l:=by
 have key:∀(l:List Gp) (i:Nat),vh p (w6 l) i=none->yj v (l++[Zj p])=yj v l:=by
  intro l
  induction l with
  |nil=>
   intro i _;simp only[jmt,yj,Zj];split<;>rfl
  |cons g l ih=>
   intro i h;have h:(if p=g.p then some (i,g.val.2) else vh p (w6 l) (i+1))=none:=h
   split at h
   .cases h
   .simp only[jmf,yj];rw[ih _ h]
 intro l h;exact key l 0 h
theorem jab{p:Pn}:∀{l:List Gp} {i:Nat},vh p (w6 l) i=none->vh p (w6 (l++[Zj p])) i=some (i+l.length,.slice none 0 0)
 |[],i,_=>by simp[w6,Zj,Gp.val,vh]
 |g::l,i,h=>by
  have h:(if p=g.p then some (i,g.val.2) else vh p (w6 l) (i+1))=none:=h
  split at h
  .cases h
  .rename_i hn;show(if p=g.p then some (i,g.val.2) else vh p (w6 (l++[Zj p])) (i+1))=_
   rw[if_neg hn,jab h,jlS];congr 2;omega
theorem jjg(l:List Gp)(p:Pn):∃(l':List Gp) (j:Nat) (g:Gp),jbK p (w6 l)=w6 l'/\jcF p (w6 l)=j/\DU p (w6 l)=.slice g.x.1 g.is.length g.x.2/\l'[j]? =some g/\g.p=p/\g.is=yj p l/\(l'=l\/l'=l++[Zj p])/\
  ∀g',g'.p=p->∀v,yj v (l'.set j g')=if v=p then g'.is else yj v l:=by
 unfold jbK jcF DU;cases h:vh p (w6 l) 0 with
 |none=>
  have h2:=jab h;rw[jmd] at h2;refine⟨l++[Zj p],l.length,Zj p,by simp[w6,Zj,Gp.val],by simp[w6],J,by simp,J,(BB h).symm,.inr J,λg' hg v=>?_⟩;have:=CK (v:=v) hg h2
  rw[Nat.sub_zero] at this;rw[this,jjJ h]
 |some x=>
  obtain⟨j,u⟩:=x;obtain⟨_,g,h1,h2,h3,h4⟩:=GZ h;rw[Nat.sub_zero] at h1;refine⟨l,j,g,J,J,h3,h1,h2,h4.symm,.inl J,λg' hg v=>?_⟩;have:=CK (v:=v) hg h
  rw[Nat.sub_zero] at this;exact this
theorem jeO(l:List Gp)(v:Pn):∃x:Option Addr×Nat,DU v (w6 l)=.slice x.1 (yj v l).length x.2/\∀w,(Ni l).P w->(ixR (yj v l) x).P w:=by
 unfold DU;cases h:vh v (w6 l) 0 with
 |none=>
  rw[BB h];exact⟨(none,0),rfl,λw _=>World.ownsRow_nil _ _ _ _⟩
 |some y=>
  obtain⟨j,u⟩:=y;obtain⟨_,g,h1,h2,h3,h4⟩:=GZ h;rw[Nat.sub_zero] at h1;rw[h4];exact⟨g.x,h3,λw hP=>(hP.1 g.res (jlR.2 ⟨g,List.mem_of_getElem? h1,rfl⟩)).1⟩
section
variable{n:Nat}{env:List (Nat×Value)}{w0:Bs}{Rs:List Res}{K:Act->World->Prop}
theorem jk0(b:Nat):¬(Zj p).res.F b:=λh=>by
 have h:Value.ownBlock (.slice none 0 0)=some b:=h;simp[Value.ownBlock] at h
theorem jdx(k:Nat){l l':List Gp}(hk:Rs[k]? =some (Ni l))(hl:l'=l\/l'=l++[Zj p])(h:At n env w0 (Rs.set k (Ni l')) K):At n env w0 Rs K:=λa w hf hs=>by
 refine h a w hf (hs.chg hk (λhP=>?_) (λc hc=>?_) J)
 .rcases hl with rfl|rfl
  .exact hP
  .rw[Ni,jma];refine⟨λr hr=>?_,?_⟩
   .rcases jl0.1 hr with hr|hr
    .exact hP.1 r hr
    .rw[jlM.1 hr];exact⟨World.ownsRow_nil _ _ _ _,rfl⟩
   .refine jm9.2 ⟨hP.2,jmK _ _,λr _ s hs b _ hb=>?_⟩;rw[jlM.1 hs] at hb;exact jk0 b hb
 .rcases hl with rfl|rfl
  .exact hc
  .obtain⟨r,hr,hb⟩:=hc;rw[jma] at hr;rcases jl0.1 hr with hr|hr
   .exact⟨r,hr,hb⟩
   .rw[jlM.1 hr] at hb;exact absurd hb (jk0 c)
theorem jgN(k j:Nat){r:Res}(hk:Rs[k]? =some (.many L))(hj:L[j]? =some r)(h:At n env w0 (Rs.set k (.many (L.eraseIdx j))++[r]) K):At n env w0 Rs K:=λa w hf hs=>by
 have hm:=hs.all k _ hk;have hmem:r∈L:=List.mem_of_getElem? hj
 have hperm:L.Perm (r::L.eraseIdx j):=by
  obtain⟨hl,e⟩:=List.getElem?_eq_some_iff.1 hj;have e1:L=L.take j++r::L.drop (j+1):=by rw[<-e,<-jmu hl,jl1]
  rw[List.eraseIdx_eq_take_drop_succ]
  conv=>lhs;rw[e1]
  exact List.perm_middle
 have hpw:(r::L.eraseIdx j).Pairwise (λ(r s:Res)=>∀b:Nat,r.F b->¬s.F b):=hperm.pairwise hm.1.2 (λh b h1 h2=>h b h2 h1);have hpc:=jmc.1 hpw
 have hs1:St w0 (Rs.set k (.many (L.eraseIdx j))) w:=hs.chg hk (λhP=>⟨λs hs'=>hP.1 s (List.mem_of_mem_eraseIdx hs'),hpc.2⟩) (λc hc=>by
  obtain⟨s,hs',hb⟩:=hc;exact⟨s,List.mem_of_mem_eraseIdx hs',hb⟩) rfl
 refine h a w hf (hs1.add' (hm.1.1 r hmem).1 (λb hb=>hm.2.1 b ⟨r,hmem,hb⟩) (λi s hi b hb hsb=>?_) (hm.1.1 r hmem).2);rw[List.getElem?_set] at hi;by_cases hik:k=i
 .rw[if_pos hik] at hi;split at hi
  .injection hi with hi
   subst hi;obtain⟨t,ht,hb2⟩:=hsb;exact hpc.1 t ht b hb hb2
  .cases hi
 .rw[if_neg hik] at hi;exact hs.apart k i _ _ hik hk hi b ⟨r,hmem,hb⟩ hsb
theorem jdz(k:Nat){L':List Res}(hk:Rs[k]? =some (.many L))(hp:L.Perm L')(h:At n env w0 (Rs.set k (.many L')) K):At n env w0 Rs K:=λa w hf hs=>
 h a w hf (hs.chg hk (λhP=>Iu hp hP) (λc hc=>by
  obtain⟨s,hs',hb⟩:=hc;exact⟨s,hp.mem_iff.2 hs',hb⟩) rfl)
end
theorem jcZ{α:Type}{L:List α}{r:α}(h:j<L.length):(L.eraseIdx j++[r]).Perm (L.set j r):=by
 rw[List.eraseIdx_eq_take_drop_succ,List.set_eq_take_append_cons_drop,if_pos h];rw[jlT];exact List.Perm.append_left _ (List.perm_append_comm (l₁:=L.drop (j+1)) (l₂:=[r]))
def CL(B:List Leg)(v:Pn)(k:Nat):List Nat:=(List.range k).filter λi=>decide (lA (lg B i)=v)
theorem jcf(B:List Leg)(v:Pn)(k:Nat):CL B v (k+1)=if v=lA (lg B k) then CL B v k++[k] else CL B v k:=by
 unfold CL;rw[jm3,jnh];by_cases h:v=lA (lg B k)
 .rw[if_pos h];simp[h]
 .rw[if_neg h];simp[Ne.symm h]
theorem Nn(B:List Leg)(v:Pn)(k:Nat):(CL B v k).length<=k:=by
 have:=jnq (λi=>decide (lA (lg B i)=v)) (List.range k)
 rwa [List.length_range] at this
theorem jac{S:Nat->Bool}{lt:Nat->Nat->Bool}{m:Nat}:∀{l:List Nat} {b:Option Nat},l.foldl (MN S lt) b=some m->b=some m\/m∈l
 |[],b,h=>.inl h
 |k::l,b,h=>by
  rw[jmI] at h;rcases jac h with h|h
  .unfold MN at h;split at h
   .split at h
    .injection h with h;exact .inr (by rw[h];simp)
    .cases h
   .split at h
    .injection h with h;exact .inr (by rw[h];simp)
    .exact .inl h
  .exact .inr (jlQ _ h)
def Fh(B:List Leg)(u:List Bool)(f a:Nat)(k:Nat):Option Nat:=((Np B (lB (lg B a))).take k).foldl (MN (Vd u f) (ltI B (lB (lg B a)) (lA (lg B a)))) none
theorem jdO(h:k<(Np B (lB (lg B a))).length):Fh B u f a (k+1)=MN (Vd u f) (ltI B (lB (lg B a)) (lA (lg B a))) (Fh B u f a k) (Np B (lB (lg B a)))[k]:=by
 unfold Fh;rw[jlX h,jnI];rfl
theorem jdN(h:Fh B u f a k=some m):m<B.length:=by
 rcases jac h with h|h
 .cases h
 .have:=jmp h;unfold Np at this;exact jmB.1 (jmx.1 this).1
theorem jjK{v:Pn}(h:k<(Np B v).length):(Np B v)[k]<B.length:=by
 have:=jlY h;unfold Np at this;exact jmB.1 (jmx.1 this).1
def tkI(B:List Leg)(u:List Bool)(f a:Nat)(b:Option Nat)(x:Nat):Bool:=Vd u f x&&XI (ltI B (lB (lg B a)) (lA (lg B a))) b x
theorem jgh{x:Nat}(h:tkI B u f a b x=true):MN (Vd u f) (ltI B (lB (lg B a)) (lA (lg B a))) b x=some x:=by
 unfold tkI XI at h;unfold MN;cases b<;>simp_all
theorem jgg{x:Nat}(h:tkI B u f a b x=false):MN (Vd u f) (ltI B (lB (lg B a)) (lA (lg B a))) b x=b:=by
 unfold tkI XI at h;unfold MN;cases b<;>simp_all
theorem jek{x:Nat}(h:WR u x=false):Vd u f x=true:=by simp[Vd,h]
theorem jel{x:Nat}(h:x=f):Vd u f x=true:=by simp[Vd,h]
theorem jjE{x:Nat}(h:WR u x=true)(h2:¬x=f):Vd u f x=false:=by simp[Vd,h,h2]
theorem jgX :Fh B u f a (Np B (lB (lg B a))).length=Zg B u f a:=by
 unfold Fh Zg;rw[jms]
def TH(b:Option Nat)(f:Nat):Bool:=match b with
 |none=>true
 |some m=>decide (m=f)
theorem jdL(h:TH (Zg B u f a) f=true):DL B u f a=none:=by
 unfold DL;cases e:Zg B u f a with
 |none=>rfl
 |some m=>
  rw[e] at h;simp only[TH,decide_eq_true_eq] at h;simp only;rw[if_pos h]
theorem jjn(h:TH (Zg B u f a) f=false):∃m,Zg B u f a=some m/\DL B u f a=some m:=by
 unfold DL;cases e:Zg B u f a with
 |none=>rw[e] at h;cases h
 |some m=>
  rw[e] at h;simp only[TH,decide_eq_false_iff_not] at h;exact⟨m,rfl,by simp only;rw[if_neg h]⟩
theorem jjF(p:Pn)(x:Option Addr×Nat)(is:List Nat)(i:Nat):(Gp.mk p x (is++[i])).res=JV 0 3 1 (is.length+1) (is.map (λ(i:Nat)=>Value.int .i64 (i:Int))++[.int .i64 (i:Int)]) x:=by
 simp[Gp.res,ixR]
theorem jhk{l:List Gp}{g':Gp}{v:Value}(hp:g'.p=p)(h:g'.val.2=v):(w6 l).set j (p,v)=w6 (l.set j g'):=by
 rw[w6,w6,List.map_set];congr 1;subst hp h;rfl
theorem jkW(h:k<is.length):(is.map λ(i:Nat)=>Value.int .i64 (i:Int))[k]? =some (.int .i64 ((is[k]:Nat):Int)):=by simp[h]
section
variable{w0:Bs}{Rs:List Res}
theorem jlz(hr:∀w,St w0 Rs w->(ixR is x).P w)(h:k<is.length)(hm:m=is[k]):∀w,St w0 Rs w->w.cell? ⟨VK x.1,0+k*1,none⟩=some (.int .i64 ((m:Nat):Int)):=λw hs=>by
 rw[jmd,jmL,hm];exact yw (hr w hs) (jkW h)
end
theorem jgj{x:Nat}(h:Vd u f x=true)(hb:b=none):true=tkI B u f a b x:=by simp[tkI,h,hb,XI]
theorem jgk{x:Nat}(h:Vd u f x=true)(hb:b=some m):cwF (lB (lg B a)) (lA (lg B a)) (lB (lg B x)) (lB (lg B m))=tkI B u f a b x:=by simp[tkI,h,hb,XI,ltI]
theorem jku{x:Nat}(h:Vd u f x=false):false=tkI B u f a b x:=by simp[tkI,h]
theorem jkL(hb:b=none):true=TH b f:=by rw[hb];rfl
theorem jkM(hb:b=some m):(((m:Nat):Int)==((f:Nat):Int))=TH b f:=by
 rw[hb,jl8];simp only[TH,beq_iff_eq,decide_eq_true_eq];omega
theorem jcO{B T n:Nat}(hrow:(JV B T 1 n (l.map Pc.val) x).P w)(hP:(KD l).P w)(hl:l.length=n)(hc:∀e∈l,e.xs.length<=e.c):RingsC w x.1 n (l.map (·.xs)):=by
 have hrow:w.ownsRow B T 1 (.slice x.1 n x.2) n (l.map Pc.val):=hrow;refine⟨by rw[jlV,hl],λh0=>?_⟩;obtain⟨g,hg⟩:∃g,x.1=some ⟨g,0,none⟩:=by
  rcases hrow.2 with⟨_,e⟩|⟨g,cap,cur,e,_⟩
  .omega
  .injection e with e1
   exact⟨g,e1⟩
 rw[hg] at hrow⊢;refine⟨g,0,J,jfO hrow,λk hk=>?_⟩;have hkl:k<l.length:=by omega
 have hm:=jlY hkl;rw[zQ hkl];refine⟨l[k].A,l[k].c,?_,xo hP hm,hc _ hm⟩;have:=ja5 hrow (j:=k) (v:=l[k].val) (by rw[List.getElem?_map,List.getElem?_eq_getElem hkl];rfl)
 rw[jmL] at this;exact this
abbrev Ov(lo hi n:Nat)(rs:List jI)(A:Option Addr):Res:=.clo lo hi (λw=>RingsC w A n rs)
theorem jh5{w':World}{Rs:List Res}(hs:St ⟨w,[]⟩ Rs w'){kr kp B T n:Nat}{rs:List jI}(hr:Rs[kr]? =some (JV B T 1 n (l.map Pc.val) x))(hp:Rs[kp]? =some (KD l))(hl:l.length=n)(hrs:l.map (·.xs)=rs)(hc:∀e∈l,e.xs.length<=e.c):(Ov w.heap.size w'.heap.size n rs x.1).P w':=by
 have h1:=hs.all kr _ hr;have h2:=hs.all kp _ hp
 have f1:∀b,(JV B T 1 n (l.map Pc.val) x).F b->w.heap.size<=b:=λb hb=>(h1.2.1 b hb).elim id (λh=>by cases h)
 have f2:∀b,(KD l).F b->w.heap.size<=b:=λb hb=>(h2.2.1 b hb).elim id (λh=>by cases h)
 refine⟨jlL _,λu hu ha=>?_⟩;rw[<-hrs];exact jcO (Res.dep _ w' u h1.1 hu λb hb h=>ha b (h.elim (λk=>absurd k (Nat.not_lt_zero _)) (f1 b)) hb) (Res.dep _ w' u h2.1 hu λb hb h=>ha b (h.elim (λk=>absurd k (Nat.not_lt_zero _)) (f2 b)) hb) hl hc
theorem wz(A:Option Addr)(n c:Nat)(B:List Leg)(w:World)(h:Legs w A n B)(hB:BoOk B)(hT:TrOk B):
  Calls Tryz.prog 98 #[.slice A n c] w λe w'=>∃A' c',e=.returned (qU A' (Ki B).length c')/\OwnG w.heap.size w'.heap.size w' A' (Ki B).length (Ki B)/\(Ov w.heap.size w'.heap.size (Ki B).length (Ki B) A').P w'/\Over w w':=by
 have hl:=h.1;have hn:=hB.len
 rw[hl] at hn;have hok:=hB.ok
 refine Jm (m:=124) (Tryz.func98) J J (lb J) ?_;refine S3 ?_;refine aL (λb1=>?_);refine N4 ?_;refine Ea J J Dc (λmb=>?_);refine N2 ?_;refine KY ?_;refine t9 ?_;refine S8 ?_;refine JW (X:=Nat×List Gp) (λx=>x.1<=n/\∀v,yj v x.2=CL B v x.1) (λx=>n-x.1) (λx=>[(19,.int .i64 (x.1:Int))]) (kK [0,2,3,17,18]) (λx=>[.cel b1 25 [.slice none 0 0],.mp mb (w6 x.2),Ni x.2]) (0,[]) (⟨jlN _,λv=>rfl⟩) ⟨J,sz⟩ (λ_ h=>h) ?_;intro⟨i,l⟩ hx L hL1;refine v9 ?_;refine r9 ?_;obtain⟨hi,hix⟩:i<=n/\∀v,yj v l=CL B v i:=hx;refine S5 ?_;refine cZ (λc1=>?_) (λc1=>?_)
 .have hil:i<n:=Om;obtain⟨eb,eo,rfl,_⟩:=h.2 Om;obtain⟨l',j,g,k1,k2,k3,k4,k5,k6,k7,k8⟩:=jjg l (lA (lg B i));have hgl:g.is.length<=4096:=(by rw[k6,hix];have:=Nn B (lA (lg B i)) i;omega)
  have hjl:=(List.getElem?_eq_some_iff.1 k4).1;refine S7 ?_;refine a9 (jQ (j:=i) J J J jV Om) ?_;refine a9 (jj J J qF J (Ya (λw' hs=>h.over hs.fin) hil)) ?_;refine S1 ?_;refine aL (λb2=>?_);refine N10 ?_;refine j5 J J (Bf J) J (lb J) (λb3=>?_);refine N1 ?_;refine Pj (k:=1) jiZ (lA (lg B i)) J J J J J Dc ?_;rw[k1,k2,k3];refine n9 ?_;refine jdx 2 J k7 ?_;refine t9 ?_;refine jgN 2 j J (by rw[List.getElem?_map,k4];rfl) ?_;refine t9 ?_;refine S2 ?_;refine JQ (k:=5) J Gz SW Dc J Dc J J J (λw' hs=>qL hs (k:=4) J J) (by simp[Value.oneCell']) (by unfold maxLen;omega) Om (jlN _) (λr1=>?_);refine N2 ?_;refine FC (k:=1) (j:=j) (p:=lA (lg B i)) (u:=.slice g.x.1 g.is.length g.x.2) J J J J J J (by rw[w6,List.getElem?_map,k4];simp[Gp.val,k5]) ?_;refine n9 ?_;obtain⟨g',hg'⟩:∃g':Gp,g'=⟨lA (lg B i),r1,g.is++[i]⟩:=⟨_,rfl⟩;have hgr:=jjF (lA (lg B i)) r1 g.is i
  rw[<-hg'] at hgr;refine Ke 2 5 J J Dc J ?_;refine t9 ?_;refine jdz 2 (L':=(l'.set j g').map Gp.res) J (by rw[List.map_set];have hp:=jcZ (L:=l'.map Gp.res) (r:=g'.res) (j:=j) (by simpa using hjl);rw[hgr] at hp⊢;exact hp) ?_;refine t9 ?_;rw[jhk (g':=g') (by rw[hg']) (by rw[hg'];simp[Gp.val])];refine S7 ?_;exact Jn hL1 ((i+1,l'.set j g')) (⟨(show i+1<=n by omega),λv=>(by rw[k8 g' (by rw[hg']) v,jcf,hg',hix v,k6,hix];split<;>simp_all)⟩) (by simp only;omega) ⟨vi Om,sz⟩ (u9 J)
 .have hin:i=n:=Om;have hixs:∀v,yj v l=Np B v:=(λv=>by rw[hix v,hin,<-hl];rfl)
  clear hix;refine S10 ?_;refine jaP J J J Vu Y7 J Dc Om Om (λb4=>?_);refine N2 ?_;refine Fq9 3 1 n (b:=b4) (U:=4) (cs:=(List.replicate n false).map Value.bool) (by rw[<-jeh];simp) (by simp) Om ?_;refine t9 ?_;refine S3 ?_;refine aL (λb5=>?_);refine N1 ?_;refine QO (T:=41) (s:=1) ?_;refine t9 ?_;refine KY ?_;refine t9 ?_;refine S8 ?_;refine JW (X:=Nat×(Option Addr×Nat)×List Pc) (λx=>x.1<=n/\x.2.2.map (·.xs)=(kN B x.1).2/\(∀e∈x.2.2,e.xs.length<=e.c)) (λx=>n-x.1) (λx=>[(39,.int .i64 (x.1:Int))]) (kK [0,2,3,6,7,38]) (λx=>[.cel b1 25 [.slice none 0 0],.mp mb (w6 l),Ni l,boR n (kN B x.1).1 (some ⟨b4,0,none⟩,n),.cel b5 25 [.slice x.2.1.1 x.2.2.length x.2.1.2],JV (Bs.N ⟨w,[]⟩) 41 1 x.2.2.length (x.2.2.map Pc.val) x.2.1,KD x.2.2]) (0,(none,0),[]) (⟨jlN _,rfl,λe he=>(by cases he)⟩) ⟨rfl,sz⟩ (λ_ h=>by rw[show(kN B 0).1=List.replicate n false by rw[<-hl];rfl];exact h) ?_;intro⟨i,⟨rA,rc⟩,ll⟩ hx2 L hL2;refine v9 ?_;refine r9 ?_;obtain⟨hi,hmp,hcp⟩:i<=n/\ll.map (·.xs)=(kN B i).2/\(∀e∈ll,e.xs.length<=e.c):=hx2;have hul:(kN B i).1.length=n:=(by rw[yD,hl])
  obtain⟨tl1,tl2⟩:=Y4 (B:=B) i Om;have hll:ll.length<=4096:=(by have:=congrArg List.length hmp;rw[jlV] at this;omega)
  refine S5 ?_;refine cZ (λc2=>?_) (λc2=>?_)
  .have hil:i<n:=Om;refine S14 ?_;refine a9 (qS (r:=(some ⟨b4,0,none⟩,n)) (j:=i) (λw hs=>(hs.all 3 _ J).1) J J J Vu hil) ?_;refine a9 (jn J J QT (jif (r:=(some ⟨b4,0,none⟩,n)) (λw hs=>(hs.all 3 _ J).1) Om)) ?_;refine S1 ?_;refine cZ (λc3=>?_) (λc3=>?_)
   .refine S8 ?_;exact Jn hL2 ((i+1,(rA,rc),ll)) (⟨(show i+1<=n by omega),(by rw[HY c3];exact hmp),hcp⟩) (by simp only;omega) ⟨vi Om,sz⟩ (λ_ h=>h.upto ⟨J,J,J,by rw[HY c3],sz⟩)
   .obtain⟨u0,hu0⟩:∃u0,u0=(kN B i).1:=⟨_,rfl⟩;have hst:WR u0 i=false:=(by rw[hu0];exact c3)
    obtain⟨R,hR⟩:∃R,R=VV B i (WS u0) u0 i []:=⟨_,rfl⟩;have hnx:kN B (i+1)=(R.1,(kN B i).2++[R.2]):=(by rw[jbv c3,hR,hu0])
    rw[<-hu0] at hul⊢;obtain⟨_,hRl⟩:=Y4 (B:=B) (i+1) Om;have hRs:R.2.length<=4096:=(by have:=(hRl R.2 (by rw[hnx];simp)).2.1;omega)
    obtain⟨eb,eo,rfl,_⟩:=h.2 Om;refine S5 ?_;refine QO (T:=36) (s:=2) ?_;refine N1 ?_;refine WZ (X:=(Option Addr×Nat)×Int) (λx=>True) (λx=>[(9,.slice x.1.1 R.2.length x.1.2),(10,.int .i64 x.2)]) (kK [0,2,3,6,7,38,39,40,41,8,42,43,44,45]) (λx=>[.cel b1 25 [.slice none 0 0],.mp mb (w6 l),Ni l,boR n R.1 (some ⟨b4,0,none⟩,n),.cel b5 25 [.slice rA ll.length rc],JV (Bs.N ⟨w,[]⟩) 41 1 ll.length (ll.map Pc.val) (rA,rc),KD ll,JV (Bs.N ⟨w,[]⟩) 36 2 R.2.length (R.2.flatMap Jt) x.1]) (λL h_4=>?_) ?_
    .refine S6 ?_;refine JW (X:=List Bool×Nat×List Pn×Option Addr×Nat) (λy=>RunI B i u0 y.1 y.2.1 y.2.2.1/\y.2.2.1.length+WS y.1<=4096) (λy=>WS y.1) (λy=>[(9,.slice y.2.2.2.1 y.2.2.1.length y.2.2.2.2),(10,.int .i64 (y.2.1:Int))]) (kK [0,2,3,6,7,38,39,40,41,8,42,43,44,45,46]) (λy=>[.cel b1 25 [.slice none 0 0],.mp mb (w6 l),Ni l,boR n y.1 (some ⟨b4,0,none⟩,n),.cel b5 25 [.slice rA ll.length rc],JV (Bs.N ⟨w,[]⟩) 41 1 ll.length (ll.map Pc.val) (rA,rc),KD ll,JV (Bs.N ⟨w,[]⟩) 36 2 y.2.2.1.length (y.2.2.1.flatMap Jt) y.2.2.2]) (u0,i,[],none,0) (⟨RunI.start Om Om hst,(by have:=Rq u0;simp;omega)⟩) ⟨J,sz⟩ (λ_ h=>h) ?_;intro⟨u,k,ps,qA,qc⟩ hy L hL3;refine v9 ?_;refine r9 ?_;obtain⟨hI,hy2⟩:RunI B i u0 u k ps/\ps.length+WS u<=4096:=hy;have hkB:=hI.la
     have hun:u.length=n:=(by rw[hI.len,hl]);have hkn:k<n:=Om
     have hpos:=hI.pos;obtain⟨hk1,hk2⟩:=Fx hok hkB;refine S5 ?_;refine a9 (qS (r:=(some ⟨b4,0,none⟩,n)) (j:=k) (λw hs=>(hs.all 3 _ J).1) J J J Vu hkn) ?_;refine S1 ?_;refine uW (k:=3) (r:=(some ⟨b4,0,none⟩,n)) (vs:=[.bool true]) J J J J (by rfl) (by rfl) Y7.szx J J (by simp) (by rw[jlV];simp only[jlS,jl5];omega) ?_;refine n9 ?_;rw[jdH Om];refine S6 ?_;refine a9 (jQ (j:=k) J J J jV Om) ?_;refine S1 ?_;refine a9 (jj J J jk J (QB (λw' hs=>h.over hs.fin) hkn)) ?_;refine S1 ?_;refine j5 J J (qq J) J (lb J) (λb6=>?_);refine N1 ?_;refine JQ (k:=7) J jw jG Dc J Dc J J J (λw' hs=>qL hs (k:=8) J J) (by simp[Value.oneCell']) (by unfold maxLen;omega) Om (jlL _) (λr2=>?_);refine N4 ?_;refine JY 15 ?_;refine dK 0 ?_;refine dK 1 ?_;refine dZ 2 J (jQ (j:=k) J J J jV Om) ?_;refine dK 3 ?_;refine dZ 4 J (jj J J jk J (Qg (λw' hs=>h.over hs.fin) hkn)) ?_;refine dK 5 ?_;refine dK 6 ?_;refine dZ 7 J (jQ (j:=k) J J J jV Om) ?_;refine dK 8 ?_;refine dZ 9 J (jj J J jk J (QB (λw' hs=>h.over hs.fin) hkn)) ?_;refine Rw (i:=10) (j:=11) J J Dc Dc Dc J J J J Dc Dc Dc J J jG jG Kr Kr Kr (u9 J) (λb7 b8=>?_);refine n9 ?_;refine qg (i:=12) J Dc Kr J ?_;refine S1 ?_;refine JS (u9 J) ?_;refine qg (i:=13) J Dc Kr J ?_;refine j9 10 jG.szx ?_;refine n9 ?_;refine JS (u9 J) ?_;refine dK 14 ?_;refine JK Kr ?_;refine S3 ?_;obtain⟨xk,hxv,hxr⟩:=jeO l (lB (lg B k));rw[hixs] at hxv hxr;have hbk:=jgX (B:=B) (u:=u.set k true) (f:=i) (a:=k)
     have hsm:=jdb hT (first:=i) (at_:=k) Om hkB hI.first
     have hixl:(Np B (lB (lg B k))).length<=B.length:=(by have:=Nn B (lB (lg B k)) B.length;exact this);refine S3 ?_;refine a9 ((jcM (k:=1) jiZ (lB (lg B k)) J J J J).as (hxv)) ?_;refine S4 ?_;refine qD (X:=Nat) (λq=>q<=(Np B (lB (lg B k))).length) (λq=>(Np B (lB (lg B k))).length-q) (λq=>[(13,.int .i64 (ZE (Fh B (u.set k true) i k q))),(72,.int .i64 (q:Int))]) (kK [0,2,3,6,7,38,39,40,41,8,42,43,44,45,46,9,10,47,48,49,50,51,52,53,54,55,56,57,58,59,60,61,62,63,64,65,66,67,11,12,68,69,70,71]) 0 (jlN _) ⟨J,sz⟩ ?_;intro q hq L hL4;refine V5 ?_;refine cZ (λc4=>?_) (λc4=>?_)
     .have hql:q<(Np B (lB (lg B k))).length:=Om;obtain⟨x,hx⟩:∃x,x=(Np B (lB (lg B k)))[q]:=⟨_,rfl⟩;have hxn:x<n:=(by rw[hx,<-hl];exact jjK hql)
      obtain⟨hx1,hx2⟩:=Fx hok (show x<B.length by omega);have hst:=jdO (B:=B) (u:=u.set k true) (f:=i) (a:=k) hql
      rw[<-hx] at hst;refine S6 ?_;refine a9 (qS (r:=xk) (j:=q) (λw hs=>hxr w (hs.all 2 _ J).1) J J J Gz hql) ?_;refine a9 (jn J J z8 (jlz (x:=xk) (m:=x) (λw hs=>hxr w (hs.all 2 _ J).1) hql hx)) ?_;refine S2 ?_;refine qH [(104,.bool (tkI B (u.set k true) i k (Fh B (u.set k true) i k q) x))] (kK [0,2,3,6,7,38,39,40,41,8,42,43,44,45,46,9,10,47,48,49,50,51,52,53,54,55,56,57,58,59,60,61,62,63,64,65,66,67,11,12,68,69,70,71,13,72,73,74,75,15]) (λL h_21=>?_) ?_
      .refine Hc mixed Kr (λ_ _ d _ _ h=>by cases d<;>exact h) ?_;refine x9 q9 ?_;refine x9 q9 ?_;refine x9 (qS (r:=(some ⟨b4,0,none⟩,n)) (j:=x) (λw hs=>(hs.all 3 _ J).1) J J J Vu hxn) ?_;refine x9 (jn J J QT (jif (r:=(some ⟨b4,0,none⟩,n)) (λw hs=>(hs.all 3 _ J).1) (by rw[jmV];omega))) ?_;refine x9 (Qu J J) ?_;refine x9 q9 ?_;refine Ve 81 J (λg1=>?_) (λg1=>?_)
       .try simp only[zz] at g1
        (iterate 3 refine z9 ?_);refine x9 (Jp J J J) ?_;refine x9 q9 ?_;refine y9 q9 ?_;refine y9 (Ju J J J) ?_;refine y9 q9 ?_;refine Ve 89 J (λg2=>?_) (λg2=>?_)
        .try simp only[zz] at g2
         (iterate 13 refine z9 ?_);refine y9 (Jp J J J) ?_;refine x9 (Jp J J J) ?_;refine Wp ?_;refine S1 ?_
         exact Jx h_21 ⟨vb (jgj (jek g1) (YH g2)),sz⟩ (u9 J)
        .try simp only[zz] at g2
         obtain⟨m,hm⟩:=YI (by first|exact g4|exact g2)
         have hmn:m<n:=(by rw[<-hl];exact jdN hm);obtain⟨hm1,hm2⟩:=Fx hok (show m<B.length by omega);refine y9 (jj J J jk J (jZ (k:=9) J)) ?_;refine y9 (jj J J jk J (jZ (k:=10) J)) ?_;refine y9 q9 ?_;refine y9 q9 ?_;refine y9 (jQ (j:=x) J J J jV Om) ?_;refine y9 (jf J J qk) ?_;refine y9 (jj J J jk J (Qg (λw' hs=>h.over hs.fin) hxn)) ?_;refine y9 q9 ?_;refine y9 ((ja J J).as (congrArg _ (show ZE (Fh B (u.set k true) i k q)=((m:Nat):Int) by rw[hm];rfl))) ?_;refine y9 (jQ (j:=m) J J J jV Om) ?_;refine y9 (jf J J qk) ?_;refine y9 (jj J J jk J (Qg (j:=m) (λw' hs=>h.over hs.fin) hmn)) ?_;refine y9 (jT W4 J J (λw1 hs=>F7 (lB (lg B k)) (lA (lg B k)) (lB (lg B x)) (lB (lg B m)) w1 hk2 hk1 hx2 hm2)) ?_;refine y9 (jP J J J) ?_;refine x9 (Jp J J J) ?_;refine Wp ?_;refine S1 ?_;exact Jx h_21 ⟨vb (jgk (jek g1) hm),sz⟩ (u9 J)
       .try simp only[zz] at g1
        refine y9 q9 ?_;refine y9 q9 ?_;refine y9 (qE J J J) ?_;refine x9 (jP J J J) ?_;refine x9 q9 ?_;refine Ve 86 J (λg3=>?_) (λg3=>?_)
        .try simp only[zz] at g3
         refine y9 q9 ?_;refine y9 (Ju J J J) ?_;refine y9 q9 ?_;refine Ve 89 J (λg4=>?_) (λg4=>?_)
         .try simp only[zz] at g4
          (iterate 13 refine z9 ?_);refine y9 (Jp J J J) ?_;refine x9 (Jp J J J) ?_;refine Wp ?_;refine S1 ?_
          exact Jx h_21 ⟨vb (jgj (jel Om) (YH g4)),sz⟩ (u9 J)
         .try simp only[zz] at g4
          obtain⟨m,hm⟩:=YI (by first|exact g4|exact g2)
          have hmn:m<n:=(by rw[<-hl];exact jdN hm);obtain⟨hm1,hm2⟩:=Fx hok (show m<B.length by omega);refine y9 (jj J J jk J (jZ (k:=9) J)) ?_;refine y9 (jj J J jk J (jZ (k:=10) J)) ?_;refine y9 q9 ?_;refine y9 q9 ?_;refine y9 (jQ (j:=x) J J J jV Om) ?_;refine y9 (jf J J qk) ?_;refine y9 (jj J J jk J (Qg (λw' hs=>h.over hs.fin) hxn)) ?_;refine y9 q9 ?_;refine y9 ((ja J J).as (congrArg _ (show ZE (Fh B (u.set k true) i k q)=((m:Nat):Int) by rw[hm];rfl))) ?_;refine y9 (jQ (j:=m) J J J jV Om) ?_;refine y9 (jf J J qk) ?_;refine y9 (jj J J jk J (Qg (j:=m) (λw' hs=>h.over hs.fin) hmn)) ?_;refine y9 (jT W4 J J (λw1 hs=>F7 (lB (lg B k)) (lA (lg B k)) (lB (lg B x)) (lB (lg B m)) w1 hk2 hk1 hx2 hm2)) ?_;refine y9 (jP J J J) ?_;refine x9 (Jp J J J) ?_;refine Wp ?_;refine S1 ?_;exact Jx h_21 ⟨vb (jgk (jel Om) hm),sz⟩ (u9 J)
        .try simp only[zz] at g3
         (iterate 3 refine z9 ?_);(iterate 13 refine qP J J J J J Dc ?_);refine z9 ?_;refine x9 (jP J J J) ?_;refine Wp ?_;refine S1 ?_
         exact Jx h_21 ⟨vb (jku (jjE g1 Om)),sz⟩ (u9 J)
      .refine v9 ?_;refine cZ (λc5=>?_) (λc5=>?_)
       .refine S10 ?_;exact J6 hL4 (q+1) Om Om ⟨vi (by rw[hst,jgh c5];rfl),vi Om,sz⟩ (u9 J)
       .refine S7 ?_;exact J6 hL4 (q+1) Om Om ⟨vi (by rw[hst,jgg c5]),vi Om,sz⟩ (u9 J)
     .obtain rfl:q=(Np B (lB (lg B k))).length:=Om;rw[hbk];refine S6 ?_;refine qH [(113,.bool (TH (Zg B (u.set k true) i k) i))] (kK [0,2,3,6,7,38,39,40,41,8,42,43,44,45,46,9,10,47,48,49,50,51,52,53,54,55,56,57,58,59,60,61,62,63,64,65,66,67,11,12,68,69,70,71,13,72,73]) (λL h_24=>?_) ?_
      .refine S4 ?_;refine cV 109 (λg5=>?_) (λg5=>?_)
       .refine S5 ?_;exact Jx h_24 ⟨vb (jkL (YH g5)),sz⟩ (u9 J)
       .obtain⟨m,hm⟩:=YI g5;refine h9 ?_;refine o9 ((ja J J).as (congrArg _ (show ZE (Zg B (u.set k true) i k)=((m:Nat):Int) by rw[hm];rfl))) ?_;refine S6 ?_;exact Jx h_24 ⟨vb (jkM hm),sz⟩ (u9 J)
      .refine v9 ?_;refine cZ (λc6=>?_) (λc6=>?_)
       .have hRe:R=(u.set k true,ps++[lA (lg B k)]):=(by rw[hR];exact hI.stop (hsm▸jdL c6));refine S6 ?_;exact Qd h_4 ((r2,(k:Int))) (trivial) ⟨by rw[hRe,jlJ];rfl,sz⟩ (λ_ h=>(h.picks [0,1,2,3,4,5,6,7] Dc).upto ⟨J,J,J,by rw[hRe],J,J,J,by rw[hRe,jlJ,jlW];rfl,trivial⟩)
       .obtain⟨m,hm,hm2⟩:=jjn c6;rw[hm];refine S3 ?_;refine a9 ((ja J J).as (congrArg _ (show ZE (some m)=((m:Nat):Int) from J))) ?_;refine S4 ?_;exact Jn hL3 ((u.set k true,m,ps++[lA (lg B k)],r2)) (⟨hI.more (hsm▸hm2),(by simp only[jlJ,jlS,jl5];omega)⟩) (by simp only;omega) ⟨by rw[jlJ];rfl,sz⟩ (λ_ h=>(h.picks [0,1,2,3,4,5,6,7] Dc).upto ⟨J,J,J,J,J,J,J,by rw[jlJ,jlW];rfl,trivial⟩)
    .rintro⟨⟨pA,pc⟩,_⟩-;refine v9 ?_;refine r9 ?_;refine S4 ?_;refine a9 (JD J J (Qn J)) ?_;refine S1 ?_;refine j5 J J (qe J) J (lb J) (λb9=>?_);refine N1 ?_;refine JQ (k:=5) J jC Jl Dc J Dc J J J (λw' hs=>qL hs (k:=8) J J) (by simp[Value.oneCell']) (by unfold maxLen;omega) Om (jlL _) (λr3=>?_);refine N4 ?_;refine kW (λw hs=>UD (hs.all 7 _ J).1) ?_;intro hcap;refine YC 7 J J (λclo chi=>?_);refine t9 ?_;refine Ke 6 7 J J Dc J ?_;refine t9 ?_;refine S6 ?_;exact Jn hL2 ((i+1,r3,ll++[⟨R.2,pA,pc,clo,chi⟩])) (⟨(show i+1<=n by omega),(by rw[jma,hmp,hnx];rfl),λe he=>(jl0.1 he).elim (hcp e) (λh=>by rw[jlM.1 h];exact hcap)⟩) (by simp only;omega) ⟨vi Om,sz⟩ (λ_ h=>h.upto ⟨J,J,J,by rw[hnx],by rw[jlJ];rfl,by rw[jlJ,jma];rfl,(ve _ _).symm,trivial⟩)
  .have hin:i=n:=Om;have htr:ll.map (·.xs)=Ki B:=(by rw[hmp,hin,<-hl];rfl)
   have htl:(Ki B).length=ll.length:=(by rw[<-htr,jlV]);refine S12 ?_;refine jK J (qj (k:=0) J jD J J) ?_;intro w' hs;exact⟨rA,rc,by rw[htl],by rw[htl];exact Y0 hs (kr:=5) (kp:=6) rfl rfl Dc rfl rfl htr (λj hj=>by rw[<-wb hj];have:=(tl2 _ (by rw[<-hmp,htr];exact jlY hj)).2.1;omega),by rw[htl];exact jh5 hs (kr:=5) (kp:=6) rfl rfl rfl htr hcp,hs.fin⟩
end Go.Proofs.YtjbahemkhphndaaGreat
