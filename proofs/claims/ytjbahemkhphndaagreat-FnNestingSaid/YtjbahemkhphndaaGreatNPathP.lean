import Derived.Test.YtjbahemkhphndaaGreatNWay
import Derived.Test.YtjbahemkhphndaaGreatNPix
import Derived.Test.YtjbahemkhphndaaGreatNHot
import Derived.Test.YtjbahemkhphndaaGreatNStabP
import Derived.Test.YtjbahemkhphndaaGreatNBounds
import Derived.Test.YtjbahemkhphndaaGreatNSnapped
set_option linter.unusedVariables false
set_option linter.unusedSimpArgs false
namespace Go.Proofs.YtjbahemkhphndaaGreat
open Go Go.RowKit
section
variable{a b:Pn}{l:List Pn}
def jeS(x y:Wy):Prop:=x.num*y.den<y.num*x.den\/(x.num*y.den=y.num*x.den/\x.cl=true/\y.cl=false)
def VZ(x y:Wy):Int:=if wP (x.num*y.den-y.num*x.den)≠0 then wP (x.num*y.den-y.num*x.den) else if(x.cl&& !y.cl)=true then-1 else if(!x.cl&&y.cl)=true then 1 else 0
theorem F2{x y:Wy}:VZ x y<0↔jeS x y:=by
 unfold VZ jeS;have k:=Vn (x.num*y.den-y.num*x.den)
 split
 .omega
 .cases x.cl<;>cases y.cl<;>simp<;>omega
theorem jbC:Weak (QP VZ):=by
 have e:∀x y,QP VZ x y=true↔jeS x y:=λx y=>by rw[QP,decide_eq_true_eq,F2]
 have e':∀x y,QP VZ x y=false↔¬jeS x y:=λx y=>by rw[<-e x y,Bool.not_eq_true]
 refine⟨λa b h=>?_,λa b c h1 h2=>?_⟩
 .rw[e'] ;rw[e] at h;rintro(h2|⟨h2,h3,h4⟩)
  .rcases h with h|⟨h,_,_⟩<;>omega
  .rcases h with h|⟨h,h5,h6⟩
   .omega
   .rw[h5] at h4;cases h4
 .rw[e'] at h1 h2⊢;have b1:b.num*a.den<=a.num*b.den:=jmS.1 λh=>h1 (.inl h)
  have b2:c.num*b.den<=b.num*c.den:=jmS.1 λh=>h2 (.inl h)
  rintro(h|⟨h,h3,h4⟩)
  .have:=vG b.pos c.pos a.pos b2 b1;omega
  .have g1:¬b.num*a.den<a.num*b.den:=λh'=>by
    have:=vj b.pos c.pos a.pos b2 h';omega
   have g2:¬c.num*b.den<b.num*c.den:=λh'=>by
    have:=wD b.pos c.pos a.pos h' b1;omega
   cases hb:b.cl with
   |true=>exact h2 (.inr ⟨by omega,hb,h4⟩)
   |false=>exact h1 (.inr ⟨by omega,h3,hb⟩)
def J5(a b p:Pn):Sp:=J7 (J7 ux (Q7 (2*a.1) (2*(b.1-a.1)) (2*p.1-1))) (Q7 (2*a.2) (2*(b.2-a.2)) (2*p.2-1))
def Vx(a b p:Pn):Bool:=G1 (2*a.1) (2*(b.1-a.1)) (2*p.1-1) (2*a.2) (2*(b.2-a.2)) (2*p.2-1)
theorem vn(a b p:Pn):0<(J5 a b p).ld/\0<(J5 a b p).hd:=vq (vq U2 (Kx _ _ _)) (Kx _ _ _)
def FM(a b p:Pn):Wy:=⟨p.1,p.2,(J5 a b p).ln,(J5 a b p).ld,(J5 a b p).lc,(vn a b p).1⟩
def Yk(a b p:Pn):Bool:= !(decide (p.1<min a.1 b.1-1)||decide (p.1>max a.1 b.1+1))
def ZB(a b p:Pn):Bool:= !(decide (p.2<min a.2 b.2-1)||decide (p.2>max a.2 b.2+1))
def K9(a b p:Pn):Bool:=Yk a b p&&ZB a b p&&Vx a b p
def vA(a b:Pn)(hot:List Pn):List Wy:=(hot.filter (K9 a b)).map (FM a b)
def qJ(a b:Pn)(hot:List Pn):List Pn:=(Kq (QP VZ) (vA a b hot)).map λe=>(e.x,e.y)
theorem jb0(a b p:Pn)(hi:Vx a b p=true):UM ux (2*a.1) (2*(b.1-a.1)) (2*p.1-1)=true/\wN (wN ux (2*a.1) (2*(b.1-a.1)) (2*p.1-1)) (2*a.2) (2*(b.2-a.2)) (2*p.2-1)=J5 a b p:=by
 have:=TN (2*a.1) (2*(b.1-a.1)) (2*p.1-1) (2*a.2) (2*(b.2-a.2)) (2*p.2-1);unfold Vx at hi;rw[hi] at this;have h2:=(jlK _ _▸this.symm:_/\_)
 refine⟨h2.1,?_⟩;rw[Bl DF,Bl I8];rfl
theorem ID{p:Pn}(ha:bd2 a)(hb:bd2 b)(hp:bd2 p):bdP (J5 a b p):=by
 obtain⟨⟨a1,a2⟩,a3,a4⟩:=ha;obtain⟨⟨b1,b2⟩,b3,b4⟩:=hb;obtain⟨⟨p1,p2⟩,p3,p4⟩:=hp;have hx:=xY (2*a.1) (2*(b.1-a.1)) (2*p.1-1) Om Om Om Om Om Om
 have hy:=xY (2*a.2) (2*(b.2-a.2)) (2*p.2-1) Om Om Om Om Om Om;exact WH (Wq (WH (Wq DE hx) hx) hy) hy
theorem H6(a b:Pn)(l m:List Pn):vA a b (l++m)=vA a b l++vA a b m:=by simp[vA,jnh]
theorem Mh(h:∀p∈l,K9 a b p=false):vA a b l=[]:=by
 unfold vA;rw[List.filter_eq_nil_iff.2 λp hp=>by rw[h p hp];decide];rfl
theorem jgy{p:Pn}(h:K9 a b p=true):vA a b [p]=[FM a b p]:=by simp[vA,h]
theorem HX{xs:List Pn}{k:Nat}(h:k<xs.length):xs.take (k+1)=xs.take k++[pt xs k]:=by
 rw[jlX h,KO h]
theorem P5(a b:Pn)(l:List Pn):(vA a b l).length<=l.length:=by
 unfold vA;rw[jlV];exact jnq _ _
theorem jgx{e:Wy}(h:e∈vA a b l):∃p∈l,e=FM a b p:=by
 obtain⟨p,hp,rfl⟩:=jlR.1 h;exact⟨p,(jmx.1 hp).1,rfl⟩
end
section
variable{A:Option Addr}{a b p q:Pn}{e:Wy}{k n:Nat}{l:List Wy}{w:World}{x:Option Addr×Nat}{xs ys:List Pn}{α:Type}
set_option maxRecDepth 100000
set_option maxHeartbeats 4000000
def yxC(p q:Pn):Int:=if p.2=q.2 then wP (p.1-q.1) else wP (p.2-q.2)
theorem jbi{n:Int}:wP n<0↔n<0:=by unfold wP;split<;>(try split)<;>omega
theorem jbh{n:Int}:wP n=0↔n=0:=by unfold wP;split<;>(try split)<;>omega
theorem jbD :yxC p q<0↔vv p q:=by
 unfold yxC vv;split
 .rw[jbi];omega
 .rw[jbi];omega
theorem yF :yxC p q=0↔p=q:=by
 obtain⟨a,b⟩:=p;obtain⟨c,d⟩:=q;simp only[yxC,Prod.mk.injEq];split
 .rw[jbh];omega
 .rw[jbh];omega
def uS:List Pn->List Pn->Int
 |[],[]=>0
 |[],_::_=> -1
 |_::_,[]=>1
 |p::a,q::b=>if yxC p q=0 then uS a b else yxC p q
def uT(a b:List Pn):Bool:=decide (uS a b<0)
theorem BQ{a:List Pn}:uT a []=false:=by cases a<;>rfl
theorem R3{b:List Pn}:uT [] (q::b)=true:=rfl
theorem U6{a b:List Pn}:uT (p::a) (q::b)=true↔vv p q\/(p=q/\uT a b=true):=by
 unfold uT;rw[decide_eq_true_eq,decide_eq_true_eq,uS];split
 .rename_i h;have:=yF.1 h
  subst this;exact⟨λh=>.inr ⟨rfl,h⟩,λh=>h.elim (λh=>absurd h (kX p)) (·.2)⟩
 .rename_i h;rw[jbD];exact⟨.inl,λh'=>h'.elim id λh'=>absurd (yF.2 h'.1) h⟩
theorem LB:∀a b:List Pn,uT a b=true->uT b a=false
 |_,[],h=>by rw[BQ] at h;cases h
 |[],q::b,_=>BQ
 |p::a,q::b,h=>by
  rw[jmR,_root_.Ne,U6];intro h2;rcases U6.1 h with h1|⟨rfl,h1⟩
  .rcases h2 with h2|⟨rfl,_⟩
   .exact kX p (VQ h1 h2)
   .exact kX _ h1
  .rcases h2 with h2|⟨_,h2⟩
   .exact kX _ h2
   .rw[LB a b h1] at h2;cases h2
theorem jar:∀a b c:List Pn,uT a c=true->uT a b=true\/uT b c=true
 |_,_,[],h=>by rw[BQ] at h;cases h
 |[],[],_::_,_=>.inr R3
 |_::_,[],_::_,_=>.inr R3
 |[],_::_,_::_,_=>.inl R3
 |p::a,q::b,r::c,h=>by
  rw[U6,U6];rcases yU p q with h1|rfl|h1
  .exact .inl (.inl h1)
  .rcases U6.1 h with h2|⟨rfl,h2⟩
   .exact .inr (.inl h2)
   .rcases jar a b c h2 with h3|h3
    .exact .inl (.inr ⟨rfl,h3⟩)
    .exact .inr (.inr ⟨rfl,h3⟩)
  .rcases U6.1 h with h2|⟨rfl,h2⟩
   .exact .inr (.inl (VQ h1 h2))
   .exact .inr (.inl h1)
theorem Io:Weak uT:=⟨LB,λa b c h1 h2=>by
 rw[jmR];intro h;rcases jar a b c h with h3|h3
 .rw[h1] at h3;cases h3
 .rw[h2] at h3;cases h3⟩
theorem Weak.by{β:Type}{lt:β->β->Bool}(W:Weak lt)(f:α->β):Weak λx y=>lt (f x) (f y):=⟨λa b h=>W.asym _ _ h,λa b c h1 h2=>W.neg _ _ _ h1 h2⟩
theorem xN(h:k<xs.length):xs.drop k=pt xs k::xs.drop (k+1):=by
 rw[jmu h,YB h];rfl
theorem RX(h1:k<xs.length)(h2:k<ys.length)(h:pt xs k=pt ys k):uS (xs.drop k) (ys.drop k)=uS (xs.drop (k+1)) (ys.drop (k+1)):=by
 rw[xN h1,xN h2,uS,if_pos (yF.2 h)]
theorem RY(h1:k<xs.length)(h2:k<ys.length)(h:pt xs k≠pt ys k):uS (xs.drop k) (ys.drop k)=yxC (pt xs k) (pt ys k):=by
 rw[xN h1,xN h2,uS,if_neg (λh'=>h (yF.1 h'))]
theorem G9(h1:k=xs.length)(h2:k<=ys.length):uS (xs.drop k) (ys.drop k)=if k<ys.length then-1 else 0:=by
 rw[jmG Om];split
 .rename_i h;rw[xN h];rfl
 .rw[jmG Om];rfl
theorem NM(h1:k<xs.length)(h2:ys.length<=k):uS (xs.drop k) (ys.drop k)=1:=by
 rw[xN h1,jmG h2];rfl
def Yd(xs:List Pn)(k:Nat):List Pn:=xs.drop k++xs.take k
def Vt(xs:List Pn):Nat->Nat
 |0=>0
 |k+1=>if uT (Yd xs k) (Yd xs (Vt xs k))=true then k else Vt xs k
def wQ(xs:List Pn):List Pn:=Yd xs (Vt xs xs.length)
theorem Wi :(Yd xs k).length=xs.length:=by simp[Yd];omega
theorem ja4 :p∈Yd xs k↔p∈xs:=by
 unfold Yd;rw[jl0,or_comm,<-jl0,jl1]
theorem jfN(xs:List Pn):Yd xs 0=xs:=by simp[Yd]
theorem wJ :(wQ xs).length=xs.length:=Wi
theorem jdd :p∈wQ xs↔p∈xs:=ja4
theorem jcm(a:List Pn):uT a a=false:=by
 cases h:uT a a
 .rfl
 .rw[LB a a h] at h;cases h
theorem Me(xs:List Pn):Vt xs 1=0:=by simp[Vt,jcm]
theorem H0(xs:List Pn):∀k,0<k->Vt xs k<k
 |0,h=>absurd h Om
 |1,_=>by rw[Me];omega
 |k+2,_=>by
  rw[Vt];split
  .omega
  .have:=H0 xs (k+1) Om;omega
theorem Ss{j:Nat}(hk:k<xs.length)(hj:j<xs.length):pt (Yd xs k) j=pt xs ((k+j) % xs.length):=by
 have e:(Yd xs k)[j]? =xs[(k+j) % xs.length]? :=by
  unfold Yd;by_cases h:j<xs.length-k
  .rw[List.getElem?_append_left (by simpa using h),List.getElem?_drop,jm0 Om]
  .rw[List.getElem?_append_right (by simpa using h),jmb,List.getElem?_take,if_pos Om];congr 1;rw[Nat.mod_eq_sub_mod Om,jm0 Om];omega
 simp only[pt,px,py,List.getD_eq_getElem?_getD,e]
theorem jcl(h1:0<xs.length)(h2:0<ys.length)(h:0<yxC (pt xs 0) (pt ys 0)):uT xs ys=false:=by
 have:=RY (k:=0) h1 h2 (λe=>by rw[yF.2 e] at h;omega);rw[List.drop_zero,List.drop_zero] at this;unfold uT;rw[this,decide_eq_false_iff_not];omega
theorem jia(hk:k<xs.length):pt (Yd xs k) 0=pt xs k:=by rw[Ss hk Om,jnC,jm0 hk]
theorem I4(h:uT (Yd xs k) (Yd xs (Vt xs k))=true):Vt xs (k+1)=k:=by rw[Vt,if_pos h]
theorem DP(h:uT (Yd xs k) (Yd xs (Vt xs k))=false):Vt xs (k+1)=Vt xs k:=by rw[Vt,if_neg (by rw[h];decide)]
theorem FD{j:Nat}(hk:k<xs.length)(hj:j<xs.length):((Yd xs k).take j).flatMap Jt++Jt (pt xs ((k+j) % xs.length))=((Yd xs k).take (j+1)).flatMap Jt:=by
 rw[jlX (by rw[Wi];exact hj),jlW,YB (by rw[Wi];exact hj)];have:=Ss hk hj
 unfold pt at this;rw[this];simp[pt]
theorem jah{lt:α->α->Bool}(W:Weak lt){l:List α}(hs:ya lt l){x:α}(hk:k<=l.length)(hi:∀q∈l.drop k,lt x q=true)(hlo:k=0\/∃p,l[k-1]? =some p/\lt x p=false):wm lt x l=l.take k++x::l.drop k:=by
 have:=BE (lt:=lt) x (l.take k) (l.drop k) (λp hp=>?_) (λq hq=>hi q (List.mem_of_mem_head? hq))
 .rwa [jl1] at this
 .rcases hlo with rfl|⟨r,hr,hx⟩
  .simp at hp
  .obtain⟨i,hi',e⟩:=jmq hp;rw[jl3] at hi';rw[List.getElem_take] at e;obtain⟨hr1,rfl⟩:=List.getElem?_eq_some_iff.1 hr;subst e;rcases jmT (show i<=k-1 by omega) with h1|rfl
   .exact W.neg _ _ _ hx (jmQ.1 hs i (k-1) Om hr1 h1)
   .exact hx
theorem Mp(p q:Pn)(w:World)(hp:Xh p)(hq:Xh q):Calls Tryz.prog 109 #[pV p,pV q] w λe w'=>e=.returned (.int .i64 (yxC p q))/\Over w w':=by
 obtain⟨⟨p1,p2⟩,p3,p4⟩:=hp;obtain⟨⟨q1,q2⟩,q3,q4⟩:=hq;refine Jm (m:=22) (Tryz.func109) J J (lb J) ?_;refine S3 ?_;refine aX (λb1=>?_);refine N1 ?_;refine aX (λb2=>?_);refine N11 ?_;refine cZ (λc1=>?_) (λc1=>?_)
 .refine S7 ?_;refine a9 (jT kv J J (λw h=>Calls.still (KX _ w))) ?_;refine S4 ?_;refine jK J (.tmp J) ?_;intro w' hs;exact⟨by rw[yxC,if_neg c1],hs.fin⟩
 .refine S9 ?_;refine a9 (jT kv J J (λw h=>Calls.still (KX _ w))) ?_;refine S3 ?_;refine jK J (.tmp J) ?_;intro w' hs;exact⟨by rw[yxC,if_pos Om],hs.fin⟩
theorem Pts.dropT{b o c:Nat}(h:Pts w (some ⟨b,o,none⟩) n xs)(hk:k<=n)(hc:n<=c):Pts w (some ⟨b,ZG o k c 2,none⟩) (n-k) (xs.drop k):=by
 have hl:=h.1;refine⟨by rw[jmb,hl],λh0=>?_⟩;obtain⟨b',o',e,hlt,hx⟩:=h.2 Om;injection e with e
 injection e with e1 e2
 subst e1 e2;refine⟨_,_,J,hlt,λj hj=>?_⟩;have hd:∀j,px (xs.drop k) j=px xs (k+j)/\py (xs.drop k) j=py xs (k+j):=λj=>by
  simp only[px,py,List.getD_eq_getElem?_getD,List.getElem?_drop];exact⟨trivial,trivial⟩
 rw[ZG,if_neg Om,(hd j).1,(hd j).2,show o+k*2+j*2=o+(k+j)*2 by omega];exact hx (k+j) Om
theorem Pts.takeT(h:Pts w A n xs)(hk:k<=n):Pts w A k (xs.take k):=by
 have hl:=h.1;refine⟨by rw[jl3];omega,λh0=>?_⟩;obtain⟨b,o,e,hlt,hx⟩:=h.2 Om;refine⟨b,o,e,hlt,λj hj=>?_⟩;have hd:px (xs.take k) j=px xs j/\py (xs.take k) j=py xs j:=by
  simp only[px,py,List.getD_eq_getElem?_getD,List.getElem?_take,if_pos hj];exact⟨trivial,trivial⟩
 rw[hd.1,hd.2];exact hx j Om
theorem FF(x y:Wy)(w:World)(hx:bd1 x.num x.den)(hy:bd1 y.num y.den):Calls Tryz.prog 136 #[x.val,y.val] w λe w'=>e=.returned (.int .i64 (VZ x y))/\Over w w':=by
 refine Jm (m:=34) (Tryz.func136) J J (lb J) ?_;refine S3 ?_;refine aX (λb1=>?_);refine N1 ?_;refine aX (λb2=>?_);refine N9 ?_;refine a9 (jT vH J J (λw1 hs=>wB _ _ _ _ _ _ w1 hx hy)) ?_;refine S7 ?_;refine cZ (λc1=>?_) (λc1=>?_)
 .refine S7 ?_;refine jK J (.tmp J) ?_;intro w' hs;exact⟨by rw[VZ,if_pos c1],hs.fin⟩
 .refine S10 ?_;refine cV 18 (λg1=>?_) (λg1=>?_)
  .refine S11 ?_;refine cZ (λc2=>?_) (λc2=>?_)
   .refine S7 ?_;refine jK J (.tmp J) ?_;intro w' hs;exact⟨by unfold VZ;rw[if_neg (λh=>h c1)];simp_all,hs.fin⟩
   .refine S7 ?_;refine cV 29 (λg2=>?_) (λg2=>?_)
    .refine S9 ?_;refine cZ (λc3=>?_) (λc3=>?_)
     .refine S7 ?_;refine jK J (.tmp J) ?_;intro w' hs;exact⟨by unfold VZ;rw[if_neg (λh=>h c1)];simp_all,hs.fin⟩
     .refine S8 ?_;refine jK J (.tmp J) ?_;intro w' hs;exact⟨by unfold VZ;rw[if_neg (λh=>h c1)];simp_all,hs.fin⟩
    .refine S15 ?_;refine jK J (.tmp J) ?_;intro w' hs;exact⟨by unfold VZ;rw[if_neg (λh=>h c1)];simp_all,hs.fin⟩
  .refine S15 ?_;refine cV 29 (λg3=>?_) (λg3=>?_)
   .refine S9 ?_;refine cZ (λc4=>?_) (λc4=>?_)
    .refine S7 ?_;refine jK J (.tmp J) ?_;intro w' hs;exact⟨by unfold VZ;rw[if_neg (λh=>h c1)];simp_all,hs.fin⟩
    .refine S8 ?_;refine jK J (.tmp J) ?_;intro w' hs;exact⟨by unfold VZ;rw[if_neg (λh=>h c1)];simp_all,hs.fin⟩
   .refine S15 ?_;refine jK J (.tmp J) ?_;intro w' hs;exact⟨by unfold VZ;rw[if_neg (λh=>h c1)];simp_all,hs.fin⟩
theorem Ep{B:Nat}(hrow:(JV B 182 5 n (l.flatMap Wy.cells) x).P w)(hl:l.length=n)(hb:∀e∈l,bd1 e.num e.den)(hn:n<=1099511627776):
  Calls Tryz.prog 135 #[.slice x.1 n x.2,.func (.func 136) #[] #[]] w λe w'=>e=.returned (.tuple #[])/\Wrs (JV B 182 5 n (l.flatMap Wy.cells) x).F w w'/\(JV 0 182 5 n ((Kq (QP VZ) l).flatMap Wy.cells) x).P w':=by
 have hrow':w.ownsRow B 182 5 (.slice x.1 n x.2) n (l.flatMap Wy.cells):=hrow;rcases hrow'.2 with⟨e,e2⟩|⟨g,cap,cur,e,hbg,hg,hcap,hmax,hsz,htk⟩
 .subst e2;obtain rfl:l=[]:=jmh hl;refine(Es x.1 x.2 _ w).mono ?_;rintro e' w' ⟨rfl,hO⟩;refine⟨J,Wrs.of hO,?_⟩;show w'.ownsRow 0 182 5 (.slice x.1 0 x.2) 0 _
  rw[e];exact World.ownsRow_nil _ _ _ _
 .injection e with e1 e3 e4
  have hF:∀b,b=g->(JV B 182 5 n (l.flatMap Wy.cells) x).F b:=by
   rintro b rfl;show Value.ownBlock (.slice x.1 n x.2)=some _
   rw[e1];rfl
  have hcl:cur.toList.length=cap*5:=by simp[hsz]
  have hcur:cur=(ut (l++[]) (cur.toList.drop (n*5))).toArray:=by
   rw[jl9,ut,<-htk,jl1,jm1]
  have hC:CmpW w g (·∈l) VZ:=⟨λu hu v hv w' ho=>FF u v w' (hb u hu) (hb v hv),jbC⟩;have:=jiv g 182 (cur.toList.drop (n*5)) l [] n x.2 _ _ w hC (by rw[<-hcur];exact hg) hl hn (λu hu=>hu)
  rw[e1];refine this.mono ?_;rintro e' w' ⟨rfl,hw,hh⟩;refine⟨J,⟨hw.os,hw.tape,hw.output,hw.size,λc hc hnc=>hw.block c hc (λec=>hnc (hF c ec))⟩,?_⟩;rw[jl9] at hh;have hml:((Kq (QP VZ) l).flatMap Wy.cells).length=n*5:=by rw[Lc,QC,hl]
  refine⟨hml,.inr ⟨g,x.2,_,by rw[e1],jlN _,hh,by rw[e4];exact hcap,by rw[e4];exact hmax,?_,?_⟩⟩
  .rw[jmJ,ut,jlJ,hml,jmb,hcl,e4];omega
  .rw[jmP,ut,List.take_append_of_le_length Om,jme Om]
theorem XH(p:Pn)(t:Int)(w:World)(hp:Xh p)(ht: -1152921504606846976<=t/\t<=1152921504606846976):Calls Tryz.prog 133 #[pV p,.int .i64 t] w λe w'=>e=.returned (.int .i64 (wP (p.2-t)))/\Over w w':=by
 obtain⟨⟨p1,p2⟩,p3,p4⟩:=hp;refine Jm (m:=10) (Tryz.func133) J J (lb J) ?_;refine S3 ?_;refine aX (λb1=>?_);refine N8 ?_;refine a9 (jT kv J J (λw h=>Calls.still (KX _ w))) ?_;refine S3 ?_;refine jK J (.tmp J) ?_;intro w' hs;exact⟨rfl,hs.fin⟩
def GC(xs:List Pn)(t:Int):Nat:=(xs.takeWhile λp=>decide (p.2<t)).length
theorem jdM:∀{xs:List Pn} {t:Int} {i:Nat},i<=xs.length->(∀k,k<i->py xs k<t)->(i<xs.length->t<=py xs i)->GC xs t=i
 |[],_,i,h,_,_=>by simp at h;subst h;rfl
 |p::xs,t,0,_,_,h3=>by
  have:=h3 (by simp);have e:py (p::xs) 0=p.2:=rfl
  unfold GC;rw[List.takeWhile_cons_of_neg (by simp;omega)];rfl
 |p::xs,t,i+1,h1,h2,h3=>by
  have e:py (p::xs) 0=p.2:=rfl;have h0:=h2 0 Om
  have ek:∀k,py (p::xs) (k+1)=py xs k:=λk=>by simp[py]
  unfold GC;rw[List.takeWhile_cons_of_pos (by simp;omega),jlS];have:=jdM (xs:=xs) (t:=t) (i:=i) (by simpa using h1) (λk hk=>by have:=h2 (k+1) Om;rwa [ek] at this) (λhi=>by have:=h3 (by simpa using hi);rwa [ek] at this)
  unfold GC at this;omega
def pt2(xs:List Pn)(k:Nat):Int:=py xs k
def O7(xs:List Pn):Prop:=∀k j,k<=j->j<xs.length->py xs k<=py xs j
theorem jdt(h:Asc xs):O7 xs:=λk j hkj hj=>by
 rcases jmT hkj with h1|rfl
 .have:=jmQ.1 h k j Om hj h1;rw[KO,KO] at this;unfold vv pt at this;simp only at this;omega
 .exact jna _
theorem Ld(A:Option Addr)(n c:Nat)(xs:List Pn)(t:Int)(w:World)(h:Pts w A n xs)(hx:∀p∈xs,Xh p)(ht: -1152921504606846976<=t/\t<=1152921504606846976)(hm:O7 xs)(hn:n<=1099511627776):
  Calls Tryz.prog 132 #[.slice A n c,.int .i64 t,.func (.func 133) #[] #[]] w λe w'=>e=.returned (.tuple #[.int .i64 ((GC xs t:Nat):Int),.bool (decide (GC xs t<n) &&decide (wP (py xs (GC xs t)-t)=0))])/\Over w w':=by
 have hl:=h.1;have hbd:∀k,k<n->Xh (pt xs k):=λk hk=>hx _ (by rw[<-KO Om];exact jlY _)
 refine Jm (m:=49) (Tryz.func132) J J (lb J) ?_;refine S19 ?_;refine qD (X:=Nat×Nat) (λq=>q.1<=q.2/\q.2<=n/\(∀k,k<q.1->py xs k<t)/\(∀k,q.2<=k->k<n->t<=py xs k)) (λq=>q.2-q.1) (λq=>[(9,.int .i64 (q.1:Int)),(10,.int .i64 (q.2:Int))]) (kK [0,1,2,6,7,8]) (0,n) (⟨jlN _,jlL _,λk hk=>absurd hk (by simp),λk h1 h2=>absurd (jlU h2 h1) (Nat.lt_irrefl _)⟩) ⟨J,sz⟩ ?_;intro⟨i,j⟩ hq L hL1;refine v9 ?_;obtain⟨q1,q2,q3,q4⟩:i<=j/\j<=n/\(∀k,k<i->py xs k<t)/\(∀k,j<=k->k<n->t<=py xs k):=hq;refine S7 ?_;refine cZ (λc1=>?_) (λc1=>?_)
 .have hij:i<j:=Om;obtain⟨eb,eo,rfl,_⟩:=h.2 Om;refine S8 ?_;refine a9 (QS J Tryz.underlying3 Tryz.underlying98 J (UJ _ Om Om)) ?_;refine a9 (ue (q:=1) J J J Dc Dc) ?_;refine a9 ((QS J Tryz.underlying98 Tryz.underlying3 J (Wk _ (by simp;omega) (by simp;omega))).as (congrArg _ (show(((i:Int)+(j:Int))/2^ (Int.toNat 1))=(((i+j)/2:Nat):Int) by simp))) ?_;refine S7 ?_;refine a9 (jQ (j:=(i+j)/2) J J J jw Om) ?_;refine a9 (jj J J jk J (WM (b:=eb) (o:=eo) h Om)) ?_;refine S1 ?_;refine a9 (VO yp J J J (λw1 hs=>XH (pt xs ((i+j)/2)) t w1 (hbd _ Om) ht)) ?_;refine S2 ?_;refine cZ (λc2=>?_) (λc2=>?_)
  .have hlow:py xs ((i+j)/2)<t:=(by have:=jbj.1 c2;simp only[pt] at this;omega);refine S7 ?_;exact J6 hL1 (((i+j)/2+1,j)) (⟨show(i+j)/2+1<=j by omega,q2,λk hk=>by have:=hm k ((i+j)/2) (by simp only at hk;omega) Om;omega,q4⟩) (by simp only;omega) ⟨vi Om,sz⟩ (u9 J)
  .have hlow:t<=py xs ((i+j)/2):=jmS.1 λhh=>by have:=jbj.2 (show pt2 xs ((i+j)/2)-t<0 by unfold pt2;omega);unfold pt2 at this;simp only[pt] at c2;omega
   refine S6 ?_;exact J6 hL1 ((i,(i+j)/2)) (⟨show i<=(i+j)/2 by omega,show(i+j)/2<=n by omega,q3,λk h1 h2=>by have:=hm ((i+j)/2) k h1 Om;omega⟩) (by simp only;omega) ⟨J,sz⟩ (u9 J)
 .have hij:i=j:=Om;subst hij;have hbs:GC xs t=i:=jdM Om q3 (λhi=>q4 i (jlL _) Om)
  refine S12 ?_;refine cV 39 (λg1=>?_) (λg1=>?_)
  .have hin:i<n:=Om;obtain⟨eb,eo,rfl,_⟩:=h.2 Om;refine S7 ?_;refine o9 (jQ (j:=i) J J J jw Om) ?_;refine h9 ?_;refine o9 (jj J J jk J (WM (b:=eb) (o:=eo) h hin)) ?_;refine S3 ?_;refine o9 (VO yp J J J (λw1 hs=>XH (pt xs i) t w1 (hbd _ hin) ht)) ?_;refine S7 ?_;refine qG J (.tmp J) (.tmp J) ?_;intro w' hs;exact⟨by rw[hbs,show decide (i<n)=true from decide_eq_true hin,jlZ];rfl,hs.fin⟩
  .refine S13 ?_;refine qG J (.tmp J) (.tmp J) ?_;intro w' hs;exact⟨by rw[hbs,show decide (i<n)=false from decide_eq_false Om,jmg],hs.fin⟩
theorem jgW(b3:Nat)(a b:Pn)(w:World)(h:Pts w (some ⟨b3,0,none⟩) 2 [a,b]):Calls Tryz.prog 131 #[.slice (some ⟨b3,0,none⟩) 2 2] w λe w'=>e=.returned (.tuple #[Wh (min a.1 b.1) (min a.2 b.2),Wh (max a.1 b.1) (max a.2 b.2)])/\Over w w':=by
 have:=Rj _ 2 2 [a,b] w h Dc Dc Dc;exact this
def wkS(a b p:Pn):Sp:=if UM ux (2*a.1) (2*(b.1-a.1)) (2*p.1-1)=true then wN (wN ux (2*a.1) (2*(b.1-a.1)) (2*p.1-1)) (2*a.2) (2*(b.2-a.2)) (2*p.2-1) else wN ux (2*a.1) (2*(b.1-a.1)) (2*p.1-1)
theorem jkC(h:Vx a b p=true):wkS a b p=J5 a b p:=by
 obtain⟨h1,h2⟩:=jb0 a b p h;rw[wkS,if_pos h1,h2]
theorem PZ(a b p:Pn)(w:World)(ha:WT a.1 a.2=true)(hb:WT b.1 b.2=true)(hp:WT p.1 p.2=true):
  Calls Tryz.prog 134 #[pV a,pV b,pV p] w λe w'=>e=.returned (.tuple #[jjc (wkS a b p),.bool (Vx a b p)])/\Over w w':=by
 have:=FJ a.1 a.2 b.1 b.2 p.1 p.2 w ha hb hp;rw[<-TN] at this;exact this
theorem TF(h:p.1<min a.1 b.1-1):Yk a b p=false:=by unfold Yk;rw[decide_eq_true h];rfl
theorem jbU(h:min a.1 b.1-1<=p.1):decide (p.1>max a.1 b.1+1)= !Yk a b p:=by unfold Yk;rw[decide_eq_false (jmS.2 h),Bool.false_or,Bool.not_not]
theorem ZT(h1:min a.2 b.2-1<=p.2)(h2:p.2<=max a.2 b.2+1):ZB a b p=true:=by unfold ZB;rw[decide_eq_false (jmS.2 h1),decide_eq_false (jmS.2 h2)];rfl
theorem Pe(h:Yk a b p=false):K9 a b p=false:=by simp[K9,h]
theorem Pf(h:ZB a b p=false):K9 a b p=false:=by simp[K9,h]
theorem HA(h:Vx a b p=false):K9 a b p=false:=by simp[K9,h]
theorem YX(h1:Yk a b p=true)(h2:ZB a b p=true)(h3:Vx a b p=true):K9 a b p=true:=by simp[K9,h1,h2,h3]
theorem SX(hk:k<ys.length)(h:K9 a b (pt ys k)=false):vA a b (ys.take (k+1))=vA a b (ys.take k):=by
 rw[HX hk,H6,Mh (l:=[pt ys k]) (λp hp=>by rw[jlM.1 hp];exact h),jl9]
theorem jbz(hk:k<ys.length)(h:K9 a b (pt ys k)=true):vA a b (ys.take (k+1))=vA a b (ys.take k)++[FM a b (pt ys k)]:=by
 rw[HX hk,H6,jgy h]
theorem jjU(h:p∈xs):∃k,k<xs.length/\pt xs k=p:=by
 obtain⟨k,hk,e⟩:=jmq h;exact⟨k,hk,by rw[<-e,KO hk]⟩
theorem OQ(xs:List Pn)(i k:Nat):pt (xs.drop i) k=pt xs (i+k):=by
 simp only[pt,px,py,List.getD_eq_getElem?_getD,List.getElem?_drop]
theorem Rk:∀(xs:List Pn) (t:Int),GC xs t<=xs.length/\(∀p∈xs.take (GC xs t),p.2<t)/\(GC xs t<xs.length->t<=py xs (GC xs t))
 |[],t=>⟨jlL _,λp hp=>by simp at hp,λh=>absurd h (by simp[GC])⟩
 |p::xs,t=>by
  obtain⟨h1,h2,h3⟩:=Rk xs t;by_cases hp:p.2<t
  .have e:GC (p::xs) t=GC xs t+1:=by
    unfold GC;rw[List.takeWhile_cons_of_pos (by simpa using hp),jlS]
   rw[e];refine⟨by simpa using h1,λq hq=>?_,λh=>?_⟩
   .rw[List.take_succ_cons] at hq;rcases jlP.1 hq with rfl|hq
    .exact hp
    .exact h2 q hq
   .have:=h3 (by simpa using h);have ek:py (p::xs) (GC xs t+1)=py xs (GC xs t):=by simp[py]
    rw[ek];exact this
  .have e:GC (p::xs) t=0:=by
    unfold GC;rw[List.takeWhile_cons_of_neg (by simpa using hp)];rfl
   rw[e];exact⟨jlN _,λq hq=>by simp at hq,λ_=>by have:py (p::xs) 0=p.2:=rfl;omega⟩
theorem jiK :vA a b (xs.drop (GC xs (min a.2 b.2-1)))=vA a b xs:=by
 obtain⟨h1,h2,h3⟩:=Rk xs (min a.2 b.2-1)
 conv=>rhs;rw[<-jl1 (GC xs (min a.2 b.2-1)) xs]
 rw[H6,Mh (l:=xs.take _) (λp hp=>Pf (by have:=h2 p hp;simp[ZB,this])),jmt]
theorem jgz(hm:O7 ys)(hk:k<ys.length)(h:py ys k>max a.2 b.2+1):vA a b (ys.take k)=vA a b ys:=by
 conv=>rhs;rw[<-jl1 k ys]
 rw[H6,Mh (l:=ys.drop k) (λp hp=>Pf ?_),jl9];obtain⟨j,hj,rfl⟩:=jjU hp;rw[jmb] at hj;rw[OQ];have:=hm k (k+j) Om Om
 have e:(pt ys (k+j)).2=py ys (k+j):=rfl;simp[ZB,e];omega
theorem jcs(h:O7 xs)(i:Nat):O7 (xs.drop i):=λk j hkj hj=>by
 rw[jmb] at hj;have e:∀k,py (xs.drop i) k=py xs (i+k):=λk=>by have:=OQ xs i k;simp only[pt] at this;injection this
 rw[e,e];exact h _ _ Om Om
theorem jjN(hm:O7 xs)(hk:k<(xs.drop (GC xs (min a.2 b.2-1))).length):min a.2 b.2-1<=py (xs.drop (GC xs (min a.2 b.2-1))) k:=by
 obtain⟨h1,h2,h3⟩:=Rk xs (min a.2 b.2-1);rw[jmb] at hk;have e:py (xs.drop (GC xs (min a.2 b.2-1))) k=py xs (GC xs (min a.2 b.2-1)+k):=by have:=OQ xs (GC xs (min a.2 b.2-1)) k;simp only[pt] at this;injection this
 rw[e];have:=hm (GC xs (min a.2 b.2-1)) (GC xs (min a.2 b.2-1)+k) Om Om
 have:=h3 Om;omega
theorem Em{c i:Nat}(hi:i<=n)(hc:n<=c):∃A',sliced A i n c 2=.slice A' (n-i) (c-i)/\∀{w:World} {xs:List Pn},Pts w A n xs->Pts w A' (n-i) (xs.drop i):=by
 by_cases h0:i<n
 .cases A with
  |none=>exact⟨none,by simp[sliced],λh=>absurd (h.2 Om) (by rintro⟨b,o,e,_⟩;cases e)⟩
  |some p=>
   by_cases hp:p.spot=none
   .obtain⟨b,o,v⟩:=p;cases hp;exact⟨_,U0 hc hi,λh=>h.dropT hi hc⟩
   .refine⟨_,J,λ{w xs} h=>?_⟩;obtain⟨b,o,e,_⟩:=h.2 Om;injection e with e
    subst e;exact absurd rfl hp
 .obtain rfl:i=n:=by omega
  refine⟨_,J,λ{w xs} h=>⟨by rw[jmb,h.1],λh=>absurd h Om⟩⟩
theorem jih{w0:Bs}{Rs:List Res}{B T m g c j:Nat}(hk:Rs[k]? =some (JV B T 5 m (l.flatMap Wy.cells) (some ⟨g,0,none⟩,c)))(he:l[j]? =some e):∀w',St w0 Rs w'->∀q v,e.cells[q]? =some v->w'.cell? ⟨g,0+j*5+q,none⟩=some v:=λw' hs q v hv=>by
 have h:w'.ownsRow B T 5 (.slice (some ⟨g,0,none⟩) m c) m (l.flatMap Wy.cells):=(hs.all k _ hk).1;have:=jgB (tl:=[]) he hv
 rw[ut,jl9] at this;have:=h.cells rfl _ v this
 rw[kq] at this;rw[jmd] at this⊢;exact this
theorem jcD{L:List Wy}(h:L[k]? =some e):((L.map λe=>(e.x,e.y)).take k).flatMap Jt++[.int .i64 e.x,.int .i64 e.y]=((L.map λe=>(e.x,e.y)).take (k+1)).flatMap Jt:=by
 obtain⟨hk,rfl⟩:=List.getElem?_eq_some_iff.1 h;rw[jlX (by simpa using hk),jlW];simp[Jt]
theorem SI(a b:Pn)(A:Option Addr)(n c:Nat)(hot:List Pn)(w:World)(h:Pts w A n hot)(ha:WT a.1 a.2=true)(hb:WT b.1 b.2=true)(hh:∀p∈hot,WT p.1 p.2=true)(hasc:Asc hot)(hc:n<=c)(hn:n<=1048576):
  Calls Tryz.prog 111 #[pV a,pV b,.slice A n c] w λe w'=>∃v,e=.returned v/\w'.ownsRow w.heap.size 36 2 v (qJ a b hot).length ((qJ a b hot).flatMap Jt)/\Over w w':=by
 have hl:=h.1;have hmono:=jdt hasc
 obtain⟨hi1,hi2,hi3⟩:=Rk hot (min a.2 b.2-1);have ha2:bd2 a:=zK ha
 have hb2:bd2 b:=zK hb;have hp2:∀p∈hot,bd2 p:=λp hp=>zK (hh p hp)
 obtain⟨⟨a1,a2⟩,a3,a4⟩:=id ha2;obtain⟨⟨b1',b2'⟩,b3',b4'⟩:=id hb2;obtain⟨i,hi⟩:∃i,i=GC hot (min a.2 b.2-1):=⟨_,rfl⟩;obtain⟨A',eA,hA'⟩:=Em (A:=A) (n:=n) (c:=c) (i:=i) Om hc;obtain⟨ys,hys⟩:∃ys,ys=hot.drop i:=⟨_,rfl⟩;have hyl:ys.length=n-i:=by rw[hys,jmb,hl]
 have hyp:Pts w A' (n-i) ys:=hys▸hA' h;have hym:O7 ys:=hys▸jcs hmono i
 have hylow:∀k,k<ys.length->min a.2 b.2-1<=py ys k:=λk hk=>by subst hys hi;exact jjN hmono hk
 have hway:vA a b ys=vA a b hot:=by subst hys hi;exact jiK
 have hymem:∀k,k<ys.length->pt ys k∈hot:=λk hk=>by rw[hys] at hk⊢;rw[OQ,<-KO (by rw[jmb] at hk;omega)];exact jlY _
 have hwl:=P5 a b hot;have hwl2:∀k,(vA a b (ys.take k)).length<=1048576:=λk=>by have:=P5 a b (ys.take k);rw[jl3] at this;omega
 have hwb:∀e∈vA a b hot,bd1 e.num e.den:=λe he=>by
  obtain⟨p,hp,rfl⟩:=jgx he;exact(ID ha2 hb2 (hp2 p hp)).low
 have hpl:(qJ a b hot).length=(vA a b hot).length:=by rw[qJ,jlV,QC]
 have hsl:(Kq (QP VZ) (vA a b hot)).length=(vA a b hot).length:=QC _;refine Jm (m:=93) (Tryz.func111) J J (lb J) ?_;refine S3 ?_;refine aX (λb1=>?_);refine N1 ?_;refine aX (λb2=>?_);refine N7 ?_;refine j5 J J (wh J J) J (lb J) (λb3=>?_);refine n9 ?_;refine a9 (jT LG J J (λw1 hs=>jgW _ a b w1 (jfv (k:=2) _ J J w1 hs))) ?_;refine S4 ?_;refine aL (λb4=>?_);refine N1 ?_;refine aL (λb5=>?_);refine N11 ?_;refine a9 (jT vd J J (λw1 hs=>Ld A n c hot (min a.2 b.2-1) w1 (h.over hs.fin) (λp hp=>(hp2 p hp).wide) Om hmono Om)) ?_;refine S9 ?_;refine QO (T:=182) (s:=5) ?_;refine N1 ?_;refine WZ (X:=Option Addr×Nat) (λx=>True) (λx=>[(11,.slice x.1 (vA a b hot).length x.2)]) (kK [6]) (λx=>[.cel b1 36 [.int .i64 a.1,.int .i64 a.2],.cel b2 36 [.int .i64 b.1,.int .i64 b.2],.cel b3 36 [.int .i64 a.1,.int .i64 a.2,.int .i64 b.1,.int .i64 b.2],.cel b4 36 [.int .i64 (min a.1 b.1),.int .i64 (min a.2 b.2)],.cel b5 36 [.int .i64 (max a.1 b.1),.int .i64 (max a.2 b.2)],JV (Bs.N ⟨w,[]⟩) 182 5 (vA a b hot).length ((vA a b hot).flatMap Wy.cells) x]) (λL h_0=>?_) ?_
 .refine S1 ?_;rw[<-hi];refine S3 ?_;refine a9 ((VR J J J jw Om).as (eA)) ?_;refine S4 ?_;refine JW (X:=Nat×Option Addr×Nat) (λx=>x.1<=n-i) (λx=>n-i-x.1) (λx=>[(11,.slice x.2.1 (vA a b (ys.take x.1)).length x.2.2),(38,.int .i64 (x.1:Int))]) (kK [3,4,6,7,8,36,37]) (λx=>[.cel b1 36 [.int .i64 a.1,.int .i64 a.2],.cel b2 36 [.int .i64 b.1,.int .i64 b.2],.cel b3 36 [.int .i64 a.1,.int .i64 a.2,.int .i64 b.1,.int .i64 b.2],.cel b4 36 [.int .i64 (min a.1 b.1),.int .i64 (min a.2 b.2)],.cel b5 36 [.int .i64 (max a.1 b.1),.int .i64 (max a.2 b.2)],JV (Bs.N ⟨w,[]⟩) 182 5 (vA a b (ys.take x.1)).length ((vA a b (ys.take x.1)).flatMap Wy.cells) x.2]) (0,none,0) (jlN _) ⟨J,sz⟩ (λ_ h=>h) ?_;intro⟨k,rA,rc⟩ hx L hL1;refine v9 ?_;refine r9 ?_;have hk:k<=n-i:=hx
  refine S5 ?_;refine cZ (λc1=>?_) (λc1=>?_)
  .have hlt:k<n-i:=Om;obtain⟨eb,eo,rfl,_⟩:=hyp.2 Om;have hpm:=hymem k Om
   have hlo:=hylow k Om;obtain⟨⟨p1,p2⟩,p3,p4⟩:=hp2 _ hpm;have hwk:=hwl2 k
   refine S7 ?_;refine a9 (jj J J jk J (WM (b:=eb) (o:=eo) hyp hlt)) ?_;refine S1 ?_;refine aL (λb6=>?_);refine N13 ?_;refine cZ (λc2=>?_) (λc2=>?_)
   .rw[jgz (a:=a) (b:=b) hym Om Om,hway];refine S7 ?_;exact Qd h_0 ((rA,rc)) (trivial) ⟨J,sz⟩ (λ_ h=>h.picks [0,1,2,3,4,5] Dc)
   .refine S3 ?_;refine qH [(61,.bool (!Yk a b (pt ys k)))] (kK [3,4,6,7,8,36,37,11,38,39,40,41,13,42,43,44,45,46,47]) (λL h_8=>?_) ?_
    .refine S8 ?_;refine cV 54 (λg1=>?_) (λg1=>?_)
     .refine S8 ?_;exact Jx h_8 ⟨vb (by rw[TF (p:=pt ys k) (by show px ys k<_;omega)];rfl),sz⟩ (u9 J)
     .refine S14 ?_;exact Jx h_8 ⟨vb (jbU (p:=pt ys k) (by show _<=px ys k;omega)),sz⟩ (u9 J)
    .refine v9 ?_;refine cZ (λc3=>?_) (λc3=>?_)
     .refine S8 ?_;exact Jn hL1 ((k+1,rA,rc)) ((show k+1<=n-i by omega)) (by simp only;omega) ⟨(by rw[SX Om (Pe (by simpa using c3))];rfl),vi Om,sz⟩ (λ_ h=>h.upto ⟨J,J,J,J,J,by rw[SX Om (Pe (by simpa using c3))],trivial⟩)
     .refine S7 ?_;refine a9 (jT Hq J J (λw1 hs=>PZ a b (pt ys k) w1 ha hb (hh _ hpm))) ?_;refine S4 ?_;refine aL (λb7=>?_);refine N8 ?_;refine cZ (λc4=>?_) (λc4=>?_)
      .rw[jkC c4];refine S5 ?_;refine a9 (JD J J (ZA J J)) ?_;refine S1 ?_;refine j5 J J (Ym J) J (lb J) (λb8=>?_);refine N1 ?_;refine JQ (k:=5) J JI Qe Dc J Dc J J J (λw' hs=>qL hs (k:=8) J J) (by simp[Value.oneCell']) (by unfold maxLen;omega) Om (jlL _) (λr1=>?_);refine N8 ?_;exact Jn hL1 ((k+1,r1)) ((show k+1<=n-i by omega)) (by simp only;omega) ⟨(by rw[jbz Om (YX (by simpa using c3) (ZT hlo (by show py ys k<=_;omega)) c4),jlJ];rfl),vi Om,sz⟩ (λ_ h=>h.upto ⟨J,J,J,J,J,by rw[jbz Om (YX (by simpa using c3) (ZT hlo (by show py ys k<=_;omega)) c4),jlJ,jlW];rfl,trivial⟩)
      .refine S7 ?_;exact Jn hL1 ((k+1,rA,rc)) ((show k+1<=n-i by omega)) (by simp only;omega) ⟨(by rw[SX Om (HA c4)];rfl),vi Om,sz⟩ (λ_ h=>h.upto ⟨J,J,J,J,J,by rw[SX Om (HA c4)],trivial⟩)
  .rw[jme Om,hway];refine S5 ?_;exact Qd h_0 ((rA,rc)) (trivial) ⟨J,sz⟩ (λ_ h=>h.picks [0,1,2,3,4,5] Dc)
 .rintro⟨sA,sc⟩-;refine v9 ?_;refine r9 ?_;refine S4 ?_;refine xh (k:=5) (r':=JV 0 182 5 (vA a b hot).length ((Kq (QP VZ) (vA a b hot)).flatMap Wy.cells) (sA,sc)) KC J J J Dc J (λw1 hs=>Ep (hs.all 5 _ J).1 J hwb Om) (λ_ h=>h) J ?_;refine N4 ?_;refine QO (T:=36) (s:=2) ?_;refine N9 ?_;refine JW (X:=Nat×Option Addr×Nat) (λy=>y.1<=(vA a b hot).length) (λy=>(vA a b hot).length-y.1) (λy=>[(16,.slice y.2.1 y.1 y.2.2),(82,.int .i64 (y.1:Int))]) (kK [6,80,81]) (λy=>[.cel b1 36 [.int .i64 a.1,.int .i64 a.2],.cel b2 36 [.int .i64 b.1,.int .i64 b.2],.cel b3 36 [.int .i64 a.1,.int .i64 a.2,.int .i64 b.1,.int .i64 b.2],.cel b4 36 [.int .i64 (min a.1 b.1),.int .i64 (min a.2 b.2)],.cel b5 36 [.int .i64 (max a.1 b.1),.int .i64 (max a.2 b.2)],JV 0 182 5 (vA a b hot).length ((Kq (QP VZ) (vA a b hot)).flatMap Wy.cells) (sA,sc),JV (Bs.N ⟨w,[]⟩) 36 2 y.1 (((qJ a b hot).take y.1).flatMap Jt) y.2]) (0,none,0) (jlN _) ⟨J,sz⟩ (λ_ h=>h) ?_;intro⟨j,qA,qc⟩ hy L hL2;refine v9 ?_;refine r9 ?_;have hj:j<=(vA a b hot).length:=hy
  refine S5 ?_;refine cZ (λc5=>?_) (λc5=>?_)
  .have hlt:j<(vA a b hot).length:=Om;refine kW (λw hs=>V4 (k:=5) J hs Om) ?_;rintro⟨eg,rfl⟩;obtain⟨e,he⟩:∃e,(Kq (QP VZ) (vA a b hot))[j]? =some e:=⟨_,List.getElem?_eq_getElem Om⟩;refine S6 ?_;refine a9 (jQ (j:=j) J J J JI Om) ?_;refine a9 (jj J J qv J (jih (k:=5) J he)) ?_;refine S1 ?_;refine aL (λb9=>?_);refine N8 ?_;refine j5 J J (qq J) J (lb J) (λb10=>?_);refine N1 ?_;refine JQ (k:=6) J jw jG Dc J Dc J J J (λw' hs=>qL hs (k:=8) J J) (by simp[Value.oneCell']) (by unfold maxLen;omega) Om (jlL _) (λr2=>?_);refine N8 ?_;exact Jn hL2 ((j+1,r2)) ((show j+1<=(vA a b hot).length by omega)) (by simp only;omega) ⟨J,vi Om,sz⟩ (λ_ h=>h.upto ⟨J,J,J,J,J,J,by rw[qJ,<-jcD he],trivial⟩)
  .have hje:j=(vA a b hot).length:=Om;subst hje;rw[jme Om];refine S11 ?_;refine jK J (.tmp J) ?_;intro w' hs;have hr:=hs.all 6 _ rfl
   exact⟨_,rfl,vM (by rw[hpl];exact hr.1) (λb hb=>(hr.2.1 b hb).elim id (λh=>by cases h)),hs.fin⟩
end
end Go.Proofs.YtjbahemkhphndaaGreat
