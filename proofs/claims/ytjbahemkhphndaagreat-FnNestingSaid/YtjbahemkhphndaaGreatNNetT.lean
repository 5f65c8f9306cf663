import Derived.Test.YtjbahemkhphndaaGreatNNetI
import Derived.Test.YtjbahemkhphndaaGreatNNetQ
import Derived.Test.YtjbahemkhphndaaGreatNStabP
set_option linter.unusedVariables false
set_option linter.unusedSimpArgs false
namespace Go.Proofs.YtjbahemkhphndaaGreat
open Go Go.RowKit
section
variable{e:Nt}{i k:Nat}{l:List Nt}{s:Bool}{v:Int}
set_option maxRecDepth 100000
set_option maxHeartbeats 4000000
theorem jli(p q:Pn)(w:World)(hp:bd2 p)(hq:bd2 q):Calls Tryz.prog 87 #[pV p,pV q] w λe w'=>e=.returned (pV (p.1+q.1,p.2+q.2))/\Over w w':=by
 obtain⟨⟨a1,a2⟩,a3,a4⟩:=hp;obtain⟨⟨b1,b2⟩,b3,b4⟩:=hq;refine Jm (m:=16) (Tryz.func87) J J (lb J) ?_;refine S3 ?_;refine aX (λb1=>?_);refine N1 ?_;refine aX (λb2=>?_);refine N1 ?_;refine aL (λb3=>?_);refine N13 ?_;refine a9 (JD J J (J8 J J)) ?_;refine S4 ?_;refine jK J (qj (k:=2) J jk J J) ?_;intro w' hs;exact⟨rfl,hs.fin⟩
theorem jbx(p:Pn)(w:World)(hp:bd2 p):Calls Tryz.prog 89 #[pV p,.int .i64 2] w λe w'=>e=.returned (pV (2*p.1,2*p.2))/\Over w w':=by
 obtain⟨⟨a1,a2⟩,a3,a4⟩:=hp;refine Jm (m:=14) (Tryz.func89) J J (lb J) ?_;refine S3 ?_;refine aX (λb1=>?_);refine N1 ?_;refine aL (λb2=>?_);refine N11 ?_;refine a9 (JD J J (J8 J J)) ?_;refine S4 ?_;refine jK J (qj (k:=1) J jk J J) ?_;intro w' hs;exact⟨by rw[jmn p.1,jmn p.2],hs.fin⟩
theorem jfM(p:Pn)(w:World)(hp:Uo p.1/\Uo p.2):Calls Tryz.prog 88 #[pV p] w λe w'=>e=.returned (pV (-p.2,p.1))/\Over w w':=by
 obtain⟨⟨a1,a2⟩,a3,a4⟩:=hp;refine Jm (m:=9) (Tryz.func88) J J (lb J) ?_;refine S3 ?_;refine aX (λb1=>?_);refine N1 ?_;refine aL (λb2=>?_);refine N5 ?_;refine a9 (zN J J Om Om) ?_;refine S2 ?_;refine a9 (JD J J (J8 J J)) ?_;refine S4 ?_;refine jK J (qj (k:=1) J jk J J) ?_;intro w' hs;exact⟨rfl,hs.fin⟩
def MD(p:Leg):Pn:=if p.ay=p.b_y then(-(QY p),kS p) else(kS p,QY p)
def Fa(p q:Leg):Leg:=if p.ay=p.b_y then Xp (ko true q) else ko true q
theorem Cf(p q:Leg):Ff p q=kk (Fa p q) (MD p).1 (MD p).2:=by
 unfold Ff Fa MD;split<;>rfl
theorem jjT{p:Leg}(h:qK p):Uo (MD p).1/\Uo (MD p).2:=by
 obtain⟨⟨a1,a2⟩,⟨a3,a4⟩,⟨b1,b2⟩,b3,b4⟩:=h;unfold MD kS QY;split
 .refine⟨⟨?_,?_⟩,?_,?_⟩<;>(simp only;omega)
 .refine⟨⟨?_,?_⟩,?_,?_⟩<;>(simp only;omega)
theorem jjM{p q:Leg}(h:qK q):Uo (Fa p q).ax/\Uo (Fa p q).ay/\Uo (Fa p q).bx/\Uo (Fa p q).b_y:=by
 obtain⟨h1,h2,h3,h4⟩:=E6 true h;unfold Fa Xp Uo at*;split
 .simp only;omega
 .exact⟨h1,h2,h3,h4⟩
theorem jiU{l:Leg}(h:qK l):bd2 (lA l)/\bd2 (lB l):=⟨⟨h.1,h.2.1⟩,h.2.2.1,h.2.2.2⟩
theorem TA :QK s l k (k+1)=QK s l k k:=by simp[QK]
theorem jdE(h:i≠k)(hu:wUp (Fa (nt l k).e (nt l i).e) (MD (nt l k).e).1 (MD (nt l k).e).2=true):QK s l k i+wi s (nt l i)=QK s l k (i+1):=by
 rw[QK,if_neg h,Cf,kk,if_pos hu,jnk]
theorem Tz(h:i≠k)(hu:wUp (Fa (nt l k).e (nt l i).e) (MD (nt l k).e).1 (MD (nt l k).e).2=false)(hd:Zz (Fa (nt l k).e (nt l i).e) (MD (nt l k).e).1 (MD (nt l k).e).2=true):QK s l k i-wi s (nt l i)=QK s l k (i+1):=by
 rw[QK,if_neg h,Cf,kk,hu,if_neg (by simp),if_pos hd,Int.mul_neg,jnk];omega
theorem TB(h:i≠k)(hu:wUp (Fa (nt l k).e (nt l i).e) (MD (nt l k).e).1 (MD (nt l k).e).2=false)(hd:Zz (Fa (nt l k).e (nt l i).e) (MD (nt l k).e).1 (MD (nt l k).e).2=false):QK s l k i=QK s l k (i+1):=by
 rw[QK,if_neg h,Cf,kk,hu,if_neg (by simp),hd,if_neg (by simp),jm2,jnr]
theorem Ft(l:List Nt)(x:Option Addr×Nat)(k:Nat)(w:World)(hr:(Tb l x).P w)(hk:k<l.length)(hok:∀y∈l,qK y.e)(hl:l.length<=16384)(ha:∀t,aS t l<=16384):
  Calls Tryz.prog 66 #[.slice x.1 l.length x.2,.int .i64 (k:Int)] w λe w'=>e=.returned (.tuple #[.int .i64 (QK false l k l.length),.int .i64 (QK true l k l.length)])/\Over w w':=by
 have hpo:=hok _ (LF hk);obtain⟨m1,m2⟩:=jjT hpo;obtain⟨⟨a1,a2⟩,⟨a3,a4⟩,⟨b1',b2'⟩,b3',b4'⟩:=id hpo;obtain⟨hp1,hp2⟩:=jiU hpo;obtain⟨p,hp⟩:∃p,p=(nt l k).e:=⟨_,rfl⟩;refine Jm (m:=132) (Tryz.func66) J J (lb J) ?_;refine S9 ?_;refine a9 (qS (j:=k) (λw hs=>Qr hr hs.fin) J J J JM hk) ?_;refine S1 ?_;refine a9 (jj J J vf J (XD [.int .i64 (nt l k).e.ax,.int .i64 (nt l k).e.ay,.int .i64 (nt l k).e.bx,.int .i64 (nt l k).e.b_y] 0 (λw hs=>Qr hr hs.fin) hk Om (OC J J J J))) ?_;refine S1 ?_;refine aL (λb1=>?_);refine N20 ?_;refine a9 (jT BZ J J (λw1 hs=>jli (lA (nt l k).e) (lB (nt l k).e) w1 hp1 hp2)) ?_;refine S1 ?_;refine aL (λb2=>?_);refine N3 ?_;refine uI [] ([.cel b1 101 [.int .i64 (nt l k).e.ax,.int .i64 (nt l k).e.ay,.int .i64 (nt l k).e.bx,.int .i64 (nt l k).e.b_y],.cel b2 36 [.int .i64 (MD (nt l k).e).1,.int .i64 (MD (nt l k).e).2]]) (kK [0,1,4,5,7,8]) (λL h_t31=>?_) ?_
 .refine S4 ?_;refine cZ (λc1=>?_) (λc1=>?_)
  .refine S2 ?_;refine a9 (jT uc J J (λw1 hs=>jfM (kS (nt l k).e,QY (nt l k).e) w1 ⟨⟨by unfold kS;simp only;omega,by unfold kS;simp only;omega⟩,by unfold QY;simp only;omega,by unfold QY;simp only;omega⟩)) ?_;refine S3 ?_;exact Jx h_t31 ⟨J,sz⟩ (λ_ h=>h.upto ⟨J,by rw[MD,if_pos c1],trivial⟩)
  .refine S2 ?_;exact Jx h_t31 ⟨J,sz⟩ (λ_ h=>h.upto ⟨J,by rw[MD,if_neg c1];rfl,trivial⟩)
 .refine V14 ?_;refine qD (X:=Nat) (λi=>i<=l.length) (λi=>l.length-i) (λi=>[(9,.int .i64 (QK false l k i)),(10,.int .i64 (QK true l k i)),(11,.int .i64 (i:Int))]) (kK [0,1,4,5,7,8]) 0 (jlN _) ⟨J,sz⟩ ?_;intro i hi L hL1;refine v9 ?_;have hb1:=YD (s:=false) (k:=k) (show i<=l.length from hi)
  have hb2:=YD (s:=true) (k:=k) (show i<=l.length from hi);have ha1:=ha false
  have ha2:=ha true;refine S8 ?_;refine cZ (λc2=>?_) (λc2=>?_)
  .have hlt:i<l.length:=Om;have hqo:=hok _ (LF hlt)
   obtain⟨q1,q2⟩:=jiU hqo;obtain⟨d1,d2,d3,d4⟩:=jjM (p:=(nt l k).e) hqo;obtain⟨⟨e1,e2⟩,⟨e3,e4⟩,⟨e5,e6⟩,e7,e8⟩:=id hqo;have hn1:=XS (s:=false) hlt
   have hn2:=XS (s:=true) hlt;simp only[wi,if_true,jmF,if_false] at hn1 hn2;refine S11 ?_;refine cZ (λc3=>?_) (λc3=>?_)
   .refine S9 ?_;exact J6 hL1 (i+1) Om Om ⟨vi (by rw[show i=k by omega,TA]),vi (by rw[show i=k by omega,TA]),vi Om,sz⟩ (u9 J)
   .have hik:i≠k:=Om;refine S6 ?_;refine a9 (qS (j:=i) (λw hs=>Qr hr hs.fin) J J J JM hlt) ?_;refine S2 ?_;refine a9 (jj J J jk J (XD [.int .i64 (nt l i).e.ax,.int .i64 (nt l i).e.ay] 0 (λw hs=>Qr hr hs.fin) hlt Om (Gu J J))) ?_;refine a9 (jT YV J J (λw1 hs=>jbx (lA (nt l i).e) w1 q1)) ?_;refine S1 ?_;refine aL (λb3=>?_);refine N7 ?_;refine a9 (qS (j:=i) (λw hs=>Qr hr hs.fin) J J J JM hlt) ?_;refine S2 ?_;refine a9 (jj J J jk J (XD [.int .i64 (nt l i).e.bx,.int .i64 (nt l i).e.b_y] 2 (λw hs=>Qr hr hs.fin) hlt Om (Gu J J))) ?_;refine a9 (jT YV J J (λw1 hs=>jbx (lB (nt l i).e) w1 q2)) ?_;refine S1 ?_;refine aL (λb4=>?_);refine N3 ?_;refine uI [] ([.cel b1 101 [.int .i64 (nt l k).e.ax,.int .i64 (nt l k).e.ay,.int .i64 (nt l k).e.bx,.int .i64 (nt l k).e.b_y],.cel b2 36 [.int .i64 (MD (nt l k).e).1,.int .i64 (MD (nt l k).e).2],.cel b3 36 [.int .i64 (Fa (nt l k).e (nt l i).e).ax,.int .i64 (Fa (nt l k).e (nt l i).e).ay],.cel b4 36 [.int .i64 (Fa (nt l k).e (nt l i).e).bx,.int .i64 (Fa (nt l k).e (nt l i).e).b_y]]) (kK [0,1,4,5,7,8,9,10,11,34,35,36,37,40,41,42,43,44,45,46,47,48,49,12,50,51,52,53,54,55,56,13]) (λL h_t57=>?_) ?_
    .refine S4 ?_;refine cZ (λc4=>?_) (λc4=>?_)
     .refine S3 ?_;refine a9 (jT uc J J (λw1 hs=>jfM (2*(nt l i).e.ax,2*(nt l i).e.ay) w1 ⟨⟨by simp only;omega,by simp only;omega⟩,by simp only;omega,by simp only;omega⟩)) ?_;refine S5 ?_;refine a9 (jT uc J J (λw1 hs=>jfM (2*(nt l i).e.bx,2*(nt l i).e.b_y) w1 ⟨⟨by simp only;omega,by simp only;omega⟩,by simp only;omega,by simp only;omega⟩)) ?_;refine S3 ?_;exact Jx h_t57 ⟨J,sz⟩ (λ_ h=>h.upto ⟨J,J,by rw[Fa,if_pos c4];rfl,by rw[Fa,if_pos c4];rfl,trivial⟩)
     .refine S2 ?_;exact Jx h_t57 ⟨J,sz⟩ (λ_ h=>h.upto ⟨J,J,by rw[Fa,if_neg c4];rfl,by rw[Fa,if_neg c4];rfl,trivial⟩)
    .refine V1 ?_;refine qH [(62,.bool (wUp (Fa (nt l k).e (nt l i).e) (MD (nt l k).e).1 (MD (nt l k).e).2))] (kK [0,1,4,5,7,8,9,10,11,34,35,36,37,40,41,42,43,44,45,46,47,48,49,12,50,51,52,53,54,55,56,13]) (λL h_17=>?_) ?_
     .refine S7 ?_;refine cV 68 (λg1=>?_) (λg1=>?_)
      .refine S12 ?_;refine cV 75 (λg2=>?_) (λg2=>?_)
       .refine S7 ?_;refine o9 (jT QV J J (λw h=>yR _ _ _ _ _ _ w d1.1 d1.2 d2.1 d2.2 d3.1 d3.2 d4.1 d4.2 m1.1 m1.2 m2.1 m2.2)) ?_;refine S5 ?_;exact Jx h_17 ⟨vb (by simp[wUp, *]),sz⟩ (u9 J)
       .refine S8 ?_;exact Jx h_17 ⟨vb (by symm;simp[wUp];omega),sz⟩ (u9 J)
      .refine S15 ?_;exact Jx h_17 ⟨vb (by symm;simp[wUp];omega),sz⟩ (u9 J)
     .refine v9 ?_;refine cZ (λc5=>?_) (λc5=>?_)
      .refine S5 ?_;refine a9 (qS (j:=i) (λw hs=>Qr hr hs.fin) J J J JM hlt) ?_;refine S1 ?_;refine a9 (jn J J ju (Gl (i:=4) (λw hs=>Qr hr hs.fin) hlt Om J)) ?_;refine S7 ?_;refine a9 (qS (j:=i) (λw hs=>Qr hr hs.fin) J J J JM hlt) ?_;refine S1 ?_;refine a9 (jn J J ju (Gl (i:=5) (λw hs=>Qr hr hs.fin) hlt Om J)) ?_;refine S11 ?_;exact J6 hL1 (i+1) Om Om ⟨vi (jdE (s:=false) hik c5),vi (jdE (s:=true) hik c5),vi Om,sz⟩ (u9 J)
      .refine qH [(96,.bool (Zz (Fa (nt l k).e (nt l i).e) (MD (nt l k).e).1 (MD (nt l k).e).2))] (kK [0,1,4,5,7,8,9,10,11,34,35,36,37,40,41,42,43,44,45,46,47,48,49,12,50,51,52,53,54,55,56,13,62]) (λL h_20=>?_) ?_
       .refine S7 ?_;refine cV 102 (λg3=>?_) (λg3=>?_)
        .refine S12 ?_;refine cV 109 (λg4=>?_) (λg4=>?_)
         .refine S7 ?_;refine o9 (jT QV J J (λw h=>yR _ _ _ _ _ _ w d1.1 d1.2 d2.1 d2.2 d3.1 d3.2 d4.1 d4.2 m1.1 m1.2 m2.1 m2.2)) ?_;refine S5 ?_;exact Jx h_20 ⟨vb (by simp[Zz, *]),sz⟩ (u9 J)
         .refine S8 ?_;exact Jx h_20 ⟨vb (by symm;simp[Zz];omega),sz⟩ (u9 J)
        .refine S15 ?_;exact Jx h_20 ⟨vb (by symm;simp[Zz];omega),sz⟩ (u9 J)
       .refine v9 ?_;refine cZ (λc6=>?_) (λc6=>?_)
        .refine S5 ?_;refine a9 (qS (j:=i) (λw hs=>Qr hr hs.fin) J J J JM hlt) ?_;refine S1 ?_;refine a9 (jn J J ju (Gl (i:=4) (λw hs=>Qr hr hs.fin) hlt Om J)) ?_;refine S7 ?_;refine a9 (qS (j:=i) (λw hs=>Qr hr hs.fin) J J J JM hlt) ?_;refine S1 ?_;refine a9 (jn J J ju (Gl (i:=5) (λw hs=>Qr hr hs.fin) hlt Om J)) ?_;refine S11 ?_;exact J6 hL1 (i+1) Om Om ⟨vi (Tz (s:=false) hik c5 c6),vi (Tz (s:=true) hik c5 c6),vi Om,sz⟩ (u9 J)
        .refine S9 ?_;exact J6 hL1 (i+1) Om Om ⟨vi (TB (s:=false) hik c5 c6),vi (TB (s:=true) hik c5 c6),vi Om,sz⟩ (u9 J)
  .have hin:i=l.length:=Om;refine S13 ?_;refine qG J (.tmp J) (.tmp J) ?_;intro w' hs;exact⟨by rw[hin],hs.fin⟩
def sdN(l:List Nt)(k:Nat):Nt:={nt l k with l1:=QK false l k l.length+(nt l k).one,l2:=QK true l k l.length+(nt l k).two}
def uE(l:List Nt)(i:Nat):List Nt:=(List.range l.length).map λk=>if k<i then sdN l k else nt l k
theorem SE(l:List Nt)(i:Nat):(uE l i).length=l.length:=by simp[uE]
theorem El(h:k<l.length):nt (uE l i) k=if k<i then sdN l k else nt l k:=by
 simp[nt,uE,List.getD,List.getElem?_map,List.getElem?_range h]
theorem jbk(h:k<l.length):(nt (uE l i) k).e=(nt l k).e/\(∀s,wi s (nt (uE l i) k)=wi s (nt l k)):=by
 rw[El h];split
 .exact⟨rfl,λs=>by cases s<;>rfl⟩
 .exact⟨rfl,λs=>rfl⟩
theorem jat(l:List Nt):l=(List.range l.length).map (nt l):=by
 refine jm5 (by simp) λk h1 h2=>?_
 simp only[jmW,jnp];exact ZO h1
theorem jfY(l:List Nt):uE l 0=l:=by
 conv=>rhs;rw[jat l]
 simp[uE]
theorem jfX(h:i<l.length):uE l (i+1)=(uE l i).set i (sdN l i):=by
 refine jm5 (by simp[uE]) λk h1 h2=>?_
 rw[List.getElem_set];simp only[uE,jmW,jnp];by_cases e:i=k
 .subst e;rw[if_pos Om,if_pos rfl]
 .rw[if_neg e];by_cases c:k<i
  .rw[if_pos c,if_pos Om]
  .rw[if_neg c,if_neg Om]
theorem VC{α β:Type}(f:β->Int)(g:α->β):∀l:List α,sm f (l.map g)=sm (λx=>f (g x)) l
 |[]=>rfl
 |x::l=>by simp only[jmA,sm,VC f g l]
theorem jle(l:List Nt)(i:Nat)(t:Bool):aS t (uE l i)=aS t l:=by
 have e:∀m:List Nt,aS t m=sm (λk=>Xj (wi t (nt m k))) (List.range m.length):=λm=>by
  conv=>lhs;rw[jat m]
  unfold aS;rw[VC]
 rw[e,e l,SE];exact JC λk hk=>by rw[(jbk (jmB.1 hk)).2]
theorem SD{l:List Nt}{i k:Nat}(hk:k<l.length)(s:Bool):∀j,j<=l.length->QK s (uE l i) k j=QK s l k j
 |0,_=>rfl
 |j+1,h=>by rw[QK,QK,SD hk s j Om,(jbk (show j<l.length by omega)).1,(jbk (show j<l.length by omega)).2,(jbk hk).1]
theorem jks(h:∀y∈l,qK y.e):∀y∈uE l i,qK y.e:=λy hy=>by
 obtain⟨k,hk,rfl⟩:=jlR.1 hy;have hk:=jmB.1 hk
 split
 .exact(show qK (nt l k).e from h _ (LF hk))
 .exact h _ (LF hk)
def UP(l:List Nt):List Nt:=uE l l.length
theorem jlg(h:k<l.length)(he:nt l k=e):qV (l.flatMap qz) (0+k*8+6) [.int .i64 v]=(l.set k {e with l1:=v}).flatMap qz:=by
 subst he;exact yN qz Kc (Sd h) (jW (nt l k).e++[.int .i64 (nt l k).one,.int .i64 (nt l k).two]) [.int .i64 (nt l k).l1] [.int .i64 v] [.int .i64 (nt l k).l2] (by simp[qz]) (by simp[qz]) rfl (by simp[jW])
theorem jlh(h:k<l.length)(he:nt l k=e):qV (l.flatMap qz) (0+k*8+7) [.int .i64 v]=(l.set k {e with l2:=v}).flatMap qz:=by
 subst he;exact yN qz Kc (Sd h) (jW (nt l k).e++[.int .i64 (nt l k).one,.int .i64 (nt l k).two,.int .i64 (nt l k).l1]) [.int .i64 (nt l k).l2] [.int .i64 v] [] (by simp[qz]) (by simp[qz]) rfl (by simp[jW])
theorem jj3(h:k<l.length):nt (l.set k e) k=e:=by simp[nt,List.getD,h]
theorem RO(l:List Nt)(x:Option Addr×Nat)(w:World)(hr:(Tb l x).P w)(hok:∀y∈l,qK y.e)(hl:l.length<=16384)(ha:∀t,aS t l<=16384):
  Calls Tryz.prog 44 #[.slice x.1 l.length x.2] w λe w'=>e=.returned (.tuple #[])/\Wrs (Tb l x).F w w'/\(JV 0 109 8 l.length ((UP l).flatMap qz) x).P w':=by
 refine Km (m:=39) (Sv x) (Tb l x) (hr) (λb hb=>zO.1 hb) J (Tryz.func44) J J (lb J) ?_;refine S5 ?_;refine JW (X:=Nat) (λi=>i<=l.length) (λi=>l.length-i) (λi=>[(2,.int .i64 (i:Int))]) (kK [0]) (λi=>[JV 0 109 8 l.length ((uE l i).flatMap qz) x]) 0 (jlN _) ⟨J,sz⟩ (λ_ h=>by rw[jfY];exact h) ?_;intro i hi L hL1;refine v9 ?_;refine r9 ?_;obtain⟨M,hM⟩:∃M,M=uE l i:=⟨_,rfl⟩;have hMl:M.length=l.length:=(by rw[hM];exact SE l i)
 have hMa:∀t,aS t M<=16384:=(λt=>by rw[hM,jle];exact ha t);have hMo:∀y∈M,qK y.e:=(by rw[hM];exact jks hok)
 rw[<-hM];refine S8 ?_;refine cZ (λc1=>?_) (λc1=>?_)
 .have hlt:i<l.length:=Om;have hlM:i<M.length:=Om
  have hb1:QK false M i l.length=QK false l i l.length:=(by rw[hM];exact SD hlt false _ (jlL _));have hb2:QK true M i l.length=QK true l i l.length:=(by rw[hM];exact SD hlt true _ (jlL _))
  have hn:nt M i=nt l i:=(by rw[hM,El hlt,if_neg Om]);have hd1:=YD (s:=false) (k:=i) (jlL l.length)
  have hd2:=YD (s:=true) (k:=i) (jlL l.length);have hc1:=XS (s:=false) hlt
  have hc2:=XS (s:=true) hlt;have ha1:=ha false
  have ha2:=ha true;simp only[wi,if_true,jmF,if_false] at hc1 hc2;refine S8 ?_;refine a9 (jT Hw J J (λw1 hs=>by have:=Ft M x i w1 (by have:=(hs.all 0 _ J).1;rw[<-hMl] at this;exact this) hlM hMo Om hMa;rw[hMl,hb1,hb2] at this;exact this)) ?_;refine S13 ?_;refine a9 (qS (j:=i) (λw hs=>(hs.all 0 _ J).1) J J J JM hlt) ?_;refine S1 ?_;refine a9 (jn J J ju (Gl (i:=4) (v:=.int .i64 (nt l i).one) (λw hs=>(hs.all 0 _ J).1) hlM Om (by rw[hn];rfl))) ?_;refine S1 ?_;refine a9 (qS (j:=i) (λw hs=>(hs.all 0 _ J).1) J J J JM hlt) ?_;refine S2 ?_;refine uW (k:=0) (vs:=[.int .i64 (QK false l i l.length+(nt l i).one)]) J J J J (by rfl) (by rfl) Kl.szx J J (by simp) (by rw[W2 qz 8 Kc];simp only[jlS,jl5];omega) ?_;refine n9 ?_;rw[jlg hlM hn];have hlM2:i<(M.set i {nt l i with l1:=QK false l i l.length+(nt l i).one}).length:=(by rw[jmV];exact hlM)
  have hn2:=jj3 (e:={nt l i with l1:=QK false l i l.length+(nt l i).one}) hlM
  refine S7 ?_;refine a9 (qS (j:=i) (λw hs=>(hs.all 0 _ J).1) J J J JM hlt) ?_;refine S1 ?_;refine a9 (jn J J ju (Gl (i:=5) (v:=.int .i64 (nt l i).two) (λw hs=>(hs.all 0 _ J).1) hlM2 Om (by rw[hn2];rfl))) ?_;refine S1 ?_;refine a9 (qS (j:=i) (λw hs=>(hs.all 0 _ J).1) J J J JM hlt) ?_;refine S2 ?_;refine uW (k:=0) (vs:=[.int .i64 (QK true l i l.length+(nt l i).two)]) J J J J (by rfl) (by rfl) Kl.szx J J (by simp) (by rw[W2 qz 8 Kc,jmV];simp only[jlS,jl5];omega) ?_;refine n9 ?_;rw[jlh hlM2 hn2,List.set_set];refine S8 ?_;exact Jn hL1 (i+1) Om Om ⟨vi Om,sz⟩ (λ_ h=>h.upto ⟨by rw[jfX hlt,<-hM];rfl,trivial⟩)
 .have hin:i=l.length:=Om;refine S4 ?_;refine kV J ?_;intro w' hs;exact⟨rfl,hs.over.wrs.mono λb hb=>zO.2 hb,by have:=(hs.all 0 _ rfl).1;rw[hM,hin] at this;exact this⟩
end
section
variable{X Y:Pn}{es:List Leg}{j:Nat}{r:Option Addr×Nat}{α:Type}
section
variable{w0:Bs}{Rs:List Res}
theorem rdG{f:α->List Value}{m T B q:Nat}{l:List α}{off i:Nat}{a:α}{v:Value}(hf:∀a,(f a).length=m)(hr:∀w,St w0 Rs w->(JV B T m q (l.flatMap f) r).P w)(ha:l[j]? =some a)(he:off=j*m+i)(hv:(f a)[i]? =some v):∀w,St w0 Rs w->w.cell? ⟨VK r.1,off,none⟩=some v:=λw hs=>by
 refine yw (hr w hs) ?_;have hi:=(List.getElem?_eq_some_iff.1 hv).1
 obtain⟨hj,e⟩:=List.getElem?_eq_some_iff.1 ha;rw[he,GY f m hf l j i hj (by rw[hf] at hi;exact hi),e];exact hv
theorem jly{f:α->List Value}{m T B q:Nat}{l:List α}{off:Nat}{a:α}(vs:List Value)(i:Nat)(hf:∀a,(f a).length=m)(hr:∀w,St w0 Rs w->(JV B T m q (l.flatMap f) r).P w)(ha:l[j]? =some a)(he:off=j*m+i)(hv:∀q v,vs[q]? =some v->(f a)[i+q]? =some v):∀w,St w0 Rs w->∀q v,vs[q]? =some v->w.cell? ⟨VK r.1,off+q,none⟩=some v:=λw hs q v h=>
 rdG hf hr ha Om (hv q v h) w hs
end
theorem jhy{l:List Leg}(h:j<l.length):l[j]? =some (lg l j):=by rw[List.getElem?_eq_getElem h,uu h]
theorem Ek(B T s:Nat)(w:World):(JV B T s 0 [] (none,0)).P w:=World.ownsRow_nil _ _ _ _
theorem YK{rs:List jI}(h:JG rs=true):Fine (jH rs):=⟨PF h,Tv rs rs.length,λf=>jaT f rs rs.length⟩
structure Key (es:List Leg) (p:Leg):Prop where
 ok:qK p
 ne:lA p≠lB p
 ord:¬vv (lB p) (lA p)
theorem Nu :(KF es).length<=es.length:=by
 have:=uH (s:=false) es [];rw[KF,jlV];simpa using this
theorem PK(l:List Nt):(UP l).length=l.length:=SE l _
theorem jbl{l:List Nt}{k:Nat}(h:k<l.length):nt (UP l) k=sdN l k:=by rw[UP,El h,if_pos h]
theorem jdj(t:Bool):aS t []=0:=rfl
theorem zD(b1 o1:Nat)(A:Option Addr)(n c:Nat)(rs:List jI)(w:World)(hes:es=jH rs)(hcell:w.cell? ⟨b1,o1,none⟩=some (.slice A n c))(hb1:b1<w.heap.size)(h:Rings w A n rs)(ht:(total rs:Int)<=1048577):
  Calls Tryz.prog 31 #[.pointer (some ⟨b1,o1,none⟩)] w λe w'=>∃x:Option Addr×Nat,e=.returned (.slice x.1 es.length x.2)/\Over w w'/\(JV 0 101 4 es.length (es.flatMap jW) x).P w'/\(∀b,(JV 0 101 4 es.length (es.flatMap jW) x).F b->w.heap.size<=b)/\(JV 0 101 4 es.length (es.flatMap jW) x).B=0/\True:=by
 subst hes;exact q6 ((X4 b1 o1 A n c rs w hcell hb1 h ht).mono λe w' ⟨v,h1,_,h2,h3⟩=>⟨v,h1,h2,h3⟩)
def U4(o a:Pn):Int:=if a.2>o.2\/(a.2=o.2/\a.1>o.1) then 0 else 1
def yb(o a b:Pn):Int:=if U4 o a≠U4 o b then wP (U4 o a-U4 o b) else-wP (tn o a b)
def Ue(v f p q:Pn):Bool:=if decide (yb v p f<0)≠decide (yb v q f<0) then decide (yb v p f<0) else decide (0<yb v p q)
def cwH(o b p:Pn):Int:=if tn o b p<0 then 0 else if tn o b p=0 then 1 else 2
def cwF(o b p q:Pn):Bool:=if cwH o b p≠cwH o b q then decide (cwH o b p<cwH o b q) else decide (tn o p q<0)
def Q9(v p q:Pn):Prop:=tn v p q=0/\0<(p.1-v.1)*(q.1-v.1)+(p.2-v.2)*(q.2-v.2)
theorem ze(o a b:Pn):yb o a b<0↔U4 o a<U4 o b\/(U4 o a=U4 o b/\0<tn o a b):=by
 have h1:=UE (U4 o a-U4 o b);have h2:=UE (tn o a b)
 unfold yb;split<;>omega
theorem zf(o a b:Pn):0<yb o a b↔U4 o b<U4 o a\/(U4 o a=U4 o b/\tn o a b<0):=by
 have h1:=UE (U4 o a-U4 o b);have h2:=UE (tn o a b)
 unfold yb;split<;>omega
def Fd(X:Pn):Prop:=0<X.2\/(X.2=0/\0<X.1)
def ZD(X Y:Pn):Int:=X.1*Y.2-X.2*Y.1
theorem XG{a b p:Int}(h:p=a*b):(0<a/\0<b/\0<p)\/(0<a/\b<0/\p<0)\/(a<0/\0<b/\p<0)\/(a<0/\b<0/\0<p)\/(a=0/\p=0)\/(b=0/\p=0):=x8 h
theorem Y9{Z:Pn}(hX:Fd X)(hY:Fd Y)(hZ:Fd Z)(h1:0<=ZD X Y)(h2:0<=ZD Y Z):0<=ZD X Z/\((0<ZD X Y\/0<ZD Y Z)->0<ZD X Z):=by
 have id1:Y.2*ZD X Z=X.2*ZD Y Z+Z.2*ZD X Y:=by unfold ZD;grind
 have e1:ZD X Y=X.1*Y.2-X.2*Y.1:=rfl;have e2:ZD Y Z=Y.1*Z.2-Y.2*Z.1:=rfl
 have e3:ZD X Z=X.1*Z.2-X.2*Z.1:=rfl;have x0:0<=X.2:=by unfold Fd at hX;omega
 have z0:0<=Z.2:=by unfold Fd at hZ;omega
 by_cases hy:0<Y.2
 .have b1:=XG (a:=Y.2) (b:=ZD X Z) rfl;have b2:=jl2 x0 h2
  have b3:=jl2 z0 h1;have hz:0<Z.2:=by
   refine Int.not_le.1 λhz=>?_
   have z1:Z.2=0:=by omega
   have z2:0<Z.1:=by unfold Fd at hZ;omega
   have:=jmj hy z2;rw[z1,jm2] at e2;omega
  refine⟨by omega,λh=>?_⟩;have c1:0<ZD X Y\/0<X.2:=by
   by_cases hx:0<X.2
   .exact .inr hx
   .have x1:X.2=0:=by omega
    have x2:0<X.1:=by unfold Fd at hX;omega
    have:=jmj x2 hy;rw[x1,jmz] at e1;exact .inl Om
  have c2:0<X.2*ZD Y Z+Z.2*ZD X Y:=by
   by_cases k:0<ZD X Y
   .have:=jmj hz k;omega
   .have:=jmj (c1.resolve_left k) (h.resolve_left k);omega
  omega
 .have y1:Y.2=0:=by unfold Fd at hY;omega
  have y2:0<Y.1:=by unfold Fd at hY;omega
  rw[y1,jm2] at e1;rw[y1,jmz] at e2;have m1:=XG (a:=X.2) (b:=Y.1) rfl
  have x1:X.2=0:=by omega
  have x2:0<X.1:=by unfold Fd at hX;omega
  rw[x1,jmz] at e3;have m2:=XG (a:=X.1) (b:=Z.2) rfl
  have m3:=XG (a:=Y.1) (b:=Z.2) rfl;rw[x1,jmz] at e1;exact⟨by omega,λh=>by omega⟩
theorem Z0(X Y:Pn):ZD Y X= -ZD X Y:=by unfold ZD;grind
theorem Yx{v p:Pn}(h:p≠v):∃X:Pn,Fd X/\((U4 v p=0/\X=(p.1-v.1,p.2-v.2))\/(U4 v p=1/\X=(v.1-p.1,v.2-p.2))):=by
 by_cases k:p.2>v.2\/(p.2=v.2/\p.1>v.1)
 .refine⟨(p.1-v.1,p.2-v.2),?_,.inl ⟨if_pos k,J⟩⟩;unfold Fd;simp only;omega
 .refine⟨(v.1-p.1,v.2-p.2),?_,.inr ⟨if_neg k,J⟩⟩;have:¬(p.1=v.1/\p.2=v.2):=λe=>h (Prod.ext e.1 e.2)
  unfold Fd;simp only;omega
theorem jiJ(hX:Fd X)(hY:Fd Y)(h:ZD X Y=0):0<X.1*Y.1+X.2*Y.2:=by
 have e1:ZD X Y=X.1*Y.2-X.2*Y.1:=rfl;have a1:=XG (a:=X.1) (b:=Y.2) rfl
 have a2:=XG (a:=X.2) (b:=Y.1) rfl;have a3:=XG (a:=X.1) (b:=Y.1) rfl
 have a4:=XG (a:=X.2) (b:=Y.2) rfl;unfold Fd at hX hY;generalize X.1*Y.2=p1 at*;generalize X.2*Y.1=p2 at*;generalize X.1*Y.1=p3 at*;generalize X.2*Y.2=p4 at*;omega
structure Tri (a b c:Int):Prop where
 t1:0<=a->0<=c->0<=b/\((0<a\/0<c)->0<b)
 t2:0<=b->0≤-c->0<=a/\((0<b\/0< -c)->0<a)
 t3:0≤-a->0<=b->0<=c/\((0< -a\/0<b)->0<c)
 t4:0<=c->0≤-b->0≤-a/\((0<c\/0< -b)->0< -a)
 t5:0≤-b->0<=a->0≤-c/\((0< -b\/0<a)->0< -c)
 t6:0≤-c->0≤-a->0≤-b/\((0< -c\/0< -a)->0< -b)
theorem jgp{F P Q:Pn}(hF:Fd F)(hP:Fd P)(hQ:Fd Q):Tri (ZD F P) (ZD F Q) (ZD P Q):=by
 have f1:=Z0 F P;have f2:=Z0 F Q
 have f3:=Z0 P Q;have u1:=Y9 hF hP hQ
 have u2:=Y9 hF hQ hP;have u3:=Y9 hP hF hQ
 have u4:=Y9 hP hQ hF;have u5:=Y9 hQ hF hP
 have u6:=Y9 hQ hP hF;rw[f3] at u2;rw[f1] at u3;rw[f1,f2] at u4;rw[f2,f3] at u5;rw[f1,f2,f3] at u6;exact⟨u1,u2,u3,u4,u5,u6⟩
theorem jkv(v p q:Pn):tn v p q=ZD (p.1-v.1,p.2-v.2) (q.1-v.1,q.2-v.2):=by simp only[tn,kU,ZD]
theorem jd7(a b c d e f:Int):ZD (a-b,c-d) (e,f)= -ZD (b-a,d-c) (e,f):=by unfold ZD;grind
theorem jd8(a b c d e f:Int):ZD (e,f) (a-b,c-d)= -ZD (e,f) (b-a,d-c):=by unfold ZD;grind
theorem W1{v p q:Pn}(hX:(U4 v p=0/\X=(p.1-v.1,p.2-v.2))\/(U4 v p=1/\X=(v.1-p.1,v.2-p.2)))(hY:(U4 v q=0/\Y=(q.1-v.1,q.2-v.2))\/(U4 v q=1/\Y=(v.1-q.1,v.2-q.2))):
  (U4 v p=U4 v q/\tn v p q=ZD X Y)\/(U4 v p≠U4 v q/\tn v p q= -ZD X Y):=by
 rw[jkv];rcases hX with⟨h1,rfl⟩|⟨h1,rfl⟩<;>rcases hY with⟨h2,rfl⟩|⟨h2,rfl⟩
 .exact .inl ⟨by omega,rfl⟩
 .exact .inr ⟨by omega,by rw[jd8]⟩
 .exact .inr ⟨by omega,by rw[jd7]⟩
 .exact .inl ⟨by omega,by rw[jd7,jd8];omega⟩
theorem xb{v p q:Pn}(hX:Fd X)(hY:Fd Y)(h1:(U4 v p=0/\X=(p.1-v.1,p.2-v.2))\/(U4 v p=1/\X=(v.1-p.1,v.2-p.2)))(h2:(U4 v q=0/\Y=(q.1-v.1,q.2-v.2))\/(U4 v q=1/\Y=(v.1-q.1,v.2-q.2)))(h:¬Q9 v p q):¬(U4 v p=U4 v q/\ZD X Y=0):=λ⟨k1,k2⟩=>by
 have hs:=jiJ hX hY k2;have hd:=W1 h1 h2
 refine h ⟨by omega,?_⟩;rcases h1 with⟨h1,rfl⟩|⟨h1,rfl⟩<;>rcases h2 with⟨h2,rfl⟩|⟨h2,rfl⟩
 .exact hs
 .omega
 .omega
 .simp only at hs;have e1:(v.1-p.1)*(v.1-q.1)=(p.1-v.1)*(q.1-v.1):=by grind
  have e2:(v.2-p.2)*(v.2-q.2)=(p.2-v.2)*(q.2-v.2):=by grind
  rw[e1,e2] at hs;exact hs
theorem yO(o a:Pn):U4 o a=0\/U4 o a=1:=by unfold U4;split<;>simp
theorem zU(v f p q:Pn):Ue v f p q=true↔((yb v p f<0/\¬yb v q f<0)\/((yb v p f<0↔yb v q f<0)/\0<yb v p q)):=by
 unfold Ue;by_cases h1:yb v p f<0<;>by_cases h2:yb v q f<0<;>simp[h1,h2]
theorem jg8(o b p q:Pn):cwF o b p q=true↔(cwH o b p<cwH o b q\/(cwH o b p=cwH o b q/\tn o p q<0)):=by
 unfold cwF;split
 .rw[decide_eq_true_iff];omega
 .rw[decide_eq_true_iff];omega
set_option maxHeartbeats 4000000 in
theorem jg9{g1 g2 g3 a b c z4 z5 z3:Int}(hT:Tri a b c)(b1:g1=0\/g1=1)(b2:g2=0\/g2=1)(b3:g3=0\/g3=1)(d4:(g1=g2/\z4=a)\/(g1≠g2/\z4= -a))(d5:(g1=g3/\z5=b)\/(g1≠g3/\z5= -b))(d3:(g2=g3/\z3=c)\/(g2≠g3/\z3= -c))(n1:¬(g2=g1/\a=0))(n2:¬(g3=g1/\b=0))(n3:¬(g2=g3/\c=0)):
  ((if z4<0 then(0:Int) else if z4=0 then 1 else 2)<(if z5<0 then 0 else if z5=0 then 1 else 2)\/(if z4<0 then(0:Int) else if z4=0 then 1 else 2)=(if z5<0 then 0 else if z5=0 then 1 else 2)/\z3<0)↔
   ((g2<g1\/(g2=g1/\0< -z4))/\¬(g3<g1\/(g3=g1/\0< -z5)))\/(((g2<g1\/(g2=g1/\0< -z4))↔(g3<g1\/(g3=g1/\0< -z5)))/\(g3<g2\/(g2=g3/\z3<0))):=by
 have e4:z4=if g1=g2 then a else-a:=by split<;>omega
 have e5:z5=if g1=g3 then b else-b:=by split<;>omega
 have e3:z3=if g2=g3 then c else-c:=by split<;>omega
 clear d4 d5 d3;rcases jmv a 0 with c1|c1|c1<;>rcases jmv b 0 with c2|c2|c2<;>rcases jmv c 0 with c3|c3|c3<;>
  first
  |exact absurd (hT.t1 Om Om).1 Om
  |exact absurd ((hT.t1 Om Om).2 Om) Om
  |exact absurd (hT.t2 Om Om).1 Om
  |exact absurd ((hT.t2 Om Om).2 Om) Om
  |exact absurd (hT.t3 Om Om).1 Om
  |exact absurd ((hT.t3 Om Om).2 Om) Om
  |exact absurd (hT.t4 Om Om).1 Om
  |exact absurd ((hT.t4 Om Om).2 Om) Om
  |exact absurd (hT.t5 Om Om).1 Om
  |exact absurd ((hT.t5 Om Om).2 Om) Om
  |exact absurd (hT.t6 Om Om).1 Om
  |exact absurd ((hT.t6 Om Om).2 Om) Om
  |(clear hT;rcases b1 with rfl|rfl<;>rcases b2 with rfl|rfl<;>rcases b3 with rfl|rfl<;>simp at e4 e5 e3 n1 n2 n3<;>subst e4 e5 e3<;>(repeat' split)<;>omega)
theorem jjw{v f p q:Pn}(hf:f≠v)(hp:p≠v)(hq:q≠v)(h1:¬Q9 v p f)(h2:¬Q9 v q f)(h3:¬Q9 v p q):cwF v f p q=Ue v f p q:=by
 obtain⟨F,uF,kF⟩:=Yx hf;obtain⟨P,uP,kP⟩:=Yx hp;obtain⟨Q,uQ,kQ⟩:=Yx hq;have n1:=xb uP uF kP kF h1
 have n2:=xb uQ uF kQ kF h2;have n3:=xb uP uQ kP kQ h3
 have f1:tn v p f= -tn v f p:=by simp only[tn,kU];grind
 have f2:tn v q f= -tn v f q:=by simp only[tn,kU];grind
 rw[Z0 F P] at n1;rw[Z0 F Q] at n2;have:=jg9 (jgp uF uP uQ) (yO v f) (yO v p) (yO v q) (W1 kF kP) (W1 kF kQ) (W1 kP kQ) (λh=>n1 ⟨h.1,by omega⟩) (λh=>n2 ⟨h.1,by omega⟩) n3
 rw[jl8,jg8,zU,ze,ze,zf,f1,f2];exact this
end
end Go.Proofs.YtjbahemkhphndaaGreat
