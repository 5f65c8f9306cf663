import Derived.Test.YtjbahemkhphndaaGreatNLegSort
import Derived.Test.YtjbahemkhphndaaGreatNNetQ
import Derived.Test.YtjbahemkhphndaaGreatNRev
set_option linter.unusedVariables false
set_option linter.unusedSimpArgs false
namespace Go.Proofs.YtjbahemkhphndaaGreat
open Go Go.RowKit
variable{A:Option Addr}{B i j k m n:Nat}{K:Act->World->Prop}{cs xs:List Value}{e p:Leg}{es ls:List Leg}{l:List Nt}{r x:Option Addr×Nat}{s:Bool}{v:Int}{w:World}
set_option maxRecDepth 100000
set_option maxHeartbeats 4000000
theorem TQ(p q:Pn):0<wZ p q↔vv q p:=by
 have h1:=UE (p.1-q.1);have h2:=UE (p.2-q.2)
 unfold wZ vv;split<;>omega
theorem TR(p q:Pn)(hp:Xh p)(hq:Xh q)(W:World):Calls Tryz.prog 109 #[pV p,pV q] W λe w'=>e=.returned (.int .i64 (wZ p q))/\Over W w':=
 (yK p q hp hq W).mono λe w' ⟨h,q',os',hw⟩=>⟨h,HB hw⟩
def FA(ls:List Leg)(k:Nat):List Leg:=(ls.take k).map qh
theorem Ix(h:k<ls.length):FA ls (k+1)=FA ls k++[qh (lg ls k)]:=by
 rw[FA,jlX h,uu h];simp[FA]
theorem jfk(h:k<=ls.length):(FA ls k).length=k:=by
 rw[FA,jlV,jl3];omega
theorem jhQ{l:Leg}(h:0<wZ (lA l) (lB l)):qh l=⟨l.bx,l.b_y,l.ax,l.ay⟩:=by rw[qh,if_pos ((TQ _ _).1 h)];rfl
theorem jj1{l:Leg}(h:wZ (lA l) (lB l)<=0):qh l=l:=by rw[qh,if_neg λk=>by have:=(TQ _ _).2 k;omega]
def KF(es:List Leg):List Leg:=(Qf false es []).map (·.e)
theorem jeK{m:List Leg}(hp:m.Perm (es.map qh))(hr:jbJ m):Q3 m=KF es:=
 (jfe rfl hr λq=>by rw[hp.mem_iff,jlR];constructor<;>(rintro⟨e,h1,h2⟩;exact⟨e,h1,h2.symm⟩)).symm
theorem jc3{g c:Nat}{xs:List Leg}(h:(JV B 72 4 n (xs.flatMap jW) (some ⟨g,0,none⟩,c)).P w)(hl:xs.length=n)(hx:∀p∈xs,qK p)(hn:n<=1048576)(h0:0<n):
  Calls Tryz.prog 142 #[.slice (some ⟨g,0,none⟩) n c,.func (.func 143) #[] #[]] w λe w'=>∃x:{ys:List Leg//ys.Perm xs/\jbJ ys},e=.returned (.tuple #[])/\Wrs (JV B 72 4 n (xs.flatMap jW) (some ⟨g,0,none⟩,c)).F w w'/\(JV 0 72 4 n (x.1.flatMap jW) (some ⟨g,0,none⟩,c)).P w'/\(∀b,(JV 0 72 4 n (x.1.flatMap jW) (some ⟨g,0,none⟩,c)).F b->(JV B 72 4 n (xs.flatMap jW) (some ⟨g,0,none⟩,c)).F b\/w.heap.size<=b)/\(JV 0 72 4 n (x.1.flatMap jW) (some ⟨g,0,none⟩,c)).B=0:=by
 refine(jc4 h hl hx hn h0).mono ?_;rintro e w' ⟨rfl,ys,hp,hr,hw,ho⟩;exact⟨⟨ys,hp,hr⟩,rfl,hw.mono λb hb=>by subst hb;rfl,ho,λb hb=>.inl hb,rfl⟩
theorem jhN(hok:∀l∈ls,qK l)(k:Nat):∀l∈FA ls k,qK l:=λl hl=>by
 obtain⟨e,he,rfl⟩:=jlR.1 hl;exact jfl (hok e (jmp he))
theorem Ps(A:Option Addr)(n c:Nat)(ls:List Leg)(w:World)(h:Legs w A n ls)(hok:∀l∈ls,qK l)(hn:n<=1048576)(h0:0<n):
  Calls Tryz.prog 117 #[.slice A n c] w λe w'=>∃v,e=.returned v/\w'.ownsRow w.heap.size 72 4 v (KF ls).length ((KF ls).flatMap jW)/\Over w w':=by
 have hl:=h.1;refine Jm (m:=33) (Tryz.func117) J J (lb J) ?_;refine S7 ?_;refine QO (T:=72) (s:=4) ?_;refine N9 ?_;refine JW (X:=Nat×Option Addr×Nat) (λx=>x.1<=n) (λx=>n-x.1) (λx=>[(3,.slice x.2.1 x.1 x.2.2),(8,.int .i64 (x.1:Int))]) (kK [2,6,7]) (λx=>[JV (Bs.N ⟨w,[]⟩) 72 4 x.1 ((FA ls x.1).flatMap jW) x.2]) (0,none,0) (jlN _) ⟨J,sz⟩ (λ_ h=>h) ?_;intro⟨k,rA,rc⟩ hk L hL1;refine v9 ?_;refine r9 ?_;have hk:k<=n:=hk
 refine S5 ?_;refine cZ (λc1=>?_) (λc1=>?_)
 .have hlt:k<n:=Om;obtain⟨eb,eo,rfl,_⟩:=h.2 Om;have hb1:=GK (ky hok (show k<ls.length by omega))
  refine S7 ?_;refine a9 (jj J J qF J (Ya (λw' hs=>h.over hs.fin) hlt)) ?_;refine S1 ?_;refine aL (λb1=>?_);refine N10 ?_;refine a9 (jT W6 J J (λw1 hs=>TR (lA (lg ls k)) (lB (lg ls k)) hb1.1 hb1.2 w1)) ?_;refine S2 ?_;refine cZ (λc2=>?_) (λc2=>?_)
  .refine S7 ?_;refine B6 (k:=1) J J J J (J) (by rfl) jG.szx J ?_;refine N2 ?_;refine B7 (k:=1) J J J J (J) (by rfl) jG.szx J ?_;refine N5 ?_;refine j5 J J (KZ J) J (lb J) (λb2=>?_);refine N1 ?_;refine JQ (k:=0) J jV qp Dc J Dc J J J (λw' hs=>qL hs (k:=2) J J) (by simp[Value.oneCell']) (by unfold maxLen;omega) Om (jlL _) (λr1=>?_);refine N8 ?_;exact Jn hL1 ((k+1,r1)) ((show k+1<=n by omega)) (by simp only;omega) ⟨J,vi Om,sz⟩ (λ_ h=>h.upto ⟨by rw[Ix Om,jhQ c2,jlW];rfl,trivial⟩)
  .refine S6 ?_;refine j5 J J (KZ J) J (lb J) (λb3=>?_);refine N1 ?_;refine JQ (k:=0) J jV qp Dc J Dc J J J (λw' hs=>qL hs (k:=2) J J) (by simp[Value.oneCell']) (by unfold maxLen;omega) Om (jlL _) (λr2=>?_);refine N8 ?_;exact Jn hL1 ((k+1,r2)) ((show k+1<=n by omega)) (by simp only;omega) ⟨J,vi Om,sz⟩ (λ_ h=>h.upto ⟨by rw[Ix Om,jj1 c2,jlW];rfl,trivial⟩)
 .have hin:k=n:=by omega
  subst hin;have hnl:=jfk (show k<=ls.length by omega)
  refine S6 ?_;refine kW (λw hs=>V4 (k:=0) J hs h0) ?_;rintro⟨eg,rfl⟩;refine S3 ?_;refine qm (k:=0) (X:={ys:List Leg//ys.Perm (FA ls k)/\jbJ ys}) (v:=λ_=>.tuple #[]) (r':=λx=>JV 0 72 4 _ (x.1.flatMap jW) (some ⟨eg,0,none⟩,rc)) Kn J J J Dc J (λw1 hs=>jc3 (hs.all 0 _ J).1 hnl (jhN hok k) hn h0) ?_;rintro⟨ys,hperm,hris⟩;refine N5 ?_;refine xh (k:=0) (r':=JV 0 72 4 (Q3 ys).length ((Q3 ys).flatMap jW) (some ⟨eg,0,none⟩,rc)) Kv J J J Dc J (λw1 hs=>Rc (hs.all 0 _ J).1 (hperm.length_eq.trans hnl) h0 Om) (λ_ h=>h) J ?_;refine N3 ?_;refine jK J (.tmp J) ?_;intro w' hs;have hr:=hs.all 0 _ rfl
  have he:=jeK (show ys.Perm (ls.map qh) by rw[FA,jme Om] at hperm;exact hperm) hris;exact⟨_,rfl,by rw[<-he];exact vM hr.1 (λb hb=>(hr.2.1 b hb).elim id (λh=>by cases h)),hs.fin⟩
theorem Pr(A:Option Addr)(c:Nat)(w:World):
  Calls Tryz.prog 117 #[.slice A 0 c] w λe w'=>e=.returned (.slice none 0 0)/\Over w w':=by
 refine Jm (m:=33) (Tryz.func117) J J (lb J) ?_;refine S16 ?_;refine qD (X:=Unit) (λu=>True) (λu=>0) (λu=>[(3,.slice none 0 0),(8,.int .i64 0)]) (kK [2,6,7]) () (trivial) ⟨J,sz⟩ ?_;intro u hu L hL1;refine V5 ?_;refine cZ (λc1=>?_) (λc1=>?_)
 .omega
 .refine S8 ?_;refine a9 (jT Kn J J (λw h=>jc1 w)) ?_;refine S4 ?_;refine a9 (jT Kv J J (λw h=>Rb w)) ?_;refine S3 ?_;refine jK J (.tmp J) ?_;intro w' hs;exact⟨rfl,hs.fin⟩
theorem Pp(A:Option Addr)(n c:Nat)(ls:List Leg)(w:World)(h:Legs w A n ls)(hok:∀l∈ls,qK l)(hn:n<=1048576):
  Calls Tryz.prog 117 #[.slice A n c] w λe w'=>∃v,e=.returned v/\w'.ownsRow w.heap.size 72 4 v (KF ls).length ((KF ls).flatMap jW)/\Over w w':=by
 by_cases h0:0<n
 .exact Ps A n c ls w h hok hn h0
 .obtain rfl:n=0:=by omega
  have:ls=[]:=jmh h.1;subst this;refine(Pr A c w).mono ?_;rintro e w' ⟨rfl,hb⟩;exact⟨_,rfl,⟨rfl,.inl ⟨rfl,rfl⟩⟩,hb⟩
abbrev neV(x:Ne):Value:=.agg #[.int .i64 x.e.ax,.int .i64 x.e.ay,.int .i64 x.e.bx,.int .i64 x.e.b_y,.int .i64 x.net,.int .i64 x.left,.int .i64 x.right]
def jhY(p e:Leg):Bool:= !decide (qh e=p)
def LT(es:List Leg)(p:Leg)(k:Nat):List Leg:=(es.take k).filter (jhY p)
def Sa(es:List Leg)(p:Leg)(k:Nat):Int:=sm (λe=>if qh e=p then sg e else 0) (es.take k)
theorem jhK(h:k<=es.length): -(k:Int)<=Sa es p k/\Sa es p k<=k:=by
 have:=ji7 (f:=λe=>if qh e=p then sg e else 0) (l:=es.take k) λe _=>by
  have:=PI e;split<;>omega
 rw[jl3,jmO h] at this;exact this
theorem jct(h:k<es.length):Sa es p (k+1)=Sa es p k+(if qh (lg es k)=p then sg (lg es k) else 0):=by
 rw[Sa,OX _ h,uu h];rfl
theorem jfd(es:List Leg)(p:Leg):Sa es p es.length=qd es p:=by rw[Sa,jms];rfl
theorem jcz(h:k<es.length):LT es p (k+1)=LT es p k++(if qh (lg es k)=p then [] else [lg es k]):=by
 rw[LT,jlX h,jnh,uu h];congr 1;by_cases e:qh (lg es k)=p<;>simp[jhY,e]
theorem jfp(h:k<=es.length):(LT es p k).length<=k:=by
 have:=jnq (jhY p) (es.take k);rw[jl3,jmO h] at this;exact this
theorem L4{α:Type}(q:α->Bool)(f:α->Int):∀l:List α,sm f (l.filter q)=sm (λe=>if q e=true then f e else 0) l
 |[]=>rfl
 |a::l=>by
  rw[List.filter_cons];by_cases h:q a=true
  .rw[if_pos h];simp only[sm,L4 q f l,if_pos h]
  .rw[if_neg h];simp only[sm,L4 q f l,if_neg h];omega
theorem Mk(h:Bool)(ls:List Leg)(x y:Int):∀k,k<=ls.length->UK h ls x y k=sm (λe=>kk (ko h e) x y) (ls.take k)
 |0,_=>rfl
 |k+1,hk=>by rw[UK,OX _ Om,uu Om,Mk h ls x y k Om]
theorem jgA(es:List Leg)(p:Leg):Mi true (LT es p es.length) (kS p) (QY p)=Qw es p:=by
 rw[Mi,Mk _ _ _ _ _ (jlL _),jms,LT,jms,L4];refine JC λe _=>?_
 by_cases k:qh e=p<;>simp[jhY,k]
theorem jiL(h:Bool)(ls:List Leg)(x y:Int): -(ls.length:Int)<=Mi h ls x y/\Mi h ls x y<=ls.length:=Mj h ls x y _
theorem Y2{T:Nat}(h:(JV B T 4 n (ls.flatMap jW) x).P w)(hn:ls.length=n):Legs w x.1 n ls:=by
 obtain⟨A,c,e,h1,_⟩:=yT h hn;injection e with e1 e2 e3
 rw[e1];exact h1
theorem T9{f:Leg}:(e.ax==f.ax&&e.ay==f.ay&&e.bx==f.bx&&e.b_y==f.b_y)=decide (e=f):=by
 rw[G6];exact decide_eq_decide.2 ⟨Eq.symm,Eq.symm⟩
theorem ME(A:Option Addr)(n c:Nat)(es:List Leg)(p:Leg)(w:World)(h:Legs w A n es)(hok:∀l∈es,qK l)(hn:n<=1048576)(hp:qK p)(hne:lA p≠lB p)(hord:¬vv (lB p) (lA p)):
  Calls Tryz.prog 118 #[.slice A n c,jlt p] w λe w'=>e=.returned (neV (Q5 es p))/\Over w w':=by
 have hl:=h.1;have hb:((-262144<=p.ax/\p.ax<=262144)∧-262144<=p.ay/\p.ay<=262144)/\(-262144<=p.bx/\p.bx<=262144)∧-262144<=p.b_y/\p.b_y<=262144:=⟨⟨hp.1,hp.2.1⟩,hp.2.2.1,hp.2.2.2⟩
 refine Jm (m:=84) (Tryz.func118) J J (lb J) ?_;refine S3 ?_;refine aX (λb1=>?_);refine N1 ?_;refine aL (λb2=>?_);refine N7 ?_;refine a9 (JD J J (ZR J J)) ?_;refine S1 ?_;refine aL (λb3=>?_);refine N6 ?_;refine QO (T:=72) (s:=4) ?_;refine N9 ?_;refine JW (X:=Nat×Option Addr×Nat) (λx=>x.1<=n) (λx=>n-x.1) (λx=>[(6,.slice x.2.1 (LT es p x.1).length x.2.2),(17,.int .i64 (x.1:Int))]) (kK [3,4,5,15,16]) (λx=>[.cel b1 72 [.int .i64 p.ax,.int .i64 p.ay,.int .i64 p.bx,.int .i64 p.b_y],.cel b2 157 [.int .i64 0,.int .i64 0,.int .i64 0,.int .i64 0,.int .i64 0,.int .i64 0,.int .i64 0],.cel b3 157 [.int .i64 p.ax,.int .i64 p.ay,.int .i64 p.bx,.int .i64 p.b_y,.int .i64 (Sa es p x.1),.int .i64 0,.int .i64 0],JV (Bs.N ⟨w,[]⟩) 72 4 (LT es p x.1).length ((LT es p x.1).flatMap jW) x.2]) (0,none,0) (jlN _) ⟨J,sz⟩ (λ_ h=>h) ?_;intro⟨k,rA,rc⟩ hk L hL1;refine v9 ?_;refine r9 ?_;have hk:k<=n:=hk
 have hnb:=jhK (p:=p) (show k<=es.length by omega);have hob:=jfp (p:=p) (show k<=es.length by omega)
 refine S5 ?_;refine cZ (λc1=>?_) (λc1=>?_)
 .have hlt:k<n:=Om;obtain⟨eb,eo,rfl,_⟩:=h.2 Om;have hN:=jct (p:=p) (show k<es.length by omega)
  have hO:=jcz (p:=p) (show k<es.length by omega);refine S7 ?_;refine a9 (jj J J qF J (Ya (λw' hs=>h.over hs.fin) hlt)) ?_;refine S1 ?_;refine aL (λb4=>?_);refine N14 ?_;refine cZ (λc2=>?_) (λc2=>?_)
  .have he:lg es k=p:=of_decide_eq_true (T9▸c2);have hnp:qh (lg es k)=p:=(OI hord hne).2 (.inl he)
   rw[if_pos hnp,he,jbf hord] at hN;rw[if_pos hnp,jl9] at hO;refine S6 ?_;refine xl (k:=2) J J J J (J) (by rfl) Kl.szx J ?_;refine N8 ?_;exact Jn hL1 ((k+1,rA,rc)) ((show k+1<=n by omega)) (by simp only;omega) ⟨(by rw[hO];rfl),vi Om,sz⟩ (λ_ h=>h.upto ⟨J,J,by rw[hN],by rw[hO],trivial⟩)
  .have he:¬lg es k=p:=of_decide_eq_false (T9▸c2);refine S6 ?_;refine a9 (JD J J (YE J J)) ?_;refine S3 ?_;refine cZ (λc3=>?_) (λc3=>?_)
   .have hr:lg es k=qW p:=of_decide_eq_true (T9 (f:=qW p)▸c3);have hnp:qh (lg es k)=p:=(OI hord hne).2 (.inr hr)
    rw[if_pos hnp,hr,jfW hord hne] at hN;rw[if_pos hnp,jl9] at hO;refine S6 ?_;refine xl (k:=2) J J J J (J) (by rfl) Kl.szx J ?_;refine N8 ?_;exact Jn hL1 ((k+1,rA,rc)) ((show k+1<=n by omega)) (by simp only;omega) ⟨(by rw[hO];rfl),vi Om,sz⟩ (λ_ h=>h.upto ⟨J,J,by rw[hN];rfl,by rw[hO],trivial⟩)
   .have hr:¬lg es k=qW p:=of_decide_eq_false (T9 (f:=qW p)▸c3);have hnp:¬qh (lg es k)=p:=λk=>((OI hord hne).1 k).elim he hr
    rw[if_neg hnp,jnr] at hN;rw[if_neg hnp] at hO;refine S4 ?_;refine j5 J J (KZ J) J (lb J) (λb5=>?_);refine N1 ?_;refine JQ (k:=3) J jV qp Dc J Dc J J J (λw' hs=>qL hs (k:=5) J J) (by simp[Value.oneCell']) (by unfold maxLen;omega) Om (jlL _) (λr1=>?_);refine N9 ?_;exact Jn hL1 ((k+1,r1)) ((show k+1<=n by omega)) (by simp only;omega) ⟨(by rw[hO,jlJ];rfl),vi Om,sz⟩ (λ_ h=>h.upto ⟨J,J,by rw[hN],by rw[hO,jlJ,jlW];rfl,trivial⟩)
 .have hin:k=n:=by omega
  subst hin;rw[show Sa es p k=qd es p by rw[<-hl,jfd]] at*;have hw1:=jiL true (LT es p k) (kS p) (QY p)
  have hw2:Mi true (LT es p k) (kS p) (QY p)=Qw es p:=by rw[<-hl,jgA]
  rw[hw2] at hw1;have hoo:∀l∈LT es p k,qK l:=λl hl=>hok l (jmp ((jmx.1 hl).1))
  refine S22 ?_;refine a9 (JD J J (J8 J J)) ?_;refine a9 (jT yZ J J (λw1 hs=>hw2▸XJ rA _ rc (LT es p k) (kS p) (QY p) true w1 (Y2 (hs.all 3 _ J).1 J) Om hoo (by unfold Uo kS;omega) (by unfold Uo QY;omega))) ?_;refine S13 ?_;refine cZ (λc4=>?_) (λc4=>?_)
  .refine S8 ?_;refine xm (k:=2) J J J J (J) (by rfl) Kl.szx J ?_;refine N2 ?_;refine xn (k:=2) J J J J (J) (by rfl) Kl.szx J ?_;refine N8 ?_;refine jK J (qj (k:=1) J wL J J) ?_;intro w' hs;exact⟨by rw[Q5,if_pos c4],hs.fin⟩
  .refine S8 ?_;refine xm (k:=2) J J J J (J) (by rfl) Kl.szx J ?_;refine N2 ?_;refine xn (k:=2) J J J J (J) (by rfl) Kl.szx J ?_;refine N8 ?_;refine jK J (qj (k:=1) J wL J J) ?_;intro w' hs;exact⟨by rw[Q5,if_neg c4],hs.fin⟩
theorem Legs.ovx{w':World}{X:List Nat}(h:Legs w A n ls)(ho:Ovx ⟨w,X⟩ w')(hne:0<n->∀p,A=some p->p.block∉X):Legs w' A n ls:=by
 refine⟨h.1,λhn=>?_⟩;obtain⟨b,o,rfl,hlt,hc⟩:=h.2 hn;have hs:w.heap.size<=w'.heap.size:=ho.size
 have hb:w'.heap[b]? =w.heap[b]? :=ho.block b hlt (hne hn _ rfl);have hcell:∀o',w'.cell? ⟨b,o',none⟩=w.cell? ⟨b,o',none⟩:=λo'=>by simp only[World.cell?,hb]
 exact⟨b,o,rfl,by omega,λk hk=>by rw[hcell,hcell,hcell,hcell];exact hc k hk⟩
def Sv(x:Option Addr×Nat):List Nat:=match x.1 with
 |some p=>[p.block]
 |none=>[]
theorem zO{T s:Nat}{b:Nat}:(JV B T s n xs x).F b↔b∈Sv x:=by
 show Value.ownBlock (.slice x.1 n x.2)=some b↔_;unfold Sv;cases hx:x.1 with
 |none=>simp[Value.ownBlock]
 |some p=>
  simp only[Value.ownBlock,jlM];constructor
  .intro h;injection h with h;exact h.symm
  .intro h;rw[h]
theorem Qr{w':World}{T s:Nat}(h:(JV B T s n xs x).P w)(hO:Over w w'):(JV B T s n xs x).P w':=
 (JV B T s n xs x).dep w w' h hO.size λb hb _=>hO.out.block b hb
abbrev Tb(l:List Nt)(x:Option Addr×Nat):Res:=JV 0 109 8 l.length (l.flatMap qz) x
section
variable{P:Program}{n:Nat}{env:List (Nat×Value)}{w0:Bs}{Rs:List Res}{o:Oper}{Q:Exit->Act->World->Prop}{K:Act->World->Prop}
theorem qS{T U:TypeId}{x y:Operand}{s:Nat}(hr:∀w,St w0 Rs w->(JV B U s m xs r).P w)(ho:o.op=.indexAddr T x y)(hx:ev env x=some (.slice r.1 m r.2))(hy:ev env y=some (.int .i64 (j:Int)))(hT:TyL P T U s)(hj:j<m):
  Qt P o n env w0 Rs (.pointer (some ⟨VK r.1,0+j*s,none⟩)):=λa w hf hs=>by
 have e:=OU (hr w hs) Om;rw[e] at hx;exact jQ (j:=j) ho hx hy hT hj a w hf hs
theorem Sd(h:j<l.length):l[j]? =some (nt l j):=by rw[List.getElem?_eq_getElem h,ZO h]
theorem Kc(x:Nt):(qz x).length=8:=rfl
theorem Gl{off:Nat}{v:Value}(hr:∀w,St w0 Rs w->(JV 0 109 8 m (l.flatMap qz) r).P w)(hj:j<l.length)(he:off=j*8+i)(hv:(qz (nt l j))[i]? =some v):∀w,St w0 Rs w->w.cell? ⟨VK r.1,off,none⟩=some v:=λw hs=>by
 refine yw (hr w hs) ?_;have hi:=(List.getElem?_eq_some_iff.1 hv).1
 rw[Kc] at hi;rw[he,GY qz 8 Kc l j i hj hi,ZO hj];exact hv
theorem XD{off:Nat}(vs:List Value)(i:Nat)(hr:∀w,St w0 Rs w->(JV 0 109 8 m (l.flatMap qz) r).P w)(hj:j<l.length)(he:off=j*8+i)(hv:∀q v,vs[q]? =some v->(qz (nt l j))[i+q]? =some v):∀w,St w0 Rs w->∀q v,vs[q]? =some v->w.cell? ⟨VK r.1,off+q,none⟩=some v:=λw hs q v h=>
 Gl hr hj Om (hv q v h) w hs
end
theorem Gu{a b:Value}(h0:cs[i]? =some a)(h1:cs[i+1]? =some b):∀q v,[a,b][q]? =some v->cs[i+q]? =some v:=λq v h=>by
 match q,h with
 |0,h=>simp at h;subst h;exact h0
 |1,h=>simp at h;subst h;exact h1
theorem OC{a b c d:Value}(h0:cs[i]? =some a)(h1:cs[i+1]? =some b)(h2:cs[i+2]? =some c)(h3:cs[i+3]? =some d):∀q v,[a,b,c,d][q]? =some v->cs[i+q]? =some v:=λq v h=>by
 match q,h with
 |0,h=>simp at h;subst h;exact h0
 |1,h=>simp at h;subst h;exact h1
 |2,h=>simp at h;subst h;exact h2
 |3,h=>simp at h;subst h;exact h3
theorem ji8{α:Type}{f:α->Int}(h:∀x,0<=f x):∀{l:List α} {x:α},x∈l->f x<=sm f l
 |y::l,x,hx=>by
  have h1:=h y;have h2:=jf1 h l
  simp only[sm];rcases jlP.1 hx with rfl|hx
  .omega
  .have:=ji8 h hx;omega
theorem XS(h:k<l.length): -aS s l<=wi s (nt l k)/\wi s (nt l k)<=aS s l:=by
 have h1:=ji8 (f:=λx=>Xj (wi s x)) (λx=>RG _) (LF h);have h2:=jag (wi s (nt l k))
 unfold aS;omega
theorem Tp(h:i<es.length):Qf s (es.take (i+1)) l=WW s (lg es i) (Qf s (es.take i) l):=by
 rw[jlX h,uu h];simp[Qf]
theorem uH{s:Bool}:∀(es:List Leg) (l:List Nt),(Qf s es l).length<=l.length+es.length
 |[],l=>jlL _
 |e::es,l=>by
  have h1:=uH (s:=s) es (WW s e l);have h2:=Tr (s:=s) (e:=e) l
  have e1:Qf s (e::es) l=Qf s es (WW s e l):=rfl;rw[e1,jlS];omega
theorem jj2(hk:k<=l.length):nt (Ly l k p) k=xd p/\(Ly l k p).length=l.length+1:=by
 unfold Ly;refine⟨?_,by simp;omega⟩;rw[nt,List.getD_eq_getElem?_getD,List.getElem?_append_right (by simp;omega)];simp[jl3,jmO hk]
theorem jcd(hk:k<=l.length):(Ly l k p).flatMap qz=(l.flatMap qz).take (k*8)++qz (xd p)++(l.flatMap qz).drop (k*8):=by
 have e1:(l.flatMap qz).take (k*8)=(l.take k).flatMap qz:=by
  conv=>lhs;rw[<-jl1 k l,jlW]
  rw[List.take_left' (by rw[W2 qz 8 Kc,jl3,jmO hk])]
 have e2:(l.flatMap qz).drop (k*8)=(l.drop k).flatMap qz:=by
  conv=>lhs;rw[<-jl1 k l,jlW]
  rw[List.drop_left' (by rw[W2 qz 8 Kc,jl3,jmO hk])]
 rw[e1,e2,Ly,jlW,jl4,jlT]
theorem jfm(l:List Nt):∀u∈l.flatMap qz,u.oneCell'=true:=λu hu=>by
 obtain⟨x,_,hx⟩:=jm8.1 hu;simp only[qz,jW,jmf,jmt,jlP,jmi,or_false] at hx;rcases hx with rfl|rfl|rfl|rfl|rfl|rfl|rfl|rfl<;>rfl
theorem jdQ(h:k<l.length)(hv:v=(nt l k).two+sg e):qV (l.flatMap qz) (0+k*8+5) [.int .i64 v]=(l.set k (wY true (sg e) (nt l k))).flatMap qz:=
 yN qz Kc (Sd h) (jW (nt l k).e++[.int .i64 (nt l k).one]) [.int .i64 (nt l k).two] [.int .i64 v] [.int .i64 (nt l k).l1,.int .i64 (nt l k).l2] (by simp[qz]) (by subst hv;simp[qz,wY]) rfl (by simp[jW])
theorem jdP(h:k<l.length)(hv:v=(nt l k).one+sg e):qV (l.flatMap qz) (0+k*8+4) [.int .i64 v]=(l.set k (wY false (sg e) (nt l k))).flatMap qz:=
 yN qz Kc (Sd h) (jW (nt l k).e) [.int .i64 (nt l k).one] [.int .i64 v] [.int .i64 (nt l k).two,.int .i64 (nt l k).l1,.int .i64 (nt l k).l2] (by simp[qz]) (by subst hv;simp[qz,wY]) rfl (by simp[jW])
theorem HQ{x:Nt}:(l.set k x).length=l.length:=jmV
theorem jgQ{env:List (Nat×Value)}{w0:Bs}{Rs:List Res}(k s:Nat){b U:Nat}(hk:Rs[k]? =some (.cel b U []))(h:At n env w0 (Rs.set k (.row 0 U s (.slice (some ⟨b,0,none⟩) 0 0) 0 [])) K):At n env w0 Rs K:=λa w hf hs=>by
 refine h a w hf (hs.chg hk (λhP=>?_) (λc hc=>?_) J)
 .exact⟨by simp,.inr ⟨b,0,#[],rfl,jlN _,hP,jlL _,by unfold maxLen;omega,by simp,by simp⟩⟩
 .have:some b=some c:=hc;injection this with this
  exact this.symm
theorem jhC{p:Nat->Prop}(h:∀j,j<k->p j)(hk:p k):∀j,j<k+1->p j:=λj hj=>by
 rcases jmT (Nat.le_of_lt_succ hj) with h1|rfl
 .exact h j h1
 .exact hk
theorem jjQ(hk:k<m)(h2:¬vv (lA e) (lA p))(h3:(e.ax==p.ax&&e.ay==p.ay)=true):decide (vv (lB e) (lB p))=decide (k<m/\XB e p):=by
 simp only[jlK,beq_iff_eq] at h3;refine decide_eq_decide.2 ⟨λh=>⟨hk,.inr ⟨Prod.ext h3.1 h3.2,h⟩⟩,λh=>?_⟩;rcases h.2 with h|h
 .exact absurd h h2
 .exact h.2
theorem jjR(h2:¬vv (lA e) (lA p))(h3:(e.ax==p.ax&&e.ay==p.ay)=false):false=decide (k<m/\XB e p):=by
 refine(decide_eq_false λh=>?_).symm;rcases h.2 with h|h
 .exact h2 h
 .rw[show e.ax=p.ax from congrArg Prod.fst h.1,show e.ay=p.ay from congrArg Prod.snd h.1] at h3;simp at h3
theorem BL(A:Option Addr)(n c:Nat)(es:List Leg)(s:Bool)(l:List Nt)(x:Option Addr×Nat)(w:World)(h:Legs w A n es)(hok:∀l∈es,qK l)(hn:n<=4096)(hl:l.length<=4096)(ha:∀t,aS t l<=4096)(hr:(Tb l x).P w)(hne:0<n->∀p,A=some p->p.block∉Sv x):
  Calls Tryz.prog 43 #[.slice x.1 l.length x.2,.slice A n c,.bool s] w λe w'=>∃y:Option Addr×Nat,e=.returned (.slice y.1 (Qf s es l).length y.2)/\Wrs (Tb l x).F w w'/\(Tb (Qf s es l) y).P w'/\(∀b,(Tb (Qf s es l) y).F b->(Tb l x).F b\/w.heap.size<=b)/\(Tb (Qf s es l) y).B=0:=by
 have hln:=h.1;refine Km (m:=119) (Sv x) (Tb l x) (hr) (λb hb=>zO.1 hb) J (Tryz.func43) J J (lb J) ?_;refine S10 ?_;refine JW (X:=Nat×Option Addr×Nat) (λy=>y.1<=n) (λy=>n-y.1) (λy=>[(0,.slice y.2.1 (Qf s (es.take y.1) l).length y.2.2),(7,.int .i64 (y.1:Int))]) (kK [1,2,6]) (λy=>[Tb (Qf s (es.take y.1) l) y.2]) (0,x) (jlN _) ⟨J,sz⟩ (λ_ h=>h) ?_;intro⟨i,rA,rc⟩ hi L hL1;refine v9 ?_;refine r9 ?_;have hi:i<=n:=hi
 obtain⟨M,hM⟩:∃M,M=Qf s (es.take i) l:=⟨_,rfl⟩;have hMl:M.length<=8192:=(by have:=uH (s:=s) (es.take i) l;rw[jl3] at this;rw[hM];omega)
 have hMa:∀t,aS t M<=8192:=(λt=>by have h1:=ZK (s:=s) (t:=t) (es.take i) l;have h2:=ha t;rw[jl3] at h1;rw[hM];split at h1<;>omega);rw[<-hM];refine S8 ?_;refine cZ (λc1=>?_) (λc1=>?_)
 .have hlt:i<n:=Om;obtain⟨eb,eo,rfl,_⟩:=h.2 Om;obtain⟨E,hE⟩:∃E,E=lg es i:=⟨_,rfl⟩;have hEo:qK E:=hE▸ky hok (show i<es.length by omega)
  have hnext:Qf s (es.take (i+1)) l=WW s E M:=(by rw[Tp Om,hM,hE]);refine S9 ?_;refine a9 (jj J J vf J (Ya (λw' hs=>h.ovx hs.over hne) hlt)) ?_;refine S1 ?_;refine aL (λb1=>?_);refine N3 ?_;rw[<-hE];refine S4 ?_;refine uI [(9,.int .i64 (sg E))] ([Tb M (rA,rc),.cel b1 101 (jW (qh E))]) (kK [1,2,6,0,7,12,13,14,15,18,19,20,21,8]) (λL h_t26=>?_) ?_
  .refine S6 ?_;refine a9 (jT KK J J (λw1 hs=>WF (lB E) (lA E) w1)) ?_;refine S1 ?_;refine cZ (λc2=>?_) (λc2=>?_)
   .refine S6 ?_;refine a9 (JD J J (Uq J J)) ?_;refine S6 ?_;exact Jx h_t26 ⟨vi (by rw[sg,if_pos c2]),sz⟩ (λ_ h=>h.upto ⟨J,by rw[qh,if_pos c2];rfl,trivial⟩)
   .refine S2 ?_;exact Jx h_t26 ⟨vi (by rw[sg,if_neg c2]),sz⟩ (λ_ h=>h.upto ⟨J,by rw[qh,if_neg c2];rfl,trivial⟩)
  .refine v9 ?_;obtain⟨p,hp⟩:∃p,p=qh E:=⟨_,rfl⟩;rw[<-hp];refine S6 ?_;refine qD (X:=Nat) (λk=>k<=M.length/\∀j,j<k->XB (nt M j).e p) (λk=>M.length-k) (λk=>[(10,.int .i64 (k:Int))]) (kK [1,2,6,0,7,12,13,14,15,18,19,20,21,8,9]) 0 (⟨jlN _,λj hj=>absurd hj Om⟩) ⟨J,sz⟩ ?_;intro k hk L hL2;refine v9 ?_;obtain⟨hkl,hkq⟩:=hk;refine S1 ?_;refine qH [(68,.bool (decide (k<M.length/\XB (nt M k).e p)))] (kK [1,2,6,0,7,12,13,14,15,18,19,20,21,8,9,10]) (λL h_10=>?_) ?_
   .refine Hc mixed Kr (λ_ _ d _ _ h=>by cases d<;>exact h) ?_;refine x9 q9 ?_;refine x9 q9 ?_;refine x9 (JN J J JM) ?_;refine x9 (Ju J J J) ?_;refine x9 q9 ?_;refine Ve 36 J (λg1=>?_) (λg1=>?_)
    .try simp only[zz] at g1
     have hk':k<M.length:=Om;refine y9 q9 ?_;refine y9 q9 ?_;refine y9 (qS (j:=k) (λw hs=>(hs.all 0 _ J).1) J J J JM hk') ?_;refine y9 (jf J J Qs) ?_;refine y9 (jf J J JL) ?_;refine y9 (jj J J jk J (XD [.int .i64 (nt M k).e.ax,.int .i64 (nt M k).e.ay] 0 (λw hs=>(hs.all 0 _ J).1) hk' Om (Gu J J))) ?_;refine y9 (jf J J JL) ?_;refine y9 (jj J J jk J (y8 (k:=1) J J J)) ?_;refine y9 (jT KK J J (λw1 hs=>WF (lA (nt M k).e) (lA p) w1)) ?_;refine y9 q9 ?_;refine Ve 46 J (λg2=>?_) (λg2=>?_)
     .try simp only[zz] at g2
      (iterate 10 refine z9 ?_);(iterate 9 refine qP J J J J J Dc ?_);refine z9 ?_;refine y9 (Jp J J J) ?_;refine x9 (Jp J J J) ?_;refine Wp ?_;refine S1 ?_
      exact Jx h_10 ⟨vb (decide_eq_true ⟨hk',.inl g2⟩).symm,sz⟩ (u9 J)
     .try simp only[zz] at g2
      refine y9 q9 ?_;refine y9 q9 ?_;refine y9 (qS (j:=k) (λw hs=>(hs.all 0 _ J).1) J J J JM hk') ?_;refine y9 (jf J J Qs) ?_;refine y9 (jf J J JL) ?_;refine y9 (jj J J jk J (XD [.int .i64 (nt M k).e.ax,.int .i64 (nt M k).e.ay] 0 (λw hs=>(hs.all 0 _ J).1) hk' Om (Gu J J))) ?_;refine y9 (jf J J JL) ?_;refine y9 (jj J J jk J (y8 (k:=1) J J J)) ?_;refine y9 (VP J J J) ?_;refine y9 q9 ?_;refine Ve 56 J (λg3=>?_) (λg3=>?_)
      .try simp only[zz] at g3
       refine y9 q9 ?_;refine y9 q9 ?_;refine y9 (qS (j:=k) (λw hs=>(hs.all 0 _ J).1) J J J JM hk') ?_;refine y9 (jf J J Qs) ?_;refine y9 (jf J J JO) ?_;refine y9 (jj J J jk J (XD [.int .i64 (nt M k).e.bx,.int .i64 (nt M k).e.b_y] 2 (λw hs=>(hs.all 0 _ J).1) hk' Om (Gu J J))) ?_;refine y9 (jf J J JO) ?_;refine y9 (jj J J jk J (y8 (k:=1) J J J)) ?_;refine y9 (jT KK J J (λw1 hs=>WF (lB (nt M k).e) (lB p) w1)) ?_;refine y9 (Jp J J J) ?_;refine y9 (jP J J J) ?_;refine x9 (Jp J J J) ?_;refine Wp ?_;refine S1 ?_;exact Jx h_10 ⟨vb (jjQ hk' g2 g3),sz⟩ (u9 J)
      .try simp only[zz] at g3
       (iterate 9 refine z9 ?_);refine y9 (jP J J J) ?_;refine y9 (jP J J J) ?_;refine x9 (Jp J J J) ?_;refine Wp ?_;refine S1 ?_
       exact Jx h_10 ⟨vb (jjR g2 g3),sz⟩ (u9 J)
    .try simp only[zz] at g1
     (iterate 10 refine z9 ?_);(iterate 20 refine qP J J J J J Dc ?_);refine z9 ?_;refine x9 (jP J J J) ?_;refine Wp ?_;refine S1 ?_
     exact Jx h_10 ⟨vb (decide_eq_false λh=>by omega).symm,sz⟩ (u9 J)
   .refine v9 ?_;refine cZ (λc3=>?_) (λc3=>?_)
    .refine S10 ?_;exact J6 hL2 (k+1) (⟨by omega,jhC hkq c3.2⟩) Om ⟨vi Om,sz⟩ (u9 J)
    .refine S5 ?_;refine WZ (X:=List Nt×Option Addr×Nat) (λz=>k<z.1.length/\Qf s (es.take (i+1)) l=z.1.set k (wY s (sg E) (nt z.1 k))/\z.1.length<=8193/\∀t,-8192<=wi t (nt z.1 k)/\wi t (nt z.1 k)<=8192) (λz=>[(0,.slice z.2.1 z.1.length z.2.2)]) (kK [1,2,6,7,12,13,14,15,18,19,20,21,8,9,10,68]) (λz=>[Tb z.1 z.2,.cel b1 101 (jW p)]) (λL h_t83=>?_) ?_
     .refine qH [(83,.bool (!decide (k<M.length/\(nt M k).e=p)))] (kK [1,2,6,0,7,12,13,14,15,18,19,20,21,8,9,10,68]) (λL h_12=>?_) ?_
      .refine Hc mixed Kr (λ_ _ d _ _ h=>by cases d<;>exact h) ?_;refine x9 q9 ?_;refine x9 q9 ?_;refine x9 (JN J J JM) ?_;refine x9 (qE J J J) ?_;refine x9 q9 ?_;refine Ve 75 J (λg4=>?_) (λg4=>?_)
       .try simp only[zz] at g4
        (iterate 7 refine z9 ?_);refine x9 (Jp J J J) ?_;refine Wp ?_;refine S1 ?_
        exact Jx h_12 ⟨vb (by rw[decide_eq_false (λh=>by omega)];rfl),sz⟩ (u9 J)
       .try simp only[zz] at g4
        refine y9 q9 ?_;refine y9 q9 ?_;refine y9 (qS (j:=k) (λw hs=>(hs.all 0 _ J).1) J J J JM Om) ?_;refine y9 (jf J J Qs) ?_;refine y9 (jj J J vf J (XD [.int .i64 (nt M k).e.ax,.int .i64 (nt M k).e.ay,.int .i64 (nt M k).e.bx,.int .i64 (nt M k).e.b_y] 0 (λw hs=>(hs.all 0 _ J).1) (show k<M.length by omega) Om (OC J J J J))) ?_;refine y9 (jj J J vf J (jZ (k:=1) J)) ?_;refine y9 (xq J J J) ?_;refine x9 (jP J J J) ?_;refine Wp ?_;refine S1 ?_;exact Jx h_12 ⟨vb (by rw[T9 (e:=(nt M k).e) (f:=p)];have:k<M.length:=Om;simp[this]),sz⟩ (u9 J)
      .refine v9 ?_;refine cZ (λc4=>?_) (λc4=>?_)
       .have hstop:k<M.length->¬XB (nt M k).e (qh E)/\(nt M k).e≠qh E:=(λh=>⟨λh2=>c3 ⟨h,hp▸h2⟩,λh2=>c4 ⟨h,hp▸h2⟩⟩);have hnew:Qf s (es.take (i+1)) l=(Ly M k p).set k (wY s (sg E) (nt (Ly M k p) k)):=(by rw[hnext,Ts hkl (λj hj=>hp▸hkq j hj) hstop,hp])
        obtain⟨hnk,hnl⟩:=jj2 (p:=p) hkl;have hsg:=PI E
        have hkI:k<(Ly M k p).length:=Om;refine kW (λw hs=>UD (hs.all 0 _ J).1) ?_;intro hcap;refine S3 ?_;refine j5 J J (ZU) J (lb J) (λb2=>?_);refine n9 ?_;refine jgQ 2 8 J ?_;refine t9 ?_;refine S2 ?_;refine a9 (KQ J J J JM Om) ?_;refine S1 ?_;refine JQ (k:=2) J JM UI Dc J Dc J J J (λw' hs=>jc7 (hs.all 0 _ J).1 hkl) ((λu hu=>jfm M u (jmp hu))) (by unfold maxLen;omega) Om (jlN _) (λr1=>?_);refine N6 ?_;refine a9 (JD J J (GN J)) ?_;refine S1 ?_;refine j5 J J (zp J) J (lb J) (λb3=>?_);refine N1 ?_;refine JQ (k:=2) J JM UI Dc J Dc J J J (λw' hs=>qL hs (k:=3) J J) (by simp[Value.oneCell']) (by unfold maxLen;omega) Om (jlN _) (λr2=>?_);refine N6 ?_;refine a9 (VR J J J JM hkl) ?_;refine S1 ?_;refine JQ (k:=2) J JM UI Dc J Dc J J J (λw' hs=>jc6 (hs.all 0 _ J).1 hkl) ((λu hu=>jfm M u (jmy hu))) (by unfold maxLen;omega) Om (jlN _) (λr3=>?_);refine N2 ?_;rw[show 0+k+1+(M.length-k)=(Ly M k p).length by omega];rw[show List.take (k*8) (List.flatMap qz M)++[Value.int IntKind.i64 p.ax,Value.int IntKind.i64 p.ay,Value.int IntKind.i64 p.bx,Value.int IntKind.i64 p.b_y,Value.int IntKind.i64 0,Value.int IntKind.i64 0,Value.int IntKind.i64 0,Value.int IntKind.i64 0]++List.drop (k*8) (List.flatMap qz M)=(Ly M k p).flatMap qz from(jcd hkl).symm];exact Qd h_t83 ((Ly M k p,r3)) (⟨hkI,hnew,by simp only;omega,λt=>by rw[hnk];cases t<;>(show-8192<=(0:Int)/\(0:Int)<=8192;omega)⟩) ⟨rfl,sz⟩ (λ_ h=>(h.picks [2,1] Dc).upto ⟨rfl,sz⟩)
       .have hst:k<M.length/\(nt M k).e=p:=c4;have hold:Qf s (es.take (i+1)) l=M.set k (wY s (sg E) (nt M k)):=(by rw[hnext,Tt hst.1 (λj hj=>hp▸hkq j hj) (hp▸hst.2)])
        refine S2 ?_;exact Qd h_t83 ((M,rA,rc)) (⟨hst.1,hold,by simp only;omega,λt=>by have h1:=XS (s:=t) hst.1;have h2:=hMa t;simp only;omega⟩) ⟨J,sz⟩ (λ_ h=>h.picks [0,1] Dc)
     .rintro⟨I,qA,qc⟩ ⟨hIk,hIn,hIl,hIa⟩;refine v9 ?_;refine r9 ?_;have hIk:k<I.length:=hIk
      have hIl:I.length<=8193:=hIl;have hIn:Qf s (es.take (i+1)) l=I.set k (wY s (sg E) (nt I k)):=hIn
      have hsg:=PI E;have hI1:=hIa true
      have hI2:=hIa false;simp only[wi,if_true,jmF,if_false] at hI1 hI2;refine S4 ?_;refine cZ (λc5=>?_) (λc5=>?_)
      .refine S3 ?_;refine a9 (qS (j:=k) (λw hs=>(hs.all 0 _ J).1) J J J JM hIk) ?_;refine S1 ?_;refine a9 (jn J J ju (Gl (i:=5) (λw hs=>(hs.all 0 _ J).1) hIk Om J)) ?_;refine S2 ?_;refine a9 (qS (j:=k) (λw hs=>(hs.all 0 _ J).1) J J J JM hIk) ?_;refine S2 ?_;refine uW (k:=0) (vs:=[.int .i64 ((nt I k).two+sg E)]) J J J J (by rfl) (by rfl) Kl.szx J J (by simp) (by rw[W2 qz 8 Kc];simp only[jlS,jl5];omega) ?_;refine n9 ?_;rw[jdQ hIk rfl];refine S8 ?_;exact Jn hL1 ((i+1,qA,qc)) ((show i+1<=n by omega)) (by simp only;omega) ⟨(by rw[hIn,HQ];rfl),vi Om,sz⟩ (λ_ h=>h.upto ⟨by rw[hIn,c5,Tb,HQ],trivial⟩)
      .refine S3 ?_;refine a9 (qS (j:=k) (λw hs=>(hs.all 0 _ J).1) J J J JM hIk) ?_;refine S1 ?_;refine a9 (jn J J ju (Gl (i:=4) (λw hs=>(hs.all 0 _ J).1) hIk Om J)) ?_;refine S2 ?_;refine a9 (qS (j:=k) (λw hs=>(hs.all 0 _ J).1) J J J JM hIk) ?_;refine S2 ?_;refine uW (k:=0) (vs:=[.int .i64 ((nt I k).one+sg E)]) J J J J (by rfl) (by rfl) Kl.szx J J (by simp) (by rw[W2 qz 8 Kc];simp only[jlS,jl5];omega) ?_;refine n9 ?_;rw[jdP hIk rfl];refine S8 ?_;exact Jn hL1 ((i+1,qA,qc)) ((show i+1<=n by omega)) (by simp only;omega) ⟨(by rw[hIn,HQ];rfl),vi Om,sz⟩ (λ_ h=>h.upto ⟨by rw[hIn,c5,Tb,HQ],trivial⟩)
 .have hin:i=n:=Om;have hMe:M=Qf s es l:=(by rw[hM,hin,<-hln,jms])
  refine S11 ?_;refine jK J (.tmp J) ?_;intro w' hs;exact⟨(rA,rc),by rw[hMe],hs.over.wrs.mono λb hb=>zO.2 hb,by have:=(hs.all 0 _ rfl).1;rw[hMe] at this;exact this,λb hb=>by have:=(hs.all 0 _ rfl).2.1 b (by rw[hMe];exact hb);exact this.elim .inr (λh=>.inl (zO.2 h)),rfl⟩
end Go.Proofs.YtjbahemkhphndaaGreat
