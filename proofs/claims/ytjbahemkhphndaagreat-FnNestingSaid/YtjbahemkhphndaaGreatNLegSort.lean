import Derived.Test.YtjbahemkhphndaaGreatNTopo4
import Derived.Test.YtjbahemkhphndaaGreatNRev
import Derived.Test.YtjbahemkhphndaaGreatNSnapG
import Derived.Test.YtjbahemkhphndaaGreatNSd2
import Derived.Test.YtjbahemkhphndaaGreatNSimp
set_option linter.unusedVariables false
set_option linter.unusedSimpArgs false
namespace Go.Proofs.YtjbahemkhphndaaGreat
open Go Go.Shelf Go.RowKit Go.Lib Go.Sort
variable{A:Option Addr}{cur:Array Value}{i:Nat}{os:Array Obj}{rest:List Value}{w:World}{xs:List Leg}
set_option maxRecDepth 100000
set_option maxHeartbeats 4000000
structure Gw where
 val:Leg
 ok:qK val
instance:Inhabited Gw:=⟨⟨⟨0,0,0,0⟩,⟨by decide,by decide⟩,⟨by decide,by decide⟩,⟨by decide,by decide⟩,by decide,by decide⟩⟩
def M4(x:Gw):List Value:=jW x.val
def TP(e f:Leg):Int:=if wZ (lA e) (lA f)=0 then wZ (lB e) (lB f) else wZ (lA e) (lA f)
theorem Ck(p q:Pn):wZ p q=0↔p=q:=by
 have h1:=UE (p.1-q.1);have h2:=UE (p.2-q.2)
 obtain⟨x,y⟩:=p;obtain⟨x',y'⟩:=q;unfold wZ;simp only[Prod.mk.injEq] at*;split<;>omega
theorem jg3(e f:Leg):TP e f<0↔XB e f:=by
 have h1:=Ck (lA e) (lA f);have h2:=Bp (lA e) (lA f)
 have h3:=Bp (lB e) (lB f);unfold TP XB;split
 .rename_i h;rw[h3];constructor
  .exact λk=>.inr ⟨h1.1 h,k⟩
  .rintro(k|⟨_,k⟩)
   .rw[h1.1 h] at k;exact absurd k (kX _)
   .exact k
 .rename_i h;rw[h2];constructor
  .exact .inl
  .rintro(k|⟨k,_⟩)
   .exact k
   .exact absurd (h1.2 k) h
theorem jaz(x y:Gw):ltOf (λx y:Gw=>TP x.val y.val) x y=decide (XB x.val y.val):=by
 unfold ltOf;rw[jl8,decide_eq_true_iff,decide_eq_true_iff];exact jg3 _ _
theorem jlF:SWO (ltOf λx y:Gw=>TP x.val y.val) where
 irrefl x:=by rw[jaz];exact decide_eq_false (vS _)
 trans x y z h1 h2:=by rw[jaz,decide_eq_true_iff] at*;exact YP h1 h2
 ntrans x y z h1 h2:=by
  rw[jaz] at*;simp only[decide_eq_false_iff_not] at*;exact C1 h1 h2
theorem jao(xs:List Leg)(k j:Nat)(hk:k<xs.length)(hj:j<4):(xs.flatMap jW)[k*4+j]? =(jW xs[k])[j]? :=GY jW 4 (λ_=>rfl) xs k j hk hj
theorem QX(xs:List Leg):(xs.flatMap jW).length=xs.length*4:=W2 jW 4 (λ_=>rfl) xs
theorem RU(xs:List Leg)(j:Nat)(h:j<xs.length*4):(xs.flatMap jW)[j]? =(jW (xs[j/4]'(by omega)))[j % 4]? :=by
 have:=jao xs (j/4) (j % 4) Om Om
 rwa [show j/4*4+j % 4=j by omega] at this
theorem jcA(w:World)(q:Nat)(os:Array Obj):Over w (grow (w.drewN q) os):=⟨rfl,rfl,rfl,by simp[World.drewN],λk hk=>heap_grow_old (w.drewN q) os hk⟩
theorem HB{W w':World}{q:Nat}(h:w'=grow (W.drewN q) os):Over W w':=by rw[h];exact jcA _ _ _
theorem GK{l:Leg}(h:qK l):Xh (lA l)/\Xh (lB l):=⟨(WG h).wide,(uB h).wide⟩
theorem jkU(W:World)(a b:Array Obj)(p:Nat):grow ((grow W a).drewN p) b=grow (W.drewN p) (a++b):=by simp[grow,World.drewN,Array.append_assoc]
theorem jkV(W:World)(a b c:Array Obj)(p q:Nat):grow ((grow ((grow W a).drewN p) b).drewN q) c=grow (W.drewN (p+q)) (a++b++c):=by simp[grow,World.drewN,Array.append_assoc,jmZ]
set_option maxRecDepth 100000 in
set_option maxHeartbeats 2000000 in
theorem jcB(e f:Leg)(he:qK e)(hf0:qK f)(W:World):Calls Tryz.prog 143 #[.agg #[.int .i64 e.ax,.int .i64 e.ay,.int .i64 e.bx,.int .i64 e.b_y],.agg #[.int .i64 f.ax,.int .i64 f.ay,.int .i64 f.bx,.int .i64 f.b_y]] W λr w'=>r=.returned (.int .i64 (TP e f))/\∃q' os',w'=grow (W.drewN q') os':=by
 have c1:=yK (lA e) (lA f) (GK he).1 (GK hf0).1;have c2:=yK (lB e) (lB f) (GK he).2 (GK hf0).2
 unfold TP;generalize wZ (lA e) (lA f)=r1 at*;generalize wZ (lB e) (lB f)=r2 at*;simp only[lA,lB] at c1 c2;obtain⟨a1,a2,a3,a4⟩:=e;obtain⟨b1,b2,b3,b4⟩:=f;simp only at c1 c2⊢;clear he hf0;by_cases h0:r1=0
 .subst h0;rw[if_pos rfl]
  go_enter Tryz.func143,Tryz.ntmps143
  go_wp2_with fail
  refine(c1 _).mono ?_;rintro e w1 ⟨rfl,q1,os1,hw1⟩;have hb:=HB hw1
  replace hw1:=Lib.hid hw1;obtain⟨hc,hf⟩:=Jy hb;clear hb
  go_wp2_with fail
  refine(c2 _).mono ?_;rintro e w2 ⟨rfl,q2,os2,hw2⟩;replace hw2:=Lib.hid hw2
  go_wp2_with fail
  go_ret;exact⟨rfl,_,_,by rw[hw2.out,hw1.out,alloc_eq_grow,alloc_eq_grow,grow_grow,jkV]⟩
 .rw[if_neg h0]
  go_enter Tryz.func143,Tryz.ntmps143
  go_wp2_with fail
  refine(c1 _).mono ?_;rintro e w1 ⟨rfl,q1,os1,hw1⟩;replace hw1:=Lib.hid hw1
  go_wp2_with fail
  go_ret;exact⟨rfl,_,_,by rw[hw1.out,alloc_eq_grow,alloc_eq_grow,grow_grow,jkU]⟩
theorem jdZ(blk off size:Nat)(w:World):CmpLays Tryz.prog 143 #[] M4 4 (λx y:Gw=>TP x.val y.val) blk off size w:=
 λ_ _ _ _ x y=>jcB x.val y.val x.ok y.ok _
theorem jln(w:World):(isAgg (zW.t 24)).run Tryz.prog w=.ok true w:=Tryz.isAgg72 w
theorem jlD(w:World):(Go.sizeOf (zW.t 24)).run Tryz.prog w=.ok 4 w:=Tryz.sizeOf72 w
def Ze(xs:List Leg)(hx:∀p∈xs,qK p):List Gw:=xs.attach.map λp=>Gw.mk p.1 (hx p.1 p.2)
theorem EE(xs:List Leg)(hx:∀p∈xs,qK p):(Ze xs hx).length=xs.length:=by simp[Ze]
theorem EF(xs:List Leg)(hx:∀p∈xs,qK p):(Ze xs hx).map (·.val)=xs:=by
 rw[Ze,jni];exact List.attach_map_subtype_val xs
theorem Nc(d:Array Gw)(j:Nat)(h:j<d.size*4):((d.toList.map (·.val)).flatMap jW)[j]? =some (flatK M4 4 d)[j]! :=by
 rw[get_flatK _ _ _ _ h,RU _ _ (by simpa using h)];have hj:j/4<d.size:=by omega
 rw[getElem!_pos d (j/4) hj];simp only[jmW,Array.getElem_toList];have h2:j % 4<(M4 d[j/4]).length:=by simp[M4,jW];omega
 rw[getElem!_pos (M4 d[j/4]) (j % 4) h2];exact List.getElem?_eq_getElem h2
theorem DD{g m T:Nat}{d':Array Gw}(hg:w.heap[g]? =some (.cells cur T (0,0)))(b:Nat)(hb:b<w.heap.size):
  (sortWorldK M4 4 w g 0 m d' os).heap[b]? =if g=b then some (.cells (Sort.putCells id 0 (flatK M4 4 d') cur) T (0,0)) else w.heap[b]? :=by
 show((w.heap.modify g (Sort.onCells (Sort.putCells id 0 (flatK M4 4 d'))))++os)[b]? =_;rw[Array.getElem?_append_left (by simpa using hb),Array.getElem?_modify];split
 .rename_i e;subst e;rw[hg];rfl
 .rfl
theorem jc4{B g c n:Nat}(h:w.ownsRow B 72 4 (.slice (some ⟨g,0,none⟩) n c) n (xs.flatMap jW))(hl:xs.length=n)(hx:∀p∈xs,qK p)(hn:n<=1048576)(h0:0<n):
  Calls Tryz.prog 142 #[.slice (some ⟨g,0,none⟩) n c,.func (.func 143) #[] #[]] w λe w'=>e=.returned (.tuple #[])/\∃ys,ys.Perm xs/\jbJ ys/\Wrs (· =g) w w'/\w'.ownsRow 0 72 4 (.slice (some ⟨g,0,none⟩) n c) n (ys.flatMap jW):=by
 rcases h.2 with⟨_,e⟩|⟨g',cap,cur,e,hb,hg,hcap,hmax,hsz,htk⟩
 .omega
 .injection e with e1 e2 e3
  injection e1 with e1
  injection e1 with e1
  subst e1 e3;have hds:(Ze xs hx).toArray.size=n:=by simp[EE,hl]
  have hval:((Ze xs hx).toArray.toList.map (·.val))=xs:=by rw[jmP];exact EF xs hx
  have hH:HoldsK M4 4 w g 0 (Ze xs hx).toArray:=by
   intro j hj;rw[size_flatK,hds] at hj;refine⟨?_,?_⟩
   .rw[jmd,cell_of_row w g j cur _ (0,0) hg];have:=Nc (Ze xs hx).toArray j (by rw[hds];exact hj)
    rw[hval,<-htk,List.getElem?_take,if_pos hj] at this;simpa using this
   .unfold World.frozen?;simp only[hg];simp
  have eg:∀args w,(callFunc 143 args).run Tryz.prog w=.ok (.enter 143 args) w:=enters_of Tryz.func143 Kr rfl;have hcon:=AnyQ.slices_SortFunc jf4 4 jln jlD M4 (λ_=>rfl) (λx v hv=>by simp[M4,jW] at hv;rcases hv with rfl|rfl|rfl|rfl<;>rfl) (λx y:Gw=>TP x.val y.val) jlF 143 #[] g 0 c (Ze xs hx).toArray w eg (jdZ g 0 _ w) hH (J3 hg) Om
  rw[hds] at hcon;refine hcon.mono ?_;rintro e w' ⟨rfl,d',m,os,hp,hs,rfl⟩;have hd':d'.size=n:=hp.1.trans hds
  refine⟨J,d'.toList.map (·.val),?_,?_,?_,?_⟩
  .have:=hp.2.2.map (·.val);rw[<-hd',Array.extract_size,hd',<-hds,Array.extract_size,hval] at this;exact this
  .refine jmQ.2 λi j hi hj hij=>?_
   simp only[jlV,Array.length_toList] at hi hj;have:=hs i j (jlN _) hij Om
   rw[jaz,decide_eq_false_iff_not,getElem!_pos d' j hj,getElem!_pos d' i hi] at this;simpa using this
  .refine⟨J,J,J,by exact size_sortWorldK_c _ _ _ _ _ _ _ _,λb hb hne=>?_⟩;rw[DD hg b hb,if_neg (λe=>hne e.symm)]
  .refine⟨by rw[QX];simp[hd'],.inr ⟨g,c,Sort.putCells id 0 (flatK M4 4 d') cur,J,jlN _,?_,hcap,hmax,by simp[Sort.putCells,hsz],?_⟩⟩
   .rw[DD hg g (J3 hg),if_pos rfl]
   .apply List.ext_getElem?;intro j;rw[List.getElem?_take];by_cases hj:j<n*4
    .rw[if_pos hj,Nc d' j (by rw[hd'];exact hj),Array.getElem?_toList];have hjc:j<cur.size:=by omega
     simp only[Sort.putCells,Array.getElem?_mapIdx,Array.getElem?_eq_getElem hjc,jnE,size_flatK,hd'];rw[if_pos ⟨jlN _,by omega⟩,Nat.sub_zero];rfl
    .rw[if_neg hj,List.getElem?_eq_none (by rw[QX];simp[hd'];omega)]
theorem XU:∀(l:List Leg) (q p:Leg),Q3 (l++[q]++[p])=Q3 (l++[q])++(if q=p then [] else [p])
 |[],q,p=>by
  simp only[jmt,List.singleton_append,Q3];split
  .rename_i h;rw[h]
  .rfl
 |[a],q,p=>by
  have h:=XU [] q p;simp only[jmt,List.singleton_append,jmf] at h⊢;rw[Q3,h]
  conv=>rhs;rw[Q3]
  split<;>rfl
 |a::b::l,q,p=>by
  have h:=XU (b::l) q p;simp only[jmf] at h⊢;rw[Q3,h]
  conv=>rhs;rw[Q3]
  split<;>rfl
theorem uJ(h1:1<=i)(h:i<xs.length):Q3 (xs.take (i+1))=Q3 (xs.take i)++(if lg xs (i-1)=lg xs i then [] else [lg xs i]):=by
 obtain⟨j,rfl⟩:∃j,i=j+1:=⟨i-1,by omega⟩;rw[jlX h,jlX (show j<xs.length by omega),XU,uu h,uu (show j<xs.length by omega)];rfl
theorem Ln:∀l:List Leg,(Q3 l).length<=l.length
 |[]=>jlL _
 |[_]=>jlL _
 |p::q::l=>by
  have:=Ln (q::l);unfold Q3;simp only[jlS] at*;split
  .omega
  .rw[jlS];omega
theorem XT{xs:List Leg}:∀i,i<=xs.length->(∀j,1<=j->j<i->¬lg xs (j-1)=lg xs j)->Q3 (xs.take i)=xs.take i
 |0,_,_=>rfl
 |1,h,_=>by
  match xs,h with
  |p::l,_=>rfl
 |i+2,h,hj=>by
  rw[uJ Om Om,XT (i+1) Om (λj h1 h2=>hj j h1 Om),if_neg (hj (i+1) Om Om),<-uu Om];exact(jlX Om).symm
def Yn(xs:List Leg)(i:Nat):List Leg:=Q3 (xs.take i)++xs.drop (Q3 (xs.take i)).length
theorem TO(h:i<=xs.length):(Yn xs i).length=xs.length:=by
 have:=Ln (xs.take i);rw[jl3] at this;rw[Yn,jlJ,jmb];omega
theorem jg0{j:Nat}(h:(Q3 (xs.take i)).length<=j):lg (Yn xs i) j=lg xs j:=by
 simp only[lg,List.getD,Yn,List.getElem?_append_right h,List.getElem?_drop];rw[show(Q3 (xs.take i)).length+(j-(Q3 (xs.take i)).length)=j by omega]
theorem jg1(h1:1<=i)(h:i<xs.length)(he:lg xs (i-1)=lg xs i):Yn xs (i+1)=Yn xs i:=by rw[Yn,uJ h1 h,if_pos he,jl9];rfl
theorem jdX(h1:1<=i)(h:i<xs.length)(he:¬lg xs (i-1)=lg xs i)(hk:(Q3 (xs.take i)).length<xs.length):(Yn xs (i+1)).flatMap jW=qV ((Yn xs i).flatMap jW) ((Q3 (xs.take i)).length*4) (jW (lg xs i)):=by
 rw[Yn,Yn,uJ h1 h,if_neg he];generalize Q3 (xs.take i)=C at*;rw[jmu hk,jlJ,jmE,jlW,jlW,jlW,jl4];have hC:C.length*4=(C.flatMap jW).length:=(QX C).symm
 rw[hC,jl4 (xs:=List.drop _ _),<-jlT (C.flatMap jW) (jW xs[C.length]),yz (jW (lg xs i)) (C.flatMap jW) (jW xs[C.length]) _ rfl];simp
def D4(m:Nat):List Value:=(Builtin.zeroCells (Value.agg #[.int .i64 0,.int .i64 0,.int .i64 0,.int .i64 0]).cells m).toList
theorem D5(m:Nat):(D4 m).length=m*4:=by
 rw[D4,Array.length_toList,size_zeroCells];rfl
theorem EI(m:Nat):(D4 m).all (·.oneCell')=true:=by
 rw[jm4];intro v hv;rw[D4,Array.mem_toList_iff,Builtin.zeroCells] at hv;obtain⟨i,hi,rfl⟩:=Array.mem_map.1 hv;have:i % 4<4:=jnA _ Dc
 show(#[Value.int .i64 0,Value.int .i64 0,Value.int .i64 0,Value.int .i64 0][i % 4]!).oneCell'=true;rcases(show i % 4=0\/i % 4=1\/i % 4=2\/i % 4=3 by omega) with e|e|e|e<;>rw[e]<;>rfl
def Oa(xs:List Leg)(i:Nat):Nat:=(Q3 (xs.take i)).length
theorem BH(h1:1<=i)(h:i<xs.length)(he:lg xs (i-1)=lg xs i):Oa xs (i+1)=Oa xs i:=by rw[Oa,uJ h1 h,if_pos he,jl9];rfl
theorem Nq(h1:1<=i)(h:i<xs.length)(he:¬lg xs (i-1)=lg xs i):Oa xs (i+1)=Oa xs i+1:=by rw[Oa,uJ h1 h,if_neg he,jlJ];rfl
theorem G6{e f:Leg}:(e.ax==f.ax&&e.ay==f.ay&&e.bx==f.bx&&e.b_y==f.b_y)=decide (f=e):=by
 rcases e with⟨a1,a2,a3,a4⟩
 rcases f with⟨b1,b2,b3,b4⟩
 rw[jl8];simp only[jlK,beq_iff_eq,decide_eq_true_eq,Leg.mk.injEq];omega
theorem ZW(h:∀j,1<=j->j<xs.length->¬lg xs (j-1)=lg xs j):Q3 xs=xs:=by
 have:=XT xs.length (jlL _) h
 rwa [jms] at this
theorem MP :(xs.flatMap jW++rest).take (xs.length*4)=xs.flatMap jW:=List.take_left' (QX xs)
theorem PV{zs:List Value}{n c:Nat}(hn:xs.length=n)(hl:((Yn xs n).flatMap jW++rest).length=c*4)(hK:Oa xs n*4+zs.length<=c*4):
  (qV ((Yn xs n).flatMap jW++rest) (0+Oa xs n*4) zs).take ((Q3 xs).length*4)=(Q3 xs).flatMap jW:=by
 have e:(Q3 xs).length=Oa xs n:=by rw[Oa,<-hn,jms]
 have ec:Q3 (xs.take n)=Q3 xs:=by rw[<-hn,jms]
 apply List.ext_getElem?;intro i;rw[List.getElem?_take,e,jmd];by_cases hi:i<Oa xs n*4
 .rw[if_pos hi,DH i Om,if_neg Om,Yn,jlW,jlT,List.getElem?_append_left (by rw[QX];exact hi),ec]
 .rw[if_neg hi,List.getElem?_eq_none (by rw[QX,e];omega)]
theorem Ra(b T c n:Nat)(xs:List Leg)(rest:List Value)(w:World)(hh:w.heap[b]? =some (.cells (xs.flatMap jW++rest).toArray T (0,0)))(hc:n<=c)(hl:((xs.flatMap jW)++rest).length=c*4)(hn:xs.length=n)(hn2:n<=1048577):
  Calls Tryz.prog 144 #[.slice (some ⟨b,0,none⟩) n c] w λe w'=>e=.returned (.slice (some ⟨b,0,none⟩) (Q3 xs).length c)/\Wr b w w'/\∃cs:List Value,w'.heap[b]? =some (.cells cs.toArray T (0,0))/\cs.length=c*4/\cs.take ((Q3 xs).length*4)=(Q3 xs).flatMap jW:=by
 have hr2:∀(zs:List Leg),zs.length=n->∀k,k<n->∀w':World,w'.heap[b]? =some (.cells (zs.flatMap jW++rest).toArray T (0,0))->∀(q:Nat) (v:Value),[Value.int .i64 (lg zs k).ax,Value.int .i64 (lg zs k).ay,Value.int .i64 (lg zs k).bx,Value.int .i64 (lg zs k).b_y][q]? =some v->w'.cell? ⟨b,0+k*4+q,none⟩=some v:=λzs hz k hk w' hw q v hv=>by
  have hq:q<4:=by have:=(List.getElem?_eq_some_iff.1 hv).1;simpa using this
  rw[cell_of_row w' b _ _ T (0,0) hw,jmd];have hf:=jao zs k q Om hq
  rw[uu Om] at hf;have:(zs.flatMap jW++rest).toArray[k*4+q]? =(zs.flatMap jW)[k*4+q]? :=by
   rw[List.getElem?_toArray,List.getElem?_append_left (by rw[QX];omega)]
  rw[this,hf];exact hv
 refine Q8 (m:=61) (Tryz.func144) J J (lb J) (hh) ?_;refine S11 ?_;refine cZ (λc1=>?_) (λc1=>?_)
 .refine S7 ?_;refine jK J (.tmp J) ?_;intro w' hs;exact⟨by rw[ZW λj h1 h2=>absurd h2 Om,hn],hs.over.wr,_,hs.cel (k:=0) rfl,hl,by rw[ZW λj h1 h2=>absurd h2 Om];exact MP⟩
 .refine S8 ?_;refine qD (X:=Nat) (λk=>1<=k/\k<=n/\(∀j,1<=j->j<k->¬lg xs (j-1)=lg xs j)) (λk=>n-k) (λk=>[(3,.int .i64 (k:Int))]) (kK [0,2]) 1 (⟨jlL _,by omega,λj h1 h2=>absurd h2 Om⟩) ⟨J,sz⟩ ?_;intro k hk L hL1;refine V8 ?_;refine cZ (λc2=>?_) (λc2=>?_)
  .refine S6 ?_;refine JY 10 ?_;refine dK 0 ?_;refine dK 1 ?_;refine dK 2 ?_;refine dZ 3 J (jj J J qF J (λw' hs=>hr2 xs hn k Om w' (hs.cel (k:=0) J))) ?_;refine dK 4 ?_;refine dK 5 ?_;refine dZ 6 J ((JP J J J Om Om).as (congrArg _ (show((k:Int)-1)=((k-1:Nat):Int) by omega))) ?_;refine dK 7 ?_;refine dZ 8 J (jj J J qF J (λw' hs=>hr2 xs hn (k-1) Om w' (hs.cel (k:=0) J))) ?_;refine dK 9 ?_;refine JK Kr ?_;refine S1 ?_;refine cZ (λc3=>?_) (λc3=>?_)
   .have hkn:k<n:=Om;have hdup:lg xs (k-1)=lg xs k:=of_decide_eq_true (G6▸c3)
    have hoff:ZG 0 k c 4=0+k*4:=by rw[ZG,if_neg Om]
    have hcs:Q3 (xs.take k)=xs.take k:=XT k Om hk.2.2;have hck:Oa xs k=k:=by rw[Oa,hcs,jl3];omega
    have hck1:Oa xs (k+1)=k:=by rw[BH hk.1 Om hdup,hck]
    have hclo:Yn xs (k+1)=xs:=by rw[Yn,uJ hk.1 Om,if_pos hdup,jl9,hcs,jl3,jmO Om,jl1]
    refine S4 ?_;refine a9 ((VR J J J jV Om).as ((U0 (b:=b) (o:=0) (l:=k) (h:=n) (m:=c) (s:=4) hc Om).trans (by rw[hoff]))) ?_;refine S8 ?_;refine JW (X:=Nat) (λj=>1<=j/\k+j<=n/\Oa xs (k+j)+1<=k+j) (λj=>n-j) (λj=>[(3,.int .i64 (Oa xs (k+j):Int)),(5,.int .i64 (j:Int))]) (kK [0,2,10,11,12,13,16,17,18,19,20,21,22,23,24,25,26,27,28,4]) (λj=>[.cel b T ((Yn xs (k+j)).flatMap jW++rest)]) 1 (⟨jlL _,by omega,by omega⟩) ⟨(by rw[hck1];rfl),sz⟩ (λ_ h=>h.upto ⟨by rw[hclo],trivial⟩) ?_;intro j hj L hL2;refine v9 ?_;refine r9 ?_;have hcl:(Yn xs (k+j)).length=n:=(TO Om).trans hn
    refine S8 ?_;refine cZ (λc4=>?_) (λc4=>?_)
    .have hjl:k+j<n:=Om;have hrd:∀i,Oa xs (k+j)<=i->i<n->∀w':World,w'.heap[b]? =some (.cells ((Yn xs (k+j)).flatMap jW++rest).toArray T (0,0))->∀(q:Nat) (v:Value),[Value.int .i64 (lg xs i).ax,Value.int .i64 (lg xs i).ay,Value.int .i64 (lg xs i).bx,Value.int .i64 (lg xs i).b_y][q]? =some v->w'.cell? ⟨b,0+i*4+q,none⟩=some v:=λi h1 h2 w' hw q v hv=>hr2 (Yn xs (k+j)) hcl i h2 w' hw q v (by rw[jg0 h1];exact hv)
     refine S6 ?_;refine JY 10 ?_;refine dK 0 ?_;refine dK 1 ?_;refine dK 2 ?_;refine dZ 3 J (jj J J qF J (λw' hs q v hv=>by rw[show 0+k*4+j*4+q=0+(k+j)*4+q by omega];exact hrd (k+j) Om hjl w' (hs.cel (k:=0) J) q v hv)) ?_;refine dK 4 ?_;refine dK 5 ?_;refine dZ 6 J ((JP J J J Om Om).as (congrArg _ (show((j:Int)-1)=((j-1:Nat):Int) by omega))) ?_;refine dK 7 ?_;refine dZ 8 J (jj J J qF J (λw' hs q v hv=>by rw[show 0+k*4+(j-1)*4+q=0+(k+j-1)*4+q by omega];exact hrd (k+j-1) Om Om w' (hs.cel (k:=0) J) q v hv)) ?_;refine dK 9 ?_;refine JK Kr ?_;refine S1 ?_;refine cZ (λc5=>?_) (λc5=>?_)
     .refine S7 ?_;refine a9 (jj J J qF J (λw' hs q v hv=>by rw[show 0+k*4+j*4+q=0+(k+j)*4+q by omega];exact hrd (k+j) Om hjl w' (hs.cel (k:=0) J) q v hv)) ?_;refine S2 ?_;refine qN (k:=0) J J J J J (by rfl) qp.szx J J (by rw[jlJ,QX,hcl];simp only[jlS,jl5];omega) ?_;refine S13 ?_;exact Jn hL2 (j+1) (⟨by omega,by omega,by rw[<-jmZ,Nq Om Om (of_decide_eq_false (G6▸c5))];omega⟩) Om ⟨vi (by rw[<-jmZ,Nq Om Om (of_decide_eq_false (G6▸c5))];omega),vi Om,sz⟩ (λ_ h=>h.upto ⟨by rw[<-jmZ,jdX Om Om (of_decide_eq_false (G6▸c5)) (by show Oa xs (k+j)<xs.length;omega),xx (by rw[QX,hcl];exact(show 0+Oa xs (k+j)*4+4<=n*4 by omega)),jmd];rfl,trivial⟩)
     .refine S8 ?_;exact Jn hL2 (j+1) (⟨by omega,by omega,by rw[<-jmZ,BH Om Om (of_decide_eq_true (G6▸c5))];omega⟩) Om ⟨vi (by rw[<-jmZ,BH Om Om (of_decide_eq_true (G6▸c5))]),vi Om,sz⟩ (λ_ h=>h.upto ⟨by rw[<-jmZ,jg1 Om Om (of_decide_eq_true (G6▸c5))],trivial⟩)
    .refine S9 ?_;refine a9 ((VR J J J jV Om).as (U0 (b:=b) (o:=0) (l:=Oa xs (k+j)) (h:=n) (m:=c) (s:=4) hc Om)) ?_;refine S1 ?_;refine Ph (k:=0) (zs:=D4 (n-Oa xs (k+j))) J jV qp J J Om J J (EI _) (by rw[jlJ,QX,hcl,D5,ZG,if_neg Om];omega) ?_;refine N5 ?_;refine a9 ((KQ J J J jV Om).as (ui _ _ _ _ _)) ?_;refine S8 ?_;refine jK J (.tmp J) ?_;intro w' hs;have hkj:k+j=n:=by omega
     have hK:(Q3 xs).length=Oa xs n:=by rw[Oa,<-hn,jms]
     have hlc:((Yn xs n).flatMap jW++rest).length=c*4:=by rw[<-hl,jlJ,jlJ,QX,QX,TO Om]
     have hoK:ZG 0 (Oa xs n) c 4=0+Oa xs n*4:=by rw[ZG,if_neg (by rw[<-hkj];omega)]
     rw[hkj,hoK] at hs;rw[hkj] at hj;exact⟨by rw[hK,hkj],hs.over.wr,_,hs.cel (k:=0) rfl,by rw[kY];exact hlc,PV hn hlc (by rw[D5];omega)⟩
   .have hne:¬lg xs (k-1)=lg xs k:=of_decide_eq_false (G6▸c3);refine S8 ?_;exact J6 hL1 (k+1) (⟨by omega,by omega,λj h1 h2=>(jmU j k).elim (λh3=>hk.2.2 j h1 h3) (λh3=>(show k=j by omega)▸hne)⟩) Om ⟨vi Om,sz⟩ (u9 J)
  .refine S11 ?_;refine jK J (.tmp J) ?_;intro w' hs;have hkn:k=n:=by omega
   have hw:=ZW (xs:=xs) λj h1 h2=>hk.2.2 j h1 Om
   exact⟨by rw[hw,hn],hs.over.wr,_,hs.cel (k:=0) rfl,hl,by rw[hw];exact MP⟩
theorem Rc{N c n:Nat}(h:w.ownsRow N 72 4 (.slice A n c) n (xs.flatMap jW))(hn:xs.length=n)(h0:0<n)(hn2:n<=1048577):
  Calls Tryz.prog 144 #[.slice A n c] w λe w'=>e=.returned (.slice A (Q3 xs).length c)/\Wrs (JV N 72 4 n (xs.flatMap jW) (A,c)).F w w'/\(JV N 72 4 (Q3 xs).length ((Q3 xs).flatMap jW) (A,c)).P w':=by
 rcases h.2 with⟨_,e⟩|⟨g,cap,cur,e,hb,hg,hcap,hmax,hsz,htk⟩
 .omega
 .injection e with e1 e2 e3
  subst e1 e3;have hcur:cur.toList=xs.flatMap jW++cur.toList.drop (n*4):=by rw[<-htk,jl1]
  have hg':w.heap[g]? =some (.cells (xs.flatMap jW++cur.toList.drop (n*4)).toArray 72 (0,0)):=by rw[<-hcur,jm1];exact hg
  have hle:=Ln xs;refine(Ra g _ c n xs (cur.toList.drop (n*4)) w hg' hcap (by rw[<-hcur];simpa using hsz) hn hn2).mono ?_;rintro e w' ⟨rfl,hw,cs,hh,hcl,htk'⟩;refine⟨rfl,⟨hw.os,hw.tape,hw.output,hw.size,λq hq hne=>hw.block q hq (λe=>hne (by subst e;rfl))⟩,?_⟩;exact⟨QX _,.inr ⟨g,c,_,rfl,hb,hh,by omega,hmax,by simpa using hcl,by rw[jmP];exact htk'⟩⟩
theorem jeH(v:Value)(w:World):Calls Tryz.prog 172 #[.slice none 0 0,.int .i64 0,.int .i64 0,v] w λe w'=>e=.returned (.tuple #[])/\Over w w':=by
 refine Jm (m:=53) (Tryz.func172) J J (lb J) ?_;refine S7 ?_;refine qD (X:=Unit) (λu=>True) (λu=>0) (λu=>[(8,.int .i64 1)]) (kK [0,1,2,3]) () (trivial) ⟨J,sz⟩ ?_;intro u hu L hL1;refine V7 ?_;refine cZ (λc1=>?_) (λc1=>?_)
 .omega
 .refine S4 ?_;refine kV J ?_;intro w' hs;exact⟨rfl,hs.fin⟩
theorem jfr(l:Int)(v:Value)(w:World):Calls Tryz.prog 163 #[.slice none 0 0,.int .i64 0,.int .i64 0,.int .i64 l,v] w λe w'=>e=.returned (.tuple #[])/\Over w w':=by
 refine Jm (m:=148) (Tryz.func163) J J (lb J) ?_;refine S9 ?_;refine qD (X:=Unit) (λu=>True) (λu=>0) (λu=>[]) (kK [0,1,2,3,4,10,11]) () (trivial) sz ?_;intro u hu L hL1;refine V14 ?_;refine cZ (λc1=>?_) (λc1=>?_)
 .refine S6 ?_;refine a9 (jT wc J J (λw h=>jeH v w)) ?_;refine S6 ?_;refine xH J ?_;intro w' hs;exact⟨rfl,hs.fin⟩
 .omega
theorem jeL(w:World):Calls Tryz.prog 130 #[.int .u64 0] w λe w'=>(∃l:Int,e=.returned (.int .i64 l))/\w=w':=
 (Any.bits_Len (SlLaysF0.n15.bits (P:=Tryz.prog) (ρ:=zW) {jf4 with}) 0 w Om Om).mono λ_ _ ⟨he,hw⟩=>⟨⟨_,he⟩,hw.symm⟩
theorem jc1(w:World):Calls Tryz.prog 142 #[.slice none 0 0,.func (.func 143) #[] #[]] w λe w'=>e=.returned (.tuple #[])/\Over w w':=by
 go_enter Tryz.func142,Tryz.ntmps142
 go_wp2_with fail
 go_at_call 130
 refine(jeL _).mono ?_;rintro e w1 ⟨⟨l,rfl⟩,rfl⟩
 go_wp2_with fail
 go_at_call 163
 refine(jfr _ _ _).mono ?_;rintro e w1 ⟨rfl,hb⟩
 go_wp2_with fail
 go_end0
 exact⟨rfl,hb⟩
theorem Rb(w:World):Calls Tryz.prog 144 #[.slice none 0 0] w λe w'=>e=.returned (.slice none 0 0)/\Over w w':=by
 refine Jm (m:=61) (Tryz.func144) J J (lb J) ?_;refine S11 ?_;refine cZ (λc1=>?_) (λc1=>?_)
 .refine S7 ?_;refine jK J (.tmp J) ?_;intro w' hs;exact⟨rfl,hs.fin⟩
 .omega
end Go.Proofs.YtjbahemkhphndaaGreat
