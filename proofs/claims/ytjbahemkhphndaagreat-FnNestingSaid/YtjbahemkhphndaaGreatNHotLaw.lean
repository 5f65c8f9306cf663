import Derived.Test.YtjbahemkhphndaaGreatNRounds
import Derived.Test.YtjbahemkhphndaaGreatNTopo2
import Derived.Test.YtjbahemkhphndaaGreatNRev
set_option linter.unusedVariables false
set_option linter.unusedSimpArgs false
namespace Go.Proofs.YtjbahemkhphndaaGreat
open Go Go.RowKit
variable{A:Option Addr}{c i n:Nat}{cur:Array Value}{ls:List Leg}{os:Array Obj}{rest:List Value}{w:World}{xs:List Pn}
set_option maxRecDepth 100000
set_option maxHeartbeats 4000000
open Go Go.Shelf Go.RowKit
open Go Go.Shelf
open Go Go.Shelf Go.RowKit Go.Lib Go.Sort
structure Pw where
 val:Pn
 ok:Xh val
instance:Inhabited Pw:=⟨⟨(0,0),⟨⟨by decide,by decide⟩,by decide,by decide⟩⟩⟩
def M5(x:Pw):List Value:=Jt x.val
theorem jaA(x y:Pw):ltOf (λx y:Pw=>wZ x.val y.val) x y=decide (vv x.val y.val):=by
 unfold ltOf;rw[jl8,decide_eq_true_iff,decide_eq_true_iff];exact Bp _ _
theorem jlG:SWO (ltOf λx y:Pw=>wZ x.val y.val) where
 irrefl x:=by rw[jaA];exact decide_eq_false (kX _)
 trans x y z h1 h2:=by rw[jaA,decide_eq_true_iff] at*;exact VQ h1 h2
 ntrans x y z h1 h2:=by
  rw[jaA] at*;simp only[decide_eq_false_iff_not] at*;unfold vv at*;omega
theorem jd0(blk off size:Nat)(w:World):CmpLays Tryz.prog 109 #[] M5 2 (λx y:Pw=>wZ x.val y.val) blk off size w:=
 λ_ _ _ _ x y=>yK x.val y.val x.ok y.ok _
theorem jlo(w:World):(isAgg (zX.t 24)).run Tryz.prog w=.ok true w:=Tryz.isAgg36 w
theorem jlE(w:World):(Go.sizeOf (zX.t 24)).run Tryz.prog w=.ok 2 w:=Tryz.sizeOf36 w
def Zf(xs:List Pn)(hx:∀p∈xs,Xh p):List Pw:=xs.attach.map λp=>Pw.mk p.1 (hx p.1 p.2)
theorem EG(xs:List Pn)(hx:∀p∈xs,Xh p):(Zf xs hx).length=xs.length:=by simp[Zf]
theorem EH(xs:List Pn)(hx:∀p∈xs,Xh p):(Zf xs hx).map (·.val)=xs:=by
 rw[Zf,jni];exact List.attach_map_subtype_val xs
theorem Nd(d:Array Pw)(j:Nat)(h:j<d.size*2):((d.toList.map (·.val)).flatMap Jt)[j]? =some (flatK M5 2 d)[j]! :=by
 rw[get_flatK _ _ _ _ h,Py _ _ (by simpa using h)];have hj:j/2<d.size:=by omega
 rw[getElem!_pos d (j/2) hj];simp only[jmW,Array.getElem_toList];have h2:j % 2<(M5 d[j/2]).length:=by simp[M5,Jt];omega
 rw[getElem!_pos (M5 d[j/2]) (j % 2) h2];exact List.getElem?_eq_getElem h2
theorem IV{g m T:Nat}{d':Array Pw}(hg:w.heap[g]? =some (.cells cur T (0,0)))(b:Nat)(hb:b<w.heap.size):
  (sortWorldK M5 2 w g 0 m d' os).heap[b]? =if g=b then some (.cells (Sort.putCells id 0 (flatK M5 2 d') cur) T (0,0)) else w.heap[b]? :=by
 show((w.heap.modify g (Sort.onCells (Sort.putCells id 0 (flatK M5 2 d'))))++os)[b]? =_;rw[Array.getElem?_append_left (by simpa using hb),Array.getElem?_modify];split
 .rename_i e;subst e;rw[hg];rfl
 .rfl
theorem jf8{B g:Nat}(h:w.ownsRow B 36 2 (.slice (some ⟨g,0,none⟩) n c) n (xs.flatMap Jt))(hl:xs.length=n)(hx:∀p∈xs,Xh p)(hn:n<=1048576)(h0:0<n):
  Calls Tryz.prog 108 #[.slice (some ⟨g,0,none⟩) n c,.func (.func 109) #[] #[]] w λe w'=>e=.returned (.tuple #[])/\∃ys,ys.Perm xs/\Ris ys/\Wrs (· =g) w w'/\w'.ownsRow 0 36 2 (.slice (some ⟨g,0,none⟩) n c) n (ys.flatMap Jt):=by
 rcases h.2 with⟨_,e⟩|⟨g',cap,cur,e,hb,hg,hcap,hmax,hsz,htk⟩
 .omega
 .injection e with e1 e2 e3
  injection e1 with e1
  injection e1 with e1
  subst e1 e3;have hds:(Zf xs hx).toArray.size=n:=by simp[EG,hl]
  have hval:((Zf xs hx).toArray.toList.map (·.val))=xs:=by rw[jmP];exact EH xs hx
  have hH:HoldsK M5 2 w g 0 (Zf xs hx).toArray:=by
   intro j hj;rw[size_flatK,hds] at hj;refine⟨?_,?_⟩
   .rw[jmd,cell_of_row w g j cur _ (0,0) hg];have:=Nd (Zf xs hx).toArray j (by rw[hds];exact hj)
    rw[hval,<-htk,List.getElem?_take,if_pos hj] at this;simpa using this
   .unfold World.frozen?;simp only[hg];simp
  have eg:∀args w,(callFunc 109 args).run Tryz.prog w=.ok (.enter 109 args) w:=enters_of Tryz.func109 Kr rfl;have hcon:=AnyQ.slices_SortFunc jf5 2 jlo jlE M5 (λ_=>rfl) (λx v hv=>by simp[M5,Jt] at hv;rcases hv with rfl|rfl<;>rfl) (λx y:Pw=>wZ x.val y.val) jlG 109 #[] g 0 c (Zf xs hx).toArray w eg (jd0 g 0 _ w) hH (J3 hg) Om
  rw[hds] at hcon;refine hcon.mono ?_;rintro e w' ⟨rfl,d',m,os,hp,hs,rfl⟩;have hd':d'.size=n:=hp.1.trans hds
  refine⟨J,d'.toList.map (·.val),?_,?_,?_,?_⟩
  .have:=hp.2.2.map (·.val);rw[<-hd',Array.extract_size,hd',<-hds,Array.extract_size,hval] at this;exact this
  .refine jmQ.2 λi j hi hj hij=>?_
   simp only[jlV,Array.length_toList] at hi hj;have:=hs i j (jlN _) hij Om
   rw[jaA,decide_eq_false_iff_not,getElem!_pos d' j hj,getElem!_pos d' i hi] at this;simpa using this
  .refine⟨J,J,J,by exact size_sortWorldK_c _ _ _ _ _ _ _ _,λb hb hne=>?_⟩;rw[IV hg b hb,if_neg (λe=>hne e.symm)]
  .refine⟨by rw[Qk];simp[hd'],.inr ⟨g,c,Sort.putCells id 0 (flatK M5 2 d') cur,J,jlN _,?_,hcap,hmax,by simp[Sort.putCells,hsz],?_⟩⟩
   .rw[IV hg g (J3 hg),if_pos rfl]
   .apply List.ext_getElem?;intro j;rw[List.getElem?_take];by_cases hj:j<n*2
    .rw[if_pos hj,Nd d' j (by rw[hd'];exact hj),Array.getElem?_toList];have hjc:j<cur.size:=by omega
     simp only[Sort.putCells,Array.getElem?_mapIdx,Array.getElem?_eq_getElem hjc,jnE,size_flatK,hd'];rw[if_pos ⟨jlN _,by omega⟩,Nat.sub_zero];rfl
    .rw[if_neg hj,List.getElem?_eq_none (by rw[Qk];simp[hd'];omega)]
theorem XW:∀(l:List Pn) (q p:Pn),ka (l++[q]++[p])=ka (l++[q])++(if q=p then [] else [p])
 |[],q,p=>by
  simp only[jmt,List.singleton_append,ka];split
  .rename_i h;rw[h]
  .rfl
 |[a],q,p=>by
  have h:=XW [] q p;simp only[jmt,List.singleton_append,jmf] at h⊢;rw[ka,h]
  conv=>rhs;rw[ka]
  split<;>rfl
 |a::b::l,q,p=>by
  have h:=XW (b::l) q p;simp only[jmf] at h⊢;rw[ka,h]
  conv=>rhs;rw[ka]
  split<;>rfl
theorem uK(h1:1<=i)(h:i<xs.length):ka (xs.take (i+1))=ka (xs.take i)++(if pt xs (i-1)=pt xs i then [] else [pt xs i]):=by
 obtain⟨j,rfl⟩:∃j,i=j+1:=⟨i-1,by omega⟩;rw[jlX h,jlX (show j<xs.length by omega),XW,KO h,KO (show j<xs.length by omega)];rfl
theorem Lo:∀l:List Pn,(ka l).length<=l.length
 |[]=>jlL _
 |[_]=>jlL _
 |p::q::l=>by
  have:=Lo (q::l);unfold ka;simp only[jlS] at*;split
  .omega
  .rw[jlS];omega
theorem XV{xs:List Pn}:∀i,i<=xs.length->(∀j,1<=j->j<i->¬pt xs (j-1)=pt xs j)->ka (xs.take i)=xs.take i
 |0,_,_=>rfl
 |1,h,_=>by
  match xs,h with
  |p::l,_=>rfl
 |i+2,h,hj=>by
  rw[uK Om Om,XV (i+1) Om (λj h1 h2=>hj j h1 Om),if_neg (hj (i+1) Om Om),<-KO Om];exact(jlX Om).symm
def clo(xs:List Pn)(i:Nat):List Pn:=ka (xs.take i)++xs.drop (ka (xs.take i)).length
theorem EX(h:i<=xs.length):(clo xs i).length=xs.length:=by
 have:=Lo (xs.take i);rw[jl3] at this;rw[clo,jlJ,jmb];omega
theorem jdY{j:Nat}(h:(ka (xs.take i)).length<=j):pt (clo xs i) j=pt xs j:=by
 simp only[pt,px,py,List.getD,clo,List.getElem?_append_right h,List.getElem?_drop];rw[show(ka (xs.take i)).length+(j-(ka (xs.take i)).length)=j by omega]
theorem jjt(h1:1<=i)(h:i<xs.length)(he:pt xs (i-1)=pt xs i):clo xs (i+1)=clo xs i:=by rw[clo,uK h1 h,if_pos he,jl9];rfl
theorem jg2(h1:1<=i)(h:i<xs.length)(he:¬pt xs (i-1)=pt xs i)(hk:(ka (xs.take i)).length<xs.length):(clo xs (i+1)).flatMap Jt=qV ((clo xs i).flatMap Jt) ((ka (xs.take i)).length*2) (Jt (pt xs i)):=by
 rw[clo,clo,uK h1 h,if_neg he];generalize ka (xs.take i)=C at*;rw[jmu hk,jlJ,jmE,jlW,jlW,jlW,jl4];have hC:C.length*2=(C.flatMap Jt).length:=(Qk C).symm
 rw[hC];simp only[Jt,qV,jl4,List.flatMap_nil,jl9,jmf,jmt];rw[jne _ _ (jlL _),Nat.sub_self,List.set_cons_zero,jne _ _ Om,show(C.flatMap Jt).length+1-(C.flatMap Jt).length=1 by omega];simp[Jt]
def D6(m:Nat):List Value:=(Builtin.zeroCells (Value.agg #[.int .i64 0,.int .i64 0]).cells m).toList
theorem D7(m:Nat):(D6 m).length=m*2:=by
 rw[D6,Array.length_toList,size_zeroCells];rfl
theorem EJ(m:Nat):(D6 m).all (·.oneCell')=true:=by
 rw[jm4];intro v hv;rw[D6,Array.mem_toList_iff,Builtin.zeroCells] at hv;obtain⟨i,hi,rfl⟩:=Array.mem_map.1 hv;have:i % 2<2:=jnA _ Dc
 show(#[Value.int .i64 0,Value.int .i64 0][i % 2]!).oneCell'=true;rcases(show i % 2=0\/i % 2=1 by omega) with e|e<;>rw[e]<;>rfl
def kc(xs:List Pn)(i:Nat):Nat:=(ka (xs.take i)).length
theorem RK(h1:1<=i)(h:i<xs.length)(he:pt xs (i-1)=pt xs i):kc xs (i+1)=kc xs i:=by rw[kc,uK h1 h,if_pos he,jl9];rfl
theorem jam(h1:1<=i)(h:i<xs.length)(he:¬pt xs (i-1)=pt xs i):kc xs (i+1)=kc xs i+1:=by rw[kc,uK h1 h,if_neg he,jlJ];rfl
theorem Pz{j:Nat}:((px xs j==px xs i) && (py xs j==py xs i))=decide (pt xs i=pt xs j):=by
 rw[jl8];simp[pt,Prod.ext_iff];constructor<;>(rintro⟨h1,h2⟩;exact⟨h1.symm,h2.symm⟩)
theorem ZX(h:∀j,1<=j->j<xs.length->¬pt xs (j-1)=pt xs j):ka xs=xs:=by
 have:=XV xs.length (jlL _) h
 rwa [jms] at this
theorem DM :(xs.flatMap Jt++rest).take (xs.length*2)=xs.flatMap Jt:=List.take_left' (Qk xs)
theorem Ey{zs:List Value}(hn:xs.length=n)(hl:((clo xs n).flatMap Jt++rest).length=c*2)(hK:kc xs n*2+zs.length<=c*2):
  (qV ((clo xs n).flatMap Jt++rest) (0+kc xs n*2) zs).take ((ka xs).length*2)=(ka xs).flatMap Jt:=by
 have e:(ka xs).length=kc xs n:=by rw[kc,<-hn,jms]
 have ec:ka (xs.take n)=ka xs:=by rw[<-hn,jms]
 apply List.ext_getElem?;intro i;rw[List.getElem?_take,e,jmd];by_cases hi:i<kc xs n*2
 .rw[if_pos hi,DH i Om,if_neg Om,clo,jlW,jlT,List.getElem?_append_left (by rw[Qk];exact hi),ec]
 .rw[if_neg hi,List.getElem?_eq_none (by rw[Qk,e];omega)]
theorem Te(b T c n:Nat)(xs:List Pn)(rest:List Value)(w:World)(hh:w.heap[b]? =some (.cells (xs.flatMap Jt++rest).toArray T (0,0)))(hc:n<=c)(hl:((xs.flatMap Jt)++rest).length=c*2)(hn:xs.length=n)(hn2:n<=1048577):
  Calls Tryz.prog 110 #[.slice (some ⟨b,0,none⟩) n c] w λe w'=>e=.returned (.slice (some ⟨b,0,none⟩) (ka xs).length c)/\Wr b w w'/\∃cs:List Value,w'.heap[b]? =some (.cells cs.toArray T (0,0))/\cs.length=c*2/\cs.take ((ka xs).length*2)=(ka xs).flatMap Jt:=by
 have hr2:∀(zs:List Pn),zs.length=n->∀k,k<n->∀w':World,w'.heap[b]? =some (.cells (zs.flatMap Jt++rest).toArray T (0,0))->∀(q:Nat) (v:Value),[Value.int .i64 (px zs k),Value.int .i64 (py zs k)][q]? =some v->w'.cell? ⟨b,0+k*2+q,none⟩=some v:=λzs hz k hk w' hw q v hv=>by
  have hq:q<2:=by have:=(List.getElem?_eq_some_iff.1 hv).1;simpa using this
  rw[cell_of_row w' b _ _ T (0,0) hw,jmd];have hf:=Gi zs k q Om hq
  rw[YB Om] at hf;have:(zs.flatMap Jt++rest).toArray[k*2+q]? =(zs.flatMap Jt)[k*2+q]? :=by
   rw[List.getElem?_toArray,List.getElem?_append_left (by rw[Qk];omega)]
  rw[this,hf];exact hv
 refine Q8 (m:=61) (Tryz.func110) J J (lb J) (hh) ?_;refine S11 ?_;refine cZ (λc1=>?_) (λc1=>?_)
 .refine S7 ?_;refine jK J (.tmp J) ?_;intro w' hs;exact⟨by rw[ZX λj h1 h2=>absurd h2 Om,hn],hs.over.wr,_,hs.cel (k:=0) rfl,hl,by rw[ZX λj h1 h2=>absurd h2 Om];exact DM⟩
 .refine S8 ?_;refine qD (X:=Nat) (λk=>1<=k/\k<=n/\(∀j,1<=j->j<k->¬pt xs (j-1)=pt xs j)) (λk=>n-k) (λk=>[(3,.int .i64 (k:Int))]) (kK [0,2]) 1 (⟨jlL _,by omega,λj h1 h2=>absurd h2 Om⟩) ⟨J,sz⟩ ?_;intro k hk L hL1;refine V8 ?_;refine cZ (λc2=>?_) (λc2=>?_)
  .refine S6 ?_;refine JY 10 ?_;refine dK 0 ?_;refine dK 1 ?_;refine dK 2 ?_;refine dZ 3 J (jj J J jk J (λw' hs=>hr2 xs hn k Om w' (hs.cel (k:=0) J))) ?_;refine dK 4 ?_;refine dK 5 ?_;refine dZ 6 J ((JP J J J Om Om).as (congrArg _ (show((k:Int)-1)=((k-1:Nat):Int) by omega))) ?_;refine dK 7 ?_;refine dZ 8 J (jj J J jk J (λw' hs=>hr2 xs hn (k-1) Om w' (hs.cel (k:=0) J))) ?_;refine dK 9 ?_;refine JK Kr ?_;refine S1 ?_;refine cZ (λc3=>?_) (λc3=>?_)
   .have hkn:k<n:=Om;have hdup:pt xs (k-1)=pt xs k:=of_decide_eq_true (Pz▸c3)
    have hoff:ZG 0 k c 2=0+k*2:=by rw[ZG,if_neg Om]
    have hcs:ka (xs.take k)=xs.take k:=XV k Om hk.2.2;have hck:kc xs k=k:=by rw[kc,hcs,jl3];omega
    have hck1:kc xs (k+1)=k:=by rw[RK hk.1 Om hdup,hck]
    have hclo:clo xs (k+1)=xs:=by rw[clo,uK hk.1 Om,if_pos hdup,jl9,hcs,jl3,jmO Om,jl1]
    refine S4 ?_;refine a9 ((VR J J J jw Om).as ((U0 (b:=b) (o:=0) (l:=k) (h:=n) (m:=c) (s:=2) hc Om).trans (by rw[hoff]))) ?_;refine S8 ?_;refine JW (X:=Nat) (λj=>1<=j/\k+j<=n/\kc xs (k+j)+1<=k+j) (λj=>n-j) (λj=>[(3,.int .i64 (kc xs (k+j):Int)),(5,.int .i64 (j:Int))]) (kK [0,2,10,11,12,13,16,17,18,19,20,21,22,23,24,25,26,27,28,4]) (λj=>[.cel b T ((clo xs (k+j)).flatMap Jt++rest)]) 1 (⟨jlL _,by omega,by omega⟩) ⟨(by rw[hck1];rfl),sz⟩ (λ_ h=>h.upto ⟨by rw[hclo],trivial⟩) ?_;intro j hj L hL2;refine v9 ?_;refine r9 ?_;have hcl:(clo xs (k+j)).length=n:=(EX Om).trans hn
    refine S8 ?_;refine cZ (λc4=>?_) (λc4=>?_)
    .have hjl:k+j<n:=Om;have hrd:∀i,kc xs (k+j)<=i->i<n->∀w':World,w'.heap[b]? =some (.cells ((clo xs (k+j)).flatMap Jt++rest).toArray T (0,0))->∀(q:Nat) (v:Value),[Value.int .i64 (px xs i),Value.int .i64 (py xs i)][q]? =some v->w'.cell? ⟨b,0+i*2+q,none⟩=some v:=λi h1 h2 w' hw q v hv=>hr2 (clo xs (k+j)) hcl i h2 w' hw q v (by rw[show px (clo xs (k+j)) i=px xs i from congrArg Prod.fst (jdY h1),show py (clo xs (k+j)) i=py xs i from congrArg Prod.snd (jdY h1)];exact hv)
     refine S6 ?_;refine JY 10 ?_;refine dK 0 ?_;refine dK 1 ?_;refine dK 2 ?_;refine dZ 3 J (jj J J jk J (λw' hs q v hv=>by rw[show 0+k*2+j*2+q=0+(k+j)*2+q by omega];exact hrd (k+j) Om hjl w' (hs.cel (k:=0) J) q v hv)) ?_;refine dK 4 ?_;refine dK 5 ?_;refine dZ 6 J ((JP J J J Om Om).as (congrArg _ (show((j:Int)-1)=((j-1:Nat):Int) by omega))) ?_;refine dK 7 ?_;refine dZ 8 J (jj J J jk J (λw' hs q v hv=>by rw[show 0+k*2+(j-1)*2+q=0+(k+j-1)*2+q by omega];exact hrd (k+j-1) Om Om w' (hs.cel (k:=0) J) q v hv)) ?_;refine dK 9 ?_;refine JK Kr ?_;refine S1 ?_;refine cZ (λc5=>?_) (λc5=>?_)
     .refine S7 ?_;refine a9 (jj J J jk J (λw' hs q v hv=>by rw[show 0+k*2+j*2+q=0+(k+j)*2+q by omega];exact hrd (k+j) Om hjl w' (hs.cel (k:=0) J) q v hv)) ?_;refine S2 ?_;refine qN (k:=0) J J J J J (by rfl) jG.szx J J (by rw[jlJ,Qk,hcl];simp only[jlS,jl5];omega) ?_;refine S13 ?_;exact Jn hL2 (j+1) (⟨by omega,by omega,by rw[<-jmZ,jam Om Om (of_decide_eq_false (Pz▸c5))];omega⟩) Om ⟨vi (by rw[<-jmZ,jam Om Om (of_decide_eq_false (Pz▸c5))];omega),vi Om,sz⟩ (λ_ h=>h.upto ⟨by rw[<-jmZ,jg2 Om Om (of_decide_eq_false (Pz▸c5)) (by show kc xs (k+j)<xs.length;omega),xx (by rw[Qk,hcl];exact(show 0+kc xs (k+j)*2+2<=n*2 by omega)),jmd];rfl,trivial⟩)
     .refine S8 ?_;exact Jn hL2 (j+1) (⟨by omega,by omega,by rw[<-jmZ,RK Om Om (of_decide_eq_true (Pz▸c5))];omega⟩) Om ⟨vi (by rw[<-jmZ,RK Om Om (of_decide_eq_true (Pz▸c5))]),vi Om,sz⟩ (λ_ h=>h.upto ⟨by rw[<-jmZ,jjt Om Om (of_decide_eq_true (Pz▸c5))],trivial⟩)
    .refine S9 ?_;refine a9 ((VR J J J jw Om).as (U0 (b:=b) (o:=0) (l:=kc xs (k+j)) (h:=n) (m:=c) (s:=2) hc Om)) ?_;refine S1 ?_;refine Ph (k:=0) (zs:=D6 (n-kc xs (k+j))) J jw jG J J Om J J (EJ _) (by rw[jlJ,Qk,hcl,D7,ZG,if_neg Om];omega) ?_;refine N5 ?_;refine a9 ((KQ J J J jw Om).as (ui _ _ _ _ _)) ?_;refine S8 ?_;refine jK J (.tmp J) ?_;intro w' hs;have hkj:k+j=n:=by omega
     have hK:(ka xs).length=kc xs n:=by rw[kc,<-hn,jms]
     have hlc:((clo xs n).flatMap Jt++rest).length=c*2:=by rw[<-hl,jlJ,jlJ,Qk,Qk,EX Om]
     have hoK:ZG 0 (kc xs n) c 2=0+kc xs n*2:=by rw[ZG,if_neg (by rw[<-hkj];omega)]
     rw[hkj,hoK] at hs;rw[hkj] at hj;exact⟨by rw[hK,hkj],hs.over.wr,_,hs.cel (k:=0) rfl,by rw[kY];exact hlc,Ey hn hlc (by rw[D7];omega)⟩
   .have hne:¬pt xs (k-1)=pt xs k:=of_decide_eq_false (Pz▸c3);refine S8 ?_;exact J6 hL1 (k+1) (⟨by omega,by omega,λj h1 h2=>(jmU j k).elim (λh3=>hk.2.2 j h1 h3) (λh3=>(show k=j by omega)▸hne)⟩) Om ⟨vi Om,sz⟩ (u9 J)
  .refine S11 ?_;refine jK J (.tmp J) ?_;intro w' hs;have hkn:k=n:=by omega
   have hw:=ZX (xs:=xs) λj h1 h2=>hk.2.2 j h1 Om
   exact⟨by rw[hw,hn],hs.over.wr,_,hs.cel (k:=0) rfl,hl,by rw[hw];exact DM⟩
theorem Tg{N:Nat}(h:w.ownsRow N 36 2 (.slice A n c) n (xs.flatMap Jt))(hn:xs.length=n)(h0:0<n)(hn2:n<=1048577):
  Calls Tryz.prog 110 #[.slice A n c] w λe w'=>e=.returned (.slice A (ka xs).length c)/\Wrs (JV N 36 2 n (xs.flatMap Jt) (A,c)).F w w'/\(JV N 36 2 (ka xs).length ((ka xs).flatMap Jt) (A,c)).P w':=by
 rcases h.2 with⟨_,e⟩|⟨g,cap,cur,e,hb,hg,hcap,hmax,hsz,htk⟩
 .omega
 .injection e with e1 e2 e3
  subst e1 e3;have hcur:cur.toList=xs.flatMap Jt++cur.toList.drop (n*2):=by rw[<-htk,jl1]
  have hg':w.heap[g]? =some (.cells (xs.flatMap Jt++cur.toList.drop (n*2)).toArray 36 (0,0)):=by rw[<-hcur,jm1];exact hg
  have hle:=Lo xs;refine(Te g _ c n xs (cur.toList.drop (n*2)) w hg' hcap (by rw[<-hcur];simpa using hsz) hn hn2).mono ?_;rintro e w' ⟨rfl,hw,cs,hh,hcl,htk'⟩;refine⟨rfl,⟨hw.os,hw.tape,hw.output,hw.size,λq hq hne=>hw.block q hq (λe=>hne (by subst e;rfl))⟩,?_⟩;exact⟨Qk _,.inr ⟨g,c,_,rfl,hb,hh,by omega,hmax,by simpa using hcl,by rw[jmP];exact htk'⟩⟩
theorem Gh(ls:List Leg)(i:Nat):(UB ls i 0).flatMap Jt=(zb ls i).flatMap Jt++[.int .i64 (lg ls i).ax,.int .i64 (lg ls i).ay,.int .i64 (lg ls i).bx,.int .i64 (lg ls i).b_y]/\(UB ls i 0).length=(zb ls i).length+2:=by
 unfold UB cz;rw[jl9,jlW,jlJ];exact⟨rfl,rfl⟩
theorem jaX{k:Nat}(h:Qi (lA (lg ls i)) (lB (lg ls i)) (lA (lg ls k)) (lB (lg ls k))=2):UB ls i (k+1)=UB ls i k++[Rt (lA (lg ls i)) (lB (lg ls i)) (lA (lg ls k)) (lB (lg ls k))]:=by
 rw[UB,cz,if_pos h,<-jlT];rfl
theorem jfu{k:Nat}(h:¬Qi (lA (lg ls i)) (lB (lg ls i)) (lA (lg ls k)) (lB (lg ls k))=2):UB ls i (k+1)=UB ls i k:=by
 rw[UB,cz,if_neg h,jl9];rfl
theorem jiS{ls:List Leg}(hok:∀l∈ls,qK l){i:Nat}(hi:i<ls.length):∀k,k<=i->∀p∈cz ls i k,Xh p
 |0,_,p,hp=>by simp[cz] at hp
 |k+1,hk,p,hp=>by
  unfold cz at hp;rcases jl0.1 hp with h|h
  .exact jiS hok hi k Om p h
  .split at h
   .rename_i hm;rw[jlM.1 h];exact jju (WG (ky hok hi)) (uB (ky hok hi)) (WG (ky hok Om)) (uB (ky hok Om)) (jeX hm).2
   .simp at h
theorem jeu{ls:List Leg}(hok:∀l∈ls,qK l):∀i,i<=ls.length->∀p∈zb ls i,Xh p
 |0,_,p,hp=>by simp[zb] at hp
 |i+1,hi,p,hp=>by
  unfold zb at hp;rcases jl0.1 hp with h|h
  .rcases jl0.1 h with h|h
   .exact jeu hok i Om p h
   .simp only[jlP,jmi,or_false] at h;rcases h with rfl|rfl
    .exact(WG (ky hok Om)).wide
    .exact(uB (ky hok Om)).wide
  .exact jiS hok Om i (jlL _) p h
theorem jho(h:0<i):0<(zb ls i).length:=by
 obtain⟨j,rfl⟩:∃j,i=j+1:=⟨i-1,by omega⟩;unfold zb;simp;omega
theorem jf7{B g:Nat}(h:(JV B 36 2 n (xs.flatMap Jt) (some ⟨g,0,none⟩,c)).P w)(hl:xs.length=n)(hx:∀p∈xs,Xh p)(hn:n<=1048576)(h0:0<n):
  Calls Tryz.prog 108 #[.slice (some ⟨g,0,none⟩) n c,.func (.func 109) #[] #[]] w λe w'=>∃x:{ys:List Pn//ys.Perm xs/\Ris ys},e=.returned (.tuple #[])/\Wrs (JV B 36 2 n (xs.flatMap Jt) (some ⟨g,0,none⟩,c)).F w w'/\(JV 0 36 2 n (x.1.flatMap Jt) (some ⟨g,0,none⟩,c)).P w'/\(∀b,(JV 0 36 2 n (x.1.flatMap Jt) (some ⟨g,0,none⟩,c)).F b->(JV B 36 2 n (xs.flatMap Jt) (some ⟨g,0,none⟩,c)).F b\/w.heap.size<=b)/\(JV 0 36 2 n (x.1.flatMap Jt) (some ⟨g,0,none⟩,c)).B=0:=by
 refine(jf8 h hl hx hn h0).mono ?_;rintro e w' ⟨rfl,ys,hp,hr,hw,ho⟩;exact⟨⟨ys,hp,hr⟩,rfl,hw.mono λb hb=>by subst hb;rfl,ho,λb hb=>.inl hb,rfl⟩
theorem Fo(A:Option Addr)(n c:Nat)(ls:List Leg)(w:World)(h:Legs w A n ls)(hok:∀l∈ls,qK l)(hn:n<=400)(hc:n<=c)(h0:0<n):
  Calls Tryz.prog 95 #[.slice A n c] w λe w'=>∃v,e=.returned v/\w'.ownsRow w.heap.size 36 2 v (Kd (zb ls n)).length ((Kd (zb ls n)).flatMap Jt)/\Over w w':=by
 have hl:=h.1;refine Jm (m:=64) (Tryz.func95) J J (lb J) ?_;refine S7 ?_;refine QO (T:=36) (s:=2) ?_;refine N9 ?_;refine JW (X:=Nat×Option Addr×Nat) (λx=>x.1<=n) (λx=>n-x.1) (λx=>[(3,.slice x.2.1 (zb ls x.1).length x.2.2),(12,.int .i64 (x.1:Int))]) (kK [0,2,10,11]) (λx=>[JV (Bs.N ⟨w,[]⟩) 36 2 (zb ls x.1).length ((zb ls x.1).flatMap Jt) x.2]) (0,none,0) (jlN _) ⟨J,sz⟩ (λ_ h=>h) ?_;intro⟨i,rA,rc⟩ hi L hL1;refine v9 ?_;refine r9 ?_;have hi:i<=n:=hi
 refine S5 ?_;refine cZ (λc1=>?_) (λc1=>?_)
 .have hlt:i<n:=Om;obtain⟨eb,eo,rfl,_⟩:=h.2 Om;have hhl:=xP ls i
  have hh2:i*(i+2)<=400*402:=Nat.mul_le_mul Om Om;refine S8 ?_;refine a9 (jj J J qF J (Ya (λw' hs=>h.over hs.fin) hlt)) ?_;refine S1 ?_;refine aL (λb1=>?_);refine N12 ?_;refine j5 J J (wh J J) J (lb J) (λb2=>?_);refine N1 ?_;refine JQ (k:=0) J jw jG Dc J Dc J J J (λw' hs=>qL hs (k:=2) J J) (by simp[Value.oneCell']) (by unfold maxLen;omega) Om (jlL _) (λr1=>?_);refine N6 ?_;refine a9 ((KQ J J J jV Om).as (ui _ _ _ _ _)) ?_;refine S4 ?_;refine JW (X:=Nat×Option Addr×Nat) (λx=>x.1<=i) (λx=>i-x.1) (λx=>[(3,.slice x.2.1 (UB ls i x.1).length x.2.2),(28,.int .i64 (x.1:Int))]) (kK [0,2,10,11,12,13,14,15,16,5,4,17,18,19,20,21,22,23,24,25,26,27]) (λx=>[JV (Bs.N ⟨w,[]⟩) 36 2 (UB ls i x.1).length ((UB ls i x.1).flatMap Jt) x.2,.cel b1 72 [.int .i64 (lg ls i).ax,.int .i64 (lg ls i).ay,.int .i64 (lg ls i).bx,.int .i64 (lg ls i).b_y],.cel b2 36 [.int .i64 (lg ls i).ax,.int .i64 (lg ls i).ay,.int .i64 (lg ls i).bx,.int .i64 (lg ls i).b_y]]) (0,r1) (jlN _) ⟨(by rw[(Gh ls i).2];rfl),sz⟩ (λ_ h=>h.upto ⟨by rw[(Gh ls i).1,(Gh ls i).2],sz⟩) ?_;intro⟨k,qA,qc⟩ hk L hL2;refine v9 ?_;refine r9 ?_;have hk:k<=i:=hk
  refine S5 ?_;refine cZ (λc2=>?_) (λc2=>?_)
  .have hkt:k<i:=Om;have hpl:=jaW (ls:=ls) (k:=k) (show i<400 by omega) hk
   refine S7 ?_;refine a9 (jj J J qF J (Ya (λw' hs=>h.over hs.fin) (show k<n by omega))) ?_;refine S1 ?_;refine aL (λb3=>?_);refine N13 ?_;refine a9 (jT Oe J J (λw _=>NX (lA (lg ls i)) (lB (lg ls i)) (lA (lg ls k)) (lB (lg ls k)) w (WG (ky hok Om)) (uB (ky hok Om)) (WG (ky hok Om)) (uB (ky hok Om)))) ?_;refine S4 ?_;refine aL (λb4=>?_);refine N9 ?_;refine cZ (λc3=>?_) (λc3=>?_)
   .have hm2:Qi (lA (lg ls i)) (lB (lg ls i)) (lA (lg ls k)) (lB (lg ls k))=2:=by rw[<-(Iv (WG (ky hok Om)) (uB (ky hok Om)) (WG (ky hok Om)) (uB (ky hok Om))).1];exact c3
    refine S10 ?_;refine a9 (jT LH J J (λw _=>Co (lA (lg ls i)) (lB (lg ls i)) (lA (lg ls k)) (lB (lg ls k)) w (WG (ky hok Om)) (uB (ky hok Om)) (WG (ky hok Om)) (uB (ky hok Om)) (jeX hm2).2)) ?_;refine S1 ?_;refine j5 J J (qq J) J (lb J) (λb5=>?_);refine N1 ?_;refine JQ (k:=0) J jw jG Dc J Dc J J J (λw' hs=>qL hs (k:=5) J J) (by simp[Value.oneCell']) (by unfold maxLen;omega) Om (jlL _) (λr2=>?_);refine N8 ?_;exact Jn hL2 ((k+1,r2)) ((show k+1<=i by omega)) (by simp only;omega) ⟨(by rw[jaX hm2,jlJ];rfl),vi Om,sz⟩ (λ_ h=>h.upto ⟨by rw[jaX hm2,jlJ,jlW];rfl,sz⟩)
   .have hm2:¬Qi (lA (lg ls i)) (lB (lg ls i)) (lA (lg ls k)) (lB (lg ls k))=2:=by rw[<-(Iv (WG (ky hok Om)) (uB (ky hok Om)) (WG (ky hok Om)) (uB (ky hok Om))).1];exact c3
    refine S7 ?_;exact Jn hL2 ((k+1,qA,qc)) ((show k+1<=i by omega)) (by simp only;omega) ⟨(by rw[jfu hm2];rfl),vi Om,sz⟩ (λ_ h=>h.upto ⟨by rw[jfu hm2],sz⟩)
  .refine S10 ?_;exact Jn hL1 ((i+1,qA,qc)) ((show i+1<=n by omega)) (by simp only;omega) ⟨(by rw[show k=i by omega];rfl),vi Om,sz⟩ (λ_ h=>h.upto ⟨by rw[show k=i by omega];rfl,trivial⟩)
 .have hin:i=n:=by omega
  subst hin;have hpos:=jho (ls:=ls) h0
  have hbd:=jeu hok i Om;have hhl:=xP ls i
  have hh2:i*(i+2)<=400*402:=Nat.mul_le_mul Om Om;refine S6 ?_;refine kW (λw hs=>V4 (k:=0) J hs hpos) ?_;rintro⟨eg,rfl⟩;refine S3 ?_;refine qm (k:=0) (X:={ys:List Pn//ys.Perm (zb ls i)/\Ris ys}) (v:=λ_=>.tuple #[]) (r':=λx=>JV 0 36 2 _ (x.1.flatMap Jt) (some ⟨eg,0,none⟩,rc)) KI J J J Dc J (λw1 hs=>jf7 (hs.all 0 _ J).1 J hbd Om hpos) ?_;rintro⟨ys,hperm,hris⟩;refine N5 ?_;refine xh (k:=0) (r':=JV 0 36 2 (ka ys).length ((ka ys).flatMap Jt) (some ⟨eg,0,none⟩,rc)) K6 J J J Dc J (λw1 hs=>Tg (hs.all 0 _ J).1 hperm.length_eq hpos Om) (λ_ h=>h) J ?_;refine N3 ?_;refine jK J (.tmp J) ?_;intro w' hs;have hr:=hs.all 0 _ rfl
  have he:=jd2 hris (λq=>hperm.mem_iff);exact⟨_,rfl,by rw[<-he];exact vM hr.1 (λb hb=>(hr.2.1 b hb).elim id (λh=>by cases h)),hs.fin⟩
theorem jhp(v:Value)(w:World):Calls Tryz.prog 148 #[.slice none 0 0,.int .i64 0,.int .i64 0,v] w λe w'=>e=.returned (.tuple #[])/\Over w w':=by
 refine Jm (m:=53) (Tryz.func148) J J (lb J) ?_;refine S7 ?_;refine qD (X:=Unit) (λu=>True) (λu=>0) (λu=>[(8,.int .i64 1)]) (kK [0,1,2,3]) () (trivial) ⟨J,sz⟩ ?_;intro u hu L hL1;refine V7 ?_;refine cZ (λc1=>?_) (λc1=>?_)
 .omega
 .refine S4 ?_;refine kV J ?_;intro w' hs;exact⟨rfl,hs.fin⟩
theorem jh6(l:Int)(v:Value)(w:World):Calls Tryz.prog 129 #[.slice none 0 0,.int .i64 0,.int .i64 0,.int .i64 l,v] w λe w'=>e=.returned (.tuple #[])/\Over w w':=by
 refine Jm (m:=148) (Tryz.func129) J J (lb J) ?_;refine S9 ?_;refine qD (X:=Unit) (λu=>True) (λu=>0) (λu=>[]) (kK [0,1,2,3,4,10,11]) () (trivial) sz ?_;intro u hu L hL1;refine V14 ?_;refine cZ (λc1=>?_) (λc1=>?_)
 .refine S6 ?_;refine a9 (jT wq J J (λw h=>jhp v w)) ?_;refine S6 ?_;refine xH J ?_;intro w' hs;exact⟨rfl,hs.fin⟩
 .omega
theorem jhx(w:World):Calls Tryz.prog 130 #[.int .u64 0] w λe w'=>(∃l:Int,e=.returned (.int .i64 l))/\w=w':=
 (Any.bits_Len (SlLaysF0.n15.bits (P:=Tryz.prog) (ρ:=zX) {jf5 with}) 0 w Om Om).mono λ_ _ ⟨he,hw⟩=>⟨⟨_,he⟩,hw.symm⟩
theorem jf6(w:World):Calls Tryz.prog 108 #[.slice none 0 0,.func (.func 109) #[] #[]] w λe w'=>e=.returned (.tuple #[])/\Over w w':=by
 go_enter Tryz.func108,Tryz.ntmps108
 go_wp2_with fail
 go_at_call 130
 refine(jhx _).mono ?_;rintro e w1 ⟨⟨l,rfl⟩,rfl⟩
 go_wp2_with fail
 go_at_call 129
 refine(jh6 _ _ _).mono ?_;rintro e w1 ⟨rfl,hb⟩
 go_wp2_with fail
 go_end0
 exact⟨rfl,hb⟩
theorem Tf(w:World):Calls Tryz.prog 110 #[.slice none 0 0] w λe w'=>e=.returned (.slice none 0 0)/\Over w w':=by
 refine Jm (m:=61) (Tryz.func110) J J (lb J) ?_;refine S11 ?_;refine cZ (λc1=>?_) (λc1=>?_)
 .refine S7 ?_;refine jK J (.tmp J) ?_;intro w' hs;exact⟨rfl,hs.fin⟩
 .omega
theorem Fn(A:Option Addr)(c:Nat)(w:World):
  Calls Tryz.prog 95 #[.slice A 0 c] w λe w'=>e=.returned (.slice none 0 0)/\Over w w':=by
 refine Jm (m:=64) (Tryz.func95) J J (lb J) ?_;refine S16 ?_;refine qD (X:=Unit) (λu=>True) (λu=>0) (λu=>[(3,.slice none 0 0),(12,.int .i64 0)]) (kK [0,2,10,11]) () (trivial) ⟨J,sz⟩ ?_;intro u hu L hL1;refine V5 ?_;refine cZ (λc1=>?_) (λc1=>?_)
 .omega
 .refine S8 ?_;refine a9 (jT KI J J (λw h=>jf6 w)) ?_;refine S4 ?_;refine a9 (jT K6 J J (λw h=>Tf w)) ?_;refine S3 ?_;refine jK J (.tmp J) ?_;intro w' hs;exact⟨rfl,hs.fin⟩
theorem Fm(A:Option Addr)(n c:Nat)(ls:List Leg)(w:World)(h:Legs w A n ls)(hok:∀l∈ls,qK l)(hn:n<=400)(hc:n<=c):
  Calls Tryz.prog 95 #[.slice A n c] w λe w'=>∃v,e=.returned v/\w'.ownsRow w.heap.size 36 2 v (Kd (zb ls n)).length ((Kd (zb ls n)).flatMap Jt)/\Over w w':=by
 by_cases h0:0<n
 .exact Fo A n c ls w h hok hn hc h0
 .obtain rfl:n=0:=by omega
  refine(Fn A c w).mono ?_;rintro e w' ⟨rfl,hO⟩;exact⟨_,rfl,⟨rfl,.inl ⟨rfl,rfl⟩⟩,hO⟩
theorem zP{rs:List jI}(h:JG rs=true):(jH rs).length<=400:=by
 simp only[JG,jlK,decide_eq_true_eq] at h;exact h.2
end Go.Proofs.YtjbahemkhphndaaGreat
