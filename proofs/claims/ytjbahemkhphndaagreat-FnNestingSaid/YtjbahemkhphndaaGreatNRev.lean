import Derived.Test.YtjbahemkhphndaaGreatNOwn
import Derived.Test.YtjbahemkhphndaaGreatNHot
import Derived.Shelf.SlSortCmp.WholeK
import Derived.Test.YtjbahemkhphndaaGreatNValidRegion
import Derived.Test.YtjbahemkhphndaaGreatNSnapped
import Derived.Test.YtjbahemkhphndaaGreatNSimp
import Derived.Test.YtjbahemkhphndaaGreatNNums
set_option linter.unusedVariables false
set_option linter.unusedSimpArgs false
namespace Go.Proofs.YtjbahemkhphndaaGreat
open Go Go.RowKit
variable{cs:List Value}{n:Nat}{pl:Nat->Option Addr×Nat}{rs:List jI}{x:Option Addr×Nat}{xs:List (Int×Int)}
set_option maxRecDepth 100000
set_option maxHeartbeats 4000000
theorem ZI(A:Option Addr)(n c:Nat)(xs:List (Int×Int))(w:World)(h:Pts w A n xs)(hn:0<n)(hn2:n<=1048577):
  Calls Tryz.prog 18 #[.slice A n c] w λe w'=>∃v,e=.returned v/\w'.ownsRow w.heap.size 36 2 v n (xs.flatMap Jt)/\Over w w':=by
 obtain⟨b,o,rfl,_⟩:=h.2 hn;refine Jm (m:=8) (Tryz.func18) J J (lb J) ?_;refine S8 ?_;refine a9 (jcL jw J J) ?_;refine S1 ?_;refine Un J (J) ?_;refine S5 ?_;refine j5 J J (Vc) J (lb J) (λb1=>?_);refine W0 0 2 J J ?_;refine N2 ?_;refine JQ (k:=0) J jw jG Dc J Dc J J J (λw' hs=>SJ (h.over hs.fin) hn) (WL _) (by unfold maxLen;omega) Om (jlL _) (λr1=>?_);refine N3 ?_;refine jK J (.tmp J) ?_;intro w' hs;have hr0:w'.ownsRow w.heap.size 36 2 (.slice r1.1 (0+n) r1.2) (0+n) (xs.flatMap Jt):=(hs.all 0 _ rfl).1
 exact⟨_,rfl,by rw[jmd] at hr0⊢;exact hr0,hs.fin⟩
theorem jaS{w w':World}{Rs:List Res}(hs:St ⟨w,[]⟩ Rs w'){kr kp B T:Nat}{l:List Pc}(hr:Rs[kr]? =some (JV B T 1 n (l.map Pc.val) x))(hp:Rs[kp]? =some (KD l))(hne:kr≠kp)(_e:w=w)(hl:l.length=n)(hrs:l.map (·.xs)=rs)(hm:∀j,j<rs.length->(rg rs j).length<=1099511627776):OwnG w.heap.size w'.heap.size w' x.1 n rs:=by
 have hrow:w'.ownsRow B T 1 (.slice x.1 n x.2) n (l.map Pc.val):=(hs.all kr _ hr).1;have hX:=hs.all kp _ hp
 rcases hrow.2 with⟨_,e⟩|⟨g,cap,cur,e,hb,hg,hcap,hmax,hsz,htk⟩
 .subst e;obtain rfl:l=[]:=jmh hl;subst hrs;exact OwnG.nil _
 .injection e with e1 e2 e3
  rw[e1];have hF:(JV B T 1 n (l.map Pc.val) x).F g:=by show Value.ownBlock (.slice x.1 n x.2)=some g;rw[e1];rfl
  have hown:=ON (lo:=w.heap.size) (o:=0) hg (((hs.all kr _ hr).2.1 g hF).elim id (λh=>by cases h)) (λj hj=>?_) hX.1 (λh=>hs.apart kr kp _ _ hne hr hp g hF h) (λq hq=>(hX.2.1 q hq).elim id (λh=>by cases h)) (λe he=>?_)
  .rw[hrs,hl] at hown;exact hown
  .have hc:cur[j]? =(l.map Pc.val)[j]? :=by rw[<-htk,List.getElem?_take,if_pos Om];simp
   rw[jmd,hc];simp[hj]
  .have:e.xs∈rs:=hrs▸jlR.2 ⟨e,he,rfl⟩;obtain⟨j,hj,e2⟩:=jmq this;have:=hm j hj
   rw[<-wb hj,e2] at this;omega
def RevTo(cs:List Value)(o n i:Nat)(xs:List (Int×Int)):Prop:=∀q,q<n->cs[o+q*2]? =some (.int .i64 (px xs (if q<i\/n-1-i<q then n-1-q else q)))/\cs[o+q*2+1]? =some (.int .i64 (py xs (if q<i\/n-1-i<q then n-1-q else q)))
theorem RevTo.step{o i:Nat}(h:RevTo cs o n i xs)(hi:2*i+1<n)(hl:∀q,q<n->o+q*2+1<cs.length):
  RevTo (qV (qV cs (o+i*2) [.int .i64 (px xs (n-1-i)),.int .i64 (py xs (n-1-i))]) (o+(n-1-i)*2) [.int .i64 (px xs i),.int .i64 (py xs i)]) o n (i+1) xs:=by
 intro q hq;have h1:=hl i Om
 have h2:=hl (n-1-i) Om;simp only[qV];by_cases e1:q=i
 .subst e1;rw[if_pos Om,List.getElem?_set_ne Om,List.getElem?_set_ne Om,List.getElem?_set_ne Om,List.getElem?_set_self Om,List.getElem?_set_ne Om,List.getElem?_set_ne Om,List.getElem?_set_self (by simp;omega)];exact⟨rfl,rfl⟩
 .by_cases e2:q=n-1-i
  .subst e2;rw[if_pos Om,List.getElem?_set_ne Om,List.getElem?_set_self (by simp;omega),List.getElem?_set_self (by simp;omega),show n-1-(n-1-i)=i by omega];exact⟨rfl,rfl⟩
  .have:=h q hq;have hif:(q<i+1\/n-1-(i+1)<q)↔(q<i\/n-1-i<q):=by omega
   simp only[hif];rw[List.getElem?_set_ne Om,List.getElem?_set_ne Om,List.getElem?_set_ne Om,List.getElem?_set_ne Om,List.getElem?_set_ne Om,List.getElem?_set_ne Om,List.getElem?_set_ne Om,List.getElem?_set_ne Om];exact this
theorem RevTo.at_{o i q:Nat}(h:RevTo cs o n i xs)(h1:i<=q)(h2:q<=n-1-i)(hq:q<n):cs[o+q*2]? =some (.int .i64 (px xs q))/\cs[o+q*2+1]? =some (.int .i64 (py xs q)):=by
 have:=h q hq
 rwa [if_neg Om] at this
theorem OwnGd.put{lo hi:Nat}{w w':World}{b o T:Nat}{cs:Array Value}{k:Nat}(ys:jI)(h:OwnGd lo hi w b o T cs pl n rs)(hl:rs.length=n)(hk:k<n)(hy:ys.length=(rg rs k).length)(hw:Wrs (λq=>0<(rg rs k).length/\q=VK (pl k).1/\jlf lo hi q) w w')(hp:OwnP lo hi w' (pl k).1 (rg rs k).length ys):OwnGd lo hi w' b o T cs pl n (rs.set k ys):=by
 have hse:∀j,j<n->rg (rs.set k ys) j=if j=k then ys else rg rs j:=λj hj=>by
  simp only[rg,List.getD_eq_getElem?_getD];by_cases e:j=k
  .subst e;rw[if_pos rfl,List.getElem?_set_self Om];rfl
  .rw[if_neg e,List.getElem?_set_ne (λe'=>e e'.symm)]
 have hlen:∀j,j<n->(rg (rs.set k ys) j).length=(rg rs j).length:=λj hj=>by
  rw[hse j hj];by_cases e:j=k
  .subst e;rw[if_pos rfl,hy]
  .rw[if_neg e]
 refine⟨h.low,h.high,(hw.block b (J3 h.blk) λhq=>?_).trans h.blk,λj hj=>?_,λj hj=>?_,λj hj=>?_,λi j hi hj hij=>?_⟩
 .exact h.off k hk hq.1 hq.2.1.symm
 .rw[hlen _ hj];exact h.cell j hj
 .rw[hse j hj];by_cases hjk:j=k
  .subst hjk;rw[if_pos rfl,hy];exact hp
  .rw[if_neg hjk];by_cases h0:0<(rg rs j).length
   .refine(h.pts j hj).agree λp hp' h1 h2=>?_
    obtain⟨b',o',T',cs',e',_,_,hh',_⟩:=(h.pts j hj).2 h0;rw[e'] at hp';injection hp' with hp'
    subst hp';refine hw.block b' (J3 hh') λhq=>?_
    refine h.apart j k hj hk hjk h0 hq.1 ?_;rw[e'];exact hq.2.1
   .exact⟨(h.pts j hj).1,λh1=>absurd h1 h0⟩
 .rw[hlen _ hj];exact h.off j hj
 .rw[hlen _ hi,hlen _ hj];exact h.apart i j hi hj hij
end Go.Proofs.YtjbahemkhphndaaGreat
namespace Go.Proofs.YtjbahemkhphndaaGreat
open Go Go.Shelf Go.RowKit Go.Lib Go.Sort
def wZ(p q:Pn):Int:=if p.2=q.2 then wP (p.1-q.1) else wP (p.2-q.2)
theorem Bp(p q:Pn):wZ p q<0↔vv p q:=by
 have h1:=UE (p.1-q.1);have h2:=UE (p.2-q.2)
 unfold wZ vv;split<;>omega
set_option maxHeartbeats 1000000 in
theorem yK(p q:Pn)(hp:Xh p)(hq:Xh q)(W:World):Calls Tryz.prog 109 #[.agg #[.int .i64 p.1,.int .i64 p.2],.agg #[.int .i64 q.1,.int .i64 q.2]] W λe w'=>e=.returned (.int .i64 (wZ p q))/\∃q' os',w'=grow (W.drewN q') os':=by
 obtain⟨⟨p1,p2⟩,p3,p4⟩:=hp;obtain⟨⟨q1,q2⟩,q3,q4⟩:=hq;by_cases h:p.2=q.2
 .have e:wZ p q=wP (p.1-q.1):=if_pos h;have hc:=KX (p.1-q.1)
  rw[e];generalize wP (p.1-q.1)=r at hc⊢
  go_enter Tryz.func109,Tryz.ntmps109
  go_wp2_with (go_at_call 124;refine(hc _).mono ?_;rintro e w' ⟨rfl,rfl⟩)
  go_ret;exact⟨rfl,0,_,by rw[alloc_eq_grow,alloc_eq_grow,grow_grow];rfl⟩
 .have e:wZ p q=wP (p.2-q.2):=if_neg h;have hc:=KX (p.2-q.2)
  rw[e];generalize wP (p.2-q.2)=r at hc⊢
  go_enter Tryz.func109,Tryz.ntmps109
  go_wp2_with (go_at_call 124;refine(hc _).mono ?_;rintro e w' ⟨rfl,rfl⟩)
  go_ret;exact⟨rfl,0,_,by rw[alloc_eq_grow,alloc_eq_grow,grow_grow];rfl⟩
theorem xx{l r vs:List Value}:∀{off:Nat},off+vs.length<=l.length->qV (l++r) off vs=qV l off vs++r:=by
 induction vs generalizing l with
 |nil=>intro off _;rfl
 |cons v vs ih=>
  intro off h;simp only[jlS] at h;rw[qV,qV,List.set_append_left _ _ Om];exact ih (by simp;omega)
end Go.Proofs.YtjbahemkhphndaaGreat
namespace Go.Proofs.YtjbahemkhphndaaGreat
open Go Go.RowKit
variable{B T m s:Nat}{r x:Option Addr×Nat}{v:Value}{w:World}{xs:List Value}{y:Operand}
section
variable{P:Program}{n:Nat}{env:List (Nat×Value)}{w0:Bs}{Rs:List Res}{o:Oper}{Q:Exit->Act->World->Prop}{K:Act->World->Prop}
theorem OU(h:(JV B T s m xs x).P w)(h0:0<m):x.1=some ⟨VK x.1,0,none⟩:=by
 have h:w.ownsRow B T s (.slice x.1 m x.2) m xs:=h;rcases h.2 with⟨_,e⟩|⟨g,cap,cur,e,_⟩
 .omega
 .injection e with e1
  rw[e1];rfl
theorem yw{i:Nat}(h:(JV B T s m xs x).P w)(hv:xs[i]? =some v):w.cell? ⟨VK x.1,i,none⟩=some v:=by
 have h:w.ownsRow B T s (.slice x.1 m x.2) m xs:=h;have hi:=(List.getElem?_eq_some_iff.1 hv).1
 rcases h.2 with⟨_,e⟩|⟨g,cap,cur,e,hb,hg,hcap,hmax,hsz,htk⟩
 .have:=h.1;rw[e,Nat.zero_mul] at this;omega
 .injection e with e1
  rw[e1,VK,cell_of_row w g i cur T (0,0) hg];have h1:=h.1
  rw[<-htk,List.getElem?_take,if_pos Om] at hv;simpa using hv
theorem IJ{T U:TypeId}{x:Operand}{k j:Nat}(hk:Rs[k]? =some (JV B U s m xs r))(ho:o.op=.indexAddr T x y)(hx:ev env x=some (.slice r.1 m r.2))(hy:ev env y=some (.int .i64 (j:Int)))(hT:TyL P T U s)(hj:j<m):
  Qt P o n env w0 Rs (.pointer (some ⟨VK r.1,0+j*s,none⟩)):=λa w hf hs=>by
 have e:=OU (hs.all k _ hk).1 Om;rw[e] at hx;exact jQ (j:=j) ho hx hy hT hj a w hf hs
theorem yN{α:Type}(f:α->List Value)(hf:∀a,(f a).length=m){l:List α}{k off:Nat}{a a':α}(hk:l[k]? =some a)(pre old vs post:List Value)(h1:f a=pre++old++post)(h2:f a'=pre++vs++post)(hl:old.length=vs.length)(ho:off=k*m+pre.length):qV (l.flatMap f) off vs=(l.set k a').flatMap f:=by
 obtain⟨hj,e⟩:=List.getElem?_eq_some_iff.1 hk;have e1:l=l.take k++a::l.drop (k+1):=by rw[<-e,<-jmu hj,jl1]
 have e2:l.set k a'=l.take k++a'::l.drop (k+1):=List.set_eq_take_append_cons_drop .. |>.trans (if_pos hj);have e3:((l.take k).flatMap f).length=k*m:=by rw[W2 f m hf,jl3,jmO Om]
 have s:=yz vs ((l.take k).flatMap f++pre) old (post++(l.drop (k+1)).flatMap f) hl;rw[jlJ,e3,<-ho] at s;rw[e2,jlW,jl4,h2]
 conv=>lhs;rw[e1,jlW,jl4,h1]
 simp only[jlT] at s⊢;exact s
theorem jc7{j:Nat}(h:(JV B T s m xs x).P w)(hj:j<=m):Src s (sliced x.1 0 j x.2 s) j (xs.take (j*s)) w:=by
 have h:w.ownsRow B T s (.slice x.1 m x.2) m xs:=h;have hm:j*s<=m*s:=Nat.mul_le_mul_right s hj
 refine⟨by rw[jl3,h.1];omega,?_⟩;rcases h.2 with⟨e,e0⟩|⟨g,cap,cur,e,hb,hg,hcap,hmax,hsz,htk⟩
 .left;have hj0:j=0:=by omega
  injection e with e1 _ e3
  rw[e1,e3,hj0];exact⟨rfl,rfl⟩
 .right;injection e with e1 _ e3
  refine⟨⟨g,0,none⟩,x.2,?_,λq u hu=>?_⟩
  .rw[e1];unfold sliced;split
   .rfl
   .simp[kq]
  .have hq:=(List.getElem?_eq_some_iff.1 hu).1;rw[jl3] at hq;rw[List.getElem?_take,if_pos Om,<-htk,List.getElem?_take,if_pos (by have:=h.1;omega)] at hu;rw[kq,jmd,cell_of_row w g q cur T (0,0) hg];simpa using hu
theorem jc6{j:Nat}(h:(JV B T s m xs x).P w)(hj:j<=m):Src s (sliced x.1 j m x.2 s) (m-j) (xs.drop (j*s)) w:=by
 have h:w.ownsRow B T s (.slice x.1 m x.2) m xs:=h;refine⟨by rw[jmb,h.1,Nat.sub_mul],?_⟩;rcases h.2 with⟨e,e0⟩|⟨g,cap,cur,e,hb,hg,hcap,hmax,hsz,htk⟩
 .left;subst e0;have hj0:j=0:=by omega
  injection e with e1 _ e3
  rw[e1,e3,hj0];exact⟨rfl,rfl⟩
 .right;injection e with e1 _ e3
  by_cases hz:x.2=j
  .refine⟨⟨g,0,none⟩,x.2-j,by rw[e1];unfold sliced;rw[if_pos hz],λq u hu=>?_⟩;have hq:=(List.getElem?_eq_some_iff.1 hu).1
   have hjm:j=m:=by omega
   rw[jmb,h.1,hjm] at hq;omega
  .refine⟨⟨g,0+j*s,none⟩,x.2-j,by rw[e1];unfold sliced;rw[if_neg hz];simp[kq],λq u hu=>?_⟩;have hq:=(List.getElem?_eq_some_iff.1 hu).1
   rw[jmb,h.1] at hq;rw[List.getElem?_drop,<-htk,List.getElem?_take,if_pos Om] at hu;rw[kq,jmd,cell_of_row w g _ cur T (0,0) hg];simpa using hu
theorem uW{U:Nat}{x:Operand}{k q off:Nat}{cs vs:List Value}(ho:o.op=.store T x y)(hd:o.dst=none)(hx:ev env x=some (.pointer (some ⟨VK r.1,off,none⟩)))(hy:ev env y=some v)(hv:v.cells=vs.toArray)(h1:vs.all (·.oneCell')=true)(hz:(P.info? T).map (·.size)=some m)(hm:vs.length=m)(hk:Rs[k]? =some (JV B U s q cs r))(h0:0<vs.length)(hlt:off+vs.length<=cs.length)(h:At n env w0 (Rs.set k (JV B U s q (qV cs off vs) r)) K):At n env w0 Rs (λa w=>o.wp P a w K Q):=λa w hf hs=>by
 have hr:w.ownsRow B U s (.slice r.1 q r.2) q cs:=(hs.all k _ hk).1;have hlow:=λb hb=>(hs.all k _ hk).2.1 b hb
 rcases hr.2 with⟨_,e0⟩|⟨g,cap,cur,e,hb,hg,hcap,hmax,hsz,htk⟩
 .have:=hr.1;rw[e0,Nat.zero_mul] at this;omega
 .injection e with e1 _ e3
  have hgb:VK r.1=g:=by rw[e1];rfl
  rw[hgb] at hx;have hcl:cs.length=q*s:=hr.1
  have hcur:cur.toList=cs++cur.toList.drop (q*s):=by rw[<-htk,jl1]
  have hlen:cs.length<=cur.toList.length:=by rw[hcur,jlJ];omega
  have hh:w.heap[g]? =some (.cells cur.toList.toArray U (0,0)):=by rw[jm1];exact hg
  have hso:(sizeOf T).run P w=.ok m w:=by
   obtain⟨i,hi,hs'⟩:=jnm.1 hz;simp[sizeOf,typeInfo,hi,hs']
  have hst:=uh (P:=P) vs off 0 cur.toList w hh Om h1;have hrun:(execOp a.eval o).run P w=.ok .skip (w.setRow g (qV cur.toList off vs).toArray):=by
   unfold execOp;simp only[ho,hf.ev hx,hf.ev hy,Instr.storeAt,Instr.sureAddr,storeVar,hv];simp only[Sem.run_bind,Sem.run_pure,Result.andThen_ok,hso];have:¬(vs.toArray.size≠m):=by simp[hm]
   simp only[this,if_false,hst,Result.andThen_ok];rfl
  show o.upon P a K Q ((execOp a.eval o).run P w);rw[hrun,Oper.upon_skip,hd];refine h _ _ hf (hs.upd hk ⟨by simpa using hs.over.os,by simpa using hs.over.tape,by simpa using hs.over.output,by simpa using hs.over.size,λc hc hx'=>?_⟩ (by simp) (λc _ hne=>setRow_other w g c _ (λe=>hne (by rw[e];show Value.ownBlock (.slice r.1 q r.2)=some g;rw[e1];rfl))) ?_ (λc hc=>.inl hc) J)
  .have:=hlow g (by show Value.ownBlock (.slice r.1 q r.2)=some g;rw[e1];rfl);rw[setRow_other w g c _ (λe=>this.elim (λh1=>by omega) (λh1=>hx' (e▸h1)))];exact hs.over.block c hc hx'
  .refine⟨by rw[kY];exact hr.1,.inr ⟨g,cap,(qV cur.toList off vs).toArray,by rw[e1,e3],hb,setRow_heap w g _ _ U (0,0) hg,hcap,hmax,by simp[kY,hsz],?_⟩⟩;rw[jmP,hcur,xx Om,List.take_left' (by rw[kY];exact hr.1)]
end
end Go.Proofs.YtjbahemkhphndaaGreat
namespace Go.Proofs.YtjbahemkhphndaaGreat
open Go Go.RowKit
variable{A:Option Addr}{b m n:Nat}{l:List Pc}{w:World}{x:Option Addr×Nat}
set_option maxRecDepth 100000
set_option maxHeartbeats 4000000
def jef(n:Nat)(rs:List jI):Prop:=rs.length<=n/\∀r∈rs,(0<r.length/\r.length<=6)/\∀p∈r,EQ 50 p
abbrev jlm(n:Nat):={rs:List jI//jef n rs}
abbrev DX(n:Nat):=jlm n×(Option Addr×Nat)×Nat×Nat
abbrev jhd{m:Nat}(x:DX m):Res:=K4 x.1.1.length x.1.1 x.2.2.1 x.2.2.2 x.2.1.1
abbrev XY(b:Nat)(A:Option Addr)(n c K:Nat){m:Nat}(x:DX m):Res:=.many [srcR b A n c K,jhd x]
section
variable{n:Nat}{env:List (Nat×Value)}{w0:Bs}{Rs:List Res}{K:Act->World->Prop}
theorem Uh(k:Nat){c K1 K2:Nat}(hk:Rs[k]? =some (srcR b A m c K1))(hK:K1<=K2)(h:At n env w0 (Rs.set k (srcR b A m c K2)) K):At n env w0 Rs K:=λa w hf hs=>
 h a w hf (hs.chg hk (λhP=>srcR.more hP hK) (λc hc=>hc) rfl)
theorem ZP(k:Nat){T:Nat}(c:Nat)(xs:List (Int×Int))(hk:Rs[k]? =some (.cel b T (xs.flatMap Jt)))(h:At n env w0 (Rs.set k (Pc.res ⟨xs,some ⟨b,0,none⟩,c,b,b+1⟩)) K):At n env w0 Rs K:=λa w hf hs=>by
 have hh:=hs.cel hk;refine h a w hf (hs.chg hk (λhP=>jcJ ⟨J,λh0=>⟨b,0,T,_,J,jlL _,Nat.lt_succ_self _,hh,λj hj=>?_⟩⟩ (J3 hh)) (λq hq=>?_) J)
 .have hf:=λq hq=>Gi xs j q hj hq
  have h0:=hf 0 Om;have h1:=hf 1 Om
  rw[YB hj] at h0 h1;rw[jmd,List.getElem?_toArray,List.getElem?_toArray];exact⟨by simpa[Jt] using h0,by simpa[Jt] using h1⟩
 .have hq':b<=q/\q<b+1:=hq;show q=b
  omega
end
theorem yu{w':World}{Rs:List Res}(hs:St ⟨w,[b]⟩ Rs w'){ks kr kp B T:Nat}{r:Res}(hk:Rs[ks]? =some r)(hF:r.F b)(hr:Rs[kr]? =some (JV B T 1 n (l.map Pc.val) x))(hp:Rs[kp]? =some (KD l))(hne:kr≠kp)(h1:ks≠kr)(h2:ks≠kp)(hl:l.length=n)(hm:∀e∈l,e.xs.length<=1099511627776):OwnG w.heap.size w'.heap.size w' x.1 n (l.map (·.xs)):=by
 have hrow:w'.ownsRow B T 1 (.slice x.1 n x.2) n (l.map Pc.val):=(hs.all kr _ hr).1;have hX:=hs.all kp _ hp
 rcases hrow.2 with⟨_,e⟩|⟨g,cap,cur,e,hb,hg,hcap,hmax,hsz,htk⟩
 .subst e;obtain rfl:l=[]:=jmh hl;exact OwnG.nil _
 .injection e with e1 e2 e3
  rw[e1];have hFg:(JV B T 1 n (l.map Pc.val) x).F g:=by show Value.ownBlock (.slice x.1 n x.2)=some g;rw[e1];rfl
  have hown:=ON (lo:=w.heap.size) (o:=0) hg (((hs.all kr _ hr).2.1 g hFg).elim id (λh=>absurd hFg (hs.apart ks kr _ _ h1 hk hr g (jlM.1 h▸hF)))) (λj hj=>?_) hX.1 (λh=>hs.apart kr kp _ _ hne hr hp g hFg h) (λq hq=>(hX.2.1 q hq).elim id (λh=>absurd hq (hs.apart ks kp _ _ h2 hk hp q (jlM.1 h▸hF)))) (λe he=>by have:=hm e he;omega)
  .rw[hl] at hown;exact hown
  .have hc:cur[j]? =(l.map Pc.val)[j]? :=by rw[<-htk,List.getElem?_take,if_pos Om];simp
   rw[jmd,hc];simp[hj]
theorem jkS{w':World}{c K K':Nat}{x:DX m}(hP:(srcR b A n c K').P w')(hlt:b<w.heap.size)(hO:OwnG w.heap.size w'.heap.size w' x.2.1.1 x.1.1.length x.1.1)(h1:x.2.2.1=w.heap.size)(h2:x.2.2.2=w'.heap.size):
  (XY b A n c K' x).P w'/\(∀q,(XY b A n c K' x).F q->(srcR b A n c K).F q\/w.heap.size<=q)/\(XY b A n c K' x).B=0:=by
 obtain⟨y,⟨a,c2⟩,lo,hi⟩:=x;have h1:lo=w.heap.size:=h1
 have h2:hi=w'.heap.size:=h2;subst h1 h2;refine⟨It hP (jb9 hO (jlL _)) J J (λq hq hq2=>?_),λq hq=>?_,J⟩
 .have hq:q=b:=hq;have hq2:w.heap.size<=q/\q<w'.heap.size:=hq2
  omega
 .obtain⟨r,hr,hq⟩:=hq;simp only[jlP,jmi,or_false] at hr;rcases hr with rfl|rfl
  .exact .inl hq
  .exact .inr hq.1
section
variable{b n c K:Nat}{A:Option Addr}{zs:List Int}{w:World}
def pcOk(l:List Pc):Prop:=∀e∈l,(0<e.xs.length/\e.xs.length<=6)/\∀p∈e.xs,EQ 50 p
theorem pcOk.push(h:pcOk l){e:Pc}(he:(0<e.xs.length/\e.xs.length<=6)/\∀p∈e.xs,EQ 50 p):pcOk (l++[e]):=λq hq=>(jl0.1 hq).elim (h q) (λh1=>by rw[jlM.1 h1];exact he)
theorem pcOk.drw(h:pcOk l)(hl:l.length<=n):jef n (l.map (·.xs)):=⟨by rw[jlV];exact hl,λr hr=>by
 obtain⟨e,he,rfl⟩:=jlR.1 hr;exact h e he⟩
theorem Nx(hB:Byts w A n zs)(hne:0<n->∀p,A=some p->p.block≠b)(hP:(srcR b A n c K).P w)(hn:n<=1048576)(hK:K<=1000):
  Calls Tryz.prog 58 #[.pointer (some ⟨b,0,none⟩),.int .i64 2,.int .i64 6] w λe w'=>∃x:DX 2,e=.returned (qU x.2.1.1 x.1.1.length x.2.1.2)/\Wrs (srcR b A n c K).F w w'/\(XY b A n c (K+200) x).P w'/\(∀q,(XY b A n c (K+200) x).F q->(srcR b A n c K).F q\/w.heap.size<=q)/\(XY b A n c (K+200) x).B=0:=by
 have hlt:=(srcR b A n c K).low w hP b rfl;refine Km (m:=48) ([b]) (srcR b A n c K) (hP) (λq hq=>jlM.2 hq) J (Tryz.func58) J J (lb J) ?_;refine S3 ?_;refine aL (λb1=>?_);refine N3 ?_;refine a9 (JD J J (qo)) ?_;refine S1 ?_;refine aL (λb2=>?_);refine N7 ?_;refine j5 J J (wW J J J J J) J (lb J) (λb3=>?_);refine N1 ?_;refine qm (k:=0) (X:={v:Int//v∈[(3:Int),6,6,12,50]}) (v:=λx=>.int .i64 x.1) (r':=λ_=>srcR b A n c (K+1)) W9 rfl rfl rfl Dc rfl (λw1 hs=>FQ (zs:=zs) _ 5 5 [3,6,6,12,50] (jaO [3,6,6,12,50] (k:=3) rfl rfl w1 hs) Dc Dc (λp hp e=>by injection hp with hp;subst hp;exact hs.apart 0 3 _ _ Dc rfl rfl b rfl e.symm) (hB.ovx hs.over hne) hne (hs.all 0 _ rfl).1 hn Om) ?_
 rintro⟨m,hm⟩;refine n9 ?_
 try dsimp only
 have hm0:0<=m/\m<=50:=by simp only[jlP,jmi,or_false] at hm;omega
 refine S8 ?_;refine qm (k:=0) (X:={v:Int//0<=v/\v<2}) (v:=λx=>.int .i64 x.1) (r':=λ_=>srcR b A n c (K+2)) J9 J J J Dc J (λw1 hs=>Kw (zs:=zs) 2 Dc Dc (hB.ovx hs.over hne) hne (hs.all 0 _ J).1 hn Om) ?_;rintro⟨v1,hv1⟩;refine n9 ?_
 try dsimp only
 refine S3 ?_;refine QO (T:=41) (s:=1) ?_;refine t9 ?_;refine KY ?_;refine t9 ?_;refine S1 ?_;refine JW (X:=Nat×(Option Addr×Nat)×List Pc) (λx=>x.2.2.length+x.1<=2/\pcOk x.2.2) (λx=>x.1) (λx=>[(9,.int .i64 (x.1:Int))]) (kK [0,2,6,7,8]) (λx=>[srcR b A n c (K+2+60*x.2.2.length),.cel b1 25 [.slice none 0 0],.cel b2 25 [.slice x.2.1.1 x.2.2.length x.2.1.2],.cel b3 2 [.int .i64 3,.int .i64 6,.int .i64 6,.int .i64 12,.int .i64 50],JV (Bs.N ⟨w,[b]⟩) 41 1 x.2.2.length (x.2.2.map Pc.val) x.2.1,KD x.2.2]) ((1+v1).toNat,(none,0),[]) (⟨by simp only[jl5];omega,λe he=>by cases he⟩) ⟨vi Om,sz⟩ (λ_ h=>h) ?_;intro⟨j,⟨rA,rc⟩,l⟩ hx L hL1;refine v9 ?_;refine r9 ?_;obtain⟨hj,hpc⟩:l.length+j<=2/\pcOk l:=hx;refine S6 ?_;refine cZ (λc1=>?_) (λc1=>?_)
 .refine S6 ?_;refine a9 (JD J J (Ks)) ?_;refine S1 ?_;refine aL (λb4=>?_);refine N9 ?_;refine qm (k:=0) (X:={v:Int//0<=v/\v<6}) (v:=λx=>.int .i64 x.1) (r':=λ_=>srcR b A n c (K+2+60*l.length+1)) J9 J J J Dc J (λw1 hs=>Kw (zs:=zs) 6 Dc Dc (hB.ovx hs.over hne) hne (hs.all 0 _ J).1 hn Om) ?_;rintro⟨v2,hv2⟩;refine n9 ?_
  try dsimp only
  refine S3 ?_;refine QO (T:=36) (s:=2) ?_;refine t9 ?_;refine S1 ?_;refine JW (X:=Nat×List Pn×Option Addr×Nat) (λy=>(y.2.1.length+y.1<=6/\0<y.2.1.length+y.1)/\∀p∈y.2.1,EQ 50 p) (λy=>y.1) (λy=>[(11,.int .i64 (y.1:Int))]) (kK [0,2,6,7,8,9,20,21,24,10,25,26,27,28]) (λy=>[srcR b A n c (K+2+60*l.length+1+8*y.2.1.length),.cel b1 25 [.slice none 0 0],.cel b2 25 [.slice rA l.length rc],.cel b3 2 [.int .i64 3,.int .i64 6,.int .i64 6,.int .i64 12,.int .i64 50],JV (Bs.N ⟨w,[b]⟩) 41 1 l.length (l.map Pc.val) (rA,rc),KD l,.cel b4 41 [.slice y.2.2.1 y.2.1.length y.2.2.2],JV (Bs.N ⟨w,[b]⟩) 36 2 y.2.1.length (y.2.1.flatMap Jt) y.2.2]) ((1+v2).toNat,[],none,0) (⟨⟨by simp only[jl5];omega,by simp only[jl5];omega⟩,λp hp=>absurd hp (by simp)⟩) ⟨vi Om,sz⟩ (λ_ h=>h) ?_;intro⟨i,xs,pA,pc⟩ hy L hL2;refine v9 ?_;refine r9 ?_;obtain⟨⟨h6,h0⟩,hbd⟩:(xs.length+i<=6/\0<xs.length+i)/\∀p∈xs,EQ 50 p:=hy;refine S6 ?_;refine cZ (λc2=>?_) (λc2=>?_)
  .refine S5 ?_;refine Qy 6 [0] ?_;refine dV 0 [1] ?_;refine dK 1 ?_;refine dV 2 [4] ?_;refine dV 3 [4] ?_;refine qg (i:=4) J Dc Kr J ?_;refine qm (k:=0) (X:={p:Pn//EQ m p}) (v:=λx=>pV x.1) (r':=λ_=>srcR b A n c (K+2+60*l.length+1+8*xs.length+8)) Zo J J J Dc J (λw1 hs=>T5 (zs:=zs) m hm0.1 Om (hB.ovx hs.over hne) hne (hs.all 0 _ J).1 hn Om) ?_;rintro⟨q,hq⟩;refine n9 ?_
   try dsimp only
   refine JS (uw [0] J) ?_;refine qg (i:=5) J Dc Kr J ?_;refine j5 J J (qq J) J (lb J) (λb5=>?_);refine n9 ?_;refine JS (uw [0] J) ?_;refine vg J Kr J ?_;refine JQ (k:=7) J jw jG Dc J Dc J J J (λw' hs=>qL hs (k:=8) J J) (by simp[Value.oneCell']) (by unfold maxLen;omega) Om (jlL _) (λr1=>?_);refine n9 ?_;refine Qy 9 [6] ?_;refine dK 7 ?_;refine qg (i:=8) J Dc Kr J ?_;refine S1 ?_;refine JS (uw [6] J) ?_;refine JK Kr ?_;refine S7 ?_;exact Jn hL2 ((i-1,xs++[q],r1)) (⟨⟨by simp only[jlJ,jlS,jl5];omega,by simp only[jlJ,jlS,jl5];omega⟩,λp hp=>(jl0.1 hp).elim (hbd p) (λh=>by rw[jlM.1 h];obtain⟨⟨u1,u2⟩,u3,u4⟩:=hq;exact⟨⟨by omega,by omega⟩,by omega,by omega⟩)⟩) (by simp only;omega) ⟨vi Om,sz⟩ (λ_ h=>h.upto ⟨by rw[jlJ];rfl,rfl,rfl,rfl,rfl,rfl,by rw[jlJ];rfl,by rw[jlJ,jlW];rfl,trivial⟩)
  .have hi0:i=0:=Om;refine Uh 0 (K2:=K+2+60*(l.length+1)) J Om ?_;refine t9 ?_;refine S10 ?_;refine j5 J J (qe J) J (lb J) (λb6=>?_);refine N1 ?_;refine JQ (k:=4) J jC Jl Dc J Dc J J J (λw' hs=>qL hs (k:=8) J J) (by simp[Value.oneCell']) (by unfold maxLen;omega) Om (jlL _) (λr2=>?_);refine N4 ?_;refine YC 7 J J (λclo chi=>?_);refine t9 ?_;refine Ke 5 7 J J Dc J ?_;refine t9 ?_;refine S7 ?_;exact Jn hL1 ((j-1,r2,l++[⟨xs,pA,pc,clo,chi⟩])) (⟨by simp only[jlJ,jlS,jl5];omega,hpc.push ⟨⟨by show 0<xs.length;omega,by show xs.length<=6;omega⟩,hbd⟩⟩) (by simp only;omega) ⟨vi Om,sz⟩ (λ_ h=>h.upto ⟨by rw[jlJ];rfl,J,by rw[jlJ];rfl,J,by rw[jlJ,jma];rfl,(ve _ _).symm,trivial⟩)
 .refine S12 ?_;refine jK J (qj (k:=1) J jD J J) ?_;intro w' hs;exact⟨(⟨l.map (·.xs),hpc.drw Om⟩,(rA,rc),w.heap.size,w'.heap.size),by simp only[jlV],WA hs,jkS (srcR.more (hs.all 0 _ rfl).1 Om) hlt (by simp only[jlV];exact yu hs (ks:=0) (kr:=4) (kp:=5) rfl rfl rfl rfl Dc Dc Dc rfl (λe he=>by have:=(hpc e he).1.2;omega)) rfl rfl⟩
end
theorem Br{rs:List jI}(h:jef n rs)(hm:n<=m):jef m rs:=⟨jmC h.1 hm,h.2⟩
theorem jjB{c K K' m':Nat}{x:DX m}(h:(XY b A n c K x).P w)(hK:K<=K')(hm:m<=m'):(XY b A n c K' (⟨⟨x.1.1,Br x.1.2 hm⟩,x.2⟩:DX m')).P w:=by
 obtain⟨h1,h2⟩:=h;refine⟨λr hr=>?_,?_⟩
 .simp only[jlP,jmi,or_false] at hr;rcases hr with rfl|rfl
  .exact⟨srcR.more (h1 (srcR b A n c K) (by simp)).1 hK,rfl⟩
  .exact h1 (jhd x) (by simp)
 .refine jmc.2 ⟨λr hr=>?_,jmK _ _⟩;have e:=jlM.1 hr
  subst e;exact(jmc.1 h2).1 (jhd x) (jlM.2 rfl)
theorem jhe{c K K' m' q:Nat}{x:DX m}(hm:m<=m')(h:(XY b A n c K' (⟨⟨x.1.1,Br x.1.2 hm⟩,x.2⟩:DX m')).F q):(XY b A n c K x).F q:=by
 obtain⟨r,hr,hq⟩:=h;simp only[jlP,jmi,or_false] at hr;rcases hr with rfl|rfl
 .exact⟨srcR b A n c K,by simp,hq⟩
 .exact⟨jhd x,by simp,hq⟩
theorem jlp{px py pw ph q:Int}(h1:0<=px/\px<9)(h2:0<=py/\py<9)(h3:0<=pw/\pw<8)(h4:0<=ph/\ph<8)(h5:0<=q/\q<4):
  ∀p∈[(px,py),(px+(1+pw),py),(px+(1+pw)+q,py+(1+ph)),(px,py+(1+ph))],EQ 50 p:=λp hp=>by
 simp only[jlP,jmi,or_false] at hp;rcases hp with rfl|rfl|rfl|rfl<;>exact⟨⟨by omega,by omega⟩,by omega,by omega⟩
theorem jkK{px py pw ph:Int}(h1:0<=px/\px<9)(h2:0<=py/\py<9)(h3:0<=pw/\pw<8)(h4:0<=ph/\ph<8):
  ∀p∈[(px,py),(px+(1+pw),py),(px+(1+pw),py+(1+ph)),(px,py+(1+ph))],EQ 50 p:=λp hp=>by
 simp only[jlP,jmi,or_false] at hp;rcases hp with rfl|rfl|rfl|rfl<;>exact⟨⟨by omega,by omega⟩,by omega,by omega⟩
section
variable{b n c K:Nat}{A:Option Addr}{zs:List Int}{w:World}
theorem NC(hB:Byts w A n zs)(hne:0<n->∀p,A=some p->p.block≠b)(hP:(srcR b A n c K).P w)(hn:n<=1048576)(hK:K<=500):
  Calls Tryz.prog 38 #[.pointer (some ⟨b,0,none⟩)] w λe w'=>∃x:DX 3,e=.returned (qU x.2.1.1 x.1.1.length x.2.1.2)/\Wrs (srcR b A n c K).F w w'/\(XY b A n c (K+300) x).P w'/\(∀q,(XY b A n c (K+300) x).F q->(srcR b A n c K).F q\/w.heap.size<=q)/\(XY b A n c (K+300) x).B=0:=by
 have hlt:=(srcR b A n c K).low w hP b rfl;refine Km (m:=98) ([b]) (srcR b A n c K) (hP) (λq hq=>jlM.2 hq) J (Tryz.func38) J J (lb J) ?_;refine S3 ?_;refine aL (λb1=>?_);refine N6 ?_;refine qm (k:=0) (X:=Bool) (v:=λx=>.bool x) (r':=λ_=>srcR b A n c (K+1)) kJ J J J Dc J (λw1 hs=>xW (zs:=zs) 3 Dc Dc (hB.ovx hs.over hne) hne (hs.all 0 _ J).1 hn Om) ?_;rintro ob;refine N1 ?_;refine cZ (λc1=>?_) (λc1=>?_)
 .refine S4 ?_;refine qm (k:=0) (X:=DX 2) (v:=λx=>qU x.2.1.1 x.1.1.length x.2.1.2) (r':=λx=>XY b A n c (K+1+200) x) Zt J J J Dc J (λw1 hs=>Nx (zs:=zs) (hB.ovx hs.over hne) hne (hs.all 0 _ J).1 hn Om) ?_;rintro x0;refine N5 ?_;refine jK J (qj (k:=1) J jD J J) ?_;intro w' hs;exact⟨⟨⟨x0.1.1,Br x0.1.2 Dc⟩,x0.2⟩,rfl,WA hs,jjB (hs.all 0 _ rfl).1 Om Dc,λq hq=>((hs.all 0 _ rfl).2.1 q (jhe Dc hq)).elim (λh=>.inr h) (λh=>.inl (jlM.1 h)),rfl⟩
 .refine S4 ?_;refine a9 (JD J J (qo)) ?_;refine S1 ?_;refine aL (λb2=>?_);refine N8 ?_;refine qm (k:=0) (X:={v:Int//0<=v/\v<3}) (v:=λx=>.int .i64 x.1) (r':=λ_=>srcR b A n c (K+2)) J9 J J J Dc J (λw1 hs=>Kw (zs:=zs) 3 Dc Dc (hB.ovx hs.over hne) hne (hs.all 0 _ J).1 hn Om) ?_;rintro⟨v1,hv1⟩;refine n9 ?_
  try dsimp only
  refine S3 ?_;refine QO (T:=41) (s:=1) ?_;refine t9 ?_;refine KY ?_;refine t9 ?_;refine S1 ?_;refine JW (X:=Nat×(Option Addr×Nat)×List Pc) (λx=>x.2.2.length+x.1<=3/\pcOk x.2.2) (λx=>x.1) (λx=>[(4,.int .i64 (x.1:Int))]) (kK [0,2,3]) (λx=>[srcR b A n c (K+2+60*x.2.2.length),.cel b1 25 [.slice none 0 0],.cel b2 25 [.slice x.2.1.1 x.2.2.length x.2.1.2],JV (Bs.N ⟨w,[b]⟩) 41 1 x.2.2.length (x.2.2.map Pc.val) x.2.1,KD x.2.2]) ((1+v1).toNat,(none,0),[]) (⟨by simp only[jl5];omega,λe he=>by cases he⟩) ⟨vi Om,sz⟩ (λ_ h=>h) ?_;intro⟨j,⟨rA,rc⟩,l⟩ hx L hL1;refine v9 ?_;refine r9 ?_;obtain⟨hj,hpc⟩:l.length+j<=3/\pcOk l:=hx;obtain⟨KL,hL⟩:∃KL,KL=K+2+60*l.length:=⟨_,rfl⟩;rw[<-hL];refine S6 ?_;refine cZ (λc2=>?_) (λc2=>?_)
  .refine S8 ?_;refine qm (k:=0) (X:={v:Int//0<=v/\v<9}) (v:=λx=>.int .i64 x.1) (r':=λ_=>srcR b A n c (KL+1)) J9 J J J Dc J (λw1 hs=>Kw (zs:=zs) 9 Dc Dc (hB.ovx hs.over hne) hne (hs.all 0 _ J).1 hn Om) ?_;rintro⟨px,hpx⟩;refine n9 ?_
   try dsimp only
   refine S6 ?_;refine qm (k:=0) (X:={v:Int//0<=v/\v<9}) (v:=λx=>.int .i64 x.1) (r':=λ_=>srcR b A n c (KL+2)) J9 J J J Dc J (λw1 hs=>Kw (zs:=zs) 9 Dc Dc (hB.ovx hs.over hne) hne (hs.all 0 _ J).1 hn Om) ?_;rintro⟨py,hpy⟩;refine n9 ?_
   try dsimp only
   refine S6 ?_;refine qm (k:=0) (X:={v:Int//0<=v/\v<8}) (v:=λx=>.int .i64 x.1) (r':=λ_=>srcR b A n c (KL+3)) J9 J J J Dc J (λw1 hs=>Kw (zs:=zs) 8 Dc Dc (hB.ovx hs.over hne) hne (hs.all 0 _ J).1 hn Om) ?_;rintro⟨pw,hpw⟩;refine n9 ?_
   try dsimp only
   refine S7 ?_;refine qm (k:=0) (X:={v:Int//0<=v/\v<8}) (v:=λx=>.int .i64 x.1) (r':=λ_=>srcR b A n c (KL+4)) J9 J J J Dc J (λw1 hs=>Kw (zs:=zs) 8 Dc Dc (hB.ovx hs.over hne) hne (hs.all 0 _ J).1 hn Om) ?_;rintro⟨ph,hph⟩;refine n9 ?_
   try dsimp only
   refine S7 ?_;refine a9 (JD J J (J8 J J)) ?_;refine S4 ?_;refine a9 (JD J J (J8 J J)) ?_;refine S6 ?_;refine a9 (JD J J (J8 J J)) ?_;refine S4 ?_;refine a9 (JD J J (J8 J J)) ?_;refine S1 ?_;refine j5 J J (kt J J J J) J (lb J) (λb3=>?_);refine n9 ?_;refine a9 (JD J J (Qn J)) ?_;refine S1 ?_;refine aL (λb4=>?_);refine N3 ?_;refine WZ (X:=Pc) (λx=>x.xs.length=4/\∀p∈x.xs,EQ 50 p) (λx=>[]) (kK [0,2,3,4,18,19,22,23,5,24,25,6,26,27,28,7,29,30,31,8,32,33,34,35,36,37,38,39,40,41,42,43,44,45,46,47,48,49,50,51,52,53,9]) (λx=>[srcR b A n c (KL+6),.cel b1 25 [.slice none 0 0],.cel b2 25 [.slice rA l.length rc],JV (Bs.N ⟨w,[b]⟩) 41 1 l.length (l.map Pc.val) (rA,rc),KD l,x.res,.cel b4 41 [x.val]]) (λL h_2=>?_) ?_
   .refine S4 ?_;refine qm (k:=0) (X:={v:Int//0<=v/\v<4}) (v:=λx=>.int .i64 x.1) (r':=λ_=>srcR b A n c (KL+5)) J9 J J J Dc J (λw1 hs=>Kw (zs:=zs) 4 Dc Dc (hB.ovx hs.over hne) hne (hs.all 0 _ J).1 hn Om) ?_;rintro⟨pk,hpk⟩;refine n9 ?_
    try dsimp only
    refine S7 ?_;refine cZ (λc3=>?_) (λc3=>?_)
    .refine S1 ?_;refine Qy 14 [0,5] ?_;refine d9 0 J [] (uw [0,5] J) (jf J J Jw) ?_;refine d9 1 J [] (uw [0,5] J) (jn J J JH (qr (k:=6) J J)) ?_;refine d9 2 J [] (uw [0,5] J) q9 ?_;refine d9 3 J [] (uw [0,5] J) q9 ?_;refine d9 4 J [] (uw [0,5] J) p9 ?_;refine d9 5 J [] (uw [0,5] J) q9 ?_;refine d9 8 J [] (uw [0,5] J) q9 ?_;refine d9 9 J [] (uw [0,5] J) q9 ?_;refine d9 10 J [] (uw [0,5] J) p9 ?_;refine qg (i:=6) J Dc Kr J ?_;refine qm (k:=0) (X:={v:Int//0<=v/\v<4}) (v:=λx=>.int .i64 x.1) (r':=λ_=>srcR b A n c (KL+6)) J9 J J J Dc J (λw1 hs=>Kw (zs:=zs) 4 Dc Dc (hB.ovx hs.over hne) hne (hs.all 0 _ J).1 hn Om) ?_;rintro⟨pq,hpq⟩;refine n9 ?_
     try dsimp only
     refine JS (uw [0,5] J) ?_;refine d9 7 J [] (uw [0,5] J) p9 ?_;refine d9 11 J [] (uw [0,5] J) (JD J J (J8 J J)) ?_;refine d9 12 J [] (uw [0,5] J) (jQ (j:=2) J J J jw Om) ?_;refine qg (i:=13) J Dc Kr J ?_;refine Dh (k:=5) J J J J (J) (by rfl) jG.szx J ?_;refine t9 ?_;refine JS (uw [0,5] J) ?_;refine JK Kr ?_;refine ZP 5 4 [(px,py),(px+(1+pw),py),(px+(1+pw)+pq,py+(1+ph)),(px,py+(1+ph))] J ?_;refine t9 ?_;refine S2 ?_;exact Qd h_2 (⟨[(px,py),(px+(1+pw),py),(px+(1+pw)+pq,py+(1+ph)),(px,py+(1+ph))],some ⟨b3,0,none⟩,4,b3,b3+1⟩) (⟨J,jlp hpx hpy hpw hph hpq⟩) ⟨J,sz⟩ (λ_ h=>(h.picks [0,1,2,3,4,5,6] Dc).upto ⟨J,sz⟩)
    .refine S5 ?_;refine cZ (λc4=>?_) (λc4=>?_)
     .refine S1 ?_;refine JY 18 ?_;refine dK 0 ?_;refine dK 1 ?_;refine dZ 2 J (jQ (j:=3) J J J jw Om) ?_;refine dK 3 ?_;refine dK 4 ?_;refine dK 5 ?_;refine dZ 6 J (jQ (j:=2) J J J jw Om) ?_;refine dK 7 ?_;refine dK 8 ?_;refine dK 9 ?_;refine dZ 10 J (jQ (j:=1) J J J jw Om) ?_;refine dK 11 ?_;refine dK 12 ?_;refine dK 13 ?_;refine dZ 14 J (jQ (j:=0) J J J jw Om) ?_;refine dK 15 ?_;refine qg (i:=16) J Dc Kr J ?_;refine j5 J J (kt J J J J) J (lb J) (λb5=>?_);refine n9 ?_;refine JS (u9 J) ?_;refine dK 17 ?_;refine vg J Kr J ?_;refine S1 ?_;refine Yp Kr ?_;refine Uh 0 (K2:=KL+6) J Om ?_;refine t9 ?_;refine ZP 7 4 [(px,py+(1+ph)),(px+(1+pw),py+(1+ph)),(px+(1+pw),py),(px,py)] J ?_;refine t9 ?_;refine S2 ?_;exact Qd h_2 (⟨[(px,py+(1+ph)),(px+(1+pw),py+(1+ph)),(px+(1+pw),py),(px,py)],some ⟨b5,0,none⟩,4,b5,b5+1⟩) (⟨J,λp hp=>jkK hpx hpy hpw hph p (by simpa[or_comm,or_left_comm,or_assoc] using hp)⟩) ⟨J,sz⟩ (λ_ h=>(h.picks [0,1,2,3,4,7,6] Dc).upto ⟨J,sz⟩)
     .refine Uh 0 (K2:=KL+6) J Om ?_;refine t9 ?_;refine ZP 5 4 [(px,py),(px+(1+pw),py),(px+(1+pw),py+(1+ph)),(px,py+(1+ph))] J ?_;refine t9 ?_;refine S3 ?_;exact Qd h_2 (⟨[(px,py),(px+(1+pw),py),(px+(1+pw),py+(1+ph)),(px,py+(1+ph))],some ⟨b3,0,none⟩,4,b3,b3+1⟩) (⟨J,jkK hpx hpy hpw hph⟩) ⟨J,sz⟩ (λ_ h=>(h.picks [0,1,2,3,4,5,6] Dc).upto ⟨J,sz⟩)
   .rintro⟨xs,pA,pc,plo,phi⟩ hxp;refine v9 ?_;refine r9 ?_;obtain⟨hx4,hbd⟩:xs.length=4/\∀p∈xs,EQ 50 p:=hxp;refine S5 ?_;refine j5 J J (qe J) J (lb J) (λb6=>?_);refine N1 ?_;refine JQ (k:=3) J jC Jl Dc J Dc J J J (λw' hs=>qL hs (k:=7) J J) (by simp[Value.oneCell',Pc.val]) (by unfold maxLen;omega) Om (jlL _) (λr1=>?_);refine N4 ?_;refine Uh 0 (K2:=K+2+60*(l.length+1)) J Om ?_;refine t9 ?_;refine Ke 4 5 J J Dc J ?_;refine t9 ?_;refine S7 ?_;exact Jn hL1 ((j-1,r1,l++[⟨xs,pA,pc,plo,phi⟩])) (⟨by simp only[jlJ,jlS,jl5];omega,hpc.push ⟨⟨by show 0<xs.length;omega,by show xs.length<=6;omega⟩,hbd⟩⟩) (by simp only;omega) ⟨vi Om,sz⟩ (λ_ h=>h.upto ⟨by rw[jlJ];rfl,J,by rw[jlJ];rfl,by rw[jlJ,jma];rfl,(ve _ _).symm,trivial⟩)
  .refine S12 ?_;refine jK J (qj (k:=1) J jD J J) ?_;intro w' hs;exact⟨(⟨l.map (·.xs),hpc.drw Om⟩,(rA,rc),w.heap.size,w'.heap.size),by simp only[jlV],WA hs,jkS (srcR.more (hs.all 0 _ rfl).1 Om) hlt (by simp only[jlV];exact yu hs (ks:=0) (kr:=3) (kp:=4) rfl rfl rfl rfl Dc Dc Dc rfl (λe he=>by have:=(hpc e he).1.2;omega)) rfl rfl⟩
end
end Go.Proofs.YtjbahemkhphndaaGreat
