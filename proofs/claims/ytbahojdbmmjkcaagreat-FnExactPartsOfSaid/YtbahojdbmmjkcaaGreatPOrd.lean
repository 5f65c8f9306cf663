import Derived.Test.YtbahojdbmmjkcaaGreatPStabP
import Derived.Test.YtbahojdbmmjkcaaGreatPHot
import Derived.Test.YtbahojdbmmjkcaaGreatPTo
set_option linter.unusedVariables false
set_option linter.unusedSimpArgs false
namespace Go.Proofs.YtbahojdbmmjkcaaGreat
open Go Go.RowKit
variable {A:Option Addr} {a b xs ys:List Pn} {cs:List Value} {k n o:Nat} {p q:Pn} {pl:Nat→Option Addr×Nat} {rs:List jK} {w:World} {x:Option Addr×Nat} {α:Type}
set_option maxRecDepth 100000
set_option maxHeartbeats 4000000
def yxC (p q:Pn) :Int:=if p.2=q.2 then wZ (p.1- q.1) else wZ (p.2- q.2)
theorem Pz {n:Int} :wZ n<0↔n<0:=by unfold wZ;split<;> (try split) <;>omega
theorem Py {n:Int} :wZ n=0↔n=0:=by unfold wZ;split<;> (try split) <;>omega
theorem PQ :yxC p q<0↔wc p q:=by
 unfold yxC wc
 split
 ·rw [Pz];omega
 ·rw [Pz];omega
theorem Ua :yxC p q=0↔p=q:=by
 obtain ⟨a,b⟩ :=p
 obtain ⟨c,d⟩ :=q
 simp only [yxC,Prod.mk.injEq]
 split
 ·rw [Py];omega
 ·rw [Py];omega
def WA:List Pn→List Pn→Int
 | [],[] =>0
 | [],_::_=> -1
 | _::_,[] =>1
 | p::a,q::b=>if yxC p q=0 then WA a b else yxC p q
def WB (a b:List Pn) :Bool:=decide (WA a b<0)
theorem Md :WB a [] =false:=by cases a<;>rfl
theorem Fa :WB [] (q::b) =true:=rfl
theorem uz :WB (p::a) (q::b) =true↔wc p q∨(p=q∧WB a b=true) :=by
 unfold WB
 rw [decide_eq_true_eq,decide_eq_true_eq,WA]
 split
 ·rename_i h
  have:=Ua.1 h
  subst this
  exact⟨fun h=> .inr ⟨rfl,h⟩,fun h=>h.elim (fun h=>absurd h (Q7 p)) (·.2)⟩
 ·rename_i h
  rw [PQ]
  exact⟨.inl,fun h'=>h'.elim id fun h'=>absurd (Ua.2 h'.1) h⟩
theorem XV:∀a b:List Pn,WB a b=true→WB b a=false
 | _,[],h=>by rw [Md] at h;cases h
 | [],q::b,_=>Md
 | p::a,q::b,h=>by
  rw [Bool.eq_false_iff,_root_.Ne,uz]
  intro h2
  rcases uz.1 h with h1 |⟨rfl,h1⟩
  ·rcases h2 with h2 |⟨rfl,_⟩
   ·exact Q7 p (vF h1 h2)
   ·exact Q7 _ h1
  ·rcases h2 with h2 |⟨_,h2⟩
   ·exact Q7 _ h2
   ·rw [XV a b h1] at h2;cases h2
theorem NB:∀a b c:List Pn,WB a c=true→WB a b=true∨WB b c=true
 | _,_,[],h=>by rw [Md] at h;cases h
 | [],[],_::_,_=> .inr Fa
 | _::_,[],_::_,_=> .inr Fa
 | [],_::_,_::_,_=> .inl Fa
 | p::a,q::b,r::c,h=>by
  rw [uz,uz]
  rcases Ui p q with h1 | rfl | h1
  ·exact .inl (.inl h1)
  ·rcases uz.1 h with h2 |⟨rfl,h2⟩
   ·exact .inr (.inl h2)
   ·rcases NB a b c h2 with h3 | h3
    ·exact .inl (.inr ⟨rfl,h3⟩)
    ·exact .inr (.inr ⟨rfl,h3⟩)
  ·rcases uz.1 h with h2 |⟨rfl,h2⟩
   ·exact .inr (.inl (vF h1 h2))
   ·exact .inr (.inl h1)
theorem BD:Weak WB:=⟨XV,fun a b c h1 h2=>by
 rw [Bool.eq_false_iff]
 intro h
 rcases NB a b c h with h3 | h3
 ·rw [h1] at h3;cases h3
 ·rw [h2] at h3;cases h3⟩
theorem Weak.by {β:Type} {lt:β→β→Bool} (W:Weak lt) (f:α→β) :Weak fun x y=>lt (f x) (f y) :=⟨fun a b h=>W.asym _ _ h,fun a b c h1 h2=>W.neg _ _ _ h1 h2⟩
theorem zC (h:k<xs.length) :xs.drop k=pt xs k::xs.drop (k+1) :=by
 rw [jg3 h,yq h]
 rfl
theorem D7 (h1:k<xs.length) (h2:k<ys.length) (h:pt xs k=pt ys k) :WA (xs.drop k) (ys.drop k) =WA (xs.drop (k+1)) (ys.drop (k+1)) :=by
 rw [zC h1,zC h2,WA,if_pos (Ua.2 h)]
theorem D8 (h1:k<xs.length) (h2:k<ys.length) (h:pt xs k≠pt ys k) :WA (xs.drop k) (ys.drop k) =yxC (pt xs k) (pt ys k) :=by
 rw [zC h1,zC h2,WA,if_neg (fun h'=>h (Ua.1 h'))]
theorem xD (h1:k=xs.length) (h2:k≤ys.length) :WA (xs.drop k) (ys.drop k) =if k<ys.length then-1 else 0:=by
 rw [jhq Om]
 split
 ·rename_i h;rw [zC h];rfl
 ·rw [jhq Om];rfl
theorem Rv (h1:k<xs.length) (h2:ys.length≤k) :WA (xs.drop k) (ys.drop k) =1:=by
 rw [zC h1,jhq h2];rfl
def UO (xs:List Pn) (k:Nat) :List Pn:=xs.drop k++xs.take k
def vg (xs:List Pn) :Nat→Nat
 | 0=>0
 | k+1=>if WB (UO xs k) (UO xs (vg xs k)) =true then k else vg xs k
def Wc (xs:List Pn) :List Pn:=UO xs (vg xs xs.length)
theorem V0 : (UO xs k).length=xs.length:=by simp [UO];omega
theorem Pi :p∈UO xs k↔p∈xs:=by
 unfold UO
 rw [jgL,or_comm,←jgL,jgI]
theorem jbS (xs:List Pn) :UO xs 0=xs:=by simp [UO]
theorem VC : (Wc xs).length=xs.length:=V0
theorem Ej :p∈Wc xs↔p∈xs:=Pi
theorem Cp (a:List Pn) :WB a a=false:=by
 cases h:WB a a
 ·rfl
 ·rw [XV a a h] at h;cases h
theorem Gu (xs:List Pn) :vg xs 1=0:=by simp [vg,Cp]
theorem Xs (xs:List Pn) :∀k,0<k→vg xs k<k
 | 0,h=>absurd h Om
 | 1,_=>by rw [Gu];omega
 | k+2,_=>by
  rw [vg]
  split
  ·omega
  ·have:=Xs xs (k+1) Om;omega
theorem Fz {j:Nat} (hk:k<xs.length) (hj:j<xs.length) :pt (UO xs k) j=pt xs ((k+j) % xs.length) :=by
 have e: (UO xs k)[j]? =xs[(k+j) % xs.length]? :=by
  unfold UO
  by_cases h:j<xs.length- k
  ·rw [List.getElem?_append_left (by simpa using h),List.getElem?_drop,jhM Om]
  ·rw [List.getElem?_append_right (by simpa using h),jgQ,List.getElem?_take,if_pos Om]
   congr 1
   rw [Nat.mod_eq_sub_mod Om,jhM Om]
   omega
 simp only [pt,px,py,List.getD_eq_getElem?_getD,e]
theorem Co (h1:0<xs.length) (h2:0<ys.length) (h:0<yxC (pt xs 0) (pt ys 0)) :WB xs ys=false:=by
 have:=D8 (k:=0) h1 h2 (fun e=>by rw [Ua.2 e] at h;omega)
 rw [List.drop_zero,List.drop_zero] at this
 unfold WB
 rw [this,decide_eq_false_iff_not]
 omega
theorem jdC (hk:k<xs.length) :pt (UO xs k) 0=pt xs k:=by rw [Fz hk Om,jhV,jhM hk]
theorem Dk (h:WB (UO xs k) (UO xs (vg xs k)) =true) :vg xs (k+1) =k:=by rw [vg,if_pos h]
theorem M8 (h:WB (UO xs k) (UO xs (vg xs k)) =false) :vg xs (k+1) =vg xs k:=by rw [vg,if_neg (by rw [h];decide)]
theorem OV {j:Nat} (hk:k<xs.length) (hj:j<xs.length) : ((UO xs k).take j).flatMap Ju++Ju (pt xs ((k+j) % xs.length)) = ((UO xs k).take (j+1)).flatMap Ju:=by
 rw [jgE (by rw [V0];exact hj),jgG,yq (by rw [V0];exact hj)]
 have:=Fz hk hj
 unfold pt at this
 rw [this]
 simp [pt]
theorem Nu {lt:α→α→Bool} (W:Weak lt) {l:List α} (hs:Ub lt l) {x:α} (hk:k≤l.length) (hi:∀q∈l.drop k,lt x q=true) (hlo:k=0∨∃p,l[k- 1]? =some p∧lt x p=false) :VQ lt x l=l.take k++x::l.drop k:=by
 have:=LX (lt:=lt) x (l.take k) (l.drop k) (fun p hp=> ?_) (fun q hq=>hi q (List.mem_of_mem_head? hq))
 ·rwa [jgI] at this
 ·rcases hlo with rfl |⟨r,hr,hx⟩
  ·simp at hp
  ·obtain ⟨i,hi',e⟩ :=jg1 hp
   rw [jgJ] at hi'
   rw [List.getElem_take] at e
   obtain ⟨hr1,rfl⟩ :=List.getElem?_eq_some_iff.1 hr
   subst e
   rcases jhK (show i≤k- 1 by omega) with h1 | rfl
   ·exact W.neg _ _ _ hx (jho.1 hs i (k- 1) Om hr1 h1)
   ·exact hx
theorem GF (p q:Pn) (w:World) (hp:zQ p) (hq:zQ q) :Calls Tryz.prog 112 #[pV p,pV q] w fun e w'=>e= .returned (.int .i64 (yxC p q))∧Over w w':=by
 obtain ⟨⟨p1,p2⟩,p3,p4⟩ :=hp
 obtain ⟨⟨q1,q2⟩,q3,q4⟩ :=hq
 refine jT (m:=22) (Tryz.func112) J J (lb J) ?_;refine S3 ?_;refine aX (fun b1=> ?_);refine N1 ?_;refine aX (fun b2=> ?_);refine N11 ?_;refine cZ (fun c1=> ?_) (fun c1=> ?_)
 ·refine S7 ?_;refine a9 (jJ QM J J (fun w h=>Calls.still (kX _ w))) ?_;refine S4 ?_;refine jL J (.tmp J) ?_
  intro w' hs
  exact⟨by rw [yxC,if_neg c1],hs.fin⟩
 ·refine S9 ?_;refine a9 (jJ QM J J (fun w h=>Calls.still (kX _ w))) ?_;refine S3 ?_;refine jL J (.tmp J) ?_
  intro w' hs
  exact⟨by rw [yxC,if_pos Om],hs.fin⟩
theorem Pts.dropT {b c:Nat} (h:Pts w (some ⟨b,o,none⟩) n xs) (hk:k≤n) (hc:n≤c) :Pts w (some ⟨b,Ys o k c 2,none⟩) (n- k) (xs.drop k) :=by
 have hl:=h.1
 refine⟨by rw [jgQ,hl],fun h0=> ?_⟩
 obtain ⟨b',o',e,hlt,hx⟩ :=h.2 Om
 injection e with e
 injection e with e1 e2
 subst e1 e2
 refine⟨_,_,J,hlt,fun j hj=> ?_⟩
 have hd:∀j,px (xs.drop k) j=px xs (k+j)∧py (xs.drop k) j=py xs (k+j) :=fun j=>by
  simp only [px,py,List.getD_eq_getElem?_getD,List.getElem?_drop]
  exact⟨trivial,trivial⟩
 rw [Ys,if_neg Om,(hd j).1,(hd j).2,show o+k*2+j*2=o+ (k+j) *2 by omega]
 exact hx (k+j) Om
theorem Pts.takeT (h:Pts w A n xs) (hk:k≤n) :Pts w A k (xs.take k) :=by
 have hl:=h.1
 refine⟨by rw [jgJ];omega,fun h0=> ?_⟩
 obtain ⟨b,o,e,hlt,hx⟩ :=h.2 Om
 refine⟨b,o,e,hlt,fun j hj=> ?_⟩
 have hd:px (xs.take k) j=px xs j∧py (xs.take k) j=py xs j:=by
  simp only [px,py,List.getD_eq_getElem?_getD,List.getElem?_take,if_pos hj]
  exact⟨trivial,trivial⟩
 rw [hd.1,hd.2]
 exact hx j Om
theorem Yw (A:Option Addr) (n c:Nat) (xs:List (Int×Int)) (w:World) (h:Pts w A n xs) (hn:0<n) (hn2:n≤1048577) :
  Calls Tryz.prog 75 #[.slice A n c] w fun e w'=>∃v,e= .returned v∧w'.ownsRow w.heap.size 28 2 v n (xs.flatMap Ju)∧Over w w':=by
 obtain ⟨b,o,rfl,_⟩ :=h.2 hn
 refine jT (m:=8) (Tryz.func75) J J (lb J) ?_;refine S8 ?_;refine a9 (CN jB J J) ?_;refine S1 ?_;refine vJ J (J) ?_;refine S5 ?_;refine Jw J J (Kn) J (lb J) (fun b1=> ?_);refine vK 0 2 J J ?_;refine N2 ?_;refine JV (k:=0) J jB jH Dc J Dc J J J (fun w' hs=>MY (h.over hs.fin) hn) (Ve _) (by unfold maxLen;omega) Om (jgx _) (fun r1=> ?_);refine N3 ?_;refine jL J (.tmp J) ?_
 intro w' hs
 have hr0:w'.ownsRow w.heap.size 28 2 (.slice r1.1 (0+n) r1.2) (0+n) (xs.flatMap Ju) := (hs.all 0 _ rfl).1
 exact⟨_,rfl,by rw [jgT] at hr0⊢;exact hr0,hs.fin⟩
theorem NY {w':World} {Rs:List Res} (hs:St ⟨w,[]⟩ Rs w') {kr kp B T:Nat} {l:List Pc} (hr:Rs[kr]? =some (JQ B T 1 n (l.map Pc.val) x)) (hp:Rs[kp]? =some (ke l)) (hne:kr≠kp) (_e:w=w) (hl:l.length=n) (hrs:l.map (·.xs) =rs) (hm:∀j,j<rs.length→(rg rs j).length≤1099511627776) :OwnG w.heap.size w'.heap.size w' x.1 n rs:=by
 have hrow:w'.ownsRow B T 1 (.slice x.1 n x.2) n (l.map Pc.val) := (hs.all kr _ hr).1
 have hX:=hs.all kp _ hp
 rcases hrow.2 with⟨_,e⟩ |⟨g,cap,cur,e,hb,hg,hcap,hmax,hsz,htk⟩
 ·subst e
  obtain rfl:l= [] :=jgX hl
  subst hrs
  exact OwnG.nil _
 ·injection e with e1 e2 e3
  rw [e1]
  have hF: (JQ B T 1 n (l.map Pc.val) x).F g:=by show Value.ownBlock (.slice x.1 n x.2) =some g;rw [e1];rfl
  have hown:=Ld (lo:=w.heap.size) (o:=0) hg (((hs.all kr _ hr).2.1 g hF).elim id (fun h=>by cases h)) (fun j hj=> ?_) hX.1 (fun h=>hs.apart kr kp _ _ hne hr hp g hF h) (fun q hq=> (hX.2.1 q hq).elim id (fun h=>by cases h)) (fun e he=> ?_)
  ·rw [hrs,hl] at hown
   exact hown
  ·have hc:cur[j]? = (l.map Pc.val)[j]? :=by rw [←htk,List.getElem?_take,if_pos Om];simp
   rw [jgT,hc]
   simp [hj]
  ·have:e.xs∈rs:=hrs▸jgO.2 ⟨e,he,rfl⟩
   obtain ⟨j,hj,e2⟩ :=jg1 this
   have:=hm j hj
   rw [←Vm hj,e2] at this
   omega
def RevTo (cs:List Value) (o n i:Nat) (xs:List (Int×Int)) :Prop:=∀q,q<n→cs[o+q*2]? =some (.int .i64 (px xs (if q<i∨n- 1- i<q then n- 1- q else q)))∧cs[o+q*2+1]? =some (.int .i64 (py xs (if q<i∨n- 1- i<q then n- 1- q else q)))
theorem RevTo.step {i:Nat} {xs:List (Int×Int)} (h:RevTo cs o n i xs) (hi:2*i+1<n) (hl:∀q,q<n→o+q*2+1<cs.length) :
  RevTo (qB (qB cs (o+i*2) [.int .i64 (px xs (n- 1- i)), .int .i64 (py xs (n- 1- i))]) (o+ (n- 1- i) *2) [.int .i64 (px xs i), .int .i64 (py xs i)]) o n (i+1) xs:=by
 intro q hq
 have h1:=hl i Om
 have h2:=hl (n- 1- i) Om
 simp only [qB]
 by_cases e1:q=i
 ·subst e1
  rw [if_pos Om,List.getElem?_set_ne Om,List.getElem?_set_ne Om,List.getElem?_set_ne Om,List.getElem?_set_self Om,List.getElem?_set_ne Om,List.getElem?_set_ne Om,List.getElem?_set_self (by simp;omega)]
  exact⟨rfl,rfl⟩
 ·by_cases e2:q=n- 1- i
  ·subst e2
   rw [if_pos Om,List.getElem?_set_ne Om,List.getElem?_set_self (by simp;omega),List.getElem?_set_self (by simp;omega),show n- 1- (n- 1- i) =i by omega]
   exact⟨rfl,rfl⟩
  ·have:=h q hq
   have hif: (q<i+1∨n- 1- (i+1) <q)↔(q<i∨n- 1- i<q) :=by omega
   simp only [hif]
   rw [List.getElem?_set_ne Om,List.getElem?_set_ne Om,List.getElem?_set_ne Om,List.getElem?_set_ne Om,List.getElem?_set_ne Om,List.getElem?_set_ne Om,List.getElem?_set_ne Om,List.getElem?_set_ne Om]
   exact this
theorem RevTo.at_ {i q:Nat} {xs:List (Int×Int)} (h:RevTo cs o n i xs) (h1:i≤q) (h2:q≤n- 1- i) (hq:q<n) :cs[o+q*2]? =some (.int .i64 (px xs q))∧cs[o+q*2+1]? =some (.int .i64 (py xs q)) :=by
 have:=h q hq
 rwa [if_neg Om] at this
theorem OwnGd.put {lo hi:Nat} {w':World} {b T:Nat} {cs:Array Value} (ys:jK) (h:OwnGd lo hi w b o T cs pl n rs) (hl:rs.length=n) (hk:k<n) (hy:ys.length= (rg rs k).length) (hw:Wrs (fun q=>0< (rg rs k).length∧q=Vl (pl k).1∧FN lo hi q) w w') (hp:OwnP lo hi w' (pl k).1 (rg rs k).length ys) :OwnGd lo hi w' b o T cs pl n (rs.set k ys) :=by
 have hse:∀j,j<n→rg (rs.set k ys) j=if j=k then ys else rg rs j:=fun j hj=>by
  simp only [rg,List.getD_eq_getElem?_getD]
  by_cases e:j=k
  ·subst e;rw [if_pos rfl,List.getElem?_set_self Om];rfl
  ·rw [if_neg e,List.getElem?_set_ne (fun e'=>e e'.symm)]
 have hlen:∀j,j<n→(rg (rs.set k ys) j).length= (rg rs j).length:=fun j hj=>by
  rw [hse j hj]
  by_cases e:j=k
  ·subst e;rw [if_pos rfl,hy]
  ·rw [if_neg e]
 refine⟨h.low,h.high,(hw.block b (JZ h.blk) fun hq=> ?_).trans h.blk,fun j hj=> ?_,fun j hj=> ?_,fun j hj=> ?_,fun i j hi hj hij=> ?_⟩
 ·exact h.off k hk hq.1 hq.2.1.symm
 ·rw [hlen _ hj];exact h.cell j hj
 ·rw [hse j hj]
  by_cases hjk:j=k
  ·subst hjk
   rw [if_pos rfl,hy]
   exact hp
  ·rw [if_neg hjk]
   by_cases h0:0< (rg rs j).length
   ·refine(h.pts j hj).agree fun p hp' h1 h2=> ?_
    obtain ⟨b',o',T',cs',e',_,_,hh',_⟩ := (h.pts j hj).2 h0
    rw [e'] at hp'
    injection hp' with hp'
    subst hp'
    refine hw.block b' (JZ hh') fun hq=> ?_
    refine h.apart j k hj hk hjk h0 hq.1 ?_
    rw [e']
    exact hq.2.1
   ·exact⟨(h.pts j hj).1,fun h1=>absurd h1 h0⟩
 ·rw [hlen _ hj];exact h.off j hj
 ·rw [hlen _ hi,hlen _ hj];exact h.apart i j hi hj hij
end Go.Proofs.YtbahojdbmmjkcaaGreat
