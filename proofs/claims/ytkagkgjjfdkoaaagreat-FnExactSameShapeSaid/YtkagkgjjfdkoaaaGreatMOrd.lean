import Derived.Test.YtkagkgjjfdkoaaaGreatMStabP
import Derived.Test.YtkagkgjjfdkoaaaGreatMHot
import Derived.Test.YtkagkgjjfdkoaaaGreatMRegBounds
set_option linter.unusedVariables false
set_option linter.unusedSimpArgs false
namespace Go.Proofs.YtkagkgjjfdkoaaaGreat
open Go Go.RowKit
set_option maxRecDepth 100000
set_option maxHeartbeats 4000000
def yxC (p q:Pn) :Int:=if p.2=q.2 then Wh (p.1- q.1) else Wh (p.2- q.2)
theorem Ng {n:Int} :Wh n<0↔n<0:=by unfold Wh;split<;> (try split) <;>omega
theorem Nf {n:Int} :Wh n=0↔n=0:=by unfold Wh;split<;> (try split) <;>omega
theorem NA {p q:Pn} :yxC p q<0↔wq p q:=by
 unfold yxC wq
 split
 ·rw [Ng];omega
 ·rw [Ng];omega
theorem uV {p q:Pn} :yxC p q=0↔p=q:=by
 obtain ⟨a,b⟩ :=p
 obtain ⟨c,d⟩ :=q
 simp only [yxC,Prod.mk.injEq]
 split
 ·rw [Nf];omega
 ·rw [Nf];omega
def WG:List Pn→List Pn→Int
 | [],[] =>0
 | [],_::_=> -1
 | _::_,[] =>1
 | p::a,q::b=>if yxC p q=0 then WG a b else yxC p q
def WH (a b:List Pn) :Bool:=decide (WG a b<0)
theorem LS {a:List Pn} :WH a [] =false:=by cases a<;>rfl
theorem DB {q:Pn} {b:List Pn} :WH [] (q::b) =true:=rfl
theorem uy {p q:Pn} {a b:List Pn} :WH (p::a) (q::b) =true↔wq p q∨(p=q∧WH a b=true) :=by
 unfold WH
 rw [decide_eq_true_eq,decide_eq_true_eq,WG]
 split
 ·rename_i h
  have:=uV.1 h
  subst this
  exact⟨fun h=> .inr ⟨rfl,h⟩,fun h=>h.elim (fun h=>absurd h (Q7 p)) (·.2)⟩
 ·rename_i h
  rw [NA]
  exact⟨.inl,fun h'=>h'.elim id fun h'=>absurd (uV.2 h'.1) h⟩
theorem XS:∀a b:List Pn,WH a b=true→WH b a=false
 | _,[],h=>by rw [LS] at h;cases h
 | [],q::b,_=>LS
 | p::a,q::b,h=>by
  rw [Bool.eq_false_iff,Ne,uy]
  intro h2
  rcases uy.1 h with h1 |⟨rfl,h1⟩
  ·rcases h2 with h2 |⟨rfl,_⟩
   ·exact Q7 p (vP h1 h2)
   ·exact Q7 _ h1
  ·rcases h2 with h2 |⟨_,h2⟩
   ·exact Q7 _ h2
   ·rw [XS a b h1] at h2;cases h2
theorem TF:∀a b c:List Pn,WH a c=true→WH a b=true∨WH b c=true
 | _,_,[],h=>by rw [LS] at h;cases h
 | [],[],_::_,_=> .inr DB
 | _::_,[],_::_,_=> .inr DB
 | [],_::_,_::_,_=> .inl DB
 | p::a,q::b,r::c,h=>by
  rw [uy,uy]
  rcases Uc p q with h1 | rfl | h1
  ·exact .inl (.inl h1)
  ·rcases uy.1 h with h2 |⟨rfl,h2⟩
   ·exact .inr (.inl h2)
   ·rcases TF a b c h2 with h3 | h3
    ·exact .inl (.inr ⟨rfl,h3⟩)
    ·exact .inr (.inr ⟨rfl,h3⟩)
  ·rcases uy.1 h with h2 |⟨rfl,h2⟩
   ·exact .inr (.inl (vP h1 h2))
   ·exact .inr (.inl h1)
theorem Bb:Weak WH:=⟨XS,fun a b c h1 h2=>by
 rw [Bool.eq_false_iff]
 intro h
 rcases TF a b c h with h3 | h3
 ·rw [h1] at h3;cases h3
 ·rw [h2] at h3;cases h3⟩
theorem Weak.by {α β:Type} {lt:β→β→Bool} (W:Weak lt) (f:α→β) :Weak fun x y=>lt (f x) (f y) :=⟨fun a b h=>W.asym _ _ h,fun a b c h1 h2=>W.neg _ _ _ h1 h2⟩
theorem zr {xs:List Pn} {k:Nat} (h:k<xs.length) :xs.drop k=pt xs k::xs.drop (k+1) :=by
 rw [jfi h,Ya h]
 rfl
theorem Dy {xs ys:List Pn} {k:Nat} (h1:k<xs.length) (h2:k<ys.length) (h:pt xs k=pt ys k) :WG (xs.drop k) (ys.drop k) =WG (xs.drop (k+1)) (ys.drop (k+1)) :=by
 rw [zr h1,zr h2,WG,if_pos (uV.2 h)]
theorem Dz {xs ys:List Pn} {k:Nat} (h1:k<xs.length) (h2:k<ys.length) (h:pt xs k≠pt ys k) :WG (xs.drop k) (ys.drop k) =yxC (pt xs k) (pt ys k) :=by
 rw [zr h1,zr h2,WG,if_neg (fun h'=>h (uV.1 h'))]
theorem xx {xs ys:List Pn} {k:Nat} (h1:k=xs.length) (h2:k≤ys.length) :WG (xs.drop k) (ys.drop k) =if k<ys.length then-1 else 0:=by
 rw [jfB (by omega)]
 split
 ·rename_i h;rw [zr h];rfl
 ·rw [jfB (by omega)];rfl
theorem II {xs ys:List Pn} {k:Nat} (h1:k<xs.length) (h2:ys.length≤k) :WG (xs.drop k) (ys.drop k) =1:=by
 rw [zr h1,jfB h2];rfl
def Uy (xs:List Pn) (k:Nat) :List Pn:=xs.drop k++xs.take k
def vo (xs:List Pn) :Nat→Nat
 | 0=>0
 | k+1=>if WH (Uy xs k) (Uy xs (vo xs k)) =true then k else vo xs k
def Wl (xs:List Pn) :List Pn:=Uy xs (vo xs xs.length)
theorem wd {xs:List Pn} {k:Nat} : (Uy xs k).length=xs.length:=by simp [Uy];omega
theorem T6 {xs:List Pn} {k:Nat} {p:Pn} :p∈Uy xs k↔p∈xs:=by
 unfold Uy
 rw [jeY,or_comm,←jeY,jeU]
theorem jao (xs:List Pn) :Uy xs 0=xs:=by simp [Uy]
theorem vQ {xs:List Pn} : (Wl xs).length=xs.length:=wd
theorem Cb {xs:List Pn} {p:Pn} :p∈Wl xs↔p∈xs:=T6
theorem Ph (a:List Pn) :WH a a=false:=by
 cases h:WH a a
 ·rfl
 ·rw [XS a a h] at h;cases h
theorem Gk (xs:List Pn) :vo xs 1=0:=by simp [vo,Ph]
theorem Xq (xs:List Pn) :∀k,0<k→vo xs k<k
 | 0,h=>absurd h (by omega)
 | 1,_=>by rw [Gk];omega
 | k+2,_=>by
  rw [vo]
  split
  ·omega
  ·have:=Xq xs (k+1) (by omega);omega
theorem DT {xs:List Pn} {k j:Nat} (hk:k<xs.length) (hj:j<xs.length) :pt (Uy xs k) j=pt xs ((k+j) % xs.length) :=by
 have e: (Uy xs k)[j]? =xs[(k+j) % xs.length]? :=by
  unfold Uy
  by_cases h:j<xs.length- k
  ·rw [List.getElem?_append_left (by simpa using h),List.getElem?_drop,jfY (by omega)]
  ·rw [List.getElem?_append_right (by simpa using h),je2,List.getElem?_take,if_pos (by omega)]
   congr 1
   rw [Nat.mod_eq_sub_mod (by omega),jfY (by omega)]
   omega
 simp only [pt,px,py,List.getD_eq_getElem?_getD,e]
theorem Pg {xs ys:List Pn} (h1:0<xs.length) (h2:0<ys.length) (h:0<yxC (pt xs 0) (pt ys 0)) :WH xs ys=false:=by
 have:=Dz (k:=0) h1 h2 (fun e=>by rw [uV.2 e] at h;omega)
 rw [List.drop_zero,List.drop_zero] at this
 unfold WH
 rw [this,decide_eq_false_iff_not]
 omega
theorem jbZ {xs:List Pn} {k:Nat} (hk:k<xs.length) :pt (Uy xs k) 0=pt xs k:=by rw [DT hk (by omega),jgg,jfY hk]
theorem BO {xs:List Pn} {k:Nat} (h:WH (Uy xs k) (Uy xs (vo xs k)) =true) :vo xs (k+1) =k:=by rw [vo,if_pos h]
theorem MP {xs:List Pn} {k:Nat} (h:WH (Uy xs k) (Uy xs (vo xs k)) =false) :vo xs (k+1) =vo xs k:=by rw [vo,if_neg (by rw [h];decide)]
theorem OA {xs:List Pn} {k j:Nat} (hk:k<xs.length) (hj:j<xs.length) : ((Uy xs k).take j).flatMap j7++j7 (pt xs ((k+j) % xs.length)) = ((Uy xs k).take (j+1)).flatMap j7:=by
 rw [jeS (by rw [wd];exact hj),jeQ,Ya (by rw [wd];exact hj)]
 have:=DT hk hj
 unfold pt at this
 rw [this]
 simp [pt]
theorem Tx {α:Type} {lt:α→α→Bool} (W:Weak lt) {l:List α} (hs:uW lt l) {x:α} {k:Nat} (hk:k≤l.length) (hi:∀q∈l.drop k,lt x q=true) (hlo:k=0∨∃p,l[k- 1]? =some p∧lt x p=false) :VS lt x l=l.take k++x::l.drop k:=by
 have:=LG (lt:=lt) x (l.take k) (l.drop k) (fun p hp=> ?_) (fun q hq=>hi q (List.mem_of_mem_head? hq))
 ·rwa [jeU] at this
 ·rcases hlo with rfl |⟨r,hr,hx⟩
  ·simp at hp
  ·obtain ⟨i,hi',e⟩ :=jfm hp
   rw [jeV] at hi'
   rw [List.getElem_take] at e
   obtain ⟨hr1,rfl⟩ :=List.getElem?_eq_some_iff.1 hr
   subst e
   rcases jfX (show i≤k- 1 by omega) with h1 | rfl
   ·exact W.neg _ _ _ hx (jfH.1 hs i (k- 1) (by omega) hr1 h1)
   ·exact hx
theorem Gx (p q:Pn) (w:World) (hp:zJ p) (hq:zJ q) :Calls Tryz.prog 76 #[pV p,pV q] w fun e w'=>e= .returned (.int .i64 (yxC p q))∧Over w w':=by
 obtain ⟨⟨p1,p2⟩,p3,p4⟩ :=hp
 obtain ⟨⟨q1,q2⟩,q3,q4⟩ :=hq
 refine jU (m:=22) (Tryz.func76) J J (lb J) ?_;refine S3 ?_;refine aX (fun b1=> ?_);refine N1 ?_;refine aX (fun b2=> ?_);refine N11 ?_;refine cZ (fun c1=> ?_) (fun c1=> ?_)
 ·refine S7 ?_;refine a9 (jH QI J J (fun w h=>Calls.still (Ka _ w))) ?_;refine S4 ?_;refine jL J (.tmp J) ?_
  intro w' hs
  exact⟨by rw [yxC,if_neg c1],hs.fin⟩
 ·refine S9 ?_;refine a9 (jH QI J J (fun w h=>Calls.still (Ka _ w))) ?_;refine S3 ?_;refine jL J (.tmp J) ?_
  intro w' hs
  exact⟨by rw [yxC,if_pos (by omega)],hs.fin⟩
theorem Pts.dropT {w:World} {b o n c k:Nat} {xs:List Pn} (h:Pts w (some ⟨b,o,none⟩) n xs) (hk:k≤n) (hc:n≤c) :Pts w (some ⟨b,Ut o k c 2,none⟩) (n- k) (xs.drop k) :=by
 have hl:=h.1
 refine⟨by rw [je2,hl],fun h0=> ?_⟩
 obtain ⟨b',o',e,hlt,hx⟩ :=h.2 (by omega)
 injection e with e
 injection e with e1 e2
 subst e1 e2
 refine⟨_,_,J,hlt,fun j hj=> ?_⟩
 have hd:∀j,px (xs.drop k) j=px xs (k+j)∧py (xs.drop k) j=py xs (k+j) :=fun j=>by
  simp only [px,py,List.getD_eq_getElem?_getD,List.getElem?_drop]
  exact⟨trivial,trivial⟩
 rw [Ut,if_neg (by omega),(hd j).1,(hd j).2,show o+k*2+j*2=o+ (k+j) *2 by omega]
 exact hx (k+j) (by omega)
theorem Pts.takeT {w:World} {A:Option Addr} {n k:Nat} {xs:List Pn} (h:Pts w A n xs) (hk:k≤n) :Pts w A k (xs.take k) :=by
 have hl:=h.1
 refine⟨by rw [jeV];omega,fun h0=> ?_⟩
 obtain ⟨b,o,e,hlt,hx⟩ :=h.2 (by omega)
 refine⟨b,o,e,hlt,fun j hj=> ?_⟩
 have hd:px (xs.take k) j=px xs j∧py (xs.take k) j=py xs j:=by
  simp only [px,py,List.getD_eq_getElem?_getD,List.getElem?_take,if_pos hj]
  exact⟨trivial,trivial⟩
 rw [hd.1,hd.2]
 exact hx j (by omega)
theorem Gr (A:Option Addr) (n c:Nat) (xs:List (Int×Int)) (w:World) (h:Pts w A n xs) (hn:0<n) (hn2:n≤1048577) :
  Calls Tryz.prog 123 #[.slice A n c] w fun e w'=>∃v,e= .returned v∧w'.ownsRow w.heap.size 54 2 v n (xs.flatMap j7)∧Over w w':=by
 obtain ⟨b,o,rfl,_⟩ :=h.2 hn
 refine jU (m:=8) (Tryz.func123) J J (lb J) ?_;refine S8 ?_;refine a9 (PD jt J J) ?_;refine S1 ?_;refine qJ J (J) ?_;refine S5 ?_;refine Jp J J (kt) J (lb J) (fun b1=> ?_);refine vR 0 2 J J ?_;refine N2 ?_;refine JL (k:=0) J jt jO (by decide) J (by decide) J J J (fun w' hs=>ME (h.over hs.fin) hn) (Kk _) (by unfold maxLen;omega) (by omega) (jeD _) (fun r1=> ?_);refine N3 ?_;refine jL J (.tmp J) ?_
 intro w' hs
 have hr0:w'.ownsRow w.heap.size 54 2 (.slice r1.1 (0+n) r1.2) (0+n) (xs.flatMap j7) := (hs.all 0 _ rfl).1
 exact⟨_,rfl,by rw [je3] at hr0⊢;exact hr0,hs.fin⟩
theorem TU {w w':World} {Rs:List Res} (hs:St ⟨w,[]⟩ Rs w') {kr kp B T n:Nat} {l:List Pc} {x:Option Addr×Nat} {rs:List jS} (hr:Rs[kr]? =some (JP B T 1 n (l.map Pc.val) x)) (hp:Rs[kp]? =some (ve l)) (hne:kr≠kp) (_e:w=w) (hl:l.length=n) (hrs:l.map (·.xs) =rs)
  (hm:∀j,j<rs.length→(rg rs j).length≤1099511627776) :OwnG w.heap.size w'.heap.size w' x.1 n rs:=by
 have hrow:w'.ownsRow B T 1 (.slice x.1 n x.2) n (l.map Pc.val) := (hs.all kr _ hr).1
 have hX:=hs.all kp _ hp
 rcases hrow.2 with⟨_,e⟩ |⟨g,cap,cur,e,hb,hg,hcap,hmax,hsz,htk⟩
 ·subst e
  obtain rfl:l= [] :=je9 hl
  subst hrs
  exact OwnG.nil _
 ·injection e with e1 e2 e3
  rw [e1]
  have hF: (JP B T 1 n (l.map Pc.val) x).F g:=by show Value.ownBlock (.slice x.1 n x.2) =some g;rw [e1];rfl
  have hown:=DQ (lo:=w.heap.size) (o:=0) hg (((hs.all kr _ hr).2.1 g hF).elim id (fun h=>by cases h)) (fun j hj=> ?_) hX.1 (fun h=>hs.apart kr kp _ _ hne hr hp g hF h) (fun q hq=> (hX.2.1 q hq).elim id (fun h=>by cases h)) (fun e he=> ?_)
  ·rw [hrs,hl] at hown
   exact hown
  ·have hc:cur[j]? = (l.map Pc.val)[j]? :=by rw [←htk,List.getElem?_take,if_pos (by omega)];simp
   rw [je3,hc]
   simp [hj]
  ·have:e.xs∈rs:=hrs▸je7.2 ⟨e,he,rfl⟩
   obtain ⟨j,hj,e2⟩ :=jfm this
   have:=hm j hj
   rw [←wl hj,e2] at this
   omega
def RevTo (cs:List Value) (o n i:Nat) (xs:List (Int×Int)) :Prop:=∀q,q<n→cs[o+q*2]? =some (.int .i64 (px xs (if q<i∨n- 1- i<q then n- 1- q else q)))∧cs[o+q*2+1]? =some (.int .i64 (py xs (if q<i∨n- 1- i<q then n- 1- q else q)))
theorem RevTo.step {cs:List Value} {o n i:Nat} {xs:List (Int×Int)} (h:RevTo cs o n i xs) (hi:2*i+1<n) (hl:∀q,q<n→o+q*2+1<cs.length) :
  RevTo (qk (qk cs (o+i*2) [.int .i64 (px xs (n- 1- i)), .int .i64 (py xs (n- 1- i))]) (o+ (n- 1- i) *2) [.int .i64 (px xs i), .int .i64 (py xs i)]) o n (i+1) xs:=by
 intro q hq
 have h1:=hl i (by omega)
 have h2:=hl (n- 1- i) (by omega)
 simp only [qk]
 by_cases e1:q=i
 ·subst e1
  rw [if_pos (by omega),List.getElem?_set_ne (by omega),List.getElem?_set_ne (by omega),List.getElem?_set_ne (by omega),List.getElem?_set_self (by omega),List.getElem?_set_ne (by omega),List.getElem?_set_ne (by omega),List.getElem?_set_self (by simp;omega)]
  exact⟨rfl,rfl⟩
 ·by_cases e2:q=n- 1- i
  ·subst e2
   rw [if_pos (by omega),List.getElem?_set_ne (by omega),List.getElem?_set_self (by simp;omega),List.getElem?_set_self (by simp;omega),show n- 1- (n- 1- i) =i by omega]
   exact⟨rfl,rfl⟩
  ·have:=h q hq
   have hif: (q<i+1∨n- 1- (i+1) <q)↔(q<i∨n- 1- i<q) :=by omega
   simp only [hif]
   rw [List.getElem?_set_ne (by omega),List.getElem?_set_ne (by omega),List.getElem?_set_ne (by omega),List.getElem?_set_ne (by omega),List.getElem?_set_ne (by omega),List.getElem?_set_ne (by omega),List.getElem?_set_ne (by omega),List.getElem?_set_ne (by omega)]
   exact this
theorem RevTo.at_ {cs:List Value} {o n i q:Nat} {xs:List (Int×Int)} (h:RevTo cs o n i xs) (h1:i≤q) (h2:q≤n- 1- i) (hq:q<n) :cs[o+q*2]? =some (.int .i64 (px xs q))∧cs[o+q*2+1]? =some (.int .i64 (py xs q)) :=by
 have:=h q hq
 rwa [if_neg (by omega)] at this
theorem OwnGd.put {lo hi:Nat} {w w':World} {b o T:Nat} {cs:Array Value} {pl:Nat→Option Addr×Nat} {n k:Nat} {rs:List jS} (ys:jS) (h:OwnGd lo hi w b o T cs pl n rs) (hl:rs.length=n) (hk:k<n) (hy:ys.length= (rg rs k).length)
  (hw:Wrs (fun q=>0< (rg rs k).length∧q=wN (pl k).1∧D4 lo hi q) w w') (hp:OwnP lo hi w' (pl k).1 (rg rs k).length ys) :OwnGd lo hi w' b o T cs pl n (rs.set k ys) :=by
 have hse:∀j,j<n→rg (rs.set k ys) j=if j=k then ys else rg rs j:=fun j hj=>by
  simp only [rg,List.getD_eq_getElem?_getD]
  by_cases e:j=k
  ·subst e;rw [if_pos rfl,List.getElem?_set_self (by omega)];rfl
  ·rw [if_neg e,List.getElem?_set_ne (fun e'=>e e'.symm)]
 have hlen:∀j,j<n→(rg (rs.set k ys) j).length= (rg rs j).length:=fun j hj=>by
  rw [hse j hj]
  by_cases e:j=k
  ·subst e;rw [if_pos rfl,hy]
  ·rw [if_neg e]
 refine⟨h.low,h.high,(hw.block b (JQ h.blk) fun hq=> ?_).trans h.blk,fun j hj=> ?_,fun j hj=> ?_,fun j hj=> ?_,fun i j hi hj hij=> ?_⟩
 ·exact h.off k hk hq.1 hq.2.1.symm
 ·rw [hlen _ hj];exact h.cell j hj
 ·rw [hse j hj]
  by_cases hjk:j=k
  ·subst hjk
   rw [if_pos rfl,hy]
   exact hp
  ·rw [if_neg hjk]
   by_cases h0:0< (rg rs j).length
   ·refine(h.pts j hj).agree fun p hp' h1 h2=> ?_
    obtain ⟨b',o',T',cs',e',_,_,hh',_⟩ := (h.pts j hj).2 h0
    rw [e'] at hp'
    injection hp' with hp'
    subst hp'
    refine hw.block b' (JQ hh') fun hq=> ?_
    refine h.apart j k hj hk hjk h0 hq.1 ?_
    rw [e']
    exact hq.2.1
   ·exact⟨(h.pts j hj).1,fun h1=>absurd h1 h0⟩
 ·rw [hlen _ hj];exact h.off j hj
 ·rw [hlen _ hi,hlen _ hj];exact h.apart i j hi hj hij
end Go.Proofs.YtkagkgjjfdkoaaaGreat
