import Derived.Test.YtbahojdbmmjkcaaGreatSOn
import Derived.Test.YtbahojdbmmjkcaaGreatSValidRegion
set_option linter.unusedVariables false
set_option linter.unusedSimpArgs false
namespace Go.Proofs.YtbahojdbmmjkcaaGreat
open Go Go.RowKit
variable {A:Option Addr} {F:Nat→Prop} {R:Ending→World→Prop} {T b c hi j lo n:Nat} {cs:Array Value} {k:Int} {pl:Nat→Option Addr×Nat} {rs:List Jp} {ts:Array TypeId} {v:Value} {vs:List Value} {w w':World}
structure Wrs (F:Nat→Prop) (w w':World) :Prop where
 os:w'.os=w.os
 tape:w'.tape=w.tape
 output:w'.output=w.output
 size:w.heap.size≤w'.heap.size
 block:∀c,c<w.heap.size→¬F c→w'.heap[c]? =w.heap[c]?
theorem Wrs.refl (F:Nat→Prop) (w:World) :Wrs F w w:=⟨rfl,rfl,rfl,jif _,fun _ _ _=>rfl⟩
theorem Wrs.mono {G:Nat→Prop} (h:Wrs F w w') (hF:∀b,F b→G b) :Wrs G w w':=⟨h.os,h.tape,h.output,h.size,fun c hc hn=>h.block c hc (fun hf=>hn (hF c hf))⟩
theorem Wrs.of (h:Over w w') :Wrs F w w':=⟨h.out.os,h.out.tape,h.out.output,h.size,fun c hc _=>h.out.block c hc⟩
theorem Ovx.wrs {X:List Nat} (h:Ovx ⟨w,X⟩ w') :Wrs (·∈X) w w':=⟨h.os,h.tape,h.output,h.size,fun c hc hne=>h.block c hc hne⟩
theorem Wrs.over (h:Wrs F w w') (hF:∀b,¬F b) :Over w w':=⟨h.os,h.tape,h.output,h.size,fun c hc=>h.block c hc (hF c)⟩
theorem St.startR (w:World) (X:List Nat) (r:Res) (hP:r.P w) (hF:∀b,r.F b→b∈X) (hB:r.B=0) :St ⟨w,X⟩ [r] w:=by
 refine⟨⟨J,J,J,jif _,fun _ _ _=>rfl⟩,fun i s hi=> ?_,fun i j s t hij hi hj=> ?_⟩
 ·match i,hi with
  | 0,hi=>
   simp at hi
   subst hi
   exact⟨hP,fun b hb=> .inr (hF b hb),by rw [hB];exact jie _,fun _ _=>by rw [hB];exact jie _⟩
 ·match i,j,hi,hj with
  | 0,0,_,_=>exact absurd rfl hij
section
variable {P:Program} {n:Nat} {env:List (Nat×Value)} {w0:Bs} {Rs:List Res} {ops:Array Oper} {Q:Exit→Act→World→Prop} {K:Act→World→Prop} {o:Oper}
theorem Yl {f m:Nat} {fn:Func} {c:Code} (X:List Nat) (r:Res) (hP:r.P w) (hF:∀b,r.F b→b∈X) (hB:r.B=0) (hf:P.funcs[f]? =some fn) (hb:fn.body=some c) (hm:fn.ntmps=m) (hl:vs.length≤m) (h:At m (MK 0 vs) ⟨w,X⟩ [r] (fun a w=>c.wp P (bodyPost P fn R) a w)) :Calls P f vs.toArray w R:=by
 subst hm
 exact Mt hf hb hl (fun t v hv=>by simpa using (y8 vs 0 t v hv).2) h (St.startR w X r hP hF hB)
theorem vT {f k d:Nat} (hfn:FnOk P f) {xs:List Operand} {r:Res} (r':Res) (ho:o.op= .call {callee:= .value (.func f),args:=xs.toArray,argTypes:=ts}) (hx:So env xs=some vs) (hd:o.dst=some d) (hn:d<n) (hk:Rs[k]? =some r) (hc:∀w,St w0 Rs w→Calls P f vs.toArray w fun e w'=>e= .returned v∧Wrs r.F w w'∧r'.P w') (hF:∀b,r'.F b→r.F b) (hB:r'.B=0) (h:At n ((d,v) ::env) w0 (Rs.set k r') K) :At n env w0 Rs (fun a w=>o.wp P a w K Q) :=fun a w hF' hs=>by
 show o.upon P a K Q ((execOp a.eval o).run P w)
 rw [zX hfn ho hx hF']
 refine Calls.mono (hc w hs) ?_
 rintro e w' ⟨rfl,hw,hp⟩
 have hlow:= (hs.all k _ hk).2.1
 show K (a.put o.dst v) w'
 rw [hd]
 refine h _ _ (hF'.put hn _) (hs.upd hk ⟨hw.os.trans hs.over.os,hw.tape.trans hs.over.tape,hw.output.trans hs.over.output,jiY hs.over.size hw.size,fun c hc' hx'=> ?_⟩ hw.size (fun c hc' hne=>hw.block c hc' hne) hp (fun c hc'=> .inl (hF c hc')) hB)
 rw [hw.block c (jio hc' hs.over.size) (fun e=> (hlow c e).elim (fun h1=>by omega) (fun h1=>hx' h1))]
 exact hs.over.block c hc' hx'
def Res.many (l:List Res) :Res where
 F b:=∃r∈l,r.F b
 P w:= (∀r∈l,r.P w∧r.B=0)∧l.Pairwise (fun (r s:Res) =>∀b:Nat,r.F b→¬s.F b)
 low w h b hb:=by obtain ⟨r,hr,hb⟩ :=hb;exact r.low w (h.1 r hr).1 b hb
 B:=0
 dep w w' h hz hb:=⟨fun r hr=>⟨r.dep w w' (h.1 r hr).1 hz fun b h1 h2=>hb b h1 (.inr (h2.elim (fun h3=>by rw [(h.1 r hr).2] at h3;omega) (fun h3=>⟨r,hr,h3⟩))),(h.1 r hr).2⟩,h.2⟩
theorem Vl (h:At n env w0 (Rs++ [.many []]) K) :At n env w0 Rs K:=fun a w hf hs=>
 h a w hf (hs.add (Over.refl _) ⟨fun r hr=>absurd hr (by simp),List.Pairwise.nil⟩ (fun b hb=>by obtain ⟨r,hr,_⟩ :=hb;simp at hr) ⟨jie _,fun _ _=>jie _⟩)
theorem St.drop (h:St w0 Rs w) :St w0 (Rs.eraseIdx j) w:=
 h.sel (fun i=>if i<j then i else i+1) (fun a b _ _ e=>by split at e<;>split at e<;>omega) (fun i hi=>by
  rw [List.getElem?_eraseIdx]
  split
  ·rfl
  ·rfl)
theorem Wb (k j:Nat) {l:List Res} {r:Res} (hk:Rs[k]? =some (.many l)) (hj:Rs[j]? =some r) (hkj:k≠j) (hB:r.B=0) (h:At n env w0 ((Rs.set k (.many (l++ [r]))).eraseIdx j) K) :At n env w0 Rs K:=fun a w hf hs=>by
 refine h a w hf ?_
 have hm:=hs.all k _ hk
 have hr:=hs.all j _ hj
 have hap:=hs.apart k j _ _ hkj hk hj
 have hset:∀(i:Nat) (s:Res),i≠k→(Rs.set k (.many (l++ [r])))[i]? =some s→Rs[i]? =some s:=by
  intro i s hi h'
  rw [List.getElem?_set,if_neg (Ne.symm hi)] at h'
  exact h'
 have hkl:k<Rs.length:= (List.getElem?_eq_some_iff.1 hk).1
 have hek: (Rs.set k (.many (l++ [r])))[k]? =some (.many (l++ [r])) :=by rw [List.getElem?_set,if_pos rfl,if_pos hkl]
 have hP: (Res.many (l++ [r])).P w:=by
  refine⟨fun s hs'=> ?_,?_⟩
  ·rcases jit.1 hs' with h1 | h1
   ·exact hm.1.1 s h1
   ·rw [jin.1 h1];exact⟨hr.1,hB⟩
  ·rw [jjC]
   refine⟨hm.1.2,jjD _ _,fun a ha b hb c hc=> ?_⟩
   rw [jin.1 hb]
   exact hap c ⟨a,ha,hc⟩
 have hFm:∀b,(Res.many (l++ [r])).F b→(Res.many l).F b∨r.F b:=by
  rintro b ⟨s,hs',hb⟩
  rcases jit.1 hs' with h1 | h1
  ·exact .inl ⟨s,h1,hb⟩
  ·rw [jin.1 h1] at hb;exact .inr hb
 have idx:∀(i:Nat) (s:Res),((Rs.set k (.many (l++ [r]))).eraseIdx j)[i]? =some s→∃i',i'≠j∧(Rs.set k (.many (l++ [r])))[i']? =some s∧(i'=if i<j then i else i+1) :=by
  intro i s hi
  rw [List.getElem?_eraseIdx] at hi
  by_cases hij:i<j
  ·rw [if_pos hij] at hi;exact⟨i,by omega,hi,by rw [if_pos hij]⟩
  ·rw [if_neg hij] at hi;exact⟨i+1,by omega,hi,by rw [if_neg hij]⟩
 refine⟨hs.over,fun i s hi=> ?_,fun i i2 s t hii hi hi2 b hb hb2=> ?_⟩
 ·obtain ⟨i',hne,hi',_⟩ :=idx i s hi
  by_cases hik:i'=k
  ·subst hik
   rw [hek] at hi'
   injection hi' with hi'
   subst hi'
   exact⟨hP,fun b hb=> (hFm b hb).elim (hm.2.1 b) (hr.2.1 b),jie _,fun _ _=>jie _⟩
  ·exact hs.all i' s (hset i' s hik hi')
 ·obtain ⟨a,ha1,ha2,ha3⟩ :=idx i s hi
  obtain ⟨c,hc1,hc2,hc3⟩ :=idx i2 t hi2
  have hac:a≠c:=by
   intro e
   rw [ha3,hc3] at e
   split at e<;>split at e<;>omega
  by_cases hak:a=k
  ·subst hak
   rw [hek] at ha2
   injection ha2 with ha2
   subst ha2
   have ht:=hset c t (Ne.symm hac) hc2
   rcases hFm b hb with h1 | h1
   ·exact hs.apart a c _ t hac hk ht b h1 hb2
   ·exact hs.apart j c r t (Ne.symm hc1) hj ht b h1 hb2
  ·have hs':=hset a s hak ha2
   by_cases hck:c=k
   ·subst hck
    rw [hek] at hc2
    injection hc2 with hc2
    subst hc2
    rcases hFm b hb2 with h1 | h1
    ·exact hs.apart a c s _ hac hs' hk b hb h1
    ·exact hs.apart a j s r ha1 hs' hj b hb h1
   ·exact hs.apart a c s t hac hs' (hset c t hck hc2) b hb hb2
end
def OwnP (lo hi:Nat) (w:World) (A:Option Addr) (n:Nat) (xs:List (Int×Int)) :Prop:=
 xs.length=n∧(0<n→∃b o T cs,A=some ⟨b,o,none⟩∧lo≤b∧b<hi∧w.heap[b]? =some (.cells cs T (0,0))∧∀k,k<n→cs[o+k*2]? =some (.int .i64 (px xs k))∧cs[o+k*2+1]? =some (.int .i64 (py xs k)))
section
variable {lo hi lo' hi' n:Nat} {w w':World} {A:Option Addr} {xs:List (Int×Int)}
theorem OwnP.pts (h:OwnP lo hi w A n xs) :Pts w A n xs:=⟨h.1,fun hn=>by
 obtain ⟨b,o,T,cs,rfl,h1,h2,hh,hc⟩ :=h.2 hn
 refine⟨b,o,J,J4 hh,fun k hk=> ?_⟩
 rw [cell_of_row w b _ _ T (0,0) hh,cell_of_row w b _ _ T (0,0) hh]
 exact hc k hk⟩
theorem OwnP.agree (h:OwnP lo hi w A n xs) (ha:∀p,A=some p→lo≤p.block→p.block<hi→w'.heap[p.block]? =w.heap[p.block]?) :OwnP lo hi w' A n xs:=⟨h.1,fun hn=>by
 obtain ⟨b,o,T,cs,rfl,h1,h2,hh,hc⟩ :=h.2 hn
 exact⟨b,o,T,cs,rfl,h1,h2,(ha _ rfl h1 h2).trans hh,hc⟩⟩
theorem OwnP.wide (h:OwnP lo hi w A n xs) (h1:lo'≤lo) (h2:hi≤hi') :OwnP lo' hi' w A n xs:=⟨h.1,fun hn=>by
 obtain ⟨b,o,T,cs,hA,h3,h4,hh⟩ :=h.2 hn
 exact⟨b,o,T,cs,hA,by omega,by omega,hh⟩⟩
theorem OwnP.nil (A:Option Addr) :OwnP lo hi w A 0 [] :=⟨rfl,fun h=>absurd h Om⟩
end
def WK (k:Int) (n:Nat) :List (Int×Int) := (List.range n).map fun (j:Nat) => (k+2* (j:Int),k+2* (j:Int) +1)
theorem yl (k:Int) (n:Nat) : (WK k n).length=n:=by simp [WK]
theorem TG (h:j<n) :px (WK k n) j=k+2*j:=by simp [px,WK,List.getD,h]
theorem TI (h:j<n) :py (WK k n) j=k+2*j+1:=by simp [py,WK,List.getD,h]
def VW:Option Addr→Nat
 | some p=>p.block
 | none=>0
structure OwnGd (lo hi:Nat) (w:World) (b o T:Nat) (cs:Array Value) (pl:Nat→Option Addr×Nat) (n:Nat) (rs:List Jp) :Prop where
 low:lo≤b
 high:b<hi
 blk:w.heap[b]? =some (.cells cs T (0,0))
 cell:∀k,k<n→cs[o+k]? =some (.slice (pl k).1 (rg rs k).length (pl k).2)
 pts:∀k,k<n→OwnP lo hi w (pl k).1 (rg rs k).length (rg rs k)
 off:∀k,k<n→0< (rg rs k).length→VW (pl k).1≠b
 apart:∀j k,j<n→k<n→j≠k→0< (rg rs j).length→0< (rg rs k).length→VW (pl j).1≠VW (pl k).1
def OwnG (lo hi:Nat) (w:World) (A:Option Addr) (n:Nat) (rs:List Jp) :Prop:=
 rs.length=n∧(∀k,k<n→((rg rs k).length:Int)≤1099511627776)∧(0<n→∃b o T cs pl,A=some ⟨b,o,none⟩∧OwnGd lo hi w b o T cs pl n rs)
section
variable {lo hi lo' hi' n:Nat} {w w':World} {A:Option Addr} {rs:List Jp}
theorem OwnGd.agree {o:Nat} (h:OwnGd lo hi w b o T cs pl n rs) (ha:∀b,lo≤b→b<hi→w'.heap[b]? =w.heap[b]?) :OwnGd lo hi w' b o T cs pl n rs:=
 ⟨h.low,h.high,(ha b h.low h.high).trans h.blk,h.cell,fun k hk=> (h.pts k hk).agree fun p _ h1 h2=>ha _ h1 h2,h.off,h.apart⟩
theorem OwnGd.wide {o:Nat} (h:OwnGd lo hi w b o T cs pl n rs) (h1:lo'≤lo) (h2:hi≤hi') :OwnGd lo' hi' w b o T cs pl n rs:=
 ⟨jiY h1 h.low,jio h.high h2,h.blk,h.cell,fun k hk=> (h.pts k hk).wide h1 h2,h.off,h.apart⟩
theorem OwnG.agree (h:OwnG lo hi w A n rs) (ha:∀b,lo≤b→b<hi→w'.heap[b]? =w.heap[b]?) :OwnG lo hi w' A n rs:=⟨h.1,h.2.1,fun hn=>by
 obtain ⟨b,o,T,cs,pl,hA,hd⟩ :=h.2.2 hn
 exact⟨b,o,T,cs,pl,hA,hd.agree ha⟩⟩
theorem OwnG.wide (h:OwnG lo hi w A n rs) (h1:lo'≤lo) (h2:hi≤hi') :OwnG lo' hi' w A n rs:=⟨h.1,h.2.1,fun hn=>by
 obtain ⟨b,o,T,cs,pl,hA,hd⟩ :=h.2.2 hn
 exact⟨b,o,T,cs,pl,hA,hd.wide h1 h2⟩⟩
theorem OwnG.nil (A:Option Addr) :OwnG lo hi w A 0 [] :=⟨rfl,fun k hk=>absurd hk Om,fun h=>absurd h Om⟩
theorem OwnG.rings (h:OwnG lo hi w A n rs) :Rings w A n rs:=⟨h.1,fun hn=>by
 obtain ⟨b,o,T,cs,pl,hA,hd⟩ :=h.2.2 hn
 refine⟨b,o,hA,J4 hd.blk,fun k hk=>⟨(pl k).1,(pl k).2,?_,(hd.pts k hk).pts,by have:=h.2.1 k hk;omega⟩⟩
 rw [cell_of_row w b _ _ T (0,0) hd.blk]
 exact hd.cell k hk⟩
end
def vm:Int→List Jp→List Jp
 | _,[] => []
 | k,r::l=>WK k r.length::vm (k+2*r.length) l
theorem Ya:∀(k:Int) (l:List Jp),(vm k l).length=l.length
 | _,[] =>rfl
 | k,r::l=>by simp [vm,Ya]
theorem yy:∀(l:List Jp) (k:Int) (j:Nat),j<l.length→rg (vm k l) j=WK (k+2* (QP l j:Nat)) (rg l j).length
 | [],_,_,h=>absurd h (by simp)
 | r::l,k,0,_=>by simp [vm,rg,QP]
 | r::l,k,j+1,h=>by
  have:=yy l (k+2*r.length) j (by simpa using h)
  have e1:rg (vm k (r::l)) (j+1) =rg (vm (k+2*r.length) l) j:=by simp [vm,rg]
  have e2:rg (r::l) (j+1) =rg l j:=by simp [rg]
  have e3:∀j,QP (r::l) (j+1) =r.length+QP l j:=by
   intro j
   induction j with
   | zero=>simp [QP,rg]
   | succ j ih=>
    rw [QP,ih,QP]
    have:rg (r::l) (j+1) =rg l j:=by simp [rg]
    rw [this];omega
  rw [e1,this,e2,e3]
  congr 1
  omega
abbrev kx (n:Nat) (rs:List Jp) (lo hi:Nat) (A:Option Addr) :Res:= .clo lo hi (fun w=>OwnG lo hi w A n rs)
theorem E7 (h:OwnG lo hi w A n rs) (hz:hi≤w.heap.size) : (kx n rs lo hi A).P w:=⟨hz,fun w' _ ha=>h.agree ha⟩
theorem uO (h: (kx n rs lo hi A).P w) :OwnG lo hi w A n rs:=h.2 w h.1 fun _ _ _=>rfl
abbrev Ye (n:Nat) (xs:List (Int×Int)) (lo hi:Nat) (A:Option Addr) :Res:= .clo lo hi (fun w=>OwnP lo hi w A n xs)
theorem jc4 {xs:List (Int×Int)} (h:OwnP lo hi w A n xs) (hz:hi≤w.heap.size) : (Ye n xs lo hi A).P w:=⟨hz,fun w' _ ha=>h.agree fun p _ h1 h2=>ha _ h1 h2⟩
theorem jaF {xs:List (Int×Int)} (h: (Ye n xs lo hi A).P w) :OwnP lo hi w A n xs:=h.2 w h.1 fun _ _ _=>rfl
theorem jfN {r s:Res} (h1:r.P w) (h2:s.P w) (b1:r.B=0) (b2:s.B=0) (hap:∀b,r.F b→¬s.F b) : (Res.many [r,s]).P w:=
 ⟨fun q hq=>by simp only [jis,ji3,or_false] at hq;rcases hq with rfl | rfl<;>exact⟨by assumption,by assumption⟩,by simpa using hap⟩
section
variable {n:Nat} {env:List (Nat×Value)} {w0:Bs} {Rs:List Res} {K:Act→World→Prop}
end
theorem qV (xs:List (Int×Int)) : (xs.flatMap jV).length=xs.length*2:=by
 induction xs with
 | nil=>rfl
 | cons a r ih=>rw [jiA,jid,ih];simp [jV];omega
theorem Kf (xs:List (Int×Int)) :∀u∈xs.flatMap jV,u.oneCell'=true:=by
 intro u hu
 obtain ⟨p,_,hp⟩ :=jjI.1 hu
 simp [jV] at hp
 rcases hp with rfl | rfl<;>rfl
theorem G1:∀(xs:List (Int×Int)) (k j:Nat) (hk:k<xs.length),j<2→(xs.flatMap jV)[k*2+j]? = (jV xs[k])[j]?
 | [],_,_,h,_=>absurd h (by simp)
 | a::r,0,j,_,hj=>by
  rw [jiA,Nat.zero_mul,jiB,List.getElem?_append_left (by simpa [jV] using hj)]
  rfl
 | a::r,k+1,j,h,hj=>by
  have hl: (jV a).length=2:=rfl
  rw [jiA,List.getElem?_append_right (by rw [hl];omega),hl]
  have:=G1 r k j (by simpa using h) hj
  rw [show(k+1) *2+j- 2=k*2+j by omega,this]
  rfl
theorem Bh {xs:List (Int×Int)} (h:Pts w A n xs) (hn:0<n) :Src 2 (.slice A n c) n (xs.flatMap jV) w:=by
 refine⟨by rw [qV,h.1], .inr ?_⟩
 obtain ⟨b,o,rfl,hb,hc⟩ :=h.2 hn
 refine⟨_,c,J,fun j u hu=> ?_⟩
 have hj:j<xs.length*2:=by have:= (List.getElem?_eq_some_iff.1 hu).1;rwa [qV] at this
 have hl:=h.1
 have e:j=j/2*2+j % 2:=by omega
 have hf:=G1 xs (j/2) (j % 2) Om Om
 rw [←e,hu,U5 Om] at hf
 obtain ⟨h1,h2⟩ :=hc (j/2) Om
 rw [Q1]
 rcases(show j % 2=0∨j % 2=1 by omega) with e2 | e2
 ·rw [e2] at hf
  rw [show o+j=o+j/2*2 by omega,h1]
  simpa [jV] using hf.symm
 ·rw [e2] at hf
  rw [show o+j=o+j/2*2+1 by omega,h2]
  simpa [jV] using hf.symm
theorem kE {B:Nat} {xs:List (Int×Int)} (h:w.ownsRow B T 2 (.slice A n c) n (xs.flatMap jV)) (hn:xs.length=n) :Pts w A n xs:=by
 refine⟨hn,fun h0=> ?_⟩
 rcases h.2 with⟨_,e⟩ |⟨g,cap,cur,e,hb,hg,hcap,hmax,hsz,htk⟩
 ·omega
 ·injection e with e1 e2 e3
  subst e1
  refine⟨g,0,J,J4 hg,fun k hk=> ?_⟩
  have hf:=fun q hq=>G1 xs k q Om hq
  have hc:∀j,j<n*2→cur[j]? = (xs.flatMap jV)[j]? :=fun j hj=>by
   rw [←htk,List.getElem?_take,if_pos hj]
   simp
  rw [cell_of_row w g _ _ T (0,0) hg,cell_of_row w g _ _ T (0,0) hg,jiB,hc _ Om,hc _ Om]
  have h0:=hf 0 Om
  have h1:=hf 1 Om
  rw [U5 Om] at h0 h1
  exact⟨by simpa [jV] using h0,by simpa [jV] using h1⟩
theorem v6 {B s:Nat} {xs:List Value} (h:w.ownsRow B T s (.slice A n c) n xs) :n≤c:=by
 rcases h.2 with⟨e,_⟩ |⟨g,cap,cur,e,hb,hg,hcap,hmax,hsz,htk⟩
 ·injection e;omega
 ·injection e;omega
theorem Rings.form (h:Rings w A n rs) (hn:0<n) :∃b o,A=some ⟨b,o,none⟩ :=by
 obtain ⟨b,o,hA,_⟩ :=h.2 hn
 exact⟨b,o,hA⟩
theorem UL (h:J0 rs=true) :rs.length≤40:=by
 simp [J0] at h
 omega
section
variable {w:World} {Rs:List Res}
theorem Qb {o:Nat} (hc:w.cell? ⟨b,o,none⟩ =some v) (hb:b<w.heap.size) :∀w',St ⟨w,[]⟩ Rs w'→w'.cell? ⟨b,o,none⟩ =some v:=fun w' hs=> ((Jr hs.fin).1 b o hb).trans hc
theorem OX {o k:Nat} (hc:w.cell? ⟨b,o+k,none⟩ =some v) (hb:b<w.heap.size) :∀w',St ⟨w,[]⟩ Rs w'→∀q u,[v][q]? =some u→w'.cell? ⟨b,o+k*1+q,none⟩ =some u:=fun w' hs q u hq=>by
 match q,hq with
 | 0,hq=>simp at hq;subst hq;rw [jja,jjO];exact Qb hc hb w' hs
theorem kH {o:Nat} (hc:w.cell? ⟨b,o,none⟩ =some v) (hb:b<w.heap.size) :∀w',St ⟨w,[]⟩ Rs w'→w'.cell? ⟨b,o+0,none⟩ =some v:=fun w' hs=>Qb hc hb w' hs
theorem jgW {o k:Nat} (hc:w.cell? ⟨b,o+k,none⟩ =some v) (hb:b<w.heap.size) :∀w',St ⟨w,[]⟩ Rs w'→w'.cell? ⟨b,o+k*1+0,none⟩ =some v:=fun w' hs=>by rw [jja,jjO];exact Qb hc hb w' hs
end
theorem Qz {xs:List (Int×Int)} (h:q6 xs=true) :0<xs.length∧xs.length≤400:=by simp [q6,Yt] at h;omega
end Go.Proofs.YtbahojdbmmjkcaaGreat
