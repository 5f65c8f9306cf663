import Derived.Test.YtbahojdbmmjkcaaGreatPWind
import Derived.Test.YtbahojdbmmjkcaaGreatPOn
set_option linter.unusedVariables false
set_option linter.unusedSimpArgs false
namespace Go.Proofs.YtbahojdbmmjkcaaGreat
open Go Go.RowKit
variable {C:List (Nat×Value)} {K:Act→World→Prop} {P:Program} {Q:Exit→Act→World→Prop} {Rs:List Res} {T k n s:Nat} {X:Type} {args:Array Value} {f:FuncId} {listed:Array Bool} {rs:List jK} {v:Value} {w w1:World} {w0:Bs} {x:Option Addr×Nat} {xs:List Value}
theorem WL {B:Nat} (h:w.ownsRow B T s v n xs) :∃x:Option Addr×Nat,v= .slice x.1 n x.2:=by
 rcases h.2 with⟨rfl,rfl⟩ |⟨g,cap,cur,rfl,_⟩
 ·exact⟨(none,0),rfl⟩
 ·exact⟨(some ⟨g,0,none⟩,cap),rfl⟩
abbrev JQ (B T s n:Nat) (xs:List Value) (x:Option Addr×Nat) :Res:= .row B T s (.slice x.1 n x.2) n xs
theorem newRow {X:Value→Prop} (h:Calls P f args w1 fun e w'=>∃v,e= .returned v∧X v∧w'.ownsRow w1.heap.size T s v n xs∧Over w1 w') :
  Calls P f args w1 fun e w'=>∃x:Option Addr×Nat,e= .returned (.slice x.1 n x.2)∧Over w1 w'∧(JQ 0 T s n xs x).P w'∧(∀b,(JQ 0 T s n xs x).F b→w1.heap.size≤b)∧(JQ 0 T s n xs x).B=0∧X (.slice x.1 n x.2) :=by
 refine h.mono ?_
 rintro e w' ⟨v,rfl,hX,hr,hO⟩
 obtain ⟨x,rfl⟩ :=WL hr
 exact⟨x,rfl,hO,Vy hr (jgw _),fun b hb=> (hr.lt b hb).1,rfl,hX⟩
theorem qJ (h:Calls P f args w1 fun e w'=>∃v,e= .returned v∧w'.ownsRow w1.heap.size T s v n xs∧Over w1 w') :
  Calls P f args w1 fun e w'=>∃x:Option Addr×Nat,e= .returned (.slice x.1 n x.2)∧Over w1 w'∧(JQ 0 T s n xs x).P w'∧(∀b,(JQ 0 T s n xs x).F b→w1.heap.size≤b)∧(JQ 0 T s n xs x).B=0∧True:=
 newRow (X:=fun _=>True) (h.mono fun e w' ⟨v,h1,h2,h3⟩ =>⟨v,h1,trivial,h2,h3⟩)
section
variable {w:World} {w0:Bs} {Rs:List Res}
theorem QO {ls:List Leg} (hk:Rs[k]? =some (JQ 0 T 4 n (ls.flatMap jU) x)) (hn:ls.length=n) (w:World) (hs:St w0 Rs w) :Legs w x.1 n ls:=by
 obtain ⟨A,c,e,hl,_⟩ :=YY (hs.all k _ hk).1 hn
 injection e with e1 e2 e3
 exact e1▸hl
end
theorem vN (h:JW rs=true) (hk:k<rs.length) :qG (rg rs k) =true:=by
 simp [JW] at h
 have:=h.1.2 rs[k] (jgH hk)
 rwa [Vm hk] at this
theorem Pg {rs:List jK} (h:JW rs=true) :∀k,k≤rs.length→∀l∈qW rs k,qr l
 | 0,_,l,hl=>by simp [qW] at hl
 | k+1,hk,l,hl=>by
  simp only [qW,jgL] at hl
  rcases hl with h1 | h1
  ·exact Pg h k Om l h1
  ·exact yF (KM (vN h (show k<rs.length by omega))).2.2 _ (jgx _) l h1
theorem jbN (h:JW rs=true) :∀l∈Jx rs,qr l:=Pg h _ (jgx _)
section
variable {P:Program} {n:Nat} {env:List (Nat×Value)} {w0:Bs} {Rs:List Res} {ops:Array Oper} {Q:Exit→Act→World→Prop} {o:Oper} {fuel:Nat} {listed:Array Bool}
end
theorem vK {env:List (Nat×Value)} (k s:Nat) (hX:w0.X= []) {b U:Nat} (hk:Rs[k]? =some (.cel b U [])) (h:At n env w0 (Rs.set k (.row w0.N U s (.slice (some ⟨b,0,none⟩) 0 0) 0 [])) K) :At n env w0 Rs K:=jcB (m:=0) k hX hk h
theorem JV {env:List (Nat×Value)} {o:Oper} {x y:Operand} {U bytes B0 m d nn:Nat} {z v2:Value} {news:List Value} (ho:o.op= .call {callee:= .builtin .append,args:= #[x,y],argTypes:= #[T,T]}) (hT:TyL P T U s) (hZ:TyZ P U s bytes z) (hs0:0<s) (hd:o.dst=some d) (hn:d<n) (hx:ev env x=some v) (hy:ev env y=some v2) (hk:Rs[k]? =some (.row B0 U s v nn xs)) (hsrc:∀w,St w0 Rs w→Src s v2 m news w) (h1:∀u∈news,u.oneCell'=true) (h63:nn+m≤maxLen) (hbytes: (nn+m) *bytes≤140737488355328) (hB:B0≤w0.N) (h:∀r:Option Addr×Nat,At n ((d, .slice r.1 (nn+m) r.2) ::env) w0 (Rs.set k (.row B0 U s (.slice r.1 (nn+m) r.2) (nn+m) (xs++news))) K) :At n env w0 Rs (fun a w=>o.wp P a w K Q) :=
 To ho hT hZ hs0 hd hn hx hy hk hsrc h1 h63 hbytes hB fun v'=>Q1 (X:=∃r:Option Addr×Nat,v'= .slice r.1 (nn+m) r.2) (fun w hs=>by
  have hkl:k<Rs.length:= (List.getElem?_eq_some_iff.1 hk).1
  exact WL (hs.all k _ (by rw [List.getElem?_set,if_pos rfl,if_pos hkl])).1) (by rintro⟨r,rfl⟩;exact h r)
section
variable {P:Program} {n:Nat} {env:List (Nat×Value)} {w0:Bs} {Rs:List Res} {ops:Array Oper} {Q:Exit→Act→World→Prop} {K:Act→World→Prop}
theorem Ug {x y:Code} (H:X→Prop) (E:X→List (Nat×Value)) (hC:sub env C) (Rs':X→List Res) (h1:∀L:Act→World→Prop,(∀x,H x→At n (E x++C) w0 (Rs' x) L)→At n env w0 Rs (fun a w=>x.wp P (Exit.then L Q) a w)) (h2:∀x,H x→At n (E x++C) w0 (Rs' x) (fun a w=>y.wp P Q a w)) :At n env w0 Rs (fun a w=> (Code.seq x y).wp P Q a w) :=je (h1 _ h2)
theorem ky {H:X→Prop} {E:X→List (Nat×Value)} {Rs':X→List Res} (hL:∀x,H x→At n (E x++C) w0 (Rs' x) K) (x:X) (hx:H x) (he:sub env (E x++C)) (hr:∀w,St w0 Rs w→St w0 (Rs' x) w) :At n env w0 Rs K:=T7 he hr (hL x hx)
theorem St.picks (l:List Nat) (h:St w0 Rs w) (hn:l.Nodup) :St w0 (l.filterMap (Rs[·]?)) w:=by
 have key:∀(l:List Nat),l.Nodup→∃f:Nat→Nat,(∀i j,i< (l.filterMap (Rs[·]?)).length→j< (l.filterMap (Rs[·]?)).length→f i=f j→i=j)∧(∀i,i< (l.filterMap (Rs[·]?)).length→Rs[f i]? = (l.filterMap (Rs[·]?))[i]?)∧∀i,i< (l.filterMap (Rs[·]?)).length→f i∈l:=by
  intro l
  induction l with
  | nil=>exact fun _=>⟨id,fun i j hi=>absurd hi (by simp),fun i hi=>absurd hi (by simp),fun i hi=>absurd hi (by simp)⟩
  | cons a l ih=>
   intro hn
   obtain ⟨hna,hnl⟩ :=List.nodup_cons.1 hn
   obtain ⟨f,h1,h2,h3⟩ :=ih hnl
   cases ha:Rs[a]? with
   | none=>
    have e: (a::l).filterMap (Rs[·]?) =l.filterMap (Rs[·]?) :=by simp [List.filterMap_cons,ha]
    rw [e]
    exact⟨f,h1,h2,fun i hi=>jgP _ (h3 i hi)⟩
   | some r=>
    have e: (a::l).filterMap (Rs[·]?) =r::l.filterMap (Rs[·]?) :=by simp [List.filterMap_cons,ha]
    rw [e]
    refine⟨fun i=>match i with | 0=>a | i+1=>f i,fun i j hi hj hij=> ?_,fun i hi=> ?_,fun i hi=> ?_⟩
    ·match i,j with
     | 0,0=>rfl
     | 0,j+1=>have e:a=f j:=hij;exact absurd (e.symm▸h3 j (by simpa using hj)) hna
     | i+1,0=>have e:f i=a:=hij;exact absurd (e▸h3 i (by simpa using hi)) hna
     | i+1,j+1=>rw [h1 i j (by simpa using hi) (by simpa using hj) hij]
    ·match i with
     | 0=>simpa using ha
     | i+1=>simpa using h2 i (by simpa using hi)
    ·match i with
     | 0=>exact jgZ
     | i+1=>exact jgP _ (h3 i (by simpa using hi))
 obtain ⟨f,h1,h2,_⟩ :=key l hn
 exact h.sel f h1 h2
theorem LN {Rs0:List Res} {fuel f i j:Nat} {oi oj:Oper} (hi:ops[i]? =some oi) (hj:ops[j]? =some oj) (hfi: (i !=f) =true) (hfj: (j !=f) =true) (hr:Region.ready .any ops listed= [i,j]) (hgi:oi.guard=none) (hgj:oj.guard=none) (h1:At n env w0 Rs (fun a w=>oi.wp P a w (fun a' w'=>St w0 Rs0 w'∧Qf P .any ops Q (Ue w0 Rs0) f fuel (listed.setIfInBounds i true) a' w') Q)) (h2:At n env w0 Rs (fun a w=>oj.wp P a w (fun a' w'=>St w0 Rs0 w'∧Qf P .any ops Q (Ue w0 Rs0) f fuel (listed.setIfInBounds j true) a' w') Q)) :At n env w0 Rs (fun a w=>Qf P .any ops Q (Ue w0 Rs0) f (fuel+1) listed a w) :=by
 intro a W hf hs
 refine⟨fun h0=> (by rw [h0] at hr;cases hr),fun k hk w hS=> ?_⟩
 rw [hr] at hk
 simp only [jgK,jhz,or_false] at hk
 rcases hk with rfl | rfl
 ·refine⟨fun _=> ?_,fun e=>absurd e (by simpa using hfi)⟩
  unfold Go.wpOp
  have hw:Region.wanted oi (yielded ops a.tmps) =true:=by simp [Region.wanted,hgi]
  simp only [hi,hw,if_true]
  exact .inl (h1 a w hf (hs.over_ hS))
 ·refine⟨fun _=> ?_,fun e=>absurd e (by simpa using hfj)⟩
  unfold Go.wpOp
  have hw:Region.wanted oj (yielded ops a.tmps) =true:=by simp [Region.wanted,hgj]
  simp only [hj,hw,if_true]
  exact .inl (h2 a w hf (hs.over_ hS))
end
end Go.Proofs.YtbahojdbmmjkcaaGreat
namespace Go.Proofs.YtbahojdbmmjkcaaGreat
open Go Go.RowKit
variable {h:Bool} {ls:List Leg}
set_option maxRecDepth 100000
set_option maxHeartbeats 4000000
def LW (h:Bool) (ls:List Leg) (x y:Int) :Int:=if uB h ls x y=true then((ls.findIdx fun l=>onL (Qe h l) x y:Nat) :Int) else-1
theorem jar {x y:Int} {k:Nat} (hk:k<ls.length) (hn:yL h ls x y k) (h1:onL (Qe h (lg ls k)) x y=true) : (k:Int) =LW h ls x y:=by
 have:ls.findIdx (fun l=>onL (Qe h l) x y) =k:= (List.findIdx_eq hk).2 ⟨by rw [VG hk];exact h1,fun j hj=>by rw [VG Om];exact hn j hj⟩
 rw [LW,if_pos (Lz hk h1),this]
theorem SR {x y:Int} (hk:yL h ls x y ls.length) : -1=LW h ls x y:=by
 rw [LW,if_neg (by rw [Ly hk];simp)]
theorem jas (h:Bool) (ls:List Leg) (x y:Int) :decide (0≤LW h ls x y) =uB h ls x y:=by
 cases e:uB h ls x y<;>simp [LW,e]
abbrev onF (p q:Nat) :Value:= .func (.func 248) #[] #[.pointer (some ⟨p,0,none⟩), .pointer (some ⟨q,0,none⟩)]
theorem Ou (A:Option Addr) (n c:Nat) (ls:List Leg) (p q:Nat) (x y:Int) (hf:Bool) (w:World) (h:Legs w A n ls) (hn:n≤1048576) (hok:∀l∈ls,qr l) (hx:wA x) (hy:wA y) (h1:w.heap[p]? =some (.cells [.bool hf].toArray 4 (0,0))) (h2:w.heap[q]? =some (.cells [.int .i64 x, .int .i64 y].toArray 28 (0,0))) :
  Calls Tryz.prog 271 #[.slice A n c,onF p q] w fun e w'=>e= .returned (.int .i64 (LW hf ls x y))∧Over w w':=by
 have hl:=h.1
 refine jT (m:=19) (Tryz.func271) J J (lb J) ?_;refine S12 ?_;refine J9 (X:=Nat) (fun k=>k≤n∧yL hf ls x y k) (fun k=>n- k) (fun k=> [(8, .int .i64 (k:Int))]) (kK [0,1,4,7]) 0 (⟨jgw _,fun j hj=>absurd hj Om⟩) ⟨J,sz⟩ ?_
 intro k hk L hL1
 refine V5 ?_;refine cZ (fun c1=> ?_) (fun c1=> ?_)
 ·have hlt:k<n:=Om
  obtain ⟨bb,oo,rfl⟩ :=h.form Om
  refine S15 ?_;refine a9 (jk J J qm J (uV (fun w' hs=>h.over hs.fin) hlt)) ?_;refine a9 (jbG xS J J J (fun w1 hs=>Fs (lg ls k) p q x y hf w1 (QK hok Om) hx hy ((hs.fin.out.block _ (JZ h1)).trans h1) ((hs.fin.out.block _ (JZ h2)).trans h2))) ?_;refine S1 ?_;refine cZ (fun c2=> ?_) (fun c2=> ?_)
  ·refine S11 ?_;refine jL J (.tmp J) ?_
   intro w' hs
   exact⟨wm (jar (show k<ls.length by omega) hk.2 c2),hs.fin⟩
  ·refine S7 ?_
   exact JY hL1 (k+1) (⟨by omega,GY hk.2 c2⟩) Om ⟨vi Om,sz⟩ (u9 J)
 ·refine S10 ?_;refine jL J (.tmp J) ?_
  intro w' hs
  exact⟨wm (SR (by rw [hl,show n=k by omega];exact hk.2)),hs.fin⟩
theorem XG (A:Option Addr) (n c:Nat) (ls:List Leg) (p q:Nat) (x y:Int) (hf:Bool) (w:World) (h:Legs w A n ls) (hn:n≤1048576) (hok:∀l∈ls,qr l) (hx:wA x) (hy:wA y) (h1:w.heap[p]? =some (.cells [.bool hf].toArray 4 (0,0))) (h2:w.heap[q]? =some (.cells [.int .i64 x, .int .i64 y].toArray 28 (0,0))) :
  Calls Tryz.prog 247 #[.slice A n c,onF p q] w fun e w'=>e= .returned (.bool (uB hf ls x y))∧Over w w':=by
 refine jT (m:=9) (Tryz.func247) J J (lb J) ?_;refine S8 ?_;refine a9 (jJ vH J J (fun w1 hs=>Ou A n _ ls p q x y hf w1 (h.over hs.fin) hn hok hx hy ((hs.fin.out.block _ (JZ h1)).trans h1) ((hs.fin.out.block _ (JZ h2)).trans h2))) ?_;refine S4 ?_;refine jL J (.tmp J) ?_
 intro w' hs
 exact⟨Qs (jas _ _ _ _),hs.fin⟩
theorem RH (A:Option Addr) (n c:Nat) (ls:List Leg) (x y:Int) (hf:Bool) (w:World) (h:Legs w A n ls) (hn:n≤1048576) (hok:∀l∈ls,qr l) (hx:wA x) (hy:wA y) :
  Calls Tryz.prog 214 #[.slice A n c,WH x y, .bool hf] w fun e w'=>e= .returned (.bool (uB hf ls x y))∧Over w w':=by
 refine jT (m:=10) (Tryz.func214) J J (lb J) ?_;refine S3 ?_;refine aX (fun b1=> ?_);refine N1 ?_;refine aX (fun b2=> ?_);refine N5 ?_;refine a9 (R5 J J) ?_;refine a9 (jJ vd J J (fun w1 hs=>XG A n _ ls _ _ x y hf w1 (h.over hs.fin) hn hok hx hy (hs.cel (k:=1) J) (hs.cel (k:=0) J))) ?_;refine S3 ?_;refine jL J (.tmp J) ?_
 intro w' hs
 exact⟨rfl,hs.fin⟩
end Go.Proofs.YtbahojdbmmjkcaaGreat
namespace Go.Proofs.YtbahojdbmmjkcaaGreat
open Go Go.RowKit
variable {A:Option Addr} {F:Nat→Prop} {R:Ending→World→Prop} {cs:Array Value} {hi j k lo n:Nat} {pl:Nat→Option Addr×Nat} {rs:List jK} {ts:Array TypeId} {vs:List Value} {w w':World}
def Uc (e:Leg) :Int×Int:= (e.ax+e.bx,e.ay+e.b_y)
def zV (xs:jK) (e:Leg) :Bool:= !uB true (Jy xs) (Uc e).1 (Uc e).2
def zP (xs ys:jK) :Bool:=match (Jy ys).find? (zV xs) with
 | some e=> !(Xy true (Jy xs) (Uc e).1 (Uc e).2==0)
 | none=>false
theorem T0 {xs ys:jK} (hk:k< (Jy ys).length) (hn:∀j,j<k→zV xs (lg (Jy ys) j) =false) (h1:zV xs (lg (Jy ys) k) =true) :
  (!(Xy true (Jy xs) (Uc (lg (Jy ys) k)).1 (Uc (lg (Jy ys) k)).2==0)) =zP xs ys:=by
 have: (Jy ys).find? (zV xs) =some (lg (Jy ys) k) :=List.find?_eq_some_iff_getElem.2 ⟨h1,k,hk,VG hk,fun j hj=>by rw [VG Om,hn j hj];rfl⟩
 rw [zP,this]
theorem O6 {xs ys:jK} (hn:∀j,j< (Jy ys).length→zV xs (lg (Jy ys) j) =false) :false=zP xs ys:=by
 have: (Jy ys).find? (zV xs) =none:=List.find?_eq_none.2 fun e he=>by
  obtain ⟨j,hj,rfl⟩ :=jg1 he
  rw [VG hj,hn j hj]
  simp
 rw [zP,this]
def Kj (rs:List jK) (i:Nat) :Nat→Int
 | 0=> -1
 | k+1=>if(k≠i∧zP (rg rs k) (rg rs i) =true)∧(Kj rs i k<0∨zP (rg rs (Kj rs i k).toNat) (rg rs k) =true) then(k:Int) else Kj rs i k
theorem jbt (rs:List jK) (i:Nat) :∀k:Nat,-1≤Kj rs i k∧Kj rs i k<k
 | 0=>by simp [Kj]
 | k+1=>by
  have:=jbt rs i k
  unfold Kj
  split<;>omega
theorem Lb {i:Nat} (h1:k≠i) (h2:zP (rg rs k) (rg rs i) =true) (h3:Kj rs i k<0∨zP (rg rs (Kj rs i k).toNat) (rg rs k) =true) :Kj rs i (k+1) =k:=if_pos ⟨⟨h1,h2⟩,h3⟩
theorem Gd {i:Nat} (h:¬((k≠i∧zP (rg rs k) (rg rs i) =true)∧(Kj rs i k<0∨zP (rg rs (Kj rs i k).toNat) (rg rs k) =true))) :Kj rs i (k+1) =Kj rs i k:=if_neg h
def WG (rs:List jK) (k:Nat) :List Int:= (List.range k).map fun i=>Kj rs i rs.length
theorem CF (rs:List jK) (k:Nat) :WG rs (k+1) =WG rs k++ [Kj rs k rs.length] :=by
 simp [WG,List.range_succ]
theorem MF (rs:List jK) (k:Nat) : (WG rs k).length=k:=by simp [WG]
theorem jcw (ls:List Leg) (x y:Int) :uB false (ls.map (Qe true)) x y=uB true ls x y:=by
 unfold uB
 rw [List.any_map]
 congr 1
theorem jaL (f:Leg→Leg) {ls:List Leg} (h:k<ls.length) :lg (ls.map f) k=f (lg ls k) :=by
 rw [←VG (by simpa using h),←VG h,jhx]
theorem jct (ls:List Leg) (x y:Int) :Xy false (ls.map (Qe true)) x y=Xy true ls x y:=by
 unfold Xy
 rw [jgF]
 have:∀k,k≤ls.length→kY false (ls.map (Qe true)) x y k=kY true ls x y k:=by
  intro k
  induction k with
  | zero=>intro _;rfl
  | succ k ih=>
   intro hk
   unfold kY
   rw [ih Om,jaL _ Om,DH]
 exact this _ (jgx _)
structure Wrs (F:Nat→Prop) (w w':World) :Prop where
 os:w'.os=w.os
 tape:w'.tape=w.tape
 output:w'.output=w.output
 size:w.heap.size≤w'.heap.size
 block:∀c,c<w.heap.size→¬F c→w'.heap[c]? =w.heap[c]?
theorem Wrs.refl (F:Nat→Prop) (w:World) :Wrs F w w:=⟨rfl,rfl,rfl,jgx _,fun _ _ _=>rfl⟩
theorem Wrs.mono {G:Nat→Prop} (h:Wrs F w w') (hF:∀b,F b→G b) :Wrs G w w':=⟨h.os,h.tape,h.output,h.size,fun c hc hn=>h.block c hc (fun hf=>hn (hF c hf))⟩
theorem Wrs.of (h:Over w w') :Wrs F w w':=⟨h.out.os,h.out.tape,h.out.output,h.size,fun c hc _=>h.out.block c hc⟩
theorem Ovx.wrs {X:List Nat} (h:Ovx ⟨w,X⟩ w') :Wrs (·∈X) w w':=⟨h.os,h.tape,h.output,h.size,fun c hc hne=>h.block c hc hne⟩
theorem Wrs.over (h:Wrs F w w') (hF:∀b,¬F b) :Over w w':=⟨h.os,h.tape,h.output,h.size,fun c hc=>h.block c hc (hF c)⟩
theorem St.startR (w:World) (X:List Nat) (r:Res) (hP:r.P w) (hF:∀b,r.F b→b∈X) (hB:r.B=0) :St ⟨w,X⟩ [r] w:=by
 refine⟨⟨J,J,J,jgx _,fun _ _ _=>rfl⟩,fun i s hi=> ?_,fun i j s t hij hi hj=> ?_⟩
 ·match i,hi with
  | 0,hi=>
   simp at hi
   subst hi
   exact⟨hP,fun b hb=> .inr (hF b hb),by rw [hB];exact jgw _,fun _ _=>by rw [hB];exact jgw _⟩
 ·match i,j,hi,hj with
  | 0,0,_,_=>exact absurd rfl hij
section
variable {P:Program} {n:Nat} {env:List (Nat×Value)} {w0:Bs} {Rs:List Res} {ops:Array Oper} {Q:Exit→Act→World→Prop} {K:Act→World→Prop} {o:Oper}
theorem WO {f m:Nat} {fn:Func} {c:Code} (X:List Nat) (r:Res) (hP:r.P w) (hF:∀b,r.F b→b∈X) (hB:r.B=0) (hf:P.funcs[f]? =some fn) (hb:fn.body=some c) (hm:fn.ntmps=m) (hl:vs.length≤m) (h:At m (LQ 0 vs) ⟨w,X⟩ [r] (fun a w=>c.wp P (bodyPost P fn R) a w)) :Calls P f vs.toArray w R:=by
 subst hm
 exact LC hf hb hl (fun t v hv=>by simpa using (yJ vs 0 t v hv).2) h (St.startR w X r hP hF hB)
theorem Va {f d:Nat} (hfn:FnOk P f) {xs:List Operand} {v:Value} {r:Res} (r':Res) (ho:o.op= .call {callee:= .value (.func f),args:=xs.toArray,argTypes:=ts}) (hx:OB env xs=some vs) (hd:o.dst=some d) (hn:d<n) (hk:Rs[k]? =some r) (hc:∀w,St w0 Rs w→Calls P f vs.toArray w fun e w'=>e= .returned v∧Wrs r.F w w'∧r'.P w') (hF:∀b,r'.F b→r.F b) (hB:r'.B=0) (h:At n ((d,v) ::env) w0 (Rs.set k r') K) :At n env w0 Rs (fun a w=>o.wp P a w K Q) :=fun a w hF' hs=>by
 show o.upon P a K Q ((execOp a.eval o).run P w)
 rw [zg hfn ho hx hF']
 refine Calls.mono (hc w hs) ?_
 rintro e w' ⟨rfl,hw,hp⟩
 have hlow:= (hs.all k _ hk).2.1
 show K (a.put o.dst v) w'
 rw [hd]
 refine h _ _ (hF'.put hn _) (hs.upd hk ⟨hw.os.trans hs.over.os,hw.tape.trans hs.over.tape,hw.output.trans hs.over.output,jhi hs.over.size hw.size,fun c hc' hx'=> ?_⟩ hw.size (fun c hc' hne=>hw.block c hc' hne) hp (fun c hc'=> .inl (hF c hc')) hB)
 rw [hw.block c (jgA hc' hs.over.size) (fun e=> (hlow c e).elim (fun h1=>by omega) (fun h1=>hx' h1))]
 exact hs.over.block c hc' hx'
def Res.many (l:List Res) :Res where
 F b:=∃r∈l,r.F b
 P w:= (∀r∈l,r.P w∧r.B=0)∧l.Pairwise (fun (r s:Res) =>∀b:Nat,r.F b→¬s.F b)
 low w h b hb:=by obtain ⟨r,hr,hb⟩ :=hb;exact r.low w (h.1 r hr).1 b hb
 B:=0
 dep w w' h hz hb:=⟨fun r hr=>⟨r.dep w w' (h.1 r hr).1 hz fun b h1 h2=>hb b h1 (.inr (h2.elim (fun h3=>by rw [(h.1 r hr).2] at h3;omega) (fun h3=>⟨r,hr,h3⟩))),(h.1 r hr).2⟩,h.2⟩
theorem vu (h:At n env w0 (Rs++ [.many []]) K) :At n env w0 Rs K:=fun a w hf hs=>
 h a w hf (hs.add (Over.refl _) ⟨fun r hr=>absurd hr (by simp),List.Pairwise.nil⟩ (fun b hb=>by obtain ⟨r,hr,_⟩ :=hb;simp at hr) ⟨jgw _,fun _ _=>jgw _⟩)
theorem St.drop (h:St w0 Rs w) :St w0 (Rs.eraseIdx j) w:=
 h.sel (fun i=>if i<j then i else i+1) (fun a b _ _ e=>by split at e<;>split at e<;>omega) (fun i hi=>by
  rw [List.getElem?_eraseIdx]
  split
  ·rfl
  ·rfl)
theorem KU (k j:Nat) {l:List Res} {r:Res} (hk:Rs[k]? =some (.many l)) (hj:Rs[j]? =some r) (hkj:k≠j) (hB:r.B=0) (h:At n env w0 ((Rs.set k (.many (l++ [r]))).eraseIdx j) K) :At n env w0 Rs K:=fun a w hf hs=>by
 refine h a w hf ?_
 have hm:=hs.all k _ hk
 have hr:=hs.all j _ hj
 have hap:=hs.apart k j _ _ hkj hk hj
 have hset:∀(i:Nat) (s:Res),i≠k→(Rs.set k (.many (l++ [r])))[i]? =some s→Rs[i]? =some s:=by
  intro i s hi h'
  rw [List.getElem?_set,if_neg (Ne.symm hi)] at h'
  exact h'
 have hkl:k<Rs.length:= (List.getElem?_eq_some_iff.1 hk).1
 have hek: (Rs.set k (.many (l++ [r])))[k]? =some (.many (l++ [r])) :=by rw [List.getElem?_set,if_pos rfl,if_pos hkl]
 have hP: (Res.many (l++ [r])).P w:=by
  refine⟨fun s hs'=> ?_,?_⟩
  ·rcases jgL.1 hs' with h1 | h1
   ·exact hm.1.1 s h1
   ·rw [jgC.1 h1];exact⟨hr.1,hB⟩
  ·rw [jhS]
   refine⟨hm.1.2,jhL _ _,fun a ha b hb c hc=> ?_⟩
   rw [jgC.1 hb]
   exact hap c ⟨a,ha,hc⟩
 have hFm:∀b,(Res.many (l++ [r])).F b→(Res.many l).F b∨r.F b:=by
  rintro b ⟨s,hs',hb⟩
  rcases jgL.1 hs' with h1 | h1
  ·exact .inl ⟨s,h1,hb⟩
  ·rw [jgC.1 h1] at hb;exact .inr hb
 have idx:∀(i:Nat) (s:Res),((Rs.set k (.many (l++ [r]))).eraseIdx j)[i]? =some s→∃i',i'≠j∧(Rs.set k (.many (l++ [r])))[i']? =some s∧(i'=if i<j then i else i+1) :=by
  intro i s hi
  rw [List.getElem?_eraseIdx] at hi
  by_cases hij:i<j
  ·rw [if_pos hij] at hi;exact⟨i,by omega,hi,by rw [if_pos hij]⟩
  ·rw [if_neg hij] at hi;exact⟨i+1,by omega,hi,by rw [if_neg hij]⟩
 refine⟨hs.over,fun i s hi=> ?_,fun i i2 s t hii hi hi2 b hb hb2=> ?_⟩
 ·obtain ⟨i',hne,hi',_⟩ :=idx i s hi
  by_cases hik:i'=k
  ·subst hik
   rw [hek] at hi'
   injection hi' with hi'
   subst hi'
   exact⟨hP,fun b hb=> (hFm b hb).elim (hm.2.1 b) (hr.2.1 b),jgw _,fun _ _=>jgw _⟩
  ·exact hs.all i' s (hset i' s hik hi')
 ·obtain ⟨a,ha1,ha2,ha3⟩ :=idx i s hi
  obtain ⟨c,hc1,hc2,hc3⟩ :=idx i2 t hi2
  have hac:a≠c:=by
   intro e
   rw [ha3,hc3] at e
   split at e<;>split at e<;>omega
  by_cases hak:a=k
  ·subst hak
   rw [hek] at ha2
   injection ha2 with ha2
   subst ha2
   have ht:=hset c t (Ne.symm hac) hc2
   rcases hFm b hb with h1 | h1
   ·exact hs.apart a c _ t hac hk ht b h1 hb2
   ·exact hs.apart j c r t (Ne.symm hc1) hj ht b h1 hb2
  ·have hs':=hset a s hak ha2
   by_cases hck:c=k
   ·subst hck
    rw [hek] at hc2
    injection hc2 with hc2
    subst hc2
    rcases hFm b hb2 with h1 | h1
    ·exact hs.apart a c s _ hac hs' hk b hb h1
    ·exact hs.apart a j s r ha1 hs' hj b hb h1
   ·exact hs.apart a c s t hac hs' (hset c t hck hc2) b hb hb2
end
def OwnP (lo hi:Nat) (w:World) (A:Option Addr) (n:Nat) (xs:List (Int×Int)) :Prop:=
 xs.length=n∧(0<n→∃b o T cs,A=some ⟨b,o,none⟩∧lo≤b∧b<hi∧w.heap[b]? =some (.cells cs T (0,0))∧∀k,k<n→cs[o+k*2]? =some (.int .i64 (px xs k))∧cs[o+k*2+1]? =some (.int .i64 (py xs k)))
section
variable {lo hi lo' hi' n:Nat} {w w':World} {A:Option Addr} {xs:List (Int×Int)}
theorem OwnP.pts (h:OwnP lo hi w A n xs) :Pts w A n xs:=⟨h.1,fun hn=>by
 obtain ⟨b,o,T,cs,rfl,h1,h2,hh,hc⟩ :=h.2 hn
 refine⟨b,o,J,JZ hh,fun k hk=> ?_⟩
 rw [cell_of_row w b _ _ T (0,0) hh,cell_of_row w b _ _ T (0,0) hh]
 exact hc k hk⟩
theorem OwnP.agree (h:OwnP lo hi w A n xs) (ha:∀p,A=some p→lo≤p.block→p.block<hi→w'.heap[p.block]? =w.heap[p.block]?) :OwnP lo hi w' A n xs:=⟨h.1,fun hn=>by
 obtain ⟨b,o,T,cs,rfl,h1,h2,hh,hc⟩ :=h.2 hn
 exact⟨b,o,T,cs,rfl,h1,h2,(ha _ rfl h1 h2).trans hh,hc⟩⟩
theorem OwnP.wide (h:OwnP lo hi w A n xs) (h1:lo'≤lo) (h2:hi≤hi') :OwnP lo' hi' w A n xs:=⟨h.1,fun hn=>by
 obtain ⟨b,o,T,cs,hA,h3,h4,hh⟩ :=h.2 hn
 exact⟨b,o,T,cs,hA,by omega,by omega,hh⟩⟩
theorem OwnP.nil (A:Option Addr) :OwnP lo hi w A 0 [] :=⟨rfl,fun h=>absurd h Om⟩
end
def Wl (k:Int) (n:Nat) :List (Int×Int) := (List.range n).map fun (j:Nat) => (k+2* (j:Int),k+2* (j:Int) +1)
theorem ww (k:Int) (n:Nat) : (Wl k n).length=n:=by simp [Wl]
theorem RZ {k:Int} (h:j<n) :px (Wl k n) j=k+2*j:=by simp [px,Wl,List.getD,h]
theorem R4 {k:Int} (h:j<n) :py (Wl k n) j=k+2*j+1:=by simp [py,Wl,List.getD,h]
def Vl:Option Addr→Nat
 | some p=>p.block
 | none=>0
structure OwnGd (lo hi:Nat) (w:World) (b o T:Nat) (cs:Array Value) (pl:Nat→Option Addr×Nat) (n:Nat) (rs:List jK) :Prop where
 low:lo≤b
 high:b<hi
 blk:w.heap[b]? =some (.cells cs T (0,0))
 cell:∀k,k<n→cs[o+k]? =some (.slice (pl k).1 (rg rs k).length (pl k).2)
 pts:∀k,k<n→OwnP lo hi w (pl k).1 (rg rs k).length (rg rs k)
 off:∀k,k<n→0< (rg rs k).length→Vl (pl k).1≠b
 apart:∀j k,j<n→k<n→j≠k→0< (rg rs j).length→0< (rg rs k).length→Vl (pl j).1≠Vl (pl k).1
def OwnG (lo hi:Nat) (w:World) (A:Option Addr) (n:Nat) (rs:List jK) :Prop:=
 rs.length=n∧(∀k,k<n→((rg rs k).length:Int)≤1099511627776)∧(0<n→∃b o T cs pl,A=some ⟨b,o,none⟩∧OwnGd lo hi w b o T cs pl n rs)
section
variable {lo hi lo' hi' n:Nat} {w w':World} {A:Option Addr} {rs:List jK}
theorem OwnGd.agree {b o T:Nat} (h:OwnGd lo hi w b o T cs pl n rs) (ha:∀b,lo≤b→b<hi→w'.heap[b]? =w.heap[b]?) :OwnGd lo hi w' b o T cs pl n rs:=
 ⟨h.low,h.high,(ha b h.low h.high).trans h.blk,h.cell,fun k hk=> (h.pts k hk).agree fun p _ h1 h2=>ha _ h1 h2,h.off,h.apart⟩
theorem OwnGd.wide {b o T:Nat} (h:OwnGd lo hi w b o T cs pl n rs) (h1:lo'≤lo) (h2:hi≤hi') :OwnGd lo' hi' w b o T cs pl n rs:=
 ⟨jhi h1 h.low,jgA h.high h2,h.blk,h.cell,fun k hk=> (h.pts k hk).wide h1 h2,h.off,h.apart⟩
theorem OwnG.agree (h:OwnG lo hi w A n rs) (ha:∀b,lo≤b→b<hi→w'.heap[b]? =w.heap[b]?) :OwnG lo hi w' A n rs:=⟨h.1,h.2.1,fun hn=>by
 obtain ⟨b,o,T,cs,pl,hA,hd⟩ :=h.2.2 hn
 exact⟨b,o,T,cs,pl,hA,hd.agree ha⟩⟩
theorem OwnG.wide (h:OwnG lo hi w A n rs) (h1:lo'≤lo) (h2:hi≤hi') :OwnG lo' hi' w A n rs:=⟨h.1,h.2.1,fun hn=>by
 obtain ⟨b,o,T,cs,pl,hA,hd⟩ :=h.2.2 hn
 exact⟨b,o,T,cs,pl,hA,hd.wide h1 h2⟩⟩
theorem OwnG.nil (A:Option Addr) :OwnG lo hi w A 0 [] :=⟨rfl,fun k hk=>absurd hk Om,fun h=>absurd h Om⟩
theorem OwnG.rings (h:OwnG lo hi w A n rs) :Rings w A n rs:=⟨h.1,fun hn=>by
 obtain ⟨b,o,T,cs,pl,hA,hd⟩ :=h.2.2 hn
 refine⟨b,o,hA,JZ hd.blk,fun k hk=>⟨(pl k).1,(pl k).2,?_,(hd.pts k hk).pts,by have:=h.2.1 k hk;omega⟩⟩
 rw [cell_of_row w b _ _ T (0,0) hd.blk]
 exact hd.cell k hk⟩
end
def KC:Int→List jK→List jK
 | _,[] => []
 | k,r::l=>Wl k r.length::KC (k+2*r.length) l
theorem we:∀(k:Int) (l:List jK),(KC k l).length=l.length
 | _,[] =>rfl
 | k,r::l=>by simp [KC,we]
theorem WK:∀(l:List jK) (k:Int) (j:Nat),j<l.length→rg (KC k l) j=Wl (k+2* (qD l j:Nat)) (rg l j).length
 | [],_,_,h=>absurd h (by simp)
 | r::l,k,0,_=>by simp [KC,rg,qD]
 | r::l,k,j+1,h=>by
  have:=WK l (k+2*r.length) j (by simpa using h)
  have e1:rg (KC k (r::l)) (j+1) =rg (KC (k+2*r.length) l) j:=by simp [KC,rg]
  have e2:rg (r::l) (j+1) =rg l j:=by simp [rg]
  have e3:∀j,qD (r::l) (j+1) =r.length+qD l j:=by
   intro j
   induction j with
   | zero=>simp [qD,rg]
   | succ j ih=>
    rw [qD,ih,qD]
    have:rg (r::l) (j+1) =rg l j:=by simp [rg]
    rw [this];omega
  rw [e1,this,e2,e3]
  congr 1
  omega
abbrev Q6 (n:Nat) (rs:List jK) (lo hi:Nat) (A:Option Addr) :Res:= .clo lo hi (fun w=>OwnG lo hi w A n rs)
theorem SO (h:OwnG lo hi w A n rs) (hz:hi≤w.heap.size) : (Q6 n rs lo hi A).P w:=⟨hz,fun w' _ ha=>h.agree ha⟩
theorem WX (h: (Q6 n rs lo hi A).P w) :OwnG lo hi w A n rs:=h.2 w h.1 fun _ _ _=>rfl
abbrev jfq (n:Nat) (xs:List (Int×Int)) (lo hi:Nat) (A:Option Addr) :Res:= .clo lo hi (fun w=>OwnP lo hi w A n xs)
theorem jdD {xs:List (Int×Int)} (h:OwnP lo hi w A n xs) (hz:hi≤w.heap.size) : (jfq n xs lo hi A).P w:=⟨hz,fun w' _ ha=>h.agree fun p _ h1 h2=>ha _ h1 h2⟩
theorem CL {xs:List (Int×Int)} (h: (jfq n xs lo hi A).P w) :OwnP lo hi w A n xs:=h.2 w h.1 fun _ _ _=>rfl
theorem jel {r s:Res} (h1:r.P w) (h2:s.P w) (b1:r.B=0) (b2:s.B=0) (hap:∀b,r.F b→¬s.F b) : (Res.many [r,s]).P w:=
 ⟨fun q hq=>by simp only [jgK,jhz,or_false] at hq;rcases hq with rfl | rfl<;>exact⟨by assumption,by assumption⟩,by simpa using hap⟩
section
variable {n:Nat} {env:List (Nat×Value)} {w0:Bs} {Rs:List Res} {K:Act→World→Prop}
end
end Go.Proofs.YtbahojdbmmjkcaaGreat
