import Derived.Test.YtpncbbcmoiiipaaMOn
import Derived.Test.YtpncbbcmoiiipaaMValidRegion
set_option linter.unusedVariables false
set_option linter.unusedSimpArgs false
namespace Go.Proofs.Ytpncbbcmoiiipaa
open Go Go.RowKit
theorem Yl {w:World} {B T s n:Nat} {v:Value} {xs:List Value} (h:w.ownsRow B T s v n xs) :∃x:Option Addr×Nat,v= .slice x.1 n x.2:=by
 rcases h.2 with⟨rfl,rfl⟩ |⟨g,cap,cur,rfl,_⟩
 ·exact⟨(none,0),rfl⟩
 ·exact⟨(some ⟨g,0,none⟩,cap),rfl⟩
abbrev qx (B T s n:Nat) (xs:List Value) (x:Option Addr×Nat) :Res:= .row B T s (.slice x.1 n x.2) n xs
theorem newRow {P:Program} {f:FuncId} {args:Array Value} {w1:World} {T s n:Nat} {xs:List Value} {X:Value→Prop} (h:Calls P f args w1 fun e w'=>∃v,e= .returned v∧X v∧w'.ownsRow w1.heap.size T s v n xs∧Over w1 w') :
  Calls P f args w1 fun e w'=>∃x:Option Addr×Nat,e= .returned (.slice x.1 n x.2)∧Over w1 w'∧(qx 0 T s n xs x).P w'∧(∀b,(qx 0 T s n xs x).F b→w1.heap.size≤b)∧(qx 0 T s n xs x).B=0∧X (.slice x.1 n x.2) :=by
 refine h.mono ?_
 rintro e w' ⟨v,rfl,hX,hr,hO⟩
 obtain ⟨x,rfl⟩ :=Yl hr
 exact⟨x,rfl,hO,XQ hr (DQ _),fun b hb=> (hr.lt b hb).1,rfl,hX⟩
theorem KH {P:Program} {f:FuncId} {args:Array Value} {w1:World} {T s n:Nat} {xs:List Value} (h:Calls P f args w1 fun e w'=>∃v,e= .returned v∧w'.ownsRow w1.heap.size T s v n xs∧Over w1 w') :
  Calls P f args w1 fun e w'=>∃x:Option Addr×Nat,e= .returned (.slice x.1 n x.2)∧Over w1 w'∧(qx 0 T s n xs x).P w'∧(∀b,(qx 0 T s n xs x).F b→w1.heap.size≤b)∧(qx 0 T s n xs x).B=0∧True:=
 newRow (X:=fun _=>True) (h.mono fun e w' ⟨v,h1,h2,h3⟩ =>⟨v,h1,trivial,h2,h3⟩)
section
variable {w:World} {w0:Bs} {Rs:List Res}
theorem Vh {k T n:Nat} {x:Option Addr×Nat} {ls:List Leg} (hk:Rs[k]? =some (qx 0 T 4 n (ls.flatMap JH) x)) (hn:ls.length=n) (w:World) (hs:St w0 Rs w) :Legs w x.1 n ls:=by
 obtain ⟨A,c,e,hl,_⟩ :=uA (hs.all k _ hk).1 hn
 injection e with e1 e2 e3
 exact e1▸hl
end
theorem kC {rs:List jx} (h:Je rs=true) {k:Nat} (hk:k<rs.length) :qd (rg rs k) =true:=by
 simp [Je] at h
 have:=h.1.2 rs[k] (DR hk)
 rwa [Ku hk] at this
theorem XO {rs:List jx} (h:Je rs=true) :∀k,k≤rs.length→∀l∈JJ rs k,kq l
 | 0,_,l,hl=>by simp [JJ] at hl
 | k+1,hk,l,hl=>by
  simp only [JJ,DV] at hl
  rcases hl with h1 | h1
  ·exact XO h k Om l h1
  ·exact wM (vh (kC h (show k<rs.length by omega))).2.2 _ (DM _) l h1
theorem U5 {rs:List jx} (h:Je rs=true) :∀l∈jv rs,kq l:=XO h _ (DM _)
theorem ZU {rs:List jx} (h:Je rs=true) : (jv rs).length≤1048576:=by
 simp [Je] at h
 omega
theorem Ox {x y:Int} (h:KD x y=true) :wy x∧wy y:=by
 simp [KD,wB] at h
 refine⟨⟨?_,?_⟩,?_,?_⟩ <;>omega
section
variable {P:Program} {n:Nat} {env:List (Nat×Value)} {w0:Bs} {Rs:List Res} {ops:Array Oper} {Q:Exit→Act→World→Prop} {o:Oper} {fuel:Nat} {listed:Array Bool}
end
theorem Qe {P:Program} {n:Nat} {env:List (Nat×Value)} {w0:Bs} {Rs:List Res} {Q:Exit→Act→World→Prop} {K:Act→World→Prop} {o:Oper} {x y:Operand} {T U s bytes k B0 m d nn:Nat} {z v v2:Value} {xs news:List Value} (ho:o.op= .call {callee:= .builtin .append,args:= #[x,y],argTypes:= #[T,T]}) (hT:TyL P T U s) (hZ:TyZ P U s bytes z) (hs0:0<s) (hd:o.dst=some d) (hn:d<n)
  (hx:ev env x=some v) (hy:ev env y=some v2) (hk:Rs[k]? =some (.row B0 U s v nn xs)) (hsrc:∀w,St w0 Rs w→Src s v2 m news w) (h1:∀u∈news,u.oneCell'=true)
  (h63:nn+m≤maxLen) (hbytes: (nn+m) *bytes≤140737488355328) (hB:B0≤w0.N)
  (h:∀r:Option Addr×Nat,At n ((d, .slice r.1 (nn+m) r.2) ::env) w0 (Rs.set k (.row B0 U s (.slice r.1 (nn+m) r.2) (nn+m) (xs++news))) K) :At n env w0 Rs (fun a w=>o.wp P a w K Q) :=
 xC ho hT hZ hs0 hd hn hx hy hk hsrc h1 h63 hbytes hB fun v'=>Kh (X:=∃r:Option Addr×Nat,v'= .slice r.1 (nn+m) r.2) (fun w hs=>by
  have hkl:k<Rs.length:= (List.getElem?_eq_some_iff.1 hk).1
  exact Yl (hs.all k _ (by rw [List.getElem?_set,if_pos rfl,if_pos hkl])).1) (by rintro⟨r,rfl⟩;exact h r)
section
variable {P:Program} {n:Nat} {env:List (Nat×Value)} {w0:Bs} {Rs:List Res} {ops:Array Oper} {Q:Exit→Act→World→Prop} {K:Act→World→Prop}
theorem Xi {x y:Code} {X:Type} (H:X→Prop) (E:X→List (Nat×Value)) {C:List (Nat×Value)} (hC:sub env C) (Rs':X→List Res) (h1:∀L:Act→World→Prop,(∀x,H x→At n (E x++C) w0 (Rs' x) L)→At n env w0 Rs (fun a w=>x.wp P (Exit.then L Q) a w))
  (h2:∀x,H x→At n (E x++C) w0 (Rs' x) (fun a w=>y.wp P Q a w)) :At n env w0 Rs (fun a w=> (Code.seq x y).wp P Q a w) :=je (h1 _ h2)
theorem Vy {X:Type} {H:X→Prop} {E:X→List (Nat×Value)} {C:List (Nat×Value)} {Rs':X→List Res} (hL:∀x,H x→At n (E x++C) w0 (Rs' x) K) (x:X) (hx:H x) (he:sub env (E x++C)) (hr:∀w,St w0 Rs w→St w0 (Rs' x) w) :At n env w0 Rs K:=Xh he hr (hL x hx)
theorem St.picks {w:World} (l:List Nat) (h:St w0 Rs w) (hn:l.Nodup) :St w0 (l.filterMap (Rs[·]?)) w:=by
 have key:∀(l:List Nat),l.Nodup→∃f:Nat→Nat,(∀i j,i< (l.filterMap (Rs[·]?)).length→j< (l.filterMap (Rs[·]?)).length→f i=f j→i=j)∧(∀i,i< (l.filterMap (Rs[·]?)).length→Rs[f i]? = (l.filterMap (Rs[·]?))[i]?)∧∀i,i< (l.filterMap (Rs[·]?)).length→f i∈l:=by
  intro l
  induction l with
  | nil=>exact fun _=>⟨id,fun i j hi=>absurd hi (by simp),fun i hi=>absurd hi (by simp),fun i hi=>absurd hi (by simp)⟩
  | cons a l ih=>
   intro hn
   obtain ⟨hna,hnl⟩ :=List.nodup_cons.1 hn
   obtain ⟨f,h1,h2,h3⟩ :=ih hnl
   cases ha:Rs[a]? with
   | none=>
    have e: (a::l).filterMap (Rs[·]?) =l.filterMap (Rs[·]?) :=by simp [List.filterMap_cons,ha]
    rw [e]
    exact⟨f,h1,h2,fun i hi=>D2 _ (h3 i hi)⟩
   | some r=>
    have e: (a::l).filterMap (Rs[·]?) =r::l.filterMap (Rs[·]?) :=by simp [List.filterMap_cons,ha]
    rw [e]
    refine⟨fun i=>match i with | 0=>a | i+1=>f i,fun i j hi hj hij=> ?_,fun i hi=> ?_,fun i hi=> ?_⟩
    ·match i,j with
     | 0,0=>rfl
     | 0,j+1=>have e:a=f j:=hij;exact absurd (e.symm▸h3 j (by simpa using hj)) hna
     | i+1,0=>have e:f i=a:=hij;exact absurd (e▸h3 i (by simpa using hi)) hna
     | i+1,j+1=>rw [h1 i j (by simpa using hi) (by simpa using hj) hij]
    ·match i with
     | 0=>simpa using ha
     | i+1=>simpa using h2 i (by simpa using hi)
    ·match i with
     | 0=>exact D3
     | i+1=>exact D2 _ (h3 i (by simpa using hi))
 obtain ⟨f,h1,h2,_⟩ :=key l hn
 exact h.sel f h1 h2
end
end Go.Proofs.Ytpncbbcmoiiipaa
