import Derived.Test.YtbahojdbmmjkcaaGreatPSnapped
import Derived.ArgAppend
set_option linter.unusedVariables false
set_option linter.unusedSimpArgs false
namespace Go.Proofs.YtbahojdbmmjkcaaGreat
open Go Go.RowKit
variable {k n:Nat} {vs:List Value} {w:World} {xs:List (Int×Int)}
section
variable {P:Program} {n:Nat} {env:List (Nat×Value)} {w0:Bs} {Rs:List Res} {ops:Array Oper} {Q:Exit→Act→World→Prop} {K:Act→World→Prop} {o:Oper}
theorem RL {x:Operand} {T U s bytes b off m c U':Nat} {z:Value} {cs zs:List Value} (ho:o.op= .call {callee:= .builtin .clear,args:= #[x],argTypes:= #[T]}) (hT:TyL P T U s) (hZ:TyZ P U s bytes z) (hd:o.dst=none) (hx:ev env x=some (.slice (some ⟨b,off,none⟩) m c)) (hm:0<m) (hk:Rs[k]? =some (.cel b U' cs)) (hzs: (Builtin.zeroCells z.cells m).toList=zs) (h1:zs.all (·.oneCell') =true) (hfit:off+zs.length≤cs.length) (h:At n env w0 (Rs.set k (.cel b U' (qB cs off zs))) K) :At n env w0 Rs (fun a w=>o.wp P a w K Q) :=fun a w hf hs=>by
 have hh:=hs.cel hk
 have hst:=wY (P:=P) zs off 0 cs w hh Om h1
 obtain ⟨m',rfl⟩ :∃m',m=m'+1:=⟨m- 1,by omega⟩
 have hcl: (Builtin.clear_ #[T] o.type #[.slice (some ⟨b,off,none⟩) (m'+1) c]).run P w= .ok (.tuple #[]) (w.setRow b (qB cs off zs).toArray) :=by
  simp [Builtin.clear_,run_underlying hT.desc,hZ.run,hzs,hst]
 have hrun: (execOp a.eval o).run P w= .ok (.value (.tuple #[])) (w.setRow b (qB cs off zs).toArray) :=by
  unfold execOp
  simp only [ho,resolve,invoke,builtin,Sem.run_bind,Sem.run_pure,Result.andThen_ok,jgN,jgM,jgV,hf.ev hx,hcl]
 show o.upon P a K Q ((execOp a.eval o).run P w)
 rw [hrun,Oper.upon_value,hd]
 exact h _ _ hf (hs.store hk)
end
theorem MX :∀ {cs:List Value} {off:Nat} (j:Nat),off+vs.length≤cs.length→(qB cs off vs)[j]? =if off≤j∧j<off+vs.length then vs[j- off]? else cs[j]? :=by
 induction vs with
 | nil=>intro cs off j _;rw [qB,if_neg (by simp only [jgY];omega)]
 | cons v r ih=>
  intro cs off j hl
  simp only [jgD] at hl
  rw [qB,ih (cs:=cs.set off v) (off:=off+1) j (by simp;omega)]
  simp only [jgD]
  by_cases h1:off+1≤j∧j<off+1+r.length
  ·rw [if_pos h1,if_pos Om,show j- off= (j- (off+1)) +1 by omega]
   simp
  ·rw [if_neg h1]
   by_cases h2:j=off
   ·subst h2
    rw [if_pos Om,List.getElem?_set_self Om]
    simp
   ·rw [if_neg Om,List.getElem?_set_ne Om]
theorem RT (xs:List (Int×Int)) (j:Nat) (h:j<xs.length*2) : (xs.flatMap Ju)[j]? = (Ju (xs[j/2]'(by omega)))[j % 2]? :=by
 have:=Gg xs (j/2) (j % 2) Om Om
 rwa [show j/2*2+j % 2=j by omega] at this
theorem TJ (xs:List (Int×Int)) (k:Nat) : (xs.flatMap Ju).take (k*2) = (xs.take k).flatMap Ju:=by
 induction xs generalizing k with
 | nil=>simp
 | cons a r ih=>
  match k with
  | 0=>simp
  | k+1=>
   rw [jgU,List.take_succ_cons,jgU,show(k+1) *2= (Ju a).length+k*2 by simp [Ju];omega,List.take_length_add_append,ih]
theorem SH (xs:List (Int×Int)) (k:Nat) : (xs.flatMap Ju).drop (k*2) = (xs.drop k).flatMap Ju:=by
 induction xs generalizing k with
 | nil=>simp
 | cons a r ih=>
  match k with
  | 0=>simp
  | k+1=>
   rw [jgU,List.drop_succ_cons,show(k+1) *2= (Ju a).length+k*2 by simp [Ju];omega,List.drop_length_add_append,ih]
def Ys (o l m s:Nat) :Nat:=if m=l then o else o+l*s
theorem ut {b o l h m s:Nat} (_hm:h≤m) (_hl:l≤h) :sliced (some ⟨b,o,none⟩) l h m s= .slice (some ⟨b,Ys o l m s,none⟩) (h- l) (m- l) :=by
 unfold sliced Ys
 split
 ·rfl
 ·simp [QJ]
def pt (xs:List (Int×Int)) (k:Nat) :Pn:= (px xs k,py xs k)
theorem jdt (hl:xs.length=n) (k:Nat) : ((k:Int) +1).tmod (n:Int) = ((nx xs k:Nat) :Int) :=by
 rw [Int.tmod_eq_emod_of_nonneg Om]
 exact Fr hl k
def okPts (xs:List (Int×Int)) :Prop:=xs.length≤401∧∀p∈xs,bd2 p
theorem okPts.at_ (h:okPts xs) (hk:k<xs.length) :bd2 (pt xs k) :=by
 have:=h.2 xs[k] (jgH hk)
 rwa [yq hk] at this
theorem okPts.of (h:qG xs=true) :okPts xs:=by
 have h1:=qS h
 refine⟨by omega,fun p hp=> ?_⟩
 simp only [qG,jgy,uA,jhR] at h
 have:=h.2 p hp
 simp [wF,Z7] at this
 exact⟨⟨by omega,by omega⟩,by omega,by omega⟩
theorem FO {b o c:Nat} (h:Pts w (some ⟨b,o,none⟩) n xs) (hk:k≤n) :Src 2 (.slice (some ⟨b,o,none⟩) k c) k ((xs.take k).flatMap Ju) w:=by
 have hl:=h.1
 refine⟨by rw [q5,jgJ];omega, .inr ⟨_,c,J,fun j u hu=> ?_⟩⟩
 by_cases h0:0<n
 ·have hs:=MY (c:=c) h h0
  rcases hs.src with⟨e,_⟩ |⟨ad,c',e,hn⟩
  ·cases e
  ·injection e with e1 e2 e3
   injection e1 with e1
   subst e1
   refine hn j u ?_
   rw [←TJ,List.getElem?_take] at hu
   split at hu
   ·exact hu
   ·cases hu
 ·obtain rfl:xs= [] :=jgX Om
  simp at hu
theorem jdV {b o c:Nat} (h:Pts w (some ⟨b,o,none⟩) n xs) (hk:k≤n) (hc:n≤c) :Src 2 (.slice (some ⟨b,Ys o k c 2,none⟩) (n- k) (c- k)) (n- k) ((xs.drop k).flatMap Ju) w:=by
 have hl:=h.1
 refine⟨by rw [q5,jgQ,hl], .inr ⟨_,_,J,fun j u hu=> ?_⟩⟩
 have hj:= (List.getElem?_eq_some_iff.1 hu).1
 rw [q5,jgQ] at hj
 have hs:=MY (c:=c) h Om
 rcases hs.src with⟨e,_⟩ |⟨ad,c',e,hn⟩
 ·cases e
 ·injection e with e1 e2 e3
  injection e1 with e1
  subst e1
  rw [←SH,List.getElem?_drop] at hu
  have:=hn _ u hu
  rw [QJ] at this⊢
  rw [Ys,if_neg Om]
  rw [←this]
  congr 2
  omega
end Go.Proofs.YtbahojdbmmjkcaaGreat
