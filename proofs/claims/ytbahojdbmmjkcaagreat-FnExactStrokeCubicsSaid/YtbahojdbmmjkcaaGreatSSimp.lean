import Derived.Test.YtbahojdbmmjkcaaGreatSSnapped
import Derived.ArgAppend
set_option linter.unusedVariables false
set_option linter.unusedSimpArgs false
namespace Go.Proofs.YtbahojdbmmjkcaaGreat
open Go Go.RowKit
variable {k n:Nat} {vs:List Value} {w:World} {xs:List (Int×Int)}
section
variable {P:Program} {n:Nat} {env:List (Nat×Value)} {w0:Bs} {Rs:List Res} {ops:Array Oper} {Q:Exit→Act→World→Prop} {K:Act→World→Prop} {o:Oper}
theorem Ts {x:Operand} {T U s bytes b off m c U':Nat} {z:Value} {cs zs:List Value} (ho:o.op= .call {callee:= .builtin .clear,args:= #[x],argTypes:= #[T]}) (hT:TyL P T U s) (hZ:TyZ P U s bytes z) (hd:o.dst=none) (hx:ev env x=some (.slice (some ⟨b,off,none⟩) m c)) (hm:0<m) (hk:Rs[k]? =some (.cel b U' cs)) (hzs: (Builtin.zeroCells z.cells m).toList=zs) (h1:zs.all (·.oneCell') =true) (hfit:off+zs.length≤cs.length) (h:At n env w0 (Rs.set k (.cel b U' (qL cs off zs))) K) :At n env w0 Rs (fun a w=>o.wp P a w K Q) :=fun a w hf hs=>by
 have hh:=hs.cel hk
 have hst:=Wu (P:=P) zs off 0 cs w hh Om h1
 obtain ⟨m',rfl⟩ :∃m',m=m'+1:=⟨m- 1,by omega⟩
 have hcl: (Builtin.clear_ #[T] o.type #[.slice (some ⟨b,off,none⟩) (m'+1) c]).run P w= .ok (.tuple #[]) (w.setRow b (qL cs off zs).toArray) :=by
  simp [Builtin.clear_,run_underlying hT.desc,hZ.run,hzs,hst]
 have hrun: (execOp a.eval o).run P w= .ok (.value (.tuple #[])) (w.setRow b (qL cs off zs).toArray) :=by
  unfold execOp
  simp only [ho,resolve,invoke,builtin,Sem.run_bind,Sem.run_pure,Result.andThen_ok,jix,jiv,jiF,hf.ev hx,hcl]
 show o.upon P a K Q ((execOp a.eval o).run P w)
 rw [hrun,Oper.upon_value,hd]
 exact h _ _ hf (hs.store hk)
end
theorem Bg :∀ {cs:List Value} {off:Nat} (j:Nat),off+vs.length≤cs.length→(qL cs off vs)[j]? =if off≤j∧j<off+vs.length then vs[j- off]? else cs[j]? :=by
 induction vs with
 | nil=>intro cs off j _;rw [qL,if_neg (by simp only [jiw];omega)]
 | cons v r ih=>
  intro cs off j hl
  simp only [jij] at hl
  rw [qL,ih (cs:=cs.set off v) (off:=off+1) j (by simp;omega)]
  simp only [jij]
  by_cases h1:off+1≤j∧j<off+1+r.length
  ·rw [if_pos h1,if_pos Om,show j- off= (j- (off+1)) +1 by omega]
   simp
  ·rw [if_neg h1]
   by_cases h2:j=off
   ·subst h2
    rw [if_pos Om,List.getElem?_set_self Om]
    simp
   ·rw [if_neg Om,List.getElem?_set_ne Om]
theorem TB (xs:List (Int×Int)) (j:Nat) (h:j<xs.length*2) : (xs.flatMap jV)[j]? = (jV (xs[j/2]'(by omega)))[j % 2]? :=by
 have:=G1 xs (j/2) (j % 2) Om Om
 rwa [show j/2*2+j % 2=j by omega] at this
theorem Br (xs:List (Int×Int)) (k:Nat) : (xs.flatMap jV).take (k*2) = (xs.take k).flatMap jV:=by
 induction xs generalizing k with
 | nil=>simp
 | cons a r ih=>
  match k with
  | 0=>simp
  | k+1=>
   rw [jiA,List.take_succ_cons,jiA,show(k+1) *2= (jV a).length+k*2 by simp [jV];omega,List.take_length_add_append,ih]
theorem Nw (xs:List (Int×Int)) (k:Nat) : (xs.flatMap jV).drop (k*2) = (xs.drop k).flatMap jV:=by
 induction xs generalizing k with
 | nil=>simp
 | cons a r ih=>
  match k with
  | 0=>simp
  | k+1=>
   rw [jiA,List.drop_succ_cons,show(k+1) *2= (jV a).length+k*2 by simp [jV];omega,List.drop_length_add_append,ih]
def YN (o l m s:Nat) :Nat:=if m=l then o else o+l*s
theorem uY {b o l h m s:Nat} (_hm:h≤m) (_hl:l≤h) :sliced (some ⟨b,o,none⟩) l h m s= .slice (some ⟨b,YN o l m s,none⟩) (h- l) (m- l) :=by
 unfold sliced YN
 split
 ·rfl
 ·simp [Q1]
def pt (xs:List (Int×Int)) (k:Nat) :Pn:= (px xs k,py xs k)
theorem jeZ (hl:xs.length=n) (k:Nat) : ((k:Int) +1).tmod (n:Int) = ((nx xs k:Nat) :Int) :=by
 rw [Int.tmod_eq_emod_of_nonneg Om]
 exact Pi hl k
def okPts (xs:List (Int×Int)) :Prop:=xs.length≤401∧∀p∈xs,bd2 p
theorem okPts.at_ (h:okPts xs) (hk:k<xs.length) :bd2 (pt xs k) :=by
 have:=h.2 xs[k] (jir hk)
 rwa [U5 hk] at this
theorem okPts.of (h:q6 xs=true) :okPts xs:=by
 have h1:=Qz h
 refine⟨by omega,fun p hp=> ?_⟩
 simp only [q6,jig,QJ,jjo] at h
 have:=h.2 p hp
 simp [wX,Yt] at this
 exact⟨⟨by omega,by omega⟩,by omega,by omega⟩
theorem XZ {b o c:Nat} (h:Pts w (some ⟨b,o,none⟩) n xs) (hk:k≤n) :Src 2 (.slice (some ⟨b,o,none⟩) k c) k ((xs.take k).flatMap jV) w:=by
 have hl:=h.1
 refine⟨by rw [qV,jim];omega, .inr ⟨_,c,J,fun j u hu=> ?_⟩⟩
 by_cases h0:0<n
 ·have hs:=Bh (c:=c) h h0
  rcases hs.src with⟨e,_⟩ |⟨ad,c',e,hn⟩
  ·cases e
  ·injection e with e1 e2 e3
   injection e1 with e1
   subst e1
   refine hn j u ?_
   rw [←Br,List.getElem?_take] at hu
   split at hu
   ·exact hu
   ·cases hu
 ·obtain rfl:xs= [] :=jiE Om
  simp at hu
theorem jfj {b o c:Nat} (h:Pts w (some ⟨b,o,none⟩) n xs) (hk:k≤n) (hc:n≤c) :Src 2 (.slice (some ⟨b,YN o k c 2,none⟩) (n- k) (c- k)) (n- k) ((xs.drop k).flatMap jV) w:=by
 have hl:=h.1
 refine⟨by rw [qV,jiy,hl], .inr ⟨_,_,J,fun j u hu=> ?_⟩⟩
 have hj:= (List.getElem?_eq_some_iff.1 hu).1
 rw [qV,jiy] at hj
 have hs:=Bh (c:=c) h Om
 rcases hs.src with⟨e,_⟩ |⟨ad,c',e,hn⟩
 ·cases e
 ·injection e with e1 e2 e3
  injection e1 with e1
  subst e1
  rw [←Nw,List.getElem?_drop] at hu
  have:=hn _ u hu
  rw [Q1] at this⊢
  rw [YN,if_neg Om]
  rw [←this]
  congr 2
  omega
end Go.Proofs.YtbahojdbmmjkcaaGreat
