import Derived.Test.YtjbahemkhphndaaGreatNSnapped
import Derived.ArgAppend
set_option linter.unusedVariables false
set_option linter.unusedSimpArgs false
namespace Go.Proofs.YtjbahemkhphndaaGreat
open Go Go.RowKit
variable{k n:Nat}{vs:List Value}{w:World}{xs:List (Int×Int)}
section
variable{P:Program}{n:Nat}{env:List (Nat×Value)}{w0:Bs}{Rs:List Res}{ops:Array Oper}{Q:Exit->Act->World->Prop}{K:Act->World->Prop}{o:Oper}
theorem Ph{x:Operand}{T U s bytes b off m c U':Nat}{z:Value}{cs zs:List Value}(ho:o.op=.call {callee:=.builtin .clear,args:=#[x],argTypes:=#[T]})(hT:TyL P T U s)(hZ:TyZ P U s bytes z)(hd:o.dst=none)(hx:ev env x=some (.slice (some ⟨b,off,none⟩) m c))(hm:0<m)(hk:Rs[k]? =some (.cel b U' cs))(hzs:(Builtin.zeroCells z.cells m).toList=zs)(h1:zs.all (·.oneCell')=true)(hfit:off+zs.length<=cs.length)(h:At n env w0 (Rs.set k (.cel b U' (qV cs off zs))) K):At n env w0 Rs (λa w=>o.wp P a w K Q):=λa w hf hs=>by
 have hh:=hs.cel hk;have hst:=uh (P:=P) zs off 0 cs w hh Om h1
 obtain⟨m',rfl⟩:∃m',m=m'+1:=⟨m-1,by omega⟩;have hcl:(Builtin.clear_ #[T] o.type #[.slice (some ⟨b,off,none⟩) (m'+1) c]).run P w=.ok (.tuple #[]) (w.setRow b (qV cs off zs).toArray):=by
  simp[Builtin.clear_,run_underlying hT.desc,hZ.run,hzs,hst]
 have hrun:(execOp a.eval o).run P w=.ok (.value (.tuple #[])) (w.setRow b (qV cs off zs).toArray):=by
  unfold execOp;simp only[ho,resolve,invoke,builtin,Sem.run_bind,Sem.run_pure,Result.andThen_ok,jny,jmA,jnB,hf.ev hx,hcl]
 show o.upon P a K Q ((execOp a.eval o).run P w);rw[hrun,Oper.upon_value,hd];exact h _ _ hf (hs.store hk)
end
theorem DH :∀{cs:List Value} {off:Nat} (j:Nat),off+vs.length<=cs.length->(qV cs off vs)[j]? =if off<=j/\j<off+vs.length then vs[j-off]? else cs[j]? :=by
 induction vs with
 |nil=>intro cs off j _;rw[qV,if_neg (by simp only[jl5];omega)]
 |cons v r ih=>
  intro cs off j hl;simp only[jlS] at hl;rw[qV,ih (cs:=cs.set off v) (off:=off+1) j (by simp;omega)];simp only[jlS];by_cases h1:off+1<=j/\j<off+1+r.length
  .rw[if_pos h1,if_pos Om,show j-off=(j-(off+1))+1 by omega];simp
  .rw[if_neg h1];by_cases h2:j=off
   .subst h2;rw[if_pos Om,List.getElem?_set_self Om];simp
   .rw[if_neg Om,List.getElem?_set_ne Om]
theorem Py(xs:List (Int×Int))(j:Nat)(h:j<xs.length*2):(xs.flatMap Jt)[j]? =(Jt (xs[j/2]'(by omega)))[j % 2]? :=by
 have:=Gi xs (j/2) (j % 2) Om Om
 rwa [show j/2*2+j % 2=j by omega] at this
theorem Ex(xs:List (Int×Int))(k:Nat):(xs.flatMap Jt).take (k*2)=(xs.take k).flatMap Jt:=by
 induction xs generalizing k with
 |nil=>simp
 |cons a r ih=>
  match k with
  |0=>simp
  |k+1=>
   rw[jl4,List.take_succ_cons,jl4,show(k+1)*2=(Jt a).length+k*2 by simp[Jt];omega,List.take_length_add_append,ih]
theorem Cv(xs:List (Int×Int))(k:Nat):(xs.flatMap Jt).drop (k*2)=(xs.drop k).flatMap Jt:=by
 induction xs generalizing k with
 |nil=>simp
 |cons a r ih=>
  match k with
  |0=>simp
  |k+1=>
   rw[jl4,List.drop_succ_cons,show(k+1)*2=(Jt a).length+k*2 by simp[Jt];omega,List.drop_length_add_append,ih]
def ZG(o l m s:Nat):Nat:=if m=l then o else o+l*s
theorem U0{b o l h m s:Nat}(_hm:h<=m)(_hl:l<=h):sliced (some ⟨b,o,none⟩) l h m s=.slice (some ⟨b,ZG o l m s,none⟩) (h-l) (m-l):=by
 unfold sliced ZG;split
 .rfl
 .simp[kq]
def pt(xs:List (Int×Int))(k:Nat):Pn:=(px xs k,py xs k)
def pv(xs:List (Int×Int))(k:Nat):Nat:=(k+xs.length-1) % xs.length
theorem jhT(hl:xs.length=n)(k:Nat):((k:Int)+1).tmod (n:Int)=((nx xs k:Nat):Int):=by
 rw[Int.tmod_eq_emod_of_nonneg Om];exact Sf hl k
def okPts(xs:List (Int×Int)):Prop:=xs.length<=401/\∀p∈xs,bd2 p
theorem okPts.at_(h:okPts xs)(hk:k<xs.length):bd2 (pt xs k):=by
 have:=h.2 xs[k] (jlY hk)
 rwa [YB hk] at this
theorem okPts.erase(h:okPts xs)(k:Nat):okPts (xs.eraseIdx k):=
 ⟨jmC (List.length_eraseIdx_le _ _) h.1,λp hp=>h.2 p (List.mem_of_mem_eraseIdx hp)⟩
theorem okPts.of(h:qM xs=true):okPts xs:=by
 have h1:=Qj h;refine⟨by omega,λp hp=>?_⟩;simp only[qM,jlK,WY,jm4] at h;have:=h.2 p hp
 simp[WT,X2] at this;exact⟨⟨by omega,by omega⟩,by omega,by omega⟩
theorem SK{b o c:Nat}(h:Pts w (some ⟨b,o,none⟩) n xs)(hk:k<=n):Src 2 (.slice (some ⟨b,o,none⟩) k c) k ((xs.take k).flatMap Jt) w:=by
 have hl:=h.1;refine⟨by rw[Qk,jl3];omega,.inr ⟨_,c,J,λj u hu=>?_⟩⟩;by_cases h0:0<n
 .have hs:=SJ (c:=c) h h0;rcases hs.src with⟨e,_⟩|⟨ad,c',e,hn⟩
  .cases e
  .injection e with e1 e2 e3
   injection e1 with e1
   subst e1;refine hn j u ?_;rw[<-Ex,List.getElem?_take] at hu;split at hu
   .exact hu
   .cases hu
 .obtain rfl:xs=[]:=jmh Om;simp at hu
theorem jiw{b o c:Nat}(h:Pts w (some ⟨b,o,none⟩) n xs)(hk:k<=n)(hc:n<=c):Src 2 (.slice (some ⟨b,ZG o k c 2,none⟩) (n-k) (c-k)) (n-k) ((xs.drop k).flatMap Jt) w:=by
 have hl:=h.1;refine⟨by rw[Qk,jmb,hl],.inr ⟨_,_,J,λj u hu=>?_⟩⟩;have hj:=(List.getElem?_eq_some_iff.1 hu).1
 rw[Qk,jmb] at hj;have hs:=SJ (c:=c) h Om
 rcases hs.src with⟨e,_⟩|⟨ad,c',e,hn⟩
 .cases e
 .injection e with e1 e2 e3
  injection e1 with e1
  subst e1;rw[<-Cv,List.getElem?_drop] at hu;have:=hn _ u hu
  rw[kq] at this⊢;rw[ZG,if_neg Om];rw[<-this];congr 2;omega
end Go.Proofs.YtjbahemkhphndaaGreat
