import Derived.Test.YtpncbbcmoiiipaaMSy
import Derived.Maps.AppendAt
set_option linter.unusedVariables false
set_option linter.unusedSimpArgs false
namespace Go.Proofs.Ytpncbbcmoiiipaa
open Go Go.RowKit
theorem TyZ.szx {P:Program} {T:TypeId} {m k:Nat} {z:Value} (h:TyZ P T m k z) : (P.info? T).map (·.size) =some m:=by
 obtain ⟨i,hi,_,hs,_⟩ :=h.info
 simp [hi,hs]
theorem UM (place:Nat→Option (Nat×Nat)) :∀(l:List (Nat×Value)) (cells:Array Value),Instr.fill place cells l=Instr.fill place cells (l.map fun p=> (p.1,Value.agg p.2.cells))
 | [],_=>rfl
 | (i,v) ::r,cells=>by
  simp only [Fb,Instr.fill]
  have e: (Value.agg v.cells).cells=v.cells:=rfl
  rw [e]
  split
  ·rfl
  ·split
   ·rfl
   ·exact UM place r _
theorem QY (t:TypeId) (parts:Array (Nat×Value)) :Instr.build t parts=Instr.build t (parts.map fun p=> (p.1,Value.agg p.2.cells)) :=by
 unfold Instr.build
 simp only [UM _ parts.toList,Array.toList_map]
theorem QA (t:TypeId) (m:Nat) (parts:Array (Nat×Value)) :Instr.buildSlice t m parts=Instr.buildSlice t m (parts.map fun p=> (p.1,Value.agg p.2.cells)) :=by
 unfold Instr.buildSlice
 simp only [UM _ parts.toList,Array.toList_map]
section
variable {P:Program} {n:Nat} {env:List (Nat×Value)} {w0:Bs} {Rs:List Res} {ops:Array Oper} {Q:Exit→Act→World→Prop} {K:Act→World→Prop} {o:Oper}
theorem JF {id:Nat} (h:At n env w0 Rs (fun a w=>Q .ret a w)) :At n env w0 Rs (fun a w=>Exit.inBlock id Q .ret a w) :=h
theorem jH {K':Act→World→Prop} (h:At n env w0 Rs (fun a w=>Q .ret a w)) :At n env w0 Rs (fun a w=>Exit.then K' Q .ret a w) :=h
inductive RV (P:Program) (env:List (Nat×Value)) (w0:Bs) (Rs:List Res) :ResultVar→Value→Prop
 | tmp {t:Nat} {v:Value} :kt env t=some v→RV P env w0 Rs (.tmp t) v
 | cell {t:Nat} {T:TypeId} {p:Addr} {v:Value} :kt env t=some (.pointer (some p))→(∀w,St w0 Rs w→(loadVar T p).run P w= .ok v w)→RV P env w0 Rs (.cell t T) v
def XR (ts:Array Value) :ResultVar→Sem Value
 | .tmp t=>pure (ts.getD t undef)
 | .cell p T=>do loadVar T (←asAddr (ts.getD p undef))
theorem wW (fn:Func) (ts:Array Value) :results fn ts= (do let vs←fn.results.mapM (XR ts);pure (if h:vs.size=1 then vs[0] else .tuple vs)) :=rfl
theorem RV.run {rv:ResultVar} {v:Value} (h:RV P env w0 Rs rv v) {a:Act} {w:World} (hf:Frm n env a) (hs:St w0 Rs w) : (XR a.tmps rv).run P w= .ok v w:=by
 cases h with
 | tmp h1=>simp only [XR,hf.get _ _ h1,Sem.run_pure]
 | cell h1 h2=>simp only [XR,hf.get _ _ h1,asAddr,Sem.run_bind,Sem.run_pure,Result.andThen_ok,h2 w hs]
theorem qO {t k b T U m:Nat} {cs:List Value} (hp:kt env t=some (.pointer (some ⟨b,0,none⟩))) (hT:TyS P T m) (hk:Rs[k]? =some (.cel b U cs)) (hl:cs.length=m) :RV P env w0 Rs (.cell t T) (.agg cs.toArray) :=
 .cell hp fun w hs=>by
  obtain ⟨d,h1,h2⟩ :=hT.flat
  exact Yn h1 h2 hT.size hl (jO hk w hs)
theorem jG {fn:Func} {R:Ending→World→Prop} {r1:ResultVar} {v1:Value} (hr:fn.results= #[r1]) (h1:RV P env w0 Rs r1 v1) (h:∀w,St w0 Rs w→R (.returned v1) w) :At n env w0 Rs (fun a w=>bodyPost P fn R .ret a w) :=fun a w hf hs=>by
 refine bodyPost_ret (v:=v1) ?_ hf.defers (h w hs)
 rw [wW,hr]
 have e1:=h1.run hf hs
 simp [List.mapM_toArray,Sem.run_bind,e1]
theorem qS {fn:Func} {R:Ending→World→Prop} {r1 r2:ResultVar} {v1 v2:Value} (hr:fn.results= #[r1,r2]) (h1:RV P env w0 Rs r1 v1) (h2:RV P env w0 Rs r2 v2) (h:∀w,St w0 Rs w→R (.returned (.tuple #[v1,v2])) w) :At n env w0 Rs (fun a w=>bodyPost P fn R .ret a w) :=fun a w hf hs=>by
 refine bodyPost_ret (v:= .tuple #[v1,v2]) ?_ hf.defers (h w hs)
 rw [wW,hr]
 have e1:=h1.run hf hs
 have e2:=h2.run hf hs
 simp [e1,e2]
theorem Ud {fn:Func} {R:Ending→World→Prop} {r1 r2 r3:ResultVar} {v1 v2 v3:Value} (hr:fn.results= #[r1,r2,r3]) (h1:RV P env w0 Rs r1 v1) (h2:RV P env w0 Rs r2 v2) (h3:RV P env w0 Rs r3 v3) (h:∀w,St w0 Rs w→R (.returned (.tuple #[v1,v2,v3])) w) :
  At n env w0 Rs (fun a w=>bodyPost P fn R .ret a w) :=fun a w hf hs=>by
 refine bodyPost_ret (v:= .tuple #[v1,v2,v3]) ?_ hf.defers (h w hs)
 rw [wW,hr]
 have e1:=h1.run hf hs
 have e2:=h2.run hf hs
 have e3:=h3.run hf hs
 simp [e1,e2,e3]
theorem YF {fn:Func} {R:Ending→World→Prop} (hr:fn.results= #[]) (h:∀w,St w0 Rs w→R (.returned (.tuple #[])) w) :At n env w0 Rs (fun a w=>bodyPost P fn R .ret a w) :=fun a w hf hs=>
 bodyPost_ret (results_none hr _ _ _) hf.defers (h w hs)
theorem kQ {fn:Func} {R:Ending→World→Prop} (hr:fn.results= #[]) (h:∀w,St w0 Rs w→R (.returned (.tuple #[])) w) :At n env w0 Rs (fun a w=>bodyPost P fn R .normal a w) :=fun a w hf hs=>
 bodyPost_end (results_none hr _ _ _) hf.defers (h w hs)
variable {Rs0:List Res} {fuel:Nat} {listed:Array Bool}
theorem zv {j dj:Nat} {b:Bool} {oj:Oper} {a:Act} (hf:Frm n env a) (hj:ops[j]? =some oj) (hdj:oj.dst=some dj) (hb:kt env dj=some (.bool b)) :yielded ops a.tmps j=some b:=by
 have:=hf.get _ _ hb
 simp only [yielded,hj,hdj,Option.bind_some]
 rw [Array.getD_eq_getD_getElem?] at this
 cases h':a.tmps[dj]? with
 | none=>rw [h'] at this;simp [undef] at this
 | some u=>rw [h'] at this;simp at this;subst this;simp
theorem qo (hsub:∀w,St w0 Rs w→St w0 Rs0 w) (h:At n env w0 Rs K) :At n env w0 Rs (fun a w=>St w0 Rs0 w∧K a w) :=fun a w hf hs=>⟨hsub w hs,h a w hf hs⟩
theorem St.add' {w:World} {r:Res} (h:St w0 Rs w) (hP:r.P w) (hlow:∀b,r.F b→w0.mine b) (hap:∀(i:Nat) (s:Res),Rs[i]? =some s→∀b,r.F b→¬s.F b) (hB:r.B=0) :St w0 (Rs++ [r]) w:=by
 have hget:∀(i:Nat) (s:Res),(Rs++ [r])[i]? =some s→(i=Rs.length∧s=r)∨(i≠Rs.length∧Rs[i]? =some s) :=by
  intro i s hi
  rcases FI i Rs.length with hlt | hge
  ·rw [List.getElem?_append_left hlt] at hi
   exact .inr ⟨by omega,hi⟩
  ·rw [List.getElem?_append_right hge] at hi
   have:i- Rs.length=0:=by
    rcases FI 0 (i- Rs.length) with h0 | h0
    ·rw [List.getElem?_eq_none (by simp only [List.length_singleton];omega)] at hi;cases hi
    ·omega
   rw [this] at hi
   exact .inl ⟨by omega,by simpa using hi.symm⟩
 refine⟨h.over,fun i s hi=> ?_,fun i j s t hij hi hj b hs ht=> ?_⟩
 ·rcases hget i s hi with⟨_,rfl⟩ |⟨_,hi'⟩
  ·exact⟨hP,hlow,by rw [hB];exact DQ _,fun _ _=>by rw [hB];exact DQ _⟩
  ·exact h.all i s hi'
 ·rcases hget i s hi with⟨e1,rfl⟩ |⟨_,hi'⟩
  ·rcases hget j t hj with⟨e2,rfl⟩ |⟨_,hj'⟩
   ·exact hij (e1.trans e2.symm)
   ·exact hap j t hj' b hs ht
  ·rcases hget j t hj with⟨_,rfl⟩ |⟨_,hj'⟩
   ·exact hap i s hi' b ht hs
   ·exact h.apart i j s t hij hi' hj' b hs ht
theorem Ki {T s:Nat} (h:At n env w0 (Rs++ [.row w0.N T s (.slice none 0 0) 0 []]) K) :At n env w0 Rs K:=fun a w hf hs=>
 h a w hf (hs.add (Over.refl _) (World.ownsRow_nil _ _ _ _) (fun b hb=>by simp [Res.row,Value.ownBlock] at hb) ⟨DQ _,fun _ _=>DQ _⟩)
theorem GH {x y:Operand} {T U s bytes k B0 m c d nn:Nat} {z v:Value} {ad:Addr} {xs news:List Value} (ho:o.op= .call {callee:= .builtin .append,args:= #[x,y],argTypes:= #[T,T]}) (hT:TyL P T U s) (hZ:TyZ P U s bytes z) (hs0:0<s) (hd:o.dst=some d) (hn:d<n)
  (hx:ev env x=some v) (hy:ev env y=some (.slice (some ad) m c)) (hk:Rs[k]? =some (.row B0 U s v nn xs)) (hl:news.length=m*s) (hnews:∀w,St w0 Rs w→∀j u,news[j]? =some u→w.cell? (ad.add j) =some u) (h1:∀u∈news,u.oneCell'=true)
  (h63:nn+m≤maxLen) (hbytes: (nn+m) *bytes≤140737488355328) (hB:B0≤w0.N)
  (h:∀v',At n ((d,v') ::env) w0 (Rs.set k (.row B0 U s v' (nn+m) (xs++news))) K) :At n env w0 Rs (fun a w=>o.wp P a w K Q) :=fun a w hf hs=>by
 obtain ⟨i,hi,hz0,hz1,hz2⟩ :=hZ.info
 have hown:w.ownsRow B0 U s v nn xs:= (hs.all k _ hk).1
 obtain ⟨v',w',hr,h2,h3,_,h5⟩ :=run_append_own_at (P:=P) w B0 T o.type U i z s bytes hT.desc hi hz0 hz1 hz2 hZ.cells hs0 v nn xs hown ad m c news hl (hnews w hs) h1 h63 hbytes (FE hB hs.over.size)
 have hrun: (execOp a.eval o).run P w= .ok (.value v') w':=by
  unfold execOp
  simp only [ho,resolve,invoke,builtin,Sem.run_bind,Sem.run_pure,Result.andThen_ok,Fh,Fb,Ft,hf.ev hx,hf.ev hy,hr]
 show o.upon P a K Q ((execOp a.eval o).run P w)
 rw [hrun,Oper.upon_value,hd]
 refine h v' _ w' (hf.put hn v') ?_
 have hlow:= (hs.all k _ hk).2.1
 refine hs.upd hk ⟨h3.os.trans hs.over.os,h3.tape.trans hs.over.tape,h3.output.trans hs.over.output,FE hs.over.size h3.size,fun c hc hx=> ?_⟩ h3.size (fun b hb hne=>h3.block b hb (fun e=>hne e.symm)) h2 (fun b hb=> ?_) J
 ·rw [h3.block c (DS hc hs.over.size) (fun e=> (hlow c e.symm).elim (fun h1=>by omega) (fun h1=>hx h1))]
  exact hs.over.block c hc hx
 rcases h5 with h5 | h5
 ·left
  have hb':v'.ownBlock=some b:=hb
  rw [h5] at hb'
  exact hb'
 ·right
  have hb':v'.ownBlock=some b:=hb
  rw [h5] at hb'
  injection hb' with hb'
  omega
end
end Go.Proofs.Ytpncbbcmoiiipaa
