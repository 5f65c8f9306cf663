import Derived.Test.YtbahojdbmmjkcaaGreatMStabP
import Derived.Test.YtbahojdbmmjkcaaGreatMSimp
import Derived.Test.YtbahojdbmmjkcaaGreatMSd2
import Derived.Test.YtbahojdbmmjkcaaGreatMNums
set_option linter.unusedVariables false
set_option linter.unusedSimpArgs false
namespace Go.Proofs.YtbahojdbmmjkcaaGreat
open Go Go.RowKit
variable {T b i:Nat} {tl:List Value}
set_option maxRecDepth 100000
set_option maxHeartbeats 4000000
structure Wy where
 x:Int
 y:Int
 num:Int
 den:Int
 cl:Bool
 pos:0<den
def Wy.cells (e:Wy) :List Value:= [.int .i64 e.x, .int .i64 e.y, .int .i64 e.num, .int .i64 e.den, .bool e.cl]
abbrev Wy.val (e:Wy) :Value:= .agg #[.int .i64 e.x, .int .i64 e.y, .int .i64 e.num, .int .i64 e.den, .bool e.cl]
def un (ds:List Wy) (tl:List Value) :List Value:=ds.flatMap Wy.cells++tl
theorem G4 (ds:List Wy) : (ds.flatMap Wy.cells).length=ds.length*5:=by
 induction ds with
 | nil=>rfl
 | cons e l ih=>rw [jjH,jjk,ih,jjr];simp only [Wy.cells,jjr,jjK];omega
theorem yu (ds:List Wy) (tl:List Value) : (un ds tl).length=ds.length*5+tl.length:=by rw [un,jjk,G4]
theorem Rz (ds es:List Wy) (tl:List Value) :un (ds++es) tl=un ds (un es tl) :=by simp [un]
theorem jeD {ds:List Wy} {e:Wy} (h:ds[i]? =some e) {j:Nat} {v:Value} (hv:e.cells[j]? =some v) : (un ds tl)[i*5+j]? =some v:=by
 obtain ⟨hi,rfl⟩ :=List.getElem?_eq_some_iff.1 h
 have hj:j<5:=by have:= (List.getElem?_eq_some_iff.1 hv).1;simpa [Wy.cells] using this
 have e1:ds=ds.take i++ (ds[i] ::ds.drop (i+1)) :=by rw [←jj5 hi,jjA]
 have e2:un ds tl= (ds.take i).flatMap Wy.cells++ (ds[i].cells++un (ds.drop (i+1)) tl) :=by
  conv=>lhs;rw [e1]
  rw [Rz]
  simp only [un,jjH,jjq]
 rw [e2,List.getElem?_append_right (by rw [G4,jjC];omega),G4,jjC,show i*5+j- min i ds.length*5=j by omega,List.getElem?_append_left (by simpa [Wy.cells] using hj)]
 exact hv
theorem FO {ds:List Wy} (e:Wy) (hi:i<ds.length) :qP (un ds tl) (0+i*5) e.cells=un (ds.set i e) tl:=by
 have e1:ds=ds.take i++ (ds[i] ::ds.drop (i+1)) :=by rw [←jj5 hi,jjA]
 have e2:un ds tl= (ds.take i).flatMap Wy.cells++ds[i].cells++un (ds.drop (i+1)) tl:=by
  conv=>lhs;rw [e1]
  rw [Rz]
  simp only [un,jjH,jjq]
 have e3:un (ds.set i e) tl= (ds.take i).flatMap Wy.cells++e.cells++un (ds.drop (i+1)) tl:=by
  rw [List.set_eq_take_append_cons_drop,if_pos hi,Rz]
  simp only [un,jjH,jjq]
 have hlen: ((ds.take i).flatMap Wy.cells).length=0+i*5:=by rw [G4,jjC];omega
 rw [e2,e3,←hlen]
 exact yb e.cells _ ds[i].cells _ rfl
theorem MW {ds:List Wy} {j:Nat} {x y:Wy} (hx:ds[i]? =some x) (hy:ds[j]? =some y) :un (wn ds i j) tl=qP (qP (un ds tl) (0+i*5) y.cells) (0+j*5) x.cells:=by
 have hi:= (List.getElem?_eq_some_iff.1 hx).1
 have hj:= (List.getElem?_eq_some_iff.1 hy).1
 rw [FO y hi,FO x (by simpa using hj),vA hx hy]
section
variable {P:Program} {w0:Bs} {Rs:List Res}
theorem No {k off:Nat} {ds:List Wy} {e:Wy} (hk:Rs[k]? =some (.cel b T (un ds tl))) (hv:ds[i]? =some e) (he:off=0+i*5) :∀w,St w0 Rs w→∀j x,e.cells[j]? =some x→w.cell? ⟨b,off+j,none⟩ =some x:=fun w h j x hx=>by
 subst he
 rw [jjP,cell_of_row w b _ _ T (0,0) (h.cel hk)]
 have:=jeD (tl:=tl) hv hx
 simpa using this
end
theorem Y8 (b T:Nat) (tl:List Value) (cs:List Wy) (n c i j m:Nat) (fv:Value) (w:World) (hh:w.heap[b]? =some (.cells (un (cs) tl).toArray T (0,0))) (hl:n≤cs.length) (h1:i+m≤n) (h2:j+m≤n) (hn:n≤1099511627776) (hone:Up n (fun _:Wy=>True) cs) :
  Calls Tryz.prog 281 #[.slice (some ⟨b,0,none⟩) n c, .int .i64 (i:Int), .int .i64 (j:Int), .int .i64 (m:Int),fv] w fun e w'=>e= .returned (.tuple #[])∧Wr b w w'∧w'.heap[b]? =some (.cells (un (uh cs i j m) tl).toArray T (0,0)) :=by
 refine QX (m:=38) (Tryz.func281) J J (lb J) (hh) ?_;refine S5 ?_;refine JX (X:=Nat×List Wy) (fun x=>x.1≤m∧x.2=uh cs i j x.1) (fun x=>m- x.1) (fun x=> [(10, .int .i64 (x.1:Int))]) (kK [0,1,2,3]) (fun x=> [.cel b T (un x.2 tl)]) (0,cs) (⟨jjo _,J⟩) ⟨J,sz⟩ (fun _ h=>h) ?_
 intro⟨k,ds⟩ hx L hL1
 refine v9 ?_;refine r9 ?_
 have hk:k≤m:=hx.1
 have hds:ds=uh cs i j k:=hx.2
 have hlen:ds.length=cs.length:=by rw [hds,FU]
 refine S7 ?_;refine cZ (fun c1=> ?_) (fun c1=> ?_)
 ·have hlt:k<m:=Om
  obtain ⟨x,hx1⟩ :∃x,ds[i+k]? =some x:=⟨_,List.getElem?_eq_getElem Om⟩
  obtain ⟨y,hy1⟩ :∃y,ds[j+k]? =some y:=⟨_,List.getElem?_eq_getElem Om⟩
  have hxo: (Wy.cells x).all (·.oneCell') =true:=rfl
  have hyo: (Wy.cells y).all (·.oneCell') =true:=rfl
  refine S5 ?_;refine uZ 21 23 [0] ?_;refine k9 0 J [] (u9 J) q9 ?_;refine k9 1 J [] (u9 J) q9 ?_;refine k9 2 J [] (u9 J) q9 ?_;refine k9 3 J [] (u9 J) p9 ?_;refine Ve (i:=4) J Kr Kr Kr [] Kr (fun _ _ _ h=>h) J J Dc (u9 J) q9 q9 ?_;refine Ve (i:=5) J Kr Kr Kr [] Kr (fun _ _ _ h=>h) J J Dc (u9 J) q9 q9 ?_;refine Ve (i:=6) J Kr Kr Kr [] Kr (fun _ _ _ h=>h) J J Dc (u9 J) q9 q9 ?_;refine Ve (i:=7) J Kr Kr Kr [] Kr (fun _ _ _ h=>h) J J Dc (u9 J) p9 p9 ?_;refine k9 8 J [] (u9 J) q9 ?_;refine k9 9 J [] (u9 J) q9 ?_;refine k9 10 J [] (u9 J) q9 ?_;refine k9 11 J [] (u9 J) p9 ?_;refine k9 12 J [] (u9 J) (jV (j:=j+k) J J J JC Om) ?_;refine k9 13 J [] (u9 J) (jl J J qj J (No (k:=0) J hy1 Om)) ?_;refine k9 14 J [18,19] (u9 J) q9 ?_;refine k9 15 J [17,18,19] (u9 J) q9 ?_;refine k9 16 J [17,18,19] (u9 J) q9 ?_;refine k9 17 J [18,19] (u9 J) p9 ?_;refine k9 18 J [19] (u9 J) (jV (j:=i+k) J J J JC Om) ?_;refine k9 19 J [] (u9 J) (jl J J qj J (No (k:=0) J hx1 Om)) ?_;refine k9 20 J [] (u9 J) (jV (j:=i+k) J J J JC Om) ?_;refine Zc J Kr J ?_;refine qG (k:=0) J J J J J hyo Qc.szx J J (by rw [yu];simp [Wy.cells];omega) ?_;refine JN (uw [0] J) ?_;refine n9 ?_;refine dZ 22 J (jV (j:=j+k) J J J JC Om) ?_;refine KV J Kr J ?_;refine qG (k:=0) J J J J J hxo Qc.szx J J (by rw [kG,yu];simp [Wy.cells];omega) ?_;refine yB Kr ?_;refine S7 ?_
  exact Jq hL1 ((k+1,wn ds (i+k) (j+k))) (⟨show k+1≤m by omega,by rw [uh,←hds]⟩) (by simp only;omega) ⟨vi Om,sz⟩ (fun _ h=>h.upto ⟨congrArg (Res.cel b T) (MW hx1 hy1),trivial⟩)
 ·refine S4 ?_;refine ky J ?_
  intro w' hs
  have hkm:k=m:=Om
  subst hkm
  exact⟨rfl,hs.over.wr,hds▸hs.cel (k:=0) rfl⟩
theorem ja1 (b T:Nat) (tl:List Value) (A G R B:List Wy) (n c a m e_:Nat) (fv:Value) (w:World) (hh:w.heap[b]? =some (.cells (un (A++G++R++B) tl).toArray T (0,0))) (ha:A.length=a) (hm:a+G.length=m) (he:m+R.length=e_) (hG:0<G.length) (hR:0<R.length) (hen:e_≤n) (hl:n≤(A++G++R++B).length) (hn:n≤1099511627776) (hone:Up n (fun _:Wy=>True) (A++G++R++B)) :
  Calls Tryz.prog 275 #[.slice (some ⟨b,0,none⟩) n c, .int .i64 (a:Int), .int .i64 (m:Int), .int .i64 (e_:Int),fv] w fun e w'=>e= .returned (.tuple #[])∧Wr b w w'∧w'.heap[b]? =some (.cells (un (A++R++G++B) tl).toArray T (0,0)) :=by
 have hlt:n≤(A++R++G++B).length:=by simp at hl⊢;omega
 refine QX (m:=58) (Tryz.func275) J J (lb J) (hh) ?_;refine S16 ?_;refine JX (X:=Nat×Nat×List Wy) (fun x=>RotI (fun _:Wy=>True) (A++R++G++B) m n x.1 x.2.1 x.2.2) (fun x=>x.1+x.2.1) (fun x=> [(10, .int .i64 (x.1:Int)),(11, .int .i64 (x.2.1:Int))]) (kK [0,2,4]) (fun x=> [.cel b T (un x.2.2 tl)]) (G.length,R.length,A++G++R++B) (⟨⟨A,G,R,B,J,(by show A.length+G.length=m;omega),J,J,J⟩,hG,hR,(by show m+R.length≤n;omega),hone⟩) ⟨vi Om,vi (by show(e_:Int) - (m:Int) = ((R.length:Nat) :Int);omega),sz⟩ (fun _ h=>h) ?_
 intro⟨i,j,ds⟩ hx L hL1
 refine v9 ?_;refine r9 ?_
 have hx':RotI (fun _:Wy=>True) (A++R++G++B) m n i j ds:=hx
 have hlen:=hx'.len
 have hle:=hx'.le
 have hi0:=hx'.i0
 have hj0:=hx'.j0
 refine S7 ?_;refine cZ (fun c1=> ?_) (fun c1=> ?_)
 ·have hne:i≠j:=Om
  refine S9 ?_;refine cZ (fun c2=> ?_) (fun c2=> ?_)
  ·have hji:j<i:=Om
   refine S9 ?_;refine WZ 27 (.int .i64 ((m- i:Nat) :Int)) J (congrArg _ Om) ?_;refine S1 ?_;refine QH (k:=0) QE J J J Dc J (fun w1 h1=>Y8 b T tl ds n c (m- i) m j fv w1 (h1.cel (k:=0) J) Om Om Om hn hx'.one) ?_;refine N9 ?_
   exact Jq hL1 ((i- j,j,_)) (hx'.left hji) (by simp only;omega) ⟨vi Om,sz⟩ (u9 J)
  ·have hji:i<j:= (by simp at c2;omega)
   refine S13 ?_;refine WZ 38 (.int .i64 ((m- i:Nat) :Int)) J (congrArg _ Om) ?_;refine WZ 43 (.int .i64 ((m+j- i:Nat) :Int)) J (congrArg _ Om) ?_;refine S1 ?_;refine QH (k:=0) QE J J J Dc J (fun w1 h1=>Y8 b T tl ds n c (m- i) (m+j- i) i fv w1 (h1.cel (k:=0) J) Om Om Om hn hx'.one) ?_;refine N9 ?_
   exact Jq hL1 ((i,j- i,_)) (hx'.right hji) (by simp only;omega) ⟨J,vi (by show(j:Int) - (i:Int) = ((j- i:Nat) :Int);omega),sz⟩ (u9 J)
 ·refine S13 ?_;refine WZ 53 (.int .i64 ((m- i:Nat) :Int)) J (congrArg _ Om) ?_;refine S1 ?_;refine QH (k:=0) QE J J J Dc J (fun w1 h1=>Y8 b T tl ds n c (m- i) m i fv w1 (h1.cel (k:=0) J) Om Om Om hn hx'.one) ?_;refine N1 ?_;refine ky J ?_
  intro w' hs
  have hij:i=j:=Om
  subst hij
  exact⟨rfl,hs.over.wr,by rw [←hx'.fin];exact hs.cel (k:=0) rfl⟩
structure CmpW (w:World) (b:Nat) (S:Wy→Prop) (cr:Wy→Wy→Int) :Prop where
 call:∀x,S x→∀y,S y→∀w',Ovx ⟨w,[b]⟩ w'→Calls Tryz.prog 174 #[x.val,y.val] w' fun e w''=>e= .returned (.int .i64 (cr x y))∧Over w' w''
 weak:Weak (QJ cr)
theorem CmpW.over {w w1:World} {S:Wy→Prop} {cr:Wy→Wy→Int} (h:CmpW w b S cr) (ho:Ovx ⟨w,[b]⟩ w1) :CmpW w1 b S cr:=
 ⟨fun x hx y hy w' hw=>h.call x hx y hy w' ⟨hw.os.trans ho.os,hw.tape.trans ho.tape,hw.output.trans ho.output,jkh ho.size hw.size,fun q hq hne=> (hw.block q (jjy hq ho.size) hne).trans (ho.block q hq hne)⟩,h.weak⟩
theorem X1 (b T:Nat) (tl:List Value) (A X B:List Wy) (n c a e_:Nat) (S:Wy→Prop) (cr:Wy→Wy→Int) (w:World) (hC:CmpW w b S cr) (hh:w.heap[b]? =some (.cells (un (A++X++B) tl).toArray T (0,0))) (ha:A.length=a) (he:a+X.length=e_) (hen:e_≤n) (hl:n≤(A++X++B).length) (hn:n≤1099511627776) (hS:Up n S (A++X++B)) :
  Calls Tryz.prog 256 #[.slice (some ⟨b,0,none⟩) n c, .int .i64 (a:Int), .int .i64 (e_:Int), .func (.func 174) #[] #[]] w fun e w'=>e= .returned (.tuple #[])∧Wr b w w'∧w'.heap[b]? =some (.cells (un (A++Kd (QJ cr) X++B) tl).toArray T (0,0)) :=by
 subst ha
 refine QX (m:=53) (Tryz.func256) J J (lb J) (hh) ?_;refine S7 ?_;refine JX (X:=Nat×List Wy) (fun x=>InsO (QJ cr) A X B x.1 x.2∧Up n S x.2) (fun x=>e_- x.1) (fun x=> [(8, .int .i64 (x.1:Int))]) (kK [0,1,2,3]) (fun x=> [.cel b T (un x.2 tl)]) (A.length+1,A++X++B) (⟨InsO.start,hS⟩) ⟨J,sz⟩ (fun _ h=>h) ?_
 intro⟨i,ds⟩ hx L hL1
 refine v9 ?_;refine r9 ?_
 have hx1:InsO (QJ cr) A X B i ds:=hx.1
 have hSd:Up n S ds:=hx.2
 have hlo:=hx1.lo
 refine S7 ?_;refine cZ (fun c1=> ?_) (fun c1=> ?_)
 ·have hlt:i<e_:=Om
  obtain ⟨x,hin,hout⟩ :=hx1.in_ Om
  refine S10 ?_;refine JX (X:=Nat×List Wy) (fun y=>InsI (QJ cr) A (Kd (QJ cr) (X.take (i- A.length))) (X.drop (i- A.length+1) ++B) x y.1 y.2∧A.length≤y.1∧y.1≤i∧y.2.length= (A++X++B).length∧Up n S y.2) (fun y=>y.1) (fun y=> [(9, .int .i64 (y.1:Int))]) (kK [0,1,2,3,8,12,13,14,17]) (fun y=> [.cel b T (un y.2 tl)]) (i,ds) (⟨hin,by show A.length≤i;omega,jjm _,hx1.len,hSd⟩) ⟨J,sz⟩ (fun _ h=>h) ?_
  intro⟨j,fs⟩ hy L hL2
  refine v9 ?_;refine r9 ?_
  have hy1:InsI (QJ cr) A (Kd (QJ cr) (X.take (i- A.length))) (X.drop (i- A.length+1) ++B) x j fs:=hy.1
  have hy2:A.length≤j:=hy.2.1
  have hy3:j≤i:=hy.2.2.1
  have hy4:fs.length= (A++X++B).length:=hy.2.2.2.1
  have hSf:Up n S fs:=hy.2.2.2.2
  refine S3 ?_;refine JS 17 ?_;refine dK 0 ?_;refine dK 1 ?_;refine dK 2 ?_;refine dK 3 ?_;refine cV 21 (fun g1=> ?_) (fun g1=> ?_)
  ·have hjl:A.length<j:= (by simp at g1;omega)
   obtain ⟨p,u1,u2,hstop,hgo⟩ :=hy1.last hjl
   have hSx:=hSf j x Om u1
   have hSp:=hSf (j- 1) p Om u2
   have hxo: (Wy.cells x).all (·.oneCell') =true:=rfl
   have hpo: (Wy.cells p).all (·.oneCell') =true:=rfl
   refine eK 4 ?_;refine eK 5 ?_;refine eK 6 ?_;refine eZ 7 J (jV (j:=j) J J J JC Om) ?_;refine eZ 8 J (jl J J qj J (No (k:=0) J u1 Om)) ?_;refine eK 9 ?_;refine eK 10 ?_;refine eZ 11 J ((JF J J J Om Om).as (show Value.int .i64 ((j:Int) - 1) =Value.int .i64 ((j- 1:Nat) :Int) from congrArg _ Om)) ?_;refine eZ 12 J (jV (j:=j- 1) J J J JC Om) ?_;refine eZ 13 J (jl J J qj J (No (k:=0) J u2 Om)) ?_;refine eZ 14 J (VH Vn J J J (fun w1 h1=>hC.call x hSx p hSp w1 h1.over)) ?_;refine eK 15 ?_;refine dK 16 ?_;refine JJ Kr ?_;refine S1 ?_;refine cZ (fun c2=> ?_) (fun c2=> ?_)
   ·have hlx:QJ cr x p=true:= (by simpa [QJ] using c2)
    refine S5 ?_;refine uZ 15 17 [0] ?_;refine k9 0 J [] (u9 J) q9 ?_;refine k9 1 J [] (u9 J) q9 ?_;refine Ve (i:=2) J Kr Kr Kr [] Kr (fun _ _ _ h=>h) J J Dc (u9 J) q9 q9 ?_;refine Ve (i:=3) J Kr Kr Kr [] Kr (fun _ _ _ h=>h) J J Dc (u9 J) q9 q9 ?_;refine Ve (i:=4) J Kr Kr Kr [] Kr (fun _ _ _ h=>h) J J Dc (u9 J) ((JF J J J Om Om).as (show Value.int .i64 ((j:Int) - 1) =Value.int .i64 ((j- 1:Nat) :Int) from congrArg _ Om)) ((JF J J J Om Om).as (show Value.int .i64 ((j:Int) - 1) =Value.int .i64 ((j- 1:Nat) :Int) from congrArg _ Om)) ?_;refine k9 5 J [] (u9 J) q9 ?_;refine k9 6 J [] (u9 J) q9 ?_;refine k9 7 J [] (u9 J) ((JF J J J Om Om).as (show Value.int .i64 ((j:Int) - 1) =Value.int .i64 ((j- 1:Nat) :Int) from congrArg _ Om)) ?_;refine k9 8 J [] (u9 J) (jV (j:=j- 1) J J J JC Om) ?_;refine k9 9 J [] (u9 J) (jl J J qj J (No (k:=0) J u2 Om)) ?_;refine k9 10 J [12,13] (u9 J) q9 ?_;refine k9 11 J [12,13] (u9 J) q9 ?_;refine k9 12 J [13] (u9 J) (jV (j:=j) J J J JC Om) ?_;refine k9 13 J [] (u9 J) (jl J J qj J (No (k:=0) J u1 Om)) ?_;refine k9 14 J [] (u9 J) (jV (j:=j) J J J JC Om) ?_;refine Zc J Kr J ?_;refine qG (k:=0) J J J J J hpo Qc.szx J J (by rw [yu];simp [Wy.cells];omega) ?_;refine JN (uw [0] J) ?_;refine n9 ?_;refine dZ 16 J (jV (j:=j- 1) J J J JC Om) ?_;refine KV J Kr J ?_;refine qG (k:=0) J J J J J hxo Qc.szx J J (by rw [kG,yu];simp [Wy.cells];omega) ?_;refine yB Kr ?_;refine S7 ?_
    exact Jq hL2 ((j- 1,wn fs j (j- 1))) (⟨hgo hlx,(by show A.length≤j- 1;omega),(by show j- 1≤i;omega),by rw [Fq9];exact hy4,hSf.swap2 Om Om⟩) (by simp only;omega) ⟨vi Om,sz⟩ (fun _ h=>h.upto ⟨congrArg (Res.cel b T) (MW u1 u2),trivial⟩)
   ·have hlx:QJ cr x p=false:= (by simpa [QJ] using c2)
    refine S11 ?_
    exact Jq hL1 ((i+1,_)) (⟨hout _ (hstop hC.weak (Wo hC.weak _) hlx),hSf⟩) (by simp only;omega) ⟨vi Om,sz⟩ (u9 J)
  ·have hjl:j≤A.length:= (by simp at g1;omega)
   refine fK 4 ?_;refine fK 5 ?_;refine fK 6 ?_;refine fK 7 ?_;refine fK 8 ?_;refine fK 9 ?_;refine fK 10 ?_;refine fK 11 ?_;refine fK 12 ?_;refine fK 13 ?_;refine fK 14 ?_;refine fK 15 ?_;refine dK 16 ?_;refine JJ Kr ?_;refine S13 ?_
   exact Jq hL1 ((i+1,_)) (⟨hout _ (hy1.low hjl),hSf⟩) (by simp only;omega) ⟨vi Om,sz⟩ (u9 J)
 ·refine S4 ?_;refine ky J ?_
  intro w' hs
  exact⟨rfl,hs.over.wr,by rw [←hx1.fin Om];exact hs.cel (k:=0) rfl⟩
theorem B5 {l l':List Wy} (e:l=l') :some (Obj.cells (un l tl).toArray T (0,0)) =some (Obj.cells (un l' tl).toArray T (0,0)) :=by rw [e]
theorem jbi (b T:Nat) (tl:List Value) (X B:List Wy) (n c:Nat) (S:Wy→Prop) (cr:Wy→Wy→Int) (w:World) (hC:CmpW w b S cr) (hh:w.heap[b]? =some (.cells (un (X++B) tl).toArray T (0,0))) (hX:X.length=n) (hn:n≤1099511627776) (hS:∀x∈X,S x) (hM:∀(A L R Z:List Wy) (a m e_:Nat) (w1:World),CmpW w1 b S cr→w1.heap[b]? =some (.cells (un (A++L++R++Z) tl).toArray T (0,0))→A.length=a→a+L.length=m→m+R.length=e_→0<L.length→0<R.length→e_≤n→n≤(A++L++R++Z).length→UU (QJ cr) L→UU (QJ cr) R→Up n S (A++L++R++Z)→
   Calls Tryz.prog 257 #[.slice (some ⟨b,0,none⟩) n c, .int .i64 (a:Int), .int .i64 (m:Int), .int .i64 (e_:Int), .func (.func 174) #[] #[]] w1 fun e w'=>e= .returned (.tuple #[])∧Wr b w1 w'∧w'.heap[b]? =some (.cells (un (A++WA (QJ cr) L R++Z) tl).toArray T (0,0))) :
  Calls Tryz.prog 229 #[.slice (some ⟨b,0,none⟩) n c, .int .i64 (n:Int), .func (.func 174) #[] #[]] w fun e w'=>e= .returned (.tuple #[])∧Wr b w w'∧w'.heap[b]? =some (.cells (un (Kd (QJ cr) X++B) tl).toArray T (0,0)) :=by
 have W:=hC.weak
 refine QX (m:=63) (Tryz.func229) J J (lb J) (hh) ?_;refine S12 ?_;refine JX (X:=Nat×List Wy) (fun x=>PreI (QJ cr) X 20 x.1 x.2) (fun x=>n+20- x.1) (fun x=> [(7, .int .i64 (x.1:Int)),(8, .int .i64 ((x.1+20:Nat) :Int))]) (kK [0,1,2,6]) (fun x=> [.cel b T (un (x.2++ (X.drop x.1++B)) tl)]) (0,[]) (PreI.zero) ⟨J,sz⟩ (fun _ h=>h) ?_
 intro⟨a,F⟩ hx L hL1
 refine v9 ?_;refine r9 ?_
 have hx1:PreI (QJ cr) X 20 a F:=hx
 have hle:=hx1.le
 have hfl:=hx1.len
 refine S7 ?_;refine cZ (fun c1=> ?_) (fun c1=> ?_)
 ·have hlt:a+20≤n:=Om
  refine S10 ?_;refine QH (k:=0) Qm J J J Dc J (fun w1 h1=>X1 b T tl F ((X.drop a).take 20) (X.drop (a+20) ++B) n c a (a+20) S cr w1 (hC.over h1.over) ((h1.cel (k:=0) J).trans (B5 PreI.cut)) hfl (by simp;omega) hlt (by rw [←PreI.cut,←hX];exact(hx1.lens (q:=0)).1) hn (by rw [←PreI.cut];exact(hx1.all (q:=0) hS hX).1)) ?_;refine N14 ?_
  exact Jq hL1 ((a+20,F++Kd (QJ cr) ((X.drop a).take 20))) (hx1.step Dc Om) (by simp only;omega) ⟨J,vi Om,sz⟩ (u9 J)
 ·refine S12 ?_;refine QH (k:=0) Qm J J J Dc J (fun w1 h1=>X1 b T tl F (X.drop a) B n c a n S cr w1 (hC.over h1.over) ((h1.cel (k:=0) J).trans (B5 (jjq ..).symm)) hfl (by simp;omega) (jjm _) (by rw [jjq,←hX];exact(hx1.lens (q:=0)).1) hn (by rw [jjq];exact(hx1.all (q:=0) hS hX).1)) ?_;refine n9 ?_
  rw [show F++Kd (QJ cr) (X.drop a) =blk (QJ cr) 20 X from hx1.fin Om]
  refine S2 ?_;refine JX (X:=Nat×Value×Value) (fun x=>20≤x.1∧x.1≤2*n+40) (fun x=>n- x.1) (fun x=> [(6, .int .i64 (x.1:Int)),(7,x.2.1),(8,x.2.2)]) (kK [0,1,2]) (fun x=> [.cel b T (un (blk (QJ cr) x.1 X++B) tl)]) (20, .int .i64 (a:Int), .int .i64 ((a+20:Nat) :Int)) (⟨jjm _,(by show 20≤2*n+40;omega)⟩) ⟨J,sz⟩ (fun _ h=>h) ?_
  intro⟨k,v7,v8⟩ hk L hL2
  refine v9 ?_;refine r9 ?_
  have hk1:20≤k:=hk.1
  have hk2:k≤2*n+40:=hk.2
  refine S7 ?_;refine cZ (fun c2=> ?_) (fun c2=> ?_)
  ·have hkn:k<n:=Om
   refine S12 ?_;refine JX (X:=Nat×List Wy) (fun y=>PreI (QJ cr) X (2*k) y.1 y.2) (fun y=>n+2*k- y.1) (fun y=> [(7, .int .i64 (y.1:Int)),(8, .int .i64 ((y.1+2*k:Nat) :Int))]) (kK [0,1,2,6,28,29,30,31,32]) (fun y=> [.cel b T (un (y.2++ (blk (QJ cr) k (X.drop y.1) ++B)) tl)]) (0,[]) (PreI.zero) ⟨J,vi Om,sz⟩ (fun _ h=>h) ?_
   intro⟨d,G⟩ hy L hL3
   refine v9 ?_;refine r9 ?_
   have hy1:PreI (QJ cr) X (2*k) d G:=hy
   have hld:=hy1.le
   have hgl:=hy1.len
   refine S7 ?_;refine cZ (fun c3=> ?_) (fun c3=> ?_)
   ·have hd2:d+2*k≤n:=Om
    obtain ⟨e1,e2⟩ :=hy1.two W (B:=B) Om Om
    refine S13 ?_;refine QH (k:=0) qY J J J Dc J (fun w1 h1=>hM G (Kd (QJ cr) ((X.drop d).take k)) (Kd (QJ cr) (((X.drop d).drop k).take k)) (blk (QJ cr) k (X.drop (d+2*k)) ++B) d (d+k) (d+2*k) w1 (hC.over h1.over) ((h1.cel (k:=0) J).trans (B5 e1)) hgl (by rw [Qw];simp;omega) (by rw [Qw];simp;omega) (by rw [Qw];simp;omega) (by rw [Qw];simp;omega) hd2 (by rw [←e1,←hX];exact(hy1.lens (q:=k)).2) (Wo W _) (Wo W _) (by rw [←e1];exact(hy1.all (q:=k) hS hX).2)) ?_;refine N15 ?_
    exact Jq hL3 ((d+2*k,G++WA (QJ cr) (Kd (QJ cr) ((X.drop d).take k)) (Kd (QJ cr) (((X.drop d).drop k).take k)))) (e2) (by simp only;omega) ⟨J,vi Om,sz⟩ (u9 J)
   ·refine S19 ?_;refine cZ (fun c4=> ?_) (fun c4=> ?_)
    ·have hdk:d+k<n:=Om
     obtain ⟨e3,e4⟩ :=hy1.last W (B:=B) Om Om Om
     refine S7 ?_;refine QH (k:=0) qY J J J Dc J (fun w1 h1=>hM G (Kd (QJ cr) ((X.drop d).take k)) (Kd (QJ cr) ((X.drop d).drop k)) B d (d+k) n w1 (hC.over h1.over) ((h1.cel (k:=0) J).trans (B5 e3)) hgl (by rw [Qw];simp;omega) (by rw [Qw];simp;omega) (by rw [Qw];simp;omega) (by rw [Qw];simp;omega) (jjm _) (by rw [←e3,←hX];exact(hy1.lens (q:=k)).2) (Wo W _) (Wo W _) (by rw [←e3];exact(hy1.all (q:=k) hS hX).2)) ?_;refine n9 ?_
     rw [e4]
     refine S8 ?_
     exact Jq hL2 ((2*k, .int .i64 (d:Int), .int .i64 ((d+2*k:Nat) :Int))) (⟨show 20≤2*k by omega,show 2*k≤2*n+40 by omega⟩) (by simp only;omega) ⟨vi (by show(k:Int) *2= ((2*k:Nat) :Int);omega),sz⟩ (u9 J)
    ·rw [show G++ (blk (QJ cr) k (X.drop d) ++B) =blk (QJ cr) (2*k) X++B from hy1.none Om]
     refine S9 ?_
     exact Jq hL2 ((2*k, .int .i64 (d:Int), .int .i64 ((d+2*k:Nat) :Int))) (⟨show 20≤2*k by omega,show 2*k≤2*n+40 by omega⟩) (by simp only;omega) ⟨vi (by show(k:Int) *2= ((2*k:Nat) :Int);omega),sz⟩ (u9 J)
  ·refine S4 ?_;refine ky J ?_
   intro w' hs
   exact⟨rfl,hs.over.wr,by rw [←wv (lt:=QJ cr) (k:=k) (xs:=X) Om];exact hs.cel (k:=0) rfl⟩
def MrgW (b T n c:Nat) (tl:List Value) (S:Wy→Prop) (cr:Wy→Wy→Int) (top:Nat) :Prop:=
 ∀(A L R Z:List Wy) (a m e_:Nat) (w1:World),L.length+R.length<top→CmpW w1 b S cr→w1.heap[b]? =some (.cells (un (A++L++R++Z) tl).toArray T (0,0))→A.length=a→a+L.length=m→m+R.length=e_→0<L.length→0<R.length→e_≤n→n≤(A++L++R++Z).length→UU (QJ cr) L→UU (QJ cr) R→Up n S (A++L++R++Z)→
   Calls Tryz.prog 257 #[.slice (some ⟨b,0,none⟩) n c, .int .i64 (a:Int), .int .i64 (m:Int), .int .i64 (e_:Int), .func (.func 174) #[] #[]] w1 fun e w'=>e= .returned (.tuple #[])∧Wr b w1 w'∧w'.heap[b]? =some (.cells (un (A++WA (QJ cr) L R++Z) tl).toArray T (0,0))
theorem T9 (b T n c:Nat) (tl:List Value) (S:Wy→Prop) (cr:Wy→Wy→Int) (hn:n≤1099511627776) (A G R Z:List Wy) (a m e_:Nat) (w:World) (ih:MrgW b T n c tl S cr (G.length+R.length)) (hC:CmpW w b S cr) (hh:w.heap[b]? =some (.cells (un (A++G++R++Z) tl).toArray T (0,0))) (ha:A.length=a) (hm:a+G.length=m) (he:m+R.length=e_) (hG:0<G.length) (hR:0<R.length) (hen:e_≤n) (hl:n≤(A++G++R++Z).length) (hsG:UU (QJ cr) G) (hsR:UU (QJ cr) R) (hS:Up n S (A++G++R++Z)) :
  Calls Tryz.prog 257 #[.slice (some ⟨b,0,none⟩) n c, .int .i64 (a:Int), .int .i64 (m:Int), .int .i64 (e_:Int), .func (.func 174) #[] #[]] w fun e w'=>e= .returned (.tuple #[])∧Wr b w w'∧w'.heap[b]? =some (.cells (un (A++WA (QJ cr) G R++Z) tl).toArray T (0,0)) :=by
 have W:=hC.weak
 have hlen: (A++G++R++Z).length=e_+Z.length:=by simp;omega
 have hRat:∀i,i<R.length→(A++G++R++Z)[m+i]? =R[i]? :=fun i hi=>by
  rw [List.getElem?_append_left (by simp;omega),List.getElem?_append_right (by simp;omega)]
  congr 1
  simp
  omega
 have hGat:∀i,i<G.length→(A++G++R++Z)[a+i]? =G[i]? :=fun i hi=>by
  rw [List.getElem?_append_left (by simp;omega),List.getElem?_append_left (by simp;omega),List.getElem?_append_right Om]
  congr 1
  omega
 refine QX (m:=220) (Tryz.func257) J J (lb J) (hh) ?_;refine S8 ?_;refine cZ (fun c1=> ?_) (fun c1=> ?_)
 ·have hG1:G.length=1:=Om
  obtain ⟨x,hx0⟩ :∃x,G[0]? =some x:=⟨_,List.getElem?_eq_getElem hG⟩
  have hGx:G= [x] := (by match G,hG1,hx0 with | [y],_,h=> (cases h;rfl))
  have hxa: (A++G++R++Z)[a]? =some x:= (hGat 0 hG).trans hx0
  have hSx:S x:=hS _ x Om hxa
  refine S12 ?_;refine JX (X:=Nat×Nat) (fun y=>S1I (QJ cr) R x y.1 y.2) (fun y=>y.2- y.1) (fun y=> [(10, .int .i64 ((m+y.1:Nat) :Int)),(11, .int .i64 ((m+y.2:Nat) :Int))]) (kK [0,1,2,3,4]) (fun y=> [.cel b T (un (A++G++R++Z) tl)]) (0,R.length) (S1I.start) ⟨J,vi Om,sz⟩ (fun _ h=>h) ?_
  intro⟨i,j⟩ hy L hL1
  refine v9 ?_;refine r9 ?_
  have hy1:S1I (QJ cr) R x i j:=hy
  have hle:=hy1.le
  refine S7 ?_;refine cZ (fun c2=> ?_) (fun c2=> ?_)
  ·have hij:i<j:=Om
   obtain ⟨r,hr⟩ :∃r,R[(i+j) /2]? =some r:=⟨_,List.getElem?_eq_getElem Om⟩
   have hra: (A++G++R++Z)[m+ (i+j) /2]? =some r:= (hRat _ Om).trans hr
   have hSr:S r:=hS _ r Om hra
   refine S8 ?_;refine a9 (QK J Tryz.underlying3 Tryz.underlying184 J (Ut _ Om Om)) ?_;refine a9 (uc (q:=1) J J J Dc Dc) ?_;refine a9 ((QK J Tryz.underlying184 Tryz.underlying3 J (Wp _ (by simp;omega) (by simp;omega))).as (congrArg _ (show((((m+i:Nat) :Int) + ((m+j:Nat) :Int)) /2^ (Int.toNat 1)) = ((m+ (i+j) /2:Nat) :Int) by simp;omega))) ?_;refine S4 ?_;refine JS 11 ?_;refine dK 0 ?_;refine dK 1 ?_;refine dK 2 ?_;refine dZ 3 J (jV (j:=m+ (i+j) /2) J J J JC Om) ?_;refine dZ 4 J (jl J J qj J (No (k:=0) J hra Om)) ?_;refine dK 5 ?_;refine dK 6 ?_;refine dZ 7 J (jV (j:=a) J J J JC Om) ?_;refine dZ 8 J (jl J J qj J (No (k:=0) J hxa Om)) ?_;refine dZ 9 J (VH Vn J J J (fun w1 h1=>hC.call r hSr x hSx w1 h1.over)) ?_;refine dK 10 ?_;refine JJ Kr ?_;refine S1 ?_;refine cZ (fun c3=> ?_) (fun c3=> ?_)
   ·refine S7 ?_
    exact Jq hL1 (((i+j) /2+1,j)) (hy1.yes W hsR Om Om hr (by simpa [QJ] using c3)) (by simp only;omega) ⟨vi Om,sz⟩ (u9 J)
   ·refine S6 ?_
    exact Jq hL1 ((i,(i+j) /2)) (hy1.no W hsR Om Om hr (by simpa [QJ] using c3)) (by simp only;omega) ⟨J,sz⟩ (u9 J)
  ·have hij:i=j:=Om
   subst hij
   have hG0:A++G++R++Z=A++ (R.take 0++x::R.drop 0) ++Z:= (by rw [hGx];simp)
   refine S12 ?_;refine JX (X:=Nat×List Wy) (fun y=>y.1≤i∧y.2=A++ (R.take y.1++x::R.drop y.1) ++Z) (fun y=>i- y.1) (fun y=> [(13, .int .i64 ((a+y.1:Nat) :Int))]) (kK [0,1,2,3,4,10]) (fun y=> [.cel b T (un y.2 tl)]) (0,A++G++R++Z) (⟨jjo _,hG0⟩) ⟨J,sz⟩ (fun _ h=>h) ?_
   intro⟨k,ds⟩ hk L hL2
   refine v9 ?_;refine r9 ?_
   have hk1:k≤i:=hk.1
   have hds:ds=A++ (R.take k++x::R.drop k) ++Z:=hk.2
   have hdl:ds.length= (A++G++R++Z).length:= (by rw [hds,hGx];simp;omega)
   have hmem:Up n S ds:= (by rw [hds];rw [jjq A G] at hS;refine ZO hS (fun y hy=> ?_) (by simp [hGx];omega) (by simp;omega);simp only [hGx,jjz,jjw,jjp,jj8,or_false] at hy⊢;rcases hy with h | h | h;exact .inr (jj6 h);exact .inl h;exact .inr (jkf h))
   refine S8 ?_;refine cZ (fun c4=> ?_) (fun c4=> ?_)
   ·have hki:k<i:=Om
    obtain ⟨x1,u1⟩ :∃q,ds[a+k]? =some q:=⟨_,List.getElem?_eq_getElem Om⟩
    obtain ⟨x2,u2⟩ :∃q,ds[a+k+1]? =some q:=⟨_,List.getElem?_eq_getElem Om⟩
    have hxo1: (Wy.cells x1).all (·.oneCell') =true:=rfl
    have hxo2: (Wy.cells x2).all (·.oneCell') =true:=rfl
    have hmv: (ds.set (a+k) x2).set (a+k+1) x1=A++ (R.take (k+1) ++x::R.drop (k+1)) ++Z:= (by rw [←vA u1 u2,hds,←ha];exact IS A R Z x Om)
    refine S5 ?_;refine uZ 15 17 [0] ?_;refine k9 0 J [] (u9 J) q9 ?_;refine k9 1 J [] (u9 J) q9 ?_;refine Ve (i:=2) J Kr Kr Kr [] Kr (fun _ _ _ h=>h) J J Dc (u9 J) q9 q9 ?_;refine Ve (i:=3) J Kr Kr Kr [] Kr (fun _ _ _ h=>h) J J Dc (u9 J) q9 q9 ?_;refine Ve (i:=4) J Kr Kr Kr [] Kr (fun _ _ _ h=>h) J J Dc (u9 J) p9 p9 ?_;refine k9 5 J [] (u9 J) q9 ?_;refine k9 6 J [] (u9 J) q9 ?_;refine k9 7 J [] (u9 J) p9 ?_;refine k9 8 J [] (u9 J) (jV (j:=a+k+1) J J J JC Om) ?_;refine k9 9 J [] (u9 J) (jl J J qj J (No (k:=0) J u2 Om)) ?_;refine k9 10 J [12,13] (u9 J) q9 ?_;refine k9 11 J [12,13] (u9 J) q9 ?_;refine k9 12 J [13] (u9 J) (jV (j:=a+k) J J J JC Om) ?_;refine k9 13 J [] (u9 J) (jl J J qj J (No (k:=0) J u1 Om)) ?_;refine k9 14 J [] (u9 J) (jV (j:=a+k) J J J JC Om) ?_;refine Zc J Kr J ?_;refine qG (k:=0) J J J J J hxo2 Qc.szx J J (by rw [yu];simp [Wy.cells];omega) ?_;refine JN (uw [0] J) ?_;refine n9 ?_;refine dZ 16 J (jV (j:=a+k+1) J J J JC Om) ?_;refine KV J Kr J ?_;refine qG (k:=0) J J J J J hxo1 Qc.szx J J (by rw [kG,yu];simp [Wy.cells];omega) ?_;refine yB Kr ?_;refine S7 ?_
    exact Jq hL2 ((k+1,wn ds (a+k) (a+k+1))) (⟨show k+1≤i by omega,(by rw [vA u1 u2];exact hmv)⟩) (by simp only;omega) ⟨vi Om,sz⟩ (fun _ h=>h.upto ⟨congrArg (Res.cel b T) (MW u1 u2),trivial⟩)
   ·have hki:k=i:=Om
    subst hki
    refine S7 ?_;refine ZQ J ?_
    intro w' hs
    exact⟨rfl,hs.over.wr,by rw [hGx,hy1.fin,←hds];exact hs.cel (k:=0) rfl⟩
 ·refine S10 ?_;refine cZ (fun c5=> ?_) (fun c5=> ?_)
  ·have hR1:R.length=1:=Om
   obtain ⟨y,hy0⟩ :∃y,R[0]? =some y:=⟨_,List.getElem?_eq_getElem hR⟩
   have hRy:R= [y] := (by match R,hR1,hy0 with | [y],_,h=> (cases h;rfl))
   have hya: (A++G++R++Z)[m]? =some y:= (hRat 0 hR).trans hy0
   have hSy:S y:=hS _ y Om hya
   refine S12 ?_;refine JX (X:=Nat×Nat) (fun q=>S2I (QJ cr) G y q.1 q.2) (fun q=>q.2- q.1) (fun q=> [(14, .int .i64 ((a+q.1:Nat) :Int)),(15, .int .i64 ((a+q.2:Nat) :Int))]) (kK [0,1,2,3,4]) (fun q=> [.cel b T (un (A++G++R++Z) tl)]) (0,G.length) (S2I.start) ⟨J,vi Om,sz⟩ (fun _ h=>h) ?_
   intro⟨i,j⟩ hq L hL3
   refine v9 ?_;refine r9 ?_
   have hq1:S2I (QJ cr) G y i j:=hq
   have hle:=hq1.le
   refine S7 ?_;refine cZ (fun c6=> ?_) (fun c6=> ?_)
   ·have hij:i<j:=Om
    obtain ⟨r,hr⟩ :∃r,G[(i+j) /2]? =some r:=⟨_,List.getElem?_eq_getElem Om⟩
    have hra: (A++G++R++Z)[a+ (i+j) /2]? =some r:= (hGat _ Om).trans hr
    have hSr:S r:=hS _ r Om hra
    refine S8 ?_;refine a9 (QK J Tryz.underlying3 Tryz.underlying184 J (Ut _ Om Om)) ?_;refine a9 (uc (q:=1) J J J Dc Dc) ?_;refine a9 ((QK J Tryz.underlying184 Tryz.underlying3 J (Wp _ (by simp;omega) (by simp;omega))).as (congrArg _ (show((((a+i:Nat) :Int) + ((a+j:Nat) :Int)) /2^ (Int.toNat 1)) = ((a+ (i+j) /2:Nat) :Int) by simp;omega))) ?_;refine S4 ?_;refine JS 12 ?_;refine dK 0 ?_;refine dK 1 ?_;refine dK 2 ?_;refine dZ 3 J (jV (j:=m) J J J JC Om) ?_;refine dZ 4 J (jl J J qj J (No (k:=0) J hya Om)) ?_;refine dK 5 ?_;refine dK 6 ?_;refine dZ 7 J (jV (j:=a+ (i+j) /2) J J J JC Om) ?_;refine dZ 8 J (jl J J qj J (No (k:=0) J hra Om)) ?_;refine dZ 9 J (VH Vn J J J (fun w1 h1=>hC.call y hSy r hSr w1 h1.over)) ?_;refine dK 10 ?_;refine dK 11 ?_;refine JJ Kr ?_;refine S1 ?_;refine cZ (fun c7=> ?_) (fun c7=> ?_)
    ·refine S7 ?_
     exact Jq hL3 (((i+j) /2+1,j)) (hq1.yes W hsG Om Om hr (by simpa [QJ] using c7)) (by simp only;omega) ⟨vi Om,sz⟩ (u9 J)
    ·refine S6 ?_
     exact Jq hL3 ((i,(i+j) /2)) (hq1.no W hsG Om Om hr (by simpa [QJ] using c7)) (by simp only;omega) ⟨J,sz⟩ (u9 J)
   ·have hij:i=j:=Om
    subst hij
    have hG0:A++G++R++Z=A++ (G.take G.length++y::G.drop G.length) ++Z:= (by rw [hRy];simp)
    refine S12 ?_;refine JX (X:=Nat×List Wy) (fun q=>i≤q.1∧q.1≤G.length∧q.2=A++ (G.take q.1++y::G.drop q.1) ++Z) (fun q=>q.1) (fun q=> [(17, .int .i64 ((a+q.1:Nat) :Int))]) (kK [0,1,2,3,4,14]) (fun q=> [.cel b T (un q.2 tl)]) (G.length,A++G++R++Z) (⟨hle.2,jjm _,hG0⟩) ⟨vi Om,sz⟩ (fun _ h=>h) ?_
    intro⟨k,ds⟩ hk L hL4
    refine v9 ?_;refine r9 ?_
    have hk1:i≤k:=hk.1
    have hk2:k≤G.length:=hk.2.1
    have hds:ds=A++ (G.take k++y::G.drop k) ++Z:=hk.2.2
    have hdl:ds.length= (A++G++R++Z).length:= (by rw [hds,hRy];simp;omega)
    have hmem:Up n S ds:= (by rw [hds];rw [jjq A G] at hS;refine ZO hS (fun y hy=> ?_) (by simp [hRy];omega) (by simp;omega);simp only [hRy,jjz,jjw,jjp,jj8,or_false] at hy⊢;rcases hy with h | h | h;exact .inl (jj6 h);exact .inr h;exact .inl (jkf h))
    refine S7 ?_;refine cZ (fun c8=> ?_) (fun c8=> ?_)
    ·have hki:i<k:=Om
     obtain ⟨x1,u1⟩ :∃q,ds[a+k]? =some q:=⟨_,List.getElem?_eq_getElem Om⟩
     obtain ⟨x2,u2⟩ :∃q,ds[a+k- 1]? =some q:=⟨_,List.getElem?_eq_getElem Om⟩
     have hxo1: (Wy.cells x1).all (·.oneCell') =true:=rfl
     have hxo2: (Wy.cells x2).all (·.oneCell') =true:=rfl
     have hmv: (ds.set (a+k) x2).set (a+k- 1) x1=A++ (G.take (k- 1) ++y::G.drop (k- 1)) ++Z:= (by rw [←vA u1 u2,hds,←ha];exact Fu A G Z y Om hk2)
     refine S5 ?_;refine uZ 15 17 [0] ?_;refine k9 0 J [] (u9 J) q9 ?_;refine k9 1 J [] (u9 J) q9 ?_;refine Ve (i:=2) J Kr Kr Kr [] Kr (fun _ _ _ h=>h) J J Dc (u9 J) q9 q9 ?_;refine Ve (i:=3) J Kr Kr Kr [] Kr (fun _ _ _ h=>h) J J Dc (u9 J) q9 q9 ?_;refine Ve (i:=4) J Kr Kr Kr [] Kr (fun _ _ _ h=>h) J J Dc (u9 J) ((JF J J J Om Om).as (congrArg _ (show(((a+k:Nat) :Int) - 1) = ((a+k- 1:Nat) :Int) by omega))) ((JF J J J Om Om).as (congrArg _ (show(((a+k:Nat) :Int) - 1) = ((a+k- 1:Nat) :Int) by omega))) ?_;refine k9 5 J [] (u9 J) q9 ?_;refine k9 6 J [] (u9 J) q9 ?_;refine k9 7 J [] (u9 J) ((JF J J J Om Om).as (congrArg _ (show(((a+k:Nat) :Int) - 1) = ((a+k- 1:Nat) :Int) by omega))) ?_;refine k9 8 J [] (u9 J) (jV (j:=a+k- 1) J J J JC Om) ?_;refine k9 9 J [] (u9 J) (jl J J qj J (No (k:=0) J u2 Om)) ?_;refine k9 10 J [12,13] (u9 J) q9 ?_;refine k9 11 J [12,13] (u9 J) q9 ?_;refine k9 12 J [13] (u9 J) (jV (j:=a+k) J J J JC Om) ?_;refine k9 13 J [] (u9 J) (jl J J qj J (No (k:=0) J u1 Om)) ?_;refine k9 14 J [] (u9 J) (jV (j:=a+k) J J J JC Om) ?_;refine Zc J Kr J ?_;refine qG (k:=0) J J J J J hxo2 Qc.szx J J (by rw [yu];simp [Wy.cells];omega) ?_;refine JN (uw [0] J) ?_;refine n9 ?_;refine dZ 16 J (jV (j:=a+k- 1) J J J JC Om) ?_;refine KV J Kr J ?_;refine qG (k:=0) J J J J J hxo1 Qc.szx J J (by rw [kG,yu];simp [Wy.cells];omega) ?_;refine yB Kr ?_;refine S7 ?_
     exact Jq hL4 ((k- 1,wn ds (a+k) (a+k- 1))) (⟨show i≤k- 1 by omega,show k- 1≤G.length by omega,(by rw [vA u1 u2];exact hmv)⟩) (by simp only;omega) ⟨vi Om,sz⟩ (fun _ h=>h.upto ⟨congrArg (Res.cel b T) (MW u1 u2),trivial⟩)
    ·have hki:k=i:=Om
     subst hki
     refine S7 ?_;refine ZQ J ?_
     intro w' hs
     exact⟨rfl,hs.over.wr,by rw [hRy,hq1.fin,←hds];exact hs.cel (k:=0) rfl⟩
  ·refine S3 ?_
   obtain ⟨h,hh2⟩ :∃h,h= (G.length+R.length) /2:=⟨_,rfl⟩
   have hG2:2≤G.length:=Om
   have hR2:2≤R.length:=Om
   have hone:Up n (fun _:Wy=>True) (A++G++R++Z) :=fun _ _ _ _=>trivial
   refine S4 ?_;refine a9 (QK J Tryz.underlying3 Tryz.underlying184 J (Ut _ Om Om)) ?_;refine a9 (uc (q:=1) J J J Dc Dc) ?_;refine a9 ((QK J Tryz.underlying184 Tryz.underlying3 J (Wp _ (by simp;omega) (by simp;omega))).as (congrArg _ (show(((a:Int) + (e_:Int)) /2^ (Int.toNat 1)) = ((a+h:Nat) :Int) by simp;omega))) ?_;refine S6 ?_;refine a9 ((jY J J J Om Om).as (congrArg _ (show(((a+h:Nat) :Int) + (m:Int)) = ((a+h+m:Nat) :Int) by omega))) ?_;refine S7 ?_;refine qt [(20, .int .i64 ((a+ (h- R.length) :Nat) :Int)),(21, .int .i64 ((a+min G.length h:Nat) :Int))] (kK [0,1,2,3,4,18,19]) (fun L h_t140=> ?_) ?_
   ·refine S6 ?_;refine cZ (fun c9=> ?_) (fun c9=> ?_)
    ·refine S11 ?_
     exact Jo h_t140 ⟨vi Om,vi Om,sz⟩ (u9 J)
    ·refine S9 ?_
     exact Jo h_t140 ⟨vi Om,vi Om,sz⟩ (u9 J)
   ·refine V3 ?_;refine a9 ((JF J J J Om Om).as (congrArg _ (show(((a+h+m:Nat) :Int) - 1) = ((a+h+m- 1:Nat) :Int) by omega))) ?_;refine S4 ?_;refine JX (X:=Nat×Nat) (fun q=>GI (QJ cr) G R h q.1 q.2) (fun q=>q.2- q.1) (fun q=> [(20, .int .i64 ((a+q.1:Nat) :Int)),(21, .int .i64 ((a+q.2:Nat) :Int))]) (kK [0,1,2,3,4,18,19,22]) (fun q=> [.cel b T (un (A++G++R++Z) tl)]) (h- R.length,min G.length h) (GI.start hh2) ⟨J,sz⟩ (fun _ h=>h) ?_
    intro⟨sg,ug⟩ hq L hL5
    refine v9 ?_;refine r9 ?_
    have hq1:GI (QJ cr) G R h sg ug:=hq
    have hle:=hq1.b
    refine S7 ?_;refine cZ (fun c10=> ?_) (fun c10=> ?_)
    ·have hij:sg<ug:=Om
     obtain ⟨x,hx⟩ :∃r,G[(sg+ug) /2]? =some r:=⟨_,List.getElem?_eq_getElem Om⟩
     obtain ⟨y,hy⟩ :∃r,R[h- (sg+ug) /2- 1]? =some r:=⟨_,List.getElem?_eq_getElem Om⟩
     have hxa: (A++G++R++Z)[a+ (sg+ug) /2]? =some x:= (hGat _ Om).trans hx
     have hya: (A++G++R++Z)[m+ (h- (sg+ug) /2- 1)]? =some y:= (hRat _ Om).trans hy
     have hSx:S x:=hS _ x Om hxa
     have hSy:S y:=hS _ y Om hya
     refine S8 ?_;refine a9 (QK J Tryz.underlying3 Tryz.underlying184 J (Ut _ Om Om)) ?_;refine a9 (uc (q:=1) J J J Dc Dc) ?_;refine a9 ((QK J Tryz.underlying184 Tryz.underlying3 J (Wp _ (by simp;omega) (by simp;omega))).as (congrArg _ (show((((a+sg:Nat) :Int) + ((a+ug:Nat) :Int)) /2^ (Int.toNat 1)) = ((a+ (sg+ug) /2:Nat) :Int) by simp;omega))) ?_;refine S4 ?_;refine JS 14 ?_;refine dK 0 ?_;refine dK 1 ?_;refine dK 2 ?_;refine dK 3 ?_;refine dZ 4 J ((JF J J J Om Om).as (congrArg _ (show(((a+h+m- 1:Nat) :Int) - ((a+ (sg+ug) /2:Nat) :Int)) = ((m+ (h- (sg+ug) /2- 1) :Nat) :Int) by omega))) ?_;refine dZ 5 J (jV (j:=m+ (h- (sg+ug) /2- 1)) J J J JC Om) ?_;refine dZ 6 J (jl J J qj J (No (k:=0) J hya Om)) ?_;refine dK 7 ?_;refine dK 8 ?_;refine dZ 9 J (jV (j:=a+ (sg+ug) /2) J J J JC Om) ?_;refine dZ 10 J (jl J J qj J (No (k:=0) J hxa Om)) ?_;refine dZ 11 J (VH Vn J J J (fun w1 h1=>hC.call y hSy x hSx w1 h1.over)) ?_;refine dK 12 ?_;refine dK 13 ?_;refine JJ Kr ?_;refine S1 ?_;refine cZ (fun c11=> ?_) (fun c11=> ?_)
     ·refine S7 ?_
      exact Jq hL5 (((sg+ug) /2+1,ug)) (hq1.yes Om Om hx hy (by simpa [QJ] using c11)) (by simp only;omega) ⟨vi Om,sz⟩ (u9 J)
     ·refine S6 ?_
      exact Jq hL5 ((sg,(sg+ug) /2)) (hq1.no Om Om hx hy (by simpa [QJ] using c11)) (by simp only;omega) ⟨J,sz⟩ (u9 J)
    ·have hij:sg=ug:=Om
     subst hij
     have hsG1:UU (QJ cr) (G.take sg) :=hsG.sublist (List.take_sublist _ _)
     have hsG2:UU (QJ cr) (G.drop sg) :=hsG.sublist (List.drop_sublist _ _)
     have hsR1:UU (QJ cr) (R.take (h- sg)) :=hsR.sublist (List.take_sublist _ _)
     have hsR2:UU (QJ cr) (R.drop (h- sg)) :=hsR.sublist (List.drop_sublist _ _)
     have hfin:=hq1.fin W hsG hsR
     have hl1: (A++ (G.take sg++R.take (h- sg)) ++ (G.drop sg++R.drop (h- sg)) ++Z).length= (A++G++R++Z).length:= (by rw [←GG,UI (G:=G) (R:=R) (s:=sg) (t:=h- sg)];simp only [jjk];omega)
     have hS1:Up n S (A++ (G.take sg++R.take (h- sg)) ++ (G.drop sg++R.drop (h- sg)) ++Z) := (by rw [jjq A G] at hS;rw [jjq A (G.take sg++R.take (h- sg))];refine ZO hS (fun y hy=> ?_) (by simp;omega) (by simp;omega);simp only [jjz] at hy⊢;rcases hy with(hy | hy) | (hy | hy);exact .inl (jj6 hy);exact .inr (jj6 hy);exact .inl (jkf hy);exact .inr (jkf hy))
     have hl2: (A++WA (QJ cr) (G.take sg) (R.take (h- sg)) ++ (G.drop sg++R.drop (h- sg)) ++Z).length= (A++G++R++Z).length:= (by rw [←hl1];simp only [jjk,YT])
     have hS2:Up n S (A++WA (QJ cr) (G.take sg) (R.take (h- sg)) ++ (G.drop sg++R.drop (h- sg)) ++Z) := (by rw [jjq (A++_)] at hS1⊢;exact ZO hS1 (fun y hy=>jjz.2 ((CY _ _ y).1 hy)) (by simp [YT]) (by simp;omega))
     refine S9 ?_;refine a9 ((JF J J J Om Om).as (congrArg _ (show(((a+h+m:Nat) :Int) - ((a+sg:Nat) :Int)) = ((m+ (h- sg) :Nat) :Int) by omega))) ?_;refine S2 ?_;refine uB [] ([.cel b T (un (A++ (G.take sg++R.take (h- sg)) ++ (G.drop sg++R.drop (h- sg)) ++Z) tl)]) (kK [0,1,3,4,18,20,24]) (fun L h_t185=> ?_) ?_
     ·refine qt [(185, .bool (decide (sg<G.length) &&decide (sg<h)))] (kK [0,1,2,3,4,18,20,24]) (fun L h_39=> ?_) ?_
      ·refine S5 ?_;refine cV 181 (fun g1=> ?_) (fun g1=> ?_)
       ·refine S8 ?_
        exact Jo h_39 ⟨vb (by rw [show decide (sg<G.length) =true from decide_eq_true Om,jjG];exact decide_eq_decide.2 Om),sz⟩ (u9 J)
       ·refine S5 ?_
        exact Jo h_39 ⟨vb (by rw [show decide (sg<G.length) =false from decide_eq_false Om,jjU]),sz⟩ (u9 J)
      ·refine v9 ?_;refine cZ (fun c12=> ?_) (fun c12=> ?_)
       ·simp only [jjl,decide_eq_true_eq] at c12
        refine S7 ?_;refine QH (k:=0) wB J J J Dc J (fun w1 h1=>ja1 b T tl (A++G.take sg) (G.drop sg) (R.take (h- sg)) (R.drop (h- sg) ++Z) n c (a+sg) m (m+ (h- sg)) _ w1 ((h1.cel (k:=0) J).trans (B5 UI)) (by simp;omega) (by simp;omega) (by simp;omega) (by simp;omega) (by simp;omega) Om (by rw [←UI];omega) hn (by rw [←UI];exact hone)) ?_;refine n9 ?_
        rw [GG]
        refine S1 ?_
        exact Jo h_t185 ⟨J,sz⟩ (u9 J)
       ·rw [show A++G++R++Z=A++ (G.take sg++R.take (h- sg)) ++ (G.drop sg++R.drop (h- sg)) ++Z from jdT (by simp at c12;omega)]
        refine S2 ?_
        exact Jo h_t185 ⟨J,sz⟩ (u9 J)
     ·refine v9 ?_;refine uB [] ([.cel b T (un (A++WA (QJ cr) (G.take sg) (R.take (h- sg)) ++ (G.drop sg++R.drop (h- sg)) ++Z) tl)]) (kK [0,3,4,18,24]) (fun L h_t199=> ?_) ?_
      ·refine qt [(199, .bool (decide (0<sg) &&decide (sg<h)))] (kK [0,1,3,4,18,20,24]) (fun L h_41=> ?_) ?_
       ·refine S5 ?_;refine cV 195 (fun g2=> ?_) (fun g2=> ?_)
        ·refine S8 ?_
         exact Jo h_41 ⟨vb (by rw [show decide (0<sg) =true from decide_eq_true Om,jjG];exact decide_eq_decide.2 Om),sz⟩ (u9 J)
        ·refine S5 ?_
         exact Jo h_41 ⟨vb (by rw [show decide (0<sg) =false from decide_eq_false Om,jjU]),sz⟩ (u9 J)
       ·refine v9 ?_;refine cZ (fun c13=> ?_) (fun c13=> ?_)
        ·simp only [jjl,decide_eq_true_eq] at c13
         refine S7 ?_;refine QH (k:=0) qY J J J Dc J (fun w1 h1=>ih A (G.take sg) (R.take (h- sg)) (G.drop sg++R.drop (h- sg) ++Z) a (a+sg) (a+h) w1 (by simp;omega) (hC.over h1.over) ((h1.cel (k:=0) J).trans (B5 Z1)) ha (by simp;omega) (by simp;omega) (by simp;omega) (by simp;omega) Om (by rw [←Z1];omega) hsG1 hsR1 (by rw [←Z1];exact hS1)) ?_;refine n9 ?_
         rw [CV]
         refine S1 ?_
         exact Jo h_t199 ⟨J,sz⟩ (u9 J)
        ·rw [show G.take sg++R.take (h- sg) =WA (QJ cr) (G.take sg) (R.take (h- sg)) from jc7 (by simp at c13;omega)]
         refine S2 ?_
         exact Jo h_t199 ⟨J,sz⟩ (u9 J)
      ·refine v9 ?_;refine qt [(213, .bool (decide (sg<G.length) &&decide (h- sg<R.length)))] (kK [0,3,4,18,24]) (fun L h_43=> ?_) ?_
       ·refine S5 ?_;refine cV 209 (fun g3=> ?_) (fun g3=> ?_)
        ·refine S8 ?_
         exact Jo h_43 ⟨vb (by rw [show decide (sg<G.length) =true from decide_eq_true Om,jjG];exact decide_eq_decide.2 Om),sz⟩ (u9 J)
        ·refine S5 ?_
         exact Jo h_43 ⟨vb (by rw [show decide (sg<G.length) =false from decide_eq_false Om,jjU]),sz⟩ (u9 J)
       ·refine v9 ?_;refine cZ (fun c14=> ?_) (fun c14=> ?_)
        ·simp only [jjl,decide_eq_true_eq] at c14
         refine S7 ?_;refine QH (k:=0) qY J J J Dc J (fun w1 h1=>ih (A++WA (QJ cr) (G.take sg) (R.take (h- sg))) (G.drop sg) (R.drop (h- sg)) Z (a+h) (m+ (h- sg)) e_ w1 (by simp;omega) (hC.over h1.over) ((h1.cel (k:=0) J).trans (B5 Z2)) (by simp [YT];omega) (by simp;omega) (by simp;omega) (by simp;omega) (by simp;omega) Om (by rw [←Z2];omega) hsG2 hsR2 (by rw [←Z2];exact hS2)) ?_;refine N1 ?_;refine ky J ?_
         intro w' hs
         exact⟨rfl,hs.over.wr,by rw [hfin,←CW];exact hs.cel (k:=0) rfl⟩
        ·refine S1 ?_;refine ky J ?_
         intro w' hs
         exact⟨rfl,hs.over.wr,by rw [hfin,←jc8 (by simp at c14;omega),←jjq A];exact hs.cel (k:=0) rfl⟩
theorem MrgW.le {n c:Nat} {S:Wy→Prop} {cr:Wy→Wy→Int} {k top:Nat} (h:MrgW b T n c tl S cr top) (hk:k≤top) :MrgW b T n c tl S cr k:=
 fun A L R Z a m e_ w1 hlt=>h A L R Z a m e_ w1 Om
theorem Tu (b T n c:Nat) (tl:List Value) (S:Wy→Prop) (cr:Wy→Wy→Int) (hn:n≤1099511627776) :∀top,MrgW b T n c tl S cr top
 | 0=>fun A L R Z a m e_ w1 hlt=>absurd hlt Om
 | top+1=>fun A L R Z a m e_ w1 hlt hC hh ha hm he hL hR hen hl hsL hsR hS=>
  T9 b T n c tl S cr hn A L R Z a m e_ w1 ((Tu b T n c tl S cr hn top).le Om) hC hh ha hm he hL hR hen hl hsL hsR hS
theorem jgh (b T:Nat) (tl:List Value) (X B:List Wy) (n c:Nat) (S:Wy→Prop) (cr:Wy→Wy→Int) (w:World) (hC:CmpW w b S cr) (hh:w.heap[b]? =some (.cells (un (X++B) tl).toArray T (0,0))) (hX:X.length=n) (hn:n≤1099511627776) (hS:∀x∈X,S x) :
  Calls Tryz.prog 173 #[.slice (some ⟨b,0,none⟩) n c, .func (.func 174) #[] #[]] w fun e w'=>e= .returned (.tuple #[])∧Wr b w w'∧w'.heap[b]? =some (.cells (un (Kd (QJ cr) X++B) tl).toArray T (0,0)) :=by
 refine QX (m:=9) (Tryz.func173) J J (lb J) (hh) ?_;refine S6 ?_;refine QH (k:=0) Ks J J J Dc J (fun w1 h1=>jbi b T tl X B n c S cr w1 (hC.over h1.over) (h1.cel (k:=0) J) hX hn hS (fun A L R Z a m e_ w2=>Tu b T n c tl S cr hn (L.length+R.length+1) A L R Z a m e_ w2 (Nat.lt_succ_self _))) ?_;refine N1 ?_;refine ky J ?_
 intro w' hs
 exact⟨rfl,hs.over.wr,hs.cel (k:=0) rfl⟩
theorem Mf (A:Option Addr) (c:Nat) (fv:Value) (w:World) :Calls Tryz.prog 256 #[.slice A 0 c, .int .i64 0, .int .i64 0,fv] w fun e w'=>e= .returned (.tuple #[])∧Over w w':=by
 refine j6 (m:=53) (Tryz.func256) J J (lb J) ?_;refine S7 ?_;refine qv (X:=Nat) (fun k=>k=0) (fun k=>k) (fun k=> [(8, .int .i64 ((k:Int) +1))]) (kK [0,1,2,3]) 0 (J) ⟨J,sz⟩ ?_
 intro k hk L hL1
 refine V7 ?_;refine cZ (fun c1=> ?_) (fun c1=> ?_)
 ·omega
 ·refine S4 ?_;refine ky J ?_
  intro w' hs
  exact⟨rfl,hs.fin⟩
theorem Rn (A:Option Addr) (c:Nat) (fv:Value) (w:World) :Calls Tryz.prog 229 #[.slice A 0 c, .int .i64 0,fv] w fun e w'=>e= .returned (.tuple #[])∧Over w w':=by
 refine j6 (m:=63) (Tryz.func229) J J (lb J) ?_;refine S12 ?_;refine qv (X:=Nat) (fun k=>k=0) (fun k=>k) (fun k=> [(7, .int .i64 (k:Int)),(8, .int .i64 ((k:Int) +20))]) (kK [0,1,2,6]) 0 (J) ⟨J,sz⟩ ?_
 intro k hk L hL1
 refine V7 ?_;refine cZ (fun c1=> ?_) (fun c1=> ?_)
 ·omega
 ·subst hk
  refine S11 ?_;refine a9 (jM Qm J J (fun w1 h1=>Mf A c fv w1)) ?_;refine S2 ?_;refine qv (X:=Nat) (fun q=>q=0) (fun q=>q) (fun q=> [(6, .int .i64 ((q:Int) +20))]) (kK [0,1,2,7,8]) 0 (J) ⟨J,sz⟩ ?_
  intro q hq L hL2
  refine V7 ?_;refine cZ (fun c2=> ?_) (fun c2=> ?_)
  ·omega
  ·refine S4 ?_;refine ky J ?_
   intro w' hs
   exact⟨rfl,hs.fin⟩
theorem PM (A:Option Addr) (c:Nat) (fv:Value) (w:World) :Calls Tryz.prog 173 #[.slice A 0 c,fv] w fun e w'=>e= .returned (.tuple #[])∧Over w w':=by
 refine j6 (m:=9) (Tryz.func173) J J (lb J) ?_;refine S5 ?_;refine a9 (jM Ks J J (fun w1 h1=>Rn A c fv w1)) ?_;refine S1 ?_;refine ky J ?_
 intro w' hs
 exact⟨rfl,hs.fin⟩
end Go.Proofs.YtbahojdbmmjkcaaGreat
