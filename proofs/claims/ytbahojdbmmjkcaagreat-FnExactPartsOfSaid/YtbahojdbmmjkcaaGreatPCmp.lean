import Derived.Test.YtbahojdbmmjkcaaGreatPHot
import Derived.Shelf.SlSortCmp.WholeK
import Derived.Test.YtbahojdbmmjkcaaGreatPReg3
import Derived.Test.YtbahojdbmmjkcaaGreatPSnapped
import Derived.Test.YtbahojdbmmjkcaaGreatPSimp
set_option linter.unusedVariables false
set_option linter.unusedSimpArgs false
namespace Go.Proofs.YtbahojdbmmjkcaaGreat
open Go Go.Shelf Go.RowKit Go.Lib Go.Sort
def VN (p q:Pn) :Int:=if p.2=q.2 then wZ (p.1- q.1) else wZ (p.2- q.2)
theorem LM (p q:Pn) :VN p q<0↔wc p q:=by
 have h1:=W9 (p.1- q.1)
 have h2:=W9 (p.2- q.2)
 unfold VN wc
 split<;>omega
set_option maxHeartbeats 1000000 in
theorem Uh (p q:Pn) (hp:zQ p) (hq:zQ q) (W:World) :Calls Tryz.prog 112 #[.agg #[.int .i64 p.1, .int .i64 p.2], .agg #[.int .i64 q.1, .int .i64 q.2]] W fun e w'=>e= .returned (.int .i64 (VN p q))∧∃q' os',w'=grow (W.drewN q') os':=by
 obtain ⟨⟨p1,p2⟩,p3,p4⟩ :=hp
 obtain ⟨⟨q1,q2⟩,q3,q4⟩ :=hq
 by_cases h:p.2=q.2
 ·have e:VN p q=wZ (p.1- q.1) :=if_pos h
  have hc:=kX (p.1- q.1)
  rw [e]
  generalize wZ (p.1- q.1) =r at hc⊢
  go_enter Tryz.func112,Tryz.ntmps112
  go_wp2_with (go_at_call 160;refine(hc _).mono ?_;rintro e w' ⟨rfl,rfl⟩)
  go_ret
  exact⟨rfl,0,_,by rw [alloc_eq_grow,alloc_eq_grow,grow_grow];rfl⟩
 ·have e:VN p q=wZ (p.2- q.2) :=if_neg h
  have hc:=kX (p.2- q.2)
  rw [e]
  generalize wZ (p.2- q.2) =r at hc⊢
  go_enter Tryz.func112,Tryz.ntmps112
  go_wp2_with (go_at_call 160;refine(hc _).mono ?_;rintro e w' ⟨rfl,rfl⟩)
  go_ret
  exact⟨rfl,0,_,by rw [alloc_eq_grow,alloc_eq_grow,grow_grow];rfl⟩
theorem zn {l r vs:List Value} :∀ {off:Nat},off+vs.length≤l.length→qB (l++r) off vs=qB l off vs++r:=by
 induction vs generalizing l with
 | nil=>intro off _;rfl
 | cons v vs ih=>
  intro off h
  simp only [jgD] at h
  rw [qB,qB,List.set_append_left _ _ Om]
  exact ih (by simp;omega)
end Go.Proofs.YtbahojdbmmjkcaaGreat
namespace Go.Proofs.YtbahojdbmmjkcaaGreat
open Go Go.RowKit
variable {B T m s:Nat} {r x:Option Addr×Nat} {v:Value} {w:World} {xs:List Value}
section
variable {P:Program} {n:Nat} {env:List (Nat×Value)} {w0:Bs} {Rs:List Res} {o:Oper} {Q:Exit→Act→World→Prop} {K:Act→World→Prop}
theorem jdO (h: (JQ B T s m xs x).P w) (h0:0<m) :x.1=some ⟨Vl x.1,0,none⟩ :=by
 have h:w.ownsRow B T s (.slice x.1 m x.2) m xs:=h
 rcases h.2 with⟨_,e⟩ |⟨g,cap,cur,e,_⟩
 ·omega
 ·injection e with e1
  rw [e1]
  rfl
theorem zf {i:Nat} (h: (JQ B T s m xs x).P w) (hv:xs[i]? =some v) :w.cell? ⟨Vl x.1,i,none⟩ =some v:=by
 have h:w.ownsRow B T s (.slice x.1 m x.2) m xs:=h
 have hi:= (List.getElem?_eq_some_iff.1 hv).1
 rcases h.2 with⟨_,e⟩ |⟨g,cap,cur,e,hb,hg,hcap,hmax,hsz,htk⟩
 ·have:=h.1
  rw [e,Nat.zero_mul] at this
  omega
 ·injection e with e1
  rw [e1,Vl,cell_of_row w g i cur T (0,0) hg]
  have h1:=h.1
  rw [←htk,List.getElem?_take,if_pos Om] at hv
  simpa using hv
theorem WW {α:Type} (f:α→List Value) (hf:∀a,(f a).length=m) {l:List α} {k off:Nat} {a a':α} (hk:l[k]? =some a) (pre old vs post:List Value) (h1:f a=pre++old++post) (h2:f a'=pre++vs++post) (hl:old.length=vs.length) (ho:off=k*m+pre.length) :qB (l.flatMap f) off vs= (l.set k a').flatMap f:=by
 obtain ⟨hj,e⟩ :=List.getElem?_eq_some_iff.1 hk
 have e1:l=l.take k++a::l.drop (k+1) :=by rw [←e,←jg3 hj,jgI]
 have e2:l.set k a'=l.take k++a'::l.drop (k+1) :=List.set_eq_take_append_cons_drop .. |>.trans (if_pos hj)
 have e3: ((l.take k).flatMap f).length=k*m:=by rw [VO f m hf,jgJ,jhu Om]
 have s:=uZ vs ((l.take k).flatMap f++pre) old (post++ (l.drop (k+1)).flatMap f) hl
 rw [jgv,e3,←ho] at s
 rw [e2,jgG,jgU,h2]
 conv=>lhs;rw [e1,jgG,jgU,h1]
 simp only [jgB] at s⊢
 exact s
theorem Eb {j:Nat} (h: (JQ B T s m xs x).P w) (hj:j≤m) :Src s (sliced x.1 0 j x.2 s) j (xs.take (j*s)) w:=by
 have h:w.ownsRow B T s (.slice x.1 m x.2) m xs:=h
 have hm:j*s≤m*s:=Nat.mul_le_mul_right s hj
 refine⟨by rw [jgJ,h.1];omega,?_⟩
 rcases h.2 with⟨e,e0⟩ |⟨g,cap,cur,e,hb,hg,hcap,hmax,hsz,htk⟩
 ·left
  have hj0:j=0:=by omega
  injection e with e1 _ e3
  rw [e1,e3,hj0]
  exact⟨rfl,rfl⟩
 ·right
  injection e with e1 _ e3
  refine⟨⟨g,0,none⟩,x.2,?_,fun q u hu=> ?_⟩
  ·rw [e1]
   unfold sliced
   split
   ·rfl
   ·simp [QJ]
  ·have hq:= (List.getElem?_eq_some_iff.1 hu).1
   rw [jgJ] at hq
   rw [List.getElem?_take,if_pos Om,←htk,List.getElem?_take,if_pos (by have:=h.1;omega)] at hu
   rw [QJ,jgT,cell_of_row w g q cur T (0,0) hg]
   simpa using hu
theorem Ea {j:Nat} (h: (JQ B T s m xs x).P w) (hj:j≤m) :Src s (sliced x.1 j m x.2 s) (m- j) (xs.drop (j*s)) w:=by
 have h:w.ownsRow B T s (.slice x.1 m x.2) m xs:=h
 refine⟨by rw [jgQ,h.1,Nat.sub_mul],?_⟩
 rcases h.2 with⟨e,e0⟩ |⟨g,cap,cur,e,hb,hg,hcap,hmax,hsz,htk⟩
 ·left
  subst e0
  have hj0:j=0:=by omega
  injection e with e1 _ e3
  rw [e1,e3,hj0]
  exact⟨rfl,rfl⟩
 ·right
  injection e with e1 _ e3
  by_cases hz:x.2=j
  ·refine⟨⟨g,0,none⟩,x.2- j,by rw [e1];unfold sliced;rw [if_pos hz],fun q u hu=> ?_⟩
   have hq:= (List.getElem?_eq_some_iff.1 hu).1
   have hjm:j=m:=by omega
   rw [jgQ,h.1,hjm] at hq
   omega
  ·refine⟨⟨g,0+j*s,none⟩,x.2- j,by rw [e1];unfold sliced;rw [if_neg hz];simp [QJ],fun q u hu=> ?_⟩
   have hq:= (List.getElem?_eq_some_iff.1 hu).1
   rw [jgQ,h.1] at hq
   rw [List.getElem?_drop,←htk,List.getElem?_take,if_pos Om] at hu
   rw [QJ,jgT,cell_of_row w g _ cur T (0,0) hg]
   simpa using hu
theorem WE {U:Nat} {x y:Operand} {k q off:Nat} {cs vs:List Value} (ho:o.op= .store T x y) (hd:o.dst=none) (hx:ev env x=some (.pointer (some ⟨Vl r.1,off,none⟩))) (hy:ev env y=some v) (hv:v.cells=vs.toArray) (h1:vs.all (·.oneCell') =true) (hz: (P.info? T).map (·.size) =some m) (hm:vs.length=m) (hk:Rs[k]? =some (JQ B U s q cs r)) (h0:0<vs.length) (hlt:off+vs.length≤cs.length) (h:At n env w0 (Rs.set k (JQ B U s q (qB cs off vs) r)) K) :At n env w0 Rs (fun a w=>o.wp P a w K Q) :=fun a w hf hs=>by
 have hr:w.ownsRow B U s (.slice r.1 q r.2) q cs:= (hs.all k _ hk).1
 have hlow:=fun b hb=> (hs.all k _ hk).2.1 b hb
 rcases hr.2 with⟨_,e0⟩ |⟨g,cap,cur,e,hb,hg,hcap,hmax,hsz,htk⟩
 ·have:=hr.1
  rw [e0,Nat.zero_mul] at this
  omega
 ·injection e with e1 _ e3
  have hgb:Vl r.1=g:=by rw [e1];rfl
  rw [hgb] at hx
  have hcl:cs.length=q*s:=hr.1
  have hcur:cur.toList=cs++cur.toList.drop (q*s) :=by rw [←htk,jgI]
  have hlen:cs.length≤cur.toList.length:=by rw [hcur,jgv];omega
  have hh:w.heap[g]? =some (.cells cur.toList.toArray U (0,0)) :=by rw [jhB];exact hg
  have hso: (sizeOf T).run P w= .ok m w:=by
   obtain ⟨i,hi,hs'⟩ :=jhW.1 hz
   simp [sizeOf,typeInfo,hi,hs']
  have hst:=wY (P:=P) vs off 0 cur.toList w hh Om h1
  have hrun: (execOp a.eval o).run P w= .ok .skip (w.setRow g (qB cur.toList off vs).toArray) :=by
   unfold execOp
   simp only [ho,hf.ev hx,hf.ev hy,Instr.storeAt,Instr.sureAddr,storeVar,hv]
   simp only [Sem.run_bind,Sem.run_pure,Result.andThen_ok,hso]
   have:¬(vs.toArray.size≠m) :=by simp [hm]
   simp only [this,if_false,hst,Result.andThen_ok]
   rfl
  show o.upon P a K Q ((execOp a.eval o).run P w)
  rw [hrun,Oper.upon_skip,hd]
  refine h _ _ hf (hs.upd hk ⟨by simpa using hs.over.os,by simpa using hs.over.tape,by simpa using hs.over.output,by simpa using hs.over.size,fun c hc hx'=> ?_⟩ (by simp) (fun c _ hne=>setRow_other w g c _ (fun e=>hne (by rw [e];show Value.ownBlock (.slice r.1 q r.2) =some g;rw [e1];rfl))) ?_ (fun c hc=> .inl hc) J)
  ·have:=hlow g (by show Value.ownBlock (.slice r.1 q r.2) =some g;rw [e1];rfl)
   rw [setRow_other w g c _ (fun e=>this.elim (fun h1=>by omega) (fun h1=>hx' (e▸h1)))]
   exact hs.over.block c hc hx'
  ·refine⟨by rw [QE];exact hr.1, .inr ⟨g,cap,(qB cur.toList off vs).toArray,by rw [e1,e3],hb,setRow_heap w g _ _ U (0,0) hg,hcap,hmax,by simp [QE,hsz],?_⟩⟩
   rw [jhw,hcur,zn Om,List.take_left' (by rw [QE];exact hr.1)]
end
end Go.Proofs.YtbahojdbmmjkcaaGreat
namespace Go.Proofs.YtbahojdbmmjkcaaGreat
open Go Go.Shelf
def yT:Go.Shelf.Ren:=⟨fun | 6=>182 | 15=>168 | 14=>233 | 28=>226 | 29=>227 | 20=>259 | 21=>260 | 22=>261 | 23=>262 | 24=>263 | 25=>264 | 26=>265 | 27=>266 | 46=>277 | 47=>252 | 48=>253 | 49=>278 | 50=>279 | 57=>282 | n=>n,fun | 22=>93 | 24=>96 | 25=>220 | 3=>3 | 39=>184 | 0=>0 | 53=>252 | 55=>139 | 4=>4 | 46=>246 | 45=>245 | 50=>199 | 5=>5 | 9=>9 | 66=>280 | 70=>284 | 76=>298 | 77=>299 | n=>n,fun | n=>n⟩
theorem jb6:Go.Proofs.SlLaysF0.n6 Tryz.prog yT:= {
 mixed:=by kernel_rfl
 f6:=⟨Tryz.f182.name,by decide,Tryz.func182.trans (congrArg some Kr)⟩
 f14:=⟨Tryz.f233.name,by decide,Tryz.func233.trans (congrArg some Kr)⟩
 f15:=Tryz.func168.trans (congrArg some Kr)
 f20:=⟨Tryz.f259.name,by decide,Tryz.func259.trans (congrArg some Kr)⟩
 f21:=⟨Tryz.f260.name,by decide,Tryz.func260.trans (congrArg some Kr)⟩
 f22:=⟨Tryz.f261.name,by decide,Tryz.func261.trans (congrArg some Kr)⟩
 f23:=⟨Tryz.f262.name,by decide,Tryz.func262.trans (congrArg some Kr)⟩
 f24:=⟨Tryz.f263.name,by decide,Tryz.func263.trans (congrArg some Kr)⟩
 f25:=⟨Tryz.f264.name,by decide,Tryz.func264.trans (congrArg some Kr)⟩
 f26:=⟨Tryz.f265.name,by decide,Tryz.func265.trans (congrArg some Kr)⟩
 f27:=⟨Tryz.f266.name,by decide,Tryz.func266.trans (congrArg some Kr)⟩
 f28:=Tryz.func226.trans (congrArg some Kr)
 f29:=Tryz.func227.trans (congrArg some Kr)
 f46:=⟨Tryz.f277.name,by decide,Tryz.func277.trans (congrArg some Kr)⟩
 f47:=Tryz.func252.trans (congrArg some Kr)
 f48:=Tryz.func253.trans (congrArg some Kr)
 f49:=⟨Tryz.f278.name,by decide,Tryz.func278.trans (congrArg some Kr)⟩
 f50:=⟨Tryz.f279.name,by decide,Tryz.func279.trans (congrArg some Kr)⟩
 f57:=⟨Tryz.f282.name,by decide,Tryz.func282.trans (congrArg some Kr)⟩
 t0:=Tryz.underlying0
 a0:=Tryz.isAgg0
 z0:=Tryz.sizeOf0
 v0:=Tryz.zeroValue0
 t3:=Tryz.underlying3
 a3:=Tryz.isAgg3
 z3:=Tryz.sizeOf3
 v3:=Tryz.zeroValue3
 t4:=Tryz.underlying4
 a4:=Tryz.isAgg4
 z4:=Tryz.sizeOf4
 v4:=Tryz.zeroValue4
 t5:=Tryz.underlying5
 a5:=Tryz.isAgg5
 z5:=Tryz.sizeOf5
 v5:=Tryz.zeroValue5
 t9:=Tryz.underlying9
 a9:=Tryz.isAgg9
 z9:=Tryz.sizeOf9
 v9:=Tryz.zeroValue9
 t22:=Tryz.underlying93
 a22:=Tryz.isAgg93
 z22:=Tryz.sizeOf93
 v22:=Tryz.zeroValue93
 t25:=Tryz.underlying220
 a25:=Tryz.isAgg220
 z25:=Tryz.sizeOf220
 v25:=Tryz.zeroValue220
 t39:=Tryz.underlying184
 a39:=Tryz.isAgg184
 z39:=Tryz.sizeOf184
 v39:=Tryz.zeroValue184
 t45:=Tryz.underlying245
 a45:=Tryz.isAgg245
 z45:=Tryz.sizeOf245
 v45:=Tryz.zeroValue245
 t46:=Tryz.underlying246
 a46:=Tryz.isAgg246
 z46:=Tryz.sizeOf246
 v46:=Tryz.zeroValue246
 t50:=Tryz.underlying199
 a50:=Tryz.isAgg199
 z50:=Tryz.sizeOf199
 v50:=Tryz.zeroValue199
 t53:=Tryz.underlying252
 a53:=Tryz.isAgg252
 z53:=Tryz.sizeOf252
 v53:=Tryz.zeroValue252
 t55:=Tryz.underlying139
 a55:=Tryz.isAgg139
 z55:=Tryz.sizeOf139
 v55:=Tryz.zeroValue139
 t66:=Tryz.underlying280
 a66:=Tryz.isAgg280
 z66:=Tryz.sizeOf280
 v66:=Tryz.zeroValue280
 t70:=Tryz.underlying284
 a70:=Tryz.isAgg284
 z70:=Tryz.sizeOf284
 v70:=Tryz.zeroValue284
 t76:=Tryz.underlying298
 a76:=Tryz.isAgg298
 z76:=Tryz.sizeOf298
 v76:=Tryz.zeroValue298
 t77:=Tryz.underlying299
 a77:=Tryz.isAgg299
 z77:=Tryz.sizeOf299
 v77:=Tryz.zeroValue299}
end Go.Proofs.YtbahojdbmmjkcaaGreat
