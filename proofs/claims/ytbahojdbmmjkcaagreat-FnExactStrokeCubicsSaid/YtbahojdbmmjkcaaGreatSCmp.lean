import Derived.Test.YtbahojdbmmjkcaaGreatSHot
import Derived.Shelf.SlSortCmp.WholeK
import Derived.Test.YtbahojdbmmjkcaaGreatSValidRegion
import Derived.Test.YtbahojdbmmjkcaaGreatSOwn
import Derived.Test.YtbahojdbmmjkcaaGreatSSnapped
import Derived.Test.YtbahojdbmmjkcaaGreatSSimp
import Derived.Test.YtbahojdbmmjkcaaGreatSTo
set_option linter.unusedVariables false
set_option linter.unusedSimpArgs false
namespace Go.Proofs.YtbahojdbmmjkcaaGreat
open Go Go.Shelf Go.RowKit Go.Lib Go.Sort
def VZ (p q:Pn) :Int:=if p.2=q.2 then Wv (p.1- q.1) else Wv (p.2- q.2)
theorem ME (p q:Pn) :VZ p q<0↔ww p q:=by
 have h1:=uz (p.1- q.1)
 have h2:=uz (p.2- q.2)
 unfold VZ ww
 split<;>omega
set_option maxHeartbeats 1000000 in
theorem UA (p q:Pn) (hp:YZ p) (hq:YZ q) (W:World) :Calls Tryz.prog 112 #[.agg #[.int .i64 p.1, .int .i64 p.2], .agg #[.int .i64 q.1, .int .i64 q.2]] W fun e w'=>e= .returned (.int .i64 (VZ p q))∧∃q' os',w'=grow (W.drewN q') os':=by
 obtain ⟨⟨p1,p2⟩,p3,p4⟩ :=hp
 obtain ⟨⟨q1,q2⟩,q3,q4⟩ :=hq
 by_cases h:p.2=q.2
 ·have e:VZ p q=Wv (p.1- q.1) :=if_pos h
  have hc:=Ku (p.1- q.1)
  rw [e]
  generalize Wv (p.1- q.1) =r at hc⊢
  go_enter Tryz.func112,Tryz.ntmps112
  go_wp2_with (go_at_call 160;refine(hc _).mono ?_;rintro e w' ⟨rfl,rfl⟩)
  go_ret
  exact⟨rfl,0,_,by rw [alloc_eq_grow,alloc_eq_grow,grow_grow];rfl⟩
 ·have e:VZ p q=Wv (p.2- q.2) :=if_neg h
  have hc:=Ku (p.2- q.2)
  rw [e]
  generalize Wv (p.2- q.2) =r at hc⊢
  go_enter Tryz.func112,Tryz.ntmps112
  go_wp2_with (go_at_call 160;refine(hc _).mono ?_;rintro e w' ⟨rfl,rfl⟩)
  go_ret
  exact⟨rfl,0,_,by rw [alloc_eq_grow,alloc_eq_grow,grow_grow];rfl⟩
theorem Zc {l r vs:List Value} :∀ {off:Nat},off+vs.length≤l.length→qL (l++r) off vs=qL l off vs++r:=by
 induction vs generalizing l with
 | nil=>intro off _;rfl
 | cons v vs ih=>
  intro off h
  simp only [jij] at h
  rw [qL,qL,List.set_append_left _ _ Om]
  exact ih (by simp;omega)
end Go.Proofs.YtbahojdbmmjkcaaGreat
namespace Go.Proofs.YtbahojdbmmjkcaaGreat
open Go Go.RowKit
variable {B T b k m off s:Nat} {Rs:List Res} {r x:Option Addr×Nat} {v:Value} {w:World} {xs z:List Value}
section
variable {P:Program} {n:Nat} {env:List (Nat×Value)} {w0:Bs} {Rs:List Res} {o:Oper} {Q:Exit→Act→World→Prop} {K:Act→World→Prop}
theorem C2 (h: (JS B T s m xs x).P w) (h0:0<m) :x.1=some ⟨VW x.1,0,none⟩ :=by
 have h:w.ownsRow B T s (.slice x.1 m x.2) m xs:=h
 rcases h.2 with⟨_,e⟩ |⟨g,cap,cur,e,_⟩
 ·omega
 ·injection e with e1
  rw [e1]
  rfl
theorem zW {i:Nat} (h: (JS B T s m xs x).P w) (hv:xs[i]? =some v) :w.cell? ⟨VW x.1,i,none⟩ =some v:=by
 have h:w.ownsRow B T s (.slice x.1 m x.2) m xs:=h
 have hi:= (List.getElem?_eq_some_iff.1 hv).1
 rcases h.2 with⟨_,e⟩ |⟨g,cap,cur,e,hb,hg,hcap,hmax,hsz,htk⟩
 ·have:=h.1
  rw [e,Nat.zero_mul] at this
  omega
 ·injection e with e1
  rw [e1,VW,cell_of_row w g i cur T (0,0) hg]
  have h1:=h.1
  rw [←htk,List.getElem?_take,if_pos Om] at hv
  simpa using hv
theorem UC {α:Type} (f:α→List Value) (hf:∀a,(f a).length=m) {l:List α} {a a':α} (hk:l[k]? =some a) (pre old vs post:List Value) (h1:f a=pre++old++post) (h2:f a'=pre++vs++post) (hl:old.length=vs.length) (ho:off=k*m+pre.length) :qL (l.flatMap f) off vs= (l.set k a').flatMap f:=by
 obtain ⟨hj,e⟩ :=List.getElem?_eq_some_iff.1 hk
 have e1:l=l.take k++a::l.drop (k+1) :=by rw [←e,←jiR hj,jiq]
 have e2:l.set k a'=l.take k++a'::l.drop (k+1) :=List.set_eq_take_append_cons_drop .. |>.trans (if_pos hj)
 have e3: ((l.take k).flatMap f).length=k*m:=by rw [vS f m hf,jim,jiZ Om]
 have s:=W3 vs ((l.take k).flatMap f++pre) old (post++ (l.drop (k+1)).flatMap f) hl
 rw [jid,e3,←ho] at s
 rw [e2,jii,jiA,h2]
 conv=>lhs;rw [e1,jii,jiA,h1]
 simp only [jil] at s⊢
 exact s
theorem ja4 {j:Nat} (h: (JS B T s m xs x).P w) (hj:j≤m) :Src s (sliced x.1 0 j x.2 s) j (xs.take (j*s)) w:=by
 have h:w.ownsRow B T s (.slice x.1 m x.2) m xs:=h
 have hm:j*s≤m*s:=Nat.mul_le_mul_right s hj
 refine⟨by rw [jim,h.1];omega,?_⟩
 rcases h.2 with⟨e,e0⟩ |⟨g,cap,cur,e,hb,hg,hcap,hmax,hsz,htk⟩
 ·left
  have hj0:j=0:=by omega
  injection e with e1 _ e3
  rw [e1,e3,hj0]
  exact⟨rfl,rfl⟩
 ·right
  injection e with e1 _ e3
  refine⟨⟨g,0,none⟩,x.2,?_,fun q u hu=> ?_⟩
  ·rw [e1]
   unfold sliced
   split
   ·rfl
   ·simp [Q1]
  ·have hq:= (List.getElem?_eq_some_iff.1 hu).1
   rw [jim] at hq
   rw [List.getElem?_take,if_pos Om,←htk,List.getElem?_take,if_pos (by have:=h.1;omega)] at hu
   rw [Q1,jiB,cell_of_row w g q cur T (0,0) hg]
   simpa using hu
theorem Hi {j:Nat} (h: (JS B T s m xs x).P w) (hj:j≤m) :Src s (sliced x.1 j m x.2 s) (m- j) (xs.drop (j*s)) w:=by
 have h:w.ownsRow B T s (.slice x.1 m x.2) m xs:=h
 refine⟨by rw [jiy,h.1,Nat.sub_mul],?_⟩
 rcases h.2 with⟨e,e0⟩ |⟨g,cap,cur,e,hb,hg,hcap,hmax,hsz,htk⟩
 ·left
  subst e0
  have hj0:j=0:=by omega
  injection e with e1 _ e3
  rw [e1,e3,hj0]
  exact⟨rfl,rfl⟩
 ·right
  injection e with e1 _ e3
  by_cases hz:x.2=j
  ·refine⟨⟨g,0,none⟩,x.2- j,by rw [e1];unfold sliced;rw [if_pos hz],fun q u hu=> ?_⟩
   have hq:= (List.getElem?_eq_some_iff.1 hu).1
   have hjm:j=m:=by omega
   rw [jiy,h.1,hjm] at hq
   omega
  ·refine⟨⟨g,0+j*s,none⟩,x.2- j,by rw [e1];unfold sliced;rw [if_neg hz];simp [Q1],fun q u hu=> ?_⟩
   have hq:= (List.getElem?_eq_some_iff.1 hu).1
   rw [jiy,h.1] at hq
   rw [List.getElem?_drop,←htk,List.getElem?_take,if_pos Om] at hu
   rw [Q1,jiB,cell_of_row w g _ cur T (0,0) hg]
   simpa using hu
theorem Ud {U:Nat} {x y:Operand} {q:Nat} {cs vs:List Value} (ho:o.op= .store T x y) (hd:o.dst=none) (hx:ev env x=some (.pointer (some ⟨VW r.1,off,none⟩))) (hy:ev env y=some v) (hv:v.cells=vs.toArray) (h1:vs.all (·.oneCell') =true) (hz: (P.info? T).map (·.size) =some m) (hm:vs.length=m) (hk:Rs[k]? =some (JS B U s q cs r)) (h0:0<vs.length) (hlt:off+vs.length≤cs.length) (h:At n env w0 (Rs.set k (JS B U s q (qL cs off vs) r)) K) :At n env w0 Rs (fun a w=>o.wp P a w K Q) :=fun a w hf hs=>by
 have hr:w.ownsRow B U s (.slice r.1 q r.2) q cs:= (hs.all k _ hk).1
 have hlow:=fun b hb=> (hs.all k _ hk).2.1 b hb
 rcases hr.2 with⟨_,e0⟩ |⟨g,cap,cur,e,hb,hg,hcap,hmax,hsz,htk⟩
 ·have:=hr.1
  rw [e0,Nat.zero_mul] at this
  omega
 ·injection e with e1 _ e3
  have hgb:VW r.1=g:=by rw [e1];rfl
  rw [hgb] at hx
  have hcl:cs.length=q*s:=hr.1
  have hcur:cur.toList=cs++cur.toList.drop (q*s) :=by rw [←htk,jiq]
  have hlen:cs.length≤cur.toList.length:=by rw [hcur,jid];omega
  have hh:w.heap[g]? =some (.cells cur.toList.toArray U (0,0)) :=by rw [jjd];exact hg
  have hso: (sizeOf T).run P w= .ok m w:=by
   obtain ⟨i,hi,hs'⟩ :=jjH.1 hz
   simp [sizeOf,typeInfo,hi,hs']
  have hst:=Wu (P:=P) vs off 0 cur.toList w hh Om h1
  have hrun: (execOp a.eval o).run P w= .ok .skip (w.setRow g (qL cur.toList off vs).toArray) :=by
   unfold execOp
   simp only [ho,hf.ev hx,hf.ev hy,Instr.storeAt,Instr.sureAddr,storeVar,hv]
   simp only [Sem.run_bind,Sem.run_pure,Result.andThen_ok,hso]
   have:¬(vs.toArray.size≠m) :=by simp [hm]
   simp only [this,if_false,hst,Result.andThen_ok]
   rfl
  show o.upon P a K Q ((execOp a.eval o).run P w)
  rw [hrun,Oper.upon_skip,hd]
  refine h _ _ hf (hs.upd hk ⟨by simpa using hs.over.os,by simpa using hs.over.tape,by simpa using hs.over.output,by simpa using hs.over.size,fun c hc hx'=> ?_⟩ (by simp) (fun c _ hne=>setRow_other w g c _ (fun e=>hne (by rw [e];show Value.ownBlock (.slice r.1 q r.2) =some g;rw [e1];rfl))) ?_ (fun c hc=> .inl hc) J)
  ·have:=hlow g (by show Value.ownBlock (.slice r.1 q r.2) =some g;rw [e1];rfl)
   rw [setRow_other w g c _ (fun e=>this.elim (fun h1=>by omega) (fun h1=>hx' (e▸h1)))]
   exact hs.over.block c hc hx'
  ·refine⟨by rw [qz];exact hr.1, .inr ⟨g,cap,(qL cur.toList off vs).toArray,by rw [e1,e3],hb,setRow_heap w g _ _ U (0,0) hg,hcap,hmax,by simp [qz,hsz],?_⟩⟩
   rw [jjj,hcur,Zc Om,List.take_left' (by rw [qz];exact hr.1)]
end
def Els {α:Type} (f:α→List Value) (m:Nat) (w:World) (A:Option Addr) (n:Nat) (l:List α) :Prop:=
 l.length=n∧(0<n→∃b o,A=some ⟨b,o,none⟩∧b<w.heap.size∧∀k x,l[k]? =some x→∀q v,(f x)[q]? =some v→w.cell? ⟨b,o+k*m+q,none⟩ =some v)
section
variable {α:Type} {f:α→List Value} {m n:Nat} {A:Option Addr} {l:List α}
theorem Els.over {w':World} (h:Els f m w A n l) (ho:Over w w') :Els f m w' A n l:=by
 refine⟨h.1,fun hn=> ?_⟩
 obtain ⟨b,o,hA,hlt,hc⟩ :=h.2 hn
 exact⟨b,o,hA,jio hlt ho.size,fun k x hk q v hv=> ((Jr ho).1 b _ hlt).trans (hc k x hk q v hv)⟩
theorem Els.at_ (h:Els f m w A n l) (hn:0<n) :∃b o,A=some ⟨b,o,none⟩∧b<w.heap.size:=by
 obtain ⟨b,o,hA,hlt,_⟩ :=h.2 hn
 exact⟨b,o,hA,hlt⟩
theorem Els.cell {o q:Nat} {x:α} (h:Els f m w (some ⟨b,o,none⟩) n l) (hk:l[k]? =some x) (hv: (f x)[q]? =some v) :b<w.heap.size∧w.cell? ⟨b,o+k*m+q,none⟩ =some v:=by
 have hlt:= (List.getElem?_eq_some_iff.1 hk).1
 obtain ⟨b',o',e,hb,hc⟩ :=h.2 (by have:=h.1;omega)
 injection e with e
 injection e with e1 e2 _
 subst e1 e2
 exact⟨hb,hc k x hk q v hv⟩
theorem jgV {o:Nat} {x:α} (vs:List Value) (i:Nat) (h:Els f m w (some ⟨b,o,none⟩) n l) (hk:l[k]? =some x) (hv:∀q v,vs[q]? =some v→(f x)[i+q]? =some v) (he:off=o+k*m+i) :∀w',St ⟨w,[]⟩ Rs w'→∀q v,vs[q]? =some v→w'.cell? ⟨b,off+q,none⟩ =some v:=fun w' hs q v hq=>by
 subst he
 have:= ((h.over hs.fin).cell hk (hv q v hq)).2
 rwa [←jji] at this
theorem Els.nil (A:Option Addr) (w:World) :Els f m w A 0 [] :=⟨rfl,fun h=>absurd h Om⟩
theorem Els.row (h: (JS B T m n (l.flatMap f) x).P w) (hf:∀a,(f a).length=m) (hl:l.length=n) :Els f m w x.1 n l:=by
 refine⟨hl,fun hn=>⟨VW x.1,0,C2 h hn,?_,fun k a hk q v hv=> ?_⟩⟩
 ·have h':w.ownsRow B T m (.slice x.1 n x.2) n (l.flatMap f) :=h
  rcases h'.2 with⟨_,e⟩ |⟨g,cap,cur,e,hb,hg,_⟩
  ·omega
  ·injection e with e1
   rw [e1]
   exact J4 hg
 ·obtain ⟨hj,e⟩ :=List.getElem?_eq_some_iff.1 hk
  refine zW h ?_
  have hi:= (List.getElem?_eq_some_iff.1 hv).1
  rw [jiB,y3 f m hf l k q hj (by rw [hf] at hi;exact hi),e]
  exact hv
theorem Els.cel (h: (Res.cel b T (l.flatMap f)).P w) (hf:∀a,(f a).length=m) (hl:l.length=n) :Els f m w (some ⟨b,0,none⟩) n l:=by
 have hh:w.heap[b]? =some (.cells (l.flatMap f).toArray T (0,0)) :=h
 refine⟨hl,fun hn=>⟨b,0,J,J4 hh,fun k a hk q v hv=> ?_⟩⟩
 obtain ⟨hj,e⟩ :=List.getElem?_eq_some_iff.1 hk
 have hi:= (List.getElem?_eq_some_iff.1 hv).1
 rw [cell_of_row w b _ _ T (0,0) hh,List.getElem?_toArray,jiB,y3 f m hf l k q hj (by rw [hf] at hi;exact hi),e]
 exact hv
theorem MI {w0:Bs} (hk:Rs[k]? =some (.cel b T (l.flatMap f))) (hf:∀a,(f a).length=m) (hl:l.length=n) :∀w,St w0 Rs w→Els f m w (some ⟨b,0,none⟩) n l:=fun w hs=>Els.cel (hs.all k _ hk).1 hf hl
def ZP (f:α→List Value) (z:List Value) (l:List α) (k:Nat) :List Value:= (l.take k).flatMap f++ (List.replicate (l.length- k) z).flatten
theorem NB (z:List Value) :ZP f z l 0= (List.replicate l.length z).flatten:=by simp [ZP]
theorem E4 (z:List Value) :ZP f z l l.length=l.flatMap f:=by simp [ZP]
theorem E5 (hf:∀a,(f a).length=m) (hz:z.length=m) (hk:k≤l.length) : (ZP f z l k).length=l.length*m:=by
 unfold ZP
 rw [jid,vS f m hf,jim,jiZ hk]
 have: (List.replicate (l.length- k) z).flatten.length= (l.length- k) *m:=by
  rw [List.length_flatten,List.map_replicate,hz,List.sum_replicate_nat]
 rw [this,←Nat.add_mul]
 congr 1
 omega
theorem NA (hf:∀a,(f a).length=m) (hz:z.length=m) {x:α} (hk:l[k]? =some x) (he:off=0+k*m) :qL (ZP f z l k) off (f x) =ZP f z l (k+1) :=by
 obtain ⟨hj,e⟩ :=List.getElem?_eq_some_iff.1 hk
 unfold ZP
 have e1:l.length- k= (l.length- (k+1)) +1:=by omega
 have e3: ((l.take k).flatMap f).length=k*m:=by rw [vS f m hf,jim,jiZ Om]
 rw [e1,List.replicate_succ,List.flatten_cons]
 have s:=W3 (f x) ((l.take k).flatMap f) z (List.replicate (l.length- (k+1)) z).flatten (by rw [hf,hz])
 rw [e3,←jiB (k*m),←he] at s
 rw [←jil,s,jik hj,jii,e]
 simp
end
end Go.Proofs.YtbahojdbmmjkcaaGreat
namespace Go.Proofs.YtbahojdbmmjkcaaGreat
open Go Go.Shelf
def Yi:Go.Shelf.Ren:=⟨fun | 6=>111 | 15=>168 | 14=>167 | 28=>226 | 29=>227 | 20=>218 | 21=>219 | 22=>220 | 23=>221 | 24=>222 | 25=>223 | 26=>224 | 27=>225 | 46=>251 | 47=>252 | 48=>253 | 49=>254 | 50=>255 | 57=>274 | n=>n,fun | 22=>58 | 24=>28 | 25=>159 | 3=>3 | 39=>184 | 0=>0 | 53=>252 | 55=>139 | 4=>4 | 46=>246 | 45=>245 | 50=>199 | 5=>5 | 9=>9 | 66=>280 | 70=>284 | 76=>298 | 77=>299 | n=>n,fun | n=>n⟩
theorem jdH:Go.Proofs.SlLaysF0.n6 Tryz.prog Yi:= {
 mixed:=by kernel_rfl
 f6:=⟨Tryz.f111.name,by decide,Tryz.func111.trans (congrArg some Kr)⟩
 f14:=⟨Tryz.f167.name,by decide,Tryz.func167.trans (congrArg some Kr)⟩
 f15:=Tryz.func168.trans (congrArg some Kr)
 f20:=⟨Tryz.f218.name,by decide,Tryz.func218.trans (congrArg some Kr)⟩
 f21:=⟨Tryz.f219.name,by decide,Tryz.func219.trans (congrArg some Kr)⟩
 f22:=⟨Tryz.f220.name,by decide,Tryz.func220.trans (congrArg some Kr)⟩
 f23:=⟨Tryz.f221.name,by decide,Tryz.func221.trans (congrArg some Kr)⟩
 f24:=⟨Tryz.f222.name,by decide,Tryz.func222.trans (congrArg some Kr)⟩
 f25:=⟨Tryz.f223.name,by decide,Tryz.func223.trans (congrArg some Kr)⟩
 f26:=⟨Tryz.f224.name,by decide,Tryz.func224.trans (congrArg some Kr)⟩
 f27:=⟨Tryz.f225.name,by decide,Tryz.func225.trans (congrArg some Kr)⟩
 f28:=Tryz.func226.trans (congrArg some Kr)
 f29:=Tryz.func227.trans (congrArg some Kr)
 f46:=⟨Tryz.f251.name,by decide,Tryz.func251.trans (congrArg some Kr)⟩
 f47:=Tryz.func252.trans (congrArg some Kr)
 f48:=Tryz.func253.trans (congrArg some Kr)
 f49:=⟨Tryz.f254.name,by decide,Tryz.func254.trans (congrArg some Kr)⟩
 f50:=⟨Tryz.f255.name,by decide,Tryz.func255.trans (congrArg some Kr)⟩
 f57:=⟨Tryz.f274.name,by decide,Tryz.func274.trans (congrArg some Kr)⟩
 t0:=Tryz.underlying0
 a0:=Tryz.isAgg0
 z0:=Tryz.sizeOf0
 v0:=Tryz.zeroValue0
 t3:=Tryz.underlying3
 a3:=Tryz.isAgg3
 z3:=Tryz.sizeOf3
 v3:=Tryz.zeroValue3
 t4:=Tryz.underlying4
 a4:=Tryz.isAgg4
 z4:=Tryz.sizeOf4
 v4:=Tryz.zeroValue4
 t5:=Tryz.underlying5
 a5:=Tryz.isAgg5
 z5:=Tryz.sizeOf5
 v5:=Tryz.zeroValue5
 t9:=Tryz.underlying9
 a9:=Tryz.isAgg9
 z9:=Tryz.sizeOf9
 v9:=Tryz.zeroValue9
 t22:=Tryz.underlying58
 a22:=Tryz.isAgg58
 z22:=Tryz.sizeOf58
 v22:=Tryz.zeroValue58
 t25:=Tryz.underlying159
 a25:=Tryz.isAgg159
 z25:=Tryz.sizeOf159
 v25:=Tryz.zeroValue159
 t39:=Tryz.underlying184
 a39:=Tryz.isAgg184
 z39:=Tryz.sizeOf184
 v39:=Tryz.zeroValue184
 t45:=Tryz.underlying245
 a45:=Tryz.isAgg245
 z45:=Tryz.sizeOf245
 v45:=Tryz.zeroValue245
 t46:=Tryz.underlying246
 a46:=Tryz.isAgg246
 z46:=Tryz.sizeOf246
 v46:=Tryz.zeroValue246
 t50:=Tryz.underlying199
 a50:=Tryz.isAgg199
 z50:=Tryz.sizeOf199
 v50:=Tryz.zeroValue199
 t53:=Tryz.underlying252
 a53:=Tryz.isAgg252
 z53:=Tryz.sizeOf252
 v53:=Tryz.zeroValue252
 t55:=Tryz.underlying139
 a55:=Tryz.isAgg139
 z55:=Tryz.sizeOf139
 v55:=Tryz.zeroValue139
 t66:=Tryz.underlying280
 a66:=Tryz.isAgg280
 z66:=Tryz.sizeOf280
 v66:=Tryz.zeroValue280
 t70:=Tryz.underlying284
 a70:=Tryz.isAgg284
 z70:=Tryz.sizeOf284
 v70:=Tryz.zeroValue284
 t76:=Tryz.underlying298
 a76:=Tryz.isAgg298
 z76:=Tryz.sizeOf298
 v76:=Tryz.zeroValue298
 t77:=Tryz.underlying299
 a77:=Tryz.isAgg299
 z77:=Tryz.sizeOf299
 v77:=Tryz.zeroValue299}
end Go.Proofs.YtbahojdbmmjkcaaGreat
namespace Go.Proofs.YtbahojdbmmjkcaaGreat
open Go Go.RowKit
theorem Eu {l:Int} {n:Nat} (h:0≤szV l n) : (n:Int)≤l∧szV l n=l- n:=by
 unfold szV at*
 split
 ·exact⟨by assumption,rfl⟩
 ·rename_i h2;rw [if_neg h2] at h;omega
theorem IU (A:Option Addr) (n c:Nat) (xs:List (Int×Int)) (w1:World) (h:Pts w1 A n xs) (hn: (n:Int)≤1048576) :
  Calls Tryz.prog 31 #[.slice A n c] w1 fun e w'=>∃x:Nat×Nat×Nat,e= .returned (.slice (some ⟨x.1,0,none⟩) n n)∧Over w1 w'∧(Ye n xs x.2.1 x.2.2 (some ⟨x.1,0,none⟩)).P w'∧(∀b,(Ye n xs x.2.1 x.2.2 (some ⟨x.1,0,none⟩)).F b→w1.heap.size≤b)∧(Ye n xs x.2.1 x.2.2 (some ⟨x.1,0,none⟩)).B=0∧True:=by
 have hl:xs.length=n:=h.1
 subst hl
 refine(jba A _ c xs w1 h hn).mono ?_
 rintro e w' ⟨g,rfl,hg,ho,hO⟩
 refine⟨(g,w1.heap.size,w'.heap.size),J,hO,jc4 ?_ (jif _),fun b hb=>hb.1,sz⟩
 obtain ⟨⟨cs,hs,hh⟩,hl,hx⟩ :=ho
 refine⟨J,fun h0=>⟨g,0,_,cs,J,hg,J4 hh,hh,fun k hk=> ?_⟩⟩
 obtain ⟨b,o,e,_,hc⟩ :=hx h0
 injection e with e
 injection e with e1 e2
 subst e1 e2
 have:=hc k hk
 rwa [cell_of_row w' _ _ _ _ (0,0) hh,cell_of_row w' _ _ _ _ (0,0) hh] at this
theorem jcw (m:Int) {lo hi n c:Nat} {A:Option Addr} {xs:List (Int×Int)} {w:World} (h:OwnP lo hi w A n xs) (hz:hi≤w.heap.size) (hm:0≤m) (hb:m+2* (n:Int)≤4611686018427387904) :
  Calls Tryz.prog 36 #[.slice A n c, .int .i64 m] w fun e w'=>e= .returned (.int .i64 (m+2* (n:Int)))∧Wrs (Ye n xs lo hi A).F w w'∧(Ye n (WK m n) lo hi A).P w':=
 (HX lo hi A n c xs m w h hm hb).mono (by rintro e w' ⟨he,hw,hg⟩;exact⟨he,hw.mono fun _ h=>h.2.2,jc4 hg (jiY hz hw.size)⟩)
end Go.Proofs.YtbahojdbmmjkcaaGreat
