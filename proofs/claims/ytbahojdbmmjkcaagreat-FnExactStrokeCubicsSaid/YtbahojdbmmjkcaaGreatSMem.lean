import Derived.Test.YtbahojdbmmjkcaaGreatProg
import Derived.WalkKit
import Derived.KernelRfl
import Derived.Lib.Hide
import Derived.Test.YtbahojdbmmjkcaaGreatRows
import Derived.ProofKit
import Derived.OpenShut
import Derived.ChangeOld
import Derived.Below
import Derived.Lib.SmallJoins
import Derived.Deep.Slices
set_option linter.unusedVariables false
set_option linter.unusedSimpArgs false
namespace Go.Proofs.YtbahojdbmmjkcaaGreat
open Go Go.RowKit
variable {A:Option Addr} {a w w':World} {b:Bool} {p:Prop} {xs:List (Int×Int)} {α:Type _}
theorem jY [Decidable p] : (decide p=true) =p:=decide_eq_true_eq
theorem jZ [Decidable p] :decide p=false↔¬p:=decide_eq_false_iff_not
theorem j4 [BEq α] [LawfulBEq α] {a b:α} : (a==b) =true↔a=b:=beq_iff_eq
theorem j5 [BEq α] [LawfulBEq α] {a b:α} : (a==b) =false↔a≠b:=beq_eq_false_iff_ne
theorem j6 : (!b) =true↔b=false:=by cases b<;>simp
theorem j7 : (!b) =false↔b=true:=by cases b<;>simp
theorem j8 {a b:Int} :¬a<b↔b≤a:=Int.not_lt
theorem Ja {a b:Int} :¬a≤b↔b<a:=Int.not_le
theorem Jb {a b:Nat} :¬a<b↔b≤a:=Nat.not_lt
theorem Jc {a b:Nat} :¬a≤b↔b<a:=Nat.not_le
theorem jP (s:List α) : [] ++s=s:=rfl
theorem jQ (a:α) (s t:List α) : (a::s) ++t=a:: (s++t) :=rfl
theorem jN (a b:α) (s:List α) : (a::s).set 0 b=b::s:=rfl
theorem jO (a b:α) (s:List α) (n:Nat) : (a::s).set (n+1) b=a::s.set n b:=rfl
theorem Jm (s:List α) :s.toArray.toList=s:=rfl
theorem qt (s:List α) (i:Nat) :s.toArray[i]? =s[i]? :=List.getElem?_toArray
theorem qv (a:α) (s:List α) : (a::s)[0]? =some a:=rfl
theorem qE (a:α) (s:List α) (i:Nat) : (a::s)[i+1]? =s[i]? :=rfl
theorem qC (s:List α) (i:Nat) (a:α) :s.toArray.setIfInBounds i a= (s.set i a).toArray:=List.setIfInBounds_toArray ..
def Over (w w':World) :Prop:=Below w.heap.size w w'
theorem Over.out (h:Over w w') :Below w.heap.size w w':=h
theorem Over.refl (w:World) :Over w w:=Below.refl _ _
theorem Over.trans {b:World} (h:Over w a) (k:Over a b) :Over w b:=Below.trans h (Below.mono k (Below.size h))
theorem Over.alloc (w:World) (o:Obj) :Over w (w.alloc o) := (Below.refl _ _).alloc (Nat.le_refl _) o
theorem Over.alloc_ (h:Over w a) (o:Obj) :Over w (a.alloc o) :=h.trans (Over.alloc a o)
theorem Over.drew_ (h:Over w a) :Over w a.drew:=Below.drew h
theorem Over.set_ (h:Over w a) {p:Addr} (hp:w.heap.size≤p.block) (u:Value) :Over w (a.setCell p u) :=Below.setCell h hp u
theorem Over.size (h:Over w w') :w.heap.size≤w'.heap.size:=Below.size h
theorem Jr {W w1:World} (hb:Over W w1) : (∀b o,b<W.heap.size→w1.cell? ⟨b,o,none⟩ =W.cell? ⟨b,o,none⟩)∧(∀b o,b<W.heap.size→w1.frozen? ⟨b,o,none⟩ =W.frozen? ⟨b,o,none⟩) :=
 ⟨fun b o h=>Below.cell (p:=⟨b,o,none⟩) hb h,fun b o h=>Below.frozen (p:=⟨b,o,none⟩) hb h⟩
abbrev ub (x y:Int) :Value:= .agg #[.int .i64 x, .int .i64 y]
def px (xs:List (Int×Int)) (k:Nat) :Int:= (xs.getD k (0,0)).1
def py (xs:List (Int×Int)) (k:Nat) :Int:= (xs.getD k (0,0)).2
theorem U5 {k:Nat} (h:k<xs.length) :xs[k] = (px xs k,py xs k) :=by
 simp [px,py,List.getD,List.getElem?_eq_getElem h]
def Pts (w:World) (A:Option Addr) (n:Nat) (xs:List (Int×Int)) :Prop:=
 xs.length=n∧(0<n→∃b o,A=some ⟨b,o,none⟩∧b<w.heap.size∧∀k,k<n→w.cell? ⟨b,o+k*2,none⟩ =some (.int .i64 (px xs k))∧w.cell? ⟨b,o+k*2+1,none⟩ =some (.int .i64 (py xs k)))
theorem Pts.over {n:Nat} (h:Pts w A n xs) (hb:Over w w') :Pts w' A n xs:=by
 refine⟨h.1,fun hn=> ?_⟩
 obtain ⟨b,o,hA,hlt,hc⟩ :=h.2 hn
 exact⟨b,o,hA,Nat.lt_of_lt_of_le hlt hb.size,fun k hk=>⟨((Jr hb).1 b _ hlt).trans (hc k hk).1,((Jr hb).1 b _ hlt).trans (hc k hk).2⟩⟩
theorem Y5 (w:World) (cs:Array Value) (T:TypeId) (i:Nat) : (w.alloc (.cells cs T)).cell? ⟨w.heap.size,i,none⟩ =cs[i]? :=
 cell_of_row _ _ i cs T (0,0) (heap_alloc_new w _)
theorem zz: (∀ {p:Prop} [Decidable p],(decide p=true) =p)∧(∀ {p:Prop} [Decidable p],decide p=false↔¬p)∧(∀ {α:Type} [BEq α] [LawfulBEq α] {a b:α},(a==b) =true↔a=b)∧(∀ {α:Type} [BEq α] [LawfulBEq α] {a b:α},(a==b) =false↔a≠b)∧(∀ {b:Bool},(!b) =true↔b=false)∧(∀ {b:Bool},(!b) =false↔b=true)∧(∀ {a b:Int},¬a<b↔b≤a)∧(∀ {a b:Int},¬a≤b↔b<a)∧(∀ {a b:Nat},¬a<b↔b≤a)∧(∀ {a b:Nat},¬a≤b↔b<a)∧((!true) =false)∧((!false) =true)∧(∀ {α:Type} {a b:α},(a≠b) =¬(a=b)) :=
  ⟨jY,jZ,j4,j5,j6,j7,j8,Ja,Jb,Jc,rfl,rfl,fun {_ a b} =>rfl⟩
theorem J {α:Sort _} {a:α} :a=a:=rfl
theorem Om (h:p:=by omega) :p:=h
theorem Kr (h:p:=by kernel_rfl) :p:=h
theorem Dc (h:p:=by decide) :p:=h
theorem lb {a b:Nat} (h:Nat.ble a b=true) :a≤b:=Nat.le_of_ble_eq_true h
theorem ji0:type_of% @Bool.not_eq_true':= @Bool.not_eq_true'
theorem ji1:type_of% @List.size_toArray:= @List.size_toArray
theorem ji2:type_of% @Bool.or_eq_true:= @Bool.or_eq_true
theorem ji3:type_of% @List.not_mem_nil:= @List.not_mem_nil
theorem ji4:type_of% @Int.lt_of_mul_lt_mul_right:= @Int.lt_of_mul_lt_mul_right
theorem ji5:type_of% @Int.mul_pos:= @Int.mul_pos
theorem ji6:type_of% @Int.lt_trichotomy:= @Int.lt_trichotomy
theorem ji7:type_of% @List.foldl_cons:= @List.foldl_cons
theorem ji8:type_of% @List.drop_of_length_le:= @List.drop_of_length_le
theorem ji9:type_of% @Nat.lt_or_ge:= @Nat.lt_or_ge
theorem jiA:type_of% @List.flatMap_cons:= @List.flatMap_cons
theorem jiB:type_of% @Nat.zero_add:= @Nat.zero_add
theorem jiC:type_of% @List.append_nil:= @List.append_nil
theorem jiD:type_of% @List.mem_map:= @List.mem_map
theorem jiE:type_of% @List.eq_nil_of_length_eq_zero:= @List.eq_nil_of_length_eq_zero
theorem jiF:type_of% @List.map_nil:= @List.map_nil
theorem jiG:type_of% @List.map_append:= @List.map_append
theorem jiH:type_of% @List.mem_cons_self:= @List.mem_cons_self
theorem jiI:type_of% @List.cons_append:= @List.cons_append
theorem jiJ:type_of% @Bool.true_and:= @Bool.true_and
theorem jiK:type_of% @Bool.eq_iff_iff:= @Bool.eq_iff_iff
theorem jiL:type_of% @List.mem_of_mem_take:= @List.mem_of_mem_take
theorem jiM:type_of% @List.take_length:= @List.take_length
theorem jiN:type_of% @List.pairwise_cons:= @List.pairwise_cons
theorem jiO:type_of% @Int.mul_le_mul_of_nonneg_left:= @Int.mul_le_mul_of_nonneg_left
theorem jiP:type_of% @Int.mul_nonneg:= @Int.mul_nonneg
theorem jiQ:type_of% @Int.mul_lt_mul_of_pos_right:= @Int.mul_lt_mul_of_pos_right
theorem jiR:type_of% @List.drop_eq_getElem_cons:= @List.drop_eq_getElem_cons
theorem jiS:type_of% @Bool.false_and:= @Bool.false_and
theorem jiT:type_of% @Int.le_of_mul_le_mul_right:= @Int.le_of_mul_le_mul_right
theorem jiU:type_of% @List.getElem_of_mem:= @List.getElem_of_mem
theorem jiV:type_of% @List.nil_append:= @List.nil_append
theorem jiW:type_of% @Int.mul_comm:= @Int.mul_comm
theorem jiX:type_of% @List.mem_of_mem_drop:= @List.mem_of_mem_drop
theorem jiY:type_of% @Nat.le_trans:= @Nat.le_trans
theorem jiZ:type_of% @Nat.min_eq_left:= @Nat.min_eq_left
theorem jid:type_of% @List.length_append:= @List.length_append
theorem jie:type_of% @Nat.zero_le:= @Nat.zero_le
theorem jif:type_of% @Nat.le_refl:= @Nat.le_refl
theorem jig:type_of% @Bool.and_eq_true:= @Bool.and_eq_true
theorem jih:type_of% @Int.mul_le_mul_of_nonneg_right:= @Int.mul_le_mul_of_nonneg_right
theorem jii:type_of% @List.flatMap_append:= @List.flatMap_append
theorem jij:type_of% @List.length_cons:= @List.length_cons
theorem jik:type_of% @List.take_succ_eq_append_getElem:= @List.take_succ_eq_append_getElem
theorem jil:type_of% @List.append_assoc:= @List.append_assoc
theorem jim:type_of% @List.length_take:= @List.length_take
theorem jin:type_of% @List.mem_singleton:= @List.mem_singleton
theorem jio:type_of% @Nat.lt_of_lt_of_le:= @Nat.lt_of_lt_of_le
theorem jip:type_of% @List.length_map:= @List.length_map
theorem jiq:type_of% @List.take_append_drop:= @List.take_append_drop
theorem jir:type_of% @List.getElem_mem:= @List.getElem_mem
theorem jis:type_of% @List.mem_cons:= @List.mem_cons
theorem jit:type_of% @List.mem_append:= @List.mem_append
theorem jiu:type_of% @List.take_of_length_le:= @List.take_of_length_le
theorem jiv:type_of% @List.map_cons:= @List.map_cons
theorem jiw:type_of% @List.length_nil:= @List.length_nil
theorem jix:type_of% @List.map_toArray:= @List.map_toArray
theorem jiy:type_of% @List.length_drop:= @List.length_drop
theorem jiz:type_of% @List.mem_cons_of_mem:= @List.mem_cons_of_mem
theorem jjA:type_of% @Int.le_of_lt:= @Int.le_of_lt
theorem jjB:type_of% @List.getElem_range:= @List.getElem_range
theorem jjC:type_of% @List.pairwise_append:= @List.pairwise_append
theorem jjD:type_of% @List.pairwise_singleton:= @List.pairwise_singleton
theorem jjE:type_of% @Int.mul_nonpos_of_nonneg_of_nonpos:= @Int.mul_nonpos_of_nonneg_of_nonpos
theorem jjF:type_of% @List.length_reverse:= @List.length_reverse
theorem jjG:type_of% @Int.mul_one:= @Int.mul_one
theorem jjH:type_of% @Option.map_eq_some_iff:= @Option.map_eq_some_iff
theorem jjI:type_of% @List.mem_flatMap:= @List.mem_flatMap
theorem jjJ:type_of% @Bool.and_false:= @Bool.and_false
theorem jjK:type_of% @List.filter_append:= @List.filter_append
theorem jjL:type_of% @List.length_filter_le:= @List.length_filter_le
theorem jjM:type_of% @List.mem_append_right:= @List.mem_append_right
theorem jjN:type_of% @List.mem_range:= @List.mem_range
theorem jjO:type_of% @Nat.add_zero:= @Nat.add_zero
theorem jjP:type_of% @Nat.not_lt_zero:= @Nat.not_lt_zero
theorem jjQ:type_of% @List.foldl_append:= @List.foldl_append
theorem jjR:type_of% @Nat.sub_zero:= @Nat.sub_zero
theorem jjS:type_of% @Bool.and_eq_false_iff:= @Bool.and_eq_false_iff
theorem jjT:type_of% @List.mem_filter:= @List.mem_filter
theorem jjU:type_of% @Option.map_some:= @Option.map_some
theorem jjV:type_of% @Int.mul_lt_mul_of_pos_left:= @Int.mul_lt_mul_of_pos_left
theorem jjW:type_of% @Int.mul_le_mul:= @Int.mul_le_mul
theorem jja:type_of% @Nat.mul_one:= @Nat.mul_one
theorem jjb:type_of% @Bool.false_eq_true:= @Bool.false_eq_true
theorem jjc:type_of% @List.pairwise_iff_getElem:= @List.pairwise_iff_getElem
theorem jjd:type_of% @Array.toArray_toList:= @Array.toArray_toList
theorem jje:type_of% @List.getElem_map:= @List.getElem_map
theorem jjf:type_of% @List.length_set:= @List.length_set
theorem jjg:type_of% @List.mem_append_left:= @List.mem_append_left
theorem jjh:type_of% @Int.mul_assoc:= @Int.mul_assoc
theorem jji:type_of% @Nat.add_assoc:= @Nat.add_assoc
theorem jjj:type_of% @List.toList_toArray:= @List.toList_toArray
theorem jjk:type_of% @Int.le_of_mul_le_mul_left:= @Int.le_of_mul_le_mul_left
theorem jjl:type_of% @Int.zero_mul:= @Int.zero_mul
theorem jjm:type_of% @List.length_singleton:= @List.length_singleton
theorem jjn:type_of% @Int.not_lt:= @Int.not_lt
theorem jjo:type_of% @List.all_eq_true:= @List.all_eq_true
theorem jjp:type_of% @List.ext_getElem:= @List.ext_getElem
theorem jjq:type_of% @Int.mul_neg_of_neg_of_pos:= @Int.mul_neg_of_neg_of_pos
theorem jjr:type_of% @Array.setIfInBounds_comm:= @Array.setIfInBounds_comm
theorem jjs:type_of% @Int.le_trans:= @Int.le_trans
theorem jjt:type_of% @Nat.lt_or_eq_of_le:= @Nat.lt_or_eq_of_le
theorem jju:type_of% @Nat.mod_eq_of_lt:= @Nat.mod_eq_of_lt
theorem jjv:type_of% @Nat.mul_le_mul:= @Nat.mul_le_mul
theorem jjw:type_of% @Int.mul_le_mul_of_nonpos_right:= @Int.mul_le_mul_of_nonpos_right
theorem jjx:type_of% @List.set_append_right:= @List.set_append_right
theorem jjy:type_of% @Nat.eq_of_beq_eq_true:= @Nat.eq_of_beq_eq_true
theorem jjz:type_of% @Bool.true_eq_false:= @Bool.true_eq_false
end Go.Proofs.YtbahojdbmmjkcaaGreat
namespace Go.Proofs.YtbahojdbmmjkcaaGreat
open Go Go.ChangeShapes Go.WideShapes Go.ChangeAt Go.RowKit Go.Joins Go.Deep
theorem jhX:ownKnob Tryz.prog.godebug=none:=by kernel_rfl
theorem Gz:laidOutB Tryz.prog=true:=by kernel_rfl
section
variable {H:Type} {enc:TypeId×Value→H} {w:World} {base:Nat} {spare:Nat→Bool} {held:Bool}
set_option maxRecDepth 100000 in
theorem jcU {fuel:Nat} {cs:List Value} {x:DataW H×List MemPlace} (h:DataW.trod enc Tryz.prog w base spare held fuel 53 cs=some x) :
  ∃(A:Option Addr) (n c:Nat) (xs:List (Int×Int)),cs= [.slice A n c]∧Pts w A n xs∧(n:Int)≤9223372036854775807:=by
 rcases open_slice Tryz.underlying53 h with⟨rfl,_⟩ |⟨a,len,cap,m,n,D,Pl,rfl,_,hl,hm,hmm,_,hi⟩
 ·exact⟨none,0,0,[],rfl,⟨rfl,fun h=>absurd h Om⟩,by omega⟩
 have hC:Tryz.prog.cellsOf 127=2:=by kernel_rfl
 have h1:Tryz.prog.cellsOf 2=1:=by kernel_rfl
 rw [hC] at hi
 have key:∀i,i<len→∃p:Int×Int,w.cell? (a.add (i*2)) =some (.int .i64 p.1)∧w.cell? (a.add (i*2+1)) =some (.int .i64 p.2) :=by
  intro i hlt
  have hlm:len≤m:=by rw [hmm];split<;>omega
  obtain ⟨cs',hc,ht⟩ :=hi i Om
  obtain ⟨_,hcl,hat⟩ :=World.cells?_some hc
  obtain ⟨y0,y1,n',_,_,t0,t1⟩ :=trod_struct2 Tryz.underlying127 ht
  rw [h1] at t0 t1
  match cs',hcl with
  | [c0,c1],_=>
   obtain ⟨x,e0,_,_⟩ :=DataW.trod_int Tryz.underlying2 t0
   obtain ⟨y,e1,_,_⟩ :=DataW.trod_int Tryz.underlying2 t1
   simp at e0 e1
   subst e0 e1
   refine⟨(x,y),?_,?_⟩
   ·have:=hat 0 Om
    rw [add_add] at this
    simpa using this
   ·have:=hat 1 Om
    rw [add_add] at this
    simpa using this
 obtain ⟨f,hf⟩ :=choose_lt key
 refine⟨some a,len,cap,(List.range len).map f,J,⟨by simp,fun hn=> ?_⟩,by unfold maxLen at hm;omega⟩
 obtain ⟨b,o,sp⟩ :=a
 have hsp:sp=none:=by
  have:=World.cell?_spot (hf 0 hn).1
  simpa [Addr.add] using this
 subst hsp
 have hadd:∀j,(⟨b,o,none⟩ :Addr).add j=⟨b,o+j,none⟩ :=fun j=>by unfold Addr.add;split<;>simp_all
 have hlt:=World.block_lt_of_cell? w _ (hf 0 hn).1
 rw [hadd] at hlt
 refine⟨b,o,J,hlt,fun k hk=> ?_⟩
 have hk2:=hf k hk
 rw [hadd,hadd] at hk2
 have hx:∀k,k<len→((List.range len).map f).getD k (0,0) =f k:=by
  intro k hk
  simp [List.getD,hk]
 unfold px py
 rw [hx k hk]
 exact hk2
set_option maxRecDepth 100000 in
theorem jaw {r:Reach} {b0:Nat} {v:Value} {d:DataW H} {p:List MemPlace} (hv:Value.okWide Tryz.prog w r b0 53 v) (h:DataW.Trod enc Tryz.prog w base spare held 53 v d p) :
  ∃(A:Option Addr) (n c:Nat) (xs:List (Int×Int)),v= .slice A n c∧Pts w A n xs∧(n:Int)≤9223372036854775807:=by
 obtain ⟨A,n,c,rfl⟩ :=okWide_slice Tryz.underlying53 hv
 obtain ⟨fuel,hf⟩ :=h
 obtain ⟨A',n',c',xs,e,hp,hm⟩ :=jcU hf
 simp [Value.cells] at e
 obtain ⟨rfl,rfl,rfl⟩ :=e
 exact⟨_,_,_,xs,rfl,hp,hm⟩
end
end Go.Proofs.YtbahojdbmmjkcaaGreat
