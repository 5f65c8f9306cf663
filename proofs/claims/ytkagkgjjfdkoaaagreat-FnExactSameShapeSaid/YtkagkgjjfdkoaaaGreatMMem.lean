import Derived.Test.YtkagkgjjfdkoaaaGreatProg
import Derived.WalkKit
import Derived.KernelRfl
import Derived.Lib.Hide
import Derived.Test.YtkagkgjjfdkoaaaGreatRows
import Derived.ProofKit
import Derived.OpenShut
import Derived.ChangeOld
import Derived.Below
import Derived.Lib.SmallJoins
import Derived.Deep.Slices
set_option linter.unusedVariables false
set_option linter.unusedSimpArgs false
namespace Go.Proofs.YtkagkgjjfdkoaaaGreat
open Go Go.RowKit
theorem zb {p:Prop} [Decidable p] : (decide p=true) =p:=decide_eq_true_eq
theorem zd {p:Prop} [Decidable p] :decide p=false↔¬p:=decide_eq_false_iff_not
theorem ze {α:Type _} [BEq α] [LawfulBEq α] {a b:α} : (a==b) =true↔a=b:=beq_iff_eq
theorem zf {α:Type _} [BEq α] [LawfulBEq α] {a b:α} : (a==b) =false↔a≠b:=beq_eq_false_iff_ne
theorem zg {b:Bool} : (!b) =true↔b=false:=by cases b<;>simp
theorem zh {b:Bool} : (!b) =false↔b=true:=by cases b<;>simp
theorem xa {a b:Int} :¬a<b↔b≤a:=Int.not_lt
theorem xb {a b:Int} :¬a≤b↔b<a:=Int.not_le
theorem xd {a b:Nat} :¬a<b↔b≤a:=Nat.not_lt
theorem zj7 {a b:Nat} :¬a≤b↔b<a:=Nat.not_le
theorem yd {α:Type _} (s:List α) : [] ++s=s:=rfl
theorem ye {α:Type _} (a:α) (s t:List α) : (a::s) ++t=a:: (s++t) :=rfl
theorem ya {α:Type _} (a b:α) (s:List α) : (a::s).set 0 b=b::s:=rfl
theorem yb {α:Type _} (a b:α) (s:List α) (n:Nat) : (a::s).set (n+1) b=a::s.set n b:=rfl
theorem za {α:Type _} (s:List α) :s.toArray.toList=s:=rfl
theorem xa7 {α:Type _} (s:List α) (i:Nat) :s.toArray[i]? =s[i]? :=List.getElem?_toArray
theorem xb7 {α:Type _} (a:α) (s:List α) : (a::s)[0]? =some a:=rfl
theorem xc7 {α:Type _} (a:α) (s:List α) (i:Nat) : (a::s)[i+1]? =s[i]? :=rfl
theorem xd7 {α:Type _} (s:List α) (i:Nat) (a:α) :s.toArray.setIfInBounds i a= (s.set i a).toArray:=List.setIfInBounds_toArray ..
def Over (w w':World) :Prop:=Below w.heap.size w w'
theorem Over.out {w w':World} (h:Over w w') :Below w.heap.size w w':=h
theorem Over.refl (w:World) :Over w w:=Below.refl _ _
theorem Over.trans {w a b:World} (h:Over w a) (k:Over a b) :Over w b:=Below.trans h (Below.mono k (Below.size h))
theorem Over.alloc (w:World) (o:Obj) :Over w (w.alloc o) := (Below.refl _ _).alloc (Nat.le_refl _) o
theorem Over.alloc_ {w a:World} (h:Over w a) (o:Obj) :Over w (a.alloc o) :=h.trans (Over.alloc a o)
theorem Over.drew_ {w a:World} (h:Over w a) :Over w a.drew:=Below.drew h
theorem Over.set_ {w a:World} (h:Over w a) {p:Addr} (hp:w.heap.size≤p.block) (u:Value) :Over w (a.setCell p u) :=Below.setCell h hp u
theorem Over.size {w w':World} (h:Over w w') :w.heap.size≤w'.heap.size:=Below.size h
theorem Ji {W w1:World} (hb:Over W w1) : (∀b o,b<W.heap.size→w1.cell? ⟨b,o,none⟩ =W.cell? ⟨b,o,none⟩)∧(∀b o,b<W.heap.size→w1.frozen? ⟨b,o,none⟩ =W.frozen? ⟨b,o,none⟩) :=
 ⟨fun b o h=>Below.cell (p:=⟨b,o,none⟩) hb h,fun b o h=>Below.frozen (p:=⟨b,o,none⟩) hb h⟩
abbrev W2 (x y:Int) :Value:= .agg #[.int .i64 x, .int .i64 y]
def px (xs:List (Int×Int)) (k:Nat) :Int:= (xs.getD k (0,0)).1
def py (xs:List (Int×Int)) (k:Nat) :Int:= (xs.getD k (0,0)).2
theorem Ya {xs:List (Int×Int)} {k:Nat} (h:k<xs.length) :xs[k] = (px xs k,py xs k) :=by
 simp [px,py,List.getD,List.getElem?_eq_getElem h]
def Pts (w:World) (A:Option Addr) (n:Nat) (xs:List (Int×Int)) :Prop:=
 xs.length=n∧(0<n→∃b o,A=some ⟨b,o,none⟩∧b<w.heap.size∧∀k,k<n→w.cell? ⟨b,o+k*2,none⟩ =some (.int .i64 (px xs k))∧w.cell? ⟨b,o+k*2+1,none⟩ =some (.int .i64 (py xs k)))
theorem Pts.over {w w':World} {A:Option Addr} {n:Nat} {xs:List (Int×Int)} (h:Pts w A n xs) (hb:Over w w') :Pts w' A n xs:=by
 refine⟨h.1,fun hn=> ?_⟩
 obtain ⟨b,o,hA,hlt,hc⟩ :=h.2 hn
 exact⟨b,o,hA,Nat.lt_of_lt_of_le hlt hb.size,fun k hk=>⟨((Ji hb).1 b _ hlt).trans (hc k hk).1,((Ji hb).1 b _ hlt).trans (hc k hk).2⟩⟩
theorem Ys (w:World) (cs:Array Value) (T:TypeId) (i:Nat) : (w.alloc (.cells cs T)).cell? ⟨w.heap.size,i,none⟩ =cs[i]? :=
 cell_of_row _ _ i cs T (0,0) (heap_alloc_new w _)
theorem zz: (∀ {p:Prop} [Decidable p],(decide p=true) =p)∧(∀ {p:Prop} [Decidable p],decide p=false↔¬p)∧(∀ {α:Type} [BEq α] [LawfulBEq α] {a b:α},(a==b) =true↔a=b)∧(∀ {α:Type} [BEq α] [LawfulBEq α] {a b:α},(a==b) =false↔a≠b)∧(∀ {b:Bool},(!b) =true↔b=false)∧(∀ {b:Bool},(!b) =false↔b=true)∧(∀ {a b:Int},¬a<b↔b≤a)∧(∀ {a b:Int},¬a≤b↔b<a)∧(∀ {a b:Nat},¬a<b↔b≤a)∧(∀ {a b:Nat},¬a≤b↔b<a)∧((!true) =false)∧((!false) =true)∧(∀ {α:Type} {a b:α},(a≠b) =¬(a=b)) :=
  ⟨zb,zd,ze,zf,zg,zh,xa,xb,xd,zj7,rfl,rfl,fun {_ a b} =>rfl⟩
theorem J {α:Sort _} {a:α} :a=a:=rfl
theorem lb {a b:Nat} (h:Nat.ble a b=true) :a≤b:=Nat.le_of_ble_eq_true h
theorem je0:type_of% @List.mem_cons:= @List.mem_cons
theorem je1:type_of% @List.map_toArray:= @List.map_toArray
theorem je2:type_of% @List.length_drop:= @List.length_drop
theorem je3:type_of% @Nat.zero_add:= @Nat.zero_add
theorem je4:type_of% @List.flatMap_cons:= @List.flatMap_cons
theorem je5:type_of% @List.mem_cons_of_mem:= @List.mem_cons_of_mem
theorem je6:type_of% @List.length_nil:= @List.length_nil
theorem je7:type_of% @List.mem_map:= @List.mem_map
theorem je8:type_of% @List.append_nil:= @List.append_nil
theorem je9:type_of% @List.eq_nil_of_length_eq_zero:= @List.eq_nil_of_length_eq_zero
theorem jeC:type_of% @List.length_append:= @List.length_append
theorem jeD:type_of% @Nat.le_refl:= @Nat.le_refl
theorem jeE:type_of% @Nat.zero_le:= @Nat.zero_le
theorem jeF:type_of% @Bool.and_eq_true:= @Bool.and_eq_true
theorem jeG:type_of% @List.cons_append:= @List.cons_append
theorem jeH:type_of% @Int.mul_le_mul_of_nonneg_right:= @Int.mul_le_mul_of_nonneg_right
theorem jeI:type_of% @List.eraseIdx_cons_succ:= @List.eraseIdx_cons_succ
theorem jeJ:type_of% @List.eraseIdx_cons_zero:= @List.eraseIdx_cons_zero
theorem jeK:type_of% @List.toList_toArray:= @List.toList_toArray
theorem jeL:type_of% @List.nil_append:= @List.nil_append
theorem jeM:type_of% @List.set_cons_zero:= @List.set_cons_zero
theorem jeN:type_of% @List.append_assoc:= @List.append_assoc
theorem jeO:type_of% @List.set_cons_succ:= @List.set_cons_succ
theorem jeP:type_of% @List.length_cons:= @List.length_cons
theorem jeQ:type_of% @List.flatMap_append:= @List.flatMap_append
theorem jeR:type_of% @Nat.lt_of_lt_of_le:= @Nat.lt_of_lt_of_le
theorem jeS:type_of% @List.take_succ_eq_append_getElem:= @List.take_succ_eq_append_getElem
theorem jeT:type_of% @List.mem_singleton:= @List.mem_singleton
theorem jeU:type_of% @List.take_append_drop:= @List.take_append_drop
theorem jeV:type_of% @List.length_take:= @List.length_take
theorem jeW:type_of% @List.getElem_mem:= @List.getElem_mem
theorem jeX:type_of% @List.length_map:= @List.length_map
theorem jeY:type_of% @List.mem_append:= @List.mem_append
theorem jeZ:type_of% @List.map_cons:= @List.map_cons
theorem jf0:type_of% @List.length_filter_le:= @List.length_filter_le
theorem jf1:type_of% @Nat.eq_of_beq_eq_true:= @Nat.eq_of_beq_eq_true
theorem jf2:type_of% @Bool.true_eq_false:= @Bool.true_eq_false
theorem jf3:type_of% @Int.le_of_lt:= @Int.le_of_lt
theorem jf4:type_of% @List.pairwise_append:= @List.pairwise_append
theorem jf5:type_of% @List.pairwise_singleton:= @List.pairwise_singleton
theorem jf6:type_of% @Int.mul_nonpos_of_nonneg_of_nonpos:= @Int.mul_nonpos_of_nonneg_of_nonpos
theorem jf7:type_of% @Option.map_some:= @Option.map_some
theorem jf8:type_of% @Int.le_trans:= @Int.le_trans
theorem jf9:type_of% @Int.mul_one:= @Int.mul_one
theorem jfA:type_of% @Int.lt_trichotomy:= @Int.lt_trichotomy
theorem jfB:type_of% @List.drop_of_length_le:= @List.drop_of_length_le
theorem jfC:type_of% @Bool.false_eq_true:= @Bool.false_eq_true
theorem jfD:type_of% @List.foldl_cons:= @List.foldl_cons
theorem jfE:type_of% @List.mem_append_left:= @List.mem_append_left
theorem jfF:type_of% @Int.mul_assoc:= @Int.mul_assoc
theorem jfG:type_of% @Nat.lt_or_ge:= @Nat.lt_or_ge
theorem jfH:type_of% @List.pairwise_iff_getElem:= @List.pairwise_iff_getElem
theorem jfI:type_of% @Nat.min_eq_left:= @Nat.min_eq_left
theorem jfJ:type_of% @Array.toArray_toList:= @Array.toArray_toList
theorem jfK:type_of% @List.getElem_map:= @List.getElem_map
theorem jfL:type_of% @Int.le_of_mul_le_mul_left:= @Int.le_of_mul_le_mul_left
theorem jfM:type_of% @List.length_set:= @List.length_set
theorem jfN:type_of% @Nat.add_assoc:= @Nat.add_assoc
theorem jfO:type_of% @Int.zero_mul:= @Int.zero_mul
theorem jfP:type_of% @List.all_eq_true:= @List.all_eq_true
theorem jfQ:type_of% @List.not_mem_nil:= @List.not_mem_nil
theorem jfR:type_of% @List.ext_getElem:= @List.ext_getElem
theorem jfS:type_of% @Int.mul_neg_of_neg_of_pos:= @Int.mul_neg_of_neg_of_pos
theorem jfT:type_of% @Array.setIfInBounds_comm:= @Array.setIfInBounds_comm
theorem jfU:type_of% @List.set_append_right:= @List.set_append_right
theorem jfV:type_of% @Int.natCast_nonneg:= @Int.natCast_nonneg
theorem jfW:type_of% @List.filter_append:= @List.filter_append
theorem jfX:type_of% @Nat.lt_or_eq_of_le:= @Nat.lt_or_eq_of_le
theorem jfY:type_of% @Nat.mod_eq_of_lt:= @Nat.mod_eq_of_lt
theorem jfZ:type_of% @Int.mul_le_mul_of_nonpos_right:= @Int.mul_le_mul_of_nonpos_right
theorem jfa:type_of% @List.map_append:= @List.map_append
theorem jfb:type_of% @List.take_of_length_le:= @List.take_of_length_le
theorem jfc:type_of% @List.map_nil:= @List.map_nil
theorem jfd:type_of% @List.mem_cons_self:= @List.mem_cons_self
theorem jfe:type_of% @Bool.true_and:= @Bool.true_and
theorem jff:type_of% @List.pairwise_cons:= @List.pairwise_cons
theorem jfg:type_of% @Int.mul_le_mul_of_nonneg_left:= @Int.mul_le_mul_of_nonneg_left
theorem jfh:type_of% @Int.mul_lt_mul_of_pos_right:= @Int.mul_lt_mul_of_pos_right
theorem jfi:type_of% @List.drop_eq_getElem_cons:= @List.drop_eq_getElem_cons
theorem jfj:type_of% @List.mem_of_mem_take:= @List.mem_of_mem_take
theorem jfk:type_of% @Int.le_of_mul_le_mul_right:= @Int.le_of_mul_le_mul_right
theorem jfl:type_of% @Int.mul_nonneg:= @Int.mul_nonneg
theorem jfm:type_of% @List.getElem_of_mem:= @List.getElem_of_mem
theorem jfn:type_of% @Int.mul_comm:= @Int.mul_comm
theorem jfo:type_of% @Bool.eq_iff_iff:= @Bool.eq_iff_iff
theorem jfp:type_of% @Bool.false_and:= @Bool.false_and
theorem jfq:type_of% @Bool.not_eq_true':= @Bool.not_eq_true'
theorem jfr:type_of% @List.take_length:= @List.take_length
theorem jfs:type_of% @Bool.or_eq_true:= @Bool.or_eq_true
theorem jft:type_of% @Nat.le_trans:= @Nat.le_trans
theorem jfu:type_of% @List.size_toArray:= @List.size_toArray
theorem jfv:type_of% @Int.lt_of_mul_lt_mul_right:= @Int.lt_of_mul_lt_mul_right
theorem jfw:type_of% @Int.mul_pos:= @Int.mul_pos
theorem jfx:type_of% @Int.not_lt:= @Int.not_lt
theorem jfy:type_of% @List.mem_of_mem_drop:= @List.mem_of_mem_drop
theorem jfz:type_of% @Nat.mul_one:= @Nat.mul_one
theorem jga:type_of% @Option.map_eq_some_iff:= @Option.map_eq_some_iff
theorem jgb:type_of% @List.getElem_range:= @List.getElem_range
theorem jgc:type_of% @List.length_singleton:= @List.length_singleton
theorem jgd:type_of% @List.mem_append_right:= @List.mem_append_right
theorem jge:type_of% @List.eraseIdx_eq_take_drop_succ:= @List.eraseIdx_eq_take_drop_succ
theorem jgf:type_of% @List.mem_filter:= @List.mem_filter
theorem jgg:type_of% @Nat.add_zero:= @Nat.add_zero
theorem jgh:type_of% @List.mem_flatMap:= @List.mem_flatMap
theorem jgi:type_of% @List.mem_range:= @List.mem_range
theorem jgj:type_of% @Bool.and_eq_false_iff:= @Bool.and_eq_false_iff
theorem jgk:type_of% @Int.mul_lt_mul_of_pos_left:= @Int.mul_lt_mul_of_pos_left
theorem jgl:type_of% @Int.tmod_eq_emod_of_nonneg:= @Int.tmod_eq_emod_of_nonneg
theorem jgm:type_of% @List.foldl_append:= @List.foldl_append
theorem jgn:type_of% @List.length_eraseIdx:= @List.length_eraseIdx
end Go.Proofs.YtkagkgjjfdkoaaaGreat
namespace Go.Proofs.YtkagkgjjfdkoaaaGreat
open Go Go.ChangeShapes Go.WideShapes Go.ChangeAt Go.RowKit Go.Joins Go.Deep
theorem jez:ownKnob Tryz.prog.godebug=none:=by kernel_rfl
theorem jdN:laidOutB Tryz.prog=true:=by kernel_rfl
section
variable {H:Type} {enc:TypeId×Value→H} {w:World} {base:Nat} {spare:Nat→Bool} {held:Bool}
set_option maxRecDepth 100000 in
theorem EW {fuel:Nat} {cs:List Value} {x:DataW H×List MemPlace} (h:DataW.trod enc Tryz.prog w base spare held fuel 66 cs=some x) :
  ∃(A:Option Addr) (n c:Nat) (xs:List (Int×Int)),cs= [.slice A n c]∧Pts w A n xs∧(n:Int)≤9223372036854775807:=by
 rcases open_slice Tryz.underlying66 h with⟨rfl,_⟩ |⟨a,len,cap,m,n,D,Pl,rfl,_,hl,hm,hmm,_,hi⟩
 ·exact⟨none,0,0,[],rfl,⟨rfl,fun h=>absurd h (by omega)⟩,by omega⟩
 have hC:Tryz.prog.cellsOf 169=2:=by kernel_rfl
 have h1:Tryz.prog.cellsOf 2=1:=by kernel_rfl
 rw [hC] at hi
 have key:∀i,i<len→∃p:Int×Int,w.cell? (a.add (i*2)) =some (.int .i64 p.1)∧w.cell? (a.add (i*2+1)) =some (.int .i64 p.2) :=by
  intro i hlt
  have hlm:len≤m:=by rw [hmm];split<;>omega
  obtain ⟨cs',hc,ht⟩ :=hi i (by omega)
  obtain ⟨_,hcl,hat⟩ :=World.cells?_some hc
  obtain ⟨y0,y1,n',_,_,t0,t1⟩ :=trod_struct2 Tryz.underlying169 ht
  rw [h1] at t0 t1
  match cs',hcl with
  | [c0,c1],_=>
   obtain ⟨x,e0,_,_⟩ :=DataW.trod_int Tryz.underlying2 t0
   obtain ⟨y,e1,_,_⟩ :=DataW.trod_int Tryz.underlying2 t1
   simp at e0 e1
   subst e0 e1
   refine⟨(x,y),?_,?_⟩
   ·have:=hat 0 (by omega)
    rw [add_add] at this
    simpa using this
   ·have:=hat 1 (by omega)
    rw [add_add] at this
    simpa using this
 obtain ⟨f,hf⟩ :=choose_lt key
 refine⟨some a,len,cap,(List.range len).map f,J,⟨by simp,fun hn=> ?_⟩,by unfold maxLen at hm;omega⟩
 obtain ⟨b,o,sp⟩ :=a
 have hsp:sp=none:=by
  have:=World.cell?_spot (hf 0 hn).1
  simpa [Addr.add] using this
 subst hsp
 have hadd:∀j,(⟨b,o,none⟩ :Addr).add j=⟨b,o+j,none⟩ :=fun j=>by unfold Addr.add;split<;>simp_all
 have hlt:=World.block_lt_of_cell? w _ (hf 0 hn).1
 rw [hadd] at hlt
 refine⟨b,o,J,hlt,fun k hk=> ?_⟩
 have hk2:=hf k hk
 rw [hadd,hadd] at hk2
 have hx:∀k,k<len→((List.range len).map f).getD k (0,0) =f k:=by
  intro k hk
  simp [List.getD,hk]
 unfold px py
 rw [hx k hk]
 exact hk2
end
end Go.Proofs.YtkagkgjjfdkoaaaGreat
