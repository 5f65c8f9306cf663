import Derived.Test.YtbahojdbmmjkcaaGreatProg
import Derived.WalkKit
import Derived.KernelRfl
import Derived.Lib.Hide
import Derived.Test.YtbahojdbmmjkcaaGreatRows
import Derived.ProofKit
import Derived.OpenShut
import Derived.ChangeOld
import Derived.Below
import Derived.Lib.SmallJoins
import Derived.Deep.Slices
set_option linter.unusedVariables false
set_option linter.unusedSimpArgs false
namespace Go.Proofs.YtbahojdbmmjkcaaGreat
open Go Go.RowKit
variable {A:Option Addr} {a w w':World} {b:Bool} {p:Prop} {xs:List (Int×Int)} {α:Type _}
theorem j7 [Decidable p] : (decide p=true) =p:=decide_eq_true_eq
theorem j8 [Decidable p] :decide p=false↔¬p:=decide_eq_false_iff_not
theorem Ja [BEq α] [LawfulBEq α] {a b:α} : (a==b) =true↔a=b:=beq_iff_eq
theorem Jb [BEq α] [LawfulBEq α] {a b:α} : (a==b) =false↔a≠b:=beq_eq_false_iff_ne
theorem Jc : (!b) =true↔b=false:=by cases b<;>simp
theorem Jd : (!b) =false↔b=true:=by cases b<;>simp
theorem Je {a b:Int} :¬a<b↔b≤a:=Int.not_lt
theorem Jf {a b:Int} :¬a≤b↔b<a:=Int.not_le
theorem Jg {a b:Nat} :¬a<b↔b≤a:=Nat.not_lt
theorem Jh {a b:Nat} :¬a≤b↔b<a:=Nat.not_le
theorem jS (s:List α) : [] ++s=s:=rfl
theorem jT (a:α) (s t:List α) : (a::s) ++t=a:: (s++t) :=rfl
theorem jP (a b:α) (s:List α) : (a::s).set 0 b=b::s:=rfl
theorem jQ (a b:α) (s:List α) (n:Nat) : (a::s).set (n+1) b=a::s.set n b:=rfl
theorem Jm (s:List α) :s.toArray.toList=s:=rfl
theorem qR (s:List α) (i:Nat) :s.toArray[i]? =s[i]? :=List.getElem?_toArray
theorem qS (a:α) (s:List α) : (a::s)[0]? =some a:=rfl
theorem q6 (a:α) (s:List α) (i:Nat) : (a::s)[i+1]? =s[i]? :=rfl
theorem q7 (s:List α) (i:Nat) (a:α) :s.toArray.setIfInBounds i a= (s.set i a).toArray:=List.setIfInBounds_toArray ..
def Over (w w':World) :Prop:=Below w.heap.size w w'
theorem Over.out (h:Over w w') :Below w.heap.size w w':=h
theorem Over.refl (w:World) :Over w w:=Below.refl _ _
theorem Over.trans {b:World} (h:Over w a) (k:Over a b) :Over w b:=Below.trans h (Below.mono k (Below.size h))
theorem Over.alloc (w:World) (o:Obj) :Over w (w.alloc o) := (Below.refl _ _).alloc (Nat.le_refl _) o
theorem Over.alloc_ (h:Over w a) (o:Obj) :Over w (a.alloc o) :=h.trans (Over.alloc a o)
theorem Over.drew_ (h:Over w a) :Over w a.drew:=Below.drew h
theorem Over.set_ (h:Over w a) {p:Addr} (hp:w.heap.size≤p.block) (u:Value) :Over w (a.setCell p u) :=Below.setCell h hp u
theorem Over.size (h:Over w w') :w.heap.size≤w'.heap.size:=Below.size h
theorem Jz {W w1:World} (hb:Over W w1) : (∀b o,b<W.heap.size→w1.cell? ⟨b,o,none⟩ =W.cell? ⟨b,o,none⟩)∧(∀b o,b<W.heap.size→w1.frozen? ⟨b,o,none⟩ =W.frozen? ⟨b,o,none⟩) :=
 ⟨fun b o h=>Below.cell (p:=⟨b,o,none⟩) hb h,fun b o h=>Below.frozen (p:=⟨b,o,none⟩) hb h⟩
abbrev Uh (x y:Int) :Value:= .agg #[.int .i64 x, .int .i64 y]
def px (xs:List (Int×Int)) (k:Nat) :Int:= (xs.getD k (0,0)).1
def py (xs:List (Int×Int)) (k:Nat) :Int:= (xs.getD k (0,0)).2
theorem yU {k:Nat} (h:k<xs.length) :xs[k] = (px xs k,py xs k) :=by
 simp [px,py,List.getD,List.getElem?_eq_getElem h]
def Pts (w:World) (A:Option Addr) (n:Nat) (xs:List (Int×Int)) :Prop:=
 xs.length=n∧(0<n→∃b o,A=some ⟨b,o,none⟩∧b<w.heap.size∧∀k,k<n→w.cell? ⟨b,o+k*2,none⟩ =some (.int .i64 (px xs k))∧w.cell? ⟨b,o+k*2+1,none⟩ =some (.int .i64 (py xs k)))
theorem Pts.over {n:Nat} (h:Pts w A n xs) (hb:Over w w') :Pts w' A n xs:=by
 refine⟨h.1,fun hn=> ?_⟩
 obtain ⟨b,o,hA,hlt,hc⟩ :=h.2 hn
 exact⟨b,o,hA,Nat.lt_of_lt_of_le hlt hb.size,fun k hk=>⟨((Jz hb).1 b _ hlt).trans (hc k hk).1,((Jz hb).1 b _ hlt).trans (hc k hk).2⟩⟩
theorem zW (w:World) (cs:Array Value) (T:TypeId) (i:Nat) : (w.alloc (.cells cs T)).cell? ⟨w.heap.size,i,none⟩ =cs[i]? :=
 cell_of_row _ _ i cs T (0,0) (heap_alloc_new w _)
theorem zz: (∀ {p:Prop} [Decidable p],(decide p=true) =p)∧(∀ {p:Prop} [Decidable p],decide p=false↔¬p)∧(∀ {α:Type} [BEq α] [LawfulBEq α] {a b:α},(a==b) =true↔a=b)∧(∀ {α:Type} [BEq α] [LawfulBEq α] {a b:α},(a==b) =false↔a≠b)∧(∀ {b:Bool},(!b) =true↔b=false)∧(∀ {b:Bool},(!b) =false↔b=true)∧(∀ {a b:Int},¬a<b↔b≤a)∧(∀ {a b:Int},¬a≤b↔b<a)∧(∀ {a b:Nat},¬a<b↔b≤a)∧(∀ {a b:Nat},¬a≤b↔b<a)∧((!true) =false)∧((!false) =true)∧(∀ {α:Type} {a b:α},(a≠b) =¬(a=b)) :=
  ⟨j7,j8,Ja,Jb,Jc,Jd,Je,Jf,Jg,Jh,rfl,rfl,fun {_ a b} =>rfl⟩
theorem J {α:Sort _} {a:α} :a=a:=rfl
theorem Om (h:p:=by omega) :p:=h
theorem Kr (h:p:=by kernel_rfl) :p:=h
theorem Dc (h:p:=by decide) :p:=h
theorem lb {a b:Nat} (h:Nat.ble a b=true) :a≤b:=Nat.le_of_ble_eq_true h
theorem jj0:type_of% @List.getElem_of_mem:= @List.getElem_of_mem
theorem jj1:type_of% @Int.mul_comm:= @Int.mul_comm
theorem jj2:type_of% @List.nil_append:= @List.nil_append
theorem jj3:type_of% @List.take_length:= @List.take_length
theorem jj4:type_of% @Int.lt_trichotomy:= @Int.lt_trichotomy
theorem jj5:type_of% @List.drop_eq_getElem_cons:= @List.drop_eq_getElem_cons
theorem jj6:type_of% @List.mem_of_mem_take:= @List.mem_of_mem_take
theorem jj7:type_of% @Int.le_of_lt:= @Int.le_of_lt
theorem jj8:type_of% @List.not_mem_nil:= @List.not_mem_nil
theorem jj9:type_of% @Bool.not_eq_true':= @Bool.not_eq_true'
theorem jjA:type_of% @List.take_append_drop:= @List.take_append_drop
theorem jjB:type_of% @List.length_map:= @List.length_map
theorem jjC:type_of% @List.length_take:= @List.length_take
theorem jjD:type_of% @Int.mul_nonneg:= @Int.mul_nonneg
theorem jjE:type_of% @Int.mul_lt_mul_of_pos_right:= @Int.mul_lt_mul_of_pos_right
theorem jjF:type_of% @List.map_cons:= @List.map_cons
theorem jjG:type_of% @Bool.true_and:= @Bool.true_and
theorem jjH:type_of% @List.flatMap_cons:= @List.flatMap_cons
theorem jjI:type_of% @List.map_toArray:= @List.map_toArray
theorem jjJ:type_of% @List.mem_cons_self:= @List.mem_cons_self
theorem jjK:type_of% @List.length_nil:= @List.length_nil
theorem jjL:type_of% @List.append_nil:= @List.append_nil
theorem jjM:type_of% @Int.mul_le_mul_of_nonneg_left:= @Int.mul_le_mul_of_nonneg_left
theorem jjN:type_of% @List.cons_append:= @List.cons_append
theorem jjO:type_of% @List.length_drop:= @List.length_drop
theorem jjP:type_of% @Nat.zero_add:= @Nat.zero_add
theorem jjQ:type_of% @List.map_append:= @List.map_append
theorem jjR:type_of% @List.take_of_length_le:= @List.take_of_length_le
theorem jjS:type_of% @List.map_nil:= @List.map_nil
theorem jjT:type_of% @Bool.eq_iff_iff:= @Bool.eq_iff_iff
theorem jjU:type_of% @Bool.false_and:= @Bool.false_and
theorem jjV:type_of% @Int.lt_of_mul_lt_mul_right:= @Int.lt_of_mul_lt_mul_right
theorem jjW:type_of% @List.eq_nil_of_length_eq_zero:= @List.eq_nil_of_length_eq_zero
theorem jjX:type_of% @List.pairwise_cons:= @List.pairwise_cons
theorem jjY:type_of% @Int.le_of_mul_le_mul_right:= @Int.le_of_mul_le_mul_right
theorem jjZ:type_of% @Int.mul_pos:= @Int.mul_pos
theorem jjk:type_of% @List.length_append:= @List.length_append
theorem jjl:type_of% @Bool.and_eq_true:= @Bool.and_eq_true
theorem jjm:type_of% @Nat.le_refl:= @Nat.le_refl
theorem jjn:type_of% @Int.mul_le_mul_of_nonneg_right:= @Int.mul_le_mul_of_nonneg_right
theorem jjo:type_of% @Nat.zero_le:= @Nat.zero_le
theorem jjp:type_of% @List.mem_singleton:= @List.mem_singleton
theorem jjq:type_of% @List.append_assoc:= @List.append_assoc
theorem jjr:type_of% @List.length_cons:= @List.length_cons
theorem jjs:type_of% @List.mem_cons_of_mem:= @List.mem_cons_of_mem
theorem jjt:type_of% @List.take_succ_eq_append_getElem:= @List.take_succ_eq_append_getElem
theorem jju:type_of% @List.getElem_mem:= @List.getElem_mem
theorem jjv:type_of% @List.flatMap_append:= @List.flatMap_append
theorem jjw:type_of% @List.mem_cons:= @List.mem_cons
theorem jjx:type_of% @List.mem_map:= @List.mem_map
theorem jjy:type_of% @Nat.lt_of_lt_of_le:= @Nat.lt_of_lt_of_le
theorem jjz:type_of% @List.mem_append:= @List.mem_append
theorem jk0:type_of% @List.length_singleton:= @List.length_singleton
theorem jk1:type_of% @Int.le_of_eq:= @Int.le_of_eq
theorem jk2:type_of% @Int.max_comm:= @Int.max_comm
theorem jk3:type_of% @Int.min_comm:= @Int.min_comm
theorem jk4:type_of% @Int.add_zero:= @Int.add_zero
theorem jk5:type_of% @Int.lt_or_le:= @Int.lt_or_le
theorem jk6:type_of% @List.map_map:= @List.map_map
theorem jk7:type_of% @Nat.add_zero:= @Nat.add_zero
theorem jk8:type_of% @Nat.mod_self:= @Nat.mod_self
theorem jk9:type_of% @Int.neg_mul_neg:= @Int.neg_mul_neg
theorem jkA:type_of% @Nat.mod_eq_of_lt:= @Nat.mod_eq_of_lt
theorem jkB:type_of% @Array.toArray_toList:= @Array.toArray_toList
theorem jkC:type_of% @List.ext_getElem:= @List.ext_getElem
theorem jkD:type_of% @Int.mul_neg_of_pos_of_neg:= @Int.mul_neg_of_pos_of_neg
theorem jkE:type_of% @Array.setIfInBounds_comm:= @Array.setIfInBounds_comm
theorem jkF:type_of% @Int.le_trans:= @Int.le_trans
theorem jkG:type_of% @List.pairwise_singleton:= @List.pairwise_singleton
theorem jkH:type_of% @Nat.mul_le_mul:= @Nat.mul_le_mul
theorem jkI:type_of% @Int.mul_le_mul_of_nonpos_right:= @Int.mul_le_mul_of_nonpos_right
theorem jkJ:type_of% @List.nodup_cons:= @List.nodup_cons
theorem jkK:type_of% @List.set_append_right:= @List.set_append_right
theorem jkL:type_of% @Nat.eq_of_beq_eq_true:= @Nat.eq_of_beq_eq_true
theorem jkM:type_of% @Bool.true_eq_false:= @Bool.true_eq_false
theorem jkN:type_of% @List.filter_append:= @List.filter_append
theorem jkO:type_of% @List.mem_flatMap:= @List.mem_flatMap
theorem jkP:type_of% @Int.mul_one:= @Int.mul_one
theorem jkQ:type_of% @List.pairwise_append:= @List.pairwise_append
theorem jkR:type_of% @Nat.mod_lt:= @Nat.mod_lt
theorem jkS:type_of% @Int.mul_nonpos_of_nonneg_of_nonpos:= @Int.mul_nonpos_of_nonneg_of_nonpos
theorem jkT:type_of% @Int.mul_zero:= @Int.mul_zero
theorem jkU:type_of% @Option.map_eq_some_iff:= @Option.map_eq_some_iff
theorem jkV:type_of% @Bool.and_eq_false_iff:= @Bool.and_eq_false_iff
theorem jkW:type_of% @Bool.and_false:= @Bool.and_false
theorem jkX:type_of% @Int.lt_or_eq_of_le:= @Int.lt_or_eq_of_le
theorem jkY:type_of% @List.getElem_range:= @List.getElem_range
theorem jkZ:type_of% @List.length_filter_le:= @List.length_filter_le
theorem jka:type_of% @List.mem_append_left:= @List.mem_append_left
theorem jkb:type_of% @Bool.or_eq_true:= @Bool.or_eq_true
theorem jkc:type_of% @List.mem_filter:= @List.mem_filter
theorem jkd:type_of% @Int.zero_mul:= @Int.zero_mul
theorem jke:type_of% @Int.mul_neg_of_neg_of_pos:= @Int.mul_neg_of_neg_of_pos
theorem jkf:type_of% @List.mem_of_mem_drop:= @List.mem_of_mem_drop
theorem jkg:type_of% @List.drop_of_length_le:= @List.drop_of_length_le
theorem jkh:type_of% @Nat.le_trans:= @Nat.le_trans
theorem jki:type_of% @Nat.mul_one:= @Nat.mul_one
theorem jkj:type_of% @List.all_eq_true:= @List.all_eq_true
theorem jkk:type_of% @List.foldl_cons:= @List.foldl_cons
theorem jkl:type_of% @List.size_toArray:= @List.size_toArray
theorem jkm:type_of% @Bool.false_eq_true:= @Bool.false_eq_true
theorem jkn:type_of% @Int.not_lt:= @Int.not_lt
theorem jko:type_of% @List.mem_range:= @List.mem_range
theorem jkp:type_of% @Int.mul_assoc:= @Int.mul_assoc
theorem jkq:type_of% @Nat.lt_or_eq_of_le:= @Nat.lt_or_eq_of_le
theorem jkr:type_of% @List.toList_toArray:= @List.toList_toArray
theorem jks:type_of% @Int.le_of_mul_le_mul_left:= @Int.le_of_mul_le_mul_left
theorem jkt:type_of% @List.pairwise_iff_getElem:= @List.pairwise_iff_getElem
theorem jku:type_of% @Nat.min_eq_left:= @Nat.min_eq_left
theorem jkv:type_of% @Nat.lt_or_ge:= @Nat.lt_or_ge
theorem jkw:type_of% @List.mem_append_right:= @List.mem_append_right
theorem jkx:type_of% @List.getElem_map:= @List.getElem_map
theorem jky:type_of% @List.length_set:= @List.length_set
theorem jkz:type_of% @Nat.add_assoc:= @Nat.add_assoc
theorem jla:type_of% @Option.map_some:= @Option.map_some
theorem jlb:type_of% @Int.mul_lt_mul_of_pos_left:= @Int.mul_lt_mul_of_pos_left
theorem jlc:type_of% @List.perm_ext_iff_of_nodup:= @List.perm_ext_iff_of_nodup
theorem jld:type_of% @List.any_eq_false:= @List.any_eq_false
theorem jle:type_of% @List.foldl_append:= @List.foldl_append
theorem jlf:type_of% @Int.add_mul:= @Int.add_mul
theorem jlg:type_of% @Int.le_refl:= @Int.le_refl
theorem jlh:type_of% @Int.neg_mul:= @Int.neg_mul
end Go.Proofs.YtbahojdbmmjkcaaGreat
namespace Go.Proofs.YtbahojdbmmjkcaaGreat
open Go Go.ChangeShapes Go.WideShapes Go.ChangeAt Go.RowKit Go.Joins Go.Deep
theorem ji7:ownKnob Tryz.prog.godebug=none:=by kernel_rfl
theorem Fl:laidOutB Tryz.prog=true:=by kernel_rfl
section
variable {H:Type} {enc:TypeId×Value→H} {w:World} {base:Nat} {spare:Nat→Bool} {held:Bool}
end
end Go.Proofs.YtbahojdbmmjkcaaGreat
