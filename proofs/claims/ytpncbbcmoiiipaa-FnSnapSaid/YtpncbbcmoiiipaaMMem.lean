import Derived.Test.YtpncbbcmoiiipaaProg
import Derived.WalkKit
import Derived.KernelRfl
import Derived.Lib.Hide
import Derived.Test.YtpncbbcmoiiipaaRows
import Derived.ProofKit
import Derived.OpenShut
import Derived.ChangeOld
import Derived.Below
import Derived.Lib.SmallJoins
import Derived.Deep.Slices
set_option linter.unusedVariables false
set_option linter.unusedSimpArgs false
namespace Go.Proofs.Ytpncbbcmoiiipaa
open Go Go.RowKit
theorem jZ {p:Prop} [Decidable p] : (decide p=true) =p:=decide_eq_true_eq
theorem j4 {p:Prop} [Decidable p] :decide p=false↔¬p:=decide_eq_false_iff_not
theorem j5 {α:Type _} [BEq α] [LawfulBEq α] {a b:α} : (a==b) =true↔a=b:=beq_iff_eq
theorem j6 {α:Type _} [BEq α] [LawfulBEq α] {a b:α} : (a==b) =false↔a≠b:=beq_eq_false_iff_ne
theorem j7 {b:Bool} : (!b) =true↔b=false:=by cases b<;>simp
theorem j8 {b:Bool} : (!b) =false↔b=true:=by cases b<;>simp
theorem Ja {a b:Int} :¬a<b↔b≤a:=Int.not_lt
theorem Jb {a b:Int} :¬a≤b↔b<a:=Int.not_le
theorem Jc {a b:Nat} :¬a<b↔b≤a:=Nat.not_lt
theorem Jd {a b:Nat} :¬a≤b↔b<a:=Nat.not_le
theorem jX {α:Type _} (s:List α) : [] ++s=s:=rfl
theorem jY {α:Type _} (a:α) (s t:List α) : (a::s) ++t=a:: (s++t) :=rfl
theorem jP {α:Type _} (a b:α) (s:List α) : (a::s).set 0 b=b::s:=rfl
theorem jQ {α:Type _} (a b:α) (s:List α) (n:Nat) : (a::s).set (n+1) b=a::s.set n b:=rfl
theorem Jq {α:Type _} (s:List α) :s.toArray.toList=s:=rfl
theorem JZ {α:Type _} (s:List α) (i:Nat) :s.toArray[i]? =s[i]? :=List.getElem?_toArray
theorem J0 {α:Type _} (a:α) (s:List α) : (a::s)[0]? =some a:=rfl
theorem J9 {α:Type _} (a:α) (s:List α) (i:Nat) : (a::s)[i+1]? =s[i]? :=rfl
theorem qa {α:Type _} (s:List α) (i:Nat) (a:α) :s.toArray.setIfInBounds i a= (s.set i a).toArray:=List.setIfInBounds_toArray ..
def Over (w w':World) :Prop:=Below w.heap.size w w'
theorem Over.out {w w':World} (h:Over w w') :Below w.heap.size w w':=h
theorem Over.refl (w:World) :Over w w:=Below.refl _ _
theorem Over.trans {w a b:World} (h:Over w a) (k:Over a b) :Over w b:=Below.trans h (Below.mono k (Below.size h))
theorem Over.alloc (w:World) (o:Obj) :Over w (w.alloc o) := (Below.refl _ _).alloc (Nat.le_refl _) o
theorem Over.alloc_ {w a:World} (h:Over w a) (o:Obj) :Over w (a.alloc o) :=h.trans (Over.alloc a o)
theorem Over.drew_ {w a:World} (h:Over w a) :Over w a.drew:=Below.drew h
theorem Over.set_ {w a:World} (h:Over w a) {p:Addr} (hp:w.heap.size≤p.block) (u:Value) :Over w (a.setCell p u) :=Below.setCell h hp u
theorem Over.size {w w':World} (h:Over w w') :w.heap.size≤w'.heap.size:=Below.size h
theorem jD {W w1:World} (hb:Over W w1) : (∀b o,b<W.heap.size→w1.cell? ⟨b,o,none⟩ =W.cell? ⟨b,o,none⟩)∧(∀b o,b<W.heap.size→w1.frozen? ⟨b,o,none⟩ =W.frozen? ⟨b,o,none⟩) :=
 ⟨fun b o h=>Below.cell (p:=⟨b,o,none⟩) hb h,fun b o h=>Below.frozen (p:=⟨b,o,none⟩) hb h⟩
abbrev vS (x y:Int) :Value:= .agg #[.int .i64 x, .int .i64 y]
def px (xs:List (Int×Int)) (k:Nat) :Int:= (xs.getD k (0,0)).1
def py (xs:List (Int×Int)) (k:Nat) :Int:= (xs.getD k (0,0)).2
theorem Vz {xs:List (Int×Int)} {k:Nat} (h:k<xs.length) :xs[k] = (px xs k,py xs k) :=by
 simp [px,py,List.getD,List.getElem?_eq_getElem h]
def Pts (w:World) (A:Option Addr) (n:Nat) (xs:List (Int×Int)) :Prop:=
 xs.length=n∧(0<n→∃b o,A=some ⟨b,o,none⟩∧b<w.heap.size∧∀k,k<n→w.cell? ⟨b,o+k*2,none⟩ =some (.int .i64 (px xs k))∧w.cell? ⟨b,o+k*2+1,none⟩ =some (.int .i64 (py xs k)))
theorem Pts.over {w w':World} {A:Option Addr} {n:Nat} {xs:List (Int×Int)} (h:Pts w A n xs) (hb:Over w w') :Pts w' A n xs:=by
 refine⟨h.1,fun hn=> ?_⟩
 obtain ⟨b,o,hA,hlt,hc⟩ :=h.2 hn
 exact⟨b,o,hA,Nat.lt_of_lt_of_le hlt hb.size,fun k hk=>⟨((jD hb).1 b _ hlt).trans (hc k hk).1,((jD hb).1 b _ hlt).trans (hc k hk).2⟩⟩
theorem VC (w:World) (cs:Array Value) (T:TypeId) (i:Nat) : (w.alloc (.cells cs T)).cell? ⟨w.heap.size,i,none⟩ =cs[i]? :=
 cell_of_row _ _ i cs T (0,0) (heap_alloc_new w _)
theorem zz: (∀ {p:Prop} [Decidable p],(decide p=true) =p)∧(∀ {p:Prop} [Decidable p],decide p=false↔¬p)∧(∀ {α:Type} [BEq α] [LawfulBEq α] {a b:α},(a==b) =true↔a=b)∧(∀ {α:Type} [BEq α] [LawfulBEq α] {a b:α},(a==b) =false↔a≠b)∧(∀ {b:Bool},(!b) =true↔b=false)∧(∀ {b:Bool},(!b) =false↔b=true)∧(∀ {a b:Int},¬a<b↔b≤a)∧(∀ {a b:Int},¬a≤b↔b<a)∧(∀ {a b:Nat},¬a<b↔b≤a)∧(∀ {a b:Nat},¬a≤b↔b<a)∧((!true) =false)∧((!false) =true)∧(∀ {α:Type} {a b:α},(a≠b) =¬(a=b)) :=
  ⟨jZ,j4,j5,j6,j7,j8,Ja,Jb,Jc,Jd,rfl,rfl,fun {_ a b} =>rfl⟩
theorem J {α:Sort _} {a:α} :a=a:=rfl
theorem Om {p:Prop} (h:p:=by omega) :p:=h
theorem Kr {p:Prop} (h:p:=by kernel_rfl) :p:=h
theorem Dc {p:Prop} (h:p:=by decide) :p:=h
theorem lb {a b:Nat} (h:Nat.ble a b=true) :a≤b:=Nat.le_of_ble_eq_true h
theorem D1:type_of% @List.take_append_drop:= @List.take_append_drop
theorem D2:type_of% @List.mem_cons_of_mem:= @List.mem_cons_of_mem
theorem D3:type_of% @List.mem_cons_self:= @List.mem_cons_self
theorem D4:type_of% @Int.mul_lt_mul_of_pos_right:= @Int.mul_lt_mul_of_pos_right
theorem D5:type_of% @List.length_drop:= @List.length_drop
theorem D6:type_of% @List.cons_append:= @List.cons_append
theorem D7:type_of% @List.append_nil:= @List.append_nil
theorem D8:type_of% @List.length_nil:= @List.length_nil
theorem D9:type_of% @List.flatMap_cons:= @List.flatMap_cons
theorem DJ:type_of% @Int.mul_le_mul_of_nonneg_right:= @Int.mul_le_mul_of_nonneg_right
theorem DK:type_of% @List.length_append:= @List.length_append
theorem DL:type_of% @Bool.and_eq_true:= @Bool.and_eq_true
theorem DM:type_of% @Nat.le_refl:= @Nat.le_refl
theorem DN:type_of% @List.append_assoc:= @List.append_assoc
theorem DP:type_of% @List.mem_singleton:= @List.mem_singleton
theorem DQ:type_of% @Nat.zero_le:= @Nat.zero_le
theorem DR:type_of% @List.getElem_mem:= @List.getElem_mem
theorem DS:type_of% @Nat.lt_of_lt_of_le:= @Nat.lt_of_lt_of_le
theorem DT:type_of% @List.length_cons:= @List.length_cons
theorem DU:type_of% @Int.mul_nonneg:= @Int.mul_nonneg
theorem DV:type_of% @List.mem_append:= @List.mem_append
theorem DW:type_of% @Int.mul_le_mul_of_nonneg_left:= @Int.mul_le_mul_of_nonneg_left
theorem DY:type_of% @List.take_succ_eq_append_getElem:= @List.take_succ_eq_append_getElem
theorem DZ:type_of% @List.mem_cons:= @List.mem_cons
theorem F0:type_of% @Bool.false_or:= @Bool.false_or
theorem F1:type_of% @List.ext_getElem:= @List.ext_getElem
theorem F2:type_of% @List.getElem_map:= @List.getElem_map
theorem F3:type_of% @Int.mul_one:= @Int.mul_one
theorem F4:type_of% @Option.map_eq_some_iff:= @Option.map_eq_some_iff
theorem F5:type_of% @Bool.false_eq_true:= @Bool.false_eq_true
theorem F6:type_of% @Bool.and_eq_false_iff:= @Bool.and_eq_false_iff
theorem F7:type_of% @List.mem_append_right:= @List.mem_append_right
theorem F8:type_of% @Nat.eq_of_beq_eq_true:= @Nat.eq_of_beq_eq_true
theorem F9:type_of% @Int.mul_lt_mul_of_pos_left:= @Int.mul_lt_mul_of_pos_left
theorem FA:type_of% @Int.mul_neg_of_neg_of_pos:= @Int.mul_neg_of_neg_of_pos
theorem FB:type_of% @Bool.true_and:= @Bool.true_and
theorem FC:type_of% @List.map_append:= @List.map_append
theorem FD:type_of% @Int.le_of_lt:= @Int.le_of_lt
theorem FE:type_of% @Nat.le_trans:= @Nat.le_trans
theorem FF:type_of% @Int.zero_mul:= @Int.zero_mul
theorem FG:type_of% @List.all_eq_true:= @List.all_eq_true
theorem FH:type_of% @Bool.false_and:= @Bool.false_and
theorem FI:type_of% @Nat.lt_or_ge:= @Nat.lt_or_ge
theorem FJ:type_of% @Bool.eq_iff_iff:= @Bool.eq_iff_iff
theorem FK:type_of% @List.mem_of_mem_drop:= @List.mem_of_mem_drop
theorem FL:type_of% @List.mem_of_mem_take:= @List.mem_of_mem_take
theorem FM:type_of% @List.drop_of_length_le:= @List.drop_of_length_le
theorem FN:type_of% @Int.mul_le_mul_of_nonpos_right:= @Int.mul_le_mul_of_nonpos_right
theorem FO:type_of% @Int.not_lt:= @Int.not_lt
theorem FP:type_of% @List.set_append_right:= @List.set_append_right
theorem FQ:type_of% @Bool.true_eq_false:= @Bool.true_eq_false
theorem FR:type_of% @List.take_length:= @List.take_length
theorem Fq9:type_of% @Nat.lt_or_eq_of_le:= @Nat.lt_or_eq_of_le
theorem FT:type_of% @Int.mul_nonpos_of_nonneg_of_nonpos:= @Int.mul_nonpos_of_nonneg_of_nonpos
theorem FU:type_of% @List.foldl_cons:= @List.foldl_cons
theorem FV:type_of% @List.mem_range:= @List.mem_range
theorem FW:type_of% @Nat.mul_le_mul:= @Nat.mul_le_mul
theorem FX:type_of% @List.pairwise_iff_getElem:= @List.pairwise_iff_getElem
theorem FY:type_of% @Array.setIfInBounds_comm:= @Array.setIfInBounds_comm
theorem FZ:type_of% @List.pairwise_append:= @List.pairwise_append
theorem Fa:type_of% @Int.le_of_mul_le_mul_right:= @Int.le_of_mul_le_mul_right
theorem Fb:type_of% @List.map_cons:= @List.map_cons
theorem Fc:type_of% @List.length_map:= @List.length_map
theorem Fd:type_of% @List.eq_nil_of_length_eq_zero:= @List.eq_nil_of_length_eq_zero
theorem Fe:type_of% @List.getElem_of_mem:= @List.getElem_of_mem
theorem Ff:type_of% @List.length_take:= @List.length_take
theorem Fg:type_of% @Int.mul_comm:= @Int.mul_comm
theorem Fh:type_of% @List.map_toArray:= @List.map_toArray
theorem Fi:type_of% @List.mem_map:= @List.mem_map
theorem Fj:type_of% @Int.lt_of_mul_lt_mul_right:= @Int.lt_of_mul_lt_mul_right
theorem Fk:type_of% @List.take_of_length_le:= @List.take_of_length_le
theorem Fl:type_of% @List.nil_append:= @List.nil_append
theorem Fm:type_of% @Bool.not_eq_true':= @Bool.not_eq_true'
theorem Fn:type_of% @List.pairwise_cons:= @List.pairwise_cons
theorem Fo:type_of% @Nat.zero_add:= @Nat.zero_add
theorem Fp:type_of% @List.not_mem_nil:= @List.not_mem_nil
theorem Fq:type_of% @Int.mul_assoc:= @Int.mul_assoc
theorem Fr:type_of% @Int.mul_pos:= @Int.mul_pos
theorem Fs:type_of% @List.flatMap_append:= @List.flatMap_append
theorem Ft:type_of% @List.map_nil:= @List.map_nil
theorem Fu:type_of% @Bool.or_eq_true:= @Bool.or_eq_true
theorem Fv:type_of% @Int.le_of_mul_le_mul_left:= @Int.le_of_mul_le_mul_left
theorem Fw:type_of% @List.drop_eq_getElem_cons:= @List.drop_eq_getElem_cons
theorem Fx:type_of% @Int.lt_trichotomy:= @Int.lt_trichotomy
theorem Fy:type_of% @List.mem_append_left:= @List.mem_append_left
theorem Fz:type_of% @List.size_toArray:= @List.size_toArray
theorem Ia:type_of% @List.any_eq_false:= @List.any_eq_false
theorem Ib:type_of% @Nat.mod_eq_of_lt:= @Nat.mod_eq_of_lt
theorem Ic:type_of% @List.toList_toArray:= @List.toList_toArray
end Go.Proofs.Ytpncbbcmoiiipaa
namespace Go.Proofs.Ytpncbbcmoiiipaa
open Go Go.ChangeShapes Go.WideShapes Go.ChangeAt Go.RowKit Go.Joins Go.Deep
theorem BO:ownKnob Try.prog.godebug=none:=by kernel_rfl
theorem GA:laidOutB Try.prog=true:=by kernel_rfl
section
variable {H:Type} {enc:TypeId×Value→H} {w:World} {base:Nat} {spare:Nat→Bool} {held:Bool}
end
end Go.Proofs.Ytpncbbcmoiiipaa
