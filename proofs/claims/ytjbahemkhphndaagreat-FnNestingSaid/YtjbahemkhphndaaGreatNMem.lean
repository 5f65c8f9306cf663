import Derived.Test.YtjbahemkhphndaaGreatProg
import Derived.WalkKit
import Derived.KernelRfl
import Derived.Lib.Hide
import Derived.Test.YtjbahemkhphndaaGreatRows
import Derived.ProofKit
import Derived.OpenShut
import Derived.ChangeOld
import Derived.Below
import Derived.Lib.SmallJoins
import Derived.Deep.Slices
import Derived.Orders
set_option linter.unusedVariables false
set_option linter.unusedSimpArgs false
namespace Go.Proofs.YtjbahemkhphndaaGreat
open Go Go.RowKit
variable{A:Option Addr}{a w w':World}{b:Bool}{p:Prop}{xs:List (Int×Int)}{α:Type _}
theorem j6[Decidable p]:(decide p=true)=p:=decide_eq_true_eq
theorem j7[Decidable p]:decide p=false↔¬p:=decide_eq_false_iff_not
theorem j8[BEq α][LawfulBEq α]{a b:α}:(a==b)=true↔a=b:=beq_iff_eq
theorem Ja[BEq α][LawfulBEq α]{a b:α}:(a==b)=false↔a≠b:=beq_eq_false_iff_ne
theorem Jb :(!b)=true↔b=false:=by cases b<;>simp
theorem Jc :(!b)=false↔b=true:=by cases b<;>simp
theorem Jd{a b:Int}:¬a<b↔b<=a:=Int.not_lt
theorem Je{a b:Int}:¬a<=b↔b<a:=Int.not_le
theorem Jf{a b:Nat}:¬a<b↔b<=a:=Nat.not_lt
theorem Jg{a b:Nat}:¬a<=b↔b<a:=Nat.not_le
theorem jN(s:List α):[]++s=s:=rfl
theorem jO(a:α)(s t:List α):(a::s)++t=a::(s++t):=rfl
theorem jL(a b:α)(s:List α):(a::s).set 0 b=b::s:=rfl
theorem jM(a b:α)(s:List α)(n:Nat):(a::s).set (n+1) b=a::s.set n b:=rfl
theorem Jk(s:List α):s.toArray.toList=s:=rfl
theorem qX(s:List α)(i:Nat):s.toArray[i]? =s[i]? :=List.getElem?_toArray
theorem qY(a:α)(s:List α):(a::s)[0]? =some a:=rfl
theorem Qb(a:α)(s:List α)(i:Nat):(a::s)[i+1]? =s[i]? :=rfl
theorem Qc(s:List α)(i:Nat)(a:α):s.toArray.setIfInBounds i a=(s.set i a).toArray:=List.setIfInBounds_toArray ..
def Over(w w':World):Prop:=Below w.heap.size w w'
theorem Over.out(h:Over w w'):Below w.heap.size w w':=h
theorem Over.refl(w:World):Over w w:=Below.refl _ _
theorem Over.trans{b:World}(h:Over w a)(k:Over a b):Over w b:=Below.trans h (Below.mono k (Below.size h))
theorem Over.alloc(w:World)(o:Obj):Over w (w.alloc o):=(Below.refl _ _).alloc (Nat.le_refl _) o
theorem Over.alloc_(h:Over w a)(o:Obj):Over w (a.alloc o):=h.trans (Over.alloc a o)
theorem Over.drew_(h:Over w a):Over w a.drew:=Below.drew h
theorem Over.set_(h:Over w a){p:Addr}(hp:w.heap.size<=p.block)(u:Value):Over w (a.setCell p u):=Below.setCell h hp u
theorem Over.size(h:Over w w'):w.heap.size<=w'.heap.size:=Below.size h
theorem Jy{W w1:World}(hb:Over W w1):(∀b o,b<W.heap.size->w1.cell? ⟨b,o,none⟩=W.cell? ⟨b,o,none⟩)/\(∀b o,b<W.heap.size->w1.frozen? ⟨b,o,none⟩=W.frozen? ⟨b,o,none⟩):=
 ⟨λb o h=>Below.cell (p:=⟨b,o,none⟩) hb h,λb o h=>Below.frozen (p:=⟨b,o,none⟩) hb h⟩
abbrev Wh(x y:Int):Value:=.agg #[.int .i64 x,.int .i64 y]
def px(xs:List (Int×Int))(k:Nat):Int:=(xs.getD k (0,0)).1
def py(xs:List (Int×Int))(k:Nat):Int:=(xs.getD k (0,0)).2
theorem YB{k:Nat}(h:k<xs.length):xs[k]=(px xs k,py xs k):=by
 simp[px,py,List.getD,List.getElem?_eq_getElem h]
def Pts(w:World)(A:Option Addr)(n:Nat)(xs:List (Int×Int)):Prop:=
 xs.length=n/\(0<n->∃b o,A=some ⟨b,o,none⟩/\b<w.heap.size/\∀k,k<n->w.cell? ⟨b,o+k*2,none⟩=some (.int .i64 (px xs k))/\w.cell? ⟨b,o+k*2+1,none⟩=some (.int .i64 (py xs k)))
theorem Pts.over{n:Nat}(h:Pts w A n xs)(hb:Over w w'):Pts w' A n xs:=by
 refine⟨h.1,λhn=>?_⟩;obtain⟨b,o,hA,hlt,hc⟩:=h.2 hn;exact⟨b,o,hA,Nat.lt_of_lt_of_le hlt hb.size,λk hk=>⟨((Jy hb).1 b _ hlt).trans (hc k hk).1,((Jy hb).1 b _ hlt).trans (hc k hk).2⟩⟩
theorem ZV(w:World)(cs:Array Value)(T:TypeId)(i:Nat):(w.alloc (.cells cs T)).cell? ⟨w.heap.size,i,none⟩=cs[i]? :=
 cell_of_row _ _ i cs T (0,0) (heap_alloc_new w _)
theorem zz:(∀{p:Prop} [Decidable p],(decide p=true)=p)/\(∀{p:Prop} [Decidable p],decide p=false↔¬p)/\(∀{α:Type} [BEq α] [LawfulBEq α] {a b:α},(a==b)=true↔a=b)/\(∀{α:Type} [BEq α] [LawfulBEq α] {a b:α},(a==b)=false↔a≠b)/\(∀{b:Bool},(!b)=true↔b=false)/\(∀{b:Bool},(!b)=false↔b=true)/\(∀{a b:Int},¬a<b↔b<=a)/\(∀{a b:Int},¬a<=b↔b<a)/\(∀{a b:Nat},¬a<b↔b<=a)/\(∀{a b:Nat},¬a<=b↔b<a)/\((!true)=false)/\((!false)=true)/\(∀{α:Type} {a b:α},(a≠b)=¬(a=b)):=
  ⟨j6,j7,j8,Ja,Jb,Jc,Jd,Je,Jf,Jg,rfl,rfl,λ{_ a b}=>rfl⟩
theorem J{α:Sort _}{a:α}:a=a:=rfl
theorem Om(h:p:=by omega):p:=h
theorem Kr(h:p:=by kernel_rfl):p:=h
theorem Dc(h:p:=by decide):p:=h
theorem lb{a b:Nat}(h:Nat.ble a b=true):a<=b:=Nat.le_of_ble_eq_true h
theorem jl0:type_of% @List.mem_append:= @List.mem_append
theorem jl1:type_of% @List.take_append_drop:= @List.take_append_drop
theorem jl2:type_of% @Int.mul_nonneg:= @Int.mul_nonneg
theorem jl3:type_of% @List.length_take:= @List.length_take
theorem jl4:type_of% @List.flatMap_cons:= @List.flatMap_cons
theorem jl5:type_of% @List.length_nil:= @List.length_nil
theorem jl6:type_of% @Int.mul_lt_mul_of_pos_right:= @Int.mul_lt_mul_of_pos_right
theorem jl7:type_of% @List.mem_cons_self:= @List.mem_cons_self
theorem jl8:type_of% @Bool.eq_iff_iff:= @Bool.eq_iff_iff
theorem jl9:type_of% @List.append_nil:= @List.append_nil
theorem jlJ:type_of% @List.length_append:= @List.length_append
theorem jlK:type_of% @Bool.and_eq_true:= @Bool.and_eq_true
theorem jlL:type_of% @Nat.le_refl:= @Nat.le_refl
theorem jlM:type_of% @List.mem_singleton:= @List.mem_singleton
theorem jlN:type_of% @Nat.zero_le:= @Nat.zero_le
theorem jlO:type_of% @Int.mul_le_mul_of_nonneg_right:= @Int.mul_le_mul_of_nonneg_right
theorem jlP:type_of% @List.mem_cons:= @List.mem_cons
theorem jlQ:type_of% @List.mem_cons_of_mem:= @List.mem_cons_of_mem
theorem jlR:type_of% @List.mem_map:= @List.mem_map
theorem jlS:type_of% @List.length_cons:= @List.length_cons
theorem jlT:type_of% @List.append_assoc:= @List.append_assoc
theorem jlU:type_of% @Nat.lt_of_lt_of_le:= @Nat.lt_of_lt_of_le
theorem jlV:type_of% @List.length_map:= @List.length_map
theorem jlW:type_of% @List.flatMap_append:= @List.flatMap_append
theorem jlX:type_of% @List.take_succ_eq_append_getElem:= @List.take_succ_eq_append_getElem
theorem jlY:type_of% @List.getElem_mem:= @List.getElem_mem
theorem jlZ:type_of% @Bool.true_and:= @Bool.true_and
theorem jm0:type_of% @Nat.mod_eq_of_lt:= @Nat.mod_eq_of_lt
theorem jm1:type_of% @Array.toArray_toList:= @Array.toArray_toList
theorem jm2:type_of% @Int.mul_zero:= @Int.mul_zero
theorem jm3:type_of% @List.range_succ:= @List.range_succ
theorem jm4:type_of% @List.all_eq_true:= @List.all_eq_true
theorem jm5:type_of% @List.ext_getElem:= @List.ext_getElem
theorem jm6:type_of% @Array.setIfInBounds_comm:= @Array.setIfInBounds_comm
theorem jm7:type_of% @Int.lt_or_eq_of_le:= @Int.lt_or_eq_of_le
theorem jm8:type_of% @List.mem_flatMap:= @List.mem_flatMap
theorem jm9:type_of% @List.pairwise_append:= @List.pairwise_append
theorem jmA:type_of% @List.map_cons:= @List.map_cons
theorem jmB:type_of% @List.mem_range:= @List.mem_range
theorem jmC:type_of% @Nat.le_trans:= @Nat.le_trans
theorem jmD:type_of% @Int.mul_neg_of_neg_of_pos:= @Int.mul_neg_of_neg_of_pos
theorem jmE:type_of% @List.length_singleton:= @List.length_singleton
theorem jmF:type_of% @Bool.false_eq_true:= @Bool.false_eq_true
theorem jmG:type_of% @List.drop_of_length_le:= @List.drop_of_length_le
theorem jmH:type_of% @List.mem_append_left:= @List.mem_append_left
theorem jmI:type_of% @List.foldl_cons:= @List.foldl_cons
theorem jmJ:type_of% @List.size_toArray:= @List.size_toArray
theorem jmK:type_of% @List.pairwise_singleton:= @List.pairwise_singleton
theorem jmL:type_of% @Nat.mul_one:= @Nat.mul_one
theorem jmM:type_of% @Int.mul_assoc:= @Int.mul_assoc
theorem jmN:type_of% @Int.le_trans:= @Int.le_trans
theorem jmO:type_of% @Nat.min_eq_left:= @Nat.min_eq_left
theorem jmP:type_of% @List.toList_toArray:= @List.toList_toArray
theorem jmQ:type_of% @List.pairwise_iff_getElem:= @List.pairwise_iff_getElem
theorem jmR:type_of% @Bool.eq_false_iff:= @Bool.eq_false_iff
theorem jmS:type_of% @Int.not_lt:= @Int.not_lt
theorem jmT:type_of% @Nat.lt_or_eq_of_le:= @Nat.lt_or_eq_of_le
theorem jmU:type_of% @Nat.lt_or_ge:= @Nat.lt_or_ge
theorem jmV:type_of% @List.length_set:= @List.length_set
theorem jmW:type_of% @List.getElem_map:= @List.getElem_map
theorem jmX:type_of% @Int.le_of_mul_le_mul_left:= @Int.le_of_mul_le_mul_left
theorem jmY:type_of% @List.nodup_cons:= @List.nodup_cons
theorem jmZ:type_of% @Nat.add_assoc:= @Nat.add_assoc
theorem jma:type_of% @List.map_append:= @List.map_append
theorem jmb:type_of% @List.length_drop:= @List.length_drop
theorem jmc:type_of% @List.pairwise_cons:= @List.pairwise_cons
theorem jmd:type_of% @Nat.zero_add:= @Nat.zero_add
theorem jme:type_of% @List.take_of_length_le:= @List.take_of_length_le
theorem jmf:type_of% @List.cons_append:= @List.cons_append
theorem jmg:type_of% @Bool.false_and:= @Bool.false_and
theorem jmh:type_of% @List.eq_nil_of_length_eq_zero:= @List.eq_nil_of_length_eq_zero
theorem jmi:type_of% @List.not_mem_nil:= @List.not_mem_nil
theorem jmj:type_of% @Int.mul_pos:= @Int.mul_pos
theorem jmk:type_of% @Int.le_of_mul_le_mul_right:= @Int.le_of_mul_le_mul_right
theorem jml:type_of% @Bool.or_eq_true:= @Bool.or_eq_true
theorem jmm:type_of% @Int.lt_of_mul_lt_mul_right:= @Int.lt_of_mul_lt_mul_right
theorem jmn:type_of% @Int.mul_comm:= @Int.mul_comm
theorem jmo:type_of% @Bool.not_eq_true':= @Bool.not_eq_true'
theorem jmp:type_of% @List.mem_of_mem_take:= @List.mem_of_mem_take
theorem jmq:type_of% @List.getElem_of_mem:= @List.getElem_of_mem
theorem jmr:type_of% @Int.mul_le_mul_of_nonneg_left:= @Int.mul_le_mul_of_nonneg_left
theorem jms:type_of% @List.take_length:= @List.take_length
theorem jmt:type_of% @List.nil_append:= @List.nil_append
theorem jmu:type_of% @List.drop_eq_getElem_cons:= @List.drop_eq_getElem_cons
theorem jmv:type_of% @Int.lt_trichotomy:= @Int.lt_trichotomy
theorem jmw:type_of% @Int.le_of_lt:= @Int.le_of_lt
theorem jmx:type_of% @List.mem_filter:= @List.mem_filter
theorem jmy:type_of% @List.mem_of_mem_drop:= @List.mem_of_mem_drop
theorem jmz:type_of% @Int.zero_mul:= @Int.zero_mul
theorem jnA:type_of% @Nat.mod_lt:= @Nat.mod_lt
theorem jnB:type_of% @List.map_nil:= @List.map_nil
theorem jnC:type_of% @Nat.add_zero:= @Nat.add_zero
theorem jnD:type_of% @Nat.mod_self:= @Nat.mod_self
theorem jnE:type_of% @Option.map_some:= @Option.map_some
theorem jnF:type_of% @Int.eq_of_mul_eq_mul_right:= @Int.eq_of_mul_eq_mul_right
theorem jnG:type_of% @Int.mul_lt_mul_of_pos_left:= @Int.mul_lt_mul_of_pos_left
theorem jnH:type_of% @List.perm_ext_iff_of_nodup:= @List.perm_ext_iff_of_nodup
theorem jnI:type_of% @List.foldl_append:= @List.foldl_append
theorem jnJ:type_of% @Int.mul_pos_of_neg_of_neg:= @Int.mul_pos_of_neg_of_neg
theorem jnK:type_of% @Int.one_mul:= @Int.one_mul
theorem jnL:type_of% @List.map_congr_left:= @List.map_congr_left
theorem jna:type_of% @Int.le_refl:= @Int.le_refl
theorem jnb:type_of% @Int.mul_le_mul_of_nonpos_right:= @Int.mul_le_mul_of_nonpos_right
theorem jnc:type_of% @Int.mul_neg_of_pos_of_neg:= @Int.mul_neg_of_pos_of_neg
theorem jnd:type_of% @List.mem_append_right:= @List.mem_append_right
theorem jne:type_of% @List.set_append_right:= @List.set_append_right
theorem jnf:type_of% @Nat.eq_of_beq_eq_true:= @Nat.eq_of_beq_eq_true
theorem jng:type_of% @Bool.true_eq_false:= @Bool.true_eq_false
theorem jnh:type_of% @List.filter_append:= @List.filter_append
theorem jni:type_of% @List.map_map:= @List.map_map
theorem jnj:type_of% @Int.mul_nonpos_of_nonneg_of_nonpos:= @Int.mul_nonpos_of_nonneg_of_nonpos
theorem jnk:type_of% @Int.mul_one:= @Int.mul_one
theorem jnl:type_of% @Int.sub_mul:= @Int.sub_mul
theorem jnm:type_of% @Option.map_eq_some_iff:= @Option.map_eq_some_iff
theorem jnn:type_of% @Bool.and_eq_false_iff:= @Bool.and_eq_false_iff
theorem jno:type_of% @Bool.and_false:= @Bool.and_false
theorem jnp:type_of% @List.getElem_range:= @List.getElem_range
theorem jnq:type_of% @List.length_filter_le:= @List.length_filter_le
theorem jnr:type_of% @Int.add_zero:= @Int.add_zero
theorem jns:type_of% @Int.le_of_eq:= @Int.le_of_eq
theorem jnt:type_of% @Int.max_comm:= @Int.max_comm
theorem jnu:type_of% @Int.min_comm:= @Int.min_comm
theorem jnv:type_of% @Int.mul_ediv_cancel_left:= @Int.mul_ediv_cancel_left
theorem jnw:type_of% @Int.ne_of_gt:= @Int.ne_of_gt
theorem jnx:type_of% @List.pairwise_map:= @List.pairwise_map
theorem jny:type_of% @List.map_toArray:= @List.map_toArray
theorem jnz:type_of% @Int.neg_mul:= @Int.neg_mul
end Go.Proofs.YtjbahemkhphndaaGreat
namespace Go.Proofs.YtjbahemkhphndaaGreat
open Go Go.ChangeShapes Go.WideShapes Go.ChangeAt Go.RowKit Go.Joins Go.Deep
theorem jlw:ownKnob Tryz.prog.godebug=none:=by kernel_rfl
theorem jci:laidOutB Tryz.prog=true:=by kernel_rfl
section
variable{H:Type}{enc:TypeId×Value->H}{w:World}{base:Nat}{spare:Nat->Bool}{held:Bool}
end
end Go.Proofs.YtjbahemkhphndaaGreat
namespace Go.Proofs.YtjbahemkhphndaaGreat
open Go Go.RowKit
variable{K:Act->World->Prop}{T t ti:TypeId}{W w:World}{a:Act}{b fuel i j:Nat}{di:Tmp}{dst:Option Tmp}{listed:Array Bool}{new:Array Value}{o oi oj:Oper}{r:Result Next}{v zi:Value}{x y:Operand}
section
variable{P:Program}{ops:Array Oper}{Q:Exit->Act->World->Prop}{md:Region.Mode}
structure Base where
 holds:World->Prop
 keep:∀w w',holds w->Over w w'->holds w'
def ob(B:World):Base:=⟨Over B,λ_ _ h k=>Over.trans h k⟩
def pb(B:World)(b:Nat)(x y:Value):Base:=⟨λw=>Over B w/\b<w.heap.size/\w.cell? ⟨b,0,none⟩=some x/\w.cell? ⟨b,1,none⟩=some y,
 λ_ _ h k=>⟨h.1.trans k,jlU h.2.1 k.size,((Jy k).1 b 0 h.2.1).trans h.2.2.1,((Jy k).1 b 1 h.2.1).trans h.2.2.2⟩⟩
def vC(P:Program)(md:Region.Mode)(ops:Array Oper)(Q:Exit->Act->World->Prop)(B:Base):Nat->Array Bool->Act->World->Prop
 |0,listed,a,W=>Region.ready md ops listed=[]/\∀w,Over W w->Q .normal a w
 |fuel+1,listed,a,W=>
  (Region.ready md ops listed=[]->∀w,Over W w->Q .normal a w)/\
  ∀i∈Region.ready md ops listed,∀w,Over W w->wpOp P ops Q i (λa' w'=>B.holds w'/\vC P md ops Q B fuel (listed.setIfInBounds i true) a' w') a w
variable{B:Base}
theorem MW:∀(fuel:Nat) (listed:Array Bool) (a:Act) (W W':World),Over W W'->vC P md ops Q B fuel listed a W->vC P md ops Q B fuel listed a W'
 |0,_,_,_,_,ho,h=>⟨h.1,λw hw=>h.2 w (ho.trans hw)⟩
 |_+1,_,_,_,_,ho,h=>⟨λh0 w hw=>h.1 h0 w (ho.trans hw),λi hi w hw=>h.2 i hi w (ho.trans hw)⟩
theorem DZ:∀(fuel:Nat) (listed:Array Bool) (a:Act) (W:World),vC P md ops Q B fuel listed a W->∀w,Over W w->wpAny P md ops Q fuel listed a w
 |0,_,_,_,h,w,hS=>⟨h.1,h.2 w hS⟩
 |fuel+1,_,_,_,h,w,hS=>⟨λh0=>h.1 h0 w hS,λi hi=>wpOp_mono (λa' w' h'=>DZ fuel _ a' w' h'.2 w' (Over.refl _)) (h.2 i hi w hS)⟩
def Tk(P:Program)(dst:Option Tmp)(n:Nat)(v:Value)(w:World):Result Next->Prop
 |.ok (.value u) w'=>(∀a:Act,a.tmps.size=n->a.put dst u=a.put dst v)/\Over w w'
 |.ok .skip w'=>(∀a:Act,a.tmps.size=n->a.put dst undef=a.put dst v)/\Over w w'
 |.ok (.enter f args) w'=>Calls P f args w' λe w''=>∃u,e=.returned u/\(∀a:Act,a.tmps.size=n->a.put dst u=a.put dst v)/\Over w w''
 |.ok (.row row args) w'=>Rows P row args w' λu w''=>(∀a:Act,a.tmps.size=n->a.put dst u=a.put dst v)/\Over w w''
 |_=>False
def Settles(P:Program)(ops:Array Oper)(B:Base)(o:Oper)(v:Value)(a:Act):Prop:=
 (Region.wanted o (yielded ops a.tmps)=true/\∀w,B.holds w->Tk P o.dst a.tmps.size v w ((execOp a.eval o).run P w))\/
 (Region.wanted o (yielded ops a.tmps)=false/\v=undef)
theorem Settles.of_same{a':Act}(hy:Settles P ops B o v a)(hz:a'.tmps.size=a.tmps.size)(he:execOp a'.eval o=execOp a.eval o)(hw:Region.wanted o (yielded ops a'.tmps)=Region.wanted o (yielded ops a.tmps)):Settles P ops B o v a':=by
 unfold Settles at*;rw[he,hw,hz];exact hy
theorem jfA(a:Act)(d:Option Tmp)(v:Value):(a.put d v).tmps.size=a.tmps.size:=by
 cases d<;>simp[Act.put]
theorem Settles.wpOp(hi:ops[i]? =some o)(hy:Settles P ops B o v a)(hS:B.holds w)(h:∀w',Over w w'->K (a.put o.dst v) w'):wpOp P ops Q i K a w:=by
 unfold Go.wpOp;simp only[hi];rcases hy with⟨hw,hv⟩|⟨hw,rfl⟩
 .simp only[hw,if_true];refine .inl ?_;have hg:=hv w hS
  unfold Oper.wp;generalize (execOp a.eval o).run P w=r at*;cases r with
  |ok n w'=>
   cases n<;>simp only[Tk] at hg<;>simp only[Oper.upon]
   case value u=>rw[hg.1 a rfl];exact h _ hg.2
   case skip=>rw[hg.1 a rfl];exact h _ hg.2
   case enter f args=>
    refine Calls.mono hg λe w'' he=>?_
    obtain⟨u,rfl,he,hs⟩:=he;show K (a.put o.dst u) w''
    rw[he a rfl];exact h _ hs
   case row row args=>
    refine Rows.mono hg λu w'' he=>?_
    rw[he.1 a rfl];exact h _ he.2
  |halt x w'=>exact absurd hg (by simp[Tk])
 .simp only[hw,jmF,if_false];exact h _ (Over.refl _)
theorem za(hj:ops[j]? =some oj)(hap:oi.apart ops oj=true)(hsi:∀cs b,oi.op≠ .select cs b)(hsj:∀cs b,oj.op≠ .select cs b)(hQ:∀c a w,Q (.panic c) (a.put oi.dst v) w->Q (.panic c) a w)(hy:Settles P ops B oi v a)(h:wpOp P ops Q j K (a.put oi.dst v) w):
  wpOp P ops Q j (λa' w'=>Settles P ops B oi v a'/\K (a'.put oi.dst v) w') a w:=by
 obtain⟨h1,h2,h3⟩:=Oper.apart_spec hap;have keep:∀(a:Act),Settles P ops B oi v a->∀u,Settles P ops B oi v (a.put oj.dst u):=λa hy u=>
  hy.of_same (jfA _ _ _) (execOp_put oi hsi a oj.dst u h3) (wanted_put oi a oj.dst u h3)
 have keepD:∀d,Settles P ops B oi v {a with defers:=d::a.defers}:=λd=>hy.of_same rfl rfl rfl
 unfold Go.wpOp at*;simp only[hj] at*;rw[wanted_put oj a oi.dst v h1] at h;split
 .rename_i hw;simp only[hw,if_true] at h;rcases h with h|⟨hasks,hlets⟩
  case inr=>exact .inr ⟨by unfold Oper.asks at*;rw[execOp_put oj hsj a oi.dst v h1] at hasks;exact hasks,hlets⟩
  refine .inl ?_;unfold Oper.wp at*;rw[execOp_put oj hsj a oi.dst v h1] at h;generalize (execOp a.eval oj).run P w=r at*;cases r with
  |ok n w'=>
   cases n<;>simp only[Oper.upon] at h⊢
   case value u=>exact⟨keep a hy u,by rw[<-Act.put_comm a v u h2];exact h⟩
   case skip=>exact⟨keep a hy _,by rw[<-Act.put_comm a v undef h2];exact h⟩
   case defer d=>
    refine⟨keep _ (keepD d) _,?_⟩;rw[<-Act.put_comm _ v undef h2,<-Act.put_defers];exact h
   case enter f args=>
    refine Calls.mono h λe w'' he=>?_
    cases e with
    |returned u=>exact⟨keep a hy u,by rw[<-Act.put_comm a v u h2];exact he⟩
    |panicked c=>exact hQ _ _ _ he
    |outgrown=>exact he
   case row row args=>exact Rows.mono h λu w'' he=>⟨keep a hy u,by rw[<-Act.put_comm a v u h2];exact he⟩
  |halt x w'=>
   cases x<;>simp only[Oper.upon] at h⊢
   case panic u=>exact hQ _ _ _ h
 .rename_i hw;simp only[hw] at h;exact⟨keep a hy _,by rw[<-Act.put_comm a v undef h2];exact h⟩
theorem H8(hi:ops[i]? =some oi)(hsel:∀(j:Nat) (o:Oper) cs b,ops[j]? =some o->o.op≠ .select cs b)(hQ:∀c a w,Q (.panic c) (a.put oi.dst v) w->Q (.panic c) a w):
  ∀(fuel:Nat) (listed:Array Bool) (a:Act) (W:World),B.holds W->
   (∀j oj,ops[j]? =some oj->j≠i->listed.getD j true=false->(∀e∈oj.after,Region.binds md e=true->e.on≠i)->oi.apart ops oj=true)->
   i∈Region.ready md ops listed->Settles P ops B oi v a->
   vC P md ops Q B fuel (listed.setIfInBounds i true) (a.put oi.dst v) W->vC P md ops Q B (fuel+1) listed a W:=by
 intro fuel
 induction fuel with
 |zero=>
  intro listed a W hBW _ hr hy H;refine⟨λh=>(by rw[h] at hr;cases hr),λj hj w hS=>?_⟩;by_cases hji:j=i
  .subst hji;exact hy.wpOp hi (B.keep _ _ hBW hS) λw' hw'=>⟨B.keep _ _ (B.keep _ _ hBW hS) hw',MW _ _ _ _ _ (hS.trans hw') H⟩
  .have:=ready_mono hj hji;rw[H.1] at this;cases this
 |succ fuel ih=>
  intro listed a W hBW hfree hr hy H;refine⟨λh=>(by rw[h] at hr;cases hr),λj hj w hS=>?_⟩;by_cases hji:j=i
  .subst hji;exact hy.wpOp hi (B.keep _ _ hBW hS) λw' hw'=>⟨B.keep _ _ (B.keep _ _ hBW hS) hw',MW _ _ _ _ _ (hS.trans hw') H⟩
  .have h1:=H.2 j (ready_mono hj hji) w hS;obtain⟨hjun,oj,hoj,hall⟩:=mem_ready.1 hj;have hnot:∀e∈oj.after,Region.binds md e=true->e.on≠i:=λe he hb heq=>by
    have h1:=hall e he hb;have h0:=(mem_ready.1 hr).1
    rw[heq] at h1;rcases jmU i listed.size with h'|h'
    .simp[h'] at h0 h1;rw[h0] at h1;cases h1
    .simp[Array.getElem?_eq_none h'] at h1
   have h2:=za hoj (hfree j oj hoj hji hjun hnot) (λcs b=>hsel i oi cs b hi) (λcs b=>hsel j oj cs b hoj) hQ hy h1;have hfree':∀k ok,ops[k]? =some ok->k≠i->(listed.setIfInBounds j true).getD k true=false->
     (∀e∈ok.after,Region.binds md e=true->e.on≠i)->oi.apart ops ok=true:=λk ok hk hki hun hno=>by
    refine hfree k ok hk hki ?_ hno;by_cases hjk:j=k
    .subst hjk;exact hjun
    .rw[getD_set_ne true hjk] at hun;exact hun
   refine wpOp_mono (λa' w' h3=>⟨h3.2.1,ih (listed.setIfInBounds j true) a' w' h3.2.1 hfree' (ready_mono hr (Ne.symm hji)) h3.1 ?_⟩) h2;rw[jm6 _ _ hji];exact h3.2.2
def Gv(P:Program)(v:Value)(w:World):Result Next->Prop
 |.ok (.value u) w'=>u=v/\Over w w'
 |.ok .skip w'=>undef=v/\Over w w'
 |.ok (.enter f args) w'=>Calls P f args w' λe w''=>e=.returned v/\Over w w''
 |_=>False
theorem Gv.gives{n:Nat}(h:Gv P v w r):Tk P dst n v w r:=by
 cases r with
 |ok x w'=>
  cases x<;>simp only[Gv] at h<;>simp only[Tk]
  case value u=>obtain⟨rfl,h⟩:=h;exact⟨λ_ _=>rfl,h⟩
  case skip=>obtain⟨rfl,h⟩:=h;exact⟨λ_ _=>rfl,h⟩
  case enter f args=>exact Calls.mono h λe w'' he=>⟨v,he.1,λ_ _=>rfl,he.2⟩
 |halt x w'=>exact absurd h (by simp[Gv])
theorem jB(hBW:B.holds W)(hi:ops[i]? =some oi)(hs:Region.noSelect ops=true)(hf:Region.free md ops listed i=true)(hr:(Region.ready md ops listed).contains i=true)(hQ:∀c a w,Q (.panic c) (a.put oi.dst v) w->Q (.panic c) a w)(hw:Region.wanted oi (yielded ops a.tmps)=true)(hy:∀w,B.holds w->Gv P v w ((execOp a.eval oi).run P w))(h:vC P md ops Q B fuel (listed.setIfInBounds i true) (a.put oi.dst v) W):vC P md ops Q B (fuel+1) listed a W:=
 H8 hi (Region.noSelect_spec hs) hQ fuel listed a W hBW (Region.free_spec hi hf) (by simpa using hr) (.inl ⟨hw,λw hS=>(hy w hS).gives⟩) h
theorem w9(i:Nat)(hBW:B.holds W:=by assumption)(hi:ops[i]? =some oi:=by simp only[qX,qY,Qb];rfl)(hs:Region.noSelect ops=true:=by kernel_rfl)(hf:Region.free md ops listed i=true:=by kernel_rfl)(hr:(Region.ready md ops listed).contains i=true:=by kernel_rfl)(hQ:∀c a w,Q (.panic c) (a.put oi.dst v) w->Q (.panic c) a w:=by exact λ_ _ _ h=>h)(hw:Region.wanted oi (yielded ops a.tmps)=true:=by kernel_rfl)(hy:∀w,B.holds w->Gv P v w ((execOp a.eval oi).run P w))(h:vC P md ops Q B fuel (listed.setIfInBounds i true) (a.put oi.dst v) W):vC P md ops Q B (fuel+1) listed a W:=jB hBW hi hs hf hr hQ hw hy h
theorem w8(i:Nat)(hBW:B.holds W:=by assumption)(hi:ops[i]? =some oi:=by simp only[qX,qY,Qb];rfl)(hs:Region.noSelect ops=true:=by kernel_rfl)(hf:Region.free md ops listed i=true:=by kernel_rfl)(hr:(Region.ready md ops listed).contains i=true:=by kernel_rfl)(hQ:∀c a w,Q (.panic c) (a.put oi.dst v) w->Q (.panic c) a w:=by exact λ_ _ _ h=>h)(hw:Region.wanted oi (yielded ops a.tmps)=true:=by kernel_rfl)(hy:∀w,B.holds w->Gv P v w ((execOp a.eval oi).run P w):=by intro wx hS;obtain⟨hc,hf⟩:=Jy hS;clear hS;go_simp;(try go_bits);exact⟨rfl,Over.refl _⟩)(h:vC P md ops Q B fuel (listed.setIfInBounds i true) (a.put oi.dst v) W):vC P md ops Q B (fuel+1) listed a W:=jB hBW hi hs hf hr hQ hw hy h
theorem i8(i:Nat){X:Act}(h:vC P md ops Q B fuel (listed.setIfInBounds i true) X W)(hBW:B.holds W:=by assumption)(hi:ops[i]? =some oi:=by simp only[qX,qY,Qb];rfl)(hs:Region.noSelect ops=true:=by kernel_rfl)(hf:Region.free md ops listed i=true:=by kernel_rfl)(hr:(Region.ready md ops listed).contains i=true:=by kernel_rfl)(hQ:∀c a w,Q (.panic c) (a.put oi.dst v) w->Q (.panic c) a w:=by exact λ_ _ _ h=>h)(hw:Region.wanted oi (yielded ops a.tmps)=true:=by kernel_rfl)(hy:∀w,B.holds w->Gv P v w ((execOp a.eval oi).run P w):=by intro wx hS;obtain⟨hc,hf⟩:=Jy hS;clear hS;go_simp;(try go_bits);exact⟨rfl,Over.refl _⟩)(e:a.put oi.dst v=X:=by simp only[Act.put,Qc,jL,jM];rfl):vC P md ops Q B (fuel+1) listed a W:=jB hBW hi hs hf hr hQ hw hy (e▸h)
theorem ov9{p:Prop}(h:p:=by repeat (first|exact Over.refl _|(with_reducible assumption)|refine Over.alloc_ ?_ _|refine Over.trans ?_ (by with_reducible assumption)|refine Over.drew_ ?_|refine Over.set_ ?_ (by simp;try omega) _)):p:=h
theorem DV(hi:ops[i]? =some oi)(hr:Region.ready md ops listed=[i])(hw:Region.wanted oi (yielded ops a.tmps)=true)(h:∀w,Over W w->∀K:Act->World->Prop,Hid (∀a' w',B.holds w'->(B.holds w'->vC P md ops Q B fuel (listed.setIfInBounds i true) a' w')->K a' w')->Oper.wp P oi a w K Q):
  vC P md ops Q B (fuel+1) listed a W:=by
 refine⟨λh0=>(by rw[h0] at hr;cases hr),λj hj w hS=>?_⟩;rw[hr] at hj;simp only[jlM] at hj;subst hj;unfold Go.wpOp;simp only[hi,hw,if_true];exact .inl (h w hS _ λa' w' hB hk=>⟨hB,hk hB⟩)
theorem I6{x y:Value}(h:w.heap[b]? =some (.cells (Value.agg #[x,y]).cells t (0,0))):
  w.cell? ⟨b,0,none⟩=some x/\w.cell? ⟨b,1,none⟩=some y/\w.frozen? ⟨b,0,none⟩=false/\w.frozen? ⟨b,1,none⟩=false:=by
 refine⟨(cell_of_row w b 0 _ t (0,0) h).trans J,(cell_of_row w b 1 _ t (0,0) h).trans J,?_,?_⟩<;>simp[World.frozen?,h]
theorem FL{tj:TypeId}{dj:Tmp}{zj:Value}(hBW:B.holds W)(hi:ops[i]? =some oi)(hj:ops[j]? =some oj)(hij:i≠j)(hoi:oi.op=.alloc ti)(hoj:oj.op=.alloc tj)(hdi:oi.dst=some di)(hdj:oj.dst=some dj)(hdd:di≠dj)(hgi:oi.guard=none)(hgj:oj.guard=none)(hzi:∀w,(zeroValue ti).run P w=.ok zi w)(hzj:∀w,(zeroValue tj).run P w=.ok zj w)(hr:Region.ready md ops listed=[i,j])(hri:Region.ready md ops (listed.setIfInBounds i true)=[j])(hrj:Region.ready md ops (listed.setIfInBounds j true)=[i])(h:∀w b c,Over W w->W.heap.size<=b->W.heap.size<=c->b≠c->b<w.heap.size->c<w.heap.size->w.heap[b]? =some (.cells zi.cells ti (0,0))->w.heap[c]? =some (.cells zj.cells tj (0,0))->
   vC P md ops Q B fuel ((listed.setIfInBounds i true).setIfInBounds j true) ((a.put (some di) (.pointer (some ⟨b,0,none⟩))).put (some dj) (.pointer (some ⟨c,0,none⟩))) w):
  vC P md ops Q B (fuel+1+1) listed a W:=by
 have run:∀(o:Oper) (t:TypeId) (z:Value) (a:Act) (w:World),o.op=.alloc t->(∀w,(zeroValue t).run P w=.ok z w)->
   (execOp a.eval o).run P w=.ok (.value (.pointer (some ⟨w.heap.size,0,none⟩))) (w.alloc (.cells z.cells t)):=by
  intro o t z a w ho hz;unfold execOp;simp only[ho,Instr.alloc];simp[hz,go_sem]
 have wnt:∀(o:Oper) (t:Array Value),o.guard=none->Region.wanted o (yielded ops t)=true:=by
  intro o t ho;simp[Region.wanted,ho]
 refine⟨λh0=>(by rw[h0] at hr;cases hr),λk hk w hS=>?_⟩;rw[hr] at hk;have hnew:∀(w:World) (o:Obj),(w.alloc o).heap[w.heap.size]? =some o:=λw o=>heap_alloc_new w o
 rcases jlP.1 hk with rfl|hk
 .unfold Go.wpOp;simp only[hi,wnt oi _ hgi,if_true];refine .inl ?_;unfold Oper.wp;rw[run oi ti zi a w hoi hzi];refine⟨B.keep _ _ (B.keep _ _ hBW hS) (Over.alloc _ _),⟨λh0=>(by rw[h0] at hri;cases hri),λk2 hk2 w2 hS2=>?_⟩⟩;rw[hri] at hk2;simp only[jlM] at hk2;subst hk2;unfold Go.wpOp;simp only[hj,wnt oj _ hgj,if_true];refine .inl ?_;unfold Oper.wp;rw[run oj tj zj _ w2 hoj hzj];have h12:Over w w2:=(Over.alloc _ _).trans hS2
  have hlt:w.heap.size<w2.heap.size:=by have:=hS2.out.size;simp at this;omega
  have hle:W.heap.size<=w.heap.size:=hS.out.size;refine⟨B.keep _ _ (B.keep _ _ (B.keep _ _ hBW hS) h12) (Over.alloc _ _),?_⟩;rw[hdi,hdj];refine h _ w.heap.size w2.heap.size ((hS.trans h12).trans (Over.alloc _ _)) hle Om Om (by simp;omega) (by simp) ?_ (hnew _ _);rw[Below.heap_alloc _ _ _ hlt,hS2.out.block _ (by simp),hnew]
 .simp only[jlM] at hk;subst hk;unfold Go.wpOp;simp only[hj,wnt oj _ hgj,if_true];refine .inl ?_;unfold Oper.wp;rw[run oj tj zj a w hoj hzj];refine⟨B.keep _ _ (B.keep _ _ hBW hS) (Over.alloc _ _),⟨λh0=>(by rw[h0] at hrj;cases hrj),λk2 hk2 w2 hS2=>?_⟩⟩;rw[hrj] at hk2;simp only[jlM] at hk2;subst hk2;unfold Go.wpOp;simp only[hi,wnt oi _ hgi,if_true];refine .inl ?_;unfold Oper.wp;rw[run oi ti zi _ w2 hoi hzi];have h12:Over w w2:=(Over.alloc _ _).trans hS2
  have hlt:w.heap.size<w2.heap.size:=by have:=hS2.out.size;simp at this;omega
  have hle:W.heap.size<=w.heap.size:=hS.out.size;refine⟨B.keep _ _ (B.keep _ _ (B.keep _ _ hBW hS) h12) (Over.alloc _ _),?_⟩;rw[hdi,hdj,jm6 _ _ (Ne.symm hij),Act.put_comm _ _ _ (by intro d hd;cases hd;intro e;cases e;exact hdd rfl)];refine h _ w2.heap.size w.heap.size ((hS.trans h12).trans (Over.alloc _ _)) Om hle Om (by simp) (by simp;omega) (hnew _ _) ?_;rw[Below.heap_alloc _ _ _ hlt,hS2.out.block _ (by simp),hnew]
theorem Zc{old:Array Value}(hi:ops[i]? =some oi)(ho:oi.op=.store T x y)(hd:oi.dst=none)(hg:oi.guard=none)(hr:Region.ready md ops listed=[i])(hx:a.eval x=.pointer (some ⟨b,0,none⟩))(hy:a.eval y=.agg new)(hh:W.heap[b]? =some (.cells old t (0,0)))(hinfo:(P.info? T).map (·.size)=some new.size)(hsz:old.size=new.size)(h1:new.all (·.oneCell')=true)(hkeep:∀w,Over W w->B.holds (w.setRow b new))(h:∀w',(∀k,k<W.heap.size->k≠b->w'.heap[k]? =W.heap[k]?)->W.heap.size<=w'.heap.size->w'.heap[b]? =some (.cells new t (0,0))->w'.os=W.os->w'.tape=W.tape->w'.output=W.output->B.holds w'->
   vC P md ops Q B fuel (listed.setIfInBounds i true) a w'):vC P md ops Q B (fuel+1) listed a W:=by
 refine⟨λh0=>(by rw[h0] at hr;cases hr),λj hj w hS=>?_⟩;rw[hr] at hj;simp only[jlM] at hj;subst hj;have hlt:b<W.heap.size:=by
  rcases jmU b W.heap.size with h|h
  .exact h
  .rw[Array.getElem?_eq_none h] at hh;cases hh
 have hh':w.heap[b]? =some (.cells old t (0,0)):=(hS.out.block b hlt).trans hh;have hrun:(execOp a.eval oi).run P w=.ok .skip (w.setRow b new):=by
  unfold execOp;simp only[ho,hx,hy,Instr.storeAt];have:=run_storeVar_row (P:=P) w b t T old new hh' hinfo hsz h1
  simp[Instr.sureAddr,this]
 unfold Go.wpOp;simp only[hi,Region.wanted,hg,if_true];refine .inl ?_;unfold Oper.wp;rw[hrun,Oper.upon_skip,hd];have hle:W.heap.size<=w.heap.size:=hS.out.size
 have hB2:=hkeep w hS;exact⟨hB2,h _ (λk hk hne=>(setRow_other w b k new hne).trans (hS.out.block k hk)) (by simpa using hle) (setRow_heap w b old new t (0,0) hh') (by simpa using hS.out.os) (by simpa using hS.out.tape) (by simpa using hS.out.output) hB2⟩
theorem MX{k:Nat}{ok:Oper}(hBW:B.holds W)(hi:ops[i]? =some oi)(hk:ops[k]? =some ok)(hoi:oi.op=.alloc ti)(hok:ok.op=.store T x y)(hdi:oi.dst=some di)(hdk:ok.dst=none)(hgi:oi.guard=none)(hgk:ok.guard=none)(hzi:∀w,(zeroValue ti).run P w=.ok zi w)(hr:Region.ready md ops listed=[i])(hrk:Region.ready md ops (listed.setIfInBounds i true)=[k])(hx:∀v,(a.put (some di) v).eval x=v)(hy:∀v,(a.put (some di) v).eval y=.agg new)(hinfo:(P.info? T).map (·.size)=some new.size)(hsz:zi.cells.size=new.size)(h1:new.all (·.oneCell')=true)(h:∀w b,Over W w->W.heap.size<=b->b<w.heap.size->w.heap[b]? =some (.cells new ti (0,0))->B.holds w->
   vC P md ops Q B fuel ((listed.setIfInBounds i true).setIfInBounds k true) (a.put (some di) (.pointer (some ⟨b,0,none⟩))) w):
  vC P md ops Q B (fuel+1+1) listed a W:=by
 refine⟨λh0=>(by rw[h0] at hr;cases hr),λj hj w hS=>?_⟩;rw[hr] at hj;simp only[jlM] at hj;subst hj;have hrun:(execOp a.eval oi).run P w=.ok (.value (.pointer (some ⟨w.heap.size,0,none⟩))) (w.alloc (.cells zi.cells ti)):=by
  unfold execOp;simp only[hoi,Instr.alloc];simp[hzi,go_sem]
 unfold Go.wpOp;simp only[hi,Region.wanted,hgi,if_true];refine .inl ?_;unfold Oper.wp;rw[hrun,Oper.upon_value,hdi];have hBw:=B.keep _ _ hBW hS
 have hle:W.heap.size<=w.heap.size:=hS.out.size;have hz:(w.alloc (Obj.cells zi.cells ti)).heap.size=w.heap.size+1:=by simp
 refine⟨B.keep _ _ hBw (Over.alloc _ _),?_⟩;have hrow:∀w3,Over (w.alloc (Obj.cells zi.cells ti)) w3->Over w (w3.setRow w.heap.size new):=by
  intro w3 h3;refine⟨h3.out.os,h3.out.tape,h3.out.output,by have:=h3.size;simp at this⊢;omega,λc hc=>?_⟩;rw[setRow_other w3 w.heap.size c new Om,h3.out.block c Om,Below.heap_alloc _ _ _ hc]
 refine Zc hk hok hdk hgk hrk (hx _) (hy _) (heap_alloc_new w _) hinfo hsz h1 (λw3 h3=>B.keep _ _ hBw (hrow w3 h3)) ?_;intro w' hother hsize hnew ho1 ho2 ho3 hB';rw[hz] at hother hsize;have hB2:Over W w':=by
  refine⟨ho1.trans hS.out.os,ho2.trans hS.out.tape,ho3.trans hS.out.output,by omega,λc hc=>?_⟩;rw[hother c Om Om,Below.heap_alloc _ _ _ Om];exact hS.out.block c hc
 exact h w' w.heap.size hB2 hle Om hnew hB'
theorem MY{k l:Nat}{ok ol:Oper}{tj T':TypeId}{x' y':Operand}{dj:Tmp}{zj:Value}{new':Array Value}(hBW:B.holds W)(hi:ops[i]? =some oi)(hj:ops[j]? =some oj)(hk:ops[k]? =some ok)(hl:ops[l]? =some ol)(hij:i≠j)(hoi:oi.op=.alloc ti)(hoj:oj.op=.alloc tj)(hok:ok.op=.store T x y)(hol:ol.op=.store T' x' y')(hdi:oi.dst=some di)(hdj:oj.dst=some dj)(hdd:di≠dj)(hdk:ok.dst=none)(hdl:ol.dst=none)(hgi:oi.guard=none)(hgj:oj.guard=none)(hgk:ok.guard=none)(hgl:ol.guard=none)(hzi:∀w,(zeroValue ti).run P w=.ok zi w)(hzj:∀w,(zeroValue tj).run P w=.ok zj w)(hr:Region.ready md ops listed=[i,j])(hri:Region.ready md ops (listed.setIfInBounds i true)=[j])(hrj:Region.ready md ops (listed.setIfInBounds j true)=[i])(hrk:Region.ready md ops ((listed.setIfInBounds i true).setIfInBounds j true)=[k])(hrl:Region.ready md ops (((listed.setIfInBounds i true).setIfInBounds j true).setIfInBounds k true)=[l])(hx:∀u v,((a.put (some di) u).put (some dj) v).eval x=u)(hy:∀u v,((a.put (some di) u).put (some dj) v).eval y=.agg new)(hx':∀u v,((a.put (some di) u).put (some dj) v).eval x'=v)(hy':∀u v,((a.put (some di) u).put (some dj) v).eval y'=.agg new')(hinfo:(P.info? T).map (·.size)=some new.size)(hsz:zi.cells.size=new.size)(h1:new.all (·.oneCell')=true)(hinfo':(P.info? T').map (·.size)=some new'.size)(hsz':zj.cells.size=new'.size)(h1':new'.all (·.oneCell')=true)(h:∀w b c,Over W w->W.heap.size<=b->W.heap.size<=c->b≠c->b<w.heap.size->c<w.heap.size->w.heap[b]? =some (.cells new ti (0,0))->w.heap[c]? =some (.cells new' tj (0,0))->B.holds w->
   vC P md ops Q B fuel ((((listed.setIfInBounds i true).setIfInBounds j true).setIfInBounds k true).setIfInBounds l true) ((a.put (some di) (.pointer (some ⟨b,0,none⟩))).put (some dj) (.pointer (some ⟨c,0,none⟩))) w):
  vC P md ops Q B (fuel+1+1+1+1) listed a W:=by
 refine FL hBW hi hj hij hoi hoj hdi hdj hdd hgi hgj hzi hzj hr hri hrj ?_;intro w b c hWw hb hc hne hbl hcl hhb hhc;have hle:=hWw.out.size
 have hrow:∀(w1 w3:World) (g:Nat) (cs:Array Value),Over W w1->Over w1 w3->W.heap.size<=g->Over W (w3.setRow g cs):=by
  intro w1 w3 g cs h1 h3 hg;have h4:=h1.trans h3
  refine⟨h4.out.os,h4.out.tape,h4.out.output,by simpa using h4.size,λe he=>?_⟩;rw[setRow_other w3 g e cs Om,h4.out.block e he]
 refine Zc hk hok hdk hgk hrk (hx _ _) (hy _ _) hhb hinfo hsz h1 (λw3 h3=>B.keep _ _ hBW (hrow w w3 b new hWw h3 hb)) ?_;intro w1 ho1 hs1 hn1 p1 p2 p3 _;have hW1:Over W w1:=by
  refine⟨p1.trans hWw.out.os,p2.trans hWw.out.tape,p3.trans hWw.out.output,by omega,λe he=>?_⟩;rw[ho1 e Om Om];exact hWw.out.block e he
 refine Zc hl hol hdl hgl hrl (hx' _ _) (hy' _ _) ((ho1 c hcl (Ne.symm hne)).trans hhc) hinfo' hsz' h1' (λw3 h3=>B.keep _ _ hBW (hrow w1 w3 c new' hW1 h3 hc)) ?_;intro w2 ho2 hs2 hn2 q1 q2 q3 hB2;refine h w2 b c ⟨q1.trans hW1.out.os,q2.trans hW1.out.tape,q3.trans hW1.out.output,by omega,λe he=>?_⟩ hb hc hne Om Om ((ho2 b Om hne).trans hn1) hn2 hB2;rw[ho2 e Om Om];exact hW1.out.block e he
theorem KA(hr:Region.ready md ops listed=[])(h:∀w,Over W w->Q .normal a w):
  ∀fuel,vC P md ops Q B fuel listed a W
 |0=>⟨hr,h⟩
 |_+1=>⟨λ_=>h,by rw[hr];simp⟩
theorem KB{id n:Nat}(hB:B.holds w)(hm:P.follows .mixedOrders=true)(hn:ops.size=n)(h:B.holds w->vC P .any ops Q B n (Array.replicate n false) a w):(Code.region id ops true).wp P Q a w:=by
 subst hn;exact wp_region_any hm (DZ _ _ _ _ (h hB) _ (Below.refl _ _).drew)
end
end Go.Proofs.YtjbahemkhphndaaGreat
