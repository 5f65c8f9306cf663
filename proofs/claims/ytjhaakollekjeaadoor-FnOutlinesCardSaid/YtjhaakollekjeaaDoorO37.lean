import Derived.Shelf.Strings.OnBuilder
import Derived.Test.YtjhaakollekjeaaDoorO1
import Derived.Test.YtjhaakollekjeaaDoorO19
import Derived.Test.YtjhaakollekjeaaDoorO23
import Derived.Test.YtjhaakollekjeaaDoorO9
import Derived.Test.YtjhaakollekjeaaDoorO22
import Derived.Test.YtjhaakollekjeaaDoorO15
namespace Go.Proofs.YtjhaakollekjeaaDoor
open Go Go.Shelf Go.Proofs Go.RowKit
set_option linter.unusedVariables false
set_option linter.unusedSimpArgs false

def laysJoin_ren : Go.Shelf.Ren := ⟨fun | 156 => 64 | 165 => 86 | 166 => 36 | 169 => 38 | 240 => 62 | 241 => 104 | 276 => 84 | 277 => 114 | n => n, fun | 31 => 60 | 9 => 9 | 3 => 3 | 4 => 4 | 0 => 0 | 20 => 20 | 72 => 83 | 76 => 86 | 70 => 81 | 37 => 30 | 75 => 85 | 127 => 126 | 164 => 147 | 5 => 5 | 80 => 89 | n => n, fun | n => n⟩
theorem laysJoin : Go.Proofs.Lays.n156 Tryd.prog laysJoin_ren := {
 mixed := by kernel_rfl
 f156 := Tryd.func64.trans (congrArg some (by kernel_rfl))
 f165 := Tryd.func86.trans (congrArg some (by kernel_rfl))
 f166 := Tryd.func36.trans (congrArg some (by kernel_rfl))
 f169 := Tryd.func38.trans (congrArg some (by kernel_rfl))
 f240 := Tryd.func62.trans (congrArg some (by kernel_rfl))
 f241 := Tryd.func104.trans (congrArg some (by kernel_rfl))
 f276 := Tryd.func84.trans (congrArg some (by kernel_rfl))
 f277 := Tryd.func114.trans (congrArg some (by kernel_rfl))
 t0 := Tryd.underlying0
 a0 := Tryd.isAgg0
 z0 := Tryd.sizeOf0
 v0 := Tryd.zeroValue0
 t3 := Tryd.underlying3
 a3 := Tryd.isAgg3
 z3 := Tryd.sizeOf3
 v3 := Tryd.zeroValue3
 t4 := Tryd.underlying4
 a4 := Tryd.isAgg4
 z4 := Tryd.sizeOf4
 v4 := Tryd.zeroValue4
 t9 := Tryd.underlying9
 a9 := Tryd.isAgg9
 z9 := Tryd.sizeOf9
 v9 := Tryd.zeroValue9
 t20 := Tryd.underlying20
 a20 := Tryd.isAgg20
 z20 := Tryd.sizeOf20
 v20 := Tryd.zeroValue20
 t31 := Tryd.underlying60
 a31 := Tryd.isAgg60
 z31 := Tryd.sizeOf60
 v31 := Tryd.zeroValue60
 t37 := Tryd.underlying30
 a37 := Tryd.isAgg30
 z37 := Tryd.sizeOf30
 v37 := Tryd.zeroValue30
 t70 := Tryd.underlying81
 a70 := Tryd.isAgg81
 z70 := Tryd.sizeOf81
 v70 := Tryd.zeroValue81
 t72 := Tryd.underlying83
 a72 := Tryd.isAgg83
 z72 := Tryd.sizeOf83
 v72 := Tryd.zeroValue83
 t75 := Tryd.underlying85
 a75 := Tryd.isAgg85
 z75 := Tryd.sizeOf85
 v75 := Tryd.zeroValue85
 t76 := Tryd.underlying86
 a76 := Tryd.isAgg86
 z76 := Tryd.sizeOf86
 v76 := Tryd.zeroValue86
 t127 := Tryd.underlying126
 a127 := Tryd.isAgg126
 z127 := Tryd.sizeOf126
 v127 := Tryd.zeroValue126
 t164 := Tryd.underlying147
 a164 := Tryd.isAgg147
 z164 := Tryd.sizeOf147
 v164 := Tryd.zeroValue147 }


theorem laysJoin_extra : Builder.Extra Tryd.prog laysJoin_ren where
 sizeBuilder := by kernel_rfl
 liesBuilder := by kernel_rfl
 t5 := Tryd.underlying5
 a5 := Tryd.isAgg5
 z5 := Tryd.sizeOf5
 v5 := Tryd.zeroValue5
 infoByte := by kernel_rfl
 cellsByte := by kernel_rfl
 sizeByte := by kernel_rfl
 neB5 := by decide

theorem laysWS : Lays.n166 Tryd.prog laysJoin_ren := {
 mixed := laysJoin.mixed
 f166 := laysJoin.f166
 f240 := laysJoin.f240
 f276 := laysJoin.f276
 t0 := laysJoin.t0
 a0 := laysJoin.a0
 z0 := laysJoin.z0
 v0 := laysJoin.v0
 t3 := laysJoin.t3
 a3 := laysJoin.a3
 z3 := laysJoin.z3
 v3 := laysJoin.v3
 t4 := laysJoin.t4
 a4 := laysJoin.a4
 z4 := laysJoin.z4
 v4 := laysJoin.v4
 t9 := laysJoin.t9
 a9 := laysJoin.a9
 z9 := laysJoin.z9
 v9 := laysJoin.v9
 t20 := laysJoin.t20
 a20 := laysJoin.a20
 z20 := laysJoin.z20
 v20 := laysJoin.v20
 t37 := laysJoin.t37
 a37 := laysJoin.a37
 z37 := laysJoin.z37
 v37 := laysJoin.v37
 t70 := laysJoin.t70
 a70 := laysJoin.a70
 z70 := laysJoin.z70
 v70 := laysJoin.v70
 t72 := laysJoin.t72
 a72 := laysJoin.a72
 z72 := laysJoin.z72
 v72 := laysJoin.v72
 t75 := laysJoin.t75
 a75 := laysJoin.a75
 z75 := laysJoin.z75
 v75 := laysJoin.v75
 t164 := laysJoin.t164
 a164 := laysJoin.a164
 z164 := laysJoin.z164
 v164 := laysJoin.v164 }

theorem laysStr : Lays.n169 Tryd.prog laysJoin_ren := {
 mixed := laysJoin.mixed
 f169 := laysJoin.f169
 t0 := laysJoin.t0
 a0 := laysJoin.a0
 z0 := laysJoin.z0
 v0 := laysJoin.v0
 t3 := laysJoin.t3
 a3 := laysJoin.a3
 z3 := laysJoin.z3
 v3 := laysJoin.v3
 t9 := laysJoin.t9
 a9 := laysJoin.a9
 z9 := laysJoin.z9
 v9 := laysJoin.v9
 t37 := laysJoin.t37
 a37 := laysJoin.a37
 z37 := laysJoin.z37
 v37 := laysJoin.v37
 t70 := laysJoin.t70
 a70 := laysJoin.a70
 z70 := laysJoin.z70
 v70 := laysJoin.v70
 t72 := laysJoin.t72
 a72 := laysJoin.a72
 z72 := laysJoin.z72
 v72 := laysJoin.v72
 t127 := laysJoin.t127
 a127 := laysJoin.a127
 z127 := laysJoin.z127
 v127 := laysJoin.v127 }

theorem Join_any (bk o c : Nat) (xs : List ByteArray) (sep : ByteArray) (w : World) (hcells : ∀ (j : Nat) x, xs[j]? = some x → w.cell? ⟨bk, o + j, none⟩ = some (.string x)) (hbk : bk < w.heap.size) (hN : xs.length ≤ 140737488355328) (hcap : xs.length ≤ c)
  (hlen : (Lib.join (xs.map (·.data.toList)) sep.data.toList).length ≤ 140737488355328) :
  Calls Tryd.prog 64 #[.slice (some ⟨bk, o, none⟩) xs.length c, .string sep] w fun e w' => e = .returned (.string ⟨(Lib.join (xs.map (·.data.toList)) sep.data.toList).toArray⟩) ∧ Over w w' :=
 Any.strings_Join laysJoin laysJoin_extra bk o c xs sep w hcells hbk hN hcap hlen
end Go.Proofs.YtjhaakollekjeaaDoor

namespace Go.Proofs.YtjhaakollekjeaaDoor
open Go Go.RowKit
set_option linter.unusedVariables false
set_option linter.unusedSimpArgs false
end Go.Proofs.YtjhaakollekjeaaDoor

namespace Go.Proofs.YtjhaakollekjeaaDoor
open Go Go.RowKit
set_option linter.unusedVariables false
set_option linter.unusedSimpArgs false
end Go.Proofs.YtjhaakollekjeaaDoor

namespace Go.Proofs.YtjhaakollekjeaaDoor
open Go Go.RowKit
set_option linter.unusedVariables false
set_option linter.unusedSimpArgs false
/-- A builder in block b that holds bytes; x: what its two cells hold. -/
def Res.bld (B : Nat) (T e : TypeId) (b : Nat) (x : Value × Value) (bs : List Value) : Res where
 F := fun k => k = b ∨ x.2.ownBlock = some k
 P := fun w => B ≤ b ∧ w.heap[b]? = some (.cells #[x.1, x.2] T (0, 0)) ∧ w.ownsRow B e 1 x.2 bs.length bs ∧ x.2.ownBlock ≠ some b
 low := fun _ h k hk => hk.elim (fun h1 => h1 ▸ lt_of_some h.2.1) (fun h1 => (h.2.2.1.lt k h1).2)
 B := 0
 dep := fun w w' h _ hb => by
  obtain ⟨h0, h1, h2, h3⟩ := h
  refine ⟨h0, (hb b (lt_of_some h1) (.inr (.inl rfl))).trans h1, ⟨h2.1, ?_⟩, h3⟩
  rcases h2.2 with hn | ⟨g, cap, cur, e1, hB, hgg, rest⟩
  ·exact .inl hn
  ·exact .inr ⟨g, cap, cur, e1, hB, (hb g (lt_of_some hgg) (.inr (.inr (by rw [e1]; rfl)))).trans hgg, rest⟩
abbrev bldV (b : Nat) : Value := .pointer (some ⟨b, 0, none⟩)
section
variable {P : Program} {n : Nat} {env : List (Nat × Value)} {w0 : Bs} {Rs : List Res} {K : Act → World → Prop} {Q : Exit → Act → World → Prop} {o : Oper} {B T e b : Nat} {x : Value × Value} {bs : List Value}
theorem bld_at {w : World} (h : (Res.bld B T e b x bs).P w) : Lib.BuilderAt T e B b x.1 bs w := ⟨h.1, x.2, h.2.1, h.2.2.1, h.2.2.2⟩
/-- A fresh builder. -/
theorem at_bld0 (k : Nat) (hX : w0.X = []) (hk : Rs[k]? = some (.cel b T [.pointer none, .slice none 0 0])) (h : At n env w0 (Rs.set k (.bld w0.N T e b (.pointer none, .slice none 0 0) [])) K) : At n env w0 Rs K := fun a w hf hs => by
 have hlow : w0.N ≤ b := ((hs.all k _ hk).2.1 b rfl).elim id (fun h => by rw [hX] at h; cases h)
 refine h a w hf (hs.chg hk (fun hP => ?_) (fun c hc => ?_) rfl)
 ·exact ⟨hlow, hP, World.ownsRow_nil _ _ _ _, by simp [Value.ownBlock]⟩
 ·rcases hc with h1 | h1
  ·exact h1
  ·simp [Value.ownBlock] at h1
theorem bld_st {w w' : World} (hs : St w0 Rs w) (hX : w0.X = []) {p : Value} (h : Lib.BuilderAt T e w0.N b p bs w') (hw : Below w0.N w w') : ∃ v, St w0 [.bld w0.N T e b (p, v) bs] w' := by
 obtain ⟨hB, v, h1, h2, h3⟩ := h
 refine ⟨v, ⟨hw.os.trans hs.over.os, hw.tape.trans hs.over.tape, hw.output.trans hs.over.output, Nat.le_trans hs.over.size hw.size, fun c hc hx => (hw.block c hc).trans (hs.over.block c hc hx)⟩, fun i r hi => ?_, fun i j r s hij hi hj => ?_⟩
 ·match i, hi with
  | 0, hi =>
   simp at hi
   subst hi
   exact ⟨⟨hB, h1, h2, h3⟩, fun c hc => .inl (hc.elim (fun e => e ▸ hB) (fun e => (h2.lt c e).1)), Nat.zero_le _, fun c hc => by rw [hX] at hc; cases hc⟩
 ·match i, j, hi, hj with
  | 0, 0, _, _ => exact absurd rfl hij
/-- A call that turns the builder; nothing else that was made is told of any more. -/
theorem op_callB {f k d : Nat} (hX : w0.X = []) (hfn : FnOk P f) {xs : List Operand} {vs : List Value} {ts : Array TypeId} {v : Value} {p' : Value} {bs' : List Value} (ho : o.op = .call { callee := .value (.func f), args := xs.toArray, argTypes := ts }) (hx : evs env xs = some vs) (hd : o.dst = some d) (hn : d < n)
  (hk : Rs[k]? = some (.bld w0.N T e b x bs)) (hc : ∀ w, St w0 Rs w → Lib.BuilderAt T e w0.N b x.1 bs w → w0.N ≤ w.heap.size → Calls P f vs.toArray w fun e1 w' => e1 = .returned v ∧ Lib.BuilderAt T e w0.N b p' bs' w' ∧ Below w0.N w w')
  (h : ∀ v', At n ((d, v) :: env) w0 [.bld w0.N T e b (p', v') bs'] K) : At n env w0 Rs (fun a w => o.wp P a w K Q) := fun a w hF hs => by
 show o.upon P a K Q ((execOp a.eval o).run P w)
 rw [run_call hfn ho hx hF]
 refine Calls.mono (hc w hs (bld_at (hs.all k _ hk).1) hs.over.size) ?_
 rintro e1 w' ⟨rfl, hp, hw⟩
 obtain ⟨v', hs'⟩ := bld_st hs hX hp hw
 show K (a.put o.dst v) w'
 rw [hd]
 exact h v' _ _ (hF.put hn _) hs'
/-- A call that leaves the world alone from the start on. -/
theorem op_callZ {f d : Nat} (hX : w0.X = []) (hfn : FnOk P f) {xs : List Operand} {vs : List Value} {ts : Array TypeId} {v : Value} (ho : o.op = .call { callee := .value (.func f), args := xs.toArray, argTypes := ts }) (hx : evs env xs = some vs) (hd : o.dst = some d) (hn : d < n)
  (hc : ∀ w, St w0 Rs w → w0.N ≤ w.heap.size → Calls P f vs.toArray w fun e1 w' => e1 = .returned v ∧ Below w0.N w w')
  (h : At n ((d, v) :: env) w0 [] K) : At n env w0 Rs (fun a w => o.wp P a w K Q) := fun a w hF hs => by
 show o.upon P a K Q ((execOp a.eval o).run P w)
 rw [run_call hfn ho hx hF]
 refine Calls.mono (hc w hs hs.over.size) ?_
 rintro e1 w' ⟨rfl, hw⟩
 show K (a.put o.dst v) w'
 rw [hd]
 exact h _ _ (hF.put hn _) ⟨⟨hw.os.trans hs.over.os, hw.tape.trans hs.over.tape, hw.output.trans hs.over.output, Nat.le_trans hs.over.size hw.size, fun c hc hx => (hw.block c hc).trans (hs.over.block c hc hx)⟩, fun i r hi => by simp at hi, fun i j r s _ hi => by simp at hi⟩
end
theorem bytes_str (l : List UInt8) : Lib.strCells ⟨l.toArray⟩ = Lib.byteCells l := rfl
theorem bytes_app (l m : List UInt8) : Lib.byteCells l ++ Lib.byteCells m = Lib.byteCells (l ++ m) := by simp [Lib.byteCells]
theorem WriteString_any (B b : Nat) (l m : List UInt8) (p : Value) (w : World) (h : Lib.BuilderAt 83 5 B b p (Lib.byteCells l) w) (hp : p = .pointer none ∨ p = bldV b) (hlen : l.length + m.length ≤ 100000000000) (hB : B ≤ w.heap.size) :
  Calls Tryd.prog 36 #[bldV b, .string ⟨m.toArray⟩] w fun e w' => e = .returned (.tuple #[.int .i64 (m.length : Int), .nilIface]) ∧ Lib.BuilderAt 83 5 B b (bldV b) (Lib.byteCells (l ++ m)) w' ∧ Below B w w' := by
 have hh : Lib.IsBuilder 83 5 B b (Lib.byteCells l) w := by
  rcases hp with rfl | rfl
  ·exact .inl h
  ·exact .inr h
 refine (Any.Builder_WriteString laysWS laysJoin_extra B b (Lib.byteCells l) ⟨m.toArray⟩ w hh (by simp [Lib.byteCells, ByteArray.size]; omega) hB).mono ?_
 rintro e w' ⟨rfl, h1, h2⟩
 rw [bytes_str, bytes_app] at h1
 exact ⟨rfl, h1, h2⟩
theorem BuilderString_any (B b : Nat) (l : List UInt8) (p : Value) (w : World) (h : Lib.BuilderAt 83 5 B b p (Lib.byteCells l) w) (hp : p = .pointer none ∨ p = bldV b) (hB : B ≤ w.heap.size) :
  Calls Tryd.prog 38 #[bldV b] w fun e w' => e = .returned (.string ⟨l.toArray⟩) ∧ Below B w w' := by
 have hh : Lib.IsBuilder 83 5 B b (Lib.byteCells l) w := by
  rcases hp with rfl | rfl
  ·exact .inl h
  ·exact .inr h
 exact Any.Builder_String_any laysStr laysJoin_extra B b l w hh hB
end Go.Proofs.YtjhaakollekjeaaDoor

namespace Go.Proofs.YtjhaakollekjeaaDoor
open Go Go.RowKit
set_option linter.unusedVariables false
set_option linter.unusedSimpArgs false
set_option maxRecDepth 100000
set_option maxHeartbeats 4000000
set_option linter.unusedVariables false
set_option linter.unusedSimpArgs false
theorem rowTop {w w' : World} {Rs : List Res} (hs : St ⟨w, []⟩ Rs w') {k B T s n : Nat} {xs : List Value} {x : Option Addr × Nat} (hk : Rs[k]? = some (rowR B T s n xs x)) : w'.ownsRow w.heap.size T s (.slice x.1 n x.2) n xs := by
 have h : w'.ownsRow B T s (.slice x.1 n x.2) n xs := (hs.all k _ hk).1
 refine ⟨h.1, ?_⟩
 rcases h.2 with hn | ⟨g, cap, cur, e, hb, rest⟩
 ·exact .inl hn
 ·refine .inr ⟨g, cap, cur, e, ?_, rest⟩
  exact ((hs.all k _ hk).2.1 g (by show Value.ownBlock _ = some g; rw [e]; rfl)).elim id (fun h => by cases h)
abbrev LinG (o : Option (List (List UInt8))) (e : Ending) (w w' : World) : Prop := ∃ v, e = .returned (.tuple #[v, .bool o.isSome]) ∧ True ∧ w'.ownsRow w.heap.size 9 1 v (o.getD []).length ((o.getD []).map sV) ∧ Over w w'
theorem last_at {l : List UInt8} (h : ¬ l = []) (j : Nat) (hj : j + 1 = l.length) : l.getLast? = some (l[j]'(by omega)) := by
 rw [List.getLast?_eq_getElem?, show l.length - 1 = j by omega, List.getElem?_eq_getElem]
theorem textLines_any (l : List UInt8) (w : World) (hM : MaxL w) (hl : l.length ≤ 1048576) : Calls Tryd.prog 24 #[sV l] w fun e w' => LinG (linI l) e w w' := by
 refine walk_from (m := 18) (Tryd.func24) rfl rfl (Nat.le_of_ble_eq_true rfl) ?_
 refine at_seq ?_
 refine at_region ?_
 refine at_q rfl rfl (by decide) (qt_assign rfl rfl) ?_
 refine at_q rfl rfl (by decide) (qt_assign rfl rfl) ?_
 refine at_end ?_
 refine at_seq ?_
 refine at_seq ?_
 refine at_region ?_
 refine at_q rfl rfl (by decide) (qt_move rfl rfl) ?_
 refine at_q rfl rfl (by decide) (qt_eqlL (m := []) rfl rfl rfl) ?_
 refine at_end ?_
 refine at_cond rfl (fun c1 => ?_) (fun c1 => ?_)
 ·try simp only [za,zb,zc,zd,ze,zf,Bool.not_true,Bool.not_false,zg,zh,ne_eq,zi,zj] at c1
  refine at_seq ?_
  refine at_region ?_
  refine at_q rfl rfl (by decide) (qt_assign rfl rfl) ?_
  refine at_q rfl rfl (by decide) (qt_assign rfl rfl) ?_
  refine at_end ?_
  refine at_retc ?_
  refine then_ret ?_
  refine at_ret2 rfl (.tmp rfl) (.tmp rfl) ?_
  intro w' hs
  exact ⟨_, by rw [linI, if_pos (by simpa using c1)]; rfl, trivial, by rw [linI, if_pos (by simpa using c1)]; exact World.ownsRow_nil _ _ _ _, hs.fin⟩
 ·try simp only [za,zb,zc,zd,ze,zf,Bool.not_true,Bool.not_false,zg,zh,ne_eq,zi,zj] at c1
  have hne : ¬ l = [] := (by simpa using c1)
  have hpos : 0 < l.length := List.length_pos_iff.2 hne
  obtain ⟨j, hj⟩ : ∃ j, j + 1 = l.length := ⟨l.length - 1, by omega⟩
  have hla := last_at hne j hj
  refine at_skip ?_
  refine norm_then ?_
  refine at_seq ?_
  refine at_seq ?_
  refine at_region ?_
  refine at_q rfl rfl (by decide) (qt_move rfl rfl) ?_
  refine at_q rfl rfl (by decide) (qt_move rfl rfl) ?_
  refine at_q rfl rfl (by decide) (qt_lenL rfl rfl Tryd.underlying9) ?_
  refine at_q rfl rfl (by decide) ((qt_sub rfl rfl rfl (by omega) (by omega)).as (congrArg _ (show (l.length : Int) - 1 = (j : Int) by omega))) ?_
  refine at_q rfl rfl (by decide) (qt_idxL (j := j) rfl rfl rfl Tryd.underlying9 (by omega)) ?_
  refine at_q rfl rfl (by decide) (qt_neq8 10 rfl rfl rfl) ?_
  refine at_end ?_
  refine at_cond rfl (fun c2 => ?_) (fun c2 => ?_)
  ·try simp only [za,zb,zc,zd,ze,zf,Bool.not_true,Bool.not_false,zg,zh,ne_eq,zi,zj] at c2
   refine at_seq ?_
   refine at_region ?_
   refine at_q rfl rfl (by decide) (qt_assign rfl rfl) ?_
   refine at_q rfl rfl (by decide) (qt_assign rfl rfl) ?_
   refine at_end ?_
   refine at_retc ?_
   refine then_ret ?_
   refine at_ret2 rfl (.tmp rfl) (.tmp rfl) ?_
   intro w' hs
   have hc : ¬ l[j]'(by omega) = 10 := (by simpa using c2)
   exact ⟨_, by rw [linI, if_neg hne, hla, if_neg (fun k => hc (Option.some.inj k))]; rfl, trivial, by rw [linI, if_neg hne, hla, if_neg (fun k => hc (Option.some.inj k))]; exact World.ownsRow_nil _ _ _ _, hs.fin⟩
  ·try simp only [za,zb,zc,zd,ze,zf,Bool.not_true,Bool.not_false,zg,zh,ne_eq,zi,zj] at c2
   have hc : l[j]'(by omega) = 10 := (by simpa using c2)
   have eI : linI l = some (splL 10 l.dropLast) := (by rw [linI, if_neg hne, hla, if_pos (by rw [hc])])
   have hdl : l.take j = l.dropLast := (by rw [List.dropLast_eq_take, show l.length - 1 = j by omega])
   refine at_skip ?_
   refine norm_then ?_
   refine at_seq ?_
   refine at_region ?_
   refine at_q rfl rfl (by decide) (qt_move rfl rfl) ?_
   refine at_q rfl rfl (by decide) (qt_move rfl rfl) ?_
   refine at_q rfl rfl (by decide) (qt_lenL rfl rfl Tryd.underlying9) ?_
   refine at_q rfl rfl (by decide) ((qt_sub rfl rfl rfl (by omega) (by omega)).as (congrArg _ (show (l.length : Int) - 1 = (j : Int) by omega))) ?_
   refine at_q rfl rfl (by decide) (qt_toL (j := j) rfl rfl rfl Tryd.underlying9 (by omega)) ?_
   refine at_op rfl ?_
   refine op_call ok_strings_Split (X := Option Addr × Nat) (v := fun x => .slice x.1 (splL 10 l.dropLast).length x.2) (r := fun x => rowR 0 9 1 (splL 10 l.dropLast).length ((splL 10 l.dropLast).map sV) x) (H := fun _ => True) rfl rfl rfl (by decide) (fun w1 hs => newRow (show Calls Tryd.prog 48 #[sV (l.take j), .string ⟨#[10]⟩] w1 _ from by rw [hdl]; exact Split_any 10 l.dropLast w1 (hM.over hs.fin) (by rw [List.length_dropLast]; omega))) ?_
   rintro ⟨sA, sc⟩ -
   refine at_rsE (by simp only [ya,yb,yc,yd,Value.cells,ye]; rfl) ?_
   refine at_q rfl rfl (by decide) (qt_assign rfl rfl) ?_
   refine at_q rfl rfl (by decide) (qt_assign rfl rfl) ?_
   refine at_end ?_
   refine at_retc ?_
   refine at_ret2 rfl (.tmp rfl) (.tmp rfl) ?_
   intro w' hs
   refine ⟨_, by rw [eI]; rfl, trivial, ?_, hs.fin⟩
   rw [eI]
   exact rowTop hs (k := 0) rfl
/-! ### Regions -/
theorem lin_facts {l : List UInt8} {L : List (List UInt8)} (hl : l.length ≤ 1048576) (h : linI l = some L) : (∀ x ∈ L, x.length ≤ 1048576) ∧ L.length ≤ 1048577 ∧ ∀ rs, allO txPtsI L = some rs → total rs ≤ 1048577 := by
 unfold linI at h
 split at h
 ·injection h with h
  subst h
  exact ⟨fun x hx => (by cases hx), (by simp), fun rs hr => by simp [allO] at hr; subst hr; simp [total, sumTo]⟩
 ·split at h
  ·injection h with h
   subst h
   have h1 := splL_sum 10 l.dropLast
   have h2 : l.dropLast.length ≤ l.length := by rw [List.length_dropLast]; omega
   exact ⟨fun x hx => Nat.le_trans (spl_word hx) (by omega), by omega, fun rs hr => by have := total_tx (f := txPtsI) (fun l ps hp => ptsI_len hp) hr; omega⟩
  ·cases h
end Go.Proofs.YtjhaakollekjeaaDoor
