import Derived.Test.YtjhaakollekjeaaR24
import Derived.Test.YtjhaakollekjeaaR14
import Derived.Test.YtjhaakollekjeaaR25
namespace Go.Proofs.Ytjhaakollekjeaa
open Go Go.RowKit
set_option linter.unusedVariables false
set_option linter.unusedSimpArgs false
/-- A builder in block b that holds bytes; x: what its two cells hold. -/
def Res.bld (B : Nat) (T e : TypeId) (b : Nat) (x : Value × Value) (bs : List Value) : Res where
 F := fun k => k = b ∨ x.2.ownBlock = some k
 P := fun w => B ≤ b ∧ w.heap[b]? = some (.cells #[x.1, x.2] T (0, 0)) ∧ w.ownsRow B e 1 x.2 bs.length bs ∧ x.2.ownBlock ≠ some b
 low := fun _ h k hk => hk.elim (fun h1 => h1 ▸ lt_of_some h.2.1) (fun h1 => (h.2.2.1.lt k h1).2)
 B := 0
 dep := fun w w' h _ hb => by
  obtain ⟨h0, h1, h2, h3⟩ := h
  refine ⟨h0, (hb b (lt_of_some h1) (.inr (.inl rfl))).trans h1, ⟨h2.1, ?_⟩, h3⟩
  rcases h2.2 with hn | ⟨g, cap, cur, e1, hB, hgg, rest⟩
  ·exact .inl hn
  ·exact .inr ⟨g, cap, cur, e1, hB, (hb g (lt_of_some hgg) (.inr (.inr (by rw [e1]; rfl)))).trans hgg, rest⟩
abbrev bldV (b : Nat) : Value := .pointer (some ⟨b, 0, none⟩)
section
variable {P : Program} {n : Nat} {env : List (Nat × Value)} {w0 : Bs} {Rs : List Res} {K : Act → World → Prop} {Q : Exit → Act → World → Prop} {o : Oper} {B T e b : Nat} {x : Value × Value} {bs : List Value}
theorem bld_at {w : World} (h : (Res.bld B T e b x bs).P w) : Lib.BuilderAt T e B b x.1 bs w := ⟨h.1, x.2, h.2.1, h.2.2.1, h.2.2.2⟩
/-- A fresh builder. -/
theorem at_bld0 (k : Nat) (hX : w0.X = []) (hk : Rs[k]? = some (.cel b T [.pointer none, .slice none 0 0])) (h : At n env w0 (Rs.set k (.bld w0.N T e b (.pointer none, .slice none 0 0) [])) K) : At n env w0 Rs K := fun a w hf hs => by
 have hlow : w0.N ≤ b := ((hs.all k _ hk).2.1 b rfl).elim id (fun h => by rw [hX] at h; cases h)
 refine h a w hf (hs.chg hk (fun hP => ?_) (fun c hc => ?_) rfl)
 ·exact ⟨hlow, hP, World.ownsRow_nil _ _ _ _, by simp [Value.ownBlock]⟩
 ·rcases hc with h1 | h1
  ·exact h1
  ·simp [Value.ownBlock] at h1
theorem bld_st {w w' : World} (hs : St w0 Rs w) (hX : w0.X = []) {p : Value} (h : Lib.BuilderAt T e w0.N b p bs w') (hw : Below w0.N w w') : ∃ v, St w0 [.bld w0.N T e b (p, v) bs] w' := by
 obtain ⟨hB, v, h1, h2, h3⟩ := h
 refine ⟨v, ⟨hw.os.trans hs.over.os, hw.tape.trans hs.over.tape, hw.output.trans hs.over.output, Nat.le_trans hs.over.size hw.size, fun c hc hx => (hw.block c hc).trans (hs.over.block c hc hx)⟩, fun i r hi => ?_, fun i j r s hij hi hj => ?_⟩
 ·match i, hi with
  | 0, hi =>
   simp at hi
   subst hi
   exact ⟨⟨hB, h1, h2, h3⟩, fun c hc => .inl (hc.elim (fun e => e ▸ hB) (fun e => (h2.lt c e).1)), Nat.zero_le _, fun c hc => by rw [hX] at hc; cases hc⟩
 ·match i, j, hi, hj with
  | 0, 0, _, _ => exact absurd rfl hij
/-- A call that turns the builder; nothing else that was made is told of any more. -/
theorem op_callB {f k d : Nat} (hX : w0.X = []) (hfn : FnOk P f) {xs : List Operand} {vs : List Value} {ts : Array TypeId} {v : Value} {p' : Value} {bs' : List Value} (ho : o.op = .call { callee := .value (.func f), args := xs.toArray, argTypes := ts }) (hx : evs env xs = some vs) (hd : o.dst = some d) (hn : d < n)
  (hk : Rs[k]? = some (.bld w0.N T e b x bs)) (hc : ∀ w, St w0 Rs w → Lib.BuilderAt T e w0.N b x.1 bs w → w0.N ≤ w.heap.size → Calls P f vs.toArray w fun e1 w' => e1 = .returned v ∧ Lib.BuilderAt T e w0.N b p' bs' w' ∧ Below w0.N w w')
  (h : ∀ v', At n ((d, v) :: env) w0 [.bld w0.N T e b (p', v') bs'] K) : At n env w0 Rs (fun a w => o.wp P a w K Q) := fun a w hF hs => by
 show o.upon P a K Q ((execOp a.eval o).run P w)
 rw [run_call hfn ho hx hF]
 refine Calls.mono (hc w hs (bld_at (hs.all k _ hk).1) hs.over.size) ?_
 rintro e1 w' ⟨rfl, hp, hw⟩
 obtain ⟨v', hs'⟩ := bld_st hs hX hp hw
 show K (a.put o.dst v) w'
 rw [hd]
 exact h v' _ _ (hF.put hn _) hs'
/-- A call that leaves the world alone from the start on. -/
theorem op_callZ {f d : Nat} (hX : w0.X = []) (hfn : FnOk P f) {xs : List Operand} {vs : List Value} {ts : Array TypeId} {v : Value} (ho : o.op = .call { callee := .value (.func f), args := xs.toArray, argTypes := ts }) (hx : evs env xs = some vs) (hd : o.dst = some d) (hn : d < n)
  (hc : ∀ w, St w0 Rs w → w0.N ≤ w.heap.size → Calls P f vs.toArray w fun e1 w' => e1 = .returned v ∧ Below w0.N w w')
  (h : At n ((d, v) :: env) w0 [] K) : At n env w0 Rs (fun a w => o.wp P a w K Q) := fun a w hF hs => by
 show o.upon P a K Q ((execOp a.eval o).run P w)
 rw [run_call hfn ho hx hF]
 refine Calls.mono (hc w hs hs.over.size) ?_
 rintro e1 w' ⟨rfl, hw⟩
 show K (a.put o.dst v) w'
 rw [hd]
 exact h _ _ (hF.put hn _) ⟨⟨hw.os.trans hs.over.os, hw.tape.trans hs.over.tape, hw.output.trans hs.over.output, Nat.le_trans hs.over.size hw.size, fun c hc hx => (hw.block c hc).trans (hs.over.block c hc hx)⟩, fun i r hi => by simp at hi, fun i j r s _ hi => by simp at hi⟩
end
theorem bytes_str (l : List UInt8) : Lib.strCells ⟨l.toArray⟩ = Lib.byteCells l := rfl
theorem bytes_app (l m : List UInt8) : Lib.byteCells l ++ Lib.byteCells m = Lib.byteCells (l ++ m) := by simp [Lib.byteCells]
theorem WriteString_any (B b : Nat) (l m : List UInt8) (p : Value) (w : World) (h : Lib.BuilderAt 73 5 B b p (Lib.byteCells l) w) (hp : p = .pointer none ∨ p = bldV b) (hlen : l.length + m.length ≤ 100000000000) (hB : B ≤ w.heap.size) :
  Calls Try.prog 32 #[bldV b, .string ⟨m.toArray⟩] w fun e w' => e = .returned (.tuple #[.int .i64 (m.length : Int), .nilIface]) ∧ Lib.BuilderAt 73 5 B b (bldV b) (Lib.byteCells (l ++ m)) w' ∧ Below B w w' := by
 have hh : Lib.IsBuilder 73 5 B b (Lib.byteCells l) w := by
  rcases hp with rfl | rfl
  ·exact .inl h
  ·exact .inr h
 refine (Any.Builder_WriteString laysWS laysJoin_extra B b (Lib.byteCells l) ⟨m.toArray⟩ w hh (by simp [Lib.byteCells, ByteArray.size]; omega) hB).mono ?_
 rintro e w' ⟨rfl, h1, h2⟩
 rw [bytes_str, bytes_app] at h1
 exact ⟨rfl, h1, h2⟩
theorem BuilderString_any (B b : Nat) (l : List UInt8) (p : Value) (w : World) (h : Lib.BuilderAt 73 5 B b p (Lib.byteCells l) w) (hp : p = .pointer none ∨ p = bldV b) (hB : B ≤ w.heap.size) :
  Calls Try.prog 34 #[bldV b] w fun e w' => e = .returned (.string ⟨l.toArray⟩) ∧ Below B w w' := by
 have hh : Lib.IsBuilder 73 5 B b (Lib.byteCells l) w := by
  rcases hp with rfl | rfl
  ·exact .inl h
  ·exact .inr h
 exact Any.Builder_String_any laysStr laysJoin_extra B b l w hh hB
end Go.Proofs.Ytjhaakollekjeaa

namespace Go.Proofs.Ytjhaakollekjeaa
open Go Go.RowKit
set_option linter.unusedVariables false
set_option linter.unusedSimpArgs false
set_option maxRecDepth 100000
set_option maxHeartbeats 4000000
set_option linter.unusedVariables false
set_option linter.unusedSimpArgs false
theorem at_rsB {n : Nat} {env : List (Nat × Value)} {w0 : Bs} {Rs Rs' : List Res} {K : Act → World → Prop} (hr : ∀ w, St w0 Rs w → St w0 Rs' w) (h : At n env w0 Rs' K) : At n env w0 Rs K := fun a w hf hs => h a w hf (hr w hs)
theorem implRegionText_any (A : Option Addr) (n c : Nat) (rs : List Ring_) (w : World) (h : Rings w A n rs) (ht : (total rs : Int) ≤ 1048577) : Calls Try.prog 9 #[regV A n c] w fun e w' => e = .returned (.string ⟨(if regionB rs = true then rgTx rs n else []).toArray⟩) ∧ Over w w' := by
 have hl := h.1
 refine walk_from (m := 23) (Try.func9) rfl rfl (Nat.le_of_ble_eq_true rfl) ?_
 refine at_seq ?_
 refine at_region ?_
 refine at_op rfl ?_
 refine op_box rfl rfl (rfl) rfl (by decide) (fun b1 => ?_)
 refine at_rsE (by simp only [ya,yb,yc,yd,Value.cells,ye]; rfl) ?_
 refine at_q rfl rfl (by decide) (qt_assign rfl rfl) ?_
 refine at_end ?_
 refine at_seq ?_
 refine at_seq ?_
 refine at_region ?_
 refine at_q rfl rfl (by decide) (qt_loadS rfl rfl tys_impl_Region rfl (rdAll (k := 0) rfl)) ?_
 refine at_q rfl rfl (by decide) (qt_call ok_impl_ValidRegion rfl rfl (fun w1 hs => ValidRegion_any A n c rs w1 (h.over hs.fin) ht)) ?_
 refine at_q rfl rfl (by decide) (qt_not rfl rfl) ?_
 refine at_end ?_
 refine at_cond rfl (fun c1 => ?_) (fun c1 => ?_)
 ·try simp only [za,zb,zc,zd,ze,zf,Bool.not_true,Bool.not_false,zg,zh,ne_eq,zi,zj] at c1
  refine at_seq ?_
  refine at_region ?_
  refine at_q rfl rfl (by decide) (qt_assign rfl rfl) ?_
  refine at_end ?_
  refine at_retc ?_
  refine then_ret ?_
  refine at_ret1 rfl (.tmp rfl) ?_
  intro w' hs
  exact ⟨by rw [if_neg (by simpa using c1)], hs.fin⟩
 ·try simp only [za,zb,zc,zd,ze,zf,Bool.not_true,Bool.not_false,zg,zh,ne_eq,zi,zj] at c1
  have hr : regionB rs = true := (by simpa using c1)
  have h40 := reg_len hr
  have h400 : ∀ j, j < rs.length → 1 ≤ (rg rs j).length ∧ (rg rs j).length ≤ 400 := fun j hj => by have := pos_of_ring (regRing hr hj); omega
  refine at_skip ?_
  refine norm_then ?_
  refine at_seq ?_
  refine at_region ?_
  refine at_op rfl ?_
  refine op_alloc rfl tyz_strings_Builder rfl (by decide) (fun b2 => ?_)
  refine at_rsE (by simp only [ya,yb,yc,yd,Value.cells,ye]; rfl) ?_
  refine at_bld0 (e := 5) 1 rfl rfl ?_
  refine at_rsE (by simp only [List.nil_append, List.cons_append, List.set_cons_zero, List.set_cons_succ, List.eraseIdx_cons_zero, List.eraseIdx_cons_succ, Value.cells, List.toList_toArray]; rfl) ?_
  refine at_end ?_
  refine at_seq ?_
  refine at_seq ?_
  refine at_region ?_
  refine at_q rfl rfl (by decide) (qt_fieldAddr rfl rfl tyf_impl_Region_0) ?_
  refine at_q rfl rfl (by decide) (qt_load1 rfl rfl ty1_sl_impl_Ring (rd1 (k := 0) rfl rfl)) ?_
  refine at_q rfl rfl (by decide) (qt_len rfl rfl tyl_sl_impl_Ring) ?_
  refine at_q rfl rfl (by decide) (qt_move rfl rfl) ?_
  refine at_end ?_
  refine at_rsB (Rs' := [.bld (Bs.N ⟨w, []⟩) 73 5 b2 (.pointer none, .slice none 0 0) (Lib.byteCells (rgTx rs 0))]) (fun w' h => (h.picks [1] (by decide)).upto ⟨rfl, trivial⟩) ?_
  refine at_block ?_
  refine at_loopc (X := Nat × Value × Value) (fun x => x.1 ≤ n ∧ (x.2.1 = .pointer none ∨ x.2.1 = bldV b2)) (fun x => n - x.1) (fun x => [(12, .int .i64 (x.1 : Int))]) (C := [(2, _), (3, _), (10, _), (11, _)]) ⟨rfl, rfl, rfl, rfl, trivial⟩ (fun x => [.bld (Bs.N ⟨w, []⟩) 73 5 b2 x.2 (Lib.byteCells (rgTx rs x.1))]) (0, .pointer none, .slice none 0 0) (⟨Nat.zero_le _, .inl rfl⟩) ⟨rfl, rfl, rfl, rfl, rfl, trivial⟩ (fun _ h => h) ?_
  intro ⟨k, p, bv⟩ hx L hL1
  refine at_envE (by simp only [ya,yb]; rfl) ?_
  refine at_rsE (by first | (dsimp only; done) | (dsimp only; rfl) | rfl) ?_
  obtain ⟨hk, hp⟩ : k ≤ n ∧ (p = .pointer none ∨ p = bldV b2) := hx
  refine at_seq ?_
  refine at_region ?_
  refine at_q rfl rfl (by decide) (qt_lss rfl rfl rfl) ?_
  refine at_end ?_
  refine at_seq ?_
  refine at_cond rfl (fun c2 => ?_) (fun c2 => ?_)
  ·try simp only [za,zb,zc,zd,ze,zf,Bool.not_true,Bool.not_false,zg,zh,ne_eq,zi,zj] at c2
   have hlt : k < n := (by omega)
   obtain ⟨eb, eo, Ak, ck, rfl, hbB, hcell2, hpts, hmax⟩ := h.at_ hlt
   have hk4 := h400 k (by omega)
   have htl := rgTx_len (fun j hj => (h400 j hj).2) k (by omega)
   have hjl := jnTo_len (rg rs k) (rg rs k).length
   refine at_skip ?_
   refine norm_then ?_
   refine at_seq ?_
   refine at_block ?_
   refine at_seq ?_
   refine at_region ?_
   refine at_q rfl rfl (by decide) (qt_index rfl rfl rfl tyl_sl_impl_Ring (by omega)) ?_
   refine at_q rfl rfl (by decide) (qt_loadS rfl rfl tys_impl_Ring rfl (rdOld1 hcell2 hbB)) ?_
   refine at_op rfl ?_
   refine op_alloc rfl tyz_impl_Ring rfl (by decide) (fun b3 => ?_)
   refine at_rsE (by simp only [ya,yb,yc,yd,Value.cells,ye]; rfl) ?_
   refine at_op rfl ?_
   refine op_storeAll' (k := 1) rfl rfl rfl rfl (rfl) (by rfl) tyz_impl_Ring.szx rfl rfl rfl ?_
   refine at_rsE (by simp only [ya,yb,yc,yd,Value.cells,ye]; rfl) ?_
   refine at_end ?_
   refine at_region ?_
   refine at_q rfl rfl (by decide) (qt_fieldAddr rfl rfl tyf_impl_Ring_0) ?_
   refine at_q rfl rfl (by decide) (qt_load1 rfl rfl ty1_sl_impl_Pt (rd1 (k := 1) rfl rfl)) ?_
   refine at_q rfl rfl (by decide) (qt_call ok_impl_joinPts rfl rfl (fun w1 hs => joinPts_any Ak _ ck (rg rs k) w1 (hpts.over hs.fin) hk4.1 hk4.2 (ring_okB (regRing hr (show k < rs.length by omega))))) ?_
   refine at_q rfl rfl (by decide) ((qt_addS (b := ⟨[10].toArray⟩) rfl rfl rfl (by rw [ba_size, ba_size]; simp; omega)).as (congrArg Value.string (ba_app _ _))) ?_
   refine at_op rfl ?_
   refine op_callB (k := 0) (p' := bldV b2) rfl ok_p_strings_Builder_WriteString rfl rfl rfl (by decide) rfl (fun w1 hs hb hz => WriteString_any _ b2 _ _ p w1 hb hp (by rw [List.length_append]; simp; omega) hz) (fun v' => ?_)
   refine at_nil ?_
   refine norm_block ?_
   refine norm_then ?_
   refine at_region ?_
   refine at_q rfl rfl (by decide) (qt_add rfl rfl rfl (by omega) (by omega)) ?_
   refine at_q rfl rfl (by decide) (qt_move rfl rfl) ?_
   refine at_end ?_
   exact at_againc hL1 ((k + 1, bldV b2, v')) (⟨show k + 1 ≤ n by omega, .inr rfl⟩) (by simp only; omega) ⟨vi (by omega), rfl, rfl, rfl, rfl, trivial⟩ (fun _ h => h.upto ⟨rfl, trivial⟩)
  ·try simp only [za,zb,zc,zd,ze,zf,Bool.not_true,Bool.not_false,zg,zh,ne_eq,zi,zj] at c2
   have hkn : k = n := (by omega)
   subst hkn
   refine at_exit ?_
   refine pass_then (fun h => by cases h) ?_
   refine pass_then (fun h => by cases h) ?_
   refine pass_hit ?_
   refine norm_then ?_
   refine at_seq ?_
   refine at_region ?_
   refine at_op rfl ?_
   refine op_callZ rfl ok_p_strings_Builder_String rfl rfl rfl (by decide) (fun w1 hs hz => BuilderString_any _ b2 _ p w1 (bld_at (hs.all 0 _ rfl).1) hp hz) ?_
   refine at_q rfl rfl (by decide) (qt_assign rfl rfl) ?_
   refine at_end ?_
   refine at_retc ?_
   refine at_ret1 rfl (.tmp rfl) ?_
   intro w' hs
   exact ⟨by rw [if_pos hr], hs.fin⟩
end Go.Proofs.Ytjhaakollekjeaa
