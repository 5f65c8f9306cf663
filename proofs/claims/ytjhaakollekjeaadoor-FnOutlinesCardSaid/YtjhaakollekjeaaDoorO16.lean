import Derived.Test.YtjhaakollekjeaaDoorO15
namespace Go.Proofs.YtjhaakollekjeaaDoor
open Go Go.RowKit
set_option linter.unusedVariables false
set_option linter.unusedSimpArgs false
set_option maxRecDepth 100000
set_option maxHeartbeats 4000000
set_option linter.unusedVariables false
set_option linter.unusedSimpArgs false
section
variable {P : Program} {n : Nat} {env : List (Nat × Value)} {w0 : Bs} {Rs : List Res} {o : Oper}
variable {x y : Operand} {T T' : TypeId} {p q : Int}
theorem qt_mulU (ho : o.op = .binOp .mul T x y T') (hx : ev env x = some (.int .u64 p)) (hy : ev env y = some (.int .u64 q)) : Qt P o n env w0 Rs (.int .u64 (IntKind.u64.wrap (p * q))) :=
 qt_of fun a w hf _ => by unfold execOp; simp only [ho, hf.ev hx, hf.ev hy]; simp [go_sem]
theorem qt_addU (ho : o.op = .binOp .add T x y T') (hx : ev env x = some (.int .u64 p)) (hy : ev env y = some (.int .u64 q)) : Qt P o n env w0 Rs (.int .u64 (IntKind.u64.wrap (p + q))) :=
 qt_of fun a w hf _ => by unfold execOp; simp only [ho, hf.ev hx, hf.ev hy]; simp [go_sem]
theorem qt_shrU (ho : o.op = .binOp .shr T x y T') (hx : ev env x = some (.int .u64 p)) (hy : ev env y = some (.int .u64 q)) (hq : 0 ≤ q) (hq2 : q < 64) : Qt P o n env w0 Rs (.int .u64 (p / 2 ^ q.toNat)) :=
 qt_of fun a w hf _ => by unfold execOp; simp only [ho, hf.ev hx, hf.ev hy]; simp [go_sem]
theorem qt_andU (ho : o.op = .binOp .and T x y T') (hx : ev env x = some (.int .u64 p)) (hy : ev env y = some (.int .u64 q)) : Qt P o n env w0 Rs (.int .u64 (bits .and .u64 p q)) :=
 qt_of fun a w hf _ => by unfold execOp; simp only [ho, hf.ev hx, hf.ev hy]; simp [go_sem]
theorem qt_convI {k k' : IntKind} {d : TypeDesc} (ho : o.op = .convert T T' x) (hs : P.underlying T = some d) (hd : P.underlying T' = some (.int k')) (hx : ev env x = some (.int k p)) (hw : k'.wrap p = p) : Qt P o n env w0 Rs (.int k' p) :=
 qt_of fun a w hf _ => by
  have h1 : (convert T T' (.int k p)).run P w = .ok (.int k' p) w := by
   unfold convert
   simp only [Sem.run_bind, run_underlying hs, run_underlying hd, Result.andThen_ok]
   simp [Conv.intToInt, hw]
  unfold execOp; simp only [ho, hf.ev hx]; simp [go_sem, h1]
end
theorem wrapI64 (a : Int) (h1 : -9223372036854775808 ≤ a) (h2 : a ≤ 9223372036854775807) : IntKind.i64.wrap a = a := by simp [IntKind.wrap, IntKind.bits, IntKind.signed]; omega
theorem u64_range (a : Int) : 0 ≤ IntKind.u64.wrap a ∧ IntKind.u64.wrap a < 18446744073709551616 := by
 simp [IntKind.wrap, IntKind.bits, IntKind.signed]
 omega
theorem u64_in (a : Int) (h : 0 ≤ a) (h2 : a < 18446744073709551616) : IntKind.u64.wrap a = a := by simp [IntKind.wrap, IntKind.bits, IntKind.signed]; omega
theorem and255 (a : Int) : 0 ≤ bits .and .u64 a 255 ∧ bits .and .u64 a 255 ≤ 255 := by
 have h : (BitVec.ofInt 64 a &&& BitVec.ofInt 64 255).toNat ≤ 255 := by
  rw [BitVec.toNat_and]
  exact Nat.and_le_right
 have e : bits .and .u64 a 255 = IntKind.u64.wrap ((BitVec.ofInt 64 a &&& BitVec.ofInt 64 255).toNat : Int) := rfl
 rw [e, u64_in _ (by omega) (by omega)]
 omega
/-- Bytes to read. -/
def Byts (w : World) (A : Option Addr) (n : Nat) (zs : List Int) : Prop := zs.length = n ∧ (∀ z ∈ zs, 0 ≤ z ∧ z ≤ 255) ∧ (0 < n → ∃ b o, A = some ⟨b, o, none⟩ ∧ b < w.heap.size ∧ ∀ k, k < n → w.cell? ⟨b, o + k, none⟩ = some (.int .u8 (nth zs k)))
theorem Byts.agree {w w' : World} {A : Option Addr} {n : Nat} {zs : List Int} (h : Byts w A n zs) (hz : w.heap.size ≤ w'.heap.size) (ha : ∀ p, A = some p → w'.heap[p.block]? = w.heap[p.block]?) : Byts w' A n zs := by
 refine ⟨h.1, h.2.1, fun hn => ?_⟩
 obtain ⟨b, o, rfl, hlt, hc⟩ := h.2.2 hn
 refine ⟨b, o, rfl, by omega, fun k hk => ?_⟩
 rw [← hc k hk]
 have := ha _ rfl
 simp only [World.cell?, this]
theorem Byts.over {w w' : World} {A : Option Addr} {n : Nat} {zs : List Int} (h : Byts w A n zs) (hb : Over w w') : Byts w' A n zs := by
 refine ⟨h.1, h.2.1, fun hn => ?_⟩
 obtain ⟨b, o, hA, hlt, hc⟩ := h.2.2 hn
 exact ⟨b, o, hA, Nat.lt_of_lt_of_le hlt hb.size, fun k hk => ((ocell hb).1 b _ hlt).trans (hc k hk)⟩
theorem Byts.ovx {w w' : World} {b : Nat} {A : Option Addr} {n : Nat} {zs : List Int} (h : Byts w A n zs) (ho : Ovx ⟨w, [b]⟩ w') (hne : 0 < n → ∀ p, A = some p → p.block ≠ b) : Byts w' A n zs := by
 refine ⟨h.1, h.2.1, fun hn => ?_⟩
 obtain ⟨b', o, rfl, hlt, hc⟩ := h.2.2 hn
 have hs : w.heap.size ≤ w'.heap.size := ho.size
 have hb := ho.block b' hlt (by simpa using hne hn _ rfl)
 refine ⟨b', o, rfl, by omega, fun k hk => ?_⟩
 rw [← hc k hk]
 simp only [World.cell?, hb]
theorem rdByt {w : World} {b bb oo n j : Nat} {zs : List Int} {Rs : List Res} (h : Byts w (some ⟨bb, oo, none⟩) n zs) (hne : bb ≠ b) (hj : j < n) : ∀ w', St ⟨w, [b]⟩ Rs w' → w'.cell? ⟨bb, oo + j * 1, none⟩ = some (.int .u8 (nth zs j)) := fun w' hs => by
 obtain ⟨b', o', e, _, hc⟩ := (h.ovx hs.over (fun _ p hp => by injection hp with hp; subst hp; exact hne)).2.2 (by omega)
 injection e with e
 injection e with e1 e2 _
 subst e1 e2
 rw [Nat.mul_one]
 exact hc j hj
/-- A source: the bytes, how many numbers were drawn (at most K), a seed. -/
def srcR (b : Nat) (A : Option Addr) (n c K : Nat) : Res where
 F := (· = b)
 P := fun w => ∃ (k : Nat) (s : Int), k ≤ K ∧ 0 ≤ s ∧ s < 18446744073709551616 ∧ w.heap[b]? = some (.cells #[.slice A n c, .int .i64 (k : Int), .int .u64 s] 115 (0, 0))
 low := fun w h q hq => by obtain ⟨k, s, _, _, _, hh⟩ := h; exact hq ▸ lt_of_some hh
 B := 0
 dep := fun w w' h hz hb => by
  obtain ⟨k, s, h1, h2, h3, hh⟩ := h
  exact ⟨k, s, h1, h2, h3, (hb b (lt_of_some hh) (.inr rfl)).trans hh⟩
theorem srcR.more {b n c K K' : Nat} {A : Option Addr} {w : World} (h : (srcR b A n c K).P w) (hk : K ≤ K') : (srcR b A n c K').P w := by
 obtain ⟨k, s, h1, h2⟩ := h
 exact ⟨k, s, Nat.le_trans h1 hk, h2⟩
/-- A call draws from the source: it gives a number with p; at most K' are drawn behind it. -/
abbrev Drw (P : Program) (f : FuncId) (args : Array Value) (w : World) (b : Nat) (A : Option Addr) (n c K K' : Nat) (p : Int → Prop) : Prop :=
 Calls P f args w fun e w' => ∃ x : { v : Int // p v }, e = .returned (.int .i64 x.1) ∧ Wrs (srcR b A n c K).F w w' ∧ (srcR b A n c K').P w' ∧ (∀ q, (srcR b A n c K').F q → (srcR b A n c K).F q ∨ w.heap.size ≤ q) ∧ (srcR b A n c K').B = 0
theorem wrsX {w w' : World} {b : Nat} {Rs : List Res} (hs : St ⟨w, [b]⟩ Rs w') : Wrs (· = b) w w' := hs.over.wrs.mono fun q hq => by simpa using hq
theorem next_any (b : Nat) (A : Option Addr) (n c : Nat) (zs : List Int) (K : Nat) (w : World) (hB : Byts w A n zs) (hne : 0 < n → ∀ p, A = some p → p.block ≠ b) (hP : (srcR b A n c K).P w) (hn : n ≤ 1048576) (hK : K ≤ 1000000) :
  Drw Tryd.prog 80 #[.pointer (some ⟨b, 0, none⟩)] w b A n c K (K + 1) (fun v => 0 ≤ v ∧ v ≤ 255) := by
 obtain ⟨k, s, hk, hs0, hs1, hh⟩ := hP
 have hl := hB.1
 have u1 := u64_range (s * 6364136223846793005)
 refine walk_from1 (m := 62) (Tryd.func80) rfl rfl (Nat.le_of_ble_eq_true rfl) (hh) ?_
 refine at_seq ?_
 refine at_region ?_
 refine at_q rfl rfl (by decide) (qt_assign rfl rfl) ?_
 refine at_end ?_
 refine at_seq ?_
 refine at_region ?_
 refine at_q rfl rfl (by decide) (qt_assign rfl rfl) ?_
 refine at_end ?_
 refine at_seq ?_
 refine at_seq ?_
 refine dg_start mixed rfl ?_
 refine dg_phase 10 ?_
 refine dg_q (i := 0) rfl (by kernel_rfl) (by kernel_rfl) (by kernel_rfl) [] (by kernel_rfl) (fun _ _ _ h => h) rfl rfl (by decide) (fun _ h => h.upto ⟨rfl, trivial⟩) (qt_move rfl rfl) ?_
 refine dg_q (i := 1) rfl (by kernel_rfl) (by kernel_rfl) (by kernel_rfl) [] (by kernel_rfl) (fun _ _ _ h => h) rfl rfl (by decide) (fun _ h => h.upto ⟨rfl, trivial⟩) (qt_nilCheck rfl rfl) ?_
 refine dg_q (i := 2) rfl (by kernel_rfl) (by kernel_rfl) (by kernel_rfl) [] (by kernel_rfl) (fun _ _ _ h => h) rfl rfl (by decide) (fun _ h => h.upto ⟨rfl, trivial⟩) (qt_fieldAddr rfl rfl tyf_spec_l00Src_1) ?_
 refine dg_q (i := 3) rfl (by kernel_rfl) (by kernel_rfl) (by kernel_rfl) [] (by kernel_rfl) (fun _ _ _ h => h) rfl rfl (by decide) (fun _ h => h.upto ⟨rfl, trivial⟩) (qt_load1 rfl rfl ty1_int (rd1 (k := 0) rfl rfl)) ?_
 refine dg_q (i := 4) rfl (by kernel_rfl) (by kernel_rfl) (by kernel_rfl) [] (by kernel_rfl) (fun _ _ _ h => h) rfl rfl (by decide) (fun _ h => h.upto ⟨rfl, trivial⟩) (qt_move rfl rfl) ?_
 refine dg_q (i := 5) rfl (by kernel_rfl) (by kernel_rfl) (by kernel_rfl) [] (by kernel_rfl) (fun _ _ _ h => h) rfl rfl (by decide) (fun _ h => h.upto ⟨rfl, trivial⟩) (qt_nilCheck rfl rfl) ?_
 refine dg_q (i := 6) rfl (by kernel_rfl) (by kernel_rfl) (by kernel_rfl) [] (by kernel_rfl) (fun _ _ _ h => h) rfl rfl (by decide) (fun _ h => h.upto ⟨rfl, trivial⟩) (qt_fieldAddr rfl rfl tyf_spec_l00Src_0) ?_
 refine dg_q (i := 7) rfl (by kernel_rfl) (by kernel_rfl) (by kernel_rfl) [] (by kernel_rfl) (fun _ _ _ h => h) rfl rfl (by decide) (fun _ h => h.upto ⟨rfl, trivial⟩) (qt_load1 rfl rfl ty1_sl_uint8 (rd1 (k := 0) rfl rfl)) ?_
 refine dg_q (i := 8) rfl (by kernel_rfl) (by kernel_rfl) (by kernel_rfl) [] (by kernel_rfl) (fun _ _ _ h => h) rfl rfl (by decide) (fun _ h => h.upto ⟨rfl, trivial⟩) (qt_len rfl rfl tyl_sl_uint8) ?_
 refine dg_q (i := 9) rfl (by kernel_rfl) (by kernel_rfl) (by kernel_rfl) [] (by kernel_rfl) (fun _ _ _ h => h) rfl rfl (by decide) (fun _ h => h.upto ⟨rfl, trivial⟩) (qt_lss rfl rfl rfl) ?_
 refine dg_done (by kernel_rfl) ?_
 refine norm_then ?_
 refine at_cond rfl (fun c1 => ?_) (fun c1 => ?_)
 ·try simp only [za,zb,zc,zd,ze,zf,Bool.not_true,Bool.not_false,zg,zh,ne_eq,zi,zj] at c1
  have hlt : k < n := (by omega)
  obtain ⟨bb, bo, rfl, _⟩ := hB.2.2 (by omega)
  have hz := hB.2.1 _ (List.getElem_mem (show k < zs.length by omega))
  rw [nth_at (by omega)] at hz
  have u2 := u64_range (IntKind.u64.wrap (s * 6364136223846793005) + nth zs k)
  have u3 := u64_range (IntKind.u64.wrap (IntKind.u64.wrap (s * 6364136223846793005) + nth zs k) + 1442695040888963407)
  have u4 := and255 (IntKind.u64.wrap (IntKind.u64.wrap (IntKind.u64.wrap (s * 6364136223846793005) + nth zs k) + 1442695040888963407) / 2 ^ (40 : Int).toNat)
  refine dg_start mixed rfl ?_
  refine dg_phase 12 ?_
  refine dg_q (i := 0) rfl (by kernel_rfl) (by kernel_rfl) (by kernel_rfl) [] (by kernel_rfl) (fun _ _ _ h => h) rfl rfl (by decide) (fun _ h => h.upto ⟨rfl, trivial⟩) (qt_move rfl rfl) ?_
  refine dg_q (i := 1) rfl (by kernel_rfl) (by kernel_rfl) (by kernel_rfl) [] (by kernel_rfl) (fun _ _ _ h => h) rfl rfl (by decide) (fun _ h => h.upto ⟨rfl, trivial⟩) (qt_nilCheck rfl rfl) ?_
  refine dg_q (i := 2) rfl (by kernel_rfl) (by kernel_rfl) (by kernel_rfl) [] (by kernel_rfl) (fun _ _ _ h => h) rfl rfl (by decide) (fun _ h => h.upto ⟨rfl, trivial⟩) (qt_fieldAddr rfl rfl tyf_spec_l00Src_0) ?_
  refine dg_q (i := 3) rfl (by kernel_rfl) (by kernel_rfl) (by kernel_rfl) [] (by kernel_rfl) (fun _ _ _ h => h) rfl rfl (by decide) (fun _ h => h.upto ⟨rfl, trivial⟩) (qt_load1 rfl rfl ty1_sl_uint8 (rd1 (k := 0) rfl rfl)) ?_
  refine dg_q (i := 4) rfl (by kernel_rfl) (by kernel_rfl) (by kernel_rfl) [] (by kernel_rfl) (fun _ _ _ h => h) rfl rfl (by decide) (fun _ h => h.upto ⟨rfl, trivial⟩) (qt_move rfl rfl) ?_
  refine dg_q (i := 5) rfl (by kernel_rfl) (by kernel_rfl) (by kernel_rfl) [] (by kernel_rfl) (fun _ _ _ h => h) rfl rfl (by decide) (fun _ h => h.upto ⟨rfl, trivial⟩) (qt_nilCheck rfl rfl) ?_
  refine dg_q (i := 6) rfl (by kernel_rfl) (by kernel_rfl) (by kernel_rfl) [] (by kernel_rfl) (fun _ _ _ h => h) rfl rfl (by decide) (fun _ h => h.upto ⟨rfl, trivial⟩) (qt_fieldAddr rfl rfl tyf_spec_l00Src_1) ?_
  refine dg_q (i := 7) rfl (by kernel_rfl) (by kernel_rfl) (by kernel_rfl) [] (by kernel_rfl) (fun _ _ _ h => h) rfl rfl (by decide) (fun _ h => h.upto ⟨rfl, trivial⟩) (qt_load1 rfl rfl ty1_int (rd1 (k := 0) rfl rfl)) ?_
  refine dg_q (i := 8) rfl (by kernel_rfl) (by kernel_rfl) (by kernel_rfl) [] (by kernel_rfl) (fun _ _ _ h => h) rfl rfl (by decide) (fun _ h => h.upto ⟨rfl, trivial⟩) (qt_index rfl rfl rfl tyl_sl_uint8 (by omega)) ?_
  refine dg_q (i := 9) rfl (by kernel_rfl) (by kernel_rfl) (by kernel_rfl) [] (by kernel_rfl) (fun _ _ _ h => h) rfl rfl (by decide) (fun _ h => h.upto ⟨rfl, trivial⟩) (qt_load1 rfl rfl ty1_uint8 (rdByt hB (hne (by omega) _ rfl) hlt)) ?_
  refine dg_q (i := 10) rfl (by kernel_rfl) (by kernel_rfl) (by kernel_rfl) [] (by kernel_rfl) (fun _ _ _ h => h) rfl rfl (by decide) (fun _ h => h.upto ⟨rfl, trivial⟩) (qt_convI rfl Tryd.underlying5 Tryd.underlying3 rfl (wrapI64 _ (by omega) (by omega))) ?_
  refine dg_q (i := 11) rfl (by kernel_rfl) (by kernel_rfl) (by kernel_rfl) [] (by kernel_rfl) (fun _ _ _ h => h) rfl rfl (by decide) (fun _ h => h.upto ⟨rfl, trivial⟩) (qt_assign rfl rfl) ?_
  refine dg_done (by kernel_rfl) ?_
  refine norm_then ?_
  refine at_seq ?_
  refine at_region ?_
  refine at_q rfl rfl (by decide) (qt_move rfl rfl) ?_
  refine at_q rfl rfl (by decide) (qt_nilCheck rfl rfl) ?_
  refine at_q rfl rfl (by decide) (qt_fieldAddr rfl rfl tyf_spec_l00Src_1) ?_
  refine at_q rfl rfl (by decide) (qt_load1 rfl rfl ty1_int (rd1 (k := 0) rfl rfl)) ?_
  refine at_q rfl rfl (by decide) (qt_add rfl rfl rfl (by omega) (by omega)) ?_
  refine at_q rfl rfl (by decide) (qt_nilCheck rfl rfl) ?_
  refine at_q rfl rfl (by decide) (qt_fieldAddr rfl rfl tyf_spec_l00Src_1) ?_
  refine at_op rfl ?_
  refine op_store_3_1_1 (k := 0) rfl rfl rfl rfl (rfl) (by rfl) tyz_int.szx rfl ?_
  refine at_rsE (by simp only [ya,yb,yc,yd,Value.cells,ye]; rfl) ?_
  refine at_end ?_
  refine at_seq ?_
  refine at_region ?_
  refine at_q rfl rfl (by decide) (qt_move rfl rfl) ?_
  refine at_q rfl rfl (by decide) (qt_move rfl rfl) ?_
  refine at_q rfl rfl (by decide) (qt_nilCheck rfl rfl) ?_
  refine at_q rfl rfl (by decide) (qt_fieldAddr rfl rfl tyf_spec_l00Src_2) ?_
  refine at_q rfl rfl (by decide) (qt_load1 rfl rfl ty1_uint64 (rd1 (k := 0) rfl rfl)) ?_
  refine at_q rfl rfl (by decide) (qt_mulU rfl rfl rfl) ?_
  refine at_q rfl rfl (by decide) (qt_move rfl rfl) ?_
  refine at_q rfl rfl (by decide) (qt_convI rfl Tryd.underlying3 Tryd.underlying113 rfl (u64_in _ (by omega) (by omega))) ?_
  refine at_q rfl rfl (by decide) (qt_addU rfl rfl rfl) ?_
  refine at_q rfl rfl (by decide) (qt_addU rfl rfl rfl) ?_
  refine at_q rfl rfl (by decide) (qt_nilCheck rfl rfl) ?_
  refine at_q rfl rfl (by decide) (qt_fieldAddr rfl rfl tyf_spec_l00Src_2) ?_
  refine at_op rfl ?_
  refine op_store_3_2_1 (k := 0) rfl rfl rfl rfl (rfl) (by rfl) tyz_uint64.szx rfl ?_
  refine at_rsE (by simp only [ya,yb,yc,yd,Value.cells,ye]; rfl) ?_
  refine at_end ?_
  refine at_seq ?_
  refine at_seq ?_
  refine dg_start mixed rfl ?_
  refine dg_phase 10 ?_
  refine dg_q (i := 0) rfl (by kernel_rfl) (by kernel_rfl) (by kernel_rfl) [] (by kernel_rfl) (fun _ _ _ h => h) rfl rfl (by decide) (fun _ h => h.upto ⟨rfl, trivial⟩) (qt_move rfl rfl) ?_
  refine dg_q (i := 1) rfl (by kernel_rfl) (by kernel_rfl) (by kernel_rfl) [] (by kernel_rfl) (fun _ _ _ h => h) rfl rfl (by decide) (fun _ h => h.upto ⟨rfl, trivial⟩) (qt_nilCheck rfl rfl) ?_
  refine dg_q (i := 2) rfl (by kernel_rfl) (by kernel_rfl) (by kernel_rfl) [] (by kernel_rfl) (fun _ _ _ h => h) rfl rfl (by decide) (fun _ h => h.upto ⟨rfl, trivial⟩) (qt_fieldAddr rfl rfl tyf_spec_l00Src_1) ?_
  refine dg_q (i := 3) rfl (by kernel_rfl) (by kernel_rfl) (by kernel_rfl) [] (by kernel_rfl) (fun _ _ _ h => h) rfl rfl (by decide) (fun _ h => h.upto ⟨rfl, trivial⟩) (qt_load1 rfl rfl ty1_int (rd1 (k := 0) rfl rfl)) ?_
  refine dg_q (i := 4) rfl (by kernel_rfl) (by kernel_rfl) (by kernel_rfl) [] (by kernel_rfl) (fun _ _ _ h => h) rfl rfl (by decide) (fun _ h => h.upto ⟨rfl, trivial⟩) (qt_move rfl rfl) ?_
  refine dg_q (i := 5) rfl (by kernel_rfl) (by kernel_rfl) (by kernel_rfl) [] (by kernel_rfl) (fun _ _ _ h => h) rfl rfl (by decide) (fun _ h => h.upto ⟨rfl, trivial⟩) (qt_nilCheck rfl rfl) ?_
  refine dg_q (i := 6) rfl (by kernel_rfl) (by kernel_rfl) (by kernel_rfl) [] (by kernel_rfl) (fun _ _ _ h => h) rfl rfl (by decide) (fun _ h => h.upto ⟨rfl, trivial⟩) (qt_fieldAddr rfl rfl tyf_spec_l00Src_0) ?_
  refine dg_q (i := 7) rfl (by kernel_rfl) (by kernel_rfl) (by kernel_rfl) [] (by kernel_rfl) (fun _ _ _ h => h) rfl rfl (by decide) (fun _ h => h.upto ⟨rfl, trivial⟩) (qt_load1 rfl rfl ty1_sl_uint8 (rd1 (k := 0) rfl rfl)) ?_
  refine dg_q (i := 8) rfl (by kernel_rfl) (by kernel_rfl) (by kernel_rfl) [] (by kernel_rfl) (fun _ _ _ h => h) rfl rfl (by decide) (fun _ h => h.upto ⟨rfl, trivial⟩) (qt_len rfl rfl tyl_sl_uint8) ?_
  refine dg_q (i := 9) rfl (by kernel_rfl) (by kernel_rfl) (by kernel_rfl) [] (by kernel_rfl) (fun _ _ _ h => h) rfl rfl (by decide) (fun _ h => h.upto ⟨rfl, trivial⟩) (qt_leq rfl rfl rfl) ?_
  refine dg_done (by kernel_rfl) ?_
  refine norm_then ?_
  refine at_cond rfl (fun c2 => ?_) (fun c2 => ?_)
  ·try simp only [za,zb,zc,zd,ze,zf,Bool.not_true,Bool.not_false,zg,zh,ne_eq,zi,zj] at c2
   refine at_seq ?_
   refine at_region ?_
   refine at_q rfl rfl (by decide) (qt_move rfl rfl) ?_
   refine at_q rfl rfl (by decide) (qt_assign rfl rfl) ?_
   refine at_end ?_
   refine at_retc ?_
   refine then_ret ?_
   refine at_ret1 rfl (.tmp rfl) ?_
   intro w' hs
   have hc := hs.cel (k := 0) rfl
   first | exact ⟨⟨_, hz⟩, rfl, wrsX hs, ⟨k + 1, _, by omega, u3.1, u3.2, hc⟩, fun q hq => .inl hq, rfl⟩ | exact ⟨⟨_, u4⟩, rfl, wrsX hs, ⟨k + 1, _, by omega, u3.1, u3.2, hc⟩, fun q hq => .inl hq, rfl⟩ | exact ⟨⟨0, by decide⟩, rfl, wrsX hs, ⟨k + 1, _, by omega, u3.1, u3.2, hc⟩, fun q hq => .inl hq, rfl⟩
  ·try simp only [za,zb,zc,zd,ze,zf,Bool.not_true,Bool.not_false,zg,zh,ne_eq,zi,zj] at c2
   refine at_skip ?_
   refine norm_then ?_
   refine at_seq ?_
   refine at_region ?_
   refine at_q rfl rfl (by decide) (qt_move rfl rfl) ?_
   refine at_q rfl rfl (by decide) (qt_nilCheck rfl rfl) ?_
   refine at_q rfl rfl (by decide) (qt_fieldAddr rfl rfl tyf_spec_l00Src_2) ?_
   refine at_q rfl rfl (by decide) (qt_load1 rfl rfl ty1_uint64 (rd1 (k := 0) rfl rfl)) ?_
   refine at_q rfl rfl (by decide) (qt_shrU (q := 40) rfl rfl rfl (by decide) (by decide)) ?_
   refine at_q rfl rfl (by decide) (qt_andU rfl rfl rfl) ?_
   refine at_q rfl rfl (by decide) (qt_convI rfl Tryd.underlying113 Tryd.underlying2 rfl (wrapI64 _ (by omega) (by omega))) ?_
   refine at_q rfl rfl (by decide) (qt_assign rfl rfl) ?_
   refine at_end ?_
   refine at_retc ?_
   refine at_ret1 rfl (.tmp rfl) ?_
   intro w' hs
   have hc := hs.cel (k := 0) rfl
   first | exact ⟨⟨_, hz⟩, rfl, wrsX hs, ⟨k + 1, _, by omega, u3.1, u3.2, hc⟩, fun q hq => .inl hq, rfl⟩ | exact ⟨⟨_, u4⟩, rfl, wrsX hs, ⟨k + 1, _, by omega, u3.1, u3.2, hc⟩, fun q hq => .inl hq, rfl⟩ | exact ⟨⟨0, by decide⟩, rfl, wrsX hs, ⟨k + 1, _, by omega, u3.1, u3.2, hc⟩, fun q hq => .inl hq, rfl⟩
 ·try simp only [za,zb,zc,zd,ze,zf,Bool.not_true,Bool.not_false,zg,zh,ne_eq,zi,zj] at c1
  have u2 := u64_range (IntKind.u64.wrap (s * 6364136223846793005) + 0)
  have u3 := u64_range (IntKind.u64.wrap (IntKind.u64.wrap (s * 6364136223846793005) + 0) + 1442695040888963407)
  have u4 := and255 (IntKind.u64.wrap (IntKind.u64.wrap (IntKind.u64.wrap (s * 6364136223846793005) + 0) + 1442695040888963407) / 2 ^ (40 : Int).toNat)
  refine at_skip ?_
  refine norm_then ?_
  refine at_seq ?_
  refine at_region ?_
  refine at_q rfl rfl (by decide) (qt_move rfl rfl) ?_
  refine at_q rfl rfl (by decide) (qt_nilCheck rfl rfl) ?_
  refine at_q rfl rfl (by decide) (qt_fieldAddr rfl rfl tyf_spec_l00Src_1) ?_
  refine at_q rfl rfl (by decide) (qt_load1 rfl rfl ty1_int (rd1 (k := 0) rfl rfl)) ?_
  refine at_q rfl rfl (by decide) (qt_add rfl rfl rfl (by omega) (by omega)) ?_
  refine at_q rfl rfl (by decide) (qt_nilCheck rfl rfl) ?_
  refine at_q rfl rfl (by decide) (qt_fieldAddr rfl rfl tyf_spec_l00Src_1) ?_
  refine at_op rfl ?_
  refine op_store_3_1_1 (k := 0) rfl rfl rfl rfl (rfl) (by rfl) tyz_int.szx rfl ?_
  refine at_rsE (by simp only [ya,yb,yc,yd,Value.cells,ye]; rfl) ?_
  refine at_end ?_
  refine at_seq ?_
  refine at_region ?_
  refine at_q rfl rfl (by decide) (qt_move rfl rfl) ?_
  refine at_q rfl rfl (by decide) (qt_move rfl rfl) ?_
  refine at_q rfl rfl (by decide) (qt_nilCheck rfl rfl) ?_
  refine at_q rfl rfl (by decide) (qt_fieldAddr rfl rfl tyf_spec_l00Src_2) ?_
  refine at_q rfl rfl (by decide) (qt_load1 rfl rfl ty1_uint64 (rd1 (k := 0) rfl rfl)) ?_
  refine at_q rfl rfl (by decide) (qt_mulU rfl rfl rfl) ?_
  refine at_q rfl rfl (by decide) (qt_move rfl rfl) ?_
  refine at_q rfl rfl (by decide) (qt_convI rfl Tryd.underlying3 Tryd.underlying113 rfl (u64_in _ (by omega) (by omega))) ?_
  refine at_q rfl rfl (by decide) (qt_addU rfl rfl rfl) ?_
  refine at_q rfl rfl (by decide) (qt_addU rfl rfl rfl) ?_
  refine at_q rfl rfl (by decide) (qt_nilCheck rfl rfl) ?_
  refine at_q rfl rfl (by decide) (qt_fieldAddr rfl rfl tyf_spec_l00Src_2) ?_
  refine at_op rfl ?_
  refine op_store_3_2_1 (k := 0) rfl rfl rfl rfl (rfl) (by rfl) tyz_uint64.szx rfl ?_
  refine at_rsE (by simp only [ya,yb,yc,yd,Value.cells,ye]; rfl) ?_
  refine at_end ?_
  refine at_seq ?_
  refine at_seq ?_
  refine dg_start mixed rfl ?_
  refine dg_phase 10 ?_
  refine dg_q (i := 0) rfl (by kernel_rfl) (by kernel_rfl) (by kernel_rfl) [] (by kernel_rfl) (fun _ _ _ h => h) rfl rfl (by decide) (fun _ h => h.upto ⟨rfl, trivial⟩) (qt_move rfl rfl) ?_
  refine dg_q (i := 1) rfl (by kernel_rfl) (by kernel_rfl) (by kernel_rfl) [] (by kernel_rfl) (fun _ _ _ h => h) rfl rfl (by decide) (fun _ h => h.upto ⟨rfl, trivial⟩) (qt_nilCheck rfl rfl) ?_
  refine dg_q (i := 2) rfl (by kernel_rfl) (by kernel_rfl) (by kernel_rfl) [] (by kernel_rfl) (fun _ _ _ h => h) rfl rfl (by decide) (fun _ h => h.upto ⟨rfl, trivial⟩) (qt_fieldAddr rfl rfl tyf_spec_l00Src_1) ?_
  refine dg_q (i := 3) rfl (by kernel_rfl) (by kernel_rfl) (by kernel_rfl) [] (by kernel_rfl) (fun _ _ _ h => h) rfl rfl (by decide) (fun _ h => h.upto ⟨rfl, trivial⟩) (qt_load1 rfl rfl ty1_int (rd1 (k := 0) rfl rfl)) ?_
  refine dg_q (i := 4) rfl (by kernel_rfl) (by kernel_rfl) (by kernel_rfl) [] (by kernel_rfl) (fun _ _ _ h => h) rfl rfl (by decide) (fun _ h => h.upto ⟨rfl, trivial⟩) (qt_move rfl rfl) ?_
  refine dg_q (i := 5) rfl (by kernel_rfl) (by kernel_rfl) (by kernel_rfl) [] (by kernel_rfl) (fun _ _ _ h => h) rfl rfl (by decide) (fun _ h => h.upto ⟨rfl, trivial⟩) (qt_nilCheck rfl rfl) ?_
  refine dg_q (i := 6) rfl (by kernel_rfl) (by kernel_rfl) (by kernel_rfl) [] (by kernel_rfl) (fun _ _ _ h => h) rfl rfl (by decide) (fun _ h => h.upto ⟨rfl, trivial⟩) (qt_fieldAddr rfl rfl tyf_spec_l00Src_0) ?_
  refine dg_q (i := 7) rfl (by kernel_rfl) (by kernel_rfl) (by kernel_rfl) [] (by kernel_rfl) (fun _ _ _ h => h) rfl rfl (by decide) (fun _ h => h.upto ⟨rfl, trivial⟩) (qt_load1 rfl rfl ty1_sl_uint8 (rd1 (k := 0) rfl rfl)) ?_
  refine dg_q (i := 8) rfl (by kernel_rfl) (by kernel_rfl) (by kernel_rfl) [] (by kernel_rfl) (fun _ _ _ h => h) rfl rfl (by decide) (fun _ h => h.upto ⟨rfl, trivial⟩) (qt_len rfl rfl tyl_sl_uint8) ?_
  refine dg_q (i := 9) rfl (by kernel_rfl) (by kernel_rfl) (by kernel_rfl) [] (by kernel_rfl) (fun _ _ _ h => h) rfl rfl (by decide) (fun _ h => h.upto ⟨rfl, trivial⟩) (qt_leq rfl rfl rfl) ?_
  refine dg_done (by kernel_rfl) ?_
  refine norm_then ?_
  refine at_cond rfl (fun c3 => ?_) (fun c3 => ?_)
  ·try simp only [za,zb,zc,zd,ze,zf,Bool.not_true,Bool.not_false,zg,zh,ne_eq,zi,zj] at c3
   refine at_seq ?_
   refine at_region ?_
   refine at_q rfl rfl (by decide) (qt_move rfl rfl) ?_
   refine at_q rfl rfl (by decide) (qt_assign rfl rfl) ?_
   refine at_end ?_
   refine at_retc ?_
   refine then_ret ?_
   refine at_ret1 rfl (.tmp rfl) ?_
   intro w' hs
   have hc := hs.cel (k := 0) rfl
   first | exact ⟨⟨_, hz⟩, rfl, wrsX hs, ⟨k + 1, _, by omega, u3.1, u3.2, hc⟩, fun q hq => .inl hq, rfl⟩ | exact ⟨⟨_, u4⟩, rfl, wrsX hs, ⟨k + 1, _, by omega, u3.1, u3.2, hc⟩, fun q hq => .inl hq, rfl⟩ | exact ⟨⟨0, by decide⟩, rfl, wrsX hs, ⟨k + 1, _, by omega, u3.1, u3.2, hc⟩, fun q hq => .inl hq, rfl⟩
  ·try simp only [za,zb,zc,zd,ze,zf,Bool.not_true,Bool.not_false,zg,zh,ne_eq,zi,zj] at c3
   refine at_skip ?_
   refine norm_then ?_
   refine at_seq ?_
   refine at_region ?_
   refine at_q rfl rfl (by decide) (qt_move rfl rfl) ?_
   refine at_q rfl rfl (by decide) (qt_nilCheck rfl rfl) ?_
   refine at_q rfl rfl (by decide) (qt_fieldAddr rfl rfl tyf_spec_l00Src_2) ?_
   refine at_q rfl rfl (by decide) (qt_load1 rfl rfl ty1_uint64 (rd1 (k := 0) rfl rfl)) ?_
   refine at_q rfl rfl (by decide) (qt_shrU (q := 40) rfl rfl rfl (by decide) (by decide)) ?_
   refine at_q rfl rfl (by decide) (qt_andU rfl rfl rfl) ?_
   refine at_q rfl rfl (by decide) (qt_convI rfl Tryd.underlying113 Tryd.underlying2 rfl (wrapI64 _ (by omega) (by omega))) ?_
   refine at_q rfl rfl (by decide) (qt_assign rfl rfl) ?_
   refine at_end ?_
   refine at_retc ?_
   refine at_ret1 rfl (.tmp rfl) ?_
   intro w' hs
   have hc := hs.cel (k := 0) rfl
   first | exact ⟨⟨_, hz⟩, rfl, wrsX hs, ⟨k + 1, _, by omega, u3.1, u3.2, hc⟩, fun q hq => .inl hq, rfl⟩ | exact ⟨⟨_, u4⟩, rfl, wrsX hs, ⟨k + 1, _, by omega, u3.1, u3.2, hc⟩, fun q hq => .inl hq, rfl⟩ | exact ⟨⟨0, by decide⟩, rfl, wrsX hs, ⟨k + 1, _, by omega, u3.1, u3.2, hc⟩, fun q hq => .inl hq, rfl⟩
end Go.Proofs.YtjhaakollekjeaaDoor
