import Derived.Test.YtjhaakollekjeaaDoorO5
import Derived.Test.YtjhaakollekjeaaDoorO16
import Derived.Test.YtjhaakollekjeaaDoorO15
import Derived.Test.YtjhaakollekjeaaDoorO18
import Derived.Test.YtjhaakollekjeaaDoorO10
namespace Go.Proofs.YtjhaakollekjeaaDoor
open Go Go.RowKit
set_option linter.unusedVariables false
set_option linter.unusedSimpArgs false
set_option maxRecDepth 100000
set_option maxHeartbeats 4000000
set_option linter.unusedVariables false
set_option linter.unusedSimpArgs false

section
variable {P : Program} {n : Nat} {env : List (Nat × Value)} {w0 : Bs} {Rs : List Res} {o : Oper} {K : Act → World → Prop} {Q : Exit → Act → World → Prop}
variable {x y : Operand} {T T' : TypeId} {p q : Int}
theorem qt_shlI {k : IntKind} (ho : o.op = .binOp .shl T x y T') (hx : ev env x = some (.int .i64 p)) (hy : ev env y = some (.int k q)) (hq : 0 ≤ q) (hq2 : q < 64) (h1 : -9223372036854775808 ≤ p * 2 ^ q.toNat) (h2 : p * 2 ^ q.toNat ≤ 9223372036854775807) : Qt P o n env w0 Rs (.int .i64 (p * 2 ^ q.toNat)) :=
 qt_of fun a w hf _ => by unfold execOp; simp only [ho, hf.ev hx, hf.ev hy]; simp [go_sem, hq, hq2, IntWalk.i64_in _ ⟨h1, h2⟩]
/-- A slice made with room and no element. -/
theorem op_makeC {U s bytes m d : Nat} {z : Value} (ho : o.op = .makeSlice T x y) (hx : ev env x = some (.int .i64 0)) (hy : ev env y = some (.int .i64 (m : Int))) (hT : TyL P T U s) (hZ : TyZ P U s bytes z) (hd : o.dst = some d) (hn : d < n) (hb : bytes * m ≤ 281474976710656) (hm : m ≤ 9223372036854775807)
  (h : ∀ b, At n ((d, .slice (some ⟨b, 0, none⟩) 0 m) :: env) w0 (Rs ++ [.cel b U (madeCells z.cells (m * s)).toList]) K) : At n env w0 Rs (fun a w => o.wp P a w K Q) := fun a w hf hs => by
 obtain ⟨i, hi, hz0, hz1, hz2⟩ := hZ.info
 have hmk := run_make (P := P) w T U i z hT.desc hi hz0 .i64 .i64 0 (m : Int) (by omega) (by omega) (by rw [hz2]; omega) (by omega)
 rw [hz1, Int.toNat_natCast] at hmk
 have hrun : (execOp a.eval o).run P w = .ok (.value (.slice (some ⟨w.heap.size, 0, none⟩) 0 m)) (w.alloc (.cells (madeCells z.cells (m * s)) U)) := by
  unfold execOp
  simp only [ho, hf.ev hx, hf.ev hy, Sem.run_bind, hmk, Result.andThen_ok, Sem.run_pure]
  rfl
 show o.upon P a K Q ((execOp a.eval o).run P w)
 rw [hrun, Oper.upon_value, hd]
 exact h _ _ _ (hf.put hn _) (hs.add (Over.alloc _ _) (by show (w.alloc _).heap[w.heap.size]? = some (.cells (madeCells z.cells (m * s)).toList.toArray U (0, 0)); rw [heap_alloc_new, Array.toArray_toList]) (fun b hb => Nat.le_of_eq hb.symm) ⟨Nat.zero_le _, fun _ _ => Nat.zero_le _⟩)
theorem at_rowC (k s m : Nat) (hX : w0.X = []) {b U : Nat} {cs : List Value} (hk : Rs[k]? = some (.cel b U cs)) (hl : cs.length = m * s) (hm : m ≤ maxLen) (h : At n env w0 (Rs.set k (.row w0.N U s (.slice (some ⟨b, 0, none⟩) 0 m) 0 [])) K) : At n env w0 Rs K := fun a w hf hs => by
 have hlow : w0.N ≤ b := ((hs.all k _ hk).2.1 b rfl).elim id (fun h => by rw [hX] at h; cases h)
 refine h a w hf (hs.chg hk (fun hP => ?_) (fun c hc => ?_) rfl)
 ·exact ⟨by simp, .inr ⟨b, m, cs.toArray, rfl, hlow, hP, Nat.zero_le _, hm, by simp [hl], by simp⟩⟩
 ·have : some b = some c := hc
  injection this with this
  exact this.symm
end
def secP (a b c : Pn) : Pn := (a.1 - 2 * b.1 + c.1, a.2 - 2 * b.2 + c.2)
def sizQ (p : Pn) : Int := max p.1 (-p.1) + max p.2 (-p.2)
def lvOk (s t : Int) (l : Nat) : Bool := decide (s ≤ 4 * t * 2 ^ (2 * (l : Int)).toNat)
def lvF (s t : Int) : Option Nat := (List.range 7).find? (lvOk s t)
def lvV (s t : Int) : Int := match lvF s t with
 | some l => l
 | none => 0
def lvC (s t : Int) : Int := if (lvF s t).isSome = true then 0 else 5
theorem lv_yes {s t : Int} {l : Nat} (hl : l ≤ 6) (hn : ∀ j, j < l → lvOk s t j = false) (h : lvOk s t l = true) : lvV s t = l ∧ lvC s t = 0 := by
 have e : lvF s t = some l := List.find?_eq_some_iff_getElem.2 ⟨h, l, by simp; omega, by simp, fun j hj => by simp [hn j hj]⟩
 exact ⟨by rw [lvV, e], by rw [lvC, e]; rfl⟩
theorem lv_no {s t : Int} (hn : ∀ j, j < 7 → lvOk s t j = false) : lvV s t = 0 ∧ lvC s t = 5 := by
 have e : lvF s t = none := List.find?_eq_none.2 fun j hj => by rw [hn j (List.mem_range.1 hj)]; decide
 exact ⟨by rw [lvV, e], by rw [lvC, e]; rfl⟩
theorem lv_bd (s t : Int) : ∃ l : Nat, l ≤ 6 ∧ lvV s t = l := by
 unfold lvV
 cases h : lvF s t with
 | none => exact ⟨0, by omega, rfl⟩
 | some l =>
  have := List.mem_of_find?_eq_some h
  exact ⟨l, by have := List.mem_range.1 this; omega, rfl⟩
theorem pow_bd {l : Nat} (h : l ≤ 6) : (1 : Int) ≤ 2 ^ (2 * (l : Int)).toNat ∧ (2 : Int) ^ (2 * (l : Int)).toNat ≤ 4096 := by
 have : l = 0 ∨ l = 1 ∨ l = 2 ∨ l = 3 ∨ l = 4 ∨ l = 5 ∨ l = 6 := by omega
 rcases this with rfl | rfl | rfl | rfl | rfl | rfl | rfl <;> decide
theorem sh_bd {t : Int} {l : Nat} (h : l ≤ 6) (h2 : 1 ≤ t ∧ t ≤ 262144) : 0 ≤ 4 * t * 2 ^ (2 * (l : Int)).toNat ∧ 4 * t * 2 ^ (2 * (l : Int)).toNat ≤ 4294967296 := by
 obtain ⟨p1, p2⟩ := pow_bd h
 obtain ⟨z, hz⟩ : ∃ z : Int, z = 2 ^ (2 * (l : Int)).toNat := ⟨_, rfl⟩
 rw [← hz] at p1 p2 ⊢
 have h3 := Int.mul_nonneg (show 0 ≤ 4 * t by omega) (show 0 ≤ z by omega)
 have h4 := Int.mul_le_mul (show 4 * t ≤ 1048576 by omega) p2 (by omega) (by omega)
 exact ⟨h3, by omega⟩
theorem w3_bd {k n : Int} (hk : 0 ≤ k) (hkn : k ≤ n) (hn : n ≤ 64) : (0 ≤ (n - k) * (n - k) ∧ (n - k) * (n - k) ≤ 4096) ∧ (0 ≤ k * k ∧ k * k ≤ 4096) ∧ (0 ≤ (n - k) * k ∧ (n - k) * k ≤ 4096) ∧ (0 ≤ n * n ∧ n * n ≤ 4096) := by
 have key : ∀ a b : Int, 0 ≤ a → a ≤ 64 → 0 ≤ b → b ≤ 64 → 0 ≤ a * b ∧ a * b ≤ 4096 := fun a b h1 h2 h3 h4 => ⟨Int.mul_nonneg h1 h3, by have := Int.mul_le_mul h2 h4 h3 (by omega); omega⟩
 exact ⟨key _ _ (by omega) (by omega) (by omega) (by omega), key _ _ (by omega) (by omega) (by omega) (by omega), key _ _ (by omega) (by omega) (by omega) (by omega), key _ _ (by omega) (by omega) (by omega) (by omega)⟩
def cmbTo (xs : List Pn) (ws : List Int) : Nat → Pn
 | 0 => (0, 0)
 | k + 1 => ((cmbTo xs ws k).1 + px xs k * nth ws k, (cmbTo xs ws k).2 + py xs k * nth ws k)
theorem cmb_bd {xs : List Pn} {ws : List Int} (hx : ∀ p ∈ xs, bd2 p) (hw : ∀ v ∈ ws, -1048576 ≤ v ∧ v ≤ 1048576) (hl : xs.length ≤ ws.length) : ∀ k, k ≤ xs.length → (-(k * 274877906944 : Int) ≤ (cmbTo xs ws k).1 ∧ (cmbTo xs ws k).1 ≤ k * 274877906944) ∧ -(k * 274877906944 : Int) ≤ (cmbTo xs ws k).2 ∧ (cmbTo xs ws k).2 ≤ k * 274877906944
 | 0, _ => by simp [cmbTo]
 | k + 1, hk => by
  obtain ⟨⟨a1, a2⟩, a3, a4⟩ := cmb_bd hx hw hl k (by omega)
  obtain ⟨⟨b1, b2⟩, b3, b4⟩ := hx (pt xs k) (by rw [← pt_at (show k < xs.length by omega)]; exact List.getElem_mem _)
  obtain ⟨c1, c2⟩ := hw (nth ws k) (by rw [← nth_at (show k < ws.length by omega)]; exact List.getElem_mem _)
  have e1 : (pt xs k).1 = px xs k := rfl
  have e2 : (pt xs k).2 = py xs k := rfl
  rw [e1] at b1 b2
  rw [e2] at b3 b4
  obtain ⟨d1, d2⟩ := mul_bd (A := 262144) (B := 1048576) b1 b2 c1 c2
  obtain ⟨d3, d4⟩ := mul_bd (A := 262144) (B := 1048576) b3 b4 c1 c2
  simp only [cmbTo]
  refine ⟨⟨?_, ?_⟩, ?_, ?_⟩ <;> omega
theorem combine_any (A : Option Addr) (n c : Nat) (xs : List Pn) (B : Option Addr) (m d : Nat) (ws : List Int) (w : World) (h : Pts w A n xs) (h2 : Nums w B m ws) (hn : n ≤ 4) (hm : n ≤ m) (hx : ∀ p ∈ xs, bd2 p) (hw : ∀ v ∈ ws, -1048576 ≤ v ∧ v ≤ 1048576) :
  Calls Tryd.prog 91 #[.slice A n c, .slice B m d] w fun e w' => e = .returned (pV (cmbTo xs ws n)) ∧ Over w w' := by
 have hl := h.1
 have hl2 := h2.1
 have hcb := cmb_bd hx hw (by omega)
 refine walk_from (m := 39) (Tryd.func91) rfl rfl (Nat.le_of_ble_eq_true rfl) ?_
 refine at_seq ?_
 refine at_region ?_
 refine at_op rfl ?_
 refine op_alloc rfl tyz_impl_Pt rfl (by decide) (fun b1 => ?_)
 refine at_rsE (by simp only [ya,yb,yc,yd,Value.cells,ye]; rfl) ?_
 refine at_end ?_
 refine at_seq ?_
 refine at_region ?_
 refine at_op rfl ?_
 refine op_alloc rfl tyz_impl_Pt rfl (by decide) (fun b2 => ?_)
 refine at_rsE (by simp only [ya,yb,yc,yd,Value.cells,ye]; rfl) ?_
 refine at_end ?_
 refine at_seq ?_
 refine at_seq ?_
 refine at_region ?_
 refine at_q rfl rfl (by decide) (qt_move rfl rfl) ?_
 refine at_q rfl rfl (by decide) (qt_len rfl rfl tyl_sl_impl_Pt) ?_
 refine at_q rfl rfl (by decide) (qt_move rfl rfl) ?_
 refine at_end ?_
 refine at_block ?_
 refine at_loopc (X := Nat) (fun k => k ≤ n) (fun k => n - k) (fun k => [(10, .int .i64 (k : Int))]) (C := [(1, _), (4, _), (5, _), (8, _), (9, _)]) ⟨rfl, rfl, rfl, rfl, rfl, trivial⟩ (fun k => [.cel b1 50 [.int .i64 0, .int .i64 0], .cel b2 50 [.int .i64 (cmbTo xs ws k).1, .int .i64 (cmbTo xs ws k).2]]) 0 (Nat.zero_le _) ⟨rfl, rfl, rfl, rfl, rfl, rfl, trivial⟩ (fun _ h => h) ?_
 intro k hk L hL1
 refine at_envE (by simp only [ya,yb]; rfl) ?_
 refine at_rsE (by first | (dsimp only; done) | (dsimp only; rfl) | rfl) ?_
 refine at_seq ?_
 refine at_region ?_
 refine at_q rfl rfl (by decide) (qt_lss rfl rfl rfl) ?_
 refine at_end ?_
 refine at_seq ?_
 refine at_cond rfl (fun c1 => ?_) (fun c1 => ?_)
 ·try simp only [za,zb,zc,zd,ze,zf,Bool.not_true,Bool.not_false,zg,zh,ne_eq,zi,zj] at c1
  have hlt : k < n := (by omega)
  obtain ⟨fb, fo, rfl, _⟩ := h.2 (by omega)
  obtain ⟨gb, go, rfl, _⟩ := h2.2 (by omega)
  obtain ⟨⟨a1, a2⟩, a3, a4⟩ := hcb k (by omega)
  obtain ⟨⟨z1, z2⟩, z3, z4⟩ := hcb (k + 1) (by omega)
  obtain ⟨⟨v1, v2⟩, v3, v4⟩ := hx (pt xs k) (by rw [← pt_at (show k < xs.length by omega)]; exact List.getElem_mem _)
  obtain ⟨u1, u2⟩ := hw (nth ws k) (by rw [← nth_at (show k < ws.length by omega)]; exact List.getElem_mem _)
  obtain ⟨d1, d2⟩ := mul_bd (A := 262144) (B := 1048576) (show -262144 ≤ px xs k from v1) (show px xs k ≤ 262144 from v2) u1 u2
  obtain ⟨d3, d4⟩ := mul_bd (A := 262144) (B := 1048576) (show -262144 ≤ py xs k from v3) (show py xs k ≤ 262144 from v4) u1 u2
  refine at_skip ?_
  refine norm_then ?_
  refine at_seq ?_
  refine at_block ?_
  refine at_seq ?_
  refine at_region ?_
  refine at_q rfl rfl (by decide) (qt_move rfl rfl) ?_
  refine at_q rfl rfl (by decide) (qt_index rfl rfl rfl tyl_sl_impl_Pt (by omega)) ?_
  refine at_q rfl rfl (by decide) (qt_loadS rfl rfl tys_impl_Pt rfl (rdPts h hlt)) ?_
  refine at_op rfl ?_
  refine op_alloc rfl tyz_impl_Pt rfl (by decide) (fun b3 => ?_)
  refine at_rsE (by simp only [ya,yb,yc,yd,Value.cells,ye]; rfl) ?_
  refine at_q rfl rfl (by decide) (qt_assign rfl rfl) ?_
  refine at_op rfl ?_
  refine op_storeAll' (k := 2) rfl rfl rfl rfl (rfl) (by rfl) tyz_impl_Pt.szx rfl rfl rfl ?_
  refine at_rsE (by simp only [ya,yb,yc,yd,Value.cells,ye]; rfl) ?_
  refine at_end ?_
  refine at_seq ?_
  refine dg_start mixed rfl ?_
  refine dg_phase 11 ?_
  refine dg_q (i := 0) rfl (by kernel_rfl) (by kernel_rfl) (by kernel_rfl) [] (by kernel_rfl) (fun _ _ _ h => h) rfl rfl (by decide) (fun _ h => h.upto ⟨rfl, rfl, rfl, trivial⟩) (qt_fieldAddr rfl rfl tyf_impl_Pt_0) ?_
  refine dg_q (i := 1) rfl (by kernel_rfl) (by kernel_rfl) (by kernel_rfl) [] (by kernel_rfl) (fun _ _ _ h => h) rfl rfl (by decide) (fun _ h => h.upto ⟨rfl, rfl, rfl, trivial⟩) (qt_load1 rfl rfl ty1_int64 (rd1 (k := 1) rfl rfl)) ?_
  refine dg_q (i := 2) rfl (by kernel_rfl) (by kernel_rfl) (by kernel_rfl) [] (by kernel_rfl) (fun _ _ _ h => h) rfl rfl (by decide) (fun _ h => h.upto ⟨rfl, rfl, rfl, trivial⟩) (qt_fieldAddr rfl rfl tyf_impl_Pt_0) ?_
  refine dg_q (i := 3) rfl (by kernel_rfl) (by kernel_rfl) (by kernel_rfl) [] (by kernel_rfl) (fun _ _ _ h => h) rfl rfl (by decide) (fun _ h => h.upto ⟨rfl, rfl, rfl, trivial⟩) (qt_load1 rfl rfl ty1_int64 (rd1 (k := 2) rfl rfl)) ?_
  refine dg_q (i := 4) rfl (by kernel_rfl) (by kernel_rfl) (by kernel_rfl) [] (by kernel_rfl) (fun _ _ _ h => h) rfl rfl (by decide) (fun _ h => h.upto ⟨rfl, rfl, rfl, trivial⟩) (qt_move rfl rfl) ?_
  refine dg_q (i := 5) rfl (by kernel_rfl) (by kernel_rfl) (by kernel_rfl) [] (by kernel_rfl) (fun _ _ _ h => h) rfl rfl (by decide) (fun _ h => h.upto ⟨rfl, rfl, rfl, trivial⟩) (qt_move rfl rfl) ?_
  refine dg_q (i := 6) rfl (by kernel_rfl) (by kernel_rfl) (by kernel_rfl) [] (by kernel_rfl) (fun _ _ _ h => h) rfl rfl (by decide) (fun _ h => h.upto ⟨rfl, rfl, rfl, trivial⟩) (qt_index rfl rfl rfl tyl_sl_int64 (by omega)) ?_
  refine dg_q (i := 7) rfl (by kernel_rfl) (by kernel_rfl) (by kernel_rfl) [] (by kernel_rfl) (fun _ _ _ h => h) rfl rfl (by decide) (fun _ h => h.upto ⟨rfl, rfl, rfl, trivial⟩) (qt_load1 rfl rfl ty1_int64 (rdNums h2 (by omega))) ?_
  refine dg_q (i := 8) rfl (by kernel_rfl) (by kernel_rfl) (by kernel_rfl) [] (by kernel_rfl) (fun _ _ _ h => h) rfl rfl (by decide) (fun _ h => h.upto ⟨rfl, rfl, rfl, trivial⟩) (qt_mul rfl rfl rfl (by omega) (by omega)) ?_
  refine dg_q (i := 9) rfl (by kernel_rfl) (by kernel_rfl) (by kernel_rfl) [] (by kernel_rfl) (fun _ _ _ h => h) rfl rfl (by decide) (fun _ h => h.upto ⟨rfl, rfl, rfl, trivial⟩) (qt_add rfl rfl rfl (by omega) (by omega)) ?_
  refine dg_q (i := 10) rfl (by kernel_rfl) (by kernel_rfl) (by kernel_rfl) [] (by kernel_rfl) (fun _ _ _ h => h) rfl rfl (by decide) (fun _ h => h.upto ⟨rfl, rfl, rfl, trivial⟩) (qt_fieldAddr rfl rfl tyf_impl_Pt_0) ?_
  refine dg_bar rfl (by kernel_rfl) rfl ?_
  refine op_store_2_0_1 (k := 1) rfl rfl rfl rfl (rfl) (by rfl) tyz_int64.szx rfl ?_
  refine at_rsE (by simp only [ya,yb,yc,yd,Value.cells,ye]; rfl) ?_
  refine dg_end (by kernel_rfl) ?_
  refine norm_then ?_
  refine dg_start mixed rfl ?_
  refine dg_phase 11 ?_
  refine dg_q (i := 0) rfl (by kernel_rfl) (by kernel_rfl) (by kernel_rfl) [] (by kernel_rfl) (fun _ _ _ h => h) rfl rfl (by decide) (fun _ h => h.upto ⟨rfl, rfl, rfl, trivial⟩) (qt_fieldAddr rfl rfl tyf_impl_Pt_1) ?_
  refine dg_q (i := 1) rfl (by kernel_rfl) (by kernel_rfl) (by kernel_rfl) [] (by kernel_rfl) (fun _ _ _ h => h) rfl rfl (by decide) (fun _ h => h.upto ⟨rfl, rfl, rfl, trivial⟩) (qt_load1 rfl rfl ty1_int64 (rd1 (k := 1) rfl rfl)) ?_
  refine dg_q (i := 2) rfl (by kernel_rfl) (by kernel_rfl) (by kernel_rfl) [] (by kernel_rfl) (fun _ _ _ h => h) rfl rfl (by decide) (fun _ h => h.upto ⟨rfl, rfl, rfl, trivial⟩) (qt_fieldAddr rfl rfl tyf_impl_Pt_1) ?_
  refine dg_q (i := 3) rfl (by kernel_rfl) (by kernel_rfl) (by kernel_rfl) [] (by kernel_rfl) (fun _ _ _ h => h) rfl rfl (by decide) (fun _ h => h.upto ⟨rfl, rfl, rfl, trivial⟩) (qt_load1 rfl rfl ty1_int64 (rd1 (k := 2) rfl rfl)) ?_
  refine dg_q (i := 4) rfl (by kernel_rfl) (by kernel_rfl) (by kernel_rfl) [] (by kernel_rfl) (fun _ _ _ h => h) rfl rfl (by decide) (fun _ h => h.upto ⟨rfl, rfl, rfl, trivial⟩) (qt_move rfl rfl) ?_
  refine dg_q (i := 5) rfl (by kernel_rfl) (by kernel_rfl) (by kernel_rfl) [] (by kernel_rfl) (fun _ _ _ h => h) rfl rfl (by decide) (fun _ h => h.upto ⟨rfl, rfl, rfl, trivial⟩) (qt_move rfl rfl) ?_
  refine dg_q (i := 6) rfl (by kernel_rfl) (by kernel_rfl) (by kernel_rfl) [] (by kernel_rfl) (fun _ _ _ h => h) rfl rfl (by decide) (fun _ h => h.upto ⟨rfl, rfl, rfl, trivial⟩) (qt_index rfl rfl rfl tyl_sl_int64 (by omega)) ?_
  refine dg_q (i := 7) rfl (by kernel_rfl) (by kernel_rfl) (by kernel_rfl) [] (by kernel_rfl) (fun _ _ _ h => h) rfl rfl (by decide) (fun _ h => h.upto ⟨rfl, rfl, rfl, trivial⟩) (qt_load1 rfl rfl ty1_int64 (rdNums h2 (by omega))) ?_
  refine dg_q (i := 8) rfl (by kernel_rfl) (by kernel_rfl) (by kernel_rfl) [] (by kernel_rfl) (fun _ _ _ h => h) rfl rfl (by decide) (fun _ h => h.upto ⟨rfl, rfl, rfl, trivial⟩) (qt_mul rfl rfl rfl (by omega) (by omega)) ?_
  refine dg_q (i := 9) rfl (by kernel_rfl) (by kernel_rfl) (by kernel_rfl) [] (by kernel_rfl) (fun _ _ _ h => h) rfl rfl (by decide) (fun _ h => h.upto ⟨rfl, rfl, rfl, trivial⟩) (qt_add rfl rfl rfl (by omega) (by omega)) ?_
  refine dg_q (i := 10) rfl (by kernel_rfl) (by kernel_rfl) (by kernel_rfl) [] (by kernel_rfl) (fun _ _ _ h => h) rfl rfl (by decide) (fun _ h => h.upto ⟨rfl, rfl, rfl, trivial⟩) (qt_fieldAddr rfl rfl tyf_impl_Pt_1) ?_
  refine dg_bar rfl (by kernel_rfl) rfl ?_
  refine op_store_2_1_1 (k := 1) rfl rfl rfl rfl (rfl) (by rfl) tyz_int64.szx rfl ?_
  refine at_rsE (by simp only [ya,yb,yc,yd,Value.cells,ye]; rfl) ?_
  refine dg_end (by kernel_rfl) ?_
  refine norm_block ?_
  refine norm_then ?_
  refine at_region ?_
  refine at_q rfl rfl (by decide) (qt_add rfl rfl rfl (by omega) (by omega)) ?_
  refine at_q rfl rfl (by decide) (qt_move rfl rfl) ?_
  refine at_end ?_
  exact at_againc hL1 (k + 1) ((show k + 1 ≤ n by omega)) (by omega) ⟨vi (by omega), rfl, rfl, rfl, rfl, rfl, trivial⟩ (fun _ h => h.upto ⟨rfl, rfl, trivial⟩)
 ·try simp only [za,zb,zc,zd,ze,zf,Bool.not_true,Bool.not_false,zg,zh,ne_eq,zi,zj] at c1
  have hkn : k = n := (by omega)
  subst hkn
  refine at_exit ?_
  refine pass_then (fun h => by cases h) ?_
  refine pass_then (fun h => by cases h) ?_
  refine pass_hit ?_
  refine norm_then ?_
  refine at_seq ?_
  refine at_region ?_
  refine at_q rfl rfl (by decide) (qt_loadS rfl rfl tys_impl_Pt rfl (rdAll (k := 1) rfl)) ?_
  refine at_op rfl ?_
  refine op_storeAll' (k := 0) rfl rfl rfl rfl (rfl) (by rfl) tyz_impl_Pt.szx rfl rfl rfl ?_
  refine at_rsE (by simp only [ya,yb,yc,yd,Value.cells,ye]; rfl) ?_
  refine at_end ?_
  refine at_retc ?_
  refine at_ret1 rfl (rvCelS (k := 0) rfl tys_impl_Pt rfl rfl) ?_
  intro w' hs
  exact ⟨rfl, hs.fin⟩
theorem divPt_any (p : Pn) (d : Int) (w : World) (hd : 1 ≤ d) (hd' : d ≤ 262144) (h1 : -2305843009213693952 ≤ p.1 ∧ p.1 ≤ 2305843009213693952) (h2 : -2305843009213693952 ≤ p.2 ∧ p.2 ≤ 2305843009213693952) :
  Calls Tryd.prog 106 #[pV p, .int .i64 d] w fun e w' => e = .returned (pV (rnd p.1 d, rnd p.2 d)) ∧ Over w w' := by
 refine walk_from (m := 14) (Tryd.func106) rfl rfl (Nat.le_of_ble_eq_true rfl) ?_
 refine at_seq ?_
 refine at_region ?_
 refine at_op rfl ?_
 refine op_box rfl rfl (rfl) rfl (by decide) (fun b1 => ?_)
 refine at_rsE (by simp only [ya,yb,yc,yd,Value.cells,ye]; rfl) ?_
 refine at_op rfl ?_
 refine op_alloc rfl tyz_impl_Pt rfl (by decide) (fun b2 => ?_)
 refine at_rsE (by simp only [ya,yb,yc,yd,Value.cells,ye]; rfl) ?_
 refine at_end ?_
 refine at_seq ?_
 refine dg_start mixed rfl ?_
 refine dg_phaseW 10 [1] ?_
 refine dg_q (i := 0) rfl (by kernel_rfl) (by kernel_rfl) (by kernel_rfl) [] (by kernel_rfl) (fun _ _ _ h => h) rfl rfl (by decide) (fun _ h => (h.wk [1]).upto ⟨rfl, rfl, trivial⟩) (qt_fieldAddr rfl rfl tyf_impl_Pt_0) ?_
 refine dg_q (i := 1) rfl (by kernel_rfl) (by kernel_rfl) (by kernel_rfl) [] (by kernel_rfl) (fun _ _ _ h => h) rfl rfl (by decide) (fun _ h => (h.wk [1]).upto ⟨rfl, rfl, trivial⟩) (qt_load1 rfl rfl ty1_int64 (rd1 (k := 0) rfl rfl)) ?_
 refine dg_q (i := 2) rfl (by kernel_rfl) (by kernel_rfl) (by kernel_rfl) [] (by kernel_rfl) (fun _ _ _ h => h) rfl rfl (by decide) (fun _ h => (h.wk [1]).upto ⟨rfl, rfl, trivial⟩) (qt_move rfl rfl) ?_
 refine dg_q (i := 3) rfl (by kernel_rfl) (by kernel_rfl) (by kernel_rfl) [] (by kernel_rfl) (fun _ _ _ h => h) rfl rfl (by decide) (fun _ h => (h.wk [1]).upto ⟨rfl, rfl, trivial⟩) (qt_call ok_impl_DivRound rfl rfl (fun w1 hs => Calls.still (DivRound_any p.1 d w1 hd (by omega) h1.1 h1.2))) ?_
 refine dg_q (i := 4) rfl (by kernel_rfl) (by kernel_rfl) (by kernel_rfl) [] (by kernel_rfl) (fun _ _ _ h => h) rfl rfl (by decide) (fun _ h => (h.wk [1]).upto ⟨rfl, rfl, trivial⟩) (qt_fieldAddr rfl rfl tyf_impl_Pt_1) ?_
 refine dg_q (i := 5) rfl (by kernel_rfl) (by kernel_rfl) (by kernel_rfl) [] (by kernel_rfl) (fun _ _ _ h => h) rfl rfl (by decide) (fun _ h => (h.wk [1]).upto ⟨rfl, rfl, trivial⟩) (qt_load1 rfl rfl ty1_int64 (rd1 (k := 0) rfl rfl)) ?_
 refine dg_q (i := 6) rfl (by kernel_rfl) (by kernel_rfl) (by kernel_rfl) [] (by kernel_rfl) (fun _ _ _ h => h) rfl rfl (by decide) (fun _ h => (h.wk [1]).upto ⟨rfl, rfl, trivial⟩) (qt_move rfl rfl) ?_
 refine dg_q (i := 7) rfl (by kernel_rfl) (by kernel_rfl) (by kernel_rfl) [] (by kernel_rfl) (fun _ _ _ h => h) rfl rfl (by decide) (fun _ h => (h.wk [1]).upto ⟨rfl, rfl, trivial⟩) (qt_call ok_impl_DivRound rfl rfl (fun w1 hs => Calls.still (DivRound_any p.2 d w1 hd (by omega) h2.1 h2.2))) ?_
 refine dg_q (i := 8) rfl (by kernel_rfl) (by kernel_rfl) (by kernel_rfl) [] (by kernel_rfl) (fun _ _ _ h => h) rfl rfl (by decide) (fun _ h => (h.wk [1]).upto ⟨rfl, rfl, trivial⟩) (qt_build rfl rfl (bld_impl_Pt_0_1 rfl rfl)) ?_
 refine dg_one (i := 9) rfl (by decide) (by kernel_rfl) rfl ?_
 refine op_storeAll' (k := 1) rfl rfl rfl rfl (rfl) (by rfl) tyz_impl_Pt.szx rfl rfl rfl ?_
 refine at_rsE (by simp only [ya,yb,yc,yd,Value.cells,ye]; rfl) ?_
 refine dr_keep (fun _ h => (h.wk [1]).upto ⟨rfl, rfl, trivial⟩) ?_
 refine dg_done (by kernel_rfl) ?_
 refine norm_then ?_
 refine at_retc ?_
 refine at_ret1 rfl (rvCelS (k := 1) rfl tys_impl_Pt rfl rfl) ?_
 intro w' hs
 exact ⟨rfl, hs.fin⟩
theorem siz_bd {p : Pn} {B : Int} (h : (-B ≤ p.1 ∧ p.1 ≤ B) ∧ -B ≤ p.2 ∧ p.2 ≤ B) : 0 ≤ sizQ p ∧ sizQ p ≤ 2 * B := by
 unfold sizQ
 omega
theorem sec_bd {a b c : Pn} (ha : bd2 a) (hb : bd2 b) (hc : bd2 c) : (-1048576 ≤ (secP a b c).1 ∧ (secP a b c).1 ≤ 1048576) ∧ -1048576 ≤ (secP a b c).2 ∧ (secP a b c).2 ≤ 1048576 := by
 obtain ⟨⟨a1, a2⟩, a3, a4⟩ := ha
 obtain ⟨⟨b1, b2⟩, b3, b4⟩ := hb
 obtain ⟨⟨c1, c2⟩, c3, c4⟩ := hc
 unfold secP
 exact ⟨⟨by simp only; omega, by simp only; omega⟩, by simp only; omega, by simp only; omega⟩
theorem sizeOf_any (p : Pn) (w : World) (h : (-1048576 ≤ p.1 ∧ p.1 ≤ 1048576) ∧ -1048576 ≤ p.2 ∧ p.2 ≤ 1048576) : Calls Tryd.prog 90 #[pV p] w fun e w' => e = .returned (.int .i64 (sizQ p)) ∧ Over w w' := by
 refine walk_from (m := 16) (Tryd.func90) rfl rfl (Nat.le_of_ble_eq_true rfl) ?_
 refine at_seq ?_
 refine at_region ?_
 refine at_op rfl ?_
 refine op_box rfl rfl (rfl) rfl (by decide) (fun b1 => ?_)
 refine at_rsE (by simp only [ya,yb,yc,yd,Value.cells,ye]; rfl) ?_
 refine at_q rfl rfl (by decide) (qt_assign rfl rfl) ?_
 refine at_end ?_
 refine at_seq ?_
 refine at_region ?_
 refine at_q rfl rfl (by decide) (qt_fieldAddr rfl rfl tyf_impl_Pt_0) ?_
 refine at_q rfl rfl (by decide) (qt_load1 rfl rfl ty1_int64 (rd1 (k := 0) rfl rfl)) ?_
 refine at_q rfl rfl (by decide) (qt_fieldAddr rfl rfl tyf_impl_Pt_0) ?_
 refine at_q rfl rfl (by decide) (qt_load1 rfl rfl ty1_int64 (rd1 (k := 0) rfl rfl)) ?_
 refine at_q rfl rfl (by decide) (qt_neg rfl rfl (by omega) (by omega)) ?_
 refine at_q rfl rfl (by decide) (qt_max rfl rfl rfl) ?_
 refine at_q rfl rfl (by decide) (qt_fieldAddr rfl rfl tyf_impl_Pt_1) ?_
 refine at_q rfl rfl (by decide) (qt_load1 rfl rfl ty1_int64 (rd1 (k := 0) rfl rfl)) ?_
 refine at_q rfl rfl (by decide) (qt_fieldAddr rfl rfl tyf_impl_Pt_1) ?_
 refine at_q rfl rfl (by decide) (qt_load1 rfl rfl ty1_int64 (rd1 (k := 0) rfl rfl)) ?_
 refine at_q rfl rfl (by decide) (qt_neg rfl rfl (by omega) (by omega)) ?_
 refine at_q rfl rfl (by decide) (qt_max rfl rfl rfl) ?_
 refine at_q rfl rfl (by decide) (qt_add rfl rfl rfl (by omega) (by omega)) ?_
 refine at_q rfl rfl (by decide) (qt_assign rfl rfl) ?_
 refine at_end ?_
 refine at_retc ?_
 refine at_ret1 rfl (.tmp rfl) ?_
 intro w' hs
 exact ⟨rfl, hs.fin⟩
theorem levelFor_any (s t : Int) (w : World) (hs0 : 0 ≤ s ∧ s ≤ 6291456) (ht : 1 ≤ t ∧ t ≤ 262144) : Calls Tryd.prog 89 #[.int .i64 s, .int .i64 t] w fun e w' => e = .returned (.tuple #[.int .i64 (lvV s t), .int .i64 (lvC s t)]) ∧ Over w w' := by
 refine walk_from (m := 19) (Tryd.func89) rfl rfl (Nat.le_of_ble_eq_true rfl) ?_
 refine at_seq ?_
 refine at_region ?_
 refine at_q rfl rfl (by decide) (qt_assign rfl rfl) ?_
 refine at_q rfl rfl (by decide) (qt_assign rfl rfl) ?_
 refine at_end ?_
 refine at_seq ?_
 refine at_seq ?_
 refine at_region ?_
 refine at_q rfl rfl (by decide) (qt_assign rfl rfl) ?_
 refine at_end ?_
 refine at_block ?_
 refine at_loopk (X := Nat) (fun l => l ≤ 7 ∧ ∀ j, j < l → lvOk s t j = false) (fun l => 7 - l) (fun l => [(6, .int .i64 (l : Int))]) (C := [(0, _), (1, _), (4, _), (5, _)]) ⟨rfl, rfl, rfl, rfl, trivial⟩ 0 (⟨Nat.zero_le _, fun j hj => absurd hj (Nat.not_lt_zero j)⟩) ⟨rfl, rfl, rfl, rfl, rfl, trivial⟩ ?_
 intro l hl L hL1
 refine at_envE (by simp only [ya,yb]; rfl) ?_
 obtain ⟨hl7, hno⟩ := hl
 refine at_seq ?_
 refine at_seq ?_
 refine at_region ?_
 refine at_q rfl rfl (by decide) (qt_move rfl rfl) ?_
 refine at_q rfl rfl (by decide) (qt_leq rfl rfl rfl) ?_
 refine at_end ?_
 refine at_cond rfl (fun c1 => ?_) (fun c1 => ?_)
 ·try simp only [za,zb,zc,zd,ze,zf,Bool.not_true,Bool.not_false,zg,zh,ne_eq,zi,zj] at c1
  have hl6 : l ≤ 6 := (by omega)
  obtain ⟨p1, p2⟩ := sh_bd hl6 ht
  refine at_skip ?_
  refine norm_then ?_
  refine at_seq ?_
  refine at_block ?_
  refine at_seq ?_
  refine at_region ?_
  refine at_q rfl rfl (by decide) (qt_move rfl rfl) ?_
  refine at_q rfl rfl (by decide) (qt_move rfl rfl) ?_
  refine at_q rfl rfl (by decide) (qt_mul rfl rfl rfl (by omega) (by omega)) ?_
  refine at_q rfl rfl (by decide) (qt_move rfl rfl) ?_
  refine at_q rfl rfl (by decide) (qt_mul rfl rfl rfl (by omega) (by omega)) ?_
  refine at_q rfl rfl (by decide) (qt_shlI rfl rfl rfl (by omega) (by omega) (by omega) (by omega)) ?_
  refine at_q rfl rfl (by decide) (qt_leq rfl rfl rfl) ?_
  refine at_end ?_
  refine at_cond rfl (fun c2 => ?_) (fun c2 => ?_)
  ·try simp only [za,zb,zc,zd,ze,zf,Bool.not_true,Bool.not_false,zg,zh,ne_eq,zi,zj] at c2
   obtain ⟨e1, e2⟩ := lv_yes hl6 hno (show lvOk s t l = true from decide_eq_true c2)
   refine at_seq ?_
   refine at_region ?_
   refine at_q rfl rfl (by decide) (qt_move rfl rfl) ?_
   refine at_q rfl rfl (by decide) (qt_assign rfl rfl) ?_
   refine at_q rfl rfl (by decide) (qt_assign rfl rfl) ?_
   refine at_end ?_
   refine at_retc ?_
   refine pass_ret ?_
   refine then_ret ?_
   refine then_ret ?_
   refine pass_ret ?_
   refine then_ret ?_
   refine at_ret2 rfl (.tmp rfl) (.tmp rfl) ?_
   intro w' hs
   exact ⟨by rw [e1, e2], hs.fin⟩
  ·try simp only [za,zb,zc,zd,ze,zf,Bool.not_true,Bool.not_false,zg,zh,ne_eq,zi,zj] at c2
   refine at_skip ?_
   refine norm_block ?_
   refine norm_then ?_
   refine at_region ?_
   refine at_q rfl rfl (by decide) (qt_move rfl rfl) ?_
   refine at_q rfl rfl (by decide) (qt_add rfl rfl rfl (by omega) (by omega)) ?_
   refine at_q rfl rfl (by decide) (qt_assign rfl rfl) ?_
   refine at_end ?_
   exact at_againk hL1 (l + 1) (⟨by omega, fun j hj => by by_cases e : j = l; subst e; exact decide_eq_false (Int.not_le.2 c2); exact hno j (by omega)⟩) (by omega) ⟨vi (by omega), rfl, rfl, rfl, rfl, trivial⟩ (fun _ h => h.upto trivial)
 ·try simp only [za,zb,zc,zd,ze,zf,Bool.not_true,Bool.not_false,zg,zh,ne_eq,zi,zj] at c1
  obtain ⟨e1, e2⟩ := lv_no (s := s) (t := t) fun j hj => hno j (by omega)
  refine at_exit ?_
  refine pass_then (fun h => by cases h) ?_
  refine pass_then (fun h => by cases h) ?_
  refine pass_hit ?_
  refine norm_then ?_
  refine at_seq ?_
  refine at_region ?_
  refine at_q rfl rfl (by decide) (qt_assign rfl rfl) ?_
  refine at_q rfl rfl (by decide) (qt_assign rfl rfl) ?_
  refine at_end ?_
  refine at_retc ?_
  refine at_ret2 rfl (.tmp rfl) (.tmp rfl) ?_
  intro w' hs
  exact ⟨by rw [e1, e2], hs.fin⟩
theorem two_pow {l : Nat} (h : l ≤ 6) : (1 : Int) * 2 ^ ((l : Int)).toNat = ((2 ^ l : Nat) : Int) ∧ 1 ≤ 2 ^ l ∧ 2 ^ l ≤ 64 := by
 have : l = 0 ∨ l = 1 ∨ l = 2 ∨ l = 3 ∨ l = 4 ∨ l = 5 ∨ l = 6 := by omega
 rcases this with rfl | rfl | rfl | rfl | rfl | rfl | rfl <;> decide
end Go.Proofs.YtjhaakollekjeaaDoor
