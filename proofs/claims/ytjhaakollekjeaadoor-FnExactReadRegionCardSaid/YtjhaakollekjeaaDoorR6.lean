import Derived.Test.YtjhaakollekjeaaDoorR5
import Derived.Test.YtjhaakollekjeaaDoorR1
import Derived.Test.YtjhaakollekjeaaDoorR2
namespace Go.Proofs.YtjhaakollekjeaaDoor
open Go Go.RowKit
set_option linter.unusedVariables false

section
variable {P : Program} {ops : Array Oper} {Q : Exit → Act → World → Prop} {md : Region.Mode} {B : Base}

end

section
variable {P : Program} {n : Nat} {env : List (Nat × Value)} {w0 : Bs} {Rs : List Res} {ops : Array Oper} {Q : Exit → Act → World → Prop} {K : Act → World → Prop} {o : Oper}
variable {Rs0 : List Res} {fuel f : Nat} {listed : Array Bool}
end
end Go.Proofs.YtjhaakollekjeaaDoor

namespace Go.Proofs.YtjhaakollekjeaaDoor
open Go Go.RowKit
set_option linter.unusedVariables false
set_option linter.unusedSimpArgs false

section
variable {P : Program} {n : Nat} {env : List (Nat × Value)} {w0 : Bs} {Rs : List Res} {ops : Array Oper} {Q : Exit → Act → World → Prop} {K : Act → World → Prop} {o : Oper}

section
variable {x y : Operand} {ts : Array TypeId} {p q : Int}
end
/-! ### Slices cut -/
theorem TyL.elem {T U m : Nat} (h : TyL P T U m) : P.elem T = U := by simp [Program.elem, h.desc]
/-! ### What is appended -/
structure Src (s : Nat) (v2 : Value) (m : Nat) (news : List Value) (w : World) : Prop where
 len : news.length = m * s
 src : (v2 = .slice none 0 0 ∧ m = 0) ∨ ∃ ad c, v2 = .slice (some ad) m c ∧ ∀ j u, news[j]? = some u → w.cell? (ad.add j) = some u
theorem src_row {w : World} {k B U s m : Nat} {v : Value} {xs : List Value} (hs : St w0 Rs w) (hk : Rs[k]? = some (.row B U s v m xs)) : Src s v m xs w := by
 have h : w.ownsRow B U s v m xs := (hs.all k _ hk).1
 refine ⟨h.1, ?_⟩
 rcases h.2 with ⟨rfl, rfl⟩ | ⟨g, cap, cur, rfl, hb, hg, hcap, _⟩
 ·exact .inl ⟨rfl, rfl⟩
 ·exact .inr ⟨_, _, rfl, h.cells rfl⟩
theorem src_cel {w : World} {k b U s m c : Nat} {cs : List Value} (hs : St w0 Rs w) (hk : Rs[k]? = some (.cel b U cs)) (hl : cs.length = m * s) : Src s (.slice (some ⟨b, 0, none⟩) m c) m cs w :=
 ⟨hl, .inr ⟨_, _, rfl, fun j u hu => by rw [add_none, cell_of_row w b _ _ U (0, 0) (hs.cel hk), Nat.zero_add]; simpa using hu⟩⟩
theorem op_appendS {x y : Operand} {T U s bytes k B0 m d nn : Nat} {z v v2 : Value} {xs news : List Value} (ho : o.op = .call { callee := .builtin .append, args := #[x, y], argTypes := #[T, T] }) (hT : TyL P T U s) (hZ : TyZ P U s bytes z) (hs0 : 0 < s) (hd : o.dst = some d) (hn : d < n)
  (hx : ev env x = some v) (hy : ev env y = some v2) (hk : Rs[k]? = some (.row B0 U s v nn xs)) (hsrc : ∀ w, St w0 Rs w → Src s v2 m news w) (h1 : ∀ u ∈ news, u.oneCell' = true)
  (h63 : nn + m ≤ maxLen) (hbytes : (nn + m) * bytes ≤ 140737488355328) (hB : B0 ≤ w0.N)
  (h : ∀ v', At n ((d, v') :: env) w0 (Rs.set k (.row B0 U s v' (nn + m) (xs ++ news))) K) : At n env w0 Rs (fun a w => o.wp P a w K Q) := fun a w hf hs => by
 have hS := hsrc w hs
 rcases hS.src with ⟨rfl, rfl⟩ | ⟨ad, c, rfl, hnews⟩
 ·obtain ⟨i, hi, hz0, hz1, hz2⟩ := hZ.info
  have hown : w.ownsRow B0 U s v nn xs := (hs.all k _ hk).1
  have hr := run_append_owned_none (P := P) w B0 T o.type U i s hT.desc hi v nn xs hown
  have hrun : (execOp a.eval o).run P w = .ok (.value v) w := by
   unfold execOp
   simp only [ho, resolve, invoke, builtin, Sem.run_bind, Sem.run_pure, Result.andThen_ok, List.map_toArray, List.map_cons, List.map_nil, hf.ev hx, hf.ev hy, hr]
  have hnil : news = [] := List.eq_nil_of_length_eq_zero (by simpa using hS.len)
  subst hnil
  show o.upon P a K Q ((execOp a.eval o).run P w)
  rw [hrun, Oper.upon_value, hd]
  refine h v _ w (hf.put hn v) (hs.chg hk (fun hP => ?_) (fun b hb => hb) rfl)
  rw [List.append_nil]
  exact hP
 ·exact op_append ho hT hZ hs0 hd hn hx hy hk hS.len (fun w' hs' => by
   rcases (hsrc w' hs').src with ⟨e, _⟩ | ⟨ad', c', e, hn'⟩
   ·cases e
   ·injection e with e1 e2 e3
    injection e1 with e1
    subst e1
    exact hn') h1 h63 hbytes hB h a w hf hs

/-! ### A slice made -/
/-! ### Function values -/
end
end Go.Proofs.YtjhaakollekjeaaDoor

namespace Go.Proofs.YtjhaakollekjeaaDoor
open Go Go.RowKit
set_option maxRecDepth 100000
set_option linter.unusedSimpArgs false
set_option linter.unusedVariables false

theorem tyz_of {P : Program} {T m k : Nat} {z : Value} (h : (P.info? T).map (fun i => (i.zero, i.size, i.bytes)) = some (some z, m, k)) (hc : z.cells.size = m) : TyZ P T m k z := by
 cases hi : P.info? T with
 | none => simp [hi] at h
 | some i =>
  simp only [hi, Option.map_some, Option.some.injEq, Prod.mk.injEq] at h
  exact ⟨⟨i, hi, h.1, h.2.1, h.2.2⟩, hc⟩
theorem ty1_int64 : Ty1 Tryd.prog 2 := ⟨⟨_, Tryd.underlying2, rfl⟩, by kernel_rfl⟩
theorem tyz_int64 : TyZ Tryd.prog 2 1 8 (.int .i64 0) := tyz_of (by kernel_rfl) rfl
theorem tyb_bool : Tryd.prog.underlying 4 = some .bool := Tryd.underlying4
theorem tyz_uint8 : TyZ Tryd.prog 5 1 1 (.int .u8 0) := tyz_of (by kernel_rfl) rfl
theorem ty1_string : Ty1 Tryd.prog 9 := ⟨⟨_, Tryd.underlying9, rfl⟩, by kernel_rfl⟩
theorem tyz_string : TyZ Tryd.prog 9 1 16 (.string ⟨#[]⟩) := tyz_of (by kernel_rfl) rfl
theorem ty1_sl_impl_Ring : Ty1 Tryd.prog 22 := ⟨⟨_, Tryd.underlying22, rfl⟩, by kernel_rfl⟩
theorem tyl_sl_impl_Ring : TyL Tryd.prog 22 66 1 := ⟨Tryd.underlying22, by kernel_rfl⟩
theorem tyz_sl_impl_Ring : TyZ Tryd.prog 22 1 24 (.slice none 0 0) := tyz_of (by kernel_rfl) rfl
theorem tys_impl_Region : TyS Tryd.prog 24 1 := ⟨⟨_, Tryd.underlying24, rfl⟩, by kernel_rfl⟩
theorem tyf_impl_Region_0 : TyF Tryd.prog 24 0 0 := ⟨_, _, Tryd.underlying24, rfl, rfl, 0, by kernel_rfl⟩
theorem tyz_impl_Region : TyZ Tryd.prog 24 1 24 (.agg #[.slice none 0 0]) := tyz_of (by kernel_rfl) rfl
theorem tyl_sl_uint8 : TyL Tryd.prog 30 5 1 := ⟨Tryd.underlying30, by kernel_rfl⟩
theorem tys_impl_Pt : TyS Tryd.prog 50 2 := ⟨⟨_, Tryd.underlying50, rfl⟩, by kernel_rfl⟩
theorem tyf_impl_Pt_0 : TyF Tryd.prog 50 0 0 := ⟨_, _, Tryd.underlying50, rfl, rfl, 0, by kernel_rfl⟩
theorem tyf_impl_Pt_1 : TyF Tryd.prog 50 1 1 := ⟨_, _, Tryd.underlying50, rfl, rfl, 0, by kernel_rfl⟩
theorem tyz_impl_Pt : TyZ Tryd.prog 50 2 16 (.agg #[.int .i64 0, .int .i64 0]) := tyz_of (by kernel_rfl) rfl
theorem tyl_sl_string : TyL Tryd.prog 60 9 1 := ⟨Tryd.underlying60, by kernel_rfl⟩
theorem ty1_sl_impl_Pt : Ty1 Tryd.prog 62 := ⟨⟨_, Tryd.underlying62, rfl⟩, by kernel_rfl⟩
theorem tyl_sl_impl_Pt : TyL Tryd.prog 62 50 2 := ⟨Tryd.underlying62, by kernel_rfl⟩
theorem tyf_impl_Ring_0 : TyF Tryd.prog 66 0 0 := ⟨_, _, Tryd.underlying66, rfl, rfl, 0, by kernel_rfl⟩
theorem tyz_impl_Ring : TyZ Tryd.prog 66 1 24 (.agg #[.slice none 0 0]) := tyz_of (by kernel_rfl) rfl
theorem tya_20_uint8 : Tryd.prog.underlying 168 = some (.array 20 5) := Tryd.underlying168
theorem tyz_20_uint8 : TyZ Tryd.prog 168 20 20 (.agg #[.int .u8 0, .int .u8 0, .int .u8 0, .int .u8 0, .int .u8 0, .int .u8 0, .int .u8 0, .int .u8 0, .int .u8 0, .int .u8 0, .int .u8 0, .int .u8 0, .int .u8 0, .int .u8 0, .int .u8 0, .int .u8 0, .int .u8 0, .int .u8 0, .int .u8 0, .int .u8 0]) := tyz_of (by kernel_rfl) rfl
theorem ok_spec_ReadRegion : FnOk Tryd.prog 5 := ⟨_, Tryd.func5, by kernel_rfl, rfl⟩
theorem ok_impl_ReadRegion : FnOk Tryd.prog 6 := ⟨_, Tryd.func6, by kernel_rfl, rfl⟩
theorem ok_laws_eqRegion : FnOk Tryd.prog 7 := ⟨_, Tryd.func7, by kernel_rfl, rfl⟩
theorem ok_laws_markRegion : FnOk Tryd.prog 8 := ⟨_, Tryd.func8, by kernel_rfl, rfl⟩
theorem ok_laws_heldRegion : FnOk Tryd.prog 9 := ⟨_, Tryd.func9, by kernel_rfl, rfl⟩
theorem ok_spec_l01Split : FnOk Tryd.prog 21 := ⟨_, Tryd.func21, by kernel_rfl, rfl⟩
theorem ok_spec_l09Read : FnOk Tryd.prog 22 := ⟨_, Tryd.func22, by kernel_rfl, rfl⟩
theorem ok_spec_l13Ok : FnOk Tryd.prog 23 := ⟨_, Tryd.func23, by kernel_rfl, rfl⟩
theorem ok_impl_textLines : FnOk Tryd.prog 24 := ⟨_, Tryd.func24, by kernel_rfl, rfl⟩
theorem ok_impl_readPts : FnOk Tryd.prog 25 := ⟨_, Tryd.func25, by kernel_rfl, rfl⟩
theorem ok_impl_ValidRegion : FnOk Tryd.prog 26 := ⟨_, Tryd.func26, by kernel_rfl, rfl⟩
theorem ok_laws_markRingS : FnOk Tryd.prog 28 := ⟨_, Tryd.func28, by kernel_rfl, rfl⟩
theorem ok_laws_heldRingS : FnOk Tryd.prog 29 := ⟨_, Tryd.func29, by kernel_rfl, rfl⟩
theorem ok_spec_ReadPt : FnOk Tryd.prog 45 := ⟨_, Tryd.func45, by kernel_rfl, rfl⟩
theorem ok_strings_Split : FnOk Tryd.prog 48 := ⟨_, Tryd.func48, by kernel_rfl, rfl⟩
theorem ok_impl_ReadPt : FnOk Tryd.prog 49 := ⟨_, Tryd.func49, by kernel_rfl, rfl⟩
theorem ok_laws_markPtS : FnOk Tryd.prog 53 := ⟨_, Tryd.func53, by kernel_rfl, rfl⟩
theorem ok_laws_heldPtS : FnOk Tryd.prog 54 := ⟨_, Tryd.func54, by kernel_rfl, rfl⟩
theorem ok_strings_CutPrefix : FnOk Tryd.prog 61 := ⟨_, Tryd.func61, by kernel_rfl, rfl⟩
theorem ok_impl_ValidPt : FnOk Tryd.prog 67 := ⟨_, Tryd.func67, by kernel_rfl, rfl⟩
theorem ok_spec_ReadDecimal : FnOk Tryd.prog 70 := ⟨_, Tryd.func70, by kernel_rfl, rfl⟩
theorem ok_spec_l03Ok : FnOk Tryd.prog 71 := ⟨_, Tryd.func71, by kernel_rfl, rfl⟩
theorem ok_strings_Cut : FnOk Tryd.prog 76 := ⟨_, Tryd.func76, by kernel_rfl, rfl⟩
theorem ok_impl_ReadDecimal : FnOk Tryd.prog 77 := ⟨_, Tryd.func77, by kernel_rfl, rfl⟩
theorem ok_impl_Decimal : FnOk Tryd.prog 85 := ⟨_, Tryd.func85, by kernel_rfl, rfl⟩
theorem ok_spec_l01Number : FnOk Tryd.prog 94 := ⟨_, Tryd.func94, by kernel_rfl, rfl⟩
theorem ok_impl_isDigit : FnOk Tryd.prog 99 := ⟨_, Tryd.func99, by kernel_rfl, rfl⟩
theorem ok_spec_l01Digit : FnOk Tryd.prog 107 := ⟨_, Tryd.func107, by kernel_rfl, rfl⟩
theorem ok_spec_l01Dec : FnOk Tryd.prog 108 := ⟨_, Tryd.func108, by kernel_rfl, rfl⟩
theorem bld_impl_Region_ (w : World) : (Instr.build 24 #[]).run Tryd.prog w = .ok (.agg #[.slice none 0 0]) w := by
 rw [build_agg]
 simp only [List.map_toArray, List.map_cons, List.map_nil]
 simp [Instr.build, Instr.fill, go_sem]
theorem bld_impl_Pt_ (w : World) : (Instr.build 50 #[]).run Tryd.prog w = .ok (.agg #[.int .i64 0, .int .i64 0]) w := by
 rw [build_agg]
 simp only [List.map_toArray, List.map_cons, List.map_nil]
 simp [Instr.build, Instr.fill, go_sem]
theorem bld_impl_Pt_0_1 {v0 a0_0 : Value} (h0 : v0.cells = #[a0_0]) {v1 a1_0 : Value} (h1 : v1.cells = #[a1_0]) (w : World) : (Instr.build 50 #[(0, v0), (1, v1)]).run Tryd.prog w = .ok (.agg #[a0_0, a1_0]) w := by
 rw [build_agg]
 simp only [List.map_toArray, List.map_cons, List.map_nil, h0, h1]
 simp [Instr.build, Instr.fill, go_sem]
theorem bld_impl_Ring_0 {v0 a0_0 : Value} (h0 : v0.cells = #[a0_0]) (w : World) : (Instr.build 66 #[(0, v0)]).run Tryd.prog w = .ok (.agg #[a0_0]) w := by
 rw [build_agg]
 simp only [List.map_toArray, List.map_cons, List.map_nil, h0]
 simp [Instr.build, Instr.fill, go_sem]
theorem bsl_sl_impl_Ring_1_0 {v0 a0_0 : Value} (h0 : v0.cells = #[a0_0]) (w : World) : (Instr.buildSlice 22 1 #[(0, v0)]).run Tryd.prog w = .ok (.slice (some ⟨w.heap.size, 0, none⟩) 1 1) (w.alloc (.cells [a0_0].toArray 66)) := by
 rw [buildSlice_agg]
 simp only [List.map_toArray, List.map_cons, List.map_nil, h0]
 simp [Instr.buildSlice, Instr.fill, go_sem]
theorem bsl_sl_uint8_0 (w : World) : (Instr.buildSlice 30 0 #[]).run Tryd.prog w = .ok (.slice (some ⟨w.heap.size, 0, none⟩) 0 0) (w.alloc (.cells [].toArray 5)) := by
 rw [buildSlice_agg]
 simp only [List.map_toArray, List.map_cons, List.map_nil]
 simp [Instr.buildSlice, Instr.fill, go_sem]
theorem bsl_sl_uint8_1_0 {v0 a0_0 : Value} (h0 : v0.cells = #[a0_0]) (w : World) : (Instr.buildSlice 30 1 #[(0, v0)]).run Tryd.prog w = .ok (.slice (some ⟨w.heap.size, 0, none⟩) 1 1) (w.alloc (.cells [a0_0].toArray 5)) := by
 rw [buildSlice_agg]
 simp only [List.map_toArray, List.map_cons, List.map_nil, h0]
 simp [Instr.buildSlice, Instr.fill, go_sem]
theorem bsl_sl_string_0 (w : World) : (Instr.buildSlice 60 0 #[]).run Tryd.prog w = .ok (.slice (some ⟨w.heap.size, 0, none⟩) 0 0) (w.alloc (.cells [].toArray 9)) := by
 rw [buildSlice_agg]
 simp only [List.map_toArray, List.map_cons, List.map_nil]
 simp [Instr.buildSlice, Instr.fill, go_sem]
theorem bsl_sl_string_1_0 {v0 a0_0 : Value} (h0 : v0.cells = #[a0_0]) (w : World) : (Instr.buildSlice 60 1 #[(0, v0)]).run Tryd.prog w = .ok (.slice (some ⟨w.heap.size, 0, none⟩) 1 1) (w.alloc (.cells [a0_0].toArray 9)) := by
 rw [buildSlice_agg]
 simp only [List.map_toArray, List.map_cons, List.map_nil, h0]
 simp [Instr.buildSlice, Instr.fill, go_sem]
theorem bsl_sl_impl_Pt_0 (w : World) : (Instr.buildSlice 62 0 #[]).run Tryd.prog w = .ok (.slice (some ⟨w.heap.size, 0, none⟩) 0 0) (w.alloc (.cells [].toArray 50)) := by
 rw [buildSlice_agg]
 simp only [List.map_toArray, List.map_cons, List.map_nil]
 simp [Instr.buildSlice, Instr.fill, go_sem]
theorem bsl_sl_impl_Pt_1_0 {v0 a0_0 a0_1 : Value} (h0 : v0.cells = #[a0_0, a0_1]) (w : World) : (Instr.buildSlice 62 1 #[(0, v0)]).run Tryd.prog w = .ok (.slice (some ⟨w.heap.size, 0, none⟩) 1 1) (w.alloc (.cells [a0_0, a0_1].toArray 50)) := by
 rw [buildSlice_agg]
 simp only [List.map_toArray, List.map_cons, List.map_nil, h0]
 simp [Instr.buildSlice, Instr.fill, go_sem]
theorem mixed : Tryd.prog.follows .mixedOrders = true := by kernel_rfl
end Go.Proofs.YtjhaakollekjeaaDoor

namespace Go.Proofs.YtjhaakollekjeaaDoor
open Go.RowKit
set_option linter.unusedVariables false
set_option linter.unusedSimpArgs false

def inB (n lo hi : Int) : Bool := decide (lo ≤ n) && decide (n ≤ hi)
def okB (x y : Int) : Bool := inB x (-262144) 262144 && inB y (-262144) 262144

theorem l00In_any (n lo hi : Int) (w : World) :
  Calls Tryd.prog 72 #[.int .i64 n, .int .i64 lo, .int .i64 hi] w fun e w' => e = .returned (.bool (inB n lo hi)) ∧ w = w' := by
 by_cases h1 : lo ≤ n
 ·have hv : Hid (inB n lo hi = decide (n ≤ hi)) := by simp [Hid, inB, h1]
  go_enter Tryd.func72, Tryd.ntmps72
  go_wp2
  go_ret
  exact ⟨by rw [hv.out]; rfl, rfl⟩
 ·have hv : Hid (inB n lo hi = false) := by simp [Hid, inB, h1]
  go_enter Tryd.func72, Tryd.ntmps72
  go_wp2
  go_ret
  exact ⟨by rw [hv.out]; rfl, rfl⟩
set_option maxHeartbeats 400000 in
theorem l03Ok_any (x y : Int) (w : World) :
  Calls Tryd.prog 71 #[ptV x y] w fun e w' => e = .returned (.bool (okB x y)) ∧ Over w w' := by
 by_cases h1 : inB x (-262144) 262144 = true
 ·have hv : Hid (okB x y = inB y (-262144) 262144) := by simp [Hid, okB, h1]
  go_enter Tryd.func71, Tryd.ntmps71
  go_wp2_with (go_at_call 72; refine (l00In_any _ _ _ _).mono ?_; rintro e w' ⟨rfl, rfl⟩)
  go_ret
  exact ⟨by rw [hv.out]; rfl, (by repeat (first | exact Over.refl _ | (with_reducible assumption) | refine Over.alloc_ ?_ _ | refine Over.trans ?_ (by with_reducible assumption) | refine Over.drew_ ?_ | refine Over.set_ ?_ (by simp; try omega) _))⟩
 ·have h1' : inB x (-262144) 262144 = false := by simpa using h1
  clear h1
  have hv : Hid (okB x y = false) := by simp [Hid, okB, h1']
  go_enter Tryd.func71, Tryd.ntmps71
  go_wp2_with (go_at_call 72; refine (l00In_any _ _ _ _).mono ?_; rintro e w' ⟨rfl, rfl⟩)
  go_ret
  exact ⟨by rw [hv.out]; rfl, (by repeat (first | exact Over.refl _ | (with_reducible assumption) | refine Over.alloc_ ?_ _ | refine Over.trans ?_ (by with_reducible assumption) | refine Over.drew_ ?_ | refine Over.set_ ?_ (by simp; try omega) _))⟩

set_option maxHeartbeats 400000 in
theorem ValidPt_any (x y : Int) (w : World) :
  Calls Tryd.prog 67 #[ptV x y] w fun e w' => e = .returned (.bool (okB x y)) ∧ Over w w' := by
 have hv : Hid (okB x y = (decide (-262144 ≤ x) && decide (x ≤ 262144) && (decide (-262144 ≤ y) && decide (y ≤ 262144)))) := by simp [Hid, okB, inB]
 by_cases h1 : -262144 ≤ x <;> by_cases h2 : x ≤ 262144 <;> by_cases h3 : -262144 ≤ y <;> by_cases h4 : y ≤ 262144
 all_goals try (exfalso; omega)
 all_goals
  go_enter Tryd.func67, Tryd.ntmps67
  go_wp2
  go_ret
  exact ⟨by rw [hv.out]; simp [*]; try rfl, (by repeat (first | exact Over.refl _ | (with_reducible assumption) | refine Over.alloc_ ?_ _ | refine Over.trans ?_ (by with_reducible assumption) | refine Over.drew_ ?_ | refine Over.set_ ?_ (by simp; try omega) _))⟩

set_option maxHeartbeats 400000 in
theorem validPts_any (A : Option Addr) (n c : Nat) (xs : List (Int × Int)) (w : World) (h : Pts w A n xs) (hn : (n : Int) ≤ 1048576) :
  Calls Tryd.prog 100 #[.slice A n c] w fun e w' => e = .returned (.bool (xs.all fun p => okB p.1 p.2)) ∧ Over w w' := by
 go_enter Tryd.func100, Tryd.ntmps100
 go_wp2
 go_loopw [4, 7] (fun v i wr => ∃ k : Nat, k ≤ n ∧ i = .int .i64 k ∧ Over w wr ∧ Hid ((xs.take k).all (fun p => okB p.1 p.2) = true)) (fun _ i _ => n - (intOf i).toNat)
 case atStart => exact ⟨0, Nat.zero_le _, rfl, Over.refl _, by simp [Hid]⟩
 case round =>
  rename_i wr
  obtain ⟨k, hk, rfl, hb, hall⟩ := hrel
  by_cases hlt : k < n
  ·obtain ⟨b, o, rfl, hbB, hcell⟩ := (h.over hb).2 (by omega)
   obtain ⟨hc1, hc2⟩ := hcell k hlt
   have hlen : k < xs.length := by have := h.1; omega
   by_cases hok : okB (px xs k) (py xs k) = true
   ·have hs : Hid ((xs.take (k + 1)).all (fun p => okB p.1 p.2) = true) := by
     have := hall.out
     unfold Hid
     rw [List.take_succ_eq_append_getElem hlen, List.all_append, this, at_p hlen]
     simp [hok]
    clear hall hcell h
    go_wp2_with (go_at_call 67; refine (ValidPt_any _ _ _).mono ?_; rintro e w1 ⟨rfl, hb1⟩)
    go_roundw
    case rel => exact ⟨k + 1, by omega, by go_num, (by repeat (first | exact Over.refl _ | (with_reducible assumption) | refine Over.alloc_ ?_ _ | refine Over.trans ?_ (by with_reducible assumption) | refine Over.drew_ ?_ | refine Over.set_ ?_ (by simp; try omega) _)), hs⟩
    case measure => simp [intOf]; omega
   ·have hok' : okB (px xs k) (py xs k) = false := by simpa using hok
    clear hok
    have hs : Hid (xs.all (fun p => okB p.1 p.2) = false) := by
     unfold Hid
     rw [List.all_eq_false]
     exact ⟨xs[k], List.getElem_mem hlen, by rw [at_p hlen]; simp [hok']⟩
    clear hall hcell h
    go_wp2_with (go_at_call 67; refine (ValidPt_any _ _ _).mono ?_; rintro e w1 ⟨rfl, hb1⟩)
    go_ret
    exact ⟨by rw [hs.out]; rfl, (by repeat (first | exact Over.refl _ | (with_reducible assumption) | refine Over.alloc_ ?_ _ | refine Over.trans ?_ (by with_reducible assumption) | refine Over.drew_ ?_ | refine Over.set_ ?_ (by simp; try omega) _))⟩
  ·have hs : Hid (xs.all (fun p => okB p.1 p.2) = true) := by
    have := hall.out
    rw [List.take_of_length_le (by have := h.1; omega)] at this
    exact this
   clear hall h
   go_wp2
   go_ret
   exact ⟨by rw [hs.out]; rfl, hb⟩
theorem eqPt_any (ax ay bx b_y : Int) (w : World) :
  Calls Tryd.prog 101 #[ptV ax ay, ptV bx b_y] w fun e w' => e = .returned (.bool (ax == bx && ay == b_y)) ∧ Over w w' := by
 cases h1 : (ax == bx)
 all_goals
  have h1' : (ax != bx) = !(ax == bx) := rfl
  rw [h1] at h1'
  cases h2 : (ay == b_y)
 all_goals
  have h2' : (ay != b_y) = !(ay == b_y) := rfl
  rw [h2] at h2'
  clear h1 h2
  go_enter Tryd.func101, Tryd.ntmps101
  go_wp2
  go_ret
  exact ⟨rfl, (by repeat (first | exact Over.refl _ | (with_reducible assumption) | refine Over.alloc_ ?_ _ | refine Over.trans ?_ (by with_reducible assumption) | refine Over.drew_ ?_ | refine Over.set_ ?_ (by simp; try omega) _))⟩
end Go.Proofs.YtjhaakollekjeaaDoor
