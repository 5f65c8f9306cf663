import Derived.Test.YtjhaakollekjeaaR13
import Derived.Test.YtjhaakollekjeaaR4
import Derived.Test.YtjhaakollekjeaaR3
import Derived.Test.YtjhaakollekjeaaR5
import Derived.Test.YtjhaakollekjeaaR2
namespace Go.Proofs.Ytjhaakollekjeaa
open Go Go.RowKit
set_option linter.unusedVariables false
set_option linter.unusedSimpArgs false

section
variable {P : Program} {n : Nat} {env : List (Nat × Value)} {w0 : Bs} {Rs : List Res} {ops : Array Oper} {Q : Exit → Act → World → Prop} {K : Act → World → Prop} {o : Oper}

section
variable {x y : Operand} {ts : Array TypeId} {p q : Int}
end
/-! ### Slices cut -/
theorem TyL.elem {T U m : Nat} (h : TyL P T U m) : P.elem T = U := by simp [Program.elem, h.desc]
/-! ### What is appended -/
structure Src (s : Nat) (v2 : Value) (m : Nat) (news : List Value) (w : World) : Prop where
 len : news.length = m * s
 src : (v2 = .slice none 0 0 ∧ m = 0) ∨ ∃ ad c, v2 = .slice (some ad) m c ∧ ∀ j u, news[j]? = some u → w.cell? (ad.add j) = some u
theorem src_row {w : World} {k B U s m : Nat} {v : Value} {xs : List Value} (hs : St w0 Rs w) (hk : Rs[k]? = some (.row B U s v m xs)) : Src s v m xs w := by
 have h : w.ownsRow B U s v m xs := (hs.all k _ hk).1
 refine ⟨h.1, ?_⟩
 rcases h.2 with ⟨rfl, rfl⟩ | ⟨g, cap, cur, rfl, hb, hg, hcap, _⟩
 ·exact .inl ⟨rfl, rfl⟩
 ·exact .inr ⟨_, _, rfl, h.cells rfl⟩
theorem src_cel {w : World} {k b U s m c : Nat} {cs : List Value} (hs : St w0 Rs w) (hk : Rs[k]? = some (.cel b U cs)) (hl : cs.length = m * s) : Src s (.slice (some ⟨b, 0, none⟩) m c) m cs w :=
 ⟨hl, .inr ⟨_, _, rfl, fun j u hu => by rw [add_none, cell_of_row w b _ _ U (0, 0) (hs.cel hk), Nat.zero_add]; simpa using hu⟩⟩
theorem op_appendS {x y : Operand} {T U s bytes k B0 m d nn : Nat} {z v v2 : Value} {xs news : List Value} (ho : o.op = .call { callee := .builtin .append, args := #[x, y], argTypes := #[T, T] }) (hT : TyL P T U s) (hZ : TyZ P U s bytes z) (hs0 : 0 < s) (hd : o.dst = some d) (hn : d < n)
  (hx : ev env x = some v) (hy : ev env y = some v2) (hk : Rs[k]? = some (.row B0 U s v nn xs)) (hsrc : ∀ w, St w0 Rs w → Src s v2 m news w) (h1 : ∀ u ∈ news, u.oneCell' = true)
  (h63 : nn + m ≤ maxLen) (hbytes : (nn + m) * bytes ≤ 140737488355328) (hB : B0 ≤ w0.N)
  (h : ∀ v', At n ((d, v') :: env) w0 (Rs.set k (.row B0 U s v' (nn + m) (xs ++ news))) K) : At n env w0 Rs (fun a w => o.wp P a w K Q) := fun a w hf hs => by
 have hS := hsrc w hs
 rcases hS.src with ⟨rfl, rfl⟩ | ⟨ad, c, rfl, hnews⟩
 ·obtain ⟨i, hi, hz0, hz1, hz2⟩ := hZ.info
  have hown : w.ownsRow B0 U s v nn xs := (hs.all k _ hk).1
  have hr := run_append_owned_none (P := P) w B0 T o.type U i s hT.desc hi v nn xs hown
  have hrun : (execOp a.eval o).run P w = .ok (.value v) w := by
   unfold execOp
   simp only [ho, resolve, invoke, builtin, Sem.run_bind, Sem.run_pure, Result.andThen_ok, List.map_toArray, List.map_cons, List.map_nil, hf.ev hx, hf.ev hy, hr]
  have hnil : news = [] := List.eq_nil_of_length_eq_zero (by simpa using hS.len)
  subst hnil
  show o.upon P a K Q ((execOp a.eval o).run P w)
  rw [hrun, Oper.upon_value, hd]
  refine h v _ w (hf.put hn v) (hs.chg hk (fun hP => ?_) (fun b hb => hb) rfl)
  rw [List.append_nil]
  exact hP
 ·exact op_append ho hT hZ hs0 hd hn hx hy hk hS.len (fun w' hs' => by
   rcases (hsrc w' hs').src with ⟨e, _⟩ | ⟨ad', c', e, hn'⟩
   ·cases e
   ·injection e with e1 e2 e3
    injection e1 with e1
    subst e1
    exact hn') h1 h63 hbytes hB h a w hf hs

/-! ### A slice made -/
/-! ### Function values -/
end
end Go.Proofs.Ytjhaakollekjeaa

namespace Go.Proofs.Ytjhaakollekjeaa
open Go Go.RowKit
set_option maxRecDepth 100000
set_option linter.unusedSimpArgs false
set_option linter.unusedVariables false

theorem tyz_of {P : Program} {T m k : Nat} {z : Value} (h : (P.info? T).map (fun i => (i.zero, i.size, i.bytes)) = some (some z, m, k)) (hc : z.cells.size = m) : TyZ P T m k z := by
 cases hi : P.info? T with
 | none => simp [hi] at h
 | some i =>
  simp only [hi, Option.map_some, Option.some.injEq, Prod.mk.injEq] at h
  exact ⟨⟨i, hi, h.1, h.2.1, h.2.2⟩, hc⟩
theorem ty1_int64 : Ty1 Try.prog 2 := ⟨⟨_, Try.underlying2, rfl⟩, by kernel_rfl⟩
theorem tyz_uint8 : TyZ Try.prog 5 1 1 (.int .u8 0) := tyz_of (by kernel_rfl) rfl
theorem tyz_string : TyZ Try.prog 9 1 16 (.string ⟨#[]⟩) := tyz_of (by kernel_rfl) rfl
theorem tys_laws_Region : TyS Try.prog 24 1 := ⟨⟨_, Try.underlying24, rfl⟩, by kernel_rfl⟩
theorem ty1_sl_impl_Ring : Ty1 Try.prog 27 := ⟨⟨_, Try.underlying27, rfl⟩, by kernel_rfl⟩
theorem tyl_sl_impl_Ring : TyL Try.prog 27 75 1 := ⟨Try.underlying27, by kernel_rfl⟩
theorem tys_impl_Region : TyS Try.prog 29 1 := ⟨⟨_, Try.underlying29, rfl⟩, by kernel_rfl⟩
theorem tyf_impl_Region_0 : TyF Try.prog 29 0 0 := ⟨_, _, Try.underlying29, rfl, rfl, 0, by kernel_rfl⟩
theorem tyz_impl_Region : TyZ Try.prog 29 1 24 (.agg #[.slice none 0 0]) := tyz_of (by kernel_rfl) rfl
theorem ty1_sl_impl_Pt : Ty1 Try.prog 53 := ⟨⟨_, Try.underlying53, rfl⟩, by kernel_rfl⟩
theorem tyl_sl_impl_Pt : TyL Try.prog 53 103 2 := ⟨Try.underlying53, by kernel_rfl⟩
theorem tyl_sl_uint8 : TyL Try.prog 71 5 1 := ⟨Try.underlying71, by kernel_rfl⟩
theorem tyz_strings_Builder : TyZ Try.prog 73 2 32 (.agg #[.pointer none, .slice none 0 0]) := tyz_of (by kernel_rfl) rfl
theorem tys_impl_Ring : TyS Try.prog 75 1 := ⟨⟨_, Try.underlying75, rfl⟩, by kernel_rfl⟩
theorem tyf_impl_Ring_0 : TyF Try.prog 75 0 0 := ⟨_, _, Try.underlying75, rfl, rfl, 0, by kernel_rfl⟩
theorem tyz_impl_Ring : TyZ Try.prog 75 1 24 (.agg #[.slice none 0 0]) := tyz_of (by kernel_rfl) rfl
theorem tys_impl_Pt : TyS Try.prog 103 2 := ⟨⟨_, Try.underlying103, rfl⟩, by kernel_rfl⟩
theorem tyf_impl_Pt_0 : TyF Try.prog 103 0 0 := ⟨_, _, Try.underlying103, rfl, rfl, 0, by kernel_rfl⟩
theorem tyf_impl_Pt_1 : TyF Try.prog 103 1 1 := ⟨_, _, Try.underlying103, rfl, rfl, 0, by kernel_rfl⟩
theorem tyz_impl_Pt : TyZ Try.prog 103 2 16 (.agg #[.int .i64 0, .int .i64 0]) := tyz_of (by kernel_rfl) rfl
theorem tyl_sl_string : TyL Try.prog 125 9 1 := ⟨Try.underlying125, by kernel_rfl⟩
theorem tya_20_uint8 : Try.prog.underlying 213 = some (.array 20 5) := Try.underlying213
theorem tyz_20_uint8 : TyZ Try.prog 213 20 20 (.agg #[.int .u8 0, .int .u8 0, .int .u8 0, .int .u8 0, .int .u8 0, .int .u8 0, .int .u8 0, .int .u8 0, .int .u8 0, .int .u8 0, .int .u8 0, .int .u8 0, .int .u8 0, .int .u8 0, .int .u8 0, .int .u8 0, .int .u8 0, .int .u8 0, .int .u8 0, .int .u8 0]) := tyz_of (by kernel_rfl) rfl
theorem ok_laws_szRegion : FnOk Try.prog 6 := ⟨_, Try.func6, by kernel_rfl, rfl⟩
theorem ok_spec_RegionText : FnOk Try.prog 7 := ⟨_, Try.func7, by kernel_rfl, rfl⟩
theorem ok_laws_toRegion : FnOk Try.prog 8 := ⟨_, Try.func8, by kernel_rfl, rfl⟩
theorem ok_impl_RegionText : FnOk Try.prog 9 := ⟨_, Try.func9, by kernel_rfl, rfl⟩
theorem ok_laws_eqRegion : FnOk Try.prog 10 := ⟨_, Try.func10, by kernel_rfl, rfl⟩
theorem ok_spec_l13Ok : FnOk Try.prog 28 := ⟨_, Try.func28, by kernel_rfl, rfl⟩
theorem ok_spec_l13Text : FnOk Try.prog 29 := ⟨_, Try.func29, by kernel_rfl, rfl⟩
theorem ok_impl_ValidRegion : FnOk Try.prog 31 := ⟨_, Try.func31, by kernel_rfl, rfl⟩
theorem ok_p_strings_Builder_WriteString : FnOk Try.prog 32 := ⟨_, Try.func32, by kernel_rfl, rfl⟩
theorem ok_impl_joinPts : FnOk Try.prog 33 := ⟨_, Try.func33, by kernel_rfl, rfl⟩
theorem ok_p_strings_Builder_String : FnOk Try.prog 34 := ⟨_, Try.func34, by kernel_rfl, rfl⟩
theorem ok_spec_l09Points : FnOk Try.prog 62 := ⟨_, Try.func62, by kernel_rfl, rfl⟩
theorem ok_impl_PtText : FnOk Try.prog 67 := ⟨_, Try.func67, by kernel_rfl, rfl⟩
theorem ok_strings_Join : FnOk Try.prog 68 := ⟨_, Try.func68, by kernel_rfl, rfl⟩
theorem ok_impl_ValidPt : FnOk Try.prog 94 := ⟨_, Try.func94, by kernel_rfl, rfl⟩
theorem ok_spec_l03Text : FnOk Try.prog 108 := ⟨_, Try.func108, by kernel_rfl, rfl⟩
theorem ok_impl_Decimal : FnOk Try.prog 111 := ⟨_, Try.func111, by kernel_rfl, rfl⟩
theorem ok_spec_l01Dec : FnOk Try.prog 143 := ⟨_, Try.func143, by kernel_rfl, rfl⟩
theorem bsl_sl_uint8_0 (w : World) : (Instr.buildSlice 71 0 #[]).run Try.prog w = .ok (.slice (some ⟨w.heap.size, 0, none⟩) 0 0) (w.alloc (.cells [].toArray 5)) := by
 rw [buildSlice_agg]
 simp only [List.map_toArray, List.map_cons, List.map_nil]
 simp [Instr.buildSlice, Instr.fill, go_sem]
theorem bsl_sl_uint8_1_0 {v0 a0_0 : Value} (h0 : v0.cells = #[a0_0]) (w : World) : (Instr.buildSlice 71 1 #[(0, v0)]).run Try.prog w = .ok (.slice (some ⟨w.heap.size, 0, none⟩) 1 1) (w.alloc (.cells [a0_0].toArray 5)) := by
 rw [buildSlice_agg]
 simp only [List.map_toArray, List.map_cons, List.map_nil, h0]
 simp [Instr.buildSlice, Instr.fill, go_sem]
theorem bsl_sl_string_1_0 {v0 a0_0 : Value} (h0 : v0.cells = #[a0_0]) (w : World) : (Instr.buildSlice 125 1 #[(0, v0)]).run Try.prog w = .ok (.slice (some ⟨w.heap.size, 0, none⟩) 1 1) (w.alloc (.cells [a0_0].toArray 9)) := by
 rw [buildSlice_agg]
 simp only [List.map_toArray, List.map_cons, List.map_nil, h0]
 simp [Instr.buildSlice, Instr.fill, go_sem]
theorem mixed : Try.prog.follows .mixedOrders = true := by kernel_rfl
end Go.Proofs.Ytjhaakollekjeaa

namespace Go.Proofs.Ytjhaakollekjeaa
open Go Go.RowKit
set_option linter.unusedVariables false
set_option maxRecDepth 100000

theorem vi {a b : Int} (h : a = b) : some (Value.int .i64 a) = some (Value.int .i64 b) := by rw [h]
section
variable {w : World} {w0 : Bs} {Rs : List Res}
/-- A point of a slice that came in. -/
theorem rdPts {b o m j : Nat} {xs : List (Int × Int)} (h : Pts w (some ⟨b, o, none⟩) m xs) (hj : j < m) : ∀ w', St ⟨w, []⟩ Rs w' → ∀ q v, [Value.int .i64 (px xs j), Value.int .i64 (py xs j)][q]? = some v → w'.cell? ⟨b, o + j * 2 + q, none⟩ = some v := fun w' hs q v hv => by
 obtain ⟨b', o', e, _, h1, h2⟩ := (h.over hs.fin).at_ hj
 injection e with e
 injection e with e1 e2 _
 subst e1 e2
 match q, hv with
 | 0, hv => simp at hv; subst hv; exact h1
 | 1, hv => simp at hv; subst hv; exact h2
end

/-! ### A drawn region: what an operation has made may be leaned on from here -/
theorem wpAnyG_base {P : Program} {md : Region.Mode} {ops : Array Oper} {Q : Exit → Act → World → Prop} {B B' : Base} (hB : ∀ w, B'.holds w → B.holds w) {f : Nat} :
  ∀ (fuel : Nat) (listed : Array Bool) (a : Act) (W : World), wpAnyG P md ops Q B' f fuel listed a W → wpAnyG P md ops Q B f fuel listed a W
 | 0, _, _, _, h => h
 | fuel + 1, listed, a, W, h => ⟨h.1, fun i hi w hw => ⟨fun hf => wpOp_mono (fun a' w' h' => ⟨hB _ h'.1, wpAnyG_base hB fuel _ a' w' h'.2⟩) ((h.2 i hi w hw).1 hf), (h.2 i hi w hw).2⟩⟩
theorem dr_more {P : Program} {n f fuel : Nat} {env : List (Nat × Value)} {w0 : Bs} {Rs Rs0 : List Res} {ops : Array Oper} {listed : Array Bool} {Q : Exit → Act → World → Prop} (hsub : ∀ w, St w0 Rs w → St w0 Rs0 w)
  (h : At n env w0 Rs (fun a w => wpAnyG P .any ops Q (stB w0 Rs) f fuel listed a w)) : At n env w0 Rs (fun a w => St w0 Rs0 w ∧ wpAnyG P .any ops Q (stB w0 Rs0) f fuel listed a w) :=
 fun a w hf hs => ⟨hsub w hs, wpAnyG_base (B := stB w0 Rs0) (B' := stB w0 Rs) hsub fuel listed a w (h a w hf hs)⟩
end Go.Proofs.Ytjhaakollekjeaa

namespace Go.Proofs.Ytjhaakollekjeaa
open Go.RowKit
set_option linter.unusedVariables false
set_option linter.unusedSimpArgs false

end Go.Proofs.Ytjhaakollekjeaa

namespace Go.Proofs.Ytjhaakollekjeaa
open Go.RowKit
set_option linter.unusedVariables false
set_option linter.unusedSimpArgs false

/-- Twice the signed area of a triangle. -/
def trn (ax ay bx b_y cx cy : Int) : Int := (bx - ax) * (cy - ay) - (b_y - ay) * (cx - ax)

end Go.Proofs.Ytjhaakollekjeaa

namespace Go.Proofs.Ytjhaakollekjeaa
open Go Go.RowKit
set_option linter.unusedVariables false
set_option linter.unusedSimpArgs false

section
variable {P : Program} {ops : Array Oper} {Q : Exit → Act → World → Prop} {md : Region.Mode} {B : Base}

end
end Go.Proofs.Ytjhaakollekjeaa
