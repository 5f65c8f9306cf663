import Derived.Test.YtjhaakollekjeaaDoorO6
namespace Go.Proofs.YtjhaakollekjeaaDoor
open Go Go.RowKit
set_option linter.unusedVariables false
set_option linter.unusedSimpArgs false

section
variable {P : Program} {n : Nat} {env : List (Nat × Value)} {w0 : Bs} {Rs : List Res} {ops : Array Oper} {Q : Exit → Act → World → Prop} {K : Act → World → Prop} {o : Oper}

section
variable {x y : Operand} {ts : Array TypeId} {p q : Int}
theorem qt_max (ho : o.op = .call { callee := .builtin .max, args := #[x, y], argTypes := ts }) (hx : ev env x = some (.int .i64 p)) (hy : ev env y = some (.int .i64 q)) : Qt P o n env w0 Rs (.int .i64 (max p q)) :=
 qt_of fun a w hF _ => by
  have e : max p q = if q > p then q else p := by split <;> omega
  unfold execOp; simp only [ho]; simp [resolve, invoke, builtin, hF.ev hx, hF.ev hy, run_max_int2, e]
end
/-! ### Slices cut -/
theorem run_size {T m : Nat} (h : (P.info? T).map (·.size) = some m) (w : World) : (sizeOf T).run P w = .ok m w := by
 obtain ⟨i, hi, hs'⟩ := Option.map_eq_some_iff.1 h
 simp [sizeOf, typeInfo, hi, hs']
theorem TyL.elem {T U m : Nat} (h : TyL P T U m) : P.elem T = U := by simp [Program.elem, h.desc]
theorem qt_sliceL {T U s len cap l : Nat} {x y : Operand} {a : Option Addr} (ho : o.op = .slice T x (some y) none none) (hx : ev env x = some (.slice a len cap)) (hy : ev env y = some (.int .i64 (l : Int))) (hT : TyL P T U s) (hl : l ≤ len) : Qt P o n env w0 Rs (sliced a l len cap s) :=
 qt_of fun a' w hF _ => by
  have h1 := run_sliceAt_slice (P := P) w T (.slice a len cap) (some (.int .i64 (l : Int))) none none (by rw [hT.elem]; exact hT.desc)
  have h2 := run_slice_l (P := P) w T a len cap (by rw [hT.elem]; exact hT.desc) .i64 (l : Int) (by omega) (by omega)
  unfold execOp; simp only [ho, hF.ev hx, Option.map_some, Option.map_none, hF.ev hy]
  simp [h1, h2, hT.elem, run_size hT.size]
theorem qt_sliceH {T U s len cap h : Nat} {x y : Operand} {a : Option Addr} (ho : o.op = .slice T x none (some y) none) (hx : ev env x = some (.slice a len cap)) (hy : ev env y = some (.int .i64 (h : Int))) (hT : TyL P T U s) (hl : h ≤ cap) : Qt P o n env w0 Rs (sliced a 0 h cap s) :=
 qt_of fun a' w hF _ => by
  have h1 := run_sliceAt_slice (P := P) w T (.slice a len cap) none (some (.int .i64 (h : Int))) none (by rw [hT.elem]; exact hT.desc)
  have h2 := run_slice_h (P := P) w T a len cap (by rw [hT.elem]; exact hT.desc) .i64 (h : Int) (by omega) (by omega)
  unfold execOp; simp only [ho, hF.ev hx, Option.map_some, Option.map_none, hF.ev hy]
  simp [h1, h2, hT.elem, run_size hT.size]
/-! ### What is appended -/
structure Src (s : Nat) (v2 : Value) (m : Nat) (news : List Value) (w : World) : Prop where
 len : news.length = m * s
 src : (v2 = .slice none 0 0 ∧ m = 0) ∨ ∃ ad c, v2 = .slice (some ad) m c ∧ ∀ j u, news[j]? = some u → w.cell? (ad.add j) = some u
theorem src_cel {w : World} {k b U s m c : Nat} {cs : List Value} (hs : St w0 Rs w) (hk : Rs[k]? = some (.cel b U cs)) (hl : cs.length = m * s) : Src s (.slice (some ⟨b, 0, none⟩) m c) m cs w :=
 ⟨hl, .inr ⟨_, _, rfl, fun j u hu => by rw [add_none, cell_of_row w b _ _ U (0, 0) (hs.cel hk), Nat.zero_add]; simpa using hu⟩⟩
theorem op_appendS {x y : Operand} {T U s bytes k B0 m d nn : Nat} {z v v2 : Value} {xs news : List Value} (ho : o.op = .call { callee := .builtin .append, args := #[x, y], argTypes := #[T, T] }) (hT : TyL P T U s) (hZ : TyZ P U s bytes z) (hs0 : 0 < s) (hd : o.dst = some d) (hn : d < n)
  (hx : ev env x = some v) (hy : ev env y = some v2) (hk : Rs[k]? = some (.row B0 U s v nn xs)) (hsrc : ∀ w, St w0 Rs w → Src s v2 m news w) (h1 : ∀ u ∈ news, u.oneCell' = true)
  (h63 : nn + m ≤ maxLen) (hbytes : (nn + m) * bytes ≤ 140737488355328) (hB : B0 ≤ w0.N)
  (h : ∀ v', At n ((d, v') :: env) w0 (Rs.set k (.row B0 U s v' (nn + m) (xs ++ news))) K) : At n env w0 Rs (fun a w => o.wp P a w K Q) := fun a w hf hs => by
 have hS := hsrc w hs
 rcases hS.src with ⟨rfl, rfl⟩ | ⟨ad, c, rfl, hnews⟩
 ·obtain ⟨i, hi, hz0, hz1, hz2⟩ := hZ.info
  have hown : w.ownsRow B0 U s v nn xs := (hs.all k _ hk).1
  have hr := run_append_owned_none (P := P) w B0 T o.type U i s hT.desc hi v nn xs hown
  have hrun : (execOp a.eval o).run P w = .ok (.value v) w := by
   unfold execOp
   simp only [ho, resolve, invoke, builtin, Sem.run_bind, Sem.run_pure, Result.andThen_ok, List.map_toArray, List.map_cons, List.map_nil, hf.ev hx, hf.ev hy, hr]
  have hnil : news = [] := List.eq_nil_of_length_eq_zero (by simpa using hS.len)
  subst hnil
  show o.upon P a K Q ((execOp a.eval o).run P w)
  rw [hrun, Oper.upon_value, hd]
  refine h v _ w (hf.put hn v) (hs.chg hk (fun hP => ?_) (fun b hb => hb) rfl)
  rw [List.append_nil]
  exact hP
 ·exact op_append ho hT hZ hs0 hd hn hx hy hk hS.len (fun w' hs' => by
   rcases (hsrc w' hs').src with ⟨e, _⟩ | ⟨ad', c', e, hn'⟩
   ·cases e
   ·injection e with e1 e2 e3
    injection e1 with e1
    subst e1
    exact hn') h1 h63 hbytes hB h a w hf hs

/-! ### A slice made -/
/-! ### Function values -/
end
end Go.Proofs.YtjhaakollekjeaaDoor
