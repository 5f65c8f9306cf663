/- Append within capacity, clear; slices.Delete at points; rings without idle points. -/
import Derived.Test.YtakdjgldcpompaaSnapped
import Derived.Test.YtakdjgldcpompaaLex
import Derived.ArgAppend
import Derived.Test.YtakdjgldcpompaaSnapped2
namespace Go.Proofs.Ytakdjgldcpompaa
open Go Go.RowKit
set_option linter.unusedVariables false

theorem setCells_splice {w : World} {b U : Nat} {cs vs : List Value} {off : Nat} (hh : w.heap[b]? = some (.cells cs.toArray U (0, 0))) (hl : off + vs.length ≤ cs.length) (h1 : vs.all (·.oneCell') = true) : w.setCells b off vs = w.setRow b (splice cs off vs).toArray := by
  have hcell : ∀ j, j < vs.length → (w.cell? ⟨b, off + 0 + j, none⟩).isSome = true := fun j hj => by
    rw [cell_of_row w b _ _ U (0, 0) hh]
    simp; omega
  have hfz : ∀ j, j < vs.length → w.frozen? ⟨b, off + 0 + j, none⟩ = false := fun j hj => by simp [World.frozen?, hh]
  have e1 := run_storeCells_cells (P := default) b off vs 0 w hcell hfz (fun v hv => by simpa using List.all_eq_true.1 h1 v hv)
  have e2 := run_storeCells (P := default) vs off 0 cs w hh (by omega) h1
  rw [e1] at e2
  injection e2
section
variable {P : Program} {n : Nat} {env : List (Nat × Value)} {w0 : Bs} {Rs : List Res} {ops : Array Oper} {Q : Exit → Act → World → Prop} {K : Act → World → Prop} {o : Oper}
theorem op_appendIn {x y : Operand} {T U s bytes k b b2 off2 m c cap d nn U' : Nat} {z : Value} {cs news : List Value} (ho : o.op = .call { callee := .builtin .append, args := #[x, y], argTypes := #[T, T] }) (hT : TyL P T U s) (hZ : TyZ P U s bytes z) (hd : o.dst = some d) (hn : d < n)
    (hx : ev env x = some (.slice (some ⟨b, 0, none⟩) nn cap)) (hy : ev env y = some (.slice (some ⟨b2, off2, none⟩) m c)) (hk : Rs[k]? = some (.cel b U' cs)) (hl : news.length = m * s) (hnews : ∀ w, St w0 Rs w → ∀ j u, news[j]? = some u → w.cell? ⟨b2, off2 + j, none⟩ = some u) (h1 : news.all (·.oneCell') = true)
    (hroom : nn + m ≤ cap) (hfit : nn * s + news.length ≤ cs.length)
    (h : At n ((d, .slice (some ⟨b, 0, none⟩) (nn + m) cap) :: env) w0 (Rs.set k (.cel b U' (splice cs (nn * s) news))) K) : At n env w0 Rs (fun a w => o.wp P a w K Q) := fun a w hf hs => by
  obtain ⟨i, hi, hz0, hz1, hz2⟩ := hZ.info
  have hh := hs.cel hk
  have hr := run_append_room_cells (P := P) w T o.type U i hT.desc hi b 0 nn cap ⟨b2, off2, none⟩ m c news (by rw [hz1]; exact hl) (fun j u hj => by rw [add_none]; exact hnews w hs j u hj) (fun u hu => by simpa using List.all_eq_true.1 h1 u hu) hroom
    (fun j hj => by rw [cell_of_row w b _ _ U' (0, 0) hh, hz1]; simp; omega) (fun j hj => by simp [World.frozen?, hh])
  rw [hz1, Nat.zero_add, setCells_splice hh hfit h1] at hr
  have hrun : (execOp a.eval o).run P w = .ok (.value (.slice (some ⟨b, 0, none⟩) (nn + m) cap)) (w.setRow b (splice cs (nn * s) news).toArray) := by
    unfold execOp
    simp only [ho, resolve, invoke, builtin, Sem.run_bind, Sem.run_pure, Result.andThen_ok, List.map_toArray, List.map_cons, List.map_nil, hf.ev hx, hf.ev hy, hr]
  show o.upon P a K Q ((execOp a.eval o).run P w)
  rw [hrun, Oper.upon_value, hd]
  exact h _ _ (hf.put hn _) (hs.store hk)
theorem op_clear {x : Operand} {T U s bytes k b off m c U' : Nat} {z : Value} {cs zs : List Value} (ho : o.op = .call { callee := .builtin .clear, args := #[x], argTypes := #[T] }) (hT : TyL P T U s) (hZ : TyZ P U s bytes z) (hd : o.dst = none)
    (hx : ev env x = some (.slice (some ⟨b, off, none⟩) m c)) (hm : 0 < m) (hk : Rs[k]? = some (.cel b U' cs)) (hzs : (Builtin.zeroCells z.cells m).toList = zs) (h1 : zs.all (·.oneCell') = true) (hfit : off + zs.length ≤ cs.length)
    (h : At n env w0 (Rs.set k (.cel b U' (splice cs off zs))) K) : At n env w0 Rs (fun a w => o.wp P a w K Q) := fun a w hf hs => by
  have hh := hs.cel hk
  have hst := run_storeCells (P := P) zs off 0 cs w hh (by omega) h1
  obtain ⟨m', rfl⟩ : ∃ m', m = m' + 1 := ⟨m - 1, by omega⟩
  have hcl : (Builtin.clear_ #[T] o.type #[.slice (some ⟨b, off, none⟩) (m' + 1) c]).run P w = .ok (.tuple #[]) (w.setRow b (splice cs off zs).toArray) := by
    simp [Builtin.clear_, run_underlying hT.desc, hZ.run, hzs, hst]
  have hrun : (execOp a.eval o).run P w = .ok (.value (.tuple #[])) (w.setRow b (splice cs off zs).toArray) := by
    unfold execOp
    simp only [ho, resolve, invoke, builtin, Sem.run_bind, Sem.run_pure, Result.andThen_ok, List.map_toArray, List.map_cons, List.map_nil, hf.ev hx, hcl]
  show o.upon P a K Q ((execOp a.eval o).run P w)
  rw [hrun, Oper.upon_value, hd]
  exact h _ _ hf (hs.store hk)
end
/-! ### A point taken out -/
theorem splice_get {vs : List Value} : ∀ {cs : List Value} {off : Nat} (j : Nat), off + vs.length ≤ cs.length → (splice cs off vs)[j]? = if off ≤ j ∧ j < off + vs.length then vs[j - off]? else cs[j]? := by
  induction vs with
  | nil => intro cs off j _; rw [splice, if_neg (by simp only [List.length_nil]; omega)]
  | cons v r ih =>
    intro cs off j hl
    simp only [List.length_cons] at hl
    rw [splice, ih (cs := cs.set off v) (off := off + 1) j (by simp; omega)]
    simp only [List.length_cons]
    by_cases h1 : off + 1 ≤ j ∧ j < off + 1 + r.length
    · rw [if_pos h1, if_pos (by omega), show j - off = (j - (off + 1)) + 1 by omega]
      simp
    · rw [if_neg h1]
      by_cases h2 : j = off
      · subst h2
        rw [if_pos (by omega), List.getElem?_set_self (by omega)]
        simp
      · rw [if_neg (by omega), List.getElem?_set_ne (by omega)]
theorem ptCells_get (xs : List (Int × Int)) (j : Nat) (h : j < xs.length * 2) : (xs.flatMap ptCells)[j]? = (ptCells (xs[j / 2]'(by omega)))[j % 2]? := by
  have := ptFlat xs (j / 2) (j % 2) (by omega) (by omega)
  rwa [show j / 2 * 2 + j % 2 = j by omega] at this
theorem take_cells (xs : List (Int × Int)) (k : Nat) : (xs.flatMap ptCells).take (k * 2) = (xs.take k).flatMap ptCells := by
  induction xs generalizing k with
  | nil => simp
  | cons a r ih =>
    match k with
    | 0 => simp
    | k + 1 =>
      rw [List.flatMap_cons, List.take_succ_cons, List.flatMap_cons, show (k + 1) * 2 = (ptCells a).length + k * 2 by simp [ptCells]; omega, List.take_length_add_append, ih]
theorem drop_cells (xs : List (Int × Int)) (k : Nat) : (xs.flatMap ptCells).drop (k * 2) = (xs.drop k).flatMap ptCells := by
  induction xs generalizing k with
  | nil => simp
  | cons a r ih =>
    match k with
    | 0 => simp
    | k + 1 =>
      rw [List.flatMap_cons, List.drop_succ_cons, show (k + 1) * 2 = (ptCells a).length + k * 2 by simp [ptCells]; omega, List.drop_length_add_append, ih]
/-- The address of the piece of a slice from l on. -/
def offL (o l m s : Nat) : Nat := if m = l then o else o + l * s
theorem slicedL {b o l h m s : Nat} (_hm : h ≤ m) (_hl : l ≤ h) : sliced (some ⟨b, o, none⟩) l h m s = .slice (some ⟨b, offL o l m s, none⟩) (h - l) (m - l) := by
  unfold sliced offL
  split
  · rfl
  · simp [add_none]
theorem zero2 : (Builtin.zeroCells (Value.agg #[.int .i64 0, .int .i64 0]).cells 1).toList = [.int .i64 0, .int .i64 0] := by kernel_rfl
theorem slicedL1 {b n c : Nat} (hc : n ≤ c) (h0 : 0 < n) : sliced (some ⟨b, 0, none⟩) (n - 1) n c 2 = .slice (some ⟨b, (n - 1) * 2, none⟩) 1 (c - (n - 1)) := by
  rw [slicedL (by omega) (by omega), offL, if_neg (by omega), Nat.zero_add, show n - (n - 1) = 1 by omega]
theorem ptCells_all (xs : List (Int × Int)) : (xs.flatMap ptCells).all (·.oneCell') = true := List.all_eq_true.2 (ptCells_one xs)
theorem hnewsDel {w0 : Bs} {Rs : List Res} {b T c i n : Nat} {xs : List (Int × Int)} {cs : List Value} (hc : n ≤ c) (hl : cs.length = c * 2) (hx : cs.take (n * 2) = xs.flatMap ptCells) (hn : xs.length = n) : ∀ w', St w0 (.cel b T cs :: Rs) w' → ∀ (j : Nat) u, ((xs.drop (i + 1)).flatMap ptCells)[j]? = some u → w'.cell? ⟨b, offL 0 (i + 1) c 2 + j, none⟩ = some u := fun w' hs j u hu => by
  have hj := (List.getElem?_eq_some_iff.1 hu).1
  rw [ptCells_len, List.length_drop] at hj
  rw [offL, if_neg (by omega), cell_of_row w' b _ _ T (0, 0) (hs.cel (k := 0) rfl)]
  rw [← drop_cells, List.getElem?_drop, ← hx, List.getElem?_take, if_pos (by omega)] at hu
  rw [Nat.zero_add]
  simpa using hu
/-- The cells of a row from which a point was taken: the others, closed up. -/
theorem del_take {c i n : Nat} {xs : List (Int × Int)} {cs : List Value} (hc : n ≤ c) (hl : cs.length = c * 2) (hx : cs.take (n * 2) = xs.flatMap ptCells) (hn : xs.length = n) (hi : i < n) :
    (splice (splice cs (i * 2) ((xs.drop (i + 1)).flatMap ptCells)) ((n - 1) * 2) [.int .i64 0, .int .i64 0]).take ((n - 1) * 2) = (xs.eraseIdx i).flatMap ptCells := by
  have hdl : ((xs.drop (i + 1)).flatMap ptCells).length = (n - (i + 1)) * 2 := by rw [ptCells_len, List.length_drop, hn]
  apply List.ext_getElem?
  intro j
  rw [List.getElem?_take]
  by_cases hj : j < (n - 1) * 2
  · rw [if_pos hj, splice_get j (by rw [splice_len]; simp only [List.length_cons, List.length_nil]; omega), if_neg (by omega), splice_get j (by rw [hdl]; omega)]
    rw [List.eraseIdx_eq_take_drop_succ, List.flatMap_append, ← take_cells]
    have htl : ((xs.flatMap ptCells).take (i * 2)).length = i * 2 := by rw [List.length_take, ptCells_len]; omega
    by_cases h1 : j < i * 2
    · rw [if_neg (by omega), List.getElem?_append_left (by rw [htl]; exact h1), List.getElem?_take, if_pos h1, ← hx, List.getElem?_take, if_pos (by omega)]
    · rw [if_pos ⟨by omega, by rw [hdl]; omega⟩, List.getElem?_append_right (by rw [htl]; omega), htl]
  · rw [if_neg hj, List.getElem?_eq_none (by rw [ptCells_len, List.length_eraseIdx]; split <;> omega)]
def pt (xs : List (Int × Int)) (k : Nat) : Pn := (px xs k, py xs k)
def pv (xs : List (Int × Int)) (k : Nat) : Nat := (k + xs.length - 1) % xs.length
theorem pv_lt {xs : List (Int × Int)} (k : Nat) (h : 0 < xs.length) : pv xs k < xs.length := Nat.mod_lt _ h
theorem pv_int {xs : List (Int × Int)} {n : Nat} (hl : xs.length = n) (hn : 0 < n) (k : Nat) : ((k : Int) + (n : Int) - 1).tmod (n : Int) = ((pv xs k : Nat) : Int) := by
  rw [Int.tmod_eq_emod_of_nonneg (by omega), pv, hl, show (k : Int) + (n : Int) - 1 = ((k + n - 1 : Nat) : Int) by omega]
  exact (Int.natCast_emod _ _).symm
theorem nx_int' {xs : List (Int × Int)} {n : Nat} (hl : xs.length = n) (k : Nat) : ((k : Int) + 1).tmod (n : Int) = ((nx xs k : Nat) : Int) := by
  rw [Int.tmod_eq_emod_of_nonneg (by omega)]
  exact nx_int hl k
def turnAt (xs : List (Int × Int)) (k : Nat) : Int := tn (pt xs (pv xs k)) (pt xs k) (pt xs (nx xs k))
def idle (xs : List (Int × Int)) : Option Nat := (List.range xs.length).find? fun k => turnAt xs k == 0
def idleV (xs : List (Int × Int)) : Int := match idle xs with | some k => k | none => -1
theorem idle_some {xs : List (Int × Int)} {k : Nat} (hk : k < xs.length) (h0 : turnAt xs k = 0) (hn : ∀ j, j < k → ¬ turnAt xs j = 0) : idle xs = some k := by
  rw [idle, List.find?_eq_some_iff_getElem]
  refine ⟨by simpa using h0, k, by simpa using hk, by simp, fun j hj => ?_⟩
  simpa using hn j hj
theorem idle_none {xs : List (Int × Int)} (hn : ∀ j, j < xs.length → ¬ turnAt xs j = 0) : idle xs = none := by
  rw [idle, List.find?_eq_none]
  intro j hj
  simpa using hn j (List.mem_range.1 hj)
theorem idle_lt {xs : List (Int × Int)} {k : Nat} (h : idle xs = some k) : k < xs.length := by
  have := List.mem_of_find?_eq_some h
  exact List.mem_range.1 this
def simple (xs : List (Int × Int)) : List (Int × Int) :=
  match h : idle xs with
  | none => xs
  | some k => simple (xs.eraseIdx k)
termination_by xs.length
decreasing_by
  have := idle_lt h
  rw [List.length_eraseIdx, if_pos this]
  omega
theorem simple_none {xs : List (Int × Int)} (h : idle xs = none) : simple xs = xs := by
  unfold simple
  split
  · rfl
  · rename_i k hk; rw [h] at hk; cases hk
theorem simple_some {xs : List (Int × Int)} {k : Nat} (h : idle xs = some k) : simple xs = simple (xs.eraseIdx k) := by
  rw [simple]
  split
  · rename_i hk; rw [h] at hk; cases hk
  · rename_i j hk; rw [h] at hk; injection hk with hk; rw [hk]
/-- Points that are valid, at most 401 of them. -/
def okPts (xs : List (Int × Int)) : Prop := xs.length ≤ 401 ∧ ∀ p ∈ xs, bd2 p
theorem okPts.at_ {xs : List (Int × Int)} (h : okPts xs) {k : Nat} (hk : k < xs.length) : bd2 (pt xs k) := by
  have := h.2 xs[k] (List.getElem_mem hk)
  rwa [at_p hk] at this
theorem okPts.erase {xs : List (Int × Int)} (h : okPts xs) (k : Nat) : okPts (xs.eraseIdx k) :=
  ⟨Nat.le_trans (List.length_eraseIdx_le _ _) h.1, fun p hp => h.2 p (List.mem_of_mem_eraseIdx hp)⟩
theorem okPts.of {xs : List (Int × Int)} (h : ringB xs = true) : okPts xs := by
  have h1 := pos_of_ring h
  refine ⟨by omega, fun p hp => ?_⟩
  simp only [ringB, Bool.and_eq_true, allOk, List.all_eq_true] at h
  have := h.2 p hp
  simp [okB, inB] at this
  exact ⟨⟨by omega, by omega⟩, by omega, by omega⟩
theorem simple_ok {xs : List (Int × Int)} : okPts xs → okPts (simple xs) := by
  induction h : xs.length using Nat.strongRecOn generalizing xs with
  | _ m ih =>
    intro hx
    cases hi : idle xs with
    | none => rw [simple_none hi]; exact hx
    | some k =>
      rw [simple_some hi]
      have := idle_lt hi
      exact ih _ (by rw [List.length_eraseIdx, if_pos this]; omega) rfl (hx.erase k)

/-- The first points of a slice, as what is appended; the points behind them. -/
theorem srcTake {w : World} {b o n c k : Nat} {xs : List (Int × Int)} (h : Pts w (some ⟨b, o, none⟩) n xs) (hk : k ≤ n) : Src 2 (.slice (some ⟨b, o, none⟩) k c) k ((xs.take k).flatMap ptCells) w := by
  have hl := h.1
  refine ⟨by rw [ptCells_len, List.length_take]; omega, .inr ⟨_, c, rfl, fun j u hu => ?_⟩⟩
  by_cases h0 : 0 < n
  · have hs := srcPts (c := c) h h0
    rcases hs.src with ⟨e, _⟩ | ⟨ad, c', e, hn⟩
    · cases e
    · injection e with e1 e2 e3
      injection e1 with e1
      subst e1
      refine hn j u ?_
      rw [← take_cells, List.getElem?_take] at hu
      split at hu
      · exact hu
      · cases hu
  · obtain rfl : xs = [] := List.eq_nil_of_length_eq_zero (by omega)
    simp at hu
theorem srcDrop {w : World} {b o n c k : Nat} {xs : List (Int × Int)} (h : Pts w (some ⟨b, o, none⟩) n xs) (hk : k ≤ n) (hc : n ≤ c) : Src 2 (.slice (some ⟨b, offL o k c 2, none⟩) (n - k) (c - k)) (n - k) ((xs.drop k).flatMap ptCells) w := by
  have hl := h.1
  refine ⟨by rw [ptCells_len, List.length_drop, hl], .inr ⟨_, _, rfl, fun j u hu => ?_⟩⟩
  have hj := (List.getElem?_eq_some_iff.1 hu).1
  rw [ptCells_len, List.length_drop] at hj
  have hs := srcPts (c := c) h (by omega)
  rcases hs.src with ⟨e, _⟩ | ⟨ad, c', e, hn⟩
  · cases e
  · injection e with e1 e2 e3
    injection e1 with e1
    subst e1
    rw [← drop_cells, List.getElem?_drop] at hu
    have := hn _ u hu
    rw [add_none] at this ⊢
    rw [offL, if_neg (by omega)]
    rw [← this]
    congr 2
    omega
theorem erase_cells (xs : List (Int × Int)) (k : Nat) : (xs.take k).flatMap ptCells ++ (xs.drop (k + 1)).flatMap ptCells = (xs.eraseIdx k).flatMap ptCells := by rw [List.eraseIdx_eq_take_drop_succ, List.flatMap_append]
theorem erase_len {xs : List (Int × Int)} {k : Nat} (hk : k < xs.length) : (xs.eraseIdx k).length = xs.length - 1 := by rw [List.length_eraseIdx, if_pos hk]
theorem idle_of {xs : List (Int × Int)} (h : ¬ idleV xs < 0) : ∃ k, idle xs = some k ∧ idleV xs = (k : Int) := by
  unfold idleV at *
  cases hi : idle xs with
  | none => rw [hi] at h; exact absurd h (by decide)
  | some k => exact ⟨k, rfl, rfl⟩
theorem idle_no {xs : List (Int × Int)} (h : idleV xs < 0) : idle xs = none := by
  unfold idleV at h
  cases hi : idle xs with
  | none => rfl
  | some k => rw [hi] at h; simp at h; omega
theorem simple_nil {xs : List (Int × Int)} (h : xs.length = 0) : simple xs = xs := simple_none (idle_none fun j hj => by omega)
end Go.Proofs.Ytakdjgldcpompaa
