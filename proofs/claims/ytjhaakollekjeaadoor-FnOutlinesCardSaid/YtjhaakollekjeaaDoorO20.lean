import Derived.Test.YtjhaakollekjeaaDoorO17
import Derived.Test.YtjhaakollekjeaaDoorO19
namespace Go.Proofs.YtjhaakollekjeaaDoor
open Go Go.RowKit
set_option linter.unusedVariables false
set_option linter.unusedSimpArgs false

/-- The parts of a text between bytes. -/
def splL (b : UInt8) : List UInt8 → List (List UInt8)
 | [] => [[]]
 | c :: l => if c = b then [] :: splL b l else match splL b l with
  | [] => [[c]]
  | h :: t => (c :: h) :: t
/-- A text ahead of the first part. -/
def ahdL (p : List UInt8) : List (List UInt8) → List (List UInt8)
 | [] => [p]
 | h :: t => (p ++ h) :: t
theorem splL_ne (b : UInt8) : ∀ l, splL b l ≠ []
 | [] => by simp [splL]
 | c :: l => by
  unfold splL
  split
  ·simp
  ·split <;> simp
theorem ahdL_nil {L : List (List UInt8)} (h : L ≠ []) : ahdL [] L = L := by
 cases L with
 | nil => exact (h rfl).elim
 | cons a t => simp [ahdL]
theorem splL_no {b : UInt8} : ∀ {p l : List UInt8}, b ∉ p → splL b (p ++ l) = ahdL p (splL b l)
 | [], l, _ => (ahdL_nil (splL_ne b l)).symm
 | c :: p, l, h => by
  have h1 : c ≠ b := fun k => h (by rw [k]; simp)
  have ih := splL_no (l := l) (fun k => h (List.mem_cons_of_mem _ k) : b ∉ p)
  rw [List.cons_append, splL, if_neg h1, ih]
  cases hs : splL b l with
  | nil => exact (splL_ne b l hs).elim
  | cons a t => rfl
theorem splL_hit (b : UInt8) (l : List UInt8) : splL b (b :: l) = [] :: splL b l := by rw [splL, if_pos rfl]
theorem splL_one {b : UInt8} {p : List UInt8} (h : b ∉ p) : splL b p = [p] := by
 have := splL_no (l := []) h
 rw [List.append_nil] at this
 rw [this]
 simp [splL, ahdL]
theorem splL_two {b : UInt8} {p l : List UInt8} (h : b ∉ p) : splL b (p ++ b :: l) = p :: splL b l := by
 rw [splL_no h, splL_hit]
 simp [ahdL]
theorem splL_end (b : UInt8) : ∀ l : List UInt8, splL b (l ++ [b]) = splL b l ++ [[]]
 | [] => by simp [splL]
 | c :: l => by
  rw [List.cons_append, splL, splL_end b l, splL]
  split
  ·rfl
  ·cases hs : splL b l with
   | nil => exact (splL_ne b l hs).elim
   | cons a t => rfl
theorem splL_sum (b : UInt8) : ∀ l : List UInt8, (splL b l).length + ((splL b l).map List.length).sum = l.length + 1
 | [] => by simp [splL]
 | c :: l => by
  have ih := splL_sum b l
  unfold splL
  split
  ·simp only [List.length_cons, List.map_cons, List.sum_cons, List.length_nil]; omega
  ·cases hs : splL b l with
   | nil => exact (splL_ne b l hs).elim
   | cons a t =>
    rw [hs] at ih
    simp only [List.length_cons, List.map_cons, List.sum_cons] at ih ⊢
    omega
/-- Where a byte stands first. -/
theorem byte_at {b : UInt8} {l : List UInt8} {i : Nat} (h : Lib.indexByte l b = i) : b ∉ l.take i ∧ l = l.take i ++ b :: l.drop (i + 1) := by
 obtain ⟨h1, h2⟩ := Lib.indexByte_some h
 have hi := (List.getElem?_eq_some_iff.1 h1).1
 refine ⟨fun k => ?_, ?_⟩
 ·obtain ⟨j, hj, e⟩ := List.getElem_of_mem k
  rw [List.length_take] at hj
  rw [List.getElem_take] at e
  exact h2 j (by omega) (by rw [List.getElem?_eq_getElem (by omega), e])
 ·have e := (List.getElem?_eq_some_iff.1 h1).2
  have : l.drop i = l[i] :: l.drop (i + 1) := List.drop_eq_getElem_cons hi
  rw [e] at this
  rw [← this, List.take_append_drop]
theorem byte_no {b : UInt8} {l : List UInt8} (h : Lib.indexByte l b = -1) : b ∉ l := fun k => by
 obtain ⟨j, hj, e⟩ := List.getElem_of_mem k
 exact Lib.indexByte_none h j (by rw [List.getElem?_eq_getElem hj, e])
theorem byte_or (b : UInt8) (l : List UInt8) : Lib.indexByte l b = -1 ∨ ∃ i : Nat, Lib.indexByte l b = i := by
 have := Lib.indexByte_ge l b
 by_cases h : Lib.indexByte l b = -1
 ·exact .inl h
 ·exact .inr ⟨(Lib.indexByte l b).toNat, by omega⟩
/-- The library's parts are these. -/
theorem splitK_spl (b : UInt8) : ∀ (k : Nat) (l : List UInt8), l.count b ≤ k → Lib.splitK [b] 0 k l = splL b l
 | 0, l, h => by
  have : b ∉ l := List.count_eq_zero.1 (by omega)
  rw [splL_one this]; rfl
 | k + 1, l, h => by
  unfold Lib.splitK
  rw [Lib.index_one]
  rcases byte_or b l with c | ⟨i, c⟩
  ·rw [c, splL_one (byte_no c)]; rfl
  ·obtain ⟨h1, h2⟩ := byte_at c
   have e : (Lib.indexByte l b == -1) = false := by rw [beq_eq_false_iff_ne]; omega
   have hc : l.count b = 1 + (l.drop (i + 1)).count b := by
    conv => lhs; rw [h2]
    rw [List.count_append, List.count_eq_zero.2 h1, List.count_cons_self]; omega
   rw [e, c]
   show l.take (i + 0) :: Lib.splitK [b] 0 k (l.drop (i + 1)) = splL b l
   rw [splitK_spl b k _ (by omega), Nat.add_zero]
   conv => rhs; rw [h2]
   rw [splL_two h1]
abbrev sB (l : List UInt8) : ByteArray := ⟨l.toArray⟩
abbrev sV (l : List UInt8) : Value := .string (sB l)
theorem splitB_spl (b : UInt8) (l : List UInt8) : (Lib.splitB ⟨#[b]⟩ 0 (Lib.countB (sB l) ⟨#[b]⟩) (sB l)).map Value.string = (splL b l).map sV := by
 have h := Lib.splitB_data ⟨#[b]⟩ 0 (Lib.countB (sB l) ⟨#[b]⟩) (sB l)
 have e : Lib.countB (sB l) ⟨#[b]⟩ = l.count b := Lib.count_one b l
 have e2 : Lib.splitK (⟨#[b]⟩ : ByteArray).data.toList 0 (Lib.countB (sB l) ⟨#[b]⟩) (sB l).data.toList = splL b l := splitK_spl b _ l (by omega)
 rw [e2] at h
 rw [← h, List.map_map]
 refine List.map_congr_left fun x _ => ?_
 obtain ⟨⟨y⟩⟩ := x
 rfl
theorem splitB_len (b : UInt8) (l : List UInt8) : Lib.countB (sB l) ⟨#[b]⟩ + 1 = (splL b l).length := by
 have h := congrArg List.length (splitB_spl b l)
 rw [List.length_map, List.length_map, Lib.splitB_all ⟨#[b]⟩ (Nat.le_refl 1) 0 _ (sB l) rfl] at h
 exact h
theorem Split_any (b : UInt8) (l : List UInt8) (w : World) (hM : MaxL w) (hs : l.length ≤ 1048576) :
  Calls Tryd.prog 48 #[sV l, .string ⟨#[b]⟩] w fun e w' => ∃ v, e = .returned v ∧ True ∧ w'.ownsRow w.heap.size 9 1 v (splL b l).length ((splL b l).map sV) ∧ Over w w' := by
 refine (Split_lay (sB l) ⟨#[b]⟩ w hM (by rw [ba_size]; omega) (Nat.le_refl 1)).mono ?_
 rintro e w' ⟨rfl, rfl⟩
 have hsum := splL_sum b l
 rw [splitB_len, splitB_spl]
 refine ⟨_, rfl, trivial, ⟨by simp, .inr ⟨w.heap.size, _, _, rfl, Nat.le_refl _, heap_alloc_new w _, Nat.le_refl _, by unfold maxLen; omega, by simp, by rw [List.take_of_length_le] <;> simp⟩⟩, Over.alloc _ _⟩
theorem Cut_any (b : UInt8) (l : List UInt8) (w : World) (hM : MaxL w) (hs : l.length ≤ 1048576) :
  Calls Tryd.prog 76 #[sV l, .string ⟨#[b]⟩] w fun e w' => e = .returned (.tuple #[sV (Lib.cut l [b]).1, sV (Lib.cut l [b]).2.1, .bool (Lib.cut l [b]).2.2]) ∧ Over w w' := by
 refine (Cut_lay (sB l) ⟨#[b]⟩ w hM (by rw [ba_size]; omega)).mono ?_
 rintro e w' ⟨rfl, n, rfl⟩
 exact ⟨rfl, ⟨rfl, rfl, rfl, Nat.le_refl _, fun _ _ => rfl⟩⟩
theorem CutPrefix_any (l p : List UInt8) (w : World) :
  Calls Tryd.prog 61 #[sV l, sV p] w fun e w' => e = .returned (.tuple #[sV (Lib.trimPrefix l p), .bool (Lib.hasPrefix l p)]) ∧ Over w w' := by
 refine (CutPrefix_lay (sB l) (sB p) w).mono ?_
 rintro e w' ⟨rfl, rfl⟩
 exact ⟨rfl, Over.refl _⟩
/-! ### Numbers -/
def digB (b : UInt8) : Bool := decide (48 ≤ b.toNat) && decide (b.toNat ≤ 57)
/-- A number by its digits. -/
def numL : List UInt8 → Nat
 | l => l.foldl (fun a b => 10 * a + (b.toNat - 48)) 0
def numT (l : List UInt8) (k : Nat) : Nat := numL (l.take k)
theorem numT_succ {l : List UInt8} {k : Nat} (h : k < l.length) : numT l (k + 1) = 10 * numT l k + (l[k].toNat - 48) := by
 unfold numT numL
 rw [List.take_succ_eq_append_getElem h, List.foldl_append]
 rfl
theorem numT_lt {l : List UInt8} (hd : l.all digB = true) : ∀ k, k ≤ l.length → numT l k < 10 ^ k
 | 0, _ => by simp [numT, numL]
 | k + 1, h => by
  have ih := numT_lt hd k (by omega)
  have hb := List.all_eq_true.1 hd l[k] (List.getElem_mem _)
  unfold digB at hb
  rw [Bool.and_eq_true, decide_eq_true_iff, decide_eq_true_iff] at hb
  rw [numT_succ (by omega), Nat.pow_succ]
  omega
/-- A text without its sign; whether it bears one. -/
def barL : List UInt8 → List UInt8
 | [] => []
 | c :: t => if c = 45 then t else c :: t
def negB : List UInt8 → Bool
 | [] => false
 | c :: _ => decide (c = 45)
theorem bar_cons (c : UInt8) (t : List UInt8) : barL (c :: t) = if c = 45 then t else c :: t := rfl
theorem neg_cons (c : UInt8) (t : List UInt8) : negB (c :: t) = decide (c = 45) := rfl
theorem bar_len (l : List UInt8) : (barL l).length = l.length ∨ ((barL l).length + 1 = l.length) := by
 cases l with
 | nil => exact .inl rfl
 | cons c t =>
  rw [bar_cons]
  split
  ·exact .inr (by simp)
  ·exact .inl (by simp)
theorem pre_bar (l : List UInt8) : Lib.trimPrefix l [45] = barL l ∧ Lib.hasPrefix l [45] = negB l := by
 cases l with
 | nil => exact ⟨rfl, rfl⟩
 | cons c t =>
  rw [neg_cons, bar_cons]
  unfold Lib.trimPrefix Lib.hasPrefix
  by_cases h : c = 45
  ·subst h; simp [List.isPrefixOf]
  ·have : ((45 : UInt8) == c) = false := by rw [beq_eq_false_iff_ne]; exact fun k => h k.symm
   simp [List.isPrefixOf, this, h]
def valL (l : List UInt8) : Int := if negB l = true then -(numL (barL l) : Int) else (numL (barL l) : Int)
def okD (l : List UInt8) : Bool := (decide (1 ≤ (barL l).length) && decide ((barL l).length ≤ 18) && (barL l).all digB) && decide (decL (valL l) = l)
def decV (l : List UInt8) : Int := if okD l = true then valL l else 0
theorem num_all (l : List UInt8) : numL l = numT l l.length := by rw [numT, List.take_length]
theorem val_bd {l : List UInt8} (h : (barL l).length ≤ 18) (hd : (barL l).all digB = true) : numL (barL l) < 1000000000000000000 := by
 have := numT_lt hd _ (Nat.le_refl _)
 rw [← num_all] at this
 have : 10 ^ (barL l).length ≤ 10 ^ 18 := Nat.pow_le_pow_right (by decide) h
 omega
/-! ### Points, rows of points, regions -/
def txPt (l : List UInt8) : Option Pn := match splL 44 l with
 | [a, b] => if (okD a && okD b && okB (valL a) (valL b)) = true then some (valL a, valL b) else none
 | _ => none
/-- All of a list, or nothing. -/
def allO {α β : Type} (f : α → Option β) : List α → Option (List β)
 | [] => some []
 | a :: l => match f a, allO f l with
  | some b, some m => some (b :: m)
  | _, _ => none
theorem allO_len {α β : Type} {f : α → Option β} : ∀ {l : List α} {m : List β}, allO f l = some m → m.length = l.length
 | [], m, h => by simp [allO] at h; subst h; rfl
 | a :: l, m, h => by
  unfold allO at h
  split at h
  ·rename_i b r hb hr
   injection h with h
   subst h
   simp [allO_len hr]
  ·cases h
def txPts (l : List UInt8) : Option (List Pn) := allO txPt (splL 32 l)
theorem txPt_nil : txPt [] = none := rfl
/-- The program reads no text as no point. -/
def txPtsI (l : List UInt8) : Option (List Pn) := if l = [] then some [] else txPts l
theorem cut_no {b : UInt8} {l : List UInt8} (h : b ∉ l) : Lib.cut l [b] = (l, [], false) := by
 unfold Lib.cut
 rw [Lib.index_one]
 rcases byte_or b l with c | ⟨i, c⟩
 ·rw [c]; rfl
 ·exact (h (by rw [(byte_at c).2]; simp)).elim
theorem cut_two {b : UInt8} {p l : List UInt8} (h : b ∉ p) : Lib.cut (p ++ b :: l) [b] = (p, l, true) := by
 unfold Lib.cut
 rw [Lib.index_one]
 have e : Lib.indexByte (p ++ b :: l) b = (p.length : Int) := by
  induction p with
  | nil => simp [Lib.indexByte]
  | cons c p ih =>
   have hc : (c == b) = false := by rw [beq_eq_false_iff_ne]; exact fun k => h (by rw [k]; simp)
   have ih := ih fun k => h (List.mem_cons_of_mem _ k)
   rw [List.cons_append, Lib.indexByte, hc, ih]
   have : ((p.length : Int) == -1) = false := by rw [beq_eq_false_iff_ne]; omega
   rw [this]
   simp
 rw [e, if_pos (by omega)]
 simp
/-- A text is without the byte, or parted at its first one. -/
theorem cut_or (b : UInt8) (l : List UInt8) : b ∉ l ∨ ∃ p q, b ∉ p ∧ l = p ++ b :: q := by
 rcases byte_or b l with c | ⟨i, c⟩
 ·exact .inl (byte_no c)
 ·obtain ⟨h1, h2⟩ := byte_at c
  exact .inr ⟨_, _, h1, h2⟩
theorem dig_comma {l : List UInt8} (h : okD l = true) : (44 : UInt8) ∉ l := fun k => by
 unfold okD at h
 rw [Bool.and_eq_true, Bool.and_eq_true] at h
 have hd := h.1.2
 have key : ∀ x ∈ barL l, x ≠ 44 := fun x hx e => by
  have := List.all_eq_true.1 hd x hx
  rw [e] at this
  exact absurd this (by decide)
 cases l with
 | nil => cases k
 | cons c t =>
  rw [bar_cons] at key
  by_cases hc : c = 45
  ·rw [if_pos hc] at key
   rcases List.mem_cons.1 k with q | q
   ·rw [hc] at q; exact absurd q (by decide)
   ·exact key 44 q rfl
  ·rw [if_neg hc] at key
   exact key 44 k rfl
/-- What the program's cut gives. -/
theorem txPt_no {l : List UInt8} (h : (44 : UInt8) ∉ l) : txPt l = none := by unfold txPt; rw [splL_one h]
theorem txPt_cut {p q : List UInt8} (h : (44 : UInt8) ∉ p) : txPt (p ++ 44 :: q) = if (okD p && okD q && okB (valL p) (valL q)) = true then some (valL p, valL q) else none := by
 unfold txPt
 rw [splL_two h]
 rcases cut_or 44 q with c | ⟨q1, q2, c, rfl⟩
 ·rw [splL_one c]
 ·rw [splL_two c]
  have : okD (q1 ++ 44 :: q2) = false := by
   rw [Bool.eq_false_iff]
   intro k
   exact dig_comma k (by simp)
  rw [this]
  cases hs : splL 44 q2 with
  | nil => exact (splL_ne _ _ hs).elim
  | cons a t => simp
end Go.Proofs.YtjhaakollekjeaaDoor

namespace Go.Proofs.YtjhaakollekjeaaDoor
open Go Go.RowKit
set_option linter.unusedVariables false
set_option linter.unusedSimpArgs false
set_option maxRecDepth 100000
set_option maxHeartbeats 4000000
set_option linter.unusedVariables false
set_option linter.unusedSimpArgs false
section
variable {P : Program} {n : Nat} {env : List (Nat × Value)} {w0 : Bs} {Rs : List Res} {o : Oper} {x y z : Operand} {T T' : TypeId} {l m : List UInt8} {i j : Nat}
theorem qt_lenL (ho : o.op = .call { callee := .builtin .len, args := #[x], argTypes := #[T] }) (hx : ev env x = some (sV l)) (hT : P.underlying T = some .string) : Qt P o n env w0 Rs (.int .i64 (l.length : Int)) :=
 qt_of fun a w hf _ => by
  have h := run_len_string (P := P) w T o.type (sB l) hT
  unfold execOp
  simp only [ho]
  simp [resolve, invoke, builtin, hf.ev hx, h, goInt, ba_size]
theorem qt_idxL (ho : o.op = .index T x y) (hx : ev env x = some (sV l)) (hy : ev env y = some (.int .i64 (j : Int))) (hT : P.underlying T = some .string) (hj : j < l.length) : Qt P o n env w0 Rs (u8V l[j]) :=
 qt_of fun a w hf _ => by
  have h := run_index_string (P := P) w T (sB l) .i64 (j : Int) hT
  rw [dif_pos ⟨by omega, by rw [ba_size]; omega⟩] at h
  unfold execOp
  simp only [ho, hf.ev hx, hf.ev hy]
  simp [h]
  rfl
theorem ba_ext (l : List UInt8) (i j : Nat) : (sB l).extract i j = sB ((l.drop i).take (j - i)) := by
 apply ByteArray.ext
 rw [ByteArray.data_extract]
 simp
theorem qt_toL (ho : o.op = .slice T x none (some y) none) (hx : ev env x = some (sV l)) (hy : ev env y = some (.int .i64 (j : Int))) (hT : P.underlying T = some .string) (hj : j ≤ l.length) : Qt P o n env w0 Rs (sV (l.take j)) :=
 qt_of fun a w hf _ => by
  have h := run_slice_string_h (P := P) w T (sB l) hT .i64 (j : Int) (by omega) (by rw [ba_size]; omega)
  rw [Int.toNat_natCast, ba_ext, List.drop_zero, Nat.sub_zero] at h
  unfold execOp
  simp only [ho, hf.ev hx, hf.ev hy, Option.map_some, Option.map_none]
  simp [run_sliceAt_string (P := P) w T _ _ _ _ hT, h]
theorem ba_list (l : List UInt8) : (sB l).toList = l := ByteArray.toList_mk l
theorem qt_neqL (ho : o.op = .binOp .neq T x y T') (hx : ev env x = some (sV l)) (hy : ev env y = some (sV m)) : Qt P o n env w0 Rs (.bool (!decide (l = m))) :=
 (qt_neqStr ho hx hy).as (by rw [ba_list, ba_list]; congr 1; by_cases h : l = m <;> simp [h])
theorem qt_eqlL (ho : o.op = .binOp .eql T x y T') (hx : ev env x = some (sV l)) (hy : ev env y = some (sV m)) : Qt P o n env w0 Rs (.bool (decide (l = m))) :=
 qt_of fun ac w hf _ => by
  unfold execOp
  simp only [ho, hf.ev hx, hf.ev hy]
  simp only [go_sem, Op.stringOp]
  rw [ba_list, ba_list]
  by_cases h : l = m <;> simp [h]
theorem qt_neq8 {b : UInt8} (c : UInt8) (ho : o.op = .binOp .neq T x y T') (hx : ev env x = some (u8V b)) (hy : ev env y = some (u8V c)) : Qt P o n env w0 Rs (.bool (!decide (b = c))) :=
 qt_of fun a w hf _ => by
  unfold execOp; simp only [ho, hf.ev hx, hf.ev hy]; simp [go_sem]
  by_cases h : b = c
  ·simp [h]
  ·have : ¬ ((b.toNat : Int) = (c.toNat : Int)) := fun k => h (UInt8.toNat_inj.1 (by omega))
   simp [h, this]
theorem qt_geq8 {b : UInt8} {c : Int} (ho : o.op = .binOp .geq T x y T') (hx : ev env x = some (u8V b)) (hy : ev env y = some (.int .u8 c)) : Qt P o n env w0 Rs (.bool (decide (c ≤ (b.toNat : Int)))) :=
 qt_of fun a w hf _ => by unfold execOp; simp only [ho, hf.ev hx, hf.ev hy]; simp [go_sem]
theorem qt_leq8 {b : UInt8} {c : Int} (ho : o.op = .binOp .leq T x y T') (hx : ev env x = some (u8V b)) (hy : ev env y = some (.int .u8 c)) : Qt P o n env w0 Rs (.bool (decide ((b.toNat : Int) ≤ c))) :=
 qt_of fun a w hf _ => by unfold execOp; simp only [ho, hf.ev hx, hf.ev hy]; simp [go_sem]
theorem qt_sub8 {b : UInt8} {c : Nat} (ho : o.op = .binOp .sub T x y T') (hx : ev env x = some (u8V b)) (hy : ev env y = some (.int .u8 (c : Int))) (h : c ≤ b.toNat) : Qt P o n env w0 Rs (.int .u8 ((b.toNat - c : Nat) : Int)) :=
 qt_of fun a w hf _ => by
  have hb := b.toNat_lt
  have e : IntKind.u8.wrap ((b.toNat : Int) - (c : Int)) = ((b.toNat - c : Nat) : Int) := by simp [IntKind.wrap, IntKind.bits, IntKind.signed]; omega
  unfold execOp; simp only [ho, hf.ev hx, hf.ev hy]; simp [go_sem, e]
end
theorem dig_iff (b : UInt8) : digB b = (decide ((48 : Int) ≤ (b.toNat : Int)) && decide ((b.toNat : Int) ≤ 57)) := by
 unfold digB
 rw [Bool.eq_iff_iff, Bool.and_eq_true, Bool.and_eq_true, decide_eq_true_iff, decide_eq_true_iff, decide_eq_true_iff, decide_eq_true_iff]
 omega
theorem isDigit_any (b : UInt8) (w : World) : Calls Tryd.prog 99 #[u8V b] w fun e w' => e = .returned (.bool (digB b)) ∧ Over w w' := by
 refine walk_from (m := 9) (Tryd.func99) rfl rfl (Nat.le_of_ble_eq_true rfl) ?_
 refine at_seq ?_
 refine at_region ?_
 refine at_q rfl rfl (by decide) (qt_assign rfl rfl) ?_
 refine at_end ?_
 refine at_seq ?_
 refine at_region ?_
 refine at_q rfl rfl (by decide) (qt_move rfl rfl) ?_
 refine at_q rfl rfl (by decide) (qt_geq8 rfl rfl rfl) ?_
 refine at_q rfl rfl (by decide) (qt_move rfl rfl) ?_
 refine at_bsplit 5 rfl (fun g1 => ?_) (fun g1 => ?_)
 ·try simp only [za,zb,zc,zd,ze,zf,Bool.not_true,Bool.not_false,zg,zh,ne_eq,zi,zj] at g1
  refine at_on rfl rfl rfl rfl ?_
  refine op_q rfl (by decide) (qt_move rfl rfl) ?_
  refine at_on rfl rfl rfl rfl ?_
  refine op_q rfl (by decide) (qt_leq8 rfl rfl rfl) ?_
  refine at_q rfl rfl (by decide) (qt_pickT rfl rfl rfl) ?_
  refine at_q rfl rfl (by decide) (qt_assign rfl rfl) ?_
  refine at_end ?_
  refine at_retc ?_
  refine at_ret1 rfl (.tmp rfl) ?_
  intro w' hs
  exact ⟨by rw [dig_iff]; first | (rw [decide_eq_true g1]; rfl) | (rw [decide_eq_false (show ¬ (48 : Int) ≤ (b.toNat : Int) by omega)]; rfl), hs.fin⟩
 ·try simp only [za,zb,zc,zd,ze,zf,Bool.not_true,Bool.not_false,zg,zh,ne_eq,zi,zj] at g1
  refine at_off rfl rfl rfl rfl (by decide) rfl (by decide) ?_
  refine at_off rfl rfl rfl rfl (by decide) rfl (by decide) ?_
  refine at_q rfl rfl (by decide) (qt_pickF rfl rfl rfl) ?_
  refine at_q rfl rfl (by decide) (qt_assign rfl rfl) ?_
  refine at_end ?_
  refine at_retc ?_
  refine at_ret1 rfl (.tmp rfl) ?_
  intro w' hs
  exact ⟨by rw [dig_iff]; first | (rw [decide_eq_true g1]; rfl) | (rw [decide_eq_false (show ¬ (48 : Int) ≤ (b.toNat : Int) by omega)]; rfl), hs.fin⟩
end Go.Proofs.YtjhaakollekjeaaDoor
