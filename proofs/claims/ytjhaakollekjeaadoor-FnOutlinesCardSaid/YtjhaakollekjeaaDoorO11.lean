import Derived.Test.YtjhaakollekjeaaDoorO9
namespace Go.Proofs.YtjhaakollekjeaaDoor
open Go Go.RowKit
set_option linter.unusedVariables false
set_option linter.unusedSimpArgs false

/-- The index of the next point. -/
def nx (xs : List (Int × Int)) (k : Nat) : Nat := (k + 1) % xs.length
theorem nx_lt {xs : List (Int × Int)} (k : Nat) (h : 0 < xs.length) : nx xs k < xs.length := Nat.mod_lt _ h

def crossAt (xs : List (Int × Int)) (k : Nat) : Int := px xs k * py xs (nx xs k) - py xs k * px xs (nx xs k)
def twiceTo (xs : List (Int × Int)) : Nat → Int
 | 0 => 0
 | k + 1 => twiceTo xs k + crossAt xs k

theorem ok_at {xs : List (Int × Int)} (h : allOk xs = true) {k : Nat} (hk : k < xs.length) : -262144 ≤ px xs k ∧ px xs k ≤ 262144 ∧ -262144 ≤ py xs k ∧ py xs k ≤ 262144 := by
 have := List.all_eq_true.1 h xs[k] (List.getElem_mem hk)
 rw [at_p hk] at this
 simp [okB, inB] at this
 omega

theorem crossAt_bd {xs : List (Int × Int)} (h : allOk xs = true) {k : Nat} (hk : k < xs.length) : -137438953472 ≤ crossAt xs k ∧ crossAt xs k ≤ 137438953472 := by
 obtain ⟨a1, a2, a3, a4⟩ := ok_at h hk
 obtain ⟨b1, b2, b3, b4⟩ := ok_at h (nx_lt k (show 0 < xs.length by omega))
 have := mul_bd a1 a2 b3 b4
 have := mul_bd a3 a4 b1 b2
 unfold crossAt
 omega
theorem twiceTo_bd {xs : List (Int × Int)} (h : allOk xs = true) : ∀ k : Nat, k ≤ xs.length → -(k * 137438953472 : Int) ≤ twiceTo xs k ∧ twiceTo xs k ≤ k * 137438953472
 | 0, _ => by simp [twiceTo]
 | k + 1, hk => by
  have h1 := twiceTo_bd h k (by omega)
  have h2 := crossAt_bd h (show k < xs.length by omega)
  simp only [twiceTo]
  have : ((k + 1 : Nat) : Int) * 137438953472 = (k : Int) * 137438953472 + 137438953472 := by rw [Int.natCast_add, Int.add_mul]; rfl
  omega

theorem nx_int {xs : List (Int × Int)} {n : Nat} (hl : xs.length = n) (k : Nat) : ((k : Int) + 1) % (n : Int) = ((nx xs k : Nat) : Int) := by
 unfold nx
 rw [hl]
 simp

set_option maxHeartbeats 1000000 in
theorem l14Twice_any (A : Option Addr) (n c : Nat) (xs : List (Int × Int)) (w : World) (h : Pts w A n xs) (hn : (n : Int) ≤ 1048576) (hok : allOk xs = true) :
  Calls Tryd.prog 44 #[.slice A n c] w fun e w' => e = .returned (.int .i64 (twiceTo xs n)) ∧ Over w w' := by
 go_enter Tryd.func44, Tryd.ntmps44
 go_wp2
 go_loopw [3, 4] (fun s i wr => ∃ k : Nat, k ≤ n ∧ i = .int .i64 k ∧ s = .int .i64 (twiceTo xs k) ∧ Over w wr) (fun _ i _ => n - (intOf i).toNat)
 case atStart => exact ⟨0, Nat.zero_le _, rfl, rfl, Over.refl _⟩
 case round =>
  rename_i wr
  obtain ⟨k, hk, rfl, rfl, hb⟩ := hrel
  by_cases hlt : k < n
  ·have hl := h.1
   obtain ⟨b, o, rfl, hbB, hc1, hc2⟩ := (h.over hb).at_ hlt
   obtain ⟨b', o', e, hbB', hc1', hc2'⟩ := (h.over hb).at_ (k := nx xs k) (by have := nx_lt (xs := xs) k (by omega); omega)
   injection e with e
   injection e with e1 e2 _
   subst e1 e2
   obtain ⟨a1, a2, a3, a4⟩ := ok_at hok (show k < xs.length by omega)
   obtain ⟨b1, b2, b3, b4⟩ := ok_at hok (nx_lt k (show 0 < xs.length by omega))
   obtain ⟨m1, m1'⟩ := mul_bd a1 a2 b3 b4
   obtain ⟨m2, m2'⟩ := mul_bd a3 a4 b1 b2
   obtain ⟨t1, t2⟩ := twiceTo_bd hok k (by omega)
   have hnx := nx_int hl k
   have hnl := nx_lt k (show 0 < xs.length by omega)
   have hs : Hid (twiceTo xs (k + 1) = twiceTo xs k + (px xs k * py xs (nx xs k) - py xs k * px xs (nx xs k))) := rfl
   rw [hl] at hnl
   clear h hl
   go_wp2
   exact ⟨⟨k + 1, by omega, by go_num, by rw [hs.out], (by repeat (first | exact Over.refl _ | (with_reducible assumption) | refine Over.alloc_ ?_ _ | refine Over.trans ?_ (by with_reducible assumption) | refine Over.drew_ ?_ | refine Over.set_ ?_ (by simp; try omega) _))⟩, by simp [intOf]; omega⟩
  ·clear h
   have hkn : k = n := by omega
   subst hkn
   go_wp2
   go_ret
   exact ⟨rfl, hb⟩
structure Leg where
 ax : Int
 ay : Int
 bx : Int
 b_y : Int
 deriving DecidableEq
def legCells (l : Leg) : List Value := [.int .i64 l.ax, .int .i64 l.ay, .int .i64 l.bx, .int .i64 l.b_y]
def lg (ls : List Leg) (k : Nat) : Leg := ls.getD k ⟨0, 0, 0, 0⟩
theorem at_l {ls : List Leg} {k : Nat} (h : k < ls.length) : ls[k] = lg ls k := by simp [lg, List.getD, List.getElem?_eq_getElem h]

/-- A slice of edges that reads as the list ls. -/
def Legs (w : World) (A : Option Addr) (n : Nat) (ls : List Leg) : Prop :=
 ls.length = n ∧ (0 < n → ∃ b o, A = some ⟨b, o, none⟩ ∧ b < w.heap.size ∧ ∀ k, k < n → w.cell? ⟨b, o + k * 4, none⟩ = some (.int .i64 (lg ls k).ax) ∧ w.cell? ⟨b, o + k * 4 + 1, none⟩ = some (.int .i64 (lg ls k).ay) ∧
  w.cell? ⟨b, o + k * 4 + 2, none⟩ = some (.int .i64 (lg ls k).bx) ∧ w.cell? ⟨b, o + k * 4 + 3, none⟩ = some (.int .i64 (lg ls k).b_y))
theorem Legs.over {w w' : World} {A : Option Addr} {n : Nat} {ls : List Leg} (h : Legs w A n ls) (hb : Over w w') : Legs w' A n ls := by
 refine ⟨h.1, fun hn => ?_⟩
 obtain ⟨b, o, hA, hlt, hc⟩ := h.2 hn
 exact ⟨b, o, hA, Nat.lt_of_lt_of_le hlt hb.size, fun k hk => ⟨((ocell hb).1 b _ hlt).trans (hc k hk).1, ((ocell hb).1 b _ hlt).trans (hc k hk).2.1, ((ocell hb).1 b _ hlt).trans (hc k hk).2.2.1, ((ocell hb).1 b _ hlt).trans (hc k hk).2.2.2⟩⟩
theorem Legs.at_ {w : World} {A : Option Addr} {n k : Nat} {ls : List Leg} (h : Legs w A n ls) (hk : k < n) :
  ∃ b o, A = some ⟨b, o, none⟩ ∧ b < w.heap.size ∧ w.cell? ⟨b, o + k * 4, none⟩ = some (.int .i64 (lg ls k).ax) ∧ w.cell? ⟨b, o + k * 4 + 1, none⟩ = some (.int .i64 (lg ls k).ay) ∧
  w.cell? ⟨b, o + k * 4 + 2, none⟩ = some (.int .i64 (lg ls k).bx) ∧ w.cell? ⟨b, o + k * 4 + 3, none⟩ = some (.int .i64 (lg ls k).b_y) := by
 obtain ⟨b, o, hA, hb, hc⟩ := h.2 (by omega)
 exact ⟨b, o, hA, hb, hc k hk⟩

/-- The j-th cell of the k-th of a list of rows of equal length. -/
theorem flat_at {α : Type} (f : α → List Value) (m : Nat) (hf : ∀ a, (f a).length = m) : ∀ (ls : List α) (k j : Nat) (hk : k < ls.length), j < m → (ls.flatMap f)[k * m + j]? = (f ls[k])[j]?
 | [], _, _, h, _ => absurd h (by simp)
 | a :: r, 0, j, _, hj => by
  rw [List.flatMap_cons, Nat.zero_mul, Nat.zero_add, List.getElem?_append_left (by rw [hf]; exact hj)]
  rfl
 | a :: r, k + 1, j, h, hj => by
  rw [List.flatMap_cons, List.getElem?_append_right (by rw [hf, Nat.add_mul]; omega), hf]
  have := flat_at f m hf r k j (by simpa using h) hj
  rw [show (k + 1) * m + j - m = k * m + j by rw [Nat.add_mul]; omega, this]
  rfl
theorem flat_len {α : Type} (f : α → List Value) (m : Nat) (hf : ∀ a, (f a).length = m) : ∀ (ls : List α), (ls.flatMap f).length = ls.length * m
 | [] => by simp
 | a :: r => by rw [List.flatMap_cons, List.length_append, hf, flat_len f m hf r, List.length_cons, Nat.add_mul]; omega

theorem legs_of_row {w : World} {B T n : Nat} {v : Value} {ls : List Leg} (h : w.ownsRow B T 4 v n (ls.flatMap legCells)) (hn : ls.length = n) : ∃ A c, v = .slice A n c ∧ Legs w A n ls ∧ n ≤ c := by
 have hcs : ∀ g, v.ownBlock = some g → _ := fun g hg => h.cells hg
 rcases h.2 with ⟨rfl, rfl⟩ | ⟨g, cap, cur, rfl, hb, hg, hcap, _⟩
 ·exact ⟨none, 0, rfl, ⟨hn, fun h => absurd h (by omega)⟩, by omega⟩
 ·refine ⟨_, _, rfl, ⟨hn, fun _ => ⟨g, 0, rfl, (h.lt g rfl).2, fun k hk => ?_⟩⟩, hcap⟩
  have hc := hcs g rfl
  have hk' : k < ls.length := by omega
  have hat := fun j hj => flat_at legCells 4 (fun _ => rfl) ls k j hk' hj
  have hadd : ∀ j, (⟨g, 0, none⟩ : Addr).add j = ⟨g, j, none⟩ := fun j => by unfold Addr.add; split <;> simp_all
  rw [at_l hk'] at hat
  rw [Nat.zero_add]
  have c0 := hc (k * 4 + 0) _ (hat 0 (by omega))
  have c1 := hc (k * 4 + 1) _ (hat 1 (by omega))
  have c2 := hc (k * 4 + 2) _ (hat 2 (by omega))
  have c3 := hc (k * 4 + 3) _ (hat 3 (by omega))
  rw [hadd] at c0 c1 c2 c3
  exact ⟨c0, c1, c2, c3⟩

def legAt (xs : List (Int × Int)) (k : Nat) : Leg := ⟨px xs k, py xs k, px xs (nx xs k), py xs (nx xs k)⟩
def samePt (xs : List (Int × Int)) (k : Nat) : Bool := px xs k == px xs (nx xs k) && py xs k == py xs (nx xs k)
def edgesTo (xs : List (Int × Int)) : Nat → List Leg
 | 0 => []
 | k + 1 => if samePt xs k = true then edgesTo xs k else edgesTo xs k ++ [legAt xs k]
theorem edgesTo_succ (xs : List (Int × Int)) (k : Nat) : edgesTo xs (k + 1) = if px xs k = px xs (nx xs k) ∧ py xs k = py xs (nx xs k) then edgesTo xs k else edgesTo xs k ++ [⟨px xs k, py xs k, px xs (nx xs k), py xs (nx xs k)⟩] := by
 simp [edgesTo, samePt, legAt]
def edgesR (xs : List (Int × Int)) : List Leg := edgesTo xs xs.length
theorem edgesTo_len (xs : List (Int × Int)) : ∀ k, (edgesTo xs k).length ≤ k
 | 0 => by simp [edgesTo]
 | k + 1 => by
  have := edgesTo_len xs k
  simp only [edgesTo]
  split
  ·omega
  ·simp; omega

def legCross (l : Leg) : Int := l.ax * l.b_y - l.ay * l.bx
def legSum : List Leg → Int
 | [] => 0
 | l :: r => legCross l + legSum r
theorem legSum_append : ∀ a b : List Leg, legSum (a ++ b) = legSum a + legSum b
 | [], b => by simp [legSum]
 | x :: a, b => by simp only [List.cons_append, legSum, legSum_append a b]; omega
theorem legSum_edges (xs : List (Int × Int)) : ∀ k, legSum (edgesTo xs k) = twiceTo xs k
 | 0 => rfl
 | k + 1 => by
  simp only [edgesTo, twiceTo]
  have ih := legSum_edges xs k
  split
  ·rename_i h
   simp [samePt] at h
   rw [ih, crossAt, ← h.1, ← h.2, Int.mul_comm (py xs k)]
   omega
  ·rw [legSum_append, ih]
   simp [legSum, legCross, legAt, crossAt]

def legOk (l : Leg) : Prop := (-262144 ≤ l.ax ∧ l.ax ≤ 262144) ∧ (-262144 ≤ l.ay ∧ l.ay ≤ 262144) ∧ (-262144 ≤ l.bx ∧ l.bx ≤ 262144) ∧ (-262144 ≤ l.b_y ∧ l.b_y ≤ 262144)
theorem legCross_bd {l : Leg} (h : legOk l) : -137438953472 ≤ legCross l ∧ legCross l ≤ 137438953472 := by
 obtain ⟨⟨a1, a2⟩, ⟨a3, a4⟩, ⟨b1, b2⟩, b3, b4⟩ := h
 have := mul_bd a1 a2 b3 b4
 have := mul_bd a3 a4 b1 b2
 unfold legCross
 omega
theorem legSum_bd : ∀ ls : List Leg, (∀ l ∈ ls, legOk l) → -(ls.length * 137438953472 : Int) ≤ legSum ls ∧ legSum ls ≤ ls.length * 137438953472
 | [], _ => by simp [legSum]
 | l :: r, h => by
  have h1 := legCross_bd (h l (by simp))
  have h2 := legSum_bd r (fun x hx => h x (by simp [hx]))
  simp only [legSum, List.length_cons]
  have : ((r.length + 1 : Nat) : Int) * 137438953472 = (r.length : Int) * 137438953472 + 137438953472 := by rw [Int.natCast_add, Int.add_mul]; rfl
  omega
theorem edgesTo_ok {xs : List (Int × Int)} (h : allOk xs = true) : ∀ k, k ≤ xs.length → ∀ l ∈ edgesTo xs k, legOk l
 | 0, _, l, hl => by simp [edgesTo] at hl
 | k + 1, hk, l, hl => by
  have ih := edgesTo_ok h k (by omega)
  simp only [edgesTo] at hl
  split at hl
  ·exact ih l hl
  ·rcases List.mem_append.1 hl with h1 | h1
   ·exact ih l h1
   ·simp at h1
    subst h1
    obtain ⟨a1, a2, a3, a4⟩ := ok_at h (show k < xs.length by omega)
    obtain ⟨b1, b2, b3, b4⟩ := ok_at h (nx_lt k (show 0 < xs.length by omega))
    exact ⟨⟨a1, a2⟩, ⟨a3, a4⟩, ⟨b1, b2⟩, b3, b4⟩

theorem row_over {w w' : World} {B T s n : Nat} {v : Value} {xs : List Value} (h : w.ownsRow B T s v n xs) (ho : Over w w') : w'.ownsRow B T s v n xs := by
 refine ⟨h.1, ?_⟩
 rcases h.2 with hn | ⟨g, cap, cur, rfl, hb, hgg, rest⟩
 ·exact .inl hn
 ·refine .inr ⟨g, cap, cur, rfl, hb, ?_, rest⟩
  rw [ho.out.block g (Array.getElem?_eq_some_iff.1 hgg).1]
  exact hgg
theorem row_low {w : World} {B B' T s n : Nat} {v : Value} {xs : List Value} (h : w.ownsRow B T s v n xs) (hB : B' ≤ B) : w.ownsRow B' T s v n xs := by
 refine ⟨h.1, ?_⟩
 rcases h.2 with hn | ⟨g, cap, cur, rfl, hb, rest⟩
 ·exact .inl hn
 ·exact .inr ⟨g, cap, cur, rfl, by omega, rest⟩
/-- Behind an append to a row of the call's own. -/
theorem over_grown {w0 wr w4 w1 : World} {B T s n : Nat} {v : Value} {xs : List Value} (h0 : Over w0 wr) (hown : wr.ownsRow B T s v n xs) (hB : w0.heap.size ≤ B) (ho : Over wr w4) (hg : w4.grownBy w1 v.ownBlock) : Over w0 w1 :=
 Below.grown (h0.trans ho).out hg (h0.trans ho).size (fun k hk => Nat.le_trans hB ((hown.lt k hk).1))
theorem one_cells {w w1 : World} {T : Nat} {news : List Value} (hw1 : w1 = w.alloc (.cells news.toArray T)) : ∀ j u, news[j]? = some u → w1.cell? ((⟨w.heap.size, 0, none⟩ : Addr).add j) = some u := by
 intro j u hj
 have hadd : (⟨w.heap.size, 0, none⟩ : Addr).add j = ⟨w.heap.size, j, none⟩ := by unfold Addr.add; split <;> simp_all
 rw [hadd, hw1, cell_new]
 simpa using hj

theorem legInfo : (Tryd.prog.info? 142).map (fun i => (i.zero, i.size, i.bytes)) = some (some (.agg #[.int .i64 0, .int .i64 0, .int .i64 0, .int .i64 0]), 4, 32) := by kernel_rfl

set_option maxHeartbeats 2000000 in
set_option maxRecDepth 100000 in
theorem edgesOfRing_any (A : Option Addr) (n c : Nat) (xs : List (Int × Int)) (w : World) (h : Pts w A n xs) (hn : (n : Int) ≤ 1048577) :
  Calls Tryd.prog 51 #[ringV A n c] w fun e w' => ∃ v, e = .returned v ∧ w'.ownsRow w.heap.size 142 4 v (edgesR xs).length ((edgesR xs).flatMap legCells) ∧ Over w w' := by
 obtain ⟨i0, hi, hz0, hz1, hz2⟩ := info_parts2 legInfo
 go_enter Tryd.func51, Tryd.ntmps51
 go_wp2
 go_loopw [3, 10] (fun s i wr => ∃ k : Nat, k ≤ n ∧ i = .int .i64 k ∧ wr.ownsRow (w.heap.size + 1) 142 4 s (edgesTo xs k).length ((edgesTo xs k).flatMap legCells) ∧ Over (w.alloc (.cells #[.slice A n c] 66)) wr) (fun _ i _ => n - (intOf i).toNat)
 case atStart => exact ⟨0, Nat.zero_le _, rfl, World.ownsRow_nil _ _ _ _, Over.refl _⟩
 case round =>
  rename_i wr
  have hl0 := h.1
  obtain ⟨k, hk, rfl, hown, hb⟩ := hrel
  by_cases hlt : k < n
  ·have hl := h.1
   have hO : Over w wr := (Over.alloc _ _).trans hb
   obtain ⟨b, o, rfl, hbB, hc1, hc2⟩ := (h.over hO).at_ hlt
   obtain ⟨b', o', e, hbB', hc1', hc2'⟩ := (h.over hO).at_ (k := nx xs k) (by have := nx_lt (xs := xs) k (by omega); omega)
   injection e with e
   injection e with e1 e2 _
   subst e1 e2
   have hnx : ((k : Int) + 1).tmod (n : Int) = ((nx xs k : Nat) : Int) := by rw [Int.tmod_eq_emod_of_nonneg (by omega)]; exact nx_int hl k
   have hnl := nx_lt k (show 0 < xs.length by omega)
   have hbx : wr.cell? ⟨w.heap.size, 0, none⟩ = some (.slice (some ⟨b, o, none⟩) n c) := by
    rw [(ocell hb).1 _ _ (by simp)]
    exact cell_new _ _ _ _
   have hbz : w.heap.size < wr.heap.size := Nat.lt_of_lt_of_le (by simp) (Over.size hb)
   rw [hl] at hnl
   have hn0 : ¬ n = 0 := by omega
   have Hown := Lib.hid hown
   have Hb := Lib.hid hb
   have hs := Lib.hid (edgesTo_succ xs k)
   generalize px xs k = x at hc1 hs
   generalize py xs k = y at hc2 hs
   generalize px xs (nx xs k) = x' at hc1' hs
   generalize py xs (nx xs k) = y' at hc2' hs
   clear h hl hO hown hb
   go_wp2
   refine wp_region_O (B := ob _) (Over.refl _) (by kernel_rfl) (by simp only [List.size_toArray, List.length_cons, List.length_nil, Nat.reduceAdd]; rfl) (fun hBW => ?_)
   refine wpAnyO_take (i := 0) (v := _) (by assumption) (by simp only [xa,xb]; rfl) (by kernel_rfl) (by kernel_rfl) (by kernel_rfl) (by exact fun _ _ _ h => h) (by kernel_rfl) (fun wx hS => by (obtain ⟨hc, hf⟩ := ocell hS; clear hS; go_simp; (try go_bits); exact ⟨rfl, Over.refl _⟩)) ?_
   simp only [Act.put,xd,yc,yd]
   refine wpAnyO_take (i := 1) (v := _) (by assumption) (by simp only [xa,xb,xc]; rfl) (by kernel_rfl) (by kernel_rfl) (by kernel_rfl) (by exact fun _ _ _ h => h) (by kernel_rfl) (fun wx hS => by (obtain ⟨hc, hf⟩ := ocell hS; clear hS; go_simp; (try go_bits); exact ⟨rfl, Over.refl _⟩)) ?_
   simp only [Act.put,xd,yc,yd]
   refine wpAnyO_take (i := 2) (v := _) (by assumption) (by simp only [xa,xb,xc]; rfl) (by kernel_rfl) (by kernel_rfl) (by kernel_rfl) (by exact fun _ _ _ h => h) (by kernel_rfl) (fun wx hS => by (obtain ⟨hc, hf⟩ := ocell hS; clear hS; go_simp; (try go_bits); exact ⟨rfl, Over.refl _⟩)) ?_
   simp only [Act.put,xd,yc,yd]
   refine wpAnyO_take (i := 3) (v := _) (by assumption) (by simp only [xa,xb,xc]; rfl) (by kernel_rfl) (by kernel_rfl) (by kernel_rfl) (by exact fun _ _ _ h => h) (by kernel_rfl) (fun wx hS => by (obtain ⟨hc, hf⟩ := ocell hS; clear hS; go_simp; (try go_bits); exact ⟨rfl, Over.refl _⟩)) ?_
   simp only [Act.put,xd,yc,yd]
   refine wpAnyO_take (i := 4) (v := _) (by assumption) (by simp only [xa,xb,xc]; rfl) (by kernel_rfl) (by kernel_rfl) (by kernel_rfl) (by exact fun _ _ _ h => h) (by kernel_rfl) (fun wx hS => by (obtain ⟨hc, hf⟩ := ocell hS; clear hS; go_simp; (try go_bits); exact ⟨rfl, Over.refl _⟩)) ?_
   simp only [Act.put,xd,yc,yd]
   refine wpAnyO_take (i := 5) (v := _) (by assumption) (by simp only [xa,xb,xc]; rfl) (by kernel_rfl) (by kernel_rfl) (by kernel_rfl) (by exact fun _ _ _ h => h) (by kernel_rfl) (fun wx hS => by (obtain ⟨hc, hf⟩ := ocell hS; clear hS; go_simp; (try go_bits); exact ⟨rfl, Over.refl _⟩)) ?_
   simp only [Act.put,xd,yc,yd]
   refine wpAnyO_take (i := 6) (v := _) (by assumption) (by simp only [xa,xb,xc]; rfl) (by kernel_rfl) (by kernel_rfl) (by kernel_rfl) (by exact fun _ _ _ h => h) (by kernel_rfl) (fun wx hS => by (obtain ⟨hc, hf⟩ := ocell hS; clear hS; go_simp; (try go_bits); exact ⟨rfl, Over.refl _⟩)) ?_
   simp only [Act.put,xd,yc,yd]
   refine wpAnyO_take (i := 7) (v := _) (by assumption) (by simp only [xa,xb,xc]; rfl) (by kernel_rfl) (by kernel_rfl) (by kernel_rfl) (by exact fun _ _ _ h => h) (by kernel_rfl) (fun wx hS => by (obtain ⟨hc, hf⟩ := ocell hS; clear hS; go_simp; (try go_bits); exact ⟨rfl, Over.refl _⟩)) ?_
   simp only [Act.put,xd,yc,yd]
   refine wpAnyO_take (i := 8) (v := _) (by assumption) (by simp only [xa,xb,xc]; rfl) (by kernel_rfl) (by kernel_rfl) (by kernel_rfl) (by exact fun _ _ _ h => h) (by kernel_rfl) (fun wx hS => by (obtain ⟨hc, hf⟩ := ocell hS; clear hS; go_simp; (try go_bits); exact ⟨rfl, Over.refl _⟩)) ?_
   simp only [Act.put,xd,yc,yd]
   refine wpAnyO_take (i := 9) (v := _) (by assumption) (by simp only [xa,xb,xc]; rfl) (by kernel_rfl) (by kernel_rfl) (by kernel_rfl) (by exact fun _ _ _ h => h) (by kernel_rfl) (fun wx hS => by (obtain ⟨hc, hf⟩ := ocell hS; clear hS; go_simp; (try go_bits); exact ⟨rfl, Over.refl _⟩)) ?_
   simp only [Act.put,xd,yc,yd]
   refine wpAnyO_new1 (i := 10) (k := 11) (by assumption) (by simp only [xa,xb,xc]; rfl) (by simp only [xa,xb,xc]; rfl) (by rfl) (by rfl) (by rfl) (by rfl) (by rfl) (by rfl) (fun _ => by (go_simp; rfl)) (by kernel_rfl) (by kernel_rfl) (fun _ => by rfl) (fun _ => by rfl) (by kernel_rfl) (by rfl) (by simp [Value.oneCell']) ?_
   intro w2 q1 ho hq1 hl1 hh1 hBx
   replace hBW := hBx; clear hBx
   simp only [Act.put,xd,yc,yd]
   obtain ⟨k1, k2, k3, k4⟩ := two_cells hh1
   refine wpAnyO_done (by kernel_rfl) (fun w3 h3 => ?_) _
   try clear hBW
   have hO := ho.trans h3
   have l1 := ((ocell h3).1 q1 0 hl1).trans k1
   have l2 := ((ocell h3).1 q1 1 hl1).trans k2
   have hl3 : q1 < w3.heap.size := Nat.lt_of_lt_of_le hl1 h3.size
   clear k1 k2 k3 k4 ho h3 hh1
   obtain ⟨hc, hf⟩ := ocell hO
   have HO := Lib.hid ((Over.alloc _ _).trans hO)
   have hw3 := hO.size
   clear hO
   have key : (x = x' ∧ y = y') ∨ (¬ x = x') ∨ (x = x' ∧ ¬ y = y') := by omega
   rcases key with ⟨rfl, rfl⟩ | hne | ⟨rfl, hne⟩
   ·skip
    replace hs : Hid (edgesTo xs (k + 1) = edgesTo xs k) := by have := hs.out; rw [if_pos ⟨rfl, rfl⟩] at this; exact this
    go_wp2
    go_roundw
    case rel => exact ⟨k + 1, by omega, by go_num, by rw [hs.out]; exact row_over Hown.out HO.out, Hb.out.trans HO.out⟩
    case measure => simp [intOf]; omega
   all_goals
    replace hs := Lib.hid (hs.out.trans (if_neg (by omega)))
    have hlen := edgesTo_len xs k
    go_wp2_with (at_builtin; refine wpList_append_own _ rfl _ _ 109 rfl (w.heap.size + 1) 142 i0 _ 4 32 Tryd.underlying109 hi hz0 hz1 hz2 rfl (by decide) _ _ _ rfl ((row_over Hown.out HO.out).alloc _) ⟨w3.heap.size, 0, none⟩ 1 1 (legCells ⟨x, y, _, y'⟩) rfl rfl (one_cells rfl) (by simp [legCells, Value.oneCell']) (by unfold maxLen; omega) (by omega) (by have := Hb.out.size; have := HO.out.size; simp at *; omega) ?_)
    intro v' w5 hown5 hgrow5 _
    have R1 : Hid (Over (w.alloc (.cells #[.slice (some ⟨b, o, none⟩) n c] 66)) w5) := over_grown Hb.out Hown.out (by simp) (Over.alloc_ HO.out _) hgrow5
    have R2 : Hid (w5.ownsRow (w.heap.size + 1) 142 4 v' (edgesTo xs (k + 1)).length ((edgesTo xs (k + 1)).flatMap legCells)) := by
     unfold Hid
     rw [hs.out]
     simpa using hown5
    clear hown5 hgrow5
    go_wp2
    go_roundw
    case rel => exact ⟨k + 1, by omega, by go_num, R2.out, R1.out⟩
    case measure => simp [intOf]; omega
  ·clear h
   have hkn : k = n := by omega
   have hb' : Hid (Over w wr) := (Over.alloc _ _).trans hb
   have hr : Hid (wr.ownsRow w.heap.size 142 4 u3 (edgesR xs).length ((edgesR xs).flatMap legCells)) := by
    unfold Hid edgesR
    rw [hl0, ← hkn]
    exact row_low hown (by omega)
   clear hown hb
   go_wp2
   go_ret
   exact ⟨_, rfl, hr.out, hb'.out⟩
end Go.Proofs.YtjhaakollekjeaaDoor
