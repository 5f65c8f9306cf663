import Derived.Test.YtjhaakollekjeaaDoorR7
import Derived.Test.YtjhaakollekjeaaDoorR2
namespace Go.Proofs.YtjhaakollekjeaaDoor
open Go Go.RowKit
set_option linter.unusedVariables false
set_option linter.unusedSimpArgs false

/-- The index of the next point. -/
def nx (xs : List (Int × Int)) (k : Nat) : Nat := (k + 1) % xs.length
theorem nx_lt {xs : List (Int × Int)} (k : Nat) (h : 0 < xs.length) : nx xs k < xs.length := Nat.mod_lt _ h

theorem nx_int {xs : List (Int × Int)} {n : Nat} (hl : xs.length = n) (k : Nat) : ((k : Int) + 1) % (n : Int) = ((nx xs k : Nat) : Int) := by
 unfold nx
 rw [hl]
 simp

structure Leg where
 ax : Int
 ay : Int
 bx : Int
 b_y : Int
 deriving DecidableEq
def legCells (l : Leg) : List Value := [.int .i64 l.ax, .int .i64 l.ay, .int .i64 l.bx, .int .i64 l.b_y]
def lg (ls : List Leg) (k : Nat) : Leg := ls.getD k ⟨0, 0, 0, 0⟩
theorem at_l {ls : List Leg} {k : Nat} (h : k < ls.length) : ls[k] = lg ls k := by simp [lg, List.getD, List.getElem?_eq_getElem h]

/-- A slice of edges that reads as the list ls. -/
def Legs (w : World) (A : Option Addr) (n : Nat) (ls : List Leg) : Prop :=
 ls.length = n ∧ (0 < n → ∃ b o, A = some ⟨b, o, none⟩ ∧ b < w.heap.size ∧ ∀ k, k < n → w.cell? ⟨b, o + k * 4, none⟩ = some (.int .i64 (lg ls k).ax) ∧ w.cell? ⟨b, o + k * 4 + 1, none⟩ = some (.int .i64 (lg ls k).ay) ∧
  w.cell? ⟨b, o + k * 4 + 2, none⟩ = some (.int .i64 (lg ls k).bx) ∧ w.cell? ⟨b, o + k * 4 + 3, none⟩ = some (.int .i64 (lg ls k).b_y))
theorem Legs.over {w w' : World} {A : Option Addr} {n : Nat} {ls : List Leg} (h : Legs w A n ls) (hb : Over w w') : Legs w' A n ls := by
 refine ⟨h.1, fun hn => ?_⟩
 obtain ⟨b, o, hA, hlt, hc⟩ := h.2 hn
 exact ⟨b, o, hA, Nat.lt_of_lt_of_le hlt hb.size, fun k hk => ⟨((ocell hb).1 b _ hlt).trans (hc k hk).1, ((ocell hb).1 b _ hlt).trans (hc k hk).2.1, ((ocell hb).1 b _ hlt).trans (hc k hk).2.2.1, ((ocell hb).1 b _ hlt).trans (hc k hk).2.2.2⟩⟩
theorem Legs.at_ {w : World} {A : Option Addr} {n k : Nat} {ls : List Leg} (h : Legs w A n ls) (hk : k < n) :
  ∃ b o, A = some ⟨b, o, none⟩ ∧ b < w.heap.size ∧ w.cell? ⟨b, o + k * 4, none⟩ = some (.int .i64 (lg ls k).ax) ∧ w.cell? ⟨b, o + k * 4 + 1, none⟩ = some (.int .i64 (lg ls k).ay) ∧
  w.cell? ⟨b, o + k * 4 + 2, none⟩ = some (.int .i64 (lg ls k).bx) ∧ w.cell? ⟨b, o + k * 4 + 3, none⟩ = some (.int .i64 (lg ls k).b_y) := by
 obtain ⟨b, o, hA, hb, hc⟩ := h.2 (by omega)
 exact ⟨b, o, hA, hb, hc k hk⟩

/-- The j-th cell of the k-th of a list of rows of equal length. -/
theorem flat_at {α : Type} (f : α → List Value) (m : Nat) (hf : ∀ a, (f a).length = m) : ∀ (ls : List α) (k j : Nat) (hk : k < ls.length), j < m → (ls.flatMap f)[k * m + j]? = (f ls[k])[j]?
 | [], _, _, h, _ => absurd h (by simp)
 | a :: r, 0, j, _, hj => by
  rw [List.flatMap_cons, Nat.zero_mul, Nat.zero_add, List.getElem?_append_left (by rw [hf]; exact hj)]
  rfl
 | a :: r, k + 1, j, h, hj => by
  rw [List.flatMap_cons, List.getElem?_append_right (by rw [hf, Nat.add_mul]; omega), hf]
  have := flat_at f m hf r k j (by simpa using h) hj
  rw [show (k + 1) * m + j - m = k * m + j by rw [Nat.add_mul]; omega, this]
  rfl
theorem legs_of_row {w : World} {B T n : Nat} {v : Value} {ls : List Leg} (h : w.ownsRow B T 4 v n (ls.flatMap legCells)) (hn : ls.length = n) : ∃ A c, v = .slice A n c ∧ Legs w A n ls ∧ n ≤ c := by
 have hcs : ∀ g, v.ownBlock = some g → _ := fun g hg => h.cells hg
 rcases h.2 with ⟨rfl, rfl⟩ | ⟨g, cap, cur, rfl, hb, hg, hcap, _⟩
 ·exact ⟨none, 0, rfl, ⟨hn, fun h => absurd h (by omega)⟩, by omega⟩
 ·refine ⟨_, _, rfl, ⟨hn, fun _ => ⟨g, 0, rfl, (h.lt g rfl).2, fun k hk => ?_⟩⟩, hcap⟩
  have hc := hcs g rfl
  have hk' : k < ls.length := by omega
  have hat := fun j hj => flat_at legCells 4 (fun _ => rfl) ls k j hk' hj
  have hadd : ∀ j, (⟨g, 0, none⟩ : Addr).add j = ⟨g, j, none⟩ := fun j => by unfold Addr.add; split <;> simp_all
  rw [at_l hk'] at hat
  rw [Nat.zero_add]
  have c0 := hc (k * 4 + 0) _ (hat 0 (by omega))
  have c1 := hc (k * 4 + 1) _ (hat 1 (by omega))
  have c2 := hc (k * 4 + 2) _ (hat 2 (by omega))
  have c3 := hc (k * 4 + 3) _ (hat 3 (by omega))
  rw [hadd] at c0 c1 c2 c3
  exact ⟨c0, c1, c2, c3⟩

def legAt (xs : List (Int × Int)) (k : Nat) : Leg := ⟨px xs k, py xs k, px xs (nx xs k), py xs (nx xs k)⟩
def samePt (xs : List (Int × Int)) (k : Nat) : Bool := px xs k == px xs (nx xs k) && py xs k == py xs (nx xs k)
def edgesTo (xs : List (Int × Int)) : Nat → List Leg
 | 0 => []
 | k + 1 => if samePt xs k = true then edgesTo xs k else edgesTo xs k ++ [legAt xs k]
theorem edgesTo_succ (xs : List (Int × Int)) (k : Nat) : edgesTo xs (k + 1) = if px xs k = px xs (nx xs k) ∧ py xs k = py xs (nx xs k) then edgesTo xs k else edgesTo xs k ++ [⟨px xs k, py xs k, px xs (nx xs k), py xs (nx xs k)⟩] := by
 simp [edgesTo, samePt, legAt]
def edgesR (xs : List (Int × Int)) : List Leg := edgesTo xs xs.length
theorem edgesTo_len (xs : List (Int × Int)) : ∀ k, (edgesTo xs k).length ≤ k
 | 0 => by simp [edgesTo]
 | k + 1 => by
  have := edgesTo_len xs k
  simp only [edgesTo]
  split
  ·omega
  ·simp; omega

theorem row_over {w w' : World} {B T s n : Nat} {v : Value} {xs : List Value} (h : w.ownsRow B T s v n xs) (ho : Over w w') : w'.ownsRow B T s v n xs := by
 refine ⟨h.1, ?_⟩
 rcases h.2 with hn | ⟨g, cap, cur, rfl, hb, hgg, rest⟩
 ·exact .inl hn
 ·refine .inr ⟨g, cap, cur, rfl, hb, ?_, rest⟩
  rw [ho.out.block g (Array.getElem?_eq_some_iff.1 hgg).1]
  exact hgg
theorem row_low {w : World} {B B' T s n : Nat} {v : Value} {xs : List Value} (h : w.ownsRow B T s v n xs) (hB : B' ≤ B) : w.ownsRow B' T s v n xs := by
 refine ⟨h.1, ?_⟩
 rcases h.2 with hn | ⟨g, cap, cur, rfl, hb, rest⟩
 ·exact .inl hn
 ·exact .inr ⟨g, cap, cur, rfl, by omega, rest⟩
/-- Behind an append to a row of the call's own. -/
theorem over_grown {w0 wr w4 w1 : World} {B T s n : Nat} {v : Value} {xs : List Value} (h0 : Over w0 wr) (hown : wr.ownsRow B T s v n xs) (hB : w0.heap.size ≤ B) (ho : Over wr w4) (hg : w4.grownBy w1 v.ownBlock) : Over w0 w1 :=
 Below.grown (h0.trans ho).out hg (h0.trans ho).size (fun k hk => Nat.le_trans hB ((hown.lt k hk).1))
theorem one_cells {w w1 : World} {T : Nat} {news : List Value} (hw1 : w1 = w.alloc (.cells news.toArray T)) : ∀ j u, news[j]? = some u → w1.cell? ((⟨w.heap.size, 0, none⟩ : Addr).add j) = some u := by
 intro j u hj
 have hadd : (⟨w.heap.size, 0, none⟩ : Addr).add j = ⟨w.heap.size, j, none⟩ := by unfold Addr.add; split <;> simp_all
 rw [hadd, hw1, cell_new]
 simpa using hj

theorem legInfo : (Tryd.prog.info? 142).map (fun i => (i.zero, i.size, i.bytes)) = some (some (.agg #[.int .i64 0, .int .i64 0, .int .i64 0, .int .i64 0]), 4, 32) := by kernel_rfl

set_option maxHeartbeats 2000000 in
set_option maxRecDepth 100000 in
theorem edgesOfRing_any (A : Option Addr) (n c : Nat) (xs : List (Int × Int)) (w : World) (h : Pts w A n xs) (hn : (n : Int) ≤ 1048577) :
  Calls Tryd.prog 51 #[ringV A n c] w fun e w' => ∃ v, e = .returned v ∧ w'.ownsRow w.heap.size 142 4 v (edgesR xs).length ((edgesR xs).flatMap legCells) ∧ Over w w' := by
 obtain ⟨i0, hi, hz0, hz1, hz2⟩ := info_parts2 legInfo
 go_enter Tryd.func51, Tryd.ntmps51
 go_wp2
 go_loopw [3, 10] (fun s i wr => ∃ k : Nat, k ≤ n ∧ i = .int .i64 k ∧ wr.ownsRow (w.heap.size + 1) 142 4 s (edgesTo xs k).length ((edgesTo xs k).flatMap legCells) ∧ Over (w.alloc (.cells #[.slice A n c] 66)) wr) (fun _ i _ => n - (intOf i).toNat)
 case atStart => exact ⟨0, Nat.zero_le _, rfl, World.ownsRow_nil _ _ _ _, Over.refl _⟩
 case round =>
  rename_i wr
  have hl0 := h.1
  obtain ⟨k, hk, rfl, hown, hb⟩ := hrel
  by_cases hlt : k < n
  ·have hl := h.1
   have hO : Over w wr := (Over.alloc _ _).trans hb
   obtain ⟨b, o, rfl, hbB, hc1, hc2⟩ := (h.over hO).at_ hlt
   obtain ⟨b', o', e, hbB', hc1', hc2'⟩ := (h.over hO).at_ (k := nx xs k) (by have := nx_lt (xs := xs) k (by omega); omega)
   injection e with e
   injection e with e1 e2 _
   subst e1 e2
   have hnx : ((k : Int) + 1).tmod (n : Int) = ((nx xs k : Nat) : Int) := by rw [Int.tmod_eq_emod_of_nonneg (by omega)]; exact nx_int hl k
   have hnl := nx_lt k (show 0 < xs.length by omega)
   have hbx : wr.cell? ⟨w.heap.size, 0, none⟩ = some (.slice (some ⟨b, o, none⟩) n c) := by
    rw [(ocell hb).1 _ _ (by simp)]
    exact cell_new _ _ _ _
   have hbz : w.heap.size < wr.heap.size := Nat.lt_of_lt_of_le (by simp) (Over.size hb)
   rw [hl] at hnl
   have hn0 : ¬ n = 0 := by omega
   have Hown := Lib.hid hown
   have Hb := Lib.hid hb
   have hs := Lib.hid (edgesTo_succ xs k)
   generalize px xs k = x at hc1 hs
   generalize py xs k = y at hc2 hs
   generalize px xs (nx xs k) = x' at hc1' hs
   generalize py xs (nx xs k) = y' at hc2' hs
   clear h hl hO hown hb
   go_wp2
   refine wp_region_O (B := ob _) (Over.refl _) (by kernel_rfl) (by simp only [List.size_toArray, List.length_cons, List.length_nil, Nat.reduceAdd]; rfl) (fun hBW => ?_)
   refine wpAnyO_take (i := 0) (v := _) (by assumption) (by simp only [xa,xb]; rfl) (by kernel_rfl) (by kernel_rfl) (by kernel_rfl) (by exact fun _ _ _ h => h) (by kernel_rfl) (fun wx hS => by (obtain ⟨hc, hf⟩ := ocell hS; clear hS; go_simp; (try go_bits); exact ⟨rfl, Over.refl _⟩)) ?_
   simp only [Act.put,xd,yc,yd]
   refine wpAnyO_take (i := 1) (v := _) (by assumption) (by simp only [xa,xb,xc]; rfl) (by kernel_rfl) (by kernel_rfl) (by kernel_rfl) (by exact fun _ _ _ h => h) (by kernel_rfl) (fun wx hS => by (obtain ⟨hc, hf⟩ := ocell hS; clear hS; go_simp; (try go_bits); exact ⟨rfl, Over.refl _⟩)) ?_
   simp only [Act.put,xd,yc,yd]
   refine wpAnyO_take (i := 2) (v := _) (by assumption) (by simp only [xa,xb,xc]; rfl) (by kernel_rfl) (by kernel_rfl) (by kernel_rfl) (by exact fun _ _ _ h => h) (by kernel_rfl) (fun wx hS => by (obtain ⟨hc, hf⟩ := ocell hS; clear hS; go_simp; (try go_bits); exact ⟨rfl, Over.refl _⟩)) ?_
   simp only [Act.put,xd,yc,yd]
   refine wpAnyO_take (i := 3) (v := _) (by assumption) (by simp only [xa,xb,xc]; rfl) (by kernel_rfl) (by kernel_rfl) (by kernel_rfl) (by exact fun _ _ _ h => h) (by kernel_rfl) (fun wx hS => by (obtain ⟨hc, hf⟩ := ocell hS; clear hS; go_simp; (try go_bits); exact ⟨rfl, Over.refl _⟩)) ?_
   simp only [Act.put,xd,yc,yd]
   refine wpAnyO_take (i := 4) (v := _) (by assumption) (by simp only [xa,xb,xc]; rfl) (by kernel_rfl) (by kernel_rfl) (by kernel_rfl) (by exact fun _ _ _ h => h) (by kernel_rfl) (fun wx hS => by (obtain ⟨hc, hf⟩ := ocell hS; clear hS; go_simp; (try go_bits); exact ⟨rfl, Over.refl _⟩)) ?_
   simp only [Act.put,xd,yc,yd]
   refine wpAnyO_take (i := 5) (v := _) (by assumption) (by simp only [xa,xb,xc]; rfl) (by kernel_rfl) (by kernel_rfl) (by kernel_rfl) (by exact fun _ _ _ h => h) (by kernel_rfl) (fun wx hS => by (obtain ⟨hc, hf⟩ := ocell hS; clear hS; go_simp; (try go_bits); exact ⟨rfl, Over.refl _⟩)) ?_
   simp only [Act.put,xd,yc,yd]
   refine wpAnyO_take (i := 6) (v := _) (by assumption) (by simp only [xa,xb,xc]; rfl) (by kernel_rfl) (by kernel_rfl) (by kernel_rfl) (by exact fun _ _ _ h => h) (by kernel_rfl) (fun wx hS => by (obtain ⟨hc, hf⟩ := ocell hS; clear hS; go_simp; (try go_bits); exact ⟨rfl, Over.refl _⟩)) ?_
   simp only [Act.put,xd,yc,yd]
   refine wpAnyO_take (i := 7) (v := _) (by assumption) (by simp only [xa,xb,xc]; rfl) (by kernel_rfl) (by kernel_rfl) (by kernel_rfl) (by exact fun _ _ _ h => h) (by kernel_rfl) (fun wx hS => by (obtain ⟨hc, hf⟩ := ocell hS; clear hS; go_simp; (try go_bits); exact ⟨rfl, Over.refl _⟩)) ?_
   simp only [Act.put,xd,yc,yd]
   refine wpAnyO_take (i := 8) (v := _) (by assumption) (by simp only [xa,xb,xc]; rfl) (by kernel_rfl) (by kernel_rfl) (by kernel_rfl) (by exact fun _ _ _ h => h) (by kernel_rfl) (fun wx hS => by (obtain ⟨hc, hf⟩ := ocell hS; clear hS; go_simp; (try go_bits); exact ⟨rfl, Over.refl _⟩)) ?_
   simp only [Act.put,xd,yc,yd]
   refine wpAnyO_take (i := 9) (v := _) (by assumption) (by simp only [xa,xb,xc]; rfl) (by kernel_rfl) (by kernel_rfl) (by kernel_rfl) (by exact fun _ _ _ h => h) (by kernel_rfl) (fun wx hS => by (obtain ⟨hc, hf⟩ := ocell hS; clear hS; go_simp; (try go_bits); exact ⟨rfl, Over.refl _⟩)) ?_
   simp only [Act.put,xd,yc,yd]
   refine wpAnyO_new1 (i := 10) (k := 11) (by assumption) (by simp only [xa,xb,xc]; rfl) (by simp only [xa,xb,xc]; rfl) (by rfl) (by rfl) (by rfl) (by rfl) (by rfl) (by rfl) (fun _ => by (go_simp; rfl)) (by kernel_rfl) (by kernel_rfl) (fun _ => by rfl) (fun _ => by rfl) (by kernel_rfl) (by rfl) (by simp [Value.oneCell']) ?_
   intro w2 q1 ho hq1 hl1 hh1 hBx
   replace hBW := hBx; clear hBx
   simp only [Act.put,xd,yc,yd]
   obtain ⟨k1, k2, k3, k4⟩ := two_cells hh1
   refine wpAnyO_done (by kernel_rfl) (fun w3 h3 => ?_) _
   try clear hBW
   have hO := ho.trans h3
   have l1 := ((ocell h3).1 q1 0 hl1).trans k1
   have l2 := ((ocell h3).1 q1 1 hl1).trans k2
   have hl3 : q1 < w3.heap.size := Nat.lt_of_lt_of_le hl1 h3.size
   clear k1 k2 k3 k4 ho h3 hh1
   obtain ⟨hc, hf⟩ := ocell hO
   have HO := Lib.hid ((Over.alloc _ _).trans hO)
   have hw3 := hO.size
   clear hO
   have key : (x = x' ∧ y = y') ∨ (¬ x = x') ∨ (x = x' ∧ ¬ y = y') := by omega
   rcases key with ⟨rfl, rfl⟩ | hne | ⟨rfl, hne⟩
   ·skip
    replace hs : Hid (edgesTo xs (k + 1) = edgesTo xs k) := by have := hs.out; rw [if_pos ⟨rfl, rfl⟩] at this; exact this
    go_wp2
    go_roundw
    case rel => exact ⟨k + 1, by omega, by go_num, by rw [hs.out]; exact row_over Hown.out HO.out, Hb.out.trans HO.out⟩
    case measure => simp [intOf]; omega
   all_goals
    replace hs := Lib.hid (hs.out.trans (if_neg (by omega)))
    have hlen := edgesTo_len xs k
    go_wp2_with (at_builtin; refine wpList_append_own _ rfl _ _ 109 rfl (w.heap.size + 1) 142 i0 _ 4 32 Tryd.underlying109 hi hz0 hz1 hz2 rfl (by decide) _ _ _ rfl ((row_over Hown.out HO.out).alloc _) ⟨w3.heap.size, 0, none⟩ 1 1 (legCells ⟨x, y, _, y'⟩) rfl rfl (one_cells rfl) (by simp [legCells, Value.oneCell']) (by unfold maxLen; omega) (by omega) (by have := Hb.out.size; have := HO.out.size; simp at *; omega) ?_)
    intro v' w5 hown5 hgrow5 _
    have R1 : Hid (Over (w.alloc (.cells #[.slice (some ⟨b, o, none⟩) n c] 66)) w5) := over_grown Hb.out Hown.out (by simp) (Over.alloc_ HO.out _) hgrow5
    have R2 : Hid (w5.ownsRow (w.heap.size + 1) 142 4 v' (edgesTo xs (k + 1)).length ((edgesTo xs (k + 1)).flatMap legCells)) := by
     unfold Hid
     rw [hs.out]
     simpa using hown5
    clear hown5 hgrow5
    go_wp2
    go_roundw
    case rel => exact ⟨k + 1, by omega, by go_num, R2.out, R1.out⟩
    case measure => simp [intOf]; omega
  ·clear h
   have hkn : k = n := by omega
   have hb' : Hid (Over w wr) := (Over.alloc _ _).trans hb
   have hr : Hid (wr.ownsRow w.heap.size 142 4 u3 (edgesR xs).length ((edgesR xs).flatMap legCells)) := by
    unfold Hid edgesR
    rw [hl0, ← hkn]
    exact row_low hown (by omega)
   clear hown hb
   go_wp2
   go_ret
   exact ⟨_, rfl, hr.out, hb'.out⟩
end Go.Proofs.YtjhaakollekjeaaDoor

namespace Go.Proofs.YtjhaakollekjeaaDoor
open Go Go.RowKit
set_option linter.unusedVariables false
set_option linter.unusedSimpArgs false

abbrev Ring_ := List (Int × Int)
def rg (rs : List Ring_) (k : Nat) : Ring_ := rs.getD k []
theorem at_r {rs : List Ring_} {k : Nat} (h : k < rs.length) : rs[k] = rg rs k := by simp [rg, List.getD, List.getElem?_eq_getElem h]

/-- A slice of rings that reads as the list rs. -/
def Rings (w : World) (A : Option Addr) (n : Nat) (rs : List Ring_) : Prop :=
 rs.length = n ∧ (0 < n → ∃ b o, A = some ⟨b, o, none⟩ ∧ b < w.heap.size ∧ ∀ k, k < n → ∃ Ak ck, w.cell? ⟨b, o + k, none⟩ = some (.slice Ak (rg rs k).length ck) ∧ Pts w Ak (rg rs k).length (rg rs k) ∧ ((rg rs k).length : Int) ≤ 9223372036854775807)
theorem Rings.over {w w' : World} {A : Option Addr} {n : Nat} {rs : List Ring_} (h : Rings w A n rs) (hb : Over w w') : Rings w' A n rs := by
 refine ⟨h.1, fun hn => ?_⟩
 obtain ⟨b, o, hA, hlt, hc⟩ := h.2 hn
 refine ⟨b, o, hA, Nat.lt_of_lt_of_le hlt hb.size, fun k hk => ?_⟩
 obtain ⟨Ak, ck, h1, h2, h3⟩ := hc k hk
 exact ⟨Ak, ck, ((ocell hb).1 b _ hlt).trans h1, h2.over hb, h3⟩
theorem Rings.at_ {w : World} {A : Option Addr} {n k : Nat} {rs : List Ring_} (h : Rings w A n rs) (hk : k < n) :
  ∃ b o Ak ck, A = some ⟨b, o, none⟩ ∧ b < w.heap.size ∧ w.cell? ⟨b, o + k, none⟩ = some (.slice Ak (rg rs k).length ck) ∧ Pts w Ak (rg rs k).length (rg rs k) ∧ ((rg rs k).length : Int) ≤ 9223372036854775807 := by
 obtain ⟨b, o, hA, hb, hc⟩ := h.2 (by omega)
 obtain ⟨Ak, ck, h1, h2, h3⟩ := hc k hk
 exact ⟨b, o, Ak, ck, hA, hb, h1, h2, h3⟩

/-- A slice of rings of the call's own: block g, whole; each ring a block of its own, from B on. -/
def OwnR (B : Nat) (w : World) (g n : Nat) (rs : List Ring_) : Prop :=
 B ≤ g ∧ rs.length = n ∧ Blk w g 66 n ∧ ∀ k, k < n → ∃ gk, B ≤ gk ∧ gk ≠ g ∧ w.cell? ⟨g, k, none⟩ = some (.slice (some ⟨gk, 0, none⟩) (rg rs k).length (rg rs k).length) ∧ Own w gk (rg rs k).length (rg rs k)
/-- The first k rings lie there. -/
def FillR (B : Nat) (w : World) (g k : Nat) (rs : List Ring_) : Prop :=
 ∀ j, j < k → ∃ gk, B ≤ gk ∧ gk ≠ g ∧ w.cell? ⟨g, j, none⟩ = some (.slice (some ⟨gk, 0, none⟩) (rg rs j).length (rg rs j).length) ∧ Own w gk (rg rs j).length (rg rs j)
theorem FillR.over {B : Nat} {w w' : World} {g k : Nat} {rs : List Ring_} (h : FillR B w g k rs) (hg : g < w.heap.size) (ho : Over w w') : FillR B w' g k rs := by
 intro j hj
 obtain ⟨gk, h1, h2, h3, h4⟩ := h j hj
 exact ⟨gk, h1, h2, ((ocell ho).1 g _ hg).trans h3, h4.over ho⟩
theorem FillR.step {B : Nat} {w : World} {g k m T gk : Nat} {rs : List Ring_} (h : FillR B w g k rs) (hb : Blk w g T m) (hk : k < m) (h1 : B ≤ gk) (h2 : gk ≠ g) (ho : Own w gk (rg rs k).length (rg rs k)) :
  FillR B (w.setCell ⟨g, k, none⟩ (.slice (some ⟨gk, 0, none⟩) (rg rs k).length (rg rs k).length)) g (k + 1) rs := by
 obtain ⟨u, hu⟩ := hb.cell hk
 intro j hj
 by_cases hjk : j = k
 ·subst hjk
  exact ⟨gk, h1, h2, World.cell?_setCell_same _ _ _ hu, ho.far (Ne.symm h2) _⟩
 ·obtain ⟨gj, e1, e2, e3, e4⟩ := h j (by omega)
  refine ⟨gj, e1, e2, ?_, e4.far (Ne.symm e2) _⟩
  rw [World.cell?_setCell_other _ _ _ _ (by simp <;> omega)]
  exact e3
theorem FillR.own {B : Nat} {w : World} {g n : Nat} {rs : List Ring_} (h : FillR B w g n rs) (hg : B ≤ g) (hb : Blk w g 66 n) (hn : rs.length = n) : OwnR B w g n rs := ⟨hg, hn, hb, h⟩
theorem OwnR.over {B : Nat} {w w' : World} {g n : Nat} {rs : List Ring_} (h : OwnR B w g n rs) (ho : Over w w') : OwnR B w' g n rs :=
 ⟨h.1, h.2.1, h.2.2.1.over ho, FillR.over h.2.2.2 h.2.2.1.lt ho⟩
theorem Blk.far {w : World} {g T m : Nat} (h : Blk w g T m) {p : Addr} (hp : p.block ≠ g) (u : Value) : Blk (w.setCell p u) g T m := by
 obtain ⟨cs, hs, hh⟩ := h
 exact ⟨cs, hs, (Below.heap_setCell w p u g (Ne.symm hp)).trans hh⟩
theorem OwnR.far {B : Nat} {w : World} {g n : Nat} {rs : List Ring_} (h : OwnR B w g n rs) {p : Addr} (hp : p.block < B) (u : Value) : OwnR B (w.setCell p u) g n rs := by
 have hg := h.1
 refine ⟨hg, h.2.1, h.2.2.1.far (by omega) u, fun k hk => ?_⟩
 obtain ⟨gk, h1, h2, h3, h4⟩ := h.2.2.2 k hk
 refine ⟨gk, h1, h2, ?_, h4.far (by omega) u⟩
 rw [World.cell?_setCell_other _ _ _ _ (fun e => by rw [e] at hp; simp at hp; omega)]
 exact h3
theorem OwnR.low {B B' : Nat} {w : World} {g n : Nat} {rs : List Ring_} (h : OwnR B w g n rs) (hB : B' ≤ B) : OwnR B' w g n rs := by
 refine ⟨by have := h.1; omega, h.2.1, h.2.2.1, fun k hk => ?_⟩
 obtain ⟨gk, h1, h2⟩ := h.2.2.2 k hk
 exact ⟨gk, by omega, h2⟩
theorem OwnR.rings {B : Nat} {w : World} {g n : Nat} {rs : List Ring_} (h : OwnR B w g n rs) (hm : ∀ k, k < n → ((rg rs k).length : Int) ≤ 1048576) : Rings w (some ⟨g, 0, none⟩) n rs := by
 refine ⟨h.2.1, fun _ => ⟨g, 0, rfl, h.2.2.1.lt, fun k hk => ?_⟩⟩
 obtain ⟨gk, h1, h2, h3, h4⟩ := h.2.2.2 k hk
 rw [Nat.zero_add]
 exact ⟨_, _, h3, h4.2, by have := hm k hk; omega⟩

/-- How many points the first k rings have. -/
def sumTo (rs : List Ring_) : Nat → Nat
 | 0 => 0
 | k + 1 => sumTo rs k + (rg rs k).length
theorem sumTo_mono (rs : List Ring_) {k m : Nat} (h : k ≤ m) : sumTo rs k ≤ sumTo rs m := by
 induction m with
 | zero => rw [Nat.le_zero.1 h]; omega
 | succ m ih =>
  rcases Nat.lt_or_ge k (m + 1) with h' | h'
  ·have := ih (by omega); simp only [sumTo]; omega
  ·rw [show k = m + 1 by omega]; omega
def total (rs : List Ring_) : Nat := rs.length + sumTo rs rs.length
theorem rg_le_total (rs : List Ring_) {k : Nat} (h : k < rs.length) : (rg rs k).length ≤ total rs := by
 have := sumTo_mono rs (show k + 1 ≤ rs.length by omega)
 simp only [sumTo] at this
 unfold total
 omega

/-- A region. -/
abbrev regV (A : Option Addr) (n c : Nat) : Value := .agg #[.slice A n c]

end Go.Proofs.YtjhaakollekjeaaDoor

namespace Go.Proofs.YtjhaakollekjeaaDoor
open Go Go.RowKit
set_option linter.unusedVariables false
set_option linter.unusedSimpArgs false

section
variable {P : Program} {ops : Array Oper} {Q : Exit → Act → World → Prop} {md : Region.Mode} {B : Base}

end
end Go.Proofs.YtjhaakollekjeaaDoor
