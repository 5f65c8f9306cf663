import Derived.Test.YtjhaakollekjeaaDoorR8
import Derived.Test.YtjhaakollekjeaaDoorR7
namespace Go.Proofs.YtjhaakollekjeaaDoor
open Go Go.RowKit
set_option linter.unusedVariables false
set_option linter.unusedSimpArgs false

/-- Block b is a point variable that holds x and y. -/
def Box2 (w : World) (b : Nat) (x y : Int) : Prop :=
 b < w.heap.size ∧ w.cell? ⟨b, 0, none⟩ = some (.int .i64 x) ∧ w.cell? ⟨b, 1, none⟩ = some (.int .i64 y) ∧ w.frozen? ⟨b, 0, none⟩ = false ∧ w.frozen? ⟨b, 1, none⟩ = false
theorem Box2.over {w w' : World} {b : Nat} {x y : Int} (h : Box2 w b x y) (ho : Over w w') : Box2 w' b x y := by
 obtain ⟨hc, hf⟩ := ocell ho
 obtain ⟨h0, h1, h2, h3, h4⟩ := h
 exact ⟨Nat.lt_of_lt_of_le h0 ho.size, (hc _ _ h0).trans h1, (hc _ _ h0).trans h2, (hf _ _ h0).trans h3, (hf _ _ h0).trans h4⟩
theorem frozen_set (w : World) (p q : Addr) (u : Value) : (w.setCell p u).frozen? q = w.frozen? q := World.frozen?_setCell w p q u
theorem Box2.far {w : World} {b : Nat} {x y : Int} (h : Box2 w b x y) {p : Addr} (hp : p.block ≠ b) (u : Value) : Box2 (w.setCell p u) b x y := by
 obtain ⟨h0, h1, h2, h3, h4⟩ := h
 refine ⟨by simpa [World.setCell] using h0, ?_, ?_, (frozen_set ..).trans h3, (frozen_set ..).trans h4⟩
 ·rw [World.cell?_setCell_other _ _ _ _ (fun e => hp (by rw [e]))]; exact h1
 ·rw [World.cell?_setCell_other _ _ _ _ (fun e => hp (by rw [e]))]; exact h2
theorem Box2.set_ {w : World} {b : Nat} {x y : Int} (h : Box2 w b x y) (x' y' : Int) : Box2 ((w.setCell ⟨b, 0, none⟩ (.int .i64 x')).setCell ⟨b, 1, none⟩ (.int .i64 y')) b x' y' := by
 obtain ⟨h0, h1, h2, h3, h4⟩ := h
 have h2' : (w.setCell ⟨b, 0, none⟩ (.int .i64 x')).cell? ⟨b, 1, none⟩ = some (.int .i64 y) := by rw [World.cell?_setCell_other _ _ _ _ (by simp)]; exact h2
 refine ⟨by simpa [World.setCell] using h0, ?_, World.cell?_setCell_same _ _ _ h2', (frozen_set ..).trans ((frozen_set ..).trans h3), (frozen_set ..).trans ((frozen_set ..).trans h4)⟩
 rw [World.cell?_setCell_other _ _ _ _ (by simp)]
 exact World.cell?_setCell_same _ _ _ h1

theorem Box2.new (w : World) (x y : Int) (T g : Nat) (hg : g = w.heap.size) : Box2 (w.alloc (.cells #[.int .i64 x, .int .i64 y] T)) g x y := by
 subst hg
 have hh := heap_alloc_new w (.cells #[.int .i64 x, .int .i64 y] T)
 refine ⟨by simp, cell_new _ _ _ _, cell_new _ _ _ _, ?_, ?_⟩ <;> (unfold World.frozen?; rw [hh]; rfl)

theorem Box2.row {w : World} {b : Nat} {x y : Int} {t : TypeId} (h : w.heap[b]? = some (.cells (Value.agg #[.int .i64 x, .int .i64 y]).cells t (0, 0))) (hl : b < w.heap.size) : Box2 w b x y := by
 obtain ⟨k1, k2, k3, k4⟩ := two_cells h
 exact ⟨hl, k1, k2, k3, k4⟩

end Go.Proofs.YtjhaakollekjeaaDoor

namespace Go.Proofs.YtjhaakollekjeaaDoor
open Go Go.RowKit
set_option linter.unusedVariables false
set_option linter.unusedSimpArgs false

end Go.Proofs.YtjhaakollekjeaaDoor

namespace Go.Proofs.YtjhaakollekjeaaDoor
open Go Go.RowKit
set_option linter.unusedVariables false

set_option maxHeartbeats 400000 in
set_option maxRecDepth 100000 in
theorem eqRingS_same (A B : Option Addr) (n c d : Nat) (rs : List Ring_) (w : World) (h : Rings w A n rs) (h' : Rings w B n rs) (ht : (total rs : Int) ≤ 1048576) :
  Calls Tryd.prog 27 #[.slice A n c, .slice B n d] w fun e w' => e = .returned (.bool true) ∧ Over w w' := by
 have hlen := Lib.hid h.1
 have hn : (n : Int) ≤ 1048576 := by have := hlen.out; unfold total at ht; omega
 have hq : ((n : Int) != (n : Int)) = false := by simp
 have Ht := Lib.hid ht
 clear ht
 go_enter Tryd.func27, Tryd.ntmps27
 go_wp2
 go_loopw [5] (fun i wr => ∃ k : Nat, k ≤ n ∧ i = .int .i64 k ∧ Over w wr) (fun i _ => n - (intOf i).toNat)
 case atStart => exact ⟨0, Nat.zero_le _, rfl, Over.refl _⟩
 case round =>
  rename_i wr
  obtain ⟨k, hk, rfl, hb⟩ := hrel
  by_cases hlt : k < n
  ·obtain ⟨b, o, Ak, ck, rfl, hbB, hcell, hpts, hmax⟩ := (h.over hb).at_ hlt
   obtain ⟨b', o', Ak', ck', rfl, hbB', hcell', hpts', _⟩ := (h'.over hb).at_ hlt
   have hr : ((rg rs k).length : Int) ≤ 1048576 := by have := Ht.out; have := rg_le_total rs (k := k) (by rw [hlen.out]; exact hlt); omega
   have HP := Lib.hid (And.intro hpts hpts')
   clear h h' hmax hpts hpts'
   go_wp2
   refine wp_region_O (B := ob _) (Over.refl _) (by kernel_rfl) (by simp only [List.size_toArray, List.length_cons, List.length_nil, Nat.reduceAdd]; rfl) (fun hBW => ?_)
   refine wpAnyO_take (i := 0) (v := _) (by assumption) (by simp only [xa,xb]; rfl) (by kernel_rfl) (by kernel_rfl) (by kernel_rfl) (by exact fun _ _ _ h => h) (by kernel_rfl) (fun wx hS => by (obtain ⟨hc, hf⟩ := ocell hS; clear hS; go_simp; (try go_bits); exact ⟨rfl, Over.refl _⟩)) ?_
   simp only [Act.put,xd,yc,yd]
   refine wpAnyO_take (i := 1) (v := _) (by assumption) (by simp only [xa,xb,xc]; rfl) (by kernel_rfl) (by kernel_rfl) (by kernel_rfl) (by exact fun _ _ _ h => h) (by kernel_rfl) (fun wx hS => by (obtain ⟨hc, hf⟩ := ocell hS; clear hS; go_simp; (try go_bits); exact ⟨rfl, Over.refl _⟩)) ?_
   simp only [Act.put,xd,yc,yd]
   refine wpAnyO_take (i := 2) (v := _) (by assumption) (by simp only [xa,xb,xc]; rfl) (by kernel_rfl) (by kernel_rfl) (by kernel_rfl) (by exact fun _ _ _ h => h) (by kernel_rfl) (fun wx hS => by (obtain ⟨hc, hf⟩ := ocell hS; clear hS; go_simp; (try go_bits); exact ⟨rfl, Over.refl _⟩)) ?_
   simp only [Act.put,xd,yc,yd]
   refine wpAnyO_take (i := 3) (v := _) (by assumption) (by simp only [xa,xb,xc]; rfl) (by kernel_rfl) (by kernel_rfl) (by kernel_rfl) (by exact fun _ _ _ h => h) (by kernel_rfl) (fun wx hS => by (obtain ⟨hc, hf⟩ := ocell hS; clear hS; go_simp; (try go_bits); exact ⟨rfl, Over.refl _⟩)) ?_
   simp only [Act.put,xd,yc,yd]
   refine wpAnyO_take (i := 4) (v := _) (by assumption) (by simp only [xa,xb,xc]; rfl) (by kernel_rfl) (by kernel_rfl) (by kernel_rfl) (by exact fun _ _ _ h => h) (by kernel_rfl) (fun wx hS => by (obtain ⟨hc, hf⟩ := ocell hS; clear hS; go_simp; (try go_bits); exact ⟨rfl, Over.refl _⟩)) ?_
   simp only [Act.put,xd,yc,yd]
   refine wpAnyO_take (i := 5) (v := _) (by assumption) (by simp only [xa,xb,xc]; rfl) (by kernel_rfl) (by kernel_rfl) (by kernel_rfl) (by exact fun _ _ _ h => h) (by kernel_rfl) (fun wx hS => by (obtain ⟨hc, hf⟩ := ocell hS; clear hS; go_simp; (try go_bits); exact ⟨rfl, Over.refl _⟩)) ?_
   simp only [Act.put,xd,yc,yd]
   refine wpAnyO_take (i := 6) (v := _) (by assumption) (by simp only [xa,xb,xc]; rfl) (by kernel_rfl) (by kernel_rfl) (by kernel_rfl) (by exact fun _ _ _ h => h) (by kernel_rfl) (fun wx hS => by (obtain ⟨hc, hf⟩ := ocell hS; clear hS; go_simp; (try go_bits); exact ⟨rfl, Over.refl _⟩)) ?_
   simp only [Act.put,xd,yc,yd]
   refine wpAnyO_take (i := 7) (v := _) (by assumption) (by simp only [xa,xb,xc]; rfl) (by kernel_rfl) (by kernel_rfl) (by kernel_rfl) (by exact fun _ _ _ h => h) (by kernel_rfl) (fun wx hS => by (obtain ⟨hc, hf⟩ := ocell hS; clear hS; go_simp; (try go_bits); exact ⟨rfl, Over.refl _⟩)) ?_
   simp only [Act.put,xd,yc,yd]
   refine wpAnyO_take (i := 8) (v := _) (by assumption) (by simp only [xa,xb,xc]; rfl) (by kernel_rfl) (by kernel_rfl) (by kernel_rfl) (by exact fun _ _ _ h => h) (by kernel_rfl) (fun wx hS => by (go_simp; refine (eqRing_same _ _ _ _ _ _ _ (HP.out.1.over (by first | exact hS | exact Over.trans hS (Over.refl _))) (HP.out.2.over hS) hr).mono ?_; rintro e w1 ⟨rfl, hb1⟩; exact ⟨rfl, hb1⟩)) ?_
   simp only [Act.put,xd,yc,yd]
   refine wpAnyO_take (i := 9) (v := _) (by assumption) (by simp only [xa,xb,xc]; rfl) (by kernel_rfl) (by kernel_rfl) (by kernel_rfl) (by exact fun _ _ _ h => h) (by kernel_rfl) (fun wx hS => by (obtain ⟨hc, hf⟩ := ocell hS; clear hS; go_simp; (try go_bits); exact ⟨rfl, Over.refl _⟩)) ?_
   simp only [Act.put,xd,yc,yd]
   refine wpAnyO_done (by kernel_rfl) (fun w2 h2 => ?_) _
   try clear hBW
   go_wp2
   go_roundw
   case rel => exact ⟨k + 1, by omega, by go_num, (by repeat (first | exact Over.refl _ | (with_reducible assumption) | refine Over.alloc_ ?_ _ | refine Over.trans ?_ (by with_reducible assumption) | refine Over.drew_ ?_ | refine Over.set_ ?_ (by simp; try omega) _))⟩
   case measure => simp [intOf]; omega
  ·clear h h'
   go_wp2
   go_ret
   exact ⟨rfl, (by repeat (first | exact Over.refl _ | (with_reducible assumption) | refine Over.alloc_ ?_ _ | refine Over.trans ?_ (by with_reducible assumption) | refine Over.drew_ ?_ | refine Over.set_ ?_ (by simp; try omega) _))⟩

set_option maxHeartbeats 400000 in
theorem eqRegion_same (A B : Option Addr) (n c d : Nat) (rs : List Ring_) (w : World) (h : Rings w A n rs) (h' : Rings w B n rs) (ht : (total rs : Int) ≤ 1048576) :
  Calls Tryd.prog 7 #[regV A n c, regV B n d] w fun e w' => e = .returned (.bool true) ∧ Over w w' := by
 go_enter Tryd.func7, Tryd.ntmps7
 go_wp2_with (go_at_call 27; refine (eqRingS_same _ _ _ _ _ rs _ (h.over (by repeat (first | exact Over.refl _ | (with_reducible assumption) | refine Over.alloc_ ?_ _ | refine Over.trans ?_ (by with_reducible assumption) | refine Over.drew_ ?_ | refine Over.set_ ?_ (by simp; try omega) _))) (h'.over (by repeat (first | exact Over.refl _ | (with_reducible assumption) | refine Over.alloc_ ?_ _ | refine Over.trans ?_ (by with_reducible assumption) | refine Over.drew_ ?_ | refine Over.set_ ?_ (by simp; try omega) _))) ht).mono ?_; rintro e w1 ⟨rfl, hb1⟩)
 go_ret
 exact ⟨rfl, (by repeat (first | exact Over.refl _ | (with_reducible assumption) | refine Over.alloc_ ?_ _ | refine Over.trans ?_ (by with_reducible assumption) | refine Over.drew_ ?_ | refine Over.set_ ?_ (by simp; try omega) _))⟩

theorem cell_congr {w w' : World} {b o : Nat} (h : w'.heap[b]? = w.heap[b]?) : w'.cell? ⟨b, o, none⟩ = w.cell? ⟨b, o, none⟩ := by
 simp only [World.cell?, h]
theorem Pts.agree {w w' : World} {A : Option Addr} {n : Nat} {xs : List (Int × Int)} (h : Pts w A n xs) (hz : w.heap.size ≤ w'.heap.size) (ha : ∀ p, A = some p → w'.heap[p.block]? = w.heap[p.block]?) : Pts w' A n xs := by
 refine ⟨h.1, fun hn => ?_⟩
 obtain ⟨b, o, rfl, hlt, hc⟩ := h.2 hn
 have hb := ha _ rfl
 refine ⟨b, o, rfl, by omega, fun k hk => ?_⟩
 rw [cell_congr hb, cell_congr hb]
 exact hc k hk
theorem OwnR.agree {B : Nat} {w w' : World} {g n : Nat} {rs : List Ring_} (h : OwnR B w g n rs) (hz : w.heap.size ≤ w'.heap.size) (ha : ∀ b, B ≤ b → b < w.heap.size → w'.heap[b]? = w.heap[b]?) : OwnR B w' g n rs := by
 have hB := h.1
 have hg := ha g h.1 h.2.2.1.lt
 refine ⟨h.1, h.2.1, ?_, fun k hk => ?_⟩
 ·obtain ⟨cs, hs, hh⟩ := h.2.2.1
  exact ⟨cs, hs, hg.trans hh⟩
 ·obtain ⟨gk, h1, h2, h3, h4⟩ := h.2.2.2 k hk
  have hgk := ha gk h1 h4.1.lt
  refine ⟨gk, h1, h2, (cell_congr hg).trans h3, ?_, h4.2.agree hz fun p hp => ?_⟩
  ·obtain ⟨cs, hs, hh⟩ := h4.1
   exact ⟨cs, hs, hgk.trans hh⟩
  ·injection hp with hp
   subst hp
   exact hgk
/-- Something that lies in the blocks from lo up to hi. -/
def Res.clo (lo hi : Nat) (P0 : World → Prop) : Res where
 F b := lo ≤ b ∧ b < hi
 P w := hi ≤ w.heap.size ∧ ∀ w', hi ≤ w'.heap.size → (∀ b, lo ≤ b → b < hi → w'.heap[b]? = w.heap[b]?) → P0 w'
 low w h b hb := Nat.lt_of_lt_of_le hb.2 h.1
 B := 0
 dep w w' h hz hb := ⟨Nat.le_trans h.1 hz, fun w'' h2 h3 => h.2 w'' h2 fun b h4 h5 => (h3 b h4 h5).trans (hb b (Nat.lt_of_lt_of_le h5 h.1) (.inr ⟨h4, h5⟩))⟩
section
variable {w : World} {w0 : Bs} {Rs : List Res}
end
end Go.Proofs.YtjhaakollekjeaaDoor
