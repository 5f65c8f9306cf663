import Derived.Test.YtjhaakollekjeaaR4
import Derived.Test.YtjhaakollekjeaaR6
namespace Go.Proofs.Ytjhaakollekjeaa
open Go Go.RowKit
set_option linter.unusedVariables false
set_option linter.unusedSimpArgs false

theorem szV_big {n : Nat} (h : ¬ (n : Int) ≤ 1048576) : szV 1048576 n = -1 := by unfold szV; rw [if_neg h]
theorem szV_small {n : Nat} (h : (n : Int) ≤ 1048576) : szV 1048576 n = 1048576 - n := by unfold szV; rw [if_pos h]

abbrev Ring_ := List (Int × Int)
def rg (rs : List Ring_) (k : Nat) : Ring_ := rs.getD k []
theorem at_r {rs : List Ring_} {k : Nat} (h : k < rs.length) : rs[k] = rg rs k := by simp [rg, List.getD, List.getElem?_eq_getElem h]

/-- A slice of rings that reads as the list rs. -/
def Rings (w : World) (A : Option Addr) (n : Nat) (rs : List Ring_) : Prop :=
 rs.length = n ∧ (0 < n → ∃ b o, A = some ⟨b, o, none⟩ ∧ b < w.heap.size ∧ ∀ k, k < n → ∃ Ak ck, w.cell? ⟨b, o + k, none⟩ = some (.slice Ak (rg rs k).length ck) ∧ Pts w Ak (rg rs k).length (rg rs k) ∧ ((rg rs k).length : Int) ≤ 9223372036854775807)
theorem Rings.over {w w' : World} {A : Option Addr} {n : Nat} {rs : List Ring_} (h : Rings w A n rs) (hb : Over w w') : Rings w' A n rs := by
 refine ⟨h.1, fun hn => ?_⟩
 obtain ⟨b, o, hA, hlt, hc⟩ := h.2 hn
 refine ⟨b, o, hA, Nat.lt_of_lt_of_le hlt hb.size, fun k hk => ?_⟩
 obtain ⟨Ak, ck, h1, h2, h3⟩ := hc k hk
 exact ⟨Ak, ck, ((ocell hb).1 b _ hlt).trans h1, h2.over hb, h3⟩
theorem Rings.at_ {w : World} {A : Option Addr} {n k : Nat} {rs : List Ring_} (h : Rings w A n rs) (hk : k < n) :
  ∃ b o Ak ck, A = some ⟨b, o, none⟩ ∧ b < w.heap.size ∧ w.cell? ⟨b, o + k, none⟩ = some (.slice Ak (rg rs k).length ck) ∧ Pts w Ak (rg rs k).length (rg rs k) ∧ ((rg rs k).length : Int) ≤ 9223372036854775807 := by
 obtain ⟨b, o, hA, hb, hc⟩ := h.2 (by omega)
 obtain ⟨Ak, ck, h1, h2, h3⟩ := hc k hk
 exact ⟨b, o, Ak, ck, hA, hb, h1, h2, h3⟩

/-- A slice of rings of the call's own: block g, whole; each ring a block of its own, from B on. -/
def OwnR (B : Nat) (w : World) (g n : Nat) (rs : List Ring_) : Prop :=
 B ≤ g ∧ rs.length = n ∧ Blk w g 75 n ∧ ∀ k, k < n → ∃ gk, B ≤ gk ∧ gk ≠ g ∧ w.cell? ⟨g, k, none⟩ = some (.slice (some ⟨gk, 0, none⟩) (rg rs k).length (rg rs k).length) ∧ Own w gk (rg rs k).length (rg rs k)
/-- The first k rings lie there. -/
def FillR (B : Nat) (w : World) (g k : Nat) (rs : List Ring_) : Prop :=
 ∀ j, j < k → ∃ gk, B ≤ gk ∧ gk ≠ g ∧ w.cell? ⟨g, j, none⟩ = some (.slice (some ⟨gk, 0, none⟩) (rg rs j).length (rg rs j).length) ∧ Own w gk (rg rs j).length (rg rs j)
theorem FillR.over {B : Nat} {w w' : World} {g k : Nat} {rs : List Ring_} (h : FillR B w g k rs) (hg : g < w.heap.size) (ho : Over w w') : FillR B w' g k rs := by
 intro j hj
 obtain ⟨gk, h1, h2, h3, h4⟩ := h j hj
 exact ⟨gk, h1, h2, ((ocell ho).1 g _ hg).trans h3, h4.over ho⟩
theorem FillR.step {B : Nat} {w : World} {g k m T gk : Nat} {rs : List Ring_} (h : FillR B w g k rs) (hb : Blk w g T m) (hk : k < m) (h1 : B ≤ gk) (h2 : gk ≠ g) (ho : Own w gk (rg rs k).length (rg rs k)) :
  FillR B (w.setCell ⟨g, k, none⟩ (.slice (some ⟨gk, 0, none⟩) (rg rs k).length (rg rs k).length)) g (k + 1) rs := by
 obtain ⟨u, hu⟩ := hb.cell hk
 intro j hj
 by_cases hjk : j = k
 ·subst hjk
  exact ⟨gk, h1, h2, World.cell?_setCell_same _ _ _ hu, ho.far (Ne.symm h2) _⟩
 ·obtain ⟨gj, e1, e2, e3, e4⟩ := h j (by omega)
  refine ⟨gj, e1, e2, ?_, e4.far (Ne.symm e2) _⟩
  rw [World.cell?_setCell_other _ _ _ _ (by simp <;> omega)]
  exact e3
theorem FillR.own {B : Nat} {w : World} {g n : Nat} {rs : List Ring_} (h : FillR B w g n rs) (hg : B ≤ g) (hb : Blk w g 75 n) (hn : rs.length = n) : OwnR B w g n rs := ⟨hg, hn, hb, h⟩
theorem OwnR.over {B : Nat} {w w' : World} {g n : Nat} {rs : List Ring_} (h : OwnR B w g n rs) (ho : Over w w') : OwnR B w' g n rs :=
 ⟨h.1, h.2.1, h.2.2.1.over ho, FillR.over h.2.2.2 h.2.2.1.lt ho⟩
theorem Blk.far {w : World} {g T m : Nat} (h : Blk w g T m) {p : Addr} (hp : p.block ≠ g) (u : Value) : Blk (w.setCell p u) g T m := by
 obtain ⟨cs, hs, hh⟩ := h
 exact ⟨cs, hs, (Below.heap_setCell w p u g (Ne.symm hp)).trans hh⟩
theorem OwnR.far {B : Nat} {w : World} {g n : Nat} {rs : List Ring_} (h : OwnR B w g n rs) {p : Addr} (hp : p.block < B) (u : Value) : OwnR B (w.setCell p u) g n rs := by
 have hg := h.1
 refine ⟨hg, h.2.1, h.2.2.1.far (by omega) u, fun k hk => ?_⟩
 obtain ⟨gk, h1, h2, h3, h4⟩ := h.2.2.2 k hk
 refine ⟨gk, h1, h2, ?_, h4.far (by omega) u⟩
 rw [World.cell?_setCell_other _ _ _ _ (fun e => by rw [e] at hp; simp at hp; omega)]
 exact h3
theorem OwnR.low {B B' : Nat} {w : World} {g n : Nat} {rs : List Ring_} (h : OwnR B w g n rs) (hB : B' ≤ B) : OwnR B' w g n rs := by
 refine ⟨by have := h.1; omega, h.2.1, h.2.2.1, fun k hk => ?_⟩
 obtain ⟨gk, h1, h2⟩ := h.2.2.2 k hk
 exact ⟨gk, by omega, h2⟩
theorem OwnR.rings {B : Nat} {w : World} {g n : Nat} {rs : List Ring_} (h : OwnR B w g n rs) (hm : ∀ k, k < n → ((rg rs k).length : Int) ≤ 1048576) : Rings w (some ⟨g, 0, none⟩) n rs := by
 refine ⟨h.2.1, fun _ => ⟨g, 0, rfl, h.2.2.1.lt, fun k hk => ?_⟩⟩
 obtain ⟨gk, h1, h2, h3, h4⟩ := h.2.2.2 k hk
 rw [Nat.zero_add]
 exact ⟨_, _, h3, h4.2, by have := hm k hk; omega⟩

/-- How many points the first k rings have. -/
def sumTo (rs : List Ring_) : Nat → Nat
 | 0 => 0
 | k + 1 => sumTo rs k + (rg rs k).length
theorem sumTo_mono (rs : List Ring_) {k m : Nat} (h : k ≤ m) : sumTo rs k ≤ sumTo rs m := by
 induction m with
 | zero => rw [Nat.le_zero.1 h]; omega
 | succ m ih =>
  rcases Nat.lt_or_ge k (m + 1) with h' | h'
  ·have := ih (by omega); simp only [sumTo]; omega
  ·rw [show k = m + 1 by omega]; omega
def total (rs : List Ring_) : Nat := rs.length + sumTo rs rs.length
theorem rg_le_total (rs : List Ring_) {k : Nat} (h : k < rs.length) : (rg rs k).length ≤ total rs := by
 have := sumTo_mono rs (show k + 1 ≤ rs.length by omega)
 simp only [sumTo] at this
 unfold total
 omega

/-- A region. -/
abbrev regV (A : Option Addr) (n c : Nat) : Value := .agg #[.slice A n c]

set_option maxHeartbeats 1000000 in
theorem szRingS_any (A : Option Addr) (n c : Nat) (rs : List Ring_) (l : Int) (w : World) (h : Rings w A n rs) (hl : 0 ≤ l) (hl' : l ≤ 1048576) (hn : (n : Int) ≤ 9223372036854775807) :
  Calls Try.prog 27 #[.slice A n c, .int .i64 l] w fun e w' => e = .returned (.int .i64 (szV l (total rs))) ∧ Over w w' := by
 have hlen := h.1
 have htot : total rs = n + sumTo rs n := by unfold total; rw [hlen]
 by_cases h0 : l < n
 ·have hv : Hid (szV l (total rs) = -1) := by unfold Hid szV; rw [if_neg (by rw [htot]; omega)]
  clear htot hlen h
  go_enter Try.func27, Try.ntmps27
  go_wp2
  go_ret
  exact ⟨by rw [hv.out]; rfl, (by repeat (first | exact Over.refl _ | (with_reducible assumption) | refine Over.alloc_ ?_ _ | refine Over.trans ?_ (by with_reducible assumption) | refine Over.drew_ ?_ | refine Over.set_ ?_ (by simp; try omega) _))⟩
 ·have htot' := Lib.hid htot
  have hlen' := Lib.hid hlen
  have hn2 : (n : Int) ≤ 1048576 := by omega
  clear htot hlen hn
  go_enter Try.func27, Try.ntmps27
  go_wp2
  go_loopw [1, 5] (fun s i wr => ∃ k : Nat, k ≤ n ∧ i = .int .i64 k ∧ s = .int .i64 (l - n - sumTo rs k) ∧ 0 ≤ l - n - sumTo rs k ∧ Over w wr) (fun _ i _ => n - (intOf i).toNat)
  case atStart => exact ⟨0, Nat.zero_le _, rfl, by simp [sumTo], by simp [sumTo]; omega, Over.refl _⟩
  case round =>
   rename_i wr
   obtain ⟨k, hk, rfl, rfl, hpos, hb⟩ := hrel
   by_cases hlt : k < n
   ·obtain ⟨b, o, Ak, ck, rfl, hbB, hcell, hpts, hmax⟩ := (h.over hb).at_ hlt
    have hs : Hid (sumTo rs (k + 1) = sumTo rs k + (rg rs k).length) := rfl
    have hmono := Lib.hid (sumTo_mono rs (show k + 1 ≤ n by omega))
    clear h
    go_wp2_with fail
    refine (szRing_any _ _ _ _ _ hpos (by omega) hmax).mono ?_
    clear hmax
    by_cases hle : ((rg rs k).length : Int) ≤ l - n - sumTo rs k
    ·have hsz : szV (l - n - sumTo rs k) (rg rs k).length = l - n - sumTo rs k - (rg rs k).length := by unfold szV; rw [if_pos hle]
     rw [hsz]
     rintro e w2 ⟨rfl, h2⟩
     go_wp2
     go_roundw
     case rel => exact ⟨k + 1, by omega, by go_num, by rw [hs.out]; go_num, by have := hs.out; omega, (by repeat (first | exact Over.refl _ | (with_reducible assumption) | refine Over.alloc_ ?_ _ | refine Over.trans ?_ (by with_reducible assumption) | refine Over.drew_ ?_ | refine Over.set_ ?_ (by simp; try omega) _))⟩
     case measure => simp [intOf]; omega
    ·have hsz : szV (l - n - sumTo rs k) (rg rs k).length = -1 := by unfold szV; rw [if_neg hle]
     have hv : Hid (szV l (total rs) = -1) := by
      have h1 := hs.out
      have h2 := hmono.out
      have h3 := htot'.out
      unfold Hid szV
      rw [if_neg (by rw [h3]; omega)]
     rw [hsz]
     rintro e w2 ⟨rfl, h2⟩
     go_wp2
     go_ret
     exact ⟨by rw [hv.out]; rfl, (by repeat (first | exact Over.refl _ | (with_reducible assumption) | refine Over.alloc_ ?_ _ | refine Over.trans ?_ (by with_reducible assumption) | refine Over.drew_ ?_ | refine Over.set_ ?_ (by simp; try omega) _))⟩
   ·have hkn : k = n := by omega
    rw [hkn] at hpos ⊢
    have hv : Hid (szV l (total rs) = l - n - sumTo rs n) := by
     have h3 := htot'.out
     unfold Hid szV
     rw [h3, if_pos (by omega)]
     omega
    clear h hkn hlt
    go_wp2
    go_ret
    exact ⟨by rw [hv.out]; rfl, hb⟩

theorem szRegion_any (A : Option Addr) (n c : Nat) (rs : List Ring_) (l : Int) (w : World) (h : Rings w A n rs) (hl : 0 ≤ l) (hl' : l ≤ 1048576) (hn : (n : Int) ≤ 9223372036854775807) :
  Calls Try.prog 6 #[regV A n c, .int .i64 l] w fun e w' => e = .returned (.int .i64 (szV l (total rs))) ∧ Over w w' := by
 by_cases hle : (total rs : Int) ≤ l
 ·have hv : szV l (total rs) = l - total rs := by unfold szV; rw [if_pos hle]
  go_enter Try.func6, Try.ntmps6
  go_wp2_with (go_at_call 27; refine (szRingS_any _ _ _ rs _ _ (h.over (by repeat (first | exact Over.refl _ | (with_reducible assumption) | refine Over.alloc_ ?_ _ | refine Over.trans ?_ (by with_reducible assumption) | refine Over.drew_ ?_ | refine Over.set_ ?_ (by simp; try omega) _))) hl hl' hn).mono ?_; rintro e wx ⟨rfl, hb⟩; (first | (replace hO := Over.trans hO hb) | (replace hO := Over.trans (Over.alloc_ hO _) hb) | (replace hO := Over.trans (Over.alloc_ (Over.alloc_ hO _) _) hb) | (have hO := hb)); (try clear hc hf); obtain ⟨hc, hf⟩ := ocell hO; (try clear hb); (try clear hz0); have hz0 : w.heap.size < wx.heap.size := Nat.lt_of_lt_of_le (by simp <;> omega) (Over.size hO))
  go_ret
  exact ⟨by rw [hv]; rfl, (by repeat (first | exact Over.refl _ | (with_reducible assumption) | refine Over.alloc_ ?_ _ | refine Over.trans ?_ (by with_reducible assumption) | refine Over.drew_ ?_ | refine Over.set_ ?_ (by simp; try omega) _))⟩
 ·have hv : szV l (total rs) = -1 := by unfold szV; rw [if_neg hle]
  go_enter Try.func6, Try.ntmps6
  go_wp2_with (go_at_call 27; refine (szRingS_any _ _ _ rs _ _ (h.over (by repeat (first | exact Over.refl _ | (with_reducible assumption) | refine Over.alloc_ ?_ _ | refine Over.trans ?_ (by with_reducible assumption) | refine Over.drew_ ?_ | refine Over.set_ ?_ (by simp; try omega) _))) hl hl' hn).mono ?_; rintro e wx ⟨rfl, hb⟩; (first | (replace hO := Over.trans hO hb) | (replace hO := Over.trans (Over.alloc_ hO _) hb) | (replace hO := Over.trans (Over.alloc_ (Over.alloc_ hO _) _) hb) | (have hO := hb)); (try clear hc hf); obtain ⟨hc, hf⟩ := ocell hO; (try clear hb); (try clear hz0); have hz0 : w.heap.size < wx.heap.size := Nat.lt_of_lt_of_le (by simp <;> omega) (Over.size hO))
  go_ret
  exact ⟨by rw [hv]; rfl, (by repeat (first | exact Over.refl _ | (with_reducible assumption) | refine Over.alloc_ ?_ _ | refine Over.trans ?_ (by with_reducible assumption) | refine Over.drew_ ?_ | refine Over.set_ ?_ (by simp; try omega) _))⟩

theorem ringInfo : (Try.prog.info? 75).map (fun i => (i.zero, i.size, i.bytes)) = some (some (.agg #[.slice none 0 0]), 1, 24) := by kernel_rfl

set_option maxHeartbeats 1000000 in
theorem toRingS_any (A : Option Addr) (n c : Nat) (rs : List Ring_) (w : World) (h : Rings w A n rs) (ht : (total rs : Int) ≤ 1048576) :
  Calls Try.prog 30 #[.slice A n c] w fun e w' => ∃ g, e = .returned (.slice (some ⟨g, 0, none⟩) n n) ∧ OwnR w.heap.size w' g n rs ∧ Over w w' := by
 have hlen := h.1
 have hn : (n : Int) ≤ 1048576 := by unfold total at ht; omega
 obtain ⟨i0, hi, hz0, hz1, hz2⟩ := info_parts2 ringInfo
 have hmk : ∀ w : World, (Instr.makeSlice 27 (.int .i64 (n : Int)) (.int .i64 (n : Int))).run Try.prog w = .ok (.slice (some ⟨w.heap.size, 0, none⟩) n n) (w.alloc (.cells (madeCells (Value.agg #[.slice none 0 0]).cells (n * 1)) 75)) := by
  intro w
  have := run_make (P := Try.prog) w 27 75 i0 _ Try.underlying27 hi hz0 .i64 .i64 n n (by omega) (by omega) (by rw [hz2]; omega) (by omega)
  rw [hz1] at this
  simpa using this
 clear hi hz0 hz1 hz2
 go_enter Try.func30, Try.ntmps30
 go_wp2
 have hblk0 := Blk.new w (madeCells (Value.agg #[.slice none 0 0]).cells (n * 1)) 75
 rw [size_madeCells, Nat.mul_one] at hblk0
 have HB := Lib.hid hblk0
 have hlen' := Lib.hid hlen
 clear hblk0 hmk hlen
 go_loopw [4] (fun i wr => ∃ k : Nat, k ≤ n ∧ i = .int .i64 k ∧ Over w wr ∧ Blk wr w.heap.size 75 n ∧ FillR w.heap.size wr w.heap.size k rs) (fun i _ => n - (intOf i).toNat)
 case atStart => exact ⟨0, Nat.zero_le _, rfl, (by repeat (first | exact Over.refl _ | (with_reducible assumption) | refine Over.alloc_ ?_ _ | refine Over.trans ?_ (by with_reducible assumption) | refine Over.drew_ ?_ | refine Over.set_ ?_ (by simp; try omega) _)), by first | exact HB.out | (have := HB.out; simpa using this), fun j hj => absurd hj (by omega)⟩
 case round =>
  rename_i wr
  obtain ⟨k, hk, rfl, hO, hblk, hfil⟩ := hrel
  clear HB
  by_cases hlt : k < n
  ·obtain ⟨b, o, Ak, ck, rfl, hbB, hcell, hpts, hmax⟩ := (h.over hO).at_ hlt
   have hr : ((rg rs k).length : Int) ≤ 1048576 := by have := rg_le_total rs (k := k) (by rw [hlen'.out]; exact hlt); omega
   have Hblk := Lib.hid hblk
   have Hfil := Lib.hid hfil
   have HO := Lib.hid hO
   clear hblk hfil h hmax ht hO
   go_wp2_with fail
   refine (toRing_any _ _ _ _ _ hpts hr).mono ?_
   rintro e w2 ⟨g2, rfl, hg2, hown2, h2⟩
   have hblk2 := Hblk.out.over h2
   obtain ⟨u1, hu1⟩ := hblk2.cell (i := k) hlt
   have hf1 := hblk2.frozen k
   have hlt1 := Hblk.out.lt
   have R := Lib.hid ((Hfil.out.over Hblk.out.lt h2).step hblk2 hlt (by omega) (by omega) hown2)
   have Hb2 := Lib.hid (hblk2.set_ k (.slice (some ⟨g2, 0, none⟩) (rg rs k).length (rg rs k).length))
   have HO2 := Lib.hid (Over.set_ (HO.out.trans h2) (p := ⟨w.heap.size, k, none⟩) (Nat.le_refl _) (.slice (some ⟨g2, 0, none⟩) (rg rs k).length (rg rs k).length))
   clear hblk2 h2 hown2 hpts
   go_wp2
   go_roundw
   case rel => exact ⟨k + 1, by omega, by go_num, HO2.out, Hb2.out, R.out⟩
   case measure => simp [intOf]; omega
  ·have hkn : k = n := by omega
   rw [hkn] at hfil
   have R := Lib.hid (hfil.own (Nat.le_refl _) hblk hlen'.out)
   have HO := Lib.hid hO
   clear hblk hfil h hO
   go_wp2
   go_ret
   exact ⟨w.heap.size, rfl, R.out, HO.out⟩

set_option maxHeartbeats 400000 in
theorem toRegion_any (A : Option Addr) (n c : Nat) (rs : List Ring_) (w : World) (h : Rings w A n rs) (ht : (total rs : Int) ≤ 1048576) :
  Calls Try.prog 8 #[regV A n c] w fun e w' => ∃ g, e = .returned (regV (some ⟨g, 0, none⟩) n n) ∧ OwnR w.heap.size w' g n rs ∧ Over w w' := by
 go_enter Try.func8, Try.ntmps8
 go_wp2_with (go_at_call 30; refine (toRingS_any _ _ _ rs _ (h.over (by repeat (first | exact Over.refl _ | (with_reducible assumption) | refine Over.alloc_ ?_ _ | refine Over.trans ?_ (by with_reducible assumption) | refine Over.drew_ ?_ | refine Over.set_ ?_ (by simp; try omega) _))) ht).mono ?_; rintro e wx ⟨g, rfl, hown, hO⟩; obtain ⟨hc, hf⟩ := ocell hO; have hz0 : w.heap.size < wx.heap.size := Nat.lt_of_lt_of_le (by simp <;> omega) (Over.size hO); have hz1 : w.heap.size + 1 < wx.heap.size := Nat.lt_of_lt_of_le (by simp <;> omega) (Over.size hO); have hz2 : w.heap.size + 1 + 1 < wx.heap.size := Nat.lt_of_lt_of_le (by simp <;> omega) (Over.size hO))
 exact bodyPost_ret (v := regV (some ⟨g, 0, none⟩) n n) (by simp [results, Try.results8, go_sem, *]) rfl ⟨g, rfl, (((hown.far (by simp <;> omega) _).far (by simp <;> omega) _)).low (by simp <;> omega), (by repeat (first | exact Over.refl _ | (with_reducible assumption) | refine Over.alloc_ ?_ _ | refine Over.trans ?_ (by with_reducible assumption) | refine Over.drew_ ?_ | refine Over.set_ ?_ (by simp; try omega) _))⟩
end Go.Proofs.Ytjhaakollekjeaa
