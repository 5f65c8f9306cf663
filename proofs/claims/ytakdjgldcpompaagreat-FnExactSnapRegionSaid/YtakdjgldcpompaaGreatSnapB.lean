/- Regions made bare, led through hot points; the reference's rounds. -/
import Derived.Test.YtakdjgldcpompaaGreatLaw
import Derived.Test.YtakdjgldcpompaaGreatEnds
import Derived.Test.YtakdjgldcpompaaGreatLawKit
import Derived.Test.YtakdjgldcpompaaGreatSlc
namespace Go.Proofs.YtakdjgldcpompaaGreat
open Go Go.RowKit
set_option linter.unusedVariables false
set_option linter.unusedSimpArgs false
set_option maxRecDepth 100000
set_option maxHeartbeats 4000000
set_option linter.unusedVariables false
set_option linter.unusedSimpArgs false

set_option maxHeartbeats 1000000 in
set_option maxRecDepth 100000 in
theorem specSameRegion_any (A B : Option Addr) (n m c d : Nat) (rs ss : List Ring_) (w : World) (h : Rings w A n rs) (h' : Rings w B m ss) (ht : (total rs : Int) ≤ 1048576) (ht' : (total ss : Int) ≤ 1048576) :
  Calls Tryz.prog 30 #[regV A n c, regV B m d] w fun e w' => e = .returned (.bool (decide (rs = ss))) ∧ Over w w' := by
 have hl := Lib.hid h.1
 have hl' := Lib.hid h'.1
 have hn : (n : Int) ≤ 1048576 := by have := hl.out; unfold total at ht; omega
 have hm : (m : Int) ≤ 1048576 := by have := hl'.out; unfold total at ht'; omega
 have Ht := Lib.hid (And.intro ht ht')
 clear ht ht'
 by_cases hnm : n = m
 ·subst hnm
  have hq : ((n : Int) != (n : Int)) = false := by simp
  go_enter Tryz.func30, Tryz.ntmps30
  go_wp2
  go_loopw [5] (fun i wr => ∃ k : Nat, k ≤ n ∧ i = .int .i64 k ∧ Over ((w.alloc (.cells #[.slice A n c] 28)).alloc (.cells #[.slice B n d] 28)) wr ∧ Hid (∀ j, j < k → rg rs j = rg ss j)) (fun i _ => n - (intOf i).toNat)
  case atStart => exact ⟨0, Nat.zero_le _, rfl, Over.refl _, fun j hj => absurd hj (by omega)⟩
  case round =>
   rename_i wr
   obtain ⟨k, hk, rfl, hb, hall⟩ := hrel
   have hO : Over w wr := (Over.alloc_ (Over.alloc _ _) _).trans hb
   have x1 : wr.cell? ⟨w.heap.size, 0, none⟩ = some (.slice A n c) := by
    rw [(ocell hb).1 _ _ (by simp; omega), (ocell (Over.alloc _ _)).1 _ _ (by simp)]
    exact cell_new _ _ _ _
   have x2 : wr.cell? ⟨w.heap.size + 1, 0, none⟩ = some (.slice B n d) := by
    rw [(ocell hb).1 _ _ (by simp)]
    simp
   have z2 : w.heap.size + 1 < wr.heap.size := Nat.lt_of_lt_of_le (by simp) hb.size
   have z1 : w.heap.size < wr.heap.size := by omega
   by_cases hlt : k < n
   ·obtain ⟨b, o, Ak, ck, rfl, hbB, hcell, hpts, hmax⟩ := (h.over hO).at_ hlt
    obtain ⟨b', o', Ak', ck', rfl, hbB', hcell', hpts', _⟩ := (h'.over hO).at_ hlt
    have hr : ((rg rs k).length : Int) ≤ 1048576 := by have := Ht.out; have := rg_le_total rs (k := k) (by rw [hl.out]; exact hlt); omega
    have hr' : ((rg ss k).length : Int) ≤ 1048576 := by have := Ht.out; have := rg_le_total ss (k := k) (by rw [hl'.out]; exact hlt); omega
    have Hb := Lib.hid hb
    have HP := Lib.hid (And.intro hpts hpts')
    clear h h' hb hO hmax hpts hpts'
    by_cases he : rg rs k = rg ss k
    ·have hd : decide (rg rs k = rg ss k) = true := decide_eq_true he
     have hs : Hid (∀ j, j < k + 1 → rg rs j = rg ss j) := by
      intro j hj
      by_cases hjk : j = k
      ·subst hjk; exact he
      ·exact hall.out j (by omega)
     have Hd := Lib.hid hd
     clear hd he hall
     go_wp2
     refine wp_region_O (B := ob _) (Over.refl _) (by kernel_rfl) (by simp only [List.size_toArray, List.length_cons, List.length_nil, Nat.reduceAdd]; rfl) (fun hBW => ?_)
     refine wpAnyO_take (i := 0) (v := _) (by assumption) (by simp only [xa,xb]; rfl) (by kernel_rfl) (by kernel_rfl) (by kernel_rfl) (by exact fun _ _ _ h => h) (by kernel_rfl) (fun wx hS => by (obtain ⟨hc, hf⟩ := ocell hS; clear hS; go_simp; (try go_bits); exact ⟨rfl, Over.refl _⟩)) ?_
     simp only [Act.put,xd,yc,yd]
     refine wpAnyO_take (i := 1) (v := _) (by assumption) (by simp only [xa,xb,xc]; rfl) (by kernel_rfl) (by kernel_rfl) (by kernel_rfl) (by exact fun _ _ _ h => h) (by kernel_rfl) (fun wx hS => by (obtain ⟨hc, hf⟩ := ocell hS; clear hS; go_simp; (try go_bits); exact ⟨rfl, Over.refl _⟩)) ?_
     simp only [Act.put,xd,yc,yd]
     refine wpAnyO_take (i := 2) (v := _) (by assumption) (by simp only [xa,xb,xc]; rfl) (by kernel_rfl) (by kernel_rfl) (by kernel_rfl) (by exact fun _ _ _ h => h) (by kernel_rfl) (fun wx hS => by (obtain ⟨hc, hf⟩ := ocell hS; clear hS; go_simp; (try go_bits); exact ⟨rfl, Over.refl _⟩)) ?_
     simp only [Act.put,xd,yc,yd]
     refine wpAnyO_take (i := 3) (v := _) (by assumption) (by simp only [xa,xb,xc]; rfl) (by kernel_rfl) (by kernel_rfl) (by kernel_rfl) (by exact fun _ _ _ h => h) (by kernel_rfl) (fun wx hS => by (obtain ⟨hc, hf⟩ := ocell hS; clear hS; go_simp; (try go_bits); exact ⟨rfl, Over.refl _⟩)) ?_
     simp only [Act.put,xd,yc,yd]
     refine wpAnyO_take (i := 4) (v := _) (by assumption) (by simp only [xa,xb,xc]; rfl) (by kernel_rfl) (by kernel_rfl) (by kernel_rfl) (by exact fun _ _ _ h => h) (by kernel_rfl) (fun wx hS => by (obtain ⟨hc, hf⟩ := ocell hS; clear hS; go_simp; (try go_bits); exact ⟨rfl, Over.refl _⟩)) ?_
     simp only [Act.put,xd,yc,yd]
     refine wpAnyO_take (i := 5) (v := _) (by assumption) (by simp only [xa,xb,xc]; rfl) (by kernel_rfl) (by kernel_rfl) (by kernel_rfl) (by exact fun _ _ _ h => h) (by kernel_rfl) (fun wx hS => by (obtain ⟨hc, hf⟩ := ocell hS; clear hS; go_simp; (try go_bits); exact ⟨rfl, Over.refl _⟩)) ?_
     simp only [Act.put,xd,yc,yd]
     refine wpAnyO_take (i := 6) (v := _) (by assumption) (by simp only [xa,xb,xc]; rfl) (by kernel_rfl) (by kernel_rfl) (by kernel_rfl) (by exact fun _ _ _ h => h) (by kernel_rfl) (fun wx hS => by (obtain ⟨hc, hf⟩ := ocell hS; clear hS; go_simp; (try go_bits); exact ⟨rfl, Over.refl _⟩)) ?_
     simp only [Act.put,xd,yc,yd]
     refine wpAnyO_take (i := 7) (v := _) (by assumption) (by simp only [xa,xb,xc]; rfl) (by kernel_rfl) (by kernel_rfl) (by kernel_rfl) (by exact fun _ _ _ h => h) (by kernel_rfl) (fun wx hS => by (obtain ⟨hc, hf⟩ := ocell hS; clear hS; go_simp; (try go_bits); exact ⟨rfl, Over.refl _⟩)) ?_
     simp only [Act.put,xd,yc,yd]
     refine wpAnyO_take (i := 8) (v := _) (by assumption) (by simp only [xa,xb,xc]; rfl) (by kernel_rfl) (by kernel_rfl) (by kernel_rfl) (by exact fun _ _ _ h => h) (by kernel_rfl) (fun wx hS => by (obtain ⟨hc, hf⟩ := ocell hS; clear hS; go_simp; (try go_bits); exact ⟨rfl, Over.refl _⟩)) ?_
     simp only [Act.put,xd,yc,yd]
     refine wpAnyO_take (i := 9) (v := _) (by assumption) (by simp only [xa,xb,xc]; rfl) (by kernel_rfl) (by kernel_rfl) (by kernel_rfl) (by exact fun _ _ _ h => h) (by kernel_rfl) (fun wx hS => by (obtain ⟨hc, hf⟩ := ocell hS; clear hS; go_simp; (try go_bits); exact ⟨rfl, Over.refl _⟩)) ?_
     simp only [Act.put,xd,yc,yd]
     refine wpAnyO_take (i := 10) (v := _) (by assumption) (by simp only [xa,xb,xc]; rfl) (by kernel_rfl) (by kernel_rfl) (by kernel_rfl) (by exact fun _ _ _ h => h) (by kernel_rfl) (fun wx hS => by (obtain ⟨hc, hf⟩ := ocell hS; clear hS; go_simp; (try go_bits); exact ⟨rfl, Over.refl _⟩)) ?_
     simp only [Act.put,xd,yc,yd]
     refine wpAnyO_take (i := 11) (v := _) (by assumption) (by simp only [xa,xb,xc]; rfl) (by kernel_rfl) (by kernel_rfl) (by kernel_rfl) (by exact fun _ _ _ h => h) (by kernel_rfl) (fun wx hS => by (obtain ⟨hc, hf⟩ := ocell hS; clear hS; go_simp; (try go_bits); exact ⟨rfl, Over.refl _⟩)) ?_
     simp only [Act.put,xd,yc,yd]
     refine wpAnyO_take (i := 12) (v := _) (by assumption) (by simp only [xa,xb,xc]; rfl) (by kernel_rfl) (by kernel_rfl) (by kernel_rfl) (by exact fun _ _ _ h => h) (by kernel_rfl) (fun wx hS => by (go_simp; refine (l13Same_any _ _ _ _ _ _ (rg rs k) (rg ss k) _ (HP.out.1.over hS) (HP.out.2.over hS) hr hr').mono ?_; rw [Hd.out]; rintro e w1 ⟨rfl, hb1⟩; exact ⟨rfl, hb1⟩)) ?_
     simp only [Act.put,xd,yc,yd]
     refine wpAnyO_take (i := 13) (v := _) (by assumption) (by simp only [xa,xb,xc]; rfl) (by kernel_rfl) (by kernel_rfl) (by kernel_rfl) (by exact fun _ _ _ h => h) (by kernel_rfl) (fun wx hS => by (obtain ⟨hc, hf⟩ := ocell hS; clear hS; go_simp; (try go_bits); exact ⟨rfl, Over.refl _⟩)) ?_
     simp only [Act.put,xd,yc,yd]
     refine wpAnyO_done (by kernel_rfl) (fun w2 h2 => ?_) _
     try clear hBW
     have HO := Lib.hid (Hb.out.trans h2)
     clear h2
     go_wp2
     go_roundw
     case rel => exact ⟨k + 1, by omega, by go_num, HO.out, hs⟩
     case measure => simp [intOf]; omega
    ·have hd : decide (rg rs k = rg ss k) = false := decide_eq_false he
     have hq : Hid (decide (rs = ss) = false) := decide_eq_false (fun e => he (by rw [e]))
     have Hd := Lib.hid hd
     clear hd he hall
     go_wp2
     refine wp_region_O (B := ob _) (Over.refl _) (by kernel_rfl) (by simp only [List.size_toArray, List.length_cons, List.length_nil, Nat.reduceAdd]; rfl) (fun hBW => ?_)
     refine wpAnyO_take (i := 0) (v := _) (by assumption) (by simp only [xa,xb]; rfl) (by kernel_rfl) (by kernel_rfl) (by kernel_rfl) (by exact fun _ _ _ h => h) (by kernel_rfl) (fun wx hS => by (obtain ⟨hc, hf⟩ := ocell hS; clear hS; go_simp; (try go_bits); exact ⟨rfl, Over.refl _⟩)) ?_
     simp only [Act.put,xd,yc,yd]
     refine wpAnyO_take (i := 1) (v := _) (by assumption) (by simp only [xa,xb,xc]; rfl) (by kernel_rfl) (by kernel_rfl) (by kernel_rfl) (by exact fun _ _ _ h => h) (by kernel_rfl) (fun wx hS => by (obtain ⟨hc, hf⟩ := ocell hS; clear hS; go_simp; (try go_bits); exact ⟨rfl, Over.refl _⟩)) ?_
     simp only [Act.put,xd,yc,yd]
     refine wpAnyO_take (i := 2) (v := _) (by assumption) (by simp only [xa,xb,xc]; rfl) (by kernel_rfl) (by kernel_rfl) (by kernel_rfl) (by exact fun _ _ _ h => h) (by kernel_rfl) (fun wx hS => by (obtain ⟨hc, hf⟩ := ocell hS; clear hS; go_simp; (try go_bits); exact ⟨rfl, Over.refl _⟩)) ?_
     simp only [Act.put,xd,yc,yd]
     refine wpAnyO_take (i := 3) (v := _) (by assumption) (by simp only [xa,xb,xc]; rfl) (by kernel_rfl) (by kernel_rfl) (by kernel_rfl) (by exact fun _ _ _ h => h) (by kernel_rfl) (fun wx hS => by (obtain ⟨hc, hf⟩ := ocell hS; clear hS; go_simp; (try go_bits); exact ⟨rfl, Over.refl _⟩)) ?_
     simp only [Act.put,xd,yc,yd]
     refine wpAnyO_take (i := 4) (v := _) (by assumption) (by simp only [xa,xb,xc]; rfl) (by kernel_rfl) (by kernel_rfl) (by kernel_rfl) (by exact fun _ _ _ h => h) (by kernel_rfl) (fun wx hS => by (obtain ⟨hc, hf⟩ := ocell hS; clear hS; go_simp; (try go_bits); exact ⟨rfl, Over.refl _⟩)) ?_
     simp only [Act.put,xd,yc,yd]
     refine wpAnyO_take (i := 5) (v := _) (by assumption) (by simp only [xa,xb,xc]; rfl) (by kernel_rfl) (by kernel_rfl) (by kernel_rfl) (by exact fun _ _ _ h => h) (by kernel_rfl) (fun wx hS => by (obtain ⟨hc, hf⟩ := ocell hS; clear hS; go_simp; (try go_bits); exact ⟨rfl, Over.refl _⟩)) ?_
     simp only [Act.put,xd,yc,yd]
     refine wpAnyO_take (i := 6) (v := _) (by assumption) (by simp only [xa,xb,xc]; rfl) (by kernel_rfl) (by kernel_rfl) (by kernel_rfl) (by exact fun _ _ _ h => h) (by kernel_rfl) (fun wx hS => by (obtain ⟨hc, hf⟩ := ocell hS; clear hS; go_simp; (try go_bits); exact ⟨rfl, Over.refl _⟩)) ?_
     simp only [Act.put,xd,yc,yd]
     refine wpAnyO_take (i := 7) (v := _) (by assumption) (by simp only [xa,xb,xc]; rfl) (by kernel_rfl) (by kernel_rfl) (by kernel_rfl) (by exact fun _ _ _ h => h) (by kernel_rfl) (fun wx hS => by (obtain ⟨hc, hf⟩ := ocell hS; clear hS; go_simp; (try go_bits); exact ⟨rfl, Over.refl _⟩)) ?_
     simp only [Act.put,xd,yc,yd]
     refine wpAnyO_take (i := 8) (v := _) (by assumption) (by simp only [xa,xb,xc]; rfl) (by kernel_rfl) (by kernel_rfl) (by kernel_rfl) (by exact fun _ _ _ h => h) (by kernel_rfl) (fun wx hS => by (obtain ⟨hc, hf⟩ := ocell hS; clear hS; go_simp; (try go_bits); exact ⟨rfl, Over.refl _⟩)) ?_
     simp only [Act.put,xd,yc,yd]
     refine wpAnyO_take (i := 9) (v := _) (by assumption) (by simp only [xa,xb,xc]; rfl) (by kernel_rfl) (by kernel_rfl) (by kernel_rfl) (by exact fun _ _ _ h => h) (by kernel_rfl) (fun wx hS => by (obtain ⟨hc, hf⟩ := ocell hS; clear hS; go_simp; (try go_bits); exact ⟨rfl, Over.refl _⟩)) ?_
     simp only [Act.put,xd,yc,yd]
     refine wpAnyO_take (i := 10) (v := _) (by assumption) (by simp only [xa,xb,xc]; rfl) (by kernel_rfl) (by kernel_rfl) (by kernel_rfl) (by exact fun _ _ _ h => h) (by kernel_rfl) (fun wx hS => by (obtain ⟨hc, hf⟩ := ocell hS; clear hS; go_simp; (try go_bits); exact ⟨rfl, Over.refl _⟩)) ?_
     simp only [Act.put,xd,yc,yd]
     refine wpAnyO_take (i := 11) (v := _) (by assumption) (by simp only [xa,xb,xc]; rfl) (by kernel_rfl) (by kernel_rfl) (by kernel_rfl) (by exact fun _ _ _ h => h) (by kernel_rfl) (fun wx hS => by (obtain ⟨hc, hf⟩ := ocell hS; clear hS; go_simp; (try go_bits); exact ⟨rfl, Over.refl _⟩)) ?_
     simp only [Act.put,xd,yc,yd]
     refine wpAnyO_take (i := 12) (v := _) (by assumption) (by simp only [xa,xb,xc]; rfl) (by kernel_rfl) (by kernel_rfl) (by kernel_rfl) (by exact fun _ _ _ h => h) (by kernel_rfl) (fun wx hS => by (go_simp; refine (l13Same_any _ _ _ _ _ _ (rg rs k) (rg ss k) _ (HP.out.1.over hS) (HP.out.2.over hS) hr hr').mono ?_; rw [Hd.out]; rintro e w1 ⟨rfl, hb1⟩; exact ⟨rfl, hb1⟩)) ?_
     simp only [Act.put,xd,yc,yd]
     refine wpAnyO_take (i := 13) (v := _) (by assumption) (by simp only [xa,xb,xc]; rfl) (by kernel_rfl) (by kernel_rfl) (by kernel_rfl) (by exact fun _ _ _ h => h) (by kernel_rfl) (fun wx hS => by (obtain ⟨hc, hf⟩ := ocell hS; clear hS; go_simp; (try go_bits); exact ⟨rfl, Over.refl _⟩)) ?_
     simp only [Act.put,xd,yc,yd]
     refine wpAnyO_done (by kernel_rfl) (fun w2 h2 => ?_) _
     try clear hBW
     have HO := Lib.hid ((Over.alloc_ (Over.alloc _ _) _).trans (Hb.out.trans h2))
     clear h2
     go_wp2
     go_ret
     exact ⟨by rw [hq.out]; rfl, HO.out⟩
   ·have hkn : k = n := by omega
    have hq : Hid (decide (rs = ss) = true) := decide_eq_true (rings_ext (by rw [hl.out, hl'.out]) (fun j hj => hall.out j (by rw [hl.out] at hj; omega)))
    clear h h' hall hl hl' hb
    go_wp2
    go_ret
    exact ⟨by rw [hq.out]; rfl, hO⟩
 ·have hq : ((n : Int) != (m : Int)) = true := by simp; omega
  have hv : Hid (decide (rs = ss) = false) := decide_eq_false (fun e => hnm (by rw [← hl.out, ← hl'.out, e]))
  clear h h' hl hl'
  go_enter Tryz.func30, Tryz.ntmps30
  go_wp2
  go_ret
  exact ⟨by rw [hv.out]; rfl, (by repeat (first | exact Over.refl _ | (with_reducible assumption) | refine Over.alloc_ ?_ _ | refine Over.trans ?_ (by with_reducible assumption) | refine Over.drew_ ?_ | refine Over.set_ ?_ (by simp; try omega) _))⟩
theorem take_lA {ls : List Leg} {j : Nat} (h : j < ls.length) : ((ls.map lA).take (j + 1)).flatMap ptCells = ((ls.map lA).take j).flatMap ptCells ++ [.int .i64 (lg ls j).ax, .int .i64 (lg ls j).ay] := by
 rw [List.take_succ_eq_append_getElem (by simpa using h), List.flatMap_append]
 simp [ptCells, lA, lg, List.getD, h]
theorem keep_small {rs : List Ring_} (hr : regionB rs = true) {k : Nat} {r : Ring_} (h : r ∈ bareTo rs k) : r.length ≤ 400 := by
 obtain ⟨_, q, hq, rfl⟩ := bareTo_mem h
 obtain ⟨i, hi, e⟩ := List.getElem_of_mem hq
 have := pos_of_ring (regRing hr hi)
 rw [at_r hi] at e
 rw [e] at this
 have := keep_len q q.length
 unfold keepR
 omega
theorem ptNe' {xs ys : List Pn} {a b : Nat} (h : (px xs a == px ys b && py xs a == py ys b) = false) : pt xs a ≠ pt ys b := fun e => by
 injection e with e1 e2
 simp [e1, e2] at h
theorem ptEq2 {xs ys : List Pn} {a b : Nat} (h : (px xs a == px ys b && py xs a == py ys b) = true) : pt xs a = pt ys b := by
 simp at h
 exact Prod.ext h.1 h.2
/-- A row of slices, the rings made: a region of the call's own. -/
theorem pcs_rowB {w w' : World} {Rs : List Res} (hs : St ⟨w, []⟩ Rs w') {kr kp B T n : Nat} {l : List Pc} {x : Option Addr × Nat} {rs : List Ring_} (hr : Rs[kr]? = some (rowR B T 1 n (l.map Pc.val) x)) (hp : Rs[kp]? = some (pcsR l)) (hne : kr ≠ kp) (_e : w = w) (hl : l.length = n) (hrs : l.map (·.xs) = rs)
  (hm : ∀ j, j < rs.length → (rg rs j).length ≤ 1099511627776) : OwnG w.heap.size w'.heap.size w' x.1 n rs := by
 have hrow : w'.ownsRow B T 1 (.slice x.1 n x.2) n (l.map Pc.val) := (hs.all kr _ hr).1
 have hX := hs.all kp _ hp
 rcases hrow.2 with ⟨_, e⟩ | ⟨g, cap, cur, e, hb, hg, hcap, hmax, hsz, htk⟩
 ·subst e
  obtain rfl : l = [] := List.eq_nil_of_length_eq_zero hl
  subst hrs
  exact OwnG.nil _
 ·injection e with e1 e2 e3
  rw [e1]
  have hF : (rowR B T 1 n (l.map Pc.val) x).F g := by show Value.ownBlock (.slice x.1 n x.2) = some g; rw [e1]; rfl
  have hown := pcs_own (lo := w.heap.size) (o := 0) hg (((hs.all kr _ hr).2.1 g hF).elim id (fun h => by cases h)) (fun j hj => ?_) hX.1 (fun h => hs.apart kr kp _ _ hne hr hp g hF h) (fun q hq => (hX.2.1 q hq).elim id (fun h => by cases h)) (fun e he => ?_)
  ·rw [hrs, hl] at hown
   exact hown
  ·have hc : cur[j]? = (l.map Pc.val)[j]? := by rw [← htk, List.getElem?_take, if_pos (by omega)]; simp
   rw [Nat.zero_add, hc]
   simp [hj]
  ·have : e.xs ∈ rs := hrs ▸ List.mem_map.2 ⟨e, he, rfl⟩
   obtain ⟨j, hj, e2⟩ := List.getElem_of_mem this
   have := hm j hj
   rw [← at_r hj, e2] at this
   omega
theorem l13Bare_any (bb oo : Nat) (A : Option Addr) (n c : Nat) (rs : List Ring_) (w : World) (hcell0 : w.cell? ⟨bb, oo, none⟩ = some (.slice A n c)) (hbb : bb < w.heap.size) (h : Rings w A n rs) (hr : regionB rs = true) :
  Calls Tryz.prog 13 #[.pointer (some ⟨bb, oo, none⟩)] w fun e w' => ∃ A' c', e = .returned (regV A' (bareRs rs).length c') ∧ OwnG w.heap.size w'.heap.size w' A' (bareRs rs).length (bareRs rs) ∧ Over w w' := by
 have hl := h.1
 have hn40 := reg_len hr
 refine walk_from (m := 52) (Tryz.func13) rfl rfl (Nat.le_of_ble_eq_true rfl) ?_
 refine at_seq ?_
 refine at_region ?_
 refine at_op rfl ?_
 refine op_alloc rfl tyz_impl_Region rfl (by decide) (fun b1 => ?_)
 refine at_rsE (by simp only [ya,yb,yc,yd,Value.cells,ye]; rfl) ?_
 refine at_end ?_
 refine at_seq ?_
 refine at_region ?_
 refine at_q rfl rfl (by decide) (qt_build rfl rfl (bld_impl_Region_)) ?_
 refine at_op rfl ?_
 refine op_alloc rfl tyz_impl_Region rfl (by decide) (fun b2 => ?_)
 refine at_rsE (by simp only [ya,yb,yc,yd,Value.cells,ye]; rfl) ?_
 refine at_op rfl ?_
 refine op_storeAll' (k := 1) rfl rfl rfl rfl (rfl) (by rfl) tyz_impl_Region.szx rfl rfl rfl ?_
 refine at_rsE (by simp only [ya,yb,yc,yd,Value.cells,ye]; rfl) ?_
 refine at_end ?_
 refine at_row0 (T := 61) (s := 1) ?_
 refine at_rsE (by simp only [List.nil_append, List.cons_append, List.set_cons_zero, List.set_cons_succ, List.eraseIdx_cons_zero, List.eraseIdx_cons_succ, Value.cells, List.toList_toArray]; rfl) ?_
 refine at_many0 ?_
 refine at_rsE (by simp only [List.nil_append, List.cons_append, List.set_cons_zero, List.set_cons_succ, List.eraseIdx_cons_zero, List.eraseIdx_cons_succ, Value.cells, List.toList_toArray]; rfl) ?_
 refine at_seq ?_
 refine at_seq ?_
 refine at_region ?_
 refine at_q rfl rfl (by decide) (qt_assign rfl rfl) ?_
 refine at_end ?_
 refine at_block ?_
 refine at_loopc (X := Nat × (Option Addr × Nat) × List Pc) (fun x => x.1 ≤ n ∧ x.2.2.map (·.xs) = bareTo rs x.1) (fun x => n - x.1) (fun x => [(4, .int .i64 (x.1 : Int))]) (C := [(0, _), (2, _), (3, _)]) ⟨rfl, rfl, rfl, trivial⟩ (fun x => [.cel b1 28 [.slice none 0 0], .cel b2 28 [.slice x.2.1.1 x.2.2.length x.2.1.2], rowR (Bs.N ⟨w, []⟩) 61 1 x.2.2.length (x.2.2.map Pc.val) x.2.1, pcsR x.2.2]) (0, (none, 0), []) (⟨Nat.zero_le _, rfl⟩) ⟨rfl, rfl, rfl, rfl, trivial⟩ (fun _ h => h) ?_
 intro ⟨k, ⟨rA, rc⟩, l⟩ hx L hL1
 refine at_envE (by simp only [ya,yb]; rfl) ?_
 refine at_rsE (by first | (dsimp only; done) | (dsimp only; rfl) | rfl) ?_
 obtain ⟨hk, hmp⟩ : k ≤ n ∧ l.map (·.xs) = bareTo rs k := hx
 have hlk : l.length = (bareTo rs k).length := (by have := congrArg List.length hmp; rwa [List.length_map] at this)
 have hlen := bareTo_len rs k
 refine at_seq ?_
 refine at_seq ?_
 refine at_region ?_
 refine at_q rfl rfl (by decide) (qt_move rfl rfl) ?_
 refine at_q rfl rfl (by decide) (qt_move rfl rfl) ?_
 refine at_q rfl rfl (by decide) (qt_nilCheck rfl rfl) ?_
 refine at_q rfl rfl (by decide) (qt_fieldAddr rfl rfl tyf_impl_Region_0) ?_
 refine at_q rfl rfl (by decide) (qt_load1 rfl rfl ty1_sl_impl_Ring (rdOld0 hcell0 hbb)) ?_
 refine at_q rfl rfl (by decide) (qt_len rfl rfl tyl_sl_impl_Ring) ?_
 refine at_q rfl rfl (by decide) (qt_lss rfl rfl rfl) ?_
 refine at_end ?_
 refine at_cond rfl (fun c1 => ?_) (fun c1 => ?_)
 ·try simp only [za,zb,zc,zd,ze,zf,Bool.not_true,Bool.not_false,zg,zh,ne_eq,zi,zj] at c1
  have hlt : k < n := (by omega)
  obtain ⟨eb, eo, Ak, ck, rfl, hbB, hcell, hpts, hmax⟩ := h.at_ hlt
  have hpos := pos_of_ring (regRing hr (show k < rs.length by omega))
  obtain ⟨E, hE⟩ : ∃ E, E = edgesR (rg rs k) := ⟨_, rfl⟩
  have hEl : E.length ≤ 400 := (by rw [hE]; have := edgesTo_len (rg rs k) (rg rs k).length; unfold edgesR; omega)
  have hkp : keepR (rg rs k) = E.map lA := (by rw [hE]; rfl)
  have hkl : (keepR (rg rs k)).length = E.length := (by rw [hkp, List.length_map])
  refine at_skip ?_
  refine norm_then ?_
  refine at_seq ?_
  refine at_block ?_
  refine at_seq ?_
  refine at_region ?_
  refine at_q rfl rfl (by decide) (qt_move rfl rfl) ?_
  refine at_q rfl rfl (by decide) (qt_nilCheck rfl rfl) ?_
  refine at_q rfl rfl (by decide) (qt_fieldAddr rfl rfl tyf_impl_Region_0) ?_
  refine at_q rfl rfl (by decide) (qt_load1 rfl rfl ty1_sl_impl_Ring (rdOld0 hcell0 hbb)) ?_
  refine at_q rfl rfl (by decide) (qt_move rfl rfl) ?_
  refine at_q rfl rfl (by decide) (qt_index rfl rfl rfl tyl_sl_impl_Ring (by omega)) ?_
  refine at_op rfl ?_
  refine op_call ok_spec_l13Edges (v := fun x => .slice x.1 _ x.2) (r := fun x => rowR 0 66 4 _ _ x) (H := fun _ => True) rfl rfl rfl (by decide) (fun w1 hs => newRow' ((l13Edges_any eb (eo + k * 1) Ak _ ck (rg rs k) w1 (by rw [Nat.mul_one]; exact rdOld hcell hbB w1 hs) (Nat.lt_of_lt_of_le hbB hs.fin.size) (hpts.over hs.fin) (by omega)).mono fun e w' ⟨v, h1, _, h2, h3⟩ => ⟨v, h1, h2, h3⟩)) ?_
  rintro ⟨eA, ec⟩ -
  refine at_rsE (by simp only [ya,yb,yc,yd,Value.cells,ye]; rfl) ?_
  refine at_q rfl rfl (by decide) (qt_assign rfl rfl) ?_
  refine at_end ?_
  refine at_seq ?_
  refine at_region ?_
  refine at_q rfl rfl (by decide) (qt_build rfl rfl (bld_impl_Ring_)) ?_
  refine at_op rfl ?_
  refine op_alloc rfl tyz_impl_Ring rfl (by decide) (fun b3 => ?_)
  refine at_rsE (by simp only [ya,yb,yc,yd,Value.cells,ye]; rfl) ?_
  refine at_op rfl ?_
  refine op_storeAll' (k := 5) rfl rfl rfl rfl (rfl) (by rfl) tyz_impl_Ring.szx rfl rfl rfl ?_
  refine at_rsE (by simp only [ya,yb,yc,yd,Value.cells,ye]; rfl) ?_
  refine at_end ?_
  refine at_row0 (T := 64) (s := 2) ?_
  refine at_rsE (by simp only [List.nil_append, List.cons_append, List.set_cons_zero, List.set_cons_succ, List.eraseIdx_cons_zero, List.eraseIdx_cons_succ, Value.cells, List.toList_toArray]; rfl) ?_
  rw [← hE]
  refine at_seq ?_
  refine at_seq ?_
  refine at_region ?_
  refine at_q rfl rfl (by decide) (qt_assign rfl rfl) ?_
  refine at_end ?_
  refine at_block ?_
  refine at_loopc (X := Nat × Option Addr × Nat) (fun y => y.1 ≤ E.length) (fun y => E.length - y.1) (fun y => [(7, .int .i64 (y.1 : Int))]) (C := [(0, _), (2, _), (3, _), (4, _), (9, _), (10, _), (11, _), (12, _), (13, _), (14, _), (15, _), (18, _), (19, _), (20, _), (21, _), (22, _), (23, _), (24, _), (5, _), (25, _), (6, _)]) ⟨rfl, rfl, rfl, rfl, rfl, rfl, rfl, rfl, rfl, rfl, rfl, rfl, rfl, rfl, rfl, rfl, rfl, rfl, rfl, rfl, rfl, trivial⟩ (fun y => [.cel b1 28 [.slice none 0 0], .cel b2 28 [.slice rA l.length rc], rowR (Bs.N ⟨w, []⟩) 61 1 l.length (l.map Pc.val) (rA, rc), pcsR l, rowR 0 66 4 E.length (E.flatMap legCells) (eA, ec), .cel b3 61 [.slice y.2.1 y.1 y.2.2], rowR (Bs.N ⟨w, []⟩) 64 2 y.1 (((E.map lA).take y.1).flatMap ptCells) y.2]) (0, none, 0) (Nat.zero_le _) ⟨rfl, rfl, rfl, rfl, rfl, rfl, rfl, rfl, rfl, rfl, rfl, rfl, rfl, rfl, rfl, rfl, rfl, rfl, rfl, rfl, rfl, rfl, trivial⟩ (fun _ h => h) ?_
  intro ⟨j, qA, qc⟩ hy L hL2
  refine at_envE (by simp only [ya,yb]; rfl) ?_
  refine at_rsE (by first | (dsimp only; done) | (dsimp only; rfl) | rfl) ?_
  have hj : j ≤ E.length := hy
  refine at_seq ?_
  refine at_seq ?_
  refine at_region ?_
  refine at_q rfl rfl (by decide) (qt_move rfl rfl) ?_
  refine at_q rfl rfl (by decide) (qt_move rfl rfl) ?_
  refine at_q rfl rfl (by decide) (qt_len rfl rfl tyl_sl_spec_l13Edge) ?_
  refine at_q rfl rfl (by decide) (qt_lss rfl rfl rfl) ?_
  refine at_end ?_
  refine at_cond rfl (fun c2 => ?_) (fun c2 => ?_)
  ·try simp only [za,zb,zc,zd,ze,zf,Bool.not_true,Bool.not_false,zg,zh,ne_eq,zi,zj] at c2
   have hjl : j < E.length := (by omega)
   refine at_fact (fun w hs => rowSome (k := 4) rfl hs (by omega)) ?_
   rintro ⟨eg, rfl⟩
   refine at_skip ?_
   refine norm_then ?_
   refine at_seq ?_
   refine at_block ?_
   refine dg_start mixed rfl ?_
   refine dg_phase 8 ?_
   refine dg_q (i := 0) rfl (by kernel_rfl) (by kernel_rfl) (by kernel_rfl) [1] (by kernel_rfl) (fun _ _ _ h => h) rfl rfl (by decide) (fun _ h => h.upto ⟨rfl, rfl, rfl, rfl, rfl, rfl, rfl, trivial⟩) (qt_fieldAddr rfl rfl tyf_impl_Ring_0) ?_
   refine dg_q (i := 1) rfl (by kernel_rfl) (by kernel_rfl) (by kernel_rfl) [] (by kernel_rfl) (fun _ _ _ h => h) rfl rfl (by decide) (fun _ h => h.upto ⟨rfl, rfl, rfl, rfl, rfl, rfl, rfl, trivial⟩) (qt_load1 rfl rfl ty1_sl_impl_Pt (rd1 (k := 5) rfl rfl)) ?_
   refine dg_q (i := 2) rfl (by kernel_rfl) (by kernel_rfl) (by kernel_rfl) [4, 5, 6, 7] (by kernel_rfl) (fun _ _ _ h => h) rfl rfl (by decide) (fun _ h => h.upto ⟨rfl, rfl, rfl, rfl, rfl, rfl, rfl, trivial⟩) (qt_move rfl rfl) ?_
   refine dg_q (i := 3) rfl (by kernel_rfl) (by kernel_rfl) (by kernel_rfl) [4, 5, 6, 7] (by kernel_rfl) (fun _ _ _ h => h) rfl rfl (by decide) (fun _ h => h.upto ⟨rfl, rfl, rfl, rfl, rfl, rfl, rfl, trivial⟩) (qt_move rfl rfl) ?_
   refine dg_q (i := 4) rfl (by kernel_rfl) (by kernel_rfl) (by kernel_rfl) [5, 6, 7] (by kernel_rfl) (fun _ _ _ h => h) rfl rfl (by decide) (fun _ h => h.upto ⟨rfl, rfl, rfl, rfl, rfl, rfl, rfl, trivial⟩) (qt_index rfl rfl rfl tyl_sl_spec_l13Edge (by omega)) ?_
   refine dg_q (i := 5) rfl (by kernel_rfl) (by kernel_rfl) (by kernel_rfl) [6, 7] (by kernel_rfl) (fun _ _ _ h => h) rfl rfl (by decide) (fun _ h => h.upto ⟨rfl, rfl, rfl, rfl, rfl, rfl, rfl, trivial⟩) (qt_fieldAddr rfl rfl tyf_spec_l13Edge_0) ?_
   refine dg_q (i := 6) rfl (by kernel_rfl) (by kernel_rfl) (by kernel_rfl) [7] (by kernel_rfl) (fun _ _ _ h => h) rfl rfl (by decide) (fun _ h => h.upto ⟨rfl, rfl, rfl, rfl, rfl, rfl, rfl, trivial⟩) (qt_loadS rfl rfl tys_impl_Pt rfl (rdLegA (b := eg) (o := 0) (rowLegs (k := 4) (x := (some ⟨eg, 0, none⟩, ec)) (ls := E) rfl rfl) hjl)) ?_
   refine dg_one (i := 7) rfl (by decide) (by kernel_rfl) rfl ?_
   refine op_buildSlice rfl rfl (bsl_sl_impl_Pt_1_0 rfl) rfl (by decide) (fun b4 => ?_)
   refine at_rsE (by simp only [ya,yb,yc,yd,Value.cells,ye]; rfl) ?_
   refine dr_keep (fun _ h => h.upto ⟨rfl, rfl, rfl, rfl, rfl, rfl, rfl, trivial⟩) ?_
   refine dg_bar rfl (by kernel_rfl) rfl ?_
   refine op_appendR (k := 6) rfl tyl_sl_impl_Pt tyz_impl_Pt (by decide) rfl (by decide) rfl rfl rfl (fun w' hs => src_cel hs (k := 7) rfl rfl) (by simp [Value.oneCell']) (by unfold maxLen; omega) (by omega) (Nat.le_refl _) (fun r1 => ?_)
   refine at_rsE (by simp only [ya,yb,yc,yd,Value.cells,ye]; rfl) ?_
   refine dg_phaseW 11 [5] ?_
   refine dg_q (i := 9) rfl (by kernel_rfl) (by kernel_rfl) (by kernel_rfl) [] (by kernel_rfl) (fun _ _ _ h => h) rfl rfl (by decide) (fun _ h => (h.wk [5]).upto ⟨rfl, rfl, rfl, rfl, rfl, rfl, rfl, rfl, trivial⟩) (qt_fieldAddr rfl rfl tyf_impl_Ring_0) ?_
   refine dg_one (i := 10) rfl (by decide) (by kernel_rfl) rfl ?_
   refine op_storeAll' (k := 5) rfl rfl rfl rfl (rfl) (by rfl) tyz_sl_impl_Pt.szx rfl rfl rfl ?_
   refine at_rsE (by simp only [ya,yb,yc,yd,Value.cells,ye]; rfl) ?_
   refine dr_keep (fun _ h => (h.wk [5]).upto ⟨rfl, rfl, rfl, rfl, rfl, rfl, rfl, rfl, trivial⟩) ?_
   refine dg_done (by kernel_rfl) ?_
   refine norm_block ?_
   refine norm_then ?_
   refine at_region ?_
   refine at_q rfl rfl (by decide) (qt_move rfl rfl) ?_
   refine at_q rfl rfl (by decide) (qt_add rfl rfl rfl (by omega) (by omega)) ?_
   refine at_q rfl rfl (by decide) (qt_assign rfl rfl) ?_
   refine at_end ?_
   exact at_againc hL2 ((j + 1, r1)) ((show j + 1 ≤ E.length by omega)) (by simp only; omega) ⟨vi (by omega), rfl, rfl, rfl, rfl, rfl, rfl, rfl, rfl, rfl, rfl, rfl, rfl, rfl, rfl, rfl, rfl, rfl, rfl, rfl, rfl, rfl, trivial⟩ (fun _ h => h.upto ⟨rfl, rfl, rfl, rfl, rfl, rfl, by rw [take_lA hjl], trivial⟩)
  ·try simp only [za,zb,zc,zd,ze,zf,Bool.not_true,Bool.not_false,zg,zh,ne_eq,zi,zj] at c2
   have hje : j = E.length := (by omega)
   subst hje
   rw [List.take_of_length_le (by rw [List.length_map]; omega), ← hkp]
   refine at_exit ?_
   refine pass_then (fun h => by cases h) ?_
   refine pass_then (fun h => by cases h) ?_
   refine pass_hit ?_
   refine norm_then ?_
   refine at_seq ?_
   refine at_region ?_
   refine at_q rfl rfl (by decide) (qt_move rfl rfl) ?_
   refine at_q rfl rfl (by decide) (qt_len rfl rfl tyl_sl_spec_l13Edge) ?_
   refine at_q rfl rfl (by decide) (qt_gtr rfl rfl rfl) ?_
   refine at_end ?_
   refine at_cond rfl (fun c3 => ?_) (fun c3 => ?_)
   ·try simp only [za,zb,zc,zd,ze,zf,Bool.not_true,Bool.not_false,zg,zh,ne_eq,zi,zj] at c3
    have hpl : 0 < (keepR (rg rs k)).length := (by omega)
    refine at_region ?_
    refine at_q rfl rfl (by decide) (qt_fieldAddr rfl rfl tyf_impl_Region_0) ?_
    refine at_q rfl rfl (by decide) (qt_load1 rfl rfl ty1_sl_impl_Ring (rd1 (k := 1) rfl rfl)) ?_
    refine at_q rfl rfl (by decide) (qt_loadS rfl rfl tys_impl_Ring rfl (rdAll (k := 5) rfl)) ?_
    refine at_op rfl ?_
    refine op_buildSlice rfl rfl (bsl_sl_impl_Ring_1_0 rfl) rfl (by decide) (fun b5 => ?_)
    refine at_rsE (by simp only [ya,yb,yc,yd,Value.cells,ye]; rfl) ?_
    refine at_op rfl ?_
    refine op_appendR (k := 2) rfl tyl_sl_impl_Ring tyz_impl_Ring (by decide) rfl (by decide) rfl rfl rfl (fun w' hs => src_cel hs (k := 7) rfl rfl) (by simp [Value.oneCell']) (by unfold maxLen; omega) (by omega) (Nat.le_refl _) (fun r2 => ?_)
    refine at_rsE (by simp only [ya,yb,yc,yd,Value.cells,ye]; rfl) ?_
    refine at_q rfl rfl (by decide) (qt_fieldAddr rfl rfl tyf_impl_Region_0) ?_
    refine at_op rfl ?_
    refine op_storeAll' (k := 1) rfl rfl rfl rfl (rfl) (by rfl) tyz_sl_impl_Ring.szx rfl rfl rfl ?_
    refine at_rsE (by simp only [ya,yb,yc,yd,Value.cells,ye]; rfl) ?_
    refine at_nil ?_
    refine at_pc 6 rfl hkl (fun clo chi => ?_)
    refine at_rsE (by simp only [List.nil_append, List.cons_append, List.set_cons_zero, List.set_cons_succ, List.eraseIdx_cons_zero, List.eraseIdx_cons_succ, Value.cells, List.toList_toArray]; rfl) ?_
    refine at_push 3 6 rfl rfl (by decide) rfl ?_
    refine at_rsE (by simp only [List.nil_append, List.cons_append, List.set_cons_zero, List.set_cons_succ, List.eraseIdx_cons_zero, List.eraseIdx_cons_succ, Value.cells, List.toList_toArray]; rfl) ?_
    refine norm_block ?_
    refine norm_then ?_
    refine at_region ?_
    refine at_q rfl rfl (by decide) (qt_move rfl rfl) ?_
    refine at_q rfl rfl (by decide) (qt_add rfl rfl rfl (by omega) (by omega)) ?_
    refine at_q rfl rfl (by decide) (qt_assign rfl rfl) ?_
    refine at_end ?_
    exact at_againc hL1 ((k + 1, r2, l ++ [⟨keepR (rg rs k), qA, qc, clo, chi⟩])) (⟨show k + 1 ≤ n by omega, by rw [List.map_append, hmp, bareTo_yes (by omega) hpl]; rfl⟩) (by simp only; omega) ⟨vi (by omega), rfl, rfl, rfl, trivial⟩ (fun _ h => (h.picks [0, 1, 2, 3] (by decide)).upto ⟨rfl, by rw [List.length_append]; rfl, by rw [List.map_append, List.length_append]; simp [Pc.val, hkl], (pcsR_push _ _).symm, trivial⟩)
   ·try simp only [za,zb,zc,zd,ze,zf,Bool.not_true,Bool.not_false,zg,zh,ne_eq,zi,zj] at c3
    refine at_skip ?_
    refine norm_block ?_
    refine norm_then ?_
    refine at_region ?_
    refine at_q rfl rfl (by decide) (qt_move rfl rfl) ?_
    refine at_q rfl rfl (by decide) (qt_add rfl rfl rfl (by omega) (by omega)) ?_
    refine at_q rfl rfl (by decide) (qt_assign rfl rfl) ?_
    refine at_end ?_
    exact at_againc hL1 ((k + 1, (rA, rc), l)) (⟨show k + 1 ≤ n by omega, by rw [hmp, bareTo_no (by omega) (by omega)]⟩) (by simp only; omega) ⟨vi (by omega), rfl, rfl, rfl, trivial⟩ (fun _ h => h.upto ⟨rfl, rfl, rfl, rfl, trivial⟩)
 ·try simp only [za,zb,zc,zd,ze,zf,Bool.not_true,Bool.not_false,zg,zh,ne_eq,zi,zj] at c1
  have hkn : k = rs.length := (by omega)
  subst hkn
  refine at_exit ?_
  refine pass_then (fun h => by cases h) ?_
  refine pass_then (fun h => by cases h) ?_
  refine pass_hit ?_
  refine norm_then ?_
  refine at_seq ?_
  refine at_region ?_
  refine at_q rfl rfl (by decide) (qt_loadS rfl rfl tys_impl_Region rfl (rdAll (k := 1) rfl)) ?_
  refine at_op rfl ?_
  refine op_storeAll' (k := 0) rfl rfl rfl rfl (rfl) (by rfl) tyz_impl_Region.szx rfl rfl rfl ?_
  refine at_rsE (by simp only [ya,yb,yc,yd,Value.cells,ye]; rfl) ?_
  refine at_end ?_
  refine at_retc ?_
  refine at_ret1 rfl (rvCelS (k := 0) rfl tys_impl_Region rfl rfl) ?_
  intro w' hs
  have hrs : l.map (·.xs) = bareRs rs := hmp
  have hbl : (bareRs rs).length = l.length := hlk.symm
  exact ⟨rA, rc, by rw [hbl], by rw [hbl]; exact pcs_rowB hs (kr := 2) (kp := 3) rfl rfl (by decide) rfl rfl hrs (fun j hj => by have := keep_small hr (List.getElem_mem hj); rw [at_r hj] at this; omega), hs.fin⟩
theorem dropRepeats_any (A : Option Addr) (n c : Nat) (rs : List Ring_) (w : World) (h : Rings w A n rs) (hr : regionB rs = true) :
  Calls Tryz.prog 19 #[regV A n c] w fun e w' => ∃ A' c', e = .returned (regV A' (bareRs rs).length c') ∧ OwnG w.heap.size w'.heap.size w' A' (bareRs rs).length (bareRs rs) ∧ Over w w' := by
 have hl := h.1
 have hn40 := reg_len hr
 refine walk_from (m := 53) (Tryz.func19) rfl rfl (Nat.le_of_ble_eq_true rfl) ?_
 refine at_seq ?_
 refine at_region ?_
 refine at_op rfl ?_
 refine op_box rfl rfl (rfl) rfl (by decide) (fun b1 => ?_)
 refine at_rsE (by simp only [ya,yb,yc,yd,Value.cells,ye]; rfl) ?_
 refine at_op rfl ?_
 refine op_alloc rfl tyz_impl_Region rfl (by decide) (fun b2 => ?_)
 refine at_rsE (by simp only [ya,yb,yc,yd,Value.cells,ye]; rfl) ?_
 refine at_end ?_
 refine at_seq ?_
 refine at_region ?_
 refine at_op rfl ?_
 refine op_alloc rfl tyz_impl_Region rfl (by decide) (fun b3 => ?_)
 refine at_rsE (by simp only [ya,yb,yc,yd,Value.cells,ye]; rfl) ?_
 refine at_end ?_
 refine at_row0 (T := 61) (s := 1) ?_
 refine at_rsE (by simp only [List.nil_append, List.cons_append, List.set_cons_zero, List.set_cons_succ, List.eraseIdx_cons_zero, List.eraseIdx_cons_succ, Value.cells, List.toList_toArray]; rfl) ?_
 refine at_many0 ?_
 refine at_rsE (by simp only [List.nil_append, List.cons_append, List.set_cons_zero, List.set_cons_succ, List.eraseIdx_cons_zero, List.eraseIdx_cons_succ, Value.cells, List.toList_toArray]; rfl) ?_
 refine at_seq ?_
 refine at_seq ?_
 refine at_region ?_
 refine at_q rfl rfl (by decide) (qt_fieldAddr rfl rfl tyf_impl_Region_0) ?_
 refine at_q rfl rfl (by decide) (qt_load1 rfl rfl ty1_sl_impl_Ring (rd1 (k := 0) rfl rfl)) ?_
 refine at_q rfl rfl (by decide) (qt_len rfl rfl tyl_sl_impl_Ring) ?_
 refine at_q rfl rfl (by decide) (qt_move rfl rfl) ?_
 refine at_end ?_
 refine at_block ?_
 refine at_loopc (X := Nat × (Option Addr × Nat) × List Pc) (fun x => x.1 ≤ n ∧ x.2.2.map (·.xs) = bareTo rs x.1) (fun x => n - x.1) (fun x => [(12, .int .i64 (x.1 : Int))]) (C := [(2, _), (3, _), (10, _), (11, _)]) ⟨rfl, rfl, rfl, rfl, trivial⟩ (fun x => [.cel b1 28 [.slice A n c], .cel b2 28 [.slice none 0 0], .cel b3 28 [.slice x.2.1.1 x.2.2.length x.2.1.2], rowR (Bs.N ⟨w, []⟩) 61 1 x.2.2.length (x.2.2.map Pc.val) x.2.1, pcsR x.2.2]) (0, (none, 0), []) (⟨Nat.zero_le _, rfl⟩) ⟨rfl, rfl, rfl, rfl, rfl, trivial⟩ (fun _ h => h) ?_
 intro ⟨k, ⟨rA, rc⟩, l⟩ hx L hL1
 refine at_envE (by simp only [ya,yb]; rfl) ?_
 refine at_rsE (by first | (dsimp only; done) | (dsimp only; rfl) | rfl) ?_
 obtain ⟨hk, hmp⟩ : k ≤ n ∧ l.map (·.xs) = bareTo rs k := hx
 have hlk : l.length = (bareTo rs k).length := (by have := congrArg List.length hmp; rwa [List.length_map] at this)
 have hlen := bareTo_len rs k
 refine at_seq ?_
 refine at_region ?_
 refine at_q rfl rfl (by decide) (qt_lss rfl rfl rfl) ?_
 refine at_end ?_
 refine at_seq ?_
 refine at_cond rfl (fun c1 => ?_) (fun c1 => ?_)
 ·try simp only [za,zb,zc,zd,ze,zf,Bool.not_true,Bool.not_false,zg,zh,ne_eq,zi,zj] at c1
  have hlt : k < n := (by omega)
  obtain ⟨eb, eo, Ak, ck, rfl, hbB, hcell, hpts, hmax⟩ := h.at_ hlt
  have hpos := pos_of_ring (regRing hr (show k < rs.length by omega))
  obtain ⟨pb, po, rfl, _⟩ := hpts.2 hpos.1
  obtain ⟨xs, hxs⟩ : ∃ xs, xs = rg rs k := ⟨_, rfl⟩
  rw [← hxs] at hpts hpos hcell
  have hkl := fun j => keep_len xs j
  refine at_skip ?_
  refine norm_then ?_
  refine at_seq ?_
  refine at_block ?_
  refine at_seq ?_
  refine at_region ?_
  refine at_q rfl rfl (by decide) (qt_index rfl rfl rfl tyl_sl_impl_Ring (by omega)) ?_
  refine at_q rfl rfl (by decide) (qt_loadS rfl rfl tys_impl_Ring rfl (rdOld1 hcell hbB)) ?_
  refine at_op rfl ?_
  refine op_alloc rfl tyz_impl_Ring rfl (by decide) (fun b4 => ?_)
  refine at_rsE (by simp only [ya,yb,yc,yd,Value.cells,ye]; rfl) ?_
  refine at_op rfl ?_
  refine op_storeAll' (k := 5) rfl rfl rfl rfl (rfl) (by rfl) tyz_impl_Ring.szx rfl rfl rfl ?_
  refine at_rsE (by simp only [ya,yb,yc,yd,Value.cells,ye]; rfl) ?_
  refine at_end ?_
  refine at_seq ?_
  refine at_region ?_
  refine at_q rfl rfl (by decide) (qt_assign rfl rfl) ?_
  refine at_row0 (T := 64) (s := 2) ?_
  refine at_rsE (by simp only [ya,yb,yc,yd,Value.cells,ye]; rfl) ?_
  refine at_end ?_
  refine at_seq ?_
  refine at_seq ?_
  refine at_region ?_
  refine at_q rfl rfl (by decide) (qt_fieldAddr rfl rfl tyf_impl_Ring_0) ?_
  refine at_q rfl rfl (by decide) (qt_load1 rfl rfl ty1_sl_impl_Pt (rd1 (k := 5) rfl rfl)) ?_
  refine at_q rfl rfl (by decide) (qt_len rfl rfl tyl_sl_impl_Pt) ?_
  refine at_q rfl rfl (by decide) (qt_move rfl rfl) ?_
  refine at_end ?_
  refine at_block ?_
  refine at_loopc (X := Nat × Option Addr × Nat) (fun y => y.1 ≤ xs.length) (fun y => xs.length - y.1) (fun y => [(6, .slice y.2.1 (keepTo xs y.1).length y.2.2), (19, .int .i64 (y.1 : Int))]) (C := [(2, _), (3, _), (10, _), (11, _), (12, _), (13, _), (14, _), (15, _), (5, _), (16, _), (17, _), (18, _)]) ⟨rfl, rfl, rfl, rfl, rfl, rfl, rfl, rfl, rfl, rfl, rfl, rfl, trivial⟩ (fun y => [.cel b1 28 [.slice (some ⟨eb, eo, none⟩) n c], .cel b2 28 [.slice none 0 0], .cel b3 28 [.slice rA l.length rc], rowR (Bs.N ⟨w, []⟩) 61 1 l.length (l.map Pc.val) (rA, rc), pcsR l, .cel b4 61 [.slice (some ⟨pb, po, none⟩) xs.length ck], rowR (Bs.N ⟨w, []⟩) 64 2 (keepTo xs y.1).length ((keepTo xs y.1).flatMap ptCells) y.2]) (0, none, 0) (Nat.zero_le _) ⟨rfl, rfl, rfl, rfl, rfl, rfl, rfl, rfl, rfl, rfl, rfl, rfl, rfl, rfl, trivial⟩ (fun _ h => h) ?_
  intro ⟨j, qA, qc⟩ hy L hL2
  refine at_envE (by simp only [ya,yb]; rfl) ?_
  refine at_rsE (by first | (dsimp only; done) | (dsimp only; rfl) | rfl) ?_
  have hj : j ≤ xs.length := hy
  have hkj := hkl j
  refine at_seq ?_
  refine at_region ?_
  refine at_q rfl rfl (by decide) (qt_lss rfl rfl rfl) ?_
  refine at_end ?_
  refine at_seq ?_
  refine at_cond rfl (fun c2 => ?_) (fun c2 => ?_)
  ·try simp only [za,zb,zc,zd,ze,zf,Bool.not_true,Bool.not_false,zg,zh,ne_eq,zi,zj] at c2
   have hjl : j < xs.length := (by omega)
   have hnx : nx xs j < xs.length := Nat.mod_lt _ (by omega)
   refine at_skip ?_
   refine norm_then ?_
   refine at_seq ?_
   refine at_block ?_
   refine at_seq ?_
   refine at_region ?_
   refine at_q rfl rfl (by decide) (qt_move rfl rfl) ?_
   refine at_q rfl rfl (by decide) (qt_index rfl rfl rfl tyl_sl_impl_Pt (by omega)) ?_
   refine at_q rfl rfl (by decide) (qt_loadS rfl rfl tys_impl_Pt rfl (rdPts (b := pb) (o := po) hpts hjl)) ?_
   refine at_op rfl ?_
   refine op_alloc rfl tyz_impl_Pt rfl (by decide) (fun b5 => ?_)
   refine at_rsE (by simp only [ya,yb,yc,yd,Value.cells,ye]; rfl) ?_
   refine at_q rfl rfl (by decide) (qt_assign rfl rfl) ?_
   refine at_op rfl ?_
   refine op_storeAll' (k := 7) rfl rfl rfl rfl (rfl) (by rfl) tyz_impl_Pt.szx rfl rfl rfl ?_
   refine at_rsE (by simp only [ya,yb,yc,yd,Value.cells,ye]; rfl) ?_
   refine at_end ?_
   refine at_seq ?_
   refine dg_start mixed rfl ?_
   refine dg_phase 12 ?_
   refine dg_q (i := 0) rfl (by kernel_rfl) (by kernel_rfl) (by kernel_rfl) [] (by kernel_rfl) (fun _ _ _ h => h) rfl rfl (by decide) (fun _ h => h.upto ⟨rfl, rfl, rfl, rfl, rfl, rfl, rfl, rfl, trivial⟩) (qt_loadS rfl rfl tys_impl_Pt rfl (rdAll (k := 7) rfl)) ?_
   refine dg_q (i := 1) rfl (by kernel_rfl) (by kernel_rfl) (by kernel_rfl) [] (by kernel_rfl) (fun _ _ _ h => h) rfl rfl (by decide) (fun _ h => h.upto ⟨rfl, rfl, rfl, rfl, rfl, rfl, rfl, rfl, trivial⟩) (qt_fieldAddr rfl rfl tyf_impl_Ring_0) ?_
   refine dg_q (i := 2) rfl (by kernel_rfl) (by kernel_rfl) (by kernel_rfl) [] (by kernel_rfl) (fun _ _ _ h => h) rfl rfl (by decide) (fun _ h => h.upto ⟨rfl, rfl, rfl, rfl, rfl, rfl, rfl, rfl, trivial⟩) (qt_load1 rfl rfl ty1_sl_impl_Pt (rd1 (k := 5) rfl rfl)) ?_
   refine dg_q (i := 3) rfl (by kernel_rfl) (by kernel_rfl) (by kernel_rfl) [] (by kernel_rfl) (fun _ _ _ h => h) rfl rfl (by decide) (fun _ h => h.upto ⟨rfl, rfl, rfl, rfl, rfl, rfl, rfl, rfl, trivial⟩) (qt_move rfl rfl) ?_
   refine dg_q (i := 4) rfl (by kernel_rfl) (by kernel_rfl) (by kernel_rfl) [] (by kernel_rfl) (fun _ _ _ h => h) rfl rfl (by decide) (fun _ h => h.upto ⟨rfl, rfl, rfl, rfl, rfl, rfl, rfl, rfl, trivial⟩) (qt_add rfl rfl rfl (by omega) (by omega)) ?_
   refine dg_q (i := 5) rfl (by kernel_rfl) (by kernel_rfl) (by kernel_rfl) [] (by kernel_rfl) (fun _ _ _ h => h) rfl rfl (by decide) (fun _ h => h.upto ⟨rfl, rfl, rfl, rfl, rfl, rfl, rfl, rfl, trivial⟩) (qt_fieldAddr rfl rfl tyf_impl_Ring_0) ?_
   refine dg_q (i := 6) rfl (by kernel_rfl) (by kernel_rfl) (by kernel_rfl) [] (by kernel_rfl) (fun _ _ _ h => h) rfl rfl (by decide) (fun _ h => h.upto ⟨rfl, rfl, rfl, rfl, rfl, rfl, rfl, rfl, trivial⟩) (qt_load1 rfl rfl ty1_sl_impl_Pt (rd1 (k := 5) rfl rfl)) ?_
   refine dg_q (i := 7) rfl (by kernel_rfl) (by kernel_rfl) (by kernel_rfl) [] (by kernel_rfl) (fun _ _ _ h => h) rfl rfl (by decide) (fun _ h => h.upto ⟨rfl, rfl, rfl, rfl, rfl, rfl, rfl, rfl, trivial⟩) (qt_len rfl rfl tyl_sl_impl_Pt) ?_
   refine dg_q (i := 8) rfl (by kernel_rfl) (by kernel_rfl) (by kernel_rfl) [] (by kernel_rfl) (fun _ _ _ h => h) rfl rfl (by decide) (fun _ h => h.upto ⟨rfl, rfl, rfl, rfl, rfl, rfl, rfl, rfl, trivial⟩) ((qt_rem rfl rfl rfl (by omega) (by omega) (by omega)).as (congrArg _ (nx_int' (xs := xs) rfl j))) ?_
   refine dg_q (i := 9) rfl (by kernel_rfl) (by kernel_rfl) (by kernel_rfl) [] (by kernel_rfl) (fun _ _ _ h => h) rfl rfl (by decide) (fun _ h => h.upto ⟨rfl, rfl, rfl, rfl, rfl, rfl, rfl, rfl, trivial⟩) (qt_index (j := nx xs j) rfl rfl rfl tyl_sl_impl_Pt (by omega)) ?_
   refine dg_q (i := 10) rfl (by kernel_rfl) (by kernel_rfl) (by kernel_rfl) [] (by kernel_rfl) (fun _ _ _ h => h) rfl rfl (by decide) (fun _ h => h.upto ⟨rfl, rfl, rfl, rfl, rfl, rfl, rfl, rfl, trivial⟩) (qt_loadS rfl rfl tys_impl_Pt rfl (rdPts (b := pb) (o := po) hpts hnx)) ?_
   refine dg_q (i := 11) rfl (by kernel_rfl) (by kernel_rfl) (by kernel_rfl) [] (by kernel_rfl) (fun _ _ _ h => h) rfl rfl (by decide) (fun _ h => h.upto ⟨rfl, rfl, rfl, rfl, rfl, rfl, rfl, rfl, trivial⟩) (qt_neqS_impl_Pt rfl rfl rfl) ?_
   refine dg_done (by kernel_rfl) ?_
   refine norm_then ?_
   refine at_cond rfl (fun c3 => ?_) (fun c3 => ?_)
   ·try simp only [za,zb,zc,zd,ze,zf,Bool.not_true,Bool.not_false,zg,zh,ne_eq,zi,zj] at c3
    have hne : pt xs j ≠ pt xs (nx xs j) := ptNe' c3
    refine at_region ?_
    refine at_q rfl rfl (by decide) (qt_move rfl rfl) ?_
    refine at_q rfl rfl (by decide) (qt_loadS rfl rfl tys_impl_Pt rfl (rdAll (k := 7) rfl)) ?_
    refine at_op rfl ?_
    refine op_buildSlice rfl rfl (bsl_sl_impl_Pt_1_0 rfl) rfl (by decide) (fun b6 => ?_)
    refine at_rsE (by simp only [ya,yb,yc,yd,Value.cells,ye]; rfl) ?_
    refine at_op rfl ?_
    refine op_appendR (k := 6) rfl tyl_sl_impl_Pt tyz_impl_Pt (by decide) rfl (by decide) rfl rfl rfl (fun w' hs => src_cel hs (k := 8) rfl rfl) (by simp [Value.oneCell']) (by unfold maxLen; omega) (by omega) (Nat.le_refl _) (fun r1 => ?_)
    refine at_rsE (by simp only [ya,yb,yc,yd,Value.cells,ye]; rfl) ?_
    refine at_q rfl rfl (by decide) (qt_assign rfl rfl) ?_
    refine at_nil ?_
    refine norm_block ?_
    refine norm_then ?_
    refine at_region ?_
    refine at_q rfl rfl (by decide) (qt_add rfl rfl rfl (by omega) (by omega)) ?_
    refine at_q rfl rfl (by decide) (qt_move rfl rfl) ?_
    refine at_end ?_
    exact at_againc hL2 ((j + 1, r1)) ((show j + 1 ≤ xs.length by omega)) (by simp only; omega) ⟨(by rw [keepTo_yes hne, List.length_append]; rfl), vi (by omega), rfl, rfl, rfl, rfl, rfl, rfl, rfl, rfl, rfl, rfl, rfl, rfl, trivial⟩ (fun _ h => h.upto ⟨rfl, rfl, rfl, rfl, rfl, rfl, by rw [keepTo_yes hne, List.length_append, List.flatMap_append]; rfl, trivial⟩)
   ·try simp only [za,zb,zc,zd,ze,zf,Bool.not_true,Bool.not_false,zg,zh,ne_eq,zi,zj] at c3
    refine at_skip ?_
    refine norm_block ?_
    refine norm_then ?_
    refine at_region ?_
    refine at_q rfl rfl (by decide) (qt_add rfl rfl rfl (by omega) (by omega)) ?_
    refine at_q rfl rfl (by decide) (qt_move rfl rfl) ?_
    refine at_end ?_
    exact at_againc hL2 ((j + 1, qA, qc)) ((show j + 1 ≤ xs.length by omega)) (by simp only; omega) ⟨(by rw [keepTo_no (ptEq2 c3)]; rfl), vi (by omega), rfl, rfl, rfl, rfl, rfl, rfl, rfl, rfl, rfl, rfl, rfl, rfl, trivial⟩ (fun _ h => h.upto ⟨rfl, rfl, rfl, rfl, rfl, rfl, by rw [keepTo_no (ptEq2 c3)], trivial⟩)
  ·try simp only [za,zb,zc,zd,ze,zf,Bool.not_true,Bool.not_false,zg,zh,ne_eq,zi,zj] at c2
   have hje : j = xs.length := (by omega)
   subst hje
   rw [show keepTo xs xs.length = keepR xs from rfl]
   refine at_exit ?_
   refine pass_then (fun h => by cases h) ?_
   refine pass_then (fun h => by cases h) ?_
   refine pass_hit ?_
   refine norm_then ?_
   refine at_seq ?_
   refine at_region ?_
   refine at_q rfl rfl (by decide) (qt_move rfl rfl) ?_
   refine at_q rfl rfl (by decide) (qt_len rfl rfl tyl_sl_impl_Pt) ?_
   refine at_q rfl rfl (by decide) (qt_gtr rfl rfl rfl) ?_
   refine at_end ?_
   refine at_cond rfl (fun c4 => ?_) (fun c4 => ?_)
   ·try simp only [za,zb,zc,zd,ze,zf,Bool.not_true,Bool.not_false,zg,zh,ne_eq,zi,zj] at c4
    have hpl : 0 < (keepR xs).length := (by omega)
    refine at_region ?_
    refine at_q rfl rfl (by decide) (qt_fieldAddr rfl rfl tyf_impl_Region_0) ?_
    refine at_q rfl rfl (by decide) (qt_load1 rfl rfl ty1_sl_impl_Ring (rd1 (k := 2) rfl rfl)) ?_
    refine at_q rfl rfl (by decide) (qt_move rfl rfl) ?_
    refine at_q rfl rfl (by decide) (qt_build rfl rfl (bld_impl_Ring_0 rfl)) ?_
    refine at_op rfl ?_
    refine op_buildSlice rfl rfl (bsl_sl_impl_Ring_1_0 rfl) rfl (by decide) (fun b7 => ?_)
    refine at_rsE (by simp only [ya,yb,yc,yd,Value.cells,ye]; rfl) ?_
    refine at_op rfl ?_
    refine op_appendR (k := 3) rfl tyl_sl_impl_Ring tyz_impl_Ring (by decide) rfl (by decide) rfl rfl rfl (fun w' hs => src_cel hs (k := 7) rfl rfl) (by simp [Value.oneCell']) (by unfold maxLen; omega) (by omega) (Nat.le_refl _) (fun r2 => ?_)
    refine at_rsE (by simp only [ya,yb,yc,yd,Value.cells,ye]; rfl) ?_
    refine at_q rfl rfl (by decide) (qt_fieldAddr rfl rfl tyf_impl_Region_0) ?_
    refine at_op rfl ?_
    refine op_storeAll' (k := 2) rfl rfl rfl rfl (rfl) (by rfl) tyz_sl_impl_Ring.szx rfl rfl rfl ?_
    refine at_rsE (by simp only [ya,yb,yc,yd,Value.cells,ye]; rfl) ?_
    refine at_nil ?_
    refine at_pc 6 rfl rfl (fun clo chi => ?_)
    refine at_rsE (by simp only [List.nil_append, List.cons_append, List.set_cons_zero, List.set_cons_succ, List.eraseIdx_cons_zero, List.eraseIdx_cons_succ, Value.cells, List.toList_toArray]; rfl) ?_
    refine at_push 4 6 rfl rfl (by decide) rfl ?_
    refine at_rsE (by simp only [List.nil_append, List.cons_append, List.set_cons_zero, List.set_cons_succ, List.eraseIdx_cons_zero, List.eraseIdx_cons_succ, Value.cells, List.toList_toArray]; rfl) ?_
    refine norm_block ?_
    refine norm_then ?_
    refine at_region ?_
    refine at_q rfl rfl (by decide) (qt_add rfl rfl rfl (by omega) (by omega)) ?_
    refine at_q rfl rfl (by decide) (qt_move rfl rfl) ?_
    refine at_end ?_
    exact at_againc hL1 ((k + 1, r2, l ++ [⟨keepR xs, qA, qc, clo, chi⟩])) (⟨show k + 1 ≤ n by omega, by rw [List.map_append, hmp, bareTo_yes (by omega) (hxs ▸ hpl), hxs]; rfl⟩) (by simp only; omega) ⟨vi (by omega), rfl, rfl, rfl, rfl, trivial⟩ (fun _ h => (h.picks [0, 1, 2, 3, 4] (by decide)).upto ⟨rfl, rfl, by rw [List.length_append]; rfl, by rw [List.map_append, List.length_append]; rfl, (pcsR_push _ _).symm, trivial⟩)
   ·try simp only [za,zb,zc,zd,ze,zf,Bool.not_true,Bool.not_false,zg,zh,ne_eq,zi,zj] at c4
    refine at_skip ?_
    refine norm_block ?_
    refine norm_then ?_
    refine at_region ?_
    refine at_q rfl rfl (by decide) (qt_add rfl rfl rfl (by omega) (by omega)) ?_
    refine at_q rfl rfl (by decide) (qt_move rfl rfl) ?_
    refine at_end ?_
    exact at_againc hL1 ((k + 1, (rA, rc), l)) (⟨show k + 1 ≤ n by omega, by rw [hmp, bareTo_no (by omega) (by rw [← hxs]; omega)]⟩) (by simp only; omega) ⟨vi (by omega), rfl, rfl, rfl, rfl, trivial⟩ (fun _ h => h.upto ⟨rfl, rfl, rfl, rfl, rfl, trivial⟩)
 ·try simp only [za,zb,zc,zd,ze,zf,Bool.not_true,Bool.not_false,zg,zh,ne_eq,zi,zj] at c1
  have hkn : k = rs.length := (by omega)
  subst hkn
  refine at_exit ?_
  refine pass_then (fun h => by cases h) ?_
  refine pass_then (fun h => by cases h) ?_
  refine pass_hit ?_
  refine norm_then ?_
  refine at_seq ?_
  refine at_region ?_
  refine at_q rfl rfl (by decide) (qt_loadS rfl rfl tys_impl_Region rfl (rdAll (k := 2) rfl)) ?_
  refine at_op rfl ?_
  refine op_storeAll' (k := 1) rfl rfl rfl rfl (rfl) (by rfl) tyz_impl_Region.szx rfl rfl rfl ?_
  refine at_rsE (by simp only [ya,yb,yc,yd,Value.cells,ye]; rfl) ?_
  refine at_end ?_
  refine at_retc ?_
  refine at_ret1 rfl (rvCelS (k := 1) rfl tys_impl_Region rfl rfl) ?_
  intro w' hs
  have hrs : l.map (·.xs) = bareRs rs := hmp
  have hbl : (bareRs rs).length = l.length := hlk.symm
  exact ⟨rA, rc, by rw [hbl], by rw [hbl]; exact pcs_rowB hs (kr := 3) (kp := 4) rfl rfl (by decide) rfl rfl hrs (fun j hj => by have := keep_small hr (List.getElem_mem hj); rw [at_r hj] at this; omega), hs.fin⟩
/-- The first k edges led through hot points. -/
def snTo (hot : List Pn) (E : List Leg) (k : Nat) : List Pn := (E.take k).flatMap fun l => pieceP hot (lA l, lB l)
theorem snTo_step {hot : List Pn} {E : List Leg} {k : Nat} (h : k < E.length) : snTo hot E (k + 1) = snTo hot E k ++ pieceP hot (lA (lg E k), lB (lg E k)) := by
 unfold snTo
 rw [List.take_succ_eq_append_getElem h, List.flatMap_append]
 simp [lg, List.getD, h]
theorem piece_len (hot : List Pn) (e : Pn × Pn) : (pieceP hot e).length ≤ hot.length := by
 unfold pieceP
 rw [List.length_dropLast, pathP_eq]
 have := stop_len e.1 e.2 hot
 omega
theorem snTo_len {hot : List Pn} {E : List Leg} {m : Nat} (hm : hot.length ≤ m) : ∀ k, k ≤ E.length → (snTo hot E k).length ≤ k * m
 | 0, _ => by simp [snTo]
 | k + 1, hk => by
  have := snTo_len (E := E) hm k (by omega)
  have := piece_len hot (lA (lg E k), lB (lg E k))
  rw [snTo_step (by omega), List.length_append, Nat.succ_mul]
  omega
theorem snapR_to (hot xs : List Pn) : snapR hot xs = snTo hot (edgesR xs) (edgesR xs).length := by unfold snapR snTo; rw [List.take_length]
/-- Edges with valid ends that are hot points. -/
def onHot (hot : List Pn) (E : List Leg) : Prop := ∀ l ∈ E, lA l ≠ lB l ∧ lA l ∈ hot ∧ lB l ∈ hot
theorem onHot.at_ {hot : List Pn} {E : List Leg} (h : onHot hot E) {k : Nat} (hk : k < E.length) : lA (lg E k) ≠ lB (lg E k) ∧ lA (lg E k) ∈ hot ∧ lB (lg E k) ∈ hot := by
 have := h E[k] (List.getElem_mem hk)
 have e : lg E k = E[k] := by simp [lg, List.getD, hk]
 rw [e]
 exact this
theorem newRowT {P : Program} {f : FuncId} {args : Array Value} {w1 : World} {T s n : Nat} {xs : List Value} {b : Bool} (h : Calls P f args w1 fun e w' => ∃ v, e = .returned (.tuple #[.agg #[v], .bool b]) ∧ w'.ownsRow w1.heap.size T s v n xs ∧ Over w1 w') :
  Calls P f args w1 fun e w' => ∃ x : Option Addr × Nat, e = .returned (.tuple #[.agg #[.slice x.1 n x.2], .bool b]) ∧ Over w1 w' ∧ (rowR 0 T s n xs x).P w' ∧ (∀ b, (rowR 0 T s n xs x).F b → w1.heap.size ≤ b) ∧ (rowR 0 T s n xs x).B = 0 ∧ True := by
 refine h.mono ?_
 rintro e w' ⟨v, rfl, hr, hO⟩
 obtain ⟨x, rfl⟩ := row_slice hr
 exact ⟨x, rfl, hO, row_low hr (Nat.zero_le _), fun b hb => (hr.lt b hb).1, rfl, trivial⟩
theorem l13Snap_any (bb oo : Nat) (A : Option Addr) (n c : Nat) (xs : List Pn) (B : Option Addr) (m d : Nat) (hot : List Pn) (w : World) (hcell : w.cell? ⟨bb, oo, none⟩ = some (.slice A n c)) (hbb : bb < w.heap.size) (h : Pts w A n xs) (hn : (n : Int) ≤ 1048577)
  (hh : Pts w B m hot) (hm : m ≤ 1048576) (hok : ∀ p ∈ hot, okB p.1 p.2 = true) (hE : onHot hot (edgesR xs)) :
  Calls Tryz.prog 51 #[.pointer (some ⟨bb, oo, none⟩), .slice B m d] w fun e w' => ∃ v, e = .returned (.tuple #[.agg #[v], .bool (decide (0 < (edgesR xs).length))]) ∧ w'.ownsRow w.heap.size 64 2 v (snapR hot xs).length ((snapR hot xs).flatMap ptCells) ∧ Over w w' := by
 have hl := h.1
 have hhl := hh.1
 obtain ⟨E, hEe⟩ : ∃ E, E = edgesR xs := ⟨_, rfl⟩
 have hEl : E.length ≤ 1048577 := by rw [hEe]; have := edgesTo_len xs xs.length; unfold edgesR; omega
 rw [snapR_to, ← hEe]
 rw [← hEe] at hE
 refine walk_from (m := 44) (Tryz.func51) rfl rfl (Nat.le_of_ble_eq_true rfl) ?_
 refine at_seq ?_
 refine at_region ?_
 refine at_op rfl ?_
 refine op_alloc rfl tyz_impl_Ring rfl (by decide) (fun b1 => ?_)
 refine at_rsE (by simp only [ya,yb,yc,yd,Value.cells,ye]; rfl) ?_
 refine at_q rfl rfl (by decide) (qt_assign rfl rfl) ?_
 refine at_end ?_
 refine at_seq ?_
 refine at_region ?_
 refine at_q rfl rfl (by decide) (qt_build rfl rfl (bld_impl_Ring_)) ?_
 refine at_op rfl ?_
 refine op_alloc rfl tyz_impl_Ring rfl (by decide) (fun b2 => ?_)
 refine at_rsE (by simp only [ya,yb,yc,yd,Value.cells,ye]; rfl) ?_
 refine at_op rfl ?_
 refine op_storeAll' (k := 1) rfl rfl rfl rfl (rfl) (by rfl) tyz_impl_Ring.szx rfl rfl rfl ?_
 refine at_rsE (by simp only [ya,yb,yc,yd,Value.cells,ye]; rfl) ?_
 refine at_end ?_
 refine at_row0 (T := 64) (s := 2) ?_
 refine at_rsE (by simp only [List.nil_append, List.cons_append, List.set_cons_zero, List.set_cons_succ, List.eraseIdx_cons_zero, List.eraseIdx_cons_succ, Value.cells, List.toList_toArray]; rfl) ?_
 refine at_seq ?_
 refine at_region ?_
 refine at_q rfl rfl (by decide) (qt_move rfl rfl) ?_
 refine at_op rfl ?_
 refine op_call ok_spec_l13Edges (v := fun x => .slice x.1 _ x.2) (r := fun x => rowR 0 66 4 _ _ x) (H := fun _ => True) rfl rfl rfl (by decide) (fun w1 hs => newRow' ((l13Edges_any bb oo A n c xs w1 (rdOld hcell hbb w1 hs) (Nat.lt_of_lt_of_le hbb hs.fin.size) (h.over hs.fin) hn).mono fun e w' ⟨v, h1, _, h2, h3⟩ => ⟨v, h1, h2, h3⟩)) ?_
 rintro ⟨eA, ec⟩ -
 refine at_rsE (by simp only [ya,yb,yc,yd,Value.cells,ye]; rfl) ?_
 refine at_q rfl rfl (by decide) (qt_assign rfl rfl) ?_
 refine at_end ?_
 refine at_seq ?_
 refine at_seq ?_
 refine at_region ?_
 refine at_q rfl rfl (by decide) (qt_assign rfl rfl) ?_
 refine at_end ?_
 rw [← hEe]
 refine at_block ?_
 refine at_loopc (X := Nat × Option Addr × Nat) (fun x => x.1 ≤ E.length) (fun x => E.length - x.1) (fun x => [(8, .int .i64 (x.1 : Int))]) (C := [(1, _), (4, _), (5, _), (6, _), (7, _)]) ⟨rfl, rfl, rfl, rfl, rfl, trivial⟩ (fun x => [.cel b1 61 [.slice none 0 0], .cel b2 61 [.slice x.2.1 (snTo hot E x.1).length x.2.2], rowR (Bs.N ⟨w, []⟩) 64 2 (snTo hot E x.1).length ((snTo hot E x.1).flatMap ptCells) x.2, rowR 0 66 4 E.length (E.flatMap legCells) (eA, ec)]) (0, none, 0) (Nat.zero_le _) ⟨rfl, rfl, rfl, rfl, rfl, rfl, trivial⟩ (fun _ h => h) ?_
 intro ⟨k, rA, rc⟩ hx L hL1
 refine at_envE (by simp only [ya,yb]; rfl) ?_
 refine at_rsE (by first | (dsimp only; done) | (dsimp only; rfl) | rfl) ?_
 have hk : k ≤ E.length := hx
 have hsn := snTo_len (hot := hot) (E := E) (m := 1048576) (by omega) k hk
 refine at_seq ?_
 refine at_seq ?_
 refine at_region ?_
 refine at_q rfl rfl (by decide) (qt_move rfl rfl) ?_
 refine at_q rfl rfl (by decide) (qt_move rfl rfl) ?_
 refine at_q rfl rfl (by decide) (qt_len rfl rfl tyl_sl_spec_l13Edge) ?_
 refine at_q rfl rfl (by decide) (qt_lss rfl rfl rfl) ?_
 refine at_end ?_
 refine at_cond rfl (fun c1 => ?_) (fun c1 => ?_)
 ·try simp only [za,zb,zc,zd,ze,zf,Bool.not_true,Bool.not_false,zg,zh,ne_eq,zi,zj] at c1
  have hlt : k < E.length := (by omega)
  obtain ⟨g1', g2', g3'⟩ := hE.at_ hlt
  obtain ⟨mid, hmid⟩ := path_ends g1' g2' g3'
  have hpl : 0 < (pathP (lA (lg E k)) (lB (lg E k)) hot).length := (by rw [hmid]; simp)
  have hpm : (pathP (lA (lg E k)) (lB (lg E k)) hot).length ≤ 1048576 := (by rw [pathP_eq]; have := stop_len (lA (lg E k)) (lB (lg E k)) hot; omega)
  refine at_fact (fun w hs => rowSome (k := 3) rfl hs (by omega)) ?_
  rintro ⟨eg, rfl⟩
  refine at_skip ?_
  refine norm_then ?_
  refine at_seq ?_
  refine at_block ?_
  refine at_seq ?_
  refine dg_start mixed rfl ?_
  refine dg_phase 13 ?_
  refine dg_q (i := 0) rfl (by kernel_rfl) (by kernel_rfl) (by kernel_rfl) [] (by kernel_rfl) (fun _ _ _ h => h) rfl rfl (by decide) (fun _ h => h.upto ⟨rfl, rfl, rfl, rfl, trivial⟩) (qt_move rfl rfl) ?_
  refine dg_q (i := 1) rfl (by kernel_rfl) (by kernel_rfl) (by kernel_rfl) [] (by kernel_rfl) (fun _ _ _ h => h) rfl rfl (by decide) (fun _ h => h.upto ⟨rfl, rfl, rfl, rfl, trivial⟩) (qt_move rfl rfl) ?_
  refine dg_q (i := 2) rfl (by kernel_rfl) (by kernel_rfl) (by kernel_rfl) [] (by kernel_rfl) (fun _ _ _ h => h) rfl rfl (by decide) (fun _ h => h.upto ⟨rfl, rfl, rfl, rfl, trivial⟩) (qt_index rfl rfl rfl tyl_sl_spec_l13Edge (by omega)) ?_
  refine dg_q (i := 3) rfl (by kernel_rfl) (by kernel_rfl) (by kernel_rfl) [] (by kernel_rfl) (fun _ _ _ h => h) rfl rfl (by decide) (fun _ h => h.upto ⟨rfl, rfl, rfl, rfl, trivial⟩) (qt_fieldAddr rfl rfl tyf_spec_l13Edge_0) ?_
  refine dg_q (i := 4) rfl (by kernel_rfl) (by kernel_rfl) (by kernel_rfl) [] (by kernel_rfl) (fun _ _ _ h => h) rfl rfl (by decide) (fun _ h => h.upto ⟨rfl, rfl, rfl, rfl, trivial⟩) (qt_loadS rfl rfl tys_impl_Pt rfl (rdLegA (b := eg) (o := 0) (rowLegs (k := 3) (x := (some ⟨eg, 0, none⟩, ec)) (ls := E) rfl rfl) hlt)) ?_
  refine dg_q (i := 5) rfl (by kernel_rfl) (by kernel_rfl) (by kernel_rfl) [] (by kernel_rfl) (fun _ _ _ h => h) rfl rfl (by decide) (fun _ h => h.upto ⟨rfl, rfl, rfl, rfl, trivial⟩) (qt_move rfl rfl) ?_
  refine dg_q (i := 6) rfl (by kernel_rfl) (by kernel_rfl) (by kernel_rfl) [] (by kernel_rfl) (fun _ _ _ h => h) rfl rfl (by decide) (fun _ h => h.upto ⟨rfl, rfl, rfl, rfl, trivial⟩) (qt_move rfl rfl) ?_
  refine dg_q (i := 7) rfl (by kernel_rfl) (by kernel_rfl) (by kernel_rfl) [] (by kernel_rfl) (fun _ _ _ h => h) rfl rfl (by decide) (fun _ h => h.upto ⟨rfl, rfl, rfl, rfl, trivial⟩) (qt_index rfl rfl rfl tyl_sl_spec_l13Edge (by omega)) ?_
  refine dg_q (i := 8) rfl (by kernel_rfl) (by kernel_rfl) (by kernel_rfl) [] (by kernel_rfl) (fun _ _ _ h => h) rfl rfl (by decide) (fun _ h => h.upto ⟨rfl, rfl, rfl, rfl, trivial⟩) (qt_fieldAddr rfl rfl tyf_spec_l13Edge_1) ?_
  refine dg_q (i := 9) rfl (by kernel_rfl) (by kernel_rfl) (by kernel_rfl) [] (by kernel_rfl) (fun _ _ _ h => h) rfl rfl (by decide) (fun _ h => h.upto ⟨rfl, rfl, rfl, rfl, trivial⟩) (qt_loadS rfl rfl tys_impl_Pt rfl (rdLegB (b := eg) (o := 0) (rowLegs (k := 3) (x := (some ⟨eg, 0, none⟩, ec)) (ls := E) rfl rfl) hlt)) ?_
  refine dg_q (i := 10) rfl (by kernel_rfl) (by kernel_rfl) (by kernel_rfl) [] (by kernel_rfl) (fun _ _ _ h => h) rfl rfl (by decide) (fun _ h => h.upto ⟨rfl, rfl, rfl, rfl, trivial⟩) (qt_move rfl rfl) ?_
  refine dg_one (i := 11) rfl (by decide) (by kernel_rfl) rfl ?_
  refine op_call ok_spec_l13Path (v := fun x : Option Addr × Nat => .slice x.1 (pathP (lA (lg E k)) (lB (lg E k)) hot).length x.2) (r := fun x => rowR 0 64 2 (pathP (lA (lg E k)) (lB (lg E k)) hot).length ((pathP (lA (lg E k)) (lB (lg E k)) hot).flatMap ptCells) x) (H := fun _ => True) rfl rfl rfl (by decide) (fun w1 hs => newRow' (l13Path_any (lA (lg E k)) (lB (lg E k)) B m d hot w1 (hh.over hs.fin) (hok _ g2') (hok _ g3') hok hm)) ?_
  rintro ⟨pA, pc⟩ -
  refine at_rsE (by simp only [ya,yb,yc,yd,Value.cells,ye]; rfl) ?_
  refine dr_more (fun _ h => h.upto ⟨rfl, rfl, rfl, rfl, trivial⟩) ?_
  refine dg_q (i := 12) rfl (by kernel_rfl) (by kernel_rfl) (by kernel_rfl) [] (by kernel_rfl) (fun _ _ _ h => h) rfl rfl (by decide) (fun _ h => h.upto ⟨rfl, rfl, rfl, rfl, rfl, trivial⟩) (qt_assign rfl rfl) ?_
  refine dg_done (by kernel_rfl) ?_
  refine norm_then ?_
  refine at_fact (fun w hs => rowSome (k := 4) rfl hs hpl) ?_
  rintro ⟨pg, rfl⟩
  refine at_fact (fun w hs => rowCap (hs.all 4 _ rfl).1) ?_
  intro hcap
  have hst : snTo hot E (k + 1) = snTo hot E k ++ (pathP (lA (lg E k)) (lB (lg E k)) hot).take ((pathP (lA (lg E k)) (lB (lg E k)) hot).length - 1) := (by rw [snTo_step hlt]; unfold pieceP; rw [List.dropLast_eq_take])
  have hstl : (snTo hot E (k + 1)).length = (snTo hot E k).length + ((pathP (lA (lg E k)) (lB (lg E k)) hot).length - 1) := (by rw [hst, List.length_append, List.length_take]; omega)
  refine dg_start mixed rfl ?_
  refine dg_phase 7 ?_
  refine dg_q (i := 0) rfl (by kernel_rfl) (by kernel_rfl) (by kernel_rfl) [1] (by kernel_rfl) (fun _ _ _ h => h) rfl rfl (by decide) (fun _ h => h.upto ⟨rfl, rfl, rfl, rfl, rfl, trivial⟩) (qt_fieldAddr rfl rfl tyf_impl_Ring_0) ?_
  refine dg_q (i := 1) rfl (by kernel_rfl) (by kernel_rfl) (by kernel_rfl) [] (by kernel_rfl) (fun _ _ _ h => h) rfl rfl (by decide) (fun _ h => h.upto ⟨rfl, rfl, rfl, rfl, rfl, trivial⟩) (qt_load1 rfl rfl ty1_sl_impl_Pt (rd1 (k := 1) rfl rfl)) ?_
  refine dg_q (i := 2) rfl (by kernel_rfl) (by kernel_rfl) (by kernel_rfl) [6] (by kernel_rfl) (fun _ _ _ h => h) rfl rfl (by decide) (fun _ h => h.upto ⟨rfl, rfl, rfl, rfl, rfl, trivial⟩) (qt_move rfl rfl) ?_
  refine dg_q (i := 3) rfl (by kernel_rfl) (by kernel_rfl) (by kernel_rfl) [4, 5, 6] (by kernel_rfl) (fun _ _ _ h => h) rfl rfl (by decide) (fun _ h => h.upto ⟨rfl, rfl, rfl, rfl, rfl, trivial⟩) (qt_move rfl rfl) ?_
  refine dg_q (i := 4) rfl (by kernel_rfl) (by kernel_rfl) (by kernel_rfl) [5, 6] (by kernel_rfl) (fun _ _ _ h => h) rfl rfl (by decide) (fun _ h => h.upto ⟨rfl, rfl, rfl, rfl, rfl, trivial⟩) (qt_len rfl rfl tyl_sl_impl_Pt) ?_
  refine dg_q (i := 5) rfl (by kernel_rfl) (by kernel_rfl) (by kernel_rfl) [6] (by kernel_rfl) (fun _ _ _ h => h) rfl rfl (by decide) (fun _ h => h.upto ⟨rfl, rfl, rfl, rfl, rfl, trivial⟩) ((qt_sub rfl rfl rfl (by omega) (by omega)).as (congrArg _ (show (((pathP (lA (lg E k)) (lB (lg E k)) hot).length : Int) - 1) = (((pathP (lA (lg E k)) (lB (lg E k)) hot).length - 1 : Nat) : Int) by omega))) ?_
  refine dg_q (i := 6) rfl (by kernel_rfl) (by kernel_rfl) (by kernel_rfl) [] (by kernel_rfl) (fun _ _ _ h => h) rfl rfl (by decide) (fun _ h => h.upto ⟨rfl, rfl, rfl, rfl, rfl, trivial⟩) ((qt_sliceH rfl rfl rfl tyl_sl_impl_Pt (by omega)).as (slicedH _ _ _ _ _)) ?_
  refine dg_bar rfl (by kernel_rfl) rfl ?_
  refine op_appendR (k := 2) rfl tyl_sl_impl_Pt tyz_impl_Pt (by decide) rfl (by decide) rfl rfl rfl (fun w' hs => srcTake (ptsRow (hs.all 4 _ rfl).1 rfl) (by omega)) (ptCells_one _) (by unfold maxLen; omega) (by omega) (Nat.le_refl _) (fun r1 => ?_)
  refine at_rsE (by simp only [ya,yb,yc,yd,Value.cells,ye]; rfl) ?_
  refine dg_phaseW 10 [1] ?_
  refine dg_q (i := 8) rfl (by kernel_rfl) (by kernel_rfl) (by kernel_rfl) [] (by kernel_rfl) (fun _ _ _ h => h) rfl rfl (by decide) (fun _ h => (h.wk [1]).upto ⟨rfl, rfl, rfl, rfl, rfl, trivial⟩) (qt_fieldAddr rfl rfl tyf_impl_Ring_0) ?_
  refine dg_one (i := 9) rfl (by decide) (by kernel_rfl) rfl ?_
  refine op_storeAll' (k := 1) rfl rfl rfl rfl (rfl) (by rfl) tyz_sl_impl_Pt.szx rfl rfl rfl ?_
  refine at_rsE (by simp only [ya,yb,yc,yd,Value.cells,ye]; rfl) ?_
  refine dr_keep (fun _ h => (h.wk [1]).upto ⟨rfl, rfl, rfl, rfl, rfl, trivial⟩) ?_
  refine dg_done (by kernel_rfl) ?_
  refine norm_block ?_
  refine norm_then ?_
  refine at_region ?_
  refine at_q rfl rfl (by decide) (qt_move rfl rfl) ?_
  refine at_q rfl rfl (by decide) (qt_add rfl rfl rfl (by omega) (by omega)) ?_
  refine at_q rfl rfl (by decide) (qt_assign rfl rfl) ?_
  refine at_end ?_
  exact at_againc hL1 ((k + 1, r1)) ((show k + 1 ≤ E.length by omega)) (by simp only; omega) ⟨vi (by omega), rfl, rfl, rfl, rfl, rfl, trivial⟩ (fun _ h => (h.picks [0, 1, 2, 3] (by decide)).upto ⟨rfl, by rw [hstl], by rw [hstl, hst, List.flatMap_append], rfl, trivial⟩)
 ·try simp only [za,zb,zc,zd,ze,zf,Bool.not_true,Bool.not_false,zg,zh,ne_eq,zi,zj] at c1
  have hkE : k = E.length := (by omega)
  subst hkE
  refine at_exit ?_
  refine pass_then (fun h => by cases h) ?_
  refine pass_then (fun h => by cases h) ?_
  refine pass_hit ?_
  refine norm_then ?_
  refine at_seq ?_
  refine at_region ?_
  refine at_q rfl rfl (by decide) (qt_loadS rfl rfl tys_impl_Ring rfl (rdAll (k := 1) rfl)) ?_
  refine at_q rfl rfl (by decide) (qt_move rfl rfl) ?_
  refine at_q rfl rfl (by decide) (qt_len rfl rfl tyl_sl_spec_l13Edge) ?_
  refine at_q rfl rfl (by decide) (qt_gtr rfl rfl rfl) ?_
  refine at_op rfl ?_
  refine op_storeAll' (k := 0) rfl rfl rfl rfl (rfl) (by rfl) tyz_impl_Ring.szx rfl rfl rfl ?_
  refine at_rsE (by simp only [ya,yb,yc,yd,Value.cells,ye]; rfl) ?_
  refine at_q rfl rfl (by decide) (qt_assign rfl rfl) ?_
  refine at_end ?_
  refine at_retc ?_
  refine at_ret2 rfl (rvCelS (k := 0) rfl tys_impl_Ring rfl rfl) (.tmp rfl) ?_
  intro w' hs
  have hr := hs.all 2 _ rfl
  exact ⟨_, by rw [show decide ((E.length : Int) > 0) = decide (0 < E.length) from decide_eq_decide.2 (by omega)], row_from hr.1 (fun b hb => (hr.2.1 b hb).elim id (fun h => by cases h)), hs.fin⟩
theorem bareG.on {hot : List Pn} {rs : List Ring_} (h : bareG hot rs) {k : Nat} (hk : k < rs.length) : onHot hot (edgesR (rg rs k)) ∧ 0 < (edgesR (rg rs k)).length ∧ (edgesR (rg rs k)).length = (rg rs k).length := by
 obtain ⟨hb, hm⟩ : bare (rg rs k) ∧ ∀ p ∈ rg rs k, p ∈ hot := by have := h rs[k] (List.getElem_mem hk); rwa [at_r hk] at this
 refine ⟨fun l hl => ?_, by rw [edges_bare_len hb]; exact hb.1, edges_bare_len hb⟩
 rw [edges_bare hb] at hl
 obtain ⟨d, hd, rfl⟩ := List.mem_map.1 hl
 exact pairs_ok hb hm d hd
theorem snapR_len {hot xs : List Pn} (hx : xs.length ≤ 400) (hm : hot.length ≤ 1048576) : (snapR hot xs).length ≤ 419430400 := by
 rw [snapR_to]
 have h1 := edgesTo_len xs xs.length
 have h2 : (edgesR xs).length ≤ 400 := by unfold edgesR; omega
 have := snTo_len (hot := hot) (E := edgesR xs) (m := 1048576) hm _ (Nat.le_refl _)
 have h3 : (edgesR xs).length * 1048576 ≤ 400 * 1048576 := Nat.mul_le_mul_right _ h2
 omega
theorem rg_snapG {hot : List Pn} {rs : List Ring_} {k : Nat} (h : k < rs.length) : rg (snapG hot rs) k = snapR hot (rg rs k) := by simp [snapG, rg, List.getD, h]
theorem snapG_len (hot : List Pn) (rs : List Ring_) : (snapG hot rs).length = rs.length := by simp [snapG]
theorem l13Snapped_any (bb oo : Nat) (A : Option Addr) (n c : Nat) (rs : List Ring_) (B : Option Addr) (m d : Nat) (hot : List Pn) (w : World) (hcell0 : w.cell? ⟨bb, oo, none⟩ = some (.slice A n c)) (hbb : bb < w.heap.size) (h : Rings w A n rs) (hr : regionB rs = true)
  (hh : Pts w B m hot) (hm : m ≤ 1048576) (hok : ∀ p ∈ hot, okB p.1 p.2 = true) (hG : bareG hot rs) :
  Calls Tryz.prog 29 #[.pointer (some ⟨bb, oo, none⟩), .slice B m d] w fun e w' => ∃ A' c', e = .returned (regV A' n c') ∧ OwnG w.heap.size w'.heap.size w' A' n (snapG hot rs) ∧ Over w w' := by
 have hl := h.1
 have hn40 := reg_len hr
 have hhl := hh.1
 refine walk_from (m := 38) (Tryz.func29) rfl rfl (Nat.le_of_ble_eq_true rfl) ?_
 refine at_seq ?_
 refine at_region ?_
 refine at_op rfl ?_
 refine op_alloc rfl tyz_impl_Region rfl (by decide) (fun b1 => ?_)
 refine at_rsE (by simp only [ya,yb,yc,yd,Value.cells,ye]; rfl) ?_
 refine at_end ?_
 refine at_seq ?_
 refine at_region ?_
 refine at_q rfl rfl (by decide) (qt_build rfl rfl (bld_impl_Region_)) ?_
 refine at_op rfl ?_
 refine op_alloc rfl tyz_impl_Region rfl (by decide) (fun b2 => ?_)
 refine at_rsE (by simp only [ya,yb,yc,yd,Value.cells,ye]; rfl) ?_
 refine at_op rfl ?_
 refine op_storeAll' (k := 1) rfl rfl rfl rfl (rfl) (by rfl) tyz_impl_Region.szx rfl rfl rfl ?_
 refine at_rsE (by simp only [ya,yb,yc,yd,Value.cells,ye]; rfl) ?_
 refine at_end ?_
 refine at_row0 (T := 61) (s := 1) ?_
 refine at_rsE (by simp only [List.nil_append, List.cons_append, List.set_cons_zero, List.set_cons_succ, List.eraseIdx_cons_zero, List.eraseIdx_cons_succ, Value.cells, List.toList_toArray]; rfl) ?_
 refine at_many0 ?_
 refine at_rsE (by simp only [List.nil_append, List.cons_append, List.set_cons_zero, List.set_cons_succ, List.eraseIdx_cons_zero, List.eraseIdx_cons_succ, Value.cells, List.toList_toArray]; rfl) ?_
 refine at_seq ?_
 refine at_seq ?_
 refine at_region ?_
 refine at_q rfl rfl (by decide) (qt_assign rfl rfl) ?_
 refine at_end ?_
 refine at_block ?_
 refine at_loopc (X := Nat × (Option Addr × Nat) × List Pc) (fun x => x.1 ≤ n ∧ x.2.2.map (·.xs) = (snapG hot rs).take x.1) (fun x => n - x.1) (fun x => [(6, .int .i64 (x.1 : Int))]) (C := [(0, _), (1, _), (4, _), (5, _)]) ⟨rfl, rfl, rfl, rfl, trivial⟩ (fun x => [.cel b1 28 [.slice none 0 0], .cel b2 28 [.slice x.2.1.1 x.1 x.2.1.2], rowR (Bs.N ⟨w, []⟩) 61 1 x.1 (x.2.2.map Pc.val) x.2.1, pcsR x.2.2]) (0, (none, 0), []) (⟨Nat.zero_le _, rfl⟩) ⟨rfl, rfl, rfl, rfl, rfl, trivial⟩ (fun _ h => h) ?_
 intro ⟨k, ⟨rA, rc⟩, l⟩ hx L hL1
 refine at_envE (by simp only [ya,yb]; rfl) ?_
 refine at_rsE (by first | (dsimp only; done) | (dsimp only; rfl) | rfl) ?_
 obtain ⟨hk, hmp⟩ : k ≤ n ∧ l.map (·.xs) = (snapG hot rs).take k := hx
 have hlk : l.length = k := (by have := congrArg List.length hmp; rw [List.length_map, List.length_take, snapG_len] at this; omega)
 refine at_seq ?_
 refine at_seq ?_
 refine at_region ?_
 refine at_q rfl rfl (by decide) (qt_move rfl rfl) ?_
 refine at_q rfl rfl (by decide) (qt_move rfl rfl) ?_
 refine at_q rfl rfl (by decide) (qt_nilCheck rfl rfl) ?_
 refine at_q rfl rfl (by decide) (qt_fieldAddr rfl rfl tyf_impl_Region_0) ?_
 refine at_q rfl rfl (by decide) (qt_load1 rfl rfl ty1_sl_impl_Ring (rdOld0 hcell0 hbb)) ?_
 refine at_q rfl rfl (by decide) (qt_len rfl rfl tyl_sl_impl_Ring) ?_
 refine at_q rfl rfl (by decide) (qt_lss rfl rfl rfl) ?_
 refine at_end ?_
 refine at_cond rfl (fun c1 => ?_) (fun c1 => ?_)
 ·try simp only [za,zb,zc,zd,ze,zf,Bool.not_true,Bool.not_false,zg,zh,ne_eq,zi,zj] at c1
  have hlt : k < n := (by omega)
  obtain ⟨eb, eo, Ak, ck, rfl, hbB, hcell, hpts, hmax⟩ := h.at_ hlt
  have hpos := pos_of_ring (regRing hr (show k < rs.length by omega))
  obtain ⟨ho1, ho2, ho3⟩ := hG.on (show k < rs.length by omega)
  have hsl := snapR_len (hot := hot) (xs := rg rs k) (by omega) (by omega)
  refine at_skip ?_
  refine norm_then ?_
  refine at_seq ?_
  refine at_block ?_
  refine at_seq ?_
  refine at_region ?_
  refine at_q rfl rfl (by decide) (qt_move rfl rfl) ?_
  refine at_q rfl rfl (by decide) (qt_nilCheck rfl rfl) ?_
  refine at_q rfl rfl (by decide) (qt_fieldAddr rfl rfl tyf_impl_Region_0) ?_
  refine at_q rfl rfl (by decide) (qt_load1 rfl rfl ty1_sl_impl_Ring (rdOld0 hcell0 hbb)) ?_
  refine at_q rfl rfl (by decide) (qt_move rfl rfl) ?_
  refine at_q rfl rfl (by decide) (qt_index rfl rfl rfl tyl_sl_impl_Ring (by omega)) ?_
  refine at_q rfl rfl (by decide) (qt_move rfl rfl) ?_
  refine at_op rfl ?_
  refine op_call ok_spec_l13Snap (v := fun x : Option Addr × Nat => .tuple #[.agg #[.slice x.1 (snapR hot (rg rs k)).length x.2], .bool (decide (0 < (edgesR (rg rs k)).length))]) (r := fun x => rowR 0 64 2 _ _ x) (H := fun _ => True) rfl rfl rfl (by decide) (fun w1 hs => newRowT (l13Snap_any eb (eo + k * 1) Ak _ ck (rg rs k) B m d hot w1 (by rw [Nat.mul_one]; exact rdOld hcell hbB w1 hs) (Nat.lt_of_lt_of_le hbB hs.fin.size) (hpts.over hs.fin) (by omega) (hh.over hs.fin) hm hok ho1)) ?_
  rintro ⟨tA, tc⟩ -
  refine at_rsE (by simp only [ya,yb,yc,yd,Value.cells,ye]; rfl) ?_
  refine at_q rfl rfl (by decide) (qt_move rfl rfl) ?_
  refine at_q rfl rfl (by decide) (qt_extract rfl rfl rfl) ?_
  refine at_q rfl rfl (by decide) (qt_extract rfl rfl rfl) ?_
  refine at_op rfl ?_
  refine op_alloc rfl tyz_impl_Ring rfl (by decide) (fun b3 => ?_)
  refine at_rsE (by simp only [ya,yb,yc,yd,Value.cells,ye]; rfl) ?_
  refine at_op rfl ?_
  refine op_storeAll' (k := 5) rfl rfl rfl rfl (rfl) (by rfl) tyz_impl_Ring.szx rfl rfl rfl ?_
  refine at_rsE (by simp only [ya,yb,yc,yd,Value.cells,ye]; rfl) ?_
  refine at_q rfl rfl (by decide) (qt_assign rfl rfl) ?_
  refine at_end ?_
  refine at_seq ?_
  refine at_region ?_
  refine at_q rfl rfl (by decide) (qt_move rfl rfl) ?_
  refine at_end ?_
  refine at_yes rfl ((decide_eq_true ho2)) ?_
  refine at_region ?_
  refine at_q rfl rfl (by decide) (qt_fieldAddr rfl rfl tyf_impl_Region_0) ?_
  refine at_q rfl rfl (by decide) (qt_load1 rfl rfl ty1_sl_impl_Ring (rd1 (k := 1) rfl rfl)) ?_
  refine at_q rfl rfl (by decide) (qt_loadS rfl rfl tys_impl_Ring rfl (rdAll (k := 5) rfl)) ?_
  refine at_op rfl ?_
  refine op_buildSlice rfl rfl (bsl_sl_impl_Ring_1_0 rfl) rfl (by decide) (fun b4 => ?_)
  refine at_rsE (by simp only [ya,yb,yc,yd,Value.cells,ye]; rfl) ?_
  refine at_op rfl ?_
  refine op_appendR (k := 2) rfl tyl_sl_impl_Ring tyz_impl_Ring (by decide) rfl (by decide) rfl rfl rfl (fun w' hs => src_cel hs (k := 6) rfl rfl) (by simp [Value.oneCell']) (by unfold maxLen; omega) (by omega) (Nat.le_refl _) (fun r1 => ?_)
  refine at_rsE (by simp only [ya,yb,yc,yd,Value.cells,ye]; rfl) ?_
  refine at_q rfl rfl (by decide) (qt_fieldAddr rfl rfl tyf_impl_Region_0) ?_
  refine at_op rfl ?_
  refine op_storeAll' (k := 1) rfl rfl rfl rfl (rfl) (by rfl) tyz_sl_impl_Ring.szx rfl rfl rfl ?_
  refine at_rsE (by simp only [ya,yb,yc,yd,Value.cells,ye]; rfl) ?_
  refine at_nil ?_
  refine at_pc 4 rfl rfl (fun clo chi => ?_)
  refine at_rsE (by simp only [List.nil_append, List.cons_append, List.set_cons_zero, List.set_cons_succ, List.eraseIdx_cons_zero, List.eraseIdx_cons_succ, Value.cells, List.toList_toArray]; rfl) ?_
  refine at_push 3 4 rfl rfl (by decide) rfl ?_
  refine at_rsE (by simp only [List.nil_append, List.cons_append, List.set_cons_zero, List.set_cons_succ, List.eraseIdx_cons_zero, List.eraseIdx_cons_succ, Value.cells, List.toList_toArray]; rfl) ?_
  refine norm_block ?_
  refine norm_then ?_
  refine at_region ?_
  refine at_q rfl rfl (by decide) (qt_move rfl rfl) ?_
  refine at_q rfl rfl (by decide) (qt_add rfl rfl rfl (by omega) (by omega)) ?_
  refine at_q rfl rfl (by decide) (qt_assign rfl rfl) ?_
  refine at_end ?_
  exact at_againc hL1 ((k + 1, r1, l ++ [⟨snapR hot (rg rs k), tA, tc, clo, chi⟩])) (⟨show k + 1 ≤ n by omega, by rw [List.map_append, hmp, take_step (by rw [snapG_len]; omega), rg_snapG (by omega)]; rfl⟩) (by simp only; omega) ⟨vi (by omega), rfl, rfl, rfl, rfl, trivial⟩ (fun _ h => (h.picks [0, 1, 2, 3] (by decide)).upto ⟨rfl, rfl, by rw [List.map_append]; rfl, (pcsR_push _ _).symm, trivial⟩)
 ·try simp only [za,zb,zc,zd,ze,zf,Bool.not_true,Bool.not_false,zg,zh,ne_eq,zi,zj] at c1
  have hkn : k = n := (by omega)
  subst hkn
  refine at_exit ?_
  refine pass_then (fun h => by cases h) ?_
  refine pass_then (fun h => by cases h) ?_
  refine pass_hit ?_
  refine norm_then ?_
  refine at_seq ?_
  refine at_region ?_
  refine at_q rfl rfl (by decide) (qt_loadS rfl rfl tys_impl_Region rfl (rdAll (k := 1) rfl)) ?_
  refine at_op rfl ?_
  refine op_storeAll' (k := 0) rfl rfl rfl rfl (rfl) (by rfl) tyz_impl_Region.szx rfl rfl rfl ?_
  refine at_rsE (by simp only [ya,yb,yc,yd,Value.cells,ye]; rfl) ?_
  refine at_end ?_
  refine at_retc ?_
  refine at_ret1 rfl (rvCelS (k := 0) rfl tys_impl_Region rfl rfl) ?_
  intro w' hs
  have hrs : l.map (·.xs) = snapG hot rs := (by rw [hmp, List.take_of_length_le (by rw [snapG_len]; omega)])
  exact ⟨rA, rc, rfl, pcs_rowB hs (kr := 2) (kp := 3) rfl rfl (by decide) rfl hlk hrs (fun j hj => by rw [snapG_len] at hj; rw [rg_snapG hj]; have := pos_of_ring (regRing hr hj); have := snapR_len (hot := hot) (xs := rg rs j) (by omega) (by omega); omega), hs.fin⟩

/-! ### As long as something changes -/
/-- The rounds: the region that stays, how many there were; none if it becomes too large. -/
def stabN (hot : List Pn) : Nat → List Ring_ → Nat → Option (List Ring_ × Nat)
 | 0, _, _ => none
 | f + 1, rs, r => if regionB (snapG hot rs) = false then none else if snapG hot rs = rs then some (rs, r) else stabN hot f (snapG hot rs) (r + 1)
def stab (hot : List Pn) (rs : List Ring_) : Option (List Ring_ × Nat) := stabN hot 402 rs 0
/-- The state of the rounds. -/
structure StabI (hot : List Pn) (rs0 rs : List Ring_) (r : Nat) : Prop where
 eq : stab hot rs0 = stabN hot (402 - r) rs r
 reg : regionB rs = true
 bare : bareG hot rs
 cnt : r + cnt rs0 ≤ cnt rs
theorem reg_cnt {hot : List Pn} {rs : List Ring_} (h : regionB rs = true) (hb : bareG hot rs) : Go.Proofs.YtakdjgldcpompaaGreat.cnt rs ≤ 400 := by
 rw [← edgesAll_cnt fun r hr => (hb r hr).1]
 simp [regionB] at h
 omega
theorem StabI.start {hot : List Pn} {rs : List Ring_} (h : regionB rs = true) (hb : bareG hot rs) : StabI hot rs rs 0 := ⟨rfl, h, hb, by omega⟩
theorem StabI.r_le {hot : List Pn} {rs0 rs : List Ring_} {r : Nat} (h : StabI hot rs0 rs r) : r ≤ 400 := by
 have := reg_cnt h.reg h.bare
 have := h.cnt
 omega
theorem StabI.unf {hot : List Pn} {rs0 rs : List Ring_} {r : Nat} (h : StabI hot rs0 rs r) : stab hot rs0 = if regionB (snapG hot rs) = false then none else if snapG hot rs = rs then some (rs, r) else stabN hot (402 - (r + 1)) (snapG hot rs) (r + 1) := by
 have := h.r_le
 rw [h.eq, show 402 - r = 402 - (r + 1) + 1 by omega, stabN]
theorem StabI.full {hot : List Pn} {rs0 rs : List Ring_} {r : Nat} (h : StabI hot rs0 rs r) (hb : regionB (snapG hot rs) = false) : stab hot rs0 = none := by rw [h.unf, if_pos hb]
theorem StabI.fin {hot : List Pn} {rs0 rs : List Ring_} {r : Nat} (h : StabI hot rs0 rs r) (he : snapG hot rs = rs) : stab hot rs0 = some (rs, r) := by
 rw [h.unf, if_neg (by rw [he, h.reg]; decide), if_pos he]
theorem StabI.step {hot : List Pn} {rs0 rs : List Ring_} {r : Nat} (hnd : hot.Nodup) (h : StabI hot rs0 rs r) (hb : regionB (snapG hot rs) = true) (he : snapG hot rs ≠ rs) : StabI hot rs0 (snapG hot rs) (r + 1) ∧ Go.Proofs.YtakdjgldcpompaaGreat.cnt rs < Go.Proofs.YtakdjgldcpompaaGreat.cnt (snapG hot rs) := by
 obtain ⟨g1, g2⟩ := snap_grow hnd h.bare
 have hlt : Go.Proofs.YtakdjgldcpompaaGreat.cnt rs < Go.Proofs.YtakdjgldcpompaaGreat.cnt (snapG hot rs) := Nat.lt_of_le_of_ne g1 fun e => he (g2 e.symm)
 refine ⟨⟨?_, hb, h.bare.snap hnd, ?_⟩, hlt⟩
 ·rw [h.unf, if_neg (by rw [hb]; decide), if_neg he]
 ·have := h.cnt; omega
/-- The region at hand: the one that came in, or one that was made. -/
def curR (w : World) (n : Nat) (rs : List Ring_) (x : Bool × (Option Addr × Nat) × Nat × Nat) : Res :=
 if x.1 = true then { F := fun _ => False, P := fun _ => Rings w x.2.1.1 n rs, low := fun _ _ _ h => h.elim, B := 0, dep := fun _ _ h _ _ => h } else gegR n rs x.2.2.1 x.2.2.2 x.2.1.1
theorem curRings {w w' : World} {n : Nat} {rs : List Ring_} {x : Bool × (Option Addr × Nat) × Nat × Nat} (h : (curR w n rs x).P w') (hO : Over w w') : Rings w' x.2.1.1 n rs := by
 unfold curR at h
 split at h
 ·exact (show Rings w x.2.1.1 n rs from h).over hO
 ·exact (gegG h).rings
theorem at_cur0 {w : World} {m : Nat} {env : List (Nat × Value)} {Rs : List Res} {K : Act → World → Prop} {A : Option Addr} {n c : Nat} {rs : List Ring_} (h0 : Rings w A n rs) (h : At m env ⟨w, []⟩ (Rs ++ [curR w n rs (true, (A, c), 0, 0)]) K) : At m env ⟨w, []⟩ Rs K :=
 fun a w1 hf hs => h a w1 hf (hs.add (Over.refl _) (show Rings w A n rs from h0) (fun b hb => (show False from hb).elim) ⟨Nat.zero_le _, fun _ _ => Nat.zero_le _⟩)
theorem rdOldS {w : World} {Rs : List Res} {b o : Nat} {v : Value} (hc : w.cell? ⟨b, o, none⟩ = some v) (hb : b < w.heap.size) : ∀ w', St ⟨w, []⟩ Rs w' → ∀ q u, [v][q]? = some u → w'.cell? ⟨b, o + q, none⟩ = some u := fun w' hs q u hq => by
 match q, hq with
 | 0, hq => simp at hq; subst hq; exact rdOld hc hb w' hs
def stR (hot : List Pn) (rs : List Ring_) : List Ring_ := match stab hot rs with
 | some x => x.1
 | none => []
def stN (hot : List Pn) (rs : List Ring_) : Int := match stab hot rs with
 | some x => (x.2 : Int)
 | none => 0
def stOk (hot : List Pn) (rs : List Ring_) : Bool := (stab hot rs).isSome
theorem st_none {hot : List Pn} {rs : List Ring_} (h : stab hot rs = none) : stR hot rs = [] ∧ stN hot rs = 0 ∧ stOk hot rs = false := by simp [stR, stN, stOk, h]
theorem st_some {hot : List Pn} {rs ss : List Ring_} {r : Nat} (h : stab hot rs = some (ss, r)) : stR hot rs = ss ∧ stN hot rs = (r : Int) ∧ stOk hot rs = true := by simp [stR, stN, stOk, h]
theorem l13Stable_any (bb oo : Nat) (A : Option Addr) (n c : Nat) (rs : List Ring_) (B : Option Addr) (m d : Nat) (hot : List Pn) (w : World) (hcell0 : w.cell? ⟨bb, oo, none⟩ = some (.slice A n c)) (hbb : bb < w.heap.size) (h : Rings w A n rs) (hr : regionB rs = true)
  (hh : Pts w B m hot) (hm : m ≤ 1048576) (hok : ∀ p ∈ hot, okB p.1 p.2 = true) (hnd : hot.Nodup) (hG : bareG hot rs) :
  Calls Tryz.prog 14 #[.pointer (some ⟨bb, oo, none⟩), .slice B m d] w fun e w' => ∃ A' c', e = .returned (.tuple #[regV A' (stR hot rs).length c', .int .i64 (stN hot rs), .bool (stOk hot rs)]) ∧ OwnG w.heap.size w'.heap.size w' A' (stR hot rs).length (stR hot rs) ∧ Over w w' := by
 have hl := h.1
 subst hl
 have hn40 := reg_len hr
 refine walk_from (m := 26) (Tryz.func14) rfl rfl (Nat.le_of_ble_eq_true rfl) ?_
 refine at_seq ?_
 refine at_region ?_
 refine at_op rfl ?_
 refine op_alloc rfl tyz_impl_Region rfl (by decide) (fun b1 => ?_)
 refine at_rsE (by simp only [ya,yb,yc,yd,Value.cells,ye]; rfl) ?_
 refine at_q rfl rfl (by decide) (qt_assign rfl rfl) ?_
 refine at_q rfl rfl (by decide) (qt_assign rfl rfl) ?_
 refine at_end ?_
 refine at_seq ?_
 refine at_region ?_
 refine at_q rfl rfl (by decide) (qt_move rfl rfl) ?_
 refine at_q rfl rfl (by decide) (qt_nilCheck rfl rfl) ?_
 refine at_q rfl rfl (by decide) (qt_loadS rfl rfl tys_impl_Region rfl (rdOldS hcell0 hbb)) ?_
 refine at_op rfl ?_
 refine op_alloc rfl tyz_impl_Region rfl (by decide) (fun b2 => ?_)
 refine at_rsE (by simp only [ya,yb,yc,yd,Value.cells,ye]; rfl) ?_
 refine at_op rfl ?_
 refine op_storeAll' (k := 1) rfl rfl rfl rfl (rfl) (by rfl) tyz_impl_Region.szx rfl rfl rfl ?_
 refine at_rsE (by simp only [ya,yb,yc,yd,Value.cells,ye]; rfl) ?_
 refine at_end ?_
 refine at_cur0 (c := c) h ?_
 refine at_rsE (by simp only [List.nil_append, List.cons_append, List.set_cons_zero, List.set_cons_succ, List.eraseIdx_cons_zero, List.eraseIdx_cons_succ, Value.cells, List.toList_toArray]; rfl) ?_
 refine at_seq ?_
 refine at_region ?_
 refine at_q rfl rfl (by decide) (qt_assign rfl rfl) ?_
 refine at_end ?_
 refine at_block ?_
 refine at_loopc (X := Nat × List Ring_ × Bool × (Option Addr × Nat) × Nat × Nat) (fun x => StabI hot rs x.2.1 x.1) (fun x => 401 - cnt x.2.1) (fun x => [(8, .int .i64 (x.1 : Int))]) (C := [(1, _), (4, _), (5, _), (6, _), (7, _)]) ⟨rfl, rfl, rfl, rfl, rfl, trivial⟩ (fun x => [.cel b1 28 [.slice none 0 0], .cel b2 28 [.slice x.2.2.2.1.1 x.2.1.length x.2.2.2.1.2], curR w x.2.1.length x.2.1 x.2.2]) (0, rs, true, (A, c), 0, 0) (StabI.start hr hG) ⟨rfl, rfl, rfl, rfl, rfl, rfl, trivial⟩ (fun _ h => h) ?_
 intro ⟨r, ss, fl, ⟨cA, cc⟩, clo, chi⟩ hx L hL1
 refine at_envE (by simp only [ya,yb]; rfl) ?_
 refine at_rsE (by first | (dsimp only; done) | (dsimp only; rfl) | rfl) ?_
 have hx1 : StabI hot rs ss r := hx
 have hr400 := hx1.r_le
 have hs40 := reg_len hx1.reg
 refine at_seq ?_
 refine at_block ?_
 refine at_seq ?_
 refine at_region ?_
 refine at_q rfl rfl (by decide) (qt_move rfl rfl) ?_
 refine at_op rfl ?_
 refine op_call ok_spec_l13Snapped (X := (Option Addr × Nat) × Nat × Nat) (v := fun x => regV x.1.1 ss.length x.1.2) (r := fun x => gegR ss.length (snapG hot ss) x.2.1 x.2.2 x.1.1) (H := fun _ => True) rfl rfl rfl (by decide) (fun w1 hs => gegNew (l13Snapped_any b2 0 cA ss.length cc ss B m d hot w1 (rd1 (k := 1) rfl rfl w1 hs) (lt_of_some (hs.cel (k := 1) rfl)) (curRings (hs.all 2 _ rfl).1 hs.fin) hx1.reg (hh.over hs.fin) hm hok hx1.bare)) ?_
 rintro ⟨⟨gA, gc⟩, glo, ghi⟩ -
 refine at_rsE (by simp only [ya,yb,yc,yd,Value.cells,ye]; rfl) ?_
 refine at_op rfl ?_
 refine op_alloc rfl tyz_impl_Region rfl (by decide) (fun b3 => ?_)
 refine at_rsE (by simp only [ya,yb,yc,yd,Value.cells,ye]; rfl) ?_
 refine at_op rfl ?_
 refine op_storeAll' (k := 4) rfl rfl rfl rfl (rfl) (by rfl) tyz_impl_Region.szx rfl rfl rfl ?_
 refine at_rsE (by simp only [ya,yb,yc,yd,Value.cells,ye]; rfl) ?_
 refine at_end ?_
 refine at_seq ?_
 refine at_seq ?_
 refine at_region ?_
 refine at_q rfl rfl (by decide) (qt_call ok_spec_l13Ok rfl rfl (fun w1 hs => l13Ok_big b3 0 gA ss.length gc (snapG hot ss) w1 (rd1 (k := 4) rfl rfl w1 hs) (lt_of_some (hs.cel (k := 4) rfl)) (gegG (hs.all 3 _ rfl).1).rings (by omega))) ?_
 refine at_q rfl rfl (by decide) (qt_not rfl rfl) ?_
 refine at_end ?_
 refine at_cond rfl (fun c1 => ?_) (fun c1 => ?_)
 ·try simp only [za,zb,zc,zd,ze,zf,Bool.not_true,Bool.not_false,zg,zh,ne_eq,zi,zj] at c1
  refine at_seq ?_
  refine at_region ?_
  refine at_q rfl rfl (by decide) (qt_build rfl rfl (bld_impl_Region_)) ?_
  refine at_op rfl ?_
  refine op_storeAll' (k := 0) rfl rfl rfl rfl (rfl) (by rfl) tyz_impl_Region.szx rfl rfl rfl ?_
  refine at_rsE (by simp only [ya,yb,yc,yd,Value.cells,ye]; rfl) ?_
  refine at_q rfl rfl (by decide) (qt_assign rfl rfl) ?_
  refine at_q rfl rfl (by decide) (qt_assign rfl rfl) ?_
  refine at_end ?_
  refine at_retc ?_
  refine then_ret ?_
  refine pass_ret ?_
  refine then_ret ?_
  refine then_ret ?_
  refine pass_ret ?_
  refine at_ret3 rfl (rvCelS (k := 0) rfl tys_impl_Region rfl rfl) (.tmp rfl) (.tmp rfl) ?_
  intro w' hs
  obtain ⟨e1, e2, e3⟩ := st_none (hx1.full c1)
  exact ⟨none, 0, by rw [e1, e2, e3]; rfl, by rw [e1]; exact OwnG.nil none, hs.fin⟩
 ·try simp only [za,zb,zc,zd,ze,zf,Bool.not_true,Bool.not_false,zg,zh,ne_eq,zi,zj] at c1
  refine at_skip ?_
  refine norm_then ?_
  refine at_seq ?_
  refine at_seq ?_
  refine at_region ?_
  refine at_q rfl rfl (by decide) (qt_loadS rfl rfl tys_impl_Region rfl (rdAll (k := 4) rfl)) ?_
  refine at_q rfl rfl (by decide) (qt_loadS rfl rfl tys_impl_Region rfl (rdAll (k := 1) rfl)) ?_
  refine at_q rfl rfl (by decide) (qt_call ok_spec_SameRegion rfl rfl (fun w1 hs => specSameRegion_any gA cA ss.length ss.length gc cc (snapG hot ss) ss w1 (gegG (hs.all 3 _ rfl).1).rings (curRings (hs.all 2 _ rfl).1 hs.fin) (smallR.of c1).total (smallR.of hx1.reg).total)) ?_
  refine at_end ?_
  refine at_cond rfl (fun c2 => ?_) (fun c2 => ?_)
  ·try simp only [za,zb,zc,zd,ze,zf,Bool.not_true,Bool.not_false,zg,zh,ne_eq,zi,zj] at c2
   refine at_seq ?_
   refine at_region ?_
   refine at_q rfl rfl (by decide) (qt_loadS rfl rfl tys_impl_Region rfl (rdAll (k := 4) rfl)) ?_
   refine at_q rfl rfl (by decide) (qt_move rfl rfl) ?_
   refine at_op rfl ?_
   refine op_storeAll' (k := 0) rfl rfl rfl rfl (rfl) (by rfl) tyz_impl_Region.szx rfl rfl rfl ?_
   refine at_rsE (by simp only [ya,yb,yc,yd,Value.cells,ye]; rfl) ?_
   refine at_q rfl rfl (by decide) (qt_assign rfl rfl) ?_
   refine at_q rfl rfl (by decide) (qt_assign rfl rfl) ?_
   refine at_end ?_
   refine at_retc ?_
   refine then_ret ?_
   refine pass_ret ?_
   refine then_ret ?_
   refine then_ret ?_
   refine pass_ret ?_
   refine at_ret3 rfl (rvCelS (k := 0) rfl tys_impl_Region rfl rfl) (.tmp rfl) (.tmp rfl) ?_
   intro w' hs
   obtain ⟨e1, e2, e3⟩ := st_some (hx1.fin c2)
   have hg := hs.all 3 _ rfl
   have ho := gegTop hg.1 (fun b hb => (hg.2.1 b hb).elim id (fun h => by cases h))
   rw [c2] at ho
   exact ⟨gA, gc, by rw [e1, e2, e3], by rw [e1]; exact ho, hs.fin⟩
  ·try simp only [za,zb,zc,zd,ze,zf,Bool.not_true,Bool.not_false,zg,zh,ne_eq,zi,zj] at c2
   obtain ⟨k1, k2⟩ := hx1.step hnd c1 c2
   have hc4 := reg_cnt k1.reg k1.bare
   refine at_skip ?_
   refine norm_then ?_
   refine at_region ?_
   refine at_q rfl rfl (by decide) (qt_loadS rfl rfl tys_impl_Region rfl (rdAll (k := 4) rfl)) ?_
   refine at_op rfl ?_
   refine op_storeAll' (k := 1) rfl rfl rfl rfl (rfl) (by rfl) tyz_impl_Region.szx rfl rfl rfl ?_
   refine at_rsE (by simp only [ya,yb,yc,yd,Value.cells,ye]; rfl) ?_
   refine at_nil ?_
   refine norm_block ?_
   refine norm_then ?_
   refine at_region ?_
   refine at_q rfl rfl (by decide) (qt_move rfl rfl) ?_
   refine at_q rfl rfl (by decide) (qt_add rfl rfl rfl (by omega) (by omega)) ?_
   refine at_q rfl rfl (by decide) (qt_assign rfl rfl) ?_
   refine at_end ?_
   exact at_againc hL1 ((r + 1, snapG hot ss, false, (gA, gc), glo, ghi)) (k1) (by simp only; omega) ⟨vi (by omega), rfl, rfl, rfl, rfl, rfl, trivial⟩ (fun _ h => (h.picks [0, 1, 3] (by decide)).upto ⟨rfl, by rw [snapG_len], by rw [snapG_len]; rfl, trivial⟩)
end Go.Proofs.YtakdjgldcpompaaGreat
