/- Pens that are mapped: both functions MapPen. -/
import Derived.Test.YtjhaakollekjeaaFrac3
import Derived.Test.YtjhaakollekjeaaPen
import Derived.Test.YtjhaakollekjeaaRegBounds
namespace Go.Proofs.Ytjhaakollekjeaa
open Go Go.RowKit
set_option linter.unusedVariables false
set_option linter.unusedSimpArgs false
set_option maxRecDepth 100000
set_option maxHeartbeats 4000000
set_option linter.unusedVariables false
set_option linter.unusedSimpArgs false

/-! ### What is computed -/
def mpB (m : Aff) (xs : List Pn) : Bool := affB m && penB xs
def mpC (m : Aff) (xs : List Pn) : Int := if mpB m xs = true then (if xs.all (apB m) = true then 0 else 2) else 1
def mpR (m : Aff) (xs : List Pn) : List Pn := if mpC m xs = 0 then hullP (xs.map (apP m)) else []
theorem mp_inv {m : Aff} {xs : List Pn} (h : mpB m xs = false) : mpC m xs = 1 ∧ mpR m xs = [] := by
 have e : mpC m xs = 1 := by rw [mpC, h]; rfl
 exact ⟨e, by rw [mpR, e]; rfl⟩
theorem mp_bad {m : Aff} {xs : List Pn} {k : Nat} (h : mpB m xs = true) (hk : k < xs.length) (h2 : apB m (pt xs k) = false) : mpC m xs = 2 ∧ mpR m xs = [] := by
 have e0 : xs.all (apB m) = false := List.all_eq_false.2 ⟨pt xs k, pt_mem hk, by rw [h2]; decide⟩
 have e : mpC m xs = 2 := by rw [mpC, h, e0]; rfl
 exact ⟨e, by rw [mpR, e]; rfl⟩
theorem mp_ok {m : Aff} {xs : List Pn} (h : mpB m xs = true) (h2 : ∀ j, j < xs.length → apB m (pt xs j) = true) : mpC m xs = 0 ∧ mpR m xs = hullP (xs.map (apP m)) := by
 have e0 : xs.all (apB m) = true := List.all_eq_true.2 fun p hp => by
  obtain ⟨j, hj, rfl⟩ := List.getElem_of_mem hp
  rw [pt_at hj]
  exact h2 j hj
 have e : mpC m xs = 0 := by rw [mpC, h, e0]; rfl
 exact ⟨e, by rw [mpR, e]; rfl⟩
theorem ap_okk {m : Aff} {p : Pn} (h : apB m p = true) : aqC m p = 0 ∧ aqP m p = apP m p ∧ okB (apP m p).1 (apP m p).2 = true := by
 have h0 : aqC m p = 0 := of_decide_eq_true h
 refine ⟨h0, by rw [aqP, if_pos h0], ?_⟩
 unfold aqC at h0
 split at h0
 ·split at h0
  ·assumption
  ·omega
 ·contradiction
theorem ap_not {m : Aff} {p : Pn} (h : ¬ aqC m p = 0) : apB m p = false := decide_eq_false h
theorem maps_step {m : Aff} {xs : List Pn} {k : Nat} (h : k < xs.length) : ((xs.take k).map (apP m)).flatMap ptCells ++ ptCells (apP m (pt xs k)) = ((xs.take (k + 1)).map (apP m)).flatMap ptCells := by
 rw [List.take_succ_eq_append_getElem h, List.map_append, List.flatMap_append, pt_at h]
 simp
theorem maps_H {m : Aff} {xs : List Pn} (h : ∀ j, j < xs.length → apB m (pt xs j) = true) : ∀ p ∈ xs.map (apP m), bdH p := fun p hp => by
 obtain ⟨q, hq, rfl⟩ := List.mem_map.1 hp
 obtain ⟨j, hj, rfl⟩ := List.getElem_of_mem hq
 rw [pt_at hj]
 have := (ap_okk (h j hj)).2.2
 simp [okB, inB] at this
 unfold bdH
 omega
theorem MapPen_any (m : Aff) (A : Option Addr) (n c : Nat) (xs : List Pn) (w : World) (h : Pts w A n xs) (hn : (n : Int) ≤ 1048576) :
  Calls Try.prog 23 #[affV m, .slice A n c] w fun e w' => ∃ A' c', e = .returned (.tuple #[.slice A' (mpR m xs).length c', .int .i64 (mpC m xs)]) ∧ OwnP w.heap.size w'.heap.size w' A' (mpR m xs).length (mpR m xs) ∧ Over w w' := by
 have hl := h.1
 refine walk_from (m := 40) (Try.func23) rfl rfl (Nat.le_of_ble_eq_true rfl) ?_
 refine at_seq ?_
 refine at_region ?_
 refine at_op rfl ?_
 refine op_box rfl rfl (rfl) rfl (by decide) (fun b1 => ?_)
 refine at_rsE (by simp only [ya,yb,yc,yd,Value.cells,ye]; rfl) ?_
 refine at_q rfl rfl (by decide) (qt_assign rfl rfl) ?_
 refine at_q rfl rfl (by decide) (qt_assign rfl rfl) ?_
 refine at_end ?_
 refine at_seq ?_
 refine at_seq ?_
 refine at_region ?_
 refine at_q rfl rfl (by decide) (qt_loadS rfl rfl tys_impl_Affine rfl (rdAll (k := 0) rfl)) ?_
 refine at_q rfl rfl (by decide) (qt_call ok_impl_ValidAffine rfl rfl (fun w1 hs => ValidAffine_any m w1)) ?_
 refine at_q rfl rfl (by decide) (qt_not rfl rfl) ?_
 refine at_q rfl rfl (by decide) (qt_move rfl rfl) ?_
 refine at_bsplit 14 rfl (fun g1 => ?_) (fun g1 => ?_)
 ·try simp only [za,zb,zc,zd,ze,zf,Bool.not_true,Bool.not_false,zg,zh,ne_eq,zi,zj] at g1
  refine at_off rfl rfl rfl rfl (by decide) rfl (by decide) ?_
  refine at_off rfl rfl rfl rfl (by decide) rfl (by decide) ?_
  refine at_off rfl rfl rfl rfl (by decide) rfl (by decide) ?_
  refine at_q rfl rfl (by decide) (qt_pickT rfl rfl rfl) ?_
  refine at_end ?_
  refine at_yes rfl rfl ?_
  refine at_seq ?_
  refine at_region ?_
  refine at_q rfl rfl (by decide) (qt_assign rfl rfl) ?_
  refine at_q rfl rfl (by decide) (qt_assign rfl rfl) ?_
  refine at_end ?_
  refine at_retc ?_
  refine then_ret ?_
  refine at_ret2 rfl (.tmp rfl) (.tmp rfl) ?_
  intro w' hs
  obtain ⟨e1, e2⟩ := mp_inv (m := m) (xs := xs) (by rw [mpB, g1]; rfl)
  exact ⟨none, 0, by rw [e1, e2]; rfl, by rw [e2]; exact OwnP.nil none, hs.fin⟩
 ·try simp only [za,zb,zc,zd,ze,zf,Bool.not_true,Bool.not_false,zg,zh,ne_eq,zi,zj] at g1
  refine at_on rfl rfl rfl rfl ?_
  refine op_q rfl (by decide) (qt_move rfl rfl) ?_
  refine at_on rfl rfl rfl rfl ?_
  refine op_q rfl (by decide) (qt_call ok_impl_IsPen rfl rfl (fun w1 hs => IsPen_any A n c xs w1 (h.over hs.fin) hn)) ?_
  refine at_on rfl rfl rfl rfl ?_
  refine op_q rfl (by decide) (qt_not rfl rfl) ?_
  refine at_q rfl rfl (by decide) (qt_pickF rfl rfl rfl) ?_
  refine at_end ?_
  refine at_cond rfl (fun c1 => ?_) (fun c1 => ?_)
  ·try simp only [za,zb,zc,zd,ze,zf,Bool.not_true,Bool.not_false,zg,zh,ne_eq,zi,zj] at c1
   refine at_seq ?_
   refine at_region ?_
   refine at_q rfl rfl (by decide) (qt_assign rfl rfl) ?_
   refine at_q rfl rfl (by decide) (qt_assign rfl rfl) ?_
   refine at_end ?_
   refine at_retc ?_
   refine then_ret ?_
   refine at_ret2 rfl (.tmp rfl) (.tmp rfl) ?_
   intro w' hs
   obtain ⟨e1, e2⟩ := mp_inv (m := m) (xs := xs) (by rw [mpB, c1, Bool.and_false])
   exact ⟨none, 0, by rw [e1, e2]; rfl, by rw [e2]; exact OwnP.nil none, hs.fin⟩
  ·try simp only [za,zb,zc,zd,ze,zf,Bool.not_true,Bool.not_false,zg,zh,ne_eq,zi,zj] at c1
   have hB : mpB m xs = true := (by rw [mpB, g1, c1]; rfl)
   obtain ⟨h16, hall, hpos⟩ := pen_of c1
   refine at_skip ?_
   refine norm_then ?_
   refine at_seq ?_
   refine at_region ?_
   refine at_q rfl rfl (by decide) (qt_assign rfl rfl) ?_
   refine at_row0 (T := 103) (s := 2) ?_
   refine at_rsE (by simp only [ya,yb,yc,yd,Value.cells,ye]; rfl) ?_
   refine at_end ?_
   refine at_seq ?_
   refine at_seq ?_
   refine at_region ?_
   refine at_q rfl rfl (by decide) (qt_move rfl rfl) ?_
   refine at_q rfl rfl (by decide) (qt_len rfl rfl tyl_sl_impl_Pt) ?_
   refine at_q rfl rfl (by decide) (qt_move rfl rfl) ?_
   refine at_end ?_
   refine at_block ?_
   refine at_loopc (X := Nat × Option Addr × Nat) (fun x => x.1 ≤ n ∧ (∀ j, j < x.1 → apB m (pt xs j) = true)) (fun x => n - x.1) (fun x => [(6, .slice x.2.1 x.1 x.2.2), (21, .int .i64 (x.1 : Int))]) (C := [(2, _), (4, _), (5, _), (19, _), (20, _)]) ⟨rfl, rfl, rfl, rfl, rfl, trivial⟩ (fun x => [.cel b1 58 (affCs m), rowR (Bs.N ⟨w, []⟩) 103 2 x.1 (((xs.take x.1).map (apP m)).flatMap ptCells) x.2]) (0, none, 0) (⟨Nat.zero_le _, fun j hj => absurd hj (Nat.not_lt_zero j)⟩) ⟨rfl, rfl, rfl, rfl, rfl, rfl, rfl, trivial⟩ (fun _ h => h) ?_
   intro ⟨k, rA, rc⟩ hx L hL1
   refine at_envE (by simp only [ya,yb]; rfl) ?_
   refine at_rsE (by first | (dsimp only; done) | (dsimp only; rfl) | rfl) ?_
   have hk : k ≤ n := hx.1
   have hok : ∀ j, j < k → apB m (pt xs j) = true := hx.2
   refine at_seq ?_
   refine at_region ?_
   refine at_q rfl rfl (by decide) (qt_lss rfl rfl rfl) ?_
   refine at_end ?_
   refine at_seq ?_
   refine at_cond rfl (fun c2 => ?_) (fun c2 => ?_)
   ·try simp only [za,zb,zc,zd,ze,zf,Bool.not_true,Bool.not_false,zg,zh,ne_eq,zi,zj] at c2
    have hlt : k < n := (by omega)
    obtain ⟨eb, eo, rfl, _⟩ := h.2 (by omega)
    have hpk : okB (pt xs k).1 (pt xs k).2 = true := List.all_eq_true.1 hall _ (pt_mem (by omega))
    refine at_skip ?_
    refine norm_then ?_
    refine at_seq ?_
    refine at_block ?_
    refine at_seq ?_
    refine at_region ?_
    refine at_q rfl rfl (by decide) (qt_index rfl rfl rfl tyl_sl_impl_Pt (by omega)) ?_
    refine at_q rfl rfl (by decide) (qt_loadS rfl rfl tys_impl_Pt rfl (rdPts h hlt)) ?_
    refine at_op rfl ?_
    refine op_alloc rfl tyz_impl_Pt rfl (by decide) (fun b2 => ?_)
    refine at_rsE (by simp only [ya,yb,yc,yd,Value.cells,ye]; rfl) ?_
    refine at_op rfl ?_
    refine op_storeAll' (k := 2) rfl rfl rfl rfl (rfl) (by rfl) tyz_impl_Pt.szx rfl rfl rfl ?_
    refine at_rsE (by simp only [ya,yb,yc,yd,Value.cells,ye]; rfl) ?_
    refine at_end ?_
    refine at_seq ?_
    refine at_region ?_
    refine at_q rfl rfl (by decide) (qt_loadS rfl rfl tys_impl_Affine rfl (rdAll (k := 0) rfl)) ?_
    refine at_q rfl rfl (by decide) (qt_loadS rfl rfl tys_impl_Pt rfl (rdAll (k := 2) rfl)) ?_
    refine at_q rfl rfl (by decide) (qt_call ok_impl_ApplyMap rfl rfl (fun w1 hs => ApplyMap_any m (pt xs k) w1 (by rw [mpB, Bool.and_eq_true] at hB; exact hB.1) hpk)) ?_
    refine at_q rfl rfl (by decide) (qt_move rfl rfl) ?_
    refine at_q rfl rfl (by decide) (qt_extract rfl rfl rfl) ?_
    refine at_q rfl rfl (by decide) (qt_extract rfl rfl rfl) ?_
    refine at_op rfl ?_
    refine op_alloc rfl tyz_impl_Pt rfl (by decide) (fun b3 => ?_)
    refine at_rsE (by simp only [ya,yb,yc,yd,Value.cells,ye]; rfl) ?_
    refine at_op rfl ?_
    refine op_storeAll' (k := 3) rfl rfl rfl rfl (rfl) (by rfl) tyz_impl_Pt.szx rfl rfl rfl ?_
    refine at_rsE (by simp only [ya,yb,yc,yd,Value.cells,ye]; rfl) ?_
    refine at_q rfl rfl (by decide) (qt_assign rfl rfl) ?_
    refine at_end ?_
    refine at_seq ?_
    refine at_seq ?_
    refine at_region ?_
    refine at_q rfl rfl (by decide) (qt_move rfl rfl) ?_
    refine at_q rfl rfl (by decide) (qt_neq rfl rfl rfl) ?_
    refine at_end ?_
    refine at_cond rfl (fun c3 => ?_) (fun c3 => ?_)
    ·try simp only [za,zb,zc,zd,ze,zf,Bool.not_true,Bool.not_false,zg,zh,ne_eq,zi,zj] at c3
     refine at_seq ?_
     refine at_region ?_
     refine at_q rfl rfl (by decide) (qt_assign rfl rfl) ?_
     refine at_q rfl rfl (by decide) (qt_assign rfl rfl) ?_
     refine at_end ?_
     refine at_retc ?_
     refine then_ret ?_
     refine pass_ret ?_
     refine then_ret ?_
     refine then_ret ?_
     refine pass_ret ?_
     refine then_ret ?_
     refine at_ret2 rfl (.tmp rfl) (.tmp rfl) ?_
     intro w' hs
     obtain ⟨e1, e2⟩ := mp_bad hB (show k < xs.length by omega) (ap_not c3)
     exact ⟨none, 0, by rw [e1, e2]; rfl, by rw [e2]; exact OwnP.nil none, hs.fin⟩
    ·try simp only [za,zb,zc,zd,ze,zf,Bool.not_true,Bool.not_false,zg,zh,ne_eq,zi,zj] at c3
     have ha : apB m (pt xs k) = true := decide_eq_true c3
     obtain ⟨_, a2, _⟩ := ap_okk ha
     refine at_skip ?_
     refine norm_then ?_
     refine at_region ?_
     refine at_q rfl rfl (by decide) (qt_move rfl rfl) ?_
     refine at_q rfl rfl (by decide) (qt_loadS rfl rfl tys_impl_Pt rfl (rdAll (k := 3) rfl)) ?_
     refine at_op rfl ?_
     refine op_buildSlice rfl rfl (bsl_sl_impl_Pt_1_0 rfl) rfl (by decide) (fun b4 => ?_)
     refine at_rsE (by simp only [ya,yb,yc,yd,Value.cells,ye]; rfl) ?_
     refine at_op rfl ?_
     refine op_appendR (k := 1) rfl tyl_sl_impl_Pt tyz_impl_Pt (by decide) rfl (by decide) rfl rfl rfl (fun w' hs => src_cel hs (k := 4) rfl rfl) (by simp [Value.oneCell']) (by unfold maxLen; omega) (by omega) (Nat.le_refl _) (fun r1 => ?_)
     refine at_rsE (by simp only [ya,yb,yc,yd,Value.cells,ye]; rfl) ?_
     refine at_q rfl rfl (by decide) (qt_assign rfl rfl) ?_
     refine at_nil ?_
     refine norm_block ?_
     refine norm_then ?_
     refine at_region ?_
     refine at_q rfl rfl (by decide) (qt_add rfl rfl rfl (by omega) (by omega)) ?_
     refine at_q rfl rfl (by decide) (qt_move rfl rfl) ?_
     refine at_end ?_
     exact at_againc hL1 ((k + 1, r1)) (⟨show k + 1 ≤ n by omega, fun j hj => by by_cases e : j = k; exact e ▸ ha; exact hok j (by have : j < k + 1 := hj; omega)⟩) (by simp only; omega) ⟨rfl, vi (by omega), rfl, rfl, rfl, rfl, rfl, trivial⟩ (fun _ h => h.upto ⟨rfl, by rw [a2, ← maps_step (show k < xs.length by omega)]; rfl, trivial⟩)
   ·try simp only [za,zb,zc,zd,ze,zf,Bool.not_true,Bool.not_false,zg,zh,ne_eq,zi,zj] at c2
    have hkn : k = xs.length := (by omega)
    subst hkn
    obtain ⟨e1, e2⟩ := mp_ok hB hok
    rw [List.take_of_length_le (Nat.le_refl _)]
    refine at_exit ?_
    refine pass_then (fun h => by cases h) ?_
    refine pass_then (fun h => by cases h) ?_
    refine pass_hit ?_
    refine norm_then ?_
    refine at_seq ?_
    refine at_region ?_
    refine at_q rfl rfl (by decide) (qt_move rfl rfl) ?_
    refine at_op rfl ?_
    refine op_call ok_impl_hullOf (v := fun x => .slice x.1 _ x.2) (r := fun x => rowR 0 103 2 _ _ x) (H := fun _ => True) rfl rfl rfl (by decide) (fun w1 hs => newRow' (hullOf_any _ _ _ (xs.map (apP m)) w1 (ptsRow (hs.all 1 _ rfl).1 (by rw [List.length_map])) (maps_H hok) (by omega) (by omega))) ?_
    rintro ⟨pA, pc⟩ -
    refine at_rsE (by simp only [ya,yb,yc,yd,Value.cells,ye]; rfl) ?_
    refine at_q rfl rfl (by decide) (qt_assign rfl rfl) ?_
    refine at_q rfl rfl (by decide) (qt_assign rfl rfl) ?_
    refine at_end ?_
    refine at_retc ?_
    refine at_ret2 rfl (.tmp rfl) (.tmp rfl) ?_
    intro w' hs
    exact ⟨pA, pc, by rw [e1, e2], by rw [e2]; exact rowOwn3 hs (k := 2) rfl rfl, hs.fin⟩
/-! ### The reference -/
def AffAt (w : World) (b o : Nat) (m : Aff) : Prop := b < w.heap.size ∧ ∀ j v, (affCs m)[j]? = some v → w.cell? ⟨b, o + j, none⟩ = some v
section
variable {w : World} {Rs : List Res} {b o : Nat} {m : Aff}
theorem AffAt.two (h : AffAt w b o m) (j : Nat) {off : Nat} {u v : Value} (hj : (affCs m)[j]? = some u) (hj2 : (affCs m)[j + 1]? = some v) (he : off = o + j) : ∀ w', St ⟨w, []⟩ Rs w' → ∀ i x, [u, v][i]? = some x → w'.cell? ⟨b, off + i, none⟩ = some x := fun w' hs i x hx => by
 subst he
 match i, hx with
 | 0, hx => simp at hx; subst hx; exact rdOld (h.2 j _ hj) h.1 w' hs
 | 1, hx => simp at hx; subst hx; rw [Nat.add_assoc]; exact rdOld (h.2 (j + 1) _ hj2) h.1 w' hs
theorem AffAt.over {w' : World} (h : AffAt w b o m) (ho : Over w w') : AffAt w' b o m := ⟨Nat.lt_of_lt_of_le h.1 ho.size, fun j v hj => ((ocell ho).1 b _ h.1).trans (h.2 j v hj)⟩
theorem affCel {w0 : Bs} {k T : Nat} (hk : Rs[k]? = some (.cel b T (affCs m))) : ∀ w, St w0 Rs w → AffAt w b 0 m := fun w hs => ⟨lt_of_some (hs.cel hk), fun j v hj => rdAll hk w hs j v hj⟩
theorem rdPtsS {w0 : Bs} {j n : Nat} {xs : List Pn} (h : ∀ w, St w0 Rs w → Pts w (some ⟨b, o, none⟩) n xs) (hj : j < n) : ∀ w', St w0 Rs w' → ∀ q v, [Value.int .i64 (px xs j), Value.int .i64 (py xs j)][q]? = some v → w'.cell? ⟨b, o + j * 2 + q, none⟩ = some v := fun w' hs q v hv => by
 obtain ⟨b', o', e, _, h1, h2⟩ := (h w' hs).at_ hj
 injection e with e
 injection e with e1 e2 _
 subst e1 e2
 match q, hv with
 | 0, hv => simp at hv; subst hv; exact h1
 | 1, hv => simp at hv; subst hv; exact h2
end
theorem l04List_any (b o : Nat) (m : Aff) (w : World) (h : AffAt w b o m) : Calls Try.prog 82 #[.pointer (some ⟨b, o, none⟩)] w fun e w' => ∃ g : Nat, e = .returned (.slice (some ⟨g, 0, none⟩) 6 6) ∧ Over w w' ∧ (Res.cel g 56 ((affL m).flatMap ptCells)).P w' ∧ (∀ b, (Res.cel g 56 ((affL m).flatMap ptCells)).F b → w.heap.size ≤ b) ∧ (Res.cel g 56 ((affL m).flatMap ptCells)).B = 0 ∧ True := by
 refine walk_from (m := 28) (Try.func82) rfl rfl (Nat.le_of_ble_eq_true rfl) ?_
 refine at_seq ?_
 refine at_region ?_
 refine at_q rfl rfl (by decide) (qt_assign rfl rfl) ?_
 refine at_end ?_
 refine at_seq ?_
 refine dg_start mixed rfl ?_
 refine dg_phase 26 ?_
 refine dg_q (i := 0) rfl (by kernel_rfl) (by kernel_rfl) (by kernel_rfl) [] (by kernel_rfl) (fun _ _ _ h => h) rfl rfl (by decide) (fun _ h => h.upto trivial) (qt_move rfl rfl) ?_
 refine dg_q (i := 1) rfl (by kernel_rfl) (by kernel_rfl) (by kernel_rfl) [] (by kernel_rfl) (fun _ _ _ h => h) rfl rfl (by decide) (fun _ h => h.upto trivial) (qt_nilCheck rfl rfl) ?_
 refine dg_q (i := 2) rfl (by kernel_rfl) (by kernel_rfl) (by kernel_rfl) [] (by kernel_rfl) (fun _ _ _ h => h) rfl rfl (by decide) (fun _ h => h.upto trivial) (qt_fieldAddr rfl rfl tyf_impl_Affine_0) ?_
 refine dg_q (i := 3) rfl (by kernel_rfl) (by kernel_rfl) (by kernel_rfl) [] (by kernel_rfl) (fun _ _ _ h => h) rfl rfl (by decide) (fun _ h => h.upto trivial) (qt_loadS rfl rfl tys_impl_Frac rfl (h.two 0 rfl rfl (by omega))) ?_
 refine dg_q (i := 4) rfl (by kernel_rfl) (by kernel_rfl) (by kernel_rfl) [] (by kernel_rfl) (fun _ _ _ h => h) rfl rfl (by decide) (fun _ h => h.upto trivial) (qt_move rfl rfl) ?_
 refine dg_q (i := 5) rfl (by kernel_rfl) (by kernel_rfl) (by kernel_rfl) [] (by kernel_rfl) (fun _ _ _ h => h) rfl rfl (by decide) (fun _ h => h.upto trivial) (qt_nilCheck rfl rfl) ?_
 refine dg_q (i := 6) rfl (by kernel_rfl) (by kernel_rfl) (by kernel_rfl) [] (by kernel_rfl) (fun _ _ _ h => h) rfl rfl (by decide) (fun _ h => h.upto trivial) (qt_fieldAddr rfl rfl tyf_impl_Affine_1) ?_
 refine dg_q (i := 7) rfl (by kernel_rfl) (by kernel_rfl) (by kernel_rfl) [] (by kernel_rfl) (fun _ _ _ h => h) rfl rfl (by decide) (fun _ h => h.upto trivial) (qt_loadS rfl rfl tys_impl_Frac rfl (h.two 2 rfl rfl (by omega))) ?_
 refine dg_q (i := 8) rfl (by kernel_rfl) (by kernel_rfl) (by kernel_rfl) [] (by kernel_rfl) (fun _ _ _ h => h) rfl rfl (by decide) (fun _ h => h.upto trivial) (qt_move rfl rfl) ?_
 refine dg_q (i := 9) rfl (by kernel_rfl) (by kernel_rfl) (by kernel_rfl) [] (by kernel_rfl) (fun _ _ _ h => h) rfl rfl (by decide) (fun _ h => h.upto trivial) (qt_nilCheck rfl rfl) ?_
 refine dg_q (i := 10) rfl (by kernel_rfl) (by kernel_rfl) (by kernel_rfl) [] (by kernel_rfl) (fun _ _ _ h => h) rfl rfl (by decide) (fun _ h => h.upto trivial) (qt_fieldAddr rfl rfl tyf_impl_Affine_2) ?_
 refine dg_q (i := 11) rfl (by kernel_rfl) (by kernel_rfl) (by kernel_rfl) [] (by kernel_rfl) (fun _ _ _ h => h) rfl rfl (by decide) (fun _ h => h.upto trivial) (qt_loadS rfl rfl tys_impl_Frac rfl (h.two 4 rfl rfl (by omega))) ?_
 refine dg_q (i := 12) rfl (by kernel_rfl) (by kernel_rfl) (by kernel_rfl) [] (by kernel_rfl) (fun _ _ _ h => h) rfl rfl (by decide) (fun _ h => h.upto trivial) (qt_move rfl rfl) ?_
 refine dg_q (i := 13) rfl (by kernel_rfl) (by kernel_rfl) (by kernel_rfl) [] (by kernel_rfl) (fun _ _ _ h => h) rfl rfl (by decide) (fun _ h => h.upto trivial) (qt_nilCheck rfl rfl) ?_
 refine dg_q (i := 14) rfl (by kernel_rfl) (by kernel_rfl) (by kernel_rfl) [] (by kernel_rfl) (fun _ _ _ h => h) rfl rfl (by decide) (fun _ h => h.upto trivial) (qt_fieldAddr rfl rfl tyf_impl_Affine_3) ?_
 refine dg_q (i := 15) rfl (by kernel_rfl) (by kernel_rfl) (by kernel_rfl) [] (by kernel_rfl) (fun _ _ _ h => h) rfl rfl (by decide) (fun _ h => h.upto trivial) (qt_loadS rfl rfl tys_impl_Frac rfl (h.two 6 rfl rfl (by omega))) ?_
 refine dg_q (i := 16) rfl (by kernel_rfl) (by kernel_rfl) (by kernel_rfl) [] (by kernel_rfl) (fun _ _ _ h => h) rfl rfl (by decide) (fun _ h => h.upto trivial) (qt_move rfl rfl) ?_
 refine dg_q (i := 17) rfl (by kernel_rfl) (by kernel_rfl) (by kernel_rfl) [] (by kernel_rfl) (fun _ _ _ h => h) rfl rfl (by decide) (fun _ h => h.upto trivial) (qt_nilCheck rfl rfl) ?_
 refine dg_q (i := 18) rfl (by kernel_rfl) (by kernel_rfl) (by kernel_rfl) [] (by kernel_rfl) (fun _ _ _ h => h) rfl rfl (by decide) (fun _ h => h.upto trivial) (qt_fieldAddr rfl rfl tyf_impl_Affine_4) ?_
 refine dg_q (i := 19) rfl (by kernel_rfl) (by kernel_rfl) (by kernel_rfl) [] (by kernel_rfl) (fun _ _ _ h => h) rfl rfl (by decide) (fun _ h => h.upto trivial) (qt_loadS rfl rfl tys_impl_Frac rfl (h.two 8 rfl rfl (by omega))) ?_
 refine dg_q (i := 20) rfl (by kernel_rfl) (by kernel_rfl) (by kernel_rfl) [] (by kernel_rfl) (fun _ _ _ h => h) rfl rfl (by decide) (fun _ h => h.upto trivial) (qt_move rfl rfl) ?_
 refine dg_q (i := 21) rfl (by kernel_rfl) (by kernel_rfl) (by kernel_rfl) [] (by kernel_rfl) (fun _ _ _ h => h) rfl rfl (by decide) (fun _ h => h.upto trivial) (qt_nilCheck rfl rfl) ?_
 refine dg_q (i := 22) rfl (by kernel_rfl) (by kernel_rfl) (by kernel_rfl) [] (by kernel_rfl) (fun _ _ _ h => h) rfl rfl (by decide) (fun _ h => h.upto trivial) (qt_fieldAddr rfl rfl tyf_impl_Affine_5) ?_
 refine dg_q (i := 23) rfl (by kernel_rfl) (by kernel_rfl) (by kernel_rfl) [] (by kernel_rfl) (fun _ _ _ h => h) rfl rfl (by decide) (fun _ h => h.upto trivial) (qt_loadS rfl rfl tys_impl_Frac rfl (h.two 10 rfl rfl (by omega))) ?_
 refine dg_one (i := 24) rfl (by decide) (by kernel_rfl) rfl ?_
 refine op_buildSlice rfl rfl (bsl_sl_impl_Frac_6_0_1_2_3_4_5 rfl rfl rfl rfl rfl rfl) rfl (by decide) (fun b1 => ?_)
 refine at_rsE (by simp only [ya,yb,yc,yd,Value.cells,ye]; rfl) ?_
 refine dr_keep (fun _ h => h.upto trivial) ?_
 refine dg_q (i := 25) rfl (by kernel_rfl) (by kernel_rfl) (by kernel_rfl) [] (by kernel_rfl) (fun _ _ _ h => h) rfl rfl (by decide) (fun _ h => h.upto trivial) (qt_assign rfl rfl) ?_
 refine dg_done (by kernel_rfl) ?_
 refine norm_then ?_
 refine at_retc ?_
 refine at_ret1 rfl (.tmp rfl) ?_
 intro w' hs
 exact ⟨b1, rfl, hs.fin, (hs.all 0 _ rfl).1, fun b hb => ((hs.all 0 _ rfl).2.1 b hb).elim id (fun h => by cases h), rfl, trivial⟩
theorem l04Ok_any (b o : Nat) (m : Aff) (w : World) (h : AffAt w b o m) : Calls Try.prog 48 #[.pointer (some ⟨b, o, none⟩)] w fun e w' => e = .returned (.bool (affB m)) ∧ Over w w' := by
 refine walk_from (m := 17) (Try.func48) rfl rfl (Nat.le_of_ble_eq_true rfl) ?_
 refine at_seq ?_
 refine at_region ?_
 refine at_q rfl rfl (by decide) (qt_assign rfl rfl) ?_
 refine at_end ?_
 refine at_seq ?_
 refine at_region ?_
 refine at_q rfl rfl (by decide) (qt_move rfl rfl) ?_
 refine at_op rfl ?_
 refine op_call ok_spec_l04List (X := Nat) (v := fun g => .slice (some ⟨g, 0, none⟩) 6 6) (r := fun g => Res.cel g 56 ((affL m).flatMap ptCells)) (H := fun _ => True) rfl rfl rfl (by decide) (fun w1 hs => l04List_any b o m w1 (h.over hs.fin)) ?_
 rintro g -
 refine at_rsE (by simp only [ya,yb,yc,yd,Value.cells,ye]; rfl) ?_
 refine at_q rfl rfl (by decide) (qt_assign rfl rfl) ?_
 refine at_end ?_
 refine at_seq ?_
 refine at_seq ?_
 refine at_region ?_
 refine at_q rfl rfl (by decide) (qt_assign rfl rfl) ?_
 refine at_end ?_
 refine at_block ?_
 refine at_loopk (X := Nat) (fun k => k ≤ 6 ∧ ∀ j, j < k → frB (pt (affL m) j) = true) (fun k => 6 - k) (fun k => [(4, .int .i64 (k : Int))]) (C := [(2, _), (3, _)]) ⟨rfl, rfl, trivial⟩ 0 (⟨Nat.zero_le _, fun j hj => absurd hj (Nat.not_lt_zero j)⟩) ⟨rfl, rfl, rfl, trivial⟩ ?_
 intro k hk L hL1
 refine at_envE (by simp only [ya,yb]; rfl) ?_
 obtain ⟨hk6, hall⟩ := hk
 refine at_seq ?_
 refine at_seq ?_
 refine at_region ?_
 refine at_q rfl rfl (by decide) (qt_move rfl rfl) ?_
 refine at_q rfl rfl (by decide) (qt_lss rfl rfl rfl) ?_
 refine at_end ?_
 refine at_cond rfl (fun c1 => ?_) (fun c1 => ?_)
 ·try simp only [za,zb,zc,zd,ze,zf,Bool.not_true,Bool.not_false,zg,zh,ne_eq,zi,zj] at c1
  have hlt : k < 6 := (by omega)
  refine at_skip ?_
  refine norm_then ?_
  refine at_seq ?_
  refine at_block ?_
  refine at_seq ?_
  refine at_region ?_
  refine at_q rfl rfl (by decide) (qt_move rfl rfl) ?_
  refine at_q rfl rfl (by decide) (qt_move rfl rfl) ?_
  refine at_q rfl rfl (by decide) (qt_index rfl rfl rfl tyl_sl_impl_Frac (by omega)) ?_
  refine at_q rfl rfl (by decide) (qt_loadS rfl rfl tys_impl_Frac rfl (rdPtsS (ptsCel (affL m) (k := 0) rfl rfl) hlt)) ?_
  refine at_q rfl rfl (by decide) (qt_call ok_spec_l02Ok rfl rfl (fun w1 hs => l02Ok_any (pt (affL m) k) w1)) ?_
  refine at_q rfl rfl (by decide) (qt_not rfl rfl) ?_
  refine at_end ?_
  refine at_cond rfl (fun c2 => ?_) (fun c2 => ?_)
  ·try simp only [za,zb,zc,zd,ze,zf,Bool.not_true,Bool.not_false,zg,zh,ne_eq,zi,zj] at c2
   refine at_seq ?_
   refine at_region ?_
   refine at_q rfl rfl (by decide) (qt_assign rfl rfl) ?_
   refine at_end ?_
   refine at_retc ?_
   refine pass_ret ?_
   refine then_ret ?_
   refine then_ret ?_
   refine pass_ret ?_
   refine then_ret ?_
   refine at_ret1 rfl (.tmp rfl) ?_
   intro w' hs
   exact ⟨retB (aff_no hlt c2).symm, hs.fin⟩
  ·try simp only [za,zb,zc,zd,ze,zf,Bool.not_true,Bool.not_false,zg,zh,ne_eq,zi,zj] at c2
   refine at_skip ?_
   refine norm_block ?_
   refine norm_then ?_
   refine at_region ?_
   refine at_q rfl rfl (by decide) (qt_move rfl rfl) ?_
   refine at_q rfl rfl (by decide) (qt_add rfl rfl rfl (by omega) (by omega)) ?_
   refine at_q rfl rfl (by decide) (qt_assign rfl rfl) ?_
   refine at_end ?_
   exact at_againk hL1 (k + 1) (⟨by omega, fun j hj => by by_cases e : j = k; exact e ▸ c2; exact hall j (by omega)⟩) (by omega) ⟨vi (by omega), rfl, rfl, trivial⟩ (fun _ h => h.upto ⟨rfl, trivial⟩)
 ·try simp only [za,zb,zc,zd,ze,zf,Bool.not_true,Bool.not_false,zg,zh,ne_eq,zi,zj] at c1
  refine at_exit ?_
  refine pass_then (fun h => by cases h) ?_
  refine pass_then (fun h => by cases h) ?_
  refine pass_hit ?_
  refine norm_then ?_
  refine at_seq ?_
  refine at_region ?_
  refine at_q rfl rfl (by decide) (qt_assign rfl rfl) ?_
  refine at_end ?_
  refine at_retc ?_
  refine at_ret1 rfl (.tmp rfl) ?_
  intro w' hs
  exact ⟨retB (aff_yes fun j hj => hall j (by omega)).symm, hs.fin⟩
theorem apB_no1 {m : Aff} {p : Pn} (h : ¬ rwC m.xx m.xy m.dx p.1 p.2 = 0) : false = apB m p := by
 have e : aqK m p = rwC m.xx m.xy m.dx p.1 p.2 := if_neg h
 exact (decide_eq_false (by rw [aqC, e, if_neg h]; exact h)).symm
theorem apB_no2 {m : Aff} {p : Pn} (h0 : rwC m.xx m.xy m.dx p.1 p.2 = 0) (h : ¬ rwC m.yx m.yy m.dy p.1 p.2 = 0) : false = apB m p := by
 have e : aqK m p = rwC m.yx m.yy m.dy p.1 p.2 := if_pos h0
 exact (decide_eq_false (by rw [aqC, e, if_neg h]; exact h)).symm
theorem apB_yes {m : Aff} {p : Pn} (h0 : rwC m.xx m.xy m.dx p.1 p.2 = 0) (h : rwC m.yx m.yy m.dy p.1 p.2 = 0) : okB (rfV (rwP m.xx m.xy m.dx p.1 p.2)) (rfV (rwP m.yx m.yy m.dy p.1 p.2)) = apB m p := by
 have e : aqK m p = 0 := by rw [aqK, if_pos h0]; exact h
 have e2 : aqC m p = if okB (rfV (rwP m.xx m.xy m.dx p.1 p.2)) (rfV (rwP m.yx m.yy m.dy p.1 p.2)) = true then 0 else 2 := by rw [aqC, if_pos e]; rfl
 rw [apB, e2]
 cases okB (rfV (rwP m.xx m.xy m.dx p.1 p.2)) (rfV (rwP m.yx m.yy m.dy p.1 p.2)) <;> rfl
theorem l04Apply_any (b o : Nat) (m : Aff) (p : Pn) (w : World) (h : AffAt w b o m) : Calls Try.prog 50 #[.pointer (some ⟨b, o, none⟩), pV p] w fun e w' => e = .returned (.tuple #[pV (apP m p), .bool (apB m p)]) ∧ Over w w' := by
 refine walk_from (m := 57) (Try.func50) rfl rfl (Nat.le_of_ble_eq_true rfl) ?_
 refine at_seq ?_
 refine at_region ?_
 refine at_op rfl ?_
 refine op_box rfl rfl (rfl) rfl (by decide) (fun b1 => ?_)
 refine at_rsE (by simp only [ya,yb,yc,yd,Value.cells,ye]; rfl) ?_
 refine at_op rfl ?_
 refine op_alloc rfl tyz_impl_Pt rfl (by decide) (fun b2 => ?_)
 refine at_rsE (by simp only [ya,yb,yc,yd,Value.cells,ye]; rfl) ?_
 refine at_q rfl rfl (by decide) (qt_assign rfl rfl) ?_
 refine at_end ?_
 refine at_seq ?_
 refine dg_start mixed rfl ?_
 refine dg_phase 19 ?_
 refine dg_q (i := 0) rfl (by kernel_rfl) (by kernel_rfl) (by kernel_rfl) [] (by kernel_rfl) (fun _ _ _ h => h) rfl rfl (by decide) (fun _ h => h.upto ⟨rfl, rfl, trivial⟩) (qt_move rfl rfl) ?_
 refine dg_q (i := 1) rfl (by kernel_rfl) (by kernel_rfl) (by kernel_rfl) [] (by kernel_rfl) (fun _ _ _ h => h) rfl rfl (by decide) (fun _ h => h.upto ⟨rfl, rfl, trivial⟩) (qt_nilCheck rfl rfl) ?_
 refine dg_q (i := 2) rfl (by kernel_rfl) (by kernel_rfl) (by kernel_rfl) [] (by kernel_rfl) (fun _ _ _ h => h) rfl rfl (by decide) (fun _ h => h.upto ⟨rfl, rfl, trivial⟩) (qt_fieldAddr rfl rfl tyf_impl_Affine_0) ?_
 refine dg_q (i := 3) rfl (by kernel_rfl) (by kernel_rfl) (by kernel_rfl) [] (by kernel_rfl) (fun _ _ _ h => h) rfl rfl (by decide) (fun _ h => h.upto ⟨rfl, rfl, trivial⟩) (qt_loadS rfl rfl tys_impl_Frac rfl (h.two 0 rfl rfl (by omega))) ?_
 refine dg_q (i := 4) rfl (by kernel_rfl) (by kernel_rfl) (by kernel_rfl) [] (by kernel_rfl) (fun _ _ _ h => h) rfl rfl (by decide) (fun _ h => h.upto ⟨rfl, rfl, trivial⟩) (qt_move rfl rfl) ?_
 refine dg_q (i := 5) rfl (by kernel_rfl) (by kernel_rfl) (by kernel_rfl) [] (by kernel_rfl) (fun _ _ _ h => h) rfl rfl (by decide) (fun _ h => h.upto ⟨rfl, rfl, trivial⟩) (qt_nilCheck rfl rfl) ?_
 refine dg_q (i := 6) rfl (by kernel_rfl) (by kernel_rfl) (by kernel_rfl) [] (by kernel_rfl) (fun _ _ _ h => h) rfl rfl (by decide) (fun _ h => h.upto ⟨rfl, rfl, trivial⟩) (qt_fieldAddr rfl rfl tyf_impl_Affine_1) ?_
 refine dg_q (i := 7) rfl (by kernel_rfl) (by kernel_rfl) (by kernel_rfl) [] (by kernel_rfl) (fun _ _ _ h => h) rfl rfl (by decide) (fun _ h => h.upto ⟨rfl, rfl, trivial⟩) (qt_loadS rfl rfl tys_impl_Frac rfl (h.two 2 rfl rfl (by omega))) ?_
 refine dg_q (i := 8) rfl (by kernel_rfl) (by kernel_rfl) (by kernel_rfl) [] (by kernel_rfl) (fun _ _ _ h => h) rfl rfl (by decide) (fun _ h => h.upto ⟨rfl, rfl, trivial⟩) (qt_move rfl rfl) ?_
 refine dg_q (i := 9) rfl (by kernel_rfl) (by kernel_rfl) (by kernel_rfl) [] (by kernel_rfl) (fun _ _ _ h => h) rfl rfl (by decide) (fun _ h => h.upto ⟨rfl, rfl, trivial⟩) (qt_nilCheck rfl rfl) ?_
 refine dg_q (i := 10) rfl (by kernel_rfl) (by kernel_rfl) (by kernel_rfl) [] (by kernel_rfl) (fun _ _ _ h => h) rfl rfl (by decide) (fun _ h => h.upto ⟨rfl, rfl, trivial⟩) (qt_fieldAddr rfl rfl tyf_impl_Affine_4) ?_
 refine dg_q (i := 11) rfl (by kernel_rfl) (by kernel_rfl) (by kernel_rfl) [] (by kernel_rfl) (fun _ _ _ h => h) rfl rfl (by decide) (fun _ h => h.upto ⟨rfl, rfl, trivial⟩) (qt_loadS rfl rfl tys_impl_Frac rfl (h.two 8 rfl rfl (by omega))) ?_
 refine dg_q (i := 12) rfl (by kernel_rfl) (by kernel_rfl) (by kernel_rfl) [] (by kernel_rfl) (fun _ _ _ h => h) rfl rfl (by decide) (fun _ h => h.upto ⟨rfl, rfl, trivial⟩) (qt_loadS rfl rfl tys_impl_Pt rfl (rdAll (k := 0) rfl)) ?_
 refine dg_q (i := 13) rfl (by kernel_rfl) (by kernel_rfl) (by kernel_rfl) [] (by kernel_rfl) (fun _ _ _ h => h) rfl rfl (by decide) (fun _ h => h.upto ⟨rfl, rfl, trivial⟩) (qt_call ok_spec_l04Row rfl rfl (fun w1 hs => l04Row_any m.xx m.xy m.dx p w1)) ?_
 refine dg_q (i := 14) rfl (by kernel_rfl) (by kernel_rfl) (by kernel_rfl) [] (by kernel_rfl) (fun _ _ _ h => h) rfl rfl (by decide) (fun _ h => h.upto ⟨rfl, rfl, trivial⟩) (qt_move rfl rfl) ?_
 refine dg_q (i := 15) rfl (by kernel_rfl) (by kernel_rfl) (by kernel_rfl) [] (by kernel_rfl) (fun _ _ _ h => h) rfl rfl (by decide) (fun _ h => h.upto ⟨rfl, rfl, trivial⟩) (qt_extract rfl rfl rfl) ?_
 refine dg_q (i := 16) rfl (by kernel_rfl) (by kernel_rfl) (by kernel_rfl) [] (by kernel_rfl) (fun _ _ _ h => h) rfl rfl (by decide) (fun _ h => h.upto ⟨rfl, rfl, trivial⟩) (qt_extract rfl rfl rfl) ?_
 refine dg_q (i := 17) rfl (by kernel_rfl) (by kernel_rfl) (by kernel_rfl) [] (by kernel_rfl) (fun _ _ _ h => h) rfl rfl (by decide) (fun _ h => h.upto ⟨rfl, rfl, trivial⟩) (qt_assign rfl rfl) ?_
 refine dg_q (i := 18) rfl (by kernel_rfl) (by kernel_rfl) (by kernel_rfl) [] (by kernel_rfl) (fun _ _ _ h => h) rfl rfl (by decide) (fun _ h => h.upto ⟨rfl, rfl, trivial⟩) (qt_assign rfl rfl) ?_
 refine dg_done (by kernel_rfl) ?_
 refine norm_then ?_
 refine at_seq ?_
 refine dg_start mixed rfl ?_
 refine dg_phase 19 ?_
 refine dg_q (i := 0) rfl (by kernel_rfl) (by kernel_rfl) (by kernel_rfl) [] (by kernel_rfl) (fun _ _ _ h => h) rfl rfl (by decide) (fun _ h => h.upto ⟨rfl, rfl, trivial⟩) (qt_move rfl rfl) ?_
 refine dg_q (i := 1) rfl (by kernel_rfl) (by kernel_rfl) (by kernel_rfl) [] (by kernel_rfl) (fun _ _ _ h => h) rfl rfl (by decide) (fun _ h => h.upto ⟨rfl, rfl, trivial⟩) (qt_nilCheck rfl rfl) ?_
 refine dg_q (i := 2) rfl (by kernel_rfl) (by kernel_rfl) (by kernel_rfl) [] (by kernel_rfl) (fun _ _ _ h => h) rfl rfl (by decide) (fun _ h => h.upto ⟨rfl, rfl, trivial⟩) (qt_fieldAddr rfl rfl tyf_impl_Affine_2) ?_
 refine dg_q (i := 3) rfl (by kernel_rfl) (by kernel_rfl) (by kernel_rfl) [] (by kernel_rfl) (fun _ _ _ h => h) rfl rfl (by decide) (fun _ h => h.upto ⟨rfl, rfl, trivial⟩) (qt_loadS rfl rfl tys_impl_Frac rfl (h.two 4 rfl rfl (by omega))) ?_
 refine dg_q (i := 4) rfl (by kernel_rfl) (by kernel_rfl) (by kernel_rfl) [] (by kernel_rfl) (fun _ _ _ h => h) rfl rfl (by decide) (fun _ h => h.upto ⟨rfl, rfl, trivial⟩) (qt_move rfl rfl) ?_
 refine dg_q (i := 5) rfl (by kernel_rfl) (by kernel_rfl) (by kernel_rfl) [] (by kernel_rfl) (fun _ _ _ h => h) rfl rfl (by decide) (fun _ h => h.upto ⟨rfl, rfl, trivial⟩) (qt_nilCheck rfl rfl) ?_
 refine dg_q (i := 6) rfl (by kernel_rfl) (by kernel_rfl) (by kernel_rfl) [] (by kernel_rfl) (fun _ _ _ h => h) rfl rfl (by decide) (fun _ h => h.upto ⟨rfl, rfl, trivial⟩) (qt_fieldAddr rfl rfl tyf_impl_Affine_3) ?_
 refine dg_q (i := 7) rfl (by kernel_rfl) (by kernel_rfl) (by kernel_rfl) [] (by kernel_rfl) (fun _ _ _ h => h) rfl rfl (by decide) (fun _ h => h.upto ⟨rfl, rfl, trivial⟩) (qt_loadS rfl rfl tys_impl_Frac rfl (h.two 6 rfl rfl (by omega))) ?_
 refine dg_q (i := 8) rfl (by kernel_rfl) (by kernel_rfl) (by kernel_rfl) [] (by kernel_rfl) (fun _ _ _ h => h) rfl rfl (by decide) (fun _ h => h.upto ⟨rfl, rfl, trivial⟩) (qt_move rfl rfl) ?_
 refine dg_q (i := 9) rfl (by kernel_rfl) (by kernel_rfl) (by kernel_rfl) [] (by kernel_rfl) (fun _ _ _ h => h) rfl rfl (by decide) (fun _ h => h.upto ⟨rfl, rfl, trivial⟩) (qt_nilCheck rfl rfl) ?_
 refine dg_q (i := 10) rfl (by kernel_rfl) (by kernel_rfl) (by kernel_rfl) [] (by kernel_rfl) (fun _ _ _ h => h) rfl rfl (by decide) (fun _ h => h.upto ⟨rfl, rfl, trivial⟩) (qt_fieldAddr rfl rfl tyf_impl_Affine_5) ?_
 refine dg_q (i := 11) rfl (by kernel_rfl) (by kernel_rfl) (by kernel_rfl) [] (by kernel_rfl) (fun _ _ _ h => h) rfl rfl (by decide) (fun _ h => h.upto ⟨rfl, rfl, trivial⟩) (qt_loadS rfl rfl tys_impl_Frac rfl (h.two 10 rfl rfl (by omega))) ?_
 refine dg_q (i := 12) rfl (by kernel_rfl) (by kernel_rfl) (by kernel_rfl) [] (by kernel_rfl) (fun _ _ _ h => h) rfl rfl (by decide) (fun _ h => h.upto ⟨rfl, rfl, trivial⟩) (qt_loadS rfl rfl tys_impl_Pt rfl (rdAll (k := 0) rfl)) ?_
 refine dg_q (i := 13) rfl (by kernel_rfl) (by kernel_rfl) (by kernel_rfl) [] (by kernel_rfl) (fun _ _ _ h => h) rfl rfl (by decide) (fun _ h => h.upto ⟨rfl, rfl, trivial⟩) (qt_call ok_spec_l04Row rfl rfl (fun w1 hs => l04Row_any m.yx m.yy m.dy p w1)) ?_
 refine dg_q (i := 14) rfl (by kernel_rfl) (by kernel_rfl) (by kernel_rfl) [] (by kernel_rfl) (fun _ _ _ h => h) rfl rfl (by decide) (fun _ h => h.upto ⟨rfl, rfl, trivial⟩) (qt_move rfl rfl) ?_
 refine dg_q (i := 15) rfl (by kernel_rfl) (by kernel_rfl) (by kernel_rfl) [] (by kernel_rfl) (fun _ _ _ h => h) rfl rfl (by decide) (fun _ h => h.upto ⟨rfl, rfl, trivial⟩) (qt_extract rfl rfl rfl) ?_
 refine dg_q (i := 16) rfl (by kernel_rfl) (by kernel_rfl) (by kernel_rfl) [] (by kernel_rfl) (fun _ _ _ h => h) rfl rfl (by decide) (fun _ h => h.upto ⟨rfl, rfl, trivial⟩) (qt_extract rfl rfl rfl) ?_
 refine dg_q (i := 17) rfl (by kernel_rfl) (by kernel_rfl) (by kernel_rfl) [] (by kernel_rfl) (fun _ _ _ h => h) rfl rfl (by decide) (fun _ h => h.upto ⟨rfl, rfl, trivial⟩) (qt_assign rfl rfl) ?_
 refine dg_q (i := 18) rfl (by kernel_rfl) (by kernel_rfl) (by kernel_rfl) [] (by kernel_rfl) (fun _ _ _ h => h) rfl rfl (by decide) (fun _ h => h.upto ⟨rfl, rfl, trivial⟩) (qt_assign rfl rfl) ?_
 refine dg_done (by kernel_rfl) ?_
 refine norm_then ?_
 refine at_seq ?_
 refine at_region ?_
 refine at_q rfl rfl (by decide) (qt_move rfl rfl) ?_
 refine at_q rfl rfl (by decide) (qt_move rfl rfl) ?_
 refine at_q rfl rfl (by decide) (qt_build rfl rfl (bld_impl_Pt_0_1 rfl rfl)) ?_
 refine at_op rfl ?_
 refine op_alloc rfl tyz_impl_Pt rfl (by decide) (fun b3 => ?_)
 refine at_rsE (by simp only [ya,yb,yc,yd,Value.cells,ye]; rfl) ?_
 refine at_op rfl ?_
 refine op_storeAll' (k := 2) rfl rfl rfl rfl (rfl) (by rfl) tyz_impl_Pt.szx rfl rfl rfl ?_
 refine at_rsE (by simp only [ya,yb,yc,yd,Value.cells,ye]; rfl) ?_
 refine at_end ?_
 refine at_seq ?_
 refine dg_start mixed rfl ?_
 refine dg_phaseW 11 [1] ?_
 refine dg_q (i := 0) rfl (by kernel_rfl) (by kernel_rfl) (by kernel_rfl) [] (by kernel_rfl) (fun _ _ _ h => h) rfl rfl (by decide) (fun _ h => (h.wk [1]).upto ⟨rfl, rfl, rfl, trivial⟩) (qt_loadS rfl rfl tys_impl_Pt rfl (rdAll (k := 2) rfl)) ?_
 refine dg_q (i := 1) rfl (by kernel_rfl) (by kernel_rfl) (by kernel_rfl) [] (by kernel_rfl) (fun _ _ _ h => h) rfl rfl (by decide) (fun _ h => (h.wk [1]).upto ⟨rfl, rfl, rfl, trivial⟩) (qt_move rfl rfl) ?_
 refine dg_q (i := 2) rfl (by kernel_rfl) (by kernel_rfl) (by kernel_rfl) [] (by kernel_rfl) (fun _ _ _ h => h) rfl rfl (by decide) (fun _ h => (h.wk [1]).upto ⟨rfl, rfl, rfl, trivial⟩) (qt_move rfl rfl) ?_
 refine at_bsplit 50 rfl (fun g1 => ?_) (fun g1 => ?_)
 ·try simp only [za,zb,zc,zd,ze,zf,Bool.not_true,Bool.not_false,zg,zh,ne_eq,zi,zj] at g1
  refine dg_qg (i := 3) rfl (by kernel_rfl) (by kernel_rfl) (by kernel_rfl) [] (by kernel_rfl) (fun _ _ _ h => h) rfl rfl rfl rfl rfl (by decide) (fun _ h => (h.wk [1]).upto ⟨rfl, rfl, rfl, trivial⟩) (qt_move rfl rfl) ?_
  refine dg_q (i := 4) rfl (by kernel_rfl) (by kernel_rfl) (by kernel_rfl) [] (by kernel_rfl) (fun _ _ _ h => h) rfl rfl (by decide) (fun _ h => (h.wk [1]).upto ⟨rfl, rfl, rfl, trivial⟩) (qt_pickT rfl rfl rfl) ?_
  refine dg_q (i := 5) rfl (by kernel_rfl) (by kernel_rfl) (by kernel_rfl) [] (by kernel_rfl) (fun _ _ _ h => h) rfl rfl (by decide) (fun _ h => (h.wk [1]).upto ⟨rfl, rfl, rfl, trivial⟩) (qt_move rfl rfl) ?_
  refine at_bsplit 53 rfl (fun g2 => ?_) (fun g2 => ?_)
  ·try simp only [za,zb,zc,zd,ze,zf,Bool.not_true,Bool.not_false,zg,zh,ne_eq,zi,zj] at g2
   refine dg_qg (i := 6) rfl (by kernel_rfl) (by kernel_rfl) (by kernel_rfl) [] (by kernel_rfl) (fun _ _ _ h => h) rfl rfl rfl rfl rfl (by decide) (fun _ h => (h.wk [1]).upto ⟨rfl, rfl, rfl, trivial⟩) (qt_loadS rfl rfl tys_impl_Pt rfl (rdAll (k := 2) rfl)) ?_
   refine dg_qg (i := 7) rfl (by kernel_rfl) (by kernel_rfl) (by kernel_rfl) [] (by kernel_rfl) (fun _ _ _ h => h) rfl rfl rfl rfl rfl (by decide) (fun _ h => (h.wk [1]).upto ⟨rfl, rfl, rfl, trivial⟩) (qt_call ok_spec_l03Ok rfl rfl (fun w1 hs => l03Ok_any (rfV (rwP m.xx m.xy m.dx p.1 p.2)) (rfV (rwP m.yx m.yy m.dy p.1 p.2)) w1)) ?_
   refine dg_q (i := 8) rfl (by kernel_rfl) (by kernel_rfl) (by kernel_rfl) [] (by kernel_rfl) (fun _ _ _ h => h) rfl rfl (by decide) (fun _ h => (h.wk [1]).upto ⟨rfl, rfl, rfl, trivial⟩) (qt_pickT rfl rfl rfl) ?_
   refine dg_one (i := 9) rfl (by decide) (by kernel_rfl) rfl ?_
   refine op_storeAll' (k := 1) rfl rfl rfl rfl (rfl) (by rfl) tyz_impl_Pt.szx rfl rfl rfl ?_
   refine at_rsE (by simp only [ya,yb,yc,yd,Value.cells,ye]; rfl) ?_
   refine dr_keep (fun _ h => (h.wk [1]).upto ⟨rfl, rfl, rfl, trivial⟩) ?_
   refine dg_q (i := 10) rfl (by kernel_rfl) (by kernel_rfl) (by kernel_rfl) [] (by kernel_rfl) (fun _ _ _ h => h) rfl rfl (by decide) (fun _ h => (h.wk [1]).upto ⟨rfl, rfl, rfl, trivial⟩) (qt_assign rfl rfl) ?_
   refine dg_done (by kernel_rfl) ?_
   refine norm_then ?_
   refine at_retc ?_
   refine at_ret2 rfl (rvCelS (k := 1) rfl tys_impl_Pt rfl rfl) (.tmp rfl) ?_
   intro w' hs
   exact ⟨by rw [← apB_yes g1 g2]; rfl, hs.fin⟩
  ·try simp only [za,zb,zc,zd,ze,zf,Bool.not_true,Bool.not_false,zg,zh,ne_eq,zi,zj] at g2
   refine dg_off (i := 6) rfl (by kernel_rfl) (by kernel_rfl) (by kernel_rfl) [] (by kernel_rfl) (fun _ _ _ h => h) rfl rfl rfl rfl (by decide) rfl (by decide) (fun _ h => (h.wk [1]).upto ⟨rfl, rfl, rfl, trivial⟩) ?_
   refine dg_off (i := 7) rfl (by kernel_rfl) (by kernel_rfl) (by kernel_rfl) [] (by kernel_rfl) (fun _ _ _ h => h) rfl rfl rfl rfl (by decide) rfl (by decide) (fun _ h => (h.wk [1]).upto ⟨rfl, rfl, rfl, trivial⟩) ?_
   refine dg_q (i := 8) rfl (by kernel_rfl) (by kernel_rfl) (by kernel_rfl) [] (by kernel_rfl) (fun _ _ _ h => h) rfl rfl (by decide) (fun _ h => (h.wk [1]).upto ⟨rfl, rfl, rfl, trivial⟩) (qt_pickF rfl rfl rfl) ?_
   refine dg_one (i := 9) rfl (by decide) (by kernel_rfl) rfl ?_
   refine op_storeAll' (k := 1) rfl rfl rfl rfl (rfl) (by rfl) tyz_impl_Pt.szx rfl rfl rfl ?_
   refine at_rsE (by simp only [ya,yb,yc,yd,Value.cells,ye]; rfl) ?_
   refine dr_keep (fun _ h => (h.wk [1]).upto ⟨rfl, rfl, rfl, trivial⟩) ?_
   refine dg_q (i := 10) rfl (by kernel_rfl) (by kernel_rfl) (by kernel_rfl) [] (by kernel_rfl) (fun _ _ _ h => h) rfl rfl (by decide) (fun _ h => (h.wk [1]).upto ⟨rfl, rfl, rfl, trivial⟩) (qt_assign rfl rfl) ?_
   refine dg_done (by kernel_rfl) ?_
   refine norm_then ?_
   refine at_retc ?_
   refine at_ret2 rfl (rvCelS (k := 1) rfl tys_impl_Pt rfl rfl) (.tmp rfl) ?_
   intro w' hs
   exact ⟨by rw [← apB_no2 g1 g2]; rfl, hs.fin⟩
 ·try simp only [za,zb,zc,zd,ze,zf,Bool.not_true,Bool.not_false,zg,zh,ne_eq,zi,zj] at g1
  refine dg_off (i := 3) rfl (by kernel_rfl) (by kernel_rfl) (by kernel_rfl) [] (by kernel_rfl) (fun _ _ _ h => h) rfl rfl rfl rfl (by decide) rfl (by decide) (fun _ h => (h.wk [1]).upto ⟨rfl, rfl, rfl, trivial⟩) ?_
  refine dg_q (i := 4) rfl (by kernel_rfl) (by kernel_rfl) (by kernel_rfl) [] (by kernel_rfl) (fun _ _ _ h => h) rfl rfl (by decide) (fun _ h => (h.wk [1]).upto ⟨rfl, rfl, rfl, trivial⟩) (qt_pickF rfl rfl rfl) ?_
  refine dg_q (i := 5) rfl (by kernel_rfl) (by kernel_rfl) (by kernel_rfl) [] (by kernel_rfl) (fun _ _ _ h => h) rfl rfl (by decide) (fun _ h => (h.wk [1]).upto ⟨rfl, rfl, rfl, trivial⟩) (qt_move rfl rfl) ?_
  refine dg_off (i := 6) rfl (by kernel_rfl) (by kernel_rfl) (by kernel_rfl) [] (by kernel_rfl) (fun _ _ _ h => h) rfl rfl rfl rfl (by decide) rfl (by decide) (fun _ h => (h.wk [1]).upto ⟨rfl, rfl, rfl, trivial⟩) ?_
  refine dg_off (i := 7) rfl (by kernel_rfl) (by kernel_rfl) (by kernel_rfl) [] (by kernel_rfl) (fun _ _ _ h => h) rfl rfl rfl rfl (by decide) rfl (by decide) (fun _ h => (h.wk [1]).upto ⟨rfl, rfl, rfl, trivial⟩) ?_
  refine dg_q (i := 8) rfl (by kernel_rfl) (by kernel_rfl) (by kernel_rfl) [] (by kernel_rfl) (fun _ _ _ h => h) rfl rfl (by decide) (fun _ h => (h.wk [1]).upto ⟨rfl, rfl, rfl, trivial⟩) (qt_pickF rfl rfl rfl) ?_
  refine dg_one (i := 9) rfl (by decide) (by kernel_rfl) rfl ?_
  refine op_storeAll' (k := 1) rfl rfl rfl rfl (rfl) (by rfl) tyz_impl_Pt.szx rfl rfl rfl ?_
  refine at_rsE (by simp only [ya,yb,yc,yd,Value.cells,ye]; rfl) ?_
  refine dr_keep (fun _ h => (h.wk [1]).upto ⟨rfl, rfl, rfl, trivial⟩) ?_
  refine dg_q (i := 10) rfl (by kernel_rfl) (by kernel_rfl) (by kernel_rfl) [] (by kernel_rfl) (fun _ _ _ h => h) rfl rfl (by decide) (fun _ h => (h.wk [1]).upto ⟨rfl, rfl, rfl, trivial⟩) (qt_assign rfl rfl) ?_
  refine dg_done (by kernel_rfl) ?_
  refine norm_then ?_
  refine at_retc ?_
  refine at_ret2 rfl (rvCelS (k := 1) rfl tys_impl_Pt rfl rfl) (.tmp rfl) ?_
  intro w' hs
  exact ⟨by rw [← apB_no1 g1]; rfl, hs.fin⟩
theorem specMapPen_any (m : Aff) (A : Option Addr) (n c : Nat) (xs : List Pn) (w : World) (h : Pts w A n xs) (hn : (n : Int) ≤ 1048576) :
  Calls Try.prog 20 #[affV m, .slice A n c] w fun e w' => ∃ A' c', e = .returned (.tuple #[.slice A' (mpR m xs).length c', .int .i64 (mpC m xs)]) ∧ OwnP w.heap.size w'.heap.size w' A' (mpR m xs).length (mpR m xs) ∧ Over w w' := by
 have hl := h.1
 refine walk_from (m := 40) (Try.func20) rfl rfl (Nat.le_of_ble_eq_true rfl) ?_
 refine at_seq ?_
 refine at_region ?_
 refine at_op rfl ?_
 refine op_box rfl rfl (rfl) rfl (by decide) (fun b1 => ?_)
 refine at_rsE (by simp only [ya,yb,yc,yd,Value.cells,ye]; rfl) ?_
 refine at_q rfl rfl (by decide) (qt_assign rfl rfl) ?_
 refine at_q rfl rfl (by decide) (qt_assign rfl rfl) ?_
 refine at_end ?_
 refine at_seq ?_
 refine at_seq ?_
 refine at_region ?_
 refine at_q rfl rfl (by decide) (qt_call ok_spec_l04Ok rfl rfl (fun w1 hs => l04Ok_any _ 0 m w1 (affCel (k := 0) rfl w1 hs))) ?_
 refine at_q rfl rfl (by decide) (qt_not rfl rfl) ?_
 refine at_q rfl rfl (by decide) (qt_move rfl rfl) ?_
 refine at_bsplit 12 rfl (fun g1 => ?_) (fun g1 => ?_)
 ·try simp only [za,zb,zc,zd,ze,zf,Bool.not_true,Bool.not_false,zg,zh,ne_eq,zi,zj] at g1
  refine at_off rfl rfl rfl rfl (by decide) rfl (by decide) ?_
  refine at_off rfl rfl rfl rfl (by decide) rfl (by decide) ?_
  refine at_off rfl rfl rfl rfl (by decide) rfl (by decide) ?_
  refine at_q rfl rfl (by decide) (qt_pickT rfl rfl rfl) ?_
  refine at_end ?_
  refine at_yes rfl rfl ?_
  refine at_seq ?_
  refine at_region ?_
  refine at_q rfl rfl (by decide) (qt_assign rfl rfl) ?_
  refine at_q rfl rfl (by decide) (qt_assign rfl rfl) ?_
  refine at_end ?_
  refine at_retc ?_
  refine then_ret ?_
  refine at_ret2 rfl (.tmp rfl) (.tmp rfl) ?_
  intro w' hs
  obtain ⟨e1, e2⟩ := mp_inv (m := m) (xs := xs) (by rw [mpB, g1]; rfl)
  exact ⟨none, 0, by rw [e1, e2]; rfl, by rw [e2]; exact OwnP.nil none, hs.fin⟩
 ·try simp only [za,zb,zc,zd,ze,zf,Bool.not_true,Bool.not_false,zg,zh,ne_eq,zi,zj] at g1
  refine at_on rfl rfl rfl rfl ?_
  refine op_q rfl (by decide) (qt_move rfl rfl) ?_
  refine at_on rfl rfl rfl rfl ?_
  refine op_q rfl (by decide) (qt_call ok_spec_l11Pen rfl rfl (fun w1 hs => l11Pen_any A n c xs w1 (h.over hs.fin) hn)) ?_
  refine at_on rfl rfl rfl rfl ?_
  refine op_q rfl (by decide) (qt_not rfl rfl) ?_
  refine at_q rfl rfl (by decide) (qt_pickF rfl rfl rfl) ?_
  refine at_end ?_
  refine at_cond rfl (fun c1 => ?_) (fun c1 => ?_)
  ·try simp only [za,zb,zc,zd,ze,zf,Bool.not_true,Bool.not_false,zg,zh,ne_eq,zi,zj] at c1
   refine at_seq ?_
   refine at_region ?_
   refine at_q rfl rfl (by decide) (qt_assign rfl rfl) ?_
   refine at_q rfl rfl (by decide) (qt_assign rfl rfl) ?_
   refine at_end ?_
   refine at_retc ?_
   refine then_ret ?_
   refine at_ret2 rfl (.tmp rfl) (.tmp rfl) ?_
   intro w' hs
   obtain ⟨e1, e2⟩ := mp_inv (m := m) (xs := xs) (by rw [mpB, c1, Bool.and_false])
   exact ⟨none, 0, by rw [e1, e2]; rfl, by rw [e2]; exact OwnP.nil none, hs.fin⟩
  ·try simp only [za,zb,zc,zd,ze,zf,Bool.not_true,Bool.not_false,zg,zh,ne_eq,zi,zj] at c1
   have hB : mpB m xs = true := (by rw [mpB, g1, c1]; rfl)
   obtain ⟨h16, hall, hpos⟩ := pen_of c1
   refine at_skip ?_
   refine norm_then ?_
   refine at_seq ?_
   refine at_region ?_
   refine at_op rfl ?_
   refine op_buildSlice rfl rfl (bsl_sl_impl_Pt_0) rfl (by decide) (fun b2 => ?_)
   refine at_rowN 1 2 rfl rfl ?_
   refine at_rsE (by simp only [ya,yb,yc,yd,Value.cells,ye]; rfl) ?_
   refine at_q rfl rfl (by decide) (qt_assign rfl rfl) ?_
   refine at_end ?_
   refine at_seq ?_
   refine at_seq ?_
   refine at_region ?_
   refine at_q rfl rfl (by decide) (qt_assign rfl rfl) ?_
   refine at_end ?_
   refine at_block ?_
   refine at_loopc (X := Nat × Option Addr × Nat) (fun x => x.1 ≤ n ∧ (∀ j, j < x.1 → apB m (pt xs j) = true)) (fun x => n - x.1) (fun x => [(6, .slice x.2.1 x.1 x.2.2), (7, .int .i64 (x.1 : Int))]) (C := [(1, _), (2, _), (4, _), (5, _)]) ⟨rfl, rfl, rfl, rfl, trivial⟩ (fun x => [.cel b1 58 (affCs m), rowR (Bs.N ⟨w, []⟩) 103 2 x.1 (((xs.take x.1).map (apP m)).flatMap ptCells) x.2]) (0, some ⟨b2, 0, none⟩, 0) (⟨Nat.zero_le _, fun j hj => absurd hj (Nat.not_lt_zero j)⟩) ⟨rfl, rfl, rfl, rfl, rfl, rfl, trivial⟩ (fun _ h => h) ?_
   intro ⟨k, rA, rc⟩ hx L hL1
   refine at_envE (by simp only [ya,yb]; rfl) ?_
   refine at_rsE (by first | (dsimp only; done) | (dsimp only; rfl) | rfl) ?_
   have hk : k ≤ n := hx.1
   have hok : ∀ j, j < k → apB m (pt xs j) = true := hx.2
   refine at_seq ?_
   refine at_seq ?_
   refine at_region ?_
   refine at_q rfl rfl (by decide) (qt_move rfl rfl) ?_
   refine at_q rfl rfl (by decide) (qt_move rfl rfl) ?_
   refine at_q rfl rfl (by decide) (qt_len rfl rfl tyl_sl_impl_Pt) ?_
   refine at_q rfl rfl (by decide) (qt_lss rfl rfl rfl) ?_
   refine at_end ?_
   refine at_cond rfl (fun c2 => ?_) (fun c2 => ?_)
   ·try simp only [za,zb,zc,zd,ze,zf,Bool.not_true,Bool.not_false,zg,zh,ne_eq,zi,zj] at c2
    have hlt : k < n := (by omega)
    obtain ⟨eb, eo, rfl, _⟩ := h.2 (by omega)
    refine at_skip ?_
    refine norm_then ?_
    refine at_seq ?_
    refine at_block ?_
    refine at_seq ?_
    refine at_region ?_
    refine at_q rfl rfl (by decide) (qt_move rfl rfl) ?_
    refine at_q rfl rfl (by decide) (qt_move rfl rfl) ?_
    refine at_q rfl rfl (by decide) (qt_index rfl rfl rfl tyl_sl_impl_Pt (by omega)) ?_
    refine at_q rfl rfl (by decide) (qt_loadS rfl rfl tys_impl_Pt rfl (rdPts h hlt)) ?_
    refine at_q rfl rfl (by decide) (qt_call ok_spec_l04Apply rfl rfl (fun w1 hs => l04Apply_any _ 0 m (pt xs k) w1 (affCel (k := 0) rfl w1 hs))) ?_
    refine at_q rfl rfl (by decide) (qt_move rfl rfl) ?_
    refine at_q rfl rfl (by decide) (qt_extract rfl rfl rfl) ?_
    refine at_q rfl rfl (by decide) (qt_extract rfl rfl rfl) ?_
    refine at_op rfl ?_
    refine op_alloc rfl tyz_impl_Pt rfl (by decide) (fun b3 => ?_)
    refine at_rsE (by simp only [ya,yb,yc,yd,Value.cells,ye]; rfl) ?_
    refine at_op rfl ?_
    refine op_storeAll' (k := 2) rfl rfl rfl rfl (rfl) (by rfl) tyz_impl_Pt.szx rfl rfl rfl ?_
    refine at_rsE (by simp only [ya,yb,yc,yd,Value.cells,ye]; rfl) ?_
    refine at_q rfl rfl (by decide) (qt_assign rfl rfl) ?_
    refine at_end ?_
    refine at_seq ?_
    refine at_seq ?_
    refine at_region ?_
    refine at_q rfl rfl (by decide) (qt_move rfl rfl) ?_
    refine at_q rfl rfl (by decide) (qt_not rfl rfl) ?_
    refine at_end ?_
    refine at_cond rfl (fun c3 => ?_) (fun c3 => ?_)
    ·try simp only [za,zb,zc,zd,ze,zf,Bool.not_true,Bool.not_false,zg,zh,ne_eq,zi,zj] at c3
     refine at_seq ?_
     refine at_region ?_
     refine at_q rfl rfl (by decide) (qt_assign rfl rfl) ?_
     refine at_q rfl rfl (by decide) (qt_assign rfl rfl) ?_
     refine at_end ?_
     refine at_retc ?_
     refine then_ret ?_
     refine pass_ret ?_
     refine then_ret ?_
     refine then_ret ?_
     refine pass_ret ?_
     refine then_ret ?_
     refine at_ret2 rfl (.tmp rfl) (.tmp rfl) ?_
     intro w' hs
     obtain ⟨e1, e2⟩ := mp_bad hB (show k < xs.length by omega) c3
     exact ⟨none, 0, by rw [e1, e2]; rfl, by rw [e2]; exact OwnP.nil none, hs.fin⟩
    ·try simp only [za,zb,zc,zd,ze,zf,Bool.not_true,Bool.not_false,zg,zh,ne_eq,zi,zj] at c3
     refine at_skip ?_
     refine norm_then ?_
     refine at_region ?_
     refine at_q rfl rfl (by decide) (qt_move rfl rfl) ?_
     refine at_q rfl rfl (by decide) (qt_loadS rfl rfl tys_impl_Pt rfl (rdAll (k := 2) rfl)) ?_
     refine at_op rfl ?_
     refine op_buildSlice rfl rfl (bsl_sl_impl_Pt_1_0 rfl) rfl (by decide) (fun b4 => ?_)
     refine at_rsE (by simp only [ya,yb,yc,yd,Value.cells,ye]; rfl) ?_
     refine at_op rfl ?_
     refine op_appendR (k := 1) rfl tyl_sl_impl_Pt tyz_impl_Pt (by decide) rfl (by decide) rfl rfl rfl (fun w' hs => src_cel hs (k := 3) rfl rfl) (by simp [Value.oneCell']) (by unfold maxLen; omega) (by omega) (Nat.le_refl _) (fun r1 => ?_)
     refine at_rsE (by simp only [ya,yb,yc,yd,Value.cells,ye]; rfl) ?_
     refine at_q rfl rfl (by decide) (qt_assign rfl rfl) ?_
     refine at_nil ?_
     refine norm_block ?_
     refine norm_then ?_
     refine at_region ?_
     refine at_q rfl rfl (by decide) (qt_move rfl rfl) ?_
     refine at_q rfl rfl (by decide) (qt_add rfl rfl rfl (by omega) (by omega)) ?_
     refine at_q rfl rfl (by decide) (qt_assign rfl rfl) ?_
     refine at_end ?_
     exact at_againc hL1 ((k + 1, r1)) (⟨show k + 1 ≤ n by omega, fun j hj => by by_cases e : j = k; exact e ▸ c3; exact hok j (by have : j < k + 1 := hj; omega)⟩) (by simp only; omega) ⟨rfl, vi (by omega), rfl, rfl, rfl, rfl, trivial⟩ (fun _ h => h.upto ⟨rfl, by rw [← maps_step (show k < xs.length by omega)]; rfl, trivial⟩)
   ·try simp only [za,zb,zc,zd,ze,zf,Bool.not_true,Bool.not_false,zg,zh,ne_eq,zi,zj] at c2
    have hkn : k = xs.length := (by omega)
    subst hkn
    obtain ⟨e1, e2⟩ := mp_ok hB hok
    rw [List.take_of_length_le (Nat.le_refl _)]
    refine at_exit ?_
    refine pass_then (fun h => by cases h) ?_
    refine pass_then (fun h => by cases h) ?_
    refine pass_hit ?_
    refine norm_then ?_
    refine at_seq ?_
    refine at_region ?_
    refine at_q rfl rfl (by decide) (qt_move rfl rfl) ?_
    refine at_op rfl ?_
    refine op_call ok_spec_l11Hull (v := fun x => .slice x.1 _ x.2) (r := fun x => rowR 0 103 2 _ _ x) (H := fun _ => True) rfl rfl rfl (by decide) (fun w1 hs => newRow' (l11Hull_any _ _ _ (xs.map (apP m)) w1 (ptsRow (hs.all 1 _ rfl).1 (by rw [List.length_map])) (maps_H hok) (by omega))) ?_
    rintro ⟨pA, pc⟩ -
    refine at_rsE (by simp only [ya,yb,yc,yd,Value.cells,ye]; rfl) ?_
    refine at_q rfl rfl (by decide) (qt_assign rfl rfl) ?_
    refine at_q rfl rfl (by decide) (qt_assign rfl rfl) ?_
    refine at_end ?_
    refine at_retc ?_
    refine at_ret2 rfl (.tmp rfl) (.tmp rfl) ?_
    intro w' hs
    exact ⟨pA, pc, by rw [e1, e2], by rw [e2]; exact rowOwn3 hs (k := 2) rfl rfl, hs.fin⟩
/-! ### The law's own words -/
theorem toFrac_any (p : Pn) (w : World) : Calls Try.prog 52 #[pV p] w fun e w' => e = .returned (pV p) ∧ Over w w' := by
 refine walk_from (m := 11) (Try.func52) rfl rfl (Nat.le_of_ble_eq_true rfl) ?_
 refine at_seq ?_
 refine at_region ?_
 refine at_op rfl ?_
 refine op_box rfl rfl (rfl) rfl (by decide) (fun b1 => ?_)
 refine at_rsE (by simp only [ya,yb,yc,yd,Value.cells,ye]; rfl) ?_
 refine at_op rfl ?_
 refine op_alloc rfl tyz_impl_Frac rfl (by decide) (fun b2 => ?_)
 refine at_rsE (by simp only [ya,yb,yc,yd,Value.cells,ye]; rfl) ?_
 refine at_end ?_
 refine at_seq ?_
 refine at_region ?_
 refine at_op rfl ?_
 refine op_alloc rfl tyz_impl_Frac rfl (by decide) (fun b3 => ?_)
 refine at_rsE (by simp only [ya,yb,yc,yd,Value.cells,ye]; rfl) ?_
 refine at_end ?_
 refine at_seq ?_
 refine at_region ?_
 refine at_q rfl rfl (by decide) (qt_fieldAddr rfl rfl tyf_laws_Frac_0) ?_
 refine at_q rfl rfl (by decide) (qt_load1 rfl rfl ty1_int64 (rd1 (k := 0) rfl rfl)) ?_
 refine at_q rfl rfl (by decide) (qt_fieldAddr rfl rfl tyf_impl_Frac_0) ?_
 refine at_op rfl ?_
 refine op_store_2_0_1 (k := 2) rfl rfl rfl rfl (rfl) (by rfl) tyz_int64.szx rfl ?_
 refine at_rsE (by simp only [ya,yb,yc,yd,Value.cells,ye]; rfl) ?_
 refine at_end ?_
 refine at_seq ?_
 refine at_region ?_
 refine at_q rfl rfl (by decide) (qt_fieldAddr rfl rfl tyf_laws_Frac_1) ?_
 refine at_q rfl rfl (by decide) (qt_load1 rfl rfl ty1_int64 (rd1 (k := 0) rfl rfl)) ?_
 refine at_q rfl rfl (by decide) (qt_fieldAddr rfl rfl tyf_impl_Frac_1) ?_
 refine at_op rfl ?_
 refine op_store_2_1_1 (k := 2) rfl rfl rfl rfl (rfl) (by rfl) tyz_int64.szx rfl ?_
 refine at_rsE (by simp only [ya,yb,yc,yd,Value.cells,ye]; rfl) ?_
 refine at_end ?_
 refine at_seq ?_
 refine at_region ?_
 refine at_q rfl rfl (by decide) (qt_loadS rfl rfl tys_impl_Frac rfl (rdAll (k := 2) rfl)) ?_
 refine at_op rfl ?_
 refine op_storeAll' (k := 1) rfl rfl rfl rfl (rfl) (by rfl) tyz_impl_Frac.szx rfl rfl rfl ?_
 refine at_rsE (by simp only [ya,yb,yc,yd,Value.cells,ye]; rfl) ?_
 refine at_end ?_
 refine at_retc ?_
 refine at_ret1 rfl (rvCelS (k := 1) rfl tys_impl_Frac rfl rfl) ?_
 intro w' hs
 exact ⟨rfl, hs.fin⟩
theorem toAffine_any (m : Aff) (w : World) : Calls Try.prog 21 #[affV m] w fun e w' => e = .returned (affV m) ∧ Over w w' := by
 refine walk_from (m := 29) (Try.func21) rfl rfl (Nat.le_of_ble_eq_true rfl) ?_
 refine at_seq ?_
 refine at_region ?_
 refine at_op rfl ?_
 refine op_box rfl rfl (rfl) rfl (by decide) (fun b1 => ?_)
 refine at_rsE (by simp only [ya,yb,yc,yd,Value.cells,ye]; rfl) ?_
 refine at_op rfl ?_
 refine op_alloc rfl tyz_impl_Affine rfl (by decide) (fun b2 => ?_)
 refine at_rsE (by simp only [ya,yb,yc,yd,Value.cells,ye]; rfl) ?_
 refine at_end ?_
 refine at_seq ?_
 refine at_region ?_
 refine at_op rfl ?_
 refine op_alloc rfl tyz_impl_Affine rfl (by decide) (fun b3 => ?_)
 refine at_rsE (by simp only [ya,yb,yc,yd,Value.cells,ye]; rfl) ?_
 refine at_end ?_
 refine at_seq ?_
 refine at_region ?_
 refine at_q rfl rfl (by decide) (qt_fieldAddr rfl rfl tyf_laws_Affine_0) ?_
 refine at_q rfl rfl (by decide) (qt_loadS rfl rfl tys_laws_Frac rfl (rd2 (k := 0) rfl rfl rfl)) ?_
 refine at_q rfl rfl (by decide) (qt_call ok_laws_toFrac rfl rfl (fun w1 hs => toFrac_any m.xx w1)) ?_
 refine at_q rfl rfl (by decide) (qt_fieldAddr rfl rfl tyf_impl_Affine_0) ?_
 refine at_op rfl ?_
 refine op_store_12_0_2 (k := 2) rfl rfl rfl rfl (rfl) (by rfl) tyz_impl_Frac.szx rfl ?_
 refine at_rsE (by simp only [ya,yb,yc,yd,Value.cells,ye]; rfl) ?_
 refine at_end ?_
 refine at_seq ?_
 refine at_region ?_
 refine at_q rfl rfl (by decide) (qt_fieldAddr rfl rfl tyf_laws_Affine_1) ?_
 refine at_q rfl rfl (by decide) (qt_loadS rfl rfl tys_laws_Frac rfl (rd2 (k := 0) rfl rfl rfl)) ?_
 refine at_q rfl rfl (by decide) (qt_call ok_laws_toFrac rfl rfl (fun w1 hs => toFrac_any m.xy w1)) ?_
 refine at_q rfl rfl (by decide) (qt_fieldAddr rfl rfl tyf_impl_Affine_1) ?_
 refine at_op rfl ?_
 refine op_store_12_2_2 (k := 2) rfl rfl rfl rfl (rfl) (by rfl) tyz_impl_Frac.szx rfl ?_
 refine at_rsE (by simp only [ya,yb,yc,yd,Value.cells,ye]; rfl) ?_
 refine at_end ?_
 refine at_seq ?_
 refine at_region ?_
 refine at_q rfl rfl (by decide) (qt_fieldAddr rfl rfl tyf_laws_Affine_2) ?_
 refine at_q rfl rfl (by decide) (qt_loadS rfl rfl tys_laws_Frac rfl (rd2 (k := 0) rfl rfl rfl)) ?_
 refine at_q rfl rfl (by decide) (qt_call ok_laws_toFrac rfl rfl (fun w1 hs => toFrac_any m.yx w1)) ?_
 refine at_q rfl rfl (by decide) (qt_fieldAddr rfl rfl tyf_impl_Affine_2) ?_
 refine at_op rfl ?_
 refine op_store_12_4_2 (k := 2) rfl rfl rfl rfl (rfl) (by rfl) tyz_impl_Frac.szx rfl ?_
 refine at_rsE (by simp only [ya,yb,yc,yd,Value.cells,ye]; rfl) ?_
 refine at_end ?_
 refine at_seq ?_
 refine at_region ?_
 refine at_q rfl rfl (by decide) (qt_fieldAddr rfl rfl tyf_laws_Affine_3) ?_
 refine at_q rfl rfl (by decide) (qt_loadS rfl rfl tys_laws_Frac rfl (rd2 (k := 0) rfl rfl rfl)) ?_
 refine at_q rfl rfl (by decide) (qt_call ok_laws_toFrac rfl rfl (fun w1 hs => toFrac_any m.yy w1)) ?_
 refine at_q rfl rfl (by decide) (qt_fieldAddr rfl rfl tyf_impl_Affine_3) ?_
 refine at_op rfl ?_
 refine op_store_12_6_2 (k := 2) rfl rfl rfl rfl (rfl) (by rfl) tyz_impl_Frac.szx rfl ?_
 refine at_rsE (by simp only [ya,yb,yc,yd,Value.cells,ye]; rfl) ?_
 refine at_end ?_
 refine at_seq ?_
 refine at_region ?_
 refine at_q rfl rfl (by decide) (qt_fieldAddr rfl rfl tyf_laws_Affine_4) ?_
 refine at_q rfl rfl (by decide) (qt_loadS rfl rfl tys_laws_Frac rfl (rd2 (k := 0) rfl rfl rfl)) ?_
 refine at_q rfl rfl (by decide) (qt_call ok_laws_toFrac rfl rfl (fun w1 hs => toFrac_any m.dx w1)) ?_
 refine at_q rfl rfl (by decide) (qt_fieldAddr rfl rfl tyf_impl_Affine_4) ?_
 refine at_op rfl ?_
 refine op_store_12_8_2 (k := 2) rfl rfl rfl rfl (rfl) (by rfl) tyz_impl_Frac.szx rfl ?_
 refine at_rsE (by simp only [ya,yb,yc,yd,Value.cells,ye]; rfl) ?_
 refine at_end ?_
 refine at_seq ?_
 refine at_region ?_
 refine at_q rfl rfl (by decide) (qt_fieldAddr rfl rfl tyf_laws_Affine_5) ?_
 refine at_q rfl rfl (by decide) (qt_loadS rfl rfl tys_laws_Frac rfl (rd2 (k := 0) rfl rfl rfl)) ?_
 refine at_q rfl rfl (by decide) (qt_call ok_laws_toFrac rfl rfl (fun w1 hs => toFrac_any m.dy w1)) ?_
 refine at_q rfl rfl (by decide) (qt_fieldAddr rfl rfl tyf_impl_Affine_5) ?_
 refine at_op rfl ?_
 refine op_store_12_10_2 (k := 2) rfl rfl rfl rfl (rfl) (by rfl) tyz_impl_Frac.szx rfl ?_
 refine at_rsE (by simp only [ya,yb,yc,yd,Value.cells,ye]; rfl) ?_
 refine at_end ?_
 refine at_seq ?_
 refine at_region ?_
 refine at_q rfl rfl (by decide) (qt_loadS rfl rfl tys_impl_Affine rfl (rdAll (k := 2) rfl)) ?_
 refine at_op rfl ?_
 refine op_storeAll' (k := 1) rfl rfl rfl rfl (rfl) (by rfl) tyz_impl_Affine.szx rfl rfl rfl ?_
 refine at_rsE (by simp only [ya,yb,yc,yd,Value.cells,ye]; rfl) ?_
 refine at_end ?_
 refine at_retc ?_
 refine at_ret1 rfl (rvCelS (k := 1) rfl tys_impl_Affine rfl rfl) ?_
 intro w' hs
 exact ⟨rfl, hs.fin⟩
theorem mpR_len (m : Aff) (xs : List Pn) : (mpR m xs).length ≤ 100 := by
 unfold mpR
 split
 ·rename_i h
  have hB : penB xs = true := by
   unfold mpC at h
   split at h
   ·rename_i h2; rw [mpB, Bool.and_eq_true] at h2; exact h2.2
   ·omega
  have := (pen_of hB).1
  have h3 := hull_len (xs.map (apP m))
  rw [List.length_map] at h3
  omega
 ·simp
end Go.Proofs.Ytjhaakollekjeaa
