import Derived.Test.YtjhaakollekjeaaDoorO30
import Derived.Shelf.SlSortCmp.WholeK
import Derived.Test.YtjhaakollekjeaaDoorO15
import Derived.Test.YtjhaakollekjeaaDoorO17
import Derived.Test.YtjhaakollekjeaaDoorO18
import Derived.Test.YtjhaakollekjeaaDoorO12
namespace Go.Proofs.YtjhaakollekjeaaDoor
open Go Go.RowKit
set_option linter.unusedVariables false
set_option linter.unusedSimpArgs false
set_option maxRecDepth 100000
set_option maxHeartbeats 4000000
set_option linter.unusedVariables false
set_option linter.unusedSimpArgs false

section
variable {w0 : Bs} {Rs : List Res} {k b B T q j off m : Nat} {r : Option Addr × Nat}
theorem rdPre {vs post cs : List Value} (hk : Rs[k]? = some (.cel b T cs)) (h : cs = vs ++ post) : ∀ w, St w0 Rs w → ∀ j v, vs[j]? = some v → w.cell? ⟨b, 0 + j, none⟩ = some v := fun w hs j v hv => by
 have := rdAll hk w hs j v
 rw [h] at this
 exact this (by rw [List.getElem?_append_left (List.getElem?_eq_some_iff.1 hv).1]; exact hv)
theorem rdRowSg {S : List Sg} {s : Sg} (hk : Rs[k]? = some (rowR B T 7 q (S.flatMap sgCells) r)) (hs : S[j]? = some s) (he : off = 0 + j * 7) : ∀ w, St w0 Rs w → ∀ q v, (sgCells s)[q]? = some v → w.cell? ⟨ablk r.1, off + q, none⟩ = some v := rdRowS [] [] sgCells_len hk hs rfl he
end
/-! ### Plain -/
abbrev sgs (l : List Kn) : List Sg := sgL (fuK l)
theorem sg_bd : ∀ (n : Nat) (L : List Kn), L.length ≤ n → (∀ x ∈ L, bd2 x.1) → ∀ s ∈ sgL L, bd2 s.a ∧ bd2 s.b ∧ bd2 s.c
 | _, [], _, _, s, hs => by simp [sgL] at hs
 | _, [a], _, _, s, hs => by simp [sgL] at hs
 | 0, a :: b :: r, hn, _, _, _ => by simp at hn
 | n + 1, a :: b :: r, hn, hb, s, hs => by
  simp only [List.length_cons] at hn
  have ha := hb a (by simp)
  have hb1 := hb b (by simp)
  by_cases h : b.2 = true
  ·rw [sgL_on h] at hs
   rcases List.mem_cons.1 hs with rfl | hs
   ·exact ⟨ha, md_bd ha hb1, hb1⟩
   ·exact sg_bd n (b :: r) (by simp; omega) (fun x hx => hb x (List.mem_cons_of_mem _ hx)) s hs
  ·cases r with
   | nil =>
    have : sgL [a, b] = [] := by
     conv => lhs; unfold sgL
     exact if_neg h
    rw [this] at hs
    simp at hs
   | cons c r =>
    rw [sgL_off (by simpa using h)] at hs
    have hc := hb c (by simp)
    rcases List.mem_cons.1 hs with rfl | hs
    ·exact ⟨ha, hb1, hc⟩
    ·exact sg_bd n (c :: r) (by simp at hn ⊢; omega) (fun x hx => hb x (List.mem_cons_of_mem _ (List.mem_cons_of_mem _ hx))) s hs
theorem sg_len : ∀ (n : Nat) (L : List Kn), L.length ≤ n → (sgL L).length ≤ L.length
 | _, [], _ => by simp [sgL]
 | _, [a], _ => by simp [sgL]
 | 0, a :: b :: r, hn => by simp at hn
 | n + 1, a :: b :: r, hn => by
  simp only [List.length_cons] at hn
  by_cases h : b.2 = true
  ·rw [sgL_on h]
   have := sg_len n (b :: r) (by simp; omega)
   simp only [List.length_cons] at this ⊢
   omega
  ·cases r with
   | nil =>
    have : sgL [a, b] = [] := by
     conv => lhs; unfold sgL
     exact if_neg h
    rw [this]
    simp
   | cons c r =>
    rw [sgL_off (by simpa using h)]
    have := sg_len n (c :: r) (by simp at hn ⊢; omega)
    simp only [List.length_cons] at this ⊢
    omega
theorem sgs_len {l : List Kn} (h : LoopOk l) : (sgs l).length ≤ 121 := Nat.le_trans (sg_len _ _ (Nat.le_refl _)) (fuK_len h).2
theorem sgs_bd {l : List Kn} (h : LoopOk l) : ∀ s ∈ sgs l, bd2 s.a ∧ bd2 s.b ∧ bd2 s.c := sg_bd _ _ (Nat.le_refl _) (fuK_bd h)
theorem qdN_bd (a b c : Pn) (t : Int) : 1 ≤ qdN a b c t ∧ qdN a b c t ≤ 64 := by
 obtain ⟨l, hl, hv⟩ := lv_bd (sizQ (secP a b c)) t
 have hv : qdV a b c t = l := hv
 obtain ⟨_, h1, h2⟩ := two_pow hl
 unfold qdN
 rw [hv]
 exact ⟨h1, h2⟩
theorem sgP_len1 (t : Int) (s : Sg) : (sgP t s).length ≤ 64 := by
 have := qdN_bd s.a s.b s.c t
 unfold sgP
 split
 ·simp
 ·rw [qdTo_len]; omega
theorem sgP_len (t : Int) : ∀ S : List Sg, (S.flatMap (sgP t)).length ≤ 64 * S.length
 | [] => by simp
 | s :: S => by
  have := sgP_len t S
  have := sgP_len1 t s
  rw [List.flatMap_cons, List.length_append, List.length_cons]
  omega
theorem lvC_two (s t : Int) : lvC s t = 0 ∨ lvC s t = 5 := by
 unfold lvC
 split
 ·exact .inl rfl
 ·exact .inr rfl
def rgC (t : Int) (l : List Kn) : Int := if rgOk t l = true then 0 else 5
def rgR (t : Int) (l : List Kn) : List Pn := if rgOk t l = true then rgPt t l else []
theorem qd_take (a b c : Pn) {t : Int} (h : qdC a b c t = 0) : (qdR a b c t).length = qdN a b c t + 1 ∧ ((qdR a b c t).flatMap ptCells).take (qdN a b c t * 2) = (qdTo a b c (qdN a b c t) (qdN a b c t)).flatMap ptCells := by
 have e : qdR a b c t = qdTo a b c (qdN a b c t) (qdN a b c t + 1) := by rw [qdR, if_pos h]
 refine ⟨by rw [e, qdTo_len], ?_⟩
 rw [e, qdTo_step, List.flatMap_append]
 exact List.take_left' (by rw [flat_len ptCells 2 (fun _ => rfl), qdTo_len])
theorem pts_one (xs : List Pn) : ∀ u ∈ xs.flatMap ptCells, u.oneCell' = true := fun u hu => by
 obtain ⟨p, _, hp⟩ := List.mem_flatMap.1 hu
 have hp : u ∈ [Value.int .i64 p.1, .int .i64 p.2] := hp
 simp only [List.mem_cons, List.not_mem_nil, or_false] at hp
 rcases hp with rfl | rfl <;> rfl
theorem sg_more {S : List Sg} {t : Int} {s : Sg} (h : S.all (sgOk t) = true) (hs : sgOk t s = true) : (S ++ [s]).all (sgOk t) = true := by
 rw [List.all_append, h]
 simp [hs]
theorem sgP_st {t : Int} {s : Sg} (h : s.st = true) : sgP t s = [s.a] := by rw [sgP, if_pos h]
theorem sgP_bow {t : Int} {s : Sg} (h : s.st = false) : sgP t s = qdTo s.a s.b s.c (qdN s.a s.b s.c t) (qdN s.a s.b s.c t) := by rw [sgP, if_neg (by rw [h]; decide)]
theorem take_sg {S : List Sg} {k : Nat} {s : Sg} (h : S[k]? = some s) : S.take (k + 1) = S.take k ++ [s] := by
 rw [List.take_add_one, h]
 rfl
theorem pts_sg (S : List Sg) (s : Sg) (t : Int) : (S ++ [s]).flatMap (sgP t) = S.flatMap (sgP t) ++ sgP t s := by simp
theorem rg_bad {t : Int} {l : List Kn} {s : Sg} (hs : s ∈ sgs l) (h1 : s.st = false) (h2 : ¬ qdC s.a s.b s.c t = 0) : rgOk t l = false ∧ qdC s.a s.b s.c t = rgC t l := by
 have hb : rgOk t l = false := List.all_eq_false.2 ⟨s, hs, by unfold sgOk; rw [h1, decide_eq_false h2]; decide⟩
 refine ⟨hb, ?_⟩
 rw [rgC, hb]
 exact (lvC_two _ _).resolve_left h2
abbrev RgP (l : List Kn) (t : Int) (v : Value) (e : Ending) (w w' : World) : Prop := ∃ x : Option Addr × Nat, e = .returned (.tuple #[.agg #[.slice x.1 (rgR t l).length x.2], v]) ∧ Over w w' ∧ (rowR 0 50 2 (rgR t l).length ((rgR t l).flatMap ptCells) x).P w' ∧ (∀ d, (rowR 0 50 2 (rgR t l).length ((rgR t l).flatMap ptCells) x).F d → w.heap.size ≤ d) ∧ (rowR 0 50 2 (rgR t l).length ((rgR t l).flatMap ptCells) x).B = 0 ∧ True
theorem rgp_nil {l : List Kn} {t : Int} {v : Value} {w w' : World} (h : rgOk t l = false) (ho : Over w w') : RgP l t v (.returned (.tuple #[.agg #[.slice none 0 0], v])) w w' := by
 have e : rgR t l = [] := if_neg (by rw [h]; decide)
 refine ⟨(none, 0), by rw [e]; rfl, ho, ?_, ?_, rfl, trivial⟩
 ·rw [e]; exact World.ownsRow_nil _ _ _ _
 ·rw [e]; intro b hb; exact absurd (show Value.ownBlock (.slice none 0 0) = some b from hb) (by simp [Value.ownBlock])
theorem rgp_ok {l : List Kn} {S : List Sg} {t : Int} {v : Value} {w w' : World} {x : Option Addr × Nat} (hS : S = sgs l) (h : S.all (sgOk t) = true) (ho : Over w w') (hP : (rowR 0 50 2 (S.flatMap (sgP t)).length ((S.flatMap (sgP t)).flatMap ptCells) x).P w') (hF : ∀ d, (rowR 0 50 2 (S.flatMap (sgP t)).length ((S.flatMap (sgP t)).flatMap ptCells) x).F d → w.heap.size ≤ d) : RgP l t v (.returned (.tuple #[.agg #[.slice x.1 (S.flatMap (sgP t)).length x.2], v])) w w' := by
 subst hS
 have e : rgR t l = (sgs l).flatMap (sgP t) := if_pos h
 exact ⟨x, by rw [e], ho, by rw [e]; exact hP, by rw [e]; exact hF, rfl, trivial⟩
/-! ### The program -/
theorem flattenLoop_any (A : Option Addr) (c : Nat) (l : List Kn) (t : Int) (w : World) (h : Kns w A l.length l) (hL : LoopOk l) (ht : 1 ≤ t ∧ t ≤ 262144) : Calls Tryd.prog 43 #[outV A l.length c, .int .i64 t] w fun e w' => RgP l t (.int .i64 (rgC t l)) e w w' := by
 have hsl := sgs_len hL
 have hss : (sgL (fuK l)).length = (sgs l).length := rfl
 refine walk_from (m := 50) (Tryd.func43) rfl rfl (Nat.le_of_ble_eq_true rfl) ?_
 refine at_seq ?_
 refine at_region ?_
 refine at_op rfl ?_
 refine op_box rfl rfl (rfl) rfl (by decide) (fun b1 => ?_)
 refine at_rsE (by simp only [ya,yb,yc,yd,Value.cells,ye]; rfl) ?_
 refine at_op rfl ?_
 refine op_alloc rfl tyz_impl_Ring rfl (by decide) (fun b2 => ?_)
 refine at_rsE (by simp only [ya,yb,yc,yd,Value.cells,ye]; rfl) ?_
 refine at_q rfl rfl (by decide) (qt_assign rfl rfl) ?_
 refine at_end ?_
 refine at_seq ?_
 refine at_region ?_
 refine at_op rfl ?_
 refine op_alloc rfl tyz_impl_Ring rfl (by decide) (fun b3 => ?_)
 refine at_rsE (by simp only [ya,yb,yc,yd,Value.cells,ye]; rfl) ?_
 refine at_end ?_
 refine at_row0 (T := 50) (s := 2) ?_
 refine at_rsE (by simp only [List.nil_append, List.cons_append, List.set_cons_zero, List.set_cons_succ, List.eraseIdx_cons_zero, List.eraseIdx_cons_succ, Value.cells, List.toList_toArray]; rfl) ?_
 refine at_seq ?_
 refine at_seq ?_
 refine at_region ?_
 refine at_q rfl rfl (by decide) (qt_loadS rfl rfl tys_impl_Loop rfl (rdAll (k := 0) rfl)) ?_
 refine at_op rfl ?_
 refine op_call ok_impl_segmentsOf (v := fun x => .slice x.1 _ x.2) (r := fun x => rowR 0 96 7 _ _ x) (H := fun _ => True) rfl rfl rfl (by decide) (fun w1 hs => segmentsOf_any A c l w1 (h.over hs.fin) hL) ?_
 rintro ⟨lA, lc⟩ -
 refine at_rsE (by simp only [ya,yb,yc,yd,Value.cells,ye]; rfl) ?_
 refine at_q rfl rfl (by decide) (qt_len rfl rfl tyl_sl_impl_loopSegment) ?_
 refine at_q rfl rfl (by decide) (qt_move rfl rfl) ?_
 refine at_end ?_
 refine at_block ?_
 refine at_loopc (X := Nat × Option Addr × Nat) (fun x => x.1 ≤ (sgs l).length ∧ ((sgs l).take x.1).all (sgOk t) = true) (fun x => (sgs l).length - x.1) (fun x => [(14, .int .i64 (x.1 : Int))]) (C := [(1, _), (4, _), (5, _), (6, _), (12, _), (13, _)]) ⟨rfl, rfl, rfl, rfl, rfl, rfl, trivial⟩ (fun x => [.cel b1 48 [.slice A l.length c], .cel b2 66 [.slice none 0 0], .cel b3 66 [.slice x.2.1 (((sgs l).take x.1).flatMap (sgP t)).length x.2.2], rowR (Bs.N ⟨w, []⟩) 50 2 (((sgs l).take x.1).flatMap (sgP t)).length ((((sgs l).take x.1).flatMap (sgP t)).flatMap ptCells) x.2, rowR 0 96 7 (sgs l).length ((sgs l).flatMap sgCells) (lA, lc)]) (0, none, 0) (⟨Nat.zero_le _, rfl⟩) ⟨rfl, rfl, rfl, rfl, rfl, rfl, rfl, trivial⟩ (fun _ h => h) ?_
 intro ⟨k, rA, rc⟩ hx L hL1
 refine at_envE (by simp only [ya,yb]; rfl) ?_
 refine at_rsE (by first | (dsimp only; done) | (dsimp only; rfl) | rfl) ?_
 obtain ⟨hk, hok⟩ : k ≤ (sgs l).length ∧ ((sgs l).take k).all (sgOk t) = true := hx
 have hpl := sgP_len t ((sgs l).take k)
 rw [List.length_take] at hpl
 refine at_seq ?_
 refine at_region ?_
 refine at_q rfl rfl (by decide) (qt_lss rfl rfl rfl) ?_
 refine at_end ?_
 refine at_seq ?_
 refine at_cond rfl (fun c1 => ?_) (fun c1 => ?_)
 ·try simp only [za,zb,zc,zd,ze,zf,Bool.not_true,Bool.not_false,zg,zh,ne_eq,zi,zj] at c1
  have hlt : k < (sgs l).length := (by omega)
  obtain ⟨s, hs1⟩ : ∃ s, (sgs l)[k]? = some s := ⟨_, List.getElem?_eq_getElem hlt⟩
  have hmem := List.mem_of_getElem? hs1
  obtain ⟨sa, sb, sc⟩ := sgs_bd hL s hmem
  have etk := take_sg hs1
  refine at_skip ?_
  refine norm_then ?_
  refine at_seq ?_
  refine at_block ?_
  refine at_seq ?_
  refine at_region ?_
  refine at_q rfl rfl (by decide) (qt_indexR (k := 4) (j := k) rfl rfl rfl rfl tyl_sl_impl_loopSegment (by omega)) ?_
  refine at_q rfl rfl (by decide) (qt_loadS rfl rfl tys_impl_loopSegment rfl (rdRowSg (k := 4) rfl hs1 rfl)) ?_
  refine at_op rfl ?_
  refine op_alloc rfl tyz_impl_loopSegment rfl (by decide) (fun b4 => ?_)
  refine at_rsE (by simp only [ya,yb,yc,yd,Value.cells,ye]; rfl) ?_
  refine at_op rfl ?_
  refine op_storeAll' (k := 5) rfl rfl rfl rfl (rfl) (by rfl) tyz_impl_loopSegment.szx rfl rfl rfl ?_
  refine at_rsE (by simp only [ya,yb,yc,yd,Value.cells,ye]; rfl) ?_
  refine at_end ?_
  refine at_seq ?_
  refine at_seq ?_
  refine at_region ?_
  refine at_q rfl rfl (by decide) (qt_fieldAddr rfl rfl tyf_impl_loopSegment_1) ?_
  refine at_q rfl rfl (by decide) (qt_load1 rfl rfl ty1_bool (rd1 (k := 5) rfl rfl)) ?_
  refine at_end ?_
  refine at_cond rfl (fun c2 => ?_) (fun c2 => ?_)
  ·try simp only [za,zb,zc,zd,ze,zf,Bool.not_true,Bool.not_false,zg,zh,ne_eq,zi,zj] at c2
   have est := sgP_st (t := t) (show s.st = true from c2)
   refine at_seq ?_
   refine at_region ?_
   refine at_q rfl rfl (by decide) (qt_fieldAddr rfl rfl tyf_impl_Ring_0) ?_
   refine at_q rfl rfl (by decide) (qt_load1 rfl rfl ty1_sl_impl_Pt (rd1 (k := 2) rfl rfl)) ?_
   refine at_q rfl rfl (by decide) (qt_fieldAddr rfl rfl tyf_impl_loopSegment_0) ?_
   refine at_q rfl rfl (by decide) (qt_fieldAddr rfl rfl tyf_impl_Quad_0) ?_
   refine at_q rfl rfl (by decide) (qt_loadS rfl rfl tys_impl_Pt rfl (rd2 (k := 5) rfl rfl rfl)) ?_
   refine at_op rfl ?_
   refine op_buildSlice rfl rfl (bsl_sl_impl_Pt_1_0 rfl) rfl (by decide) (fun b5 => ?_)
   refine at_rsE (by simp only [ya,yb,yc,yd,Value.cells,ye]; rfl) ?_
   refine at_op rfl ?_
   refine op_appendR (k := 3) rfl tyl_sl_impl_Pt tyz_impl_Pt (by decide) rfl (by decide) rfl rfl rfl (fun w' hs => src_cel hs (k := 6) rfl rfl) (by simp [Value.oneCell']) (by unfold maxLen; omega) (by omega) (Nat.le_refl _) (fun r1 => ?_)
   refine at_rsE (by simp only [ya,yb,yc,yd,Value.cells,ye]; rfl) ?_
   refine at_q rfl rfl (by decide) (qt_fieldAddr rfl rfl tyf_impl_Ring_0) ?_
   refine at_op rfl ?_
   refine op_storeAll' (k := 2) rfl rfl rfl rfl (rfl) (by rfl) tyz_sl_impl_Pt.szx rfl rfl rfl ?_
   refine at_rsE (by simp only [ya,yb,yc,yd,Value.cells,ye]; rfl) ?_
   refine at_end ?_
   refine at_exit ?_
   refine pass_then (fun h => by cases h) ?_
   refine pass_hit ?_
   refine norm_then ?_
   refine at_region ?_
   refine at_q rfl rfl (by decide) (qt_add rfl rfl rfl (by omega) (by omega)) ?_
   refine at_q rfl rfl (by decide) (qt_move rfl rfl) ?_
   refine at_end ?_
   exact at_againc hL1 ((k + 1, r1)) (⟨show k + 1 ≤ (sgs l).length by omega, by rw [etk]; exact sg_more hok (by rw [sgOk, show s.st = true from c2]; rfl)⟩) (by simp only; omega) ⟨vi (by omega), rfl, rfl, rfl, rfl, rfl, rfl, trivial⟩ (fun _ h => h.upto ⟨rfl, rfl, by rw [etk, pts_sg, est, List.length_append]; rfl, by rw [etk, pts_sg, est, List.length_append, List.flatMap_append]; rfl, rfl, trivial⟩)
  ·try simp only [za,zb,zc,zd,ze,zf,Bool.not_true,Bool.not_false,zg,zh,ne_eq,zi,zj] at c2
   have est := sgP_bow (t := t) (show s.st = false by simpa using c2)
   refine at_skip ?_
   refine norm_then ?_
   refine at_seq ?_
   refine at_region ?_
   refine at_q rfl rfl (by decide) (qt_fieldAddr rfl rfl tyf_impl_loopSegment_0) ?_
   refine at_q rfl rfl (by decide) (qt_loadS rfl rfl tys_impl_Quad rfl (rdPre (k := 5) (vs := quCs s.a s.b s.c) (post := [.bool s.st]) rfl rfl)) ?_
   refine at_q rfl rfl (by decide) (qt_move rfl rfl) ?_
   refine at_op rfl ?_
   refine op_call ok_impl_flattenQuad (v := fun x => .tuple #[.slice x.1 _ x.2, .int .i64 _]) (r := fun x => rowR 0 50 2 _ _ x) (H := fun _ => True) rfl rfl rfl (by decide) (fun w1 hs => flattenQuad_any s.a s.b s.c t w1 sa sb sc ht) ?_
   rintro ⟨pA, pc⟩ -
   refine at_rsE (by simp only [ya,yb,yc,yd,Value.cells,ye]; rfl) ?_
   refine at_q rfl rfl (by decide) (qt_move rfl rfl) ?_
   refine at_q rfl rfl (by decide) (qt_extract rfl rfl rfl) ?_
   refine at_q rfl rfl (by decide) (qt_extract rfl rfl rfl) ?_
   refine at_q rfl rfl (by decide) (qt_assign rfl rfl) ?_
   refine at_q rfl rfl (by decide) (qt_assign rfl rfl) ?_
   refine at_end ?_
   refine at_seq ?_
   refine at_seq ?_
   refine at_region ?_
   refine at_q rfl rfl (by decide) (qt_move rfl rfl) ?_
   refine at_q rfl rfl (by decide) (qt_neq rfl rfl rfl) ?_
   refine at_end ?_
   refine at_cond rfl (fun c3 => ?_) (fun c3 => ?_)
   ·try simp only [za,zb,zc,zd,ze,zf,Bool.not_true,Bool.not_false,zg,zh,ne_eq,zi,zj] at c3
    obtain ⟨hb1, hb2⟩ := rg_bad (t := t) hmem (show s.st = false by simpa using c2) c3
    rw [hb2]
    refine at_seq ?_
    refine at_region ?_
    refine at_q rfl rfl (by decide) (qt_build rfl rfl (bld_impl_Ring_)) ?_
    refine at_q rfl rfl (by decide) (qt_move rfl rfl) ?_
    refine at_op rfl ?_
    refine op_storeAll' (k := 1) rfl rfl rfl rfl (rfl) (by rfl) tyz_impl_Ring.szx rfl rfl rfl ?_
    refine at_rsE (by simp only [ya,yb,yc,yd,Value.cells,ye]; rfl) ?_
    refine at_q rfl rfl (by decide) (qt_assign rfl rfl) ?_
    refine at_end ?_
    refine at_retc ?_
    refine then_ret ?_
    refine pass_ret ?_
    refine then_ret ?_
    refine then_ret ?_
    refine pass_ret ?_
    refine then_ret ?_
    refine at_ret2 rfl (rvCelS (k := 1) rfl tys_impl_Ring rfl rfl) (.tmp rfl) ?_
    intro w' hs
    exact rgp_nil hb1 hs.fin
   ·try simp only [za,zb,zc,zd,ze,zf,Bool.not_true,Bool.not_false,zg,zh,ne_eq,zi,zj] at c3
    have hq0 : qdC s.a s.b s.c t = 0 := by simpa using c3
    obtain ⟨q1, q2⟩ := qd_take s.a s.b s.c hq0
    obtain ⟨n1, n2⟩ := qdN_bd s.a s.b s.c t
    refine at_fact (fun w hs => rowCap (hs.all 6 _ rfl).1) ?_
    intro hcap
    refine at_skip ?_
    refine norm_then ?_
    refine dg_start mixed rfl ?_
    refine dg_phase 7 ?_
    refine dg_q (i := 0) rfl (by kernel_rfl) (by kernel_rfl) (by kernel_rfl) [1] (by kernel_rfl) (fun _ _ _ h => h) rfl rfl (by decide) (fun _ h => h.upto ⟨rfl, rfl, rfl, rfl, rfl, rfl, rfl, trivial⟩) (qt_fieldAddr rfl rfl tyf_impl_Ring_0) ?_
    refine dg_q (i := 1) rfl (by kernel_rfl) (by kernel_rfl) (by kernel_rfl) [] (by kernel_rfl) (fun _ _ _ h => h) rfl rfl (by decide) (fun _ h => h.upto ⟨rfl, rfl, rfl, rfl, rfl, rfl, rfl, trivial⟩) (qt_load1 rfl rfl ty1_sl_impl_Pt (rd1 (k := 2) rfl rfl)) ?_
    refine dg_q (i := 2) rfl (by kernel_rfl) (by kernel_rfl) (by kernel_rfl) [6] (by kernel_rfl) (fun _ _ _ h => h) rfl rfl (by decide) (fun _ h => h.upto ⟨rfl, rfl, rfl, rfl, rfl, rfl, rfl, trivial⟩) (qt_move rfl rfl) ?_
    refine dg_q (i := 3) rfl (by kernel_rfl) (by kernel_rfl) (by kernel_rfl) [4, 5, 6] (by kernel_rfl) (fun _ _ _ h => h) rfl rfl (by decide) (fun _ h => h.upto ⟨rfl, rfl, rfl, rfl, rfl, rfl, rfl, trivial⟩) (qt_move rfl rfl) ?_
    refine dg_q (i := 4) rfl (by kernel_rfl) (by kernel_rfl) (by kernel_rfl) [5, 6] (by kernel_rfl) (fun _ _ _ h => h) rfl rfl (by decide) (fun _ h => h.upto ⟨rfl, rfl, rfl, rfl, rfl, rfl, rfl, trivial⟩) (qt_len rfl rfl tyl_sl_impl_Pt) ?_
    refine dg_q (i := 5) rfl (by kernel_rfl) (by kernel_rfl) (by kernel_rfl) [6] (by kernel_rfl) (fun _ _ _ h => h) rfl rfl (by decide) (fun _ h => h.upto ⟨rfl, rfl, rfl, rfl, rfl, rfl, rfl, trivial⟩) ((qt_sub rfl rfl rfl (by omega) (by omega)).as (congrArg _ (show ((qdR s.a s.b s.c t).length : Int) - 1 = ((qdN s.a s.b s.c t : Nat) : Int) by omega))) ?_
    refine dg_q (i := 6) rfl (by kernel_rfl) (by kernel_rfl) (by kernel_rfl) [] (by kernel_rfl) (fun _ _ _ h => h) rfl rfl (by decide) (fun _ h => h.upto ⟨rfl, rfl, rfl, rfl, rfl, rfl, rfl, trivial⟩) (qt_sliceH rfl rfl rfl tyl_sl_impl_Pt (by omega)) ?_
    refine dg_bar rfl (by kernel_rfl) rfl ?_
    refine op_appendR (k := 3) rfl tyl_sl_impl_Pt tyz_impl_Pt (by decide) rfl (by decide) rfl rfl rfl (fun w' hs => src_takeR (hs.all 6 _ rfl).1 (by omega)) ((fun u hu => pts_one _ u (List.mem_of_mem_take hu))) (by unfold maxLen; omega) (by omega) (Nat.le_refl _) (fun r2 => ?_)
    refine at_rsE (by simp only [ya,yb,yc,yd,Value.cells,ye]; rfl) ?_
    refine dg_phaseW 10 [2] ?_
    refine dg_q (i := 8) rfl (by kernel_rfl) (by kernel_rfl) (by kernel_rfl) [] (by kernel_rfl) (fun _ _ _ h => h) rfl rfl (by decide) (fun _ h => (h.wk [2]).upto ⟨rfl, rfl, rfl, rfl, rfl, rfl, rfl, trivial⟩) (qt_fieldAddr rfl rfl tyf_impl_Ring_0) ?_
    refine dg_one (i := 9) rfl (by decide) (by kernel_rfl) rfl ?_
    refine op_storeAll' (k := 2) rfl rfl rfl rfl (rfl) (by rfl) tyz_sl_impl_Pt.szx rfl rfl rfl ?_
    refine at_rsE (by simp only [ya,yb,yc,yd,Value.cells,ye]; rfl) ?_
    refine dr_keep (fun _ h => (h.wk [2]).upto ⟨rfl, rfl, rfl, rfl, rfl, rfl, rfl, trivial⟩) ?_
    refine dg_done (by kernel_rfl) ?_
    refine norm_block ?_
    refine norm_then ?_
    refine at_region ?_
    refine at_q rfl rfl (by decide) (qt_add rfl rfl rfl (by omega) (by omega)) ?_
    refine at_q rfl rfl (by decide) (qt_move rfl rfl) ?_
    refine at_end ?_
    exact at_againc hL1 ((k + 1, r2)) (⟨show k + 1 ≤ (sgs l).length by omega, by rw [etk]; exact sg_more hok (by rw [sgOk, decide_eq_true hq0, Bool.or_true])⟩) (by simp only; omega) ⟨vi (by omega), rfl, rfl, rfl, rfl, rfl, rfl, trivial⟩ (fun _ h => h.upto ⟨rfl, rfl, by rw [etk, pts_sg, est, List.length_append, qdTo_len], by rw [etk, pts_sg, est, List.length_append, List.flatMap_append, qdTo_len, q2], rfl, trivial⟩)
 ·try simp only [za,zb,zc,zd,ze,zf,Bool.not_true,Bool.not_false,zg,zh,ne_eq,zi,zj] at c1
  have hkn : k = (sgs l).length := (by omega)
  rw [hkn, List.take_of_length_le (Nat.le_refl _)] at hok
  rw [hkn, List.take_of_length_le (Nat.le_refl _)]
  refine at_exit ?_
  refine pass_then (fun h => by cases h) ?_
  refine pass_then (fun h => by cases h) ?_
  refine pass_hit ?_
  refine norm_then ?_
  refine at_seq ?_
  refine at_region ?_
  refine at_q rfl rfl (by decide) (qt_loadS rfl rfl tys_impl_Ring rfl (rdAll (k := 2) rfl)) ?_
  refine at_op rfl ?_
  refine op_storeAll' (k := 1) rfl rfl rfl rfl (rfl) (by rfl) tyz_impl_Ring.szx rfl rfl rfl ?_
  refine at_rsE (by simp only [ya,yb,yc,yd,Value.cells,ye]; rfl) ?_
  refine at_q rfl rfl (by decide) (qt_assign rfl rfl) ?_
  refine at_end ?_
  refine at_retc ?_
  refine at_ret2 rfl (rvCelS (k := 1) rfl tys_impl_Ring rfl rfl) (.tmp rfl) ?_
  intro w' hs
  exact (show rgC t l = 0 from if_pos hok) ▸ rgp_ok (x := (rA, rc)) rfl hok hs.fin (row_low (hs.all 3 _ rfl).1 (Nat.zero_le _)) (fun b hb => ((hs.all 3 _ rfl).2.1 b hb).elim id (fun h => by cases h))
/-! ### The reference -/
end Go.Proofs.YtjhaakollekjeaaDoor

namespace Go.Proofs.YtjhaakollekjeaaDoor
open Go Go.Shelf
set_option linter.unusedVariables false
set_option linter.unusedSimpArgs false
end Go.Proofs.YtjhaakollekjeaaDoor

namespace Go.Proofs.YtjhaakollekjeaaDoor
open Go Go.RowKit
set_option linter.unusedVariables false

end Go.Proofs.YtjhaakollekjeaaDoor

namespace Go.Proofs.YtjhaakollekjeaaDoor
open Go Go.RowKit
open Go Go.Shelf Go.RowKit
open Go Go.Shelf
open Go Go.Shelf Go.RowKit Go.Lib Go.Sort
set_option linter.unusedVariables false
set_option linter.unusedSimpArgs false

/-- Points far from the words' bounds. -/
structure Pw where
 val : Pn
 ok : bdW val
instance : Inhabited Pw := ⟨⟨(0, 0), ⟨⟨by decide, by decide⟩, by decide, by decide⟩⟩⟩
/-! ### A row sorted -/
/-- The points of a slice that is being closed up. -/
def clo (xs : List Pn) (i : Nat) : List Pn := compP (xs.take i) ++ xs.drop (compP (xs.take i)).length
end Go.Proofs.YtjhaakollekjeaaDoor

namespace Go.Proofs.YtjhaakollekjeaaDoor
open Go Go.RowKit
set_option linter.unusedVariables false
set_option linter.unusedSimpArgs false

/-! ### Points in hulls -/
/-! ### Products -/
/-! ### The reference's -/
/-! ### Reflections -/
end Go.Proofs.YtjhaakollekjeaaDoor
