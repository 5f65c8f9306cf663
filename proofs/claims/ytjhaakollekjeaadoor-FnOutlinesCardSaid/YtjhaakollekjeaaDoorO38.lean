import Derived.Test.YtjhaakollekjeaaDoorO26
import Derived.Test.YtjhaakollekjeaaDoorO36
import Derived.Test.YtjhaakollekjeaaDoorO37
namespace Go.Proofs.YtjhaakollekjeaaDoor
open Go Go.RowKit
set_option linter.unusedVariables false
set_option linter.unusedSimpArgs false
set_option maxRecDepth 100000
set_option maxHeartbeats 4000000
set_option linter.unusedVariables false
set_option linter.unusedSimpArgs false
/-! ### Written -/
theorem join_lp (l : List Kn) : ∀ k, k ≤ l.length → Lib.join ((l.take k).map knTx) [32] = lpTo l k
 | 0, _ => rfl
 | k + 1, hk => by
  have ih := join_lp l k (by omega)
  have e : l.take (k + 1) = l.take k ++ [kn l k] := by rw [List.take_succ_eq_append_getElem (by omega), kn_at]
  rw [e, List.map_append, lpTo, ← ih]
  have key : ∀ (l : List (List UInt8)) (x : List UInt8), Lib.join (l ++ [x]) [32] = Lib.join l [32] ++ (if 0 < l.length then [32] else []) ++ x := by
   intro l x
   cases l with
   | nil => rw [List.nil_append, Lib.join_one, Lib.join_nil]; rfl
   | cons a r =>
    rw [List.cons_append, Lib.join_cons, Lib.join_cons]
    simp [Lib.joinTail, List.append_assoc]
  rw [List.map_cons, List.map_nil, key]
  simp [show min k l.length = k by omega]
theorem joinLp {n : Nat} {l : List Kn} (hl : l.length = n) (hn : 1 ≤ n) (hm : n ≤ 60) {B : Nat} {x : Option Addr × Nat} {w : World} (h : w.ownsRow B 9 1 (.slice x.1 n x.2) n ((l.take n).map fun k => sV (knTx k))) :
  Calls Tryd.prog 64 #[.slice x.1 n x.2, .string ⟨#[32]⟩] w fun e w' => e = .returned (sV (lpTx l)) ∧ Over w w' := by
 obtain ⟨g, hg⟩ : ∃ g, x.1 = some ⟨g, 0, none⟩ := by
  rcases h.2 with ⟨_, e⟩ | ⟨g, cap, cur, e, _⟩
  ·omega
  ·injection e with e1
   exact ⟨g, e1⟩
 obtain ⟨A, c⟩ := x
 simp only at hg h
 subst hg
 have hc := rowCap h
 have hb : g < w.heap.size := (h.lt g rfl).2
 have hcells : ∀ (j : Nat) y, (l.map fun k => sB (knTx k))[j]? = some y → w.cell? ⟨g, 0 + j, none⟩ = some (.string y) := fun j y hy => by
  have := row_cell (x := (some ⟨g, 0, none⟩, c)) (i := j) (v := .string y) (show (rowR B 9 1 n ((l.take n).map fun k => sV (knTx k)) (some ⟨g, 0, none⟩, c)).P w from h) (by
   rw [← hl, List.take_length]
   rw [List.getElem?_map] at hy ⊢
   cases hx : l[j]? with
   | none => rw [hx] at hy; cases hy
   | some p => rw [hx] at hy; injection hy with hy; subst hy; rfl)
  rw [Nat.zero_add]; exact this
 have e1 : (l.map fun k => sB (knTx k)).map (·.data.toList) = (l.take l.length).map knTx := by
  rw [List.take_length, List.map_map]
  rfl
 have hj := join_lp l l.length (Nat.le_refl _)
 have hjl := lpTo_len l n
 have := Join_any g 0 c (l.map fun k => sB (knTx k)) ⟨#[32]⟩ w hcells hb (by simp; omega) (by simp; omega) (by rw [e1]; show (Lib.join _ [32]).length ≤ _; rw [hj, hl]; omega)
 rw [e1, List.length_map, hl] at this
 rw [hl] at hj
 rw [show Lib.join ((l.take n).map knTx) (⟨#[32]⟩ : ByteArray).data.toList = lpTo l n from hj] at this
 unfold lpTx
 rw [hl]
 exact this
theorem loopText_any (A : Option Addr) (c : Nat) (l : List Kn) (w : World) (h : Kns w A l.length l) (hL : LoopOk l) (hB : ∀ k ∈ l, knB k = true) : Calls Tryd.prog 37 #[outV A l.length c] w fun e w' => e = .returned (sV (lpTx l)) ∧ Over w w' := by
 have h1 := hL.pos
 have h60 := hL.len
 refine walk_from (m := 35) (Tryd.func37) rfl rfl (Nat.le_of_ble_eq_true rfl) ?_
 refine at_seq ?_
 refine at_region ?_
 refine at_op rfl ?_
 refine op_box rfl rfl (rfl) rfl (by decide) (fun b1 => ?_)
 refine at_rsE (by simp only [ya,yb,yc,yd,Value.cells,ye]; rfl) ?_
 refine at_q rfl rfl (by decide) (qt_assign rfl rfl) ?_
 refine at_end ?_
 refine at_seq ?_
 refine at_region ?_
 refine at_q rfl rfl (by decide) (qt_fieldAddr rfl rfl tyf_impl_Loop_0) ?_
 refine at_q rfl rfl (by decide) (qt_load1 rfl rfl ty1_sl_impl_Knot (rd1 (k := 0) rfl rfl)) ?_
 refine at_q rfl rfl (by decide) (qt_len rfl rfl tyl_sl_impl_Knot) ?_
 refine at_op rfl ?_
 refine op_makeC (m := l.length) rfl rfl rfl tyl_sl_string tyz_string rfl (by decide) (by omega) (by omega) (fun bm => ?_)
 refine at_rsE (by simp only [ya,yb,yc,yd,Value.cells,ye]; rfl) ?_
 refine at_rowC 1 1 l.length rfl rfl (by simp [madeCells]) (by unfold maxLen; omega) ?_
 refine at_rsE (by simp only [List.nil_append, List.cons_append, List.set_cons_zero, List.set_cons_succ, List.eraseIdx_cons_zero, List.eraseIdx_cons_succ, Value.cells, List.toList_toArray]; rfl) ?_
 refine at_q rfl rfl (by decide) (qt_assign rfl rfl) ?_
 refine at_end ?_
 refine at_seq ?_
 refine at_seq ?_
 refine at_region ?_
 refine at_q rfl rfl (by decide) (qt_fieldAddr rfl rfl tyf_impl_Loop_0) ?_
 refine at_q rfl rfl (by decide) (qt_load1 rfl rfl ty1_sl_impl_Knot (rd1 (k := 0) rfl rfl)) ?_
 refine at_q rfl rfl (by decide) (qt_len rfl rfl tyl_sl_impl_Knot) ?_
 refine at_q rfl rfl (by decide) (qt_move rfl rfl) ?_
 refine at_end ?_
 refine at_block ?_
 refine at_loopc (X := Nat × Option Addr × Nat) (fun x => x.1 ≤ l.length) (fun x => l.length - x.1) (fun x => [(3, .slice x.2.1 x.1 x.2.2), (13, .int .i64 (x.1 : Int))]) (C := [(2, _), (11, _), (12, _)]) ⟨rfl, rfl, rfl, trivial⟩ (fun x => [.cel b1 48 [.slice A l.length c], rowR (Bs.N ⟨w, []⟩) 9 1 x.1 ((l.take x.1).map fun k => sV (knTx k)) x.2]) (0, some ⟨bm, 0, none⟩, l.length) (Nat.zero_le _) ⟨rfl, rfl, rfl, rfl, rfl, trivial⟩ (fun _ h => h) ?_
 intro ⟨k, rA, rc⟩ hx L hL1
 refine at_envE (by simp only [ya,yb]; rfl) ?_
 refine at_rsE (by first | (dsimp only; done) | (dsimp only; rfl) | rfl) ?_
 have hk : k ≤ l.length := hx
 refine at_seq ?_
 refine at_region ?_
 refine at_q rfl rfl (by decide) (qt_lss rfl rfl rfl) ?_
 refine at_end ?_
 refine at_seq ?_
 refine at_cond rfl (fun c1 => ?_) (fun c1 => ?_)
 ·try simp only [za,zb,zc,zd,ze,zf,Bool.not_true,Bool.not_false,zg,zh,ne_eq,zi,zj] at c1
  have hlt : k < l.length := (by omega)
  obtain ⟨eb, eo, rfl, _⟩ := h.2 (by omega)
  have hkb : okB (kn l k).1.1 (kn l k).1.2 = true := hB _ (kn_at hlt ▸ List.getElem_mem hlt)
  have hpl := ptL_len (kn l k).1
  have htk : l.take (k + 1) = l.take k ++ [kn l k] := (by rw [List.take_succ_eq_append_getElem hlt, kn_at])
  refine at_skip ?_
  refine norm_then ?_
  refine at_seq ?_
  refine at_block ?_
  refine at_seq ?_
  refine at_region ?_
  refine at_q rfl rfl (by decide) (qt_index rfl rfl rfl tyl_sl_impl_Knot (by omega)) ?_
  refine at_q rfl rfl (by decide) (qt_loadS rfl rfl tys_impl_Knot rfl (rdKn h hlt rfl)) ?_
  refine at_op rfl ?_
  refine op_alloc rfl tyz_impl_Knot rfl (by decide) (fun b2 => ?_)
  refine at_rsE (by simp only [ya,yb,yc,yd,Value.cells,ye]; rfl) ?_
  refine at_op rfl ?_
  refine op_storeAll' (k := 2) rfl rfl rfl rfl (rfl) (by rfl) tyz_impl_Knot.szx rfl rfl rfl ?_
  refine at_rsE (by simp only [ya,yb,yc,yd,Value.cells,ye]; rfl) ?_
  refine at_end ?_
  refine at_seq ?_
  refine at_region ?_
  refine at_q rfl rfl (by decide) (qt_fieldAddr rfl rfl tyf_impl_Knot_1) ?_
  refine at_q rfl rfl (by decide) (qt_load1 rfl rfl ty1_bool (rd1 (k := 2) rfl rfl)) ?_
  refine at_end ?_
  refine at_cond rfl (fun c2 => ?_) (fun c2 => ?_)
  ·try simp only [za,zb,zc,zd,ze,zf,Bool.not_true,Bool.not_false,zg,zh,ne_eq,zi,zj] at c2
   refine at_region ?_
   refine at_q rfl rfl (by decide) (qt_move rfl rfl) ?_
   refine at_q rfl rfl (by decide) (qt_fieldAddr rfl rfl tyf_impl_Knot_0) ?_
   refine at_q rfl rfl (by decide) (qt_loadS rfl rfl tys_impl_Pt rfl (rd2 (k := 2) rfl rfl rfl)) ?_
   refine at_q rfl rfl (by decide) (qt_call ok_impl_PtText rfl rfl (fun w1 hs => PtText_any (kn l k).1 w1 hkb)) ?_
   refine at_op rfl ?_
   refine op_buildSlice rfl rfl (bsl_sl_string_1_0 rfl) rfl (by decide) (fun b3 => ?_)
   refine at_rsE (by simp only [ya,yb,yc,yd,Value.cells,ye]; rfl) ?_
   refine at_op rfl ?_
   refine op_appendR (k := 1) rfl tyl_sl_string tyz_string (by decide) rfl (by decide) rfl rfl rfl (fun w' hs => src_cel hs (k := 3) rfl rfl) (by simp [Value.oneCell']) (by unfold maxLen; omega) (by omega) (Nat.le_refl _) (fun r1 => ?_)
   refine at_rsE (by simp only [ya,yb,yc,yd,Value.cells,ye]; rfl) ?_
   refine at_q rfl rfl (by decide) (qt_assign rfl rfl) ?_
   refine at_nil ?_
   refine norm_block ?_
   refine norm_then ?_
   refine at_region ?_
   refine at_q rfl rfl (by decide) (qt_add rfl rfl rfl (by omega) (by omega)) ?_
   refine at_q rfl rfl (by decide) (qt_move rfl rfl) ?_
   refine at_end ?_
   exact at_againc hL1 ((k + 1, r1)) ((show k + 1 ≤ l.length by omega)) (by simp only; omega) ⟨rfl, vi (by omega), rfl, rfl, rfl, trivial⟩ (fun _ h => h.upto ⟨rfl, by rw [htk, List.map_append]; show rowR _ _ 1 (k + 1) ((l.take k).map (fun k => sV (knTx k)) ++ [sV (knTx (kn l k))]) r1 = _; rw [knTx, if_pos c2]; rfl, trivial⟩)
  ·try simp only [za,zb,zc,zd,ze,zf,Bool.not_true,Bool.not_false,zg,zh,ne_eq,zi,zj] at c2
   refine at_region ?_
   refine at_q rfl rfl (by decide) (qt_move rfl rfl) ?_
   refine at_q rfl rfl (by decide) (qt_fieldAddr rfl rfl tyf_impl_Knot_0) ?_
   refine at_q rfl rfl (by decide) (qt_loadS rfl rfl tys_impl_Pt rfl (rd2 (k := 2) rfl rfl rfl)) ?_
   refine at_q rfl rfl (by decide) (qt_call ok_impl_PtText rfl rfl (fun w1 hs => PtText_any (kn l k).1 w1 hkb)) ?_
   refine at_q rfl rfl (by decide) ((qt_addS (a := ⟨[126].toArray⟩) rfl rfl rfl (by rw [ba_size, ba_size]; simp; omega)).as (congrArg Value.string (ba_app _ _))) ?_
   refine at_op rfl ?_
   refine op_buildSlice rfl rfl (bsl_sl_string_1_0 rfl) rfl (by decide) (fun b4 => ?_)
   refine at_rsE (by simp only [ya,yb,yc,yd,Value.cells,ye]; rfl) ?_
   refine at_op rfl ?_
   refine op_appendR (k := 1) rfl tyl_sl_string tyz_string (by decide) rfl (by decide) rfl rfl rfl (fun w' hs => src_cel hs (k := 3) rfl rfl) (by simp [Value.oneCell']) (by unfold maxLen; omega) (by omega) (Nat.le_refl _) (fun r2 => ?_)
   refine at_rsE (by simp only [ya,yb,yc,yd,Value.cells,ye]; rfl) ?_
   refine at_q rfl rfl (by decide) (qt_assign rfl rfl) ?_
   refine at_nil ?_
   refine norm_block ?_
   refine norm_then ?_
   refine at_region ?_
   refine at_q rfl rfl (by decide) (qt_add rfl rfl rfl (by omega) (by omega)) ?_
   refine at_q rfl rfl (by decide) (qt_move rfl rfl) ?_
   refine at_end ?_
   exact at_againc hL1 ((k + 1, r2)) ((show k + 1 ≤ l.length by omega)) (by simp only; omega) ⟨rfl, vi (by omega), rfl, rfl, rfl, trivial⟩ (fun _ h => h.upto ⟨rfl, by rw [htk, List.map_append]; show rowR _ _ 1 (k + 1) ((l.take k).map (fun k => sV (knTx k)) ++ [sV (knTx (kn l k))]) r2 = _; rw [knTx, if_neg (by rw [c2]; decide)]; rfl, trivial⟩)
 ·try simp only [za,zb,zc,zd,ze,zf,Bool.not_true,Bool.not_false,zg,zh,ne_eq,zi,zj] at c1
  have hkn : k = l.length := (by omega)
  subst hkn
  refine at_exit ?_
  refine pass_then (fun h => by cases h) ?_
  refine pass_then (fun h => by cases h) ?_
  refine pass_hit ?_
  refine norm_then ?_
  refine at_seq ?_
  refine at_region ?_
  refine at_q rfl rfl (by decide) (qt_move rfl rfl) ?_
  refine at_q rfl rfl (by decide) (qt_call ok_strings_Join rfl rfl (fun w1 hs => joinLp (B := Bs.N ⟨w, []⟩) (x := (rA, rc)) rfl h1 h60 (hs.all 1 _ rfl).1)) ?_
  refine at_q rfl rfl (by decide) (qt_assign rfl rfl) ?_
  refine at_end ?_
  refine at_retc ?_
  refine at_ret1 rfl (.tmp rfl) ?_
  intro w' hs
  exact ⟨rfl, hs.fin⟩
theorem out_memB {ls : List (List Kn)} (h : outB ls = true) {l : List Kn} (hl : l ∈ ls) : ∀ k ∈ l, knB k = true := by
 unfold outB at h
 rw [Bool.and_eq_true] at h
 have h2 := List.all_eq_true.1 h.2 l hl
 unfold loopB at h2
 rw [Bool.and_eq_true] at h2
 exact fun k hk => List.all_eq_true.1 h2.2 k hk
theorem at_rsO {n : Nat} {env : List (Nat × Value)} {w0 : Bs} {Rs Rs' : List Res} {K : Act → World → Prop} (hr : ∀ w, St w0 Rs w → St w0 Rs' w) (h : At n env w0 Rs' K) : At n env w0 Rs K := fun a w hf hs => h a w hf (hr w hs)
theorem OutlineText_any (A : Option Addr) (c : Nat) (ls : List (List Kn)) (w : World) (h : Loops w A ls.length ls) (hv : outB ls = true) : Calls Tryd.prog 15 #[outV A ls.length c] w fun e w' => e = .returned (sV (ouTx ls)) ∧ Over w w' := by
 have h12 := out_len hv
 have h60 : ∀ j, j < ls.length → (lp ls j).length ≤ 60 := fun j hj => (loop_ok (out_at hv hj)).len
 refine walk_from (m := 22) (Tryd.func15) rfl rfl (Nat.le_of_ble_eq_true rfl) ?_
 refine at_seq ?_
 refine at_region ?_
 refine at_op rfl ?_
 refine op_box rfl rfl (rfl) rfl (by decide) (fun b1 => ?_)
 refine at_rsE (by simp only [ya,yb,yc,yd,Value.cells,ye]; rfl) ?_
 refine at_q rfl rfl (by decide) (qt_assign rfl rfl) ?_
 refine at_end ?_
 refine at_seq ?_
 refine at_seq ?_
 refine at_region ?_
 refine at_q rfl rfl (by decide) (qt_loadS rfl rfl tys_impl_Outline rfl (rdAll (k := 0) rfl)) ?_
 refine at_q rfl rfl (by decide) (qt_call ok_impl_ValidOutline rfl rfl (fun w1 hs => ValidOutline_any A ls.length c ls w1 (h.over hs.fin) (by omega))) ?_
 refine at_q rfl rfl (by decide) (qt_not rfl rfl) ?_
 refine at_end ?_
 refine at_no rfl (by rw [hv]; rfl) ?_
 refine at_skip ?_
 refine norm_then ?_
 refine at_seq ?_
 refine at_region ?_
 refine at_op rfl ?_
 refine op_alloc rfl tyz_strings_Builder rfl (by decide) (fun b2 => ?_)
 refine at_rsE (by simp only [ya,yb,yc,yd,Value.cells,ye]; rfl) ?_
 refine at_bld0 (e := 5) 1 rfl rfl ?_
 refine at_rsE (by simp only [List.nil_append, List.cons_append, List.set_cons_zero, List.set_cons_succ, List.eraseIdx_cons_zero, List.eraseIdx_cons_succ, Value.cells, List.toList_toArray]; rfl) ?_
 refine at_end ?_
 refine at_seq ?_
 refine at_seq ?_
 refine at_region ?_
 refine at_q rfl rfl (by decide) (qt_fieldAddr rfl rfl tyf_impl_Outline_0) ?_
 refine at_q rfl rfl (by decide) (qt_load1 rfl rfl ty1_sl_impl_Loop (rd1 (k := 0) rfl rfl)) ?_
 refine at_q rfl rfl (by decide) (qt_len rfl rfl tyl_sl_impl_Loop) ?_
 refine at_q rfl rfl (by decide) (qt_move rfl rfl) ?_
 refine at_end ?_
 refine at_rsO (Rs' := [.bld (Bs.N ⟨w, []⟩) 83 5 b2 (.pointer none, .slice none 0 0) (Lib.byteCells (ouTo ls 0))]) (fun w' h => (h.picks [1] (by decide)).upto ⟨rfl, trivial⟩) ?_
 refine at_block ?_
 refine at_loopc (X := Nat × Value × Value) (fun x => x.1 ≤ ls.length ∧ (x.2.1 = .pointer none ∨ x.2.1 = bldV b2)) (fun x => ls.length - x.1) (fun x => [(12, .int .i64 (x.1 : Int))]) (C := [(2, _), (3, _), (10, _), (11, _)]) ⟨rfl, rfl, rfl, rfl, trivial⟩ (fun x => [.bld (Bs.N ⟨w, []⟩) 83 5 b2 x.2 (Lib.byteCells (ouTo ls x.1))]) (0, .pointer none, .slice none 0 0) (⟨Nat.zero_le _, .inl rfl⟩) ⟨rfl, rfl, rfl, rfl, rfl, trivial⟩ (fun _ h => h) ?_
 intro ⟨k, p, bv⟩ hx L hL1
 refine at_envE (by simp only [ya,yb]; rfl) ?_
 refine at_rsE (by first | (dsimp only; done) | (dsimp only; rfl) | rfl) ?_
 obtain ⟨hk, hp⟩ : k ≤ ls.length ∧ (p = .pointer none ∨ p = bldV b2) := hx
 refine at_seq ?_
 refine at_region ?_
 refine at_q rfl rfl (by decide) (qt_lss rfl rfl rfl) ?_
 refine at_end ?_
 refine at_seq ?_
 refine at_cond rfl (fun c1 => ?_) (fun c1 => ?_)
 ·try simp only [za,zb,zc,zd,ze,zf,Bool.not_true,Bool.not_false,zg,zh,ne_eq,zi,zj] at c1
  have hlt : k < ls.length := (by omega)
  obtain ⟨eb, eo, Ak, ck, rfl, hbB, hcell, hkns, hmax⟩ := h.at_ hlt
  have htl := ouTo_len h60 k (by omega)
  have hjl := lpTo_len (lp ls k) (lp ls k).length
  have hk60 := h60 k hlt
  have hmem : lp ls k ∈ ls := lp_at hlt ▸ List.getElem_mem hlt
  refine at_skip ?_
  refine norm_then ?_
  refine at_seq ?_
  refine at_block ?_
  refine at_seq ?_
  refine at_region ?_
  refine at_q rfl rfl (by decide) (qt_index rfl rfl rfl tyl_sl_impl_Loop (by omega)) ?_
  refine at_q rfl rfl (by decide) (qt_loadS rfl rfl tys_impl_Loop rfl (rdOld1 hcell hbB)) ?_
  refine at_op rfl ?_
  refine op_alloc rfl tyz_impl_Loop rfl (by decide) (fun b3 => ?_)
  refine at_rsE (by simp only [ya,yb,yc,yd,Value.cells,ye]; rfl) ?_
  refine at_op rfl ?_
  refine op_storeAll' (k := 1) rfl rfl rfl rfl (rfl) (by rfl) tyz_impl_Loop.szx rfl rfl rfl ?_
  refine at_rsE (by simp only [ya,yb,yc,yd,Value.cells,ye]; rfl) ?_
  refine at_end ?_
  refine at_region ?_
  refine at_q rfl rfl (by decide) (qt_loadS rfl rfl tys_impl_Loop rfl (rdAll (k := 1) rfl)) ?_
  refine at_q rfl rfl (by decide) (qt_call ok_impl_loopText rfl rfl (fun w1 hs => loopText_any Ak ck (lp ls k) w1 (hkns.over hs.fin) (out_mem hv hmem) (out_memB hv hmem))) ?_
  refine at_q rfl rfl (by decide) ((qt_addS (b := ⟨[10].toArray⟩) rfl rfl rfl (by rw [ba_size, ba_size]; unfold lpTx; simp; omega)).as (congrArg Value.string (ba_app _ _))) ?_
  refine at_op rfl ?_
  refine op_callB (k := 0) (p' := bldV b2) rfl ok_p_strings_Builder_WriteString rfl rfl rfl (by decide) rfl (fun w1 hs hb hz => WriteString_any _ b2 _ _ p w1 hb hp (by rw [List.length_append]; unfold lpTx; simp; omega) hz) (fun v' => ?_)
  refine at_nil ?_
  refine norm_block ?_
  refine norm_then ?_
  refine at_region ?_
  refine at_q rfl rfl (by decide) (qt_add rfl rfl rfl (by omega) (by omega)) ?_
  refine at_q rfl rfl (by decide) (qt_move rfl rfl) ?_
  refine at_end ?_
  exact at_againc hL1 ((k + 1, bldV b2, v')) (⟨show k + 1 ≤ ls.length by omega, .inr rfl⟩) (by simp only; omega) ⟨vi (by omega), rfl, rfl, rfl, rfl, trivial⟩ (fun _ h => h.upto ⟨rfl, trivial⟩)
 ·try simp only [za,zb,zc,zd,ze,zf,Bool.not_true,Bool.not_false,zg,zh,ne_eq,zi,zj] at c1
  have hkn : k = ls.length := (by omega)
  subst hkn
  refine at_exit ?_
  refine pass_then (fun h => by cases h) ?_
  refine pass_then (fun h => by cases h) ?_
  refine pass_hit ?_
  refine norm_then ?_
  refine at_seq ?_
  refine at_region ?_
  refine at_op rfl ?_
  refine op_callZ rfl ok_p_strings_Builder_String rfl rfl rfl (by decide) (fun w1 hs hz => BuilderString_any _ b2 _ p w1 (bld_at (hs.all 0 _ rfl).1) hp hz) ?_
  refine at_q rfl rfl (by decide) (qt_assign rfl rfl) ?_
  refine at_end ?_
  refine at_retc ?_
  refine at_ret1 rfl (.tmp rfl) ?_
  intro w' hs
  exact ⟨rfl, hs.fin⟩
/-! ### Read -/
theorem allO_at2 {α β : Type} {f : α → Option β} : ∀ {l : List α} {m : List β}, allO f l = some m → ∀ {k : Nat} (hk : k < l.length), ∃ b, f l[k] = some b ∧ m.take (k + 1) = m.take k ++ [b]
 | a :: l, m, h, k, hk => by
  unfold allO at h
  split at h
  ·rename_i b r hb hr
   injection h with h
   subst h
   cases k with
   | zero => exact ⟨b, hb, by simp⟩
   | succ k =>
    obtain ⟨b', h1, h2⟩ := allO_at2 hr (k := k) (by simpa using hk)
    refine ⟨b', by simpa using h1, ?_⟩
    rw [List.take_succ_cons, List.take_succ_cons, h2]
    rfl
  ·cases h
theorem txLp_of {s : List UInt8} {m : List Kn} (h : txLp s = some m) : allO txKn (splL 32 s) = some m ∧ loopB m = true := by
 unfold txLp at h
 cases hr : txLpR s with
 | none => rw [hr] at h; cases h
 | some q =>
  rw [hr] at h
  have h : (if loopB q = true then some q else none) = some m := h
  split at h
  ·rename_i hb
   injection h with h
   subst h
   exact ⟨hr, hb⟩
  ·cases h
theorem txKn_of {s : List UInt8} {k : Kn} (h : txKn s = some k) : txPt (Lib.trimPrefix s [126]) = some k.1 ∧ Lib.hasPrefix s [126] = !k.2 := by
 unfold txKn at h
 cases hp : txPt (Lib.trimPrefix s [126]) with
 | none => rw [hp] at h; cases h
 | some p =>
  rw [hp] at h
  injection h with h
  subst h
  exact ⟨rfl, by simp⟩
theorem trim_len (s : List UInt8) : (Lib.trimPrefix s [126]).length ≤ s.length := by
 unfold Lib.trimPrefix
 split
 ·rw [List.length_drop]; omega
 ·omega
theorem readLoop_any (s : List UInt8) (m : List Kn) (w : World) (hM : MaxL w) (hl : s.length ≤ 1048576) (h : txLp s = some m) : Calls Tryd.prog 35 #[sV s] w fun e w' => ∃ v, e = .returned (.tuple #[.agg #[v], .bool true]) ∧ True ∧ w'.ownsRow w.heap.size 54 3 v m.length (m.flatMap knCells) ∧ Over w w' := by
 have hsum := splL_sum 32 s
 obtain ⟨hA, hLB⟩ := txLp_of h
 have hml := allO_len hA
 refine walk_from (m := 44) (Tryd.func35) rfl rfl (Nat.le_of_ble_eq_true rfl) ?_
 refine at_seq ?_
 refine at_region ?_
 refine at_op rfl ?_
 refine op_alloc rfl tyz_impl_Loop rfl (by decide) (fun b1 => ?_)
 refine at_rsE (by simp only [ya,yb,yc,yd,Value.cells,ye]; rfl) ?_
 refine at_q rfl rfl (by decide) (qt_assign rfl rfl) ?_
 refine at_end ?_
 refine at_seq ?_
 refine at_region ?_
 refine at_op rfl ?_
 refine op_alloc rfl tyz_impl_Loop rfl (by decide) (fun b2 => ?_)
 refine at_rsE (by simp only [ya,yb,yc,yd,Value.cells,ye]; rfl) ?_
 refine at_end ?_
 refine at_row0 (T := 54) (s := 3) ?_
 refine at_rsE (by simp only [List.nil_append, List.cons_append, List.set_cons_zero, List.set_cons_succ, List.eraseIdx_cons_zero, List.eraseIdx_cons_succ, Value.cells, List.toList_toArray]; rfl) ?_
 refine at_seq ?_
 refine at_seq ?_
 refine at_region ?_
 refine at_q rfl rfl (by decide) (qt_move rfl rfl) ?_
 refine at_op rfl ?_
 refine op_call ok_strings_Split (X := Option Addr × Nat) (v := fun x => .slice x.1 (splL 32 s).length x.2) (r := fun x => rowR 0 9 1 (splL 32 s).length ((splL 32 s).map sV) x) (H := fun _ => True) rfl rfl rfl (by decide) (fun w1 hs => newRow (Split_any 32 s w1 (hM.over hs.fin) hl)) ?_
 rintro ⟨sA, sc⟩ -
 refine at_rsE (by simp only [ya,yb,yc,yd,Value.cells,ye]; rfl) ?_
 refine at_q rfl rfl (by decide) (qt_len rfl rfl tyl_sl_string) ?_
 refine at_q rfl rfl (by decide) (qt_move rfl rfl) ?_
 refine at_end ?_
 refine at_block ?_
 refine at_loopc (X := Nat × Option Addr × Nat) (fun x => x.1 ≤ (splL 32 s).length) (fun x => (splL 32 s).length - x.1) (fun x => [(14, .int .i64 (x.1 : Int))]) (C := [(2, _), (3, _), (4, _), (12, _), (13, _)]) ⟨rfl, rfl, rfl, rfl, rfl, trivial⟩ (fun x => [.cel b1 48 [.slice none 0 0], .cel b2 48 [.slice x.2.1 x.1 x.2.2], rowR (Bs.N ⟨w, []⟩) 54 3 x.1 ((m.take x.1).flatMap knCells) x.2, rowR 0 9 1 (splL 32 s).length ((splL 32 s).map sV) (sA, sc)]) (0, none, 0) (Nat.zero_le _) ⟨rfl, rfl, rfl, rfl, rfl, rfl, trivial⟩ (fun _ h => h) ?_
 intro ⟨k, rA, rc⟩ hx L hL1
 refine at_envE (by simp only [ya,yb]; rfl) ?_
 refine at_rsE (by first | (dsimp only; done) | (dsimp only; rfl) | rfl) ?_
 have hk : k ≤ (splL 32 s).length := hx
 refine at_seq ?_
 refine at_region ?_
 refine at_q rfl rfl (by decide) (qt_lss rfl rfl rfl) ?_
 refine at_end ?_
 refine at_seq ?_
 refine at_cond rfl (fun c1 => ?_) (fun c1 => ?_)
 ·try simp only [za,zb,zc,zd,ze,zf,Bool.not_true,Bool.not_false,zg,zh,ne_eq,zi,zj] at c1
  have hlt : k < (splL 32 s).length := (by omega)
  obtain ⟨q, hq, htk⟩ := allO_at2 hA hlt
  obtain ⟨hq1, hq2⟩ := txKn_of hq
  have hwl := spl_word (List.getElem_mem hlt)
  have htl := trim_len (splL 32 s)[k]
  refine at_skip ?_
  refine norm_then ?_
  refine at_seq ?_
  refine at_block ?_
  refine at_seq ?_
  refine at_region ?_
  refine at_q rfl rfl (by decide) (qt_indexR (k := 3) (j := k) rfl rfl rfl rfl tyl_sl_string hlt) ?_
  refine at_q rfl rfl (by decide) (qt_load1 rfl rfl ty1_string (rdStr (k := 3) rfl hlt)) ?_
  refine at_q rfl rfl (by decide) (qt_assign rfl rfl) ?_
  refine at_end ?_
  refine at_seq ?_
  refine at_region ?_
  refine at_q rfl rfl (by decide) (qt_move rfl rfl) ?_
  refine at_q rfl rfl (by decide) (qt_call ok_strings_CutPrefix rfl rfl (fun w1 hs => hq2 ▸ CutPrefix_any (splL 32 s)[k] [126] w1)) ?_
  refine at_q rfl rfl (by decide) (qt_move rfl rfl) ?_
  refine at_q rfl rfl (by decide) (qt_extract rfl rfl rfl) ?_
  refine at_q rfl rfl (by decide) (qt_extract rfl rfl rfl) ?_
  refine at_q rfl rfl (by decide) (qt_assign rfl rfl) ?_
  refine at_q rfl rfl (by decide) (qt_assign rfl rfl) ?_
  refine at_end ?_
  refine at_seq ?_
  refine at_region ?_
  refine at_q rfl rfl (by decide) (qt_move rfl rfl) ?_
  refine at_q rfl rfl (by decide) (qt_call ok_impl_ReadPt rfl rfl (fun w1 hs => hq1 ▸ ReadPt_any _ w1 (hM.over hs.fin) (by omega))) ?_
  refine at_q rfl rfl (by decide) (qt_move rfl rfl) ?_
  refine at_q rfl rfl (by decide) (qt_extract rfl rfl rfl) ?_
  refine at_q rfl rfl (by decide) (qt_extract rfl rfl rfl) ?_
  refine at_op rfl ?_
  refine op_alloc rfl tyz_impl_Pt rfl (by decide) (fun b3 => ?_)
  refine at_rsE (by simp only [ya,yb,yc,yd,Value.cells,ye]; rfl) ?_
  refine at_op rfl ?_
  refine op_storeAll' (k := 4) rfl rfl rfl rfl (rfl) (by rfl) tyz_impl_Pt.szx rfl rfl rfl ?_
  refine at_rsE (by simp only [ya,yb,yc,yd,Value.cells,ye]; rfl) ?_
  refine at_q rfl rfl (by decide) (qt_assign rfl rfl) ?_
  refine at_end ?_
  refine at_seq ?_
  refine at_seq ?_
  refine at_region ?_
  refine at_q rfl rfl (by decide) (qt_move rfl rfl) ?_
  refine at_q rfl rfl (by decide) (qt_not rfl rfl) ?_
  refine at_end ?_
  refine at_no rfl (rfl) ?_
  refine at_skip ?_
  refine norm_then ?_
  refine at_region ?_
  refine at_q rfl rfl (by decide) (qt_fieldAddr rfl rfl tyf_impl_Loop_0) ?_
  refine at_q rfl rfl (by decide) (qt_load1 rfl rfl ty1_sl_impl_Knot (rd1 (k := 1) rfl rfl)) ?_
  refine at_q rfl rfl (by decide) (qt_loadS rfl rfl tys_impl_Pt rfl (rdAll (k := 4) rfl)) ?_
  refine at_q rfl rfl (by decide) (qt_move rfl rfl) ?_
  refine at_q rfl rfl (by decide) (qt_not rfl rfl) ?_
  refine at_q rfl rfl (by decide) (qt_build rfl rfl (bld_impl_Knot_0_1 rfl rfl)) ?_
  refine at_op rfl ?_
  refine op_buildSlice rfl rfl (bsl_sl_impl_Knot_1_0 rfl) rfl (by decide) (fun b4 => ?_)
  refine at_rsE (by simp only [ya,yb,yc,yd,Value.cells,ye]; rfl) ?_
  refine at_op rfl ?_
  refine op_appendR (k := 2) rfl tyl_sl_impl_Knot tyz_impl_Knot (by decide) rfl (by decide) rfl rfl rfl (fun w' hs => src_cel hs (k := 5) rfl rfl) (by simp [Value.oneCell']) (by unfold maxLen; omega) (by omega) (Nat.le_refl _) (fun r1 => ?_)
  refine at_rsE (by simp only [ya,yb,yc,yd,Value.cells,ye]; rfl) ?_
  refine at_q rfl rfl (by decide) (qt_fieldAddr rfl rfl tyf_impl_Loop_0) ?_
  refine at_op rfl ?_
  refine op_storeAll' (k := 1) rfl rfl rfl rfl (rfl) (by rfl) tyz_sl_impl_Knot.szx rfl rfl rfl ?_
  refine at_rsE (by simp only [ya,yb,yc,yd,Value.cells,ye]; rfl) ?_
  refine at_nil ?_
  refine norm_block ?_
  refine norm_then ?_
  refine at_region ?_
  refine at_q rfl rfl (by decide) (qt_add rfl rfl rfl (by omega) (by omega)) ?_
  refine at_q rfl rfl (by decide) (qt_move rfl rfl) ?_
  refine at_end ?_
  exact at_againc hL1 ((k + 1, r1)) ((show k + 1 ≤ _ by omega)) (by simp only; omega) ⟨vi (by omega), rfl, rfl, rfl, rfl, rfl, trivial⟩ (fun _ h => h.upto ⟨rfl, rfl, by rw [htk, List.flatMap_append]; simp, rfl, trivial⟩)
 ·try simp only [za,zb,zc,zd,ze,zf,Bool.not_true,Bool.not_false,zg,zh,ne_eq,zi,zj] at c1
  have hkn : k = m.length := (by omega)
  refine at_exit ?_
  refine pass_then (fun h => by cases h) ?_
  refine pass_then (fun h => by cases h) ?_
  refine pass_hit ?_
  refine norm_then ?_
  refine at_seq ?_
  refine dg_start mixed rfl ?_
  refine dg_phaseW 5 [0] ?_
  refine dg_q (i := 0) rfl (by kernel_rfl) (by kernel_rfl) (by kernel_rfl) [] (by kernel_rfl) (fun _ _ _ h => h) rfl rfl (by decide) (fun _ h => (h.wk [0]).upto ⟨rfl, rfl, rfl, rfl, trivial⟩) (qt_loadS rfl rfl tys_impl_Loop rfl (rdAll (k := 1) rfl)) ?_
  refine dg_q (i := 1) rfl (by kernel_rfl) (by kernel_rfl) (by kernel_rfl) [] (by kernel_rfl) (fun _ _ _ h => h) rfl rfl (by decide) (fun _ h => (h.wk [0]).upto ⟨rfl, rfl, rfl, rfl, trivial⟩) (qt_loadS rfl rfl tys_impl_Loop rfl (rdAll (k := 1) rfl)) ?_
  refine dg_q (i := 2) rfl (by kernel_rfl) (by kernel_rfl) (by kernel_rfl) [] (by kernel_rfl) (fun _ _ _ h => h) rfl rfl (by decide) (fun _ h => (h.wk [0]).upto ⟨rfl, rfl, rfl, rfl, trivial⟩) (qt_call ok_impl_ValidLoop rfl rfl (fun w1 hs => hLB ▸ ValidLoop_any rA k rc m w1 (by have h1 := (hs.all 2 _ rfl).1; rw [hkn, List.take_length] at h1; have := Els.row (x := (rA, rc)) h1 knCells_len rfl; rw [← hkn] at this; exact this) (by omega))) ?_
  refine dg_one (i := 3) rfl (by decide) (by kernel_rfl) rfl ?_
  refine op_storeAll' (k := 0) rfl rfl rfl rfl (rfl) (by rfl) tyz_impl_Loop.szx rfl rfl rfl ?_
  refine at_rsE (by simp only [ya,yb,yc,yd,Value.cells,ye]; rfl) ?_
  refine dr_keep (fun _ h => (h.wk [0]).upto ⟨rfl, rfl, rfl, rfl, trivial⟩) ?_
  refine dg_q (i := 4) rfl (by kernel_rfl) (by kernel_rfl) (by kernel_rfl) [] (by kernel_rfl) (fun _ _ _ h => h) rfl rfl (by decide) (fun _ h => (h.wk [0]).upto ⟨rfl, rfl, rfl, rfl, trivial⟩) (qt_assign rfl rfl) ?_
  refine dg_done (by kernel_rfl) ?_
  refine norm_then ?_
  refine at_retc ?_
  refine at_ret2 rfl (rvCelS (k := 0) rfl tys_impl_Loop rfl rfl) (.tmp rfl) ?_
  intro w' hs
  refine ⟨_, rfl, trivial, ?_, hs.fin⟩
  have h1 := (hs.all 2 _ rfl).1
  rw [hkn, List.take_length] at h1
  rw [hkn]
  exact h1
theorem txOu_of {s : List UInt8} {ls : List (List Kn)} (h : txOu s = some ls) : ∃ LS, linI s = some LS ∧ allO txLp LS = some ls ∧ outB ls = true := by
 unfold txOu at h
 cases hl : linI s with
 | none => rw [hl] at h; cases h
 | some LS =>
  rw [hl] at h
  have h : ouO (allO txLp LS) = some ls := h
  cases ha : allO txLp LS with
  | none => rw [ha] at h; cases h
  | some m =>
   rw [ha] at h
   have h : (if outB m = true then some m else none) = some ls := h
   split at h
   ·rename_i hb
    injection h with h
    subst h
    exact ⟨LS, rfl, ha, hb⟩
   ·cases h
theorem ReadOutline_any (s : List UInt8) (ls : List (List Kn)) (w : World) (hM : MaxL w) (hl : s.length ≤ 1048576) (h : txOu s = some ls) : Calls Tryd.prog 14 #[sV s] w fun e w' => OqP ls (fun v => .tuple #[v, .bool true]) e w w' := by
 obtain ⟨LS, hLS, hA, hOB⟩ := txOu_of h
 obtain ⟨hw, hLl, _⟩ := lin_facts hl hLS
 have hml := allO_len hA
 have h12 := out_len hOB
 refine walk_from (m := 45) (Tryd.func14) rfl rfl (Nat.le_of_ble_eq_true rfl) ?_
 refine at_seq ?_
 refine at_region ?_
 refine at_op rfl ?_
 refine op_alloc rfl tyz_impl_Outline rfl (by decide) (fun b1 => ?_)
 refine at_rsE (by simp only [ya,yb,yc,yd,Value.cells,ye]; rfl) ?_
 refine at_q rfl rfl (by decide) (qt_assign rfl rfl) ?_
 refine at_end ?_
 refine at_seq ?_
 refine at_region ?_
 refine at_q rfl rfl (by decide) (qt_move rfl rfl) ?_
 refine at_op rfl ?_
 refine op_call ok_impl_textLines (X := Option Addr × Nat) (v := fun x => .tuple #[.slice x.1 LS.length x.2, .bool true]) (r := fun x => rowR 0 9 1 LS.length (LS.map sV) x) (H := fun _ => True) rfl rfl rfl (by decide) (fun w1 hs => newRowV (V := fun v => .tuple #[v, .bool true]) (show Calls Tryd.prog 24 #[sV s] w1 fun e w' => LinG (some LS) e w1 w' from hLS ▸ textLines_any s w1 (hM.over hs.fin) hl)) ?_
 rintro ⟨sA, sc⟩ -
 refine at_rsE (by simp only [ya,yb,yc,yd,Value.cells,ye]; rfl) ?_
 refine at_q rfl rfl (by decide) (qt_move rfl rfl) ?_
 refine at_q rfl rfl (by decide) (qt_extract rfl rfl rfl) ?_
 refine at_q rfl rfl (by decide) (qt_extract rfl rfl rfl) ?_
 refine at_q rfl rfl (by decide) (qt_assign rfl rfl) ?_
 refine at_q rfl rfl (by decide) (qt_assign rfl rfl) ?_
 refine at_end ?_
 refine at_seq ?_
 refine at_seq ?_
 refine at_region ?_
 refine at_q rfl rfl (by decide) (qt_move rfl rfl) ?_
 refine at_q rfl rfl (by decide) (qt_not rfl rfl) ?_
 refine at_end ?_
 refine at_no rfl (rfl) ?_
 refine at_skip ?_
 refine norm_then ?_
 refine at_seq ?_
 refine at_region ?_
 refine at_op rfl ?_
 refine op_alloc rfl tyz_impl_Outline rfl (by decide) (fun b2 => ?_)
 refine at_rsE (by simp only [ya,yb,yc,yd,Value.cells,ye]; rfl) ?_
 refine at_end ?_
 refine at_row0 (T := 48) (s := 1) ?_
 refine at_rsE (by simp only [List.nil_append, List.cons_append, List.set_cons_zero, List.set_cons_succ, List.eraseIdx_cons_zero, List.eraseIdx_cons_succ, Value.cells, List.toList_toArray]; rfl) ?_
 refine at_many0 ?_
 refine at_rsE (by simp only [List.nil_append, List.cons_append, List.set_cons_zero, List.set_cons_succ, List.eraseIdx_cons_zero, List.eraseIdx_cons_succ, Value.cells, List.toList_toArray]; rfl) ?_
 refine at_seq ?_
 refine at_seq ?_
 refine at_region ?_
 refine at_q rfl rfl (by decide) (qt_move rfl rfl) ?_
 refine at_q rfl rfl (by decide) (qt_len rfl rfl tyl_sl_string) ?_
 refine at_q rfl rfl (by decide) (qt_move rfl rfl) ?_
 refine at_end ?_
 refine at_block ?_
 refine at_loopc (X := Nat × (Option Addr × Nat) × List Kq) (fun x => x.1 ≤ LS.length ∧ x.2.2.map (·.l) = ls.take x.1) (fun x => LS.length - x.1) (fun x => [(21, .int .i64 (x.1 : Int))]) (C := [(2, _), (3, _), (6, _), (19, _), (20, _)]) ⟨rfl, rfl, rfl, rfl, rfl, trivial⟩ (fun x => [.cel b1 34 [.slice none 0 0], rowR 0 9 1 LS.length (LS.map sV) (sA, sc), .cel b2 34 [.slice x.2.1.1 x.1 x.2.1.2], rowR (Bs.N ⟨w, []⟩) 48 1 x.1 (x.2.2.map Kq.val) x.2.1, kqsR x.2.2]) (0, (none, 0), []) (⟨Nat.zero_le _, rfl⟩) ⟨rfl, rfl, rfl, rfl, rfl, rfl, trivial⟩ (fun _ h => h) ?_
 intro ⟨k, ⟨rA, rc⟩, L0⟩ hx L hL1
 refine at_envE (by simp only [ya,yb]; rfl) ?_
 refine at_rsE (by first | (dsimp only; done) | (dsimp only; rfl) | rfl) ?_
 obtain ⟨hk, hmp⟩ : k ≤ LS.length ∧ L0.map (·.l) = ls.take k := hx
 have hlk : L0.length = k := by have := congrArg List.length hmp; rw [List.length_map, List.length_take] at this; omega
 refine at_seq ?_
 refine at_region ?_
 refine at_q rfl rfl (by decide) (qt_lss rfl rfl rfl) ?_
 refine at_end ?_
 refine at_seq ?_
 refine at_cond rfl (fun c1 => ?_) (fun c1 => ?_)
 ·try simp only [za,zb,zc,zd,ze,zf,Bool.not_true,Bool.not_false,zg,zh,ne_eq,zi,zj] at c1
  have hlt : k < LS.length := (by omega)
  obtain ⟨q, hq, htk⟩ := allO_at2 hA hlt
  refine at_skip ?_
  refine norm_then ?_
  refine at_seq ?_
  refine at_block ?_
  refine at_seq ?_
  refine at_region ?_
  refine at_q rfl rfl (by decide) (qt_indexR (k := 1) (j := k) rfl rfl rfl rfl tyl_sl_string hlt) ?_
  refine at_q rfl rfl (by decide) (qt_load1 rfl rfl ty1_string (rdStr (k := 1) rfl hlt)) ?_
  refine at_q rfl rfl (by decide) (qt_assign rfl rfl) ?_
  refine at_end ?_
  refine at_seq ?_
  refine at_region ?_
  refine at_q rfl rfl (by decide) (qt_move rfl rfl) ?_
  refine at_op rfl ?_
  refine op_call ok_impl_readLoop (X := Option Addr × Nat) (v := fun x => .tuple #[.agg #[.slice x.1 q.length x.2], .bool true]) (r := fun x => rowR 0 54 3 q.length (q.flatMap knCells) x) (H := fun _ => True) rfl rfl rfl (by decide) (fun w1 hs => newRowV (V := fun v => .tuple #[.agg #[v], .bool true]) (readLoop_any LS[k] q w1 (hM.over hs.fin) (hw _ (List.getElem_mem hlt)) hq)) ?_
  rintro ⟨pA, pc⟩ -
  refine at_rsE (by simp only [ya,yb,yc,yd,Value.cells,ye]; rfl) ?_
  refine at_q rfl rfl (by decide) (qt_move rfl rfl) ?_
  refine at_q rfl rfl (by decide) (qt_extract rfl rfl rfl) ?_
  refine at_q rfl rfl (by decide) (qt_extract rfl rfl rfl) ?_
  refine at_op rfl ?_
  refine op_alloc rfl tyz_impl_Loop rfl (by decide) (fun b3 => ?_)
  refine at_rsE (by simp only [ya,yb,yc,yd,Value.cells,ye]; rfl) ?_
  refine at_op rfl ?_
  refine op_storeAll' (k := 6) rfl rfl rfl rfl (rfl) (by rfl) tyz_impl_Loop.szx rfl rfl rfl ?_
  refine at_rsE (by simp only [ya,yb,yc,yd,Value.cells,ye]; rfl) ?_
  refine at_q rfl rfl (by decide) (qt_assign rfl rfl) ?_
  refine at_end ?_
  refine at_seq ?_
  refine at_seq ?_
  refine at_region ?_
  refine at_q rfl rfl (by decide) (qt_move rfl rfl) ?_
  refine at_q rfl rfl (by decide) (qt_not rfl rfl) ?_
  refine at_end ?_
  refine at_no rfl (rfl) ?_
  refine at_skip ?_
  refine norm_then ?_
  refine at_region ?_
  refine at_q rfl rfl (by decide) (qt_fieldAddr rfl rfl tyf_impl_Outline_0) ?_
  refine at_q rfl rfl (by decide) (qt_load1 rfl rfl ty1_sl_impl_Loop (rd1 (k := 2) rfl rfl)) ?_
  refine at_q rfl rfl (by decide) (qt_loadS rfl rfl tys_impl_Loop rfl (rdAll (k := 6) rfl)) ?_
  refine at_op rfl ?_
  refine op_buildSlice rfl rfl (bsl_sl_impl_Loop_1_0 rfl) rfl (by decide) (fun b4 => ?_)
  refine at_rsE (by simp only [ya,yb,yc,yd,Value.cells,ye]; rfl) ?_
  refine at_op rfl ?_
  refine op_appendR (k := 3) rfl tyl_sl_impl_Loop tyz_impl_Loop (by decide) rfl (by decide) rfl rfl rfl (fun w' hs => src_cel hs (k := 7) rfl rfl) (by simp [Value.oneCell']) (by unfold maxLen; omega) (by omega) (Nat.le_refl _) (fun r1 => ?_)
  refine at_rsE (by simp only [ya,yb,yc,yd,Value.cells,ye]; rfl) ?_
  refine at_q rfl rfl (by decide) (qt_fieldAddr rfl rfl tyf_impl_Outline_0) ?_
  refine at_op rfl ?_
  refine op_storeAll' (k := 2) rfl rfl rfl rfl (rfl) (by rfl) tyz_sl_impl_Loop.szx rfl rfl rfl ?_
  refine at_rsE (by simp only [ya,yb,yc,yd,Value.cells,ye]; rfl) ?_
  refine at_nil ?_
  refine at_push 4 5 rfl rfl (by decide) rfl ?_
  refine at_rsE (by simp only [List.nil_append, List.cons_append, List.set_cons_zero, List.set_cons_succ, List.eraseIdx_cons_zero, List.eraseIdx_cons_succ, Value.cells, List.toList_toArray]; rfl) ?_
  refine norm_block ?_
  refine norm_then ?_
  refine at_region ?_
  refine at_q rfl rfl (by decide) (qt_add rfl rfl rfl (by omega) (by omega)) ?_
  refine at_q rfl rfl (by decide) (qt_move rfl rfl) ?_
  refine at_end ?_
  exact at_againc hL1 ((k + 1, r1, L0 ++ [⟨q, pA, pc⟩])) (⟨show k + 1 ≤ LS.length by omega, by rw [List.map_append, hmp, htk]; rfl⟩) (by simp only; omega) ⟨vi (by omega), rfl, rfl, rfl, rfl, rfl, trivial⟩ (fun _ h => h.upto ⟨rfl, rfl, rfl, by rw [List.map_append]; rfl, (kqsR_push _ _).symm, trivial⟩)
 ·try simp only [za,zb,zc,zd,ze,zf,Bool.not_true,Bool.not_false,zg,zh,ne_eq,zi,zj] at c1
  have hkn : k = ls.length := (by omega)
  have hLL : L0.map (·.l) = ls := (by rw [hmp, hkn, List.take_length])
  have h60 : ∀ e ∈ L0, e.l.length ≤ 1099511627776 := fun e he => (by have := (out_mem hOB (hLL ▸ List.mem_map.2 ⟨e, he, rfl⟩ : e.l ∈ ls)).len; omega)
  subst hkn
  refine at_exit ?_
  refine pass_then (fun h => by cases h) ?_
  refine pass_then (fun h => by cases h) ?_
  refine pass_hit ?_
  refine norm_then ?_
  refine at_seq ?_
  refine at_seq ?_
  refine at_region ?_
  refine at_q rfl rfl (by decide) (qt_loadS rfl rfl tys_impl_Outline rfl (rdAll (k := 2) rfl)) ?_
  refine at_q rfl rfl (by decide) (qt_call ok_impl_ValidOutline rfl rfl (fun w1 hs => hOB ▸ ValidOutline_any rA ls.length rc ls w1 (by have := kq_loops (x := (rA, rc)) (hs.all 3 _ rfl).1 (hs.all 4 _ rfl).1 hlk h60; rw [hLL] at this; exact this) (by omega))) ?_
  refine at_q rfl rfl (by decide) (qt_not rfl rfl) ?_
  refine at_end ?_
  refine at_no rfl (rfl) ?_
  refine at_skip ?_
  refine norm_then ?_
  refine at_seq ?_
  refine at_region ?_
  refine at_q rfl rfl (by decide) (qt_loadS rfl rfl tys_impl_Outline rfl (rdAll (k := 2) rfl)) ?_
  refine at_op rfl ?_
  refine op_storeAll' (k := 0) rfl rfl rfl rfl (rfl) (by rfl) tyz_impl_Outline.szx rfl rfl rfl ?_
  refine at_rsE (by simp only [ya,yb,yc,yd,Value.cells,ye]; rfl) ?_
  refine at_q rfl rfl (by decide) (qt_assign rfl rfl) ?_
  refine at_end ?_
  refine at_retc ?_
  refine at_ret2 rfl (rvCelS (k := 0) rfl tys_impl_Outline rfl rfl) (.tmp rfl) ?_
  intro w' hs
  exact oqp_ok hs (kr := 3) (kp := 4) (x := (rA, rc)) rfl rfl hlk hLL h60
end Go.Proofs.YtjhaakollekjeaaDoor
