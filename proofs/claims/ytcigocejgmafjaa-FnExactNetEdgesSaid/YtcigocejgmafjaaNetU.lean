/- NetEdges: both walks. -/
import Derived.Test.YtcigocejgmafjaaNetT
namespace Go.Proofs.Ytcigocejgmafjaa
open Go Go.RowKit
set_option linter.unusedVariables false
set_option linter.unusedSimpArgs false
set_option maxRecDepth 100000
set_option maxHeartbeats 4000000
set_option linter.unusedVariables false
set_option linter.unusedSimpArgs false

section
variable {w0 : Bs} {Rs : List Res}
theorem rdG {α : Type} {f : α → List Value} {m T B q : Nat} {l : List α} {r : Option Addr × Nat} {j off i : Nat} {a : α} {v : Value} (hf : ∀ a, (f a).length = m) (hr : ∀ w, St w0 Rs w → (rowR B T m q (l.flatMap f) r).P w) (ha : l[j]? = some a) (he : off = j * m + i) (hv : (f a)[i]? = some v) : ∀ w, St w0 Rs w → w.cell? ⟨ablk r.1, off, none⟩ = some v := fun w hs => by
 refine row_cell (hr w hs) ?_
 have hi := (List.getElem?_eq_some_iff.1 hv).1
 obtain ⟨hj, e⟩ := List.getElem?_eq_some_iff.1 ha
 rw [he, flat_at f m hf l j i hj (by rw [hf] at hi; exact hi), e]
 exact hv
theorem rdGS {α : Type} {f : α → List Value} {m T B q : Nat} {l : List α} {r : Option Addr × Nat} {j off : Nat} {a : α} (vs : List Value) (i : Nat) (hf : ∀ a, (f a).length = m) (hr : ∀ w, St w0 Rs w → (rowR B T m q (l.flatMap f) r).P w) (ha : l[j]? = some a) (he : off = j * m + i) (hv : ∀ q v, vs[q]? = some v → (f a)[i + q]? = some v) : ∀ w, St w0 Rs w → ∀ q v, vs[q]? = some v → w.cell? ⟨ablk r.1, off + q, none⟩ = some v := fun w hs q v h =>
 rdG hf hr ha (by omega) (hv q v h) w hs
end
theorem lg_get' {l : List Leg} {j : Nat} (h : j < l.length) : l[j]? = some (lg l j) := by rw [List.getElem?_eq_getElem h, at_l h]
theorem neCells_len (x : Ne) : (neCells x).length = 7 := rfl
abbrev neR (l : List Ne) (x : Option Addr × Nat) : Res := rowR 0 55 7 l.length (l.flatMap neCells) x
theorem rowNil (B T s : Nat) (w : World) : (rowR B T s 0 [] (none, 0)).P w := World.ownsRow_nil _ _ _ _
/-- What both return. -/
def neAll (es : List Leg) : List Ne := (keysG es).map (neP es)
def neL (rs : List Ring_) : List Ne := if isnB rs = true then neAll (edgesAll rs) else []
def neC (rs : List Ring_) : Int := if regionB rs = true then (if isnB rs = true then 0 else 6) else 1
theorem neL_bad {rs : List Ring_} (h : regionB rs = false) : neL rs = [] ∧ neC rs = 1 := by
 simp [neL, neC, isnB, h]
theorem neL_no {rs : List Ring_} (h : regionB rs = true) (h2 : isnB rs = false) : neL rs = [] ∧ neC rs = 6 := by
 simp [neL, neC, h, h2]
theorem neL_yes {rs : List Ring_} (h : regionB rs = true) (h2 : isnB rs = true) : neL rs = neAll (edgesAll rs) ∧ neC rs = 0 := by
 simp [neL, neC, h, h2]
theorem fine_reg {rs : List Ring_} (h : regionB rs = true) : Fine (edgesAll rs) := ⟨regOk h, allTo_ne rs rs.length, fun f => phi_all f rs rs.length⟩
/-- An entry of the reference's list. -/
structure Key (es : List Leg) (p : Leg) : Prop where
 ok : legOk p
 ne : lA p ≠ lB p
 ord : ¬ ltY (lB p) (lA p)
theorem key_of {es : List Leg} (hf : Fine es) {p : Leg} (h : p ∈ keysG es) : Key es p ∧ ∃ e ∈ es, p = nrm e := by
 obtain ⟨x, hx, rfl⟩ := List.mem_map.1 h
 rcases addAll_mem.1 ⟨x, hx, rfl⟩ with ⟨y, hy, _⟩ | ⟨e, he, h⟩
 ·cases hy
 ·exact ⟨⟨by rw [h]; exact nrm_ok (hf.ok e he), by rw [h]; exact nrm_ne (hf.ne e he), by rw [h]; exact nrm_ord e⟩, e, he, h⟩
theorem keys_len {es : List Leg} : (keysG es).length ≤ es.length := by
 have := addAll_len (s := false) es []
 rw [keysG, List.length_map]
 simpa using this
def neK (es : List Leg) (ks : List Leg) (i : Nat) : List Ne := (ks.take i).map (neP es)
theorem neK_step {es ks : List Leg} {i : Nat} (h : i < ks.length) : neK es ks (i + 1) = neK es ks i ++ [neP es (lg ks i)] := by
 rw [neK, List.take_succ_eq_append_getElem h, at_l h]
 simp [neK]
theorem ne_all (es : List Leg) : neK es (keysG es) (keysG es).length = neAll es := by rw [neK, List.take_length]; rfl
theorem row_new {w : World} {Rs : List Res} {w1 : World} {B k T s n : Nat} {xs : List Value} {x : Option Addr × Nat} (hs : St ⟨w, []⟩ Rs w1) (hk : Rs[k]? = some (rowR B T s n xs x)) : (rowR 0 T s n xs x).P w1 ∧ (∀ b, (rowR 0 T s n xs x).F b → w.heap.size ≤ b) ∧ (rowR 0 T s n xs x).B = 0 ∧ True :=
 ⟨row_low (hs.all k _ hk).1 (Nat.zero_le _), fun b hb => ((hs.all k _ hk).2.1 b hb).elim id (fun h => by cases h), rfl, trivial⟩
theorem NetEdges_any (A : Option Addr) (n c : Nat) (rs : List Ring_) (w : World) (h : Rings w A n rs) (ht : (total rs : Int) ≤ 1048577) :
  Calls Try.prog 7 #[regV A n c] w fun e w' => ∃ x : Option Addr × Nat, e = .returned (.tuple #[.slice x.1 (neL rs).length x.2, .int .i64 (neC rs)]) ∧ Over w w' ∧ (neR (neL rs) x).P w' ∧ (∀ b, (neR (neL rs) x).F b → w.heap.size ≤ b) ∧ (neR (neL rs) x).B = 0 ∧ True := by
 have hl := h.1
 have hnil : ∀ w' : World, (neR [] (none, 0)).P w' ∧ (∀ b, (neR [] (none, 0)).F b → w.heap.size ≤ b) ∧ (neR [] (none, 0)).B = 0 ∧ True := fun w' => ⟨rowNil _ _ _ _, fun b hb => by have := rblk_F.1 hb; simp [rblk] at this, rfl, trivial⟩
 refine walk_from (m := 31) (Try.func7) rfl rfl (Nat.le_of_ble_eq_true rfl) ?_
 refine at_seq ?_
 refine at_region ?_
 refine at_op rfl ?_
 refine op_box rfl rfl (rfl) rfl (by decide) (fun b1 => ?_)
 refine at_rsE (by simp only [ya,yb,yc,yd,Value.cells,ye]; rfl) ?_
 refine at_q rfl rfl (by decide) (qt_assign rfl rfl) ?_
 refine at_q rfl rfl (by decide) (qt_assign rfl rfl) ?_
 refine at_end ?_
 refine at_seq ?_
 refine at_seq ?_
 refine at_region ?_
 refine at_q rfl rfl (by decide) (qt_loadS rfl rfl tys_impl_Region rfl (rdAll (k := 0) rfl)) ?_
 refine at_q rfl rfl (by decide) (qt_call ok_impl_ValidRegion rfl rfl (fun w1 hs => ValidRegion_any A n c rs w1 (h.over hs.fin) ht)) ?_
 refine at_q rfl rfl (by decide) (qt_not rfl rfl) ?_
 refine at_end ?_
 refine at_cond rfl (fun c1 => ?_) (fun c1 => ?_)
 ·try simp only [za,zb,zc,zd,ze,zf,Bool.not_true,Bool.not_false,zg,zh,ne_eq,zi,zj] at c1
  refine at_seq ?_
  refine at_region ?_
  refine at_q rfl rfl (by decide) (qt_assign rfl rfl) ?_
  refine at_q rfl rfl (by decide) (qt_assign rfl rfl) ?_
  refine at_end ?_
  refine at_retc ?_
  refine then_ret ?_
  refine at_ret2 rfl (.tmp rfl) (.tmp rfl) ?_
  intro w' hs
  obtain ⟨e1, e2⟩ := neL_bad (by simpa using c1)
  exact ⟨(none, 0), by rw [e1, e2]; rfl, hs.fin, by rw [e1]; exact hnil _⟩
 ·try simp only [za,zb,zc,zd,ze,zf,Bool.not_true,Bool.not_false,zg,zh,ne_eq,zi,zj] at c1
  have hr : regionB rs = true := by simpa using c1
  have hf := fine_reg hr
  have h4 := allLen hr
  refine at_skip ?_
  refine norm_then ?_
  refine at_seq ?_
  refine at_seq ?_
  refine at_region ?_
  refine at_q rfl rfl (by decide) (qt_loadS rfl rfl tys_impl_Region rfl (rdAll (k := 0) rfl)) ?_
  refine at_q rfl rfl (by decide) (qt_call ok_impl_IsSnapped rfl rfl (fun w1 hs => IsSnapped_any A n c rs w1 (h.over hs.fin) ht)) ?_
  refine at_q rfl rfl (by decide) (qt_not rfl rfl) ?_
  refine at_end ?_
  refine at_cond rfl (fun c2 => ?_) (fun c2 => ?_)
  ·try simp only [za,zb,zc,zd,ze,zf,Bool.not_true,Bool.not_false,zg,zh,ne_eq,zi,zj] at c2
   refine at_seq ?_
   refine at_region ?_
   refine at_q rfl rfl (by decide) (qt_assign rfl rfl) ?_
   refine at_q rfl rfl (by decide) (qt_assign rfl rfl) ?_
   refine at_end ?_
   refine at_retc ?_
   refine then_ret ?_
   refine at_ret2 rfl (.tmp rfl) (.tmp rfl) ?_
   intro w' hs
   obtain ⟨e1, e2⟩ := neL_no hr (by simpa using c2)
   exact ⟨(none, 0), by rw [e1, e2]; rfl, hs.fin, by rw [e1]; exact hnil _⟩
  ·try simp only [za,zb,zc,zd,ze,zf,Bool.not_true,Bool.not_false,zg,zh,ne_eq,zi,zj] at c2
   have hi : isnB rs = true := by simpa using c2
   obtain ⟨f1, f2⟩ := neL_yes hr hi
   rw [f1, f2]
   obtain ⟨es, hes⟩ : ∃ es, es = edgesAll rs := ⟨_, rfl⟩
   rw [← hes] at hf h4
   rw [← hes]
   refine at_skip ?_
   refine norm_then ?_
   refine at_seq ?_
   refine at_region ?_
   refine at_q rfl rfl (by decide) (qt_loadS rfl rfl tys_impl_Region rfl (rdAll (k := 0) rfl)) ?_
   refine at_op rfl ?_
   refine op_call ok_impl_edgesOf (v := fun x => .slice x.1 es.length x.2) (r := fun x => rowR 0 61 4 es.length (es.flatMap legCells) x) (H := fun _ => True) rfl rfl rfl (by decide) (fun w1 hs => newRow' (by have := edgesOf_any A n c rs w1 (h.over hs.fin) ht; rw [← hes] at this; exact this)) ?_
   rintro ⟨eA, ec⟩ -
   refine at_rsE (by simp only [ya,yb,yc,yd,Value.cells,ye]; rfl) ?_
   refine at_q rfl rfl (by decide) (qt_assign rfl rfl) ?_
   refine at_end ?_
   refine at_seq ?_
   refine at_region ?_
   refine at_q rfl rfl (by decide) (qt_assign rfl rfl) ?_
   refine at_row0 (T := 55) (s := 7) ?_
   refine at_rsE (by simp only [ya,yb,yc,yd,Value.cells,ye]; rfl) ?_
   refine at_end ?_
   refine at_seq ?_
   refine at_seq ?_
   refine at_region ?_
   refine at_q rfl rfl (by decide) (qt_move rfl rfl) ?_
   refine at_op rfl ?_
   refine op_call ok_impl_pairsOf (v := fun x => .slice x.1 (keysG es).length x.2) (r := fun x => rowR 0 61 4 (keysG es).length ((keysG es).flatMap legCells) x) (H := fun _ => True) rfl rfl rfl (by decide) (fun w1 hs => newRow' (pairsOf_any eA _ ec es w1 (rowLegsB (hs.all 1 _ rfl).1 rfl) hf.ok (by omega))) ?_
   rintro ⟨kA, kc⟩ -
   refine at_rsE (by simp only [ya,yb,yc,yd,Value.cells,ye]; rfl) ?_
   refine at_q rfl rfl (by decide) (qt_len rfl rfl tyl_sl_impl_leg) ?_
   refine at_q rfl rfl (by decide) (qt_move rfl rfl) ?_
   refine at_end ?_
   refine at_block ?_
   refine at_loopc (X := Nat × Option Addr × Nat) (fun x => x.1 ≤ (keysG es).length) (fun x => (keysG es).length - x.1) (fun x => [(5, .slice x.2.1 x.1 x.2.2), (19, .int .i64 (x.1 : Int))]) (C := [(2, _), (3, _), (4, _), (17, _), (18, _)]) ⟨rfl, rfl, rfl, rfl, rfl, trivial⟩ (fun x => [.cel b1 31 [.slice A n c], rowR 0 61 4 es.length (es.flatMap legCells) (eA, ec), rowR (Bs.N ⟨w, []⟩) 55 7 x.1 ((neK es (keysG es) x.1).flatMap neCells) x.2, rowR 0 61 4 (keysG es).length ((keysG es).flatMap legCells) (kA, kc)]) (0, none, 0) (Nat.zero_le _) ⟨rfl, rfl, rfl, rfl, rfl, rfl, rfl, trivial⟩ (fun _ h => h) ?_
   intro ⟨k, rA, rc⟩ hk L hL1
   refine at_envE (by simp only [ya,yb]; rfl) ?_
   refine at_rsE (by first | (dsimp only; done) | (dsimp only; rfl) | rfl) ?_
   have hk : k ≤ (keysG es).length := hk
   have hkl := keys_len (es := es)
   refine at_seq ?_
   refine at_region ?_
   refine at_q rfl rfl (by decide) (qt_lss rfl rfl rfl) ?_
   refine at_end ?_
   refine at_seq ?_
   refine at_cond rfl (fun c3 => ?_) (fun c3 => ?_)
   ·try simp only [za,zb,zc,zd,ze,zf,Bool.not_true,Bool.not_false,zg,zh,ne_eq,zi,zj] at c3
    have hlt : k < (keysG es).length := (by omega)
    obtain ⟨hkey, _⟩ := key_of hf (p := lg (keysG es) k) (by rw [← at_l hlt]; exact List.getElem_mem hlt)
    refine at_skip ?_
    refine norm_then ?_
    refine at_seq ?_
    refine at_block ?_
    refine at_seq ?_
    refine at_region ?_
    refine at_q rfl rfl (by decide) (qt_indexW (j := k) (fun w hs => (hs.all 3 _ rfl).1) rfl rfl rfl tyl_sl_impl_leg hlt) ?_
    refine at_q rfl rfl (by decide) (qt_loadS rfl rfl tys_impl_leg rfl (rdGS [.int .i64 (lg (keysG es) k).ax, .int .i64 (lg (keysG es) k).ay, .int .i64 (lg (keysG es) k).bx, .int .i64 (lg (keysG es) k).b_y] 0 (m := 4) (fun _ => rfl) (fun w hs => (hs.all 3 _ rfl).1) (lg_get' hlt) (by omega) (four_of rfl rfl rfl rfl))) ?_
    refine at_op rfl ?_
    refine op_alloc rfl tyz_impl_leg rfl (by decide) (fun b2 => ?_)
    refine at_rsE (by simp only [ya,yb,yc,yd,Value.cells,ye]; rfl) ?_
    refine at_op rfl ?_
    refine op_storeAll' (k := 4) rfl rfl rfl rfl (rfl) (by rfl) tyz_impl_leg.szx rfl rfl rfl ?_
    refine at_rsE (by simp only [ya,yb,yc,yd,Value.cells,ye]; rfl) ?_
    refine at_end ?_
    refine at_region ?_
    refine at_q rfl rfl (by decide) (qt_move rfl rfl) ?_
    refine at_q rfl rfl (by decide) (qt_move rfl rfl) ?_
    refine at_q rfl rfl (by decide) (qt_loadS rfl rfl tys_impl_leg rfl (rdAll (k := 4) rfl)) ?_
    refine at_q rfl rfl (by decide) (qt_call ok_impl_netEdge rfl rfl (fun w1 hs => netEdge_any eA _ ec es (lg (keysG es) k) w1 (rowLegsB (hs.all 1 _ rfl).1 rfl) hf.ok (by omega) hkey.ok hkey.ne hkey.ord)) ?_
    refine at_op rfl ?_
    refine op_buildSlice rfl rfl (bsl_sl_impl_NetEdge_1_0 rfl) rfl (by decide) (fun b3 => ?_)
    refine at_rsE (by simp only [ya,yb,yc,yd,Value.cells,ye]; rfl) ?_
    refine at_op rfl ?_
    refine op_appendR (k := 2) rfl tyl_sl_impl_NetEdge tyz_impl_NetEdge (by decide) rfl (by decide) rfl rfl rfl (fun w' hs => src_cel hs (k := 5) rfl rfl) (by simp [Value.oneCell']) (by unfold maxLen; omega) (by omega) (Nat.le_refl _) (fun r1 => ?_)
    refine at_rsE (by simp only [ya,yb,yc,yd,Value.cells,ye]; rfl) ?_
    refine at_q rfl rfl (by decide) (qt_assign rfl rfl) ?_
    refine at_nil ?_
    refine norm_block ?_
    refine norm_then ?_
    refine at_region ?_
    refine at_q rfl rfl (by decide) (qt_add rfl rfl rfl (by omega) (by omega)) ?_
    refine at_q rfl rfl (by decide) (qt_move rfl rfl) ?_
    refine at_end ?_
    exact at_againc hL1 ((k + 1, r1)) ((show k + 1 ≤ (keysG es).length by omega)) (by simp only; omega) ⟨rfl, vi (by omega), rfl, rfl, rfl, rfl, rfl, trivial⟩ (fun _ h => h.upto ⟨rfl, rfl, by rw [neK_step hlt, List.flatMap_append]; rfl, rfl, trivial⟩)
   ·try simp only [za,zb,zc,zd,ze,zf,Bool.not_true,Bool.not_false,zg,zh,ne_eq,zi,zj] at c3
    have hke : k = (keysG es).length := (by omega)
    subst hke
    rw [ne_all]
    refine at_exit ?_
    refine pass_then (fun h => by cases h) ?_
    refine pass_then (fun h => by cases h) ?_
    refine pass_hit ?_
    refine norm_then ?_
    refine at_seq ?_
    refine at_region ?_
    refine at_q rfl rfl (by decide) (qt_move rfl rfl) ?_
    refine at_q rfl rfl (by decide) (qt_assign rfl rfl) ?_
    refine at_q rfl rfl (by decide) (qt_assign rfl rfl) ?_
    refine at_end ?_
    refine at_retc ?_
    refine at_ret2 rfl (.tmp rfl) (.tmp rfl) ?_
    intro w' hs
    exact ⟨(rA, rc), by rw [neAll, List.length_map], hs.fin, by have := row_new hs (k := 2) rfl; rw [neR, neAll, List.length_map]; exact this⟩
theorem side_len (l : List Nt) : (sideN l).length = l.length := sid_len l _
theorem side_nt {l : List Nt} {k : Nat} (h : k < l.length) : nt (sideN l) k = sdN l k := by rw [sideN, sid_nt h, if_pos h]
theorem net_ent {rs : List Ring_} (hi : snapAll (edgesAll rs) = true) (hf : Fine (edgesAll rs)) {l : List Nt} (hl : l = addAll false (edgesAll rs) []) {k : Nat} (hk : k < l.length) :
  neP (edgesAll rs) (nt l k).e = ⟨(nt l k).e, (nt l k).one, (sdN l k).l1, (sdN l k).l1 - (nt l k).one⟩ := by
 refine net_entry hf hl hk ?_
 have hm : (nt l k).e ∈ keysG (edgesAll rs) := by rw [keysG, ← hl]; exact List.mem_map.2 ⟨_, nt_mem hk, rfl⟩
 obtain ⟨_, e0, he0, h⟩ := key_of hf hm
 rw [h]
 exact clear_snap hf hi he0
theorem keys_nt {es : List Leg} {l : List Nt} (hl : l = addAll false es []) {k : Nat} (hk : k < l.length) : lg (keysG es) k = (nt l k).e := by
 rw [keysG, ← hl]
 simp [lg, nt, List.getD, hk]
theorem a_nil (t : Bool) : aS t [] = 0 := rfl
theorem l13All_new {es : List Leg} (b1 o1 : Nat) (A : Option Addr) (n c : Nat) (rs : List Ring_) (w : World) (hes : es = edgesAll rs) (hcell : w.cell? ⟨b1, o1, none⟩ = some (.slice A n c)) (hb1 : b1 < w.heap.size) (h : Rings w A n rs) (ht : (total rs : Int) ≤ 1048577) :
  Calls Try.prog 17 #[.pointer (some ⟨b1, o1, none⟩)] w fun e w' => ∃ x : Option Addr × Nat, e = .returned (.slice x.1 es.length x.2) ∧ Over w w' ∧ (rowR 0 51 4 es.length (es.flatMap legCells) x).P w' ∧ (∀ b, (rowR 0 51 4 es.length (es.flatMap legCells) x).F b → w.heap.size ≤ b) ∧ (rowR 0 51 4 es.length (es.flatMap legCells) x).B = 0 ∧ True := by
 subst hes
 exact newRow' ((l13All_any b1 o1 A n c rs w hcell hb1 h ht).mono fun e w' ⟨v, h1, _, h2, h3⟩ => ⟨v, h1, h2, h3⟩)
theorem specNetEdges_any (A : Option Addr) (n c : Nat) (rs : List Ring_) (w : World) (h : Rings w A n rs) (ht : (total rs : Int) ≤ 1048577) :
  Calls Try.prog 5 #[regV A n c] w fun e w' => ∃ x : Option Addr × Nat, e = .returned (.tuple #[.slice x.1 (neL rs).length x.2, .int .i64 (neC rs)]) ∧ Over w w' ∧ (neR (neL rs) x).P w' ∧ (∀ b, (neR (neL rs) x).F b → w.heap.size ≤ b) ∧ (neR (neL rs) x).B = 0 ∧ True := by
 have hl := h.1
 have hnil : ∀ w' : World, (neR [] (none, 0)).P w' ∧ (∀ b, (neR [] (none, 0)).F b → w.heap.size ≤ b) ∧ (neR [] (none, 0)).B = 0 ∧ True := fun w' => ⟨rowNil _ _ _ _, fun b hb => by have := rblk_F.1 hb; simp [rblk] at this, rfl, trivial⟩
 refine walk_from (m := 59) (Try.func5) rfl rfl (Nat.le_of_ble_eq_true rfl) ?_
 refine at_seq ?_
 refine at_region ?_
 refine at_op rfl ?_
 refine op_box rfl rfl (rfl) rfl (by decide) (fun b1 => ?_)
 refine at_rsE (by simp only [ya,yb,yc,yd,Value.cells,ye]; rfl) ?_
 refine at_q rfl rfl (by decide) (qt_assign rfl rfl) ?_
 refine at_q rfl rfl (by decide) (qt_assign rfl rfl) ?_
 refine at_end ?_
 refine at_seq ?_
 refine at_seq ?_
 refine at_region ?_
 refine at_q rfl rfl (by decide) (qt_call ok_spec_l13Ok rfl rfl (fun w1 hs => l13Ok_any _ _ A n c rs w1 (rd1 (k := 0) rfl rfl w1 hs) (lt_of_some (hs.cel (k := 0) rfl)) (h.over hs.fin) ht)) ?_
 refine at_q rfl rfl (by decide) (qt_not rfl rfl) ?_
 refine at_end ?_
 refine at_cond rfl (fun c1 => ?_) (fun c1 => ?_)
 ·try simp only [za,zb,zc,zd,ze,zf,Bool.not_true,Bool.not_false,zg,zh,ne_eq,zi,zj] at c1
  refine at_seq ?_
  refine at_region ?_
  refine at_q rfl rfl (by decide) (qt_assign rfl rfl) ?_
  refine at_q rfl rfl (by decide) (qt_assign rfl rfl) ?_
  refine at_end ?_
  refine at_retc ?_
  refine then_ret ?_
  refine at_ret2 rfl (.tmp rfl) (.tmp rfl) ?_
  intro w' hs
  obtain ⟨e1, e2⟩ := neL_bad (by simpa using c1)
  exact ⟨(none, 0), by rw [e1, e2]; rfl, hs.fin, by rw [e1]; exact hnil _⟩
 ·try simp only [za,zb,zc,zd,ze,zf,Bool.not_true,Bool.not_false,zg,zh,ne_eq,zi,zj] at c1
  have hr : regionB rs = true := by simpa using c1
  have hf := fine_reg hr
  have h4 : (edgesAll rs).length ≤ 400 := (by simp [regionB] at hr; omega)
  refine at_skip ?_
  refine norm_then ?_
  refine at_seq ?_
  refine at_seq ?_
  refine at_region ?_
  refine at_q rfl rfl (by decide) (qt_loadS rfl rfl tys_impl_Region rfl (rdAll (k := 0) rfl)) ?_
  refine at_q rfl rfl (by decide) (qt_call ok_spec_IsSnapped rfl rfl (fun w1 hs => specIsSnapped_any A n c rs w1 (h.over hs.fin) ht)) ?_
  refine at_q rfl rfl (by decide) (qt_not rfl rfl) ?_
  refine at_end ?_
  refine at_cond rfl (fun c2 => ?_) (fun c2 => ?_)
  ·try simp only [za,zb,zc,zd,ze,zf,Bool.not_true,Bool.not_false,zg,zh,ne_eq,zi,zj] at c2
   refine at_seq ?_
   refine at_region ?_
   refine at_q rfl rfl (by decide) (qt_assign rfl rfl) ?_
   refine at_q rfl rfl (by decide) (qt_assign rfl rfl) ?_
   refine at_end ?_
   refine at_retc ?_
   refine then_ret ?_
   refine at_ret2 rfl (.tmp rfl) (.tmp rfl) ?_
   intro w' hs
   obtain ⟨e1, e2⟩ := neL_no hr (by simpa using c2)
   exact ⟨(none, 0), by rw [e1, e2]; rfl, hs.fin, by rw [e1]; exact hnil _⟩
  ·try simp only [za,zb,zc,zd,ze,zf,Bool.not_true,Bool.not_false,zg,zh,ne_eq,zi,zj] at c2
   have hi : isnB rs = true := by simpa using c2
   have hsn : snapAll (edgesAll rs) = true := (by have := hi; rw [isnB, hr] at this; exact this)
   obtain ⟨f1, f2⟩ := neL_yes hr hi
   rw [f1, f2]
   obtain ⟨NL, hNL⟩ : ∃ NL, NL = addAll false (edgesAll rs) [] := ⟨_, rfl⟩
   have hent := fun k (hk : k < NL.length) => net_ent hsn hf hNL hk
   have hkey := fun k (hk : k < NL.length) => keys_nt hNL hk
   have hkl : (keysG (edgesAll rs)).length = NL.length := (by rw [keysG, List.length_map, hNL])
   have hNl : NL.length ≤ 400 := (by have := keys_len (es := edgesAll rs); omega)
   have hNa : ∀ t, aS t NL ≤ 16384 := (fun t => by have := addAll_a (s := false) (t := t) (edgesAll rs) []; rw [← hNL, a_nil] at this; split at this <;> omega)
   have hNo : ∀ y ∈ NL, legOk y.e := (fun y hy => (key_of hf (p := y.e) (by rw [keysG, ← hNL]; exact List.mem_map.2 ⟨_, hy, rfl⟩)).1.ok)
   obtain ⟨es, hes⟩ : ∃ es, es = edgesAll rs := ⟨_, rfl⟩
   rw [← hes] at hf h4 hNL hent hkl hkey
   rw [← hes]
   refine at_skip ?_
   refine norm_then ?_
   refine at_seq ?_
   refine at_row0 (T := 53) (s := 8) ?_
   refine at_rsE (by simp only [List.nil_append, List.cons_append, List.set_cons_zero, List.set_cons_succ, List.eraseIdx_cons_zero, List.eraseIdx_cons_succ, Value.cells, List.toList_toArray]; rfl) ?_
   refine at_region ?_
   refine at_op rfl ?_
   refine op_call ok_spec_l13All (v := fun x => .slice x.1 es.length x.2) (r := fun x => rowR 0 51 4 es.length (es.flatMap legCells) x) (H := fun _ => True) rfl rfl rfl (by decide) (fun w1 hs => l13All_new _ _ A n c rs w1 hes (rd1 (k := 0) rfl rfl w1 hs) (lt_of_some (hs.cel (k := 0) rfl)) (h.over hs.fin) ht) ?_
   rintro ⟨eA, ec⟩ -
   refine at_rsE (by simp only [ya,yb,yc,yd,Value.cells,ye]; rfl) ?_
   refine at_op rfl ?_
   refine op_callP (k := 1) (X := Option Addr × Nat) (v := fun y => .slice y.1 NL.length y.2) (r' := fun y => ntR NL y) ok_spec_l14Add rfl rfl rfl (by decide) rfl (fun w1 hs => hNL ▸ l14Add_any eA _ ec es false [] (none, 0) w1 (rowLegsB (hs.all 2 _ rfl).1 rfl) hf.ok (by omega) (by simp) (fun t => by rw [a_nil]; omega) (rowNil _ _ _ _) (fun _ p _ => by simp [rblk])) ?_
   rintro ⟨lA, lc⟩
   refine at_rsE (by simp only [ya,yb,yc,yd,Value.cells,ye]; rfl) ?_
   refine at_q rfl rfl (by decide) (qt_assign rfl rfl) ?_
   refine at_end ?_
   refine at_seq ?_
   refine at_region ?_
   refine at_q rfl rfl (by decide) (qt_move rfl rfl) ?_
   refine at_op rfl ?_
   refine op_callw (k := 1) (r' := rowR 0 53 8 NL.length ((sideN NL).flatMap ntCells) (lA, lc)) ok_spec_l14Sides rfl rfl rfl (by decide) rfl (fun w1 hs => l14Sides_any NL (lA, lc) w1 (hs.all 1 _ rfl).1 hNo (by omega) hNa) (fun _ h => h) rfl ?_
   refine at_rsE (by simp only [ya,yb,yc,yd,Value.cells,ye]; rfl) ?_
   refine at_end ?_
   refine at_seq ?_
   refine at_region ?_
   refine at_op rfl ?_
   refine op_buildSlice rfl rfl (bsl_sl_impl_NetEdge_0) rfl (by decide) (fun b2 => ?_)
   refine at_rowN 3 7 rfl rfl ?_
   refine at_rsE (by simp only [ya,yb,yc,yd,Value.cells,ye]; rfl) ?_
   refine at_q rfl rfl (by decide) (qt_assign rfl rfl) ?_
   refine at_end ?_
   refine at_seq ?_
   refine at_seq ?_
   refine at_region ?_
   refine at_q rfl rfl (by decide) (qt_assign rfl rfl) ?_
   refine at_end ?_
   refine at_block ?_
   refine at_loopc (X := Nat × Option Addr × Nat) (fun x => x.1 ≤ NL.length) (fun x => NL.length - x.1) (fun x => [(5, .slice x.2.1 x.1 x.2.2), (6, .int .i64 (x.1 : Int))]) (C := [(2, _), (3, _), (4, _)]) ⟨rfl, rfl, rfl, trivial⟩ (fun x => [.cel b1 31 [.slice A n c], rowR 0 53 8 NL.length ((sideN NL).flatMap ntCells) (lA, lc), rowR 0 51 4 es.length (es.flatMap legCells) (eA, ec), rowR (Bs.N ⟨w, []⟩) 55 7 x.1 ((neK es (keysG es) x.1).flatMap neCells) x.2]) (0, some ⟨b2, 0, none⟩, 0) (Nat.zero_le _) ⟨rfl, rfl, rfl, rfl, rfl, trivial⟩ (fun _ h => h) ?_
   intro ⟨k, rA, rc⟩ hk L hL1
   refine at_envE (by simp only [ya,yb]; rfl) ?_
   refine at_rsE (by first | (dsimp only; done) | (dsimp only; rfl) | rfl) ?_
   have hk : k ≤ NL.length := hk
   refine at_seq ?_
   refine at_seq ?_
   refine at_region ?_
   refine at_q rfl rfl (by decide) (qt_move rfl rfl) ?_
   refine at_q rfl rfl (by decide) (qt_move rfl rfl) ?_
   refine at_q rfl rfl (by decide) (qt_len rfl rfl tyl_sl_spec_l14Net) ?_
   refine at_q rfl rfl (by decide) (qt_lss rfl rfl rfl) ?_
   refine at_end ?_
   refine at_cond rfl (fun c3 => ?_) (fun c3 => ?_)
   ·try simp only [za,zb,zc,zd,ze,zf,Bool.not_true,Bool.not_false,zg,zh,ne_eq,zi,zj] at c3
    have hlt : k < NL.length := (by omega)
    have hlS : k < (sideN NL).length := (by rw [side_len]; exact hlt)
    have hnt := side_nt hlt
    have hb := besTo_bd (s := false) (k := k) (Nat.le_refl NL.length)
    have hc := cnt_bd (s := false) hlt
    have ha := hNa false
    simp only [cntN, Bool.false_eq_true, if_false] at hc
    have e1 : (sdN NL k).l1 = besTo false NL k NL.length + (nt NL k).one := rfl
    obtain ⟨u, hu⟩ : ∃ u, u = (sdN NL k).l1 := ⟨_, rfl⟩
    have hub : -40000 ≤ u ∧ u ≤ 40000 := (by rw [hu, e1]; omega)
    refine at_skip ?_
    refine norm_then ?_
    refine at_seq ?_
    refine at_block ?_
    refine at_seq ?_
    refine at_region ?_
    refine at_q rfl rfl (by decide) (qt_move rfl rfl) ?_
    refine at_q rfl rfl (by decide) (qt_move rfl rfl) ?_
    refine at_q rfl rfl (by decide) (qt_indexW (j := k) (fun w hs => (hs.all 1 _ rfl).1) rfl rfl rfl tyl_sl_spec_l14Net hlt) ?_
    refine at_q rfl rfl (by decide) (qt_assign rfl rfl) ?_
    refine at_end ?_
    refine dg_start mixed rfl ?_
    refine dg_phase 30 ?_
    refine dg_q (i := 0) rfl (by kernel_rfl) (by kernel_rfl) (by kernel_rfl) [] (by kernel_rfl) (fun _ _ _ h => h) rfl rfl (by decide) (fun _ h => h.upto ⟨rfl, rfl, rfl, rfl, trivial⟩) (qt_move rfl rfl) ?_
    refine dg_q (i := 1) rfl (by kernel_rfl) (by kernel_rfl) (by kernel_rfl) [2, 3, 4, 5, 28, 29] (by kernel_rfl) (fun _ _ _ h => h) rfl rfl (by decide) (fun _ h => h.upto ⟨rfl, rfl, rfl, rfl, trivial⟩) (qt_move rfl rfl) ?_
    refine dg_q (i := 2) rfl (by kernel_rfl) (by kernel_rfl) (by kernel_rfl) [3, 4, 5, 28, 29] (by kernel_rfl) (fun _ _ _ h => h) rfl rfl (by decide) (fun _ h => h.upto ⟨rfl, rfl, rfl, rfl, trivial⟩) (qt_nilCheck rfl rfl) ?_
    refine dg_q (i := 3) rfl (by kernel_rfl) (by kernel_rfl) (by kernel_rfl) [4, 5, 28, 29] (by kernel_rfl) (fun _ _ _ h => h) rfl rfl (by decide) (fun _ h => h.upto ⟨rfl, rfl, rfl, rfl, trivial⟩) (qt_fieldAddr rfl rfl tyf_spec_l14Net_0) ?_
    refine dg_q (i := 4) rfl (by kernel_rfl) (by kernel_rfl) (by kernel_rfl) [5, 28, 29] (by kernel_rfl) (fun _ _ _ h => h) rfl rfl (by decide) (fun _ h => h.upto ⟨rfl, rfl, rfl, rfl, trivial⟩) (qt_fieldAddr rfl rfl tyf_spec_l13Edge_0) ?_
    refine dg_q (i := 5) rfl (by kernel_rfl) (by kernel_rfl) (by kernel_rfl) [28, 29] (by kernel_rfl) (fun _ _ _ h => h) rfl rfl (by decide) (fun _ h => h.upto ⟨rfl, rfl, rfl, rfl, trivial⟩) (qt_loadS rfl rfl tys_impl_Pt rfl (rdNtS [.int .i64 (nt NL k).e.ax, .int .i64 (nt NL k).e.ay] 0 (fun w hs => (hs.all 1 _ rfl).1) hlS (by omega) (by rw [hnt]; exact two_of rfl rfl))) ?_
    refine dg_q (i := 6) rfl (by kernel_rfl) (by kernel_rfl) (by kernel_rfl) [7, 8, 9, 10, 28, 29] (by kernel_rfl) (fun _ _ _ h => h) rfl rfl (by decide) (fun _ h => h.upto ⟨rfl, rfl, rfl, rfl, trivial⟩) (qt_move rfl rfl) ?_
    refine dg_q (i := 7) rfl (by kernel_rfl) (by kernel_rfl) (by kernel_rfl) [8, 9, 10, 28, 29] (by kernel_rfl) (fun _ _ _ h => h) rfl rfl (by decide) (fun _ h => h.upto ⟨rfl, rfl, rfl, rfl, trivial⟩) (qt_nilCheck rfl rfl) ?_
    refine dg_q (i := 8) rfl (by kernel_rfl) (by kernel_rfl) (by kernel_rfl) [9, 10, 28, 29] (by kernel_rfl) (fun _ _ _ h => h) rfl rfl (by decide) (fun _ h => h.upto ⟨rfl, rfl, rfl, rfl, trivial⟩) (qt_fieldAddr rfl rfl tyf_spec_l14Net_0) ?_
    refine dg_q (i := 9) rfl (by kernel_rfl) (by kernel_rfl) (by kernel_rfl) [10, 28, 29] (by kernel_rfl) (fun _ _ _ h => h) rfl rfl (by decide) (fun _ h => h.upto ⟨rfl, rfl, rfl, rfl, trivial⟩) (qt_fieldAddr rfl rfl tyf_spec_l13Edge_1) ?_
    refine dg_q (i := 10) rfl (by kernel_rfl) (by kernel_rfl) (by kernel_rfl) [28, 29] (by kernel_rfl) (fun _ _ _ h => h) rfl rfl (by decide) (fun _ h => h.upto ⟨rfl, rfl, rfl, rfl, trivial⟩) (qt_loadS rfl rfl tys_impl_Pt rfl (rdNtS [.int .i64 (nt NL k).e.bx, .int .i64 (nt NL k).e.b_y] 2 (fun w hs => (hs.all 1 _ rfl).1) hlS (by omega) (by rw [hnt]; exact two_of rfl rfl))) ?_
    refine dg_q (i := 11) rfl (by kernel_rfl) (by kernel_rfl) (by kernel_rfl) [12, 13, 14, 28, 29] (by kernel_rfl) (fun _ _ _ h => h) rfl rfl (by decide) (fun _ h => h.upto ⟨rfl, rfl, rfl, rfl, trivial⟩) (qt_move rfl rfl) ?_
    refine dg_q (i := 12) rfl (by kernel_rfl) (by kernel_rfl) (by kernel_rfl) [13, 14, 28, 29] (by kernel_rfl) (fun _ _ _ h => h) rfl rfl (by decide) (fun _ h => h.upto ⟨rfl, rfl, rfl, rfl, trivial⟩) (qt_nilCheck rfl rfl) ?_
    refine dg_q (i := 13) rfl (by kernel_rfl) (by kernel_rfl) (by kernel_rfl) [14, 28, 29] (by kernel_rfl) (fun _ _ _ h => h) rfl rfl (by decide) (fun _ h => h.upto ⟨rfl, rfl, rfl, rfl, trivial⟩) (qt_fieldAddr rfl rfl tyf_spec_l14Net_1) ?_
    refine dg_q (i := 14) rfl (by kernel_rfl) (by kernel_rfl) (by kernel_rfl) [28, 29] (by kernel_rfl) (fun _ _ _ h => h) rfl rfl (by decide) (fun _ h => h.upto ⟨rfl, rfl, rfl, rfl, trivial⟩) (qt_load1 rfl rfl ty1_int64 (rdNt (i := 4) (v := .int .i64 (nt NL k).one) (fun w hs => (hs.all 1 _ rfl).1) hlS (by omega) (by rw [hnt]; rfl))) ?_
    refine dg_q (i := 15) rfl (by kernel_rfl) (by kernel_rfl) (by kernel_rfl) [16, 17, 18, 28, 29] (by kernel_rfl) (fun _ _ _ h => h) rfl rfl (by decide) (fun _ h => h.upto ⟨rfl, rfl, rfl, rfl, trivial⟩) (qt_move rfl rfl) ?_
    refine dg_q (i := 16) rfl (by kernel_rfl) (by kernel_rfl) (by kernel_rfl) [17, 18, 28, 29] (by kernel_rfl) (fun _ _ _ h => h) rfl rfl (by decide) (fun _ h => h.upto ⟨rfl, rfl, rfl, rfl, trivial⟩) (qt_nilCheck rfl rfl) ?_
    refine dg_q (i := 17) rfl (by kernel_rfl) (by kernel_rfl) (by kernel_rfl) [18, 28, 29] (by kernel_rfl) (fun _ _ _ h => h) rfl rfl (by decide) (fun _ h => h.upto ⟨rfl, rfl, rfl, rfl, trivial⟩) (qt_fieldAddr rfl rfl tyf_spec_l14Net_3) ?_
    refine dg_q (i := 18) rfl (by kernel_rfl) (by kernel_rfl) (by kernel_rfl) [28, 29] (by kernel_rfl) (fun _ _ _ h => h) rfl rfl (by decide) (fun _ h => h.upto ⟨rfl, rfl, rfl, rfl, trivial⟩) (qt_load1 rfl rfl ty1_int64 (rdNt (i := 6) (v := .int .i64 u) (fun w hs => (hs.all 1 _ rfl).1) hlS (by omega) (by rw [hnt, hu]; rfl))) ?_
    refine dg_q (i := 19) rfl (by kernel_rfl) (by kernel_rfl) (by kernel_rfl) [20, 21, 22, 27, 28, 29] (by kernel_rfl) (fun _ _ _ h => h) rfl rfl (by decide) (fun _ h => h.upto ⟨rfl, rfl, rfl, rfl, trivial⟩) (qt_move rfl rfl) ?_
    refine dg_q (i := 20) rfl (by kernel_rfl) (by kernel_rfl) (by kernel_rfl) [21, 22, 27, 28, 29] (by kernel_rfl) (fun _ _ _ h => h) rfl rfl (by decide) (fun _ h => h.upto ⟨rfl, rfl, rfl, rfl, trivial⟩) (qt_nilCheck rfl rfl) ?_
    refine dg_q (i := 21) rfl (by kernel_rfl) (by kernel_rfl) (by kernel_rfl) [22, 27, 28, 29] (by kernel_rfl) (fun _ _ _ h => h) rfl rfl (by decide) (fun _ h => h.upto ⟨rfl, rfl, rfl, rfl, trivial⟩) (qt_fieldAddr rfl rfl tyf_spec_l14Net_3) ?_
    refine dg_q (i := 22) rfl (by kernel_rfl) (by kernel_rfl) (by kernel_rfl) [27, 28, 29] (by kernel_rfl) (fun _ _ _ h => h) rfl rfl (by decide) (fun _ h => h.upto ⟨rfl, rfl, rfl, rfl, trivial⟩) (qt_load1 rfl rfl ty1_int64 (rdNt (i := 6) (v := .int .i64 u) (fun w hs => (hs.all 1 _ rfl).1) hlS (by omega) (by rw [hnt, hu]; rfl))) ?_
    refine dg_q (i := 23) rfl (by kernel_rfl) (by kernel_rfl) (by kernel_rfl) [24, 25, 26, 27, 28, 29] (by kernel_rfl) (fun _ _ _ h => h) rfl rfl (by decide) (fun _ h => h.upto ⟨rfl, rfl, rfl, rfl, trivial⟩) (qt_move rfl rfl) ?_
    refine dg_q (i := 24) rfl (by kernel_rfl) (by kernel_rfl) (by kernel_rfl) [25, 26, 27, 28, 29] (by kernel_rfl) (fun _ _ _ h => h) rfl rfl (by decide) (fun _ h => h.upto ⟨rfl, rfl, rfl, rfl, trivial⟩) (qt_nilCheck rfl rfl) ?_
    refine dg_q (i := 25) rfl (by kernel_rfl) (by kernel_rfl) (by kernel_rfl) [26, 27, 28, 29] (by kernel_rfl) (fun _ _ _ h => h) rfl rfl (by decide) (fun _ h => h.upto ⟨rfl, rfl, rfl, rfl, trivial⟩) (qt_fieldAddr rfl rfl tyf_spec_l14Net_1) ?_
    refine dg_q (i := 26) rfl (by kernel_rfl) (by kernel_rfl) (by kernel_rfl) [27, 28, 29] (by kernel_rfl) (fun _ _ _ h => h) rfl rfl (by decide) (fun _ h => h.upto ⟨rfl, rfl, rfl, rfl, trivial⟩) (qt_load1 rfl rfl ty1_int64 (rdNt (i := 4) (v := .int .i64 (nt NL k).one) (fun w hs => (hs.all 1 _ rfl).1) hlS (by omega) (by rw [hnt]; rfl))) ?_
    refine dg_q (i := 27) rfl (by kernel_rfl) (by kernel_rfl) (by kernel_rfl) [28, 29] (by kernel_rfl) (fun _ _ _ h => h) rfl rfl (by decide) (fun _ h => h.upto ⟨rfl, rfl, rfl, rfl, trivial⟩) (qt_sub rfl rfl rfl (by omega) (by omega)) ?_
    refine dg_q (i := 28) rfl (by kernel_rfl) (by kernel_rfl) (by kernel_rfl) [29] (by kernel_rfl) (fun _ _ _ h => h) rfl rfl (by decide) (fun _ h => h.upto ⟨rfl, rfl, rfl, rfl, trivial⟩) (qt_build rfl rfl (bld_impl_NetEdge_0_1_2_3_4 rfl rfl rfl rfl rfl)) ?_
    refine dg_one (i := 29) rfl (by decide) (by kernel_rfl) rfl ?_
    refine op_buildSlice rfl rfl (bsl_sl_impl_NetEdge_1_0 rfl) rfl (by decide) (fun b3 => ?_)
    refine at_rsE (by simp only [ya,yb,yc,yd,Value.cells,ye]; rfl) ?_
    refine dr_keep (fun _ h => h.upto ⟨rfl, rfl, rfl, rfl, trivial⟩) ?_
    refine dg_bar rfl (by kernel_rfl) rfl ?_
    refine op_appendR (k := 3) rfl tyl_sl_impl_NetEdge tyz_impl_NetEdge (by decide) rfl (by decide) rfl rfl rfl (fun w' hs => src_cel hs (k := 4) rfl rfl) (by simp [Value.oneCell']) (by unfold maxLen; omega) (by omega) (Nat.le_refl _) (fun r1 => ?_)
    refine at_rsE (by simp only [ya,yb,yc,yd,Value.cells,ye]; rfl) ?_
    refine dg_phase 32 ?_
    refine dg_q (i := 31) rfl (by kernel_rfl) (by kernel_rfl) (by kernel_rfl) [] (by kernel_rfl) (fun _ _ _ h => h) rfl rfl (by decide) (fun _ h => h.upto ⟨rfl, rfl, rfl, rfl, rfl, trivial⟩) (qt_assign rfl rfl) ?_
    refine dg_done (by kernel_rfl) ?_
    refine norm_block ?_
    refine norm_then ?_
    refine at_region ?_
    refine at_q rfl rfl (by decide) (qt_move rfl rfl) ?_
    refine at_q rfl rfl (by decide) (qt_add rfl rfl rfl (by omega) (by omega)) ?_
    refine at_q rfl rfl (by decide) (qt_assign rfl rfl) ?_
    refine at_end ?_
    exact at_againc hL1 ((k + 1, r1)) ((show k + 1 ≤ NL.length by omega)) (by simp only; omega) ⟨rfl, vi (by omega), rfl, rfl, rfl, trivial⟩ (fun _ h => h.upto ⟨rfl, rfl, rfl, by rw [neK_step (by omega), hkey k hlt, hent k hlt, ← hu, List.flatMap_append]; rfl, trivial⟩)
   ·try simp only [za,zb,zc,zd,ze,zf,Bool.not_true,Bool.not_false,zg,zh,ne_eq,zi,zj] at c3
    have hke : k = NL.length := (by omega)
    subst hke
    refine at_exit ?_
    refine pass_then (fun h => by cases h) ?_
    refine pass_then (fun h => by cases h) ?_
    refine pass_hit ?_
    refine norm_then ?_
    refine at_seq ?_
    refine at_region ?_
    refine at_q rfl rfl (by decide) (qt_move rfl rfl) ?_
    refine at_q rfl rfl (by decide) (qt_assign rfl rfl) ?_
    refine at_q rfl rfl (by decide) (qt_assign rfl rfl) ?_
    refine at_end ?_
    refine at_retc ?_
    refine at_ret2 rfl (.tmp rfl) (.tmp rfl) ?_
    intro w' hs
    exact ⟨(rA, rc), by rw [neAll, List.length_map, hkl], hs.fin, by have := row_new hs (k := 3) rfl; rw [← hkl, ne_all] at this; rw [neR, neAll, List.length_map]; exact this⟩
end Go.Proofs.Ytcigocejgmafjaa
