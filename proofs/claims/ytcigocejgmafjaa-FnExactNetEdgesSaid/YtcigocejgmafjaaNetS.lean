/- Net edges: the reference's walk. -/
import Derived.Test.YtcigocejgmafjaaRowKit
import Derived.Test.YtcigocejgmafjaaNetI
namespace Go.Proofs.Ytcigocejgmafjaa
open Go Go.RowKit
set_option linter.unusedVariables false
set_option linter.unusedSimpArgs false
set_option maxRecDepth 100000
set_option maxHeartbeats 4000000
set_option linter.unusedVariables false
set_option linter.unusedSimpArgs false

theorem Legs.ovx {w w' : World} {X : List Nat} {A : Option Addr} {n : Nat} {ls : List Leg} (h : Legs w A n ls) (ho : Ovx ⟨w, X⟩ w') (hne : 0 < n → ∀ p, A = some p → p.block ∉ X) : Legs w' A n ls := by
 refine ⟨h.1, fun hn => ?_⟩
 obtain ⟨b, o, rfl, hlt, hc⟩ := h.2 hn
 have hs : w.heap.size ≤ w'.heap.size := ho.size
 have hb : w'.heap[b]? = w.heap[b]? := ho.block b hlt (hne hn _ rfl)
 have hcell : ∀ o', w'.cell? ⟨b, o', none⟩ = w.cell? ⟨b, o', none⟩ := fun o' => by simp only [World.cell?, hb]
 exact ⟨b, o, rfl, by omega, fun k hk => by rw [hcell, hcell, hcell, hcell]; exact hc k hk⟩
/-- The block of a row. -/
def rblk (x : Option Addr × Nat) : List Nat := match x.1 with
 | some p => [p.block]
 | none => []
theorem rblk_F {B T s n : Nat} {xs : List Value} {x : Option Addr × Nat} {b : Nat} : (rowR B T s n xs x).F b ↔ b ∈ rblk x := by
 show Value.ownBlock (.slice x.1 n x.2) = some b ↔ _
 unfold rblk
 cases hx : x.1 with
 | none => simp [Value.ownBlock]
 | some p =>
  simp only [Value.ownBlock, List.mem_singleton]
  constructor
  ·intro h; injection h with h; exact h.symm
  ·intro h; rw [h]
theorem rowOver {w w' : World} {B T s n : Nat} {xs : List Value} {x : Option Addr × Nat} (h : (rowR B T s n xs x).P w) (hO : Over w w') : (rowR B T s n xs x).P w' :=
 (rowR B T s n xs x).dep w w' h hO.size fun b hb _ => hO.out.block b hb

abbrev ntR (l : List Nt) (x : Option Addr × Nat) : Res := rowR 0 53 8 l.length (l.flatMap ntCells) x
section
variable {P : Program} {n : Nat} {env : List (Nat × Value)} {w0 : Bs} {Rs : List Res} {o : Oper} {Q : Exit → Act → World → Prop} {K : Act → World → Prop}
theorem qt_indexW {T U : TypeId} {x y : Operand} {B m j s : Nat} {xs : List Value} {r : Option Addr × Nat} (hr : ∀ w, St w0 Rs w → (rowR B U s m xs r).P w) (ho : o.op = .indexAddr T x y) (hx : ev env x = some (.slice r.1 m r.2)) (hy : ev env y = some (.int .i64 (j : Int))) (hT : TyL P T U s) (hj : j < m) :
  Qt P o n env w0 Rs (.pointer (some ⟨ablk r.1, 0 + j * s, none⟩)) := fun a w hf hs => by
 have e := row_adr (hr w hs) (by omega)
 rw [e] at hx
 exact qt_index (j := j) ho hx hy hT hj a w hf hs
theorem nt_get {l : List Nt} {j : Nat} (h : j < l.length) : l[j]? = some (nt l j) := by rw [List.getElem?_eq_getElem h, at_nt h]
theorem ntCells_len (x : Nt) : (ntCells x).length = 8 := rfl
theorem rdNt {m : Nat} {l : List Nt} {r : Option Addr × Nat} {j off i : Nat} {v : Value} (hr : ∀ w, St w0 Rs w → (rowR 0 53 8 m (l.flatMap ntCells) r).P w) (hj : j < l.length) (he : off = j * 8 + i) (hv : (ntCells (nt l j))[i]? = some v) : ∀ w, St w0 Rs w → w.cell? ⟨ablk r.1, off, none⟩ = some v := fun w hs => by
 refine row_cell (hr w hs) ?_
 have hi := (List.getElem?_eq_some_iff.1 hv).1
 rw [ntCells_len] at hi
 rw [he, flat_at ntCells 8 ntCells_len l j i hj hi, at_nt hj]
 exact hv
theorem rdNtS {m : Nat} {l : List Nt} {r : Option Addr × Nat} {j off : Nat} (vs : List Value) (i : Nat) (hr : ∀ w, St w0 Rs w → (rowR 0 53 8 m (l.flatMap ntCells) r).P w) (hj : j < l.length) (he : off = j * 8 + i) (hv : ∀ q v, vs[q]? = some v → (ntCells (nt l j))[i + q]? = some v) : ∀ w, St w0 Rs w → ∀ q v, vs[q]? = some v → w.cell? ⟨ablk r.1, off + q, none⟩ = some v := fun w hs q v h =>
 rdNt hr hj (by omega) (hv q v h) w hs
end
theorem two_of {a b : Value} {cs : List Value} {i : Nat} (h0 : cs[i]? = some a) (h1 : cs[i + 1]? = some b) : ∀ q v, [a, b][q]? = some v → cs[i + q]? = some v := fun q v h => by
 match q, h with
 | 0, h => simp at h; subst h; exact h0
 | 1, h => simp at h; subst h; exact h1
theorem four_of {a b c d : Value} {cs : List Value} {i : Nat} (h0 : cs[i]? = some a) (h1 : cs[i + 1]? = some b) (h2 : cs[i + 2]? = some c) (h3 : cs[i + 3]? = some d) : ∀ q v, [a, b, c, d][q]? = some v → cs[i + q]? = some v := fun q v h => by
 match q, h with
 | 0, h => simp at h; subst h; exact h0
 | 1, h => simp at h; subst h; exact h1
 | 2, h => simp at h; subst h; exact h2
 | 3, h => simp at h; subst h; exact h3
theorem sm_le {α : Type} {f : α → Int} (h : ∀ x, 0 ≤ f x) : ∀ {l : List α} {x : α}, x ∈ l → f x ≤ sm f l
 | y :: l, x, hx => by
  have h1 := h y
  have h2 := sm_nn h l
  simp only [sm]
  rcases List.mem_cons.1 hx with rfl | hx
  ·omega
  ·have := sm_le h hx; omega
theorem cnt_bd {s : Bool} {l : List Nt} {k : Nat} (h : k < l.length) : -aS s l ≤ cntN s (nt l k) ∧ cntN s (nt l k) ≤ aS s l := by
 have h1 := sm_le (f := fun x => iabs (cntN s x)) (fun x => iabs_nn _) (nt_mem h)
 have h2 := iabs_bd (cntN s (nt l k))
 unfold aS
 omega
theorem addAll_succ {s : Bool} {es : List Leg} {l : List Nt} {i : Nat} (h : i < es.length) : addAll s (es.take (i + 1)) l = addN s (lg es i) (addAll s (es.take i) l) := by
 rw [List.take_succ_eq_append_getElem h, at_l h]
 simp [addAll]
theorem addAll_len {s : Bool} : ∀ (es : List Leg) (l : List Nt), (addAll s es l).length ≤ l.length + es.length
 | [], l => Nat.le_refl _
 | e :: es, l => by
  have h1 := addAll_len (s := s) es (addN s e l)
  have h2 := addN_len (s := s) (e := e) l
  have e1 : addAll s (e :: es) l = addAll s es (addN s e l) := rfl
  rw [e1, List.length_cons]
  omega
theorem nt_ins {l : List Nt} {k : Nat} {p : Leg} (hk : k ≤ l.length) : nt (insN l k p) k = ntNew p ∧ (insN l k p).length = l.length + 1 := by
 unfold insN
 refine ⟨?_, by simp; omega⟩
 rw [nt, List.getD_eq_getElem?_getD, List.getElem?_append_right (by simp; omega)]
 simp [List.length_take, Nat.min_eq_left hk]
theorem ins_cells {l : List Nt} {k : Nat} {p : Leg} (hk : k ≤ l.length) : (insN l k p).flatMap ntCells = (l.flatMap ntCells).take (k * 8) ++ ntCells (ntNew p) ++ (l.flatMap ntCells).drop (k * 8) := by
 have e1 : (l.flatMap ntCells).take (k * 8) = (l.take k).flatMap ntCells := by
  conv => lhs; rw [← List.take_append_drop k l, List.flatMap_append]
  rw [List.take_left' (by rw [flat_len ntCells 8 ntCells_len, List.length_take, Nat.min_eq_left hk])]
 have e2 : (l.flatMap ntCells).drop (k * 8) = (l.drop k).flatMap ntCells := by
  conv => lhs; rw [← List.take_append_drop k l, List.flatMap_append]
  rw [List.drop_left' (by rw [flat_len ntCells 8 ntCells_len, List.length_take, Nat.min_eq_left hk])]
 rw [e1, e2, insN, List.flatMap_append, List.flatMap_cons, List.append_assoc]
theorem nt_one (l : List Nt) : ∀ u ∈ l.flatMap ntCells, u.oneCell' = true := fun u hu => by
 obtain ⟨x, _, hx⟩ := List.mem_flatMap.1 hu
 simp only [ntCells, legCells, List.cons_append, List.nil_append, List.mem_cons, List.not_mem_nil, or_false] at hx
 rcases hx with rfl | rfl | rfl | rfl | rfl | rfl | rfl | rfl <;> rfl
theorem bump_two {l : List Nt} {k : Nat} {e : Leg} (h : k < l.length) {v : Int} (hv : v = (nt l k).two + sg e) : splice (l.flatMap ntCells) (0 + k * 8 + 5) [.int .i64 v] = (l.set k (bumpN true (sg e) (nt l k))).flatMap ntCells :=
 flat_splice ntCells ntCells_len (nt_get h) (legCells (nt l k).e ++ [.int .i64 (nt l k).one]) [.int .i64 (nt l k).two] [.int .i64 v] [.int .i64 (nt l k).l1, .int .i64 (nt l k).l2] (by simp [ntCells]) (by subst hv; simp [ntCells, bumpN]) rfl (by simp [legCells])
theorem bump_one {l : List Nt} {k : Nat} {e : Leg} (h : k < l.length) {v : Int} (hv : v = (nt l k).one + sg e) : splice (l.flatMap ntCells) (0 + k * 8 + 4) [.int .i64 v] = (l.set k (bumpN false (sg e) (nt l k))).flatMap ntCells :=
 flat_splice ntCells ntCells_len (nt_get h) (legCells (nt l k).e) [.int .i64 (nt l k).one] [.int .i64 v] [.int .i64 (nt l k).two, .int .i64 (nt l k).l1, .int .i64 (nt l k).l2] (by simp [ntCells]) (by subst hv; simp [ntCells, bumpN]) rfl (by simp [legCells])
theorem set_len8 {l : List Nt} {k : Nat} {x : Nt} : (l.set k x).length = l.length := List.length_set
theorem at_rowZ {n : Nat} {env : List (Nat × Value)} {w0 : Bs} {Rs : List Res} {K : Act → World → Prop} (k s : Nat) {b U : Nat} (hk : Rs[k]? = some (.cel b U [])) (h : At n env w0 (Rs.set k (.row 0 U s (.slice (some ⟨b, 0, none⟩) 0 0) 0 [])) K) : At n env w0 Rs K := fun a w hf hs => by
 refine h a w hf (hs.chg hk (fun hP => ?_) (fun c hc => ?_) rfl)
 ·exact ⟨by simp, .inr ⟨b, 0, #[], rfl, Nat.zero_le _, hP, Nat.le_refl _, by unfold maxLen; omega, by simp, by simp⟩⟩
 ·have : some b = some c := hc
  injection this with this
  exact this.symm
theorem lt_more {p : Nat → Prop} {k : Nat} (h : ∀ j, j < k → p j) (hk : p k) : ∀ j, j < k + 1 → p j := fun j hj => by
 rcases Nat.lt_or_eq_of_le (Nat.le_of_lt_succ hj) with h1 | rfl
 ·exact h j h1
 ·exact hk
theorem ltG_b1 {k m : Nat} {e p : Leg} (hk : k < m) (h2 : ¬ ltY (lA e) (lA p)) (h3 : (e.ax == p.ax && e.ay == p.ay) = true) : decide (ltY (lB e) (lB p)) = decide (k < m ∧ ltG e p) := by
 simp only [Bool.and_eq_true, beq_iff_eq] at h3
 refine decide_eq_decide.2 ⟨fun h => ⟨hk, .inr ⟨Prod.ext h3.1 h3.2, h⟩⟩, fun h => ?_⟩
 rcases h.2 with h | h
 ·exact absurd h h2
 ·exact h.2
theorem ltG_b2 {k m : Nat} {e p : Leg} (h2 : ¬ ltY (lA e) (lA p)) (h3 : (e.ax == p.ax && e.ay == p.ay) = false) : false = decide (k < m ∧ ltG e p) := by
 refine (decide_eq_false fun h => ?_).symm
 rcases h.2 with h | h
 ·exact h2 h
 ·rw [show e.ax = p.ax from congrArg Prod.fst h.1, show e.ay = p.ay from congrArg Prod.snd h.1] at h3
  simp at h3
theorem l14Add_any (A : Option Addr) (n c : Nat) (es : List Leg) (s : Bool) (l : List Nt) (x : Option Addr × Nat) (w : World) (h : Legs w A n es) (hok : ∀ l ∈ es, legOk l) (hn : n ≤ 4096) (hl : l.length ≤ 4096) (ha : ∀ t, aS t l ≤ 4096)
  (hr : (ntR l x).P w) (hne : 0 < n → ∀ p, A = some p → p.block ∉ rblk x) :
  Calls Try.prog 16 #[.slice x.1 l.length x.2, .slice A n c, .bool s] w fun e w' => ∃ y : Option Addr × Nat, e = .returned (.slice y.1 (addAll s es l).length y.2) ∧ Wrs (ntR l x).F w w' ∧ (ntR (addAll s es l) y).P w' ∧ (∀ b, (ntR (addAll s es l) y).F b → (ntR l x).F b ∨ w.heap.size ≤ b) ∧ (ntR (addAll s es l) y).B = 0 := by
 have hln := h.1
 refine walk_fromR (m := 119) (rblk x) (ntR l x) (hr) (fun b hb => rblk_F.1 hb) rfl (Try.func16) rfl rfl (Nat.le_of_ble_eq_true rfl) ?_
 refine at_seq ?_
 refine at_region ?_
 refine at_q rfl rfl (by decide) (qt_assign rfl rfl) ?_
 refine at_end ?_
 refine at_seq ?_
 refine at_seq ?_
 refine at_region ?_
 refine at_q rfl rfl (by decide) (qt_assign rfl rfl) ?_
 refine at_end ?_
 refine at_block ?_
 refine at_loopc (X := Nat × Option Addr × Nat) (fun y => y.1 ≤ n) (fun y => n - y.1) (fun y => [(0, .slice y.2.1 (addAll s (es.take y.1) l).length y.2.2), (7, .int .i64 (y.1 : Int))]) (C := [(1, _), (2, _), (6, _)]) ⟨rfl, rfl, rfl, trivial⟩ (fun y => [ntR (addAll s (es.take y.1) l) y.2]) (0, x) (Nat.zero_le _) ⟨rfl, rfl, rfl, rfl, rfl, trivial⟩ (fun _ h => h) ?_
 intro ⟨i, rA, rc⟩ hi L hL1
 refine at_envE (by simp only [ya,yb]; rfl) ?_
 refine at_rsE (by first | (dsimp only; done) | (dsimp only; rfl) | rfl) ?_
 have hi : i ≤ n := hi
 obtain ⟨M, hM⟩ : ∃ M, M = addAll s (es.take i) l := ⟨_, rfl⟩
 have hMl : M.length ≤ 8192 := (by have := addAll_len (s := s) (es.take i) l; rw [List.length_take] at this; rw [hM]; omega)
 have hMa : ∀ t, aS t M ≤ 8192 := (fun t => by have h1 := addAll_a (s := s) (t := t) (es.take i) l; have h2 := ha t; rw [List.length_take] at h1; rw [hM]; split at h1 <;> omega)
 rw [← hM]
 refine at_seq ?_
 refine at_seq ?_
 refine at_region ?_
 refine at_q rfl rfl (by decide) (qt_move rfl rfl) ?_
 refine at_q rfl rfl (by decide) (qt_move rfl rfl) ?_
 refine at_q rfl rfl (by decide) (qt_len rfl rfl tyl_sl_spec_l13Edge) ?_
 refine at_q rfl rfl (by decide) (qt_lss rfl rfl rfl) ?_
 refine at_end ?_
 refine at_cond rfl (fun c1 => ?_) (fun c1 => ?_)
 ·try simp only [za,zb,zc,zd,ze,zf,Bool.not_true,Bool.not_false,zg,zh,ne_eq,zi,zj] at c1
  have hlt : i < n := (by omega)
  obtain ⟨eb, eo, rfl, _⟩ := h.2 (by omega)
  obtain ⟨E, hE⟩ : ∃ E, E = lg es i := ⟨_, rfl⟩
  have hEo : legOk E := hE ▸ lg_ok hok (show i < es.length by omega)
  have hnext : addAll s (es.take (i + 1)) l = addN s E M := (by rw [addAll_succ (by omega), hM, hE])
  refine at_skip ?_
  refine norm_then ?_
  refine at_seq ?_
  refine at_block ?_
  refine at_seq ?_
  refine at_region ?_
  refine at_q rfl rfl (by decide) (qt_move rfl rfl) ?_
  refine at_q rfl rfl (by decide) (qt_move rfl rfl) ?_
  refine at_q rfl rfl (by decide) (qt_index rfl rfl rfl tyl_sl_spec_l13Edge (by omega)) ?_
  refine at_q rfl rfl (by decide) (qt_loadS rfl rfl tys_spec_l13Edge rfl (rdLeg (fun w' hs => h.ovx hs.over hne) hlt)) ?_
  refine at_op rfl ?_
  refine op_alloc rfl tyz_spec_l13Edge rfl (by decide) (fun b1 => ?_)
  refine at_rsE (by simp only [ya,yb,yc,yd,Value.cells,ye]; rfl) ?_
  refine at_op rfl ?_
  refine op_storeAll' (k := 1) rfl rfl rfl rfl (rfl) (by rfl) tyz_spec_l13Edge.szx rfl rfl rfl ?_
  refine at_rsE (by simp only [ya,yb,yc,yd,Value.cells,ye]; rfl) ?_
  refine at_end ?_
  rw [← hE]
  refine at_seq ?_
  refine at_region ?_
  refine at_q rfl rfl (by decide) (qt_assign rfl rfl) ?_
  refine at_end ?_
  refine at_cut [(9, .int .i64 (sg E))] (C := [(1, _), (2, _), (6, _), (0, _), (7, _), (12, _), (13, _), (14, _), (15, _), (18, _), (19, _), (20, _), (21, _), (8, _)]) ([ntR M (rA, rc), .cel b1 51 (legCells (nrm E))]) ⟨rfl, rfl, rfl, rfl, rfl, rfl, rfl, rfl, rfl, rfl, rfl, rfl, rfl, rfl, trivial⟩ (fun L hC_cutif_t26 => ?_) ?_
  ·refine at_seq ?_
   refine at_region ?_
   refine at_q rfl rfl (by decide) (qt_fieldAddr rfl rfl tyf_spec_l13Edge_1) ?_
   refine at_q rfl rfl (by decide) (qt_loadS rfl rfl tys_impl_Pt rfl (rd2 (k := 1) rfl rfl rfl)) ?_
   refine at_q rfl rfl (by decide) (qt_fieldAddr rfl rfl tyf_spec_l13Edge_0) ?_
   refine at_q rfl rfl (by decide) (qt_loadS rfl rfl tys_impl_Pt rfl (rd2 (k := 1) rfl rfl rfl)) ?_
   refine at_q rfl rfl (by decide) (qt_call ok_spec_l13Before rfl rfl (fun w1 hs => l13Before_p (lB E) (lA E) w1)) ?_
   refine at_end ?_
   refine at_cond rfl (fun c2 => ?_) (fun c2 => ?_)
   ·try simp only [za,zb,zc,zd,ze,zf,Bool.not_true,Bool.not_false,zg,zh,ne_eq,zi,zj] at c2
    refine at_seq ?_
    refine at_region ?_
    refine at_q rfl rfl (by decide) (qt_fieldAddr rfl rfl tyf_spec_l13Edge_1) ?_
    refine at_q rfl rfl (by decide) (qt_loadS rfl rfl tys_impl_Pt rfl (rd2 (k := 1) rfl rfl rfl)) ?_
    refine at_q rfl rfl (by decide) (qt_fieldAddr rfl rfl tyf_spec_l13Edge_0) ?_
    refine at_q rfl rfl (by decide) (qt_loadS rfl rfl tys_impl_Pt rfl (rd2 (k := 1) rfl rfl rfl)) ?_
    refine at_q rfl rfl (by decide) (qt_build rfl rfl (bld_spec_l13Edge_0_1 rfl rfl)) ?_
    refine at_op rfl ?_
    refine op_storeAll' (k := 1) rfl rfl rfl rfl (rfl) (by rfl) tyz_spec_l13Edge.szx rfl rfl rfl ?_
    refine at_rsE (by simp only [ya,yb,yc,yd,Value.cells,ye]; rfl) ?_
    refine at_end ?_
    refine at_region ?_
    refine at_q rfl rfl (by decide) (qt_assign rfl rfl) ?_
    refine at_end ?_
    exact at_meet hC_cutif_t26 ⟨vi (by rw [sg, if_pos c2]), rfl, rfl, rfl, rfl, rfl, rfl, rfl, rfl, rfl, rfl, rfl, rfl, rfl, rfl, trivial⟩ (fun _ h => h.upto ⟨rfl, by rw [nrm, if_pos c2]; rfl, trivial⟩)
   ·try simp only [za,zb,zc,zd,ze,zf,Bool.not_true,Bool.not_false,zg,zh,ne_eq,zi,zj] at c2
    refine at_skip ?_
    refine norm_then ?_
    exact at_meet hC_cutif_t26 ⟨vi (by rw [sg, if_neg c2]), rfl, rfl, rfl, rfl, rfl, rfl, rfl, rfl, rfl, rfl, rfl, rfl, rfl, rfl, trivial⟩ (fun _ h => h.upto ⟨rfl, by rw [nrm, if_neg c2]; rfl, trivial⟩)
  ·refine at_envE (by simp only [ya,yb]; rfl) ?_
   obtain ⟨p, hp⟩ : ∃ p, p = nrm E := ⟨_, rfl⟩
   rw [← hp]
   refine at_seq ?_
   refine at_region ?_
   refine at_q rfl rfl (by decide) (qt_assign rfl rfl) ?_
   refine at_end ?_
   refine at_seq ?_
   refine at_block ?_
   refine at_loopk (X := Nat) (fun k => k ≤ M.length ∧ ∀ j, j < k → ltG (nt M j).e p) (fun k => M.length - k) (fun k => [(10, .int .i64 (k : Int))]) (C := [(1, _), (2, _), (6, _), (0, _), (7, _), (12, _), (13, _), (14, _), (15, _), (18, _), (19, _), (20, _), (21, _), (8, _), (9, _)]) ⟨rfl, rfl, rfl, rfl, rfl, rfl, rfl, rfl, rfl, rfl, rfl, rfl, rfl, rfl, rfl, trivial⟩ 0 (⟨Nat.zero_le _, fun j hj => absurd hj (by omega)⟩) ⟨rfl, rfl, rfl, rfl, rfl, rfl, rfl, rfl, rfl, rfl, rfl, rfl, rfl, rfl, rfl, rfl, trivial⟩ ?_
   intro k hk L hL2
   refine at_envE (by simp only [ya,yb]; rfl) ?_
   obtain ⟨hkl, hkq⟩ := hk
   refine at_seq ?_
   refine at_cutE [(68, .bool (decide (k < M.length ∧ ltG (nt M k).e p)))] (C := [(1, _), (2, _), (6, _), (0, _), (7, _), (12, _), (13, _), (14, _), (15, _), (18, _), (19, _), (20, _), (21, _), (8, _), (9, _), (10, _)])  ⟨rfl, rfl, rfl, rfl, rfl, rfl, rfl, rfl, rfl, rfl, rfl, rfl, rfl, rfl, rfl, rfl, trivial⟩ (fun L hC_cut_10 => ?_) ?_
   ·refine lx_start mixed (by kernel_rfl) (fun _ _ d _ _ h => by cases d <;> exact h) ?_
    refine lx_q rfl rfl (by decide) (qt_move rfl rfl) ?_
    refine lx_q rfl rfl (by decide) (qt_move rfl rfl) ?_
    refine lx_q rfl rfl (by decide) (qt_len rfl rfl tyl_sl_spec_l14Net) ?_
    refine lx_q rfl rfl (by decide) (qt_lss rfl rfl rfl) ?_
    refine lx_q rfl rfl (by decide) (qt_move rfl rfl) ?_
    refine lx_bsplit 36 rfl (fun g1 => ?_) (fun g1 => ?_)
    ·try simp only [za,zb,zc,zd,ze,zf,Bool.not_true,Bool.not_false,zg,zh,ne_eq,zi,zj] at g1
     have hk' : k < M.length := (by omega)
     refine lx_qg rfl rfl rfl rfl rfl (by decide) (qt_move rfl rfl) ?_
     refine lx_qg rfl rfl rfl rfl rfl (by decide) (qt_move rfl rfl) ?_
     refine lx_qg rfl rfl rfl rfl rfl (by decide) (qt_indexW (j := k) (fun w hs => (hs.all 0 _ rfl).1) rfl rfl rfl tyl_sl_spec_l14Net hk') ?_
     refine lx_qg rfl rfl rfl rfl rfl (by decide) (qt_fieldAddr rfl rfl tyf_spec_l14Net_0) ?_
     refine lx_qg rfl rfl rfl rfl rfl (by decide) (qt_fieldAddr rfl rfl tyf_spec_l13Edge_0) ?_
     refine lx_qg rfl rfl rfl rfl rfl (by decide) (qt_loadS rfl rfl tys_impl_Pt rfl (rdNtS [.int .i64 (nt M k).e.ax, .int .i64 (nt M k).e.ay] 0 (fun w hs => (hs.all 0 _ rfl).1) hk' (by omega) (two_of rfl rfl))) ?_
     refine lx_qg rfl rfl rfl rfl rfl (by decide) (qt_fieldAddr rfl rfl tyf_spec_l13Edge_0) ?_
     refine lx_qg rfl rfl rfl rfl rfl (by decide) (qt_loadS rfl rfl tys_impl_Pt rfl (rd2 (k := 1) rfl rfl rfl)) ?_
     refine lx_qg rfl rfl rfl rfl rfl (by decide) (qt_call ok_spec_l13Before rfl rfl (fun w1 hs => l13Before_p (lA (nt M k).e) (lA p) w1)) ?_
     refine lx_qg rfl rfl rfl rfl rfl (by decide) (qt_move rfl rfl) ?_
     refine lx_bsplit 46 rfl (fun g2 => ?_) (fun g2 => ?_)
     ·try simp only [za,zb,zc,zd,ze,zf,Bool.not_true,Bool.not_false,zg,zh,ne_eq,zi,zj] at g2
      refine lx_off rfl rfl rfl rfl (by decide) rfl (by decide) ?_
      refine lx_off rfl rfl rfl rfl (by decide) rfl (by decide) ?_
      refine lx_off rfl rfl rfl rfl (by decide) rfl (by decide) ?_
      refine lx_off rfl rfl rfl rfl (by decide) rfl (by decide) ?_
      refine lx_off rfl rfl rfl rfl (by decide) rfl (by decide) ?_
      refine lx_off rfl rfl rfl rfl (by decide) rfl (by decide) ?_
      refine lx_off rfl rfl rfl rfl (by decide) rfl (by decide) ?_
      refine lx_off rfl rfl rfl rfl (by decide) rfl (by decide) ?_
      refine lx_off rfl rfl rfl rfl (by decide) rfl (by decide) ?_
      refine lx_off rfl rfl rfl rfl (by decide) rfl (by decide) ?_
      refine lx_offu rfl rfl rfl rfl rfl (by decide) ?_
      refine lx_offu rfl rfl rfl rfl rfl (by decide) ?_
      refine lx_offu rfl rfl rfl rfl rfl (by decide) ?_
      refine lx_offu rfl rfl rfl rfl rfl (by decide) ?_
      refine lx_offu rfl rfl rfl rfl rfl (by decide) ?_
      refine lx_offu rfl rfl rfl rfl rfl (by decide) ?_
      refine lx_offu rfl rfl rfl rfl rfl (by decide) ?_
      refine lx_offu rfl rfl rfl rfl rfl (by decide) ?_
      refine lx_offu rfl rfl rfl rfl rfl (by decide) ?_
      refine lx_off rfl rfl rfl rfl (by decide) rfl (by decide) ?_
      refine lx_qg rfl rfl rfl rfl rfl (by decide) (qt_pickT rfl rfl rfl) ?_
      refine lx_q rfl rfl (by decide) (qt_pickT rfl rfl rfl) ?_
      refine lx_end ?_
      refine norm_then ?_
      exact at_meet hC_cut_10 ⟨vb (decide_eq_true ⟨hk', .inl g2⟩).symm, rfl, rfl, rfl, rfl, rfl, rfl, rfl, rfl, rfl, rfl, rfl, rfl, rfl, rfl, rfl, rfl, trivial⟩ (fun _ h => h.upto ⟨rfl, rfl, trivial⟩)
     ·try simp only [za,zb,zc,zd,ze,zf,Bool.not_true,Bool.not_false,zg,zh,ne_eq,zi,zj] at g2
      refine lx_qg rfl rfl rfl rfl rfl (by decide) (qt_move rfl rfl) ?_
      refine lx_qg rfl rfl rfl rfl rfl (by decide) (qt_move rfl rfl) ?_
      refine lx_qg rfl rfl rfl rfl rfl (by decide) (qt_indexW (j := k) (fun w hs => (hs.all 0 _ rfl).1) rfl rfl rfl tyl_sl_spec_l14Net hk') ?_
      refine lx_qg rfl rfl rfl rfl rfl (by decide) (qt_fieldAddr rfl rfl tyf_spec_l14Net_0) ?_
      refine lx_qg rfl rfl rfl rfl rfl (by decide) (qt_fieldAddr rfl rfl tyf_spec_l13Edge_0) ?_
      refine lx_qg rfl rfl rfl rfl rfl (by decide) (qt_loadS rfl rfl tys_impl_Pt rfl (rdNtS [.int .i64 (nt M k).e.ax, .int .i64 (nt M k).e.ay] 0 (fun w hs => (hs.all 0 _ rfl).1) hk' (by omega) (two_of rfl rfl))) ?_
      refine lx_qg rfl rfl rfl rfl rfl (by decide) (qt_fieldAddr rfl rfl tyf_spec_l13Edge_0) ?_
      refine lx_qg rfl rfl rfl rfl rfl (by decide) (qt_loadS rfl rfl tys_impl_Pt rfl (rd2 (k := 1) rfl rfl rfl)) ?_
      refine lx_qg rfl rfl rfl rfl rfl (by decide) (qt_eqlS_impl_Pt rfl rfl rfl) ?_
      refine lx_qg rfl rfl rfl rfl rfl (by decide) (qt_move rfl rfl) ?_
      refine lx_bsplit 56 rfl (fun g3 => ?_) (fun g3 => ?_)
      ·try simp only [za,zb,zc,zd,ze,zf,Bool.not_true,Bool.not_false,zg,zh,ne_eq,zi,zj] at g3
       refine lx_qg rfl rfl rfl rfl rfl (by decide) (qt_move rfl rfl) ?_
       refine lx_qg rfl rfl rfl rfl rfl (by decide) (qt_move rfl rfl) ?_
       refine lx_qg rfl rfl rfl rfl rfl (by decide) (qt_indexW (j := k) (fun w hs => (hs.all 0 _ rfl).1) rfl rfl rfl tyl_sl_spec_l14Net hk') ?_
       refine lx_qg rfl rfl rfl rfl rfl (by decide) (qt_fieldAddr rfl rfl tyf_spec_l14Net_0) ?_
       refine lx_qg rfl rfl rfl rfl rfl (by decide) (qt_fieldAddr rfl rfl tyf_spec_l13Edge_1) ?_
       refine lx_qg rfl rfl rfl rfl rfl (by decide) (qt_loadS rfl rfl tys_impl_Pt rfl (rdNtS [.int .i64 (nt M k).e.bx, .int .i64 (nt M k).e.b_y] 2 (fun w hs => (hs.all 0 _ rfl).1) hk' (by omega) (two_of rfl rfl))) ?_
       refine lx_qg rfl rfl rfl rfl rfl (by decide) (qt_fieldAddr rfl rfl tyf_spec_l13Edge_1) ?_
       refine lx_qg rfl rfl rfl rfl rfl (by decide) (qt_loadS rfl rfl tys_impl_Pt rfl (rd2 (k := 1) rfl rfl rfl)) ?_
       refine lx_qg rfl rfl rfl rfl rfl (by decide) (qt_call ok_spec_l13Before rfl rfl (fun w1 hs => l13Before_p (lB (nt M k).e) (lB p) w1)) ?_
       refine lx_qg rfl rfl rfl rfl rfl (by decide) (qt_pickT rfl rfl rfl) ?_
       refine lx_qg rfl rfl rfl rfl rfl (by decide) (qt_pickF rfl rfl rfl) ?_
       refine lx_q rfl rfl (by decide) (qt_pickT rfl rfl rfl) ?_
       refine lx_end ?_
       refine norm_then ?_
       exact at_meet hC_cut_10 ⟨vb (ltG_b1 hk' g2 g3), rfl, rfl, rfl, rfl, rfl, rfl, rfl, rfl, rfl, rfl, rfl, rfl, rfl, rfl, rfl, rfl, trivial⟩ (fun _ h => h.upto ⟨rfl, rfl, trivial⟩)
      ·try simp only [za,zb,zc,zd,ze,zf,Bool.not_true,Bool.not_false,zg,zh,ne_eq,zi,zj] at g3
       refine lx_off rfl rfl rfl rfl (by decide) rfl (by decide) ?_
       refine lx_off rfl rfl rfl rfl (by decide) rfl (by decide) ?_
       refine lx_off rfl rfl rfl rfl (by decide) rfl (by decide) ?_
       refine lx_off rfl rfl rfl rfl (by decide) rfl (by decide) ?_
       refine lx_off rfl rfl rfl rfl (by decide) rfl (by decide) ?_
       refine lx_off rfl rfl rfl rfl (by decide) rfl (by decide) ?_
       refine lx_off rfl rfl rfl rfl (by decide) rfl (by decide) ?_
       refine lx_off rfl rfl rfl rfl (by decide) rfl (by decide) ?_
       refine lx_off rfl rfl rfl rfl (by decide) rfl (by decide) ?_
       refine lx_qg rfl rfl rfl rfl rfl (by decide) (qt_pickF rfl rfl rfl) ?_
       refine lx_qg rfl rfl rfl rfl rfl (by decide) (qt_pickF rfl rfl rfl) ?_
       refine lx_q rfl rfl (by decide) (qt_pickT rfl rfl rfl) ?_
       refine lx_end ?_
       refine norm_then ?_
       exact at_meet hC_cut_10 ⟨vb (ltG_b2 g2 g3), rfl, rfl, rfl, rfl, rfl, rfl, rfl, rfl, rfl, rfl, rfl, rfl, rfl, rfl, rfl, rfl, trivial⟩ (fun _ h => h.upto ⟨rfl, rfl, trivial⟩)
    ·try simp only [za,zb,zc,zd,ze,zf,Bool.not_true,Bool.not_false,zg,zh,ne_eq,zi,zj] at g1
     refine lx_off rfl rfl rfl rfl (by decide) rfl (by decide) ?_
     refine lx_off rfl rfl rfl rfl (by decide) rfl (by decide) ?_
     refine lx_off rfl rfl rfl rfl (by decide) rfl (by decide) ?_
     refine lx_off rfl rfl rfl rfl (by decide) rfl (by decide) ?_
     refine lx_off rfl rfl rfl rfl (by decide) rfl (by decide) ?_
     refine lx_off rfl rfl rfl rfl (by decide) rfl (by decide) ?_
     refine lx_off rfl rfl rfl rfl (by decide) rfl (by decide) ?_
     refine lx_off rfl rfl rfl rfl (by decide) rfl (by decide) ?_
     refine lx_off rfl rfl rfl rfl (by decide) rfl (by decide) ?_
     refine lx_off rfl rfl rfl rfl (by decide) rfl (by decide) ?_
     refine lx_offu rfl rfl rfl rfl rfl (by decide) ?_
     refine lx_offu rfl rfl rfl rfl rfl (by decide) ?_
     refine lx_offu rfl rfl rfl rfl rfl (by decide) ?_
     refine lx_offu rfl rfl rfl rfl rfl (by decide) ?_
     refine lx_offu rfl rfl rfl rfl rfl (by decide) ?_
     refine lx_offu rfl rfl rfl rfl rfl (by decide) ?_
     refine lx_offu rfl rfl rfl rfl rfl (by decide) ?_
     refine lx_offu rfl rfl rfl rfl rfl (by decide) ?_
     refine lx_offu rfl rfl rfl rfl rfl (by decide) ?_
     refine lx_offu rfl rfl rfl rfl rfl (by decide) ?_
     refine lx_offu rfl rfl rfl rfl rfl (by decide) ?_
     refine lx_offu rfl rfl rfl rfl rfl (by decide) ?_
     refine lx_offu rfl rfl rfl rfl rfl (by decide) ?_
     refine lx_offu rfl rfl rfl rfl rfl (by decide) ?_
     refine lx_offu rfl rfl rfl rfl rfl (by decide) ?_
     refine lx_offu rfl rfl rfl rfl rfl (by decide) ?_
     refine lx_offu rfl rfl rfl rfl rfl (by decide) ?_
     refine lx_offu rfl rfl rfl rfl rfl (by decide) ?_
     refine lx_offu rfl rfl rfl rfl rfl (by decide) ?_
     refine lx_offu rfl rfl rfl rfl rfl (by decide) ?_
     refine lx_off rfl rfl rfl rfl (by decide) rfl (by decide) ?_
     refine lx_q rfl rfl (by decide) (qt_pickF rfl rfl rfl) ?_
     refine lx_end ?_
     refine norm_then ?_
     exact at_meet hC_cut_10 ⟨vb (decide_eq_false fun h => by omega).symm, rfl, rfl, rfl, rfl, rfl, rfl, rfl, rfl, rfl, rfl, rfl, rfl, rfl, rfl, rfl, rfl, trivial⟩ (fun _ h => h.upto ⟨rfl, rfl, trivial⟩)
   ·refine at_envE (by simp only [ya,yb]; rfl) ?_
    refine at_cond rfl (fun c3 => ?_) (fun c3 => ?_)
    ·try simp only [za,zb,zc,zd,ze,zf,Bool.not_true,Bool.not_false,zg,zh,ne_eq,zi,zj] at c3
     refine at_skip ?_
     refine norm_then ?_
     refine at_block ?_
     refine at_region ?_
     refine at_q rfl rfl (by decide) (qt_move rfl rfl) ?_
     refine at_q rfl rfl (by decide) (qt_add rfl rfl rfl (by omega) (by omega)) ?_
     refine at_q rfl rfl (by decide) (qt_assign rfl rfl) ?_
     refine at_nil ?_
     refine norm_block ?_
     refine norm_then ?_
     exact at_againk hL2 (k + 1) (⟨by omega, lt_more hkq c3.2⟩) (by omega) ⟨vi (by omega), rfl, rfl, rfl, rfl, rfl, rfl, rfl, rfl, rfl, rfl, rfl, rfl, rfl, rfl, rfl, trivial⟩ (fun _ h => h.upto ⟨rfl, rfl, trivial⟩)
    ·try simp only [za,zb,zc,zd,ze,zf,Bool.not_true,Bool.not_false,zg,zh,ne_eq,zi,zj] at c3
     refine at_exit ?_
     refine pass_then (fun h => by cases h) ?_
     refine pass_then (fun h => by cases h) ?_
     refine pass_hit ?_
     refine norm_then ?_
     refine at_cutX (X := List Nt × Option Addr × Nat) (fun z => k < z.1.length ∧ addAll s (es.take (i + 1)) l = z.1.set k (bumpN s (sg E) (nt z.1 k)) ∧ z.1.length ≤ 8193 ∧ ∀ t, -8192 ≤ cntN t (nt z.1 k) ∧ cntN t (nt z.1 k) ≤ 8192) (fun z => [(0, .slice z.2.1 z.1.length z.2.2)]) (C := [(1, _), (2, _), (6, _), (7, _), (12, _), (13, _), (14, _), (15, _), (18, _), (19, _), (20, _), (21, _), (8, _), (9, _), (10, _), (68, _)]) ⟨rfl, rfl, rfl, rfl, rfl, rfl, rfl, rfl, rfl, rfl, rfl, rfl, rfl, rfl, rfl, rfl, trivial⟩ (fun z => [ntR z.1 z.2, .cel b1 51 (legCells p)]) (fun L hC_cutif_t83 => ?_) ?_
     ·refine at_cutE [(83, .bool (!decide (k < M.length ∧ (nt M k).e = p)))] (C := [(1, _), (2, _), (6, _), (0, _), (7, _), (12, _), (13, _), (14, _), (15, _), (18, _), (19, _), (20, _), (21, _), (8, _), (9, _), (10, _), (68, _)])  ⟨rfl, rfl, rfl, rfl, rfl, rfl, rfl, rfl, rfl, rfl, rfl, rfl, rfl, rfl, rfl, rfl, rfl, trivial⟩ (fun L hC_cut_12 => ?_) ?_
      ·refine lx_start mixed (by kernel_rfl) (fun _ _ d _ _ h => by cases d <;> exact h) ?_
       refine lx_q rfl rfl (by decide) (qt_move rfl rfl) ?_
       refine lx_q rfl rfl (by decide) (qt_move rfl rfl) ?_
       refine lx_q rfl rfl (by decide) (qt_len rfl rfl tyl_sl_spec_l14Net) ?_
       refine lx_q rfl rfl (by decide) (qt_eql rfl rfl rfl) ?_
       refine lx_q rfl rfl (by decide) (qt_move rfl rfl) ?_
       refine lx_bsplit 75 rfl (fun g4 => ?_) (fun g4 => ?_)
       ·try simp only [za,zb,zc,zd,ze,zf,Bool.not_true,Bool.not_false,zg,zh,ne_eq,zi,zj] at g4
        refine lx_off rfl rfl rfl rfl (by decide) rfl (by decide) ?_
        refine lx_off rfl rfl rfl rfl (by decide) rfl (by decide) ?_
        refine lx_off rfl rfl rfl rfl (by decide) rfl (by decide) ?_
        refine lx_off rfl rfl rfl rfl (by decide) rfl (by decide) ?_
        refine lx_off rfl rfl rfl rfl (by decide) rfl (by decide) ?_
        refine lx_off rfl rfl rfl rfl (by decide) rfl (by decide) ?_
        refine lx_off rfl rfl rfl rfl (by decide) rfl (by decide) ?_
        refine lx_q rfl rfl (by decide) (qt_pickT rfl rfl rfl) ?_
        refine lx_end ?_
        refine norm_then ?_
        exact at_meet hC_cut_12 ⟨vb (by rw [decide_eq_false (fun h => by omega)]; rfl), rfl, rfl, rfl, rfl, rfl, rfl, rfl, rfl, rfl, rfl, rfl, rfl, rfl, rfl, rfl, rfl, rfl, trivial⟩ (fun _ h => h.upto ⟨rfl, rfl, trivial⟩)
       ·try simp only [za,zb,zc,zd,ze,zf,Bool.not_true,Bool.not_false,zg,zh,ne_eq,zi,zj] at g4
        refine lx_qg rfl rfl rfl rfl rfl (by decide) (qt_move rfl rfl) ?_
        refine lx_qg rfl rfl rfl rfl rfl (by decide) (qt_move rfl rfl) ?_
        refine lx_qg rfl rfl rfl rfl rfl (by decide) (qt_indexW (j := k) (fun w hs => (hs.all 0 _ rfl).1) rfl rfl rfl tyl_sl_spec_l14Net (by omega)) ?_
        refine lx_qg rfl rfl rfl rfl rfl (by decide) (qt_fieldAddr rfl rfl tyf_spec_l14Net_0) ?_
        refine lx_qg rfl rfl rfl rfl rfl (by decide) (qt_loadS rfl rfl tys_spec_l13Edge rfl (rdNtS [.int .i64 (nt M k).e.ax, .int .i64 (nt M k).e.ay, .int .i64 (nt M k).e.bx, .int .i64 (nt M k).e.b_y] 0 (fun w hs => (hs.all 0 _ rfl).1) (show k < M.length by omega) (by omega) (four_of rfl rfl rfl rfl))) ?_
        refine lx_qg rfl rfl rfl rfl rfl (by decide) (qt_loadS rfl rfl tys_spec_l13Edge rfl (rdAll (k := 1) rfl)) ?_
        refine lx_qg rfl rfl rfl rfl rfl (by decide) (qt_neqS_spec_l13Edge rfl rfl rfl) ?_
        refine lx_q rfl rfl (by decide) (qt_pickF rfl rfl rfl) ?_
        refine lx_end ?_
        refine norm_then ?_
        exact at_meet hC_cut_12 ⟨vb (by rw [eqLeg (e := (nt M k).e) (f := p)]; have : k < M.length := (by omega); simp [this]), rfl, rfl, rfl, rfl, rfl, rfl, rfl, rfl, rfl, rfl, rfl, rfl, rfl, rfl, rfl, rfl, rfl, trivial⟩ (fun _ h => h.upto ⟨rfl, rfl, trivial⟩)
      ·refine at_envE (by simp only [ya,yb]; rfl) ?_
       refine at_cond rfl (fun c4 => ?_) (fun c4 => ?_)
       ·try simp only [za,zb,zc,zd,ze,zf,Bool.not_true,Bool.not_false,zg,zh,ne_eq,zi,zj] at c4
        have hstop : k < M.length → ¬ ltG (nt M k).e (nrm E) ∧ (nt M k).e ≠ nrm E := (fun h => ⟨fun h2 => c3 ⟨h, hp ▸ h2⟩, fun h2 => c4 ⟨h, hp ▸ h2⟩⟩)
        have hnew : addAll s (es.take (i + 1)) l = (insN M k p).set k (bumpN s (sg E) (nt (insN M k p) k)) := (by rw [hnext, addN_new hkl (fun j hj => hp ▸ hkq j hj) hstop, hp])
        obtain ⟨hnk, hnl⟩ := nt_ins (p := p) hkl
        have hsg := sg_bd E
        have hkI : k < (insN M k p).length := (by omega)
        refine at_fact (fun w hs => rowCap (hs.all 0 _ rfl).1) ?_
        intro hcap
        refine at_seq ?_
        refine at_region ?_
        refine at_op rfl ?_
        refine op_buildSlice rfl rfl (bsl_sl_spec_l14Net_0) rfl (by decide) (fun b2 => ?_)
        refine at_rsE (by simp only [ya,yb,yc,yd,Value.cells,ye]; rfl) ?_
        refine at_rowZ 2 8 rfl ?_
        refine at_rsE (by simp only [List.nil_append, List.cons_append, List.set_cons_zero, List.set_cons_succ, List.eraseIdx_cons_zero, List.eraseIdx_cons_succ, Value.cells, List.toList_toArray]; rfl) ?_
        refine at_q rfl rfl (by decide) (qt_move rfl rfl) ?_
        refine at_q rfl rfl (by decide) (qt_move rfl rfl) ?_
        refine at_q rfl rfl (by decide) (qt_sliceH rfl rfl rfl tyl_sl_spec_l14Net (by omega)) ?_
        refine at_op rfl ?_
        refine op_appendR (k := 2) rfl tyl_sl_spec_l14Net tyz_spec_l14Net (by decide) rfl (by decide) rfl rfl rfl (fun w' hs => src_takeR (hs.all 0 _ rfl).1 hkl) ((fun u hu => nt_one M u (List.mem_of_mem_take hu))) (by unfold maxLen; omega) (by omega) (Nat.zero_le _) (fun r1 => ?_)
        refine at_rsE (by simp only [ya,yb,yc,yd,Value.cells,ye]; rfl) ?_
        refine at_q rfl rfl (by decide) (qt_assign rfl rfl) ?_
        refine at_end ?_
        refine at_seq ?_
        refine at_region ?_
        refine at_q rfl rfl (by decide) (qt_move rfl rfl) ?_
        refine at_q rfl rfl (by decide) (qt_loadS rfl rfl tys_spec_l13Edge rfl (rdAll (k := 1) rfl)) ?_
        refine at_q rfl rfl (by decide) (qt_build rfl rfl (bld_spec_l14Net_0 rfl)) ?_
        refine at_op rfl ?_
        refine op_buildSlice rfl rfl (bsl_sl_spec_l14Net_1_0 rfl) rfl (by decide) (fun b3 => ?_)
        refine at_rsE (by simp only [ya,yb,yc,yd,Value.cells,ye]; rfl) ?_
        refine at_op rfl ?_
        refine op_appendR (k := 2) rfl tyl_sl_spec_l14Net tyz_spec_l14Net (by decide) rfl (by decide) rfl rfl rfl (fun w' hs => src_cel hs (k := 3) rfl rfl) (by simp [Value.oneCell']) (by unfold maxLen; omega) (by omega) (Nat.zero_le _) (fun r2 => ?_)
        refine at_rsE (by simp only [ya,yb,yc,yd,Value.cells,ye]; rfl) ?_
        refine at_q rfl rfl (by decide) (qt_assign rfl rfl) ?_
        refine at_end ?_
        refine at_region ?_
        refine at_q rfl rfl (by decide) (qt_move rfl rfl) ?_
        refine at_q rfl rfl (by decide) (qt_move rfl rfl) ?_
        refine at_q rfl rfl (by decide) (qt_move rfl rfl) ?_
        refine at_q rfl rfl (by decide) (qt_sliceL rfl rfl rfl tyl_sl_spec_l14Net hkl) ?_
        refine at_op rfl ?_
        refine op_appendR (k := 2) rfl tyl_sl_spec_l14Net tyz_spec_l14Net (by decide) rfl (by decide) rfl rfl rfl (fun w' hs => src_dropR (hs.all 0 _ rfl).1 hkl) ((fun u hu => nt_one M u (List.mem_of_mem_drop hu))) (by unfold maxLen; omega) (by omega) (Nat.zero_le _) (fun r3 => ?_)
        refine at_rsE (by simp only [ya,yb,yc,yd,Value.cells,ye]; rfl) ?_
        refine at_q rfl rfl (by decide) (qt_assign rfl rfl) ?_
        refine at_end ?_
        rw [show 0 + k + 1 + (M.length - k) = (insN M k p).length by omega]
        rw [show List.take (k * 8) (List.flatMap ntCells M) ++ [Value.int IntKind.i64 p.ax, Value.int IntKind.i64 p.ay, Value.int IntKind.i64 p.bx, Value.int IntKind.i64 p.b_y, Value.int IntKind.i64 0, Value.int IntKind.i64 0, Value.int IntKind.i64 0, Value.int IntKind.i64 0] ++ List.drop (k * 8) (List.flatMap ntCells M) = (insN M k p).flatMap ntCells from (ins_cells hkl).symm]
        exact at_meetX hC_cutif_t83 ((insN M k p, r3)) (⟨hkI, hnew, by simp only; omega, fun t => by rw [hnk]; cases t <;> (show -8192 ≤ (0 : Int) ∧ (0 : Int) ≤ 8192; omega)⟩) ⟨rfl, rfl, rfl, rfl, rfl, rfl, rfl, rfl, rfl, rfl, rfl, rfl, rfl, rfl, rfl, rfl, rfl, trivial⟩ (fun _ h => (h.picks [2, 1] (by decide)).upto ⟨rfl, rfl, trivial⟩)
       ·try simp only [za,zb,zc,zd,ze,zf,Bool.not_true,Bool.not_false,zg,zh,ne_eq,zi,zj] at c4
        have hst : k < M.length ∧ (nt M k).e = p := c4
        have hold : addAll s (es.take (i + 1)) l = M.set k (bumpN s (sg E) (nt M k)) := (by rw [hnext, addN_old hst.1 (fun j hj => hp ▸ hkq j hj) (hp ▸ hst.2)])
        refine at_skip ?_
        refine norm_then ?_
        exact at_meetX hC_cutif_t83 ((M, rA, rc)) (⟨hst.1, hold, by simp only; omega, fun t => by have h1 := cnt_bd (s := t) hst.1; have h2 := hMa t; simp only; omega⟩) ⟨rfl, rfl, rfl, rfl, rfl, rfl, rfl, rfl, rfl, rfl, rfl, rfl, rfl, rfl, rfl, rfl, rfl, trivial⟩ (fun _ h => h.picks [0, 1] (by decide))
     ·rintro ⟨I, qA, qc⟩ ⟨hIk, hIn, hIl, hIa⟩
      refine at_envE (by simp only [ya,yb]; rfl) ?_
      refine at_rsE (by first | (dsimp only; done) | (dsimp only; rfl) | rfl) ?_
      have hIk : k < I.length := hIk
      have hIl : I.length ≤ 8193 := hIl
      have hIn : addAll s (es.take (i + 1)) l = I.set k (bumpN s (sg E) (nt I k)) := hIn
      have hsg := sg_bd E
      have hI1 := hIa true
      have hI2 := hIa false
      simp only [cntN, if_true, Bool.false_eq_true, if_false] at hI1 hI2
      refine at_seq ?_
      refine at_region ?_
      refine at_q rfl rfl (by decide) (qt_move rfl rfl) ?_
      refine at_end ?_
      refine at_cond rfl (fun c5 => ?_) (fun c5 => ?_)
      ·try simp only [za,zb,zc,zd,ze,zf,Bool.not_true,Bool.not_false,zg,zh,ne_eq,zi,zj] at c5
       refine at_region ?_
       refine at_q rfl rfl (by decide) (qt_move rfl rfl) ?_
       refine at_q rfl rfl (by decide) (qt_move rfl rfl) ?_
       refine at_q rfl rfl (by decide) (qt_indexW (j := k) (fun w hs => (hs.all 0 _ rfl).1) rfl rfl rfl tyl_sl_spec_l14Net hIk) ?_
       refine at_q rfl rfl (by decide) (qt_fieldAddr rfl rfl tyf_spec_l14Net_2) ?_
       refine at_q rfl rfl (by decide) (qt_load1 rfl rfl ty1_int64 (rdNt (i := 5) (fun w hs => (hs.all 0 _ rfl).1) hIk (by omega) rfl)) ?_
       refine at_q rfl rfl (by decide) (qt_move rfl rfl) ?_
       refine at_q rfl rfl (by decide) (qt_add rfl rfl rfl (by omega) (by omega)) ?_
       refine at_q rfl rfl (by decide) (qt_indexW (j := k) (fun w hs => (hs.all 0 _ rfl).1) rfl rfl rfl tyl_sl_spec_l14Net hIk) ?_
       refine at_q rfl rfl (by decide) (qt_fieldAddr rfl rfl tyf_spec_l14Net_2) ?_
       refine at_op rfl ?_
       refine op_storeR (k := 0) (vs := [.int .i64 ((nt I k).two + sg E)]) rfl rfl rfl rfl (by rfl) (by rfl) tyz_int64.szx rfl rfl (by simp) (by rw [flat_len ntCells 8 ntCells_len]; simp only [List.length_cons, List.length_nil]; omega) ?_
       refine at_rsE (by simp only [ya,yb,yc,yd,Value.cells,ye]; rfl) ?_
       rw [bump_two hIk rfl]
       refine at_nil ?_
       refine norm_block ?_
       refine norm_then ?_
       refine at_region ?_
       refine at_q rfl rfl (by decide) (qt_move rfl rfl) ?_
       refine at_q rfl rfl (by decide) (qt_add rfl rfl rfl (by omega) (by omega)) ?_
       refine at_q rfl rfl (by decide) (qt_assign rfl rfl) ?_
       refine at_end ?_
       exact at_againc hL1 ((i + 1, qA, qc)) ((show i + 1 ≤ n by omega)) (by simp only; omega) ⟨(by rw [hIn, set_len8]; rfl), vi (by omega), rfl, rfl, rfl, trivial⟩ (fun _ h => h.upto ⟨by rw [hIn, c5, ntR, set_len8], trivial⟩)
      ·try simp only [za,zb,zc,zd,ze,zf,Bool.not_true,Bool.not_false,zg,zh,ne_eq,zi,zj] at c5
       refine at_region ?_
       refine at_q rfl rfl (by decide) (qt_move rfl rfl) ?_
       refine at_q rfl rfl (by decide) (qt_move rfl rfl) ?_
       refine at_q rfl rfl (by decide) (qt_indexW (j := k) (fun w hs => (hs.all 0 _ rfl).1) rfl rfl rfl tyl_sl_spec_l14Net hIk) ?_
       refine at_q rfl rfl (by decide) (qt_fieldAddr rfl rfl tyf_spec_l14Net_1) ?_
       refine at_q rfl rfl (by decide) (qt_load1 rfl rfl ty1_int64 (rdNt (i := 4) (fun w hs => (hs.all 0 _ rfl).1) hIk (by omega) rfl)) ?_
       refine at_q rfl rfl (by decide) (qt_move rfl rfl) ?_
       refine at_q rfl rfl (by decide) (qt_add rfl rfl rfl (by omega) (by omega)) ?_
       refine at_q rfl rfl (by decide) (qt_indexW (j := k) (fun w hs => (hs.all 0 _ rfl).1) rfl rfl rfl tyl_sl_spec_l14Net hIk) ?_
       refine at_q rfl rfl (by decide) (qt_fieldAddr rfl rfl tyf_spec_l14Net_1) ?_
       refine at_op rfl ?_
       refine op_storeR (k := 0) (vs := [.int .i64 ((nt I k).one + sg E)]) rfl rfl rfl rfl (by rfl) (by rfl) tyz_int64.szx rfl rfl (by simp) (by rw [flat_len ntCells 8 ntCells_len]; simp only [List.length_cons, List.length_nil]; omega) ?_
       refine at_rsE (by simp only [ya,yb,yc,yd,Value.cells,ye]; rfl) ?_
       rw [bump_one hIk rfl]
       refine at_nil ?_
       refine norm_block ?_
       refine norm_then ?_
       refine at_region ?_
       refine at_q rfl rfl (by decide) (qt_move rfl rfl) ?_
       refine at_q rfl rfl (by decide) (qt_add rfl rfl rfl (by omega) (by omega)) ?_
       refine at_q rfl rfl (by decide) (qt_assign rfl rfl) ?_
       refine at_end ?_
       exact at_againc hL1 ((i + 1, qA, qc)) ((show i + 1 ≤ n by omega)) (by simp only; omega) ⟨(by rw [hIn, set_len8]; rfl), vi (by omega), rfl, rfl, rfl, trivial⟩ (fun _ h => h.upto ⟨by rw [hIn, c5, ntR, set_len8], trivial⟩)
 ·try simp only [za,zb,zc,zd,ze,zf,Bool.not_true,Bool.not_false,zg,zh,ne_eq,zi,zj] at c1
  have hin : i = n := (by omega)
  have hMe : M = addAll s es l := (by rw [hM, hin, ← hln, List.take_length])
  refine at_exit ?_
  refine pass_then (fun h => by cases h) ?_
  refine pass_then (fun h => by cases h) ?_
  refine pass_hit ?_
  refine norm_then ?_
  refine at_seq ?_
  refine at_region ?_
  refine at_q rfl rfl (by decide) (qt_move rfl rfl) ?_
  refine at_q rfl rfl (by decide) (qt_assign rfl rfl) ?_
  refine at_end ?_
  refine at_retc ?_
  refine at_ret1 rfl (.tmp rfl) ?_
  intro w' hs
  exact ⟨(rA, rc), by rw [hMe], hs.over.wrs.mono fun b hb => rblk_F.2 hb, by have := (hs.all 0 _ rfl).1; rw [hMe] at this; exact this, fun b hb => by have := (hs.all 0 _ rfl).2.1 b (by rw [hMe]; exact hb); exact this.elim .inr (fun h => .inl (rblk_F.2 h)), rfl⟩
end Go.Proofs.Ytcigocejgmafjaa
