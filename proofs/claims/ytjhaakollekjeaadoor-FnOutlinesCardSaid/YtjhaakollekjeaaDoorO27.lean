import Derived.Test.YtjhaakollekjeaaDoorO16
namespace Go.Proofs.YtjhaakollekjeaaDoor
open Go Go.RowKit
set_option linter.unusedVariables false
set_option linter.unusedSimpArgs false
set_option maxRecDepth 100000
set_option maxHeartbeats 4000000
set_option linter.unusedVariables false
set_option linter.unusedSimpArgs false

theorem Nums.ovx {w w' : World} {b : Nat} {A : Option Addr} {n : Nat} {zs : List Int} (h : Nums w A n zs) (ho : Ovx ⟨w, [b]⟩ w') (hne : ∀ p, A = some p → p.block ≠ b) : Nums w' A n zs := by
 refine ⟨h.1, fun hn => ?_⟩
 obtain ⟨b', o, rfl, hlt, hc⟩ := h.2 hn
 have hs : w.heap.size ≤ w'.heap.size := ho.size
 have hb := ho.block b' hlt (by simpa using hne _ rfl)
 refine ⟨b', o, rfl, by omega, fun k hk => ?_⟩
 rw [← hc k hk]
 simp only [World.cell?, hb]
theorem tmod_in {a m : Int} (ha : 0 ≤ a) (hm : 0 < m) : 0 ≤ a.tmod m ∧ a.tmod m < m := ⟨Int.tmod_nonneg _ ha, Int.tmod_lt_of_pos _ hm⟩
section
variable {b n c K : Nat} {A : Option Addr} {zs : List Int} {w : World}
theorem pick_any (m : Int) (hm : 1 < m) (hm2 : m ≤ 200) (hB : Byts w A n zs) (hne : 0 < n → ∀ p, A = some p → p.block ≠ b) (hP : (srcR b A n c K).P w) (hn : n ≤ 1048576) (hK : K ≤ 1000000) :
  Drw Tryd.prog 56 #[.pointer (some ⟨b, 0, none⟩), .int .i64 m] w b A n c K (K + 1) (fun v => 0 ≤ v ∧ v < m) := by
 refine walk_fromR (m := 20) ([b]) (srcR b A n c K) (hP) (fun q hq => List.mem_singleton.2 hq) rfl (Tryd.func56) rfl rfl (Nat.le_of_ble_eq_true rfl) ?_
 refine at_seq ?_
 refine at_region ?_
 refine at_q rfl rfl (by decide) (qt_assign rfl rfl) ?_
 refine at_end ?_
 refine at_seq ?_
 refine at_seq ?_
 refine at_region ?_
 refine at_q rfl rfl (by decide) (qt_move rfl rfl) ?_
 refine at_q rfl rfl (by decide) (qt_leq rfl rfl rfl) ?_
 refine at_end ?_
 refine at_cond rfl (fun c1 => ?_) (fun c1 => ?_)
 ·try simp only [za,zb,zc,zd,ze,zf,Bool.not_true,Bool.not_false,zg,zh,ne_eq,zi,zj] at c1
  omega
 ·try simp only [za,zb,zc,zd,ze,zf,Bool.not_true,Bool.not_false,zg,zh,ne_eq,zi,zj] at c1
  refine at_skip ?_
  refine norm_then ?_
  refine at_seq ?_
  refine at_region ?_
  refine at_q rfl rfl (by decide) (qt_move rfl rfl) ?_
  refine at_op rfl ?_
  refine op_callP (k := 0) (X := { v : Int // 0 ≤ v ∧ v ≤ 255 }) (v := fun x => .int .i64 x.1) (r' := fun _ => srcR b A n c (K + 1)) ok_p_spec_l00Src_next rfl rfl rfl (by decide) rfl (fun w1 hs => next_any b A n c zs K w1 (hB.ovx hs.over hne) hne (hs.all 0 _ rfl).1 hn hK) ?_
  rintro ⟨v1, hv1⟩
  refine at_rsE (by simp only [ya,yb,yc,yd,Value.cells,ye]; rfl) ?_
  try dsimp only
  refine at_q rfl rfl (by decide) (qt_assign rfl rfl) ?_
  refine at_end ?_
  refine at_seq ?_
  refine at_seq ?_
  refine at_region ?_
  refine at_q rfl rfl (by decide) (qt_move rfl rfl) ?_
  refine at_q rfl rfl (by decide) (qt_gtr rfl rfl rfl) ?_
  refine at_end ?_
  refine at_cond rfl (fun c2 => ?_) (fun c2 => ?_)
  ·try simp only [za,zb,zc,zd,ze,zf,Bool.not_true,Bool.not_false,zg,zh,ne_eq,zi,zj] at c2
   omega
  ·try simp only [za,zb,zc,zd,ze,zf,Bool.not_true,Bool.not_false,zg,zh,ne_eq,zi,zj] at c2
   refine at_skip ?_
   refine norm_then ?_
   refine at_seq ?_
   refine at_region ?_
   refine at_q rfl rfl (by decide) (qt_move rfl rfl) ?_
   refine at_q rfl rfl (by decide) (qt_move rfl rfl) ?_
   refine at_q rfl rfl (by decide) (qt_rem rfl rfl rfl (by omega) (by omega) (by omega)) ?_
   refine at_q rfl rfl (by decide) (qt_assign rfl rfl) ?_
   refine at_end ?_
   refine at_retc ?_
   refine at_ret1 rfl (.tmp rfl) ?_
   intro w' hs
   exact ⟨⟨_, tmod_in hv1.1 (by omega)⟩, rfl, wrsX hs, (hs.all 0 _ rfl).1, fun q hq => .inl hq, rfl⟩
/-- A call that draws gives something else than a number. -/
abbrev DrwX {X : Type} (P : Program) (f : FuncId) (args : Array Value) (w : World) (b : Nat) (A : Option Addr) (n c K K' : Nat) (v : X → Value) : Prop :=
 Calls P f args w fun e w' => ∃ x : X, e = .returned (v x) ∧ Wrs (srcR b A n c K).F w w' ∧ (srcR b A n c K').P w' ∧ (∀ q, (srcR b A n c K').F q → (srcR b A n c K).F q ∨ w.heap.size ≤ q) ∧ (srcR b A n c K').B = 0
theorem one_any (m : Int) (hm : 1 < m) (hm2 : m ≤ 200) (hB : Byts w A n zs) (hne : 0 < n → ∀ p, A = some p → p.block ≠ b) (hP : (srcR b A n c K).P w) (hn : n ≤ 1048576) (hK : K ≤ 1000000) :
  DrwX Tryd.prog 113 #[.pointer (some ⟨b, 0, none⟩), .int .i64 m] w b A n c K (K + 1) (fun x : Bool => .bool x) := by
 refine walk_fromR (m := 9) ([b]) (srcR b A n c K) (hP) (fun q hq => List.mem_singleton.2 hq) rfl (Tryd.func113) rfl rfl (Nat.le_of_ble_eq_true rfl) ?_
 refine at_seq ?_
 refine at_region ?_
 refine at_q rfl rfl (by decide) (qt_assign rfl rfl) ?_
 refine at_end ?_
 refine at_seq ?_
 refine at_region ?_
 refine at_q rfl rfl (by decide) (qt_move rfl rfl) ?_
 refine at_q rfl rfl (by decide) (qt_move rfl rfl) ?_
 refine at_op rfl ?_
 refine op_callP (k := 0) (X := { v : Int // 0 ≤ v ∧ v < m }) (v := fun x => .int .i64 x.1) (r' := fun _ => srcR b A n c (K + 1)) ok_p_spec_l00Src_pick rfl rfl rfl (by decide) rfl (fun w1 hs => pick_any (zs := zs) m hm hm2 (hB.ovx hs.over hne) hne (hs.all 0 _ rfl).1 hn hK) ?_
 rintro ⟨v1, hv1⟩
 refine at_rsE (by simp only [ya,yb,yc,yd,Value.cells,ye]; rfl) ?_
 refine at_q rfl rfl (by decide) (qt_eql rfl rfl rfl) ?_
 refine at_q rfl rfl (by decide) (qt_assign rfl rfl) ?_
 refine at_end ?_
 refine at_retc ?_
 refine at_ret1 rfl (.tmp rfl) ?_
 intro w' hs
 exact ⟨_, rfl, wrsX hs, (hs.all 0 _ rfl).1, fun q hq => .inl hq, rfl⟩
theorem among_any (B : Option Addr) (m d : Nat) (xs : List Int) (hN : Nums w B m xs) (hm : 1 < m) (hm2 : m ≤ 200) (hne2 : ∀ p, B = some p → p.block ≠ b) (hB : Byts w A n zs) (hne : 0 < n → ∀ p, A = some p → p.block ≠ b) (hP : (srcR b A n c K).P w) (hn : n ≤ 1048576) (hK : K ≤ 1000000) :
  Drw Tryd.prog 55 #[.pointer (some ⟨b, 0, none⟩), .slice B m d] w b A n c K (K + 1) (fun v => v ∈ xs) := by
 obtain ⟨gb, go, rfl, _⟩ := hN.2 (by omega)
 have hl := hN.1
 refine walk_fromR (m := 12) ([b]) (srcR b A n c K) (hP) (fun q hq => List.mem_singleton.2 hq) rfl (Tryd.func55) rfl rfl (Nat.le_of_ble_eq_true rfl) ?_
 refine at_seq ?_
 refine at_region ?_
 refine at_q rfl rfl (by decide) (qt_assign rfl rfl) ?_
 refine at_end ?_
 refine at_seq ?_
 refine at_region ?_
 refine at_q rfl rfl (by decide) (qt_move rfl rfl) ?_
 refine at_q rfl rfl (by decide) (qt_move rfl rfl) ?_
 refine at_q rfl rfl (by decide) (qt_move rfl rfl) ?_
 refine at_q rfl rfl (by decide) (qt_len rfl rfl tyl_sl_int64) ?_
 refine at_op rfl ?_
 refine op_callP (k := 0) (X := { v : Int // 0 ≤ v ∧ v < (m : Int) }) (v := fun x => .int .i64 x.1) (r' := fun _ => srcR b A n c (K + 1)) ok_p_spec_l00Src_pick rfl rfl rfl (by decide) rfl (fun w1 hs => pick_any (zs := zs) (m : Int) (by omega) (by omega) (hB.ovx hs.over hne) hne (hs.all 0 _ rfl).1 hn hK) ?_
 rintro ⟨v1, hv1⟩
 refine at_rsE (by simp only [ya,yb,yc,yd,Value.cells,ye]; rfl) ?_
 try dsimp only
 obtain ⟨i, rfl⟩ : ∃ i : Nat, v1 = (i : Int) := ⟨v1.toNat, by omega⟩
 refine at_q rfl rfl (by decide) (qt_index rfl rfl rfl tyl_sl_int64 (by omega)) ?_
 refine at_q rfl rfl (by decide) (qt_load1 rfl rfl ty1_int64 (fun w' hs => by obtain ⟨b', o', e, _, hc⟩ := (hN.ovx hs.over hne2).2 (by omega); injection e with e; injection e with e1 e2 _; subst e1 e2; rw [Nat.mul_one]; exact hc i (by omega))) ?_
 refine at_q rfl rfl (by decide) (qt_assign rfl rfl) ?_
 refine at_end ?_
 refine at_retc ?_
 refine at_ret1 rfl (.tmp rfl) ?_
 intro w' hs
 exact ⟨⟨_, by show nth xs i ∈ xs; rw [← nth_at (show i < xs.length by omega)]; exact List.getElem_mem _⟩, rfl, wrsX hs, (hs.all 0 _ rfl).1, fun q hq => .inl hq, rfl⟩
theorem coord_any (m : Int) (hm : 0 ≤ m) (hm2 : m ≤ 262144) (hB : Byts w A n zs) (hne : 0 < n → ∀ p, A = some p → p.block ≠ b) (hP : (srcR b A n c K).P w) (hn : n ≤ 1048576) (hK : K ≤ 999990) :
  Drw Tryd.prog 102 #[.pointer (some ⟨b, 0, none⟩), .int .i64 m] w b A n c K (K + 4) (fun v => -m ≤ v ∧ v ≤ m) := by
 refine walk_fromR (m := 24) ([b]) (srcR b A n c K) (hP) (fun q hq => List.mem_singleton.2 hq) rfl (Tryd.func102) rfl rfl (Nat.le_of_ble_eq_true rfl) ?_
 refine at_seq ?_
 refine at_region ?_
 refine at_q rfl rfl (by decide) (qt_assign rfl rfl) ?_
 refine at_end ?_
 refine at_seq ?_
 refine at_region ?_
 refine at_q rfl rfl (by decide) (qt_move rfl rfl) ?_
 refine at_op rfl ?_
 refine op_callP (k := 0) (X := { v : Int // 0 ≤ v ∧ v ≤ 255 }) (v := fun x => .int .i64 x.1) (r' := fun _ => srcR b A n c (K + 1)) ok_p_spec_l00Src_next rfl rfl rfl (by decide) rfl (fun w1 hs => next_any b A n c zs K w1 (hB.ovx hs.over hne) hne (hs.all 0 _ rfl).1 hn (by omega)) ?_
 rintro ⟨v1, hv1⟩
 refine at_rsE (by simp only [ya,yb,yc,yd,Value.cells,ye]; rfl) ?_
 try dsimp only
 refine at_q rfl rfl (by decide) (qt_mul rfl rfl rfl (by omega) (by omega)) ?_
 refine at_q rfl rfl (by decide) (qt_move rfl rfl) ?_
 refine at_op rfl ?_
 refine op_callP (k := 0) (X := { v : Int // 0 ≤ v ∧ v ≤ 255 }) (v := fun x => .int .i64 x.1) (r' := fun _ => srcR b A n c (K + 2)) ok_p_spec_l00Src_next rfl rfl rfl (by decide) rfl (fun w1 hs => next_any b A n c zs (K + 1) w1 (hB.ovx hs.over hne) hne (hs.all 0 _ rfl).1 hn (by omega)) ?_
 rintro ⟨v2, hv2⟩
 refine at_rsE (by simp only [ya,yb,yc,yd,Value.cells,ye]; rfl) ?_
 try dsimp only
 refine at_q rfl rfl (by decide) (qt_mul rfl rfl rfl (by omega) (by omega)) ?_
 refine at_q rfl rfl (by decide) (qt_add rfl rfl rfl (by omega) (by omega)) ?_
 refine at_q rfl rfl (by decide) (qt_move rfl rfl) ?_
 refine at_op rfl ?_
 refine op_callP (k := 0) (X := { v : Int // 0 ≤ v ∧ v ≤ 255 }) (v := fun x => .int .i64 x.1) (r' := fun _ => srcR b A n c (K + 3)) ok_p_spec_l00Src_next rfl rfl rfl (by decide) rfl (fun w1 hs => next_any b A n c zs (K + 2) w1 (hB.ovx hs.over hne) hne (hs.all 0 _ rfl).1 hn (by omega)) ?_
 rintro ⟨v3, hv3⟩
 refine at_rsE (by simp only [ya,yb,yc,yd,Value.cells,ye]; rfl) ?_
 try dsimp only
 refine at_q rfl rfl (by decide) (qt_add rfl rfl rfl (by omega) (by omega)) ?_
 refine at_q rfl rfl (by decide) (qt_move rfl rfl) ?_
 refine at_q rfl rfl (by decide) (qt_add rfl rfl rfl (by omega) (by omega)) ?_
 refine at_q rfl rfl (by decide) (qt_rem rfl rfl rfl (by omega) (by omega) (by omega)) ?_
 have hr := tmod_in (a := v1 * 65536 + v2 * 256 + v3) (m := m + 1) (by omega) (by omega)
 obtain ⟨r, hrr⟩ : ∃ r, r = (v1 * 65536 + v2 * 256 + v3).tmod (m + 1) := ⟨_, rfl⟩
 rw [← hrr] at hr ⊢
 refine at_q rfl rfl (by decide) (qt_assign rfl rfl) ?_
 refine at_end ?_
 refine at_seq ?_
 refine at_seq ?_
 refine at_region ?_
 refine at_q rfl rfl (by decide) (qt_move rfl rfl) ?_
 refine at_op rfl ?_
 refine op_callP (k := 0) (X := Bool) (v := fun x => .bool x) (r' := fun _ => srcR b A n c (K + 4)) ok_p_spec_l00Src_one rfl rfl rfl (by decide) rfl (fun w1 hs => one_any (zs := zs) (K := K + 3) 2 (by decide) (by decide) (hB.ovx hs.over hne) hne (hs.all 0 _ rfl).1 hn (by omega)) ?_
 rintro ob
 refine at_rsE (by simp only [ya,yb,yc,yd,Value.cells,ye]; rfl) ?_
 refine at_end ?_
 refine at_cond rfl (fun c1 => ?_) (fun c1 => ?_)
 ·try simp only [za,zb,zc,zd,ze,zf,Bool.not_true,Bool.not_false,zg,zh,ne_eq,zi,zj] at c1
  refine at_seq ?_
  refine at_region ?_
  refine at_q rfl rfl (by decide) (qt_move rfl rfl) ?_
  refine at_q rfl rfl (by decide) (qt_neg rfl rfl (by omega) (by omega)) ?_
  refine at_q rfl rfl (by decide) (qt_assign rfl rfl) ?_
  refine at_end ?_
  refine at_retc ?_
  refine then_ret ?_
  refine at_ret1 rfl (.tmp rfl) ?_
  intro w' hs
  exact ⟨⟨_, by omega⟩, rfl, wrsX hs, (hs.all 0 _ rfl).1, fun q hq => .inl hq, rfl⟩
 ·try simp only [za,zb,zc,zd,ze,zf,Bool.not_true,Bool.not_false,zg,zh,ne_eq,zi,zj] at c1
  refine at_skip ?_
  refine norm_then ?_
  refine at_seq ?_
  refine at_region ?_
  refine at_q rfl rfl (by decide) (qt_move rfl rfl) ?_
  refine at_q rfl rfl (by decide) (qt_assign rfl rfl) ?_
  refine at_end ?_
  refine at_retc ?_
  refine at_ret1 rfl (.tmp rfl) ?_
  intro w' hs
  exact ⟨⟨_, by omega⟩, rfl, wrsX hs, (hs.all 0 _ rfl).1, fun q hq => .inl hq, rfl⟩
/-- A point whose coordinates are at most m. -/
def bdI (m : Int) (p : Pn) : Prop := (-m ≤ p.1 ∧ p.1 ≤ m) ∧ -m ≤ p.2 ∧ p.2 ≤ m
theorem draw_any (m : Int) (hm : 0 ≤ m) (hm2 : m ≤ 262144) (hB : Byts w A n zs) (hne : 0 < n → ∀ p, A = some p → p.block ≠ b) (hP : (srcR b A n c K).P w) (hn : n ≤ 1048576) (hK : K ≤ 999980) :
  DrwX Tryd.prog 81 #[.pointer (some ⟨b, 0, none⟩), .int .i64 m] w b A n c K (K + 8) (fun x : { p : Pn // bdI m p } => pV x.1) := by
 refine walk_fromR (m := 14) ([b]) (srcR b A n c K) (hP) (fun q hq => List.mem_singleton.2 hq) rfl (Tryd.func81) rfl rfl (Nat.le_of_ble_eq_true rfl) ?_
 refine at_seq ?_
 refine at_region ?_
 refine at_op rfl ?_
 refine op_alloc rfl tyz_impl_Pt rfl (by decide) (fun b1 => ?_)
 refine at_rsE (by simp only [ya,yb,yc,yd,Value.cells,ye]; rfl) ?_
 refine at_end ?_
 refine at_seq ?_
 refine at_region ?_
 refine at_q rfl rfl (by decide) (qt_move rfl rfl) ?_
 refine at_q rfl rfl (by decide) (qt_move rfl rfl) ?_
 refine at_op rfl ?_
 refine op_callP (k := 0) (X := { v : Int // -m ≤ v ∧ v ≤ m }) (v := fun x => .int .i64 x.1) (r' := fun _ => srcR b A n c (K + 4)) ok_spec_l03Coord rfl rfl rfl (by decide) rfl (fun w1 hs => coord_any (zs := zs) m hm hm2 (hB.ovx hs.over hne) hne (hs.all 0 _ rfl).1 hn (by omega)) ?_
 rintro ⟨v1, hv1⟩
 refine at_rsE (by simp only [ya,yb,yc,yd,Value.cells,ye]; rfl) ?_
 try dsimp only
 refine at_q rfl rfl (by decide) (qt_assign rfl rfl) ?_
 refine at_end ?_
 refine at_seq ?_
 refine at_region ?_
 refine at_q rfl rfl (by decide) (qt_move rfl rfl) ?_
 refine at_q rfl rfl (by decide) (qt_move rfl rfl) ?_
 refine at_q rfl rfl (by decide) (qt_move rfl rfl) ?_
 refine at_op rfl ?_
 refine op_callP (k := 0) (X := { v : Int // -m ≤ v ∧ v ≤ m }) (v := fun x => .int .i64 x.1) (r' := fun _ => srcR b A n c (K + 8)) ok_spec_l03Coord rfl rfl rfl (by decide) rfl (fun w1 hs => coord_any (zs := zs) (K := K + 4) m hm hm2 (hB.ovx hs.over hne) hne (hs.all 0 _ rfl).1 hn (by omega)) ?_
 rintro ⟨v2, hv2⟩
 refine at_rsE (by simp only [ya,yb,yc,yd,Value.cells,ye]; rfl) ?_
 try dsimp only
 refine at_q rfl rfl (by decide) (qt_build rfl rfl (bld_impl_Pt_0_1 rfl rfl)) ?_
 refine at_op rfl ?_
 refine op_storeAll' (k := 1) rfl rfl rfl rfl (rfl) (by rfl) tyz_impl_Pt.szx rfl rfl rfl ?_
 refine at_rsE (by simp only [ya,yb,yc,yd,Value.cells,ye]; rfl) ?_
 refine at_end ?_
 refine at_retc ?_
 refine at_ret1 rfl (rvCelS (k := 1) rfl tys_impl_Pt rfl rfl) ?_
 intro w' hs
 exact ⟨⟨(v1, v2), hv1, hv2⟩, rfl, wrsX hs, (hs.all 0 _ rfl).1, fun q hq => .inl hq, rfl⟩
end
theorem bdI_2 {m : Int} {p : Pn} (h : bdI m p) (hm : m ≤ 262144) : bd2 p := by
 obtain ⟨⟨h1, h2⟩, h3, h4⟩ := h
 exact ⟨⟨by omega, by omega⟩, by omega, by omega⟩
theorem l00From_any (A : Option Addr) (n c : Nat) (w : World) :
  Calls Tryd.prog 30 #[.slice A n c] w fun e w' => ∃ g : Nat, e = .returned (.pointer (some ⟨g, 0, none⟩)) ∧ Over w w' ∧ (srcR g A n c 0).P w' ∧ (∀ q, (srcR g A n c 0).F q → w.heap.size ≤ q) ∧ (srcR g A n c 0).B = 0 ∧ True := by
 refine walk_from (m := 6) (Tryd.func30) rfl rfl (Nat.le_of_ble_eq_true rfl) ?_
 refine at_seq ?_
 refine at_region ?_
 refine at_q rfl rfl (by decide) (qt_assign rfl rfl) ?_
 refine at_end ?_
 refine at_seq ?_
 refine at_region ?_
 refine at_q rfl rfl (by decide) (qt_move rfl rfl) ?_
 refine at_q rfl rfl (by decide) (qt_build rfl rfl (bld_spec_l00Src_0 rfl)) ?_
 refine at_op rfl ?_
 refine op_box rfl rfl (rfl) rfl (by decide) (fun b1 => ?_)
 refine at_rsE (by simp only [ya,yb,yc,yd,Value.cells,ye]; rfl) ?_
 refine at_q rfl rfl (by decide) (qt_assign rfl rfl) ?_
 refine at_end ?_
 refine at_retc ?_
 refine at_ret1 rfl (.tmp rfl) ?_
 intro w' hs
 exact ⟨b1, rfl, hs.fin, ⟨0, 0, Nat.le_refl _, by decide, by decide, hs.cel (k := 0) rfl⟩, fun q hq => hq ▸ ((hs.all 0 _ rfl).2.1 b1 rfl).elim id (fun h => by cases h), rfl, trivial⟩
theorem numsCel {w0 : Bs} {Rs : List Res} {k b T m : Nat} (xs : List Int) (hk : Rs[k]? = some (.cel b T (xs.map (Value.int .i64)))) (hm : xs.length = m) : ∀ w, St w0 Rs w → Nums w (some ⟨b, 0, none⟩) m xs := fun w hs => by
 have hh := hs.cel hk
 refine ⟨hm, fun _ => ⟨b, 0, rfl, lt_of_some hh, fun j hj => ?_⟩⟩
 rw [Nat.zero_add, cell_of_row w b _ _ T (0, 0) hh, List.getElem?_toArray, List.getElem?_map, List.getElem?_eq_getElem (show j < xs.length by omega), nth_at (by omega)]
 rfl
section
variable {n c : Nat} {A : Option Addr} {zs : List Int} {w : World}
theorem byNe (hB : Byts w A n zs) {g : Nat} (hg : w.heap.size ≤ g) : 0 < n → ∀ p, A = some p → p.block ≠ g := fun h0 p hp e => by
 obtain ⟨b, o, hA, hlt, _⟩ := hB.2.2 h0
 rw [hA] at hp
 injection hp with hp
 subst hp
 have : b = g := e
 omega
end
end Go.Proofs.YtjhaakollekjeaaDoor
