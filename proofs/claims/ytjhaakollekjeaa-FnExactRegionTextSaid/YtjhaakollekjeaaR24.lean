import Derived.Test.YtjhaakollekjeaaR23
import Derived.Test.YtjhaakollekjeaaR16
import Derived.Shelf.Strings.OnBuilder
import Derived.Test.YtjhaakollekjeaaR1
namespace Go.Proofs.Ytjhaakollekjeaa
open Go Go.RowKit
set_option linter.unusedVariables false
set_option linter.unusedSimpArgs false
set_option maxRecDepth 100000
set_option maxHeartbeats 4000000
set_option linter.unusedVariables false
set_option linter.unusedSimpArgs false
/-- The text of the first rings. -/
def rgTx (rs : List Ring_) : Nat → List UInt8
 | 0 => []
 | k + 1 => rgTx rs k ++ (jnTo (rg rs k) (rg rs k).length ++ [10])
theorem rgTx_len {rs : List Ring_} (h : ∀ j, j < rs.length → (rg rs j).length ≤ 400) : ∀ k, k ≤ rs.length → (rgTx rs k).length ≤ 20000 * k
 | 0, _ => Nat.le_refl _
 | k + 1, hk => by
  have := rgTx_len h k (by omega)
  have := jnTo_len (rg rs k) (rg rs k).length
  have := h k (by omega)
  rw [rgTx, List.length_append, List.length_append]
  simp
  omega
theorem ring_okB {xs : Ring_} (h : ringB xs = true) : ∀ p ∈ xs, okB p.1 p.2 = true := fun p hp => by
 simp only [ringB, Bool.and_eq_true] at h
 exact List.all_eq_true.1 h.2 p hp
theorem l13Text_any (p q : Nat) (A : Option Addr) (n c : Nat) (rs : List Ring_) (w : World) (hcell : w.cell? ⟨p, q, none⟩ = some (.slice A n c)) (hp : p < w.heap.size) (h : Rings w A n rs) (hr : regionB rs = true) : Calls Try.prog 29 #[.pointer (some ⟨p, q, none⟩)] w fun e w' => e = .returned (.string ⟨(rgTx rs n).toArray⟩) ∧ Over w w' := by
 have hl := h.1
 have h40 := reg_len hr
 have h400 : ∀ j, j < rs.length → (rg rs j).length ≤ 400 := fun j hj => by have := pos_of_ring (regRing hr hj); omega
 refine walk_from (m := 27) (Try.func29) rfl rfl (Nat.le_of_ble_eq_true rfl) ?_
 refine at_seq ?_
 refine at_region ?_
 refine at_q rfl rfl (by decide) (qt_assign rfl rfl) ?_
 refine at_end ?_
 refine at_seq ?_
 refine at_region ?_
 refine at_q rfl rfl (by decide) (qt_assign rfl rfl) ?_
 refine at_end ?_
 refine at_seq ?_
 refine at_seq ?_
 refine at_region ?_
 refine at_q rfl rfl (by decide) (qt_assign rfl rfl) ?_
 refine at_end ?_
 refine at_block ?_
 refine at_loopk (X := Nat) (fun k => k ≤ n) (fun k => n - k) (fun k => [(3, .string ⟨(rgTx rs k).toArray⟩), (4, .int .i64 (k : Int))]) (C := [(0, _), (2, _)]) ⟨rfl, rfl, trivial⟩ 0 (Nat.zero_le _) ⟨rfl, rfl, rfl, rfl, trivial⟩ ?_
 intro k hk L hL1
 refine at_envE (by simp only [ya,yb]; rfl) ?_
 refine at_seq ?_
 refine at_seq ?_
 refine at_region ?_
 refine at_q rfl rfl (by decide) (qt_move rfl rfl) ?_
 refine at_q rfl rfl (by decide) (qt_move rfl rfl) ?_
 refine at_q rfl rfl (by decide) (qt_nilCheck rfl rfl) ?_
 refine at_q rfl rfl (by decide) (qt_fieldAddr rfl rfl tyf_impl_Region_0) ?_
 refine at_q rfl rfl (by decide) (qt_load1 rfl rfl ty1_sl_impl_Ring (rdOld0 hcell hp)) ?_
 refine at_q rfl rfl (by decide) (qt_len rfl rfl tyl_sl_impl_Ring) ?_
 refine at_q rfl rfl (by decide) (qt_lss rfl rfl rfl) ?_
 refine at_end ?_
 refine at_cond rfl (fun c1 => ?_) (fun c1 => ?_)
 ·try simp only [za,zb,zc,zd,ze,zf,Bool.not_true,Bool.not_false,zg,zh,ne_eq,zi,zj] at c1
  have hlt : k < n := (by omega)
  obtain ⟨eb, eo, Ak, ck, rfl, hbB, hcell2, hpts, hmax⟩ := h.at_ hlt
  have hk4 := h400 k (by omega)
  have htl := rgTx_len h400 k (by omega)
  have hjl := jnTo_len (rg rs k) (rg rs k).length
  refine at_skip ?_
  refine norm_then ?_
  refine at_seq ?_
  refine at_block ?_
  refine at_region ?_
  refine at_q rfl rfl (by decide) (qt_move rfl rfl) ?_
  refine at_q rfl rfl (by decide) (qt_move rfl rfl) ?_
  refine at_q rfl rfl (by decide) (qt_nilCheck rfl rfl) ?_
  refine at_q rfl rfl (by decide) (qt_fieldAddr rfl rfl tyf_impl_Region_0) ?_
  refine at_q rfl rfl (by decide) (qt_load1 rfl rfl ty1_sl_impl_Ring (rdOld0 hcell hp)) ?_
  refine at_q rfl rfl (by decide) (qt_move rfl rfl) ?_
  refine at_q rfl rfl (by decide) (qt_index rfl rfl rfl tyl_sl_impl_Ring (by omega)) ?_
  refine at_q rfl rfl (by decide) (qt_fieldAddr rfl rfl tyf_impl_Ring_0) ?_
  refine at_q rfl rfl (by decide) (qt_load1 rfl rfl ty1_sl_impl_Pt (fun w' hs => rdOld1 hcell2 hbB w' hs 0 _ rfl)) ?_
  refine at_q rfl rfl (by decide) (qt_call ok_spec_l09Points rfl rfl (fun w1 hs => l09Points_any Ak _ ck (rg rs k) w1 (hpts.over hs.fin) hk4 (ring_okB (regRing hr (show k < rs.length by omega))))) ?_
  refine at_q rfl rfl (by decide) ((qt_addS (b := ⟨[10].toArray⟩) rfl rfl rfl (by rw [ba_size, ba_size]; simp; omega)).as (congrArg Value.string (ba_app _ _))) ?_
  refine at_q rfl rfl (by decide) ((qt_addS rfl rfl rfl (by rw [ba_size, ba_size, List.length_append]; simp; omega)).as (congrArg Value.string (ba_app _ _))) ?_
  refine at_q rfl rfl (by decide) (qt_assign rfl rfl) ?_
  refine at_nil ?_
  refine norm_block ?_
  refine norm_then ?_
  refine at_region ?_
  refine at_q rfl rfl (by decide) (qt_move rfl rfl) ?_
  refine at_q rfl rfl (by decide) (qt_add rfl rfl rfl (by omega) (by omega)) ?_
  refine at_q rfl rfl (by decide) (qt_assign rfl rfl) ?_
  refine at_end ?_
  exact at_againk hL1 (k + 1) (by omega) (by omega) ⟨rfl, vi (by omega), rfl, rfl, trivial⟩ (fun _ h => h.upto trivial)
 ·try simp only [za,zb,zc,zd,ze,zf,Bool.not_true,Bool.not_false,zg,zh,ne_eq,zi,zj] at c1
  have hkn : k = n := (by omega)
  subst hkn
  refine at_exit ?_
  refine pass_then (fun h => by cases h) ?_
  refine pass_then (fun h => by cases h) ?_
  refine pass_hit ?_
  refine norm_then ?_
  refine at_seq ?_
  refine at_region ?_
  refine at_q rfl rfl (by decide) (qt_move rfl rfl) ?_
  refine at_q rfl rfl (by decide) (qt_assign rfl rfl) ?_
  refine at_end ?_
  refine at_retc ?_
  refine at_ret1 rfl (.tmp rfl) ?_
  intro w' hs
  exact ⟨rfl, hs.fin⟩
theorem specRegionText_any (A : Option Addr) (n c : Nat) (rs : List Ring_) (w : World) (h : Rings w A n rs) (ht : (total rs : Int) ≤ 1048577) : Calls Try.prog 7 #[regV A n c] w fun e w' => e = .returned (.string ⟨(if regionB rs = true then rgTx rs n else []).toArray⟩) ∧ Over w w' := by
 refine walk_from (m := 6) (Try.func7) rfl rfl (Nat.le_of_ble_eq_true rfl) ?_
 refine at_seq ?_
 refine at_region ?_
 refine at_op rfl ?_
 refine op_box rfl rfl (rfl) rfl (by decide) (fun b1 => ?_)
 refine at_rsE (by simp only [ya,yb,yc,yd,Value.cells,ye]; rfl) ?_
 refine at_q rfl rfl (by decide) (qt_assign rfl rfl) ?_
 refine at_end ?_
 refine at_seq ?_
 refine at_seq ?_
 refine at_region ?_
 refine at_q rfl rfl (by decide) (qt_call ok_spec_l13Ok rfl rfl (fun w1 hs => l13Ok_any b1 0 A n c rs w1 (rd1 (k := 0) rfl rfl w1 hs) (lt_of_some (hs.cel (k := 0) rfl)) (h.over hs.fin) ht)) ?_
 refine at_q rfl rfl (by decide) (qt_not rfl rfl) ?_
 refine at_end ?_
 refine at_cond rfl (fun c1 => ?_) (fun c1 => ?_)
 ·try simp only [za,zb,zc,zd,ze,zf,Bool.not_true,Bool.not_false,zg,zh,ne_eq,zi,zj] at c1
  refine at_seq ?_
  refine at_region ?_
  refine at_q rfl rfl (by decide) (qt_assign rfl rfl) ?_
  refine at_end ?_
  refine at_retc ?_
  refine then_ret ?_
  refine at_ret1 rfl (.tmp rfl) ?_
  intro w' hs
  exact ⟨by rw [if_neg (by simpa using c1)], hs.fin⟩
 ·try simp only [za,zb,zc,zd,ze,zf,Bool.not_true,Bool.not_false,zg,zh,ne_eq,zi,zj] at c1
  have hr : regionB rs = true := (by simpa using c1)
  refine at_skip ?_
  refine norm_then ?_
  refine at_seq ?_
  refine at_region ?_
  refine at_q rfl rfl (by decide) (qt_call ok_spec_l13Text rfl rfl (fun w1 hs => l13Text_any b1 0 A n c rs w1 (rd1 (k := 0) rfl rfl w1 hs) (lt_of_some (hs.cel (k := 0) rfl)) (h.over hs.fin) hr)) ?_
  refine at_q rfl rfl (by decide) (qt_assign rfl rfl) ?_
  refine at_end ?_
  refine at_retc ?_
  refine at_ret1 rfl (.tmp rfl) ?_
  intro w' hs
  exact ⟨by rw [if_pos hr], hs.fin⟩
end Go.Proofs.Ytjhaakollekjeaa

namespace Go.Proofs.Ytjhaakollekjeaa
open Go Go.Shelf Go.Proofs Go.RowKit
set_option linter.unusedVariables false
set_option linter.unusedSimpArgs false

def laysJoin_ren : Go.Shelf.Ren := ⟨fun | 156 => 68 | 165 => 112 | 166 => 32 | 169 => 34 | 240 => 66 | 241 => 144 | 276 => 110 | 277 => 166 | n => n, fun | 31 => 125 | 9 => 9 | 3 => 3 | 4 => 4 | 0 => 0 | 20 => 20 | 72 => 73 | 76 => 78 | 70 => 70 | 37 => 71 | 75 => 77 | 127 => 128 | 164 => 176 | 5 => 5 | 80 => 81 | n => n, fun | n => n⟩
theorem laysJoin : Go.Proofs.Lays.n156 Try.prog laysJoin_ren := {
 mixed := by kernel_rfl
 f156 := Try.func68.trans (congrArg some (by kernel_rfl))
 f165 := Try.func112.trans (congrArg some (by kernel_rfl))
 f166 := Try.func32.trans (congrArg some (by kernel_rfl))
 f169 := Try.func34.trans (congrArg some (by kernel_rfl))
 f240 := Try.func66.trans (congrArg some (by kernel_rfl))
 f241 := Try.func144.trans (congrArg some (by kernel_rfl))
 f276 := Try.func110.trans (congrArg some (by kernel_rfl))
 f277 := Try.func166.trans (congrArg some (by kernel_rfl))
 t0 := Try.underlying0
 a0 := Try.isAgg0
 z0 := Try.sizeOf0
 v0 := Try.zeroValue0
 t3 := Try.underlying3
 a3 := Try.isAgg3
 z3 := Try.sizeOf3
 v3 := Try.zeroValue3
 t4 := Try.underlying4
 a4 := Try.isAgg4
 z4 := Try.sizeOf4
 v4 := Try.zeroValue4
 t9 := Try.underlying9
 a9 := Try.isAgg9
 z9 := Try.sizeOf9
 v9 := Try.zeroValue9
 t20 := Try.underlying20
 a20 := Try.isAgg20
 z20 := Try.sizeOf20
 v20 := Try.zeroValue20
 t31 := Try.underlying125
 a31 := Try.isAgg125
 z31 := Try.sizeOf125
 v31 := Try.zeroValue125
 t37 := Try.underlying71
 a37 := Try.isAgg71
 z37 := Try.sizeOf71
 v37 := Try.zeroValue71
 t70 := Try.underlying70
 a70 := Try.isAgg70
 z70 := Try.sizeOf70
 v70 := Try.zeroValue70
 t72 := Try.underlying73
 a72 := Try.isAgg73
 z72 := Try.sizeOf73
 v72 := Try.zeroValue73
 t75 := Try.underlying77
 a75 := Try.isAgg77
 z75 := Try.sizeOf77
 v75 := Try.zeroValue77
 t76 := Try.underlying78
 a76 := Try.isAgg78
 z76 := Try.sizeOf78
 v76 := Try.zeroValue78
 t127 := Try.underlying128
 a127 := Try.isAgg128
 z127 := Try.sizeOf128
 v127 := Try.zeroValue128
 t164 := Try.underlying176
 a164 := Try.isAgg176
 z164 := Try.sizeOf176
 v164 := Try.zeroValue176 }


theorem laysJoin_extra : Builder.Extra Try.prog laysJoin_ren where
 sizeBuilder := by kernel_rfl
 liesBuilder := by kernel_rfl
 t5 := Try.underlying5
 a5 := Try.isAgg5
 z5 := Try.sizeOf5
 v5 := Try.zeroValue5
 infoByte := by kernel_rfl
 cellsByte := by kernel_rfl
 sizeByte := by kernel_rfl
 neB5 := by decide

theorem laysWS : Lays.n166 Try.prog laysJoin_ren := {
 mixed := laysJoin.mixed
 f166 := laysJoin.f166
 f240 := laysJoin.f240
 f276 := laysJoin.f276
 t0 := laysJoin.t0
 a0 := laysJoin.a0
 z0 := laysJoin.z0
 v0 := laysJoin.v0
 t3 := laysJoin.t3
 a3 := laysJoin.a3
 z3 := laysJoin.z3
 v3 := laysJoin.v3
 t4 := laysJoin.t4
 a4 := laysJoin.a4
 z4 := laysJoin.z4
 v4 := laysJoin.v4
 t9 := laysJoin.t9
 a9 := laysJoin.a9
 z9 := laysJoin.z9
 v9 := laysJoin.v9
 t20 := laysJoin.t20
 a20 := laysJoin.a20
 z20 := laysJoin.z20
 v20 := laysJoin.v20
 t37 := laysJoin.t37
 a37 := laysJoin.a37
 z37 := laysJoin.z37
 v37 := laysJoin.v37
 t70 := laysJoin.t70
 a70 := laysJoin.a70
 z70 := laysJoin.z70
 v70 := laysJoin.v70
 t72 := laysJoin.t72
 a72 := laysJoin.a72
 z72 := laysJoin.z72
 v72 := laysJoin.v72
 t75 := laysJoin.t75
 a75 := laysJoin.a75
 z75 := laysJoin.z75
 v75 := laysJoin.v75
 t164 := laysJoin.t164
 a164 := laysJoin.a164
 z164 := laysJoin.z164
 v164 := laysJoin.v164 }

theorem laysStr : Lays.n169 Try.prog laysJoin_ren := {
 mixed := laysJoin.mixed
 f169 := laysJoin.f169
 t0 := laysJoin.t0
 a0 := laysJoin.a0
 z0 := laysJoin.z0
 v0 := laysJoin.v0
 t3 := laysJoin.t3
 a3 := laysJoin.a3
 z3 := laysJoin.z3
 v3 := laysJoin.v3
 t9 := laysJoin.t9
 a9 := laysJoin.a9
 z9 := laysJoin.z9
 v9 := laysJoin.v9
 t37 := laysJoin.t37
 a37 := laysJoin.a37
 z37 := laysJoin.z37
 v37 := laysJoin.v37
 t70 := laysJoin.t70
 a70 := laysJoin.a70
 z70 := laysJoin.z70
 v70 := laysJoin.v70
 t72 := laysJoin.t72
 a72 := laysJoin.a72
 z72 := laysJoin.z72
 v72 := laysJoin.v72
 t127 := laysJoin.t127
 a127 := laysJoin.a127
 z127 := laysJoin.z127
 v127 := laysJoin.v127 }

theorem Join_any (bk o c : Nat) (xs : List ByteArray) (sep : ByteArray) (w : World) (hcells : ∀ (j : Nat) x, xs[j]? = some x → w.cell? ⟨bk, o + j, none⟩ = some (.string x)) (hbk : bk < w.heap.size) (hN : xs.length ≤ 140737488355328) (hcap : xs.length ≤ c)
  (hlen : (Lib.join (xs.map (·.data.toList)) sep.data.toList).length ≤ 140737488355328) :
  Calls Try.prog 68 #[.slice (some ⟨bk, o, none⟩) xs.length c, .string sep] w fun e w' => e = .returned (.string ⟨(Lib.join (xs.map (·.data.toList)) sep.data.toList).toArray⟩) ∧ Over w w' :=
 Any.strings_Join laysJoin laysJoin_extra bk o c xs sep w hcells hbk hN hcap hlen
end Go.Proofs.Ytjhaakollekjeaa
