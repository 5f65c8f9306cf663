/- All edges of a region: the program's side. -/
import Derived.Test.YtnalgllmdpcjcaaValidRegion
namespace Go.Proofs.Ytnalgllmdpcjcaa
open Go Go.RowKit

/-- 'append(s, x...)', s a slice of the call's own, x a row that is known, nil or not. -/
theorem wpList_append_row {P : Program} (w : World) {ops : Array Oper} {rest : List Oper} {o : Oper} {a : Act} {Q : Exit → Act → World → Prop} (hgd : o.guard = none) (s x : Operand) (t : TypeId)
    (ho : o.op = .call { callee := .builtin .append, args := #[s, x], argTypes := #[t, t] })
    (base : Nat) (e : TypeId) (i : TypeInfo) (z : Value) (size bytes : Nat) (ht : P.underlying t = some (.slice e)) (hi : P.info? e = some i) (hz : i.zero = some z)
    (hsize : i.size = size) (hby : i.bytes = bytes) (hzs : z.cells.size = size) (hsz : 0 < size)
    (v : Value) (n : Nat) (xs : List Value) (hs : a.eval s = v) (hown : w.ownsRow base e size v n xs)
    (B2 : Nat) (v2 : Value) (m : Nat) (news : List Value) (hx : a.eval x = v2) (hrow : w.ownsRow B2 e size v2 m news) (h1 : ∀ u ∈ news, u.oneCell' = true)
    (h63 : n + m ≤ maxLen) (hbytes : (n + m) * bytes ≤ 140737488355328) (hbase : base ≤ w.heap.size)
    (h : ∀ v' w', w'.ownsRow base e size v' (n + m) (xs ++ news) → w.grownBy w' v.ownBlock → wpList P ops Q rest (a.put o.dst v') w') : wpList P ops Q (o :: rest) a w := by
  by_cases hv : v2 = .slice none 0 0
  · subst hv
    have hm : m = 0 := by
      rcases hrow.2 with ⟨_, hm⟩ | ⟨g, cap, cur, e, _⟩
      · exact hm
      · cases e
    subst hm
    have hnews : news = [] := List.eq_nil_of_length_eq_zero (by simpa using hrow.1)
    subst hnews
    refine wpList_plain hgd fun K hK' => ?_
    have hrun := run_append_owned_none (P := P) w base t o.type e i size ht hi v n xs hown
    unfold Oper.wp
    simp [execOp, ho, resolve, invoke, builtin, hs, hx, hrun, Result.andThen]
    exact hK' _ _ (by simpa using h v w (by simpa using hown) (World.grownBy.refl _ _))
  · obtain ⟨g, cap, rfl, hl, hc⟩ := row_form hrow hv
    exact wpList_append_own w hgd s x t ho base e i z size bytes ht hi hz hsize hby hzs hsz v n xs hs hown ⟨g, 0, none⟩ m cap news hx hl hc h1 h63 hbytes hbase (fun v' w' h2 h3 _ => h v' w' h2 h3)

set_option maxHeartbeats 2000000 in
set_option maxRecDepth 100000 in
theorem edgesOf_any (A : Option Addr) (n c : Nat) (rs : List Ring_) (w : World) (h : Rings w A n rs) (ht : (total rs : Int) ≤ 1048577) :
    Calls Try.prog 92 #[regV A n c] w fun e w' => ∃ v, e = .returned v ∧ w'.ownsRow w.heap.size 122 4 v (edgesAll rs).length ((edgesAll rs).flatMap legCells) ∧ Over w w' := by
  obtain ⟨i0, hi, hz0, hz1, hz2⟩ := info_parts2 legInfo
  have hl0 := Lib.hid h.1
  have Ht := Lib.hid ht
  have hn : (n : Int) ≤ 1048577 := by have := hl0.out; unfold total at ht; omega
  clear ht
  go_enter Try.func92, Try.ntmps92
  go_wp2
  go_loopw [3, 9] (fun s i wr => ∃ k : Nat, k ≤ n ∧ i = .int .i64 k ∧ wr.ownsRow w.heap.size 122 4 s (allTo rs k).length ((allTo rs k).flatMap legCells) ∧ Over w wr) (fun _ i _ => n - (intOf i).toNat)
  case atStart => exact ⟨0, Nat.zero_le _, rfl, World.ownsRow_nil _ _ _ _, Over.alloc _ _⟩
  case round =>
    rename_i wr
    obtain ⟨k, hk, rfl, hown, hO⟩ := hrel
    by_cases hlt : k < n
    · obtain ⟨b, o, Ak, ck, rfl, hbB, hcell2, hpts, hmax⟩ := (h.over hO).at_ hlt
      have hr : ((rg rs k).length : Int) ≤ 1048577 := by have := Ht.out; have := rg_le_total rs (k := k) (by rw [hl0.out]; exact hlt); omega
      have hs : Hid (allTo rs (k + 1) = allTo rs k ++ edgesR (rg rs k)) := rfl
      have hsum : (allTo rs k).length + (edgesR (rg rs k)).length ≤ 1048577 := by
        have h1 := allTo_len rs (k + 1)
        have h2 := sumTo_mono rs (show k + 1 ≤ n by omega)
        have h3 := Ht.out
        have h4 := hl0.out
        unfold total at h3
        rw [h4] at h3
        simp only [allTo, List.length_append] at h1
        omega
      have Hown := Lib.hid hown
      have HO := Lib.hid hO
      have HP := Lib.hid hpts
      clear h hown hO hmax hpts
      go_wp2_with fail
      refine (edgesOfRing_any _ _ _ (rg rs k) _ (HP.out.over (by repeat (first | exact Over.refl _ | (with_reducible assumption) | refine Over.alloc_ ?_ _ | refine Over.trans ?_ (by with_reducible assumption) | refine Over.drew_ ?_ | refine Over.set_ ?_ (by simp; try omega) _))) hr).mono ?_
      rintro e w2 ⟨v, rfl, hrow, h2⟩
      have H2 := Lib.hid ((Over.alloc wr (.cells #[.slice Ak (rg rs k).length ck] 38)).trans h2)
      have Hrow := Lib.hid hrow
      clear hrow h2
      go_wp2_with (at_builtin; refine wpList_append_row _ rfl _ _ 119 rfl w.heap.size 122 i0 _ 4 32 Try.underlying119 hi hz0 hz1 hz2 rfl (by decide) _ _ _ rfl (row_over Hown.out H2.out) _ _ _ _ rfl Hrow.out (legs_one _) (by unfold maxLen; omega) (by omega) (by have := HO.out.size; have := H2.out.size; omega) ?_)
      intro v' w5 hown5 hgrow5
      have R1 : Hid (Over w w5) := over_grown HO.out Hown.out (Nat.le_refl _) H2.out hgrow5
      have R2 : Hid (w5.ownsRow w.heap.size 122 4 v' (allTo rs (k + 1)).length ((allTo rs (k + 1)).flatMap legCells)) := by
        unfold Hid
        rw [hs.out]
        simpa using hown5
      clear hown5 hgrow5
      go_wp2
      go_roundw
      case rel => exact ⟨k + 1, by omega, by go_num, R2.out, R1.out⟩
      case measure => simp [intOf]; omega
    · clear h
      have hkn : k = n := by omega
      have hb' := Lib.hid hO
      have hr : Hid (wr.ownsRow w.heap.size 122 4 u3 (edgesAll rs).length ((edgesAll rs).flatMap legCells)) := by
        unfold Hid edgesAll
        rw [hl0.out, ← hkn]
        exact hown
      clear hown hO
      go_wp2
      go_ret
      exact ⟨_, rfl, hr.out, hb'.out⟩
end Go.Proofs.Ytnalgllmdpcjcaa
