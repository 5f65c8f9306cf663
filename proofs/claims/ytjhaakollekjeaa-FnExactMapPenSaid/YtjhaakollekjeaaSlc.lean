/- What the laws' walks lean on: slices of points as arguments. -/
import Derived.Test.YtjhaakollekjeaaLawKit
namespace Go.Proofs.Ytjhaakollekjeaa
open Go Go.RowKit
set_option linter.unusedVariables false

theorem szV_okk {l : Int} {n : Nat} (h : 0 ≤ szV l n) : (n : Int) ≤ l ∧ szV l n = l - n := by
 unfold szV at *
 split
 ·exact ⟨by assumption, rfl⟩
 ·rename_i h2; rw [if_neg h2] at h; omega
/-- Points that the laws have copied. -/
theorem ptsPtS (A : Option Addr) (n c : Nat) (xs : List (Int × Int)) (w1 : World) (h : Pts w1 A n xs) (hn : (n : Int) ≤ 1048576) :
  Calls Try.prog 22 #[.slice A n c] w1 fun e w' => ∃ x : Nat × Nat × Nat, e = .returned (.slice (some ⟨x.1, 0, none⟩) n n) ∧ Over w1 w' ∧ (ptsR n xs x.2.1 x.2.2 (some ⟨x.1, 0, none⟩)).P w' ∧ (∀ b, (ptsR n xs x.2.1 x.2.2 (some ⟨x.1, 0, none⟩)).F b → w1.heap.size ≤ b) ∧ (ptsR n xs x.2.1 x.2.2 (some ⟨x.1, 0, none⟩)).B = 0 ∧ True := by
 have hl : xs.length = n := h.1
 subst hl
 refine (toPtS_any A _ c xs w1 h hn).mono ?_
 rintro e w' ⟨g, rfl, hg, ho, hO⟩
 refine ⟨(g, w1.heap.size, w'.heap.size), rfl, hO, ptsP ?_ (Nat.le_refl _), fun b hb => hb.1, rfl, trivial⟩
 obtain ⟨⟨cs, hs, hh⟩, hl, hx⟩ := ho
 refine ⟨rfl, fun h0 => ⟨g, 0, _, cs, rfl, hg, lt_of_some hh, hh, fun k hk => ?_⟩⟩
 obtain ⟨b, o, e, _, hc⟩ := hx h0
 injection e with e
 injection e with e1 e2
 subst e1 e2
 have := hc k hk
 rwa [cell_of_row w' _ _ _ _ (0, 0) hh, cell_of_row w' _ _ _ _ (0, 0) hh] at this
theorem markSlcM (m : Int) {lo hi n c : Nat} {A : Option Addr} {xs : List (Int × Int)} {w : World} (h : OwnP lo hi w A n xs) (hz : hi ≤ w.heap.size) (hm : 0 ≤ m) (hb : m + 2 * (n : Int) ≤ 4611686018427387904) :
  Calls Try.prog 25 #[.slice A n c, .int .i64 m] w fun e w' => e = .returned (.int .i64 (m + 2 * (n : Int))) ∧ Wrs (ptsR n xs lo hi A).F w w' ∧ (ptsR n (marks m n) lo hi A).P w' :=
 (markPtS_any lo hi A n c xs m w h hm hb).mono (by rintro e w' ⟨he, hw, hg⟩; exact ⟨he, hw.mono fun _ h => h.2.2, ptsP hg (Nat.le_trans hz hw.size)⟩)
theorem rowOwn3 {w w' : World} {Rs : List Res} (hs : St ⟨w, []⟩ Rs w') {k B T n : Nat} {x : Option Addr × Nat} {xs : List (Int × Int)} (hk : Rs[k]? = some (rowR B T 2 n (xs.flatMap ptCells) x)) (hn : xs.length = n) : OwnP w.heap.size w'.heap.size w' x.1 n xs := by
 have hr := hs.all k _ hk
 have h := ownP_row (x := x) hr.1 hn
 refine ⟨h.1, fun h0 => ?_⟩
 obtain ⟨b, o, T', cs, e, _, _, hh, hc⟩ := h.2 h0
 refine ⟨b, o, T', cs, e, ?_, lt_of_some hh, hh, hc⟩
 exact (hr.2.1 b (by show Value.ownBlock (.slice x.1 n x.2) = some b; rw [e]; rfl)).elim id (fun h => by cases h)
theorem slcCode {P : Program} {f : FuncId} {args : Array Value} {w1 : World} {xs : List (Int × Int)} {code : Int} (h : Calls P f args w1 fun e w' => ∃ A' c', e = .returned (.tuple #[.slice A' xs.length c', .int .i64 code]) ∧ OwnP w1.heap.size w'.heap.size w' A' xs.length xs ∧ Over w1 w') :
  Calls P f args w1 fun e w' => ∃ x : (Option Addr × Nat) × Nat × Nat, e = .returned (.tuple #[.slice x.1.1 xs.length x.1.2, .int .i64 code]) ∧ Over w1 w' ∧ (ptsR xs.length xs x.2.1 x.2.2 x.1.1).P w' ∧ (∀ b, (ptsR xs.length xs x.2.1 x.2.2 x.1.1).F b → w1.heap.size ≤ b) ∧ (ptsR xs.length xs x.2.1 x.2.2 x.1.1).B = 0 ∧ True :=
 ptsNew (V := fun A c => .tuple #[.slice A xs.length c, .int .i64 code]) h
end Go.Proofs.Ytjhaakollekjeaa
