/- Facts on valid regions. -/
import Derived.Test.YtjhaakollekjeaaLaw
import Derived.Test.YtjhaakollekjeaaOn
import Derived.Test.YtjhaakollekjeaaValidRegion
namespace Go.Proofs.Ytjhaakollekjeaa
open Go Go.RowKit
set_option linter.unusedVariables false
set_option linter.unusedSimpArgs false

/-! ### New rows -/
theorem row_slice {w : World} {B T s n : Nat} {v : Value} {xs : List Value} (h : w.ownsRow B T s v n xs) : ∃ x : Option Addr × Nat, v = .slice x.1 n x.2 := by
 rcases h.2 with ⟨rfl, rfl⟩ | ⟨g, cap, cur, rfl, _⟩
 ·exact ⟨(none, 0), rfl⟩
 ·exact ⟨(some ⟨g, 0, none⟩, cap), rfl⟩
abbrev rowR (B T s n : Nat) (xs : List Value) (x : Option Addr × Nat) : Res := .row B T s (.slice x.1 n x.2) n xs
theorem newRow {P : Program} {f : FuncId} {args : Array Value} {w1 : World} {T s n : Nat} {xs : List Value} {X : Value → Prop} (h : Calls P f args w1 fun e w' => ∃ v, e = .returned v ∧ X v ∧ w'.ownsRow w1.heap.size T s v n xs ∧ Over w1 w') :
  Calls P f args w1 fun e w' => ∃ x : Option Addr × Nat, e = .returned (.slice x.1 n x.2) ∧ Over w1 w' ∧ (rowR 0 T s n xs x).P w' ∧ (∀ b, (rowR 0 T s n xs x).F b → w1.heap.size ≤ b) ∧ (rowR 0 T s n xs x).B = 0 ∧ X (.slice x.1 n x.2) := by
 refine h.mono ?_
 rintro e w' ⟨v, rfl, hX, hr, hO⟩
 obtain ⟨x, rfl⟩ := row_slice hr
 exact ⟨x, rfl, hO, row_low hr (Nat.zero_le _), fun b hb => (hr.lt b hb).1, rfl, hX⟩
theorem newRow' {P : Program} {f : FuncId} {args : Array Value} {w1 : World} {T s n : Nat} {xs : List Value} (h : Calls P f args w1 fun e w' => ∃ v, e = .returned v ∧ w'.ownsRow w1.heap.size T s v n xs ∧ Over w1 w') :
  Calls P f args w1 fun e w' => ∃ x : Option Addr × Nat, e = .returned (.slice x.1 n x.2) ∧ Over w1 w' ∧ (rowR 0 T s n xs x).P w' ∧ (∀ b, (rowR 0 T s n xs x).F b → w1.heap.size ≤ b) ∧ (rowR 0 T s n xs x).B = 0 ∧ True :=
 newRow (X := fun _ => True) (h.mono fun e w' ⟨v, h1, h2, h3⟩ => ⟨v, h1, trivial, h2, h3⟩)
section
variable {w : World} {w0 : Bs} {Rs : List Res}
end

theorem regRing {rs : List Ring_} (h : regionB rs = true) {k : Nat} (hk : k < rs.length) : ringB (rg rs k) = true := by
 simp [regionB] at h
 have := h.1.2 rs[k] (List.getElem_mem hk)
 rwa [at_r hk] at this
/-! ### Operations that ask nothing of memory -/
def Qp (P : Program) (o : Oper) (n : Nat) (env : List (Nat × Value)) (v : Value) : Prop := ∀ a w, Frm n env a → (execOp a.eval o).run P w = .ok (.value v) w
section
variable {P : Program} {n : Nat} {env : List (Nat × Value)} {w0 : Bs} {Rs : List Res} {ops : Array Oper} {Q : Exit → Act → World → Prop} {o : Oper} {fuel : Nat} {listed : Array Bool}
theorem qp_move {x : Operand} {v : Value} (ho : o.op = .move x) (hx : ev env x = some v) : Qp P o n env v := fun a w hf => by unfold execOp; simp only [ho, hf.ev hx]; simp []
/-- Such an operation may be taken first, whatever may stand ahead of it. -/
theorem dp_q {i d : Nat} {v : Value} (hi : ops[i]? = some o) (hS : Region.noSelect ops = true) (hfr : Region.free .any ops listed i = true) (hrd : (Region.ready .any ops listed).contains i = true) (hQ : ∀ c a w, Q (.panic c) (a.put o.dst v) w → Q (.panic c) a w)
  (hg : o.guard = none) (hd : o.dst = some d) (hn : d < n) (hq : Qp P o n env v)
  (h : At n ((d, v) :: env) w0 Rs (fun a w => wpAny P .any ops Q fuel (listed.setIfInBounds i true) a w)) : At n env w0 Rs (fun a w => wpAny P .any ops Q (fuel + 1) listed a w) :=
 fun a w hf hs => wpAny_take hi hS hfr hrd hQ (.inl ⟨by simp [Region.wanted, hg], fun w' => hq a w' hf⟩) (hd ▸ h _ w (hf.put hn v) hs)
end

/-- A made slice without elements, as a row. -/
theorem at_rowN {n : Nat} {env : List (Nat × Value)} {w0 : Bs} {Rs : List Res} {K : Act → World → Prop} (k s : Nat) (hX : w0.X = []) {b U : Nat} (hk : Rs[k]? = some (.cel b U [])) (h : At n env w0 (Rs.set k (.row w0.N U s (.slice (some ⟨b, 0, none⟩) 0 0) 0 [])) K) : At n env w0 Rs K := at_rowE (m := 0) k hX hk h
/-- What is appended to a row: the slice that comes back. -/
theorem op_appendR {P : Program} {n : Nat} {env : List (Nat × Value)} {w0 : Bs} {Rs : List Res} {Q : Exit → Act → World → Prop} {K : Act → World → Prop} {o : Oper} {x y : Operand} {T U s bytes k B0 m d nn : Nat} {z v v2 : Value} {xs news : List Value} (ho : o.op = .call { callee := .builtin .append, args := #[x, y], argTypes := #[T, T] }) (hT : TyL P T U s) (hZ : TyZ P U s bytes z) (hs0 : 0 < s) (hd : o.dst = some d) (hn : d < n)
  (hx : ev env x = some v) (hy : ev env y = some v2) (hk : Rs[k]? = some (.row B0 U s v nn xs)) (hsrc : ∀ w, St w0 Rs w → Src s v2 m news w) (h1 : ∀ u ∈ news, u.oneCell' = true)
  (h63 : nn + m ≤ maxLen) (hbytes : (nn + m) * bytes ≤ 140737488355328) (hB : B0 ≤ w0.N)
  (h : ∀ r : Option Addr × Nat, At n ((d, .slice r.1 (nn + m) r.2) :: env) w0 (Rs.set k (.row B0 U s (.slice r.1 (nn + m) r.2) (nn + m) (xs ++ news))) K) : At n env w0 Rs (fun a w => o.wp P a w K Q) :=
 op_appendS ho hT hZ hs0 hd hn hx hy hk hsrc h1 h63 hbytes hB fun v' => at_fact (X := ∃ r : Option Addr × Nat, v' = .slice r.1 (nn + m) r.2) (fun w hs => by
  have hkl : k < Rs.length := (List.getElem?_eq_some_iff.1 hk).1
  exact row_slice (hs.all k _ (by rw [List.getElem?_set, if_pos rfl, if_pos hkl])).1) (by rintro ⟨r, rfl⟩; exact h r)
section
variable {P : Program} {n : Nat} {env : List (Nat × Value)} {w0 : Bs} {Rs : List Res} {ops : Array Oper} {Q : Exit → Act → World → Prop} {K : Act → World → Prop}
/-- Ways that meet again, with what they have made. -/
theorem at_cutX {x y : Code} {X : Type} (H : X → Prop) (E : X → List (Nat × Value)) {C : List (Nat × Value)} (hC : sub env C) (Rs' : X → List Res) (h1 : ∀ L : Act → World → Prop, (∀ x, H x → At n (E x ++ C) w0 (Rs' x) L) → At n env w0 Rs (fun a w => x.wp P (Exit.then L Q) a w))
  (h2 : ∀ x, H x → At n (E x ++ C) w0 (Rs' x) (fun a w => y.wp P Q a w)) : At n env w0 Rs (fun a w => (Code.seq x y).wp P Q a w) := at_seq (h1 _ h2)
theorem at_meetX {X : Type} {H : X → Prop} {E : X → List (Nat × Value)} {C : List (Nat × Value)} {Rs' : X → List Res} (hL : ∀ x, H x → At n (E x ++ C) w0 (Rs' x) K) (x : X) (hx : H x) (he : sub env (E x ++ C)) (hr : ∀ w, St w0 Rs w → St w0 (Rs' x) w) : At n env w0 Rs K := at_conv he hr (hL x hx)
/-- Some of the pieces, in another order. -/
theorem St.picks {w : World} (l : List Nat) (h : St w0 Rs w) (hn : l.Nodup) : St w0 (l.filterMap (Rs[·]?)) w := by
 have key : ∀ (l : List Nat), l.Nodup → ∃ f : Nat → Nat, (∀ i j, i < (l.filterMap (Rs[·]?)).length → j < (l.filterMap (Rs[·]?)).length → f i = f j → i = j) ∧ (∀ i, i < (l.filterMap (Rs[·]?)).length → Rs[f i]? = (l.filterMap (Rs[·]?))[i]?) ∧ ∀ i, i < (l.filterMap (Rs[·]?)).length → f i ∈ l := by
  intro l
  induction l with
  | nil => exact fun _ => ⟨id, fun i j hi => absurd hi (by simp), fun i hi => absurd hi (by simp), fun i hi => absurd hi (by simp)⟩
  | cons a l ih =>
   intro hn
   obtain ⟨hna, hnl⟩ := List.nodup_cons.1 hn
   obtain ⟨f, h1, h2, h3⟩ := ih hnl
   cases ha : Rs[a]? with
   | none =>
    have e : (a :: l).filterMap (Rs[·]?) = l.filterMap (Rs[·]?) := by simp [List.filterMap_cons, ha]
    rw [e]
    exact ⟨f, h1, h2, fun i hi => List.mem_cons_of_mem _ (h3 i hi)⟩
   | some r =>
    have e : (a :: l).filterMap (Rs[·]?) = r :: l.filterMap (Rs[·]?) := by simp [List.filterMap_cons, ha]
    rw [e]
    refine ⟨fun i => match i with | 0 => a | i + 1 => f i, fun i j hi hj hij => ?_, fun i hi => ?_, fun i hi => ?_⟩
    ·match i, j with
     | 0, 0 => rfl
     | 0, j + 1 => have e : a = f j := hij; exact absurd (e.symm ▸ h3 j (by simpa using hj)) hna
     | i + 1, 0 => have e : f i = a := hij; exact absurd (e ▸ h3 i (by simpa using hi)) hna
     | i + 1, j + 1 => rw [h1 i j (by simpa using hi) (by simpa using hj) hij]
    ·match i with
     | 0 => simpa using ha
     | i + 1 => simpa using h2 i (by simpa using hi)
    ·match i with
     | 0 => exact List.mem_cons_self
     | i + 1 => exact List.mem_cons_of_mem _ (h3 i (by simpa using hi))
 obtain ⟨f, h1, h2, _⟩ := key l hn
 exact h.sel f h1 h2
theorem dg_two {Rs0 : List Res} {fuel f i j : Nat} {listed : Array Bool} {oi oj : Oper} (hi : ops[i]? = some oi) (hj : ops[j]? = some oj) (hfi : (i != f) = true) (hfj : (j != f) = true) (hr : Region.ready .any ops listed = [i, j]) (hgi : oi.guard = none) (hgj : oj.guard = none)
  (h1 : At n env w0 Rs (fun a w => oi.wp P a w (fun a' w' => St w0 Rs0 w' ∧ wpAnyG P .any ops Q (stB w0 Rs0) f fuel (listed.setIfInBounds i true) a' w') Q))
  (h2 : At n env w0 Rs (fun a w => oj.wp P a w (fun a' w' => St w0 Rs0 w' ∧ wpAnyG P .any ops Q (stB w0 Rs0) f fuel (listed.setIfInBounds j true) a' w') Q)) : At n env w0 Rs (fun a w => wpAnyG P .any ops Q (stB w0 Rs0) f (fuel + 1) listed a w) := by
 intro a W hf hs
 refine ⟨fun h0 => (by rw [h0] at hr; cases hr), fun k hk w hS => ?_⟩
 rw [hr] at hk
 simp only [List.mem_cons, List.not_mem_nil, or_false] at hk
 rcases hk with rfl | rfl
 ·refine ⟨fun _ => ?_, fun e => absurd e (by simpa using hfi)⟩
  unfold Go.wpOp
  have hw : Region.wanted oi (yielded ops a.tmps) = true := by simp [Region.wanted, hgi]
  simp only [hi, hw, if_true]
  exact .inl (h1 a w hf (hs.over_ hS))
 ·refine ⟨fun _ => ?_, fun e => absurd e (by simpa using hfj)⟩
  unfold Go.wpOp
  have hw : Region.wanted oj (yielded ops a.tmps) = true := by simp [Region.wanted, hgj]
  simp only [hj, hw, if_true]
  exact .inl (h2 a w hf (hs.over_ hS))
end
end Go.Proofs.Ytjhaakollekjeaa
