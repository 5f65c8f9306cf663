/- Rows that are read, written and cut by their index. -/
import Derived.Test.YtcigocejgmafjaaReg3
import Derived.Test.YtcigocejgmafjaaOwn
import Derived.Test.YtcigocejgmafjaaSnapped
import Derived.Test.YtcigocejgmafjaaSimp
import Derived.Test.YtcigocejgmafjaaCmp
namespace Go.Proofs.Ytcigocejgmafjaa
open Go Go.RowKit
set_option linter.unusedVariables false
set_option linter.unusedSimpArgs false
section
variable {P : Program} {n : Nat} {env : List (Nat × Value)} {w0 : Bs} {Rs : List Res} {o : Oper} {Q : Exit → Act → World → Prop} {K : Act → World → Prop}
theorem row_adr {w : World} {B T s m : Nat} {xs : List Value} {x : Option Addr × Nat} (h : (rowR B T s m xs x).P w) (h0 : 0 < m) : x.1 = some ⟨ablk x.1, 0, none⟩ := by
 have h : w.ownsRow B T s (.slice x.1 m x.2) m xs := h
 rcases h.2 with ⟨_, e⟩ | ⟨g, cap, cur, e, _⟩
 ·omega
 ·injection e with e1
  rw [e1]
  rfl
theorem row_cell {w : World} {B T s m i : Nat} {xs : List Value} {x : Option Addr × Nat} {v : Value} (h : (rowR B T s m xs x).P w) (hv : xs[i]? = some v) : w.cell? ⟨ablk x.1, i, none⟩ = some v := by
 have h : w.ownsRow B T s (.slice x.1 m x.2) m xs := h
 have hi := (List.getElem?_eq_some_iff.1 hv).1
 rcases h.2 with ⟨_, e⟩ | ⟨g, cap, cur, e, hb, hg, hcap, hmax, hsz, htk⟩
 ·have := h.1
  rw [e, Nat.zero_mul] at this
  omega
 ·injection e with e1
  rw [e1, ablk, cell_of_row w g i cur T (0, 0) hg]
  have h1 := h.1
  rw [← htk, List.getElem?_take, if_pos (by omega)] at hv
  simpa using hv
theorem flat_splice {α : Type} (f : α → List Value) {m : Nat} (hf : ∀ a, (f a).length = m) {l : List α} {k off : Nat} {a a' : α} (hk : l[k]? = some a) (pre old vs post : List Value) (h1 : f a = pre ++ old ++ post) (h2 : f a' = pre ++ vs ++ post) (hl : old.length = vs.length) (ho : off = k * m + pre.length) : splice (l.flatMap f) off vs = (l.set k a').flatMap f := by
 obtain ⟨hj, e⟩ := List.getElem?_eq_some_iff.1 hk
 have e1 : l = l.take k ++ a :: l.drop (k + 1) := by rw [← e, ← List.drop_eq_getElem_cons hj, List.take_append_drop]
 have e2 : l.set k a' = l.take k ++ a' :: l.drop (k + 1) := List.set_eq_take_append_cons_drop .. |>.trans (if_pos hj)
 have e3 : ((l.take k).flatMap f).length = k * m := by rw [flat_len f m hf, List.length_take, Nat.min_eq_left (by omega)]
 have s := splice_app vs ((l.take k).flatMap f ++ pre) old (post ++ (l.drop (k + 1)).flatMap f) hl
 rw [List.length_append, e3, ← ho] at s
 rw [e2, List.flatMap_append, List.flatMap_cons, h2]
 conv => lhs; rw [e1, List.flatMap_append, List.flatMap_cons, h1]
 simp only [List.append_assoc] at s ⊢
 exact s
theorem src_takeR {w : World} {B T s m j : Nat} {xs : List Value} {x : Option Addr × Nat} (h : (rowR B T s m xs x).P w) (hj : j ≤ m) : Src s (sliced x.1 0 j x.2 s) j (xs.take (j * s)) w := by
 have h : w.ownsRow B T s (.slice x.1 m x.2) m xs := h
 have hm : j * s ≤ m * s := Nat.mul_le_mul_right s hj
 refine ⟨by rw [List.length_take, h.1]; omega, ?_⟩
 rcases h.2 with ⟨e, e0⟩ | ⟨g, cap, cur, e, hb, hg, hcap, hmax, hsz, htk⟩
 ·left
  have hj0 : j = 0 := by omega
  injection e with e1 _ e3
  rw [e1, e3, hj0]
  exact ⟨rfl, rfl⟩
 ·right
  injection e with e1 _ e3
  refine ⟨⟨g, 0, none⟩, x.2, ?_, fun q u hu => ?_⟩
  ·rw [e1]
   unfold sliced
   split
   ·rfl
   ·simp [add_none]
  ·have hq := (List.getElem?_eq_some_iff.1 hu).1
   rw [List.length_take] at hq
   rw [List.getElem?_take, if_pos (by omega), ← htk, List.getElem?_take, if_pos (by have := h.1; omega)] at hu
   rw [add_none, Nat.zero_add, cell_of_row w g q cur T (0, 0) hg]
   simpa using hu
theorem src_dropR {w : World} {B T s m j : Nat} {xs : List Value} {x : Option Addr × Nat} (h : (rowR B T s m xs x).P w) (hj : j ≤ m) : Src s (sliced x.1 j m x.2 s) (m - j) (xs.drop (j * s)) w := by
 have h : w.ownsRow B T s (.slice x.1 m x.2) m xs := h
 refine ⟨by rw [List.length_drop, h.1, Nat.sub_mul], ?_⟩
 rcases h.2 with ⟨e, e0⟩ | ⟨g, cap, cur, e, hb, hg, hcap, hmax, hsz, htk⟩
 ·left
  subst e0
  have hj0 : j = 0 := by omega
  injection e with e1 _ e3
  rw [e1, e3, hj0]
  exact ⟨rfl, rfl⟩
 ·right
  injection e with e1 _ e3
  by_cases hz : x.2 = j
  ·refine ⟨⟨g, 0, none⟩, x.2 - j, by rw [e1]; unfold sliced; rw [if_pos hz], fun q u hu => ?_⟩
   have hq := (List.getElem?_eq_some_iff.1 hu).1
   have hjm : j = m := by omega
   rw [List.length_drop, h.1, hjm] at hq
   omega
  ·refine ⟨⟨g, 0 + j * s, none⟩, x.2 - j, by rw [e1]; unfold sliced; rw [if_neg hz]; simp [add_none], fun q u hu => ?_⟩
   have hq := (List.getElem?_eq_some_iff.1 hu).1
   rw [List.length_drop, h.1] at hq
   rw [List.getElem?_drop, ← htk, List.getElem?_take, if_pos (by omega)] at hu
   rw [add_none, Nat.zero_add, cell_of_row w g _ cur T (0, 0) hg]
   simpa using hu
theorem op_storeR {T U m : Nat} {x y : Operand} {k B s q off : Nat} {r : Option Addr × Nat} {cs vs : List Value} {v : Value} (ho : o.op = .store T x y) (hd : o.dst = none) (hx : ev env x = some (.pointer (some ⟨ablk r.1, off, none⟩))) (hy : ev env y = some v) (hv : v.cells = vs.toArray) (h1 : vs.all (·.oneCell') = true)
  (hz : (P.info? T).map (·.size) = some m) (hm : vs.length = m) (hk : Rs[k]? = some (rowR B U s q cs r)) (h0 : 0 < vs.length) (hlt : off + vs.length ≤ cs.length) (h : At n env w0 (Rs.set k (rowR B U s q (splice cs off vs) r)) K) : At n env w0 Rs (fun a w => o.wp P a w K Q) := fun a w hf hs => by
 have hr : w.ownsRow B U s (.slice r.1 q r.2) q cs := (hs.all k _ hk).1
 have hlow := fun b hb => (hs.all k _ hk).2.1 b hb
 rcases hr.2 with ⟨_, e0⟩ | ⟨g, cap, cur, e, hb, hg, hcap, hmax, hsz, htk⟩
 ·have := hr.1
  rw [e0, Nat.zero_mul] at this
  omega
 ·injection e with e1 _ e3
  have hgb : ablk r.1 = g := by rw [e1]; rfl
  rw [hgb] at hx
  have hcl : cs.length = q * s := hr.1
  have hcur : cur.toList = cs ++ cur.toList.drop (q * s) := by rw [← htk, List.take_append_drop]
  have hlen : cs.length ≤ cur.toList.length := by rw [hcur, List.length_append]; omega
  have hh : w.heap[g]? = some (.cells cur.toList.toArray U (0, 0)) := by rw [Array.toArray_toList]; exact hg
  have hso : (sizeOf T).run P w = .ok m w := by
   obtain ⟨i, hi, hs'⟩ := Option.map_eq_some_iff.1 hz
   simp [sizeOf, typeInfo, hi, hs']
  have hst := run_storeCells (P := P) vs off 0 cur.toList w hh (by omega) h1
  have hrun : (execOp a.eval o).run P w = .ok .skip (w.setRow g (splice cur.toList off vs).toArray) := by
   unfold execOp
   simp only [ho, hf.ev hx, hf.ev hy, Instr.storeAt, Instr.sureAddr, storeVar, hv]
   simp only [Sem.run_bind, Sem.run_pure, Result.andThen_ok, hso]
   have : ¬ (vs.toArray.size ≠ m) := by simp [hm]
   simp only [this, if_false, hst, Result.andThen_ok]
   rfl
  show o.upon P a K Q ((execOp a.eval o).run P w)
  rw [hrun, Oper.upon_skip, hd]
  refine h _ _ hf (hs.upd hk ⟨by simpa using hs.over.os, by simpa using hs.over.tape, by simpa using hs.over.output, by simpa using hs.over.size, fun c hc hx' => ?_⟩ (by simp) (fun c _ hne => setRow_other w g c _ (fun e => hne (by rw [e]; show Value.ownBlock (.slice r.1 q r.2) = some g; rw [e1]; rfl))) ?_ (fun c hc => .inl hc) rfl)
  ·have := hlow g (by show Value.ownBlock (.slice r.1 q r.2) = some g; rw [e1]; rfl)
   rw [setRow_other w g c _ (fun e => this.elim (fun h1 => by omega) (fun h1 => hx' (e ▸ h1)))]
   exact hs.over.block c hc hx'
  ·refine ⟨by rw [splice_len]; exact hr.1, .inr ⟨g, cap, (splice cur.toList off vs).toArray, by rw [e1, e3], hb, setRow_heap w g _ _ U (0, 0) hg, hcap, hmax, by simp [splice_len, hsz], ?_⟩⟩
   rw [List.toList_toArray, hcur, splice_left (by omega), List.take_left' (by rw [splice_len]; exact hr.1)]
end
end Go.Proofs.Ytcigocejgmafjaa
