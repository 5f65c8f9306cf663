/- Drawn regions of which all operations are quiet: one walk in the order of the text. -/
import Derived.Test.YtakdjgldcpompaaReg3
import Derived.Still
namespace Go.Proofs.Ytakdjgldcpompaa
open Go Go.RowKit
set_option linter.unusedVariables false

section
variable {P : Program} {n : Nat} {w0 : Bs} {Rs : List Res} {ops : Array Oper} {Q : Exit → Act → World → Prop} {K : Act → World → Prop}
/-- The operation is carried out; it is not. -/
def Wants (ops : Array Oper) (env : List (Nat × Value)) (o : Oper) : Prop := o.guard = none ∨ ∃ j c oj dj, o.guard = some (j, c) ∧ ops[j]? = some oj ∧ oj.dst = some dj ∧ look env dj = some (.bool c)
def Leaves (ops : Array Oper) (env : List (Nat × Value)) (o : Oper) : Prop := ∃ j c oj dj, o.guard = some (j, c) ∧ ops[j]? = some oj ∧ oj.dst = some dj ∧ (look env dj = some undef ∨ ∃ b, look env dj = some (.bool b) ∧ b ≠ c)
def Lx (P : Program) (ops : Array Oper) (n : Nat) (w0 : Bs) (Rs : List Res) (K : Act → World → Prop) : List Oper → List (Nat × Value) → Prop
  | [], env => At n env w0 Rs K
  | o :: rest, env => ∃ d v, o.dst = some d ∧ d < n ∧ ((Wants ops env o ∧ Qt P o n env w0 Rs v) ∨ (Leaves ops env o ∧ v = undef)) ∧ Lx P ops n w0 Rs K rest ((d, v) :: env)
theorem Wants.wanted {env : List (Nat × Value)} {o : Oper} {a : Act} (h : Wants ops env o) (hf : Frm n env a) : Region.wanted o (yielded ops a.tmps) = true := by
  rcases h with h | ⟨j, c, oj, dj, hg, hj, hdj, hb⟩
  · simp [Region.wanted, h]
  · simp [Region.wanted, hg, yields hf hj hdj hb]
theorem Leaves.wanted {env : List (Nat × Value)} {o : Oper} {a : Act} (h : Leaves ops env o) (hf : Frm n env a) : Region.wanted o (yielded ops a.tmps) = false := by
  obtain ⟨j, c, oj, dj, hg, hj, hdj, hb | ⟨b, hb, hne⟩⟩ := h
  · simp [Region.wanted, hg, yields_not hf hj hdj hb]
  · simp [Region.wanted, hg, yields hf hj hdj hb, hne]
/-! ### The check, made cheap -/
def bindsOn (o : Oper) : List Nat := o.after.toList.filterMap fun e => match Region.binds .any e with | true => some e.on | false => none
def looksL (l : List Oper) (o : Oper) : List Nat :=
  (o.op.operands.toList.filterMap fun | .tmp t => some t | _ => none) ++
  (match o.guard with
   | some (g, _) => ((l[g]?).bind (·.dst)).toList
   | none => [])
def memN (x : Nat) : List Nat → Bool
  | [] => false
  | y :: r => match Nat.beq x y with
    | true => true
    | false => memN x r
def chkT (af : List Nat) (k t : Nat) : List Nat → Nat → Bool
  | [], _ => true
  | d :: r, i => (match Nat.beq d t with
    | true => Nat.blt i k && memN i af
    | false => true) && chkT af k t r (i + 1)
def dstOf (o : Oper) : Nat := match o.dst with | some d => d | none => 0
def chkO (l : List Oper) (ds : List Nat) (k : Nat) (o : Oper) : Bool :=
  (match o.dst with | some _ => true | none => false) && (match o.op with | .select .. => false | _ => true) && (bindsOn o).all (fun i => Nat.blt i k) && (looksL l o).all (fun t => chkT (bindsOn o) k t ds 0)
def chkAll (l : List Oper) (ds : List Nat) : List Oper → Nat → Bool
  | [], _ => true
  | o :: r, k => chkO l ds k o && chkAll l ds r (k + 1)
def nodupN : List Nat → Bool
  | [] => true
  | d :: r => (match memN d r with | true => false | false => true) && nodupN r
def lexFast (l : List Oper) : Bool := nodupN (l.map dstOf) && chkAll l (l.map dstOf) l 0
theorem memN_iff {x : Nat} : ∀ {l : List Nat}, memN x l = true ↔ x ∈ l
  | [] => by simp [memN]
  | y :: r => by
    unfold memN
    cases h : Nat.beq x y with
    | true => simp [Nat.eq_of_beq_eq_true h]
    | false =>
      have : x ≠ y := fun e => by subst e; simp at h
      simp [this, memN_iff]
theorem chkT_spec {af : List Nat} {k t : Nat} : ∀ {ds : List Nat} {i : Nat}, chkT af k t ds i = true → ∀ j, ds[j]? = some t → i + j < k ∧ i + j ∈ af
  | [], _, _, j, hj => by simp at hj
  | d :: r, i, h, j, hj => by
    simp only [chkT, Bool.and_eq_true] at h
    match j, hj with
    | 0, hj =>
      simp at hj
      subst hj
      have h1 := h.1
      simp only [Nat.beq_refl, Bool.and_eq_true] at h1
      exact ⟨by simpa using h1.1, by simpa using memN_iff.1 h1.2⟩
    | j + 1, hj =>
      have := chkT_spec h.2 j (by simpa using hj)
      rw [show i + (j + 1) = i + 1 + j by omega]
      exact this
theorem nodupN_spec : ∀ {ds : List Nat}, nodupN ds = true → ds.Nodup
  | [], _ => List.nodup_nil
  | d :: r, h => by
    simp only [nodupN, Bool.and_eq_true] at h
    refine List.nodup_cons.2 ⟨fun hm => ?_, nodupN_spec h.2⟩
    rw [memN_iff.2 hm] at h
    exact absurd h.1 (by simp)
theorem chkAll_spec {l : List Oper} {ds : List Nat} : ∀ {r : List Oper} {k : Nat}, chkAll l ds r k = true → ∀ j o, r[j]? = some o → chkO l ds (k + j) o = true
  | [], _, _, j, o, hj => by simp at hj
  | a :: r, k, h, j, o, hj => by
    simp only [chkAll, Bool.and_eq_true] at h
    match j, hj with
    | 0, hj => simp at hj; subst hj; exact h.1
    | j + 1, hj =>
      rw [show k + (j + 1) = k + 1 + j by omega]
      exact chkAll_spec h.2 j o (by simpa using hj)
structure LexOk (l : List Oper) : Prop where
  dst : ∀ (k : Nat) (o : Oper), l[k]? = some o → ∃ d, o.dst = some d
  sel : ∀ (k : Nat) (o : Oper), l[k]? = some o → ∀ cs b, o.op ≠ .select cs b
  aft : ∀ (k : Nat) (o : Oper), l[k]? = some o → ∀ e ∈ o.after, Region.binds .any e = true → e.on < k
  look : ∀ (k : Nat) (o : Oper), l[k]? = some o → ∀ t ∈ o.looksAt l.toArray, ∀ (i : Nat) (oi : Oper), l[i]? = some oi → oi.dst = some t → i < k ∧ ∃ e ∈ o.after, Region.binds .any e = true ∧ e.on = i
  diff : ∀ (i j : Nat) (oi oj : Oper) (d : Nat), i ≠ j → l[i]? = some oi → l[j]? = some oj → oi.dst = some d → oj.dst ≠ some d
theorem lexFast_ok {l : List Oper} (h : lexFast l = true) : LexOk l := by
  simp only [lexFast, Bool.and_eq_true] at h
  obtain ⟨hn, ha⟩ := h
  have key : ∀ (k : Nat) (o : Oper), l[k]? = some o → chkO l (l.map dstOf) k o = true := fun k o hk => by simpa using chkAll_spec ha k o hk
  have hdst : ∀ (k : Nat) (o : Oper), l[k]? = some o → ∃ d, o.dst = some d := fun k o hk => by
    have := key k o hk
    simp only [chkO, Bool.and_eq_true] at this
    cases hd : o.dst with
    | some d => exact ⟨d, rfl⟩
    | none => rw [hd] at this; exact absurd this.1.1.1 (by simp)
  refine ⟨hdst, fun k o hk cs b heq => ?_, fun k o hk e he hb => ?_, fun k o hk t ht i oi hi hd => ?_, fun i j oi oj d hij hi hj hd hd' => ?_⟩
  · have := key k o hk
    simp only [chkO, Bool.and_eq_true, heq] at this
    exact absurd this.1.1.2 (by simp)
  · have := key k o hk
    simp only [chkO, Bool.and_eq_true, List.all_eq_true] at this
    have h2 := this.1.2 e.on (List.mem_filterMap.2 ⟨e, by simpa using he, by simp [hb]⟩)
    simpa using h2
  · have := key k o hk
    simp only [chkO, Bool.and_eq_true, List.all_eq_true] at this
    have hl : t ∈ looksL l o := by
      have e : o.looksAt l.toArray = looksL l o := by unfold Oper.looksAt looksL; simp only [List.getElem?_toArray]; rfl
      rw [← e]; exact ht
    have h2 := chkT_spec (this.2 t hl) i (by simp [hi, dstOf, hd])
    rw [Nat.zero_add] at h2
    refine ⟨h2.1, ?_⟩
    obtain ⟨e, he, h3⟩ := List.mem_filterMap.1 h2.2
    refine ⟨e, by simpa using he, ?_⟩
    cases hb : Region.binds .any e with
    | true => rw [hb] at h3; simp at h3; exact ⟨rfl, h3⟩
    | false => rw [hb] at h3; simp at h3
  · have hnd := nodupN_spec hn
    have e1 : (l.map dstOf)[i]? = some d := by simp [hi, dstOf, hd]
    have e2 : (l.map dstOf)[j]? = some d := by simp [hj, dstOf, hd']
    exact hij ((List.getElem?_inj (by have := (List.getElem?_eq_some_iff.1 e1).1; exact this) hnd).1 (e1.trans e2.symm))
theorem lx_sound {L : List Oper} (hok : LexOk L) (hQ : ∀ c a d v w, Q (.panic c) (Act.put a d v) w → Q (.panic c) a w) : ∀ (l : List Oper) (k : Nat) (listed : Array Bool) (env : List (Nat × Value)) (a : Act) (W : World), (∀ j, l[j]? = L[k + j]?) → (∀ i, i < L.length → listed[i]? = some (decide (i < k))) → listed.size = L.length → k + l.length = L.length →
    Lx P L.toArray n w0 Rs (fun a w => Q .normal a w) l env → Frm n env a → St w0 Rs W → wpAnyO P .any L.toArray Q (stB w0 Rs) l.length listed a W
  | [], k, listed, env, a, W, _, hls, hsz, hkl, h, hf, hS => wpAnyO_done (by
      cases hr : Region.ready .any L.toArray listed with
      | nil => rfl
      | cons x xs =>
        have hx : x ∈ Region.ready .any L.toArray listed := by rw [hr]; exact List.mem_cons_self
        obtain ⟨h1, o, ho, _⟩ := mem_ready.1 hx
        have hlt : x < L.length := by simpa using (Array.getElem?_eq_some_iff.1 ho).1
        have := hls x hlt
        rw [Array.getD_eq_getD_getElem?, this] at h1
        simp at h1
        simp at hkl
        omega) (fun w hw => h a w hf (hS.over_ hw)) _
  | o :: l, k, listed, env, a, W, hl, hls, hsz, hkl, h, hf, hS => by
    have h0 : L[k]? = some o := by simpa using (hl 0).symm
    have hkL : k < L.length := (List.getElem?_eq_some_iff.1 h0).1
    obtain ⟨d, v, hd, hn, hw, hrest⟩ := h
    have hun : ∀ j, j < L.length → listed.getD j true = decide (j < k) := fun j hj => by rw [Array.getD_eq_getD_getElem?, hls j hj]; rfl
    refine wpAnyO_first (v := v) (i := k) (by simpa using h0) (fun j o cs b hj => hok.sel j o (by simpa using hj) cs b) (fun c a w => hQ c a _ _ w) l.length listed a W hS (fun j oj hj hne hlj hno => ?_) ?_ ?_ ?_
    · have hj' : L[j]? = some oj := by simpa using hj
      have hjl : j < L.length := (List.getElem?_eq_some_iff.1 hj').1
      have hkj : k < j := by
        rw [hun j hjl] at hlj
        simp at hlj
        omega
      obtain ⟨dj, hdj⟩ := hok.dst j oj hj'
      unfold Oper.apart
      rw [hd, hdj]
      have a1 : (oj.looksAt L.toArray).contains d = false := by
        cases hc : (oj.looksAt L.toArray).contains d with
        | false => rfl
        | true =>
          obtain ⟨_, e, he, hb, hon⟩ := hok.look j oj hj' d (by simpa using hc) k o h0 hd
          exact absurd hon (hno e he hb)
      have a2 : (o.looksAt L.toArray).contains dj = false := by
        cases hc : (o.looksAt L.toArray).contains dj with
        | false => rfl
        | true =>
          have := (hok.look k o h0 dj (by simpa using hc) j oj hj' hdj).1
          omega
      have a3 : (some dj != some d) = true := by
        have := hok.diff k j o oj d (by omega) h0 hj' hd
        rw [hdj] at this
        simpa using this
      simp only [a1, a2, a3]
      rfl
    · rw [mem_ready]
      refine ⟨by rw [hun k hkL]; simp, o, by simpa using h0, fun e he hb => ?_⟩
      have hlt := hok.aft k o h0 e he hb
      rw [Array.getD_eq_getD_getElem?, hls e.on (by omega)]
      simpa using hlt
    · rcases hw with ⟨hw, hq⟩ | ⟨hw, rfl⟩
      · exact .inl ⟨hw.wanted hf, fun w' hs' => (hq a w' hf hs').gives⟩
      · exact .inr ⟨hw.wanted hf, rfl⟩
    · rw [hd]
      refine lx_sound hok hQ l (k + 1) _ _ _ W (fun j => by have := hl (j + 1); simpa [Nat.add_assoc, Nat.add_comm 1 j] using this) (fun i hi => ?_) (by simpa using hsz) (by simp at hkl; omega) hrest (hf.put hn v) hS
      by_cases e : k = i
      · subst e
        rw [Array.getElem?_setIfInBounds_self_of_lt (by rw [hsz]; exact hkL)]
        simp
      · rw [Array.getElem?_setIfInBounds_ne e, hls i hi]
        congr 1
        simp
        omega
theorem lx_start {id : Nat} {l : List Oper} {env : List (Nat × Value)} (hm : P.follows .mixedOrders = true) (hB : lexFast l = true) (hQ : ∀ c a d v w, Q (.panic c) (Act.put a d v) w → Q (.panic c) a w) (h : Lx P l.toArray n w0 Rs (fun a w => Q .normal a w) l env) :
    At n env w0 Rs (fun a w => (Code.region id l.toArray true).wp P Q a w) := fun a w hf hs => by
  refine wp_region_O (B := stB w0 Rs) hs hm rfl fun _ => ?_
  have := lx_sound (P := P) (lexFast_ok hB) hQ l 0 (Array.replicate l.toArray.size false) env a w (by simp) (fun i hi => by simp [hi]) (by simp) (by simp) h hf hs
  simpa using this
theorem lx_end {env : List (Nat × Value)} (h : At n env w0 Rs K) : Lx P ops n w0 Rs K [] env := h
theorem lx_q {env : List (Nat × Value)} {o : Oper} {l : List Oper} {d : Nat} {v : Value} (hg : o.guard = none) (hd : o.dst = some d) (hn : d < n) (hq : Qt P o n env w0 Rs v) (h : Lx P ops n w0 Rs K l ((d, v) :: env)) : Lx P ops n w0 Rs K (o :: l) env := ⟨d, v, hd, hn, .inl ⟨.inl hg, hq⟩, h⟩
theorem lx_qg {env : List (Nat × Value)} {o : Oper} {l : List Oper} {d j dj : Nat} {v : Value} {c : Bool} {oj : Oper} (hg : o.guard = some (j, c)) (hj : ops[j]? = some oj) (hdj : oj.dst = some dj) (hb : look env dj = some (.bool c)) (hd : o.dst = some d) (hn : d < n) (hq : Qt P o n env w0 Rs v) (h : Lx P ops n w0 Rs K l ((d, v) :: env)) : Lx P ops n w0 Rs K (o :: l) env :=
  ⟨d, v, hd, hn, .inl ⟨.inr ⟨j, c, oj, dj, hg, hj, hdj, hb⟩, hq⟩, h⟩
theorem lx_off {env : List (Nat × Value)} {o : Oper} {l : List Oper} {d j dj : Nat} {b c : Bool} {oj : Oper} (hg : o.guard = some (j, c)) (hj : ops[j]? = some oj) (hdj : oj.dst = some dj) (hb : look env dj = some (.bool b)) (hne : b ≠ c) (hd : o.dst = some d) (hn : d < n) (h : Lx P ops n w0 Rs K l ((d, undef) :: env)) : Lx P ops n w0 Rs K (o :: l) env :=
  ⟨d, undef, hd, hn, .inr ⟨⟨j, c, oj, dj, hg, hj, hdj, .inr ⟨b, hb, hne⟩⟩, rfl⟩, h⟩
theorem lx_offu {env : List (Nat × Value)} {o : Oper} {l : List Oper} {d j dj : Nat} {c : Bool} {oj : Oper} (hg : o.guard = some (j, c)) (hj : ops[j]? = some oj) (hdj : oj.dst = some dj) (hb : look env dj = some undef) (hd : o.dst = some d) (hn : d < n) (h : Lx P ops n w0 Rs K l ((d, undef) :: env)) : Lx P ops n w0 Rs K (o :: l) env :=
  ⟨d, undef, hd, hn, .inr ⟨⟨j, c, oj, dj, hg, hj, hdj, .inl hb⟩, rfl⟩, h⟩
theorem Frm.congr {env env' : List (Nat × Value)} {a : Act} (h : Frm n env a) (he : ∀ t, look env' t = look env t) : Frm n env' a := ⟨h.size, fun t v hv => h.get t v (by rw [← he]; exact hv), h.defers⟩
theorem lx_congr : ∀ (l : List Oper) {env env' : List (Nat × Value)} (he : ∀ t, look env' t = look env t), Lx P ops n w0 Rs K l env' → Lx P ops n w0 Rs K l env
  | [], env, env', he, h => fun a w hf hs => h a w (hf.congr he) hs
  | o :: l, env, env', he, h => by
    obtain ⟨d, v, hd, hn, hw, hrest⟩ := h
    refine ⟨d, v, hd, hn, ?_, lx_congr l (fun t => ?_) hrest⟩
    · rcases hw with ⟨hw, hq⟩ | ⟨hw, hv⟩
      · refine .inl ⟨?_, fun a w hf hs => hq a w (hf.congr he) hs⟩
        rcases hw with hw | ⟨j, c, oj, dj, hg, hj, hdj, hb⟩
        · exact .inl hw
        · exact .inr ⟨j, c, oj, dj, hg, hj, hdj, by rw [← he]; exact hb⟩
      · refine .inr ⟨?_, hv⟩
        obtain ⟨j, c, oj, dj, hg, hj, hdj, hb | ⟨b, hb, hne⟩⟩ := hw
        · exact ⟨j, c, oj, dj, hg, hj, hdj, .inl (by rw [← he]; exact hb)⟩
        · exact ⟨j, c, oj, dj, hg, hj, hdj, .inr ⟨b, by rw [← he]; exact hb, hne⟩⟩
    · simp only [look]
      split
      · rfl
      · exact he t
theorem lx_as {l : List Oper} {env : List (Nat × Value)} (t : Nat) (v' : Value) {v : Value} (hv : look env t = some v) (e : v = v') (h : Lx P ops n w0 Rs K l ((t, v') :: env)) : Lx P ops n w0 Rs K l env := lx_congr l (fun k => by
  simp only [look]
  split
  · rename_i hb
    have : t = k := Nat.eq_of_beq_eq_true hb
    subst this
    rw [hv, e]
  · rfl) h
theorem lx_bsplit {l : List Oper} {env : List (Nat × Value)} (d : Nat) {t : Bool} (hv : look env d = some (.bool t)) (h1 : t = true → Lx P ops n w0 Rs K l ((d, .bool true) :: env)) (h2 : t = false → Lx P ops n w0 Rs K l ((d, .bool false) :: env)) : Lx P ops n w0 Rs K l env := by
  cases t with
  | true => exact lx_as d (.bool true) hv rfl (h1 rfl)
  | false => exact lx_as d (.bool false) hv rfl (h2 rfl)
end
end Go.Proofs.Ytakdjgldcpompaa
