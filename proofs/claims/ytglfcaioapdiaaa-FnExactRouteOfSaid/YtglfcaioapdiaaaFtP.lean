/-
  How far each node is: the program's rounds, in plain terms.
-/
import Derived.Test.YtglfcaioapdiaaaRtP
namespace Go.Proofs.Ytglfcaioapdiaaa.Bk
open Go
set_option linter.unusedSimpArgs false
set_option linter.unusedVariables false

abbrev Far := List (Int × Int × Int)
def fget : Far → Int → Option (Int × Int)
  | [], _ => none
  | (x, v) :: F, k => if k == x then some v else fget F k
def fset : Far → Int → Int × Int → Far
  | [], k, v => [(k, v)]
  | (x, u) :: F, k, v => if k == x then (k, v) :: F else (x, u) :: fset F k v
theorem fget_fset (F : Far) (k : Int) (v : Int × Int) (j : Int) : fget (fset F k v) j = if j = k then some v else fget F j := by
  induction F with
  | nil => simp [fset, fget]
  | cons p F ih =>
    obtain ⟨x, u⟩ := p
    simp only [fset]
    by_cases h : k = x
    · subst h
      simp only [beq_self_eq_true, if_true, fget]
      by_cases hj : j = k
      · simp [hj]
      · simp [hj]
    · have hb : (k == x) = false := by simpa using h
      simp only [hb, Bool.false_eq_true, if_false, fget, ih]
      by_cases hj : j = x
      · subst hj
        have : ¬ j = k := fun e => h e.symm
        simp [this]
      · simp [hj]
def fc (F : Far) (k : Int) : Int := ((fget F k).getD (0, 0)).1
def fl (F : Far) (k : Int) : Int := ((fget F k).getD (0, 0)).2
def fh (F : Far) (k : Int) : Bool := (fget F k).isSome
theorem fget_of {F : Far} {k : Int} (h : fh F k = true) : fget F k = some (fc F k, fl F k) := by
  unfold fh fc fl at *
  cases hg : fget F k with
  | none => rw [hg] at h; cases h
  | some v => rfl
def lessF (a b : Int × Int) : Bool := decide (a.1 < b.1) || (a.1 == b.1 && decide (a.2 < b.2))
def leF (a b : Int × Int) : Prop := a.1 < b.1 ∨ (a.1 = b.1 ∧ a.2 ≤ b.2)
theorem leF_refl (a : Int × Int) : leF a a := .inr ⟨rfl, Int.le_refl _⟩
theorem leF_trans {a b c : Int × Int} (h : leF a b) (g : leF b c) : leF a c := by unfold leF at *; omega
theorem leF_of_less {a b : Int × Int} (h : lessF a b = true) : leF a b := by unfold lessF leF at *; simp at h; omega
theorem leF_of_not {a b : Int × Int} (h : lessF a b = false) : leF b a := by unfold lessF leF at *; simp at h; omega
theorem leF_anti {a b : Int × Int} (h : leF a b) (g : leF b a) : a = b := by
  unfold leF at *
  obtain ⟨a1, a2⟩ := a
  obtain ⟨b1, b2⟩ := b
  simp only [Prod.mk.injEq] at *
  omega

def fimp (F : Far) (x y o : Int) : Bool := fh F x && (!fh F y || lessF (fc F x + o, fl F x + 1) (fc F y, fl F y))
def fstep (s : Far × Bool) (x y o : Int) : Far × Bool := if fimp s.1 x y o then (fset s.1 y (fc s.1 x + o, fl s.1 x + 1), true) else s
def ftwo (s : Far × Bool) (l : Ln) : Nat → Far × Bool
  | 0 => s
  | 1 => fstep s l.a l.b l.o
  | _ => fstep (fstep s l.a l.b l.o) l.b l.a l.o
def fpass (ls : List Ln) (s : Far × Bool) : Nat → Far × Bool
  | 0 => s
  | i + 1 => ftwo (fpass ls s i) (ls.getD i lnz) 2

/-- links -/
def EL (ls : List Ln) (x y o : Int) : Prop := ∃ l ∈ ls, ((l.a = x ∧ l.b = y) ∨ (l.a = y ∧ l.b = x)) ∧ o = l.o
theorem EL.symm {ls : List Ln} {x y o : Int} (h : EL ls x y o) : EL ls y x o := by
  obtain ⟨l, hl, h, e⟩ := h
  exact ⟨l, hl, h.symm, e⟩
theorem EL.ok {n : Int} {ls : List Ln} (hL : LnsOk n ls) {x y o : Int} (h : EL ls x y o) : 0 ≤ o ∧ (0 ≤ x ∧ x < n) ∧ (0 ≤ y ∧ y < n) := by
  obtain ⟨l, hl, h, e⟩ := h
  obtain ⟨h1, h2, h3⟩ := hL l hl
  rcases h with ⟨h, h'⟩ | ⟨h, h'⟩ <;> subst h h' e
  · exact ⟨h3.1, h1, h2⟩
  · exact ⟨h3.1, h2, h1⟩
theorem EL.le {n : Int} {ls : List Ln} (hL : LnsOk n ls) {x y o : Int} (h : EL ls x y o) : o ≤ 1000000 := by
  obtain ⟨l, hl, h, e⟩ := h
  subst e; exact (hL l hl).2.2.2

section
variable {E : Int → Int → Int → Prop} {s : Int}
theorem Pt.c1 {M : Int} (hE : ∀ x y o, E x y o → o ≤ M) {p : List Int} {c x : Int} (h : Pt E s p c x) : c ≤ M * ((p.length : Int) - 1) := by
  induction h with
  | one => simp
  | step h he hy ih =>
    have := hE _ _ _ he
    simp only [List.length_append, List.length_singleton]
    rw [Int.natCast_add, show ∀ L : Int, L + ((1 : Nat) : Int) - 1 = (L - 1) + 1 from fun L => by omega, Int.mul_add, Int.mul_one]
    omega
structure FG (E : Int → Int → Int → Prop) (s n : Int) (F : Far) : Prop where
  pth : ∀ x c l, fget F x = some (c, l) → ∃ p, Pt E s p c x ∧ (p.length : Int) = l + 1 ∧ ∀ y ∈ p, ∃ q t c', p = q ++ t ∧ Pt E s q c' y ∧ c' ≤ c ∧ ∃ v, fget F y = some v ∧ leF v (c', (q.length : Int) - 1)
  st : ∃ v, fget F s = some v ∧ leF v (0, 0)
variable {n : Int} (hE : ∀ x y o, E x y o → 0 ≤ o ∧ (0 ≤ x ∧ x < n) ∧ (0 ≤ y ∧ y < n)) (hs : 0 ≤ s ∧ s < n)
include hE hs
theorem FG.bd (hM : ∀ x y o, E x y o → o ≤ 1000000) (hn : n ≤ 12) {F : Far} (h : FG E s n F) {x c l : Int} (hg : fget F x = some (c, l)) : 0 ≤ c ∧ c ≤ 12000000 ∧ 0 ≤ l ∧ l ≤ 11 ∧ 0 ≤ x ∧ x < n := by
  obtain ⟨p, hp, hl, _⟩ := h.pth x c l hg
  have h0 := hp.c0 (fun x y o h => (hE x y o h).1)
  have h1 := hp.c1 hM
  have h2 := Pt.rng hE hs hp
  have h3 := pigeon n.toNat p hp.nd fun y hy => by have := h2.1 y hy; omega
  have h4 : p.length ≠ 0 := fun e => hp.ne (List.length_eq_zero_iff.1 e)
  refine ⟨h0, ?_, by omega, by omega, h2.2⟩
  omega
theorem FG.bc (hM : ∀ x y o, E x y o → o ≤ 1000000) (hn : n ≤ 12) {F : Far} (h : FG E s n F) (x : Int) : 0 ≤ fc F x ∧ fc F x ≤ 12000000 ∧ 0 ≤ fl F x ∧ fl F x ≤ 11 := by
  cases hg : fget F x with
  | none => simp [fc, fl, hg]
  | some v =>
    have := FG.bd hE hs hM hn h (c := v.1) (l := v.2) (by rw [hg])
    simp only [fc, fl, hg, Option.getD_some]
    omega
omit hs in
/-- an improvement -/
theorem FG.step {F : Far} (h : FG E s n F) {x y o : Int} (he : E x y o) (hi : fimp F x y o = true) : FG E s n (fset F y (fc F x + o, fl F x + 1)) ∧ (∀ z v, fget F z = some v → ∃ v', fget (fset F y (fc F x + o, fl F x + 1)) z = some v' ∧ leF v' v) := by
  simp only [fimp, Bool.and_eq_true, Bool.or_eq_true, Bool.not_eq_true'] at hi
  obtain ⟨hx, hi⟩ := hi
  have hgx := fget_of hx
  obtain ⟨p, hp, hl, hpre⟩ := h.pth x _ _ hgx
  have o0 := (hE _ _ _ he).1
  have hold : ∀ v, fget F y = some v → lessF (fc F x + o, fl F x + 1) v = true := fun v hv => by
    rcases hi with hi | hi
    · unfold fh at hi; rw [hv] at hi; cases hi
    · have : v = (fc F y, fl F y) := by simp [fc, fl, hv]
      rw [this]; exact hi
  have hy : y ∉ p := fun hm => by
    obtain ⟨q, t, c', e, hq, hc, v, hv, hle⟩ := hpre y hm
    have h1 := hold v hv
    have h2 : q.length ≤ p.length := by rw [e]; simp
    unfold lessF leF at *
    simp only [Bool.or_eq_true, Bool.and_eq_true, decide_eq_true_eq, beq_iff_eq] at h1 hle
    omega
  have mono : ∀ z v, fget F z = some v → ∃ v', fget (fset F y (fc F x + o, fl F x + 1)) z = some v' ∧ leF v' v := fun z v hv => by
    rw [fget_fset]
    by_cases hz : z = y
    · subst hz; rw [if_pos rfl]; exact ⟨_, rfl, leF_of_less (hold v hv)⟩
    · rw [if_neg hz]; exact ⟨v, hv, leF_refl v⟩
  refine ⟨⟨fun z c l hz => ?_, ?_⟩, mono⟩
  · rw [fget_fset] at hz
    by_cases hzy : z = y
    · subst hzy
      rw [if_pos rfl] at hz
      simp only [Option.some.injEq, Prod.mk.injEq] at hz
      obtain ⟨rfl, rfl⟩ := hz
      refine ⟨p ++ [z], .step hp he hy, by simp; omega, fun u hu => ?_⟩
      rcases List.mem_append.1 hu with hu | hu
      · obtain ⟨q, t, c', e, hq, hc, v, hv, hle⟩ := hpre u hu
        obtain ⟨v', hv', hle'⟩ := mono u v hv
        exact ⟨q, t ++ [z], c', by rw [e, List.append_assoc], hq, by omega, v', hv', leF_trans hle' hle⟩
      · simp at hu; subst hu
        exact ⟨p ++ [u], [], fc F x + o, by simp, .step hp he hy, Int.le_refl _, (fc F x + o, fl F x + 1), by rw [fget_fset, if_pos rfl], .inr ⟨rfl, by simp only [List.length_append, List.length_singleton]; omega⟩⟩
    · rw [if_neg hzy] at hz
      obtain ⟨p', hp', hl', hpre'⟩ := h.pth z c l hz
      refine ⟨p', hp', hl', fun u hu => ?_⟩
      obtain ⟨q, t, c', e, hq, hc, v, hv, hle⟩ := hpre' u hu
      obtain ⟨v', hv', hle'⟩ := mono u v hv
      exact ⟨q, t, c', e, hq, hc, v', hv', leF_trans hle' hle⟩
  · obtain ⟨v, hv, hle⟩ := h.st
    obtain ⟨v', hv', hle'⟩ := mono s v hv
    exact ⟨v', hv', leF_trans hle' hle⟩
omit hE hs in
theorem FG.start : FG E s n [(s, 0, 0)] := by
  refine ⟨fun x c l h => ?_, ⟨(0, 0), by simp [fget], leF_refl _⟩⟩
  simp only [fget] at h
  split at h
  · rename_i e
    simp only [beq_iff_eq] at e
    subst e
    simp only [Option.some.injEq, Prod.mk.injEq] at h
    obtain ⟨rfl, rfl⟩ := h
    refine ⟨[x], .one, by simp, fun y hy => ?_⟩
    simp at hy; subst hy
    exact ⟨[y], [], 0, rfl, .one, Int.le_refl _, (0, 0), by simp [fget], .inr ⟨rfl, by simp⟩⟩
  · cases h

/-- how much can still fall -/
def mu1 : Option (Int × Int) → Nat
  | none => 2 ^ 40
  | some (c, l) => (c * 64 + l).toNat
def mu (n : Int) (F : Far) : Nat := ((List.range n.toNat).map fun (i : Nat) => mu1 (fget F (i : Int))).sum
omit hE hs in
theorem sum_le {f g : Nat → Nat} : ∀ l : List Nat, (∀ i ∈ l, f i ≤ g i) → (l.map f).sum ≤ (l.map g).sum
  | [], _ => Nat.le_refl _
  | i :: l, h => by
    have h1 := h i List.mem_cons_self
    have h2 := sum_le l fun j hj => h j (List.mem_cons_of_mem _ hj)
    simp only [List.map_cons, List.sum_cons]
    omega
omit hE hs in
theorem sum_lt {f g : Nat → Nat} : ∀ l : List Nat, (∀ i ∈ l, f i ≤ g i) → (∃ i ∈ l, f i < g i) → (l.map f).sum < (l.map g).sum
  | [], _, h => by obtain ⟨i, hi, _⟩ := h; cases hi
  | i :: l, h, hx => by
    have h1 := h i List.mem_cons_self
    have h2 := sum_le l fun j hj => h j (List.mem_cons_of_mem _ hj)
    simp only [List.map_cons, List.sum_cons]
    obtain ⟨j, hj, hlt⟩ := hx
    rcases List.mem_cons.1 hj with rfl | hj
    · omega
    · have := sum_lt l (fun j hj => h j (List.mem_cons_of_mem _ hj)) ⟨j, hj, hlt⟩
      omega
theorem FG.mu_lt (hM : ∀ x y o, E x y o → o ≤ 1000000) (hn : n ≤ 12) {F : Far} (h : FG E s n F) {x y o : Int} (he : E x y o) (hi : fimp F x y o = true) : mu n (fset F y (fc F x + o, fl F x + 1)) < mu n F := by
  obtain ⟨o0, hx, hy⟩ := hE _ _ _ he
  have bx := FG.bc hE hs hM hn h x
  have by_ := FG.bc hE hs hM hn h y
  have oM := hM _ _ _ he
  have key : mu1 (some (fc F x + o, fl F x + 1)) < mu1 (fget F y) := by
    simp only [fimp, Bool.and_eq_true, Bool.or_eq_true, Bool.not_eq_true'] at hi
    rcases hi.2 with hi | hi
    · have : fget F y = none := by unfold fh at hi; simpa using hi
      rw [this]; simp only [mu1]; omega
    · cases hf : fh F y with
      | false =>
        have : fget F y = none := by unfold fh at hf; simpa using hf
        rw [this]; simp only [mu1]; omega
      | true =>
        rw [fget_of hf]
        simp only [mu1]
        unfold lessF at hi
        simp only [Bool.or_eq_true, Bool.and_eq_true, decide_eq_true_eq, beq_iff_eq] at hi
        omega
  refine sum_lt _ (fun i hi' => ?_) ⟨y.toNat, List.mem_range.2 (by omega), ?_⟩
  · rw [fget_fset]
    split
    · rename_i e; rw [e]; omega
    · exact Nat.le_refl _
  · rw [fget_fset, if_pos (by omega), show ((y.toNat : Nat) : Int) = y by omega]
    exact key
end
end Go.Proofs.Ytglfcaioapdiaaa.Bk
