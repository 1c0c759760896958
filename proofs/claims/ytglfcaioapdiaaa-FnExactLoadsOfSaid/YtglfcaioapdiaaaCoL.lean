/-
  Connected parts: both ways agree (plain).
-/
import Derived.Test.YtglfcaioapdiaaaCoA
import Derived.Test.YtglfcaioapdiaaaCoB
namespace Go.Proofs.Ytglfcaioapdiaaa.Bk
set_option linter.unusedSimpArgs false
set_option linter.unusedVariables false

def Ed (p : List Ln) (x y : Int) : Prop := ∃ l ∈ p, linkP x y l = true
inductive Cn (p : List Ln) (x : Int) : Int → Prop
  | refl : Cn p x x
  | step {y z : Int} : Cn p x y → Ed p y z → Cn p x z
theorem Ed.symm {p : List Ln} {x y : Int} (h : Ed p x y) : Ed p y x := by
  obtain ⟨l, hl, h⟩ := h; exact ⟨l, hl, linkP_symm h⟩
theorem Cn.trans {p : List Ln} {x y z : Int} (h : Cn p x y) (g : Cn p y z) : Cn p x z := by
  induction g with
  | refl => exact h
  | step _ e ih => exact ih.step e
theorem Cn.symm {p : List Ln} {x y : Int} (h : Cn p x y) : Cn p y x := by
  induction h with
  | refl => exact .refl
  | step _ e ih => exact (Cn.step .refl e.symm).trans ih
theorem Cn.mono {p q : List Ln} (hpq : ∀ l ∈ p, l ∈ q) {x y : Int} (h : Cn p x y) : Cn q x y := by
  induction h with
  | refl => exact .refl
  | step _ e ih => obtain ⟨l, hl, e⟩ := e; exact ih.step ⟨l, hpq l hl, e⟩
theorem Cn_add (p : List Ln) (l : Ln) (x y : Int) : Cn (p ++ [l]) x y ↔ Cn p x y ∨ (Cn p x l.b ∧ Cn p l.a y) ∨ (Cn p x l.a ∧ Cn p l.b y) := by
  constructor
  · intro h
    induction h with
    | refl => exact .inl .refl
    | @step y z _ e ih =>
      obtain ⟨k, hk, e⟩ := e
      rcases List.mem_append.1 hk with h1 | h1
      · have e : Ed p y z := ⟨k, h1, e⟩
        rcases ih with h | ⟨h, g⟩ | ⟨h, g⟩
        · exact .inl (h.step e)
        · exact .inr (.inl ⟨h, g.step e⟩)
        · exact .inr (.inr ⟨h, g.step e⟩)
      · simp at h1; subst h1
        rcases linkP_iff.1 e with ⟨rfl, rfl⟩ | ⟨rfl, rfl⟩
        · rcases ih with h | ⟨h, g⟩ | ⟨h, g⟩
          · exact .inr (.inr ⟨h, .refl⟩)
          · exact .inl h
          · exact .inr (.inr ⟨h, .refl⟩)
        · rcases ih with h | ⟨h, g⟩ | ⟨h, g⟩
          · exact .inr (.inl ⟨h, .refl⟩)
          · exact .inr (.inl ⟨h, .refl⟩)
          · exact .inl h
  · have hm : ∀ k ∈ p, k ∈ p ++ [l] := fun k hk => List.mem_append_left _ hk
    have e : Ed (p ++ [l]) l.a l.b := ⟨l, by simp, linkP_iff.2 (.inl ⟨rfl, rfl⟩)⟩
    rintro (h | ⟨h, g⟩ | ⟨h, g⟩)
    · exact h.mono hm
    · exact ((h.mono hm).step e.symm).trans (g.mono hm)
    · exact ((h.mono hm).step e).trans (g.mono hm)
theorem Cn_nil {x y : Int} (h : Cn [] x y) : x = y := by
  cases h with
  | refl => rfl
  | step _ e => obtain ⟨l, hl, _⟩ := e; simp at hl
def act (ls : List Ln) (may : List Bool) (i : Nat) : List Ln := ((List.range i).filter fun j => may.getD j false).map fun j => ls.getD j lnz
theorem act_yes {ls : List Ln} {may : List Bool} {i : Nat} (h : may.getD i false = true) : act ls may (i + 1) = act ls may i ++ [ls.getD i lnz] := by
  simp only [act, List.range_succ, List.filter_append, List.filter_cons, List.filter_nil, h, if_true, List.map_append, List.map_cons, List.map_nil]
theorem act_no {ls : List Ln} {may : List Bool} {i : Nat} (h : may.getD i false = false) : act ls may (i + 1) = act ls may i := by
  simp only [act, List.range_succ, List.filter_append, List.filter_cons, List.filter_nil, h, Bool.false_eq_true, if_false, List.append_nil]
theorem relab_get {x y : Int} {p : List Int} {k : Nat} (h : k < p.length) : (relab x y p).getD k 0 = if p.getD k 0 = y then x else p.getD k 0 := by
  simp [relab, List.getD, h]
theorem parts_conn {n : Int} {ls : List Ln} {may : List Bool} (hL : ∀ l ∈ ls, 0 ≤ l.a ∧ l.a < n ∧ 0 ≤ l.b ∧ l.b < n) : ∀ i, i ≤ ls.length → ∀ x y : Int, 0 ≤ x → x < n → 0 ≤ y → y < n →
    ((parts n ls may i).getD x.toNat 0 = (parts n ls may i).getD y.toNat 0 ↔ Cn (act ls may i) x y)
  | 0, _, x, y, hx, hx1, hy, hy1 => by
    have g : ∀ z : Int, 0 ≤ z → z < n → (parts n ls may 0).getD z.toNat 0 = z := fun z h0 h1 => by
      have : z.toNat < n.toNat := by omega
      simp [parts, part0, List.getD, this]; omega
    rw [g x hx hx1, g y hy hy1]
    exact ⟨fun h => h ▸ .refl, fun h => Cn_nil h⟩
  | i + 1, hi, x, y, hx, hx1, hy, hy1 => by
    have ih := parts_conn hL i (by omega) (may := may)
    have hlen := parts_len n ls may i
    simp only [parts, partS]
    cases hm : may.getD i false with
    | false => rw [act_no hm]; simpa using ih x y hx hx1 hy hy1
    | true =>
      rw [act_yes hm, Cn_add]
      have hl : ls.getD i lnz ∈ ls := by simp [List.getD, show i < ls.length by omega]
      obtain ⟨a0, a1, d0, d1⟩ := hL _ hl
      generalize ls.getD i lnz = l at a0 a1 d0 d1 ⊢
      have i1 := ih x y hx hx1 hy hy1
      have i2 := ih x l.b hx hx1 d0 d1
      have i3 := ih l.a y a0 a1 hy hy1
      have i4 := ih x l.a hx hx1 a0 a1
      have i5 := ih l.b y d0 d1 hy hy1
      generalize parts n ls may i = p at *
      simp only [if_true]
      rw [relab_get (by omega), relab_get (by omega), ← i1, ← i2, ← i3, ← i4, ← i5]
      generalize p.getD x.toNat 0 = px
      generalize p.getD y.toNat 0 = py
      generalize p.getD l.a.toNat 0 = pa
      generalize p.getD l.b.toNat 0 = pb
      grind

def lnAt (ls : List Ln) (t : Int) : Ln := ls.getD t.toNat lnz
theorem stepN_mem {ls : List Ln} {cur y t : Int} {nodes : List Int} (h : y ∈ nodes) : y ∈ stepN ls cur nodes t := by
  unfold stepN
  split
  · exact List.mem_append_left _ h
  · exact h
theorem foldN_mem {ls : List Ln} {cur y : Int} : ∀ (ix nodes : List Int), y ∈ nodes → y ∈ ix.foldl (stepN ls cur) nodes
  | [], _, h => h
  | t :: ix, nodes, h => foldN_mem ix _ (stepN_mem h)
theorem stepN_src {ls : List Ln} {cur y t : Int} {nodes : List Int} (h : y ∈ stepN ls cur nodes t) : y ∈ nodes ∨ linkP cur y (lnAt ls t) = true := by
  unfold stepN at h
  split at h
  · rename_i hc
    rcases List.mem_append.1 h with h | h
    · exact .inl h
    · simp at h
      right
      rw [← oth_link]
      simp only [Bool.and_eq_true] at hc
      simp only [lnAt, hc.1, Bool.true_and, beq_iff_eq]
      exact h.symm
  · exact .inl h
theorem foldN_src {ls : List Ln} {cur y : Int} : ∀ (ix nodes : List Int), y ∈ ix.foldl (stepN ls cur) nodes → y ∈ nodes ∨ ∃ t ∈ ix, linkP cur y (lnAt ls t) = true
  | [], _, h => .inl h
  | t :: ix, nodes, h => by
    rcases foldN_src ix _ h with h | ⟨u, hu, h⟩
    · rcases stepN_src h with h | h
      · exact .inl h
      · exact .inr ⟨t, List.mem_cons_self, h⟩
    · exact .inr ⟨u, List.mem_cons_of_mem _ hu, h⟩
theorem stepN_all {ls : List Ln} {cur z t : Int} {nodes : List Int} (h : linkP cur z (lnAt ls t) = true) : z ∈ stepN ls cur nodes t := by
  rw [← oth_link] at h
  simp only [Bool.and_eq_true, beq_iff_eq, lnAt] at h
  unfold stepN
  split
  · rw [h.2]; simp
  · rename_i hc
    simp only [h.1, Bool.true_and, Bool.not_eq_true, Bool.not_eq_false', List.any_eq_true, beq_iff_eq] at hc
    obtain ⟨w, hw, e⟩ := hc
    rw [← h.2, ← e]; exact hw
theorem foldN_all {ls : List Ln} {cur z : Int} : ∀ (ix nodes : List Int) (t : Int), t ∈ ix → linkP cur z (lnAt ls t) = true → z ∈ ix.foldl (stepN ls cur) nodes
  | [], _, t, ht, _ => by simp at ht
  | u :: ix, nodes, t, ht, h => by
    rcases List.mem_cons.1 ht with rfl | ht
    · exact foldN_mem ix _ (stepN_all h)
    · exact foldN_all ix _ t ht h
theorem reachF_spec {n : Int} {ls : List Ln} {ix : List Int} {frm : Int} (h0 : 0 ≤ n) (hL : ∀ l ∈ ls, 0 ≤ l.a ∧ l.a < n ∧ 0 ≤ l.b ∧ l.b < n) (hix : ∀ x ∈ ix, 0 ≤ x ∧ x < ls.length) : ∀ (f k : Nat) (nodes : List Int), n.toNat - k = f → k ≤ nodes.length → GoodN n nodes →
    (∀ y ∈ nodes, Cn (ix.map (lnAt ls)) frm y) → (∀ j y, j < k → nodes[j]? = some y → ∀ z, Ed (ix.map (lnAt ls)) y z → z ∈ nodes) →
    (∀ y ∈ nodes, y ∈ reachF ls ix f k nodes) ∧ GoodN n (reachF ls ix f k nodes) ∧ (∀ y ∈ reachF ls ix f k nodes, Cn (ix.map (lnAt ls)) frm y) ∧ ∀ y ∈ reachF ls ix f k nodes, ∀ z, Ed (ix.map (lnAt ls)) y z → z ∈ reachF ls ix f k nodes := by
  have fin : ∀ (k : Nat) (nodes : List Int), nodes.length ≤ k → GoodN n nodes → (∀ y ∈ nodes, Cn (ix.map (lnAt ls)) frm y) → (∀ j y, j < k → nodes[j]? = some y → ∀ z, Ed (ix.map (lnAt ls)) y z → z ∈ nodes) →
      (∀ y ∈ nodes, y ∈ nodes) ∧ GoodN n nodes ∧ (∀ y ∈ nodes, Cn (ix.map (lnAt ls)) frm y) ∧ ∀ y ∈ nodes, ∀ z, Ed (ix.map (lnAt ls)) y z → z ∈ nodes := fun k nodes hk hg hc he =>
    ⟨fun _ h => h, hg, hc, fun y hy z hz => by
      obtain ⟨j, hj, rfl⟩ := List.getElem_of_mem hy
      exact he j _ (by omega) (List.getElem?_eq_getElem hj) z hz⟩
  intro f
  induction f with
  | zero => intro k nodes hf hk hg hc he; exact fin k nodes (by have := hg.le h0; omega) hg hc he
  | succ f ih =>
    intro k nodes hf hk hg hc he
    rw [reachF]
    split
    · rename_i hlt
      have hcur : nodes[k]? = some (nodes.getD k 0) := by simp [List.getD, hlt]
      have hmem : nodes.getD k 0 ∈ nodes := List.mem_of_getElem? hcur
      generalize nodes.getD k 0 = cur at hcur hmem ⊢
      have hR : rIn ls cur ix nodes ix.length = ix.foldl (stepN ls cur) nodes := by rw [rIn, List.take_length]
      have hg2 := rIn_good (cur := cur) hL hix hg ix.length (Nat.le_refl _)
      rw [hR] at hg2 ⊢
      have hk2 : (ix.foldl (stepN ls cur) nodes)[k]? = some cur := foldN_get _ _ hcur
      have := ih (k + 1) (ix.foldl (stepN ls cur) nodes) (by omega) (List.getElem?_eq_some_iff.1 hk2).1 hg2 (fun y hy => by
        rcases foldN_src ix nodes hy with h | ⟨t, ht, h⟩
        · exact hc y h
        · exact (hc cur hmem).step ⟨_, List.mem_map.2 ⟨t, ht, rfl⟩, h⟩) (fun j y hj hy z hz => by
        by_cases hjk : j = k
        · subst hjk
          rw [hk2] at hy
          cases hy
          obtain ⟨l, hl, hz⟩ := hz
          obtain ⟨t, ht, rfl⟩ := List.mem_map.1 hl
          exact foldN_all ix nodes t ht hz
        · have hjn : j < nodes.length := by omega
          have h2 : (ix.foldl (stepN ls cur) nodes)[j]? = some nodes[j] := foldN_get _ _ (List.getElem?_eq_getElem hjn)
          rw [h2] at hy
          cases hy
          exact foldN_mem ix nodes (he j _ (by omega) (List.getElem?_eq_getElem hjn) z hz))
      exact ⟨fun y hy => this.1 y (foldN_mem ix nodes hy), this.2⟩
    · exact fin k nodes (by omega) hg hc he
theorem reachV_spec {n : Int} {ls : List Ln} {ix : List Int} {frm : Int} (hL : ∀ l ∈ ls, 0 ≤ l.a ∧ l.a < n ∧ 0 ≤ l.b ∧ l.b < n) (hix : ∀ x ∈ ix, 0 ≤ x ∧ x < ls.length) (hf : 0 ≤ frm ∧ frm < n) :
    GoodN n (reachV n ls ix frm) ∧ ∀ y, y ∈ reachV n ls ix frm ↔ Cn (ix.map (lnAt ls)) frm y := by
  have := reachF_spec (frm := frm) (by omega) hL hix n.toNat 0 [frm] (by omega) (Nat.zero_le _) ⟨by simp, fun x hx => by simp at hx; subst hx; exact hf⟩ (fun y hy => by simp at hy; subst hy; exact .refl) (fun j y hj => absurd hj (Nat.not_lt_zero _))
  obtain ⟨h1, h2, h3, h4⟩ := this
  refine ⟨h2, fun y => ⟨h3 y, fun h => ?_⟩⟩
  induction h with
  | refl => exact h1 frm (by simp)
  | step _ e ih => exact h4 _ ih _ e
end Go.Proofs.Ytglfcaioapdiaaa.Bk
