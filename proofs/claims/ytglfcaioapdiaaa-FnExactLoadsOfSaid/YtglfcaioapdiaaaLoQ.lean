/-
  Loads of a tree, in plain terms.
-/
import Derived.Test.YtglfcaioapdiaaaRtP
import Derived.Test.YtglfcaioapdiaaaTrC
import Derived.Test.YtglfcaioapdiaaaUqA
import Derived.Test.YtglfcaioapdiaaaLoA
namespace Go.Proofs.Ytglfcaioapdiaaa.Bk
open Go
set_option linter.unusedSimpArgs false
set_option linter.unusedVariables false

/-- ways with the links that they use -/
inductive Pq (ls : List Ln) (may : List Bool) (s : Int) : List Int → List Int → Int → Prop
  | one : Pq ls may s [s] [] s
  | step {p q : List Int} {x y : Int} {i : Nat} (h : Pq ls may s p q x) (hi : i < ls.length) (hm : may.getD i false = true) (hl : linkP x y ls[i] = true) (hy : y ∉ p) : Pq ls may s (p ++ [y]) (q ++ [(i : Int)]) y
section
variable {ls : List Ln} {may : List Bool} {s : Int}
theorem Pq.len {p q : List Int} {t : Int} (h : Pq ls may s p q t) : p.length = q.length + 1 ∧ p.getLast? = some t := by
  induction h with
  | one => exact ⟨rfl, rfl⟩
  | step h hi hm hl hy ih => exact ⟨by simp [ih.1], by simp⟩
theorem rtI_snoc {p : List Int} {y x : Int} (h0 : p ≠ []) (hx : p.getLast? = some x) : rtI ls (p ++ [y]) (p ++ [y]).length = rtI ls p p.length ++ [ixG (linkP x y) ls] := by
  have hp : 0 < p.length := List.length_pos_iff.2 h0
  rw [List.length_append, List.length_singleton, rtI_succ _ _ hp]
  have e1 : rtI ls (p ++ [y]) p.length = rtI ls p p.length := by
    unfold rtI
    refine List.map_congr_left fun j hj => ?_
    have hj := List.mem_range.1 hj
    unfold lkAt
    have a1 : (p ++ [y]).getD (j + 1 - 1) 0 = p.getD (j + 1 - 1) 0 := by simp [List.getD, List.getElem?_append_left (show j < p.length by omega)]
    have a2 : (p ++ [y]).getD (j + 1) 0 = p.getD (j + 1) 0 := by simp [List.getD, List.getElem?_append_left (show j + 1 < p.length by omega)]
    rw [a1, a2]
  have e2 : lkAt ls (p ++ [y]) p.length = ixG (linkP x y) ls := by
    unfold lkAt
    have a1 : (p ++ [y]).getD (p.length - 1) 0 = x := by
      simp only [List.getD, List.getElem?_append_left (show p.length - 1 < p.length by omega)]
      rw [← List.getLast?_eq_getElem?, hx]; rfl
    have a2 : (p ++ [y]).getD p.length 0 = y := by simp [List.getD]
    rw [a1, a2]
  rw [e1, e2]
theorem Pq.of {counts : Bool} (hu : Uq ls) {p : List Int} {c t : Int} (h : Pt (Lk ls may counts) s p c t) : Pq ls may s p (rtI ls p p.length) t := by
  induction h with
  | one => exact .one
  | @step p c x y o h he hy ih =>
    obtain ⟨i, hi, hm, hor, _⟩ := he
    have hl : linkP x y ls[i] = true := linkP_iff.2 hor
    rw [rtI_snoc h.ne h.last, ixG_uq hu hi hl]
    exact .step ih hi hm hl hy
theorem Pq.idx {p q : List Int} {t : Int} (h : Pq ls may s p q t) : ∀ k ∈ q, ∃ i, ∃ hi : i < ls.length, k = (i : Int) ∧ may.getD i false = true ∧ ls[i].a ∈ p ∧ ls[i].b ∈ p := by
  induction h with
  | one => intro k hk; cases hk
  | @step p q x y i h hi hm hl hy ih =>
    intro k hk
    rcases List.mem_append.1 hk with hk | hk
    · obtain ⟨j, hj, e, g1, g2, g3⟩ := ih k hk
      exact ⟨j, hj, e, g1, List.mem_append_left _ g2, List.mem_append_left _ g3⟩
    · simp at hk
      have hx : x ∈ p := List.mem_of_getLast? h.len.2
      refine ⟨i, hi, hk, hm, ?_, ?_⟩ <;> (rcases linkP_iff.1 hl with ⟨a, b⟩ | ⟨a, b⟩ <;> simp [a, b, hx])
theorem Pq.new {p q : List Int} {x y : Int} {i : Nat} (h : Pq ls may s p q x) (hi : i < ls.length) (hl : linkP x y ls[i] = true) (hy : y ∉ p) : (i : Int) ∉ q := fun hm => by
  obtain ⟨j, hj, e, _, g2, g3⟩ := h.idx _ hm
  have : i = j := by omega
  subst this
  rcases linkP_iff.1 hl with ⟨a, b⟩ | ⟨a, b⟩
  · exact hy (b ▸ g3)
  · exact hy (a ▸ g2)
theorem Pq.nd {p q : List Int} {t : Int} (h : Pq ls may s p q t) : q.Nodup := by
  induction h with
  | one => exact List.nodup_nil
  | @step p q x y i h hi hm hl hy ih =>
    refine List.nodup_append.2 ⟨ih, by simp, fun a ha b hb => ?_⟩
    simp at hb; subst hb
    exact fun e => h.new hi hl hy (e ▸ ha)
variable {ix : List Int} (hmay : ∀ i, i < ls.length → (may.getD i false = true ↔ (i : Int) ∈ ix))
include hmay
/-- a way without a link -/
theorem Pq.off {p q : List Int} {t k : Int} (h : Pq ls may s p q t) : k ∉ q → Cn ((ix.filter fun x => !(x == k)).map (lnAt ls)) s t := by
  induction h with
  | one => intro _; exact .refl
  | @step p q x y i h hi hm hl hy ih =>
    intro hk
    simp only [List.mem_append, List.mem_singleton, not_or] at hk
    refine .step (ih hk.1) ⟨ls[i], List.mem_map.2 ⟨(i : Int), ?_, by simp [lnAt, List.getD, hi]⟩, hl⟩
    refine List.mem_filter.2 ⟨(hmay i hi).1 hm, ?_⟩
    have : ((i : Int) == k) = false := by simpa using fun e => hk.2 e.symm
    rw [this]; rfl
/-- a way with a link: what lies on both sides -/
theorem Pq.on {p q : List Int} {t : Int} {k : Nat} (hk : k < ls.length) (h : Pq ls may s p q t) : (k : Int) ∈ q → ∃ u v, linkP u v ls[k] = true ∧ Cn ((ix.filter fun x => !(x == (k : Int))).map (lnAt ls)) s u ∧ Cn ((ix.filter fun x => !(x == (k : Int))).map (lnAt ls)) v t := by
  induction h with
  | one => intro h; cases h
  | @step p q x y i h hi hm hl hy ih =>
    intro hkm
    by_cases hkq : (k : Int) ∈ q
    · obtain ⟨u, v, g1, g2, g3⟩ := ih hkq
      have hne : i ≠ k := fun e => h.new hi hl hy (e ▸ hkq)
      refine ⟨u, v, g1, g2, .step g3 ⟨ls[i], List.mem_map.2 ⟨(i : Int), List.mem_filter.2 ⟨(hmay i hi).1 hm, ?_⟩, by simp [lnAt, List.getD, hi]⟩, hl⟩⟩
      have : ((i : Int) == (k : Int)) = false := by simp; omega
      rw [this]; rfl
    · have : i = k := by
        rcases List.mem_append.1 hkm with h1 | h1
        · exact absurd h1 hkq
        · simp at h1; omega
      subst this
      exact ⟨x, y, hl, h.off hmay hkq, .refl⟩
end

/-- links that join all nodes are not too few -/
theorem cn_count {n : Int} : ∀ (m : Nat) (p : List Ln), p.length = m → ∃ R : List Int, R.Nodup ∧ (∀ r ∈ R, 0 ≤ r ∧ r < n) ∧ n.toNat ≤ R.length + m ∧ ∀ r ∈ R, ∀ r' ∈ R, r ≠ r' → ¬ Cn p r r'
  | 0, p, hp => by
    have : p = [] := List.length_eq_zero_iff.1 hp
    subst this
    refine ⟨part0 n.toNat, List.Pairwise.map _ (fun a b (hab : a ≠ b) => by omega) List.nodup_range, fun r hr => ?_, by rw [part0_len]; omega, fun r _ r' _ hne h => hne (Cn_nil h)⟩
    obtain ⟨j, hj, rfl⟩ := List.mem_map.1 hr
    have := List.mem_range.1 hj
    omega
  | m + 1, p, hp => by
    obtain ⟨q, l, rfl⟩ : ∃ q l, p = q ++ [l] := by
      have : p ≠ [] := fun e => by subst e; simp at hp
      exact ⟨p.dropLast, p.getLast this, (List.dropLast_concat_getLast this).symm⟩
    obtain ⟨R, h1, h2, h3, h4⟩ := cn_count m q (by simpa using hp)
    by_cases hc : ∃ r ∈ R, Cn q r l.b
    · obtain ⟨r0, hr0, hcn⟩ := hc
      have hl := List.length_erase_of_mem hr0
      have hp0 : 0 < R.length := List.length_pos_of_mem hr0
      have no : ∀ r ∈ R.erase r0, ¬ Cn q r l.b := fun r hr hcr => by
        have := (h1.mem_erase_iff).1 hr
        exact h4 r this.2 r0 hr0 this.1 (hcr.trans hcn.symm)
      refine ⟨R.erase r0, h1.erase _, fun r hr => h2 r (List.mem_of_mem_erase hr), by omega, fun r hr r' hr' hne h => ?_⟩
      rcases (Cn_add q l r r').1 h with h | ⟨h, _⟩ | ⟨_, h⟩
      · exact h4 r (List.mem_of_mem_erase hr) r' (List.mem_of_mem_erase hr') hne h
      · exact no r hr h
      · exact no r' hr' h.symm
    · refine ⟨R, h1, h2, by omega, fun r hr r' hr' hne h => ?_⟩
      rcases (Cn_add q l r r').1 h with h | ⟨h, _⟩ | ⟨_, h⟩
      · exact h4 r hr r' hr' hne h
      · exact hc ⟨r, hr, h⟩
      · exact hc ⟨r', hr', h.symm⟩
theorem cn_all {n : Int} {p : List Ln} (h : ∀ x y, 0 ≤ x → x < n → 0 ≤ y → y < n → Cn p x y) : n.toNat ≤ p.length + 1 := by
  obtain ⟨R, h1, h2, h3, h4⟩ := cn_count (n := n) p.length p rfl
  have : R.length ≤ 1 := by
    match R, h1, h2, h4 with
    | [], _, _, _ => simp
    | [_], _, _, _ => simp
    | a :: b :: R, h1, h2, h4 =>
      have ha := h2 a (by simp)
      have hb := h2 b (by simp)
      have hne : a ≠ b := fun e => by subst e; simp at h1
      exact absurd (h a b ha.1 ha.2 hb.1 hb.2) (h4 a (by simp) b (by simp) hne)
  omega

/-- a tree, said plainly -/
structure Tr (n : Int) (ls : List Ln) (ix : List Int) : Prop where
  n1 : 1 ≤ n ∧ n ≤ 12
  ok : ∀ l ∈ ls, 0 ≤ l.a ∧ l.a < n ∧ 0 ≤ l.b ∧ l.b < n
  uq : Uq ls
  nd : ix.Nodup
  rg : ∀ x ∈ ix, 0 ≤ x ∧ x < ls.length
  len : (ix.length : Int) = n - 1
  all : ∀ x y, 0 ≤ x → x < n → 0 ≤ y → y < n → Cn (ix.map (lnAt ls)) x y
theorem incB_lt {xs : List Int} (h : incB xs = true) : ∀ (d i : Nat), i + d + 1 < xs.length → xs.getD i 0 < xs.getD (i + d + 1) 0 := by
  have one : ∀ i, i + 1 < xs.length → xs.getD i 0 < xs.getD (i + 1) 0 := fun i hi => by
    have := List.all_eq_true.1 h (i + 1) (List.mem_range.2 hi)
    simpa [incAt] using this
  intro d
  induction d with
  | zero => exact one
  | succ d ih =>
    intro i hi
    have h1 := ih i (by omega)
    have h2 := one (i + d + 1) (by omega)
    have e : i + d + 1 + 1 = i + (d + 1) + 1 := by omega
    rw [e] at h2
    omega
theorem incB_nd {xs : List Int} (h : incB xs = true) : xs.Nodup := by
  refine List.pairwise_iff_getElem.2 fun i j hi hj hij he => ?_
  have h1 := incB_lt h (j - i - 1) i (by omega)
  have e : i + (j - i - 1) + 1 = j := by omega
  rw [e] at h1
  simp only [List.getD, List.getElem?_eq_getElem hi, List.getElem?_eq_getElem hj, Option.getD_some, he] at h1
  omega
theorem Tr.of {n : Int} {ls : List Ln} {ix : List Int} (hN : 1 ≤ n ∧ n ≤ 12) (hL : ∀ l ∈ ls, 0 ≤ l.a ∧ l.a < n ∧ 0 ≤ l.b ∧ l.b < n) (hu : Uq ls) (h : isT n ls ix = true) : Tr n ls ix := by
  simp only [isT, Bool.and_eq_true, beq_iff_eq] at h
  obtain ⟨⟨⟨h1, h2⟩, h3⟩, h4⟩ := h
  have hg := inW_get h2
  obtain ⟨hG, hR⟩ := reachV_spec (frm := 0) hL hg (by omega)
  have hin : ∀ x, 0 ≤ x → x < n → Cn (ix.map (lnAt ls)) 0 x := fun x h0 h1 => by
    refine (hR x).1 (Classical.byContradiction fun hc => ?_)
    have := pigeon n.toNat (x :: reachV n ls ix 0) (List.nodup_cons.2 ⟨hc, hG.1⟩) fun y hy => by
      rcases List.mem_cons.1 hy with rfl | hy
      · omega
      · have := hG.2 y hy; omega
    simp only [List.length_cons] at this
    omega
  exact ⟨hN, hL, hu, incB_nd h1, hg, h3, fun x y hx hx1 hy hy1 => (hin x hx hx1).symm.trans (hin y hy hy1)⟩
/-- without one of its links a tree falls apart -/
theorem Tr.cut {n : Int} {ls : List Ln} {ix : List Int} (h : Tr n ls ix) {k : Nat} (hk : k < ls.length) (hm : (k : Int) ∈ ix) {u v : Int} (hl : linkP u v ls[k] = true) : ¬ Cn ((ix.filter fun x => !(x == (k : Int))).map (lnAt ls)) u v := fun hc => by
  have up : ∀ {x y : Int}, Cn (ix.map (lnAt ls)) x y → Cn ((ix.filter fun x => !(x == (k : Int))).map (lnAt ls)) x y := fun hh => by
    induction hh with
    | refl => exact .refl
    | @step y z _ e ih =>
      obtain ⟨l, hl', e⟩ := e
      obtain ⟨t, ht, rfl⟩ := List.mem_map.1 hl'
      by_cases he : t = (k : Int)
      · subst he
        have hat : lnAt ls (k : Int) = ls[k] := by simp [lnAt, List.getD, hk]
        rw [hat] at e
        refine ih.trans ?_
        rcases linkP_iff.1 e with ⟨a, b⟩ | ⟨a, b⟩ <;> rcases linkP_iff.1 hl with ⟨a', b'⟩ | ⟨a', b'⟩
        · rw [← a, ← b, a', b']; exact hc
        · rw [← a, ← b, a', b']; exact hc.symm
        · rw [← a, ← b, a', b']; exact hc.symm
        · rw [← a, ← b, a', b']; exact hc
      · refine ih.step ⟨_, List.mem_map.2 ⟨t, List.mem_filter.2 ⟨ht, ?_⟩, rfl⟩, e⟩
        have : (t == (k : Int)) = false := by simpa using he
        rw [this]; rfl
  have h1 := cn_all (n := n) fun x y hx hx1 hy hy1 => up (h.all x y hx hx1 hy hy1)
  have h2 : (ix.filter fun x => !(x == (k : Int))).length < ix.length := by
    refine Nat.lt_of_le_of_ne (List.length_filter_le _ _) fun e => ?_
    have := List.length_filter_eq_length_iff.1 e (k : Int) hm
    simp at this
  have := h.len
  have := h.n1
  rw [List.length_map] at h1
  omega
/-- a link lies on the way to the root exactly if the root is not reached without it -/
theorem Tr.way {n : Int} {ls : List Ln} {ix : List Int} (h : Tr n ls ix) {may : List Bool} (hmay : ∀ i, i < ls.length → (may.getD i false = true ↔ (i : Int) ∈ ix)) {x root : Int} {p q : List Int} (hp : Pq ls may x p q root) {k : Nat} (hk : k < ls.length) (hm : (k : Int) ∈ ix) :
    (k : Int) ∈ q ↔ ¬ Cn ((ix.filter fun x => !(x == (k : Int))).map (lnAt ls)) root x := by
  constructor
  · intro hq hc
    obtain ⟨u, v, g1, g2, g3⟩ := hp.on hmay hk hq
    exact h.cut hk hm g1 (g2.symm.trans (hc.symm.trans g3.symm))
  · intro hc
    exact Classical.byContradiction fun hq => hc (hp.off hmay hq).symm
end Go.Proofs.Ytglfcaioapdiaaa.Bk

-- Loads of a tree: what both functions count.
namespace Go.Proofs.Ytglfcaioapdiaaa.Bk
open Go Go.Proofs.Ytglfcaioapdiaaa.Aw
set_option linter.unusedSimpArgs false
set_option linter.unusedVariables false

def sumV (d : List Int) (P : Nat → Bool) : Nat → Int
  | 0 => 0
  | x + 1 => sumV d P x + (if P x then d.getD x 0 else 0)
theorem sumV_in {d : List Int} (hd : ∀ v ∈ d, 0 ≤ v ∧ v ≤ 1000000) (P : Nat → Bool) : ∀ x : Nat, 0 ≤ sumV d P x ∧ sumV d P x ≤ 1000000 * (x : Int)
  | 0 => by simp [sumV]
  | x + 1 => by
    have ih := sumV_in hd P x
    have : 0 ≤ d.getD x 0 ∧ d.getD x 0 ≤ 1000000 := by
      by_cases h : x < d.length
      · have := hd d[x] (List.getElem_mem h)
        simpa [List.getD, h] using this
      · simp [List.getD, List.getElem?_eq_none (show d.length ≤ x by omega)]
    simp only [sumV]
    split <;> omega
theorem sumV_congr {d : List Int} {P Q : Nat → Bool} : ∀ x : Nat, (∀ y, y < x → P y = Q y) → sumV d P x = sumV d Q x
  | 0, _ => rfl
  | x + 1, h => by simp only [sumV]; rw [sumV_congr x fun y hy => h y (by omega), h x (by omega)]
def rm (m : Nat) (f : Nat → Int) : List Int := (List.range m).map f
theorem rm_len (m : Nat) (f : Nat → Int) : (rm m f).length = m := by simp [rm]
theorem rm_get {m : Nat} {f : Nat → Int} {t : Nat} (h : t < m) : (rm m f)[t]? = some (f t) := by simp [rm, h]
theorem rm_set {m : Nat} {f : Nat → Int} {t : Nat} {v : Int} : (rm m f).set t v = rm m fun i => if i = t then v else f i := by
  apply List.ext_getElem?
  intro i
  simp only [rm, List.getElem?_set, List.getElem?_map, List.length_map, List.length_range]
  by_cases hi : i < m
  · rw [List.getElem?_range hi]
    by_cases h : t = i
    · subst h; simp [hi]
    · have h2 : ¬ i = t := fun e => h e.symm
      simp [h, h2]
  · rw [List.getElem?_eq_none (show (List.range m).length ≤ i by simp; omega)]
    by_cases h : t = i
    · subst h; simp [hi]
    · simp [h]
theorem rm_congr {m : Nat} {f g : Nat → Int} (h : ∀ i, i < m → f i = g i) : rm m f = rm m g := List.map_congr_left fun i hi => h i (List.mem_range.1 hi)

section
variable (n : Int) (ls : List Ln) (ix : List Int) (root : Int) (d : List Int)
/-- a node is cut off from the root where a link lacks -/
def cutB (i : Int) (x : Nat) : Bool := !((reachV n ls (othI ix i) root).any fun y => y == (x : Int))
/-- the program's state behind j links -/
def loF (j i : Nat) : Int := if (i : Int) ∈ ix.take j then sumV d (cutB n ls ix root i) n.toNat else 0
def loG (j x i : Nat) : Int := if (i : Int) = ix.getD j 0 then sumV d (cutB n ls ix root (ix.getD j 0)) x else loF n ls ix root d j i
variable {n ls ix root d}
theorem loF_0 (i : Nat) : loF n ls ix root d 0 i = 0 := by simp [loF]
theorem loG_0 (hnd : ix.Nodup) {j : Nat} (hj : j < ix.length) (i : Nat) : loG n ls ix root d j 0 i = loF n ls ix root d j i := by
  unfold loG
  split
  · rename_i h
    have hD : ix.getD j 0 = ix[j] := by simp [List.getD, hj]
    unfold loF
    rw [if_neg]
    · rfl
    · intro hm
      rw [h, hD] at hm
      obtain ⟨q, hq, e⟩ := List.getElem_of_mem hm
      simp only [List.length_take] at hq
      rw [List.getElem_take] at e
      have := (List.getElem_inj (h₀ := by omega) (h₁ := hj) hnd).1 e
      omega
  · rfl
theorem loG_n {j : Nat} (hj : j < ix.length) (i : Nat) : loG n ls ix root d j n.toNat i = loF n ls ix root d (j + 1) i := by
  have hD : ix.getD j 0 = ix[j] := by simp [List.getD, hj]
  unfold loG loF
  rw [List.take_succ_eq_append_getElem hj, hD]
  by_cases h : (i : Int) = ix[j]
  · rw [if_pos h, if_pos (List.mem_append_right _ (by simp [h])), h]
  · rw [if_neg h]
    have : (i : Int) ∈ ix.take j ++ [ix[j]] ↔ (i : Int) ∈ ix.take j := ⟨fun hm => (List.mem_append.1 hm).resolve_right (fun hh => h (List.mem_singleton.1 hh)), List.mem_append_left _⟩
    simp only [this]
theorem loG_step (j x : Nat) (t : Nat) (ht : (t : Int) = ix.getD j 0) (i : Nat) : loG n ls ix root d j (x + 1) i = if i = t then loG n ls ix root d j x t + (if cutB n ls ix root (ix.getD j 0) x then d.getD x 0 else 0) else loG n ls ix root d j x i := by
  by_cases h : i = t
  · subst h
    rw [if_pos rfl]
    unfold loG
    rw [if_pos ht, if_pos ht]
    rfl
  · rw [if_neg h]
    unfold loG
    have : ¬ (i : Int) = ix.getD j 0 := fun e => h (by omega)
    rw [if_neg this, if_neg this]
theorem loG_in (hn : n ≤ 12) (hd : ∀ v ∈ d, 0 ≤ v ∧ v ≤ 1000000) (j x i : Nat) (hx : x ≤ 12) : 0 ≤ loG n ls ix root d j x i ∧ loG n ls ix root d j x i ≤ 12000000 := by
  unfold loG loF
  have h1 := sumV_in hd (cutB n ls ix root (ix.getD j 0)) x
  have h2 := sumV_in hd (cutB n ls ix root i) n.toNat
  split
  · omega
  · split <;> omega
end
/-- the reference's state behind x nodes -/
def qnB (q : Nat → List Int) (i x : Nat) : Bool := (q x).any fun y => y == (i : Int)
def spF (d : List Int) (q : Nat → List Int) (x i : Nat) : Int := sumV d (qnB q i) x
def spG (d : List Int) (q : Nat → List Int) (x k i : Nat) : Int := spF d q x i + (if (i : Int) ∈ (q x).take k then d.getD x 0 else 0)
theorem spG_0 (d : List Int) (q : Nat → List Int) (x i : Nat) : spG d q x 0 i = spF d q x i := by simp [spG]
theorem spG_n (d : List Int) (q : Nat → List Int) (x i : Nat) : spG d q x (q x).length i = spF d q (x + 1) i := by
  have : qnB q i x = decide ((i : Int) ∈ q x) := by
    rw [Bool.eq_iff_iff]
    simp [qnB]
  simp only [spG, spF, sumV, List.take_length, this, decide_eq_true_eq]
theorem spG_step {d : List Int} {q : Nat → List Int} {x k : Nat} (hk : k < (q x).length) (hnd : (q x).Nodup) (t : Nat) (ht : (t : Int) = (q x)[k]) (i : Nat) :
    spG d q x (k + 1) i = if i = t then spG d q x k t + d.getD x 0 else spG d q x k i := by
  unfold spG
  rw [List.take_succ_eq_append_getElem hk]
  by_cases h : i = t
  · subst h
    rw [if_pos rfl, if_pos (List.mem_append_right _ (by simp [ht])), if_neg]
    · omega
    · intro hm
      rw [ht] at hm
      obtain ⟨a, ha, e⟩ := List.getElem_of_mem hm
      simp only [List.length_take] at ha
      rw [List.getElem_take] at e
      have := (List.getElem_inj (h₀ := by omega) (h₁ := hk) hnd).1 e
      omega
  · rw [if_neg h]
    have : (i : Int) ∈ (q x).take k ++ [(q x)[k]] ↔ (i : Int) ∈ (q x).take k := by
      rw [← ht]
      simp only [List.mem_append, List.mem_singleton, or_iff_left_iff_imp]
      intro e; exact absurd (by omega) h
    simp only [this]
theorem spG_in {d : List Int} (hd : ∀ v ∈ d, 0 ≤ v ∧ v ≤ 1000000) (q : Nat → List Int) (x k i : Nat) (hx : x ≤ 12) : 0 ≤ spG d q x k i ∧ spG d q x k i ≤ 13000000 := by
  have h1 := sumV_in hd (qnB q i) x
  have : 0 ≤ d.getD x 0 ∧ d.getD x 0 ≤ 1000000 := by
    by_cases h : x < d.length
    · have := hd d[x] (List.getElem_mem h)
      simpa [List.getD, h] using this
    · simp [List.getD, List.getElem?_eq_none (show d.length ≤ x by omega)]
  unfold spG spF
  split <;> omega

/-- connected nodes have a way between them -/
theorem way_of {ls : List Ln} {may : List Bool} {ix : List Int} {s : Int} (hmay : ∀ i, i < ls.length → (may.getD i false = true ↔ (i : Int) ∈ ix)) (hrg : ∀ x ∈ ix, 0 ≤ x ∧ x < ls.length) {t : Int} (h : Cn (ix.map (lnAt ls)) s t) : ∃ p c, Pt (Lk ls may false) s p c t := by
  induction h with
  | refl => exact ⟨[s], 0, .one⟩
  | @step y z _ e ih =>
    obtain ⟨p, c, hp⟩ := ih
    obtain ⟨l, hl, e⟩ := e
    obtain ⟨u, hu, rfl⟩ := List.mem_map.1 hl
    have hur := hrg u hu
    have hi : u.toNat < ls.length := by omega
    have hat : lnAt ls u = ls[u.toNat] := by simp [lnAt, List.getD, hi]
    rw [hat] at e
    have hm : may.getD u.toNat false = true := (hmay _ hi).2 (by rw [show ((u.toNat : Nat) : Int) = u by omega]; exact hu)
    have hE : Lk ls may false y z 0 := ⟨u.toNat, hi, hm, linkP_iff.1 e, by simp [costW]⟩
    by_cases hz : z ∈ p
    · obtain ⟨q, _, c', _, hq, _⟩ := hp.pre (fun _ _ _ h => by obtain ⟨_, _, _, _, e⟩ := h; simp [costW] at e; omega) z hz
      exact ⟨q, c', hq⟩
    · exact ⟨p ++ [z], c + 0, .step hp hE hz⟩
/-- the reference's links of the way from a node -/
def wyQ (n : Int) (ls : List Ln) (ix : List Int) (root : Int) (x : Nat) : List Int :=
  rtI ls (routeW n ls (mayT ls.length ix ix.length) false (x : Int) root).p (routeW n ls (mayT ls.length ix ix.length) false (x : Int) root).p.length
theorem Tr.may {n : Int} {ls : List Ln} {ix : List Int} (h : Tr n ls ix) : ∀ i, i < ls.length → ((mayT ls.length ix ix.length).getD i false = true ↔ (i : Int) ∈ ix) := fun i hi => by
  rw [mayT_get hi ix.length (Nat.le_refl _), List.take_length]
  constructor
  · rintro ⟨t, ht, e⟩
    have := h.rg t ht
    rw [show (i : Int) = t by omega]; exact ht
  · exact fun hm => ⟨_, hm, by simp⟩
theorem Tr.route {n : Int} {ls : List Ln} {ix : List Int} (h : Tr n ls ix) {root : Int} (hr : 0 ≤ root ∧ root < n) {x : Nat} (hx : (x : Int) < n) :
    (routeW n ls (mayT ls.length ix ix.length) false (x : Int) root).f = true ∧ Pq ls (mayT ls.length ix ix.length) (x : Int) (routeW n ls (mayT ls.length ix ix.length) false (x : Int) root).p (wyQ n ls ix root x) root := by
  have hE : ∀ x y o, Lk ls (mayT ls.length ix ix.length) false x y o → 0 ≤ o ∧ (0 ≤ x ∧ x < n) ∧ (0 ≤ y ∧ y < n) := fun x y o he => by
    obtain ⟨i, hi, _, hor, e⟩ := he
    have := h.ok _ (List.getElem_mem hi)
    refine ⟨by simp [costW] at e; omega, ?_⟩
    rcases hor with ⟨a, b⟩ | ⟨a, b⟩ <;> omega
  obtain ⟨r1, r2⟩ := route_spec (E := Lk ls (mayT ls.length ix ix.length) false) (s := (x : Int)) (n := n) hE (by omega) rfl hr
  obtain ⟨p, c, hp⟩ := way_of h.may h.rg (h.all (x : Int) root (by omega) hx hr.1 hr.2)
  have hf := (r2 p c hp).1
  exact ⟨hf, Pq.of h.uq (r1 hf)⟩
/-- both count the same -/
theorem Tr.loads {n : Int} {ls : List Ln} {ix : List Int} (h : Tr n ls ix) {root : Int} (hr : 0 ≤ root ∧ root < n) (d : List Int) {i : Nat} (hi : i < ls.length) : spF d (wyQ n ls ix root) n.toNat i = loF n ls ix root d ix.length i := by
  unfold spF loF
  rw [List.take_length]
  by_cases hm : (i : Int) ∈ ix
  · rw [if_pos hm]
    refine sumV_congr _ fun x hx => ?_
    have hxn : (x : Int) < n := by omega
    have hw := (h.route hr hxn).2
    have h1 := h.way h.may hw hi hm
    have hoix : ∀ y ∈ othI ix i, 0 ≤ y ∧ y < ls.length := fun y hy => h.rg y (List.mem_filter.1 hy).1
    have h2 := (reachV_spec (frm := root) h.ok hoix hr).2 (x : Int)
    rw [Bool.eq_iff_iff]
    simp only [qnB, cutB, List.any_eq_true, beq_iff_eq, Bool.not_eq_true', List.any_eq_false, exists_eq_right]
    rw [h1]
    have e : (ix.filter fun x => !(x == (i : Int))) = othI ix i := rfl
    rw [e, ← h2]
    constructor
    · intro hn y hy e; exact hn (e ▸ hy)
    · intro hn hy; exact hn _ hy rfl
  · rw [if_neg hm]
    have : ∀ x : Nat, x ≤ n.toNat → sumV d (qnB (wyQ n ls ix root) i) x = 0 := fun x => by
      induction x with
      | zero => intro _; rfl
      | succ x ih =>
        intro hx
        have hw := (h.route hr (x := x) (by omega)).2
        have hq : qnB (wyQ n ls ix root) i x = false := by
          simp only [qnB, List.any_eq_false, beq_iff_eq]
          intro y hy e
          subst e
          obtain ⟨j, hj, e, hmj, _⟩ := hw.idx _ hy
          have : i = j := by omega
          subst this
          exact hm ((h.may i hi).1 hmj)
        simp only [sumV, hq, ih (by omega)]
        simp
    exact this _ (Nat.le_refl _)
/-- such a way is a route -/
theorem Pq.rtB {n : Int} {ls : List Ln} {may : List Bool} {s : Int} (hL : ∀ l ∈ ls, 0 ≤ l.a ∧ l.a < n ∧ 0 ≤ l.b ∧ l.b < n) (hs : 0 ≤ s ∧ s < n) {p q : List Int} {t : Int} (h : Pq ls may s p q t) : p ≠ [] ∧ ∀ j, j < p.length → goodR n ls p j = true := by
  induction h with
  | one =>
    refine ⟨by simp, fun j hj => ?_⟩
    simp at hj
    subst hj
    simp [goodR, inB]; omega
  | @step p q x y i h hi hm hl hy ih =>
    obtain ⟨h1, h3⟩ := ih
    have h2 := h.len.2
    refine ⟨by simp, fun j hj => ?_⟩
    simp only [List.length_append, List.length_singleton] at hj
    have hp0 : 0 < p.length := List.length_pos_iff.2 h1
    by_cases hjl : j < p.length
    · have := h3 j hjl
      have e1 : (p ++ [y]).getD j 0 = p.getD j 0 := by simp [List.getD, List.getElem?_append_left hjl]
      have e2 : (p ++ [y]).take j = p.take j := List.take_append_of_le_length (by omega)
      have e3 : (p ++ [y]).getD (j - 1) 0 = p.getD (j - 1) 0 := by simp [List.getD, List.getElem?_append_left (show j - 1 < p.length by omega)]
      simp only [goodR, lkAt, e1, e2, e3] at this ⊢
      exact this
    · have hje : j = p.length := by omega
      subst hje
      have e1 : (p ++ [y]).getD p.length 0 = y := by simp [List.getD]
      have e2 : (p ++ [y]).take p.length = p := by simp
      have e3 : (p ++ [y]).getD (p.length - 1) 0 = x := by
        simp only [List.getD, List.getElem?_append_left (show p.length - 1 < p.length by omega)]
        rw [← List.getLast?_eq_getElem?, h2]; rfl
      have hrng : 0 ≤ y ∧ y < n := by
        have := hL _ (List.getElem_mem hi)
        rcases linkP_iff.1 hl with ⟨a, b⟩ | ⟨a, b⟩ <;> omega
      have hlk : 0 ≤ ixG (linkP x y) ls := by
        have := ixG_any (linkP x y) ls
        rw [List.any_eq_true.2 ⟨ls[i], List.getElem_mem hi, hl⟩] at this
        simpa using this
      simp only [goodR, lkAt, e1, e2, e3, Bool.and_eq_true, Bool.or_eq_true, decide_eq_true_eq]
      refine ⟨⟨by simp [inB]; omega, ?_⟩, .inr hlk⟩
      simp only [Bool.not_eq_true', List.any_eq_false, beq_iff_eq]
      exact fun z hz e => hy (e ▸ hz)
end Go.Proofs.Ytglfcaioapdiaaa.Bk
