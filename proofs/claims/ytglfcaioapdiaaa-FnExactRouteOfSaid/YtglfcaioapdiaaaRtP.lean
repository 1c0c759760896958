/-
  Best routes: what the reference's turns find, in plain terms.
-/
import Derived.Test.YtglfcaioapdiaaaRtB
namespace Go.Proofs.Ytglfcaioapdiaaa.Bk
open Go
set_option linter.unusedSimpArgs false
set_option linter.unusedVariables false

theorem lessL_irrefl : ∀ p : List Int, lessL p p = false
  | [] => rfl
  | x :: p => by simp only [lessL, if_true]; exact lessL_irrefl p
theorem lessL_nt : ∀ r q p : List Int, r.length = q.length → q.length = p.length → lessL r p = true → lessL r q = true ∨ lessL q p = true
  | [], [], [], _, _, h => by simp [lessL] at h
  | x :: r, y :: q, z :: p, h1, h2, h => by
    have ih := lessL_nt r q p (by simpa using h1) (by simpa using h2)
    simp only [lessL] at h ⊢
    by_cases a : x = z
    · subst a
      rw [if_pos rfl] at h
      by_cases b : x = y
      · subst b; rw [if_pos rfl, if_pos rfl]; exact ih h
      · rw [if_neg b, if_neg (fun e => b e.symm)]
        simp only [decide_eq_true_eq]; omega
    · rw [if_neg a] at h
      simp only [decide_eq_true_eq] at h
      by_cases b : x = y
      · subst b; rw [if_neg a]; right; simpa using h
      · by_cases c : y = z
        · subst c; rw [if_neg b]; left; simpa using h
        · rw [if_neg b, if_neg c]; simp only [decide_eq_true_eq]; omega
theorem lessL_asymm : ∀ p q : List Int, lessL p q = true → lessL q p = false
  | [], [], h => rfl
  | [], _ :: _, h => rfl
  | _ :: _, [], h => rfl
  | x :: p, y :: q, h => by
    simp only [lessL] at h ⊢
    by_cases a : x = y
    · subst a; rw [if_pos rfl] at h ⊢; exact lessL_asymm p q h
    · rw [if_neg a] at h
      rw [if_neg (fun e => a e.symm)]
      simp only [decide_eq_true_eq, decide_eq_false_iff_not] at h ⊢
      omega
theorem lessL_tri : ∀ p q : List Int, p.length = q.length → lessL p q = false → lessL q p = false → p = q
  | [], [], _, _, _ => rfl
  | x :: p, y :: q, h, h1, h2 => by
    simp only [lessL] at h1 h2
    by_cases a : x = y
    · subst a
      rw [if_pos rfl] at h1 h2
      rw [lessL_tri p q (by simpa using h) h1 h2]
    · rw [if_neg a] at h1
      rw [if_neg (fun e => a e.symm)] at h2
      simp only [decide_eq_false_iff_not] at h1 h2
      omega
theorem lessL_app (y : Int) : ∀ p q : List Int, p.length = q.length → lessL (p ++ [y]) (q ++ [y]) = lessL p q
  | [], [], _ => by simp [lessL]
  | x :: p, z :: q, h => by
    simp only [List.cons_append, lessL]
    rw [lessL_app y p q (by simpa using h)]

def ltK (a b : Wy) : Prop := a.c < b.c ∨ (a.c = b.c ∧ (a.p.length < b.p.length ∨ (a.p.length = b.p.length ∧ lessL a.p b.p = true)))
def leK (a b : Wy) : Prop := ¬ ltK b a
theorem better_iff {a b : Wy} (hb : b.f = true) : better a b = true ↔ ltK a b := by
  unfold better ltK
  rw [hb]
  simp only [Bool.true_eq_false, if_false]
  by_cases h1 : a.c = b.c
  · rw [if_pos h1]
    by_cases h2 : (a.p.length : Int) = (b.p.length : Int)
    · rw [if_pos h2]
      have h3 : a.p.length = b.p.length := by omega
      simp [h1, h3]
    · rw [if_neg h2]
      have h3 : a.p.length ≠ b.p.length := by omega
      simp only [decide_eq_true_eq, h1, h3, false_and, or_false, true_and]
      omega
  · rw [if_neg h1]
    simp [h1]
theorem ltK_le {a b : Wy} (h : ltK a b) : leK a b := by
  intro h2
  unfold ltK at h h2
  rcases h with u | ⟨e, u⟩ <;> rcases h2 with v | ⟨e', v⟩
  · omega
  · omega
  · omega
  · rcases u with u | ⟨el, u⟩ <;> rcases v with v | ⟨el', v⟩
    · omega
    · omega
    · omega
    · rw [lessL_asymm _ _ u] at v; cases v
theorem leK_refl (a : Wy) : leK a a := by
  unfold leK ltK
  rw [lessL_irrefl]
  simp
theorem leK_trans {a b c : Wy} (h1 : leK a b) (h2 : leK b c) : leK a c := by
  intro h
  have : ltK c b ∨ ltK b a := by
    unfold ltK at h ⊢
    rcases h with h | ⟨e, h⟩
    · by_cases q : c.c < b.c
      · exact .inl (.inl q)
      · exact .inr (.inl (by omega))
    · by_cases q : c.c < b.c
      · exact .inl (.inl q)
      by_cases q2 : b.c < a.c
      · exact .inr (.inl q2)
      have e1 : c.c = b.c := by omega
      have e2 : b.c = a.c := by omega
      rcases h with h | ⟨el, h⟩
      · by_cases q3 : c.p.length < b.p.length
        · exact .inl (.inr ⟨e1, .inl q3⟩)
        · exact .inr (.inr ⟨e2, .inl (by omega)⟩)
      · by_cases q3 : c.p.length < b.p.length
        · exact .inl (.inr ⟨e1, .inl q3⟩)
        by_cases q4 : b.p.length < a.p.length
        · exact .inr (.inr ⟨e2, .inl q4⟩)
        have l1 : c.p.length = b.p.length := by omega
        have l2 : b.p.length = a.p.length := by omega
        rcases lessL_nt _ _ _ l1 l2 h with h | h
        · exact .inl (.inr ⟨e1, .inr ⟨l1, h⟩⟩)
        · exact .inr (.inr ⟨e2, .inr ⟨l2, h⟩⟩)
  rcases this with h | h
  · exact h2 h
  · exact h1 h
theorem leK_anti {a b : Wy} (h1 : leK a b) (h2 : leK b a) : a.c = b.c ∧ a.p = b.p := by
  unfold leK ltK at h1 h2
  have e1 : a.c = b.c := by
    by_cases q : a.c < b.c
    · exact absurd (.inl q) h2
    · by_cases q2 : b.c < a.c
      · exact absurd (.inl q2) h1
      · omega
  have e2 : a.p.length = b.p.length := by
    by_cases q : a.p.length < b.p.length
    · exact absurd (.inr ⟨e1, .inl q⟩) h2
    · by_cases q2 : b.p.length < a.p.length
      · exact absurd (.inr ⟨e1.symm, .inl q2⟩) h1
      · omega
  refine ⟨e1, lessL_tri _ _ e2 ?_ ?_⟩
  · cases h : lessL a.p b.p with
    | false => rfl
    | true => exact absurd (.inr ⟨e1, .inr ⟨e2, h⟩⟩) h2
  · cases h : lessL b.p a.p with
    | false => rfl
    | true => exact absurd (.inr ⟨e1.symm, .inr ⟨e2.symm, h⟩⟩) h1
theorem leK_app {a b : Wy} {y o : Int} {f g : Bool} (h : leK a b) : leK ⟨a.p ++ [y], a.c + o, f⟩ ⟨b.p ++ [y], b.c + o, g⟩ := by
  intro hh
  refine h ?_
  unfold ltK at hh ⊢
  simp only [List.length_append, List.length_singleton] at hh
  rcases hh with hh | ⟨e, hh | ⟨el, hh⟩⟩
  · exact .inl (by omega)
  · exact .inr ⟨by omega, .inl (by omega)⟩
  · rw [lessL_app _ _ _ (by omega)] at hh
    exact .inr ⟨by omega, .inr ⟨by omega, hh⟩⟩

/-- a link from x to y at a cost -/
def Lk (ls : List Ln) (may : List Bool) (counts : Bool) (x y o : Int) : Prop := ∃ i, ∃ h : i < ls.length, may.getD i false = true ∧ ((ls[i].a = x ∧ ls[i].b = y) ∨ (ls[i].a = y ∧ ls[i].b = x)) ∧ o = costW counts ls[i]
/-- simple paths from s -/
inductive Pt (E : Int → Int → Int → Prop) (s : Int) : List Int → Int → Int → Prop
  | one : Pt E s [s] 0 s
  | step {p : List Int} {c x y o : Int} (h : Pt E s p c x) (he : E x y o) (hy : y ∉ p) : Pt E s (p ++ [y]) (c + o) y

section
variable {E : Int → Int → Int → Prop} {s : Int}
theorem Pt.ne {p : List Int} {c x : Int} (h : Pt E s p c x) : p ≠ [] := by cases h <;> simp
theorem Pt.last {p : List Int} {c x : Int} (h : Pt E s p c x) : p.getLast? = some x := by cases h <;> simp
theorem Pt.nd {p : List Int} {c x : Int} (h : Pt E s p c x) : p.Nodup := by
  induction h with
  | one => simp
  | step h he hy ih => exact List.nodup_append.2 ⟨ih, by simp, fun a ha b hb => by simp at hb; subst hb; exact fun e => hy (e ▸ ha)⟩
theorem Pt.c0 (hE : ∀ x y o, E x y o → 0 ≤ o) {p : List Int} {c x : Int} (h : Pt E s p c x) : 0 ≤ c := by
  induction h with
  | one => exact Int.le_refl _
  | step h he hy ih => have := hE _ _ _ he; omega
/-- what leads up to a node of a path -/
theorem Pt.pre (hE : ∀ x y o, E x y o → 0 ≤ o) {p : List Int} {c x : Int} (h : Pt E s p c x) : ∀ y ∈ p, ∃ q t c', p = q ++ t ∧ Pt E s q c' y ∧ c' ≤ c := by
  induction h with
  | one => intro y hy; simp at hy; subst hy; exact ⟨[y], [], 0, rfl, .one, Int.le_refl _⟩
  | @step p c x z o h he hz ih =>
    intro y hy
    have := hE _ _ _ he
    rcases List.mem_append.1 hy with h1 | h1
    · obtain ⟨q, t, c', e, hq, hc⟩ := ih y h1
      exact ⟨q, t ++ [z], c', by rw [e, List.append_assoc], hq, by omega⟩
    · simp at h1; subst h1
      exact ⟨p ++ [y], [], c + o, by simp, .step h he hz, Int.le_refl _⟩
end

def wAt (W : List Wy) (z : Int) : Wy := W.getD z.toNat wyz
structure IW (E : Int → Int → Int → Prop) (s n : Int) (W : List Wy) : Prop where
  len : W.length = n.toNat
  sound : ∀ x, 0 ≤ x → x < n → (wAt W x).f = true → Pt E s (wAt W x).p (wAt W x).c x
  pre : ∀ x, 0 ≤ x → x < n → (wAt W x).f = true → ∀ y ∈ (wAt W x).p, ∃ q t c', (wAt W x).p = q ++ t ∧ Pt E s q c' y ∧ c' ≤ (wAt W x).c ∧ (wAt W y).f = true ∧ leK (wAt W y) ⟨q, c', true⟩
def LeW (n : Int) (W W' : List Wy) : Prop := ∀ z, 0 ≤ z → z < n → (wAt W z).f = true → (wAt W' z).f = true ∧ leK (wAt W' z) (wAt W z)
theorem LeW.refl (n : Int) (W : List Wy) : LeW n W W := fun z _ _ h => ⟨h, leK_refl _⟩
theorem LeW.trans {n : Int} {W W' W'' : List Wy} (h : LeW n W W') (g : LeW n W' W'') : LeW n W W'' := fun z h0 h1 hf => by
  obtain ⟨a, b⟩ := h z h0 h1 hf
  obtain ⟨c, d⟩ := g z h0 h1 a
  exact ⟨c, leK_trans d b⟩
theorem wAt_set {n : Int} {W : List Wy} (hl : W.length = n.toNat) {y : Int} (hy : 0 ≤ y ∧ y < n) (v : Wy) {z : Int} (hz : 0 ≤ z) (hz1 : z < n) : wAt (W.set y.toNat v) z = if z = y then v else wAt W z := by
  unfold wAt
  simp only [List.getD, List.getElem?_set]
  by_cases e : z = y
  · subst e; simp only [if_true]; rw [if_pos (by omega)]; rfl
  · rw [if_neg (by omega), if_neg e]

section
variable {E : Int → Int → Int → Prop} {s n : Int} (hE : ∀ x y o, E x y o → 0 ≤ o ∧ (0 ≤ x ∧ x < n) ∧ (0 ≤ y ∧ y < n)) (hs : 0 ≤ s ∧ s < n)
include hE hs
theorem Pt.rng {p : List Int} {c x : Int} (h : Pt E s p c x) : (∀ y ∈ p, 0 ≤ y ∧ y < n) ∧ 0 ≤ x ∧ x < n := by
  induction h with
  | one => exact ⟨fun y hy => by simp at hy; subst hy; exact hs, hs⟩
  | step h he hy ih =>
    obtain ⟨_, h1, h2⟩ := hE _ _ _ he
    refine ⟨fun z hz => ?_, h2⟩
    rcases List.mem_append.1 hz with hz | hz
    · exact ih.1 z hz
    · simp at hz; subst hz; exact h2
theorem relax_spec {W : List Wy} (hI : IW E s n W) {x y o : Int} (he : E x y o) : IW E s n (relaxW W x y o) ∧ LeW n W (relaxW W x y o) ∧
    ((wAt W x).f = true → ∀ q c, Pt E s q c x → leK (wAt W x) ⟨q, c, true⟩ → y ∉ q → (wAt (relaxW W x y o) y).f = true ∧ leK (wAt (relaxW W x y o) y) ⟨q ++ [y], c + o, true⟩) := by
  obtain ⟨o0, hx, hy⟩ := hE _ _ _ he
  have hE0 : ∀ x y o, E x y o → 0 ≤ o := fun x y o h => (hE x y o h).1
  by_cases hc : (wAt W x).f = true ∧ ((wAt W x).p.any fun z => z == y) = false ∧ better (nextW W x y o) (wAt W y) = true
  · have e1 : relaxW W x y o = W.set y.toNat (nextW W x y o) := if_pos hc
    obtain ⟨hf, hh, hb⟩ := hc
    have hny : y ∉ (wAt W x).p := by
      simp only [List.any_eq_false, beq_iff_eq] at hh
      exact fun hm => hh y hm rfl
    have hw := hI.sound x hx.1 hx.2 hf
    have hnx : nextW W x y o = ⟨(wAt W x).p ++ [y], (wAt W x).c + o, true⟩ := rfl
    have hP : Pt E s (nextW W x y o).p (nextW W x y o).c y := .step hw he hny
    have hat : ∀ z, 0 ≤ z → z < n → wAt (relaxW W x y o) z = if z = y then nextW W x y o else wAt W z := fun z h0 h1 => by
      rw [e1]; exact wAt_set hI.len hy _ h0 h1
    have hle : LeW n W (relaxW W x y o) := fun z h0 h1 hfz => by
      rw [hat z h0 h1]
      by_cases ez : z = y
      · subst ez
        rw [if_pos rfl]
        exact ⟨rfl, ltK_le ((better_iff hfz).1 hb)⟩
      · rw [if_neg ez]; exact ⟨hfz, leK_refl _⟩
    refine ⟨⟨by rw [e1, List.length_set]; exact hI.len, fun z h0 h1 hfz => ?_, fun z h0 h1 hfz u hu => ?_⟩, hle, fun _ q c hq hle' hyq => ?_⟩
    · rw [hat z h0 h1] at hfz ⊢
      by_cases ez : z = y
      · subst ez; rw [if_pos rfl]; exact hP
      · rw [if_neg ez] at hfz ⊢; exact hI.sound z h0 h1 hfz
    · rw [hat z h0 h1] at hfz hu ⊢
      by_cases ez : z = y
      · subst ez
        rw [if_pos rfl] at hu ⊢
        rw [hnx] at hu ⊢
        rcases List.mem_append.1 hu with hu | hu
        · obtain ⟨q, t, c', g1, g2, g3, g4, g5⟩ := hI.pre x hx.1 hx.2 hf u hu
          have hur := (Pt.rng hE hs hw).1 u hu
          obtain ⟨k1, k2⟩ := hle u hur.1 hur.2 g4
          exact ⟨q, t ++ [z], c', by simp only; rw [g1, List.append_assoc], g2, by simp only; omega, k1, leK_trans k2 g5⟩
        · simp at hu; subst hu
          refine ⟨(wAt W x).p ++ [u], [], (wAt W x).c + o, by simp, hP, Int.le_refl _, ?_, ?_⟩
          · rw [hat u h0 h1, if_pos rfl]; rfl
          · rw [hat u h0 h1, if_pos rfl, hnx]; exact leK_refl _
      · rw [if_neg ez] at hfz hu ⊢
        obtain ⟨q, t, c', g1, g2, g3, g4, g5⟩ := hI.pre z h0 h1 hfz u hu
        have hur := (Pt.rng hE hs (hI.sound z h0 h1 hfz)).1 u hu
        obtain ⟨k1, k2⟩ := hle u hur.1 hur.2 g4
        exact ⟨q, t, c', g1, g2, g3, k1, leK_trans k2 g5⟩
    · rw [hat y hy.1 hy.2, if_pos rfl, hnx]
      exact ⟨rfl, leK_app hle'⟩
  · have e1 : relaxW W x y o = W := if_neg hc
    rw [e1]
    refine ⟨hI, LeW.refl n W, fun hf q c hq hle' hyq => ?_⟩
    have hw := hI.sound x hx.1 hx.2 hf
    by_cases hm : y ∈ (wAt W x).p
    · obtain ⟨q', t, c', g1, g2, g3, g4, g5⟩ := hI.pre x hx.1 hx.2 hf y hm
      refine ⟨g4, leK_trans g5 ?_⟩
      intro hlt
      refine hle' ?_
      have hlen : q'.length ≤ (wAt W x).p.length := by rw [g1, List.length_append]; omega
      unfold ltK at hlt ⊢
      simp only [List.length_append, List.length_singleton] at hlt
      dsimp only at hlt ⊢
      by_cases a1 : c < (wAt W x).c
      · exact .inl a1
      · by_cases a2 : (wAt W x).c < c
        · omega
        · refine .inr ⟨by omega, .inl ?_⟩
          rcases hlt with hlt | ⟨e, hlt | ⟨el, hlt⟩⟩ <;> omega
    · have hh : ((wAt W x).p.any fun z => z == y) = false := by
        simp only [List.any_eq_false, beq_iff_eq]
        exact fun z hz e => hm (e ▸ hz)
      have hb : ¬ better (nextW W x y o) (wAt W y) = true := fun hb => hc ⟨hf, hh, hb⟩
      have hfy : (wAt W y).f = true := by
        cases hfy : (wAt W y).f with
        | true => rfl
        | false => exact absurd (by unfold better; rw [hfy]; simp) hb
      refine ⟨hfy, ?_⟩
      have h1 : leK (wAt W y) (nextW W x y o) := fun h => hb ((better_iff hfy).2 h)
      exact leK_trans h1 (leK_app hle')

omit hE hs in
theorem twoW_two (W : List Wy) (a b cost : Int) : twoW W a b cost 2 = relaxW (relaxW W a b cost) b a cost := rfl
/-- a turn, link by link -/
theorem turn_spec {ls : List Ln} {may : List Bool} {counts : Bool} (hEd : E = Lk ls may counts) {W : List Wy} (hI : IW E s n W) : ∀ i, i ≤ ls.length → IW E s n (turnW ls may counts W i) ∧ LeW n W (turnW ls may counts W i) ∧
    ∀ j, j < i → ∀ x y o, (∃ h : j < ls.length, may.getD j false = true ∧ ((ls[j].a = x ∧ ls[j].b = y) ∨ (ls[j].a = y ∧ ls[j].b = x)) ∧ o = costW counts ls[j]) → (wAt W x).f = true → ∀ q c, Pt E s q c x → leK (wAt W x) ⟨q, c, true⟩ → y ∉ q →
      (wAt (turnW ls may counts W i) y).f = true ∧ leK (wAt (turnW ls may counts W i) y) ⟨q ++ [y], c + o, true⟩
  | 0, _ => ⟨hI, LeW.refl n W, fun j hj => absurd hj (by omega)⟩
  | i + 1, hi => by
    obtain ⟨g1, g2, g3⟩ := turn_spec hEd hI i (by omega)
    have hil : i < ls.length := by omega
    have hD : ls.getD i lnz = ls[i] := by simp [List.getD, hil]
    generalize hV : turnW ls may counts W i = V at g1 g2 g3
    have hT : turnW ls may counts W (i + 1) = linkW counts V ls[i] (may.getD i false) := by simp only [turnW, hD, hV]
    cases hm : may.getD i false with
    | false =>
      have e1 : turnW ls may counts W (i + 1) = V := by rw [hT, hm]; rfl
      rw [e1]
      refine ⟨g1, g2, fun j hj x y o hl hf q c hq hle hy => ?_⟩
      by_cases hji : j < i
      · exact g3 j hji x y o hl hf q c hq hle hy
      · have : j = i := by omega
        subst this
        obtain ⟨_, hm', _⟩ := hl
        rw [hm] at hm'; cases hm'
    | true =>
      have e1 : turnW ls may counts W (i + 1) = relaxW (relaxW V ls[i].a ls[i].b (costW counts ls[i])) ls[i].b ls[i].a (costW counts ls[i]) := by rw [hT, hm]; rfl
      have k1 : E ls[i].a ls[i].b (costW counts ls[i]) := by rw [hEd]; exact ⟨i, hil, hm, .inl ⟨rfl, rfl⟩, rfl⟩
      have k2 : E ls[i].b ls[i].a (costW counts ls[i]) := by rw [hEd]; exact ⟨i, hil, hm, .inr ⟨rfl, rfl⟩, rfl⟩
      obtain ⟨a1, a2, a3⟩ := relax_spec hE hs g1 k1
      obtain ⟨b1, b2, b3⟩ := relax_spec hE hs a1 k2
      rw [e1]
      generalize relaxW V ls[i].a ls[i].b (costW counts ls[i]) = V1 at a1 a2 a3 b1 b2 b3 ⊢
      generalize relaxW V1 ls[i].b ls[i].a (costW counts ls[i]) = V2 at b1 b2 b3 ⊢
      refine ⟨b1, (g2.trans a2).trans b2, fun j hj x y o hl hf q c hq hle hy => ?_⟩
      have lift : ∀ {A B : List Wy}, LeW n A B → 0 ≤ y → y < n → (wAt A y).f = true ∧ leK (wAt A y) ⟨q ++ [y], c + o, true⟩ → (wAt B y).f = true ∧ leK (wAt B y) ⟨q ++ [y], c + o, true⟩ := fun h h0 h1 ⟨p1, p2⟩ => by
        obtain ⟨r1, r2⟩ := h y h0 h1 p1
        exact ⟨r1, leK_trans r2 p2⟩
      have hxy : E x y o := by obtain ⟨hjl, hmj, hor, ho⟩ := hl; rw [hEd]; exact ⟨j, hjl, hmj, hor, ho⟩
      obtain ⟨_, hx, hyr⟩ := hE _ _ _ hxy
      by_cases hji : j < i
      · exact lift b2 hyr.1 hyr.2 (lift a2 hyr.1 hyr.2 (g3 j hji x y o hl hf q c hq hle hy))
      · have : j = i := by omega
        subst this
        obtain ⟨_, _, hor, ho⟩ := hl
        subst ho
        rcases hor with ⟨ha, hb⟩ | ⟨ha, hb⟩
        · subst ha hb
          obtain ⟨f1, l1⟩ := g2 _ hx.1 hx.2 hf
          exact lift b2 hyr.1 hyr.2 (a3 f1 q c hq (leK_trans l1 hle) hy)
        · subst ha hb
          obtain ⟨f1, l1⟩ := (g2.trans a2) _ hx.1 hx.2 hf
          exact b3 f1 q c hq (leK_trans l1 hle) hy
omit hE in
theorem ways_start (hEd : True) : IW E s n (ways0 n s) ∧ (wAt (ways0 n s) s).f = true ∧ leK (wAt (ways0 n s) s) ⟨[s], 0, true⟩ := by
  have hl : (List.replicate n.toNat wyz).length = n.toNat := by simp
  have hat : ∀ z, 0 ≤ z → z < n → wAt (ways0 n s) z = if z = s then ⟨[s], 0, true⟩ else wyz := fun z h0 h1 => by
    unfold ways0
    rw [wAt_set hl hs _ h0 h1]
    split
    · rfl
    · unfold wAt
      simp only [List.getD, List.getElem?_replicate]
      split <;> rfl
  refine ⟨⟨by simp [ways0], fun x h0 h1 hf => ?_, fun x h0 h1 hf y hy => ?_⟩, ?_, ?_⟩
  · rw [hat x h0 h1] at hf ⊢
    split at hf
    · rename_i e; subst e; rw [if_pos rfl]; exact .one
    · cases hf
  · rw [hat x h0 h1] at hf hy ⊢
    split at hf
    · rename_i e; subst e
      rw [if_pos rfl] at hy ⊢
      simp at hy; subst hy
      exact ⟨[y], [], 0, rfl, .one, Int.le_refl _, by rw [hat y h0 h1, if_pos rfl], by rw [hat y h0 h1, if_pos rfl]; exact leK_refl _⟩
    · cases hf
  · rw [hat s hs.1 hs.2, if_pos rfl]
  · rw [hat s hs.1 hs.2, if_pos rfl]; exact leK_refl _
theorem ways_spec {ls : List Ln} {may : List Bool} {counts : Bool} (hEd : E = Lk ls may counts) : ∀ t, IW E s n (waysN n ls may counts s t) ∧
    ∀ p c y, Pt E s p c y → p.length ≤ t + 1 → (wAt (waysN n ls may counts s t) y).f = true ∧ leK (wAt (waysN n ls may counts s t) y) ⟨p, c, true⟩
  | 0 => by
    obtain ⟨h1, h2, h3⟩ := ways_start (E := E) hs trivial
    refine ⟨h1, fun p c y hp hl => ?_⟩
    cases hp with
    | one => exact ⟨h2, h3⟩
    | step h he hy =>
      have := h.ne
      rename_i p' _ _ _
      cases p' with
      | nil => exact absurd rfl this
      | cons a b => simp at hl
  | t + 1 => by
    obtain ⟨h1, h2⟩ := ways_spec hEd t
    obtain ⟨g1, g2, g3⟩ := turn_spec hE hs hEd h1 ls.length (Nat.le_refl _)
    refine ⟨g1, fun p c y hp hl => ?_⟩
    cases hp with
    | one =>
      obtain ⟨f1, l1⟩ := h2 [s] 0 s .one (by simp)
      obtain ⟨f2, l2⟩ := g2 s hs.1 hs.2 f1
      exact ⟨f2, leK_trans l2 l1⟩
    | @step p c x _ o h he hy =>
      simp only [List.length_append, List.length_singleton] at hl
      obtain ⟨f1, l1⟩ := h2 p c x h (by omega)
      have he' := he
      rw [hEd] at he'
      obtain ⟨i, hi, hm, hor, ho⟩ := he'
      exact g3 i hi x y o ⟨hi, hm, hor, ho⟩ f1 p c h l1 hy
/-- what the reference's route is -/
theorem route_spec {ls : List Ln} {may : List Bool} {counts : Bool} (hEd : E = Lk ls may counts) {to : Int} (ht : 0 ≤ to ∧ to < n) :
    ((routeW n ls may counts s to).f = true → Pt E s (routeW n ls may counts s to).p (routeW n ls may counts s to).c to) ∧
    ∀ p c, Pt E s p c to → (routeW n ls may counts s to).f = true ∧ leK (routeW n ls may counts s to) ⟨p, c, true⟩ := by
  obtain ⟨h1, h2⟩ := ways_spec hE hs hEd n.toNat
  refine ⟨fun hf => h1.sound to ht.1 ht.2 hf, fun p c hp => h2 p c to hp ?_⟩
  have := pigeon n.toNat p hp.nd fun x hx => by have := (Pt.rng hE hs hp).1 x hx; omega
  omega
end
end Go.Proofs.Ytglfcaioapdiaaa.Bk
