/-
  Best routes: what the reference's turns find, in plain terms.
-/
import Derived.Test.YtglfcaioapdiaaaRtB
import Derived.Test.YtglfcaioapdiaaaLkB
namespace Go.Proofs.Ytglfcaioapdiaaa.Bk
open Go
set_option linter.unusedSimpArgs false
set_option linter.unusedVariables false

theorem lessL_irrefl : ∀ p : List Int, lessL p p = false
  | [] => rfl
  | x :: p => by simp only [lessL, if_true]; exact lessL_irrefl p
theorem lessL_nt : ∀ r q p : List Int, r.length = q.length → q.length = p.length → lessL r p = true → lessL r q = true ∨ lessL q p = true
  | [], [], [], _, _, h => by simp [lessL] at h
  | x :: r, y :: q, z :: p, h1, h2, h => by
    have ih := lessL_nt r q p (by simpa using h1) (by simpa using h2)
    simp only [lessL] at h ⊢
    by_cases a : x = z
    · subst a
      rw [if_pos rfl] at h
      by_cases b : x = y
      · subst b; rw [if_pos rfl, if_pos rfl]; exact ih h
      · rw [if_neg b, if_neg (fun e => b e.symm)]
        simp only [decide_eq_true_eq]; omega
    · rw [if_neg a] at h
      simp only [decide_eq_true_eq] at h
      by_cases b : x = y
      · subst b; rw [if_neg a]; right; simpa using h
      · by_cases c : y = z
        · subst c; rw [if_neg b]; left; simpa using h
        · rw [if_neg b, if_neg c]; simp only [decide_eq_true_eq]; omega
theorem lessL_asymm : ∀ p q : List Int, lessL p q = true → lessL q p = false
  | [], [], h => rfl
  | [], _ :: _, h => rfl
  | _ :: _, [], h => rfl
  | x :: p, y :: q, h => by
    simp only [lessL] at h ⊢
    by_cases a : x = y
    · subst a; rw [if_pos rfl] at h ⊢; exact lessL_asymm p q h
    · rw [if_neg a] at h
      rw [if_neg (fun e => a e.symm)]
      simp only [decide_eq_true_eq, decide_eq_false_iff_not] at h ⊢
      omega
theorem lessL_tri : ∀ p q : List Int, p.length = q.length → lessL p q = false → lessL q p = false → p = q
  | [], [], _, _, _ => rfl
  | x :: p, y :: q, h, h1, h2 => by
    simp only [lessL] at h1 h2
    by_cases a : x = y
    · subst a
      rw [if_pos rfl] at h1 h2
      rw [lessL_tri p q (by simpa using h) h1 h2]
    · rw [if_neg a] at h1
      rw [if_neg (fun e => a e.symm)] at h2
      simp only [decide_eq_false_iff_not] at h1 h2
      omega
theorem lessL_app (y : Int) : ∀ p q : List Int, p.length = q.length → lessL (p ++ [y]) (q ++ [y]) = lessL p q
  | [], [], _ => by simp [lessL]
  | x :: p, z :: q, h => by
    simp only [List.cons_append, lessL]
    rw [lessL_app y p q (by simpa using h)]

def ltK (a b : Wy) : Prop := a.c < b.c ∨ (a.c = b.c ∧ (a.p.length < b.p.length ∨ (a.p.length = b.p.length ∧ lessL a.p b.p = true)))
def leK (a b : Wy) : Prop := ¬ ltK b a
theorem better_iff {a b : Wy} (hb : b.f = true) : better a b = true ↔ ltK a b := by
  unfold better ltK
  rw [hb]
  simp only [Bool.true_eq_false, if_false]
  by_cases h1 : a.c = b.c
  · rw [if_pos h1]
    by_cases h2 : (a.p.length : Int) = (b.p.length : Int)
    · rw [if_pos h2]
      have h3 : a.p.length = b.p.length := by omega
      simp [h1, h3]
    · rw [if_neg h2]
      have h3 : a.p.length ≠ b.p.length := by omega
      simp only [decide_eq_true_eq, h1, h3, false_and, or_false, true_and]
      omega
  · rw [if_neg h1]
    simp [h1]
theorem ltK_le {a b : Wy} (h : ltK a b) : leK a b := by
  intro h2
  unfold ltK at h h2
  rcases h with u | ⟨e, u⟩ <;> rcases h2 with v | ⟨e', v⟩
  · omega
  · omega
  · omega
  · rcases u with u | ⟨el, u⟩ <;> rcases v with v | ⟨el', v⟩
    · omega
    · omega
    · omega
    · rw [lessL_asymm _ _ u] at v; cases v
theorem leK_refl (a : Wy) : leK a a := by
  unfold leK ltK
  rw [lessL_irrefl]
  simp
theorem leK_trans {a b c : Wy} (h1 : leK a b) (h2 : leK b c) : leK a c := by
  intro h
  have : ltK c b ∨ ltK b a := by
    unfold ltK at h ⊢
    rcases h with h | ⟨e, h⟩
    · by_cases q : c.c < b.c
      · exact .inl (.inl q)
      · exact .inr (.inl (by omega))
    · by_cases q : c.c < b.c
      · exact .inl (.inl q)
      by_cases q2 : b.c < a.c
      · exact .inr (.inl q2)
      have e1 : c.c = b.c := by omega
      have e2 : b.c = a.c := by omega
      rcases h with h | ⟨el, h⟩
      · by_cases q3 : c.p.length < b.p.length
        · exact .inl (.inr ⟨e1, .inl q3⟩)
        · exact .inr (.inr ⟨e2, .inl (by omega)⟩)
      · by_cases q3 : c.p.length < b.p.length
        · exact .inl (.inr ⟨e1, .inl q3⟩)
        by_cases q4 : b.p.length < a.p.length
        · exact .inr (.inr ⟨e2, .inl q4⟩)
        have l1 : c.p.length = b.p.length := by omega
        have l2 : b.p.length = a.p.length := by omega
        rcases lessL_nt _ _ _ l1 l2 h with h | h
        · exact .inl (.inr ⟨e1, .inr ⟨l1, h⟩⟩)
        · exact .inr (.inr ⟨e2, .inr ⟨l2, h⟩⟩)
  rcases this with h | h
  · exact h2 h
  · exact h1 h
theorem leK_anti {a b : Wy} (h1 : leK a b) (h2 : leK b a) : a.c = b.c ∧ a.p = b.p := by
  unfold leK ltK at h1 h2
  have e1 : a.c = b.c := by
    by_cases q : a.c < b.c
    · exact absurd (.inl q) h2
    · by_cases q2 : b.c < a.c
      · exact absurd (.inl q2) h1
      · omega
  have e2 : a.p.length = b.p.length := by
    by_cases q : a.p.length < b.p.length
    · exact absurd (.inr ⟨e1, .inl q⟩) h2
    · by_cases q2 : b.p.length < a.p.length
      · exact absurd (.inr ⟨e1.symm, .inl q2⟩) h1
      · omega
  refine ⟨e1, lessL_tri _ _ e2 ?_ ?_⟩
  · cases h : lessL a.p b.p with
    | false => rfl
    | true => exact absurd (.inr ⟨e1, .inr ⟨e2, h⟩⟩) h2
  · cases h : lessL b.p a.p with
    | false => rfl
    | true => exact absurd (.inr ⟨e1.symm, .inr ⟨e2.symm, h⟩⟩) h1
theorem leK_app {a b : Wy} {y o : Int} {f g : Bool} (h : leK a b) : leK ⟨a.p ++ [y], a.c + o, f⟩ ⟨b.p ++ [y], b.c + o, g⟩ := by
  intro hh
  refine h ?_
  unfold ltK at hh ⊢
  simp only [List.length_append, List.length_singleton] at hh
  rcases hh with hh | ⟨e, hh | ⟨el, hh⟩⟩
  · exact .inl (by omega)
  · exact .inr ⟨by omega, .inl (by omega)⟩
  · rw [lessL_app _ _ _ (by omega)] at hh
    exact .inr ⟨by omega, .inr ⟨by omega, hh⟩⟩

/-- a link from x to y at a cost -/
def Lk (ls : List Ln) (may : List Bool) (counts : Bool) (x y o : Int) : Prop := ∃ i, ∃ h : i < ls.length, may.getD i false = true ∧ ((ls[i].a = x ∧ ls[i].b = y) ∨ (ls[i].a = y ∧ ls[i].b = x)) ∧ o = costW counts ls[i]
/-- simple paths from s -/
inductive Pt (E : Int → Int → Int → Prop) (s : Int) : List Int → Int → Int → Prop
  | one : Pt E s [s] 0 s
  | step {p : List Int} {c x y o : Int} (h : Pt E s p c x) (he : E x y o) (hy : y ∉ p) : Pt E s (p ++ [y]) (c + o) y

section
variable {E : Int → Int → Int → Prop} {s : Int}
theorem Pt.ne {p : List Int} {c x : Int} (h : Pt E s p c x) : p ≠ [] := by cases h <;> simp
theorem Pt.last {p : List Int} {c x : Int} (h : Pt E s p c x) : p.getLast? = some x := by cases h <;> simp
theorem Pt.nd {p : List Int} {c x : Int} (h : Pt E s p c x) : p.Nodup := by
  induction h with
  | one => simp
  | step h he hy ih => exact List.nodup_append.2 ⟨ih, by simp, fun a ha b hb => by simp at hb; subst hb; exact fun e => hy (e ▸ ha)⟩
theorem Pt.c0 (hE : ∀ x y o, E x y o → 0 ≤ o) {p : List Int} {c x : Int} (h : Pt E s p c x) : 0 ≤ c := by
  induction h with
  | one => exact Int.le_refl _
  | step h he hy ih => have := hE _ _ _ he; omega
/-- what leads up to a node of a path -/
theorem Pt.pre (hE : ∀ x y o, E x y o → 0 ≤ o) {p : List Int} {c x : Int} (h : Pt E s p c x) : ∀ y ∈ p, ∃ q t c', p = q ++ t ∧ Pt E s q c' y ∧ c' ≤ c := by
  induction h with
  | one => intro y hy; simp at hy; subst hy; exact ⟨[y], [], 0, rfl, .one, Int.le_refl _⟩
  | @step p c x z o h he hz ih =>
    intro y hy
    have := hE _ _ _ he
    rcases List.mem_append.1 hy with h1 | h1
    · obtain ⟨q, t, c', e, hq, hc⟩ := ih y h1
      exact ⟨q, t ++ [z], c', by rw [e, List.append_assoc], hq, by omega⟩
    · simp at h1; subst h1
      exact ⟨p ++ [y], [], c + o, by simp, .step h he hz, Int.le_refl _⟩
end

def wAt (W : List Wy) (z : Int) : Wy := W.getD z.toNat wyz
structure IW (E : Int → Int → Int → Prop) (s n : Int) (W : List Wy) : Prop where
  len : W.length = n.toNat
  sound : ∀ x, 0 ≤ x → x < n → (wAt W x).f = true → Pt E s (wAt W x).p (wAt W x).c x
  pre : ∀ x, 0 ≤ x → x < n → (wAt W x).f = true → ∀ y ∈ (wAt W x).p, ∃ q t c', (wAt W x).p = q ++ t ∧ Pt E s q c' y ∧ c' ≤ (wAt W x).c ∧ (wAt W y).f = true ∧ leK (wAt W y) ⟨q, c', true⟩
def LeW (n : Int) (W W' : List Wy) : Prop := ∀ z, 0 ≤ z → z < n → (wAt W z).f = true → (wAt W' z).f = true ∧ leK (wAt W' z) (wAt W z)
theorem LeW.refl (n : Int) (W : List Wy) : LeW n W W := fun z _ _ h => ⟨h, leK_refl _⟩
theorem LeW.trans {n : Int} {W W' W'' : List Wy} (h : LeW n W W') (g : LeW n W' W'') : LeW n W W'' := fun z h0 h1 hf => by
  obtain ⟨a, b⟩ := h z h0 h1 hf
  obtain ⟨c, d⟩ := g z h0 h1 a
  exact ⟨c, leK_trans d b⟩
theorem wAt_set {n : Int} {W : List Wy} (hl : W.length = n.toNat) {y : Int} (hy : 0 ≤ y ∧ y < n) (v : Wy) {z : Int} (hz : 0 ≤ z) (hz1 : z < n) : wAt (W.set y.toNat v) z = if z = y then v else wAt W z := by
  unfold wAt
  simp only [List.getD, List.getElem?_set]
  by_cases e : z = y
  · subst e; simp only [if_true]; rw [if_pos (by omega)]; rfl
  · rw [if_neg (by omega), if_neg e]

section
variable {E : Int → Int → Int → Prop} {s n : Int} (hE : ∀ x y o, E x y o → 0 ≤ o ∧ (0 ≤ x ∧ x < n) ∧ (0 ≤ y ∧ y < n)) (hs : 0 ≤ s ∧ s < n)
include hE hs
theorem Pt.rng {p : List Int} {c x : Int} (h : Pt E s p c x) : (∀ y ∈ p, 0 ≤ y ∧ y < n) ∧ 0 ≤ x ∧ x < n := by
  induction h with
  | one => exact ⟨fun y hy => by simp at hy; subst hy; exact hs, hs⟩
  | step h he hy ih =>
    obtain ⟨_, h1, h2⟩ := hE _ _ _ he
    refine ⟨fun z hz => ?_, h2⟩
    rcases List.mem_append.1 hz with hz | hz
    · exact ih.1 z hz
    · simp at hz; subst hz; exact h2
theorem relax_spec {W : List Wy} (hI : IW E s n W) {x y o : Int} (he : E x y o) : IW E s n (relaxW W x y o) ∧ LeW n W (relaxW W x y o) ∧
    ((wAt W x).f = true → ∀ q c, Pt E s q c x → leK (wAt W x) ⟨q, c, true⟩ → y ∉ q → (wAt (relaxW W x y o) y).f = true ∧ leK (wAt (relaxW W x y o) y) ⟨q ++ [y], c + o, true⟩) := by
  obtain ⟨o0, hx, hy⟩ := hE _ _ _ he
  have hE0 : ∀ x y o, E x y o → 0 ≤ o := fun x y o h => (hE x y o h).1
  by_cases hc : (wAt W x).f = true ∧ ((wAt W x).p.any fun z => z == y) = false ∧ better (nextW W x y o) (wAt W y) = true
  · have e1 : relaxW W x y o = W.set y.toNat (nextW W x y o) := if_pos hc
    obtain ⟨hf, hh, hb⟩ := hc
    have hny : y ∉ (wAt W x).p := by
      simp only [List.any_eq_false, beq_iff_eq] at hh
      exact fun hm => hh y hm rfl
    have hw := hI.sound x hx.1 hx.2 hf
    have hnx : nextW W x y o = ⟨(wAt W x).p ++ [y], (wAt W x).c + o, true⟩ := rfl
    have hP : Pt E s (nextW W x y o).p (nextW W x y o).c y := .step hw he hny
    have hat : ∀ z, 0 ≤ z → z < n → wAt (relaxW W x y o) z = if z = y then nextW W x y o else wAt W z := fun z h0 h1 => by
      rw [e1]; exact wAt_set hI.len hy _ h0 h1
    have hle : LeW n W (relaxW W x y o) := fun z h0 h1 hfz => by
      rw [hat z h0 h1]
      by_cases ez : z = y
      · subst ez
        rw [if_pos rfl]
        exact ⟨rfl, ltK_le ((better_iff hfz).1 hb)⟩
      · rw [if_neg ez]; exact ⟨hfz, leK_refl _⟩
    refine ⟨⟨by rw [e1, List.length_set]; exact hI.len, fun z h0 h1 hfz => ?_, fun z h0 h1 hfz u hu => ?_⟩, hle, fun _ q c hq hle' hyq => ?_⟩
    · rw [hat z h0 h1] at hfz ⊢
      by_cases ez : z = y
      · subst ez; rw [if_pos rfl]; exact hP
      · rw [if_neg ez] at hfz ⊢; exact hI.sound z h0 h1 hfz
    · rw [hat z h0 h1] at hfz hu ⊢
      by_cases ez : z = y
      · subst ez
        rw [if_pos rfl] at hu ⊢
        rw [hnx] at hu ⊢
        rcases List.mem_append.1 hu with hu | hu
        · obtain ⟨q, t, c', g1, g2, g3, g4, g5⟩ := hI.pre x hx.1 hx.2 hf u hu
          have hur := (Pt.rng hE hs hw).1 u hu
          obtain ⟨k1, k2⟩ := hle u hur.1 hur.2 g4
          exact ⟨q, t ++ [z], c', by simp only; rw [g1, List.append_assoc], g2, by simp only; omega, k1, leK_trans k2 g5⟩
        · simp at hu; subst hu
          refine ⟨(wAt W x).p ++ [u], [], (wAt W x).c + o, by simp, hP, Int.le_refl _, ?_, ?_⟩
          · rw [hat u h0 h1, if_pos rfl]; rfl
          · rw [hat u h0 h1, if_pos rfl, hnx]; exact leK_refl _
      · rw [if_neg ez] at hfz hu ⊢
        obtain ⟨q, t, c', g1, g2, g3, g4, g5⟩ := hI.pre z h0 h1 hfz u hu
        have hur := (Pt.rng hE hs (hI.sound z h0 h1 hfz)).1 u hu
        obtain ⟨k1, k2⟩ := hle u hur.1 hur.2 g4
        exact ⟨q, t, c', g1, g2, g3, k1, leK_trans k2 g5⟩
    · rw [hat y hy.1 hy.2, if_pos rfl, hnx]
      exact ⟨rfl, leK_app hle'⟩
  · have e1 : relaxW W x y o = W := if_neg hc
    rw [e1]
    refine ⟨hI, LeW.refl n W, fun hf q c hq hle' hyq => ?_⟩
    have hw := hI.sound x hx.1 hx.2 hf
    by_cases hm : y ∈ (wAt W x).p
    · obtain ⟨q', t, c', g1, g2, g3, g4, g5⟩ := hI.pre x hx.1 hx.2 hf y hm
      refine ⟨g4, leK_trans g5 ?_⟩
      intro hlt
      refine hle' ?_
      have hlen : q'.length ≤ (wAt W x).p.length := by rw [g1, List.length_append]; omega
      unfold ltK at hlt ⊢
      simp only [List.length_append, List.length_singleton] at hlt
      dsimp only at hlt ⊢
      by_cases a1 : c < (wAt W x).c
      · exact .inl a1
      · by_cases a2 : (wAt W x).c < c
        · omega
        · refine .inr ⟨by omega, .inl ?_⟩
          rcases hlt with hlt | ⟨e, hlt | ⟨el, hlt⟩⟩ <;> omega
    · have hh : ((wAt W x).p.any fun z => z == y) = false := by
        simp only [List.any_eq_false, beq_iff_eq]
        exact fun z hz e => hm (e ▸ hz)
      have hb : ¬ better (nextW W x y o) (wAt W y) = true := fun hb => hc ⟨hf, hh, hb⟩
      have hfy : (wAt W y).f = true := by
        cases hfy : (wAt W y).f with
        | true => rfl
        | false => exact absurd (by unfold better; rw [hfy]; simp) hb
      refine ⟨hfy, ?_⟩
      have h1 : leK (wAt W y) (nextW W x y o) := fun h => hb ((better_iff hfy).2 h)
      exact leK_trans h1 (leK_app hle')

omit hE hs in
theorem twoW_two (W : List Wy) (a b cost : Int) : twoW W a b cost 2 = relaxW (relaxW W a b cost) b a cost := rfl
/-- a turn, link by link -/
theorem turn_spec {ls : List Ln} {may : List Bool} {counts : Bool} (hEd : E = Lk ls may counts) {W : List Wy} (hI : IW E s n W) : ∀ i, i ≤ ls.length → IW E s n (turnW ls may counts W i) ∧ LeW n W (turnW ls may counts W i) ∧
    ∀ j, j < i → ∀ x y o, (∃ h : j < ls.length, may.getD j false = true ∧ ((ls[j].a = x ∧ ls[j].b = y) ∨ (ls[j].a = y ∧ ls[j].b = x)) ∧ o = costW counts ls[j]) → (wAt W x).f = true → ∀ q c, Pt E s q c x → leK (wAt W x) ⟨q, c, true⟩ → y ∉ q →
      (wAt (turnW ls may counts W i) y).f = true ∧ leK (wAt (turnW ls may counts W i) y) ⟨q ++ [y], c + o, true⟩
  | 0, _ => ⟨hI, LeW.refl n W, fun j hj => absurd hj (by omega)⟩
  | i + 1, hi => by
    obtain ⟨g1, g2, g3⟩ := turn_spec hEd hI i (by omega)
    have hil : i < ls.length := by omega
    have hD : ls.getD i lnz = ls[i] := by simp [List.getD, hil]
    generalize hV : turnW ls may counts W i = V at g1 g2 g3
    have hT : turnW ls may counts W (i + 1) = linkW counts V ls[i] (may.getD i false) := by simp only [turnW, hD, hV]
    cases hm : may.getD i false with
    | false =>
      have e1 : turnW ls may counts W (i + 1) = V := by rw [hT, hm]; rfl
      rw [e1]
      refine ⟨g1, g2, fun j hj x y o hl hf q c hq hle hy => ?_⟩
      by_cases hji : j < i
      · exact g3 j hji x y o hl hf q c hq hle hy
      · have : j = i := by omega
        subst this
        obtain ⟨_, hm', _⟩ := hl
        rw [hm] at hm'; cases hm'
    | true =>
      have e1 : turnW ls may counts W (i + 1) = relaxW (relaxW V ls[i].a ls[i].b (costW counts ls[i])) ls[i].b ls[i].a (costW counts ls[i]) := by rw [hT, hm]; rfl
      have k1 : E ls[i].a ls[i].b (costW counts ls[i]) := by rw [hEd]; exact ⟨i, hil, hm, .inl ⟨rfl, rfl⟩, rfl⟩
      have k2 : E ls[i].b ls[i].a (costW counts ls[i]) := by rw [hEd]; exact ⟨i, hil, hm, .inr ⟨rfl, rfl⟩, rfl⟩
      obtain ⟨a1, a2, a3⟩ := relax_spec hE hs g1 k1
      obtain ⟨b1, b2, b3⟩ := relax_spec hE hs a1 k2
      rw [e1]
      generalize relaxW V ls[i].a ls[i].b (costW counts ls[i]) = V1 at a1 a2 a3 b1 b2 b3 ⊢
      generalize relaxW V1 ls[i].b ls[i].a (costW counts ls[i]) = V2 at b1 b2 b3 ⊢
      refine ⟨b1, (g2.trans a2).trans b2, fun j hj x y o hl hf q c hq hle hy => ?_⟩
      have lift : ∀ {A B : List Wy}, LeW n A B → 0 ≤ y → y < n → (wAt A y).f = true ∧ leK (wAt A y) ⟨q ++ [y], c + o, true⟩ → (wAt B y).f = true ∧ leK (wAt B y) ⟨q ++ [y], c + o, true⟩ := fun h h0 h1 ⟨p1, p2⟩ => by
        obtain ⟨r1, r2⟩ := h y h0 h1 p1
        exact ⟨r1, leK_trans r2 p2⟩
      have hxy : E x y o := by obtain ⟨hjl, hmj, hor, ho⟩ := hl; rw [hEd]; exact ⟨j, hjl, hmj, hor, ho⟩
      obtain ⟨_, hx, hyr⟩ := hE _ _ _ hxy
      by_cases hji : j < i
      · exact lift b2 hyr.1 hyr.2 (lift a2 hyr.1 hyr.2 (g3 j hji x y o hl hf q c hq hle hy))
      · have : j = i := by omega
        subst this
        obtain ⟨_, _, hor, ho⟩ := hl
        subst ho
        rcases hor with ⟨ha, hb⟩ | ⟨ha, hb⟩
        · subst ha hb
          obtain ⟨f1, l1⟩ := g2 _ hx.1 hx.2 hf
          exact lift b2 hyr.1 hyr.2 (a3 f1 q c hq (leK_trans l1 hle) hy)
        · subst ha hb
          obtain ⟨f1, l1⟩ := (g2.trans a2) _ hx.1 hx.2 hf
          exact b3 f1 q c hq (leK_trans l1 hle) hy
omit hE in
theorem ways_start (hEd : True) : IW E s n (ways0 n s) ∧ (wAt (ways0 n s) s).f = true ∧ leK (wAt (ways0 n s) s) ⟨[s], 0, true⟩ := by
  have hl : (List.replicate n.toNat wyz).length = n.toNat := by simp
  have hat : ∀ z, 0 ≤ z → z < n → wAt (ways0 n s) z = if z = s then ⟨[s], 0, true⟩ else wyz := fun z h0 h1 => by
    unfold ways0
    rw [wAt_set hl hs _ h0 h1]
    split
    · rfl
    · unfold wAt
      simp only [List.getD, List.getElem?_replicate]
      split <;> rfl
  refine ⟨⟨by simp [ways0], fun x h0 h1 hf => ?_, fun x h0 h1 hf y hy => ?_⟩, ?_, ?_⟩
  · rw [hat x h0 h1] at hf ⊢
    split at hf
    · rename_i e; subst e; rw [if_pos rfl]; exact .one
    · cases hf
  · rw [hat x h0 h1] at hf hy ⊢
    split at hf
    · rename_i e; subst e
      rw [if_pos rfl] at hy ⊢
      simp at hy; subst hy
      exact ⟨[y], [], 0, rfl, .one, Int.le_refl _, by rw [hat y h0 h1, if_pos rfl], by rw [hat y h0 h1, if_pos rfl]; exact leK_refl _⟩
    · cases hf
  · rw [hat s hs.1 hs.2, if_pos rfl]
  · rw [hat s hs.1 hs.2, if_pos rfl]; exact leK_refl _
theorem ways_spec {ls : List Ln} {may : List Bool} {counts : Bool} (hEd : E = Lk ls may counts) : ∀ t, IW E s n (waysN n ls may counts s t) ∧
    ∀ p c y, Pt E s p c y → p.length ≤ t + 1 → (wAt (waysN n ls may counts s t) y).f = true ∧ leK (wAt (waysN n ls may counts s t) y) ⟨p, c, true⟩
  | 0 => by
    obtain ⟨h1, h2, h3⟩ := ways_start (E := E) hs trivial
    refine ⟨h1, fun p c y hp hl => ?_⟩
    cases hp with
    | one => exact ⟨h2, h3⟩
    | step h he hy =>
      have := h.ne
      rename_i p' _ _ _
      cases p' with
      | nil => exact absurd rfl this
      | cons a b => simp at hl
  | t + 1 => by
    obtain ⟨h1, h2⟩ := ways_spec hEd t
    obtain ⟨g1, g2, g3⟩ := turn_spec hE hs hEd h1 ls.length (Nat.le_refl _)
    refine ⟨g1, fun p c y hp hl => ?_⟩
    cases hp with
    | one =>
      obtain ⟨f1, l1⟩ := h2 [s] 0 s .one (by simp)
      obtain ⟨f2, l2⟩ := g2 s hs.1 hs.2 f1
      exact ⟨f2, leK_trans l2 l1⟩
    | @step p c x _ o h he hy =>
      simp only [List.length_append, List.length_singleton] at hl
      obtain ⟨f1, l1⟩ := h2 p c x h (by omega)
      have he' := he
      rw [hEd] at he'
      obtain ⟨i, hi, hm, hor, ho⟩ := he'
      exact g3 i hi x y o ⟨hi, hm, hor, ho⟩ f1 p c h l1 hy
/-- what the reference's route is -/
theorem route_spec {ls : List Ln} {may : List Bool} {counts : Bool} (hEd : E = Lk ls may counts) {to : Int} (ht : 0 ≤ to ∧ to < n) :
    ((routeW n ls may counts s to).f = true → Pt E s (routeW n ls may counts s to).p (routeW n ls may counts s to).c to) ∧
    ∀ p c, Pt E s p c to → (routeW n ls may counts s to).f = true ∧ leK (routeW n ls may counts s to) ⟨p, c, true⟩ := by
  obtain ⟨h1, h2⟩ := ways_spec hE hs hEd n.toNat
  refine ⟨fun hf => h1.sound to ht.1 ht.2 hf, fun p c hp => h2 p c to hp ?_⟩
  have := pigeon n.toNat p hp.nd fun x hx => by have := (Pt.rng hE hs hp).1 x hx; omega
  omega
end
end Go.Proofs.Ytglfcaioapdiaaa.Bk

-- How far each node is: the program's rounds, in plain terms.
namespace Go.Proofs.Ytglfcaioapdiaaa.Bk
open Go
set_option linter.unusedSimpArgs false
set_option linter.unusedVariables false

abbrev Far := List (Int × Int × Int)
def fget : Far → Int → Option (Int × Int)
  | [], _ => none
  | (x, v) :: F, k => if k == x then some v else fget F k
def fset : Far → Int → Int × Int → Far
  | [], k, v => [(k, v)]
  | (x, u) :: F, k, v => if k == x then (k, v) :: F else (x, u) :: fset F k v
theorem fget_fset (F : Far) (k : Int) (v : Int × Int) (j : Int) : fget (fset F k v) j = if j = k then some v else fget F j := by
  induction F with
  | nil => simp [fset, fget]
  | cons p F ih =>
    obtain ⟨x, u⟩ := p
    simp only [fset]
    by_cases h : k = x
    · subst h
      simp only [beq_self_eq_true, if_true, fget]
      by_cases hj : j = k
      · simp [hj]
      · simp [hj]
    · have hb : (k == x) = false := by simpa using h
      simp only [hb, Bool.false_eq_true, if_false, fget, ih]
      by_cases hj : j = x
      · subst hj
        have : ¬ j = k := fun e => h e.symm
        simp [this]
      · simp [hj]
def fc (F : Far) (k : Int) : Int := ((fget F k).getD (0, 0)).1
def fl (F : Far) (k : Int) : Int := ((fget F k).getD (0, 0)).2
def fh (F : Far) (k : Int) : Bool := (fget F k).isSome
theorem fget_of {F : Far} {k : Int} (h : fh F k = true) : fget F k = some (fc F k, fl F k) := by
  unfold fh fc fl at *
  cases hg : fget F k with
  | none => rw [hg] at h; cases h
  | some v => rfl
def lessF (a b : Int × Int) : Bool := decide (a.1 < b.1) || (a.1 == b.1 && decide (a.2 < b.2))
def leF (a b : Int × Int) : Prop := a.1 < b.1 ∨ (a.1 = b.1 ∧ a.2 ≤ b.2)
theorem leF_refl (a : Int × Int) : leF a a := .inr ⟨rfl, Int.le_refl _⟩
theorem leF_trans {a b c : Int × Int} (h : leF a b) (g : leF b c) : leF a c := by unfold leF at *; omega
theorem leF_of_less {a b : Int × Int} (h : lessF a b = true) : leF a b := by unfold lessF leF at *; simp at h; omega
theorem leF_of_not {a b : Int × Int} (h : lessF a b = false) : leF b a := by unfold lessF leF at *; simp at h; omega
theorem leF_anti {a b : Int × Int} (h : leF a b) (g : leF b a) : a = b := by
  unfold leF at *
  obtain ⟨a1, a2⟩ := a
  obtain ⟨b1, b2⟩ := b
  simp only [Prod.mk.injEq] at *
  omega

def fimp (F : Far) (x y o : Int) : Bool := fh F x && (!fh F y || lessF (fc F x + o, fl F x + 1) (fc F y, fl F y))
def fstep (s : Far × Bool) (x y o : Int) : Far × Bool := if fimp s.1 x y o then (fset s.1 y (fc s.1 x + o, fl s.1 x + 1), true) else s
def ftwo (s : Far × Bool) (l : Ln) : Nat → Far × Bool
  | 0 => s
  | 1 => fstep s l.a l.b l.o
  | _ => fstep (fstep s l.a l.b l.o) l.b l.a l.o
def fpass (ls : List Ln) (s : Far × Bool) : Nat → Far × Bool
  | 0 => s
  | i + 1 => ftwo (fpass ls s i) (ls.getD i lnz) 2

/-- links -/
def EL (ls : List Ln) (x y o : Int) : Prop := ∃ l ∈ ls, ((l.a = x ∧ l.b = y) ∨ (l.a = y ∧ l.b = x)) ∧ o = l.o
theorem EL.symm {ls : List Ln} {x y o : Int} (h : EL ls x y o) : EL ls y x o := by
  obtain ⟨l, hl, h, e⟩ := h
  exact ⟨l, hl, h.symm, e⟩
theorem EL.ok {n : Int} {ls : List Ln} (hL : LnsOk n ls) {x y o : Int} (h : EL ls x y o) : 0 ≤ o ∧ (0 ≤ x ∧ x < n) ∧ (0 ≤ y ∧ y < n) := by
  obtain ⟨l, hl, h, e⟩ := h
  obtain ⟨h1, h2, h3⟩ := hL l hl
  rcases h with ⟨h, h'⟩ | ⟨h, h'⟩ <;> subst h h' e
  · exact ⟨h3.1, h1, h2⟩
  · exact ⟨h3.1, h2, h1⟩
theorem EL.le {n : Int} {ls : List Ln} (hL : LnsOk n ls) {x y o : Int} (h : EL ls x y o) : o ≤ 1000000 := by
  obtain ⟨l, hl, h, e⟩ := h
  subst e; exact (hL l hl).2.2.2

section
variable {E : Int → Int → Int → Prop} {s : Int}
theorem Pt.c1 {M : Int} (hE : ∀ x y o, E x y o → o ≤ M) {p : List Int} {c x : Int} (h : Pt E s p c x) : c ≤ M * ((p.length : Int) - 1) := by
  induction h with
  | one => simp
  | step h he hy ih =>
    have := hE _ _ _ he
    simp only [List.length_append, List.length_singleton]
    rw [Int.natCast_add, show ∀ L : Int, L + ((1 : Nat) : Int) - 1 = (L - 1) + 1 from fun L => by omega, Int.mul_add, Int.mul_one]
    omega
structure FG (E : Int → Int → Int → Prop) (s n : Int) (F : Far) : Prop where
  pth : ∀ x c l, fget F x = some (c, l) → ∃ p, Pt E s p c x ∧ (p.length : Int) = l + 1 ∧ ∀ y ∈ p, ∃ q t c', p = q ++ t ∧ Pt E s q c' y ∧ c' ≤ c ∧ ∃ v, fget F y = some v ∧ leF v (c', (q.length : Int) - 1)
  st : ∃ v, fget F s = some v ∧ leF v (0, 0)
variable {n : Int} (hE : ∀ x y o, E x y o → 0 ≤ o ∧ (0 ≤ x ∧ x < n) ∧ (0 ≤ y ∧ y < n)) (hs : 0 ≤ s ∧ s < n)
include hE hs
theorem FG.bd (hM : ∀ x y o, E x y o → o ≤ 1000000) (hn : n ≤ 12) {F : Far} (h : FG E s n F) {x c l : Int} (hg : fget F x = some (c, l)) : 0 ≤ c ∧ c ≤ 12000000 ∧ 0 ≤ l ∧ l ≤ 11 ∧ 0 ≤ x ∧ x < n := by
  obtain ⟨p, hp, hl, _⟩ := h.pth x c l hg
  have h0 := hp.c0 (fun x y o h => (hE x y o h).1)
  have h1 := hp.c1 hM
  have h2 := Pt.rng hE hs hp
  have h3 := pigeon n.toNat p hp.nd fun y hy => by have := h2.1 y hy; omega
  have h4 : p.length ≠ 0 := fun e => hp.ne (List.length_eq_zero_iff.1 e)
  refine ⟨h0, ?_, by omega, by omega, h2.2⟩
  omega
theorem FG.bc (hM : ∀ x y o, E x y o → o ≤ 1000000) (hn : n ≤ 12) {F : Far} (h : FG E s n F) (x : Int) : 0 ≤ fc F x ∧ fc F x ≤ 12000000 ∧ 0 ≤ fl F x ∧ fl F x ≤ 11 := by
  cases hg : fget F x with
  | none => simp [fc, fl, hg]
  | some v =>
    have := FG.bd hE hs hM hn h (c := v.1) (l := v.2) (by rw [hg])
    simp only [fc, fl, hg, Option.getD_some]
    omega
omit hs in
/-- an improvement -/
theorem FG.step {F : Far} (h : FG E s n F) {x y o : Int} (he : E x y o) (hi : fimp F x y o = true) : FG E s n (fset F y (fc F x + o, fl F x + 1)) ∧ (∀ z v, fget F z = some v → ∃ v', fget (fset F y (fc F x + o, fl F x + 1)) z = some v' ∧ leF v' v) := by
  simp only [fimp, Bool.and_eq_true, Bool.or_eq_true, Bool.not_eq_true'] at hi
  obtain ⟨hx, hi⟩ := hi
  have hgx := fget_of hx
  obtain ⟨p, hp, hl, hpre⟩ := h.pth x _ _ hgx
  have o0 := (hE _ _ _ he).1
  have hold : ∀ v, fget F y = some v → lessF (fc F x + o, fl F x + 1) v = true := fun v hv => by
    rcases hi with hi | hi
    · unfold fh at hi; rw [hv] at hi; cases hi
    · have : v = (fc F y, fl F y) := by simp [fc, fl, hv]
      rw [this]; exact hi
  have hy : y ∉ p := fun hm => by
    obtain ⟨q, t, c', e, hq, hc, v, hv, hle⟩ := hpre y hm
    have h1 := hold v hv
    have h2 : q.length ≤ p.length := by rw [e]; simp
    unfold lessF leF at *
    simp only [Bool.or_eq_true, Bool.and_eq_true, decide_eq_true_eq, beq_iff_eq] at h1 hle
    omega
  have mono : ∀ z v, fget F z = some v → ∃ v', fget (fset F y (fc F x + o, fl F x + 1)) z = some v' ∧ leF v' v := fun z v hv => by
    rw [fget_fset]
    by_cases hz : z = y
    · subst hz; rw [if_pos rfl]; exact ⟨_, rfl, leF_of_less (hold v hv)⟩
    · rw [if_neg hz]; exact ⟨v, hv, leF_refl v⟩
  refine ⟨⟨fun z c l hz => ?_, ?_⟩, mono⟩
  · rw [fget_fset] at hz
    by_cases hzy : z = y
    · subst hzy
      rw [if_pos rfl] at hz
      simp only [Option.some.injEq, Prod.mk.injEq] at hz
      obtain ⟨rfl, rfl⟩ := hz
      refine ⟨p ++ [z], .step hp he hy, by simp; omega, fun u hu => ?_⟩
      rcases List.mem_append.1 hu with hu | hu
      · obtain ⟨q, t, c', e, hq, hc, v, hv, hle⟩ := hpre u hu
        obtain ⟨v', hv', hle'⟩ := mono u v hv
        exact ⟨q, t ++ [z], c', by rw [e, List.append_assoc], hq, by omega, v', hv', leF_trans hle' hle⟩
      · simp at hu; subst hu
        exact ⟨p ++ [u], [], fc F x + o, by simp, .step hp he hy, Int.le_refl _, (fc F x + o, fl F x + 1), by rw [fget_fset, if_pos rfl], .inr ⟨rfl, by simp only [List.length_append, List.length_singleton]; omega⟩⟩
    · rw [if_neg hzy] at hz
      obtain ⟨p', hp', hl', hpre'⟩ := h.pth z c l hz
      refine ⟨p', hp', hl', fun u hu => ?_⟩
      obtain ⟨q, t, c', e, hq, hc, v, hv, hle⟩ := hpre' u hu
      obtain ⟨v', hv', hle'⟩ := mono u v hv
      exact ⟨q, t, c', e, hq, hc, v', hv', leF_trans hle' hle⟩
  · obtain ⟨v, hv, hle⟩ := h.st
    obtain ⟨v', hv', hle'⟩ := mono s v hv
    exact ⟨v', hv', leF_trans hle' hle⟩
omit hE hs in
theorem FG.start : FG E s n [(s, 0, 0)] := by
  refine ⟨fun x c l h => ?_, ⟨(0, 0), by simp [fget], leF_refl _⟩⟩
  simp only [fget] at h
  split at h
  · rename_i e
    simp only [beq_iff_eq] at e
    subst e
    simp only [Option.some.injEq, Prod.mk.injEq] at h
    obtain ⟨rfl, rfl⟩ := h
    refine ⟨[x], .one, by simp, fun y hy => ?_⟩
    simp at hy; subst hy
    exact ⟨[y], [], 0, rfl, .one, Int.le_refl _, (0, 0), by simp [fget], .inr ⟨rfl, by simp⟩⟩
  · cases h

/-- how much can still fall -/
def mu1 : Option (Int × Int) → Nat
  | none => 2 ^ 40
  | some (c, l) => (c * 64 + l).toNat
def mu (n : Int) (F : Far) : Nat := ((List.range n.toNat).map fun (i : Nat) => mu1 (fget F (i : Int))).sum
omit hE hs in
theorem sum_le {f g : Nat → Nat} : ∀ l : List Nat, (∀ i ∈ l, f i ≤ g i) → (l.map f).sum ≤ (l.map g).sum
  | [], _ => Nat.le_refl _
  | i :: l, h => by
    have h1 := h i List.mem_cons_self
    have h2 := sum_le l fun j hj => h j (List.mem_cons_of_mem _ hj)
    simp only [List.map_cons, List.sum_cons]
    omega
omit hE hs in
theorem sum_lt {f g : Nat → Nat} : ∀ l : List Nat, (∀ i ∈ l, f i ≤ g i) → (∃ i ∈ l, f i < g i) → (l.map f).sum < (l.map g).sum
  | [], _, h => by obtain ⟨i, hi, _⟩ := h; cases hi
  | i :: l, h, hx => by
    have h1 := h i List.mem_cons_self
    have h2 := sum_le l fun j hj => h j (List.mem_cons_of_mem _ hj)
    simp only [List.map_cons, List.sum_cons]
    obtain ⟨j, hj, hlt⟩ := hx
    rcases List.mem_cons.1 hj with rfl | hj
    · omega
    · have := sum_lt l (fun j hj => h j (List.mem_cons_of_mem _ hj)) ⟨j, hj, hlt⟩
      omega
theorem FG.mu_lt (hM : ∀ x y o, E x y o → o ≤ 1000000) (hn : n ≤ 12) {F : Far} (h : FG E s n F) {x y o : Int} (he : E x y o) (hi : fimp F x y o = true) : mu n (fset F y (fc F x + o, fl F x + 1)) < mu n F := by
  obtain ⟨o0, hx, hy⟩ := hE _ _ _ he
  have bx := FG.bc hE hs hM hn h x
  have by_ := FG.bc hE hs hM hn h y
  have oM := hM _ _ _ he
  have key : mu1 (some (fc F x + o, fl F x + 1)) < mu1 (fget F y) := by
    simp only [fimp, Bool.and_eq_true, Bool.or_eq_true, Bool.not_eq_true'] at hi
    rcases hi.2 with hi | hi
    · have : fget F y = none := by unfold fh at hi; simpa using hi
      rw [this]; simp only [mu1]; omega
    · cases hf : fh F y with
      | false =>
        have : fget F y = none := by unfold fh at hf; simpa using hf
        rw [this]; simp only [mu1]; omega
      | true =>
        rw [fget_of hf]
        simp only [mu1]
        unfold lessF at hi
        simp only [Bool.or_eq_true, Bool.and_eq_true, decide_eq_true_eq, beq_iff_eq] at hi
        omega
  refine sum_lt _ (fun i hi' => ?_) ⟨y.toNat, List.mem_range.2 (by omega), ?_⟩
  · rw [fget_fset]
    split
    · rename_i e; rw [e]; omega
    · exact Nat.le_refl _
  · rw [fget_fset, if_pos (by omega), show ((y.toNat : Nat) : Int) = y by omega]
    exact key
end
end Go.Proofs.Ytglfcaioapdiaaa.Bk

-- How far each node is: where the rounds end; the way along it.
namespace Go.Proofs.Ytglfcaioapdiaaa.Bk
open Go
set_option linter.unusedSimpArgs false
set_option linter.unusedVariables false

section
variable {n s : Int} {ls : List Ln} (hL : LnsOk n ls) (hn : n ≤ 12) (hs : 0 ≤ s ∧ s < n)
/-- a state between F and what is there now -/
structure FS (n s : Int) (ls : List Ln) (F : Far) (st : Far × Bool) : Prop where
  good : FG (EL ls) s n st.1
  up : st.2 = true → mu n st.1 < mu n F
  same : st.2 = false → st.1 = F
include hL hn hs
theorem FS.step {F : Far} {st : Far × Bool} (h : FS n s ls F st) {x y o : Int} (he : EL ls x y o) : FS n s ls F (fstep st x y o) := by
  unfold fstep
  split
  · rename_i hi
    have hE := fun x y o (h : EL ls x y o) => EL.ok hL h
    refine ⟨(FG.step hE h.good he hi).1, fun _ => ?_, fun h => by cases h⟩
    have h1 := FG.mu_lt hE hs (fun x y o h => EL.le hL h) hn h.good he hi
    cases hb : st.2 with
    | true => have := h.up hb; simp only at h1 ⊢; omega
    | false => have := h.same hb; simp only; rw [this] at h1 ⊢; exact h1
  · exact h
omit hL hn hs in
theorem EL.of {l : Ln} (h : l ∈ ls) : EL ls l.a l.b l.o := ⟨l, h, .inl ⟨rfl, rfl⟩, rfl⟩
theorem FS.two {F : Far} {st : Far × Bool} (h : FS n s ls F st) {l : Ln} (hl : l ∈ ls) : ∀ k, FS n s ls F (ftwo st l k)
  | 0 => h
  | 1 => FS.step hL hn hs h (EL.of hl)
  | _ + 2 => FS.step hL hn hs (FS.step hL hn hs h (EL.of hl)) (EL.of hl).symm
theorem FS.pass {F : Far} {st : Far × Bool} (h : FS n s ls F st) : ∀ i, i ≤ ls.length → FS n s ls F (fpass ls st i)
  | 0, _ => h
  | i + 1, hi => by
    have : ls.getD i lnz ∈ ls := by simp [List.getD, show i < ls.length by omega]
    exact FS.two hL hn hs (FS.pass h i (by omega)) this 2
omit hL hn hs in
theorem fstep_up {st : Far × Bool} {x y o : Int} (h : (fstep st x y o).2 = false) : st.2 = false ∧ fimp st.1 x y o = false ∧ fstep st x y o = st := by
  unfold fstep at h ⊢
  cases hi : fimp st.1 x y o with
  | true => rw [hi] at h; simp at h
  | false => rw [hi] at h; simpa using h
omit hL hn hs in
theorem fpass_fix {st : Far × Bool} : ∀ i, i ≤ ls.length → (fpass ls st i).2 = false → st.2 = false ∧ fpass ls st i = st ∧ ∀ j, j < i → fimp st.1 (ls.getD j lnz).a (ls.getD j lnz).b (ls.getD j lnz).o = false ∧ fimp st.1 (ls.getD j lnz).b (ls.getD j lnz).a (ls.getD j lnz).o = false
  | 0, _, h => ⟨h, rfl, fun j hj => absurd hj (Nat.not_lt_zero _)⟩
  | i + 1, hi, h => by
    simp only [fpass, ftwo] at h ⊢
    obtain ⟨a1, a2, a3⟩ := fstep_up h
    obtain ⟨b1, b2, b3⟩ := fstep_up a1
    obtain ⟨c1, c2, c3⟩ := fpass_fix i (by omega) b1
    rw [a3, b3, c2]
    rw [b3, c2] at a2
    rw [c2] at b2
    refine ⟨c1, rfl, fun j hj => ?_⟩
    by_cases e : j = i
    · subst e; exact ⟨b2, a2⟩
    · exact c3 j (by omega)
def farF (ls : List Ln) : Nat → Far → Far
  | 0, F => F
  | k + 1, F => if (fpass ls (F, false) ls.length).2 = true then farF ls k (fpass ls (F, false) ls.length).1 else (fpass ls (F, false) ls.length).1
def Fix (ls : List Ln) (F : Far) : Prop := ∀ x y o, EL ls x y o → fimp F x y o = false
omit hL hn hs in
theorem fix_of {F : Far} (h : (fpass ls (F, false) ls.length).2 = false) : Fix ls F := fun x y o he => by
  obtain ⟨l, hl, hor, ho⟩ := he
  obtain ⟨_, _, h3⟩ := fpass_fix ls.length (Nat.le_refl _) h
  obtain ⟨i, hi, e⟩ := List.getElem_of_mem hl
  have := h3 i hi
  have hD : ls.getD i lnz = l := by simp [List.getD, hi, e]
  rw [hD] at this
  subst ho
  rcases hor with ⟨h1, h2⟩ | ⟨h1, h2⟩ <;> subst h1 h2
  · exact this.1
  · exact this.2
theorem farF_spec : ∀ (k : Nat) (F : Far), FG (EL ls) s n F → mu n F < k → FG (EL ls) s n (farF ls k F) ∧ Fix ls (farF ls k F)
  | 0, F, _, h => absurd h (Nat.not_lt_zero _)
  | k + 1, F, hF, h => by
    have hp := FS.pass hL hn hs (F := F) (st := (F, false)) ⟨hF, fun h => (by cases h), fun _ => rfl⟩ ls.length (Nat.le_refl _)
    unfold farF
    split
    · rename_i hb
      have := hp.up hb
      exact farF_spec k _ hp.good (by omega)
    · rename_i hb
      have hb' : (fpass ls (F, false) ls.length).2 = false := by simpa using hb
      have e := hp.same hb'
      rw [e]
      exact ⟨hF, fix_of hb'⟩
def farR (n : Int) (ls : List Ln) (s : Int) : Far := farF ls (mu n [(s, 0, 0)] + 1) [(s, 0, 0)]
theorem farR_spec : FG (EL ls) s n (farR n ls s) ∧ Fix ls (farR n ls s) := farF_spec hL hn hs _ _ FG.start (Nat.lt_succ_self _)

omit hL hn hs in
/-- at the end each node is as far as its best way is long -/
theorem far_least {F : Far} (hF : FG (EL ls) s n F) (hx : Fix ls F) {p : List Int} {c x : Int} (h : Pt (EL ls) s p c x) : ∃ v, fget F x = some v ∧ leF v (c, (p.length : Int) - 1) := by
  induction h with
  | one =>
    obtain ⟨v, hv, hle⟩ := hF.st
    exact ⟨v, hv, by simpa using hle⟩
  | @step p c x y o h he hy ih =>
    obtain ⟨v, hv, hle⟩ := ih
    have hf := hx x y o he
    have hh : fh F x = true := by unfold fh; rw [hv]; rfl
    have hvx : v = (fc F x, fl F x) := by have := fget_of hh; rw [hv] at this; simpa using this
    simp only [fimp, hh, Bool.true_and, Bool.or_eq_false_iff, Bool.not_eq_false'] at hf
    obtain ⟨hy1, hl⟩ := hf
    refine ⟨_, fget_of hy1, leF_trans (leF_of_not hl) ?_⟩
    rw [hvx] at hle
    unfold leF at *
    simp only [List.length_append, List.length_singleton]
    omega
end

/-- ways from the other end -/
theorem Pt.cons {E : Int → Int → Int → Prop} {x y o : Int} {p : List Int} {c t : Int} (h : Pt E x p c t) (he : E y x o) (hy : y ∉ p) : Pt E y (y :: p) (o + c) t := by
  induction h with
  | one =>
    have : Pt E y ([y] ++ [x]) (0 + o) x := .step .one he (by simp at hy ⊢; exact fun e => hy e.symm)
    simpa using this
  | @step p c u v o' h he' hv ih =>
    have hyp : y ∉ p := fun hm => hy (List.mem_append_left _ hm)
    have hyv : v ≠ y := fun e => hy (by rw [e]; simp)
    have := Pt.step (ih hyp) he' (y := v) (by simp [hv, hyv])
    rw [← Int.add_assoc]
    exact this
theorem Pt.rev {E : Int → Int → Int → Prop} (hS : ∀ x y o, E x y o → E y x o) {s : Int} {p : List Int} {c t : Int} (h : Pt E s p c t) : Pt E t p.reverse c s := by
  induction h with
  | one => exact .one
  | @step p c x y o h he hy ih =>
    rw [List.reverse_append, List.reverse_singleton, List.singleton_append, Int.add_comm]
    exact Pt.cons ih (hS _ _ _ he) (by simpa using hy)
/-- a way's first step -/
theorem Pt.head {E : Int → Int → Int → Prop} {s : Int} {p : List Int} {c t : Int} (h : Pt E s p c t) : (p = [s] ∧ c = 0 ∧ t = s) ∨ ∃ y o c' q, p = s :: q ∧ E s y o ∧ c = o + c' ∧ Pt E y q c' t ∧ s ∉ q := by
  induction h with
  | one => exact .inl ⟨rfl, rfl, rfl⟩
  | @step p c x y o h he hy ih =>
    rcases ih with ⟨rfl, rfl, rfl⟩ | ⟨y1, o1, c1, q, rfl, he1, rfl, hq, hsq⟩
    · exact .inr ⟨y, o, 0, [y], rfl, he, by omega, .one, by simp at hy ⊢; exact fun e => hy e.symm⟩
    · simp only [List.mem_cons, not_or] at hy
      refine .inr ⟨y1, o1, c1 + o, q ++ [y], by simp, he1, by omega, .step hq he hy.2, ?_⟩
      simp only [List.mem_append, List.mem_singleton, not_or]
      exact ⟨hsq, fun e => hy.1 e.symm⟩
end Go.Proofs.Ytglfcaioapdiaaa.Bk

-- The way along the distances, in plain terms: it is the best route.
namespace Go.Proofs.Ytglfcaioapdiaaa.Bk
open Go
set_option linter.unusedSimpArgs false
set_option linter.unusedVariables false

/-- a link to a node that lies one step nearer -/
def gok (F : Far) (x : Int) (l : Ln) : Bool := othB x l && (fc F (othV x l) + l.o == fc F x && fl F (othV x l) + 1 == fl F x)
def gst (F : Far) (x : Int) (b : Int) (l : Ln) : Int := if gok F x l then min b (othV x l) else b
def gmin (F : Far) (n x : Int) (ls : List Ln) (i : Nat) : Int := (ls.take i).foldl (gst F x) n
theorem gmin_succ {F : Far} {n x : Int} {ls : List Ln} {i : Nat} (h : i < ls.length) : gmin F n x ls (i + 1) = gst F x (gmin F n x ls i) ls[i] := by
  rw [gmin, List.take_succ_eq_append_getElem h, List.foldl_append]; rfl
theorem gfold_le (F : Far) (x : Int) : ∀ (ls : List Ln) (b : Int), ls.foldl (gst F x) b ≤ b ∧ ∀ l ∈ ls, gok F x l = true → ls.foldl (gst F x) b ≤ othV x l
  | [], b => ⟨Int.le_refl _, by simp⟩
  | l :: ls, b => by
    obtain ⟨h1, h2⟩ := gfold_le F x ls (gst F x b l)
    have h3 : gst F x b l ≤ b := by unfold gst; split <;> omega
    refine ⟨by simp only [List.foldl_cons]; omega, fun z hz hk => ?_⟩
    simp only [List.foldl_cons]
    rcases List.mem_cons.1 hz with e | hz
    · subst e
      have : gst F x b z ≤ othV x z := by unfold gst; rw [hk]; simp only [if_true]; omega
      omega
    · exact h2 z hz hk
theorem gfold_in (F : Far) (x : Int) : ∀ (ls : List Ln) (b : Int), ls.foldl (gst F x) b = b ∨ ∃ l ∈ ls, gok F x l = true ∧ ls.foldl (gst F x) b = othV x l
  | [], b => .inl rfl
  | l :: ls, b => by
    simp only [List.foldl_cons]
    rcases gfold_in F x ls (gst F x b l) with h | ⟨z, hz, hk, e⟩
    · rw [h]
      unfold gst
      split
      · rename_i hk
        by_cases hb : b ≤ othV x l
        · exact .inl (by omega)
        · exact .inr ⟨l, List.mem_cons_self, hk, by omega⟩
      · exact .inl rfl
    · exact .inr ⟨z, List.mem_cons_of_mem _ hz, hk, e⟩
theorem EL.oth {ls : List Ln} {x : Int} {l : Ln} (hl : l ∈ ls) (h : othB x l = true) : EL ls x (othV x l) l.o := by
  simp only [othB, Bool.or_eq_true, beq_iff_eq] at h
  refine ⟨l, hl, ?_, rfl⟩
  unfold othV
  grind
theorem oth_of {ls : List Ln} {x y o : Int} (h : EL ls x y o) : ∃ l ∈ ls, othB x l = true ∧ othV x l = y ∧ l.o = o := by
  obtain ⟨l, hl, hor, e⟩ := h
  refine ⟨l, hl, ?_, ?_, e.symm⟩
  · unfold othB; grind
  · unfold othV; grind

section
variable {n to : Int} {ls : List Ln} {F : Far}
/-- what is known of the distances -/
structure FW (n to : Int) (ls : List Ln) (F : Far) : Prop where
  ok : LnsOk n ls
  n12 : n ≤ 12
  rt : 0 ≤ to ∧ to < n
  good : FG (EL ls) to n F
  fix : Fix ls F
theorem FW.of (hL : LnsOk n ls) (hn : n ≤ 12) (ht : 0 ≤ to ∧ to < n) : FW n to ls (farR n ls to) := ⟨hL, hn, ht, (farR_spec hL hn ht).1, (farR_spec hL hn ht).2⟩
variable (h : FW n to ls F)
include h
theorem FW.bd {x : Int} (hx : fh F x = true) : 0 ≤ fc F x ∧ fc F x ≤ 12000000 ∧ 0 ≤ fl F x ∧ fl F x ≤ 11 ∧ 0 ≤ x ∧ x < n :=
  FG.bd (fun _ _ _ => EL.ok h.ok) h.rt (fun _ _ _ => EL.le h.ok) h.n12 h.good (fget_of hx)
theorem FW.bc (x : Int) : 0 ≤ fc F x ∧ fc F x ≤ 12000000 ∧ 0 ≤ fl F x ∧ fl F x ≤ 11 :=
  FG.bc (fun _ _ _ => EL.ok h.ok) h.rt (fun _ _ _ => EL.le h.ok) h.n12 h.good x
theorem FW.at0 : fh F to = true ∧ fc F to = 0 ∧ fl F to = 0 := by
  obtain ⟨v, hv, hle⟩ := h.good.st
  have hh : fh F to = true := by unfold fh; rw [hv]; rfl
  have hb := h.bd hh
  have e : v = (fc F to, fl F to) := by have := fget_of hh; rw [hv] at this; simpa using this
  rw [e] at hle
  unfold leF at hle
  simp only at hle
  exact ⟨hh, by omega, by omega⟩
theorem FW.zero {x : Int} (hx : fh F x = true) (h0 : fl F x = 0) : x = to := by
  obtain ⟨p, hp, hl, _⟩ := h.good.pth x _ _ (fget_of hx)
  rcases hp.head with ⟨_, _, e⟩ | ⟨y, o, c', q, e, _, _, hq, _⟩
  · exact e
  · have := hq.ne
    have h1 : q.length ≠ 0 := fun e => this (List.length_eq_zero_iff.1 e)
    rw [e] at hl
    simp only [List.length_cons] at hl
    omega
theorem FW.ne {x : Int} (hx : fh F x = true) (h0 : 0 < fl F x) : x ≠ to := fun e => by rw [e] at h0; have := h.at0.2.2; omega
/-- a way of this length: its last step but one -/
theorem FW.cand {x : Int} (hx : fh F x = true) (h0 : 0 < fl F x) : ∃ l ∈ ls, gok F x l = true := by
  obtain ⟨p, hp, hl, _⟩ := h.good.pth x _ _ (fget_of hx)
  generalize hcx : fc F x = cx at hp
  cases hp with
  | one => simp at hl; omega
  | @step p c z _ o hp he hy =>
    obtain ⟨v, hv, hle⟩ := far_least h.good h.fix hp
    have hz : fh F z = true := by unfold fh; rw [hv]; rfl
    have ev : v = (fc F z, fl F z) := by have := fget_of hz; rw [hv] at this; simpa using this
    have hf := h.fix z x o he
    simp only [fimp, hz, hx, Bool.true_and, Bool.not_true, Bool.false_or] at hf
    have hle2 := leF_of_not hf
    obtain ⟨l, hl', g1, g2, g3⟩ := oth_of he.symm
    refine ⟨l, hl', ?_⟩
    simp only [List.length_append, List.length_singleton] at hl
    rw [ev] at hle
    unfold leF at hle hle2
    simp only at hle hle2
    simp only [gok, g1, g2, g3, Bool.true_and, Bool.and_eq_true, beq_iff_eq]
    omega
theorem FW.next {x : Int} (hx : fh F x = true) (h0 : 0 < fl F x) : ∃ l ∈ ls, gok F x l = true ∧ gmin F n x ls ls.length = othV x l ∧ (∀ l' ∈ ls, gok F x l' = true → gmin F n x ls ls.length ≤ othV x l') := by
  obtain ⟨l, hl, hk⟩ := h.cand hx h0
  obtain ⟨h1, h2⟩ := gfold_le F x ls n
  have e : gmin F n x ls ls.length = ls.foldl (gst F x) n := by rw [gmin, List.take_length]
  rw [e]
  rcases gfold_in F x ls n with h3 | ⟨l', hl', hk', e'⟩
  · have := h2 l hl hk
    have h4 := (EL.ok h.ok (EL.oth hl (by simp only [gok, Bool.and_eq_true] at hk; exact hk.1))).2.2.2
    omega
  · exact ⟨l', hl', hk', e', h2⟩
theorem FW.step {x : Int} (hx : fh F x = true) {l : Ln} (hl : l ∈ ls) (hk : gok F x l = true) : EL ls x (othV x l) l.o ∧ fh F (othV x l) = true ∧ fc F (othV x l) + l.o = fc F x ∧ fl F (othV x l) + 1 = fl F x := by
  simp only [gok, Bool.and_eq_true, beq_iff_eq] at hk
  have he := EL.oth hl hk.1
  refine ⟨he, ?_, hk.2.1, hk.2.2⟩
  have hf := h.fix _ _ _ he
  simp only [fimp, hx, Bool.true_and, Bool.or_eq_false_iff, Bool.not_eq_false'] at hf
  exact hf.1
end

/-- the k-th node of the way -/
def gat (F : Far) (n : Int) (ls : List Ln) (frm : Int) : Nat → Int
  | 0 => frm
  | k + 1 => gmin F n (gat F n ls frm k) ls ls.length
def rlist (F : Far) (n : Int) (ls : List Ln) (frm : Int) (k : Nat) : List Int := (List.range (k + 1)).map (gat F n ls frm)
theorem rlist_succ (F : Far) (n : Int) (ls : List Ln) (frm : Int) (k : Nat) : rlist F n ls frm (k + 1) = rlist F n ls frm k ++ [gat F n ls frm (k + 1)] := by
  simp [rlist, List.range_succ]
theorem rlist_len (F : Far) (n : Int) (ls : List Ln) (frm : Int) (k : Nat) : (rlist F n ls frm k).length = k + 1 := by simp [rlist]
theorem rlist_cons (F : Far) (n : Int) (ls : List Ln) (frm : Int) (k : Nat) : rlist F n ls frm (k + 1) = frm :: rlist F n ls (gat F n ls frm 1) k := by
  have : ∀ j, gat F n ls frm (j + 1) = gat F n ls (gat F n ls frm 1) j := fun j => by
    induction j with
    | zero => rfl
    | succ j ih => rw [gat, ih]; rfl
  unfold rlist
  rw [List.range_succ_eq_map, List.map_cons, List.map_map]
  congr 1
  refine List.map_congr_left fun j _ => ?_
  simp only [Function.comp, Nat.succ_eq_add_one]
  exact this j
section
variable {n to : Int} {ls : List Ln} {F : Far} (h : FW n to ls F)
include h
theorem FW.at {frm : Int} (hf : fh F frm = true) : ∀ k : Nat, (k : Int) ≤ fl F frm → fh F (gat F n ls frm k) = true ∧ fl F (gat F n ls frm k) = fl F frm - k
  | 0, _ => ⟨hf, by simp [gat]⟩
  | k + 1, hk => by
    obtain ⟨h1, h2⟩ := FW.at hf k (by omega)
    obtain ⟨l, hl, hg, e, _⟩ := h.next h1 (by omega)
    obtain ⟨_, s2, _, s4⟩ := h.step h1 hl hg
    rw [gat, e]
    exact ⟨s2, by omega⟩
/-- the whole way is a way, with the cost of the distance -/
theorem FW.way : ∀ (k : Nat) {frm : Int}, fh F frm = true → fl F frm = k → Pt (EL ls) frm (rlist F n ls frm k) (fc F frm) to ∧ ∀ y ∈ rlist F n ls frm k, fh F y = true ∧ fl F y ≤ k
  | 0, frm, hf, h0 => by
    have e := h.zero hf (by omega)
    subst e
    rw [h.at0.2.1]
    refine ⟨.one, fun y hy => ?_⟩
    simp [rlist, gat] at hy
    subst hy
    exact ⟨hf, by omega⟩
  | k + 1, frm, hf, h0 => by
    obtain ⟨l, hl, hg, e, _⟩ := h.next hf (by omega)
    obtain ⟨s1, s2, s3, s4⟩ := h.step hf hl hg
    have e1 : gat F n ls frm 1 = othV frm l := e
    obtain ⟨g1, g2⟩ := FW.way k s2 (by omega)
    rw [rlist_cons, e1]
    refine ⟨?_, fun y hy => ?_⟩
    · have := Pt.cons g1 s1 (fun hm => by have := (g2 frm hm).2; omega)
      rw [show fc F frm = l.o + fc F (othV frm l) by omega]
      exact this
    · rcases List.mem_cons.1 hy with rfl | hy
      · exact ⟨hf, by omega⟩
      · exact ⟨(g2 y hy).1, by have := (g2 y hy).2; omega⟩
/-- no way of the same cost and length comes earlier -/
theorem FW.first : ∀ (k : Nat) {frm : Int} {p : List Int} {c : Int}, fh F frm = true → fl F frm = k → Pt (EL ls) frm p c to → c = fc F frm → p.length = k + 1 → lessL p (rlist F n ls frm k) = false
  | 0, frm, p, c, hf, h0, hp, hc, hl => by
    rcases hp.head with ⟨e, _, _⟩ | ⟨y, o, c', q, e, _, _, hq, _⟩
    · subst e; simp [rlist, gat, lessL]
    · have h1 : q.length ≠ 0 := fun e => hq.ne (List.length_eq_zero_iff.1 e)
      rw [e] at hl; simp at hl; exact absurd hl (by simpa using h1)
  | k + 1, frm, p, c, hf, h0, hp, hc, hl => by
    rcases hp.head with ⟨e, _, _⟩ | ⟨y, o, c', q, e, he, ec, hq, _⟩
    · rw [e] at hl; simp at hl
    · subst e ec
      simp only [List.length_cons, Nat.add_right_cancel_iff] at hl
      obtain ⟨v, hv, hle⟩ := far_least h.good h.fix (hq.rev fun x y o h => h.symm)
      have hy : fh F y = true := by unfold fh; rw [hv]; rfl
      have ev : v = (fc F y, fl F y) := by have := fget_of hy; rw [hv] at this; simpa using this
      have hfx := h.fix y frm o he.symm
      simp only [fimp, hy, hf, Bool.true_and, Bool.not_true, Bool.false_or] at hfx
      have hle2 := leF_of_not hfx
      rw [ev] at hle
      unfold leF at hle hle2
      simp only [List.length_reverse] at hle hle2
      have c1 : fc F y = c' := by omega
      have c2 : fl F y = k := by omega
      obtain ⟨l, hl', g1, g2, g3⟩ := oth_of he
      have hg : gok F frm l = true := by
        simp only [gok, g1, g2, g3, Bool.true_and, Bool.and_eq_true, beq_iff_eq]; omega
      obtain ⟨l1, hl1, hk1, e1, hmin⟩ := h.next hf (by omega)
      have hm := hmin l hl' hg
      rw [g2] at hm
      have e2 : gat F n ls frm 1 = gmin F n frm ls ls.length := rfl
      rw [rlist_cons, lessL, if_pos rfl, e2]
      -- the first of the two tails
      have hd : ∀ z k, ∃ t, rlist F n ls z k = z :: t := fun z k => by
        cases k with
        | zero => exact ⟨[], rfl⟩
        | succ k => exact ⟨_, rlist_cons F n ls z k⟩
      by_cases hlt : gmin F n frm ls ls.length = y
      · rw [hlt]
        exact FW.first k hy (by omega) hq (by omega) hl
      · obtain ⟨t, ht⟩ := hd (gmin F n frm ls ls.length) k
        rw [ht]
        rcases hq.head with ⟨eq, _, _⟩ | ⟨_, _, _, q', eq, _, _, _, _⟩
        · subst eq
          rw [lessL, if_neg (fun e => hlt e.symm)]
          simp only [decide_eq_false_iff_not]; omega
        · subst eq
          rw [lessL, if_neg (fun e => hlt e.symm)]
          simp only [decide_eq_false_iff_not]; omega
end

/-- what the program's route is: nothing, or the way along the distances -/
def goR (n : Int) (ls : List Ln) (frm to : Int) : Option (List Int) := if fh (farR n ls to) frm then some (rlist (farR n ls to) n ls frm (fl (farR n ls to) frm).toNat) else none
/-- .. and that is the reference's route, whenever its links are these -/
theorem goR_eq {n frm to : Int} {ls ls' : List Ln} {may : List Bool} {counts : Bool} (hL : LnsOk n ls) (hL' : LnsOk n ls') (hn : n ≤ 12) (hf : 0 ≤ frm ∧ frm < n) (ht : 0 ≤ to ∧ to < n) (hE : ∀ x y o, EL ls x y o ↔ Lk ls' may counts x y o) :
    goR n ls frm to = if (routeW n ls' may counts frm to).f then some (routeW n ls' may counts frm to).p else none := by
  have hEE : EL ls = Lk ls' may counts := by funext x y o; exact propext (hE x y o)
  have hFW := FW.of (to := to) hL hn ht
  obtain ⟨r1, r2⟩ := route_spec (E := EL ls) (s := frm) (n := n) (fun _ _ _ => EL.ok hL) hf hEE ht
  unfold goR
  cases hh : fh (farR n ls to) frm with
  | false =>
    have : (routeW n ls' may counts frm to).f = false := by
      cases hr : (routeW n ls' may counts frm to).f with
      | false => rfl
      | true =>
        obtain ⟨v, hv, _⟩ := far_least hFW.good hFW.fix ((r1 hr).rev fun x y o h => h.symm)
        unfold fh at hh; rw [hv] at hh; cases hh
    rw [this]; rfl
  | true =>
    have hb := hFW.bd hh
    obtain ⟨w1, w2⟩ := hFW.way (fl (farR n ls to) frm).toNat hh (by omega)
    obtain ⟨r3, r4⟩ := r2 _ _ w1
    rw [r3]
    simp only [if_true, Option.some.injEq]
    have hR := r1 r3
    obtain ⟨v, hv, hle⟩ := far_least hFW.good hFW.fix (hR.rev fun x y o h => h.symm)
    have ev : v = (fc (farR n ls to) frm, fl (farR n ls to) frm) := by have := fget_of hh; rw [hv] at this; simpa using this
    rw [ev] at hle
    have hlen := rlist_len (farR n ls to) n ls frm (fl (farR n ls to) frm).toNat
    generalize hG : rlist (farR n ls to) n ls frm (fl (farR n ls to) frm).toNat = G at *
    generalize routeW n ls' may counts frm to = R at *
    -- same cost and length
    have same : R.c = fc (farR n ls to) frm ∧ R.p.length = G.length := by
      unfold leF at hle
      unfold leK ltK at r4
      simp only [List.length_reverse] at hle r4
      omega
    have hfirst := hFW.first (fl (farR n ls to) frm).toNat hh (by omega) hR same.1 (by omega)
    rw [hG] at hfirst
    refine (lessL_tri R.p G same.2 hfirst ?_).symm
    cases hc : lessL G R.p with
    | false => rfl
    | true =>
      refine absurd ?_ r4
      unfold ltK
      exact .inr ⟨same.1.symm, .inr ⟨same.2.symm, hc⟩⟩
end Go.Proofs.Ytglfcaioapdiaaa.Bk
