/-
  How far each node is: where the rounds end; the way along it.
-/
import Derived.Test.YtglfcaioapdiaaaFtP
namespace Go.Proofs.Ytglfcaioapdiaaa.Bk
open Go
set_option linter.unusedSimpArgs false
set_option linter.unusedVariables false

section
variable {n s : Int} {ls : List Ln} (hL : LnsOk n ls) (hn : n ≤ 12) (hs : 0 ≤ s ∧ s < n)
/-- a state between F and what is there now -/
structure FS (n s : Int) (ls : List Ln) (F : Far) (st : Far × Bool) : Prop where
  good : FG (EL ls) s n st.1
  up : st.2 = true → mu n st.1 < mu n F
  same : st.2 = false → st.1 = F
include hL hn hs
theorem FS.step {F : Far} {st : Far × Bool} (h : FS n s ls F st) {x y o : Int} (he : EL ls x y o) : FS n s ls F (fstep st x y o) := by
  unfold fstep
  split
  · rename_i hi
    have hE := fun x y o (h : EL ls x y o) => EL.ok hL h
    refine ⟨(FG.step hE h.good he hi).1, fun _ => ?_, fun h => by cases h⟩
    have h1 := FG.mu_lt hE hs (fun x y o h => EL.le hL h) hn h.good he hi
    cases hb : st.2 with
    | true => have := h.up hb; simp only at h1 ⊢; omega
    | false => have := h.same hb; simp only; rw [this] at h1 ⊢; exact h1
  · exact h
omit hL hn hs in
theorem EL.of {l : Ln} (h : l ∈ ls) : EL ls l.a l.b l.o := ⟨l, h, .inl ⟨rfl, rfl⟩, rfl⟩
theorem FS.two {F : Far} {st : Far × Bool} (h : FS n s ls F st) {l : Ln} (hl : l ∈ ls) : ∀ k, FS n s ls F (ftwo st l k)
  | 0 => h
  | 1 => FS.step hL hn hs h (EL.of hl)
  | _ + 2 => FS.step hL hn hs (FS.step hL hn hs h (EL.of hl)) (EL.of hl).symm
theorem FS.pass {F : Far} {st : Far × Bool} (h : FS n s ls F st) : ∀ i, i ≤ ls.length → FS n s ls F (fpass ls st i)
  | 0, _ => h
  | i + 1, hi => by
    have : ls.getD i lnz ∈ ls := by simp [List.getD, show i < ls.length by omega]
    exact FS.two hL hn hs (FS.pass h i (by omega)) this 2
omit hL hn hs in
theorem fstep_up {st : Far × Bool} {x y o : Int} (h : (fstep st x y o).2 = false) : st.2 = false ∧ fimp st.1 x y o = false ∧ fstep st x y o = st := by
  unfold fstep at h ⊢
  cases hi : fimp st.1 x y o with
  | true => rw [hi] at h; simp at h
  | false => rw [hi] at h; simpa using h
omit hL hn hs in
theorem fpass_fix {st : Far × Bool} : ∀ i, i ≤ ls.length → (fpass ls st i).2 = false → st.2 = false ∧ fpass ls st i = st ∧ ∀ j, j < i → fimp st.1 (ls.getD j lnz).a (ls.getD j lnz).b (ls.getD j lnz).o = false ∧ fimp st.1 (ls.getD j lnz).b (ls.getD j lnz).a (ls.getD j lnz).o = false
  | 0, _, h => ⟨h, rfl, fun j hj => absurd hj (Nat.not_lt_zero _)⟩
  | i + 1, hi, h => by
    simp only [fpass, ftwo] at h ⊢
    obtain ⟨a1, a2, a3⟩ := fstep_up h
    obtain ⟨b1, b2, b3⟩ := fstep_up a1
    obtain ⟨c1, c2, c3⟩ := fpass_fix i (by omega) b1
    rw [a3, b3, c2]
    rw [b3, c2] at a2
    rw [c2] at b2
    refine ⟨c1, rfl, fun j hj => ?_⟩
    by_cases e : j = i
    · subst e; exact ⟨b2, a2⟩
    · exact c3 j (by omega)
def farF (ls : List Ln) : Nat → Far → Far
  | 0, F => F
  | k + 1, F => if (fpass ls (F, false) ls.length).2 = true then farF ls k (fpass ls (F, false) ls.length).1 else (fpass ls (F, false) ls.length).1
def Fix (ls : List Ln) (F : Far) : Prop := ∀ x y o, EL ls x y o → fimp F x y o = false
omit hL hn hs in
theorem fix_of {F : Far} (h : (fpass ls (F, false) ls.length).2 = false) : Fix ls F := fun x y o he => by
  obtain ⟨l, hl, hor, ho⟩ := he
  obtain ⟨_, _, h3⟩ := fpass_fix ls.length (Nat.le_refl _) h
  obtain ⟨i, hi, e⟩ := List.getElem_of_mem hl
  have := h3 i hi
  have hD : ls.getD i lnz = l := by simp [List.getD, hi, e]
  rw [hD] at this
  subst ho
  rcases hor with ⟨h1, h2⟩ | ⟨h1, h2⟩ <;> subst h1 h2
  · exact this.1
  · exact this.2
theorem farF_spec : ∀ (k : Nat) (F : Far), FG (EL ls) s n F → mu n F < k → FG (EL ls) s n (farF ls k F) ∧ Fix ls (farF ls k F)
  | 0, F, _, h => absurd h (Nat.not_lt_zero _)
  | k + 1, F, hF, h => by
    have hp := FS.pass hL hn hs (F := F) (st := (F, false)) ⟨hF, fun h => (by cases h), fun _ => rfl⟩ ls.length (Nat.le_refl _)
    unfold farF
    split
    · rename_i hb
      have := hp.up hb
      exact farF_spec k _ hp.good (by omega)
    · rename_i hb
      have hb' : (fpass ls (F, false) ls.length).2 = false := by simpa using hb
      have e := hp.same hb'
      rw [e]
      exact ⟨hF, fix_of hb'⟩
def farR (n : Int) (ls : List Ln) (s : Int) : Far := farF ls (mu n [(s, 0, 0)] + 1) [(s, 0, 0)]
theorem farR_spec : FG (EL ls) s n (farR n ls s) ∧ Fix ls (farR n ls s) := farF_spec hL hn hs _ _ FG.start (Nat.lt_succ_self _)

omit hL hn hs in
/-- at the end each node is as far as its best way is long -/
theorem far_least {F : Far} (hF : FG (EL ls) s n F) (hx : Fix ls F) {p : List Int} {c x : Int} (h : Pt (EL ls) s p c x) : ∃ v, fget F x = some v ∧ leF v (c, (p.length : Int) - 1) := by
  induction h with
  | one =>
    obtain ⟨v, hv, hle⟩ := hF.st
    exact ⟨v, hv, by simpa using hle⟩
  | @step p c x y o h he hy ih =>
    obtain ⟨v, hv, hle⟩ := ih
    have hf := hx x y o he
    have hh : fh F x = true := by unfold fh; rw [hv]; rfl
    have hvx : v = (fc F x, fl F x) := by have := fget_of hh; rw [hv] at this; simpa using this
    simp only [fimp, hh, Bool.true_and, Bool.or_eq_false_iff, Bool.not_eq_false'] at hf
    obtain ⟨hy1, hl⟩ := hf
    refine ⟨_, fget_of hy1, leF_trans (leF_of_not hl) ?_⟩
    rw [hvx] at hle
    unfold leF at *
    simp only [List.length_append, List.length_singleton]
    omega
end

/-- ways from the other end -/
theorem Pt.cons {E : Int → Int → Int → Prop} {x y o : Int} {p : List Int} {c t : Int} (h : Pt E x p c t) (he : E y x o) (hy : y ∉ p) : Pt E y (y :: p) (o + c) t := by
  induction h with
  | one =>
    have : Pt E y ([y] ++ [x]) (0 + o) x := .step .one he (by simp at hy ⊢; exact fun e => hy e.symm)
    simpa using this
  | @step p c u v o' h he' hv ih =>
    have hyp : y ∉ p := fun hm => hy (List.mem_append_left _ hm)
    have hyv : v ≠ y := fun e => hy (by rw [e]; simp)
    have := Pt.step (ih hyp) he' (y := v) (by simp [hv, hyv])
    rw [← Int.add_assoc]
    exact this
theorem Pt.rev {E : Int → Int → Int → Prop} (hS : ∀ x y o, E x y o → E y x o) {s : Int} {p : List Int} {c t : Int} (h : Pt E s p c t) : Pt E t p.reverse c s := by
  induction h with
  | one => exact .one
  | @step p c x y o h he hy ih =>
    rw [List.reverse_append, List.reverse_singleton, List.singleton_append, Int.add_comm]
    exact Pt.cons ih (hS _ _ _ he) (by simpa using hy)
/-- a way's first step -/
theorem Pt.head {E : Int → Int → Int → Prop} {s : Int} {p : List Int} {c t : Int} (h : Pt E s p c t) : (p = [s] ∧ c = 0 ∧ t = s) ∨ ∃ y o c' q, p = s :: q ∧ E s y o ∧ c = o + c' ∧ Pt E y q c' t ∧ s ∉ q := by
  induction h with
  | one => exact .inl ⟨rfl, rfl, rfl⟩
  | @step p c x y o h he hy ih =>
    rcases ih with ⟨rfl, rfl, rfl⟩ | ⟨y1, o1, c1, q, rfl, he1, rfl, hq, hsq⟩
    · exact .inr ⟨y, o, 0, [y], rfl, he, by omega, .one, by simp at hy ⊢; exact fun e => hy e.symm⟩
    · simp only [List.mem_cons, not_or] at hy
      refine .inr ⟨y1, o1, c1 + o, q ++ [y], by simp, he1, by omega, .step hq he hy.2, ?_⟩
      simp only [List.mem_append, List.mem_singleton, not_or]
      exact ⟨hsq, fun e => hy.1 e.symm⟩
end Go.Proofs.Ytglfcaioapdiaaa.Bk
