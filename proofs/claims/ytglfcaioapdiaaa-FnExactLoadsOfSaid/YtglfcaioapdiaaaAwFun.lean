/-
  Loops by states, and functions: their beginning and their end.
-/
import Derived.Test.YtglfcaioapdiaaaAwCode
import Derived.Test.YtglfcaioapdiaaaAwOps7
namespace Go.Proofs.Ytglfcaioapdiaaa.Aw
open Go Go.RowKit

mutual
def renA (ρ : Nat → Nat) : AV → AV
  | .ptr id r c => .ptr (ρ id) r c
  | .sl id r l => .sl (ρ id) r l
  | .sx id r l c => .sx (ρ id) r l c
  | .agg cs => .agg (renL ρ cs)
  | .tup cs => .tup (renL ρ cs)
  | .fn f cs => .fn f (renL ρ cs)
  | .v x => .v x
  | .dsl s rows => .dsl s rows
  | .dptr cs => .dptr cs
  | .om id D => .om (ρ id) D
  | .emp => .emp
def renL (ρ : Nat → Nat) : List AV → List AV
  | [] => []
  | x :: xs => renA ρ x :: renL ρ xs
end
mutual
def idsOk (n : Nat) : AV → Bool
  | .ptr id _ _ => Nat.blt id n
  | .sl id _ _ => Nat.blt id n
  | .sx id _ _ _ => Nat.blt id n
  | .om id _ => Nat.blt id n
  | .agg cs => idsOkL n cs
  | .tup cs => idsOkL n cs
  | .fn _ cs => idsOkL n cs
  | _ => true
def idsOkL (n : Nat) : List AV → Bool
  | [] => true
  | x :: xs => idsOk n x && idsOkL n xs
end
theorem renL_get (ρ : Nat → Nat) : ∀ (l : List AV) (j : Nat), (renL ρ l)[j]? = (l[j]?).map (renA ρ)
  | [], j => by simp [renL]
  | x :: l, 0 => by simp [renL]
  | x :: l, j + 1 => by simp [renL, renL_get ρ l j]
theorem renL_len (ρ : Nat → Nat) : ∀ (l : List AV), (renL ρ l).length = l.length
  | [] => by simp [renL]
  | x :: l => by simp [renL, renL_len ρ l]
theorem idsOkL_get {n : Nat} : ∀ {l : List AV} {j : Nat} {v : AV}, idsOkL n l = true → l[j]? = some v → idsOk n v = true
  | [], j, v, _, h => by simp at h
  | x :: l, 0, v, h, h2 => by simp [idsOkL] at h; simp at h2; subst h2; exact h.1
  | x :: l, j + 1, v, h, h2 => by simp [idsOkL] at h; simp at h2; exact idsOkL_get h.2 h2

section
variable {K : Nat → Prop} {w : World} {m : Nat → Loc} {S : Nat → Prop}
theorem VR.ren {u : AV} {x : Value} (h : VR K w m S u x) (ρ : Nat → Nat) (n' : Nat) : ∀ v, renA ρ v = u → idsOk n' v = true → VR K w (fun i => m (ρ i)) (fun i => i < n') v x := by
  have none : ∀ {v : AV} {x : Value}, VR K w m NoS v x → VR K w (fun i => m (ρ i)) NoS v x := fun h => h.mono (fun _ h => h) (fun _ _ => rfl) (fun _ h => h) (fun _ h => h.elim)
  induction h with
  | v S x => intro v hv hi; cases v <;> simp only [renA] at hv <;> cases hv; exact .v _ _
  | dsl0 S size a c => intro v hv hi; cases v <;> simp only [renA] at hv <;> cases hv; exact .dsl0 _ _ _ _
  | dsl S size rows n b o c xs hn hc hk hl hx hv ih =>
    intro v hvv hi; cases v <;> simp only [renA] at hvv <;> cases hvv
    exact .dsl _ _ _ n b o c xs hn hc hk hl hx (fun r row j cv h1 h2 => none (hv r row j cv h1 h2))
  | dptr S cells b o xs hk hx hv ih =>
    intro v hvv hi; cases v <;> simp only [renA] at hvv <;> cases hvv
    exact .dptr _ _ b o xs hk hx (fun j cv h1 => none (hv j cv h1))
  | om S id D es c b hs hp hq hb hk ho hD =>
    intro v hvv hi; cases v <;> simp only [renA] at hvv <;> cases hvv
    exact .om (m := fun i => m (ρ i)) _ _ _ es c b (by simpa [idsOk, Nat.blt_eq] using hi) hp hq hb hk ho hD
  | emp S a => intro v hv hi; cases v <;> simp only [renA] at hv <;> cases hv; exact .emp _ _
  | ptr S id row col o hs ho =>
    intro v hvv hi; cases v <;> simp only [renA] at hvv <;> cases hvv
    exact .ptr (m := fun i => m (ρ i)) _ _ _ _ o (by simpa [idsOk, Nat.blt_eq] using hi) ho
  | sl S id row len o c hs hp ho hc =>
    intro v hvv hi; cases v <;> simp only [renA] at hvv <;> cases hvv
    exact .sl (m := fun i => m (ρ i)) _ _ _ _ o c (by simpa [idsOk, Nat.blt_eq] using hi) hp ho hc
  | sl0 S id row ad hs =>
    intro v hvv hi; cases v <;> simp only [renA] at hvv <;> cases hvv
    exact .sl0 (m := fun i => m (ρ i)) _ _ _ _ (by simpa [idsOk, Nat.blt_eq] using hi)
  | sx S id row len cap o c hs hp ho hcap hc =>
    intro v hvv hi; cases v <;> simp only [renA] at hvv <;> cases hvv
    exact .sx (m := fun i => m (ρ i)) _ _ _ _ _ o c (by simpa [idsOk, Nat.blt_eq] using hi) hp ho hcap hc
  | agg S cs xs hl hv ih =>
    intro v hvv hi; cases v <;> simp only [renA] at hvv <;> cases hvv
    rename_i cs
    simp only [idsOk] at hi
    refine .agg _ _ _ (by rw [hl, renL_len]) fun j cv y h1 h2 => ih j (renA ρ cv) y (by rw [renL_get, h1]; rfl) h2 cv rfl (idsOkL_get hi h1)
  | tup S cs xs hl hv ih =>
    intro v hvv hi; cases v <;> simp only [renA] at hvv <;> cases hvv
    rename_i cs
    simp only [idsOk] at hi
    refine .tup _ _ _ (by rw [hl, renL_len]) fun j cv y h1 h2 => ih j (renA ρ cv) y (by rw [renL_get, h1]; rfl) h2 cv rfl (idsOkL_get hi h1)
  | fn S f cs xs hl hv ih =>
    intro v hvv hi; cases v <;> simp only [renA] at hvv <;> cases hvv
    rename_i cs
    simp only [idsOk] at hi
    refine .fn _ _ _ _ (by rw [hl, renL_len]) fun j cv y h1 h2 => ih j (renA ρ cv) y (by rw [renL_get, h1]; rfl) h2 cv rfl (idsOkL_get hi h1)
end

def renB (ρ : Nat → Nat) (b : Blk) : Blk := { b with rows := match b.pl with
  | true => b.rows
  | false => b.rows.map (renL ρ) }
def idsOkB (n : Nat) (b : Blk) : Bool := match b.pl with
  | true => true
  | false => b.rows.all (idsOkL n)
def subT (T : Tp) (ρ : Nat → Nat) (n' : Nat) : Tp → Prop
  | [] => True
  | (t, v) :: T' => (look T t = some (renA ρ v) ∧ idsOk n' v = true) ∧ subT T ρ n' T'
def subH (H : Hp) (ρ : Nat → Nat) (n' : Nat) : Hp → Prop
  | [] => True
  | (i, b) :: H' => (look H (ρ i) = some (renB ρ b) ∧ idsOkB n' b = true ∧ Nat.blt i n' = true) ∧ subH H ρ n' H'
def injB (ρ : Nat → Nat) : List Nat → Bool
  | [] => true
  | i :: l => l.all (fun j => Nat.beq i j || !Nat.beq (ρ i) (ρ j)) && injB ρ l
/-- the blocks that the run was given keep their names -/
def PinOk (g : Nat) (ρ : Nat → Nat) (n' : Nat) : Prop := ∀ i, i < g → ρ i = i ∧ i < n'
theorem pin_0 {ρ : Nat → Nat} {n' : Nat} : PinOk 0 ρ n' := fun _ h => absurd h (Nat.not_lt_zero _)
theorem pin_id {g n' : Nat} (h : g ≤ n') : PinOk g (fun i => i) n' := fun _ hi => ⟨rfl, Nat.lt_of_lt_of_le hi h⟩
structure Sub (g : Nat) (T : Tp) (H : Hp) (ρ : Nat → Nat) (T' : Tp) (H' : Hp) (n' : Nat) : Prop where
  t : subT T ρ n' T'
  h : subH H ρ n' H'
  i : injB ρ (H'.map (·.1)) = true
  p : PinOk g ρ n'

theorem subT_get {T : Tp} {ρ : Nat → Nat} {n' : Nat} : ∀ {T' : Tp} {t : Nat} {v : AV}, subT T ρ n' T' → look T' t = some v → look T t = some (renA ρ v) ∧ idsOk n' v = true
  | [], t, v, _, h => by simp [look_nil] at h
  | (u, x) :: T', t, v, hs, h => by
    rw [look_cons] at h
    split at h
    · rename_i he; subst he; simp only [Option.some.injEq] at h; subst h; exact hs.1
    · exact subT_get hs.2 h
theorem subH_get {H : Hp} {ρ : Nat → Nat} {n' : Nat} : ∀ {H' : Hp} {i : Nat} {b : Blk}, subH H ρ n' H' → look H' i = some b → look H (ρ i) = some (renB ρ b) ∧ idsOkB n' b = true ∧ i < n'
  | [], i, b, _, h => by simp [look_nil] at h
  | (u, x) :: H', i, b, hs, h => by
    rw [look_cons] at h
    split at h
    · rename_i he; subst he; simp only [Option.some.injEq] at h; subst h; exact ⟨hs.1.1, hs.1.2.1, by simpa [Nat.blt_eq] using hs.1.2.2⟩
    · exact subH_get hs.2 h
theorem look_mem {β : Type} : ∀ {l : List (Nat × β)} {i : Nat} {b : β}, look l i = some b → i ∈ l.map (·.1)
  | [], i, b, h => by simp [look_nil] at h
  | (u, x) :: l, i, b, h => by
    rw [look_cons] at h
    split at h
    · rename_i he; subst he; simp
    · exact List.mem_cons_of_mem _ (look_mem h)
theorem injB_spec {ρ : Nat → Nat} : ∀ {l : List Nat}, injB ρ l = true → ∀ i j, i ∈ l → j ∈ l → i ≠ j → ρ i ≠ ρ j
  | [], _, i, j, hi, _, _ => by cases hi
  | k :: l, h, i, j, hi, hj, hne => by
    simp only [injB, Bool.and_eq_true, List.all_eq_true] at h
    have key : ∀ j, j ∈ l → k ≠ j → ρ k ≠ ρ j := fun j hj hne he => by
      have := h.1 j hj
      have h1 : Nat.beq k j = false := by
        cases hb : Nat.beq k j
        · rfl
        · exact absurd (Nat.eq_of_beq_eq_true hb) hne
      rw [h1, he, Nat.beq_refl] at this
      simp at this
    rcases List.mem_cons.1 hi with e1 | e1
    · rcases List.mem_cons.1 hj with e2 | e2
      · exact absurd (e1.trans e2.symm) hne
      · rw [e1] at hne ⊢; exact key j e2 hne
    · rcases List.mem_cons.1 hj with e2 | e2
      · rw [e2] at hne ⊢; exact fun he => key i e1 (fun e => hne e.symm) he.symm
      · exact injB_spec h.2 i j e1 e2 hne

section
variable {P : Program} {Old : Nat → Prop} {wi : WI} {K : Nat → Prop} {m : Nat → Loc} {H H' : Hp} {w : World} {N n n' g : Nat} {T T' : Tp} {a : Act} {ρ : Nat → Nat} {Q : Exit → Tp → Hp → Nat → Prop}

theorem weak (hp : ∀ i l, wi.pin i = some l → i < g) (hr : Rel Old wi K m (fun i => i < n) H w) (ht : TRel K w m (fun i => i < n) N T a) (hs : Sub g T H ρ T' H' n') :
    Rel Old wi K (fun i => m (ρ i)) (fun i => i < n') H' w ∧ TRel K w (fun i => m (ρ i)) (fun i => i < n') N T' a := by
  refine ⟨{ os := hr.os, tape := hr.tape, output := hr.output, size := hr.size, old := hr.old, olt := hr.olt, oown := fun i b hl => hr.oown _ _ (subH_get hs.h hl).1, om := fun i b hl hp hq => hr.om (ρ i) (renB ρ b) (subH_get hs.h hl).1 hp hq, kb := hr.kb, pin := fun i l hi => by rw [(hs.p i (hp i l hi)).1]; exact hr.pin i l hi, pinS := fun i l hi => (hs.p i (hp i l hi)).2, inS := fun i b hl => (subH_get hs.h hl).2.2, own := fun i b hl => ?_, inj := fun i j bi bj hi hj hne => hr.inj _ _ _ _ (subH_get hs.h hi).1 (subH_get hs.h hj).1 (injB_spec hs.i i j (look_mem hi) (look_mem hj) hne) }, ht.dn, ht.sz, fun t v hl => ?_⟩
  · obtain ⟨h1, h2, h3⟩ := subH_get hs.h hl
    rcases hr.own _ _ h1 with ⟨p1, p2⟩ | ⟨hph, hb⟩
    · refine .inl ⟨p1, ?_⟩
      cases hp : b.pl with
      | true => have e : renB ρ b = b := by cases b; simp only at hp; subst hp; rfl
                rw [e] at p2; exact p2
      | false => have e : renB ρ b = { b with rows := b.rows.map (renL ρ) } := by cases b; simp only at hp; subst hp; rfl
                 rw [e] at p2; simpa using p2
    refine .inr ⟨hph, ?_⟩
    obtain ⟨cur, c1, c2, c3⟩ := hb.ex
    cases hp : b.pl with
    | true =>
      have e : renB ρ b = b := by cases b; simp only at hp; subst hp; rfl
      rw [e] at hb c1 c2 c3
      refine ⟨hb.nk, hb.sz, hb.cap, hb.capm, hb.plv, cur, c1, c2, fun r row hrow => ⟨(c3 r row hrow).1, fun j cv hj => ?_⟩⟩
      obtain ⟨x, hx, hone, hv⟩ := (c3 r row hrow).2 j cv hj
      exact ⟨x, hx, hone, hv.mono (fun _ h => h) (fun _ _ => rfl) (fun i hi => absurd hi.2 (by simp [hp])) (fun i hi => absurd hi.2 (by simp [hp]))⟩
    | false =>
      have e : renB ρ b = { b with rows := b.rows.map (renL ρ) } := by cases b; simp only at hp; subst hp; rfl
      rw [e] at hb c1 c2 c3
      have hcap := hb.cap
      simp only [List.length_map] at hcap
      refine ⟨hb.nk, hb.sz, hcap, hb.capm, fun hc => absurd hc (by simp [hp]), cur, c1, c2, fun r row hrow => ?_⟩
      obtain ⟨g1, g2⟩ := c3 r (renL ρ row) (by simp [hrow])
      rw [renL_len] at g1
      refine ⟨g1, fun j cv hj => ?_⟩
      obtain ⟨x, hx, hone, hv⟩ := g2 j (renA ρ cv) (by rw [renL_get, hj]; rfl)
      refine ⟨x, hx, hone, (hv.ren ρ n' cv rfl ?_).mono (fun _ h => h) (fun _ _ => rfl) (fun i hi => ⟨hi, hp⟩) (fun _ _ => rfl)⟩
      unfold idsOkB at h2
      rw [hp] at h2
      exact idsOkL_get (List.all_eq_true.1 h2 row (List.mem_of_getElem? hrow)) hj
  · obtain ⟨h1, h2⟩ := subT_get hs.t hl
    exact (ht.tm t _ h1).ren ρ n' v rfl h2

theorem aw_weak {c : Code} (hs : Sub g T H ρ T' H' n') (h : AW P N g c Q T' H' n') : AW P N g c Q T H n := fun Old wi K _ a w hp hr ht =>
  let ⟨h1, h2⟩ := weak hp hr ht hs
  h Old wi K _ a w hp h1 h2

/-- a nil slice as a block that is not there yet -/
theorem aw_nil {c : Code} {t : Nat} (ty sz : Nat) (h : look T t = some (.v (.slice none 0 0))) (hc : AW P N g c Q ((t, .sl n 0 0) :: T) ((n, ⟨ty, sz, true, []⟩) :: H) (n + 1)) : AW P N g c Q T H n := fun Old wi K m a w hp hr ht => by
  have hns : ¬ (fun i => i < n) n := Nat.lt_irrefl _
  have e : addS (fun i => i < n) n (n + 1) = fun i => i < n + 1 := addS_lt (Nat.le_succ _)
  have hr' := hr.phantom hns ty sz true
  rw [e] at hr'
  refine hc Old wi K _ a w hp hr' ⟨ht.dn, ht.sz, fun u av hl => ?_⟩
  rw [look_cons] at hl
  split at hl
  · rename_i hu
    subst hu
    simp only [Option.some.injEq] at hl
    subst hl
    have hv := ht.tm t _ h
    generalize a.tmps.getD t undef = x at hv
    cases hv
    exact .sl0 _ _ _ _ (Nat.lt_succ_self n)
  · exact (ht.tm u av hl).mono (fun _ h => h) (fun _ _ => rfl) (fun i hi => Nat.lt_succ_of_lt hi) (fun i hi => updL_ne _ _ (Nat.ne_of_lt hi))

/-- a loop: the states at its head, each with a number that falls -/
theorem aw_loop {ι : Type} {c : Code} (st : ι → Tp × Hp × Nat) (Inv : ι → Prop) (μ : ι → Nat) (i₀ : ι) (h₀ : Inv i₀) (hs : Sub g T H ρ (st i₀).1 (st i₀).2.1 (st i₀).2.2)
    (round : ∀ i, Inv i → AW P N g c (Thn (fun T H _ => ∃ j ρ, Inv j ∧ μ j < μ i ∧ Sub g T H ρ (st j).1 (st j).2.1 (st j).2.2) Q) (st i).1 (st i).2.1 (st i).2.2) : AW P N g (.loop c) Q T H n := by
  intro Old wi K m a w hp hr ht
  obtain ⟨h1, h2⟩ := weak hp hr ht hs
  refine wp_loop_ix (fun k a w => ∃ i m K', GK Old K K' ∧ Inv i ∧ μ i = k ∧ Rel Old wi K' m (fun x => x < (st i).2.2) (st i).2.1 w ∧ TRel K' w m (fun x => x < (st i).2.2) N (st i).1 a) (μ i₀) ⟨i₀, _, K, GK.refl _ _, h₀, rfl, h1, h2⟩ ?_
  rintro k a w ⟨i, m, K1, g1, hi, rfl, hr, ht⟩
  refine Go.wp_mono (round i hi Old wi K1 m a w hp hr ht) fun e a' w' ⟨T', H', n', m', K2, g2, q, r, t⟩ => ?_
  cases e with
  | normal =>
    obtain ⟨j, ρ, hj, hlt, hsub⟩ := q
    obtain ⟨e1, e2⟩ := weak hp r t hsub
    exact ⟨μ j, hlt, j, _, K2, g1.trans g2, hj, rfl, e1, e2⟩
  | exit id => exact ⟨T', H', n', m', K2, g1.trans g2, q, r, t⟩
  | goto l => exact ⟨T', H', n', m', K2, g1.trans g2, q, r, t⟩
  | ret => exact ⟨T', H', n', m', K2, g1.trans g2, q, r, t⟩
  | panic ch => exact ⟨T', H', n', m', K2, g1.trans g2, q, r, t⟩
  | outgrown => exact ⟨T', H', n', m', K2, g1.trans g2, q, r, t⟩
end

end Go.Proofs.Ytglfcaioapdiaaa.Aw
