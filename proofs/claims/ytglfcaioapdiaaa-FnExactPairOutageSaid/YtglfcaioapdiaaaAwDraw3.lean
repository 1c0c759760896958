/-
  A region that draws its order: the rule.
-/
import Derived.Test.YtglfcaioapdiaaaAwDraw2
namespace Go.Proofs.Ytglfcaioapdiaaa.Aw
open Go Go.RowKit

section
variable {P : Program} {N : Nat} {l : List Oper} {bs ks : List Nat} {T : Tp} {H : Hp} {n n' : Nat} {ps : List PO}

structure Plan (P : Program) (N : Nat) (l : List Oper) (bs ks : List Nat) (T : Tp) (H : Hp) (n n' : Nat) (ps : List PO) : Prop where
  chk : chkB l bs ks = true
  len : ps.length = l.length
  rng : ∀ (j : Nat) (p : PO), ps[j]? = some p → n ≤ p.lo ∧ p.lo ≤ p.hi ∧ p.hi ≤ n'
  chain : ∀ (i j : Nat) (p q : PO), ps[i]? = some p → ps[j]? = some q → i < j → p.hi ≤ q.lo
  cov : ∀ x, n ≤ x → x < n' → ∃ (j : Nat) (p : PO), ps[j]? = some p ∧ p.lo ≤ x ∧ x < p.hi
  fact : ∀ (j : Nat) (o : Oper), l[j]? = some o → ∃ p, ps[j]? = some p ∧
    FactT P N l.toArray o (resT (o.looksAt l.toArray) (selT (fun _ => true) 0 (ps.take j) T)) (selH (depM bs ks j) 0 (ps.take j) H) (ks.getD j 0) (SameAt l.toArray ks H j) p
  keepR : KeepR l.toArray bs ks H ps
  old : ∀ i b, look H i = some b → i < n

def SL (n : Nat) (ps : List PO) (L : Nat → Bool) : Nat → Prop := fun x => x < n ∨ ∃ (j : Nat) (p : PO), ps[j]? = some p ∧ L j = true ∧ p.lo ≤ x ∧ x < p.hi

theorem Plan.disj (h : Plan P N l bs ks T H n n' ps) {i j : Nat} {p q : PO} {x : Nat} (hi : ps[i]? = some p) (hj : ps[j]? = some q) (h1 : p.lo ≤ x) (h2 : x < p.hi) (h3 : q.lo ≤ x) (h4 : x < q.hi) : i = j := by
  rcases Nat.lt_trichotomy i j with hlt | he | hgt
  · have := h.chain i j p q hi hj hlt; omega
  · exact he
  · have := h.chain j i q p hj hi hgt; omega

/-- what an operation's effect speaks of -/
theorem Plan.ment (h : Plan P N l bs ks T H n n' ps) {j : Nat} {p : PO} (hj : ps[j]? = some p) {id : Nat} (hm : lkE p.E id ≠ none) :
    ((ks.getD j 0 = 1 ∨ ks.getD j 0 = 3) ∧ p.lo ≤ id ∧ id < p.hi) ∨ (ks.getD j 0 = 2 ∧ ((look (selH (depM bs ks j) 0 (ps.take j) H) id).isSome = true ∨ (p.lo ≤ id ∧ id < p.hi))) := by
  have hlt : j < l.length := by rw [← h.len]; exact (List.getElem?_eq_some_iff.1 hj).1
  obtain ⟨q, hq, _, _, hf⟩ := h.fact j _ (List.getElem?_eq_getElem hlt)
  rw [hj] at hq
  simp only [Option.some.injEq] at hq
  subst hq
  rcases hf with ⟨_, _, _, _, _, _, _, _, _, _, he, _⟩ | ⟨_, ⟨_, he, _⟩ | ⟨hk, U, he, hu, _⟩ | ⟨hk, U, he, hu, _⟩ | ⟨hk, H', _, hin, _⟩⟩
  · rw [he] at hm; exact absurd rfl hm
  · rw [he] at hm; exact absurd rfl hm
  · rw [he, lkE_map] at hm
    cases hl : look U id with
    | none => rw [hl] at hm; exact absurd rfl hm
    | some b => exact .inl ⟨.inl hk, hu id b hl⟩
  · rw [he, lkE_map] at hm
    cases hl : look U id with
    | none => rw [hl] at hm; exact absurd rfl hm
    | some b => exact .inl ⟨.inr hk, hu id b hl⟩
  · cases hl : lkE p.E id with
    | none => exact absurd hl hm
    | some ob => exact .inr ⟨hk, hin id ob hl⟩

theorem depM_iff {i j : Nat} : depM bs ks i j = true ↔ Nat.testBit (bs.getD i 0) j = true ∧ 0 < ks.getD j 0 ∧ j < i := by
  simp [depM, Nat.blt_eq, and_assoc]

theorem Plan.trans (h : Plan P N l bs ks T H n n' ps) {i j k : Nat} (hi : i < l.length) (h1 : depM bs ks i j = true) (h2 : depM bs ks j k = true) : depM bs ks i k = true := by
  rw [depM_iff] at *
  obtain ⟨_, hc⟩ := chk_at h.chk (List.getElem?_eq_getElem hi)
  exact ⟨((hc j (by omega)).1 h1.1).2.2 k h2.1, h2.2.1, by omega⟩

/-- a new block is there only behind the operation that made it -/
theorem Plan.dom (h : Plan P N l bs ks T H n n' ps) {j : Nat} {p : PO} {id : Nat} (hj : ps[j]? = some p) (h1 : p.lo ≤ id) (h2 : id < p.hi) :
    ∀ i, i < l.length → look (selH (depM bs ks i) 0 (ps.take i) H) id ≠ none → depM bs ks i j = true := by
  intro i
  induction i using Nat.strongRecOn with
  | _ i ih =>
    intro hi hne
    cases hl : look (selH (depM bs ks i) 0 (ps.take i) H) id with
    | none => exact absurd hl hne
    | some b =>
      rcases selH_from _ _ _ hl with h0 | ⟨j', q, hq, hd, hm⟩
      · have := h.old id b h0
        have := h.rng j p hj
        omega
      · rw [Nat.zero_add] at hd
        have hlt : j' < i := (depM_iff.1 hd).2.2
        have hq' : ps[j']? = some q := by rw [List.getElem?_take, if_pos hlt] at hq; exact hq
        rcases h.ment hq' (id := id) (by rw [hm]; simp) with ⟨_, g1, g2⟩ | ⟨_, hin⟩
        · rw [h.disj hj hq' h1 h2 g1 g2]; exact hd
        · rcases hin with hin | ⟨g1, g2⟩
          · exact h.trans hi hd (ih j' hlt (by omega) (fun hn => by rw [hn] at hin; cases hin))
          · rw [h.disj hj hq' h1 h2 g1 g2]; exact hd

variable {L : Nat → Bool}
theorem Plan.noAfter (h : Plan P N l bs ks T H n n' ps) (hL : ClosedL l L) {i j : Nat} (hi : L i = false) (hj : L j = true) (hjl : j < l.length) (hil : i < l.length) : Nat.testBit (bs.getD j 0) i = false := by
  cases ht : Nat.testBit (bs.getD j 0) i with
  | false => rfl
  | true =>
    have := bef_in h.chk hL j _ (List.getElem?_eq_getElem hjl) (hL j _ (List.getElem?_eq_getElem hjl) hj) i hil ht
    rw [hi] at this
    cases this

/-- what an operation may read is there, whatever has come up -/
theorem Plan.incl (h : Plan P N l bs ks T H n n' ps) (hL : ClosedL l L) {i : Nat} {o : Oper} (hi : l[i]? = some o) (hLi : L i = false) (hre : ∀ e ∈ o.after, Region.binds .any e = true → L e.on = true) (hk : ks.getD i 0 = 1 ∨ ks.getD i 0 = 2)
    {id : Nat} {b : Blk} (hl : look (selH (depM bs ks i) 0 (ps.take i) H) id = some b) : look (selH L 0 ps H) id = some b := by
  have hil : i < l.length := (List.getElem?_eq_some_iff.1 hi).1
  rw [← selH_take ps H (fun j hj => (depM_iff.1 hj).2.2)] at hl
  rw [← hl]
  refine (selH_congr ps 0 H H rfl fun j q hq hm => ?_).symm
  rw [Nat.zero_add]
  have hjl : j < l.length := by rw [← h.len]; exact (List.getElem?_eq_some_iff.1 hq).1
  have hkj : 0 < ks.getD j 0 := by rcases h.ment hq hm with ⟨e, _⟩ | ⟨e, _⟩ <;> omega
  cases hD : depM bs ks i j with
  | true => exact (bef_in h.chk hL i o hi hre j hjl (depM_iff.1 hD).1).symm
  | false =>
    cases hLj : L j with
    | false => rfl
    | true =>
      exfalso
      have hij : i ≠ j := fun e => by rw [e, hLj] at hLi; cases hLi
      have hna := h.noAfter hL hLi hLj hjl hil
      have hnb : Nat.testBit (bs.getD i 0) j = false := by
        cases ht : Nat.testBit (bs.getD i 0) j with
        | false => rfl
        | true =>
          obtain ⟨_, hc⟩ := chk_at h.chk hi
          have := depM_iff.2 ⟨ht, hkj, ((hc j hjl).1 ht).1⟩
          rw [hD] at this
          cases this
      have hord : ordB bs j i = false := by simp only [ordB, hna, hnb, Bool.or_false]
      rcases h.ment hq hm with ⟨_, g1, g2⟩ | ⟨hk2, _⟩
      · have := h.dom hq g1 g2 i hil (by rw [← selH_take ps H (fun j hj => (depM_iff.1 hj).2.2), hl]; simp)
        rw [hD] at this
        cases this
      · obtain ⟨_, hc⟩ := chk_at h.chk (List.getElem?_eq_getElem hjl)
        have := (hc i hil).2.2 (fun e => hij e.symm) hord (by omega)
        omega

/-- behind an operation -/
theorem Plan.next (h : Plan P N l bs ks T H n n' ps) (hL : ClosedL l L) {i : Nat} {o : Oper} (hi : l[i]? = some o) (hLi : L i = false) {p : PO} (hp : ps[i]? = some p) {L' : Nat → Bool} (h1 : L' i = true) (h2 : ∀ j, j ≠ i → L' j = L j) (id : Nat) :
    look (selH L' 0 ps H) id = (lkE p.E id).getD (look (selH L 0 ps H) id) := by
  have hil : i < l.length := (List.getElem?_eq_some_iff.1 hi).1
  cases he : lkE p.E id with
  | none =>
    rw [Option.getD_none]
    refine selH_congr ps 0 H H rfl fun j q hq hm => ?_
    rw [Nat.zero_add]
    by_cases hj : j = i
    · subst hj
      rw [hp] at hq
      simp only [Option.some.injEq] at hq
      subst hq
      exact absurd he hm
    · exact h2 j hj
  | some ob =>
    rw [← he]
    refine selH_ins ps 0 H H rfl (Nat.zero_le _) (by simpa using hp) hLi h1 h2 fun j q hq hij hLj => ?_
    rw [Nat.zero_add] at hij hLj
    have hjl : j < l.length := by rw [← h.len]; exact (List.getElem?_eq_some_iff.1 hq).1
    cases hm : lkE q.E id with
    | none => rfl
    | some oq =>
      exfalso
      have hna := h.noAfter hL hLi hLj hjl hil
      have hnb : Nat.testBit (bs.getD i 0) j = false := by
        cases ht : Nat.testBit (bs.getD i 0) j with
        | false => rfl
        | true =>
          obtain ⟨_, hc⟩ := chk_at h.chk hi
          have := ((hc j hjl).1 ht).1
          omega
      have hord : ordB bs i j = false := by simp only [ordB, hna, hnb, Bool.or_false]
      have hkj : 0 < ks.getD j 0 := by rcases h.ment hq (id := id) (by rw [hm]; simp) with ⟨e, _⟩ | ⟨e, _⟩ <;> omega
      rcases h.ment hp (id := id) (by rw [he]; simp) with ⟨_, g1, g2⟩ | hk2
      · rcases h.ment hq (id := id) (by rw [hm]; simp) with ⟨_, q1, q2⟩ | ⟨_, hin⟩
        · have := h.disj hp hq g1 g2 q1 q2; omega
        · rcases hin with hin | ⟨q1, q2⟩
          · have := h.dom hp g1 g2 j hjl (fun hn => by rw [hn] at hin; cases hin)
            rw [(depM_iff.1 this).1] at hna
            cases hna
          · have := h.disj hp hq g1 g2 q1 q2; omega
      · obtain ⟨_, hc⟩ := chk_at h.chk hi
        have hj3 : ks.getD j 0 = 3 := by have := (hc j hjl).2.2 (by omega) hord hk2.1; omega
        rcases h.ment hq (id := id) (by rw [hm]; simp) with ⟨_, q1, q2⟩ | ⟨e2, _⟩
        · rcases hk2.2 with hin | ⟨g1, g2⟩
          · have := h.dom hq q1 q2 i hil (fun hn => by rw [hn] at hin; cases hin)
            rw [(depM_iff.1 this).1] at hnb
            cases hnb
          · have := h.disj hp hq g1 g2 q1 q2; omega
        · omega

/-- an operation that writes meets all that has come up -/
theorem Plan.incl2 (h : Plan P N l bs ks T H n n' ps) (hL : ClosedL l L) {i : Nat} {o : Oper} (hi : l[i]? = some o) (hLi : L i = false) (hre : ∀ e ∈ o.after, Region.binds .any e = true → L e.on = true) (hk : ks.getD i 0 = 2) {p : PO} (hp : ps[i]? = some p) (id : Nat) :
    look (selH L 0 ps H) id = look (selH (depM bs ks i) 0 (ps.take i) H) id ∨ (look (selH (depM bs ks i) 0 (ps.take i) H) id = none ∧ lkE p.E id = none) := by
  have hil : i < l.length := (List.getElem?_eq_some_iff.1 hi).1
  by_cases hex : ∃ j q, ps[j]? = some q ∧ L j = true ∧ depM bs ks i j = false ∧ ks.getD j 0 = 3 ∧ q.lo ≤ id ∧ id < q.hi
  · obtain ⟨j, q, hq, hLj, hD, hk3, q1, q2⟩ := hex
    have hd0 : look (selH (depM bs ks i) 0 (ps.take i) H) id = none := by
      cases hl : look (selH (depM bs ks i) 0 (ps.take i) H) id with
      | none => rfl
      | some b =>
        have := h.dom hq q1 q2 i hil (by rw [hl]; simp)
        rw [hD] at this
        cases this
    refine .inr ⟨hd0, ?_⟩
    cases hm : lkE p.E id with
    | none => rfl
    | some ob =>
      exfalso
      have hij : j ≠ i := fun e => by subst e; rw [hLi] at hLj; cases hLj
      rcases h.ment hp (id := id) (by rw [hm]; simp) with ⟨_, g1, g2⟩ | ⟨_, hin | ⟨g1, g2⟩⟩
      · exact hij (h.disj hq hp q1 q2 g1 g2)
      · rw [hd0] at hin; cases hin
      · exact hij (h.disj hq hp q1 q2 g1 g2)
  left
  rw [← selH_take ps H (fun j hj => (depM_iff.1 hj).2.2)]
  refine selH_congr ps 0 H H rfl fun j q hq hm => ?_
  rw [Nat.zero_add]
  have hjl : j < l.length := by rw [← h.len]; exact (List.getElem?_eq_some_iff.1 hq).1
  have hkj : 0 < ks.getD j 0 := by rcases h.ment hq hm with ⟨e, _⟩ | ⟨e, _⟩ <;> omega
  obtain ⟨_, hc⟩ := chk_at h.chk hi
  cases hD : depM bs ks i j with
  | true => exact bef_in h.chk hL i o hi hre j hjl (depM_iff.1 hD).1
  | false =>
    cases hLj : L j with
    | false => rfl
    | true =>
      exfalso
      have hij : i ≠ j := fun e => by rw [e, hLj] at hLi; cases hLi
      have hna := h.noAfter hL hLi hLj hjl hil
      have hnb : Nat.testBit (bs.getD i 0) j = false := by
        cases ht : Nat.testBit (bs.getD i 0) j with
        | false => rfl
        | true =>
          have := depM_iff.2 ⟨ht, hkj, ((hc j hjl).1 ht).1⟩
          rw [hD] at this
          cases this
      have hord : ordB bs i j = false := by simp only [ordB, hna, hnb, Bool.or_false]
      have h3 : ks.getD j 0 = 3 := by have := (hc j hjl).2.2 hij hord hk; omega
      rcases h.ment hq hm with ⟨_, g1, g2⟩ | ⟨hk2, _⟩
      · exact hex ⟨j, q, hq, hLj, hD, h3, g1, g2⟩
      · omega

/-- a temporary that an operation looks at reads as in the text's order -/
theorem Plan.tmp (h : Plan P N l bs ks T H n n' ps) (hL : ClosedL l L) {i : Nat} {o : Oper} (hi : l[i]? = some o) (hLi : L i = false) (hre : ∀ e ∈ o.after, Region.binds .any e = true → L e.on = true) {t : Nat} (k : Nat) (hk : k = i ∨ k = i + 1) {L' : Nat → Bool} (h1 : L' i = decide (i < k)) (h2 : ∀ j, j ≠ i → L' j = L j)
    (ht : (k = i ∧ t ∈ o.looksAt l.toArray) ∨ (k = i + 1 ∧ o.dst = some t)) : look (selT L' 0 ps T) t = look (selT (fun _ => true) 0 (ps.take k) T) t := by
  have hil : i < l.length := (List.getElem?_eq_some_iff.1 hi).1
  refine selT_take ps T t fun j q hq hd => ?_
  have hjl : j < l.length := by rw [← h.len]; exact (List.getElem?_eq_some_iff.1 hq).1
  by_cases hj : j = i
  · subst hj; exact h1
  · rw [h2 j hj]
    obtain ⟨_, hc⟩ := chk_at h.chk hi
    have hdo : (l[j]'hjl).dst = some t := by
      obtain ⟨q', hq', e, _⟩ := h.fact j _ (List.getElem?_eq_getElem hjl)
      rw [hq] at hq'
      simp only [Option.some.injEq] at hq'
      subst hq'
      rw [← e]; exact hd
    have hord : ordB bs i j = true := by
      cases ho : ordB bs i j with
      | true => rfl
      | false =>
        have := (hc j hjl).2.1 (fun e => hj e.symm) ho _ (List.getElem?_eq_getElem hjl) t hdo
        rcases ht with ⟨_, hm⟩ | ⟨_, hdst⟩
        · exact absurd hm this.1
        · exact absurd hdst this.2
    simp only [ordB, Bool.or_eq_true] at hord
    rcases hord with hb | hb
    · have hlt := ((hc j hjl).1 hb).1
      rw [bef_in h.chk hL i o hi hre j hjl hb]
      have : j < k := by omega
      simp [this]
    · obtain ⟨_, hc'⟩ := chk_at h.chk (List.getElem?_eq_getElem hjl)
      have hlt := ((hc' i hil).1 hb).1
      have : ¬ j < k := by omega
      simp only [this, decide_false]
      cases hLj : L j with
      | false => rfl
      | true => rw [h.noAfter hL hLi hLj hjl hil] at hb; cases hb
end
end Go.Proofs.Ytglfcaioapdiaaa.Aw
