/-
  Holdings: their order, their clashes; a licence in a list turned, added. No program in sight.
-/
import Derived.Test.YtiificaolakgdaaLmC
import Derived.Lib.Bytealg
namespace Go.Proofs.Ytiificaolakgdaa.Li
open Go Go.RowKit Go.Proofs.Ytiificaolakgdaa.Aw Go.Proofs.Ytiificaolakgdaa.Ar
set_option linter.unusedSimpArgs false
set_option linter.unusedVariables false

theorem bl_trans : ∀ (a b c : List UInt8), Op.bytesLess a b = true → Op.bytesLess b c = true → Op.bytesLess a c = true
  | _, [], _, h, _ => by simp [Op.bytesLess] at h
  | _, _ :: _, [], _, h => by simp [Op.bytesLess] at h
  | [], _ :: _, _ :: _, _, _ => rfl
  | x :: a, y :: b, z :: c, h1, h2 => by
    simp only [Op.bytesLess, Bool.or_eq_true, decide_eq_true_eq, Bool.and_eq_true, beq_iff_eq] at h1 h2 ⊢
    rcases h1 with h1 | ⟨rfl, h1⟩ <;> rcases h2 with h2 | ⟨rfl, h2⟩
    · exact .inl (UInt8.lt_trans h1 h2)
    · exact .inl h1
    · exact .inl h2
    · exact .inr ⟨rfl, bl_trans a b c h1 h2⟩
theorem ltS_trans {a b c : ByteArray} (h1 : ltS a b = true) (h2 : ltS b c = true) : ltS a c = true := bl_trans _ _ _ h1 h2
theorem ltS_irr (a : ByteArray) : ltS a a = false := bl_irrefl _
theorem ltS_asym {a b : ByteArray} (h : ltS a b = true) : ltS b a = false := by
  cases hb : ltS b a with
  | false => rfl
  | true => have := ltS_trans h hb; rw [ltS_irr] at this; cases this
/-- strings.Compare in the words of '<' -/
theorem cmp_neg : ∀ (a b : List UInt8), decide (Lib.compareBytes a b < 0) = Op.bytesLess a b
  | [], [] => rfl
  | [], _ :: _ => rfl
  | _ :: _, [] => rfl
  | x :: a, y :: b => by
    simp only [Lib.compareBytes, Op.bytesLess]
    by_cases h1 : x < y
    · simp [h1]
    · by_cases h2 : y < x
      · have h3 : ¬ x = y := fun e => by subst e; exact UInt8.lt_irrefl _ h2
        simp [h1, h2, h3]
      · have h3 : x = y := UInt8.le_antisymm (UInt8.not_lt.1 h2) (UInt8.not_lt.1 h1)
        subst h3
        simp only [h1, h2, if_false, decide_false, Bool.false_or, beq_self_eq_true, Bool.true_and]
        exact cmp_neg a b
theorem cmp_rng : ∀ (a b : List UInt8), -1 ≤ Lib.compareBytes a b ∧ Lib.compareBytes a b ≤ 1
  | [], [] => by simp [Lib.compareBytes]
  | [], _ :: _ => by simp [Lib.compareBytes]
  | _ :: _, [] => by simp [Lib.compareBytes]
  | x :: a, y :: b => by
    simp only [Lib.compareBytes]
    split
    · omega
    · split
      · omega
      · exact cmp_rng a b

theorem mx_comm (a b : Int) : mxI a b = mxI b a := by unfold mxI; split <;> split <;> omega
theorem mn_comm (a b : Int) : mnI a b = mnI b a := by unfold mnI; split <;> split <;> omega
theorem clB_comm (a b : Lic) : clB a b = clB b a := by
  unfold clB
  rw [mx_comm a.x, mx_comm a.y, mn_comm a.e, mn_comm a.n]
  simp only [Bool.and_assoc, Bool.and_comm, Bool.and_left_comm]

/-- holdings, in words of lists -/
structure HoldP (xs : List Lic) : Prop where
  n : xs.length ≤ 24
  ok : ∀ i (h : i < xs.length), licB xs[i] = true
  up : ∀ i (h : i + 1 < xs.length), ltS xs[i].id xs[i + 1].id = true
  cl : ∀ i k (h : i < xs.length) (hk : k < i), clB xs[i] xs[k] = false
theorem getD_lt {xs : List Lic} {i : Nat} (h : i < xs.length) : xs.getD i lz = xs[i] := by simp [List.getD, h]
theorem holdP_iff (xs : List Lic) : holdB xs = true ↔ HoldP xs := by
  constructor
  · intro h
    unfold holdB at h
    simp only [Bool.and_eq_true, decide_eq_true_eq, List.all_eq_true, List.mem_range] at h
    obtain ⟨hn, hg⟩ := h
    refine ⟨hn, fun i hi => ?_, fun i hi => ?_, fun i k hi hk => ?_⟩
    · have := good_lic (hg i hi); rwa [getD_lt hi] at this
    · have := hg (i + 1) hi
      unfold goodAt at this
      simp only [Bool.and_eq_true, Bool.or_eq_true, decide_eq_true_eq, Nat.add_sub_cancel] at this
      rw [getD_lt hi, getD_lt (by omega)] at this
      rcases this.1.2 with h | h
      · omega
      · exact h
    · have := hg i hi
      unfold goodAt at this
      simp only [Bool.and_eq_true, Bool.not_eq_true', List.any_eq_false] at this
      rw [getD_lt hi] at this
      have := this.2 xs[k] (List.mem_take_iff_getElem.2 ⟨k, by omega, rfl⟩)
      simpa using this
  · rintro ⟨hn, ho, hu, hc⟩
    unfold holdB
    simp only [Bool.and_eq_true, decide_eq_true_eq, List.all_eq_true, List.mem_range]
    refine ⟨hn, fun i hi => ?_⟩
    unfold goodAt
    simp only [Bool.and_eq_true, Bool.or_eq_true, decide_eq_true_eq, Bool.not_eq_true', List.any_eq_false]
    rw [getD_lt hi]
    refine ⟨⟨ho i hi, ?_⟩, fun y hy => ?_⟩
    · cases i with
      | zero => exact .inl rfl
      | succ i => right; rw [Nat.add_sub_cancel, getD_lt (by omega)]; exact hu i hi
    · obtain ⟨k, hk, rfl⟩ := List.mem_take_iff_getElem.1 hy
      have := hc i k hi (by omega)
      simpa using this
theorem HoldP.lt {xs : List Lic} (h : HoldP xs) : ∀ (d i : Nat) (hd : i + d + 1 < xs.length), ltS xs[i].id xs[i + d + 1].id = true
  | 0, i, hd => h.up i hd
  | d + 1, i, hd => ltS_trans (HoldP.lt h d i (by omega)) (h.up (i + d + 1) hd)
theorem HoldP.lt' {xs : List Lic} (h : HoldP xs) {i j : Nat} (hij : i < j) (hj : j < xs.length) : ltS xs[i].id xs[j].id = true := by
  have := h.lt (j - i - 1) i (by omega)
  simpa [show i + (j - i - 1) + 1 = j by omega] using this
theorem HoldP.clash {xs : List Lic} (h : HoldP xs) {i j : Nat} (hi : i < xs.length) (hj : j < xs.length) (hne : i ≠ j) : clB xs[i] xs[j] = false := by
  rcases Nat.lt_or_ge i j with h1 | h1
  · rw [clB_comm]; exact h.cl j i hj h1
  · exact h.cl i j hi (by omega)
/-- one licence turned, its id kept -/
theorem hold_set {xs : List Lic} (h : HoldP xs) {m : Nat} (hm : m < xs.length) (x : Lic) (hid : x.id = xs[m].id) (hx : licB x = true) : HoldP (xs.set m x) ↔ ∀ j (hj : j < xs.length), j ≠ m → clB xs[j] x = false := by
  have g : ∀ i (hi : i < (xs.set m x).length), (xs.set m x)[i] = if m = i then x else xs[i]'(by simpa using hi) := fun i hi => List.getElem_set hi
  constructor
  · intro h2 j hj hne
    have := h2.clash (i := j) (j := m) (by simpa using hj) (by simpa using hm) hne
    rw [g, g, if_neg (fun e => hne e.symm), if_pos rfl] at this
    exact this
  · intro hc
    refine ⟨by simpa using h.n, fun i hi => ?_, fun i hi => ?_, fun i k hi hk => ?_⟩
    · rw [g]; split
      · exact hx
      · exact h.ok i (by simpa using hi)
    · have hi' : i + 1 < xs.length := by simpa using hi
      have := h.up i hi'
      rw [g, g]
      by_cases e1 : m = i
      · subst e1; rw [if_pos rfl, if_neg (by omega), hid]; exact this
      · rw [if_neg e1]
        by_cases e2 : m = i + 1
        · subst e2; rw [if_pos rfl, hid]; exact this
        · rw [if_neg e2]; exact this
    · have hi' : i < xs.length := by simpa using hi
      rw [g, g]
      by_cases e1 : m = i
      · subst e1; rw [if_pos rfl, if_neg (by omega), clB_comm]; exact hc k (by omega) (by omega)
      · rw [if_neg e1]
        by_cases e2 : m = k
        · subst e2; rw [if_pos rfl]; exact hc i hi' (by omega)
        · rw [if_neg e2]; exact h.cl i k hi' hk
/-- where a licence is put -/
structure AtP (xs : List Lic) (x : Lic) (a : Nat) : Prop where
  le : a ≤ xs.length
  lo : ∀ j (h : j < xs.length), j < a → ltS xs[j].id x.id = true
  hi : ∀ j (h : j < xs.length), a ≤ j → ltS x.id xs[j].id = true
def insL (xs : List Lic) (a : Nat) (x : Lic) : List Lic := xs.take a ++ x :: xs.drop a
theorem insL_len {xs : List Lic} {a : Nat} (h : a ≤ xs.length) (x : Lic) : (insL xs a x).length = xs.length + 1 := by simp [insL]; omega
/-- without the one at m, and with another of its id, is turned at m -/
theorem ins_erase {xs : List Lic} {m : Nat} (hm : m < xs.length) (x : Lic) : insL (xs.eraseIdx m) m x = xs.set m x := by
  unfold insL
  rw [List.eraseIdx_eq_take_drop_succ, List.take_append_of_le_length (by simp; omega), List.take_of_length_le (by simp; omega), List.drop_append_of_le_length (by simp; omega), List.drop_of_length_le (by simp; omega), List.nil_append, List.set_eq_take_append_cons_drop, if_pos hm]
theorem at_erase {xs : List Lic} (h : HoldP xs) {m : Nat} (hm : m < xs.length) (x : Lic) (hid : x.id = xs[m].id) : AtP (xs.eraseIdx m) x m := by
  have hl : (xs.eraseIdx m).length = xs.length - 1 := by rw [List.length_eraseIdx, if_pos hm]
  refine ⟨by omega, fun j hj hjm => ?_, fun j hj hjm => ?_⟩
  · rw [List.getElem_eraseIdx, dif_pos hjm, hid]; exact h.lt' hjm hm
  · rw [List.getElem_eraseIdx, dif_neg (by omega), hid]; exact h.lt' (by omega) (by omega)
/-- where there is none of its id there is a place -/
theorem at_ex {xs : List Lic} (h : HoldP xs) (x : Lic) (hn : ∀ j (hj : j < xs.length), eqS xs[j].id x.id = false) : ∃ a, AtP xs x a := by
  have key : ∀ n, n ≤ xs.length → ∃ a, a ≤ n ∧ (∀ j (hj : j < xs.length), j < a → ltS xs[j].id x.id = true) ∧ ∀ j (hj : j < xs.length), a ≤ j → j < n → ltS x.id xs[j].id = true := by
    intro n
    induction n with
    | zero => exact fun _ => ⟨0, Nat.le_refl _, fun j hj h => absurd h (Nat.not_lt_zero _), fun j hj h1 h2 => absurd h2 (Nat.not_lt_zero _)⟩
    | succ n ih =>
      intro hle
      obtain ⟨a, h1, h2, h3⟩ := ih (by omega)
      have hn' := hn n (by omega)
      have hle' := ltS_le xs[n].id x.id
      rw [hn', Bool.or_false] at hle'
      cases hc : ltS xs[n].id x.id with
      | true =>
        refine ⟨n + 1, Nat.le_refl _, fun j hj hjn => ?_, fun j hj h4 h5 => by omega⟩
        rcases Nat.lt_or_ge j n with h6 | h6
        · exact ltS_trans (h.lt' h6 (by omega)) hc
        · have : j = n := by omega
          subst this; exact hc
      | false =>
        rw [hc] at hle'
        have hgt : ltS x.id xs[n].id = true := by cases hx : ltS x.id xs[n].id; · rw [hx] at hle'; cases hle'
                                                  · rfl
        refine ⟨a, by omega, h2, fun j hj h4 h5 => ?_⟩
        rcases Nat.lt_or_ge j n with h6 | h6
        · exact h3 j hj h4 h6
        · have : j = n := by omega
          subst this; exact hgt
  obtain ⟨a, h1, h2, h3⟩ := key xs.length (Nat.le_refl _)
  exact ⟨a, h1, h2, fun j hj h => h3 j hj h hj⟩
/-- the place does not turn where one of the list is turned and keeps its id -/
theorem at_set {xs : List Lic} {x y : Lic} {a m : Nat} (h : AtP xs x a) (hm : m < xs.length) (hid : y.id = xs[m].id) : AtP (xs.set m y) x a := by
  have g : ∀ i (hi : i < (xs.set m y).length), (xs.set m y)[i].id = (xs[i]'(by simpa using hi)).id := fun i hi => by
    rw [List.getElem_set]; split
    · rename_i e; subst e; exact hid
    · rfl
  refine ⟨by simpa using h.le, fun j hj hja => ?_, fun j hj hja => ?_⟩
  · rw [g]; exact h.lo j (by simpa using hj) hja
  · rw [g]; exact h.hi j (by simpa using hj) hja
end Go.Proofs.Ytiificaolakgdaa.Li
