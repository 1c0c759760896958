/-
  Plain arithmetic of rounding and of the Erlang recursion: no program in sight.
-/
import Derived.WalkKit
namespace Go.Proofs.Ytkogkkbiocejkaa.Mt

/-- the nearest quotient, halves up, for numbers that are not negative -/
def rdiv (a b : Int) : Int := (2 * a + b) / (2 * b)

theorem rdiv_lo (a b : Int) (ha : 0 ≤ a) (hb : 1 ≤ b) : 0 ≤ rdiv a b := by
  unfold rdiv; exact Int.ediv_nonneg (by omega) (by omega)

/-- the quotient with its remainder decides -/
theorem rdiv_step (a b q r : Int) (hb : 1 ≤ b) (h : a = b * q + r) (h0 : 0 ≤ r) (h1 : r < b) :
    rdiv a b = if b - r ≤ r then q + 1 else q := by
  unfold rdiv
  have e : 2 * a + b = (2 * r + b) + q * (2 * b) := by subst h; rw [Int.mul_comm q (2 * b)]; rw [Int.mul_add, Int.mul_assoc]; omega
  rw [e, Int.add_mul_ediv_right _ _ (by omega)]
  split
  · have : (2 * r + b) / (2 * b) = 1 := by
      rw [Int.ediv_eq_iff_of_pos (by omega)]; constructor <;> omega
    omega
  · have : (2 * r + b) / (2 * b) = 0 := Int.ediv_eq_zero_of_lt (by omega) (by omega)
    omega

theorem rdiv_of (a b : Int) (hb : 1 ≤ b) : rdiv a b = if b - a % b ≤ a % b then a / b + 1 else a / b :=
  rdiv_step a b (a / b) (a % b) hb (Int.mul_ediv_add_emod a b).symm (Int.emod_nonneg _ (by omega)) (Int.emod_lt_of_pos _ (by omega))

theorem rdiv_mono (a a' b : Int) (hb : 1 ≤ b) (h : a ≤ a') : rdiv a b ≤ rdiv a' b := by
  unfold rdiv; exact Int.ediv_le_ediv (by omega) (by omega)

theorem rdiv_le_of (a b k : Int) (hb : 1 ≤ b) (h : 2 * a < b * (2 * k + 1)) : rdiv a b ≤ k := by
  unfold rdiv
  have : (2 * a + b) / (2 * b) < k + 1 := by
    rw [Int.ediv_lt_iff_lt_mul (by omega)]
    have e : (k + 1) * (2 * b) = b * (2 * k + 1) + b := by rw [Int.mul_add, Int.mul_one, Int.add_mul, Int.one_mul]; rw [show k * (2 * b) = b * (2 * k) from by rw [Int.mul_comm k, Int.mul_assoc, Int.mul_comm b (2 * k), Int.mul_assoc, Int.mul_comm b k]]; omega
    omega
  omega

theorem le_rdiv_of (a b k : Int) (hb : 1 ≤ b) (h : b * (2 * k - 1) ≤ 2 * a) : k ≤ rdiv a b := by
  unfold rdiv
  rw [Int.le_ediv_iff_mul_le (by omega)]
  have e : k * (2 * b) = b * (2 * k - 1) + b := by rw [Int.mul_sub, Int.mul_one]; rw [show k * (2 * b) = b * (2 * k) from by rw [Int.mul_comm k, Int.mul_assoc, Int.mul_comm b (2 * k), Int.mul_assoc, Int.mul_comm b k]]; omega
  omega

theorem rdiv_le_num (a b k : Int) (hb : 1 ≤ b) (h : a ≤ k * b) : rdiv a b ≤ k := by
  refine rdiv_le_of a b k hb ?_
  rw [Int.mul_add, Int.mul_one, show b * (2 * k) = 2 * (k * b) from by rw [Int.mul_left_comm, Int.mul_comm b k]]; omega

/-- a million -/
abbrev M : Int := 1000000

/-- the share for n channels by that for one less -/
def nxt (load n b : Int) : Int := rdiv (rdiv (load * b) 1000000 * 1000000) (n * 1000000 + rdiv (load * b) 1000000)

def erl (load : Int) : Nat → Int
  | 0 => 1000000
  | n + 1 => nxt load ((n : Int) + 1) (erl load n)

/-- what the walk needs of the first quotient -/
theorem offered (load b : Int) (h0 : 0 ≤ load) (h1 : load ≤ 200000000) (b0 : 0 ≤ b) (b1 : b ≤ 1000000) :
    0 ≤ load * b ∧ load * b ≤ 200000000000000 ∧ 0 ≤ rdiv (load * b) 1000000 ∧ rdiv (load * b) 1000000 ≤ load := by
  have p0 : 0 ≤ load * b := Int.mul_nonneg h0 b0
  have p1 : load * b ≤ load * 1000000 := Int.mul_le_mul_of_nonneg_left b1 h0
  have p2 : load * 1000000 ≤ 200000000 * 1000000 := Int.mul_le_mul_of_nonneg_right h1 (by omega)
  exact ⟨p0, by omega, rdiv_lo _ _ p0 (by omega), rdiv_le_num _ _ _ (by omega) p1⟩

theorem nxt_bd (load n b : Int) (h0 : 0 ≤ load) (h1 : load ≤ 200000000) (hn : 1 ≤ n) (b0 : 0 ≤ b) (b1 : b ≤ 1000000) :
    0 ≤ nxt load n b ∧ nxt load n b ≤ 1000000 := by
  obtain ⟨_, _, x0, x1⟩ := offered load b h0 h1 b0 b1
  unfold nxt
  generalize rdiv (load * b) 1000000 = x at *
  exact ⟨rdiv_lo _ _ (by omega) (by omega), rdiv_le_num _ _ _ (by omega) (by omega)⟩

theorem erl_bd (load : Int) (h0 : 0 ≤ load) (h1 : load ≤ 200000000) (n : Nat) : 0 ≤ erl load n ∧ erl load n ≤ 1000000 := by
  induction n with
  | zero => simp [erl]
  | succ n ih => exact nxt_bd load _ _ h0 h1 (by omega) ih.1 ih.2

/-- the first number of channels from n on, among k of them, that serves a grade; or none -/
def need (load grade : Int) : Nat → Nat → Option Nat
  | 0, _ => none
  | k + 1, n => if erl load n ≤ grade then some n else need load grade k (n + 1)

theorem need_some (load grade : Int) (k : Nat) : ∀ (n m : Nat), n ≤ m → m < n + k → (∀ i, n ≤ i → i < m → grade < erl load i) → erl load m ≤ grade → need load grade k n = some m := by
  induction k with
  | zero => intro n m h1 h2; omega
  | succ k ih =>
    intro n m h1 h2 h3 h4
    rw [need]
    by_cases e : n = m
    · subst e; rw [if_pos h4]
    · have := h3 n (by omega) (by omega)
      rw [if_neg (by omega)]
      exact ih (n + 1) m (by omega) (by omega) (fun i hi => h3 i (by omega)) h4

theorem need_none (load grade : Int) (k : Nat) : ∀ (n : Nat), (∀ i, n ≤ i → i < n + k → grade < erl load i) → need load grade k n = none := by
  induction k with
  | zero => intro n _; rfl
  | succ k ih =>
    intro n h3
    rw [need]
    have := h3 n (by omega) (by omega)
    rw [if_neg (by omega)]
    exact ih (n + 1) (fun i hi hj => h3 i (by omega) (by omega))

def chN (load grade : Int) : Int := match need load grade 201 0 with
  | some n => n
  | none => 200
def chOk (load grade : Int) : Bool := (need load grade 201 0).isSome

theorem ch_some (load grade : Int) (m : Nat) (h : m ≤ 200) (h3 : ∀ i, i < m → grade < erl load i) (h4 : erl load m ≤ grade) : chN load grade = m ∧ chOk load grade = true := by
  have e := need_some load grade 201 0 m (by omega) (by omega) (fun i _ hi => h3 i hi) h4
  simp [chN, chOk, e]
theorem ch_none (load grade : Int) (h3 : ∀ i, i ≤ 200 → grade < erl load i) : chN load grade = 200 ∧ chOk load grade = false := by
  have e := need_none load grade 201 0 (fun i _ hi => h3 i (by omega))
  simp [chN, chOk, e]

/-! ### the first place with a property, or -1 -/
def fstAt (p : Nat → Bool) : Nat → Nat → Option Nat
  | 0, _ => none
  | k + 1, n => if p n = true then some n else fstAt p k (n + 1)
theorem fstAt_some (p : Nat → Bool) (k : Nat) : ∀ (n m : Nat), n ≤ m → m < n + k → (∀ i, n ≤ i → i < m → p i = false) → p m = true → fstAt p k n = some m := by
  induction k with
  | zero => intro n m h1 h2; omega
  | succ k ih =>
    intro n m h1 h2 h3 h4
    rw [fstAt]
    by_cases e : n = m
    · subst e; rw [if_pos h4]
    · have := h3 n (by omega) (by omega)
      rw [if_neg (by simp [this])]
      exact ih (n + 1) m (by omega) (by omega) (fun i hi => h3 i (by omega)) h4
theorem fstAt_none (p : Nat → Bool) (k : Nat) : ∀ (n : Nat), (∀ i, n ≤ i → i < n + k → p i = false) → fstAt p k n = none := by
  induction k with
  | zero => intro n _; rfl
  | succ k ih =>
    intro n h3
    rw [fstAt]
    have := h3 n (by omega) (by omega)
    rw [if_neg (by simp [this])]
    exact ih (n + 1) (fun i hi hj => h3 i (by omega) (by omega))
def idx (p : Nat → Bool) (n : Nat) : Int := match fstAt p n 0 with
  | some i => (i : Int)
  | none => -1
theorem idx_some {p : Nat → Bool} {n k : Nat} (h : k < n) (h2 : ∀ i, i < k → p i = false) (h3 : p k = true) : idx p n = (k : Int) := by
  simp [idx, fstAt_some p n 0 k (by omega) (by omega) (fun i _ hi => h2 i hi) h3]
theorem idx_none {p : Nat → Bool} {n : Nat} (h2 : ∀ i, i < n → p i = false) : idx p n = -1 := by
  simp [idx, fstAt_none p n 0 (fun i _ hi => h2 i (by omega))]
theorem idx_cases (p : Nat → Bool) (n : Nat) : (∃ k, k < n ∧ (∀ i, i < k → p i = false) ∧ p k = true ∧ idx p n = (k : Int)) ∨ ((∀ i, i < n → p i = false) ∧ idx p n = -1) := by
  by_cases h : ∃ k, k < n ∧ p k = true
  · left
    obtain ⟨k, hk, hp⟩ := h
    induction k using Nat.strongRecOn with
    | ind k ih =>
      by_cases h2 : ∀ i, i < k → p i = false
      · exact ⟨k, hk, h2, hp, idx_some hk h2 hp⟩
      · simp only [Classical.not_forall] at h2
        obtain ⟨j, hj, hpj⟩ := h2
        exact ih j hj (by omega) (by simpa using hpj)
  · right
    have h2 : ∀ i, i < n → p i = false := fun i hi => by
      cases hp : p i
      · rfl
      · exact absurd ⟨i, hi, hp⟩ h
    exact ⟨h2, idx_none h2⟩

end Go.Proofs.Ytkogkkbiocejkaa.Mt
