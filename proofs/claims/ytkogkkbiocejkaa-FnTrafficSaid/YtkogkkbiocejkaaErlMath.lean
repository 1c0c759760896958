/-
  The plain law of FnErlang: no program in sight.
-/
import Derived.Test.YtkogkkbiocejkaaLoad
namespace Go.Proofs.Ytkogkkbiocejkaa.Em
open Go.Proofs.Ytkogkkbiocejkaa.Mt Go.Proofs.Ytkogkkbiocejkaa.Er Go.Proofs.Ytkogkkbiocejkaa.Lo

theorem half (load : Int) (n : Nat) (h0 : 0 ≤ load) (h1 : load ≤ 200000000) (h : load < ((n : Int) + 1) * 1000000) : erl load (n + 1) ≤ 500000 := by
  have hb := erl_bd load h0 h1 n
  obtain ⟨_, _, x0, x1⟩ := offered load (erl load n) h0 h1 hb.1 hb.2
  show nxt load ((n : Int) + 1) (erl load n) ≤ 500000
  unfold nxt
  generalize rdiv (load * erl load n) 1000000 = x at *
  apply rdiv_le_of _ _ _ (by omega)
  have e : ((((n : Int) + 1) * 1000000 + x)) * (2 * 500000 + 1) = 1000001 * (((n : Int) + 1) * 1000000 + x) := by rw [Int.mul_comm]; rfl
  rw [e]; omega

theorem wai_ge (ch load b : Int) (h0 : 0 ≤ load) (h1 : load ≤ 200000000) (hc : load < ch * 1000000) (b0 : 0 ≤ b) (b1 : b ≤ 1000000) :
    b ≤ rdiv (ch * 1000000 * b) (ch * 1000000 - load + rdiv (load * b) 1000000) := by
  obtain ⟨_, _, x0, x1⟩ := offered load b h0 h1 b0 b1
  generalize rdiv (load * b) 1000000 = r at *
  generalize ch * 1000000 = c at *
  apply le_rdiv_of _ _ _ (by omega)
  by_cases hb : b = 0
  · subst hb; simp; omega
  · have p : (c - load + r) * (2 * b - 1) ≤ c * (2 * b - 1) := Int.mul_le_mul_of_nonneg_right (by omega) (by omega)
    have q : c * (2 * b - 1) = 2 * (c * b) - c := by rw [Int.mul_sub, Int.mul_one, show c * (2 * b) = 2 * (c * b) from by rw [Int.mul_left_comm]]
    omega

theorem wai_le (ch load b : Int) (h0 : 0 ≤ load) (h1 : load ≤ 200000000) (hc : load + 1000 ≤ ch * 1000000) (b0 : 0 ≤ b) (b1 : b ≤ 500000) :
    rdiv (ch * 1000000 * b) (ch * 1000000 - load + rdiv (load * b) 1000000) ≤ 1000000 := by
  obtain ⟨_, _, x0, x1⟩ := offered load b h0 h1 b0 (by omega)
  have hr : 2 * (load * b) - 1000000 < 2000000 * rdiv (load * b) 1000000 := by
    unfold rdiv
    omega
  generalize rdiv (load * b) 1000000 = r at *
  generalize ch * 1000000 = c at *
  apply rdiv_le_of _ _ _ (by omega)
  have e : (c - load + r) * (2 * 1000000 + 1) = 2000001 * (c - load + r) := by rw [Int.mul_comm]; rfl
  have e2 : c * b = (c - load) * b + load * b := by rw [← Int.add_mul]; congr 1; omega
  have p : (c - load) * b ≤ (c - load) * 500000 := Int.mul_le_mul_of_nonneg_left b1 (by omega)
  rw [e, e2]; omega

theorem vC_of (L ch : Int) (l0 : 0 ≤ L) (l1 : L < 30000) (c0 : 0 ≤ ch) (c1 : ch < 40) :
    ∃ v, vC (1000 * L) ch = (v, 0) ∧ erl (1000 * L) ch.toNat ≤ v ∧ v ≤ 1000000 := by
  have hb := erl_bd (1000 * L) (by omega) (by omega) ch.toNat
  unfold vC
  rw [if_pos ⟨Wk.inB_mk (by omega) (by omega), Wk.inB_mk (by omega) (by omega)⟩]
  by_cases h : ch * 1000000 ≤ 1000 * L
  · exact ⟨1000000, by rw [if_pos h], hb.2, Int.le_refl _⟩
  · obtain ⟨n, hn⟩ : ∃ n : Nat, ch = (n : Int) + 1 := ⟨(ch - 1).toNat, by omega⟩
    have ht : ch.toNat = n + 1 := by omega
    have hh := half (1000 * L) n (by omega) (by omega) (by rw [← hn]; omega)
    rw [← ht] at hh
    refine ⟨wai (1000 * L) ch, by rw [if_neg h], ?_, ?_⟩
    · exact wai_ge ch (1000 * L) _ (by omega) (by omega) (by omega) hb.1 hb.2
    · exact wai_le ch (1000 * L) _ (by omega) (by omega) (by omega) hb.1 hh

theorem erl_200 : erl 30000000 200 ≤ 100 := by decide +kernel

theorem ch_of (L g : Int) (l0 : 0 ≤ L) (l1 : L < 30000) (hg : 100 ≤ g) :
    ∃ m : Nat, m ≤ 200 ∧ chN (1000 * L) g = m ∧ chOk (1000 * L) g = true ∧ erl (1000 * L) m ≤ g ∧ ∀ i, i < m → g < erl (1000 * L) i := by
  have h200 : erl (1000 * L) 200 ≤ g := by
    have := erl_mono (1000 * L) 30000000 (by omega) (by omega) (by omega) 200
    have := erl_200
    omega
  have hex : ∃ m : Nat, m ≤ 200 ∧ erl (1000 * L) m ≤ g ∧ ∀ i, i < m → g < erl (1000 * L) i := by
    rcases idx_cases (fun i => decide (erl (1000 * L) i ≤ g)) 201 with ⟨k, hk, h1, h2, _⟩ | ⟨h1, _⟩
    · exact ⟨k, by omega, by simpa using h2, fun i hi => by have := h1 i hi; simp at this; omega⟩
    · have := h1 200 (by omega)
      simp at this
      omega
  obtain ⟨m, hm, h1, h2⟩ := hex
  obtain ⟨e1, e2⟩ := ch_some (1000 * L) g m hm h2 h1
  exact ⟨m, hm, e1, e2, h1, h2⟩

theorem load_of (L g : Int) (m : Nat) (l0 : 0 ≤ L) (l1 : L < 30000) (hm : m ≤ 200) (hg0 : 0 ≤ g) (hg1 : g ≤ 1000000) (h : erl (1000 * L) m ≤ g) :
    ∃ k, Cut m g k ∧ ∃ most, vLF m g k = (most, 0) ∧ 1000 * L ≤ most ∧ most ≤ 200000000 ∧ erl most m ≤ g := by
  obtain ⟨k, hk⟩ := cut_some m g
  have hk1 : (1000 * L).toNat < k := by
    rcases Nat.lt_or_ge (1000 * L).toNat k with h1 | h1
    · exact h1
    · have := hk.high _ h1 (by omega)
      rw [Int.toNat_of_nonneg (by omega)] at this
      omega
  have := hk.top
  refine ⟨k, hk, (k : Int) - 1, ?_, by omega, by omega, ?_⟩
  · unfold vLF vLoad
    rw [if_pos ⟨Wk.inB_mk (by omega) (by omega), Wk.inB_mk hg0 hg1⟩, if_neg (by omega)]
  · have := hk.low (k - 1) (by omega)
    rw [show ((k - 1 : Nat) : Int) = (k : Int) - 1 from by omega] at this
    exact this

end Go.Proofs.Ytkogkkbiocejkaa.Em
