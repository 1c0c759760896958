/-
  Numbers chosen by the bytes of an input: contracts of r8At and r8Wide.
-/
import Derived.Test.YtkogkkbiocejkaaMem
namespace Go.Proofs.Ytkogkkbiocejkaa.R8
open Go.RowKit Go.Proofs.Ytkogkkbiocejkaa.Mt Go.Proofs.Ytkogkkbiocejkaa.Wk Go.Proofs.Ytkogkkbiocejkaa.Mm

/-- what the frame tells of a []byte argument -/
def IsB (w : World) (a : Option Addr) (n cap : Nat) (z : List Int) : Prop :=
  (a = none ∧ n = 0 ∧ cap = 0 ∧ z = []) ∨
  ∃ x, a = some x ∧ n ≤ cap ∧ cap ≤ maxLen ∧ z.length = cap ∧ (∀ i, i < z.length → w.cell? (x.add i) = some (.int .u8 (z.getD i 0))) ∧ ∀ n ∈ z, (Lit.int .u8 n).wf = true

/-- the bytes of an input lie where they lay -/
def Bs (w : World) (hi : Nat) (a : Option Addr) (n : Nat) (z : List Int) : Prop :=
  ∀ k, k < n → ∃ b off u, a = some ⟨b, off, none⟩ ∧ b < hi ∧ w.cell? ⟨b, off + k, none⟩ = some (.int .u8 u) ∧ Hid (z.getD k 0 = u) ∧ 0 ≤ u ∧ u ≤ 255
theorem Bs.of {w : World} {a : Option Addr} {n cap : Nat} {z : List Int} (h : IsB w a n cap z) : Bs w w.heap.size a n z ∧ n ≤ maxLen := by
  rcases h with ⟨rfl, rfl, rfl, rfl⟩ | ⟨x, rfl, h1, h2, h3, h4, h5⟩
  · exact ⟨fun k hk => absurd hk (by omega), by simp [maxLen]⟩
  · refine ⟨fun k hk => ?_, by omega⟩
    obtain ⟨b, off, spot⟩ := x
    have hc := h4 0 (by omega)
    have hspot : spot = none := by simpa [Addr.add] using World.cell?_spot hc
    subst hspot
    refine ⟨b, off, z.getD k 0, rfl, block_lt_of_cell (by simpa [Addr.add] using hc), by rw [← Go.WideShapes.add_plain, h4 k (by omega)], rfl, ?_⟩
    have hm : z.getD k 0 ∈ z := by rw [List.getD_eq_getElem?_getD, List.getElem?_eq_getElem (by omega)]; exact List.getElem_mem _
    have := bounds_u8 (h5 _ hm)
    omega
theorem Bs.kept {w w' : World} {hi n : Nat} {a : Option Addr} {z : List Int} (h : Bs w hi a n z) (hb : Below hi w w') : Bs w' hi a n z := fun k hk => by
  obtain ⟨b, off, u, e, hlt, hc, hu, h0, h1⟩ := h k hk
  exact ⟨b, off, u, e, hlt, (hb.cell (p := ⟨b, off + k, none⟩) hlt).trans hc, hu, h0, h1⟩
def at8 (z : List Int) (len : Nat) (k n : Int) : Int := if n ≤ 1 then 0 else if (len : Int) ≤ k then 0 else z.getD k.toNat 0 % n
theorem at8_bd (z : List Int) (len : Nat) (k n : Int) (hn : 1 ≤ n) : 0 ≤ at8 z len k n ∧ at8 z len k n < n := by
  unfold at8
  split
  · omega
  · split
    · omega
    · exact ⟨Int.emod_nonneg _ (by omega), Int.emod_lt_of_pos _ (by omega)⟩
def wide8 (z : List Int) (len : Nat) (k n : Int) : Int := (256 * at8 z len k 256 + at8 z len (k + 1) 256) % n
theorem wide8_bd (z : List Int) (len : Nat) (k n : Int) (hn : 1 ≤ n) : 0 ≤ wide8 z len k n ∧ wide8 z len k n < n :=
  ⟨Int.emod_nonneg _ (by omega), Int.emod_lt_of_pos _ (by omega)⟩

set_option maxHeartbeats 400000 in
theorem r8At_any (a : Option Addr) (len cap hi : Nat) (z : List Int) (k n : Int) (w : World) (_hl : len ≤ maxLen) (hk : 0 ≤ k) (hB : Bs w hi a len z) :
    Calls Try.prog 24 #[.slice a len cap, .int .i64 k, .int .i64 n] w fun e w' => e = .returned (.int .i64 (at8 z len k n)) ∧ w = w' := by
  unfold maxLen at _hl
  by_cases h1 : n ≤ 1
  · have HV : Hid (at8 z len k n = 0) := by show _ = _; unfold at8; rw [if_pos h1]
    go_enter Try.func24, Try.ntmps24
    go_wp2
    go_ret
    exact ⟨ret_int HV.out.symm, rfl⟩
  · by_cases h2 : (len : Int) ≤ k
    · have HV : Hid (at8 z len k n = 0) := by show _ = _; unfold at8; rw [if_neg h1, if_pos h2]
      go_enter Try.func24, Try.ntmps24
      go_wp2
      go_ret
      exact ⟨ret_int HV.out.symm, rfl⟩
    · obtain ⟨j, rfl⟩ := Int.eq_ofNat_of_zero_le hk
      obtain ⟨b, off, u, rfl, hlt, hc, hu, u0, u1⟩ := hB j (by omega)
      have HV : Hid (at8 z len j n = u % n) := by show _ = _; unfold at8; rw [if_neg h1, if_neg h2, Int.toNat_natCast, hu.out]
      go_enter Try.func24, Try.ntmps24
      go_wp2
      go_ret
      exact ⟨ret_int HV.out.symm, rfl⟩

set_option maxHeartbeats 400000 in
theorem r8Wide_any (a : Option Addr) (len cap hi : Nat) (z : List Int) (k n : Int) (w : World) (hl : len ≤ maxLen) (hk : 0 ≤ k) (hk1 : k ≤ 1000000) (hn : 1 ≤ n) (hB : Bs w hi a len z) :
    Calls Try.prog 23 #[.slice a len cap, .int .i64 k, .int .i64 n] w fun e w' => e = .returned (.int .i64 (wide8 z len k n)) ∧ w = w' := by
  have b1 := at8_bd z len k 256 (by omega)
  have b2 := at8_bd z len (k + 1) 256 (by omega)
  go_enter Try.func23, Try.ntmps23
  go_wp2_with ((go_at_call 24; refine (r8At_any _ _ _ _ _ _ _ _ hl (by omega) hB).mono ?_; rintro e w' ⟨rfl, rfl⟩))
  go_ret
  exact ⟨rfl, rfl⟩

end Go.Proofs.Ytkogkkbiocejkaa.R8
