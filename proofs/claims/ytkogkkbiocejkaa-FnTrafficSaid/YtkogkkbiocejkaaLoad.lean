/-
  LoadFor: the program's search and the reference's give the same load.
-/
import Derived.Test.YtkogkkbiocejkaaErl2
import Derived.Test.YtkogkkbiocejkaaMem
namespace Go.Proofs.Ytkogkkbiocejkaa.Lo
open Go.RowKit Go.Proofs.Ytkogkkbiocejkaa.Mt Go.Proofs.Ytkogkkbiocejkaa.Wk Go.Proofs.Ytkogkkbiocejkaa.Mm Go.Proofs.Ytkogkkbiocejkaa.Er

/-! ### rounding is monotone -/
theorem rdiv_cross (a b a' b' : Int) (hb : 1 ≤ b) (hb' : 1 ≤ b') (h : a * b' ≤ a' * b) : rdiv a b ≤ rdiv a' b' := by
  have h1 : rdiv a b * (2 * b) ≤ 2 * a + b := by unfold rdiv; exact Int.ediv_mul_le _ (by omega)
  apply le_rdiv_of a' b' (rdiv a b) hb'
  generalize rdiv a b = k at *
  have h2 : b * (2 * k - 1) ≤ 2 * a := by
    have e : k * (2 * b) = b * (2 * k - 1) + b := by rw [Int.mul_sub, Int.mul_one]; rw [show k * (2 * b) = b * (2 * k) from by rw [Int.mul_comm k, Int.mul_assoc, Int.mul_comm b (2 * k), Int.mul_assoc, Int.mul_comm b k]]; omega
    omega
  have h3 : b * (2 * k - 1) * b' ≤ 2 * a * b' := Int.mul_le_mul_of_nonneg_right h2 (by omega)
  have h4 : 2 * a * b' = 2 * (a * b') := Int.mul_assoc _ _ _
  have h5 : b * (2 * k - 1) * b' = b * (b' * (2 * k - 1)) := by rw [Int.mul_assoc, Int.mul_comm (2 * k - 1) b']
  have h6 : b * (2 * a') = 2 * (a' * b) := by rw [Int.mul_comm b (2 * a'), Int.mul_assoc]
  have h7 : b * (b' * (2 * k - 1)) ≤ b * (2 * a') := by omega
  exact Int.le_of_mul_le_mul_left h7 (by omega)

theorem nxt_x_mono (x x' n n' : Int) (hx : 0 ≤ x) (h : x ≤ x') (hn : 1 ≤ n') (hn' : n' ≤ n) : rdiv (x * 1000000) (n * 1000000 + x) ≤ rdiv (x' * 1000000) (n' * 1000000 + x') := by
  apply rdiv_cross _ _ _ _ (by omega) (by omega)
  have h1 : x * n' ≤ x' * n := Int.mul_le_mul h hn' (by omega) (by omega)
  have e1 : x * 1000000 * (n' * 1000000 + x') = 1000000000000 * (x * n') + 1000000 * (x * x') := by
    rw [Int.mul_add, show x * 1000000 * (n' * 1000000) = 1000000000000 * (x * n') from by rw [Int.mul_comm x, Int.mul_assoc, Int.mul_comm x, Int.mul_comm n' 1000000, Int.mul_assoc, ← Int.mul_assoc 1000000 1000000, Int.mul_comm n' x]; rfl, show x * 1000000 * x' = 1000000 * (x * x') from by rw [Int.mul_comm x, Int.mul_assoc]]
  have e2 : x' * 1000000 * (n * 1000000 + x) = 1000000000000 * (x' * n) + 1000000 * (x * x') := by
    rw [Int.mul_add, show x' * 1000000 * (n * 1000000) = 1000000000000 * (x' * n) from by rw [Int.mul_comm x', Int.mul_assoc, Int.mul_comm x', Int.mul_comm n 1000000, Int.mul_assoc, ← Int.mul_assoc 1000000 1000000, Int.mul_comm n x']; rfl, show x' * 1000000 * x = 1000000 * (x * x') from by rw [Int.mul_comm x', Int.mul_assoc, Int.mul_comm x']]
  rw [e1, e2]; omega

/-- the share is monotone in load and last share, and falls with the number of channels -/
theorem nxt_mono (l l' n n' b b' : Int) (h0 : 0 ≤ l) (h : l ≤ l') (hn : 1 ≤ n') (hn' : n' ≤ n) (b0 : 0 ≤ b) (hb : b ≤ b') : nxt l n b ≤ nxt l' n' b' := by
  unfold nxt
  have p0 : 0 ≤ l * b := Int.mul_nonneg h0 b0
  have p1 : l * b ≤ l' * b' := Int.mul_le_mul h hb b0 (by omega)
  exact nxt_x_mono _ _ _ _ (rdiv_lo _ _ p0 (by omega)) (rdiv_mono _ _ _ (by omega) p1) hn hn'

theorem erl_mono (l l' : Int) (h0 : 0 ≤ l) (h : l ≤ l') (h1 : l' ≤ 200000000) (n : Nat) : erl l n ≤ erl l' n := by
  induction n with
  | zero => exact Int.le_refl _
  | succ n ih => exact nxt_mono _ _ _ _ _ _ h0 h (by omega) (Int.le_refl _) (erl_bd l h0 (by omega) n).1 ih

theorem erl_fall (l : Int) (h0 : 0 ≤ l) (h1 : l ≤ 200000000) (n : Nat) : erl l (n + 1) ≤ erl l n := by
  induction n with
  | zero => exact (erl_bd l h0 h1 1).2
  | succ n ih => exact nxt_mono _ _ _ _ _ _ h0 (Int.le_refl _) (by omega) (by omega) (erl_bd l h0 h1 (n + 1)).1 ih

/-- below k the grade is served, from k on not -/
structure Cut (c : Nat) (g : Int) (k : Nat) : Prop where
  top : k ≤ 200000001
  low : ∀ i : Nat, i < k → erl i c ≤ g
  high : ∀ i : Nat, k ≤ i → i < 200000001 → g < erl i c

theorem cut_upto (c : Nat) (g : Int) (m : Nat) (hm : m ≤ 200000001) : ∃ k, k ≤ m ∧ (∀ i : Nat, i < k → erl i c ≤ g) ∧ (∀ i : Nat, k ≤ i → i < m → g < erl i c) := by
  induction m with
  | zero => exact ⟨0, Nat.le_refl _, fun i hi => absurd hi (by omega), fun i _ hi => absurd hi (by omega)⟩
  | succ m ih =>
    obtain ⟨k, hk, h1, h2⟩ := ih (by omega)
    by_cases h : g < erl m c
    · refine ⟨k, by omega, h1, fun i hi hj => ?_⟩
      rcases Nat.lt_or_eq_of_le (Nat.lt_succ_iff.1 hj) with e | e
      · exact h2 i hi e
      · subst e; exact h
    · refine ⟨m + 1, Nat.le_refl _, fun i hi => ?_, fun i hi hj => absurd hi (by omega)⟩
      have := erl_mono i m (by omega) (by omega) (by omega) c
      omega
theorem cut_some (c : Nat) (g : Int) : ∃ k, Cut c g k := by
  obtain ⟨k, h1, h2, h3⟩ := cut_upto c g 200000001 (Nat.le_refl _)
  exact ⟨k, h1, h2, h3⟩

def vLoad (k : Nat) : Int × Int := if k = 0 then (0, 3) else ((k : Int) - 1, 0)

set_option maxHeartbeats 400000 in
theorem closure_any (x ch g : Int) (c1 c2 : Nat) (w : World) (h0 : 0 ≤ x) (h1 : x ≤ 200000000) (hc0 : 0 ≤ ch) (hc1 : ch ≤ 200) (k1 : w.cell? ⟨c1, 0, none⟩ = some (.int .i64 ch)) (k2 : w.cell? ⟨c2, 0, none⟩ = some (.int .i64 g)) :
    Calls Try.prog 57 #[.int .i64 x, .pointer (some ⟨c1, 0, none⟩), .pointer (some ⟨c2, 0, none⟩)] w fun e w' => e = .returned (.bool (decide (g < erl x ch.toNat))) ∧ ∃ n, w' = w.drewN n := by
  go_enter Try.func57, Try.ntmps57
  go_wp2
  go_quiet ((go_at_call 50; exact Calls.quiet_of (erlangB_any _ _ h0 h1 hc0 hc1 _)))
  go_wp2
  go_ret
  exact ⟨rfl, _, rfl⟩

set_option maxHeartbeats 400000 in
theorem outer_any (x ch g : Int) (c1 c2 b1 b2 : Nat) (w : World) (h0 : 0 ≤ x) (h1 : x ≤ 200000000) (hc0 : 0 ≤ ch) (hc1 : ch ≤ 200) (k1 : w.cell? ⟨c1, 0, none⟩ = some (.int .i64 ch)) (k2 : w.cell? ⟨c2, 0, none⟩ = some (.int .i64 g))
    (k3 : w.cell? ⟨b1, 0, none⟩ = some (.func (.func 57) #[] #[.pointer (some ⟨c1, 0, none⟩), .pointer (some ⟨c2, 0, none⟩)])) (k4 : w.cell? ⟨b2, 0, none⟩ = some (.int .i64 0)) :
    Calls Try.prog 63 #[.int .i64 x, .pointer (some ⟨b1, 0, none⟩), .pointer (some ⟨b2, 0, none⟩)] w fun e w' => e = .returned (.bool (decide (g < erl x ch.toNat))) ∧ ∃ n, w' = w.drewN n := by
  go_enter Try.func63, Try.ntmps63
  go_wp2_with ((go_at_call 57; refine (closure_any _ _ _ _ _ _ h0 h1 hc0 hc1 k1 k2).mono ?_; rintro e w' ⟨rfl, nq, rfl⟩))
  go_ret
  exact ⟨rfl, _, rfl⟩

set_option maxHeartbeats 400000 in
theorem search_any (ch g : Int) (c1 c2 b1 b2 k : Nat) (w : World) (hc0 : 0 ≤ ch) (hc1 : ch ≤ 200) (hk : Cut ch.toNat g k) (k1 : w.cell? ⟨c1, 0, none⟩ = some (.int .i64 ch)) (k2 : w.cell? ⟨c2, 0, none⟩ = some (.int .i64 g))
    (k3 : w.cell? ⟨b1, 0, none⟩ = some (.func (.func 57) #[] #[.pointer (some ⟨c1, 0, none⟩), .pointer (some ⟨c2, 0, none⟩)])) (k4 : w.cell? ⟨b2, 0, none⟩ = some (.int .i64 0)) :
    Calls Try.prog 62 #[.int .i64 200000001, .func (.func 63) #[] #[.pointer (some ⟨b1, 0, none⟩), .pointer (some ⟨b2, 0, none⟩)]] w fun e w' => e = .returned (.int .i64 k) ∧ ∃ n, w' = w.drewN n := by
  have HK := Lib.hid hk
  have htop := hk.top
  clear hk
  go_enter Try.func62, Try.ntmps62
  go_wp2
  go_loopw [5, 6, 7] (fun i j h wr => ∃ a b : Nat, i = .int .i64 (a : Int) ∧ j = .int .i64 (b : Int) ∧ a ≤ k ∧ k ≤ b ∧ b ≤ 200000001 ∧ ∃ m, wr = w.drewN m) (fun i j _ _ => (intOf j).toNat - (intOf i).toNat)
  case atStart => exact ⟨0, 200000001, rfl, rfl, Nat.zero_le _, htop, Nat.le_refl _, 0, rfl⟩
  case round =>
    obtain ⟨a, b, rfl, rfl, ha, hb, hb2, m, rfl⟩ := hrel
    by_cases hlt : a < b
    · have HM : Hid ((((a + b) / 2 : Nat) : Int) = ((a : Int) + (b : Int)) / 2) := by show _ = _; omega
      by_cases hm : (a + b) / 2 < k
      · have hd : decide (g < erl (((a : Int) + (b : Int)) / 2) ch.toNat) = false := by
          have := HK.out.low _ hm
          rw [HM.out] at this
          simp; omega
        go_wp2_with ((go_at_call 63; refine (outer_any _ _ _ _ _ _ _ _ (by omega) (by omega) hc0 hc1 (by exact k1) (by exact k2) (by exact k3) (by exact k4)).mono ?_; rintro e w' ⟨rfl, nq, rfl⟩))
        go_roundw
        case rel => exact ⟨(a + b) / 2 + 1, b, by go_num, rfl, by omega, hb, hb2, _, rfl⟩
        case measure => simp [intOf]; omega
      · have hd : decide (g < erl (((a : Int) + (b : Int)) / 2) ch.toNat) = true := by
          have := HK.out.high _ (Nat.le_of_not_lt hm) (by omega)
          rw [HM.out] at this
          simp; omega
        go_wp2_with ((go_at_call 63; refine (outer_any _ _ _ _ _ _ _ _ (by omega) (by omega) hc0 hc1 (by exact k1) (by exact k2) (by exact k3) (by exact k4)).mono ?_; rintro e w' ⟨rfl, nq, rfl⟩))
        go_roundw
        case rel => exact ⟨a, (a + b) / 2, rfl, by rw [HM.out], ha, by omega, by omega, _, rfl⟩
        case measure => simp [intOf]; omega
    · obtain rfl : a = k := by omega
      go_wp2
      go_ret
      exact ⟨rfl, _, rfl⟩

def okCut (k : Nat) : Bool := decide (k < 200000001)

set_option maxHeartbeats 400000 in
theorem firstIn_any (ch g : Int) (c1 c2 k : Nat) (w : World) (hc0 : 0 ≤ ch) (hc1 : ch ≤ 200) (hk : Cut ch.toNat g k) (k1 : w.cell? ⟨c1, 0, none⟩ = some (.int .i64 ch)) (k2 : w.cell? ⟨c2, 0, none⟩ = some (.int .i64 g)) :
    Calls Try.prog 56 #[.int .i64 0, .int .i64 200000000, .func (.func 57) #[] #[.pointer (some ⟨c1, 0, none⟩), .pointer (some ⟨c2, 0, none⟩)]] w fun e w' => e = .returned (.tuple #[.int .i64 k, .bool (okCut k)]) ∧ GB w w' := by
  have hmf : ∀ (fn : Fn) (first cap : Array Value) (w : World), (Instr.makeFunc fn first cap).run Try.prog w = .ok (.func fn first cap) w := fun _ _ _ _ => rfl
  have htop := hk.top
  have HK := Lib.hid hk
  clear hk
  have z1 := block_lt_of_cell k1
  have z2 := block_lt_of_cell k2
  simp only at z1 z2
  have s1 : ((w.alloc (.cells #[.int .i64 0] 2)).alloc (.cells #[.func (.func 57) #[] #[.pointer (some ⟨c1, 0, none⟩), .pointer (some ⟨c2, 0, none⟩)]] 44)).cell? ⟨c1, 0, none⟩ = some (.int .i64 ch) := by
    rw [World.cell?_alloc_past _ _ _ (by simp; omega), World.cell?_alloc_past _ _ _ z1]; exact k1
  have s2 : ((w.alloc (.cells #[.int .i64 0] 2)).alloc (.cells #[.func (.func 57) #[] #[.pointer (some ⟨c1, 0, none⟩), .pointer (some ⟨c2, 0, none⟩)]] 44)).cell? ⟨c2, 0, none⟩ = some (.int .i64 g) := by
    rw [World.cell?_alloc_past _ _ _ (by simp; omega), World.cell?_alloc_past _ _ _ z2]; exact k2
  have s3 : ((w.alloc (.cells #[.int .i64 0] 2)).alloc (.cells #[.func (.func 57) #[] #[.pointer (some ⟨c1, 0, none⟩), .pointer (some ⟨c2, 0, none⟩)]] 44)).cell? ⟨w.heap.size + 1, 0, none⟩ = some (.func (.func 57) #[] #[.pointer (some ⟨c1, 0, none⟩), .pointer (some ⟨c2, 0, none⟩)]) := by
    rw [World.cell?_alloc_at _ _ _ _ (by simp)]; rfl
  have s4 : ((w.alloc (.cells #[.int .i64 0] 2)).alloc (.cells #[.func (.func 57) #[] #[.pointer (some ⟨c1, 0, none⟩), .pointer (some ⟨c2, 0, none⟩)]] 44)).cell? ⟨w.heap.size, 0, none⟩ = some (.int .i64 0) := by
    rw [World.cell?_alloc_past _ _ _ (by simp), World.cell?_alloc_at _ _ _ _ rfl]; rfl
  have hd : decide ((k : Int) < 200000001) = okCut k := by unfold okCut; simp; omega
  go_enter Try.func56, Try.ntmps56
  go_wp2_with ((go_at_call 62; refine (search_any _ _ _ _ _ _ _ _ hc0 hc1 HK.out s1 s2 s3 s4).mono ?_; rintro e w' ⟨rfl, nq, rfl⟩))
  go_ret2
  exact ⟨rfl, ((((GB.refl _).alloc _ _).alloc _ _).drewN _)⟩


def vLF (ch g : Int) (k : Nat) : Int × Int := if inB ch 0 200 = true ∧ inB g 0 1000000 = true then vLoad k else (0, 2)

set_option maxHeartbeats 400000 in
theorem impl_any (ch g : Int) (k : Nat) (w : World) (hk : Cut ch.toNat g k) :
    Calls Try.prog 27 #[.int .i64 ch, .int .i64 g] w fun e w' => e = .returned (.tuple #[.int .i64 (vLF ch g k).1, .int .i64 (vLF ch g k).2]) ∧ GB w w' := by
  have hmf : ∀ (fn : Fn) (first cap : Array Value) (w : World), (Instr.makeFunc fn first cap).run Try.prog w = .ok (.func fn first cap) w := fun _ _ _ _ => rfl
  have htop := hk.top
  have HK := Lib.hid hk
  clear hk
  have s1 : ((w.alloc (.cells #[.int .i64 ch] 2)).alloc (.cells #[.int .i64 g] 2)).cell? ⟨w.heap.size, 0, none⟩ = some (.int .i64 ch) := by
    rw [World.cell?_alloc_past _ _ _ (by simp), World.cell?_alloc_at _ _ _ _ rfl]; rfl
  have s2 : ((w.alloc (.cells #[.int .i64 ch] 2)).alloc (.cells #[.int .i64 g] 2)).cell? ⟨w.heap.size + 1, 0, none⟩ = some (.int .i64 g) := by
    rw [World.cell?_alloc_at _ _ _ _ (by simp)]; rfl
  have HG : Hid (GB w ((w.alloc (.cells #[.int .i64 ch] 2)).alloc (.cells #[.int .i64 g] 2))) := (((GB.refl _).alloc _ _).alloc _ _)
  cases hc : inB ch 0 200
  · have HV : Hid (vLF ch g k = (0, 2)) := by show _ = _; unfold vLF; rw [if_neg (by simp [hc])]
    go_enter Try.func27, Try.ntmps27
    go_wp2_with (first | (go_at_call 49; refine (trunksOk_any _ _).mono ?_; rintro e w' ⟨rfl, rfl⟩) | (go_at_call 53; refine (gradeOk_any _ _).mono ?_; rintro e w' ⟨rfl, rfl⟩))
    go_ret2
    exact ⟨ret_two HV.out, HG.out⟩
  · cases hg : inB g 0 1000000
    · have HV : Hid (vLF ch g k = (0, 2)) := by show _ = _; unfold vLF; rw [if_neg (by simp [hg])]
      go_enter Try.func27, Try.ntmps27
      go_wp2_with (first | (go_at_call 49; refine (trunksOk_any _ _).mono ?_; rintro e w' ⟨rfl, rfl⟩) | (go_at_call 53; refine (gradeOk_any _ _).mono ?_; rintro e w' ⟨rfl, rfl⟩))
      go_ret2
      exact ⟨ret_two HV.out, HG.out⟩
    · obtain ⟨c0, c1⟩ := inB_yes hc
      have HV : Hid (vLF ch g k = vLoad k) := by show _ = _; unfold vLF; rw [if_pos ⟨hc, hg⟩]
      by_cases hkt : k = 200000001
      · have HO : Hid (vLoad k = (200000000, 0)) := by show _ = _; rw [hkt]; unfold vLoad; rw [if_neg (by omega)]; rfl
        have ho : okCut k = false := by unfold okCut; simp; omega
        clear hkt
        go_enter Try.func27, Try.ntmps27
        go_wp2_with (first | (go_at_call 49; refine (trunksOk_any _ _).mono ?_; rintro e w' ⟨rfl, rfl⟩) | (go_at_call 53; refine (gradeOk_any _ _).mono ?_; rintro e w' ⟨rfl, rfl⟩) | (go_at_call 56; refine (firstIn_any _ _ _ _ _ _ c0 c1 HK.out s1 s2).mono ?_; rintro e w' ⟨rfl, hgr⟩))
        go_ret2
        exact ⟨ret_two (HV.out.trans HO.out), HG.out.trans hgr⟩
      · have ho : okCut k = true := by unfold okCut; simp; omega
        have HO : Hid (vLoad k = orNF ((k : Int) - 1) (decide ((0 : Int) < (k : Int)))) := by
          show _ = _
          unfold vLoad orNF
          by_cases h0 : k = 0
          · subst h0; rfl
          · rw [if_neg h0, if_pos (by simp; omega)]
        clear hkt
        have HV2 := Lib.hid (HV.out.trans HO.out)
        clear HV HO
        go_enter Try.func27, Try.ntmps27
        go_wp2_with (first | (go_at_call 49; refine (trunksOk_any _ _).mono ?_; rintro e w' ⟨rfl, rfl⟩) | (go_at_call 53; refine (gradeOk_any _ _).mono ?_; rintro e w' ⟨rfl, rfl⟩) | (go_at_call 56; refine (firstIn_any _ _ _ _ _ _ c0 c1 HK.out s1 s2).mono ?_; rintro e w' ⟨rfl, hgr⟩) | (go_at_call 54; refine (orNotFound_any _ _ _).mono ?_; rintro e w' ⟨rfl, rfl⟩))
        go_ret2
        exact ⟨by rw [HV2.out]; simp, HG.out.trans hgr⟩

set_option maxHeartbeats 400000 in
theorem spec_any (ch g : Int) (k : Nat) (w : World) (hk : Cut ch.toNat g k) :
    Calls Try.prog 38 #[.int .i64 ch, .int .i64 g] w fun e w' => e = .returned (.tuple #[.int .i64 (vLF ch g k).1, .int .i64 (vLF ch g k).2]) ∧ w = w' := by
  have htop := hk.top
  have HK := Lib.hid hk
  clear hk
  cases hc : inB ch 0 200
  · have HV : Hid (vLF ch g k = (0, 2)) := by show _ = _; unfold vLF; rw [if_neg (by simp [hc])]
    go_enter Try.func38, Try.ntmps38
    go_wp2_with ((go_at_call 42; refine (l00In_any _ _ _ _).mono ?_; rintro e w' ⟨rfl, rfl⟩))
    go_ret2
    exact ⟨ret_two HV.out, rfl⟩
  · cases hg : inB g 0 1000000
    · have HV : Hid (vLF ch g k = (0, 2)) := by show _ = _; unfold vLF; rw [if_neg (by simp [hg])]
      go_enter Try.func38, Try.ntmps38
      go_wp2_with ((go_at_call 42; refine (l00In_any _ _ _ _).mono ?_; rintro e w' ⟨rfl, rfl⟩))
      go_ret2
      exact ⟨ret_two HV.out, rfl⟩
    · obtain ⟨c0, c1⟩ := inB_yes hc
      have HV : Hid (vLF ch g k = vLoad k) := by show _ = _; unfold vLF; rw [if_pos ⟨hc, hg⟩]
      by_cases h0 : k = 0
      · have HE : g < erl 0 ch.toNat := HK.out.high 0 (by omega) (by omega)
        have HO : Hid (vLoad k = (0, 3)) := by show _ = _; unfold vLoad; rw [if_pos h0]
        clear h0
        go_enter Try.func38, Try.ntmps38
        go_wp2_with (first | (go_at_call 42; refine (l00In_any _ _ _ _).mono ?_; rintro e w' ⟨rfl, rfl⟩) | (go_at_call 47; refine (l24Lost_any _ _ (by omega) (by omega) c0 c1 _).mono ?_; rintro e w' ⟨rfl, rfl⟩))
        go_ret2
        exact ⟨ret_two (HV.out.trans HO.out), rfl⟩
      · have HE : erl 0 ch.toNat ≤ g := HK.out.low 0 (by omega)
        have d1 : decide (g < erl 0 ch.toNat) = false := by simp; omega
        have HO : Hid (vLoad k = ((k : Int) - 1, 0)) := by show _ = _; unfold vLoad; rw [if_neg h0]
        go_enter Try.func38, Try.ntmps38
        go_wp2_with (first | (go_at_call 42; refine (l00In_any _ _ _ _).mono ?_; rintro e w' ⟨rfl, rfl⟩) | (go_at_call 47; refine (l24Lost_any _ _ (by omega) (by omega) c0 c1 _).mono ?_; rintro e w' ⟨rfl, rfl⟩))
        clear d1 HE
        go_loop [6, 7, 8] (fun lo hi m => ∃ a b : Nat, lo = .int .i64 (a : Int) ∧ hi = .int .i64 (b : Int) ∧ a < k ∧ k ≤ b + 1 ∧ b ≤ 200000000) (fun lo hi _ => (intOf hi).toNat - (intOf lo).toNat)
        case atStart => exact ⟨0, 200000000, rfl, rfl, by omega, by omega, by omega⟩
        case round =>
          obtain ⟨a, b, rfl, rfl, ha, hb, hb2⟩ := hrel
          by_cases hlt : a < b
          · have HM : Hid ((((a + b + 1) / 2 : Nat) : Int) = ((a : Int) + (b : Int) + 1) / 2) := by show _ = _; omega
            by_cases hm : (a + b + 1) / 2 < k
            · have hd : erl (((a : Int) + (b : Int) + 1) / 2) ch.toNat ≤ g := by
                have := HK.out.low _ hm
                rw [HM.out] at this
                exact this
              go_wp2_with ((go_at_call 47; refine (l24Lost_any _ _ (by omega) (by omega) c0 c1 _).mono ?_; rintro e w' ⟨rfl, rfl⟩))
              go_round
              case rel => exact ⟨(a + b + 1) / 2, b, by rw [HM.out], rfl, by omega, hb, hb2⟩
              case measure => simp [intOf]; omega
            · have hd : g < erl (((a : Int) + (b : Int) + 1) / 2) ch.toNat := by
                have := HK.out.high _ (Nat.le_of_not_lt hm) (by omega)
                rw [HM.out] at this
                exact this
              go_wp2_with ((go_at_call 47; refine (l24Lost_any _ _ (by omega) (by omega) c0 c1 _).mono ?_; rintro e w' ⟨rfl, rfl⟩))
              go_round
              case rel => exact ⟨a, (a + b + 1) / 2 - 1, rfl, by rw [← HM.out]; congr 1; omega, ha, by omega, by omega⟩
              case measure => simp [intOf]; omega
          · obtain rfl : a + 1 = k := by omega
            go_wp2
            go_ret2
            exact ⟨ret_two (HV.out.trans (HO.out.trans (by simp))), rfl⟩

set_option maxHeartbeats 400000 in
theorem walkLoadFor (a b : Int) (w : World) :
    Calls Try.prog 12 #[.int .i64 a, .int .i64 b] w fun e w' => e = .returned (.bool true) ∧ Grown w w' := by
  obtain ⟨k, hk⟩ := cut_some a.toNat b
  have HK := Lib.hid hk
  clear hk
  go_enter Try.func12, Try.ntmps12
  go_wp2_with (first | (go_at_call 38; refine (spec_any _ _ k _ HK.out).mono ?_; rintro e w' ⟨rfl, rfl⟩) | (go_at_call 27; refine (impl_any _ _ k _ HK.out).mono ?_; rintro e w' ⟨rfl, hgr⟩))
  go_ret
  exact ⟨rfl, hgr.1⟩

end Go.Proofs.Ytkogkkbiocejkaa.Lo
