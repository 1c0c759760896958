/-
  Erlang C, and the least number of channels: contracts of the program's and the reference's functions.
-/
import Derived.Test.YtkogkkbiocejkaaErl
namespace Go.Proofs.Ytkogkkbiocejkaa.Er
open Go.RowKit Go.Proofs.Ytkogkkbiocejkaa.Mt Go.Proofs.Ytkogkkbiocejkaa.Wk

/-- the share of calls that wait, where the load is less than the channels -/
def wai (load ch : Int) : Int := rdiv (ch * 1000000 * erl load ch.toNat) (ch * 1000000 - load + rdiv (load * erl load ch.toNat) 1000000)
def vC (load ch : Int) : Int × Int := if inB load 0 200000000 = true ∧ inB ch 0 200 = true then (if ch * 1000000 ≤ load then (1000000, 0) else (wai load ch, 0)) else (0, 2)

theorem wai_bd (ch b : Int) (c0 : 0 ≤ ch) (c1 : ch ≤ 200) (b0 : 0 ≤ b) (b1 : b ≤ 1000000) :
    0 ≤ ch * 1000000 * b ∧ ch * 1000000 * b ≤ 200000000000000 := by
  have p0 : 0 ≤ ch * 1000000 * b := Int.mul_nonneg (by omega) b0
  have p1 : ch * 1000000 * b ≤ 200000000 * 1000000 := Int.mul_le_mul (by omega) b1 b0 (by omega)
  exact ⟨p0, by omega⟩

set_option maxHeartbeats 400000 in
theorem ErlangC_impl (load ch : Int) (w : World) :
    Calls Try.prog 25 #[.int .i64 load, .int .i64 ch] w fun e w' => e = .returned (.tuple #[.int .i64 (vC load ch).1, .int .i64 (vC load ch).2]) ∧ ∃ n, w' = w.drewN n := by
  cases hl : inB load 0 200000000
  · have HV : Hid (vC load ch = (0, 2)) := by show _ = _; unfold vC; rw [if_neg (by simp [hl])]
    go_enter Try.func25, Try.ntmps25
    go_wp2_with (first | (go_at_call 48; refine (trafficLoad_any _ _).mono ?_; rintro e w' ⟨rfl, rfl⟩) | (go_at_call 49; refine (trunksOk_any _ _).mono ?_; rintro e w' ⟨rfl, rfl⟩))
    go_ret2
    exact ⟨ret_two HV.out, 0, rfl⟩
  · cases hc : inB ch 0 200
    · have HV : Hid (vC load ch = (0, 2)) := by show _ = _; unfold vC; rw [if_neg (by simp [hc])]
      go_enter Try.func25, Try.ntmps25
      go_wp2_with (first | (go_at_call 48; refine (trafficLoad_any _ _).mono ?_; rintro e w' ⟨rfl, rfl⟩) | (go_at_call 49; refine (trunksOk_any _ _).mono ?_; rintro e w' ⟨rfl, rfl⟩))
      go_ret2
      exact ⟨ret_two HV.out, 0, rfl⟩
    · obtain ⟨h0, h1⟩ := inB_yes hl
      obtain ⟨c0, c1⟩ := inB_yes hc
      by_cases hg : ch * 1000000 ≤ load
      · have HV : Hid (vC load ch = (1000000, 0)) := by show _ = _; unfold vC; rw [if_pos ⟨hl, hc⟩, if_pos hg]
        go_enter Try.func25, Try.ntmps25
        go_wp2_with (first | (go_at_call 48; refine (trafficLoad_any _ _).mono ?_; rintro e w' ⟨rfl, rfl⟩) | (go_at_call 49; refine (trunksOk_any _ _).mono ?_; rintro e w' ⟨rfl, rfl⟩))
        go_ret2
        exact ⟨ret_two HV.out, 0, rfl⟩
      · have HV : Hid (vC load ch = (wai load ch, 0)) := by show _ = _; unfold vC; rw [if_pos ⟨hl, hc⟩, if_neg hg]
        obtain ⟨b0, b1⟩ := erl_bd load h0 h1 ch.toNat
        obtain ⟨p0, p1, x0, x1⟩ := offered load (erl load ch.toNat) h0 h1 b0 b1
        obtain ⟨q0, q1⟩ := wai_bd ch (erl load ch.toNat) c0 c1 b0 b1
        go_enter Try.func25, Try.ntmps25
        go_wp2_with (first | (go_at_call 48; refine (trafficLoad_any _ _).mono ?_; rintro e w' ⟨rfl, rfl⟩) | (go_at_call 49; refine (trunksOk_any _ _).mono ?_; rintro e w' ⟨rfl, rfl⟩) | (go_at_call 50; refine (erlangB_any _ _ h0 h1 c0 c1 _).mono ?_; rintro e w' ⟨rfl, nq, rfl⟩) | (go_at_call 45; refine (divRound_nn _ _ (by omega) (by omega) (by omega) (by omega) _).mono ?_; rintro e w' ⟨rfl, nq, rfl⟩))
        go_ret2
        exact ⟨ret_two HV.out, _, rfl⟩

set_option maxHeartbeats 400000 in
theorem ErlangC_spec (load ch : Int) (w : World) :
    Calls Try.prog 28 #[.int .i64 load, .int .i64 ch] w fun e w' => e = .returned (.tuple #[.int .i64 (vC load ch).1, .int .i64 (vC load ch).2]) ∧ ∃ n, w' = w.drewN n := by
  by_cases hb : inB load 0 200000000 = true ∧ inB ch 0 200 = true
  · have hb' := hb
    obtain ⟨hl, hc⟩ := hb'
    obtain ⟨h0, h1⟩ := inB_yes hl
    obtain ⟨c0, c1⟩ := inB_yes hc
    by_cases hg : ch * 1000000 ≤ load
    · have HV : Hid (vC load ch = (1000000, 0)) := by show _ = _; unfold vC; rw [if_pos hb, if_pos hg]
      clear hb
      go_enter Try.func28, Try.ntmps28
      go_wp2_with ((go_at_call 46; refine (l24Ask_yes _ _ hl hc _).mono ?_; rintro e w' ⟨rfl, rfl⟩))
      go_ret2
      exact ⟨ret_two HV.out, 0, rfl⟩
    · have HV : Hid (vC load ch = (wai load ch, 0)) := by show _ = _; unfold vC; rw [if_pos hb, if_neg hg]
      clear hb
      obtain ⟨b0, b1⟩ := erl_bd load h0 h1 ch.toNat
      obtain ⟨p0, p1, x0, x1⟩ := offered load (erl load ch.toNat) h0 h1 b0 b1
      obtain ⟨q0, q1⟩ := wai_bd ch (erl load ch.toNat) c0 c1 b0 b1
      go_enter Try.func28, Try.ntmps28
      go_wp2_with (first | (go_at_call 46; refine (l24Ask_yes _ _ hl hc _).mono ?_; rintro e w' ⟨rfl, rfl⟩) | (go_at_call 47; refine (l24Lost_any _ _ h0 h1 c0 c1 _).mono ?_; rintro e w' ⟨rfl, rfl⟩) | (go_at_call 43; refine (l01Div_nn _ _ (by omega) (by omega) (by omega) (by omega) _).mono ?_; rintro e w' ⟨rfl, rfl⟩))
      go_ret2
      exact ⟨ret_two HV.out, 0, rfl⟩
  · have HV : Hid (vC load ch = (0, 2)) := by show _ = _; unfold vC; rw [if_neg hb]
    have HN : Hid (inB load 0 200000000 = false ∨ inB ch 0 200 = false) := by
      show _ ∨ _
      cases hl : inB load 0 200000000 <;> cases hc : inB ch 0 200 <;> simp_all
    clear hb
    go_enter Try.func28, Try.ntmps28
    go_wp2_with ((go_at_call 46; refine (l24Ask_no _ _ HN.out _).mono ?_; rintro e w' ⟨rfl, rfl⟩))
    go_ret2
    exact ⟨ret_two HV.out, 0, rfl⟩

set_option maxHeartbeats 400000 in
theorem walkErlangC (a b : Int) (w : World) :
    Calls Try.prog 8 #[.int .i64 a, .int .i64 b] w fun e w' => e = .returned (.bool true) ∧ Grown w w' := by
  go_enter Try.func8, Try.ntmps8
  go_wp2_with (first | (go_at_call 28; refine (ErlangC_spec _ _ _).mono ?_; rintro e w' ⟨rfl, nq, rfl⟩) | (go_at_call 25; refine (ErlangC_impl _ _ _).mono ?_; rintro e w' ⟨rfl, nq, rfl⟩))
  go_ret
  exact ⟨rfl, grown_drewN (Grown.refl _) _⟩

/-! ### the least number of channels -/
set_option maxHeartbeats 400000 in
theorem channelsFor_any (load grade : Int) (h0 : 0 ≤ load) (h1 : load ≤ 200000000) (w : World) :
    Calls Try.prog 55 #[.int .i64 load, .int .i64 grade] w fun e w' => e = .returned (.tuple #[.int .i64 (chN load grade), .bool (chOk load grade)]) ∧ ∃ n, w' = w.drewN n := by
  go_enter Try.func55, Try.ntmps55
  go_wp2
  go_loopw [6, 7] (fun b n w' => ∃ k : Nat, k ≤ 200 ∧ (∀ i, i < k → grade < erl load i) ∧ n = .int .i64 (k : Int) ∧ b = .int .i64 (erl load k) ∧ ∃ m, w' = w.drewN m) (fun _ n _ => 200 - (intOf n).toNat)
  case atStart => exact ⟨0, Nat.zero_le _, fun i hi => absurd hi (by omega), rfl, rfl, 0, rfl⟩
  case round =>
    obtain ⟨k, hk, hall, rfl, rfl, m, rfl⟩ := hrel
    obtain ⟨b0, b1⟩ := erl_bd load h0 h1 k
    by_cases hle : erl load k ≤ grade
    · have HV := Lib.hid (ch_some load grade k hk hall hle)
      clear hall
      have hg : decide (grade < erl load k) = false := by simp; omega
      go_wp2
      go_ret2
      exact ⟨by rw [HV.out.1, HV.out.2]; simp, _, rfl⟩
    · have hg : decide (grade < erl load k) = true := by simp; omega
      by_cases hlt : k < 200
      · have HA := Lib.hid hall
        clear hall
        have hd : decide ((k : Int) < 200) = true := by simp; omega
        go_wp2_with ((go_at_call 61; refine (nextErlang_any _ _ _ h0 h1 (by omega) (by omega) b0 b1 _).mono ?_; rintro e w' ⟨rfl, nq, rfl⟩))
        go_roundw
        case rel => exact ⟨k + 1, by omega, fun i hi => by rcases Nat.lt_or_eq_of_le (Nat.lt_succ_iff.1 hi) with h | h; exact HA.out i h; subst h; omega, by go_num, rfl, _, rfl⟩
        case measure => simp [intOf]; omega
      · have HV := Lib.hid (ch_none load grade (fun i hi => by
          rcases Nat.lt_or_eq_of_le hi with h | h
          · exact hall i (by omega)
          · subst h; obtain rfl : k = 200 := by omega
            omega))
        clear hall
        obtain rfl : k = 200 := by omega
        go_wp2
        go_ret2
        exact ⟨by rw [HV.out.1, HV.out.2]; simp, _, rfl⟩

/-- the reference's number, or -1 -/
def chS (load grade : Int) : Int := if chOk load grade = true then chN load grade else -1

set_option maxHeartbeats 400000 in
theorem l24Need_any (load grade : Int) (h0 : 0 ≤ load) (h1 : load ≤ 200000000) (w : World) :
    Calls Try.prog 58 #[.int .i64 load, .int .i64 grade] w fun e w' => e = .returned (.int .i64 (chS load grade)) ∧ w = w' := by
  go_enter Try.func58, Try.ntmps58
  go_wp2
  go_loop [5] (fun n => ∃ k : Nat, k ≤ 201 ∧ (∀ i, i < k → grade < erl load i) ∧ n = .int .i64 (k : Int)) (fun n => 201 - (intOf n).toNat)
  case atStart => exact ⟨0, Nat.zero_le _, fun i hi => absurd hi (by omega), rfl⟩
  case round =>
    obtain ⟨k, hk, hall, rfl⟩ := hrel
    by_cases hlt : k ≤ 200
    · by_cases hle : erl load k ≤ grade
      · have HV := Lib.hid (ch_some load grade k hlt hall hle)
        clear hall
        go_wp2_with ((go_at_call 47; refine (l24Lost_any _ _ h0 h1 (by omega) (by omega) _).mono ?_; rintro e w' ⟨rfl, rfl⟩))
        go_ret
        exact ⟨ret_int (by unfold chS; rw [HV.out.1, HV.out.2]; rfl), rfl⟩
      · have HA := Lib.hid hall
        clear hall
        go_wp2_with ((go_at_call 47; refine (l24Lost_any _ _ h0 h1 (by omega) (by omega) _).mono ?_; rintro e w' ⟨rfl, rfl⟩))
        go_round
        case rel => exact ⟨k + 1, by omega, fun i hi => by rcases Nat.lt_or_eq_of_le (Nat.lt_succ_iff.1 hi) with h | h; exact HA.out i h; subst h; omega, by go_num⟩
        case measure => simp [intOf]; omega
    · have HV := Lib.hid (ch_none load grade (fun i hi => hall i (by omega)))
      clear hall
      go_wp2
      go_ret
      exact ⟨ret_int (by unfold chS; rw [HV.out.2]; rfl), rfl⟩

def orNF (n : Int) (b : Bool) : Int × Int := if b = true then (n, 0) else (0, 3)
set_option maxHeartbeats 400000 in
theorem orNotFound_any (n : Int) (b : Bool) (w : World) : Calls Try.prog 54 #[.int .i64 n, .bool b] w fun e w' => e = .returned (.tuple #[.int .i64 (orNF n b).1, .int .i64 (orNF n b).2]) ∧ w = w' := by
  cases b
  · go_enter Try.func54, Try.ntmps54
    go_wp2
    go_ret2
    exact ⟨rfl, rfl⟩
  · go_enter Try.func54, Try.ntmps54
    go_wp2
    go_ret2
    exact ⟨rfl, rfl⟩

def vFor (load grade : Int) : Int × Int := if inB load 0 200000000 = true ∧ inB grade 0 1000000 = true then (if chOk load grade = true then (chN load grade, 0) else (0, 3)) else (0, 2)

theorem chN_lo (load grade : Int) : 0 ≤ chN load grade := by
  unfold chN; split <;> omega

set_option maxHeartbeats 400000 in
theorem ChannelsFor_impl (load grade : Int) (w : World) :
    Calls Try.prog 26 #[.int .i64 load, .int .i64 grade] w fun e w' => e = .returned (.tuple #[.int .i64 (vFor load grade).1, .int .i64 (vFor load grade).2]) ∧ ∃ n, w' = w.drewN n := by
  cases hl : inB load 0 200000000
  · have HV : Hid (vFor load grade = (0, 2)) := by show _ = _; unfold vFor; rw [if_neg (by simp [hl])]
    go_enter Try.func26, Try.ntmps26
    go_wp2_with (first | (go_at_call 48; refine (trafficLoad_any _ _).mono ?_; rintro e w' ⟨rfl, rfl⟩) | (go_at_call 53; refine (gradeOk_any _ _).mono ?_; rintro e w' ⟨rfl, rfl⟩))
    go_ret2
    exact ⟨ret_two HV.out, 0, rfl⟩
  · cases hc : inB grade 0 1000000
    · have HV : Hid (vFor load grade = (0, 2)) := by show _ = _; unfold vFor; rw [if_neg (by simp [hc])]
      go_enter Try.func26, Try.ntmps26
      go_wp2_with (first | (go_at_call 48; refine (trafficLoad_any _ _).mono ?_; rintro e w' ⟨rfl, rfl⟩) | (go_at_call 53; refine (gradeOk_any _ _).mono ?_; rintro e w' ⟨rfl, rfl⟩))
      go_ret2
      exact ⟨ret_two HV.out, 0, rfl⟩
    · obtain ⟨h0, h1⟩ := inB_yes hl
      cases ho : chOk load grade
      · have HV : Hid (vFor load grade = (0, 3)) := by show _ = _; unfold vFor; rw [if_pos ⟨hl, hc⟩, if_neg (by simp [ho])]
        go_enter Try.func26, Try.ntmps26
        go_wp2_with (first | (go_at_call 48; refine (trafficLoad_any _ _).mono ?_; rintro e w' ⟨rfl, rfl⟩) | (go_at_call 53; refine (gradeOk_any _ _).mono ?_; rintro e w' ⟨rfl, rfl⟩) | (go_at_call 55; refine (channelsFor_any _ _ h0 h1 _).mono ?_; rintro e w' ⟨rfl, nq, rfl⟩) | (go_at_call 54; refine (orNotFound_any _ _ _).mono ?_; rintro e w' ⟨rfl, rfl⟩))
        go_ret2
        exact ⟨ret_two HV.out, _, rfl⟩
      · have HV : Hid (vFor load grade = (chN load grade, 0)) := by show _ = _; unfold vFor; rw [if_pos ⟨hl, hc⟩, if_pos ho]
        go_enter Try.func26, Try.ntmps26
        go_wp2_with (first | (go_at_call 48; refine (trafficLoad_any _ _).mono ?_; rintro e w' ⟨rfl, rfl⟩) | (go_at_call 53; refine (gradeOk_any _ _).mono ?_; rintro e w' ⟨rfl, rfl⟩) | (go_at_call 55; refine (channelsFor_any _ _ h0 h1 _).mono ?_; rintro e w' ⟨rfl, nq, rfl⟩) | (go_at_call 54; refine (orNotFound_any _ _ _).mono ?_; rintro e w' ⟨rfl, rfl⟩))
        go_ret2
        exact ⟨ret_two HV.out, _, rfl⟩

set_option maxHeartbeats 400000 in
theorem ChannelsFor_spec (load grade : Int) (w : World) :
    Calls Try.prog 29 #[.int .i64 load, .int .i64 grade] w fun e w' => e = .returned (.tuple #[.int .i64 (vFor load grade).1, .int .i64 (vFor load grade).2]) ∧ ∃ n, w' = w.drewN n := by
  cases hl : inB load 0 200000000
  · have HV : Hid (vFor load grade = (0, 2)) := by show _ = _; unfold vFor; rw [if_neg (by simp [hl])]
    go_enter Try.func29, Try.ntmps29
    go_wp2_with ((go_at_call 42; refine (l00In_any _ _ _ _).mono ?_; rintro e w' ⟨rfl, rfl⟩))
    go_ret2
    exact ⟨ret_two HV.out, 0, rfl⟩
  · cases hc : inB grade 0 1000000
    · have HV : Hid (vFor load grade = (0, 2)) := by show _ = _; unfold vFor; rw [if_neg (by simp [hc])]
      go_enter Try.func29, Try.ntmps29
      go_wp2_with ((go_at_call 42; refine (l00In_any _ _ _ _).mono ?_; rintro e w' ⟨rfl, rfl⟩))
      go_ret2
      exact ⟨ret_two HV.out, 0, rfl⟩
    · obtain ⟨h0, h1⟩ := inB_yes hl
      have hlo := chN_lo load grade
      cases ho : chOk load grade
      · have HV : Hid (vFor load grade = (0, 3)) := by show _ = _; unfold vFor; rw [if_pos ⟨hl, hc⟩, if_neg (by simp [ho])]
        have HS : chS load grade < 0 := by unfold chS; rw [if_neg (by simp [ho])]; omega
        go_enter Try.func29, Try.ntmps29
        go_wp2_with (first | (go_at_call 42; refine (l00In_any _ _ _ _).mono ?_; rintro e w' ⟨rfl, rfl⟩) | (go_at_call 58; refine (l24Need_any _ _ h0 h1 _).mono ?_; rintro e w' ⟨rfl, rfl⟩))
        go_ret2
        exact ⟨ret_two HV.out, 0, rfl⟩
      · have HV : Hid (vFor load grade = (chS load grade, 0)) := by show _ = _; unfold vFor chS; rw [if_pos ⟨hl, hc⟩, if_pos ho, if_pos ho]
        have HS : 0 ≤ chS load grade := by unfold chS; rw [if_pos ho]; omega
        go_enter Try.func29, Try.ntmps29
        go_wp2_with (first | (go_at_call 42; refine (l00In_any _ _ _ _).mono ?_; rintro e w' ⟨rfl, rfl⟩) | (go_at_call 58; refine (l24Need_any _ _ h0 h1 _).mono ?_; rintro e w' ⟨rfl, rfl⟩))
        go_ret2
        exact ⟨ret_two HV.out, 0, rfl⟩

set_option maxHeartbeats 400000 in
theorem walkChannelsFor (a b : Int) (w : World) :
    Calls Try.prog 9 #[.int .i64 a, .int .i64 b] w fun e w' => e = .returned (.bool true) ∧ Grown w w' := by
  go_enter Try.func9, Try.ntmps9
  go_wp2_with (first | (go_at_call 29; refine (ChannelsFor_spec _ _ _).mono ?_; rintro e w' ⟨rfl, nq, rfl⟩) | (go_at_call 26; refine (ChannelsFor_impl _ _ _).mono ?_; rintro e w' ⟨rfl, nq, rfl⟩))
  go_ret
  exact ⟨rfl, grown_drewN (Grown.refl _) _⟩

end Go.Proofs.Ytkogkkbiocejkaa.Er
