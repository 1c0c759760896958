/-
  The Erlang recursion: contracts of the program's and the reference's functions.
-/
import Derived.Test.YtkogkkbiocejkaaBase
namespace Go.Proofs.Ytkogkkbiocejkaa.Er
open Go.RowKit Go.Proofs.Ytkogkkbiocejkaa.Mt Go.Proofs.Ytkogkkbiocejkaa.Wk

set_option maxHeartbeats 400000 in
theorem nextErlang_any (load n b : Int) (h0 : 0 ≤ load) (h1 : load ≤ 200000000) (hn : 1 ≤ n) (hn2 : n ≤ 1000) (b0 : 0 ≤ b) (b1 : b ≤ 1000000) (w : World) :
    Calls Try.prog 61 #[.int .i64 load, .int .i64 n, .int .i64 b] w fun e w' => e = .returned (.int .i64 (nxt load n b)) ∧ ∃ n, w' = w.drewN n := by
  obtain ⟨p0, p1, x0, x1⟩ := offered load b h0 h1 b0 b1
  go_enter Try.func61, Try.ntmps61
  go_wp2_with ((go_at_call 45; refine (divRound_nn _ _ (by omega) (by omega) (by omega) (by omega) _).mono ?_; rintro e w' ⟨rfl, nq, rfl⟩))
  go_ret
  exact ⟨rfl, _, rfl⟩

set_option maxHeartbeats 400000 in
theorem erlangB_any (load ch : Int) (h0 : 0 ≤ load) (h1 : load ≤ 200000000) (hc0 : 0 ≤ ch) (hc1 : ch ≤ 200) (w : World) :
    Calls Try.prog 50 #[.int .i64 load, .int .i64 ch] w fun e w' => e = .returned (.int .i64 (erl load ch.toNat)) ∧ ∃ n, w' = w.drewN n := by
  obtain ⟨c, rfl⟩ := Int.eq_ofNat_of_zero_le hc0
  rw [Int.toNat_natCast]
  go_enter Try.func50, Try.ntmps50
  go_wp2
  go_loopw [5, 6] (fun b n w' => ∃ k : Nat, k ≤ c ∧ n = .int .i64 ((k : Int) + 1) ∧ b = .int .i64 (erl load k) ∧ ∃ m, w' = w.drewN m) (fun _ n _ => c + 1 - (intOf n).toNat)
  case atStart => exact ⟨0, Nat.zero_le _, rfl, rfl, 0, rfl⟩
  case round =>
    obtain ⟨k, hk, rfl, rfl, m, rfl⟩ := hrel
    obtain ⟨b0, b1⟩ := erl_bd load h0 h1 k
    by_cases hlt : k < c
    · go_wp2_with ((go_at_call 61; refine (nextErlang_any _ _ _ h0 h1 (by omega) (by omega) b0 b1 _).mono ?_; rintro e w' ⟨rfl, nq, rfl⟩))
      go_roundw
      case rel => exact ⟨k + 1, by omega, by go_num, rfl, _, rfl⟩
      case measure => simp [intOf]; omega
    · obtain rfl : k = c := by omega
      go_wp2
      go_ret
      exact ⟨rfl, _, rfl⟩

set_option maxHeartbeats 400000 in
theorem l24Lost_any (load ch : Int) (h0 : 0 ≤ load) (h1 : load ≤ 200000000) (hc0 : 0 ≤ ch) (hc1 : ch ≤ 200) (w : World) :
    Calls Try.prog 47 #[.int .i64 load, .int .i64 ch] w fun e w' => e = .returned (.int .i64 (erl load ch.toNat)) ∧ w = w' := by
  obtain ⟨c, rfl⟩ := Int.eq_ofNat_of_zero_le hc0
  rw [Int.toNat_natCast]
  go_enter Try.func47, Try.ntmps47
  go_wp2
  go_loop [5, 6, 7] (fun b n x => ∃ k : Nat, k ≤ c ∧ n = .int .i64 ((k : Int) + 1) ∧ b = .int .i64 (erl load k)) (fun _ n _ => c + 1 - (intOf n).toNat)
  case atStart => exact ⟨0, Nat.zero_le _, rfl, rfl⟩
  case round =>
    obtain ⟨k, hk, rfl, rfl⟩ := hrel
    obtain ⟨b0, b1⟩ := erl_bd load h0 h1 k
    obtain ⟨p0, p1, x0, x1⟩ := offered load (erl load k) h0 h1 b0 b1
    by_cases hlt : k < c
    · go_wp2_with ((go_at_call 43; refine (l01Div_nn _ _ (by omega) (by omega) (by omega) (by omega) _).mono ?_; rintro e w' ⟨rfl, rfl⟩))
      go_round
      case rel => exact ⟨k + 1, by omega, by go_num, rfl⟩
      case measure => simp [intOf]; omega
    · obtain rfl : k = c := by omega
      go_wp2
      go_ret
      exact ⟨rfl, rfl⟩


set_option maxHeartbeats 400000 in
theorem trafficLoad_any (n : Int) (w : World) : Calls Try.prog 48 #[.int .i64 n] w fun e w' => e = .returned (.bool (inB n 0 200000000)) ∧ w = w' := by
  go_enter Try.func48, Try.ntmps48
  go_wp2_with ((go_at_call 44; refine (within_any _ _ _ _).mono ?_; rintro e w' ⟨rfl, rfl⟩))
  go_ret
  exact ⟨rfl, rfl⟩

set_option maxHeartbeats 400000 in
theorem trunksOk_any (n : Int) (w : World) : Calls Try.prog 49 #[.int .i64 n] w fun e w' => e = .returned (.bool (inB n 0 200)) ∧ w = w' := by
  go_enter Try.func49, Try.ntmps49
  go_wp2_with ((go_at_call 44; refine (within_any _ _ _ _).mono ?_; rintro e w' ⟨rfl, rfl⟩))
  go_ret
  exact ⟨rfl, rfl⟩

set_option maxHeartbeats 400000 in
theorem gradeOk_any (n : Int) (w : World) : Calls Try.prog 53 #[.int .i64 n] w fun e w' => e = .returned (.bool (inB n 0 1000000)) ∧ w = w' := by
  go_enter Try.func53, Try.ntmps53
  go_wp2_with ((go_at_call 44; refine (within_any _ _ _ _).mono ?_; rintro e w' ⟨rfl, rfl⟩))
  go_ret
  exact ⟨rfl, rfl⟩

set_option maxHeartbeats 400000 in
theorem l24Ask_no (load ch : Int) (h : inB load 0 200000000 = false ∨ inB ch 0 200 = false) (w : World) :
    Calls Try.prog 46 #[.int .i64 load, .int .i64 ch] w fun e w' => e = .returned (.int .i64 2) ∧ w = w' := by
  cases hl : inB load 0 200000000
  · clear h
    go_enter Try.func46, Try.ntmps46
    go_wp2_with ((go_at_call 42; refine (l00In_any _ _ _ _).mono ?_; rintro e w' ⟨rfl, rfl⟩))
    go_ret
    exact ⟨rfl, rfl⟩
  · have hc : inB ch 0 200 = false := by simpa [hl] using h
    clear h
    go_enter Try.func46, Try.ntmps46
    go_wp2_with ((go_at_call 42; refine (l00In_any _ _ _ _).mono ?_; rintro e w' ⟨rfl, rfl⟩))
    go_ret
    exact ⟨rfl, rfl⟩

set_option maxHeartbeats 400000 in
theorem l24Ask_yes (load ch : Int) (hl : inB load 0 200000000 = true) (hc : inB ch 0 200 = true) (w : World) :
    Calls Try.prog 46 #[.int .i64 load, .int .i64 ch] w fun e w' => e = .returned (.int .i64 0) ∧ w = w' := by
  go_enter Try.func46, Try.ntmps46
  go_wp2_with ((go_at_call 42; refine (l00In_any _ _ _ _).mono ?_; rintro e w' ⟨rfl, rfl⟩))
  go_ret
  exact ⟨rfl, rfl⟩

/-- the load that is carried -/
def car (load : Int) (n : Nat) : Int := rdiv (load * (1000000 - erl load n)) 1000000

theorem car_bd (load : Int) (n : Nat) (h0 : 0 ≤ load) (h1 : load ≤ 200000000) :
    0 ≤ load * (1000000 - erl load n) ∧ load * (1000000 - erl load n) ≤ 200000000000000 ∧ 0 ≤ car load n ∧ car load n ≤ load := by
  obtain ⟨b0, b1⟩ := erl_bd load h0 h1 n
  obtain ⟨p0, p1, x0, x1⟩ := offered load (1000000 - erl load n) h0 h1 (by omega) (by omega)
  exact ⟨p0, p1, x0, x1⟩

set_option maxHeartbeats 400000 in
theorem carriedLoad_any (load ch : Int) (h0 : 0 ≤ load) (h1 : load ≤ 200000000) (hc0 : 0 ≤ ch) (hc1 : ch ≤ 200) (w : World) :
    Calls Try.prog 52 #[.int .i64 load, .int .i64 ch] w fun e w' => e = .returned (.int .i64 (car load ch.toNat)) ∧ ∃ n, w' = w.drewN n := by
  obtain ⟨p0, p1, x0, x1⟩ := car_bd load ch.toNat h0 h1
  obtain ⟨b0, b1⟩ := erl_bd load h0 h1 ch.toNat
  go_enter Try.func52, Try.ntmps52
  go_wp2_with (first | (go_at_call 50; refine (erlangB_any _ _ h0 h1 hc0 hc1 _).mono ?_; rintro e w' ⟨rfl, nq, rfl⟩) | (go_at_call 45; refine (divRound_nn _ _ (by omega) (by omega) (by omega) (by omega) _).mono ?_; rintro e w' ⟨rfl, nq, rfl⟩))
  go_ret
  first | exact ⟨rfl, _, rfl⟩ | exact ⟨rfl, 0, rfl⟩

set_option maxHeartbeats 400000 in
theorem l24Carried_any (load ch : Int) (h0 : 0 ≤ load) (h1 : load ≤ 200000000) (hc0 : 0 ≤ ch) (hc1 : ch ≤ 200) (w : World) :
    Calls Try.prog 51 #[.int .i64 load, .int .i64 ch] w fun e w' => e = .returned (.int .i64 (car load ch.toNat)) ∧ ∃ n, w' = w.drewN n := by
  obtain ⟨p0, p1, x0, x1⟩ := car_bd load ch.toNat h0 h1
  obtain ⟨b0, b1⟩ := erl_bd load h0 h1 ch.toNat
  go_enter Try.func51, Try.ntmps51
  go_wp2_with (first | (go_at_call 47; refine (l24Lost_any _ _ h0 h1 hc0 hc1 _).mono ?_; rintro e w' ⟨rfl, rfl⟩) | (go_at_call 43; refine (l01Div_nn _ _ (by omega) (by omega) (by omega) (by omega) _).mono ?_; rintro e w' ⟨rfl, rfl⟩))
  go_ret
  first | exact ⟨rfl, _, rfl⟩ | exact ⟨rfl, 0, rfl⟩

def vB (load ch : Int) : Int × Int := if inB load 0 200000000 = true ∧ inB ch 0 200 = true then (erl load ch.toNat, 0) else (0, 2)
def vCar (load ch : Int) : Int × Int := if inB load 0 200000000 = true ∧ inB ch 0 200 = true then (car load ch.toNat, 0) else (0, 2)
def vOver (load ch : Int) : Int × Int := if inB load 0 200000000 = true ∧ inB ch 0 200 = true then (load - car load ch.toNat, 0) else (0, 2)

set_option maxHeartbeats 400000 in
theorem ErlangB_impl (load ch : Int) (w : World) :
    Calls Try.prog 18 #[.int .i64 load, .int .i64 ch] w fun e w' => e = .returned (.tuple #[.int .i64 (vB load ch).1, .int .i64 (vB load ch).2]) ∧ ∃ n, w' = w.drewN n := by
  cases hl : inB load 0 200000000
  · have HV : Hid (vB load ch = (0, 2)) := by show _ = _; unfold vB; rw [if_neg (by simp [hl])]
    go_enter Try.func18, Try.ntmps18
    go_wp2_with (first | (go_at_call 48; refine (trafficLoad_any _ _).mono ?_; rintro e w' ⟨rfl, rfl⟩) | (go_at_call 49; refine (trunksOk_any _ _).mono ?_; rintro e w' ⟨rfl, rfl⟩))
    go_ret2
    exact ⟨ret_two HV.out, 0, rfl⟩
  · cases hc : inB ch 0 200
    · have HV : Hid (vB load ch = (0, 2)) := by show _ = _; unfold vB; rw [if_neg (by simp [hc])]
      go_enter Try.func18, Try.ntmps18
      go_wp2_with (first | (go_at_call 48; refine (trafficLoad_any _ _).mono ?_; rintro e w' ⟨rfl, rfl⟩) | (go_at_call 49; refine (trunksOk_any _ _).mono ?_; rintro e w' ⟨rfl, rfl⟩))
      go_ret2
      exact ⟨ret_two HV.out, 0, rfl⟩
    · have HV : Hid (vB load ch = (erl load ch.toNat, 0)) := by show _ = _; unfold vB; rw [if_pos ⟨hl, hc⟩]
      obtain ⟨h0, h1⟩ := inB_yes hl
      obtain ⟨c0, c1⟩ := inB_yes hc
      obtain ⟨_, _, x0, x1⟩ := car_bd load ch.toNat h0 h1
      go_enter Try.func18, Try.ntmps18
      go_wp2_with (first | (go_at_call 48; refine (trafficLoad_any _ _).mono ?_; rintro e w' ⟨rfl, rfl⟩) | (go_at_call 49; refine (trunksOk_any _ _).mono ?_; rintro e w' ⟨rfl, rfl⟩) | (go_at_call 50; refine (erlangB_any _ _ (by omega) (by omega) (by omega) (by omega) _).mono ?_; rintro e w' ⟨rfl, nq, rfl⟩))
      go_ret2
      exact ⟨ret_two HV.out, _, rfl⟩

set_option maxHeartbeats 400000 in
theorem ErlangB_spec (load ch : Int) (w : World) :
    Calls Try.prog 17 #[.int .i64 load, .int .i64 ch] w fun e w' => e = .returned (.tuple #[.int .i64 (vB load ch).1, .int .i64 (vB load ch).2]) ∧ ∃ n, w' = w.drewN n := by
  by_cases hb : inB load 0 200000000 = true ∧ inB ch 0 200 = true
  · have HV : Hid (vB load ch = (erl load ch.toNat, 0)) := by show _ = _; unfold vB; rw [if_pos hb]
    obtain ⟨hl, hc⟩ := hb
    obtain ⟨h0, h1⟩ := inB_yes hl
    obtain ⟨c0, c1⟩ := inB_yes hc
    obtain ⟨_, _, x0, x1⟩ := car_bd load ch.toNat h0 h1
    go_enter Try.func17, Try.ntmps17
    go_wp2_with (first | (go_at_call 46; refine (l24Ask_yes _ _ hl hc _).mono ?_; rintro e w' ⟨rfl, rfl⟩) | (go_at_call 47; refine (l24Lost_any _ _ (by omega) (by omega) (by omega) (by omega) _).mono ?_; rintro e w' ⟨rfl, rfl⟩))
    go_ret2
    first | exact ⟨ret_two HV.out, _, rfl⟩ | exact ⟨ret_two HV.out, 0, rfl⟩
  · have HV : Hid (vB load ch = (0, 2)) := by show _ = _; unfold vB; rw [if_neg hb]
    have HN : Hid (inB load 0 200000000 = false ∨ inB ch 0 200 = false) := by
      show _ ∨ _
      cases hl : inB load 0 200000000 <;> cases hc : inB ch 0 200 <;> simp_all
    clear hb
    go_enter Try.func17, Try.ntmps17
    go_wp2_with ((go_at_call 46; refine (l24Ask_no _ _ HN.out _).mono ?_; rintro e w' ⟨rfl, rfl⟩))
    go_ret2
    exact ⟨ret_two HV.out, 0, rfl⟩

set_option maxHeartbeats 400000 in
theorem walkErlangB (a b : Int) (w : World) :
    Calls Try.prog 4 #[.int .i64 a, .int .i64 b] w fun e w' => e = .returned (.bool true) ∧ Grown w w' := by
  go_enter Try.func4, Try.ntmps4
  go_wp2_with (first | (go_at_call 17; refine (ErlangB_spec _ _ _).mono ?_; rintro e w' ⟨rfl, nq, rfl⟩) | (go_at_call 18; refine (ErlangB_impl _ _ _).mono ?_; rintro e w' ⟨rfl, nq, rfl⟩))
  go_ret
  exact ⟨rfl, grown_drewN (Grown.refl _) _⟩

set_option maxHeartbeats 400000 in
theorem CarriedLoad_impl (load ch : Int) (w : World) :
    Calls Try.prog 20 #[.int .i64 load, .int .i64 ch] w fun e w' => e = .returned (.tuple #[.int .i64 (vCar load ch).1, .int .i64 (vCar load ch).2]) ∧ ∃ n, w' = w.drewN n := by
  cases hl : inB load 0 200000000
  · have HV : Hid (vCar load ch = (0, 2)) := by show _ = _; unfold vCar; rw [if_neg (by simp [hl])]
    go_enter Try.func20, Try.ntmps20
    go_wp2_with (first | (go_at_call 48; refine (trafficLoad_any _ _).mono ?_; rintro e w' ⟨rfl, rfl⟩) | (go_at_call 49; refine (trunksOk_any _ _).mono ?_; rintro e w' ⟨rfl, rfl⟩))
    go_ret2
    exact ⟨ret_two HV.out, 0, rfl⟩
  · cases hc : inB ch 0 200
    · have HV : Hid (vCar load ch = (0, 2)) := by show _ = _; unfold vCar; rw [if_neg (by simp [hc])]
      go_enter Try.func20, Try.ntmps20
      go_wp2_with (first | (go_at_call 48; refine (trafficLoad_any _ _).mono ?_; rintro e w' ⟨rfl, rfl⟩) | (go_at_call 49; refine (trunksOk_any _ _).mono ?_; rintro e w' ⟨rfl, rfl⟩))
      go_ret2
      exact ⟨ret_two HV.out, 0, rfl⟩
    · have HV : Hid (vCar load ch = (car load ch.toNat, 0)) := by show _ = _; unfold vCar; rw [if_pos ⟨hl, hc⟩]
      obtain ⟨h0, h1⟩ := inB_yes hl
      obtain ⟨c0, c1⟩ := inB_yes hc
      obtain ⟨_, _, x0, x1⟩ := car_bd load ch.toNat h0 h1
      go_enter Try.func20, Try.ntmps20
      go_wp2_with (first | (go_at_call 48; refine (trafficLoad_any _ _).mono ?_; rintro e w' ⟨rfl, rfl⟩) | (go_at_call 49; refine (trunksOk_any _ _).mono ?_; rintro e w' ⟨rfl, rfl⟩) | (go_at_call 52; refine (carriedLoad_any _ _ (by omega) (by omega) (by omega) (by omega) _).mono ?_; rintro e w' ⟨rfl, nq, rfl⟩))
      go_ret2
      exact ⟨ret_two HV.out, _, rfl⟩

set_option maxHeartbeats 400000 in
theorem CarriedLoad_spec (load ch : Int) (w : World) :
    Calls Try.prog 19 #[.int .i64 load, .int .i64 ch] w fun e w' => e = .returned (.tuple #[.int .i64 (vCar load ch).1, .int .i64 (vCar load ch).2]) ∧ ∃ n, w' = w.drewN n := by
  by_cases hb : inB load 0 200000000 = true ∧ inB ch 0 200 = true
  · have HV : Hid (vCar load ch = (car load ch.toNat, 0)) := by show _ = _; unfold vCar; rw [if_pos hb]
    obtain ⟨hl, hc⟩ := hb
    obtain ⟨h0, h1⟩ := inB_yes hl
    obtain ⟨c0, c1⟩ := inB_yes hc
    obtain ⟨_, _, x0, x1⟩ := car_bd load ch.toNat h0 h1
    go_enter Try.func19, Try.ntmps19
    go_wp2_with (first | (go_at_call 46; refine (l24Ask_yes _ _ hl hc _).mono ?_; rintro e w' ⟨rfl, rfl⟩) | (go_at_call 51; refine (l24Carried_any _ _ (by omega) (by omega) (by omega) (by omega) _).mono ?_; rintro e w' ⟨rfl, nq, rfl⟩))
    go_ret2
    first | exact ⟨ret_two HV.out, _, rfl⟩ | exact ⟨ret_two HV.out, 0, rfl⟩
  · have HV : Hid (vCar load ch = (0, 2)) := by show _ = _; unfold vCar; rw [if_neg hb]
    have HN : Hid (inB load 0 200000000 = false ∨ inB ch 0 200 = false) := by
      show _ ∨ _
      cases hl : inB load 0 200000000 <;> cases hc : inB ch 0 200 <;> simp_all
    clear hb
    go_enter Try.func19, Try.ntmps19
    go_wp2_with ((go_at_call 46; refine (l24Ask_no _ _ HN.out _).mono ?_; rintro e w' ⟨rfl, rfl⟩))
    go_ret2
    exact ⟨ret_two HV.out, 0, rfl⟩

set_option maxHeartbeats 400000 in
theorem walkCarriedLoad (a b : Int) (w : World) :
    Calls Try.prog 5 #[.int .i64 a, .int .i64 b] w fun e w' => e = .returned (.bool true) ∧ Grown w w' := by
  go_enter Try.func5, Try.ntmps5
  go_wp2_with (first | (go_at_call 19; refine (CarriedLoad_spec _ _ _).mono ?_; rintro e w' ⟨rfl, nq, rfl⟩) | (go_at_call 20; refine (CarriedLoad_impl _ _ _).mono ?_; rintro e w' ⟨rfl, nq, rfl⟩))
  go_ret
  exact ⟨rfl, grown_drewN (Grown.refl _) _⟩

set_option maxHeartbeats 400000 in
theorem OverflowLoad_impl (load ch : Int) (w : World) :
    Calls Try.prog 22 #[.int .i64 load, .int .i64 ch] w fun e w' => e = .returned (.tuple #[.int .i64 (vOver load ch).1, .int .i64 (vOver load ch).2]) ∧ ∃ n, w' = w.drewN n := by
  cases hl : inB load 0 200000000
  · have HV : Hid (vOver load ch = (0, 2)) := by show _ = _; unfold vOver; rw [if_neg (by simp [hl])]
    go_enter Try.func22, Try.ntmps22
    go_wp2_with (first | (go_at_call 48; refine (trafficLoad_any _ _).mono ?_; rintro e w' ⟨rfl, rfl⟩) | (go_at_call 49; refine (trunksOk_any _ _).mono ?_; rintro e w' ⟨rfl, rfl⟩))
    go_ret2
    exact ⟨ret_two HV.out, 0, rfl⟩
  · cases hc : inB ch 0 200
    · have HV : Hid (vOver load ch = (0, 2)) := by show _ = _; unfold vOver; rw [if_neg (by simp [hc])]
      go_enter Try.func22, Try.ntmps22
      go_wp2_with (first | (go_at_call 48; refine (trafficLoad_any _ _).mono ?_; rintro e w' ⟨rfl, rfl⟩) | (go_at_call 49; refine (trunksOk_any _ _).mono ?_; rintro e w' ⟨rfl, rfl⟩))
      go_ret2
      exact ⟨ret_two HV.out, 0, rfl⟩
    · have HV : Hid (vOver load ch = (load - car load ch.toNat, 0)) := by show _ = _; unfold vOver; rw [if_pos ⟨hl, hc⟩]
      obtain ⟨h0, h1⟩ := inB_yes hl
      obtain ⟨c0, c1⟩ := inB_yes hc
      obtain ⟨_, _, x0, x1⟩ := car_bd load ch.toNat h0 h1
      go_enter Try.func22, Try.ntmps22
      go_wp2_with (first | (go_at_call 48; refine (trafficLoad_any _ _).mono ?_; rintro e w' ⟨rfl, rfl⟩) | (go_at_call 49; refine (trunksOk_any _ _).mono ?_; rintro e w' ⟨rfl, rfl⟩) | (go_at_call 52; refine (carriedLoad_any _ _ (by omega) (by omega) (by omega) (by omega) _).mono ?_; rintro e w' ⟨rfl, nq, rfl⟩))
      go_ret2
      exact ⟨ret_two HV.out, _, rfl⟩

set_option maxHeartbeats 400000 in
theorem OverflowLoad_spec (load ch : Int) (w : World) :
    Calls Try.prog 21 #[.int .i64 load, .int .i64 ch] w fun e w' => e = .returned (.tuple #[.int .i64 (vOver load ch).1, .int .i64 (vOver load ch).2]) ∧ ∃ n, w' = w.drewN n := by
  by_cases hb : inB load 0 200000000 = true ∧ inB ch 0 200 = true
  · have HV : Hid (vOver load ch = (load - car load ch.toNat, 0)) := by show _ = _; unfold vOver; rw [if_pos hb]
    obtain ⟨hl, hc⟩ := hb
    obtain ⟨h0, h1⟩ := inB_yes hl
    obtain ⟨c0, c1⟩ := inB_yes hc
    obtain ⟨_, _, x0, x1⟩ := car_bd load ch.toNat h0 h1
    go_enter Try.func21, Try.ntmps21
    go_wp2_with (first | (go_at_call 46; refine (l24Ask_yes _ _ hl hc _).mono ?_; rintro e w' ⟨rfl, rfl⟩) | (go_at_call 51; refine (l24Carried_any _ _ (by omega) (by omega) (by omega) (by omega) _).mono ?_; rintro e w' ⟨rfl, nq, rfl⟩))
    go_ret2
    first | exact ⟨ret_two HV.out, _, rfl⟩ | exact ⟨ret_two HV.out, 0, rfl⟩
  · have HV : Hid (vOver load ch = (0, 2)) := by show _ = _; unfold vOver; rw [if_neg hb]
    have HN : Hid (inB load 0 200000000 = false ∨ inB ch 0 200 = false) := by
      show _ ∨ _
      cases hl : inB load 0 200000000 <;> cases hc : inB ch 0 200 <;> simp_all
    clear hb
    go_enter Try.func21, Try.ntmps21
    go_wp2_with ((go_at_call 46; refine (l24Ask_no _ _ HN.out _).mono ?_; rintro e w' ⟨rfl, rfl⟩))
    go_ret2
    exact ⟨ret_two HV.out, 0, rfl⟩

set_option maxHeartbeats 400000 in
theorem walkOverflowLoad (a b : Int) (w : World) :
    Calls Try.prog 6 #[.int .i64 a, .int .i64 b] w fun e w' => e = .returned (.bool true) ∧ Grown w w' := by
  go_enter Try.func6, Try.ntmps6
  go_wp2_with (first | (go_at_call 21; refine (OverflowLoad_spec _ _ _).mono ?_; rintro e w' ⟨rfl, nq, rfl⟩) | (go_at_call 22; refine (OverflowLoad_impl _ _ _).mono ?_; rintro e w' ⟨rfl, nq, rfl⟩))
  go_ret
  exact ⟨rfl, grown_drewN (Grown.refl _) _⟩

end Go.Proofs.Ytkogkkbiocejkaa.Er
