/-
  OfferedBy: the program's and the reference's answers are equal, for all arguments. No condition.
-/
import Derived.Test.YtkogkkbiocejkaaBase
namespace Go.Proofs.Ytkogkkbiocejkaa.Of
open Go.RowKit Go.Proofs.Ytkogkkbiocejkaa.Mt Go.Proofs.Ytkogkkbiocejkaa.Wk

def val (u c s : Int) : Int × Int :=
  if inB u 0 1000000 = true ∧ inB c 0 1000000 = true ∧ inB s 0 3600 = true then
    if 200000000 < rdiv (u * c * s) 3600 then (0, 5) else (rdiv (u * c * s) 3600, 0)
  else (0, 2)

theorem prod (u c s : Int) (hu : inB u 0 1000000 = true) (hc : inB c 0 1000000 = true) (hs : inB s 0 3600 = true) :
    0 ≤ u * c ∧ u * c ≤ 1000000000000 ∧ 0 ≤ u * c * s ∧ u * c * s ≤ 3600000000000000 := by
  have hu := inB_yes hu
  have hc := inB_yes hc
  have hs := inB_yes hs
  have p0 : 0 ≤ u * c := Int.mul_nonneg hu.1 hc.1
  have p1 : u * c ≤ 1000000 * 1000000 := Int.mul_le_mul hu.2 hc.2 hc.1 (by omega)
  have q0 : 0 ≤ u * c * s := Int.mul_nonneg p0 hs.1
  have q1 : u * c * s ≤ 1000000000000 * 3600 := Int.mul_le_mul (by omega) hs.2 hs.1 (by omega)
  exact ⟨p0, by omega, q0, by omega⟩

set_option maxHeartbeats 400000 in
theorem spec_any (u c s : Int) (w : World) :
    Calls Try.prog 15 #[.int .i64 u, .int .i64 c, .int .i64 s] w fun e w' => e = .returned (.tuple #[.int .i64 (val u c s).1, .int .i64 (val u c s).2]) ∧ ∃ n, w' = w.drewN n := by
  cases hu : inB u 0 1000000
  · have HV : Hid (val u c s = (0, 2)) := by show _ = _; unfold val; rw [if_neg (by simp [hu])]
    go_enter Try.func15, Try.ntmps15
    go_wp2_with ((go_at_call 42; refine (l00In_any _ _ _ _).mono ?_; rintro e w' ⟨rfl, rfl⟩))
    go_ret2
    exact ⟨ret_two HV.out, 0, rfl⟩
  · cases hc : inB c 0 1000000
    · have HV : Hid (val u c s = (0, 2)) := by show _ = _; unfold val; rw [if_neg (by simp [hc])]
      go_enter Try.func15, Try.ntmps15
      go_wp2_with ((go_at_call 42; refine (l00In_any _ _ _ _).mono ?_; rintro e w' ⟨rfl, rfl⟩))
      go_ret2
      exact ⟨ret_two HV.out, 0, rfl⟩
    · cases hs : inB s 0 3600
      · have HV : Hid (val u c s = (0, 2)) := by show _ = _; unfold val; rw [if_neg (by simp [hs])]
        go_enter Try.func15, Try.ntmps15
        go_wp2_with ((go_at_call 42; refine (l00In_any _ _ _ _).mono ?_; rintro e w' ⟨rfl, rfl⟩))
        go_ret2
        exact ⟨ret_two HV.out, 0, rfl⟩
      · obtain ⟨p0, p1, q0, q1⟩ := prod u c s hu hc hs
        by_cases hb : 200000000 < rdiv (u * c * s) 3600
        · have HV : Hid (val u c s = (0, 5)) := by show _ = _; unfold val; rw [if_pos ⟨hu, hc, hs⟩, if_pos hb]
          go_enter Try.func15, Try.ntmps15
          go_wp2_with (first | (go_at_call 42; refine (l00In_any _ _ _ _).mono ?_; rintro e w' ⟨rfl, rfl⟩) | (go_at_call 43; refine (l01Div_nn _ _ (by omega) (by omega) (by omega) (by omega) _).mono ?_; rintro e w' ⟨rfl, rfl⟩))
          go_ret2
          exact ⟨ret_two HV.out, 0, rfl⟩
        · have HV : Hid (val u c s = (rdiv (u * c * s) 3600, 0)) := by show _ = _; unfold val; rw [if_pos ⟨hu, hc, hs⟩, if_neg hb]
          go_enter Try.func15, Try.ntmps15
          go_wp2_with (first | (go_at_call 42; refine (l00In_any _ _ _ _).mono ?_; rintro e w' ⟨rfl, rfl⟩) | (go_at_call 43; refine (l01Div_nn _ _ (by omega) (by omega) (by omega) (by omega) _).mono ?_; rintro e w' ⟨rfl, rfl⟩))
          go_ret2
          exact ⟨ret_two HV.out, 0, rfl⟩

set_option maxHeartbeats 400000 in
theorem impl_any (u c s : Int) (w : World) :
    Calls Try.prog 16 #[.int .i64 u, .int .i64 c, .int .i64 s] w fun e w' => e = .returned (.tuple #[.int .i64 (val u c s).1, .int .i64 (val u c s).2]) ∧ ∃ n, w' = w.drewN n := by
  cases hu : inB u 0 1000000
  · have HV : Hid (val u c s = (0, 2)) := by show _ = _; unfold val; rw [if_neg (by simp [hu])]
    go_enter Try.func16, Try.ntmps16
    go_wp2_with ((go_at_call 44; refine (within_any _ _ _ _).mono ?_; rintro e w' ⟨rfl, rfl⟩))
    go_ret2
    exact ⟨ret_two HV.out, 0, rfl⟩
  · cases hc : inB c 0 1000000
    · have HV : Hid (val u c s = (0, 2)) := by show _ = _; unfold val; rw [if_neg (by simp [hc])]
      go_enter Try.func16, Try.ntmps16
      go_wp2_with ((go_at_call 44; refine (within_any _ _ _ _).mono ?_; rintro e w' ⟨rfl, rfl⟩))
      go_ret2
      exact ⟨ret_two HV.out, 0, rfl⟩
    · cases hs : inB s 0 3600
      · have HV : Hid (val u c s = (0, 2)) := by show _ = _; unfold val; rw [if_neg (by simp [hs])]
        go_enter Try.func16, Try.ntmps16
        go_wp2_with ((go_at_call 44; refine (within_any _ _ _ _).mono ?_; rintro e w' ⟨rfl, rfl⟩))
        go_ret2
        exact ⟨ret_two HV.out, 0, rfl⟩
      · obtain ⟨p0, p1, q0, q1⟩ := prod u c s hu hc hs
        by_cases hb : 200000000 < rdiv (u * c * s) 3600
        · have HV : Hid (val u c s = (0, 5)) := by show _ = _; unfold val; rw [if_pos ⟨hu, hc, hs⟩, if_pos hb]
          go_enter Try.func16, Try.ntmps16
          go_wp2_with (first | (go_at_call 44; refine (within_any _ _ _ _).mono ?_; rintro e w' ⟨rfl, rfl⟩) | (go_at_call 45; refine (divRound_nn _ _ (by omega) (by omega) (by omega) (by omega) _).mono ?_; rintro e w' ⟨rfl, nq, rfl⟩))
          go_ret2
          exact ⟨ret_two HV.out, _, rfl⟩
        · have HV : Hid (val u c s = (rdiv (u * c * s) 3600, 0)) := by show _ = _; unfold val; rw [if_pos ⟨hu, hc, hs⟩, if_neg hb]
          go_enter Try.func16, Try.ntmps16
          go_wp2_with (first | (go_at_call 44; refine (within_any _ _ _ _).mono ?_; rintro e w' ⟨rfl, rfl⟩) | (go_at_call 45; refine (divRound_nn _ _ (by omega) (by omega) (by omega) (by omega) _).mono ?_; rintro e w' ⟨rfl, nq, rfl⟩))
          go_ret2
          exact ⟨ret_two HV.out, _, rfl⟩

set_option maxHeartbeats 400000 in
theorem walk (u c s : Int) (w : World) :
    Calls Try.prog 3 #[.int .i64 u, .int .i64 c, .int .i64 s] w fun e w' => e = .returned (.bool true) ∧ Grown w w' := by
  go_enter Try.func3, Try.ntmps3
  go_wp2_with (first | (go_at_call 15; refine (spec_any _ _ _ _).mono ?_; rintro e w' ⟨rfl, nq, rfl⟩) | (go_at_call 16; refine (impl_any _ _ _ _).mono ?_; rintro e w' ⟨rfl, nq, rfl⟩))
  go_ret
  exact ⟨rfl, grown_drewN (Grown.refl _) _⟩

end Go.Proofs.Ytkogkkbiocejkaa.Of
