/-
  Names: contracts of the program's and the reference's functions.
-/
import Derived.Test.YtmnklmaefoidbaaBase0
namespace Go.Proofs.Ytmnklmaefoidbaa.Nm
open Go.RowKit Go.Proofs.Ytmnklmaefoidbaa.Wk

def chr (s : ByteArray) (i : Nat) : Int := ((s.data.toList.getD i 0).toNat : Int)
theorem chr_get (s : ByteArray) (i : Nat) (h : i < s.size) : (s[i].toNat : Int) = chr s i := by
  unfold chr
  have h' : i < s.data.toList.length := by simpa using h
  rw [List.getD_eq_getElem?_getD, List.getElem?_eq_getElem h']
  rfl
theorem chr_bd (s : ByteArray) (i : Nat) : 0 ≤ chr s i ∧ chr s i ≤ 255 := by
  unfold chr
  have := (s.data.toList.getD i 0).toNat_lt
  omega
def smB (c : Int) : Bool := decide (97 ≤ c ∧ c ≤ 122)
def dgB (c : Int) : Bool := decide (48 ≤ c ∧ c ≤ 57)
def okC (s : ByteArray) (i : Nat) : Bool := smB (chr s i) || dgB (chr s i)
def allC (s : ByteArray) : Bool := (List.range s.size).all fun i => okC s i
theorem allC_iff (s : ByteArray) : allC s = true ↔ ∀ i, i < s.size → okC s i = true := by
  unfold allC; rw [List.all_eq_true]; simp
def nameB (s : ByteArray) : Bool := decide (1 ≤ s.size ∧ s.size ≤ 10) && smB (chr s 0) && allC s

set_option maxHeartbeats 400000 in
theorem only_any (s : ByteArray) (w : World) (hs : s.size ≤ 9223372036854775807) : Calls Try.prog 69 #[.string s] w fun e w' => e = .returned (.bool (allC s)) ∧ w = w' := by
  go_enter Try.func69, Try.ntmps69
  go_wp2
  go_loop [3, 4, 7] (fun _ _ i => ∃ k : Nat, k ≤ s.size ∧ i = .int .i64 (k : Int) ∧ ∀ j, j < k → okC s j = true) (fun _ _ i => s.size - (intOf i).toNat)
  case atStart => exact ⟨0, Nat.zero_le _, rfl, fun j hj => absurd hj (by omega)⟩
  case round =>
    obtain ⟨k, hk, rfl, hall⟩ := hrel
    have HA := Lib.hid hall
    clear hall
    by_cases hlt : k < s.size
    · obtain ⟨c, hc, hc0⟩ : ∃ c : Int, (s[k].toNat : Int) = c ∧ Hid (chr s k = c) := ⟨_, rfl, (chr_get s k hlt).symm⟩
      cases hok : okC s k
      · have HF : Hid (allC s = false) := by
          show _ = _
          cases h : allC s
          · rfl
          · have := (allC_iff s).1 h k hlt; rw [hok] at this; cases this
        unfold okC smB dgB at hok
        rw [hc0.out] at hok
        simp at hok
        have h1 : (decide (c < 97) || decide (122 < c)) = true := by simp; omega
        by_cases h2 : c < 97
        · have d1 : decide (c < 97) = true := by simp; omega
          by_cases h3 : c < 48
          · have d2 : decide (c < 48) = true := by simp; omega
            clear hok h1
            go_wp2
            go_ret
            exact ⟨ret_bool HF.out.symm, rfl⟩
          · have d2 : decide (c < 48) = false := by simp; omega
            have d3 : decide (57 < c) = true := by simp; omega
            clear hok h1
            go_wp2
            go_ret
            exact ⟨ret_bool HF.out.symm, rfl⟩
        · have d1 : decide (c < 97) = false := by simp; omega
          have d4 : decide (122 < c) = true := by simp; omega
          have d2 : decide (c < 48) = false := by simp; omega
          have d3 : decide (57 < c) = true := by simp; omega
          clear hok h1
          go_wp2
          go_ret
          exact ⟨ret_bool HF.out.symm, rfl⟩
      · have HK := Lib.hid hok
        unfold okC smB dgB at hok
        rw [hc0.out] at hok
        simp at hok
        by_cases h2 : c < 97
        · have d1 : decide (c < 97) = true := by simp; omega
          have d2 : decide (c < 48) = false := by simp; omega
          have d3 : decide (57 < c) = false := by simp; omega
          clear hok
          go_wp2
          go_round
          case rel => exact ⟨k + 1, by omega, by go_num, fun j hj => by
              rcases Nat.lt_or_eq_of_le (Nat.lt_succ_iff.1 hj) with h | h
              · exact HA.out j h
              · subst h; exact HK.out⟩
          case measure => simp [intOf]; omega
        · have d1 : decide (c < 97) = false := by simp; omega
          have d4 : decide (122 < c) = false := by simp; omega
          clear hok
          go_wp2
          go_round
          case rel => exact ⟨k + 1, by omega, by go_num, fun j hj => by
              rcases Nat.lt_or_eq_of_le (Nat.lt_succ_iff.1 hj) with h | h
              · exact HA.out j h
              · subst h; exact HK.out⟩
          case measure => simp [intOf]; omega
    · obtain rfl : k = s.size := by omega
      have HF : Hid (allC s = true) := (allC_iff s).2 HA.out
      go_wp2
      go_ret
      exact ⟨ret_bool HF.out.symm, rfl⟩


theorem nameB_no {s : ByteArray} (h : ¬ (1 ≤ s.size ∧ s.size ≤ 10) ∨ smB (chr s 0) = false) : nameB s = false := by
  unfold nameB
  rcases h with h | h
  · have : decide (1 ≤ s.size ∧ s.size ≤ 10) = false := by simpa using h
    rw [this]; rfl
  · rw [h]; simp

set_option maxHeartbeats 400000 in
theorem IsName_any (s : ByteArray) (w : World) (hs : s.size ≤ 9223372036854775807) : Calls Try.prog 61 #[.string s] w fun e w' => e = .returned (.bool (nameB s)) ∧ w = w' := by
  by_cases h1 : s.size < 1
  · have HF : Hid (nameB s = false) := nameB_no (.inl (by omega))
    have d1 : decide ((s.size : Int) < 1) = true := by simp; omega
    go_enter Try.func61, Try.ntmps61
    go_wp2
    go_ret
    exact ⟨ret_bool HF.out.symm, rfl⟩
  · have d1 : decide ((s.size : Int) < 1) = false := by simp; omega
    by_cases h2 : 10 < s.size
    · have HF : Hid (nameB s = false) := nameB_no (.inl (by omega))
      have d2 : decide ((10 : Int) < (s.size : Int)) = true := by simp; omega
      go_enter Try.func61, Try.ntmps61
      go_wp2
      go_ret
      exact ⟨ret_bool HF.out.symm, rfl⟩
    · have d2 : decide ((10 : Int) < (s.size : Int)) = false := by simp; omega
      have h0 : 0 < s.size := by omega
      obtain ⟨c, hc, hc0⟩ : ∃ c : Int, (s[0].toNat : Int) = c ∧ Hid (chr s 0 = c) := ⟨_, rfl, (chr_get s 0 h0).symm⟩
      by_cases h3 : c < 97
      · have HF : Hid (nameB s = false) := nameB_no (.inr (by rw [hc0.out]; unfold smB; simp; omega))
        have d3 : decide (c < 97) = true := by simp; omega
        go_enter Try.func61, Try.ntmps61
        go_wp2
        go_ret
        exact ⟨ret_bool HF.out.symm, rfl⟩
      · have d3 : decide (c < 97) = false := by simp; omega
        by_cases h4 : 122 < c
        · have HF : Hid (nameB s = false) := nameB_no (.inr (by rw [hc0.out]; unfold smB; simp; omega))
          have d4 : decide (122 < c) = true := by simp; omega
          go_enter Try.func61, Try.ntmps61
          go_wp2
          go_ret
          exact ⟨ret_bool HF.out.symm, rfl⟩
        · have d4 : decide (122 < c) = false := by simp; omega
          have HF : Hid (nameB s = allC s) := by
            show _ = _
            unfold nameB
            rw [hc0.out]
            have e1 : decide (1 ≤ s.size ∧ s.size ≤ 10) = true := by simp; omega
            have e2 : smB c = true := by unfold smB; simp; omega
            rw [e1, e2]; rfl
          go_enter Try.func61, Try.ntmps61
          go_wp2_with ((go_at_call 69; refine (only_any _ _ hs).mono ?_; rintro e w' ⟨rfl, rfl⟩))
          go_ret
          exact ⟨ret_bool HF.out.symm, rfl⟩

set_option maxHeartbeats 400000 in
theorem l01Small_any (c : Int) (w : World) : Calls Try.prog 62 #[.int .u8 c] w fun e w' => e = .returned (.bool (smB c)) ∧ w = w' := by
  by_cases h1 : 97 ≤ c
  · have d1 : decide (97 ≤ c) = true := by simp; omega
    by_cases h2 : c ≤ 122
    · have d2 : decide (c ≤ 122) = true := by simp; omega
      go_enter Try.func62, Try.ntmps62
      go_wp2
      go_ret
      exact ⟨ret_bool (by unfold smB; simp; omega), rfl⟩
    · have d2 : decide (c ≤ 122) = false := by simp; omega
      go_enter Try.func62, Try.ntmps62
      go_wp2
      go_ret
      exact ⟨ret_bool (by unfold smB; simp; omega), rfl⟩
  · have d1 : decide (97 ≤ c) = false := by simp; omega
    go_enter Try.func62, Try.ntmps62
    go_wp2
    go_ret
    exact ⟨ret_bool (by unfold smB; simp; omega), rfl⟩

set_option maxHeartbeats 400000 in
theorem l01Digit_any (c : Int) (w : World) : Calls Try.prog 63 #[.int .u8 c] w fun e w' => e = .returned (.bool (dgB c)) ∧ w = w' := by
  by_cases h1 : 48 ≤ c
  · have d1 : decide (48 ≤ c) = true := by simp; omega
    by_cases h2 : c ≤ 57
    · have d2 : decide (c ≤ 57) = true := by simp; omega
      go_enter Try.func63, Try.ntmps63
      go_wp2
      go_ret
      exact ⟨ret_bool (by unfold dgB; simp; omega), rfl⟩
    · have d2 : decide (c ≤ 57) = false := by simp; omega
      go_enter Try.func63, Try.ntmps63
      go_wp2
      go_ret
      exact ⟨ret_bool (by unfold dgB; simp; omega), rfl⟩
  · have d1 : decide (48 ≤ c) = false := by simp; omega
    go_enter Try.func63, Try.ntmps63
    go_wp2
    go_ret
    exact ⟨ret_bool (by unfold dgB; simp; omega), rfl⟩

theorem toList_nil {s : ByteArray} (h : s.size = 0) : s.toList = [] := by
  rw [ByteArray.toList_eq]
  exact List.eq_nil_of_length_eq_zero (by simpa using h)
theorem toList_ne {s : ByteArray} (h : 0 < s.size) : ¬ s.toList = [] := by
  rw [ByteArray.toList_eq]
  intro e
  have : s.data.toList.length = 0 := by rw [e]; rfl
  have h2 : s.data.toList.length = s.size := by simp
  omega

set_option maxHeartbeats 400000 in
theorem l01Name_any (s : ByteArray) (w : World) (hs : s.size ≤ 9223372036854775807) : Calls Try.prog 46 #[.string s] w fun e w' => e = .returned (.bool (nameB s)) ∧ w = w' := by
  by_cases h1 : s.size < 1
  · have HF : Hid (nameB s = false) := nameB_no (.inl (by omega))
    have hn := toList_nil (s := s) (by omega)
    have hn2 : s.toList.isEmpty = true := by rw [hn]; rfl
    go_enter Try.func46, Try.ntmps46
    go_wp2
    go_ret
    exact ⟨ret_bool HF.out.symm, rfl⟩
  · have hn := toList_ne (s := s) (by omega)
    have hn2 : s.toList.isEmpty = false := by cases h : s.toList with
      | nil => exact absurd h hn
      | cons _ _ => rfl
    by_cases h2 : 10 < s.size
    · have HF : Hid (nameB s = false) := nameB_no (.inl (by omega))
      have d2 : decide ((10 : Int) < (s.size : Int)) = true := by simp; omega
      go_enter Try.func46, Try.ntmps46
      go_wp2
      go_ret
      exact ⟨ret_bool HF.out.symm, rfl⟩
    · have d2 : decide ((10 : Int) < (s.size : Int)) = false := by simp; omega
      have h0 : 0 < s.size := by omega
      obtain ⟨c, hc, hc0⟩ : ∃ c : Int, (s[0].toNat : Int) = c ∧ Hid (chr s 0 = c) := ⟨_, rfl, (chr_get s 0 h0).symm⟩
      cases h3 : smB c
      · have HF : Hid (nameB s = false) := nameB_no (.inr (by rw [hc0.out]; exact h3))
        go_enter Try.func46, Try.ntmps46
        go_wp2_with ((go_at_call 62; refine (l01Small_any _ _).mono ?_; rintro e w' ⟨rfl, rfl⟩))
        go_ret
        exact ⟨ret_bool HF.out.symm, rfl⟩
      · have HF : Hid (nameB s = allC s) := by
          show _ = _
          unfold nameB
          rw [hc0.out, h3]
          have e1 : decide (1 ≤ s.size ∧ s.size ≤ 10) = true := by simp; omega
          rw [e1]; rfl
        go_enter Try.func46, Try.ntmps46
        go_wp2_with ((go_at_call 62; refine (l01Small_any _ _).mono ?_; rintro e w' ⟨rfl, rfl⟩))
        clear hn hn2 d2 h3 hc
        go_loop [3] (fun i => ∃ k : Nat, k ≤ s.size ∧ i = .int .i64 (k : Int) ∧ ∀ j, j < k → okC s j = true) (fun i => s.size - (intOf i).toNat)
        case atStart => exact ⟨0, Nat.zero_le _, rfl, fun j hj => absurd hj (by omega)⟩
        case round =>
          obtain ⟨k, hk, rfl, hall⟩ := hrel
          have HA := Lib.hid hall
          clear hall
          by_cases hlt : k < s.size
          · obtain ⟨d, hd, hd0⟩ : ∃ d : Int, (s[k].toNat : Int) = d ∧ Hid (chr s k = d) := ⟨_, rfl, (chr_get s k hlt).symm⟩
            cases hs1 : smB d
            · cases hs2 : dgB d
              · have HG : Hid (allC s = false) := by
                  show _ = _
                  cases h : allC s
                  · rfl
                  · have := (allC_iff s).1 h k hlt
                    unfold okC at this; rw [hd0.out, hs1, hs2] at this; cases this
                go_wp2_with (first | (go_at_call 62; refine (l01Small_any _ _).mono ?_; rintro e w' ⟨rfl, rfl⟩) | (go_at_call 63; refine (l01Digit_any _ _).mono ?_; rintro e w' ⟨rfl, rfl⟩))
                go_ret
                exact ⟨ret_bool (by rw [HF.out, HG.out]), rfl⟩
              · go_wp2_with (first | (go_at_call 62; refine (l01Small_any _ _).mono ?_; rintro e w' ⟨rfl, rfl⟩) | (go_at_call 63; refine (l01Digit_any _ _).mono ?_; rintro e w' ⟨rfl, rfl⟩))
                go_round
                case rel => exact ⟨k + 1, by omega, by go_num, fun j hj => by
                    rcases Nat.lt_or_eq_of_le (Nat.lt_succ_iff.1 hj) with h | h
                    · exact HA.out j h
                    · subst h; unfold okC; rw [hd0.out, hs1, hs2]; rfl⟩
                case measure => simp [intOf]; omega
            · go_wp2_with (first | (go_at_call 62; refine (l01Small_any _ _).mono ?_; rintro e w' ⟨rfl, rfl⟩) | (go_at_call 63; refine (l01Digit_any _ _).mono ?_; rintro e w' ⟨rfl, rfl⟩))
              go_round
              case rel => exact ⟨k + 1, by omega, by go_num, fun j hj => by
                  rcases Nat.lt_or_eq_of_le (Nat.lt_succ_iff.1 hj) with h | h
                  · exact HA.out j h
                  · subst h; unfold okC; rw [hd0.out, hs1]; rfl⟩
              case measure => simp [intOf]; omega
          · obtain rfl : k = s.size := by omega
            have HG : Hid (allC s = true) := (allC_iff s).2 HA.out
            go_wp2
            go_ret
            exact ⟨ret_bool (by rw [HF.out, HG.out]), rfl⟩

end Go.Proofs.Ytmnklmaefoidbaa.Nm
