/-
  What the law FnBands rests on, part 3.
-/
import Derived.Test.YtmnklmaefoidbaaDoorZFnBands2
namespace Go.Proofs.YtmnklmaefoidbaaDoor.Nm
open Go.RowKit Go.Proofs.YtmnklmaefoidbaaDoor.Wk
def chr (s : ByteArray) (i : Nat) : Int := ((s.data.toList.getD i 0).toNat : Int)
theorem chr_get (s : ByteArray) (i : Nat) (h : i < s.size) : (s[i].toNat : Int) = chr s i := by
  unfold chr
  have h' : i < s.data.toList.length := by simpa using h
  rw [List.getD_eq_getElem?_getD, List.getElem?_eq_getElem h']
  rfl
def smB (c : Int) : Bool := decide (97 ≤ c ∧ c ≤ 122)
def dgB (c : Int) : Bool := decide (48 ≤ c ∧ c ≤ 57)
def okC (s : ByteArray) (i : Nat) : Bool := smB (chr s i) || dgB (chr s i)
def allC (s : ByteArray) : Bool := (List.range s.size).all fun i => okC s i
theorem allC_iff (s : ByteArray) : allC s = true ↔ ∀ i, i < s.size → okC s i = true := by
  unfold allC; rw [List.all_eq_true]; simp
def nameB (s : ByteArray) : Bool := decide (1 ≤ s.size ∧ s.size ≤ 10) && smB (chr s 0) && allC s
set_option maxHeartbeats 400000 in
theorem only_any (s : ByteArray) (w : World) (hs : s.size ≤ 9223372036854775807) : Calls Tryd.prog 51 #[.string s] w fun e w' => e = .returned (.bool (allC s)) ∧ w = w' := by
  go_enter Tryd.func51, Tryd.ntmps51
  go_wp2
  go_loop [3, 4, 7] (fun _ _ i => ∃ k : Nat, k ≤ s.size ∧ i = .int .i64 (k : Int) ∧ ∀ j, j < k → okC s j = true) (fun _ _ i => s.size - (intOf i).toNat)
  case atStart => exact ⟨0, Nat.zero_le _, rfl, fun j hj => absurd hj (by omega)⟩
  case round =>
    obtain ⟨k, hk, rfl, hall⟩ := hrel
    have HA := Lib.hid hall
    clear hall
    by_cases hlt : k < s.size
    · obtain ⟨c, hc, hc0⟩ : ∃ c : Int, (s[k].toNat : Int) = c ∧ Hid (chr s k = c) := ⟨_, rfl, (chr_get s k hlt).symm⟩
      cases hok : okC s k
      · have HF : Hid (allC s = false) := by
          show _ = _
          cases h : allC s
          · rfl
          · have := (allC_iff s).1 h k hlt; rw [hok] at this; cases this
        unfold okC smB dgB at hok
        rw [hc0.out] at hok
        simp at hok
        have h1 : (decide (c < 97) || decide (122 < c)) = true := by simp; omega
        by_cases h2 : c < 97
        · have d1 : decide (c < 97) = true := by simp; omega
          by_cases h3 : c < 48
          · have d2 : decide (c < 48) = true := by simp; omega
            clear hok h1
            go_wp2
            go_ret
            exact ⟨ret_bool HF.out.symm, rfl⟩
          · have d2 : decide (c < 48) = false := by simp; omega
            have d3 : decide (57 < c) = true := by simp; omega
            clear hok h1
            go_wp2
            go_ret
            exact ⟨ret_bool HF.out.symm, rfl⟩
        · have d1 : decide (c < 97) = false := by simp; omega
          have d4 : decide (122 < c) = true := by simp; omega
          have d2 : decide (c < 48) = false := by simp; omega
          have d3 : decide (57 < c) = true := by simp; omega
          clear hok h1
          go_wp2
          go_ret
          exact ⟨ret_bool HF.out.symm, rfl⟩
      · have HK := Lib.hid hok
        unfold okC smB dgB at hok
        rw [hc0.out] at hok
        simp at hok
        by_cases h2 : c < 97
        · have d1 : decide (c < 97) = true := by simp; omega
          have d2 : decide (c < 48) = false := by simp; omega
          have d3 : decide (57 < c) = false := by simp; omega
          clear hok
          go_wp2
          go_round
          case rel => exact ⟨k + 1, by omega, by go_num, fun j hj => by
              rcases Nat.lt_or_eq_of_le (Nat.lt_succ_iff.1 hj) with h | h
              · exact HA.out j h
              · subst h; exact HK.out⟩
          case measure => simp [intOf]; omega
        · have d1 : decide (c < 97) = false := by simp; omega
          have d4 : decide (122 < c) = false := by simp; omega
          clear hok
          go_wp2
          go_round
          case rel => exact ⟨k + 1, by omega, by go_num, fun j hj => by
              rcases Nat.lt_or_eq_of_le (Nat.lt_succ_iff.1 hj) with h | h
              · exact HA.out j h
              · subst h; exact HK.out⟩
          case measure => simp [intOf]; omega
    · obtain rfl : k = s.size := by omega
      have HF : Hid (allC s = true) := (allC_iff s).2 HA.out
      go_wp2
      go_ret
      exact ⟨ret_bool HF.out.symm, rfl⟩
theorem nameB_no {s : ByteArray} (h : ¬ (1 ≤ s.size ∧ s.size ≤ 10) ∨ smB (chr s 0) = false) : nameB s = false := by
  unfold nameB
  rcases h with h | h
  · have : decide (1 ≤ s.size ∧ s.size ≤ 10) = false := by simpa using h
    rw [this]; rfl
  · rw [h]; simp
set_option maxHeartbeats 400000 in
theorem IsName_any (s : ByteArray) (w : World) (hs : s.size ≤ 9223372036854775807) : Calls Tryd.prog 40 #[.string s] w fun e w' => e = .returned (.bool (nameB s)) ∧ w = w' := by
  by_cases h1 : s.size < 1
  · have HF : Hid (nameB s = false) := nameB_no (.inl (by omega))
    have d1 : decide ((s.size : Int) < 1) = true := by simp; omega
    go_enter Tryd.func40, Tryd.ntmps40
    go_wp2
    go_ret
    exact ⟨ret_bool HF.out.symm, rfl⟩
  · have d1 : decide ((s.size : Int) < 1) = false := by simp; omega
    by_cases h2 : 10 < s.size
    · have HF : Hid (nameB s = false) := nameB_no (.inl (by omega))
      have d2 : decide ((10 : Int) < (s.size : Int)) = true := by simp; omega
      go_enter Tryd.func40, Tryd.ntmps40
      go_wp2
      go_ret
      exact ⟨ret_bool HF.out.symm, rfl⟩
    · have d2 : decide ((10 : Int) < (s.size : Int)) = false := by simp; omega
      have h0 : 0 < s.size := by omega
      obtain ⟨c, hc, hc0⟩ : ∃ c : Int, (s[0].toNat : Int) = c ∧ Hid (chr s 0 = c) := ⟨_, rfl, (chr_get s 0 h0).symm⟩
      by_cases h3 : c < 97
      · have HF : Hid (nameB s = false) := nameB_no (.inr (by rw [hc0.out]; unfold smB; simp; omega))
        have d3 : decide (c < 97) = true := by simp; omega
        go_enter Tryd.func40, Tryd.ntmps40
        go_wp2
        go_ret
        exact ⟨ret_bool HF.out.symm, rfl⟩
      · have d3 : decide (c < 97) = false := by simp; omega
        by_cases h4 : 122 < c
        · have HF : Hid (nameB s = false) := nameB_no (.inr (by rw [hc0.out]; unfold smB; simp; omega))
          have d4 : decide (122 < c) = true := by simp; omega
          go_enter Tryd.func40, Tryd.ntmps40
          go_wp2
          go_ret
          exact ⟨ret_bool HF.out.symm, rfl⟩
        · have d4 : decide (122 < c) = false := by simp; omega
          have HF : Hid (nameB s = allC s) := by
            show _ = _
            unfold nameB
            rw [hc0.out]
            have e1 : decide (1 ≤ s.size ∧ s.size ≤ 10) = true := by simp; omega
            have e2 : smB c = true := by unfold smB; simp; omega
            rw [e1, e2]; rfl
          go_enter Tryd.func40, Tryd.ntmps40
          go_wp2_with ((go_at_call 51; refine (only_any _ _ hs).mono ?_; rintro e w' ⟨rfl, rfl⟩))
          go_ret
          exact ⟨ret_bool HF.out.symm, rfl⟩
set_option maxHeartbeats 400000 in
theorem l01Small_any (c : Int) (w : World) : Calls Tryd.prog 61 #[.int .u8 c] w fun e w' => e = .returned (.bool (smB c)) ∧ w = w' := by
  by_cases h1 : 97 ≤ c
  · have d1 : decide (97 ≤ c) = true := by simp; omega
    by_cases h2 : c ≤ 122
    · have d2 : decide (c ≤ 122) = true := by simp; omega
      go_enter Tryd.func61, Tryd.ntmps61
      go_wp2
      go_ret
      exact ⟨ret_bool (by unfold smB; simp; omega), rfl⟩
    · have d2 : decide (c ≤ 122) = false := by simp; omega
      go_enter Tryd.func61, Tryd.ntmps61
      go_wp2
      go_ret
      exact ⟨ret_bool (by unfold smB; simp; omega), rfl⟩
  · have d1 : decide (97 ≤ c) = false := by simp; omega
    go_enter Tryd.func61, Tryd.ntmps61
    go_wp2
    go_ret
    exact ⟨ret_bool (by unfold smB; simp; omega), rfl⟩
set_option maxHeartbeats 400000 in
theorem l01Digit_any (c : Int) (w : World) : Calls Tryd.prog 62 #[.int .u8 c] w fun e w' => e = .returned (.bool (dgB c)) ∧ w = w' := by
  by_cases h1 : 48 ≤ c
  · have d1 : decide (48 ≤ c) = true := by simp; omega
    by_cases h2 : c ≤ 57
    · have d2 : decide (c ≤ 57) = true := by simp; omega
      go_enter Tryd.func62, Tryd.ntmps62
      go_wp2
      go_ret
      exact ⟨ret_bool (by unfold dgB; simp; omega), rfl⟩
    · have d2 : decide (c ≤ 57) = false := by simp; omega
      go_enter Tryd.func62, Tryd.ntmps62
      go_wp2
      go_ret
      exact ⟨ret_bool (by unfold dgB; simp; omega), rfl⟩
  · have d1 : decide (48 ≤ c) = false := by simp; omega
    go_enter Tryd.func62, Tryd.ntmps62
    go_wp2
    go_ret
    exact ⟨ret_bool (by unfold dgB; simp; omega), rfl⟩
theorem toList_nil {s : ByteArray} (h : s.size = 0) : s.toList = [] := by
  rw [ByteArray.toList_eq]
  exact List.eq_nil_of_length_eq_zero (by simpa using h)
theorem toList_ne {s : ByteArray} (h : 0 < s.size) : ¬ s.toList = [] := by
  rw [ByteArray.toList_eq]
  intro e
  have : s.data.toList.length = 0 := by rw [e]; rfl
  have h2 : s.data.toList.length = s.size := by simp
  omega
set_option maxHeartbeats 400000 in
theorem l01Name_any (s : ByteArray) (w : World) (hs : s.size ≤ 9223372036854775807) : Calls Tryd.prog 49 #[.string s] w fun e w' => e = .returned (.bool (nameB s)) ∧ w = w' := by
  by_cases h1 : s.size < 1
  · have HF : Hid (nameB s = false) := nameB_no (.inl (by omega))
    have hn := toList_nil (s := s) (by omega)
    have hn2 : s.toList.isEmpty = true := by rw [hn]; rfl
    go_enter Tryd.func49, Tryd.ntmps49
    go_wp2
    go_ret
    exact ⟨ret_bool HF.out.symm, rfl⟩
  · have hn := toList_ne (s := s) (by omega)
    have hn2 : s.toList.isEmpty = false := by cases h : s.toList with
      | nil => exact absurd h hn
      | cons _ _ => rfl
    by_cases h2 : 10 < s.size
    · have HF : Hid (nameB s = false) := nameB_no (.inl (by omega))
      have d2 : decide ((10 : Int) < (s.size : Int)) = true := by simp; omega
      go_enter Tryd.func49, Tryd.ntmps49
      go_wp2
      go_ret
      exact ⟨ret_bool HF.out.symm, rfl⟩
    · have d2 : decide ((10 : Int) < (s.size : Int)) = false := by simp; omega
      have h0 : 0 < s.size := by omega
      obtain ⟨c, hc, hc0⟩ : ∃ c : Int, (s[0].toNat : Int) = c ∧ Hid (chr s 0 = c) := ⟨_, rfl, (chr_get s 0 h0).symm⟩
      cases h3 : smB c
      · have HF : Hid (nameB s = false) := nameB_no (.inr (by rw [hc0.out]; exact h3))
        go_enter Tryd.func49, Tryd.ntmps49
        go_wp2_with ((go_at_call 61; refine (l01Small_any _ _).mono ?_; rintro e w' ⟨rfl, rfl⟩))
        go_ret
        exact ⟨ret_bool HF.out.symm, rfl⟩
      · have HF : Hid (nameB s = allC s) := by
          show _ = _
          unfold nameB
          rw [hc0.out, h3]
          have e1 : decide (1 ≤ s.size ∧ s.size ≤ 10) = true := by simp; omega
          rw [e1]; rfl
        go_enter Tryd.func49, Tryd.ntmps49
        go_wp2_with ((go_at_call 61; refine (l01Small_any _ _).mono ?_; rintro e w' ⟨rfl, rfl⟩))
        clear hn hn2 d2 h3 hc
        go_loop [3] (fun i => ∃ k : Nat, k ≤ s.size ∧ i = .int .i64 (k : Int) ∧ ∀ j, j < k → okC s j = true) (fun i => s.size - (intOf i).toNat)
        case atStart => exact ⟨0, Nat.zero_le _, rfl, fun j hj => absurd hj (by omega)⟩
        case round =>
          obtain ⟨k, hk, rfl, hall⟩ := hrel
          have HA := Lib.hid hall
          clear hall
          by_cases hlt : k < s.size
          · obtain ⟨d, hd, hd0⟩ : ∃ d : Int, (s[k].toNat : Int) = d ∧ Hid (chr s k = d) := ⟨_, rfl, (chr_get s k hlt).symm⟩
            cases hs1 : smB d
            · cases hs2 : dgB d
              · have HG : Hid (allC s = false) := by
                  show _ = _
                  cases h : allC s
                  · rfl
                  · have := (allC_iff s).1 h k hlt
                    unfold okC at this; rw [hd0.out, hs1, hs2] at this; cases this
                go_wp2_with (first | (go_at_call 61; refine (l01Small_any _ _).mono ?_; rintro e w' ⟨rfl, rfl⟩) | (go_at_call 62; refine (l01Digit_any _ _).mono ?_; rintro e w' ⟨rfl, rfl⟩))
                go_ret
                exact ⟨ret_bool (by rw [HF.out, HG.out]), rfl⟩
              · go_wp2_with (first | (go_at_call 61; refine (l01Small_any _ _).mono ?_; rintro e w' ⟨rfl, rfl⟩) | (go_at_call 62; refine (l01Digit_any _ _).mono ?_; rintro e w' ⟨rfl, rfl⟩))
                go_round
                case rel => exact ⟨k + 1, by omega, by go_num, fun j hj => by
                    rcases Nat.lt_or_eq_of_le (Nat.lt_succ_iff.1 hj) with h | h
                    · exact HA.out j h
                    · subst h; unfold okC; rw [hd0.out, hs1, hs2]; rfl⟩
                case measure => simp [intOf]; omega
            · go_wp2_with (first | (go_at_call 61; refine (l01Small_any _ _).mono ?_; rintro e w' ⟨rfl, rfl⟩) | (go_at_call 62; refine (l01Digit_any _ _).mono ?_; rintro e w' ⟨rfl, rfl⟩))
              go_round
              case rel => exact ⟨k + 1, by omega, by go_num, fun j hj => by
                  rcases Nat.lt_or_eq_of_le (Nat.lt_succ_iff.1 hj) with h | h
                  · exact HA.out j h
                  · subst h; unfold okC; rw [hd0.out, hs1]; rfl⟩
              case measure => simp [intOf]; omega
          · obtain rfl : k = s.size := by omega
            have HG : Hid (allC s = true) := (allC_iff s).2 HA.out
            go_wp2
            go_ret
            exact ⟨ret_bool (by rw [HF.out, HG.out]), rfl⟩
end Go.Proofs.YtmnklmaefoidbaaDoor.Nm

namespace Go.Proofs.YtmnklmaefoidbaaDoor.In
open Go Go.RowKit Go.Proofs.YtmnklmaefoidbaaDoor.Aw
set_option linter.unusedSimpArgs false
set_option linter.unusedVariables false
attribute [local irreducible] AW SQ Step RO RC DE Thn InB
def inB (n lo hi : Int) : Bool := decide (lo ≤ n) && decide (n ≤ hi)
set_option maxHeartbeats 4000000 in
theorem within_ro (n lo hi : Int) (k : Nat) : RO Tryd.prog 39 [.v (.int .i64 n), .v (.int .i64 lo), .v (.int .i64 hi)] k (.v (.bool (inB n lo hi))) [] k := by
  refine RO.ofv' Tryd.func39 Tryd.ntmps39 rfl (goFn_of Tryd.func39 rfl (by kernel_rfl)) rfl rfl ?_
  ((repeat' (first
    | (show SQ _ _ _ _ _ _ _ _; first | apply sq_nil | (apply q_move; exact rfl; exact rfl) | (apply q_assign; exact rfl; exact rfl) | (apply q_pick_t; exact rfl; exact rfl; exact rfl; exact (by first | assumption | exact rfl)) | (apply q_pick_f; exact rfl; exact rfl; exact rfl; exact (by first | assumption | exact rfl)) | (apply q_leq; exact rfl; exact rfl; exact rfl) | (apply q_geq; exact rfl; exact rfl; exact rfl) | (apply q_g; exact rfl; exact rfl; exact rfl; exact (by assumption)) | (apply q_s; exact rfl; exact rfl; exact rfl; exact (by assumption); exact rfl))
    | (show SQ _ _ _ _ _ _ _ _; apply q_gs; exact rfl; exact rfl; exact rfl; exact rfl; all_goals intro h)
    | (show AW _ _ _ _ _ _ _ _; first | refine aw_region ?_ | (refine aw_seqk ?_; intro K hK) | refine aw_ret ?_)
    | refine thn_n ?_
    | (refine hK _ _ _ ?_; clear hK K))); all_goals (repeat (clear hK K)))
  all_goals refine fin_r (fin_b rfl ?_)
  all_goals simp_all [inB]
  all_goals omega
set_option maxHeartbeats 4000000 in
theorem l00In_ro (n lo hi : Int) (k : Nat) : RO Tryd.prog 50 [.v (.int .i64 n), .v (.int .i64 lo), .v (.int .i64 hi)] k (.v (.bool (inB n lo hi))) [] k := by
  refine RO.ofv' Tryd.func50 Tryd.ntmps50 rfl (goFn_of Tryd.func50 rfl (by kernel_rfl)) rfl rfl ?_
  ((repeat' (first
    | (show SQ _ _ _ _ _ _ _ _; first | apply sq_nil | (apply q_move; exact rfl; exact rfl) | (apply q_assign; exact rfl; exact rfl) | (apply q_pick_t; exact rfl; exact rfl; exact rfl; exact (by first | assumption | exact rfl)) | (apply q_pick_f; exact rfl; exact rfl; exact rfl; exact (by first | assumption | exact rfl)) | (apply q_leq; exact rfl; exact rfl; exact rfl) | (apply q_geq; exact rfl; exact rfl; exact rfl) | (apply q_g; exact rfl; exact rfl; exact rfl; exact (by assumption)) | (apply q_s; exact rfl; exact rfl; exact rfl; exact (by assumption); exact rfl))
    | (show SQ _ _ _ _ _ _ _ _; apply q_gs; exact rfl; exact rfl; exact rfl; exact rfl; all_goals intro h)
    | (show AW _ _ _ _ _ _ _ _; first | refine aw_region ?_ | (refine aw_seqk ?_; intro K hK) | refine aw_ret ?_)
    | refine thn_n ?_
    | (refine hK _ _ _ ?_; clear hK K))); all_goals (repeat (clear hK K)))
  all_goals refine fin_r (fin_b rfl ?_)
  all_goals simp_all [inB]
  all_goals omega
set_option maxHeartbeats 4000000 in
theorem IsName_ro (s : ByteArray) (hs : s.size ≤ 9223372036854775807) (k : Nat) : RO Tryd.prog 40 [.v (.string s)] k (.v (.bool (Nm.nameB s))) [] k := by
  refine RO.plain k (goFn_of Tryd.func40 rfl (by kernel_rfl)) fun K w xs hk hv => ?_
  obtain ⟨hl, hv⟩ := hv
  match xs, hl with
  | [x], _ =>
    have := hv 0 _ x rfl rfl
    cases this
    exact (Nm.IsName_any s w hs).mono fun e w' ⟨h1, h2⟩ => by subst h2; exact ⟨h1, Below.refl _ _⟩
set_option maxHeartbeats 4000000 in
theorem l01Name_ro (s : ByteArray) (hs : s.size ≤ 9223372036854775807) (k : Nat) : RO Tryd.prog 49 [.v (.string s)] k (.v (.bool (Nm.nameB s))) [] k := by
  refine RO.plain k (goFn_of Tryd.func49 rfl (by kernel_rfl)) fun K w xs hk hv => ?_
  obtain ⟨hl, hv⟩ := hv
  match xs, hl with
  | [x], _ =>
    have := hv 0 _ x rfl rfl
    cases this
    exact (Nm.l01Name_any s w hs).mono fun e w' ⟨h1, h2⟩ => by subst h2; exact ⟨h1, Below.refl _ _⟩
end Go.Proofs.YtmnklmaefoidbaaDoor.In

namespace Go.Proofs.YtmnklmaefoidbaaDoor.Aw
open Go Go.RowKit
set_option linter.unusedVariables false
set_option linter.unusedSimpArgs false
section
variable {P : Program} {H : Hp} {N n g : Nat} {T : Tp} {all : Array Oper} {l : List Oper} {G : Tp → Hp → Nat → Prop}
end
section
variable {P : Program} {N n n' : Nat} {all : Array Oper} {l : List Oper} {G : Tp → Hp → Nat → Prop} {T : Tp} {H : Hp} {bs ks : List Nat} {i : Nat} {eff : List (Nat × List (Nat × Option Blk))} {ty : TypeId} {pos : String} {after : Array Edge} {d : Nat}
end
theorem WkC.same (cv : AV) : WkC cv cv := .inl rfl
theorem WkC.nil (s : Nat) : WkC (.v (.slice none 0 0)) (.dsl s []) := .inr ⟨s, rfl, rfl⟩
end Go.Proofs.YtmnklmaefoidbaaDoor.Aw

namespace Go.Proofs.YtmnklmaefoidbaaDoor.Dc
open Go Go.RowKit Go.Proofs.YtmnklmaefoidbaaDoor.Aw
set_option linter.unusedSimpArgs false
set_option linter.unusedVariables false
attribute [local irreducible] AW SQ Step RO RC DE Thn InB
def bsA (l : List UInt8) : ByteArray := ⟨l.toArray⟩
theorem bsA_size (p : List UInt8) : (bsA p).size = p.length := by simp [bsA, ByteArray.size]
theorem below_grow {w : World} {k : Nat} {os : Array Obj} {w' : World} (h : w' = Go.Sort.grow (w.drewN k) os) : Below w.heap.size w w' := by
  subst h
  refine ⟨rfl, rfl, rfl, ?_, fun j hj => ?_⟩
  · show w.heap.size ≤ (w.heap ++ os).size
    rw [Array.size_append]; omega
  · show (w.heap ++ os)[j]? = w.heap[j]?
    rw [Array.getElem?_append_left hj]
set_option maxHeartbeats 4000000 in
theorem FormatInt_ro (n : Int) (h0 : -9223372036854775808 ≤ n) (h1 : n ≤ 9223372036854775807) (k : Nat) : RO Tryd.prog 47 [.v (.int .i64 n), .v (.int .i64 10)] k (.v (.string (bsA (Lib.itoa n)))) [] k := by
  refine RO.plainG k (goFn_of Tryd.func47 rfl (by kernel_rfl)) fun K w xs hgl hk hv => ?_
  obtain ⟨hl, hv⟩ := hv
  match xs, hl with
  | [x, y], _ =>
    have e0 := hv 0 _ x rfl rfl
    have e1 := hv 1 _ y rfl rfl
    cases e0; cases e1
    exact (Tryd.strconv_FormatInt_10 n h0 h1 w hgl.tab).mono fun e w' ⟨h1, _, _, h2⟩ => ⟨h1, below_grow h2⟩
set_option maxHeartbeats 4000000 in
theorem Decimal_ro (n : Int) (h0 : -9223372036854775808 ≤ n) (h1 : n ≤ 9223372036854775807) (k : Nat) : RO Tryd.prog 29 [.v (.int .i64 n)] k (.v (.string (bsA (Lib.itoa n)))) [] k := by
  have hF := FormatInt_ro n h0 h1
  refine RO.ofv' Tryd.func29 Tryd.ntmps29 rfl (goFn_of Tryd.func29 rfl (by kernel_rfl)) rfl rfl ?_
  ((repeat' (first
    | (show SQ _ _ _ _ _ _ _ _; first | apply sq_nil | (apply q_move; exact rfl; exact rfl) | (apply q_assign; exact rfl; exact rfl))
    | (show SQ _ _ _ _ _ _ _ _; (first | (apply q_callU; exact rfl; exact rfl; exact rfl; exact FzL.of rfl; exact hF _)); (try simp only [put, rowsOf, plR, List.all_cons, selE, ovr, setH, del, cellsA, splice, isV, List.nil_append, List.cons_append, List.map_cons, List.map_nil, List.length_cons, List.length_nil, List.set_cons_zero, List.set_cons_succ, List.take_succ_cons, List.take_zero, List.take_nil, List.drop_succ_cons, List.drop_zero, List.drop_nil, List.append_nil, List.all_cons, List.all_nil, Bool.and_true, Bool.true_and, Bool.and_false, Bool.false_and, Nat.reduceAdd, Nat.zero_add, Nat.add_zero, Nat.reduceEqDiff, if_true, if_false, reduceIte]))
    | (show AW _ _ _ _ _ _ _ _; first | refine aw_region ?_ | (refine aw_seqk ?_; intro K hK) | refine aw_ret ?_)
    | refine thn_n ?_
    | (refine hK _ _ _ ?_; clear hK K))); all_goals (repeat (clear hK K)))
  all_goals exact fin_r (fin_s rfl rfl)
def stL (s : ByteArray) : List AV := [.v (.string s)]
set_option maxHeartbeats 4000000 in
theorem Join_ro (xs : List ByteArray) (sep : ByteArray) (hN : xs.length ≤ 1000000) (hlen : (Lib.join (xs.map (·.data.toList)) sep.data.toList).length ≤ 140737488355328) (k : Nat) : RO Tryd.prog 28 [.dsl 1 (xs.map stL), .v (.string sep)] k (.v (.string (bsA (Lib.join (xs.map (·.data.toList)) sep.data.toList)))) [] k := by
  refine RO.plain k (goFn_of Tryd.func28 rfl (by kernel_rfl)) fun K w vs hk hv => ?_
  obtain ⟨hl, hv⟩ := hv
  match vs, hl with
  | [x, y], _ =>
    have e0 := hv 0 _ x rfl rfl
    have e1 := hv 1 _ y rfl rfl
    cases e1
    generalize hr : xs.map stL = rows at e0
    cases e0 with
    | dsl0 _ _ a c =>
      have hx : xs = [] := by simpa using hr
      subst hx
      exact (Tryd.strings_Join_none a c sep w).mono fun e w' ⟨h1, h2⟩ => by subst h2; exact ⟨h1, Below.refl _ _⟩
    | dsl _ _ _ n b o c ys hn hc hK hl hx hvv =>
      have hlen2 : rows.length = xs.length := by rw [← hr, List.length_map]
      rw [hlen2] at hn hc
      subst hn
      refine (Tryd.strings_Join b o c xs sep w (fun j s hj => ?_) (hk b hK) (by omega) hc hlen)
      have hrow : rows[j]? = some (stL s) := by rw [← hr, List.getElem?_map, hj]; rfl
      have h1 := (hx j _ 0 _ hrow rfl).1
      have h2 := hvv j _ 0 _ hrow rfl
      generalize ys j 0 = z at h1 h2
      cases h2
      simpa using h1
end Go.Proofs.YtmnklmaefoidbaaDoor.Dc

namespace Go.Proofs.YtmnklmaefoidbaaDoor.Bd
open Go Go.RowKit Go.Proofs.YtmnklmaefoidbaaDoor.Aw Go.Proofs.YtmnklmaefoidbaaDoor.Dc
theorem pum_app (M : Nat) : ∀ (l r : List UInt8) (acc v : Nat), Lib.parseUintM M acc l = .ok v → Lib.parseUintM M acc (l ++ r) = Lib.parseUintM M v r
  | [], r, acc, v, h => by
    simp only [Lib.parseUintM, Lib.NumEnd.ok.injEq] at h
    subst h; rfl
  | c :: l, r, acc, v, h => by
    simp only [Lib.parseUintM, List.cons_append] at h ⊢
    split at h
    · rename_i hc
      rw [if_pos hc]
      split at h
      · cases h
      · rename_i h1
        rw [if_neg h1]
        split at h
        · cases h
        · rename_i h2
          rw [if_neg h2]
          exact pum_app M l r _ v h
    · cases h
theorem u8_nat {n : Nat} (h : n < 256) : (UInt8.ofNat n).toNat = n := by
  rw [UInt8.toNat_ofNat']; omega
theorem dec_pum (u : Nat) : u ≤ 1000000000000000000 → Lib.parseUintM 18446744073709551615 0 (Lib.decDigits u) = .ok u := by
  induction u using Nat.strongRecOn with
  | _ u ih =>
    intro h
    rw [Lib.decDigits]
    split
    · rename_i h10
      simp only [Lib.parseUintM]
      rw [u8_nat (by omega), if_pos (by omega), if_neg (by omega), if_neg (by omega)]
      simp
    · rename_i h10
      rw [pum_app _ _ _ _ _ (ih (u / 10) (by omega) (by omega))]
      simp only [Lib.parseUintM]
      rw [u8_nat (by omega), if_pos (by omega), if_neg (by omega), if_neg (by omega)]
      congr 1
      omega
theorem dec_dig (u : Nat) : ∀ c ∈ Lib.decDigits u, 48 ≤ c.toNat ∧ c.toNat ≤ 57 := by
  induction u using Nat.strongRecOn with
  | _ u ih =>
    intro c hc
    rw [Lib.decDigits] at hc
    split at hc
    · simp only [List.mem_singleton] at hc
      subst hc
      rw [u8_nat (by omega)]; omega
    · rcases List.mem_append.1 hc with hc | hc
      · exact ih (u / 10) (by omega) c hc
      · simp only [List.mem_singleton] at hc
        subst hc
        rw [u8_nat (by omega)]; omega
theorem dec_ne (u : Nat) : Lib.decDigits u ≠ [] := by
  rw [Lib.decDigits]; split <;> simp
theorem dec_len (k : Nat) : ∀ u, u < 10 ^ (k + 1) → (Lib.decDigits u).length ≤ k + 1 := by
  induction k with
  | zero => intro u h; rw [Lib.decDigits, dif_pos (by simpa using h)]; simp
  | succ k ih =>
    intro u h
    rw [Lib.decDigits]
    split
    · simp
    · have := ih (u / 10) (by rw [Nat.pow_succ] at h; omega)
      simp only [List.length_append, List.length_cons, List.length_nil]
      omega
theorem itoa_pos (u : Nat) : Lib.itoa (u : Int) = Lib.decDigits u := by
  unfold Lib.itoa; rw [if_neg (by omega)]; simp
theorem itoa_parse (n : Int) (h0 : 0 ≤ n) (h1 : n ≤ 100000000) : Lib.parseIntB 64 (Lib.itoa n) = .ok n := by
  obtain ⟨u, rfl⟩ : ∃ u : Nat, n = u := ⟨n.toNat, by omega⟩
  rw [itoa_pos]
  have hp := dec_pum u (by omega)
  have hd := dec_dig u
  have hn := dec_ne u
  cases hl : Lib.decDigits u with
  | nil => exact absurd hl hn
  | cons c r =>
    have hc := hd c (by rw [hl]; simp)
    rw [hl] at hp
    unfold Lib.parseIntB
    simp only
    rw [if_neg (by omega)]
    unfold Lib.parseUintB
    rw [if_neg (by simp), show (2 : Nat) ^ 64 - 1 = 18446744073709551615 from rfl, hp]
    simp only
    rw [if_neg (by omega), if_neg (by omega), if_neg (by omega)]
theorem itoa_size (n : Int) (h0 : 0 ≤ n) (h1 : n ≤ 100000000) : (Lib.itoa n).length ≤ 9 := by
  obtain ⟨u, rfl⟩ : ∃ u : Nat, n = u := ⟨n.toNat, by omega⟩
  rw [itoa_pos]
  exact dec_len 8 u (by omega)
theorem itoa_32 (n : Int) (h0 : 0 ≤ n) : (32 : UInt8) ∉ Lib.itoa n := by
  obtain ⟨u, rfl⟩ : ∃ u : Nat, n = u := ⟨n.toNat, by omega⟩
  rw [itoa_pos]
  intro h
  have := dec_dig u _ h
  simp at this
theorem itoa_trim (n : Int) (h0 : 0 ≤ n) (h1 : n ≤ 100000000) : (Lib.trimPrefix (Lib.itoa n) [45]).length ≤ 9 := by
  have := itoa_size n h0 h1
  unfold Lib.trimPrefix
  split
  · rw [List.length_drop]; omega
  · omega

/-! ### the cut -/
theorem ix_app (c : UInt8) : ∀ (p r : List UInt8), c ∉ p → Lib.index (p ++ c :: r) [c] = (p.length : Int)
  | [], r, _ => by simp [Lib.index, List.isPrefixOf]
  | b :: p, r, h => by
    have h1 : c ≠ b := fun e => h (by simp [e])
    have h2 : c ∉ p := fun e => h (by simp [e])
    rw [List.cons_append, Lib.index, ix_app c p r h2]
    have hp : ([c] : List UInt8).isPrefixOf (b :: (p ++ c :: r)) = false := by simp [List.isPrefixOf, h1]
    rw [hp]
    have hm : ¬ ((p.length : Int) == -1) = true := fun e => by have := beq_iff_eq.1 e; omega
    simp only [Bool.false_eq_true, if_false]
    rw [if_neg hm, List.length_cons]
    omega
theorem splitK_join (c : UInt8) : ∀ (r : List (List UInt8)) (x : List UInt8), c ∉ x → (∀ p ∈ r, c ∉ p) → Lib.splitK [c] 0 r.length (Lib.join (x :: r) [c]) = x :: r
  | [], x, _, _ => by rw [Lib.join_one]; rfl
  | y :: r, x, hx, hr => by
    have e : Lib.join (x :: y :: r) [c] = x ++ c :: Lib.join (y :: r) [c] := by
      rw [Lib.join_cons, Lib.join_cons]
      simp [Lib.joinTail]
    rw [e, List.length_cons, Lib.splitK, ix_app c x _ hx]
    have hm : ¬ ((x.length : Int) == -1) = true := fun e => by have := beq_iff_eq.1 e; omega
    rw [if_neg hm]
    have e1 : (((x.length : Nat) : Int).toNat + 0) = x.length := by omega
    have e2 : (((x.length : Nat) : Int).toNat + ([c] : List UInt8).length) = (x ++ [c]).length := by simp
    have e3 : x ++ c :: Lib.join (y :: r) [c] = (x ++ [c]) ++ Lib.join (y :: r) [c] := by simp
    rw [e1, List.take_left' rfl, e2, e3, List.drop_left' rfl, splitK_join c r y (hr y (by simp)) (fun p hp => hr p (by simp [hp]))]
theorem count_join (c : UInt8) : ∀ (r : List (List UInt8)) (x : List UInt8), c ∉ x → (∀ p ∈ r, c ∉ p) → (Lib.join (x :: r) [c]).count c = r.length
  | [], x, hx, _ => by rw [Lib.join_one]; exact List.count_eq_zero.2 hx
  | y :: r, x, hx, hr => by
    have e : Lib.join (x :: y :: r) [c] = x ++ c :: Lib.join (y :: r) [c] := by
      rw [Lib.join_cons, Lib.join_cons]
      simp [Lib.joinTail]
    rw [e, List.count_append, List.count_eq_zero.2 hx, List.count_cons_self, count_join c r y (hr y (by simp)) (fun p hp => hr p (by simp [hp]))]
    simp
theorem bs_inj : ∀ (xs ys : List ByteArray), xs.map (·.data.toList) = ys.map (·.data.toList) → xs = ys
  | [], [], _ => rfl
  | [], _ :: _, h => by simp at h
  | _ :: _, [], h => by simp at h
  | x :: xs, y :: ys, h => by
    simp only [List.map_cons, List.cons.injEq] at h
    rw [bs_inj xs ys h.2]
    congr 1
    apply ByteArray.ext
    exact Array.ext' h.1
def wtx (ws : List ByteArray) : ByteArray := bsA (Lib.join (ws.map (·.data.toList)) [32])
def blk1 : ByteArray := ⟨#[32]⟩
theorem split_wtx (x : ByteArray) (r : List ByteArray) (h : ∀ p ∈ x :: r, (32 : UInt8) ∉ p.data.toList) :
    Lib.countB (wtx (x :: r)) blk1 = r.length ∧ Lib.splitB blk1 0 (Lib.countB (wtx (x :: r)) blk1) (wtx (x :: r)) = x :: r := by
  have hx := h x (by simp)
  have hr : ∀ p ∈ r.map (·.data.toList), (32 : UInt8) ∉ p := fun p hp => by
    obtain ⟨q, hq, rfl⟩ := List.mem_map.1 hp
    exact h q (by simp [hq])
  have hc : Lib.countB (wtx (x :: r)) blk1 = r.length := by
    have e : Lib.countB (wtx (x :: r)) blk1 = Lib.count (Lib.join ((x :: r).map (·.data.toList)) [32]) [32] := rfl
    rw [e, Lib.count_one, List.map_cons, count_join 32 _ _ hx hr, List.length_map]
  refine ⟨hc, bs_inj _ _ ?_⟩
  rw [Lib.splitB_data, hc]
  have e : (wtx (x :: r)).data.toList = Lib.join ((x :: r).map (·.data.toList)) [32] := rfl
  rw [e, List.map_cons, show r.length = (r.map (·.data.toList)).length by rw [List.length_map]]
  exact splitK_join 32 _ _ hx hr
end Go.Proofs.YtmnklmaefoidbaaDoor.Bd

namespace Go.Proofs.YtmnklmaefoidbaaDoor.Ba
open Go Go.RowKit Go.Proofs.YtmnklmaefoidbaaDoor.Aw Go.Proofs.YtmnklmaefoidbaaDoor.In
set_option linter.unusedSimpArgs false
set_option linter.unusedVariables false
attribute [local irreducible] AW SQ Step RO RC DE Thn InB
structure Band where
  nm : ByteArray
  lo : Int
  hi : Int
  ra : Int
  du : Int
def baL (b : Band) : List AV := [.v (.string b.nm), .v (.int .i64 b.lo), .v (.int .i64 b.hi), .v (.int .i64 b.ra), .v (.int .i64 b.du)]
def Band.sm (b : Band) : Prop := b.nm.size ≤ 9223372036854775807
def cnt (b : Band) : Int := IntKind.i64.wrap ((IntKind.i64.wrap (b.hi - b.lo)).tdiv b.ra)
def okB (b : Band) : Bool := Nm.nameB b.nm && inB b.lo 1 100000000 && decide (b.lo ≤ b.hi) && decide (b.hi ≤ 100000000) && inB b.ra 1 100000 && inB (cnt b) 1 1000 && (decide (b.du = 0) || (decide (b.hi - b.lo ≤ b.du) && decide (b.du ≤ 100000000 - b.hi)))
theorem cnt_neg (b : Band) (h1 : 1 ≤ b.lo ∧ b.lo ≤ 100000000) (h2 : 1 ≤ b.hi ∧ b.hi ≤ 100000000) (h : b.hi < b.lo) (hr : 1 ≤ b.ra) : cnt b ≤ 0 := by
  have e : IntKind.i64.wrap (b.hi - b.lo) = b.hi - b.lo := IntWalk.i64_in _ (by omega)
  have e1 : (b.hi - b.lo).tdiv b.ra = - ((b.lo - b.hi) / b.ra) := by
    rw [show b.hi - b.lo = -(b.lo - b.hi) by omega, Int.neg_tdiv, Int.tdiv_eq_ediv_of_nonneg (by omega)]
  have e2 : 0 ≤ (b.lo - b.hi) / b.ra := Int.ediv_nonneg (by omega) (by omega)
  have e3 : (b.lo - b.hi) / b.ra ≤ b.lo - b.hi := Int.ediv_le_self _ (by omega)
  unfold cnt
  rw [e, e1, IntWalk.i64_in _ (by omega)]
  omega
set_option maxHeartbeats 4000000 in
theorem l15Count_ro (b : Band) (h : b.ra ≠ 0) (k : Nat) : RO Tryd.prog 38 [.dptr (baL b)] k (.v (.int .i64 (cnt b))) [] k := by
  refine RO.ofv' Tryd.func38 Tryd.ntmps38 rfl (goFn_of Tryd.func38 rfl (by kernel_rfl)) rfl rfl ?_
  unfold baL
  ((repeat' (first
    | (show SQ _ _ _ _ _ _ _ _; first | apply sq_nil | (apply q_assign; exact rfl; exact rfl))
    | (show DE _ _ _ _ _ _ _ _ _ _ _ _; first | (apply e_move; exact rfl; exact rfl; exact rfl) | (apply e_assign; exact rfl; exact rfl; exact rfl) | (apply e_fieldAddr; exact rfl; exact rfl; exact (ty rfl); exact rfl; exact rfl; exact rfl; exact rfl; exact rfl) | (apply e_nilc; exact rfl; exact rfl; exact rfl; exact rfl) | (apply e_sub; exact rfl; exact rfl; exact rfl; exact rfl) | (apply e_quo; exact rfl; exact rfl; exact rfl; exact (by first | decide | omega); exact rfl) | (apply e_ld1d; exact rfl; exact rfl; exact (ty rfl); exact rfl; exact rfl; exact rfl))
    | (show DE _ _ _ _ _ _ _ _ _ _ _ _; (first | (apply dr_nil; exact trivial)); (try simp only [put, rowsOf, plR, List.all_cons, selE, ovr, setH, del, cellsA, splice, isV, List.nil_append, List.cons_append, List.map_cons, List.map_nil, List.length_cons, List.length_nil, List.set_cons_zero, List.set_cons_succ, List.take_succ_cons, List.take_zero, List.take_nil, List.drop_succ_cons, List.drop_zero, List.drop_nil, List.append_nil, List.all_cons, List.all_nil, Bool.and_true, Bool.true_and, Bool.and_false, Bool.false_and, Nat.reduceAdd, Nat.zero_add, Nat.add_zero, Nat.reduceEqDiff, if_true, if_false, reduceIte]))
    | (show AW _ _ _ _ _ _ _ _; first | refine aw_region ?_ | (refine aw_seqk ?_; intro K hK) | refine aw_ret ?_ | refine aw_drawE (id := 1) [0, 1, 3, 7, 0, 16, 48, 112, 255, 0, 512, 1536, 3584, 8191, 16383] [0, 0, 0, 1, 0, 0, 0, 1, 0, 0, 0, 0, 1, 0, 0] mixed (by kernel_rfl) ?_)
    | refine thn_n ?_
    | (refine hK _ _ _ ?_; clear hK K))); all_goals (repeat (clear hK K)))
  all_goals refine fin_r (fin_i rfl ?_)
  all_goals rfl
set_option maxHeartbeats 4000000 in
theorem count_ro (b : Band) (h : b.ra ≠ 0) (k : Nat) : RO Tryd.prog 23 [.agg (baL b)] k (.v (.int .i64 (cnt b))) [] k := by
  refine RO.ofv' Tryd.func23 Tryd.ntmps23 rfl (goFn_of Tryd.func23 rfl (by kernel_rfl)) rfl rfl ?_
  unfold baL
  ((repeat' (first
    | (show SQ _ _ _ _ _ _ _ _; first | apply sq_nil | (apply q_assign; exact rfl; exact rfl) | (apply q_fieldAddr; exact rfl; exact rfl; exact (ty rfl); exact rfl; exact rfl; exact rfl; exact rfl) | (apply q_sub; exact rfl; exact rfl; exact rfl) | (apply q_quo; exact rfl; exact rfl; exact rfl; exact (by first | decide | omega)) | (apply q_ld1p; exact rfl; exact rfl; exact (ty rfl); exact rfl; exact rfl; exact (by first | rfl | assumption | ((try simp only [Nat.zero_add]); refine List.getElem?_set_self ?_; (try simp only [List.length_set]); assumption)); exact rfl))
    | (show SQ _ _ _ _ _ _ _ _; (first | (apply q_box; exact rfl; exact rfl; exact rfl)); (try simp only [put, rowsOf, plR, List.all_cons, selE, ovr, setH, del, cellsA, splice, isV, List.nil_append, List.cons_append, List.map_cons, List.map_nil, List.length_cons, List.length_nil, List.set_cons_zero, List.set_cons_succ, List.take_succ_cons, List.take_zero, List.take_nil, List.drop_succ_cons, List.drop_zero, List.drop_nil, List.append_nil, List.all_cons, List.all_nil, Bool.and_true, Bool.true_and, Bool.and_false, Bool.false_and, Nat.reduceAdd, Nat.zero_add, Nat.add_zero, Nat.reduceEqDiff, if_true, if_false, reduceIte]))
    | (show AW _ _ _ _ _ _ _ _; first | refine aw_region ?_ | (refine aw_seqk ?_; intro K hK) | refine aw_ret ?_)
    | refine thn_n ?_
    | (refine hK _ _ _ ?_; clear hK K))); all_goals (repeat (clear hK K)))
  all_goals refine fin_r (fin_i rfl ?_)
  all_goals rfl
set_option maxHeartbeats 4000000 in
theorem l15Ok_ro (b : Band) (hs : b.sm) (k : Nat) : RO Tryd.prog 37 [.dptr (baL b)] k (.v (.bool (okB b))) [] k := by
  unfold Band.sm at hs
  have e1 : 1 ≤ b.lo → b.lo ≤ 100000000 → 1 ≤ b.hi → b.hi ≤ 100000000 → IntKind.i64.wrap (b.hi - b.lo) = b.hi - b.lo := fun _ _ _ _ => IntWalk.i64_in _ (by omega)
  have e2 : 1 ≤ b.hi → b.hi ≤ 100000000 → 0 ≤ b.du → b.du ≤ 100000000 → IntKind.i64.wrap (b.hi + b.du) = b.hi + b.du := fun _ _ _ _ => IntWalk.i64_in _ (by omega)
  have e3 : 1 ≤ b.hi → b.hi ≤ 100000000 → IntKind.i64.wrap (100000000 - b.hi) = 100000000 - b.hi := fun _ _ => IntWalk.i64_in _ (by omega)
  by_cases hr : 1 ≤ b.ra ∧ b.ra ≤ 100000
  · have hr0 : b.ra ≠ 0 := by omega
    have b1 : inB b.ra 1 100000 = true := by simp [inB]; omega
    have b2 : (!inB b.ra 1 100000) = false := by rw [b1]; rfl
    refine RO.ofv' Tryd.func37 Tryd.ntmps37 rfl (goFn_of Tryd.func37 rfl (by kernel_rfl)) rfl rfl ?_
    unfold baL
    ((repeat' (first
    | (show SQ _ _ _ _ _ _ _ _; first | apply sq_nil | (apply q_move; exact rfl; exact rfl) | (apply q_assign; exact rfl; exact rfl) | (apply q_pick_t; exact rfl; exact rfl; exact rfl; exact (by first | assumption | exact rfl)) | (apply q_pick_f; exact rfl; exact rfl; exact rfl; exact (by first | assumption | exact rfl)) | (apply q_fieldAddr; exact rfl; exact rfl; exact (ty rfl); exact rfl; exact rfl; exact rfl; exact rfl) | (apply q_nilc; exact rfl; exact rfl; exact rfl) | (apply q_not; exact rfl; exact rfl) | (apply q_ld1d; exact rfl; exact rfl; exact (ty rfl); exact rfl; exact rfl) | (apply q_g; exact rfl; exact rfl; exact rfl; exact (by assumption)) | (apply q_s; exact rfl; exact rfl; exact rfl; exact (by assumption); exact rfl) | (apply q_s; exact rfl; exact rfl; exact rfl; exact rfl; exact rfl))
    | (show SQ _ _ _ _ _ _ _ _; (first | (apply q_callU; exact rfl; exact rfl; exact rfl; exact FzL.of rfl; exact l01Name_ro _ (by assumption) _) | (apply q_callU; exact rfl; exact rfl; exact rfl; exact FzL.of rfl; exact l00In_ro _ _ _ _) | (apply q_callU; exact rfl; exact rfl; exact rfl; exact FzL.of rfl; exact l15Count_ro b (by assumption) _)); (try simp only [put, rowsOf, plR, List.all_cons, selE, ovr, setH, del, cellsA, splice, isV, List.nil_append, List.cons_append, List.map_cons, List.map_nil, List.length_cons, List.length_nil, List.set_cons_zero, List.set_cons_succ, List.take_succ_cons, List.take_zero, List.take_nil, List.drop_succ_cons, List.drop_zero, List.drop_nil, List.append_nil, List.all_cons, List.all_nil, Bool.and_true, Bool.true_and, Bool.and_false, Bool.false_and, Nat.reduceAdd, Nat.zero_add, Nat.add_zero, Nat.reduceEqDiff, if_true, if_false, reduceIte]))
    | (show SQ _ _ _ _ _ _ _ _; apply q_gs; exact rfl; exact rfl; exact rfl; exact rfl; all_goals intro h)
    | (show DE _ _ _ _ _ _ _ _ _ _ _ _; first | (apply e_move; exact rfl; exact rfl; exact rfl) | (apply e_assign; exact rfl; exact rfl; exact rfl) | (apply e_pick_t; exact rfl; exact rfl; exact rfl; exact (by first | assumption | exact rfl); exact rfl) | (apply e_pick_f; exact rfl; exact rfl; exact rfl; exact (by first | assumption | exact rfl); exact rfl) | (apply e_fieldAddr; exact rfl; exact rfl; exact (ty rfl); exact rfl; exact rfl; exact rfl; exact rfl; exact rfl) | (apply e_nilc; exact rfl; exact rfl; exact rfl; exact rfl) | (apply e_add; exact rfl; exact rfl; exact rfl; exact rfl) | (apply e_sub; exact rfl; exact rfl; exact rfl; exact rfl) | (apply e_eql; exact rfl; exact rfl; exact rfl; exact rfl) | (apply e_leq; exact rfl; exact rfl; exact rfl; exact rfl) | (apply e_geq; exact rfl; exact rfl; exact rfl; exact rfl) | (apply e_ld1d; exact rfl; exact rfl; exact (ty rfl); exact rfl; exact rfl; exact rfl) | (apply e_g; exact rfl; exact rfl; exact rfl; exact (by assumption)) | (apply e_s; exact rfl; exact rfl; exact rfl; exact (by assumption); exact rfl) | (apply e_sU; exact rfl; exact rfl; exact rfl; exact rfl; exact rfl))
    | (show DE _ _ _ _ _ _ _ _ _ _ _ _; (first | (apply dr_nil; exact trivial)); (try simp only [put, rowsOf, plR, List.all_cons, selE, ovr, setH, del, cellsA, splice, isV, List.nil_append, List.cons_append, List.map_cons, List.map_nil, List.length_cons, List.length_nil, List.set_cons_zero, List.set_cons_succ, List.take_succ_cons, List.take_zero, List.take_nil, List.drop_succ_cons, List.drop_zero, List.drop_nil, List.append_nil, List.all_cons, List.all_nil, Bool.and_true, Bool.true_and, Bool.and_false, Bool.false_and, Nat.reduceAdd, Nat.zero_add, Nat.add_zero, Nat.reduceEqDiff, if_true, if_false, reduceIte]))
    | (show DE _ _ _ _ _ _ _ _ _ _ _ _; apply e_gs; exact rfl; exact rfl; exact rfl; exact rfl; all_goals intro h)
    | (show AW _ _ _ _ _ _ _ _; first | refine aw_region ?_ | (refine aw_seqk ?_; intro K hK) | (apply aw_cond_t; exact rfl; exact rfl) | refine aw_ret ?_ | refine aw_skip ?_ | refine aw_drawE (id := 5) [0, 1, 3, 7, 15, 31, 63, 127, 255, 511, 63, 1087, 3135, 7231, 63, 16447, 49215, 114751, 261183, 524287, 1048575, 2097151, 4194303, 8388607, 16777215, 2097151, 35651583, 102760447, 236978175, 536870911, 1073741823, 2147483647, 4294967295, 8589934591] [0, 0, 0, 1, 0, 0, 0, 0, 0, 1, 0, 0, 0, 1, 0, 0, 0, 1, 0, 0, 0, 0, 0, 0, 1, 0, 0, 0, 1, 0, 0, 0, 0, 0] mixed (by kernel_rfl) ?_ | (apply aw_ite; exact rfl; all_goals intro h))
    | refine thn_n ?_
    | (refine hK _ _ _ ?_; clear hK K)
    | refine thn_r ?_)); all_goals (repeat (clear hK K)))
    all_goals refine fin_r (fin_b rfl ?_)
    all_goals clear b1 b2
    all_goals simp_all [okB, inB]
    all_goals (have hc := cnt_neg b; first | omega | (rw [Bool.eq_iff_iff]; simp only [Bool.and_eq_true, decide_eq_true_eq]; omega) | (intros; omega))
  · have b1 : inB b.ra 1 100000 = false := by simp [inB]; omega
    have b2 : (!inB b.ra 1 100000) = true := by rw [b1]; rfl
    refine RO.ofv' Tryd.func37 Tryd.ntmps37 rfl (goFn_of Tryd.func37 rfl (by kernel_rfl)) rfl rfl ?_
    unfold baL
    ((repeat' (first
    | (show SQ _ _ _ _ _ _ _ _; first | apply sq_nil | (apply q_move; exact rfl; exact rfl) | (apply q_assign; exact rfl; exact rfl) | (apply q_pick_t; exact rfl; exact rfl; exact rfl; exact (by first | assumption | exact rfl)) | (apply q_pick_f; exact rfl; exact rfl; exact rfl; exact (by first | assumption | exact rfl)) | (apply q_fieldAddr; exact rfl; exact rfl; exact (ty rfl); exact rfl; exact rfl; exact rfl; exact rfl) | (apply q_nilc; exact rfl; exact rfl; exact rfl) | (apply q_not; exact rfl; exact rfl) | (apply q_ld1d; exact rfl; exact rfl; exact (ty rfl); exact rfl; exact rfl) | (apply q_g; exact rfl; exact rfl; exact rfl; exact (by assumption)) | (apply q_s; exact rfl; exact rfl; exact rfl; exact (by assumption); exact rfl) | (apply q_s; exact rfl; exact rfl; exact rfl; exact rfl; exact rfl))
    | (show SQ _ _ _ _ _ _ _ _; (first | (apply q_callU; exact rfl; exact rfl; exact rfl; exact FzL.of rfl; exact l01Name_ro _ (by assumption) _) | (apply q_callU; exact rfl; exact rfl; exact rfl; exact FzL.of rfl; exact l00In_ro _ _ _ _)); (try simp only [put, rowsOf, plR, List.all_cons, selE, ovr, setH, del, cellsA, splice, isV, List.nil_append, List.cons_append, List.map_cons, List.map_nil, List.length_cons, List.length_nil, List.set_cons_zero, List.set_cons_succ, List.take_succ_cons, List.take_zero, List.take_nil, List.drop_succ_cons, List.drop_zero, List.drop_nil, List.append_nil, List.all_cons, List.all_nil, Bool.and_true, Bool.true_and, Bool.and_false, Bool.false_and, Nat.reduceAdd, Nat.zero_add, Nat.add_zero, Nat.reduceEqDiff, if_true, if_false, reduceIte]))
    | (show SQ _ _ _ _ _ _ _ _; apply q_gs; exact rfl; exact rfl; exact rfl; exact rfl; all_goals intro h)
    | (show AW _ _ _ _ _ _ _ _; first | refine aw_region ?_ | (refine aw_seqk ?_; intro K hK) | (apply aw_cond_t; exact rfl; exact rfl) | refine aw_ret ?_)
    | refine thn_n ?_
    | (refine hK _ _ _ ?_; clear hK K)
    | refine thn_r ?_)); all_goals (repeat (clear hK K)))
    all_goals refine fin_r (fin_b rfl ?_)
    all_goals clear b1 b2
    all_goals simp_all [okB, inB]
    all_goals (have hc := cnt_neg b; first | omega | (rw [Bool.eq_iff_iff]; simp only [Bool.and_eq_true, decide_eq_true_eq]; omega) | (intros; omega))
set_option maxHeartbeats 4000000 in
theorem ValidBand_ro (b : Band) (hs : b.sm) (k : Nat) : RO Tryd.prog 22 [.agg (baL b)] k (.v (.bool (okB b))) [] k := by
  unfold Band.sm at hs
  have e1 : 1 ≤ b.lo → b.lo ≤ 100000000 → 1 ≤ b.hi → b.hi ≤ 100000000 → IntKind.i64.wrap (b.hi - b.lo) = b.hi - b.lo := fun _ _ _ _ => IntWalk.i64_in _ (by omega)
  have e2 : 1 ≤ b.hi → b.hi ≤ 100000000 → 0 ≤ b.du → b.du ≤ 100000000 → IntKind.i64.wrap (b.hi + b.du) = b.hi + b.du := fun _ _ _ _ => IntWalk.i64_in _ (by omega)
  have e3 : 1 ≤ b.hi → b.hi ≤ 100000000 → IntKind.i64.wrap (100000000 - b.hi) = 100000000 - b.hi := fun _ _ => IntWalk.i64_in _ (by omega)
  by_cases hr : 1 ≤ b.ra ∧ b.ra ≤ 100000
  · have hr0 : b.ra ≠ 0 := by omega
    have b1 : inB b.ra 1 100000 = true := by simp [inB]; omega
    have b2 : (!inB b.ra 1 100000) = false := by rw [b1]; rfl
    refine RO.ofv' Tryd.func22 Tryd.ntmps22 rfl (goFn_of Tryd.func22 rfl (by kernel_rfl)) rfl rfl ?_
    unfold baL
    ((repeat' (first
    | (show SQ _ _ _ _ _ _ _ _; first | apply sq_nil | (apply q_move; exact rfl; exact rfl) | (apply q_assign; exact rfl; exact rfl) | (apply q_pick_t; exact rfl; exact rfl; exact rfl; exact (by first | assumption | exact rfl)) | (apply q_pick_f; exact rfl; exact rfl; exact rfl; exact (by first | assumption | exact rfl)) | (apply q_fieldAddr; exact rfl; exact rfl; exact (ty rfl); exact rfl; exact rfl; exact rfl; exact rfl) | (apply q_not; exact rfl; exact rfl) | (apply q_sub; exact rfl; exact rfl; exact rfl) | (apply q_eql; exact rfl; exact rfl; exact rfl) | (apply q_ld1p; exact rfl; exact rfl; exact (ty rfl); exact rfl; exact rfl; exact (by first | rfl | assumption | ((try simp only [Nat.zero_add]); refine List.getElem?_set_self ?_; (try simp only [List.length_set]); assumption)); exact rfl) | (apply q_g; exact rfl; exact rfl; exact rfl; exact (by assumption)) | (apply q_s; exact rfl; exact rfl; exact rfl; exact (by assumption); exact rfl) | (apply q_s; exact rfl; exact rfl; exact rfl; exact rfl; exact rfl))
    | (show SQ _ _ _ _ _ _ _ _; (first | (apply q_ldap; exact rfl; exact rfl; exact (ty rfl); exact rfl; exact rfl; exact (by first | rfl | assumption | ((try simp only [Nat.zero_add]); refine List.getElem?_set_self ?_; (try simp only [List.length_set]); assumption)); exact rfl) | (apply q_box; exact rfl; exact rfl; exact rfl) | (apply q_callU; exact rfl; exact rfl; exact rfl; exact FzL.of rfl; exact IsName_ro _ (by assumption) _) | (apply q_callU; exact rfl; exact rfl; exact rfl; exact FzL.of rfl; exact within_ro _ _ _ _) | (apply q_callU; exact rfl; exact rfl; exact rfl; exact FzL.of rfl; exact count_ro b (by assumption) _)); (try simp only [put, rowsOf, plR, List.all_cons, selE, ovr, setH, del, cellsA, splice, isV, List.nil_append, List.cons_append, List.map_cons, List.map_nil, List.length_cons, List.length_nil, List.set_cons_zero, List.set_cons_succ, List.take_succ_cons, List.take_zero, List.take_nil, List.drop_succ_cons, List.drop_zero, List.drop_nil, List.append_nil, List.all_cons, List.all_nil, Bool.and_true, Bool.true_and, Bool.and_false, Bool.false_and, Nat.reduceAdd, Nat.zero_add, Nat.add_zero, Nat.reduceEqDiff, if_true, if_false, reduceIte]))
    | (show SQ _ _ _ _ _ _ _ _; apply q_gs; exact rfl; exact rfl; exact rfl; exact rfl; all_goals intro h)
    | (show AW _ _ _ _ _ _ _ _; first | refine aw_region ?_ | (refine aw_seqk ?_; intro K hK) | (apply aw_cond_t; exact rfl; exact rfl) | refine aw_ret ?_ | refine aw_skip ?_ | (apply aw_ite; exact rfl; all_goals intro h))
    | refine thn_n ?_
    | (refine hK _ _ _ ?_; clear hK K)
    | refine thn_r ?_)); all_goals (repeat (clear hK K)))
    all_goals refine fin_r (fin_b rfl ?_)
    all_goals clear b1 b2
    all_goals simp_all [okB, inB]
    all_goals (have hc := cnt_neg b; first | omega | (rw [Bool.eq_iff_iff]; simp only [Bool.and_eq_true, decide_eq_true_eq]; omega) | (intros; omega))
  · have b1 : inB b.ra 1 100000 = false := by simp [inB]; omega
    have b2 : (!inB b.ra 1 100000) = true := by rw [b1]; rfl
    refine RO.ofv' Tryd.func22 Tryd.ntmps22 rfl (goFn_of Tryd.func22 rfl (by kernel_rfl)) rfl rfl ?_
    unfold baL
    ((repeat' (first
    | (show SQ _ _ _ _ _ _ _ _; first | apply sq_nil | (apply q_move; exact rfl; exact rfl) | (apply q_assign; exact rfl; exact rfl) | (apply q_pick_t; exact rfl; exact rfl; exact rfl; exact (by first | assumption | exact rfl)) | (apply q_pick_f; exact rfl; exact rfl; exact rfl; exact (by first | assumption | exact rfl)) | (apply q_fieldAddr; exact rfl; exact rfl; exact (ty rfl); exact rfl; exact rfl; exact rfl; exact rfl) | (apply q_not; exact rfl; exact rfl) | (apply q_ld1p; exact rfl; exact rfl; exact (ty rfl); exact rfl; exact rfl; exact (by first | rfl | assumption | ((try simp only [Nat.zero_add]); refine List.getElem?_set_self ?_; (try simp only [List.length_set]); assumption)); exact rfl) | (apply q_g; exact rfl; exact rfl; exact rfl; exact (by assumption)) | (apply q_s; exact rfl; exact rfl; exact rfl; exact (by assumption); exact rfl) | (apply q_s; exact rfl; exact rfl; exact rfl; exact rfl; exact rfl))
    | (show SQ _ _ _ _ _ _ _ _; (first | (apply q_box; exact rfl; exact rfl; exact rfl) | (apply q_callU; exact rfl; exact rfl; exact rfl; exact FzL.of rfl; exact IsName_ro _ (by assumption) _) | (apply q_callU; exact rfl; exact rfl; exact rfl; exact FzL.of rfl; exact within_ro _ _ _ _)); (try simp only [put, rowsOf, plR, List.all_cons, selE, ovr, setH, del, cellsA, splice, isV, List.nil_append, List.cons_append, List.map_cons, List.map_nil, List.length_cons, List.length_nil, List.set_cons_zero, List.set_cons_succ, List.take_succ_cons, List.take_zero, List.take_nil, List.drop_succ_cons, List.drop_zero, List.drop_nil, List.append_nil, List.all_cons, List.all_nil, Bool.and_true, Bool.true_and, Bool.and_false, Bool.false_and, Nat.reduceAdd, Nat.zero_add, Nat.add_zero, Nat.reduceEqDiff, if_true, if_false, reduceIte]))
    | (show SQ _ _ _ _ _ _ _ _; apply q_gs; exact rfl; exact rfl; exact rfl; exact rfl; all_goals intro h)
    | (show AW _ _ _ _ _ _ _ _; first | refine aw_region ?_ | (refine aw_seqk ?_; intro K hK) | (apply aw_cond_t; exact rfl; exact rfl) | refine aw_ret ?_)
    | refine thn_n ?_
    | (refine hK _ _ _ ?_; clear hK K)
    | refine thn_r ?_)); all_goals (repeat (clear hK K)))
    all_goals refine fin_r (fin_b rfl ?_)
    all_goals clear b1 b2
    all_goals simp_all [okB, inB]
    all_goals (have hc := cnt_neg b; first | omega | (rw [Bool.eq_iff_iff]; simp only [Bool.and_eq_true, decide_eq_true_eq]; omega) | (intros; omega))
def mid (b : Band) (c : Int) : Int := IntKind.i64.wrap (IntKind.i64.wrap (b.lo + IntKind.i64.wrap (c * b.ra)) + IntKind.i64.wrap (b.ra.tdiv 2))
def hasB (b : Band) (c : Int) : Bool := inB c 0 (IntKind.i64.wrap (cnt b - 1))
theorem ra_pos {b : Band} (h : okB b = true) : b.ra ≠ 0 := by
  simp [okB, inB] at h; omega
set_option maxHeartbeats 4000000 in
theorem begin_ro (b : Band) (c : Int) (k : Nat) : RO Tryd.prog 25 [.agg (baL b), .v (.int .i64 c)] k (.v (.int .i64 (IntKind.i64.wrap (b.lo + IntKind.i64.wrap (c * b.ra))))) [] k := by
  refine RO.ofv' Tryd.func25 Tryd.ntmps25 rfl (goFn_of Tryd.func25 rfl (by kernel_rfl)) rfl rfl ?_
  unfold baL
  ((repeat' (first
    | (show SQ _ _ _ _ _ _ _ _; first | apply sq_nil | (apply q_move; exact rfl; exact rfl) | (apply q_assign; exact rfl; exact rfl) | (apply q_fieldAddr; exact rfl; exact rfl; exact (ty rfl); exact rfl; exact rfl; exact rfl; exact rfl) | (apply q_add; exact rfl; exact rfl; exact rfl) | (apply q_mul; exact rfl; exact rfl; exact rfl) | (apply q_ld1p; exact rfl; exact rfl; exact (ty rfl); exact rfl; exact rfl; exact (by first | rfl | assumption | ((try simp only [Nat.zero_add]); refine List.getElem?_set_self ?_; (try simp only [List.length_set]); assumption)); exact rfl))
    | (show SQ _ _ _ _ _ _ _ _; (first | (apply q_box; exact rfl; exact rfl; exact rfl)); (try simp only [put, rowsOf, plR, List.all_cons, selE, ovr, setH, del, cellsA, splice, isV, List.nil_append, List.cons_append, List.map_cons, List.map_nil, List.length_cons, List.length_nil, List.set_cons_zero, List.set_cons_succ, List.take_succ_cons, List.take_zero, List.take_nil, List.drop_succ_cons, List.drop_zero, List.drop_nil, List.append_nil, List.all_cons, List.all_nil, Bool.and_true, Bool.true_and, Bool.and_false, Bool.false_and, Nat.reduceAdd, Nat.zero_add, Nat.add_zero, Nat.reduceEqDiff, if_true, if_false, reduceIte]))
    | (show AW _ _ _ _ _ _ _ _; first | refine aw_region ?_ | (refine aw_seqk ?_; intro K hK) | refine aw_ret ?_)
    | refine thn_n ?_
    | (refine hK _ _ _ ?_; clear hK K))); all_goals (repeat (clear hK K)))
  all_goals refine fin_r (fin_i rfl ?_)
  all_goals rfl
set_option maxHeartbeats 4000000 in
theorem middle_ro (b : Band) (c : Int) (k : Nat) : RO Tryd.prog 21 [.agg (baL b), .v (.int .i64 c)] k (.v (.int .i64 (mid b c))) [] k := by
  refine RO.ofv' Tryd.func21 Tryd.ntmps21 rfl (goFn_of Tryd.func21 rfl (by kernel_rfl)) rfl rfl ?_
  unfold baL
  ((repeat' (first
    | (show SQ _ _ _ _ _ _ _ _; first | apply sq_nil | (apply q_assign; exact rfl; exact rfl))
    | (show SQ _ _ _ _ _ _ _ _; (first | (apply q_box; exact rfl; exact rfl; exact rfl)); (try simp only [put, rowsOf, plR, List.all_cons, selE, ovr, setH, del, cellsA, splice, isV, List.nil_append, List.cons_append, List.map_cons, List.map_nil, List.length_cons, List.length_nil, List.set_cons_zero, List.set_cons_succ, List.take_succ_cons, List.take_zero, List.take_nil, List.drop_succ_cons, List.drop_zero, List.drop_nil, List.append_nil, List.all_cons, List.all_nil, Bool.and_true, Bool.true_and, Bool.and_false, Bool.false_and, Nat.reduceAdd, Nat.zero_add, Nat.add_zero, Nat.reduceEqDiff, if_true, if_false, reduceIte]))
    | (show DE _ _ _ _ _ _ _ _ _ _ _ _; first | (apply e_move; exact rfl; exact rfl; exact rfl) | (apply e_assign; exact rfl; exact rfl; exact rfl) | (apply e_fieldAddr; exact rfl; exact rfl; exact (ty rfl); exact rfl; exact rfl; exact rfl; exact rfl; exact rfl) | (apply e_add; exact rfl; exact rfl; exact rfl; exact rfl) | (apply e_quo; exact rfl; exact rfl; exact rfl; exact (by first | decide | omega); exact rfl) | (apply e_ld1p; exact rfl; exact rfl; exact (ty rfl); exact rfl; exact rfl; exact (by first | rfl | assumption | ((try simp only [Nat.zero_add]); refine List.getElem?_set_self ?_; (try simp only [List.length_set]); assumption)); exact rfl; exact rfl))
    | (show DE _ _ _ _ _ _ _ _ _ _ _ _; (first | (apply dr_nil; exact trivial) | (apply e_ldap; exact rfl; exact rfl; exact (ty rfl); exact rfl; exact rfl; exact (by first | rfl | assumption | ((try simp only [Nat.zero_add]); refine List.getElem?_set_self ?_; (try simp only [List.length_set]); assumption)); exact rfl; exact rfl) | (apply e_callU; exact rfl; exact rfl; exact rfl; exact FzL.of rfl; exact begin_ro b c _; exact rfl)); (try simp only [put, rowsOf, plR, List.all_cons, selE, ovr, setH, del, cellsA, splice, isV, List.nil_append, List.cons_append, List.map_cons, List.map_nil, List.length_cons, List.length_nil, List.set_cons_zero, List.set_cons_succ, List.take_succ_cons, List.take_zero, List.take_nil, List.drop_succ_cons, List.drop_zero, List.drop_nil, List.append_nil, List.all_cons, List.all_nil, Bool.and_true, Bool.true_and, Bool.and_false, Bool.false_and, Nat.reduceAdd, Nat.zero_add, Nat.add_zero, Nat.reduceEqDiff, if_true, if_false, reduceIte]))
    | (show AW _ _ _ _ _ _ _ _; first | refine aw_region ?_ | (refine aw_seqk ?_; intro K hK) | refine aw_ret ?_ | refine aw_drawE (id := 1) [0, 0, 3, 0, 8, 24, 63, 127] [1, 0, 1, 0, 1, 0, 0, 0] mixed (by kernel_rfl) ?_)
    | refine thn_n ?_
    | (refine hK _ _ _ ?_; clear hK K))); all_goals (repeat (clear hK K)))
  all_goals refine fin_r (fin_i rfl ?_)
  all_goals rfl
def cod (b : Band) (c : Int) : Int := if okB b = true then (if hasB b c = true then 0 else 2) else 1
set_option maxHeartbeats 4000000 in
theorem code_ro (b : Band) (c : Int) (hs : b.sm) (k : Nat) : RO Tryd.prog 20 [.agg (baL b), .v (.int .i64 c)] k (.v (.int .i64 (cod b c))) [] k := by
  cases ho : okB b with
  | false =>
    have b1 : (!okB b) = true := by rw [ho]; rfl
    refine RO.ofv' Tryd.func20 Tryd.ntmps20 rfl (goFn_of Tryd.func20 rfl (by kernel_rfl)) rfl rfl ?_
    unfold baL
    ((repeat' (first
    | (show SQ _ _ _ _ _ _ _ _; first | apply sq_nil | (apply q_assign; exact rfl; exact rfl) | (apply q_not; exact rfl; exact rfl))
    | (show SQ _ _ _ _ _ _ _ _; (first | (apply q_ldap; exact rfl; exact rfl; exact (ty rfl); exact rfl; exact rfl; exact (by first | rfl | assumption | ((try simp only [Nat.zero_add]); refine List.getElem?_set_self ?_; (try simp only [List.length_set]); assumption)); exact rfl) | (apply q_box; exact rfl; exact rfl; exact rfl) | (apply q_callU; exact rfl; exact rfl; exact rfl; exact FzL.of rfl; exact ValidBand_ro b hs _)); (try simp only [put, rowsOf, plR, List.all_cons, selE, ovr, setH, del, cellsA, splice, isV, List.nil_append, List.cons_append, List.map_cons, List.map_nil, List.length_cons, List.length_nil, List.set_cons_zero, List.set_cons_succ, List.take_succ_cons, List.take_zero, List.take_nil, List.drop_succ_cons, List.drop_zero, List.drop_nil, List.append_nil, List.all_cons, List.all_nil, Bool.and_true, Bool.true_and, Bool.and_false, Bool.false_and, Nat.reduceAdd, Nat.zero_add, Nat.add_zero, Nat.reduceEqDiff, if_true, if_false, reduceIte]))
    | (show AW _ _ _ _ _ _ _ _; first | refine aw_region ?_ | (refine aw_seqk ?_; intro K hK) | refine aw_block ?_ | (apply aw_cond_t; exact rfl; exact (by assumption)) | refine aw_ret ?_)
    | refine thn_n ?_
    | (refine hK _ _ _ ?_; clear hK K)
    | refine thn_r ?_
    | refine inb_r ?_)); all_goals (repeat (clear hK K)))
    all_goals refine fin_r (fin_i rfl ?_)
    all_goals simp [cod, ho]
  | true =>
    have b1 : (!okB b) = false := by rw [ho]; rfl
    have hr := ra_pos ho
    refine RO.ofv' Tryd.func20 Tryd.ntmps20 rfl (goFn_of Tryd.func20 rfl (by kernel_rfl)) rfl rfl ?_
    unfold baL
    ((repeat' (first
    | (show SQ _ _ _ _ _ _ _ _; first | apply sq_nil | (apply q_move; exact rfl; exact rfl) | (apply q_assign; exact rfl; exact rfl) | (apply q_not; exact rfl; exact rfl) | (apply q_sub; exact rfl; exact rfl; exact rfl))
    | (show SQ _ _ _ _ _ _ _ _; (first | (apply q_ldap; exact rfl; exact rfl; exact (ty rfl); exact rfl; exact rfl; exact (by first | rfl | assumption | ((try simp only [Nat.zero_add]); refine List.getElem?_set_self ?_; (try simp only [List.length_set]); assumption)); exact rfl) | (apply q_box; exact rfl; exact rfl; exact rfl) | (apply q_callU; exact rfl; exact rfl; exact rfl; exact FzL.of rfl; exact ValidBand_ro b hs _) | (apply q_callU; exact rfl; exact rfl; exact rfl; exact FzL.of rfl; exact count_ro b (by assumption) _) | (apply q_callU; exact rfl; exact rfl; exact rfl; exact FzL.of rfl; exact within_ro _ _ _ _)); (try simp only [put, rowsOf, plR, List.all_cons, selE, ovr, setH, del, cellsA, splice, isV, List.nil_append, List.cons_append, List.map_cons, List.map_nil, List.length_cons, List.length_nil, List.set_cons_zero, List.set_cons_succ, List.take_succ_cons, List.take_zero, List.take_nil, List.drop_succ_cons, List.drop_zero, List.drop_nil, List.append_nil, List.all_cons, List.all_nil, Bool.and_true, Bool.true_and, Bool.and_false, Bool.false_and, Nat.reduceAdd, Nat.zero_add, Nat.add_zero, Nat.reduceEqDiff, if_true, if_false, reduceIte]))
    | (show AW _ _ _ _ _ _ _ _; first | refine aw_region ?_ | (refine aw_seqk ?_; intro K hK) | refine aw_block ?_ | (apply aw_cond_f; exact rfl; exact (by assumption)) | refine aw_ret ?_ | refine aw_skip ?_ | (apply aw_ite; exact rfl; all_goals intro h))
    | refine thn_n ?_
    | (refine hK _ _ _ ?_; clear hK K)
    | refine thn_r ?_
    | refine inb_n ?_
    | refine inb_r ?_)); all_goals (repeat (clear hK K)))
    all_goals refine fin_r (fin_i rfl ?_)
    all_goals simp_all [cod, hasB]
end Go.Proofs.YtmnklmaefoidbaaDoor.Ba

namespace Go.Proofs.YtmnklmaefoidbaaDoor.Ba
open Go Go.RowKit Go.Proofs.YtmnklmaefoidbaaDoor.Aw Go.Proofs.YtmnklmaefoidbaaDoor.In Go.Proofs.YtmnklmaefoidbaaDoor.Sr
set_option linter.unusedSimpArgs false
set_option linter.unusedVariables false
attribute [local irreducible] AW SQ Step RO RC DE Thn InB
structure Pk (s : Sr) (n k x : Int) (s' : Sr) : Prop where
  lo : 0 ≤ x
  hi : x < n
  ok : s'.ok (k + 2)
  rc : ∀ j b, RC Tryd.prog 33 [.ptr b 0 0, .v (.int .i64 n)] [(b, ⟨62, 3, false, [srR s]⟩)] j (.v (.int .i64 x)) [(b, some ⟨62, 3, false, [srR s']⟩)] j
theorem pk_ex {s : Sr} {k : Int} (n : Int) (h : s.ok k) (hk : k ≤ 900000) (h1 : 1 ≤ n) (hn : n ≤ 1000000) : ∃ x s', Pk s n k x s' :=
  ⟨_, _, (pk_bd s n h1).1, (pk_bd s n h1).2, pk_ok n h, fun j b => pick_rc b s n (h.mono hk) hn j⟩
set_option maxHeartbeats 4000000 in
theorem one_rc (b : Nat) {s : Sr} {n k x : Int} {s' : Sr} (h : Pk s n k x s') (j : Nat) : RC Tryd.prog 36 [.ptr b 0 0, .v (.int .i64 n)] [(b, ⟨62, 3, false, [srR s]⟩)] j (.v (.bool (x == 0))) [(b, some ⟨62, 3, false, [srR s']⟩)] j := by
  refine RC.ofc [b] 0 [.ptr 0 0 0, .v (.int .i64 n)] [(0, ⟨62, 3, false, [srR s]⟩)] (.v (.bool (x == 0))) [(0, some ⟨62, 3, false, [srR s']⟩)] Tryd.func36 Tryd.ntmps36 rfl (goFn_of Tryd.func36 rfl (by kernel_rfl)) rfl rfl rfl rfl rfl rfl rfl rfl (by simp_all) rfl ?_
  ((repeat' (first
    | (show SQ _ _ _ _ _ _ _ _; first | apply sq_nil | (apply q_move; exact rfl; exact rfl) | (apply q_assign; exact rfl; exact rfl) | (apply q_eql; exact rfl; exact rfl; exact rfl))
    | (show SQ _ _ _ _ _ _ _ _; (first | (apply q_callC; exact rfl; exact rfl; exact rfl; exact h.rc _ 0; (focus ((repeat (first | exact trivial | refine ⟨by first | exact rfl | assumption, ?_⟩)); done)); skip)); (try simp only [put, rowsOf, plR, List.all_cons, selE, ovr, setH, del, cellsA, splice, isV, List.nil_append, List.cons_append, List.map_cons, List.map_nil, List.length_cons, List.length_nil, List.set_cons_zero, List.set_cons_succ, List.take_succ_cons, List.take_zero, List.take_nil, List.drop_succ_cons, List.drop_zero, List.drop_nil, List.append_nil, List.all_cons, List.all_nil, Bool.and_true, Bool.true_and, Bool.and_false, Bool.false_and, Nat.reduceAdd, Nat.zero_add, Nat.add_zero, Nat.reduceEqDiff, if_true, if_false, reduceIte]))
    | (show AW _ _ _ _ _ _ _ _; first | refine aw_region ?_ | (refine aw_seqk ?_; intro K hK) | refine aw_ret ?_)
    | refine thn_n ?_
    | (refine hK _ _ _ ?_; clear hK K))); all_goals (repeat (clear hK K)))
  exact finc (fun i => i) (.r1 _ _ (.tmp _ _ rfl)) rfl (fun _ _ => rfl) ⟨rfl, trivial⟩ rfl
structure Ak (s : Sr) (ws : List Int) (k x : Int) (s' : Sr) : Prop where
  mem : x ∈ ws
  ok : s'.ok (k + 2)
  rc : ∀ j b c, b ≠ c → RC Tryd.prog 35 [.ptr b 0 0, .sl c 0 ws.length] [(b, ⟨62, 3, false, [srR s]⟩), (c, ⟨2, 1, true, ws.map fun w => [.v (.int .i64 w)]⟩)] j (.v (.int .i64 x)) [(b, some ⟨62, 3, false, [srR s']⟩), (c, some ⟨2, 1, true, ws.map fun w => [.v (.int .i64 w)]⟩)] j
set_option maxHeartbeats 4000000 in
theorem among_rc (b c : Nat) (s : Sr) (ws : List Int) (hbc : b ≠ c) (h : s.ok 900000) (hw : 1 ≤ ws.length) (hw2 : ws.length ≤ 1000) (k : Nat) :
    RC Tryd.prog 35 [.ptr b 0 0, .sl c 0 ws.length] [(b, ⟨62, 3, false, [srR s]⟩), (c, ⟨2, 1, true, ws.map fun w => [.v (.int .i64 w)]⟩)] k (.v (.int .i64 (ws.getD (pk s ws.length).1.toNat 0))) [(b, some ⟨62, 3, false, [srR (pk s ws.length).2]⟩), (c, some ⟨2, 1, true, ws.map fun w => [.v (.int .i64 w)]⟩)] k := by
  have hp := pk_bd s ws.length (by omega)
  obtain ⟨i, hi⟩ : ∃ i : Nat, (pk s ws.length).1 = i := ⟨(pk s ws.length).1.toNat, by omega⟩
  have hil : i < ws.length := by omega
  have hr2 : (ws.map fun w => [AV.v (.int .i64 w)])[0 + ((i : Int)).toNat]? = some [.v (.int .i64 ws[i])] := by simp [hil]
  have hv : ws.getD (pk s ws.length).1.toNat 0 = ws[i] := by rw [hi]; simp [hil]
  rw [hv]
  refine RC.ofc [b, c] 0 [.ptr 0 0 0, .sl 1 0 ws.length] [(0, ⟨62, 3, false, [srR s]⟩), (1, ⟨2, 1, true, ws.map fun w => [.v (.int .i64 w)]⟩)] (.v (.int .i64 ws[i])) [(0, some ⟨62, 3, false, [srR (pk s ws.length).2]⟩), (1, some ⟨2, 1, true, ws.map fun w => [.v (.int .i64 w)]⟩)] Tryd.func35 Tryd.ntmps35 rfl (goFn_of Tryd.func35 rfl (by kernel_rfl)) rfl rfl rfl rfl rfl rfl rfl rfl (by simp_all) rfl ?_
  have hpk := pick_rc 0 s (ws.length : Int) h (by omega)
  rw [hi] at hpk
  ((repeat' (first
    | (show SQ _ _ _ _ _ _ _ _; first | apply sq_nil | (apply q_move; exact rfl; exact rfl) | (apply q_assign; exact rfl; exact rfl) | (apply q_lenl; exact rfl; exact rfl; exact (ty rfl); exact rfl) | (apply q_ixl; exact rfl; exact rfl; exact rfl; exact (ty rfl); exact rfl; exact rfl; exact rfl; exact (by first | omega | (simp; done) | (simp; omega)); exact (by first | omega | (simp; done) | (simp; omega))) | (apply q_ld1p; exact rfl; exact rfl; exact (ty rfl); exact rfl; exact rfl; exact (by first | rfl | assumption | ((try simp only [Nat.zero_add]); refine List.getElem?_set_self ?_; (try simp only [List.length_set]); assumption)); exact rfl))
    | (show SQ _ _ _ _ _ _ _ _; (first | (apply q_callC; exact rfl; exact rfl; exact rfl; exact hpk _; (focus ((repeat (first | exact trivial | refine ⟨by first | exact rfl | assumption, ?_⟩)); done)); skip)); (try simp only [put, rowsOf, plR, List.all_cons, selE, ovr, setH, del, cellsA, splice, isV, List.nil_append, List.cons_append, List.map_cons, List.map_nil, List.length_cons, List.length_nil, List.set_cons_zero, List.set_cons_succ, List.take_succ_cons, List.take_zero, List.take_nil, List.drop_succ_cons, List.drop_zero, List.drop_nil, List.append_nil, List.all_cons, List.all_nil, Bool.and_true, Bool.true_and, Bool.and_false, Bool.false_and, Nat.reduceAdd, Nat.zero_add, Nat.add_zero, Nat.reduceEqDiff, if_true, if_false, reduceIte]))
    | (show AW _ _ _ _ _ _ _ _; first | refine aw_region ?_ | (refine aw_seqk ?_; intro K hK) | refine aw_ret ?_)
    | refine thn_n ?_
    | (refine hK _ _ _ ?_; clear hK K))); all_goals (repeat (clear hK K)))
  exact finc (fun i => i) (.r1 _ _ (.tmp _ _ rfl)) rfl (fun _ _ => rfl) ⟨rfl, rfl, trivial⟩ rfl
theorem ak_ex {s : Sr} {k : Int} (ws : List Int) (h : s.ok k) (hk : k ≤ 900000) (h1 : 1 ≤ ws.length) (hn : ws.length ≤ 1000) : ∃ x s', Ak s ws k x s' := by
  refine ⟨_, _, ?_, pk_ok _ h, fun j b c hbc => among_rc b c s ws hbc (h.mono hk) h1 hn j⟩
  have hp := pk_bd s ws.length (by omega)
  have hl : (pk s ws.length).1.toNat < ws.length := by omega
  rw [List.getD_eq_getElem?_getD, List.getElem?_eq_getElem hl]
  exact List.getElem_mem _
structure Tk (s : Sr) (ws : List ByteArray) (k : Int) (w : ByteArray) (s' : Sr) : Prop where
  mem : w ∈ ws
  ok : s'.ok (k + 2)
  rc : ∀ j b c, b ≠ c → RC Tryd.prog 34 [.ptr b 0 0, .sl c 0 ws.length] [(b, ⟨62, 3, false, [srR s]⟩), (c, ⟨9, 1, true, ws.map fun w => [.v (.string w)]⟩)] j (.v (.string w)) [(b, some ⟨62, 3, false, [srR s']⟩), (c, some ⟨9, 1, true, ws.map fun w => [.v (.string w)]⟩)] j
theorem tk_ex {s : Sr} {k : Int} (ws : List ByteArray) (h : s.ok k) (hk : k ≤ 900000) (h1 : 1 ≤ ws.length) (hn : ws.length ≤ 1000) : ∃ w s', Tk s ws k w s' := by
  refine ⟨_, _, ?_, pk_ok _ h, fun j b c hbc => text_rc b c s ws hbc (h.mono hk) h1 hn j⟩
  have hp := pk_bd s ws.length (by omega)
  have hl : (pk s ws.length).1.toNat < ws.length := by omega
  rw [List.getD_eq_getElem?_getD, List.getElem?_eq_getElem hl]
  exact List.getElem_mem _
structure Bk (f : FuncId) (s : Sr) (k : Int) (b : Band) (s' : Sr) : Prop where
  sm : b.nm.size ≤ 10
  ok : s'.ok (k + 20)
  rc : ∀ j id, RC Tryd.prog f [.ptr id 0 0] [(id, ⟨62, 3, false, [srR s]⟩)] j (.agg (baL b)) [(id, some ⟨62, 3, false, [srR s']⟩)] j
def namT : List ByteArray := [⟨#[98, 57, 48, 48]⟩, ⟨#[118, 104, 102]⟩, ⟨#[117, 104, 102]⟩, ⟨#[109, 119]⟩]
theorem nam_ok {w : ByteArray} (h : w ∈ namT) : w.size ≤ 10 := by
  simp only [namT, List.mem_cons, List.not_mem_nil, or_false] at h
  rcases h with rfl | rfl | rfl | rfl <;> decide
theorem l15DrawOk_ex {s : Sr} {k : Int} (h : s.ok k) (hk : k ≤ 700000) : ∃ b s', Bk 32 s k b s' := by
  obtain ⟨nm, s1, h1⟩ := tk_ex namT h (by omega) (by decide) (by decide)
  obtain ⟨lo, s2, h2⟩ := ak_ex [1, 1000, 150000, 890000, 17700000] h1.ok (by omega) (by decide) (by decide)
  obtain ⟨ra, s3, h3⟩ := ak_ex [1, 7, 25, 200, 1000] h2.ok (by omega) (by decide) (by decide)
  have hra : 1 ≤ ra ∧ ra ≤ 1000 := by
    have := h3.mem
    simp only [List.mem_cons, List.not_mem_nil, or_false] at this
    omega
  obtain ⟨q, s4, h4⟩ := pk_ex 40 h3.ok (by omega) (by omega) (by omega)
  obtain ⟨p, s5, h5⟩ := pk_ex ra h4.ok (by omega) (by omega) (by omega)
  obtain ⟨o, s6, h6⟩ := pk_ex 3 h5.ok (by omega) (by omega) (by omega)
  have ho := fun j b => one_rc b h6 j
  have c1 := fun j => h1.rc j 0 2 (by decide)
  have c2 := fun j => h2.rc j 0 4 (by decide)
  have c3 := fun j => h3.rc j 0 5 (by decide)
  have hsm := nam_ok h1.mem
  simp only [namT, List.map_cons, List.map_nil, List.length_cons, List.length_nil] at c1 c2 c3
  by_cases e : o = 0
  · have b1 : (o == 0) = true := by simpa using e
    obtain ⟨r, s7, h7⟩ := pk_ex 5000 h6.ok (by omega) (by omega) (by omega)
    refine ⟨⟨nm, lo, IntKind.i64.wrap (IntKind.i64.wrap (lo + IntKind.i64.wrap (IntKind.i64.wrap (q + 1) * ra)) + p), ra, IntKind.i64.wrap (IntKind.i64.wrap (IntKind.i64.wrap (IntKind.i64.wrap (lo + IntKind.i64.wrap (IntKind.i64.wrap (q + 1) * ra)) + p) - lo) + r)⟩, s7, hsm, h7.ok.mono (by omega), fun j id => ?_⟩
    unfold baL
    dsimp only
    refine RC.ofc [id] 0 [.ptr 0 0 0] [(0, ⟨62, 3, false, [srR s]⟩)] (.agg [.v (.string nm), .v (.int .i64 lo), .v (.int .i64 (IntKind.i64.wrap (IntKind.i64.wrap (lo + IntKind.i64.wrap (IntKind.i64.wrap (q + 1) * ra)) + p))), .v (.int .i64 ra), .v (.int .i64 (IntKind.i64.wrap (IntKind.i64.wrap (IntKind.i64.wrap (IntKind.i64.wrap (lo + IntKind.i64.wrap (IntKind.i64.wrap (q + 1) * ra)) + p) - lo) + r)))]) [(0, some ⟨62, 3, false, [srR s7]⟩)] Tryd.func32 Tryd.ntmps32 rfl (goFn_of Tryd.func32 rfl (by kernel_rfl)) rfl rfl rfl rfl rfl rfl rfl rfl (by simp_all) rfl ?_
    ((repeat' (first
    | (show SQ _ _ _ _ _ _ _ _; first | apply sq_nil | (apply q_move; exact rfl; exact rfl) | (apply q_assign; exact rfl; exact rfl) | (apply q_fieldAddr; exact rfl; exact rfl; exact (ty rfl); exact rfl; exact rfl; exact rfl; exact rfl) | (apply q_add; exact rfl; exact rfl; exact rfl) | (apply q_build; exact rfl; exact (ty rfl); exact rfl; exact rfl; exact rfl))
    | (show SQ _ _ _ _ _ _ _ _; (first | (apply q_ldap; exact rfl; exact rfl; exact (ty rfl); exact rfl; exact rfl; exact (by first | rfl | assumption | ((try simp only [Nat.zero_add]); refine List.getElem?_set_self ?_; (try simp only [List.length_set]); assumption)); exact rfl) | (apply q_alloc; exact rfl; exact (ty rfl); exact rfl; exact rfl) | (apply q_store; exact rfl; exact rfl; exact (ty rfl); exact rfl; exact (by first | rfl | assumption | ((try simp only [Nat.zero_add]); refine List.getElem?_set_self ?_; (try simp only [List.length_set]); assumption)); exact rfl; exact rfl; exact rfl) | (apply q_buildn; exact rfl; exact (ty rfl); exact rfl; exact rfl; exact rfl; exact rfl; exact rfl; exact rfl; exact rfl) | (apply q_callC; exact rfl; exact rfl; exact rfl; exact c1 _; (focus ((repeat (first | exact trivial | refine ⟨by first | exact rfl | assumption, ?_⟩)); done)); skip) | (apply q_callC; exact rfl; exact rfl; exact rfl; exact c2 _; (focus ((repeat (first | exact trivial | refine ⟨by first | exact rfl | assumption, ?_⟩)); done)); skip) | (apply q_callC; exact rfl; exact rfl; exact rfl; exact c3 _; (focus ((repeat (first | exact trivial | refine ⟨by first | exact rfl | assumption, ?_⟩)); done)); skip) | (apply q_callC; exact rfl; exact rfl; exact rfl; exact h4.rc _ 0; (focus ((repeat (first | exact trivial | refine ⟨by first | exact rfl | assumption, ?_⟩)); done)); skip) | (apply q_callC; exact rfl; exact rfl; exact rfl; exact ho _ 0; (focus ((repeat (first | exact trivial | refine ⟨by first | exact rfl | assumption, ?_⟩)); done)); skip)); (try simp only [put, rowsOf, plR, List.all_cons, selE, ovr, setH, del, cellsA, splice, isV, List.nil_append, List.cons_append, List.map_cons, List.map_nil, List.length_cons, List.length_nil, List.set_cons_zero, List.set_cons_succ, List.take_succ_cons, List.take_zero, List.take_nil, List.drop_succ_cons, List.drop_zero, List.drop_nil, List.append_nil, List.all_cons, List.all_nil, Bool.and_true, Bool.true_and, Bool.and_false, Bool.false_and, Nat.reduceAdd, Nat.zero_add, Nat.add_zero, Nat.reduceEqDiff, if_true, if_false, reduceIte]))
    | (show DE _ _ _ _ _ _ _ _ _ _ _ _; first | (apply e_move; exact rfl; exact rfl; exact rfl) | (apply e_fieldAddr; exact rfl; exact rfl; exact (ty rfl); exact rfl; exact rfl; exact rfl; exact rfl; exact rfl) | (apply e_add; exact rfl; exact rfl; exact rfl; exact rfl) | (apply e_sub; exact rfl; exact rfl; exact rfl; exact rfl) | (apply e_mul; exact rfl; exact rfl; exact rfl; exact rfl))
    | (show DE _ _ _ _ _ _ _ _ _ _ _ _; (first | (apply dr_nil; (focus ((repeat (first | exact trivial | exact Or.inr rfl | exact Or.inl (by kernel_rfl) | apply And.intro)); done))) | (apply e_rd1; exact rfl; exact rfl; exact (ty rfl); exact rfl; exact rfl; exact (by first | rfl | assumption | ((try simp only [Nat.zero_add]); refine List.getElem?_set_self ?_; (try simp only [List.length_set]); assumption)); exact rfl; exact rfl; exact rfl) | (apply e_store; exact rfl; exact rfl; exact (ty rfl); exact rfl; exact (by first | rfl | assumption | ((try simp only [Nat.zero_add]); refine List.getElem?_set_self ?_; (try simp only [List.length_set]); assumption)); exact rfl; exact rfl; exact rfl; exact rfl) | (apply e_callC; exact rfl; exact rfl; exact rfl; exact h5.rc _ 0; (focus ((repeat (first | exact trivial | refine ⟨by first | exact rfl | assumption, ?_⟩)); done)); exact rfl; skip) | (apply e_callC; exact rfl; exact rfl; exact rfl; exact h7.rc _ 0; (focus ((repeat (first | exact trivial | refine ⟨by first | exact rfl | assumption, ?_⟩)); done)); exact rfl; skip)); (try simp only [put, rowsOf, plR, List.all_cons, selE, ovr, setH, del, cellsA, splice, isV, List.nil_append, List.cons_append, List.map_cons, List.map_nil, List.length_cons, List.length_nil, List.set_cons_zero, List.set_cons_succ, List.take_succ_cons, List.take_zero, List.take_nil, List.drop_succ_cons, List.drop_zero, List.drop_nil, List.append_nil, List.all_cons, List.all_nil, Bool.and_true, Bool.true_and, Bool.and_false, Bool.false_and, Nat.reduceAdd, Nat.zero_add, Nat.add_zero, Nat.reduceEqDiff, if_true, if_false, reduceIte]))
    | (show AW _ _ _ _ _ _ _ _; first | refine aw_region ?_ | (refine aw_seqk ?_; intro K hK) | (apply aw_cond_t; exact rfl; exact (by assumption)) | refine aw_ret ?_ | refine aw_drawE (id := 5) [0, 1, 0, 0, 8, 28, 63, 0, 0, 256, 896, 2047, 4095, 8191] [0, 0, 0, 0, 0, 0, 0, 0, 0, 0, 2, 0, 0, 2, 1, 3, 4, 3, 9, 3] mixed (by kernel_rfl) ?_ | refine aw_drawE (id := 7) [0, 1, 0, 4, 15, 0, 32, 127, 255, 511] [0, 0, 0, 0, 0, 0, 2, 0, 0, 2, 1, 3, 3, 3] mixed (by kernel_rfl) ?_)
    | refine thn_n ?_
    | (refine hK _ _ _ ?_; clear hK K))); all_goals (repeat (clear hK K)))
    exact finc (fun i => i) (.r1 _ _ (.agg _ _ _ _ _ rfl (.inr ⟨_, _, _, _, _, rfl, rfl, rfl, rfl⟩) (ty rfl) rfl (Nat.le_of_ble_eq_true rfl))) rfl (fun _ _ => rfl) ⟨rfl, trivial⟩ rfl
  · have b1 : (o == 0) = false := by simpa using e
    refine ⟨⟨nm, lo, IntKind.i64.wrap (IntKind.i64.wrap (lo + IntKind.i64.wrap (IntKind.i64.wrap (q + 1) * ra)) + p), ra, 0⟩, s6, hsm, h6.ok.mono (by omega), fun j id => ?_⟩
    unfold baL
    dsimp only
    refine RC.ofc [id] 0 [.ptr 0 0 0] [(0, ⟨62, 3, false, [srR s]⟩)] (.agg [.v (.string nm), .v (.int .i64 lo), .v (.int .i64 (IntKind.i64.wrap (IntKind.i64.wrap (lo + IntKind.i64.wrap (IntKind.i64.wrap (q + 1) * ra)) + p))), .v (.int .i64 ra), .v (.int .i64 0)]) [(0, some ⟨62, 3, false, [srR s6]⟩)] Tryd.func32 Tryd.ntmps32 rfl (goFn_of Tryd.func32 rfl (by kernel_rfl)) rfl rfl rfl rfl rfl rfl rfl rfl (by simp_all) rfl ?_
    ((repeat' (first
    | (show SQ _ _ _ _ _ _ _ _; first | apply sq_nil | (apply q_move; exact rfl; exact rfl) | (apply q_assign; exact rfl; exact rfl) | (apply q_fieldAddr; exact rfl; exact rfl; exact (ty rfl); exact rfl; exact rfl; exact rfl; exact rfl) | (apply q_add; exact rfl; exact rfl; exact rfl) | (apply q_build; exact rfl; exact (ty rfl); exact rfl; exact rfl; exact rfl))
    | (show SQ _ _ _ _ _ _ _ _; (first | (apply q_ldap; exact rfl; exact rfl; exact (ty rfl); exact rfl; exact rfl; exact (by first | rfl | assumption | ((try simp only [Nat.zero_add]); refine List.getElem?_set_self ?_; (try simp only [List.length_set]); assumption)); exact rfl) | (apply q_alloc; exact rfl; exact (ty rfl); exact rfl; exact rfl) | (apply q_store; exact rfl; exact rfl; exact (ty rfl); exact rfl; exact (by first | rfl | assumption | ((try simp only [Nat.zero_add]); refine List.getElem?_set_self ?_; (try simp only [List.length_set]); assumption)); exact rfl; exact rfl; exact rfl) | (apply q_buildn; exact rfl; exact (ty rfl); exact rfl; exact rfl; exact rfl; exact rfl; exact rfl; exact rfl; exact rfl) | (apply q_callC; exact rfl; exact rfl; exact rfl; exact c1 _; (focus ((repeat (first | exact trivial | refine ⟨by first | exact rfl | assumption, ?_⟩)); done)); skip) | (apply q_callC; exact rfl; exact rfl; exact rfl; exact c2 _; (focus ((repeat (first | exact trivial | refine ⟨by first | exact rfl | assumption, ?_⟩)); done)); skip) | (apply q_callC; exact rfl; exact rfl; exact rfl; exact c3 _; (focus ((repeat (first | exact trivial | refine ⟨by first | exact rfl | assumption, ?_⟩)); done)); skip) | (apply q_callC; exact rfl; exact rfl; exact rfl; exact h4.rc _ 0; (focus ((repeat (first | exact trivial | refine ⟨by first | exact rfl | assumption, ?_⟩)); done)); skip) | (apply q_callC; exact rfl; exact rfl; exact rfl; exact ho _ 0; (focus ((repeat (first | exact trivial | refine ⟨by first | exact rfl | assumption, ?_⟩)); done)); skip)); (try simp only [put, rowsOf, plR, List.all_cons, selE, ovr, setH, del, cellsA, splice, isV, List.nil_append, List.cons_append, List.map_cons, List.map_nil, List.length_cons, List.length_nil, List.set_cons_zero, List.set_cons_succ, List.take_succ_cons, List.take_zero, List.take_nil, List.drop_succ_cons, List.drop_zero, List.drop_nil, List.append_nil, List.all_cons, List.all_nil, Bool.and_true, Bool.true_and, Bool.and_false, Bool.false_and, Nat.reduceAdd, Nat.zero_add, Nat.add_zero, Nat.reduceEqDiff, if_true, if_false, reduceIte]))
    | (show DE _ _ _ _ _ _ _ _ _ _ _ _; first | (apply e_move; exact rfl; exact rfl; exact rfl) | (apply e_fieldAddr; exact rfl; exact rfl; exact (ty rfl); exact rfl; exact rfl; exact rfl; exact rfl; exact rfl) | (apply e_add; exact rfl; exact rfl; exact rfl; exact rfl) | (apply e_mul; exact rfl; exact rfl; exact rfl; exact rfl))
    | (show DE _ _ _ _ _ _ _ _ _ _ _ _; (first | (apply dr_nil; (focus ((repeat (first | exact trivial | exact Or.inr rfl | exact Or.inl (by kernel_rfl) | apply And.intro)); done))) | (apply e_rd1; exact rfl; exact rfl; exact (ty rfl); exact rfl; exact rfl; exact (by first | rfl | assumption | ((try simp only [Nat.zero_add]); refine List.getElem?_set_self ?_; (try simp only [List.length_set]); assumption)); exact rfl; exact rfl; exact rfl) | (apply e_store; exact rfl; exact rfl; exact (ty rfl); exact rfl; exact (by first | rfl | assumption | ((try simp only [Nat.zero_add]); refine List.getElem?_set_self ?_; (try simp only [List.length_set]); assumption)); exact rfl; exact rfl; exact rfl; exact rfl) | (apply e_callC; exact rfl; exact rfl; exact rfl; exact h5.rc _ 0; (focus ((repeat (first | exact trivial | refine ⟨by first | exact rfl | assumption, ?_⟩)); done)); exact rfl; skip)); (try simp only [put, rowsOf, plR, List.all_cons, selE, ovr, setH, del, cellsA, splice, isV, List.nil_append, List.cons_append, List.map_cons, List.map_nil, List.length_cons, List.length_nil, List.set_cons_zero, List.set_cons_succ, List.take_succ_cons, List.take_zero, List.take_nil, List.drop_succ_cons, List.drop_zero, List.drop_nil, List.append_nil, List.all_cons, List.all_nil, Bool.and_true, Bool.true_and, Bool.and_false, Bool.false_and, Nat.reduceAdd, Nat.zero_add, Nat.add_zero, Nat.reduceEqDiff, if_true, if_false, reduceIte]))
    | (show AW _ _ _ _ _ _ _ _; first | refine aw_region ?_ | (refine aw_seqk ?_; intro K hK) | (apply aw_cond_f; exact rfl; exact (by assumption)) | refine aw_ret ?_ | refine aw_skip ?_ | refine aw_drawE (id := 5) [0, 1, 0, 0, 8, 28, 63, 0, 0, 256, 896, 2047, 4095, 8191] [0, 0, 0, 0, 0, 0, 0, 0, 0, 0, 2, 0, 0, 2, 1, 3, 4, 3, 9, 3] mixed (by kernel_rfl) ?_)
    | refine thn_n ?_
    | (refine hK _ _ _ ?_; clear hK K))); all_goals (repeat (clear hK K)))
    exact finc (fun i => i) (.r1 _ _ (.agg _ _ _ _ _ rfl (.inr ⟨_, _, _, _, _, rfl, rfl, rfl, rfl⟩) (ty rfl) rfl (Nat.le_of_ble_eq_true rfl))) rfl (fun _ _ => rfl) ⟨rfl, trivial⟩ rfl
end Go.Proofs.YtmnklmaefoidbaaDoor.Ba

namespace Go.Proofs.YtmnklmaefoidbaaDoor.Ba
open Go Go.RowKit Go.Proofs.YtmnklmaefoidbaaDoor.Aw Go.Proofs.YtmnklmaefoidbaaDoor.In Go.Proofs.YtmnklmaefoidbaaDoor.Sr
set_option linter.unusedSimpArgs false
set_option linter.unusedVariables false
attribute [local irreducible] AW SQ Step RO RC DE Thn InB
theorem l15Draw_ex {s : Sr} {k : Int} (h : s.ok k) (hk : k ≤ 600000) : ∃ b s', Bk 18 s (k + 20) b s' := by
  obtain ⟨⟨nm, lo, hi, ra, du⟩, s1, h1⟩ := l15DrawOk_ex h (by omega)
  obtain ⟨d, s2, h2⟩ := pk_ex 18 h1.ok (by omega) (by omega) (by omega)
  have hsm : nm.size ≤ 10 := h1.sm
  have r1 := h1.rc
  unfold baL at r1
  dsimp only at r1
  by_cases c0 : d = 0
  · -- 0
    have e0 : (d == 0) = true := by simpa using c0
    obtain ⟨x, s3, h3⟩ := tk_ex [⟨#[]⟩, ⟨#[66]⟩] h2.ok (by omega) (by decide) (by decide)
    have c3 := fun j => h3.rc j 0 3 (by decide)
    have hx : x.size ≤ 10 := by
      have := h3.mem
      simp only [List.mem_cons, List.not_mem_nil, or_false] at this
      rcases this with rfl | rfl <;> decide
    simp only [List.map_cons, List.map_nil, List.length_cons, List.length_nil] at c3
    refine ⟨⟨x, lo, hi, ra, du⟩, s3, hx, h3.ok.mono (by omega), fun j id => ?_⟩
    unfold baL
    dsimp only
    refine RC.ofc [id] 0 [.ptr 0 0 0] [(0, ⟨62, 3, false, [srR s]⟩)] (.agg [.v (.string x), .v (.int .i64 (lo)), .v (.int .i64 (hi)), .v (.int .i64 (ra)), .v (.int .i64 (du))]) [(0, some ⟨62, 3, false, [srR s3]⟩)] Tryd.func18 Tryd.ntmps18 rfl (goFn_of Tryd.func18 rfl (by kernel_rfl)) rfl rfl rfl rfl rfl rfl rfl rfl (by simp_all) rfl ?_
    ((repeat' (first
    | (show SQ _ _ _ _ _ _ _ _; first | apply sq_nil | (apply q_move; exact rfl; exact rfl) | (apply q_assign; exact rfl; exact rfl) | (apply q_fieldAddr; exact rfl; exact rfl; exact (ty rfl); exact rfl; exact rfl; exact rfl; exact rfl) | (apply q_eql; exact rfl; exact rfl; exact rfl))
    | (show SQ _ _ _ _ _ _ _ _; (first | (apply q_ldap; exact rfl; exact rfl; exact (ty rfl); exact rfl; exact rfl; exact (by first | rfl | assumption | ((try simp only [Nat.zero_add]); refine List.getElem?_set_self ?_; (try simp only [List.length_set]); assumption)); exact rfl) | (apply q_alloc; exact rfl; exact (ty rfl); exact rfl; exact rfl) | (apply q_store; exact rfl; exact rfl; exact (ty rfl); exact rfl; exact (by first | rfl | assumption | ((try simp only [Nat.zero_add]); refine List.getElem?_set_self ?_; (try simp only [List.length_set]); assumption)); exact rfl; exact rfl; exact rfl) | (apply q_buildn; exact rfl; exact (ty rfl); exact rfl; exact rfl; exact rfl; exact rfl; exact rfl; exact rfl; exact rfl) | (apply q_callC; exact rfl; exact rfl; exact rfl; exact r1 _ 0; (focus ((repeat (first | exact trivial | refine ⟨by first | exact rfl | assumption, ?_⟩)); done)); skip) | (apply q_callC; exact rfl; exact rfl; exact rfl; exact h2.rc _ 0; (focus ((repeat (first | exact trivial | refine ⟨by first | exact rfl | assumption, ?_⟩)); done)); skip) | (apply q_callC; exact rfl; exact rfl; exact rfl; exact c3 _; (focus ((repeat (first | exact trivial | refine ⟨by first | exact rfl | assumption, ?_⟩)); done)); skip)); (try simp only [put, rowsOf, plR, List.all_cons, selE, ovr, setH, del, cellsA, splice, isV, List.nil_append, List.cons_append, List.map_cons, List.map_nil, List.length_cons, List.length_nil, List.set_cons_zero, List.set_cons_succ, List.take_succ_cons, List.take_zero, List.take_nil, List.drop_succ_cons, List.drop_zero, List.drop_nil, List.append_nil, List.all_cons, List.all_nil, Bool.and_true, Bool.true_and, Bool.and_false, Bool.false_and, Nat.reduceAdd, Nat.zero_add, Nat.add_zero, Nat.reduceEqDiff, if_true, if_false, reduceIte]))
    | (show AW _ _ _ _ _ _ _ _; first | refine aw_region ?_ | (refine aw_seqk ?_; intro K hK) | refine aw_block ?_ | (apply aw_cond_t; exact rfl; exact (by assumption)) | refine aw_ret ?_)
    | refine thn_n ?_
    | (refine hK _ _ _ ?_; clear hK K)
    | refine inb_n ?_)); all_goals (repeat (clear hK K)))
    exact finc (fun i => i) (.r1 _ _ (.agg _ _ _ _ _ rfl (.inr ⟨_, _, _, _, _, rfl, rfl, rfl, rfl⟩) (ty rfl) rfl (Nat.le_of_ble_eq_true rfl))) rfl (fun _ _ => rfl) ⟨rfl, trivial⟩ rfl
  by_cases c1 : d = 1
  · -- 1
    have e0 : (d == 0) = false := by simpa using c0
    have e1 : (d == 1) = true := by simpa using c1
    obtain ⟨x, s3, h3⟩ := ak_ex [0, -5, hi, IntKind.i64.wrap (hi + 1)] h2.ok (by omega) (by simp) (by simp)
    have c3 := fun j => h3.rc j 0 3 (by decide)
    simp only [List.map_cons, List.map_nil, List.length_cons, List.length_nil] at c3
    refine ⟨⟨nm, x, hi, ra, du⟩, s3, hsm, h3.ok.mono (by omega), fun j id => ?_⟩
    unfold baL
    dsimp only
    refine RC.ofc [id] 0 [.ptr 0 0 0] [(0, ⟨62, 3, false, [srR s]⟩)] (.agg [.v (.string nm), .v (.int .i64 (x)), .v (.int .i64 (hi)), .v (.int .i64 (ra)), .v (.int .i64 (du))]) [(0, some ⟨62, 3, false, [srR s3]⟩)] Tryd.func18 Tryd.ntmps18 rfl (goFn_of Tryd.func18 rfl (by kernel_rfl)) rfl rfl rfl rfl rfl rfl rfl rfl (by simp_all) rfl ?_
    ((repeat' (first
    | (show SQ _ _ _ _ _ _ _ _; first | apply sq_nil | (apply q_move; exact rfl; exact rfl) | (apply q_assign; exact rfl; exact rfl) | (apply q_fieldAddr; exact rfl; exact rfl; exact (ty rfl); exact rfl; exact rfl; exact rfl; exact rfl) | (apply q_add; exact rfl; exact rfl; exact rfl) | (apply q_eql; exact rfl; exact rfl; exact rfl) | (apply q_ld1p; exact rfl; exact rfl; exact (ty rfl); exact rfl; exact rfl; exact (by first | rfl | assumption | ((try simp only [Nat.zero_add]); refine List.getElem?_set_self ?_; (try simp only [List.length_set]); assumption)); exact rfl))
    | (show SQ _ _ _ _ _ _ _ _; (first | (apply q_ldap; exact rfl; exact rfl; exact (ty rfl); exact rfl; exact rfl; exact (by first | rfl | assumption | ((try simp only [Nat.zero_add]); refine List.getElem?_set_self ?_; (try simp only [List.length_set]); assumption)); exact rfl) | (apply q_alloc; exact rfl; exact (ty rfl); exact rfl; exact rfl) | (apply q_store; exact rfl; exact rfl; exact (ty rfl); exact rfl; exact (by first | rfl | assumption | ((try simp only [Nat.zero_add]); refine List.getElem?_set_self ?_; (try simp only [List.length_set]); assumption)); exact rfl; exact rfl; exact rfl) | (apply q_buildn; exact rfl; exact (ty rfl); exact rfl; exact rfl; exact rfl; exact rfl; exact rfl; exact rfl; exact rfl) | (apply q_callC; exact rfl; exact rfl; exact rfl; exact r1 _ 0; (focus ((repeat (first | exact trivial | refine ⟨by first | exact rfl | assumption, ?_⟩)); done)); skip) | (apply q_callC; exact rfl; exact rfl; exact rfl; exact h2.rc _ 0; (focus ((repeat (first | exact trivial | refine ⟨by first | exact rfl | assumption, ?_⟩)); done)); skip) | (apply q_callC; exact rfl; exact rfl; exact rfl; exact c3 _; (focus ((repeat (first | exact trivial | refine ⟨by first | exact rfl | assumption, ?_⟩)); done)); skip)); (try simp only [put, rowsOf, plR, List.all_cons, selE, ovr, setH, del, cellsA, splice, isV, List.nil_append, List.cons_append, List.map_cons, List.map_nil, List.length_cons, List.length_nil, List.set_cons_zero, List.set_cons_succ, List.take_succ_cons, List.take_zero, List.take_nil, List.drop_succ_cons, List.drop_zero, List.drop_nil, List.append_nil, List.all_cons, List.all_nil, Bool.and_true, Bool.true_and, Bool.and_false, Bool.false_and, Nat.reduceAdd, Nat.zero_add, Nat.add_zero, Nat.reduceEqDiff, if_true, if_false, reduceIte]))
    | (show AW _ _ _ _ _ _ _ _; first | refine aw_region ?_ | (refine aw_seqk ?_; intro K hK) | refine aw_block ?_ | (apply aw_cond_t; exact rfl; exact (by assumption)) | (apply aw_cond_f; exact rfl; exact (by assumption)) | refine aw_ret ?_)
    | refine thn_n ?_
    | (refine hK _ _ _ ?_; clear hK K)
    | refine inb_n ?_)); all_goals (repeat (clear hK K)))
    exact finc (fun i => i) (.r1 _ _ (.agg _ _ _ _ _ rfl (.inr ⟨_, _, _, _, _, rfl, rfl, rfl, rfl⟩) (ty rfl) rfl (Nat.le_of_ble_eq_true rfl))) rfl (fun _ _ => rfl) ⟨rfl, trivial⟩ rfl
  by_cases c2 : d = 2
  · -- 2
    have e0 : (d == 0) = false := by simpa using c0
    have e1 : (d == 1) = false := by simpa using c1
    have e2 : (d == 2) = true := by simpa using c2
    obtain ⟨x, s3, h3⟩ := ak_ex [100000000, 100000001, lo] h2.ok (by omega) (by simp) (by simp)
    have c3 := fun j => h3.rc j 0 3 (by decide)
    simp only [List.map_cons, List.map_nil, List.length_cons, List.length_nil] at c3
    refine ⟨⟨nm, lo, x, ra, du⟩, s3, hsm, h3.ok.mono (by omega), fun j id => ?_⟩
    unfold baL
    dsimp only
    refine RC.ofc [id] 0 [.ptr 0 0 0] [(0, ⟨62, 3, false, [srR s]⟩)] (.agg [.v (.string nm), .v (.int .i64 (lo)), .v (.int .i64 (x)), .v (.int .i64 (ra)), .v (.int .i64 (du))]) [(0, some ⟨62, 3, false, [srR s3]⟩)] Tryd.func18 Tryd.ntmps18 rfl (goFn_of Tryd.func18 rfl (by kernel_rfl)) rfl rfl rfl rfl rfl rfl rfl rfl (by simp_all) rfl ?_
    ((repeat' (first
    | (show SQ _ _ _ _ _ _ _ _; first | apply sq_nil | (apply q_move; exact rfl; exact rfl) | (apply q_assign; exact rfl; exact rfl) | (apply q_fieldAddr; exact rfl; exact rfl; exact (ty rfl); exact rfl; exact rfl; exact rfl; exact rfl) | (apply q_eql; exact rfl; exact rfl; exact rfl) | (apply q_ld1p; exact rfl; exact rfl; exact (ty rfl); exact rfl; exact rfl; exact (by first | rfl | assumption | ((try simp only [Nat.zero_add]); refine List.getElem?_set_self ?_; (try simp only [List.length_set]); assumption)); exact rfl))
    | (show SQ _ _ _ _ _ _ _ _; (first | (apply q_ldap; exact rfl; exact rfl; exact (ty rfl); exact rfl; exact rfl; exact (by first | rfl | assumption | ((try simp only [Nat.zero_add]); refine List.getElem?_set_self ?_; (try simp only [List.length_set]); assumption)); exact rfl) | (apply q_alloc; exact rfl; exact (ty rfl); exact rfl; exact rfl) | (apply q_store; exact rfl; exact rfl; exact (ty rfl); exact rfl; exact (by first | rfl | assumption | ((try simp only [Nat.zero_add]); refine List.getElem?_set_self ?_; (try simp only [List.length_set]); assumption)); exact rfl; exact rfl; exact rfl) | (apply q_buildn; exact rfl; exact (ty rfl); exact rfl; exact rfl; exact rfl; exact rfl; exact rfl; exact rfl; exact rfl) | (apply q_callC; exact rfl; exact rfl; exact rfl; exact r1 _ 0; (focus ((repeat (first | exact trivial | refine ⟨by first | exact rfl | assumption, ?_⟩)); done)); skip) | (apply q_callC; exact rfl; exact rfl; exact rfl; exact h2.rc _ 0; (focus ((repeat (first | exact trivial | refine ⟨by first | exact rfl | assumption, ?_⟩)); done)); skip) | (apply q_callC; exact rfl; exact rfl; exact rfl; exact c3 _; (focus ((repeat (first | exact trivial | refine ⟨by first | exact rfl | assumption, ?_⟩)); done)); skip)); (try simp only [put, rowsOf, plR, List.all_cons, selE, ovr, setH, del, cellsA, splice, isV, List.nil_append, List.cons_append, List.map_cons, List.map_nil, List.length_cons, List.length_nil, List.set_cons_zero, List.set_cons_succ, List.take_succ_cons, List.take_zero, List.take_nil, List.drop_succ_cons, List.drop_zero, List.drop_nil, List.append_nil, List.all_cons, List.all_nil, Bool.and_true, Bool.true_and, Bool.and_false, Bool.false_and, Nat.reduceAdd, Nat.zero_add, Nat.add_zero, Nat.reduceEqDiff, if_true, if_false, reduceIte]))
    | (show AW _ _ _ _ _ _ _ _; first | refine aw_region ?_ | (refine aw_seqk ?_; intro K hK) | refine aw_block ?_ | (apply aw_cond_t; exact rfl; exact (by assumption)) | (apply aw_cond_f; exact rfl; exact (by assumption)) | refine aw_ret ?_)
    | refine thn_n ?_
    | (refine hK _ _ _ ?_; clear hK K)
    | refine inb_n ?_)); all_goals (repeat (clear hK K)))
    exact finc (fun i => i) (.r1 _ _ (.agg _ _ _ _ _ rfl (.inr ⟨_, _, _, _, _, rfl, rfl, rfl, rfl⟩) (ty rfl) rfl (Nat.le_of_ble_eq_true rfl))) rfl (fun _ _ => rfl) ⟨rfl, trivial⟩ rfl
  by_cases c3 : d = 3
  · -- 3
    have e0 : (d == 0) = false := by simpa using c0
    have e1 : (d == 1) = false := by simpa using c1
    have e2 : (d == 2) = false := by simpa using c2
    have e3 : (d == 3) = true := by simpa using c3
    obtain ⟨x, s3, h3⟩ := ak_ex [0, -1, 100000, 100001] h2.ok (by omega) (by simp) (by simp)
    have c3 := fun j => h3.rc j 0 3 (by decide)
    simp only [List.map_cons, List.map_nil, List.length_cons, List.length_nil] at c3
    refine ⟨⟨nm, lo, hi, x, du⟩, s3, hsm, h3.ok.mono (by omega), fun j id => ?_⟩
    unfold baL
    dsimp only
    refine RC.ofc [id] 0 [.ptr 0 0 0] [(0, ⟨62, 3, false, [srR s]⟩)] (.agg [.v (.string nm), .v (.int .i64 (lo)), .v (.int .i64 (hi)), .v (.int .i64 (x)), .v (.int .i64 (du))]) [(0, some ⟨62, 3, false, [srR s3]⟩)] Tryd.func18 Tryd.ntmps18 rfl (goFn_of Tryd.func18 rfl (by kernel_rfl)) rfl rfl rfl rfl rfl rfl rfl rfl (by simp_all) rfl ?_
    ((repeat' (first
    | (show SQ _ _ _ _ _ _ _ _; first | apply sq_nil | (apply q_move; exact rfl; exact rfl) | (apply q_assign; exact rfl; exact rfl) | (apply q_fieldAddr; exact rfl; exact rfl; exact (ty rfl); exact rfl; exact rfl; exact rfl; exact rfl) | (apply q_eql; exact rfl; exact rfl; exact rfl))
    | (show SQ _ _ _ _ _ _ _ _; (first | (apply q_ldap; exact rfl; exact rfl; exact (ty rfl); exact rfl; exact rfl; exact (by first | rfl | assumption | ((try simp only [Nat.zero_add]); refine List.getElem?_set_self ?_; (try simp only [List.length_set]); assumption)); exact rfl) | (apply q_alloc; exact rfl; exact (ty rfl); exact rfl; exact rfl) | (apply q_store; exact rfl; exact rfl; exact (ty rfl); exact rfl; exact (by first | rfl | assumption | ((try simp only [Nat.zero_add]); refine List.getElem?_set_self ?_; (try simp only [List.length_set]); assumption)); exact rfl; exact rfl; exact rfl) | (apply q_buildn; exact rfl; exact (ty rfl); exact rfl; exact rfl; exact rfl; exact rfl; exact rfl; exact rfl; exact rfl) | (apply q_callC; exact rfl; exact rfl; exact rfl; exact r1 _ 0; (focus ((repeat (first | exact trivial | refine ⟨by first | exact rfl | assumption, ?_⟩)); done)); skip) | (apply q_callC; exact rfl; exact rfl; exact rfl; exact h2.rc _ 0; (focus ((repeat (first | exact trivial | refine ⟨by first | exact rfl | assumption, ?_⟩)); done)); skip) | (apply q_callC; exact rfl; exact rfl; exact rfl; exact c3 _; (focus ((repeat (first | exact trivial | refine ⟨by first | exact rfl | assumption, ?_⟩)); done)); skip)); (try simp only [put, rowsOf, plR, List.all_cons, selE, ovr, setH, del, cellsA, splice, isV, List.nil_append, List.cons_append, List.map_cons, List.map_nil, List.length_cons, List.length_nil, List.set_cons_zero, List.set_cons_succ, List.take_succ_cons, List.take_zero, List.take_nil, List.drop_succ_cons, List.drop_zero, List.drop_nil, List.append_nil, List.all_cons, List.all_nil, Bool.and_true, Bool.true_and, Bool.and_false, Bool.false_and, Nat.reduceAdd, Nat.zero_add, Nat.add_zero, Nat.reduceEqDiff, if_true, if_false, reduceIte]))
    | (show AW _ _ _ _ _ _ _ _; first | refine aw_region ?_ | (refine aw_seqk ?_; intro K hK) | refine aw_block ?_ | (apply aw_cond_t; exact rfl; exact (by assumption)) | (apply aw_cond_f; exact rfl; exact (by assumption)) | refine aw_ret ?_)
    | refine thn_n ?_
    | (refine hK _ _ _ ?_; clear hK K)
    | refine inb_n ?_)); all_goals (repeat (clear hK K)))
    exact finc (fun i => i) (.r1 _ _ (.agg _ _ _ _ _ rfl (.inr ⟨_, _, _, _, _, rfl, rfl, rfl, rfl⟩) (ty rfl) rfl (Nat.le_of_ble_eq_true rfl))) rfl (fun _ _ => rfl) ⟨rfl, trivial⟩ rfl
  by_cases c4 : d = 4
  · -- 4
    have e0 : (d == 0) = false := by simpa using c0
    have e1 : (d == 1) = false := by simpa using c1
    have e2 : (d == 2) = false := by simpa using c2
    have e3 : (d == 3) = false := by simpa using c3
    have e4 : (d == 4) = true := by simpa using c4
    obtain ⟨x, s3, h3⟩ := ak_ex [-1, 1, 100000000] h2.ok (by omega) (by simp) (by simp)
    have c3 := fun j => h3.rc j 0 3 (by decide)
    simp only [List.map_cons, List.map_nil, List.length_cons, List.length_nil] at c3
    refine ⟨⟨nm, lo, hi, ra, x⟩, s3, hsm, h3.ok.mono (by omega), fun j id => ?_⟩
    unfold baL
    dsimp only
    refine RC.ofc [id] 0 [.ptr 0 0 0] [(0, ⟨62, 3, false, [srR s]⟩)] (.agg [.v (.string nm), .v (.int .i64 (lo)), .v (.int .i64 (hi)), .v (.int .i64 (ra)), .v (.int .i64 (x))]) [(0, some ⟨62, 3, false, [srR s3]⟩)] Tryd.func18 Tryd.ntmps18 rfl (goFn_of Tryd.func18 rfl (by kernel_rfl)) rfl rfl rfl rfl rfl rfl rfl rfl (by simp_all) rfl ?_
    ((repeat' (first
    | (show SQ _ _ _ _ _ _ _ _; first | apply sq_nil | (apply q_move; exact rfl; exact rfl) | (apply q_assign; exact rfl; exact rfl) | (apply q_fieldAddr; exact rfl; exact rfl; exact (ty rfl); exact rfl; exact rfl; exact rfl; exact rfl) | (apply q_eql; exact rfl; exact rfl; exact rfl))
    | (show SQ _ _ _ _ _ _ _ _; (first | (apply q_ldap; exact rfl; exact rfl; exact (ty rfl); exact rfl; exact rfl; exact (by first | rfl | assumption | ((try simp only [Nat.zero_add]); refine List.getElem?_set_self ?_; (try simp only [List.length_set]); assumption)); exact rfl) | (apply q_alloc; exact rfl; exact (ty rfl); exact rfl; exact rfl) | (apply q_store; exact rfl; exact rfl; exact (ty rfl); exact rfl; exact (by first | rfl | assumption | ((try simp only [Nat.zero_add]); refine List.getElem?_set_self ?_; (try simp only [List.length_set]); assumption)); exact rfl; exact rfl; exact rfl) | (apply q_buildn; exact rfl; exact (ty rfl); exact rfl; exact rfl; exact rfl; exact rfl; exact rfl; exact rfl; exact rfl) | (apply q_callC; exact rfl; exact rfl; exact rfl; exact r1 _ 0; (focus ((repeat (first | exact trivial | refine ⟨by first | exact rfl | assumption, ?_⟩)); done)); skip) | (apply q_callC; exact rfl; exact rfl; exact rfl; exact h2.rc _ 0; (focus ((repeat (first | exact trivial | refine ⟨by first | exact rfl | assumption, ?_⟩)); done)); skip) | (apply q_callC; exact rfl; exact rfl; exact rfl; exact c3 _; (focus ((repeat (first | exact trivial | refine ⟨by first | exact rfl | assumption, ?_⟩)); done)); skip)); (try simp only [put, rowsOf, plR, List.all_cons, selE, ovr, setH, del, cellsA, splice, isV, List.nil_append, List.cons_append, List.map_cons, List.map_nil, List.length_cons, List.length_nil, List.set_cons_zero, List.set_cons_succ, List.take_succ_cons, List.take_zero, List.take_nil, List.drop_succ_cons, List.drop_zero, List.drop_nil, List.append_nil, List.all_cons, List.all_nil, Bool.and_true, Bool.true_and, Bool.and_false, Bool.false_and, Nat.reduceAdd, Nat.zero_add, Nat.add_zero, Nat.reduceEqDiff, if_true, if_false, reduceIte]))
    | (show AW _ _ _ _ _ _ _ _; first | refine aw_region ?_ | (refine aw_seqk ?_; intro K hK) | refine aw_block ?_ | (apply aw_cond_t; exact rfl; exact (by assumption)) | (apply aw_cond_f; exact rfl; exact (by assumption)) | refine aw_ret ?_)
    | refine thn_n ?_
    | (refine hK _ _ _ ?_; clear hK K)
    | refine inb_n ?_)); all_goals (repeat (clear hK K)))
    exact finc (fun i => i) (.r1 _ _ (.agg _ _ _ _ _ rfl (.inr ⟨_, _, _, _, _, rfl, rfl, rfl, rfl⟩) (ty rfl) rfl (Nat.le_of_ble_eq_true rfl))) rfl (fun _ _ => rfl) ⟨rfl, trivial⟩ rfl
  by_cases c5 : d = 5
  · obtain ⟨x, s3, h3⟩ := pk_ex 2 h2.ok (by omega) (by omega) (by omega)
    have c9 := fun j b => one_rc b h3 j
    by_cases c6 : x = 0
    · -- 5a
      have e0 : (d == 0) = false := by simpa using c0
      have e1 : (d == 1) = false := by simpa using c1
      have e2 : (d == 2) = false := by simpa using c2
      have e3 : (d == 3) = false := by simpa using c3
      have e4 : (d == 4) = false := by simpa using c4
      have e5 : (d == 5) = true := by simpa using c5
      have e6 : (x == 0) = true := by simpa using c6
      refine ⟨⟨nm, lo, IntKind.i64.wrap (IntKind.i64.wrap (lo + IntKind.i64.wrap (1000 * ra)) + ra), ra, du⟩, s3, hsm, h3.ok.mono (by omega), fun j id => ?_⟩
      unfold baL
      dsimp only
      refine RC.ofc [id] 0 [.ptr 0 0 0] [(0, ⟨62, 3, false, [srR s]⟩)] (.agg [.v (.string nm), .v (.int .i64 (lo)), .v (.int .i64 (IntKind.i64.wrap (IntKind.i64.wrap (lo + IntKind.i64.wrap (1000 * ra)) + ra))), .v (.int .i64 (ra)), .v (.int .i64 (du))]) [(0, some ⟨62, 3, false, [srR s3]⟩)] Tryd.func18 Tryd.ntmps18 rfl (goFn_of Tryd.func18 rfl (by kernel_rfl)) rfl rfl rfl rfl rfl rfl rfl rfl (by simp_all) rfl ?_
      ((repeat' (first
    | (show SQ _ _ _ _ _ _ _ _; first | apply sq_nil | (apply q_move; exact rfl; exact rfl) | (apply q_assign; exact rfl; exact rfl) | (apply q_fieldAddr; exact rfl; exact rfl; exact (ty rfl); exact rfl; exact rfl; exact rfl; exact rfl) | (apply q_add; exact rfl; exact rfl; exact rfl) | (apply q_mul; exact rfl; exact rfl; exact rfl) | (apply q_eql; exact rfl; exact rfl; exact rfl) | (apply q_ld1p; exact rfl; exact rfl; exact (ty rfl); exact rfl; exact rfl; exact (by first | rfl | assumption | ((try simp only [Nat.zero_add]); refine List.getElem?_set_self ?_; (try simp only [List.length_set]); assumption)); exact rfl))
    | (show SQ _ _ _ _ _ _ _ _; (first | (apply q_ldap; exact rfl; exact rfl; exact (ty rfl); exact rfl; exact rfl; exact (by first | rfl | assumption | ((try simp only [Nat.zero_add]); refine List.getElem?_set_self ?_; (try simp only [List.length_set]); assumption)); exact rfl) | (apply q_alloc; exact rfl; exact (ty rfl); exact rfl; exact rfl) | (apply q_store; exact rfl; exact rfl; exact (ty rfl); exact rfl; exact (by first | rfl | assumption | ((try simp only [Nat.zero_add]); refine List.getElem?_set_self ?_; (try simp only [List.length_set]); assumption)); exact rfl; exact rfl; exact rfl) | (apply q_callC; exact rfl; exact rfl; exact rfl; exact r1 _ 0; (focus ((repeat (first | exact trivial | refine ⟨by first | exact rfl | assumption, ?_⟩)); done)); skip) | (apply q_callC; exact rfl; exact rfl; exact rfl; exact h2.rc _ 0; (focus ((repeat (first | exact trivial | refine ⟨by first | exact rfl | assumption, ?_⟩)); done)); skip) | (apply q_callC; exact rfl; exact rfl; exact rfl; exact c9 _ 0; (focus ((repeat (first | exact trivial | refine ⟨by first | exact rfl | assumption, ?_⟩)); done)); skip)); (try simp only [put, rowsOf, plR, List.all_cons, selE, ovr, setH, del, cellsA, splice, isV, List.nil_append, List.cons_append, List.map_cons, List.map_nil, List.length_cons, List.length_nil, List.set_cons_zero, List.set_cons_succ, List.take_succ_cons, List.take_zero, List.take_nil, List.drop_succ_cons, List.drop_zero, List.drop_nil, List.append_nil, List.all_cons, List.all_nil, Bool.and_true, Bool.true_and, Bool.and_false, Bool.false_and, Nat.reduceAdd, Nat.zero_add, Nat.add_zero, Nat.reduceEqDiff, if_true, if_false, reduceIte]))
    | (show AW _ _ _ _ _ _ _ _; first | refine aw_region ?_ | (refine aw_seqk ?_; intro K hK) | refine aw_block ?_ | (apply aw_cond_t; exact rfl; exact (by assumption)) | (apply aw_cond_f; exact rfl; exact (by assumption)) | refine aw_ret ?_)
    | refine thn_n ?_
    | (refine hK _ _ _ ?_; clear hK K)
    | refine inb_n ?_)); all_goals (repeat (clear hK K)))
      exact finc (fun i => i) (.r1 _ _ (.agg _ _ _ _ _ rfl (.inr ⟨_, _, _, _, _, rfl, rfl, rfl, rfl⟩) (ty rfl) rfl (Nat.le_of_ble_eq_true rfl))) rfl (fun _ _ => rfl) ⟨rfl, trivial⟩ rfl
    · -- 5b
      have e0 : (d == 0) = false := by simpa using c0
      have e1 : (d == 1) = false := by simpa using c1
      have e2 : (d == 2) = false := by simpa using c2
      have e3 : (d == 3) = false := by simpa using c3
      have e4 : (d == 4) = false := by simpa using c4
      have e5 : (d == 5) = true := by simpa using c5
      have e6 : (x == 0) = false := by simpa using c6
      refine ⟨⟨nm, lo, IntKind.i64.wrap (lo + IntKind.i64.wrap (1000 * ra)), ra, du⟩, s3, hsm, h3.ok.mono (by omega), fun j id => ?_⟩
      unfold baL
      dsimp only
      refine RC.ofc [id] 0 [.ptr 0 0 0] [(0, ⟨62, 3, false, [srR s]⟩)] (.agg [.v (.string nm), .v (.int .i64 (lo)), .v (.int .i64 (IntKind.i64.wrap (lo + IntKind.i64.wrap (1000 * ra)))), .v (.int .i64 (ra)), .v (.int .i64 (du))]) [(0, some ⟨62, 3, false, [srR s3]⟩)] Tryd.func18 Tryd.ntmps18 rfl (goFn_of Tryd.func18 rfl (by kernel_rfl)) rfl rfl rfl rfl rfl rfl rfl rfl (by simp_all) rfl ?_
      ((repeat' (first
    | (show SQ _ _ _ _ _ _ _ _; first | apply sq_nil | (apply q_move; exact rfl; exact rfl) | (apply q_assign; exact rfl; exact rfl) | (apply q_fieldAddr; exact rfl; exact rfl; exact (ty rfl); exact rfl; exact rfl; exact rfl; exact rfl) | (apply q_add; exact rfl; exact rfl; exact rfl) | (apply q_mul; exact rfl; exact rfl; exact rfl) | (apply q_eql; exact rfl; exact rfl; exact rfl) | (apply q_ld1p; exact rfl; exact rfl; exact (ty rfl); exact rfl; exact rfl; exact (by first | rfl | assumption | ((try simp only [Nat.zero_add]); refine List.getElem?_set_self ?_; (try simp only [List.length_set]); assumption)); exact rfl))
    | (show SQ _ _ _ _ _ _ _ _; (first | (apply q_ldap; exact rfl; exact rfl; exact (ty rfl); exact rfl; exact rfl; exact (by first | rfl | assumption | ((try simp only [Nat.zero_add]); refine List.getElem?_set_self ?_; (try simp only [List.length_set]); assumption)); exact rfl) | (apply q_alloc; exact rfl; exact (ty rfl); exact rfl; exact rfl) | (apply q_store; exact rfl; exact rfl; exact (ty rfl); exact rfl; exact (by first | rfl | assumption | ((try simp only [Nat.zero_add]); refine List.getElem?_set_self ?_; (try simp only [List.length_set]); assumption)); exact rfl; exact rfl; exact rfl) | (apply q_callC; exact rfl; exact rfl; exact rfl; exact r1 _ 0; (focus ((repeat (first | exact trivial | refine ⟨by first | exact rfl | assumption, ?_⟩)); done)); skip) | (apply q_callC; exact rfl; exact rfl; exact rfl; exact h2.rc _ 0; (focus ((repeat (first | exact trivial | refine ⟨by first | exact rfl | assumption, ?_⟩)); done)); skip) | (apply q_callC; exact rfl; exact rfl; exact rfl; exact c9 _ 0; (focus ((repeat (first | exact trivial | refine ⟨by first | exact rfl | assumption, ?_⟩)); done)); skip)); (try simp only [put, rowsOf, plR, List.all_cons, selE, ovr, setH, del, cellsA, splice, isV, List.nil_append, List.cons_append, List.map_cons, List.map_nil, List.length_cons, List.length_nil, List.set_cons_zero, List.set_cons_succ, List.take_succ_cons, List.take_zero, List.take_nil, List.drop_succ_cons, List.drop_zero, List.drop_nil, List.append_nil, List.all_cons, List.all_nil, Bool.and_true, Bool.true_and, Bool.and_false, Bool.false_and, Nat.reduceAdd, Nat.zero_add, Nat.add_zero, Nat.reduceEqDiff, if_true, if_false, reduceIte]))
    | (show AW _ _ _ _ _ _ _ _; first | refine aw_region ?_ | (refine aw_seqk ?_; intro K hK) | refine aw_block ?_ | (apply aw_cond_t; exact rfl; exact (by assumption)) | (apply aw_cond_f; exact rfl; exact (by assumption)) | refine aw_ret ?_ | refine aw_skip ?_)
    | refine thn_n ?_
    | (refine hK _ _ _ ?_; clear hK K)
    | refine inb_n ?_)); all_goals (repeat (clear hK K)))
      exact finc (fun i => i) (.r1 _ _ (.agg _ _ _ _ _ rfl (.inr ⟨_, _, _, _, _, rfl, rfl, rfl, rfl⟩) (ty rfl) rfl (Nat.le_of_ble_eq_true rfl))) rfl (fun _ _ => rfl) ⟨rfl, trivial⟩ rfl
  have e0 : (d == 0) = false := by simpa using c0
  have e1 : (d == 1) = false := by simpa using c1
  have e2 : (d == 2) = false := by simpa using c2
  have e3 : (d == 3) = false := by simpa using c3
  have e4 : (d == 4) = false := by simpa using c4
  have e5 : (d == 5) = false := by simpa using c5
  refine ⟨⟨nm, lo, hi, ra, du⟩, s2, hsm, h2.ok.mono (by omega), fun j id => ?_⟩
  unfold baL
  dsimp only
  refine RC.ofc [id] 0 [.ptr 0 0 0] [(0, ⟨62, 3, false, [srR s]⟩)] (.agg [.v (.string nm), .v (.int .i64 (lo)), .v (.int .i64 (hi)), .v (.int .i64 (ra)), .v (.int .i64 (du))]) [(0, some ⟨62, 3, false, [srR s2]⟩)] Tryd.func18 Tryd.ntmps18 rfl (goFn_of Tryd.func18 rfl (by kernel_rfl)) rfl rfl rfl rfl rfl rfl rfl rfl (by simp_all) rfl ?_
  ((repeat' (first
    | (show SQ _ _ _ _ _ _ _ _; first | apply sq_nil | (apply q_move; exact rfl; exact rfl) | (apply q_assign; exact rfl; exact rfl) | (apply q_eql; exact rfl; exact rfl; exact rfl))
    | (show SQ _ _ _ _ _ _ _ _; (first | (apply q_ldap; exact rfl; exact rfl; exact (ty rfl); exact rfl; exact rfl; exact (by first | rfl | assumption | ((try simp only [Nat.zero_add]); refine List.getElem?_set_self ?_; (try simp only [List.length_set]); assumption)); exact rfl) | (apply q_alloc; exact rfl; exact (ty rfl); exact rfl; exact rfl) | (apply q_store; exact rfl; exact rfl; exact (ty rfl); exact rfl; exact (by first | rfl | assumption | ((try simp only [Nat.zero_add]); refine List.getElem?_set_self ?_; (try simp only [List.length_set]); assumption)); exact rfl; exact rfl; exact rfl) | (apply q_callC; exact rfl; exact rfl; exact rfl; exact r1 _ 0; (focus ((repeat (first | exact trivial | refine ⟨by first | exact rfl | assumption, ?_⟩)); done)); skip) | (apply q_callC; exact rfl; exact rfl; exact rfl; exact h2.rc _ 0; (focus ((repeat (first | exact trivial | refine ⟨by first | exact rfl | assumption, ?_⟩)); done)); skip)); (try simp only [put, rowsOf, plR, List.all_cons, selE, ovr, setH, del, cellsA, splice, isV, List.nil_append, List.cons_append, List.map_cons, List.map_nil, List.length_cons, List.length_nil, List.set_cons_zero, List.set_cons_succ, List.take_succ_cons, List.take_zero, List.take_nil, List.drop_succ_cons, List.drop_zero, List.drop_nil, List.append_nil, List.all_cons, List.all_nil, Bool.and_true, Bool.true_and, Bool.and_false, Bool.false_and, Nat.reduceAdd, Nat.zero_add, Nat.add_zero, Nat.reduceEqDiff, if_true, if_false, reduceIte]))
    | (show AW _ _ _ _ _ _ _ _; first | refine aw_region ?_ | (refine aw_seqk ?_; intro K hK) | refine aw_block ?_ | (apply aw_cond_f; exact rfl; exact (by assumption)) | refine aw_ret ?_ | refine aw_skip ?_)
    | refine thn_n ?_
    | (refine hK _ _ _ ?_; clear hK K)
    | refine inb_n ?_)); all_goals (repeat (clear hK K)))
  exact finc (fun i => i) (.r1 _ _ (.agg _ _ _ _ _ rfl (.inr ⟨_, _, _, _, _, rfl, rfl, rfl, rfl⟩) (ty rfl) rfl (Nat.le_of_ble_eq_true rfl))) rfl (fun _ _ => rfl) ⟨rfl, trivial⟩ rfl
theorem cnt_bd {b : Band} (h : okB b = true) : 1 ≤ b.ra ∧ 1 ≤ cnt b ∧ cnt b ≤ 1000 := by
  unfold okB inB at h
  simp only [Bool.and_eq_true, decide_eq_true_eq] at h
  omega
structure Xk (s : Sr) (b : Band) (k x : Int) (s' : Sr) : Prop where
  ok : s'.ok (k + 4)
  rc : ∀ j i c, i ≠ c → RC Tryd.prog 19 [.ptr i 0 0, .ptr c 0 0] [(i, ⟨62, 3, false, [srR s]⟩), (c, ⟨25, 5, false, [baL b]⟩)] j (.v (.int .i64 x)) [(i, some ⟨62, 3, false, [srR s']⟩), (c, some ⟨25, 5, false, [baL b]⟩)] j
theorem l15DrawChannel_ex {s : Sr} {k : Int} (b : Band) (hb : b.nm.size ≤ 10) (h : s.ok k) (hk : k ≤ 700000) : ∃ x s', Xk s b k x s' := by
  have hsm : b.sm := by unfold Band.sm; omega
  have hOk := l15Ok_ro b hsm
  obtain ⟨n, hn, hn1, hn2⟩ : ∃ n, n = (if okB b = true then cnt b else 1) ∧ 1 ≤ n ∧ n ≤ 1000 := by
    refine ⟨_, rfl, ?_, ?_⟩ <;> (split; · rename_i e; have := cnt_bd e; omega) <;> omega
  obtain ⟨o, s1, h1⟩ := pk_ex 8 h (by omega) (by omega) (by omega)
  have ho := fun j b => one_rc b h1 j
  by_cases e : o = 0
  · have b1 : (o == 0) = true := by simpa using e
    obtain ⟨x, s2, h2⟩ := ak_ex [-1, n, IntKind.i64.wrap (n - 1), 0] h1.ok (by omega) (by simp) (by simp)
    have c2 := fun j => h2.rc j 0 2 (by decide)
    simp only [List.map_cons, List.map_nil, List.length_cons, List.length_nil] at c2
    refine ⟨x, s2, h2.ok.mono (by omega), fun j i c hic => ?_⟩
    refine RC.ofc [i, c] 0 [.ptr 0 0 0, .ptr 1 0 0] [(0, ⟨62, 3, false, [srR s]⟩), (1, ⟨25, 5, false, [baL b]⟩)] (.v (.int .i64 x)) [(0, some ⟨62, 3, false, [srR s2]⟩), (1, some ⟨25, 5, false, [baL b]⟩)] Tryd.func19 Tryd.ntmps19 rfl (goFn_of Tryd.func19 rfl (by kernel_rfl)) rfl rfl rfl rfl rfl rfl rfl rfl (by simp_all) rfl ?_
    by_cases c1 : okB b = true
    · rw [if_pos c1] at hn
      rw [c1] at hOk
      have hC := l15Count_ro b (by have := (cnt_bd c1).1; omega)
      rw [← hn] at hC
      ((repeat' (first
    | (show SQ _ _ _ _ _ _ _ _; first | apply sq_nil | (apply q_move; exact rfl; exact rfl) | (apply q_assign; exact rfl; exact rfl) | (apply q_sub; exact rfl; exact rfl; exact rfl))
    | (show SQ _ _ _ _ _ _ _ _; (first | (apply q_buildn; exact rfl; exact (ty rfl); exact rfl; exact rfl; exact rfl; exact rfl; exact rfl; exact rfl; exact rfl) | (apply q_callU; exact rfl; exact rfl; exact rfl; exact FzL.of rfl; exact hOk _) | (apply q_callU; exact rfl; exact rfl; exact rfl; exact FzL.of rfl; exact hC _) | (apply q_callC; exact rfl; exact rfl; exact rfl; exact ho _ 0; (focus ((repeat (first | exact trivial | refine ⟨by first | exact rfl | assumption, ?_⟩)); done)); skip) | (apply q_callC; exact rfl; exact rfl; exact rfl; exact c2 _; (focus ((repeat (first | exact trivial | refine ⟨by first | exact rfl | assumption, ?_⟩)); done)); skip)); (try simp only [put, rowsOf, plR, List.all_cons, selE, ovr, setH, del, cellsA, splice, isV, List.nil_append, List.cons_append, List.map_cons, List.map_nil, List.length_cons, List.length_nil, List.set_cons_zero, List.set_cons_succ, List.take_succ_cons, List.take_zero, List.take_nil, List.drop_succ_cons, List.drop_zero, List.drop_nil, List.append_nil, List.all_cons, List.all_nil, Bool.and_true, Bool.true_and, Bool.and_false, Bool.false_and, Nat.reduceAdd, Nat.zero_add, Nat.add_zero, Nat.reduceEqDiff, if_true, if_false, reduceIte]))
    | (show AW _ _ _ _ _ _ _ _; first | refine aw_region ?_ | (refine aw_seqk ?_; intro K hK) | (apply aw_cond_t; exact rfl; exact rfl) | (apply aw_cond_t; exact rfl; exact (by assumption)) | refine aw_ret ?_)
    | refine thn_n ?_
    | (refine hK _ _ _ ?_; clear hK K)
    | refine thn_r ?_)); all_goals (repeat (clear hK K)))
      exact finc (fun i => i) (.r1 _ _ (.tmp _ _ rfl)) rfl (fun _ _ => rfl) ⟨rfl, rfl, trivial⟩ rfl
    · rw [if_neg c1] at hn
      have c1 : okB b = false := by simpa using c1
      rw [c1] at hOk
      subst hn
      ((repeat' (first
    | (show SQ _ _ _ _ _ _ _ _; first | apply sq_nil | (apply q_move; exact rfl; exact rfl) | (apply q_assign; exact rfl; exact rfl) | (apply q_sub; exact rfl; exact rfl; exact rfl))
    | (show SQ _ _ _ _ _ _ _ _; (first | (apply q_buildn; exact rfl; exact (ty rfl); exact rfl; exact rfl; exact rfl; exact rfl; exact rfl; exact rfl; exact rfl) | (apply q_callU; exact rfl; exact rfl; exact rfl; exact FzL.of rfl; exact hOk _) | (apply q_callC; exact rfl; exact rfl; exact rfl; exact ho _ 0; (focus ((repeat (first | exact trivial | refine ⟨by first | exact rfl | assumption, ?_⟩)); done)); skip) | (apply q_callC; exact rfl; exact rfl; exact rfl; exact c2 _; (focus ((repeat (first | exact trivial | refine ⟨by first | exact rfl | assumption, ?_⟩)); done)); skip)); (try simp only [put, rowsOf, plR, List.all_cons, selE, ovr, setH, del, cellsA, splice, isV, List.nil_append, List.cons_append, List.map_cons, List.map_nil, List.length_cons, List.length_nil, List.set_cons_zero, List.set_cons_succ, List.take_succ_cons, List.take_zero, List.take_nil, List.drop_succ_cons, List.drop_zero, List.drop_nil, List.append_nil, List.all_cons, List.all_nil, Bool.and_true, Bool.true_and, Bool.and_false, Bool.false_and, Nat.reduceAdd, Nat.zero_add, Nat.add_zero, Nat.reduceEqDiff, if_true, if_false, reduceIte]))
    | (show AW _ _ _ _ _ _ _ _; first | refine aw_region ?_ | (refine aw_seqk ?_; intro K hK) | (apply aw_cond_f; exact rfl; exact rfl) | (apply aw_cond_t; exact rfl; exact (by assumption)) | refine aw_ret ?_ | refine aw_skip ?_)
    | refine thn_n ?_
    | (refine hK _ _ _ ?_; clear hK K)
    | refine thn_r ?_)); all_goals (repeat (clear hK K)))
      exact finc (fun i => i) (.r1 _ _ (.tmp _ _ rfl)) rfl (fun _ _ => rfl) ⟨rfl, rfl, trivial⟩ rfl
  · have b1 : (o == 0) = false := by simpa using e
    obtain ⟨x, s2, h2⟩ := pk_ex n h1.ok (by omega) (by omega) (by omega)
    refine ⟨x, s2, h2.ok.mono (by omega), fun j i c hic => ?_⟩
    refine RC.ofc [i, c] 0 [.ptr 0 0 0, .ptr 1 0 0] [(0, ⟨62, 3, false, [srR s]⟩), (1, ⟨25, 5, false, [baL b]⟩)] (.v (.int .i64 x)) [(0, some ⟨62, 3, false, [srR s2]⟩), (1, some ⟨25, 5, false, [baL b]⟩)] Tryd.func19 Tryd.ntmps19 rfl (goFn_of Tryd.func19 rfl (by kernel_rfl)) rfl rfl rfl rfl rfl rfl rfl rfl (by simp_all) rfl ?_
    by_cases c1 : okB b = true
    · rw [if_pos c1] at hn
      rw [c1] at hOk
      have hC := l15Count_ro b (by have := (cnt_bd c1).1; omega)
      rw [← hn] at hC
      ((repeat' (first
    | (show SQ _ _ _ _ _ _ _ _; first | apply sq_nil | (apply q_move; exact rfl; exact rfl) | (apply q_assign; exact rfl; exact rfl))
    | (show SQ _ _ _ _ _ _ _ _; (first | (apply q_callU; exact rfl; exact rfl; exact rfl; exact FzL.of rfl; exact hOk _) | (apply q_callU; exact rfl; exact rfl; exact rfl; exact FzL.of rfl; exact hC _) | (apply q_callC; exact rfl; exact rfl; exact rfl; exact ho _ 0; (focus ((repeat (first | exact trivial | refine ⟨by first | exact rfl | assumption, ?_⟩)); done)); skip) | (apply q_callC; exact rfl; exact rfl; exact rfl; exact h2.rc _ 0; (focus ((repeat (first | exact trivial | refine ⟨by first | exact rfl | assumption, ?_⟩)); done)); skip)); (try simp only [put, rowsOf, plR, List.all_cons, selE, ovr, setH, del, cellsA, splice, isV, List.nil_append, List.cons_append, List.map_cons, List.map_nil, List.length_cons, List.length_nil, List.set_cons_zero, List.set_cons_succ, List.take_succ_cons, List.take_zero, List.take_nil, List.drop_succ_cons, List.drop_zero, List.drop_nil, List.append_nil, List.all_cons, List.all_nil, Bool.and_true, Bool.true_and, Bool.and_false, Bool.false_and, Nat.reduceAdd, Nat.zero_add, Nat.add_zero, Nat.reduceEqDiff, if_true, if_false, reduceIte]))
    | (show AW _ _ _ _ _ _ _ _; first | refine aw_region ?_ | (refine aw_seqk ?_; intro K hK) | (apply aw_cond_t; exact rfl; exact rfl) | (apply aw_cond_f; exact rfl; exact (by assumption)) | refine aw_ret ?_ | refine aw_skip ?_)
    | refine thn_n ?_
    | (refine hK _ _ _ ?_; clear hK K))); all_goals (repeat (clear hK K)))
      exact finc (fun i => i) (.r1 _ _ (.tmp _ _ rfl)) rfl (fun _ _ => rfl) ⟨rfl, rfl, trivial⟩ rfl
    · rw [if_neg c1] at hn
      have c1 : okB b = false := by simpa using c1
      rw [c1] at hOk
      subst hn
      ((repeat' (first
    | (show SQ _ _ _ _ _ _ _ _; first | apply sq_nil | (apply q_move; exact rfl; exact rfl) | (apply q_assign; exact rfl; exact rfl))
    | (show SQ _ _ _ _ _ _ _ _; (first | (apply q_callU; exact rfl; exact rfl; exact rfl; exact FzL.of rfl; exact hOk _) | (apply q_callC; exact rfl; exact rfl; exact rfl; exact ho _ 0; (focus ((repeat (first | exact trivial | refine ⟨by first | exact rfl | assumption, ?_⟩)); done)); skip) | (apply q_callC; exact rfl; exact rfl; exact rfl; exact h2.rc _ 0; (focus ((repeat (first | exact trivial | refine ⟨by first | exact rfl | assumption, ?_⟩)); done)); skip)); (try simp only [put, rowsOf, plR, List.all_cons, selE, ovr, setH, del, cellsA, splice, isV, List.nil_append, List.cons_append, List.map_cons, List.map_nil, List.length_cons, List.length_nil, List.set_cons_zero, List.set_cons_succ, List.take_succ_cons, List.take_zero, List.take_nil, List.drop_succ_cons, List.drop_zero, List.drop_nil, List.append_nil, List.all_cons, List.all_nil, Bool.and_true, Bool.true_and, Bool.and_false, Bool.false_and, Nat.reduceAdd, Nat.zero_add, Nat.add_zero, Nat.reduceEqDiff, if_true, if_false, reduceIte]))
    | (show AW _ _ _ _ _ _ _ _; first | refine aw_region ?_ | (refine aw_seqk ?_; intro K hK) | (apply aw_cond_f; exact rfl; exact rfl) | (apply aw_cond_f; exact rfl; exact (by assumption)) | refine aw_ret ?_ | refine aw_skip ?_)
    | refine thn_n ?_
    | (refine hK _ _ _ ?_; clear hK K))); all_goals (repeat (clear hK K)))
      exact finc (fun i => i) (.r1 _ _ (.tmp _ _ rfl)) rfl (fun _ _ => rfl) ⟨rfl, rfl, trivial⟩ rfl
end Go.Proofs.YtmnklmaefoidbaaDoor.Ba

namespace Go.Proofs.YtmnklmaefoidbaaDoor.Ba
open Go Go.RowKit Go.Proofs.YtmnklmaefoidbaaDoor.Aw Go.Proofs.YtmnklmaefoidbaaDoor.In
set_option linter.unusedSimpArgs false
set_option linter.unusedVariables false
attribute [local irreducible] AW SQ Step RO RC DE Thn InB
def frq (b : Band) (c : Int) : Int := if cod b c = 0 then mid b c else 0
set_option maxHeartbeats 4000000 in
theorem ChannelFrequency_ro (b : Band) (c : Int) (hs : b.sm) (k : Nat) : RO Tryd.prog 6 [.agg (baL b), .v (.int .i64 c)] k (.tup [.v (.int .i64 (frq b c)), .v (.int .i64 (cod b c))]) [] k := by
  refine RO.ofp Tryd.func6 Tryd.ntmps6 rfl (goFn_of Tryd.func6 rfl (by kernel_rfl)) rfl rfl rfl ?_
  unfold baL
  ((repeat' (first
    | (show SQ _ _ _ _ _ _ _ _; first | apply sq_nil | (apply q_move; exact rfl; exact rfl) | (apply q_assign; exact rfl; exact rfl) | (apply q_neq; exact rfl; exact rfl; exact rfl))
    | (show SQ _ _ _ _ _ _ _ _; (first | (apply q_ldap; exact rfl; exact rfl; exact (ty rfl); exact rfl; exact rfl; exact (by first | rfl | assumption | ((try simp only [Nat.zero_add]); refine List.getElem?_set_self ?_; (try simp only [List.length_set]); assumption)); exact rfl) | (apply q_box; exact rfl; exact rfl; exact rfl) | (apply q_callU; exact rfl; exact rfl; exact rfl; exact FzL.of rfl; exact code_ro b c hs _) | (apply q_callU; exact rfl; exact rfl; exact rfl; exact FzL.of rfl; exact middle_ro b c _)); (try simp only [put, rowsOf, plR, List.all_cons, selE, ovr, setH, del, cellsA, splice, isV, List.nil_append, List.cons_append, List.map_cons, List.map_nil, List.length_cons, List.length_nil, List.set_cons_zero, List.set_cons_succ, List.take_succ_cons, List.take_zero, List.take_nil, List.drop_succ_cons, List.drop_zero, List.drop_nil, List.append_nil, List.all_cons, List.all_nil, Bool.and_true, Bool.true_and, Bool.and_false, Bool.false_and, Nat.reduceAdd, Nat.zero_add, Nat.add_zero, Nat.reduceEqDiff, if_true, if_false, reduceIte]))
    | (show AW _ _ _ _ _ _ _ _; first | refine aw_region ?_ | (refine aw_seqk ?_; intro K hK) | refine aw_ret ?_ | refine aw_skip ?_ | (apply aw_ite; exact rfl; all_goals intro h))
    | refine thn_n ?_
    | (refine hK _ _ _ ?_; clear hK K)
    | refine thn_r ?_)); all_goals (repeat (clear hK K)))
  all_goals refine fin_r (fin_p (.r2 _ _ _ _ (.tmp _ _ rfl) (.tmp _ _ rfl)) ?_ rfl rfl rfl)
  all_goals simp_all [frq]
def par (b : Band) (c : Int) : Int × Int := if cod b c = 0 then (if b.du = 0 then (0, 6) else (IntKind.i64.wrap (mid b c + b.du), 0)) else (0, cod b c)
set_option maxHeartbeats 4000000 in
theorem PartnerFrequency_ro (b : Band) (c : Int) (hs : b.sm) (k : Nat) : RO Tryd.prog 16 [.agg (baL b), .v (.int .i64 c)] k (.tup [.v (.int .i64 (par b c).1), .v (.int .i64 (par b c).2)]) [] k := by
  refine RO.ofp Tryd.func16 Tryd.ntmps16 rfl (goFn_of Tryd.func16 rfl (by kernel_rfl)) rfl rfl rfl ?_
  unfold baL
  ((repeat' (first
    | (show SQ _ _ _ _ _ _ _ _; first | apply sq_nil | (apply q_move; exact rfl; exact rfl) | (apply q_assign; exact rfl; exact rfl) | (apply q_fieldAddr; exact rfl; exact rfl; exact (ty rfl); exact rfl; exact rfl; exact rfl; exact rfl) | (apply q_eql; exact rfl; exact rfl; exact rfl) | (apply q_neq; exact rfl; exact rfl; exact rfl) | (apply q_ld1p; exact rfl; exact rfl; exact (ty rfl); exact rfl; exact rfl; exact (by first | rfl | assumption | ((try simp only [Nat.zero_add]); refine List.getElem?_set_self ?_; (try simp only [List.length_set]); assumption)); exact rfl))
    | (show SQ _ _ _ _ _ _ _ _; (first | (apply q_ldap; exact rfl; exact rfl; exact (ty rfl); exact rfl; exact rfl; exact (by first | rfl | assumption | ((try simp only [Nat.zero_add]); refine List.getElem?_set_self ?_; (try simp only [List.length_set]); assumption)); exact rfl) | (apply q_box; exact rfl; exact rfl; exact rfl) | (apply q_callU; exact rfl; exact rfl; exact rfl; exact FzL.of rfl; exact code_ro b c hs _)); (try simp only [put, rowsOf, plR, List.all_cons, selE, ovr, setH, del, cellsA, splice, isV, List.nil_append, List.cons_append, List.map_cons, List.map_nil, List.length_cons, List.length_nil, List.set_cons_zero, List.set_cons_succ, List.take_succ_cons, List.take_zero, List.take_nil, List.drop_succ_cons, List.drop_zero, List.drop_nil, List.append_nil, List.all_cons, List.all_nil, Bool.and_true, Bool.true_and, Bool.and_false, Bool.false_and, Nat.reduceAdd, Nat.zero_add, Nat.add_zero, Nat.reduceEqDiff, if_true, if_false, reduceIte]))
    | (show DE _ _ _ _ _ _ _ _ _ _ _ _; first | (apply e_move; exact rfl; exact rfl; exact rfl) | (apply e_assign; exact rfl; exact rfl; exact rfl) | (apply e_fieldAddr; exact rfl; exact rfl; exact (ty rfl); exact rfl; exact rfl; exact rfl; exact rfl; exact rfl) | (apply e_add; exact rfl; exact rfl; exact rfl; exact rfl) | (apply e_ld1p; exact rfl; exact rfl; exact (ty rfl); exact rfl; exact rfl; exact (by first | rfl | assumption | ((try simp only [Nat.zero_add]); refine List.getElem?_set_self ?_; (try simp only [List.length_set]); assumption)); exact rfl; exact rfl))
    | (show DE _ _ _ _ _ _ _ _ _ _ _ _; (first | (apply dr_nil; exact trivial) | (apply e_ldap; exact rfl; exact rfl; exact (ty rfl); exact rfl; exact rfl; exact (by first | rfl | assumption | ((try simp only [Nat.zero_add]); refine List.getElem?_set_self ?_; (try simp only [List.length_set]); assumption)); exact rfl; exact rfl) | (apply e_callU; exact rfl; exact rfl; exact rfl; exact FzL.of rfl; exact middle_ro b c _; exact rfl)); (try simp only [put, rowsOf, plR, List.all_cons, selE, ovr, setH, del, cellsA, splice, isV, List.nil_append, List.cons_append, List.map_cons, List.map_nil, List.length_cons, List.length_nil, List.set_cons_zero, List.set_cons_succ, List.take_succ_cons, List.take_zero, List.take_nil, List.drop_succ_cons, List.drop_zero, List.drop_nil, List.append_nil, List.all_cons, List.all_nil, Bool.and_true, Bool.true_and, Bool.and_false, Bool.false_and, Nat.reduceAdd, Nat.zero_add, Nat.add_zero, Nat.reduceEqDiff, if_true, if_false, reduceIte]))
    | (show AW _ _ _ _ _ _ _ _; first | refine aw_region ?_ | (refine aw_seqk ?_; intro K hK) | refine aw_ret ?_ | refine aw_skip ?_ | refine aw_drawE (id := 6) [0, 0, 3, 0, 8, 31, 63, 127] [1, 0, 1, 0, 1, 0, 0, 0] mixed (by kernel_rfl) ?_ | (apply aw_ite; exact rfl; all_goals intro h))
    | refine thn_n ?_
    | (refine hK _ _ _ ?_; clear hK K)
    | refine thn_r ?_)); all_goals (repeat (clear hK K)))
  all_goals refine fin_r (fin_p (.r2 _ _ _ _ (.tmp _ _ rfl) (.tmp _ _ rfl)) ?_ rfl rfl rfl)
  all_goals simp_all [par]
def cod2 (a : Band) (x : Int) (b : Band) (y : Int) : Int := if okB a = true ∧ okB b = true then (if hasB a x = true ∧ hasB b y = true then 0 else 2) else 1
set_option maxHeartbeats 4000000 in
theorem twoChannels_ro (a : Band) (x : Int) (b : Band) (y : Int) (ha : a.sm) (hb : b.sm) (k : Nat) : RO Tryd.prog 30 [.agg (baL a), .v (.int .i64 x), .agg (baL b), .v (.int .i64 y)] k (.v (.int .i64 (cod2 a x b y))) [] k := by
  refine RO.ofv' Tryd.func30 Tryd.ntmps30 rfl (goFn_of Tryd.func30 rfl (by kernel_rfl)) rfl rfl ?_
  unfold baL
  ((repeat' (first
    | (show SQ _ _ _ _ _ _ _ _; first | apply sq_nil | (apply q_move; exact rfl; exact rfl) | (apply q_assign; exact rfl; exact rfl) | (apply q_pick_t; exact rfl; exact rfl; exact rfl; exact (by first | assumption | exact rfl)) | (apply q_pick_f; exact rfl; exact rfl; exact rfl; exact (by first | assumption | exact rfl)) | (apply q_not; exact rfl; exact rfl) | (apply q_neq; exact rfl; exact rfl; exact rfl) | (apply q_g; exact rfl; exact rfl; exact rfl; exact (by assumption)) | (apply q_s; exact rfl; exact rfl; exact rfl; exact (by assumption); exact rfl))
    | (show SQ _ _ _ _ _ _ _ _; (first | (apply q_ldap; exact rfl; exact rfl; exact (ty rfl); exact rfl; exact rfl; exact (by first | rfl | assumption | ((try simp only [Nat.zero_add]); refine List.getElem?_set_self ?_; (try simp only [List.length_set]); assumption)); exact rfl) | (apply q_box; exact rfl; exact rfl; exact rfl) | (apply q_callU; exact rfl; exact rfl; exact rfl; exact FzL.of rfl; exact ValidBand_ro a ha _) | (apply q_callU; exact rfl; exact rfl; exact rfl; exact FzL.of rfl; exact ValidBand_ro b hb _) | (apply q_callU; exact rfl; exact rfl; exact rfl; exact FzL.of rfl; exact code_ro a x ha _) | (apply q_callU; exact rfl; exact rfl; exact rfl; exact FzL.of rfl; exact code_ro b y hb _)); (try simp only [put, rowsOf, plR, List.all_cons, selE, ovr, setH, del, cellsA, splice, isV, List.nil_append, List.cons_append, List.map_cons, List.map_nil, List.length_cons, List.length_nil, List.set_cons_zero, List.set_cons_succ, List.take_succ_cons, List.take_zero, List.take_nil, List.drop_succ_cons, List.drop_zero, List.drop_nil, List.append_nil, List.all_cons, List.all_nil, Bool.and_true, Bool.true_and, Bool.and_false, Bool.false_and, Nat.reduceAdd, Nat.zero_add, Nat.add_zero, Nat.reduceEqDiff, if_true, if_false, reduceIte]))
    | (show SQ _ _ _ _ _ _ _ _; apply q_gs; exact rfl; exact rfl; exact rfl; exact rfl; all_goals intro h)
    | (show AW _ _ _ _ _ _ _ _; first | refine aw_region ?_ | (refine aw_seqk ?_; intro K hK) | refine aw_block ?_ | (apply aw_cond_t; exact rfl; exact rfl) | refine aw_ret ?_ | refine aw_skip ?_ | (apply aw_ite; exact rfl; all_goals intro h))
    | refine thn_n ?_
    | (refine hK _ _ _ ?_; clear hK K)
    | refine thn_r ?_
    | refine inb_n ?_
    | refine inb_r ?_)); all_goals (repeat (clear hK K)))
  all_goals refine fin_r (fin_i rfl ?_)
  all_goals simp_all [cod2, cod]
def cl (a : Band) (x : Int) (b : Band) (y : Int) : Bool := decide (cod2 a x b y = 0) && decide (IntKind.i64.wrap (a.lo + IntKind.i64.wrap (x * a.ra)) < IntKind.i64.wrap (b.lo + IntKind.i64.wrap (IntKind.i64.wrap (y + 1) * b.ra))) && decide (IntKind.i64.wrap (b.lo + IntKind.i64.wrap (y * b.ra)) < IntKind.i64.wrap (a.lo + IntKind.i64.wrap (IntKind.i64.wrap (x + 1) * a.ra)))
set_option maxHeartbeats 4000000 in
theorem ChannelsClash_ro (a : Band) (x : Int) (b : Band) (y : Int) (ha : a.sm) (hb : b.sm) (k : Nat) : RO Tryd.prog 14 [.agg (baL a), .v (.int .i64 x), .agg (baL b), .v (.int .i64 y)] k (.tup [.v (.bool (cl a x b y)), .v (.int .i64 (cod2 a x b y))]) [] k := by
  refine RO.ofp Tryd.func14 Tryd.ntmps14 rfl (goFn_of Tryd.func14 rfl (by kernel_rfl)) rfl rfl rfl ?_
  unfold baL
  ((repeat' (first
    | (show SQ _ _ _ _ _ _ _ _; first | apply sq_nil | (apply q_move; exact rfl; exact rfl) | (apply q_assign; exact rfl; exact rfl) | (apply q_neq; exact rfl; exact rfl; exact rfl))
    | (show SQ _ _ _ _ _ _ _ _; (first | (apply q_ldap; exact rfl; exact rfl; exact (ty rfl); exact rfl; exact rfl; exact (by first | rfl | assumption | ((try simp only [Nat.zero_add]); refine List.getElem?_set_self ?_; (try simp only [List.length_set]); assumption)); exact rfl) | (apply q_box; exact rfl; exact rfl; exact rfl) | (apply q_callU; exact rfl; exact rfl; exact rfl; exact FzL.of rfl; exact twoChannels_ro a x b y ha hb _)); (try simp only [put, rowsOf, plR, List.all_cons, selE, ovr, setH, del, cellsA, splice, isV, List.nil_append, List.cons_append, List.map_cons, List.map_nil, List.length_cons, List.length_nil, List.set_cons_zero, List.set_cons_succ, List.take_succ_cons, List.take_zero, List.take_nil, List.drop_succ_cons, List.drop_zero, List.drop_nil, List.append_nil, List.all_cons, List.all_nil, Bool.and_true, Bool.true_and, Bool.and_false, Bool.false_and, Nat.reduceAdd, Nat.zero_add, Nat.add_zero, Nat.reduceEqDiff, if_true, if_false, reduceIte]))
    | (show DE _ _ _ _ _ _ _ _ _ _ _ _; first | (apply e_move; exact rfl; exact rfl; exact rfl) | (apply e_assign; exact rfl; exact rfl; exact rfl) | (apply e_pick_t; exact rfl; exact rfl; exact rfl; exact (by first | assumption | exact rfl); exact rfl) | (apply e_pick_f; exact rfl; exact rfl; exact rfl; exact (by first | assumption | exact rfl); exact rfl) | (apply e_add; exact rfl; exact rfl; exact rfl; exact rfl) | (apply e_lss; exact rfl; exact rfl; exact rfl; exact rfl) | (apply e_g; exact rfl; exact rfl; exact rfl; exact (by assumption)) | (apply e_s; exact rfl; exact rfl; exact rfl; exact (by assumption); exact rfl))
    | (show DE _ _ _ _ _ _ _ _ _ _ _ _; (first | (apply dr_nil; exact trivial) | (apply e_ldap; exact rfl; exact rfl; exact (ty rfl); exact rfl; exact rfl; exact (by first | rfl | assumption | ((try simp only [Nat.zero_add]); refine List.getElem?_set_self ?_; (try simp only [List.length_set]); assumption)); exact rfl; exact rfl) | (apply e_callU; exact rfl; exact rfl; exact rfl; exact FzL.of rfl; exact begin_ro a _ _; exact rfl) | (apply e_callU; exact rfl; exact rfl; exact rfl; exact FzL.of rfl; exact begin_ro b _ _; exact rfl)); (try simp only [put, rowsOf, plR, List.all_cons, selE, ovr, setH, del, cellsA, splice, isV, List.nil_append, List.cons_append, List.map_cons, List.map_nil, List.length_cons, List.length_nil, List.set_cons_zero, List.set_cons_succ, List.take_succ_cons, List.take_zero, List.take_nil, List.drop_succ_cons, List.drop_zero, List.drop_nil, List.append_nil, List.all_cons, List.all_nil, Bool.and_true, Bool.true_and, Bool.and_false, Bool.false_and, Nat.reduceAdd, Nat.zero_add, Nat.add_zero, Nat.reduceEqDiff, if_true, if_false, reduceIte]))
    | (show DE _ _ _ _ _ _ _ _ _ _ _ _; apply e_gs; exact rfl; exact rfl; exact rfl; exact rfl; all_goals intro h)
    | (show AW _ _ _ _ _ _ _ _; first | refine aw_region ?_ | (refine aw_seqk ?_; intro K hK) | refine aw_ret ?_ | refine aw_skip ?_ | refine aw_drawE (id := 4) [0, 0, 3, 0, 0, 16, 63, 127, 255, 511, 511, 2047, 511, 511, 8703, 32767, 65535, 131071, 262143, 524287] [1, 0, 1, 1, 0, 0, 1, 0, 0, 1, 0, 1, 1, 0, 0, 1, 0, 0, 0, 0] mixed (by kernel_rfl) ?_ | (apply aw_ite; exact rfl; all_goals intro h))
    | refine thn_n ?_
    | (refine hK _ _ _ ?_; clear hK K)
    | refine thn_r ?_)); all_goals (repeat (clear hK K)))
  all_goals refine fin_r (fin_p (.r2 _ _ _ _ (.tmp _ _ rfl) (.tmp _ _ rfl)) ?_ rfl rfl rfl)
  all_goals simp_all [cl]
  all_goals (intros; omega)
def absW (n : Int) : Int := mxI n (IntKind.i64.wrap (0 - n))
def ofs (a : Band) (x : Int) (b : Band) (y : Int) : Int := if cod2 a x b y = 0 then absW (IntKind.i64.wrap (mid a x - mid b y)) else 0
set_option maxHeartbeats 4000000 in
theorem abs_ro (n : Int) (k : Nat) : RO Tryd.prog 31 [.v (.int .i64 n)] k (.v (.int .i64 (absW n))) [] k := by
  refine RO.ofv' Tryd.func31 Tryd.ntmps31 rfl (goFn_of Tryd.func31 rfl (by kernel_rfl)) rfl rfl ?_
  ((repeat' (first
    | (show SQ _ _ _ _ _ _ _ _; first | apply sq_nil | (apply q_move; exact rfl; exact rfl) | (apply q_assign; exact rfl; exact rfl) | (apply q_neg; exact rfl; exact rfl) | (apply q_max; exact rfl; exact rfl; exact rfl))
    | (show AW _ _ _ _ _ _ _ _; first | refine aw_region ?_ | (refine aw_seqk ?_; intro K hK) | refine aw_ret ?_)
    | refine thn_n ?_
    | (refine hK _ _ _ ?_; clear hK K))); all_goals (repeat (clear hK K)))
  all_goals refine fin_r (fin_i rfl ?_)
  all_goals rfl
set_option maxHeartbeats 4000000 in
theorem OffsetOf_ro (a : Band) (x : Int) (b : Band) (y : Int) (ha : a.sm) (hb : b.sm) (k : Nat) : RO Tryd.prog 15 [.agg (baL a), .v (.int .i64 x), .agg (baL b), .v (.int .i64 y)] k (.tup [.v (.int .i64 (ofs a x b y)), .v (.int .i64 (cod2 a x b y))]) [] k := by
  refine RO.ofp Tryd.func15 Tryd.ntmps15 rfl (goFn_of Tryd.func15 rfl (by kernel_rfl)) rfl rfl rfl ?_
  unfold baL
  ((repeat' (first
    | (show SQ _ _ _ _ _ _ _ _; first | apply sq_nil | (apply q_move; exact rfl; exact rfl) | (apply q_assign; exact rfl; exact rfl) | (apply q_neq; exact rfl; exact rfl; exact rfl))
    | (show SQ _ _ _ _ _ _ _ _; (first | (apply q_ldap; exact rfl; exact rfl; exact (ty rfl); exact rfl; exact rfl; exact (by first | rfl | assumption | ((try simp only [Nat.zero_add]); refine List.getElem?_set_self ?_; (try simp only [List.length_set]); assumption)); exact rfl) | (apply q_box; exact rfl; exact rfl; exact rfl) | (apply q_callU; exact rfl; exact rfl; exact rfl; exact FzL.of rfl; exact twoChannels_ro a x b y ha hb _)); (try simp only [put, rowsOf, plR, List.all_cons, selE, ovr, setH, del, cellsA, splice, isV, List.nil_append, List.cons_append, List.map_cons, List.map_nil, List.length_cons, List.length_nil, List.set_cons_zero, List.set_cons_succ, List.take_succ_cons, List.take_zero, List.take_nil, List.drop_succ_cons, List.drop_zero, List.drop_nil, List.append_nil, List.all_cons, List.all_nil, Bool.and_true, Bool.true_and, Bool.and_false, Bool.false_and, Nat.reduceAdd, Nat.zero_add, Nat.add_zero, Nat.reduceEqDiff, if_true, if_false, reduceIte]))
    | (show DE _ _ _ _ _ _ _ _ _ _ _ _; first | (apply e_move; exact rfl; exact rfl; exact rfl) | (apply e_assign; exact rfl; exact rfl; exact rfl) | (apply e_sub; exact rfl; exact rfl; exact rfl; exact rfl))
    | (show DE _ _ _ _ _ _ _ _ _ _ _ _; (first | (apply dr_nil; exact trivial) | (apply e_ldap; exact rfl; exact rfl; exact (ty rfl); exact rfl; exact rfl; exact (by first | rfl | assumption | ((try simp only [Nat.zero_add]); refine List.getElem?_set_self ?_; (try simp only [List.length_set]); assumption)); exact rfl; exact rfl) | (apply e_callU; exact rfl; exact rfl; exact rfl; exact FzL.of rfl; exact middle_ro a _ _; exact rfl) | (apply e_callU; exact rfl; exact rfl; exact rfl; exact FzL.of rfl; exact middle_ro b _ _; exact rfl) | (apply e_callU; exact rfl; exact rfl; exact rfl; exact FzL.of rfl; exact abs_ro _ _; exact rfl)); (try simp only [put, rowsOf, plR, List.all_cons, selE, ovr, setH, del, cellsA, splice, isV, List.nil_append, List.cons_append, List.map_cons, List.map_nil, List.length_cons, List.length_nil, List.set_cons_zero, List.set_cons_succ, List.take_succ_cons, List.take_zero, List.take_nil, List.drop_succ_cons, List.drop_zero, List.drop_nil, List.append_nil, List.all_cons, List.all_nil, Bool.and_true, Bool.true_and, Bool.and_false, Bool.false_and, Nat.reduceAdd, Nat.zero_add, Nat.add_zero, Nat.reduceEqDiff, if_true, if_false, reduceIte]))
    | (show AW _ _ _ _ _ _ _ _; first | refine aw_region ?_ | (refine aw_seqk ?_; intro K hK) | refine aw_ret ?_ | refine aw_skip ?_ | refine aw_drawE (id := 4) [0, 0, 3, 0, 0, 31, 63, 127, 255, 511] [1, 0, 1, 1, 0, 1, 0, 1, 0, 0] mixed (by kernel_rfl) ?_ | (apply aw_ite; exact rfl; all_goals intro h))
    | refine thn_n ?_
    | (refine hK _ _ _ ?_; clear hK K)
    | refine thn_r ?_)); all_goals (repeat (clear hK K)))
  all_goals refine fin_r (fin_p (.r2 _ _ _ _ (.tmp _ _ rfl) (.tmp _ _ rfl)) ?_ rfl rfl rfl)
  all_goals simp_all [ofs]
end Go.Proofs.YtmnklmaefoidbaaDoor.Ba

namespace Go.Proofs.YtmnklmaefoidbaaDoor.Ba
open Go Go.RowKit Go.Proofs.YtmnklmaefoidbaaDoor.Aw Go.Proofs.YtmnklmaefoidbaaDoor.In Go.Proofs.YtmnklmaefoidbaaDoor.Sr
set_option linter.unusedSimpArgs false
set_option linter.unusedVariables false
attribute [local irreducible] AW SQ Step RO RC DE Thn InB
set_option maxHeartbeats 4000000 in
theorem b10Long_ro (bs : List Int) (k : Nat) : RO Tryd.prog 4 [.dsl 1 (byL bs)] k (.v (.bool (decide (1048576 < (((byL bs).length : Nat) : Int))))) [] k := by
  refine RO.ofv' Tryd.func4 Tryd.ntmps4 rfl (goFn_of Tryd.func4 rfl (by kernel_rfl)) rfl rfl ?_
  ((repeat' (first
    | (show SQ _ _ _ _ _ _ _ _; first | apply sq_nil | (apply q_move; exact rfl; exact rfl) | (apply q_assign; exact rfl; exact rfl) | (apply q_lend; exact rfl; exact rfl; exact (ty rfl); exact rfl) | (apply q_gtr; exact rfl; exact rfl; exact rfl))
    | (show AW _ _ _ _ _ _ _ _; first | refine aw_region ?_ | (refine aw_seqk ?_; intro K hK) | refine aw_ret ?_)
    | refine thn_n ?_
    | (refine hK _ _ _ ?_; clear hK K))); all_goals (repeat (clear hK K)))
  all_goals exact fin_r (fin_b rfl rfl)
theorem chan {b : Band} {c : Int} (h : okB b = true) (hc : hasB b c = true) : ∃ X, X = c * b.ra ∧ 1 ≤ b.lo ∧ b.hi ≤ 100000000 ∧ 1 ≤ b.ra ∧ b.ra ≤ 100000 ∧ 0 ≤ X ∧ b.lo + X + b.ra ≤ b.hi ∧
    IntKind.i64.wrap (b.lo + IntKind.i64.wrap (c * b.ra)) = b.lo + X ∧ IntKind.i64.wrap (b.lo + IntKind.i64.wrap (IntKind.i64.wrap (c + 1) * b.ra)) = b.lo + X + b.ra ∧ mid b c = b.lo + X + b.ra / 2 := by
  have hcb := cnt_bd h
  unfold okB inB at h
  simp only [Bool.and_eq_true, decide_eq_true_eq] at h
  have w0 : IntKind.i64.wrap (cnt b - 1) = cnt b - 1 := IntWalk.i64_in _ (by omega)
  unfold hasB inB at hc
  rw [w0] at hc
  simp only [Bool.and_eq_true, decide_eq_true_eq] at hc
  have w1 : IntKind.i64.wrap (b.hi - b.lo) = b.hi - b.lo := IntWalk.i64_in _ (by omega)
  have hq : cnt b = (b.hi - b.lo) / b.ra := by
    unfold cnt
    rw [w1, Int.tdiv_eq_ediv_of_nonneg (by omega)]
    have := Int.ediv_nonneg (a := b.hi - b.lo) (b := b.ra) (by omega) (by omega)
    have := Int.ediv_le_self (a := b.hi - b.lo) b.ra (by omega)
    exact IntWalk.i64_in _ (by omega)
  have hm : cnt b * b.ra ≤ b.hi - b.lo := by rw [hq]; exact Int.ediv_mul_le _ (by omega)
  have hX0 : 0 ≤ c * b.ra := Int.mul_nonneg (by omega) (by omega)
  have hX1 : (c + 1) * b.ra ≤ cnt b * b.ra := Int.mul_le_mul_of_nonneg_right (by omega) (by omega)
  have hX2 : (c + 1) * b.ra = c * b.ra + b.ra := by rw [Int.add_mul, Int.one_mul]
  have wc : IntKind.i64.wrap (c + 1) = c + 1 := IntWalk.i64_in _ (by omega)
  have wX : IntKind.i64.wrap (c * b.ra) = c * b.ra := IntWalk.i64_in _ (by omega)
  have wX1 : IntKind.i64.wrap ((c + 1) * b.ra) = c * b.ra + b.ra := by rw [hX2]; exact IntWalk.i64_in _ (by omega)
  have wm : IntKind.i64.wrap (b.ra.tdiv 2) = b.ra / 2 := by rw [Int.tdiv_eq_ediv_of_nonneg (by omega)]; exact IntWalk.i64_in _ (by omega)
  refine ⟨_, rfl, by omega, by omega, by omega, by omega, hX0, by omega, ?_, ?_, ?_⟩
  · rw [wX]; exact IntWalk.i64_in _ (by omega)
  · rw [wc, wX1, IntWalk.i64_in _ (by omega)]; omega
  · unfold mid
    rw [wX, wm, IntWalk.i64_in (b.lo + c * b.ra) (by omega)]
    exact IntWalk.i64_in _ (by omega)
end Go.Proofs.YtmnklmaefoidbaaDoor.Ba

namespace Go.Proofs.YtmnklmaefoidbaaDoor.Ba
open Go Go.RowKit Go.Proofs.YtmnklmaefoidbaaDoor.Aw Go.Proofs.YtmnklmaefoidbaaDoor.In Go.Proofs.YtmnklmaefoidbaaDoor.Sr
set_option linter.unusedSimpArgs false
set_option linter.unusedVariables false
attribute [local irreducible] AW SQ Step RO RC DE Thn InB
theorem ra_ok {b : Band} (h : okB b = true) : b.ra ≠ 0 := by have := (cnt_bd h).1; omega
set_option maxHeartbeats 4000000 in
theorem ChannelCount_ro (b : Band) (hs : b.sm) (h : okB b = true) (k : Nat) : RO Tryd.prog 7 [.agg (baL b)] k (.tup [.v (.int .i64 (cnt b)), .v (.int .i64 0)]) [] k := by
  have h1 := ValidBand_ro b hs
  have h2 := count_ro b (ra_ok h)
  rw [h] at h1
  refine RO.ofp Tryd.func7 Tryd.ntmps7 rfl (goFn_of Tryd.func7 rfl (by kernel_rfl)) rfl rfl rfl ?_
  unfold baL at h1 h2 ⊢
  ((repeat' (first
    | (show SQ _ _ _ _ _ _ _ _; first | apply sq_nil | (apply q_assign; exact rfl; exact rfl) | (apply q_not; exact rfl; exact rfl))
    | (show SQ _ _ _ _ _ _ _ _; (first | (apply q_ldap; exact rfl; exact rfl; exact (ty rfl); exact rfl; exact rfl; exact (by first | rfl | assumption | ((try simp only [Nat.zero_add]); refine List.getElem?_set_self ?_; (try simp only [List.length_set]); assumption)); exact rfl) | (apply q_box; exact rfl; exact rfl; exact rfl) | (apply q_callU; exact rfl; exact rfl; exact rfl; exact FzL.of rfl; exact h1 _) | (apply q_callU; exact rfl; exact rfl; exact rfl; exact FzL.of rfl; exact h2 _)); (try simp only [put, rowsOf, plR, List.all_cons, selE, ovr, setH, del, cellsA, splice, isV, List.nil_append, List.cons_append, List.map_cons, List.map_nil, List.length_cons, List.length_nil, List.set_cons_zero, List.set_cons_succ, List.take_succ_cons, List.take_zero, List.take_nil, List.drop_succ_cons, List.drop_zero, List.drop_nil, List.append_nil, List.all_cons, List.all_nil, Bool.and_true, Bool.true_and, Bool.and_false, Bool.false_and, Nat.reduceAdd, Nat.zero_add, Nat.add_zero, Nat.reduceEqDiff, if_true, if_false, reduceIte]))
    | (show AW _ _ _ _ _ _ _ _; first | refine aw_region ?_ | (refine aw_seqk ?_; intro K hK) | (apply aw_cond_f; exact rfl; exact rfl) | refine aw_ret ?_ | refine aw_skip ?_)
    | refine thn_n ?_
    | (refine hK _ _ _ ?_; clear hK K))); all_goals (repeat (clear hK K)))
  all_goals (refine fin_r (fin_p (.r2 _ _ _ _ (.tmp _ _ rfl) (.tmp _ _ rfl)) ?_ rfl rfl rfl); rfl)
set_option maxHeartbeats 4000000 in
theorem orNotFound_ro (n : Int) (k : Nat) : RO Tryd.prog 24 [.v (.int .i64 n), .v (.bool true)] k (.tup [.v (.int .i64 n), .v (.int .i64 0)]) [] k := by
  refine RO.ofp Tryd.func24 Tryd.ntmps24 rfl (goFn_of Tryd.func24 rfl (by kernel_rfl)) rfl rfl rfl ?_
  ((repeat' (first
    | (show SQ _ _ _ _ _ _ _ _; first | apply sq_nil | (apply q_move; exact rfl; exact rfl) | (apply q_assign; exact rfl; exact rfl) | (apply q_not; exact rfl; exact rfl))
    | (show AW _ _ _ _ _ _ _ _; first | refine aw_region ?_ | (refine aw_seqk ?_; intro K hK) | (apply aw_cond_f; exact rfl; exact rfl) | refine aw_ret ?_ | refine aw_skip ?_)
    | refine thn_n ?_
    | (refine hK _ _ _ ?_; clear hK K))); all_goals (repeat (clear hK K)))
  all_goals (refine fin_r (fin_p (.r2 _ _ _ _ (.tmp _ _ rfl) (.tmp _ _ rfl)) ?_ rfl rfl rfl); rfl)
set_option maxHeartbeats 4000000 in
theorem ChannelAt_ro (b : Band) (c : Int) (hs : b.sm) (h : okB b = true) (hc : hasB b c = true) (k : Nat) : RO Tryd.prog 8 [.agg (baL b), .v (.int .i64 (mid b c))] k (.tup [.v (.int .i64 c), .v (.int .i64 0)]) [] k := by
  have h1 := ValidBand_ro b hs
  have h2 := count_ro b (ra_ok h)
  rw [h] at h1
  obtain ⟨X, hX, a1, a2, a3, a4, a5, a6, a7, a8, a9⟩ := chan h hc
  have hcb := cnt_bd h
  have hc2 : 0 ≤ c ∧ c < cnt b := by
    unfold hasB inB at hc
    rw [IntWalk.i64_in (cnt b - 1) (by omega)] at hc
    simp only [Bool.and_eq_true, decide_eq_true_eq] at hc
    omega
  have e1 : decide (mid b c < b.lo) = false := by rw [a9]; simp; omega
  have e2 : decide (100000000 < mid b c) = false := by rw [a9]; simp; omega
  have e3 : IntKind.i64.wrap ((IntKind.i64.wrap (mid b c - b.lo)).tdiv b.ra) = c := by
    rw [a9, IntWalk.i64_in (b.lo + X + b.ra / 2 - b.lo) (by omega), Int.tdiv_eq_ediv_of_nonneg (by omega)]
    have : (b.lo + X + b.ra / 2 - b.lo) / b.ra = c := by
      rw [show b.lo + X + b.ra / 2 - b.lo = b.ra / 2 + c * b.ra by omega, Int.add_mul_ediv_right _ _ (by omega), Int.ediv_eq_zero_of_lt (by omega) (by omega)]
      omega
    rw [this]
    exact IntWalk.i64_in _ (by omega)
  have e4 : decide (IntKind.i64.wrap ((IntKind.i64.wrap (mid b c - b.lo)).tdiv b.ra) < cnt b) = true := by rw [e3]; simp; omega
  have h3 := orNotFound_ro (IntKind.i64.wrap ((IntKind.i64.wrap (mid b c - b.lo)).tdiv b.ra))
  rw [← e4] at h3
  have hr0 : (b.ra == 0) = false := by simp; omega
  refine RO.ofp Tryd.func8 Tryd.ntmps8 rfl (goFn_of Tryd.func8 rfl (by kernel_rfl)) rfl rfl rfl ?_
  unfold baL at h1 h2 ⊢
  ((repeat' (first
    | (show SQ _ _ _ _ _ _ _ _; first | apply sq_nil | (apply q_move; exact rfl; exact rfl) | (apply q_assign; exact rfl; exact rfl) | (apply q_pick_f; exact rfl; exact rfl; exact rfl; exact (by first | assumption | exact rfl)) | (apply q_fieldAddr; exact rfl; exact rfl; exact (ty rfl); exact rfl; exact rfl; exact rfl; exact rfl) | (apply q_not; exact rfl; exact rfl) | (apply q_ext; exact rfl; exact rfl; exact rfl) | (apply q_sub; exact rfl; exact rfl; exact rfl) | (apply q_quo; exact rfl; exact rfl; exact rfl; exact (by first | decide | omega)) | (apply q_lss; exact rfl; exact rfl; exact rfl) | (apply q_gtr; exact rfl; exact rfl; exact rfl) | (apply q_ld1p; exact rfl; exact rfl; exact (ty rfl); exact rfl; exact rfl; exact (by first | rfl | assumption | ((try simp only [Nat.zero_add]); refine List.getElem?_set_self ?_; (try simp only [List.length_set]); assumption)); exact rfl) | (apply q_g; exact rfl; exact rfl; exact rfl; exact (by assumption)))
    | (show SQ _ _ _ _ _ _ _ _; (first | (apply q_ldap; exact rfl; exact rfl; exact (ty rfl); exact rfl; exact rfl; exact (by first | rfl | assumption | ((try simp only [Nat.zero_add]); refine List.getElem?_set_self ?_; (try simp only [List.length_set]); assumption)); exact rfl) | (apply q_box; exact rfl; exact rfl; exact rfl) | (apply q_callU; exact rfl; exact rfl; exact rfl; exact FzL.of rfl; exact h1 _) | (apply q_callU; exact rfl; exact rfl; exact rfl; exact FzL.of rfl; exact h2 _) | (apply q_callU; exact rfl; exact rfl; exact rfl; exact FzL.of rfl; exact h3 _)); (try simp only [put, rowsOf, plR, List.all_cons, selE, ovr, setH, del, cellsA, splice, isV, List.nil_append, List.cons_append, List.map_cons, List.map_nil, List.length_cons, List.length_nil, List.set_cons_zero, List.set_cons_succ, List.take_succ_cons, List.take_zero, List.take_nil, List.drop_succ_cons, List.drop_zero, List.drop_nil, List.append_nil, List.all_cons, List.all_nil, Bool.and_true, Bool.true_and, Bool.and_false, Bool.false_and, Nat.reduceAdd, Nat.zero_add, Nat.add_zero, Nat.reduceEqDiff, if_true, if_false, reduceIte]))
    | (show AW _ _ _ _ _ _ _ _; first | refine aw_region ?_ | (refine aw_seqk ?_; intro K hK) | (apply aw_cond_f; exact rfl; exact rfl) | (apply aw_cond_f; exact rfl; exact (by assumption)) | refine aw_ret ?_ | refine aw_skip ?_)
    | refine thn_n ?_
    | (refine hK _ _ _ ?_; clear hK K))); all_goals (repeat (clear hK K)))
  all_goals (refine fin_r (fin_p (.r2 _ _ _ _ (.tmp _ _ rfl) (.tmp _ _ rfl)) ?_ rfl rfl rfl); rw [e3])
def rgF (j : Nat) : List AV := [.v (.int .i64 (j : Int))]
def rgR (i : Nat) : List (List AV) := (List.range i).map rgF
theorem rgR_len (i : Nat) : (rgR i).length = i := by simp [rgR]
theorem rgR_succ (i : Nat) : rgR (i + 1) = rgR i ++ [[.v (.int .i64 (i : Int))]] := by simp [rgR, rgF, List.range_succ]
set_option maxHeartbeats 4000000 in
theorem ChannelsWithin_ro (b : Band) (hs : b.sm) (h : okB b = true) (N : Nat) (hN : cnt b = N) (k : Nat) :
    RO Tryd.prog 9 [.agg (baL b), .v (.int .i64 b.lo), .v (.int .i64 b.hi)] k (.tup [.sl k 0 N, .v (.int .i64 0)]) [(k, ⟨2, 1, true, rgR N⟩)] (k + 1) := by
  have h1 := ValidBand_ro b hs
  have h2 := count_ro b (ra_ok h)
  rw [h] at h1
  rw [hN] at h2
  have hcb := cnt_bd h
  have hB := begin_ro b
  have hlh : decide (b.hi < b.lo) = false := by
    unfold okB at h
    simp only [Bool.and_eq_true, decide_eq_true_eq] at h
    simp; omega
  refine RO.ofm (.tup [.sl 0 0 N, .v (.int .i64 0)]) ([(0, ⟨2, 1, true, rgR N⟩)]) 1 Tryd.func9 Tryd.ntmps9 rfl (goFn_of Tryd.func9 rfl (by kernel_rfl)) rfl rfl (by simp [renA, renL]) (by simp [shH, renB]) rfl ?_
  unfold baL at h1 h2 hB ⊢
  ((repeat' (first
    | (show SQ _ _ _ _ _ _ _ _; first | apply sq_nil | (apply q_move; exact rfl; exact rfl) | (apply q_assign; exact rfl; exact rfl) | (apply q_not; exact rfl; exact rfl) | (apply q_gtr; exact rfl; exact rfl; exact rfl))
    | (show SQ _ _ _ _ _ _ _ _; (first | (apply q_ldap; exact rfl; exact rfl; exact (ty rfl); exact rfl; exact rfl; exact (by first | rfl | assumption | ((try simp only [Nat.zero_add]); refine List.getElem?_set_self ?_; (try simp only [List.length_set]); assumption)); exact rfl) | (apply q_box; exact rfl; exact rfl; exact rfl) | (apply q_callU; exact rfl; exact rfl; exact rfl; exact FzL.of rfl; exact h1 _) | (apply q_callU; exact rfl; exact rfl; exact rfl; exact FzL.of rfl; exact h2 _)); (try simp only [put, rowsOf, plR, List.all_cons, selE, ovr, setH, del, cellsA, splice, isV, List.nil_append, List.cons_append, List.map_cons, List.map_nil, List.length_cons, List.length_nil, List.set_cons_zero, List.set_cons_succ, List.take_succ_cons, List.take_zero, List.take_nil, List.drop_succ_cons, List.drop_zero, List.drop_nil, List.append_nil, List.all_cons, List.all_nil, Bool.and_true, Bool.true_and, Bool.and_false, Bool.false_and, Nat.reduceAdd, Nat.zero_add, Nat.add_zero, Nat.reduceEqDiff, if_true, if_false, reduceIte]))
    | (show AW _ _ _ _ _ _ _ _; first | refine aw_region ?_ | (refine aw_seqk ?_; intro K hK) | refine aw_block ?_ | (apply aw_cond_f; exact rfl; exact rfl) | (apply aw_cond_f; exact rfl; exact (by assumption)) | refine aw_skip ?_)
    | refine thn_n ?_
    | (refine hK _ _ _ ?_; clear hK K)
    | refine inb_n ?_)); all_goals (repeat (clear hK K)))
  refine aw_nil (t := 8) 2 1 rfl ?_
  refine aw_loop (ρ := id) (ι := Nat) (fun i => ([(20, .v (.int .i64 i)), (19, .v (.int .i64 (N : Int))), (8, .sl 1 0 i), (3, .ptr 0 0 0), (2, .v (.int .i64 b.hi)), (1, .v (.int .i64 b.lo))], [(0, ⟨25, 5, false, [[.v (.string b.nm), .v (.int .i64 b.lo), .v (.int .i64 b.hi), .v (.int .i64 b.ra), .v (.int .i64 b.du)]]⟩), (1, ⟨2, 1, true, rgR i⟩)], 2))
    (fun i => i ≤ N) (fun i => N - i) 0 (Nat.zero_le _) ⟨by (repeat (refine ⟨by first | exact lk_i rfl rfl | exact lk_r rfl rfl rfl | exact lk_s rfl rfl rfl rfl, ?_⟩)); exact trivial, by (repeat (refine ⟨by first | exact ⟨rfl, rfl, rfl⟩, ?_⟩)); exact trivial, by rfl, by exact pin_0⟩ ?_
  intro i hi
  have hml := rgR_len i
  by_cases c2 : i < N
  · have b2 : decide ((i : Int) < (N : Int)) = true := by simpa using c2
    have hw3 : IntKind.i64.wrap ((i : Int) + 1) = ((i + 1 : Nat) : Int) := by rw [IntWalk.i64_in _ (by omega)]; omega
    have hc : hasB b i = true := by
      unfold hasB inB
      rw [IntWalk.i64_in (cnt b - 1) (by omega)]
      simp; omega
    obtain ⟨X, hX, a1, a2, a3, a4, a5, a6, a7, a8, a9⟩ := chan h hc
    have e1 : decide (b.lo ≤ IntKind.i64.wrap (b.lo + IntKind.i64.wrap ((i : Int) * b.ra))) = true := by rw [a7]; simp; omega
    have e2 : decide (IntKind.i64.wrap (b.lo + IntKind.i64.wrap (IntKind.i64.wrap ((i : Int) + 1) * b.ra)) ≤ b.hi) = true := by rw [a8]; simp; omega
    ((repeat' (first
    | (show SQ _ _ _ _ _ _ _ _; first | apply sq_nil | (apply q_move; exact rfl; exact rfl) | (apply q_assign; exact rfl; exact rfl) | (apply q_pick_t; exact rfl; exact rfl; exact rfl; exact (by first | assumption | exact rfl)) | (apply q_add; exact rfl; exact rfl; exact rfl) | (apply q_lss; exact rfl; exact rfl; exact rfl) | (apply q_leq; exact rfl; exact rfl; exact rfl) | (apply q_geq; exact rfl; exact rfl; exact rfl) | (apply q_g; exact rfl; exact rfl; exact rfl; exact (by assumption)))
    | (show SQ _ _ _ _ _ _ _ _; (first | (apply q_ldap; exact rfl; exact rfl; exact (ty rfl); exact rfl; exact rfl; exact (by first | rfl | assumption | ((try simp only [Nat.zero_add]); refine List.getElem?_set_self ?_; (try simp only [List.length_set]); assumption)); exact rfl) | (apply q_buildn; exact rfl; exact (ty rfl); exact rfl; exact rfl; exact rfl; exact rfl; exact rfl; exact rfl; exact rfl) | (apply q_apo_s; exact rfl; exact rfl; exact rfl; exact (ty rfl); exact rfl; exact rfl; exact (by first | omega | (simp; done) | (simp; omega)); exact (by first | exact List.take_of_length_le (by first | omega | (simp; done) | (simp; omega)) | rfl); exact (ty rfl); exact rfl; exact rfl; exact (by first | omega | (simp; done) | (simp; omega)); exact (by first | exact dt_full (by first | omega | (simp; done) | (simp; omega)) | assumption | rfl); exact rfl; exact (by first | omega | (simp; done) | (simp; omega)); exact (by first | omega | (simp; done) | (simp; omega)); exact (by first | assumption | exact rfl)) | (apply q_callU; exact rfl; exact rfl; exact rfl; exact FzL.of rfl; exact hB (i : Int) _) | (apply q_callU; exact rfl; exact rfl; exact rfl; exact FzL.of rfl; exact hB (IntKind.i64.wrap ((i : Int) + 1)) _)); (try simp only [put, rowsOf, plR, List.all_cons, selE, ovr, setH, del, cellsA, splice, isV, List.nil_append, List.cons_append, List.map_cons, List.map_nil, List.length_cons, List.length_nil, List.set_cons_zero, List.set_cons_succ, List.take_succ_cons, List.take_zero, List.take_nil, List.drop_succ_cons, List.drop_zero, List.drop_nil, List.append_nil, List.all_cons, List.all_nil, Bool.and_true, Bool.true_and, Bool.and_false, Bool.false_and, Nat.reduceAdd, Nat.zero_add, Nat.add_zero, Nat.reduceEqDiff, if_true, if_false, reduceIte]))
    | (show AW _ _ _ _ _ _ _ _; first | refine aw_region ?_ | (refine aw_seqk ?_; intro K hK) | refine aw_block ?_ | (apply aw_cond_t; exact rfl; exact (by assumption)) | refine aw_skip ?_)
    | refine thn_n ?_
    | (refine hK _ _ _ ?_; clear hK K)
    | refine inb_n ?_)); all_goals (repeat (clear hK K)))
    refine ⟨i + 1, fun j => [0, 3].getD j 0, c2, by omega, ?_⟩
    (try dsimp only); rw [rgR_succ, ← hw3]
    exact ⟨by (repeat (refine ⟨by first | exact lk_i rfl rfl | exact lk_r rfl rfl rfl | exact lk_s rfl rfl rfl rfl, ?_⟩)); exact trivial, by (repeat (refine ⟨by first | exact ⟨rfl, rfl, rfl⟩, ?_⟩)); exact trivial, by rfl, by exact pin_0⟩
  · have b2 : decide ((i : Int) < (N : Int)) = false := by simpa using c2
    obtain rfl : i = N := by omega
    ((repeat' (first
    | (show SQ _ _ _ _ _ _ _ _; first | apply sq_nil | (apply q_move; exact rfl; exact rfl) | (apply q_assign; exact rfl; exact rfl) | (apply q_lss; exact rfl; exact rfl; exact rfl))
    | (show AW _ _ _ _ _ _ _ _; first | refine aw_region ?_ | (refine aw_seqk ?_; intro K hK) | (apply aw_cond_f; exact rfl; exact (by assumption)) | refine aw_ret ?_ | refine aw_exit ?_)
    | refine thn_n ?_
    | (refine hK _ _ _ ?_; clear hK K)
    | refine thn_e ?_
    | refine inb_same ?_
    | (clear hK K; refine hK _ _ _ ?_; clear hK K))); all_goals (repeat (clear hK K)))
    exact fin_r (fin_m2 rfl rfl rfl _ _ rfl rfl rfl)
end Go.Proofs.YtmnklmaefoidbaaDoor.Ba

namespace Go.Proofs.YtmnklmaefoidbaaDoor.Ba
open Go Go.RowKit Go.Proofs.YtmnklmaefoidbaaDoor.Aw Go.Proofs.YtmnklmaefoidbaaDoor.In Go.Proofs.YtmnklmaefoidbaaDoor.Sr
set_option linter.unusedSimpArgs false
set_option linter.unusedVariables false
attribute [local irreducible] AW SQ Step RO RC DE Thn InB
theorem DrawFreq_ex (bs : List Int) (hb : ∀ b ∈ bs, 0 ≤ b ∧ b ≤ 255) (hn : bs.length ≤ 9223372036854775807) : ∃ (b : Band) (x : Int), b.nm.size ≤ 10 ∧
    ∀ k, RO Tryd.prog 5 [.dsl 1 (byL bs)] k (.tup [.agg (baL b), .v (.int .i64 x)]) [] k := by
  have hok : (⟨bs, 0, 0⟩ : Sr).ok 0 := ⟨hb, by simp, by simp, hn⟩
  obtain ⟨b, s1, h1⟩ := l15Draw_ex hok (by omega)
  obtain ⟨x, s2, h2⟩ := l15DrawChannel_ex b h1.sm h1.ok (by omega)
  have r1 := h1.rc
  have c2 := fun j => h2.rc j 1 2 (by decide)
  refine ⟨b, x, h1.sm, fun k => ?_⟩
  unfold baL at r1 c2 ⊢
  refine RO.ofp Tryd.func5 Tryd.ntmps5 rfl (goFn_of Tryd.func5 rfl (by kernel_rfl)) rfl rfl rfl ?_
  ((repeat' (first
    | (show SQ _ _ _ _ _ _ _ _; first | apply sq_nil | (apply q_move; exact rfl; exact rfl) | (apply q_assign; exact rfl; exact rfl))
    | (show SQ _ _ _ _ _ _ _ _; (first | (apply q_alloc; exact rfl; exact (ty rfl); exact rfl; exact rfl) | (apply q_store; exact rfl; exact rfl; exact (ty rfl); exact rfl; exact (by first | rfl | assumption | ((try simp only [Nat.zero_add]); refine List.getElem?_set_self ?_; (try simp only [List.length_set]); assumption)); exact rfl; exact rfl; exact rfl) | (apply q_callC; exact rfl; exact rfl; exact rfl; exact l00From_rc bs _; (focus ((repeat (first | exact trivial | refine ⟨by first | exact rfl | assumption, ?_⟩)); done)); skip) | (apply q_callC; exact rfl; exact rfl; exact rfl; exact r1 _ 1; (focus ((repeat (first | exact trivial | refine ⟨by first | exact rfl | assumption, ?_⟩)); done)); skip)); (try simp only [put, rowsOf, plR, List.all_cons, selE, ovr, setH, del, cellsA, splice, isV, List.nil_append, List.cons_append, List.map_cons, List.map_nil, List.length_cons, List.length_nil, List.set_cons_zero, List.set_cons_succ, List.take_succ_cons, List.take_zero, List.take_nil, List.drop_succ_cons, List.drop_zero, List.drop_nil, List.append_nil, List.all_cons, List.all_nil, Bool.and_true, Bool.true_and, Bool.and_false, Bool.false_and, Nat.reduceAdd, Nat.zero_add, Nat.add_zero, Nat.reduceEqDiff, if_true, if_false, reduceIte]))
    | (show DE _ _ _ _ _ _ _ _ _ _ _ _; first | (apply e_move; exact rfl; exact rfl; exact rfl) | (apply e_assign; exact rfl; exact rfl; exact rfl))
    | (show DE _ _ _ _ _ _ _ _ _ _ _ _; (first | (apply dr_nil; (focus ((repeat (first | exact trivial | exact Or.inr rfl | exact Or.inl (by kernel_rfl) | apply And.intro)); done))) | (apply e_rda; exact rfl; exact rfl; exact (ty rfl); exact rfl; exact rfl; exact (by first | rfl | assumption | ((try simp only [Nat.zero_add]); refine List.getElem?_set_self ?_; (try simp only [List.length_set]); assumption)); exact rfl; exact rfl; exact rfl) | (apply e_store; exact rfl; exact rfl; exact (ty rfl); exact rfl; exact (by first | rfl | assumption | ((try simp only [Nat.zero_add]); refine List.getElem?_set_self ?_; (try simp only [List.length_set]); assumption)); exact rfl; exact rfl; exact rfl; exact rfl) | (apply e_callC; exact rfl; exact rfl; exact rfl; exact c2 _; (focus ((repeat (first | exact trivial | refine ⟨by first | exact rfl | assumption, ?_⟩)); done)); exact rfl; skip)); (try simp only [put, rowsOf, plR, List.all_cons, selE, ovr, setH, del, cellsA, splice, isV, List.nil_append, List.cons_append, List.map_cons, List.map_nil, List.length_cons, List.length_nil, List.set_cons_zero, List.set_cons_succ, List.take_succ_cons, List.take_zero, List.take_nil, List.drop_succ_cons, List.drop_zero, List.drop_nil, List.append_nil, List.all_cons, List.all_nil, Bool.and_true, Bool.true_and, Bool.and_false, Bool.false_and, Nat.reduceAdd, Nat.zero_add, Nat.add_zero, Nat.reduceEqDiff, if_true, if_false, reduceIte]))
    | (show AW _ _ _ _ _ _ _ _; first | refine aw_region ?_ | (refine aw_seqk ?_; intro K hK) | refine aw_ret ?_ | refine aw_drawE (id := 3) [0, 0, 2, 7, 15] [0, 0, 2, 2, 0, 0, 2] mixed (by kernel_rfl) ?_)
    | refine thn_n ?_
    | (refine hK _ _ _ ?_; clear hK K))); all_goals (repeat (clear hK K)))
  refine fin_r (fin_p (.r2 _ _ _ _ (.agg _ _ _ _ _ rfl (.inr ⟨_, _, _, _, _, rfl, rfl, rfl, rfl⟩) (ty rfl) rfl (Nat.le_of_ble_eq_true rfl)) (.tmp _ _ rfl)) ?_ rfl rfl rfl)
  rfl
def bt8 (bs : List Int) (k n : Int) : Int := if n ≤ 1 then 0 else if k < bs.length then bs.getD k.toNat 0 % n else (k * 37 + 11) % n
theorem bt8_bd (bs : List Int) (k n : Int) (hn : 1 ≤ n) : 0 ≤ bt8 bs k n ∧ bt8 bs k n < n := by
  unfold bt8
  split
  · omega
  · split <;> exact ⟨Int.emod_nonneg _ (by omega), Int.emod_lt_of_pos _ (by omega)⟩
set_option maxHeartbeats 4000000 in
theorem b10At_ro (bs : List Int) (hb : ∀ b ∈ bs, 0 ≤ b ∧ b ≤ 255) (hn : bs.length ≤ 9223372036854775807) (k n : Int) (hk : 0 ≤ k) (hk2 : k ≤ 1000000) (h1 : n ≤ 1000000000) (m : Nat) : RO Tryd.prog 13 [.dsl 1 (byL bs), .v (.int .i64 k), .v (.int .i64 n)] m (.v (.int .i64 (bt8 bs k n))) [] m := by
  have hl : (byL bs).length = bs.length := List.length_map _
  by_cases c1 : n ≤ 1
  · have b1 : decide (n ≤ 1) = true := by simpa using c1
    refine RO.ofv' Tryd.func13 Tryd.ntmps13 rfl (goFn_of Tryd.func13 rfl (by kernel_rfl)) rfl rfl ?_
    ((repeat' (first
    | (show SQ _ _ _ _ _ _ _ _; first | apply sq_nil | (apply q_move; exact rfl; exact rfl) | (apply q_assign; exact rfl; exact rfl) | (apply q_leq; exact rfl; exact rfl; exact rfl))
    | (show AW _ _ _ _ _ _ _ _; first | refine aw_region ?_ | (refine aw_seqk ?_; intro K hK) | (apply aw_cond_t; exact rfl; exact (by assumption)) | refine aw_ret ?_)
    | refine thn_n ?_
    | (refine hK _ _ _ ?_; clear hK K)
    | refine thn_r ?_)); all_goals (repeat (clear hK K)))
    all_goals refine fin_r (fin_i rfl ?_)
    rw [bt8, if_pos c1]
  · have b1 : decide (n ≤ 1) = false := by simpa using c1
    have hn0 : (n == 0) = false := by simp; omega
    by_cases c2 : k < bs.length
    · have b2 : decide (k < (((byL bs).length : Nat) : Int)) = true := by rw [hl]; simpa using c2
      obtain ⟨j, rfl⟩ := Int.eq_ofNat_of_zero_le hk
      have hj : j < bs.length := by omega
      have hrow : (byL bs)[((j : Int)).toNat]? = some [.v (.int .u8 bs[j])] := by simp [byL, hj]
      have hbd := hb bs[j] (List.getElem_mem hj)
      have w1 : IntKind.i64.wrap bs[j] = bs[j] := IntWalk.i64_in _ (by omega)
      have w3 : (bs[j]).tmod n = bs[j] % n := Int.tmod_eq_emod_of_nonneg (by omega)
      have w4 := Int.emod_lt_of_pos bs[j] (b := n) (by omega)
      have w5 := Int.emod_nonneg bs[j] (b := n) (by omega)
      have w6 : IntKind.i64.wrap (bs[j] % n) = bs[j] % n := IntWalk.i64_in _ (by omega)
      refine RO.ofv' Tryd.func13 Tryd.ntmps13 rfl (goFn_of Tryd.func13 rfl (by kernel_rfl)) rfl rfl ?_
      ((repeat' (first
    | (show SQ _ _ _ _ _ _ _ _; first | apply sq_nil | (apply q_move; exact rfl; exact rfl) | (apply q_assign; exact rfl; exact rfl) | (apply q_conv; exact rfl; exact rfl; exact (ty rfl); exact rfl; exact (ty rfl)) | (apply q_lend; exact rfl; exact rfl; exact (ty rfl); exact rfl) | (apply q_rem; exact rfl; exact rfl; exact rfl; exact (by first | decide | omega)) | (apply q_lss; exact rfl; exact rfl; exact rfl) | (apply q_leq; exact rfl; exact rfl; exact rfl) | (apply q_ixd; exact rfl; exact rfl; exact rfl; exact (ty rfl); exact rfl; exact (by first | omega | (simp; done) | (simp; omega)); exact (by first | omega | (simp; done) | (simp; omega)); exact (by first | rfl | assumption)) | (apply q_ld1d; exact rfl; exact rfl; exact (ty rfl); exact rfl; exact rfl))
    | (show AW _ _ _ _ _ _ _ _; first | refine aw_region ?_ | (refine aw_seqk ?_; intro K hK) | (apply aw_cond_t; exact rfl; exact (by assumption)) | (apply aw_cond_f; exact rfl; exact (by assumption)) | refine aw_ret ?_ | refine aw_skip ?_)
    | refine thn_n ?_
    | (refine hK _ _ _ ?_; clear hK K)
    | refine thn_r ?_)); all_goals (repeat (clear hK K)))
      all_goals refine fin_r (fin_i rfl ?_)
      rw [bt8, if_neg c1, if_pos c2]
      simp only [w1, w3, w6, Int.toNat_natCast]
      simp [hj]
    · have b2 : decide (k < (((byL bs).length : Nat) : Int)) = false := by rw [hl]; simpa using c2
      have w1 : IntKind.i64.wrap (k * 37) = k * 37 := IntWalk.i64_in _ (by omega)
      have w2 : IntKind.i64.wrap (k * 37 + 11) = k * 37 + 11 := IntWalk.i64_in _ (by omega)
      have w3 : (k * 37 + 11).tmod n = (k * 37 + 11) % n := Int.tmod_eq_emod_of_nonneg (by omega)
      have w4 := Int.emod_lt_of_pos (k * 37 + 11) (b := n) (by omega)
      have w5 := Int.emod_nonneg (k * 37 + 11) (b := n) (by omega)
      have w6 : IntKind.i64.wrap ((k * 37 + 11) % n) = (k * 37 + 11) % n := IntWalk.i64_in _ (by omega)
      refine RO.ofv' Tryd.func13 Tryd.ntmps13 rfl (goFn_of Tryd.func13 rfl (by kernel_rfl)) rfl rfl ?_
      ((repeat' (first
    | (show SQ _ _ _ _ _ _ _ _; first | apply sq_nil | (apply q_move; exact rfl; exact rfl) | (apply q_assign; exact rfl; exact rfl) | (apply q_lend; exact rfl; exact rfl; exact (ty rfl); exact rfl) | (apply q_add; exact rfl; exact rfl; exact rfl) | (apply q_mul; exact rfl; exact rfl; exact rfl) | (apply q_rem; exact rfl; exact rfl; exact rfl; exact (by first | decide | omega)) | (apply q_lss; exact rfl; exact rfl; exact rfl) | (apply q_leq; exact rfl; exact rfl; exact rfl))
    | (show AW _ _ _ _ _ _ _ _; first | refine aw_region ?_ | (refine aw_seqk ?_; intro K hK) | (apply aw_cond_f; exact rfl; exact (by assumption)) | refine aw_ret ?_ | refine aw_skip ?_)
    | refine thn_n ?_
    | (refine hK _ _ _ ?_; clear hK K))); all_goals (repeat (clear hK K)))
      all_goals refine fin_r (fin_i rfl ?_)
      rw [bt8, if_neg c1, if_neg c2]
      simp only [w1, w2, w3, w6]
end Go.Proofs.YtmnklmaefoidbaaDoor.Ba

namespace Go.Proofs.YtmnklmaefoidbaaDoor.Bd
open Go Go.RowKit Go.Proofs.YtmnklmaefoidbaaDoor.Aw Go.Proofs.YtmnklmaefoidbaaDoor.Dc
set_option linter.unusedSimpArgs false
set_option linter.unusedVariables false
attribute [local irreducible] AW SQ Step RO RC DE Thn InB
section
variable {P : Program} {f : FuncId} {args : List AV}
theorem RO.plainT {vs : List Value} (n : Nat) (hg : goFn P f = true)
    (h : ∀ (K : Nat → Prop) (w : World) (xs : List Value), Gl w → (∀ k, K k → k < w.heap.size) → VRs K w args xs → Calls P f xs.toArray w fun e w' => e = .returned (.tuple vs.toArray) ∧ Below w.heap.size w w') :
    RO P f args n (.tup (vs.map .v)) [] n := by
  unfold RO
  refine ⟨hg, Nat.le_refl _, fun i b h => by simp [look_nil] at h, fun K w xs hgl hk hv => (h K w xs hgl hk hv).mono fun e w' ⟨he, hb⟩ =>
    ⟨_, fun _ => ⟨0, 0, 0, false⟩, he, hb, .tup _ _ vs (by simp) fun j cv x h1 h2 => ?_, fun i h1 h2 => absurd h2 (by omega), fun i b h => by simp [look_nil] at h, fun i b h => by simp [look_nil] at h, fun i j bi bj h => by simp [look_nil] at h, fun i b h => by simp [look_nil] at h⟩⟩
  rw [List.getElem?_map, h2] at h1
  cases h1
  exact .v _ _
end
theorem look_one {k i : Nat} {b b' : Blk} (h : Aw.look ([(k, b')] : Hp) i = some b) : i = k ∧ b = b' := by
  by_cases e : k = i
  · subst e
    rw [Aw.look, Nat.beq_refl] at h
    exact ⟨rfl, (Option.some.inj h).symm⟩
  · have e2 : Nat.beq k i = false := by
      cases hb : Nat.beq k i with
      | false => rfl
      | true => exact absurd (Nat.eq_of_beq_eq_true hb) e
    rw [Aw.look, e2] at h
    cases h
set_option maxHeartbeats 4000000 in
theorem Split_ro (s sep : ByteArray) (ws : List ByteArray) (hs : s.size < 4294967281) (h1 : 1 ≤ sep.size) (hw : Lib.splitB sep 0 (Lib.countB s sep) s = ws) (hl : Lib.countB s sep + 1 = ws.length) (hm : ws.length ≤ maxLen) (k : Nat) :
    RO Tryd.prog 26 [.v (.string s), .v (.string sep)] k (.sl k 0 ws.length) [(k, ⟨9, 1, true, ws.map stL⟩)] (k + 1) := by
  unfold RO
  refine ⟨goFn_of Tryd.func26 rfl (by kernel_rfl), Nat.le_succ _, fun i b h => ?_, fun K w xs hgl hk hv => ?_⟩
  · obtain ⟨rfl, _⟩ := look_one h
    omega
  obtain ⟨hl2, hv⟩ := hv
  match xs, hl2 with
  | [x, y], _ =>
    have e0 := hv 0 _ x rfl rfl
    have e1 := hv 1 _ y rfl rfl
    cases e0; cases e1
    obtain ⟨m, hm0⟩ := hgl.2.2
    refine (Tryd.strings_Split s sep m w hs hm0 h1).mono fun e w' ⟨he, hw'⟩ => ⟨_, fun _ => ⟨w.heap.size, ws.length, 1, false⟩, he, ?_⟩
    rw [hw] at hw'
    rw [hl]
    have hh : w'.heap = w.heap.push (.cells (ws.map Value.string).toArray 9) := by rw [hw']; rfl
    refine ⟨⟨by rw [hw']; rfl, by rw [hw']; rfl, by rw [hw']; rfl, by rw [hh, Array.size_push]; omega, fun j hj => by rw [hh, Array.getElem?_push_lt hj, Array.getElem?_eq_getElem hj]⟩, .sl _ k 0 _ 0 _ ⟨Nat.le_refl _, Nat.lt_succ_self _⟩ rfl rfl rfl, fun i _ _ _ => Nat.le_refl _, fun i b h => ?_, fun i b h => ?_, fun i j bi bj h1 h2 h3 => ?_, fun i b _ h => by cases h⟩
    · obtain ⟨rfl, _⟩ := look_one h
      omega
    · obtain ⟨rfl, rfl⟩ := look_one h
      refine .inr ⟨rfl, fun h => h, rfl, by simp, hm, fun _ r row hr j cv hc => ?_, (ws.map Value.string).toArray, by rw [hh]; simp, by simp, fun r row hr => ?_⟩
      · obtain ⟨q, _, rfl⟩ := List.mem_map.1 (List.mem_of_getElem? hr)
        unfold stL at hc
        cases j with
        | zero => simp at hc; subst hc; rfl
        | succ j => simp at hc
      · rw [List.getElem?_map] at hr
        cases hq : ws[r]? with
        | none => rw [hq] at hr; simp at hr
        | some q =>
          rw [hq] at hr
          simp only [Option.map_some, Option.some.injEq] at hr
          subst hr
          refine ⟨rfl, fun j cv hc => ?_⟩
          unfold stL at hc
          cases j with
          | zero =>
            simp only [List.getElem?_cons_zero, Option.some.injEq] at hc
            subst hc
            refine ⟨.string q, ?_, rfl, .v _ _⟩
            simp [hq]
          | succ j => simp at hc
    · obtain ⟨rfl, _⟩ := look_one h1
      obtain ⟨rfl, _⟩ := look_one h2
      exact absurd rfl h3
set_option maxHeartbeats 4000000 in
theorem ParseInt_ro (s : ByteArray) (hm : s.size ≤ 1000) (v : Int) (h : Lib.parseIntB 64 s.data.toList = .ok v) (k : Nat) :
    RO Tryd.prog 42 [.v (.string s), .v (.int .i64 10), .v (.int .i64 64)] k (.tup [.v (.int .i64 v), .v .nilIface]) [] k := by
  refine RO.plainT (vs := [.int .i64 v, .nilIface]) k (goFn_of Tryd.func42 rfl (by kernel_rfl)) fun K w xs hgl hk hv => ?_
  obtain ⟨hl, hv⟩ := hv
  match xs, hl with
  | [x, y, z], _ =>
    have e0 := hv 0 _ x rfl rfl
    have e1 := hv 1 _ y rfl rfl
    have e2 := hv 2 _ z rfl rfl
    cases e0; cases e1; cases e2
    refine (Tryd.strconv_ParseInt_10_at64_ok s (by omega) v h w).mono fun e w' ⟨h1, h2⟩ => ⟨h1, ?_⟩
    rcases h2 with rfl | ⟨t, rfl⟩
    · exact Below.refl _ _
    · exact Lib.bytesWorld_below _ _ _
set_option maxHeartbeats 4000000 in
theorem TrimPrefix_ro (s p : ByteArray) (k : Nat) : RO Tryd.prog 43 [.v (.string s), .v (.string p)] k (.v (.string (bsA (Lib.trimPrefix s.data.toList p.data.toList)))) [] k := by
  refine RO.plainG k (goFn_of Tryd.func43 rfl (by kernel_rfl)) fun K w xs hgl hk hv => ?_
  obtain ⟨hl, hv⟩ := hv
  match xs, hl with
  | [x, y], _ =>
    have e0 := hv 0 _ x rfl rfl
    have e1 := hv 1 _ y rfl rfl
    cases e0; cases e1
    exact (Tryd.strings_TrimPrefix s p w).mono fun e w' ⟨h1, h2⟩ => by subst h2; exact ⟨h1, Below.refl _ _⟩
section
variable {P : Program} {N n : Nat} {all : Array Oper} {l : List Oper} {G : Tp → Hp → Nat → Prop} {T : Tp} {H : Hp} {d : Nat} {ty : TypeId} {pos : String} {after : Array Edge}
theorem q_neIf {x : Operand} {t u : TypeId} (hd : Nat.blt d N = true) (hx : evalA T x = some (.v .nilIface)) (ht : P.underlying t = some (.interface (P.methodsAt t)))
    (h : SQ P N all l G ((d, .v (.bool false)) :: T) H n) : SQ P N all (⟨some d, .binOp .neq t x (.const .nilIface) u, ty, pos, after, none⟩ :: l) G T H n :=
  sq_step rfl hd (s_two (y := .const .nilIface) rfl hx rfl fun w => by
    have e : (eqGuard .neq t x (.const .nilIface) .nilIface .nilIface).run P w = .ok () w := by cases x <;> rfl
    simp only [Sem.run_bind, Result.andThen, e]
    exact run_neq_nil_nil w t ht) h
end
set_option maxRecDepth 100000 in
theorem ifErr : Tryd.prog.underlying 72 = some (.interface (Tryd.prog.methodsAt 72)) := by kernel_rfl
set_option maxHeartbeats 4000000 in
theorem ReadDecimal_ro (n : Int) (h0 : 0 ≤ n) (h1 : n ≤ 100000000) (k : Nat) : RO Tryd.prog 27 [.v (.string (bsA (Lib.itoa n)))] k (.tup [.v (.int .i64 n), .v (.bool true)]) [] k := by
  have hP := ParseInt_ro (bsA (Lib.itoa n)) (by rw [bsA_size]; have := itoa_size n h0 h1; omega) n (itoa_parse n h0 h1)
  have hT := TrimPrefix_ro (bsA (Lib.itoa n)) ⟨#[45]⟩
  have hD := Decimal_ro n (by omega) (by omega)
  have hz : ((bsA (Lib.trimPrefix (bsA (Lib.itoa n)).data.toList (⟨#[45]⟩ : ByteArray).data.toList)).size : Nat) ≤ 9 := by rw [bsA_size]; exact itoa_trim n h0 h1
  generalize bsA (Lib.trimPrefix (bsA (Lib.itoa n)).data.toList (⟨#[45]⟩ : ByteArray).data.toList) = J at *
  have c1 : decide ((18 : Int) < ((J.size : Nat) : Int)) = false := by simp; omega
  generalize bsA (Lib.itoa n) = S at *
  have c2 : (!eqS S S) = false := by simp [eqS]
  refine RO.ofp Tryd.func27 Tryd.ntmps27 rfl (goFn_of Tryd.func27 rfl (by kernel_rfl)) rfl rfl rfl ?_
  ((repeat' (first
    | (show SQ _ _ _ _ _ _ _ _; first | apply sq_nil | (apply q_move; exact rfl; exact rfl) | (apply q_assign; exact rfl; exact rfl) | (apply q_pick_f; exact rfl; exact rfl; exact rfl; exact (by first | assumption | exact rfl)) | (apply q_ext; exact rfl; exact rfl; exact rfl) | (apply q_lens; exact rfl; exact rfl; exact (ty rfl); exact rfl) | (apply q_gtr; exact rfl; exact rfl; exact rfl) | (apply q_sneq; exact rfl; exact rfl; exact rfl) | (apply q_g; exact rfl; exact rfl; exact rfl; exact (by assumption)) | (apply q_g; exact rfl; exact rfl; exact rfl; exact rfl))
    | (show SQ _ _ _ _ _ _ _ _; (first | (apply q_callU; exact rfl; exact rfl; exact rfl; exact FzL.of rfl; exact hP _) | (apply q_callU; exact rfl; exact rfl; exact rfl; exact FzL.of rfl; exact hT _) | (apply q_callU; exact rfl; exact rfl; exact rfl; exact FzL.of rfl; exact hD _)); (try simp only [put, rowsOf, plR, List.all_cons, selE, ovr, setH, del, cellsA, splice, isV, List.nil_append, List.cons_append, List.map_cons, List.map_nil, List.length_cons, List.length_nil, List.set_cons_zero, List.set_cons_succ, List.take_succ_cons, List.take_zero, List.take_nil, List.drop_succ_cons, List.drop_zero, List.drop_nil, List.append_nil, List.all_cons, List.all_nil, Bool.and_true, Bool.true_and, Bool.and_false, Bool.false_and, Nat.reduceAdd, Nat.zero_add, Nat.add_zero, Nat.reduceEqDiff, if_true, if_false, reduceIte]))
    | (show AW _ _ _ _ _ _ _ _; first | refine aw_region ?_ | (refine aw_seqk ?_; intro K hK) | (apply aw_cond_f; exact rfl; exact (by assumption)) | refine aw_ret ?_ | refine aw_skip ?_)
    | refine thn_n ?_
    | (refine hK _ _ _ ?_; clear hK K)
    | (show SQ _ _ _ _ _ _ _ _; apply q_neIf; exact rfl; exact rfl; exact ifErr))); all_goals (repeat (clear hK K)))
  all_goals (refine fin_r (fin_p (.r2 _ _ _ _ (.tmp _ _ rfl) (.tmp _ _ rfl)) ?_ rfl rfl rfl); rfl)
end Go.Proofs.YtmnklmaefoidbaaDoor.Bd

namespace Go.Proofs.YtmnklmaefoidbaaDoor.Bd
open Go Go.RowKit Go.Proofs.YtmnklmaefoidbaaDoor.Aw Go.Proofs.YtmnklmaefoidbaaDoor.Dc Go.Proofs.YtmnklmaefoidbaaDoor.Ba Go.Proofs.YtmnklmaefoidbaaDoor.In Go.Proofs.YtmnklmaefoidbaaDoor.Sr
set_option linter.unusedSimpArgs false
set_option linter.unusedVariables false
attribute [local irreducible] AW SQ Step RO RC DE Thn InB
theorem fill_stepS {cs : List AV} {i : Nat} {x : ByteArray} {rest : List (Nat × AV)} (hi : i < cs.length) : fillA (fun i => some (i * 1, 1)) cs ((i, .v (.string x)) :: rest) = fillA (fun i => some (i * 1, 1)) (cs.set i (.v (.string x))) rest := by
  rw [fillA]
  have e : (Nat.beq (cellsA (.v (.string x))).length 1 && Nat.ble (i * 1 + 1) cs.length) = true := by
    simp only [cellsA, List.length_cons, List.length_nil, Nat.mul_one, Bool.and_eq_true]
    exact ⟨rfl, Nat.ble_eq_true_of_le (by omega)⟩
  dsimp only
  rw [e]
  dsimp only
  congr 1
  rw [List.set_eq_take_append_cons_drop, if_pos hi, Nat.mul_one]
  simp [splice, cellsA]
theorem fill5 (x0 x1 x2 x3 x4 : ByteArray) : fillA (fun i => some (i * 1, 1)) (zeros 1 [.string ByteArray.empty] 5) [(0, .v (.string x0)), (1, .v (.string x1)), (2, .v (.string x2)), (3, .v (.string x3)), (4, .v (.string x4))] = some [.v (.string x0), .v (.string x1), .v (.string x2), .v (.string x3), .v (.string x4)] := by
  have z : zeros 1 [.string ByteArray.empty] 5 = List.replicate 5 (.v (.string ByteArray.empty)) := rfl
  rw [z]
  simp only [List.replicate]
  iterate 5 (rw [fill_stepS (by simp)]; simp only [List.set_cons_zero, List.set_cons_succ])
  rfl
section
variable {P : Program} {N n : Nat} {all : Array Oper} {l : List Oper} {G : Tp → Hp → Nat → Prop} {T : Tp} {H : Hp} {bs ks : List Nat} {i : Nat} {eff : List (Nat × List (Nat × Option Blk))} {d : Nat} {ty : TypeId} {pos : String} {after : Array Edge}
theorem e_build5 {t e : TypeId} {ti : TI} {eb : Nat} {parts : Array (Nat × Operand)} {x0 x1 x2 x3 x4 : ByteArray} (hd : Nat.blt d N = true) (hty : tiOf P t = some ti) (hk0 : ti.k = .slice e 1 eb [.string ByteArray.empty]) (hm : evalP T parts.toList = some [(0, .v (.string x0)), (1, .v (.string x1)), (2, .v (.string x2)), (3, .v (.string x3)), (4, .v (.string x4))]) (hk : ks.getD i 0 = 1)
    (h : DE P N all bs ks H G (i + 1) ((i, [(n, some ⟨e, 1, true, [[.v (.string x0)], [.v (.string x1)], [.v (.string x2)], [.v (.string x3)], [.v (.string x4)]]⟩)]) :: eff) l ((d, .sl n 0 5) :: T) (n + 1)) : DE P N all bs ks H G i eff (⟨some d, .buildSlice t 5 parts, ty, pos, after, none⟩ :: l) T n :=
  e_buildn hd hty hk0 rfl rfl rfl hm (fill5 _ _ _ _ _) rfl hk h
end
def bandW (b : Band) : List ByteArray := [b.nm, bsA (Lib.itoa b.lo), bsA (Lib.itoa b.hi), bsA (Lib.itoa b.ra), bsA (Lib.itoa b.du)]
theorem okB_in {b : Band} (h : okB b = true) : Nm.nameB b.nm = true ∧ (0 ≤ b.lo ∧ b.lo ≤ 100000000) ∧ (0 ≤ b.hi ∧ b.hi ≤ 100000000) ∧ (0 ≤ b.ra ∧ b.ra ≤ 100000000) ∧ (0 ≤ b.du ∧ b.du ≤ 100000000) := by
  unfold okB inB at h
  simp only [Bool.and_eq_true, Bool.or_eq_true, decide_eq_true_eq] at h
  obtain ⟨⟨⟨⟨⟨⟨h1, h2⟩, h3⟩, h4⟩, h5⟩, h6⟩, h7⟩ := h
  exact ⟨h1, by omega, by omega, by omega, by omega⟩
theorem nm_32 {s : ByteArray} (h : Nm.nameB s = true) : (32 : UInt8) ∉ s.data.toList ∧ s.size ≤ 10 := by
  unfold Nm.nameB at h
  simp only [Bool.and_eq_true, decide_eq_true_eq] at h
  obtain ⟨⟨h1, _⟩, h3⟩ := h
  refine ⟨fun hm => ?_, h1.2⟩
  obtain ⟨i, hi, he⟩ := List.getElem_of_mem hm
  have hz : i < s.size := by rw [Lib.size_eq]; exact hi
  have := (Nm.allC_iff s).1 h3 i hz
  unfold Nm.okC Nm.smB Nm.dgB Nm.chr at this
  have e : s.data.toList.getD i 0 = 32 := by rw [List.getD_eq_getElem?_getD, List.getElem?_eq_getElem hi, he]; rfl
  rw [e] at this
  revert this
  decide
theorem bandW_32 {b : Band} (h : okB b = true) : ∀ p ∈ bandW b, (32 : UInt8) ∉ p.data.toList := by
  obtain ⟨h1, h2, h3, h4, h5⟩ := okB_in h
  intro p hp
  simp only [bandW, List.mem_cons, List.mem_nil_iff, or_false] at hp
  rcases hp with rfl | rfl | rfl | rfl | rfl
  · exact (nm_32 h1).1
  · exact itoa_32 _ h2.1
  · exact itoa_32 _ h3.1
  · exact itoa_32 _ h4.1
  · exact itoa_32 _ h5.1
theorem band_size {b : Band} (h : okB b = true) : (Lib.join ((bandW b).map (·.data.toList)) [32]).length ≤ 100 := by
  obtain ⟨h1, h2, h3, h4, h5⟩ := okB_in h
  have a1 := (nm_32 h1).2
  rw [Lib.size_eq] at a1
  have a2 := itoa_size _ h2.1 h2.2
  have a3 := itoa_size _ h3.1 h3.2
  have a4 := itoa_size _ h4.1 h4.2
  have a5 := itoa_size _ h5.1 h5.2
  simp only [bandW, List.map_cons, List.map_nil, Lib.join_cons, Lib.joinTail, bsA]
  simp only [List.length_append, List.flatten_cons, List.flatten_nil, List.length_nil, List.length_cons]
  omega
set_option maxHeartbeats 4000000 in
theorem BandText_ro (b : Band) (hs : b.sm) (h : okB b = true) (k : Nat) : RO Tryd.prog 11 [.agg (baL b)] k (.v (.string (wtx (bandW b)))) [] k := by
  have hV := ValidBand_ro b hs
  rw [h] at hV
  obtain ⟨h1, h2, h3, h4, h5⟩ := okB_in h
  have d2 := Decimal_ro b.lo (by omega) (by omega)
  have d3 := Decimal_ro b.hi (by omega) (by omega)
  have d4 := Decimal_ro b.ra (by omega) (by omega)
  have d5 := Decimal_ro b.du (by omega) (by omega)
  have hJ : ∀ k, RO Tryd.prog 28 [.dsl 1 [[.v (.string b.nm)], [.v (.string (bsA (Lib.itoa b.lo)))], [.v (.string (bsA (Lib.itoa b.hi)))], [.v (.string (bsA (Lib.itoa b.ra)))], [.v (.string (bsA (Lib.itoa b.du)))]], .v (.string ⟨#[32]⟩)] k (.v (.string (wtx (bandW b)))) [] k :=
    Join_ro (bandW b) ⟨#[32]⟩ (by simp [bandW]) (Nat.le_trans (band_size h) (by omega))
  generalize wtx (bandW b) = J at *
  generalize bsA (Lib.itoa b.lo) = s2 at *
  generalize bsA (Lib.itoa b.hi) = s3 at *
  generalize bsA (Lib.itoa b.ra) = s4 at *
  generalize bsA (Lib.itoa b.du) = s5 at *
  unfold baL at hV ⊢
  refine RO.ofv' Tryd.func11 Tryd.ntmps11 rfl (goFn_of Tryd.func11 rfl (by kernel_rfl)) rfl rfl ?_
  ((repeat' (first
    | (show SQ _ _ _ _ _ _ _ _; first | apply sq_nil | (apply q_assign; exact rfl; exact rfl) | (apply q_not; exact rfl; exact rfl))
    | (show SQ _ _ _ _ _ _ _ _; (first | (apply q_ldap; exact rfl; exact rfl; exact (ty rfl); exact rfl; exact rfl; exact (by first | rfl | assumption | ((try simp only [Nat.zero_add]); refine List.getElem?_set_self ?_; (try simp only [List.length_set]); assumption)); exact rfl) | (apply q_box; exact rfl; exact rfl; exact rfl) | (apply q_callU; exact rfl; exact rfl; exact rfl; exact FzL.of rfl; exact hV _)); (try simp only [put, rowsOf, plR, List.all_cons, selE, ovr, setH, del, cellsA, splice, isV, List.nil_append, List.cons_append, List.map_cons, List.map_nil, List.length_cons, List.length_nil, List.set_cons_zero, List.set_cons_succ, List.take_succ_cons, List.take_zero, List.take_nil, List.drop_succ_cons, List.drop_zero, List.drop_nil, List.append_nil, List.all_cons, List.all_nil, Bool.and_true, Bool.true_and, Bool.and_false, Bool.false_and, Nat.reduceAdd, Nat.zero_add, Nat.add_zero, Nat.reduceEqDiff, if_true, if_false, reduceIte]))
    | (show DE _ _ _ _ _ _ _ _ _ _ _ _; first | (apply e_assign; exact rfl; exact rfl; exact rfl) | (apply e_fieldAddr; exact rfl; exact rfl; exact (ty rfl); exact rfl; exact rfl; exact rfl; exact rfl; exact rfl) | (apply e_ld1p; exact rfl; exact rfl; exact (ty rfl); exact rfl; exact rfl; exact (by first | rfl | assumption | ((try simp only [Nat.zero_add]); refine List.getElem?_set_self ?_; (try simp only [List.length_set]); assumption)); exact rfl; exact rfl))
    | (show DE _ _ _ _ _ _ _ _ _ _ _ _; (first | (apply dr_nil; exact trivial) | (apply e_callU; exact rfl; exact rfl; exact rfl; exact FzL.of rfl; exact d2 _; exact rfl) | (apply e_callU; exact rfl; exact rfl; exact rfl; exact FzL.of rfl; exact d3 _; exact rfl) | (apply e_callU; exact rfl; exact rfl; exact rfl; exact FzL.of rfl; exact d4 _; exact rfl) | (apply e_callU; exact rfl; exact rfl; exact rfl; exact FzL.of rfl; exact d5 _; exact rfl) | (apply e_callU; exact rfl; exact rfl; exact rfl; exact FzL.of rfl; exact hJ _; exact rfl)); (try simp only [put, rowsOf, plR, List.all_cons, selE, ovr, setH, del, cellsA, splice, isV, List.nil_append, List.cons_append, List.map_cons, List.map_nil, List.length_cons, List.length_nil, List.set_cons_zero, List.set_cons_succ, List.take_succ_cons, List.take_zero, List.take_nil, List.drop_succ_cons, List.drop_zero, List.drop_nil, List.append_nil, List.all_cons, List.all_nil, Bool.and_true, Bool.true_and, Bool.and_false, Bool.false_and, Nat.reduceAdd, Nat.zero_add, Nat.add_zero, Nat.reduceEqDiff, if_true, if_false, reduceIte]))
    | (show AW _ _ _ _ _ _ _ _; first | refine aw_region ?_ | (refine aw_seqk ?_; intro K hK) | (apply aw_cond_f; exact rfl; exact rfl) | refine aw_ret ?_ | refine aw_skip ?_ | refine aw_drawE (id := 3) [0, 1, 0, 4, 12, 0, 32, 124, 0, 256, 1020, 0, 2048, 8188, 16383, 32767, 65535] [0, 1, 0, 1, 1, 0, 1, 1, 0, 1, 1, 0, 1, 1, 1, 1, 0] mixed (by kernel_rfl) ?_)
    | refine thn_n ?_
    | (refine hK _ _ _ ?_; clear hK K)
    | (show DE _ _ _ _ _ _ _ _ _ _ _ _; apply e_build5; exact rfl; exact (ty rfl); exact rfl; exact rfl; exact rfl))); all_goals (repeat (clear hK K)))
  all_goals exact fin_r (fin_s rfl rfl)
def bdV (s : ByteArray) (a b c d : Int) : List Value := [Value.string s, Value.int .i64 a, Value.int .i64 b, Value.int .i64 c, Value.int .i64 d]
theorem bandEq_run (s : ByteArray) (a b c d : Int) (w : World) : (Op.equalIn 10000 25 (.agg (bdV s a b c d).toArray) (.agg (bdV s a b c d).toArray)).run Tryd.prog w = .ok true w := by
  have u3 := Tryd.underlying2
  have u9 := Tryd.underlying9
  have hS : Tryd.prog.underlying 25 = some (.struct (Tryd.prog.fieldsOf 25)) := by kernel_rfl
  have hp : Tryd.prog.stoodInHeld 25 = false := by kernel_rfl
  have hc : Tryd.prog.cellsOf 2 = 1 := by kernel_rfl
  have hc9 : Tryd.prog.cellsOf 9 = 1 := by kernel_rfl
  rw [show (10000 : Nat) = 9999 + 1 from rfl, run_equalIn_agg w 9999 25 _ _ hS hp]
  simp only [Program.fieldsOf, Tryd.underlying25, bdV]
  go_simp
  try simp
section
variable {N n : Nat} {all : Array Oper} {l : List Oper} {G : Tp → Hp → Nat → Prop} {T : Tp} {H : Hp} {ty : TypeId} {pos : String} {after : Array Edge} {d : Nat}
theorem q_bandEq {x y : Operand} {u : TypeId} {s : ByteArray} {a b c e : Int} (hd : Nat.blt d N = true) (hx : evalA T x = some (.agg ((bdV s a b c e).map .v))) (hy : evalA T y = some (.agg ((bdV s a b c e).map .v)))
    (h : SQ Tryd.prog N all l G ((d, .v (.bool true)) :: T) H n) : SQ Tryd.prog N all (⟨some d, .binOp .eql 25 x y u, ty, pos, after, none⟩ :: l) G T H n :=
  sq_step rfl hd (s_eqA false rfl hx hy (by kernel_rfl) (bandEq_run s a b c e) rfl rfl) h
end
set_option maxHeartbeats 4000000 in
theorem SameBand_ro (b : Band) (hs : b.sm) (k : Nat) : RO Tryd.prog 12 [.agg (baL b), .agg (baL b)] k (.v (.bool true)) [] k := by
  unfold baL
  refine RO.ofv' Tryd.func12 Tryd.ntmps12 rfl (goFn_of Tryd.func12 rfl (by kernel_rfl)) rfl rfl ?_
  ((repeat' (first
    | (show SQ _ _ _ _ _ _ _ _; first | apply sq_nil | (apply q_assign; exact rfl; exact rfl))
    | (show SQ _ _ _ _ _ _ _ _; (first | (apply q_ldap; exact rfl; exact rfl; exact (ty rfl); exact rfl; exact rfl; exact (by first | rfl | assumption | ((try simp only [Nat.zero_add]); refine List.getElem?_set_self ?_; (try simp only [List.length_set]); assumption)); exact rfl) | (apply q_box; exact rfl; exact rfl; exact rfl)); (try simp only [put, rowsOf, plR, List.all_cons, selE, ovr, setH, del, cellsA, splice, isV, List.nil_append, List.cons_append, List.map_cons, List.map_nil, List.length_cons, List.length_nil, List.set_cons_zero, List.set_cons_succ, List.take_succ_cons, List.take_zero, List.take_nil, List.drop_succ_cons, List.drop_zero, List.drop_nil, List.append_nil, List.all_cons, List.all_nil, Bool.and_true, Bool.true_and, Bool.and_false, Bool.false_and, Nat.reduceAdd, Nat.zero_add, Nat.add_zero, Nat.reduceEqDiff, if_true, if_false, reduceIte]))
    | (show AW _ _ _ _ _ _ _ _; first | refine aw_region ?_ | (refine aw_seqk ?_; intro K hK) | refine aw_ret ?_)
    | refine thn_n ?_
    | (refine hK _ _ _ ?_; clear hK K)
    | (show SQ _ _ _ _ _ _ _ _; apply q_bandEq (s := b.nm) (a := b.lo) (b := b.hi) (c := b.ra) (e := b.du); exact rfl; exact rfl; exact rfl))); all_goals (repeat (clear hK K)))
  all_goals exact fin_r (fin_b rfl rfl)
end Go.Proofs.YtmnklmaefoidbaaDoor.Bd

namespace Go.Proofs.YtmnklmaefoidbaaDoor.Bd
open Go Go.RowKit Go.Proofs.YtmnklmaefoidbaaDoor.Aw Go.Proofs.YtmnklmaefoidbaaDoor.Dc Go.Proofs.YtmnklmaefoidbaaDoor.Ba Go.Proofs.YtmnklmaefoidbaaDoor.In Go.Proofs.YtmnklmaefoidbaaDoor.Sr
set_option linter.unusedSimpArgs false
set_option linter.unusedVariables false
attribute [local irreducible] AW SQ Step RO RC DE Thn InB
def arN (b : Band) : Nat → List AV
  | 0 => [.v (.int .i64 0), .v (.int .i64 0), .v (.int .i64 0), .v (.int .i64 0)]
  | 1 => [.v (.int .i64 b.lo), .v (.int .i64 0), .v (.int .i64 0), .v (.int .i64 0)]
  | 2 => [.v (.int .i64 b.lo), .v (.int .i64 b.hi), .v (.int .i64 0), .v (.int .i64 0)]
  | 3 => [.v (.int .i64 b.lo), .v (.int .i64 b.hi), .v (.int .i64 b.ra), .v (.int .i64 0)]
  | _ => [.v (.int .i64 b.lo), .v (.int .i64 b.hi), .v (.int .i64 b.ra), .v (.int .i64 b.du)]
set_option maxHeartbeats 4000000 in
theorem ReadBand_ro (b : Band) (hs : b.sm) (h : okB b = true) (k : Nat) : RO Tryd.prog 10 [.v (.string (wtx (bandW b)))] k (.tup [.agg (baL b), .v (.bool true)]) [] k := by
  have hV := ValidBand_ro b hs
  rw [h] at hV
  have hT := BandText_ro b hs h
  obtain ⟨h1, h2, h3, h4, h5⟩ := okB_in h
  have d2 := ReadDecimal_ro b.lo h2.1 h2.2
  have d3 := ReadDecimal_ro b.hi h3.1 h3.2
  have d4 := ReadDecimal_ro b.ra h4.1 h4.2
  have d5 := ReadDecimal_ro b.du h5.1 h5.2
  obtain ⟨q1, q2⟩ := split_wtx b.nm _ (bandW_32 h)
  have hS := Split_ro (wtx (bandW b)) blk1 (bandW b) (by have := band_size h; unfold wtx; rw [bsA_size]; omega) (by decide) q2 (by rw [show Lib.countB (wtx (bandW b)) blk1 = 4 from q1]; rfl) (by simp [bandW, maxLen])
  have hS : ∀ k, RO Tryd.prog 26 [.v (.string (wtx (bandW b))), .v (.string ⟨#[32]⟩)] k (.sl k 0 5) [(k, ⟨9, 1, true, [[.v (.string b.nm)], [.v (.string (bsA (Lib.itoa b.lo)))], [.v (.string (bsA (Lib.itoa b.hi)))], [.v (.string (bsA (Lib.itoa b.ra)))], [.v (.string (bsA (Lib.itoa b.du)))]]⟩)] (k + 1) := hS
  clear q1 q2
  generalize wtx (bandW b) = J at *
  have c2 : (!eqS J J) = false := by simp [eqS]
  generalize bsA (Lib.itoa b.lo) = s2 at *
  generalize bsA (Lib.itoa b.hi) = s3 at *
  generalize bsA (Lib.itoa b.ra) = s4 at *
  generalize bsA (Lib.itoa b.du) = s5 at *
  refine RO.ofp Tryd.func10 Tryd.ntmps10 rfl (goFn_of Tryd.func10 rfl (by kernel_rfl)) rfl rfl rfl ?_
  unfold baL at hV hT ⊢
  ((repeat' (first
    | (show SQ _ _ _ _ _ _ _ _; first | apply sq_nil | (apply q_move; exact rfl; exact rfl) | (apply q_assign; exact rfl; exact rfl) | (apply q_lenl; exact rfl; exact rfl; exact (ty rfl); exact rfl) | (apply q_neq; exact rfl; exact rfl; exact rfl) | (apply q_ssl_l; exact rfl; exact rfl; exact rfl; exact (ty rfl); exact rfl; exact rfl; exact (by first | omega | (simp; done) | (simp; omega)); exact (by first | omega | (simp; done) | (simp; omega)); exact (by first | omega | (simp; done) | (simp; omega))))
    | (show SQ _ _ _ _ _ _ _ _; (first | (apply q_alloc; exact rfl; exact (ty rfl); exact rfl; exact rfl) | (apply q_callU; exact rfl; exact rfl; exact rfl; exact FzL.of rfl; exact hS _)); (try simp only [put, rowsOf, plR, List.all_cons, selE, ovr, setH, del, cellsA, splice, isV, List.nil_append, List.cons_append, List.map_cons, List.map_nil, List.length_cons, List.length_nil, List.set_cons_zero, List.set_cons_succ, List.take_succ_cons, List.take_zero, List.take_nil, List.drop_succ_cons, List.drop_zero, List.drop_nil, List.append_nil, List.all_cons, List.all_nil, Bool.and_true, Bool.true_and, Bool.and_false, Bool.false_and, Nat.reduceAdd, Nat.zero_add, Nat.add_zero, Nat.reduceEqDiff, if_true, if_false, reduceIte]))
    | (show AW _ _ _ _ _ _ _ _; first | refine aw_region ?_ | (refine aw_seqk ?_; intro K hK) | refine aw_block ?_ | (apply aw_cond_f; exact rfl; exact rfl) | refine aw_skip ?_)
    | refine thn_n ?_
    | (refine hK _ _ _ ?_; clear hK K))); all_goals (repeat (clear hK K)))
  refine aw_loop (ρ := id) (ι := Nat) (fun i => ([(18, .v (.int .i64 i)), (17, .v (.int .i64 4)), (16, .sl 1 1 4), (5, .ptr 2 0 0), (4, .sl 1 0 5), (2, .ptr 0 0 0), (0, .v (.string J))], [(0, ⟨25, 5, false, [[.v (.string ByteArray.empty), .v (.int .i64 0), .v (.int .i64 0), .v (.int .i64 0), .v (.int .i64 0)]]⟩), (1, ⟨9, 1, true, [[.v (.string b.nm)], [.v (.string s2)], [.v (.string s3)], [.v (.string s4)], [.v (.string s5)]]⟩), (2, ⟨54, 4, false, [arN b i]⟩)], 3))
    (fun i => i ≤ 4) (fun i => 4 - i) 0 (Nat.zero_le _) ⟨by (repeat (refine ⟨by first | exact lk_i rfl rfl | exact lk_v rfl rfl | exact lk_r rfl rfl rfl | exact lk_s rfl rfl rfl rfl, ?_⟩)); exact trivial, by (repeat (refine ⟨by first | exact ⟨rfl, rfl, rfl⟩, ?_⟩)); exact trivial, by rfl, by exact pin_0⟩ ?_
  intro i hi
  have hc : i = 0 ∨ i = 1 ∨ i = 2 ∨ i = 3 ∨ i = 4 := by omega
  rcases hc with rfl | rfl | rfl | rfl | rfl
  · have hw : IntKind.i64.wrap (((0 : Nat) : Int) + 1) = ((1 : Nat) : Int) := by decide
    ((repeat' (first
    | (show SQ _ _ _ _ _ _ _ _; first | apply sq_nil | (apply q_move; exact rfl; exact rfl) | (apply q_assign; exact rfl; exact rfl) | (apply q_ext; exact rfl; exact rfl; exact rfl) | (apply q_add; exact rfl; exact rfl; exact rfl) | (apply q_lss; exact rfl; exact rfl; exact rfl) | (apply q_ixa; exact rfl; exact rfl; exact rfl; exact (ty rfl); exact rfl; exact (by first | omega | (simp; done) | (simp; omega)); exact (by first | omega | (simp; done) | (simp; omega)); exact rfl) | (apply q_ixl; exact rfl; exact rfl; exact rfl; exact (ty rfl); exact rfl; exact rfl; exact rfl; exact (by first | omega | (simp; done) | (simp; omega)); exact (by first | omega | (simp; done) | (simp; omega))) | (apply q_ld1p; exact rfl; exact rfl; exact (ty rfl); exact rfl; exact rfl; exact (by first | rfl | assumption | ((try simp only [Nat.zero_add]); refine List.getElem?_set_self ?_; (try simp only [List.length_set]); assumption)); exact rfl))
    | (show SQ _ _ _ _ _ _ _ _; (first | (apply q_store; exact rfl; exact rfl; exact (ty rfl); exact rfl; exact (by first | rfl | assumption | ((try simp only [Nat.zero_add]); refine List.getElem?_set_self ?_; (try simp only [List.length_set]); assumption)); exact rfl; exact rfl; exact rfl) | (apply q_callU; exact rfl; exact rfl; exact rfl; exact FzL.of rfl; exact d2 _)); (try simp only [put, rowsOf, plR, List.all_cons, selE, ovr, setH, del, cellsA, splice, isV, List.nil_append, List.cons_append, List.map_cons, List.map_nil, List.length_cons, List.length_nil, List.set_cons_zero, List.set_cons_succ, List.take_succ_cons, List.take_zero, List.take_nil, List.drop_succ_cons, List.drop_zero, List.drop_nil, List.append_nil, List.all_cons, List.all_nil, Bool.and_true, Bool.true_and, Bool.and_false, Bool.false_and, Nat.reduceAdd, Nat.zero_add, Nat.add_zero, Nat.reduceEqDiff, if_true, if_false, reduceIte]))
    | (show AW _ _ _ _ _ _ _ _; first | refine aw_region ?_ | (refine aw_seqk ?_; intro K hK) | refine aw_block ?_ | (apply aw_cond_t; exact rfl; exact rfl) | refine aw_skip ?_)
    | refine thn_n ?_
    | (refine hK _ _ _ ?_; clear hK K)
    | refine inb_n ?_)); all_goals (repeat (clear hK K)))
    refine ⟨1, id, by omega, by omega, ?_⟩
    (try dsimp only); rw [← hw]
    exact ⟨by (repeat (refine ⟨by first | exact lk_i rfl rfl | exact lk_v rfl rfl | exact lk_r rfl rfl rfl | exact lk_s rfl rfl rfl rfl, ?_⟩)); exact trivial, by (repeat (refine ⟨by first | exact ⟨rfl, rfl, rfl⟩, ?_⟩)); exact trivial, by rfl, by exact pin_0⟩
  · have hw : IntKind.i64.wrap (((1 : Nat) : Int) + 1) = ((2 : Nat) : Int) := by decide
    ((repeat' (first
    | (show SQ _ _ _ _ _ _ _ _; first | apply sq_nil | (apply q_move; exact rfl; exact rfl) | (apply q_assign; exact rfl; exact rfl) | (apply q_ext; exact rfl; exact rfl; exact rfl) | (apply q_add; exact rfl; exact rfl; exact rfl) | (apply q_lss; exact rfl; exact rfl; exact rfl) | (apply q_ixa; exact rfl; exact rfl; exact rfl; exact (ty rfl); exact rfl; exact (by first | omega | (simp; done) | (simp; omega)); exact (by first | omega | (simp; done) | (simp; omega)); exact rfl) | (apply q_ixl; exact rfl; exact rfl; exact rfl; exact (ty rfl); exact rfl; exact rfl; exact rfl; exact (by first | omega | (simp; done) | (simp; omega)); exact (by first | omega | (simp; done) | (simp; omega))) | (apply q_ld1p; exact rfl; exact rfl; exact (ty rfl); exact rfl; exact rfl; exact (by first | rfl | assumption | ((try simp only [Nat.zero_add]); refine List.getElem?_set_self ?_; (try simp only [List.length_set]); assumption)); exact rfl))
    | (show SQ _ _ _ _ _ _ _ _; (first | (apply q_store; exact rfl; exact rfl; exact (ty rfl); exact rfl; exact (by first | rfl | assumption | ((try simp only [Nat.zero_add]); refine List.getElem?_set_self ?_; (try simp only [List.length_set]); assumption)); exact rfl; exact rfl; exact rfl) | (apply q_callU; exact rfl; exact rfl; exact rfl; exact FzL.of rfl; exact d3 _)); (try simp only [put, rowsOf, plR, List.all_cons, selE, ovr, setH, del, cellsA, splice, isV, List.nil_append, List.cons_append, List.map_cons, List.map_nil, List.length_cons, List.length_nil, List.set_cons_zero, List.set_cons_succ, List.take_succ_cons, List.take_zero, List.take_nil, List.drop_succ_cons, List.drop_zero, List.drop_nil, List.append_nil, List.all_cons, List.all_nil, Bool.and_true, Bool.true_and, Bool.and_false, Bool.false_and, Nat.reduceAdd, Nat.zero_add, Nat.add_zero, Nat.reduceEqDiff, if_true, if_false, reduceIte]))
    | (show AW _ _ _ _ _ _ _ _; first | refine aw_region ?_ | (refine aw_seqk ?_; intro K hK) | refine aw_block ?_ | (apply aw_cond_t; exact rfl; exact rfl) | refine aw_skip ?_)
    | refine thn_n ?_
    | (refine hK _ _ _ ?_; clear hK K)
    | refine inb_n ?_)); all_goals (repeat (clear hK K)))
    refine ⟨2, id, by omega, by omega, ?_⟩
    (try dsimp only); rw [← hw]
    exact ⟨by (repeat (refine ⟨by first | exact lk_i rfl rfl | exact lk_v rfl rfl | exact lk_r rfl rfl rfl | exact lk_s rfl rfl rfl rfl, ?_⟩)); exact trivial, by (repeat (refine ⟨by first | exact ⟨rfl, rfl, rfl⟩, ?_⟩)); exact trivial, by rfl, by exact pin_0⟩
  · have hw : IntKind.i64.wrap (((2 : Nat) : Int) + 1) = ((3 : Nat) : Int) := by decide
    ((repeat' (first
    | (show SQ _ _ _ _ _ _ _ _; first | apply sq_nil | (apply q_move; exact rfl; exact rfl) | (apply q_assign; exact rfl; exact rfl) | (apply q_ext; exact rfl; exact rfl; exact rfl) | (apply q_add; exact rfl; exact rfl; exact rfl) | (apply q_lss; exact rfl; exact rfl; exact rfl) | (apply q_ixa; exact rfl; exact rfl; exact rfl; exact (ty rfl); exact rfl; exact (by first | omega | (simp; done) | (simp; omega)); exact (by first | omega | (simp; done) | (simp; omega)); exact rfl) | (apply q_ixl; exact rfl; exact rfl; exact rfl; exact (ty rfl); exact rfl; exact rfl; exact rfl; exact (by first | omega | (simp; done) | (simp; omega)); exact (by first | omega | (simp; done) | (simp; omega))) | (apply q_ld1p; exact rfl; exact rfl; exact (ty rfl); exact rfl; exact rfl; exact (by first | rfl | assumption | ((try simp only [Nat.zero_add]); refine List.getElem?_set_self ?_; (try simp only [List.length_set]); assumption)); exact rfl))
    | (show SQ _ _ _ _ _ _ _ _; (first | (apply q_store; exact rfl; exact rfl; exact (ty rfl); exact rfl; exact (by first | rfl | assumption | ((try simp only [Nat.zero_add]); refine List.getElem?_set_self ?_; (try simp only [List.length_set]); assumption)); exact rfl; exact rfl; exact rfl) | (apply q_callU; exact rfl; exact rfl; exact rfl; exact FzL.of rfl; exact d4 _)); (try simp only [put, rowsOf, plR, List.all_cons, selE, ovr, setH, del, cellsA, splice, isV, List.nil_append, List.cons_append, List.map_cons, List.map_nil, List.length_cons, List.length_nil, List.set_cons_zero, List.set_cons_succ, List.take_succ_cons, List.take_zero, List.take_nil, List.drop_succ_cons, List.drop_zero, List.drop_nil, List.append_nil, List.all_cons, List.all_nil, Bool.and_true, Bool.true_and, Bool.and_false, Bool.false_and, Nat.reduceAdd, Nat.zero_add, Nat.add_zero, Nat.reduceEqDiff, if_true, if_false, reduceIte]))
    | (show AW _ _ _ _ _ _ _ _; first | refine aw_region ?_ | (refine aw_seqk ?_; intro K hK) | refine aw_block ?_ | (apply aw_cond_t; exact rfl; exact rfl) | refine aw_skip ?_)
    | refine thn_n ?_
    | (refine hK _ _ _ ?_; clear hK K)
    | refine inb_n ?_)); all_goals (repeat (clear hK K)))
    refine ⟨3, id, by omega, by omega, ?_⟩
    (try dsimp only); rw [← hw]
    exact ⟨by (repeat (refine ⟨by first | exact lk_i rfl rfl | exact lk_v rfl rfl | exact lk_r rfl rfl rfl | exact lk_s rfl rfl rfl rfl, ?_⟩)); exact trivial, by (repeat (refine ⟨by first | exact ⟨rfl, rfl, rfl⟩, ?_⟩)); exact trivial, by rfl, by exact pin_0⟩
  · have hw : IntKind.i64.wrap (((3 : Nat) : Int) + 1) = ((4 : Nat) : Int) := by decide
    ((repeat' (first
    | (show SQ _ _ _ _ _ _ _ _; first | apply sq_nil | (apply q_move; exact rfl; exact rfl) | (apply q_assign; exact rfl; exact rfl) | (apply q_ext; exact rfl; exact rfl; exact rfl) | (apply q_add; exact rfl; exact rfl; exact rfl) | (apply q_lss; exact rfl; exact rfl; exact rfl) | (apply q_ixa; exact rfl; exact rfl; exact rfl; exact (ty rfl); exact rfl; exact (by first | omega | (simp; done) | (simp; omega)); exact (by first | omega | (simp; done) | (simp; omega)); exact rfl) | (apply q_ixl; exact rfl; exact rfl; exact rfl; exact (ty rfl); exact rfl; exact rfl; exact rfl; exact (by first | omega | (simp; done) | (simp; omega)); exact (by first | omega | (simp; done) | (simp; omega))) | (apply q_ld1p; exact rfl; exact rfl; exact (ty rfl); exact rfl; exact rfl; exact (by first | rfl | assumption | ((try simp only [Nat.zero_add]); refine List.getElem?_set_self ?_; (try simp only [List.length_set]); assumption)); exact rfl))
    | (show SQ _ _ _ _ _ _ _ _; (first | (apply q_store; exact rfl; exact rfl; exact (ty rfl); exact rfl; exact (by first | rfl | assumption | ((try simp only [Nat.zero_add]); refine List.getElem?_set_self ?_; (try simp only [List.length_set]); assumption)); exact rfl; exact rfl; exact rfl) | (apply q_callU; exact rfl; exact rfl; exact rfl; exact FzL.of rfl; exact d5 _)); (try simp only [put, rowsOf, plR, List.all_cons, selE, ovr, setH, del, cellsA, splice, isV, List.nil_append, List.cons_append, List.map_cons, List.map_nil, List.length_cons, List.length_nil, List.set_cons_zero, List.set_cons_succ, List.take_succ_cons, List.take_zero, List.take_nil, List.drop_succ_cons, List.drop_zero, List.drop_nil, List.append_nil, List.all_cons, List.all_nil, Bool.and_true, Bool.true_and, Bool.and_false, Bool.false_and, Nat.reduceAdd, Nat.zero_add, Nat.add_zero, Nat.reduceEqDiff, if_true, if_false, reduceIte]))
    | (show AW _ _ _ _ _ _ _ _; first | refine aw_region ?_ | (refine aw_seqk ?_; intro K hK) | refine aw_block ?_ | (apply aw_cond_t; exact rfl; exact rfl) | refine aw_skip ?_)
    | refine thn_n ?_
    | (refine hK _ _ _ ?_; clear hK K)
    | refine inb_n ?_)); all_goals (repeat (clear hK K)))
    refine ⟨4, id, by omega, by omega, ?_⟩
    (try dsimp only); rw [← hw]
    exact ⟨by (repeat (refine ⟨by first | exact lk_i rfl rfl | exact lk_v rfl rfl | exact lk_r rfl rfl rfl | exact lk_s rfl rfl rfl rfl, ?_⟩)); exact trivial, by (repeat (refine ⟨by first | exact ⟨rfl, rfl, rfl⟩, ?_⟩)); exact trivial, by rfl, by exact pin_0⟩
  ((repeat' (first
    | (show SQ _ _ _ _ _ _ _ _; first | apply sq_nil | (apply q_move; exact rfl; exact rfl) | (apply q_assign; exact rfl; exact rfl) | (apply q_pick_f; exact rfl; exact rfl; exact rfl; exact (by first | assumption | exact rfl)) | (apply q_not; exact rfl; exact rfl) | (apply q_lss; exact rfl; exact rfl; exact rfl) | (apply q_sneq; exact rfl; exact rfl; exact rfl) | (apply q_g; exact rfl; exact rfl; exact rfl; exact rfl))
    | (show SQ _ _ _ _ _ _ _ _; (first | (apply q_ldap; exact rfl; exact rfl; exact (ty rfl); exact rfl; exact rfl; exact (by first | rfl | assumption | ((try simp only [Nat.zero_add]); refine List.getElem?_set_self ?_; (try simp only [List.length_set]); assumption)); exact rfl) | (apply q_store; exact rfl; exact rfl; exact (ty rfl); exact rfl; exact (by first | rfl | assumption | ((try simp only [Nat.zero_add]); refine List.getElem?_set_self ?_; (try simp only [List.length_set]); assumption)); exact rfl; exact rfl; exact rfl) | (apply q_callU; exact rfl; exact rfl; exact rfl; exact FzL.of rfl; exact hV _) | (apply q_callU; exact rfl; exact rfl; exact rfl; exact FzL.of rfl; exact hT _)); (try simp only [put, rowsOf, plR, List.all_cons, selE, ovr, setH, del, cellsA, splice, isV, List.nil_append, List.cons_append, List.map_cons, List.map_nil, List.length_cons, List.length_nil, List.set_cons_zero, List.set_cons_succ, List.take_succ_cons, List.take_zero, List.take_nil, List.drop_succ_cons, List.drop_zero, List.drop_nil, List.append_nil, List.all_cons, List.all_nil, Bool.and_true, Bool.true_and, Bool.and_false, Bool.false_and, Nat.reduceAdd, Nat.zero_add, Nat.add_zero, Nat.reduceEqDiff, if_true, if_false, reduceIte]))
    | (show DE _ _ _ _ _ _ _ _ _ _ _ _; first | (apply e_move; exact rfl; exact rfl; exact rfl) | (apply e_ixa; exact rfl; exact rfl; exact rfl; exact (ty rfl); exact rfl; exact (by first | omega | (simp; done) | (simp; omega)); exact (by first | omega | (simp; done) | (simp; omega)); exact rfl; exact rfl) | (apply e_ixl; exact rfl; exact rfl; exact rfl; exact (ty rfl); exact rfl; exact rfl; exact rfl; exact (by first | omega | (simp; done) | (simp; omega)); exact (by first | omega | (simp; done) | (simp; omega)); exact rfl) | (apply e_ld1p; exact rfl; exact rfl; exact (ty rfl); exact rfl; exact rfl; exact (by first | rfl | assumption | ((try simp only [Nat.zero_add]); refine List.getElem?_set_self ?_; (try simp only [List.length_set]); assumption)); exact rfl; exact rfl) | (apply e_build; exact rfl; exact (ty rfl); exact rfl; exact rfl; exact rfl; exact rfl))
    | (show DE _ _ _ _ _ _ _ _ _ _ _ _; (first | (apply dr_nil; exact trivial) | (apply e_alloc; exact rfl; exact (ty rfl); exact rfl; exact rfl; exact rfl) | (apply e_store; exact rfl; exact rfl; exact (ty rfl); exact rfl; exact (by first | rfl | assumption | ((try simp only [Nat.zero_add]); refine List.getElem?_set_self ?_; (try simp only [List.length_set]); assumption)); exact rfl; exact rfl; exact rfl; exact rfl)); (try simp only [put, rowsOf, plR, List.all_cons, selE, ovr, setH, del, cellsA, splice, isV, List.nil_append, List.cons_append, List.map_cons, List.map_nil, List.length_cons, List.length_nil, List.set_cons_zero, List.set_cons_succ, List.take_succ_cons, List.take_zero, List.take_nil, List.drop_succ_cons, List.drop_zero, List.drop_nil, List.append_nil, List.all_cons, List.all_nil, Bool.and_true, Bool.true_and, Bool.and_false, Bool.false_and, Nat.reduceAdd, Nat.zero_add, Nat.add_zero, Nat.reduceEqDiff, if_true, if_false, reduceIte]))
    | (show AW _ _ _ _ _ _ _ _; first | refine aw_region ?_ | (refine aw_seqk ?_; intro K hK) | (apply aw_cond_f; exact rfl; exact rfl) | (apply aw_cond_f; exact rfl; exact (by assumption)) | refine aw_ret ?_ | refine aw_exit ?_ | refine aw_skip ?_ | refine aw_drawE (id := 10) [0, 1, 3, 0, 8, 0, 32, 0, 128, 0, 512, 2047, 0, 8191] [0, 1, 1, 0, 1, 0, 1, 0, 1, 0, 1, 0, 1, 2] mixed (by kernel_rfl) ?_)
    | refine thn_n ?_
    | (refine hK _ _ _ ?_; clear hK K)
    | refine thn_e ?_
    | refine inb_same ?_
    | (clear hK K; refine hK _ _ _ ?_; clear hK K))); all_goals (repeat (clear hK K)))
  all_goals (refine fin_r (fin_p (.r2 _ _ _ _ (.agg _ _ _ _ _ rfl (.inr ⟨_, _, _, _, _, rfl, rfl, rfl, rfl⟩) (ty rfl) rfl (Nat.le_of_ble_eq_true rfl)) (.tmp _ _ rfl)) ?_ rfl rfl rfl); rfl)
end Go.Proofs.YtmnklmaefoidbaaDoor.Bd
