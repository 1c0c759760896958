/-
  BusyHour: the program's and the reference's answers are equal.
-/
import Derived.Test.YtkogkkbiocejkaaAllw
namespace Go.Proofs.Ytkogkkbiocejkaa.Bu
open Go.RowKit Go.Proofs.Ytkogkkbiocejkaa.Mt Go.Proofs.Ytkogkkbiocejkaa.Wk Go.Proofs.Ytkogkkbiocejkaa.Mm Go.Proofs.Ytkogkkbiocejkaa.Al Go.Proofs.Ytkogkkbiocejkaa.Sl

/-- the sum of j loads from a place on -/
def wsum (zs : List Int) (s : Nat) : Nat → Int
  | 0 => 0
  | j + 1 => wsum zs s j + zs.getD (s + j) 0
theorem wsum_bd (zs : List Int) (s : Nat) (j : Nat) (h : ∀ i, i < zs.length → 0 ≤ zs.getD i 0 ∧ zs.getD i 0 ≤ 200000000) (hj : s + j ≤ zs.length) : 0 ≤ wsum zs s j ∧ wsum zs s j ≤ 200000000 * j := by
  induction j with
  | zero => simp [wsum]
  | succ j ih =>
    have := ih (by omega)
    have := h (s + j) (by omega)
    simp only [wsum]; omega

/-- the best start and its sum among the first k starts -/
def bh (zs : List Int) (H : Nat) : Nat → Int × Int
  | 0 => (0, -1)
  | k + 1 => if (bh zs H k).2 < wsum zs k H then ((k : Int), wsum zs k H) else bh zs H k
theorem bh_bd (zs : List Int) (H : Nat) (h : ∀ i, i < zs.length → 0 ≤ zs.getD i 0 ∧ zs.getD i 0 ≤ 200000000) (hH : H ≤ 64) (k : Nat) (hk : k + H ≤ zs.length + 1) :
    0 ≤ (bh zs H k).1 ∧ (bh zs H k).1 ≤ k ∧ -1 ≤ (bh zs H k).2 ∧ (bh zs H k).2 ≤ 12800000000 := by
  induction k with
  | zero => simp [bh]
  | succ k ih =>
    have := ih (by omega)
    have := wsum_bd zs k H h (by omega)
    simp only [bh]; split <;> simp <;> omega

def vBusy (zs : List Int) (h : Int) : Int × Int × Int :=
  if allB zs 0 200000000 = true ∧ inB h 1 64 = true then
    if 64 < zs.length then (0, 0, 5) else if (zs.length : Int) < h then (0, 0, 6)
    else ((bh zs h.toNat (zs.length + 1 - h.toNat)).1, (bh zs h.toNat (zs.length + 1 - h.toNat)).2, 0)
  else (0, 0, 2)
theorem ret_three {v : Int × Int × Int} {a b c : Int} (h : v = (a, b, c)) : Ending.returned (.tuple #[.int .i64 a, .int .i64 b, .int .i64 c]) = .returned (.tuple #[.int .i64 v.1, .int .i64 v.2.1, .int .i64 v.2.2]) := by rw [h]

set_option maxHeartbeats 1000000 in
theorem spec_any (a : Option Addr) (n cap B : Nat) (zs : List Int) (h : Int) (w : World) (hn : n ≤ 9223372036854775807) (hr : Rd w B 1 a n (ints zs)) :
    Calls Try.prog 30 #[.slice a n cap, .int .i64 h] w fun e w' => e = .returned (.tuple #[.int .i64 (vBusy zs h).1, .int .i64 (vBusy zs h).2.1, .int .i64 (vBusy zs h).2.2]) ∧ w = w' := by
  have hl := hr.len
  have HL := Lib.hid hl
  clear hl
  go_enter Try.func30, Try.ntmps30
  go_wp2
  go_loop [7] (fun i => ∃ k : Nat, k ≤ n ∧ i = .int .i64 (k : Int) ∧ (∀ j, j < k → bad zs 0 200000000 j = false)) (fun i => n - (intOf i).toNat)
  case atStart => exact ⟨0, Nat.zero_le _, rfl, fun j hj => absurd hj (by omega)⟩
  case round =>
    obtain ⟨k, hk, rfl, hall⟩ := hrel
    have HA := Lib.hid hall
    clear hall
    by_cases hlt : k < n
    · obtain ⟨b, off, x, rfl, hb, hc, hx⟩ := hr.atH hlt
      cases hin : inB x 0 200000000
      · have HV : Hid (vBusy zs h = (0, 0, 2)) := by
          show _ = _
          unfold vBusy
          rw [if_neg]
          intro hh
          have := (allB_iff zs 0 200000000).1 hh.1 k (by rw [HL.out]; exact hlt)
          unfold bad at this
          rw [hx.out, hin] at this; cases this
        go_wp2_with ((go_at_call 42; refine (l00In_any _ _ _ _).mono ?_; rintro e w' ⟨rfl, rfl⟩))
        go_ret3
        exact ⟨ret_three HV.out, rfl⟩
      · go_wp2_with ((go_at_call 42; refine (l00In_any _ _ _ _).mono ?_; rintro e w' ⟨rfl, rfl⟩))
        go_round
        case rel => exact ⟨k + 1, by omega, by go_num, fun j hj => by
            rcases Nat.lt_or_eq_of_le (Nat.lt_succ_iff.1 hj) with h | h
            · exact HA.out j h
            · subst h; unfold bad; rw [hx.out, hin]; rfl⟩
        case measure => simp [intOf]; omega
    · obtain rfl : k = n := by omega
      have hall : allB zs 0 200000000 = true := (allB_iff zs 0 200000000).2 (fun i hi => HA.out i (by rw [HL.out] at hi; exact hi))
      have HE := Lib.hid hall
      clear hall HA hlt hk
      cases hh : inB h 1 64
      · have HV : Hid (vBusy zs h = (0, 0, 2)) := by show _ = _; unfold vBusy; rw [if_neg (by simp [hh])]
        go_wp2_with ((go_at_call 42; refine (l00In_any _ _ _ _).mono ?_; rintro e w' ⟨rfl, rfl⟩))
        go_ret3
        exact ⟨ret_three HV.out, rfl⟩
      · by_cases h64 : 64 < k
        · have HV : Hid (vBusy zs h = (0, 0, 5)) := by show _ = _; unfold vBusy; rw [if_pos ⟨HE.out, hh⟩, if_pos (by rw [HL.out]; exact h64)]
          go_wp2_with ((go_at_call 42; refine (l00In_any _ _ _ _).mono ?_; rintro e w' ⟨rfl, rfl⟩))
          go_ret3
          exact ⟨ret_three HV.out, rfl⟩
        · by_cases hlh : (k : Int) < h
          · have HV : Hid (vBusy zs h = (0, 0, 6)) := by show _ = _; unfold vBusy; rw [if_pos ⟨HE.out, hh⟩, if_neg (by rw [HL.out]; exact h64), if_pos (by rw [HL.out]; exact hlh)]
            go_wp2_with ((go_at_call 42; refine (l00In_any _ _ _ _).mono ?_; rintro e w' ⟨rfl, rfl⟩))
            go_ret3
            exact ⟨ret_three HV.out, rfl⟩
          · obtain ⟨h1, h2⟩ := inB_yes hh
            obtain ⟨H, rfl⟩ := Int.eq_ofNat_of_zero_le (show 0 ≤ h by omega)
            have HV : Hid (vBusy zs H = ((bh zs H (k + 1 - H)).1, (bh zs H (k + 1 - H)).2, 0)) := by
              show _ = _; unfold vBusy; rw [if_pos ⟨HE.out, hh⟩, if_neg (by rw [HL.out]; exact h64), if_neg (by rw [HL.out]; exact hlh), HL.out]; rfl
            have d1 : decide ((64 : Int) < (k : Int)) = false := by simp; omega
            have d2 : decide (k < H) = false := by simp; omega
            go_wp2_with ((go_at_call 42; refine (l00In_any _ _ _ _).mono ?_; rintro e w' ⟨rfl, rfl⟩))
            clear d1 d2
            have HD : Hid (∀ i, i < k → 0 ≤ zs.getD i 0 ∧ zs.getD i 0 ≤ 200000000) := fun i hi => allB_mem HE.out (by rw [HL.out]; exact hi)
            go_loop [8, 9, 10, 11, 12] (fun best most s q i => ∃ j : Nat, j ≤ k + 1 - H ∧ s = .int .i64 (j : Int) ∧ best = .int .i64 (bh zs H j).1 ∧ most = .int .i64 (bh zs H j).2) (fun _ _ s _ _ => k + 1 - H - (intOf s).toNat)
            case atStart => exact ⟨0, Nat.zero_le _, rfl, rfl, rfl⟩
            case round =>
              obtain ⟨j, hj, rfl, rfl, rfl⟩ := hrel
              obtain ⟨e1, e2, e3, e4⟩ := bh_bd zs H (fun i hi => HD.out i (by rw [HL.out] at hi; exact hi)) (by omega) j (by rw [HL.out]; omega)
              by_cases hlt2 : j < k + 1 - H
              · have HB1 : Hid (bh zs H (j + 1) = if (bh zs H j).2 < wsum zs j H then ((j : Int), wsum zs j H) else bh zs H j) := rfl
                generalize bh zs H j = bj at *
                obtain ⟨bb, bm⟩ := bj
                simp only at e1 e2 e3 e4
                go_wp2
                go_loop [11, 12] (fun q i => ∃ t : Nat, t ≤ H ∧ q = .int .i64 (wsum zs j t) ∧ i = .int .i64 ((j : Int) + t)) (fun _ i => j + H - (intOf i).toNat)
                case atStart => exact ⟨0, Nat.zero_le _, rfl, by simp⟩
                case round =>
                  obtain ⟨t, ht, rfl, rfl⟩ := hrel
                  obtain ⟨f1, f2⟩ := wsum_bd zs j t (fun i hi => HD.out i (by rw [HL.out] at hi; exact hi)) (by rw [HL.out]; omega)
                  have HS : Hid (wsum zs j (t + 1) = wsum zs j t + zs.getD (j + t) 0) := rfl
                  by_cases hlt3 : t < H
                  · obtain ⟨b, off, x, rfl, hb, hc, hx⟩ := hr.atH (k := j + t) (by omega)
                    have hx2 := HD.out (j + t) (by omega)
                    rw [hx.out] at hx2
                    generalize wsum zs j t = q at *
                    go_wp2
                    go_round
                    case rel => exact ⟨t + 1, by omega, by rw [HS.out, hx.out], by go_num⟩
                    case measure => simp [intOf]; omega
                  · obtain rfl : t = H := by omega
                    generalize wsum zs j t = q at *
                    by_cases hgt : bm < q
                    · go_wp2
                      go_round
                      case rel => exact ⟨j + 1, by omega, by go_num, by rw [HB1.out, if_pos hgt], by rw [HB1.out, if_pos hgt]⟩
                      case measure => simp [intOf]; omega
                    · go_wp2
                      go_round
                      case rel => exact ⟨j + 1, by omega, by go_num, by rw [HB1.out, if_neg (by omega)], by rw [HB1.out, if_neg (by omega)]⟩
                      case measure => simp [intOf]; omega
              · obtain rfl : j = k + 1 - H := by omega
                go_wp2
                go_ret3
                exact ⟨ret_three HV.out, rfl⟩


set_option maxHeartbeats 1000000 in
theorem impl_any (a : Option Addr) (n cap B : Nat) (zs : List Int) (h : Int) (w : World) (hn : n ≤ cap) (hcm : cap ≤ maxLen) (hB : B ≤ w.heap.size) (hr : Rd w B 1 a n (ints zs)) :
    Calls Try.prog 32 #[.slice a n cap, .int .i64 h] w fun e w' => e = .returned (.tuple #[.int .i64 (vBusy zs h).1, .int .i64 (vBusy zs h).2.1, .int .i64 (vBusy zs h).2.2]) ∧ Below w.heap.size w w' := by
  have hl := hr.len
  have HL := Lib.hid hl
  clear hl
  unfold maxLen at hcm
  cases hall : allB zs 0 200000000
  · have HV : Hid (vBusy zs h = (0, 0, 2)) := by show _ = _; unfold vBusy; rw [if_neg (by simp [hall])]
    go_enter Try.func32, Try.ntmps32
    go_wp2_with (first | (go_at_call 59; refine (allWithin_any _ _ _ _ _ _ _ _ (by omega) hB hr).mono ?_; rintro e w' ⟨rfl, hb1⟩) | (go_at_call 44; refine (within_any _ _ _ _).mono ?_; rintro e w' ⟨rfl, rfl⟩))
    go_ret3
    exact ⟨ret_three HV.out, hb1⟩
  · cases hh : inB h 1 64
    · have HV : Hid (vBusy zs h = (0, 0, 2)) := by show _ = _; unfold vBusy; rw [if_neg (by simp [hh])]
      go_enter Try.func32, Try.ntmps32
      go_wp2_with (first | (go_at_call 59; refine (allWithin_any _ _ _ _ _ _ _ _ (by omega) hB hr).mono ?_; rintro e w' ⟨rfl, hb1⟩) | (go_at_call 44; refine (within_any _ _ _ _).mono ?_; rintro e w' ⟨rfl, rfl⟩))
      go_ret3
      exact ⟨ret_three HV.out, hb1⟩
    · by_cases h64 : 64 < n
      · have HV : Hid (vBusy zs h = (0, 0, 5)) := by show _ = _; unfold vBusy; rw [if_pos ⟨hall, hh⟩, if_pos (by rw [HL.out]; exact h64)]
        go_enter Try.func32, Try.ntmps32
        go_wp2_with (first | (go_at_call 59; refine (allWithin_any _ _ _ _ _ _ _ _ (by omega) hB hr).mono ?_; rintro e w' ⟨rfl, hb1⟩) | (go_at_call 44; refine (within_any _ _ _ _).mono ?_; rintro e w' ⟨rfl, rfl⟩))
        go_ret3
        exact ⟨ret_three HV.out, hb1⟩
      · by_cases hlh : (n : Int) < h
        · have HV : Hid (vBusy zs h = (0, 0, 6)) := by show _ = _; unfold vBusy; rw [if_pos ⟨hall, hh⟩, if_neg (by rw [HL.out]; exact h64), if_pos (by rw [HL.out]; exact hlh)]
          go_enter Try.func32, Try.ntmps32
          go_wp2_with (first | (go_at_call 59; refine (allWithin_any _ _ _ _ _ _ _ _ (by omega) hB hr).mono ?_; rintro e w' ⟨rfl, hb1⟩) | (go_at_call 44; refine (within_any _ _ _ _).mono ?_; rintro e w' ⟨rfl, rfl⟩))
          go_ret3
          exact ⟨ret_three HV.out, hb1⟩
        · obtain ⟨h1, h2⟩ := inB_yes hh
          obtain ⟨H, rfl⟩ := Int.eq_ofNat_of_zero_le (show 0 ≤ h by omega)
          have HV : Hid (vBusy zs H = ((bh zs H (n + 1 - H)).1, (bh zs H (n + 1 - H)).2, 0)) := by
            show _ = _; unfold vBusy; rw [if_pos ⟨hall, hh⟩, if_neg (by rw [HL.out]; exact h64), if_neg (by rw [HL.out]; exact hlh), HL.out]; rfl
          have HD : Hid (∀ i, i < n → 0 ≤ zs.getD i 0 ∧ zs.getD i 0 ≤ 200000000) := fun i hi => allB_mem hall (by rw [HL.out]; exact hi)
          have d1 : decide ((64 : Int) < (n : Int)) = false := by simp; omega
          have d2 : decide (n < H) = false := by simp; omega
          go_enter Try.func32, Try.ntmps32
          go_wp2_with (first | (go_at_call 59; refine (allWithin_any _ _ _ _ _ _ _ _ (by omega) hB hr).mono ?_; rintro e w' ⟨rfl, hb1⟩) | (go_at_call 44; refine (within_any _ _ _ _).mono ?_; rintro e w' ⟨rfl, rfl⟩))
          clear d1 d2
          have hr1 := hr.kept (hb1.mono hB)
          have HB1 := Lib.hid hb1
          clear hb1
          go_loop [7, 8, 9, 10, 12] (fun best most s q l => ∃ j : Nat, j ≤ n + 1 - H ∧ s = .int .i64 (j : Int) ∧ best = .int .i64 (bh zs H j).1 ∧ most = .int .i64 (bh zs H j).2) (fun _ _ s _ _ => n + 1 - H - (intOf s).toNat)
          case atStart => exact ⟨0, Nat.zero_le _, rfl, rfl, rfl⟩
          case round =>
            obtain ⟨j, hj, rfl, rfl, rfl⟩ := hrel
            obtain ⟨e1, e2, e3, e4⟩ := bh_bd zs H (fun i hi => HD.out i (by rw [HL.out] at hi; exact hi)) (by omega) j (by rw [HL.out]; omega)
            by_cases hlt2 : j < n + 1 - H
            · have HB1 : Hid (bh zs H (j + 1) = if (bh zs H j).2 < wsum zs j H then ((j : Int), wsum zs j H) else bh zs H j) := rfl
              generalize bh zs H j = bj at *
              obtain ⟨bb, bm⟩ := bj
              simp only at e1 e2 e3 e4
              have hr2 := hr1
              obtain ⟨b, off, x0, rfl, hb, hc, hx⟩ := hr1.atH (k := j) (by omega)
              go_wp2
              go_loop [10, 12, 46] (fun q l i => ∃ t : Nat, t ≤ H ∧ q = .int .i64 (wsum zs j t) ∧ i = .int .i64 (t : Int)) (fun _ _ i => H - (intOf i).toNat)
              case atStart => exact ⟨0, Nat.zero_le _, rfl, rfl⟩
              case round =>
                obtain ⟨t, ht, rfl, rfl⟩ := hrel
                obtain ⟨f1, f2⟩ := wsum_bd zs j t (fun i hi => HD.out i (by rw [HL.out] at hi; exact hi)) (by rw [HL.out]; omega)
                have HS : Hid (wsum zs j (t + 1) = wsum zs j t + zs.getD (j + t) 0) := rfl
                by_cases hlt3 : t < H
                · obtain ⟨x, _, hc, hx⟩ := hr2.atS (k := j + t) (by omega)
                  rw [← Nat.add_assoc] at hc
                  have hx2 := HD.out (j + t) (by omega)
                  rw [hx.out] at hx2
                  generalize wsum zs j t = q at *
                  go_wp2
                  go_round
                  case rel => exact ⟨t + 1, by omega, by rw [HS.out, hx.out], by go_num⟩
                  case measure => simp [intOf]; omega
                · obtain rfl : t = H := by omega
                  generalize wsum zs j t = q at *
                  by_cases hgt : bm < q
                  · go_wp2
                    go_round
                    case rel => exact ⟨j + 1, by omega, by go_num, by rw [HB1.out, if_pos hgt], by rw [HB1.out, if_pos hgt]⟩
                    case measure => simp [intOf]; omega
                  · go_wp2
                    go_round
                    case rel => exact ⟨j + 1, by omega, by go_num, by rw [HB1.out, if_neg (by omega)], by rw [HB1.out, if_neg (by omega)]⟩
                    case measure => simp [intOf]; omega
            · obtain rfl : j = n + 1 - H := by omega
              go_wp2
              go_ret3
              exact ⟨ret_three HV.out, HB1.out⟩

set_option maxHeartbeats 1000000 in
theorem walk (a : Option Addr) (n cap : Nat) (z : List Int) (h : Int) (w : World)
    (w0 : (a = none ∧ n = 0 ∧ cap = 0 ∧ z = []) ∨ ∃ x, a = some x ∧ n ≤ cap ∧ cap ≤ maxLen ∧ z.length = cap ∧ (∀ i, i < z.length → w.cell? (x.add i) = some (.int .i64 (z.getD i 0))) ∧ ∀ n ∈ z, (Lit.int .i64 n).wf = true) :
    Calls Try.prog 10 #[.slice a n cap, .int .i64 h] w fun e w' => e = .returned (.bool true) ∧ Below w.heap.size w w' := by
  obtain ⟨zs, hr, hnc, hcm, _⟩ := Rd.of_row w0
  clear w0
  by_cases hn : n ≤ 1048576
  · go_enter Try.func10, Try.ntmps10
    go_wp2_with fail
    refine (toInt64S_any _ _ _ _ zs _ hn (Nat.le_refl _) hr).mono ?_
    rintro e w1 ⟨rfl, hB1, hb1⟩
    have hr1 := hr.kept hb1
    go_wp2_with fail
    refine (spec_any _ _ _ _ zs h _ (by omega) (hB1.rd 1 n (by rw [ints_len, hr.len]; omega))).mono ?_
    rintro e w' ⟨rfl, rfl⟩
    go_wp2_with fail
    refine (toInt64S_any _ _ _ _ zs _ hn hb1.size hr1).mono ?_
    rintro e w2 ⟨rfl, hB2, hb2⟩
    have hr2 := hr1.kept (hb2.mono hb1.size)
    go_wp2_with fail
    refine (impl_any _ _ _ _ zs h _ (Nat.le_refl _) (by unfold maxLen; omega) (Nat.le_refl _) (hB2.rd 1 n (by rw [ints_len, hr.len]; omega))).mono ?_
    rintro e w3 ⟨rfl, hb3⟩
    have hb13 := hb1.trans ((hb2.mono hb1.size).trans (hb3.mono (Nat.le_trans hb1.size hb2.size)))
    have hr3 := hr.kept hb13
    go_wp2_with fail
    refine (toInt64S_any _ _ _ _ zs _ hn hb13.size hr3).mono ?_
    rintro e w4 ⟨rfl, hB4, hb4⟩
    have hB24 := (hB2.kept hb3 hB2.lt).kept hb4 (Nat.lt_of_lt_of_le hB2.lt hb3.size)
    go_wp2_with fail
    refine (eqInt64S_any _ _ _ _ _ _ _ _ zs zs _ (by omega) (hB24.rd 1 n (by rw [ints_len, hr.len]; omega)) (hB4.rd 1 n (by rw [ints_len, hr.len]; omega))).mono ?_
    rintro e w5 ⟨rfl, m, rfl⟩
    rw [eqB_self]
    go_wp2_with fail
    go_ret
    exact ⟨rfl, below_drewN (hb13.trans (hb4.mono hb13.size)) _⟩
  · go_enter Try.func10, Try.ntmps10
    go_wp2
    go_ret
    exact ⟨rfl, Below.refl _ _⟩

end Go.Proofs.Ytkogkkbiocejkaa.Bu
