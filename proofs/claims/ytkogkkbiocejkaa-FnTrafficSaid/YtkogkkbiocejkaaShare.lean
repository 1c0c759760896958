/-
  ShareLoad: the program's and the reference's answers are equal.
-/
import Derived.Test.YtkogkkbiocejkaaAllw
import Derived.Test.YtkogkkbiocejkaaErl
namespace Go.Proofs.Ytkogkkbiocejkaa.Sh
open Go.RowKit Go.Proofs.Ytkogkkbiocejkaa.Mt Go.Proofs.Ytkogkkbiocejkaa.Wk Go.Proofs.Ytkogkkbiocejkaa.Mm Go.Proofs.Ytkogkkbiocejkaa.Al Go.Proofs.Ytkogkkbiocejkaa.Sl

/-- the sum of the first k weights -/
def pre (zs : List Int) : Nat → Int
  | 0 => 0
  | k + 1 => pre zs k + zs.getD k 0
def upto (load : Int) (zs : List Int) (k : Nat) : Int := load * pre zs k / pre zs zs.length
def parts (load : Int) (zs : List Int) (k : Nat) : List Int := (List.range k).map fun i => upto load zs (i + 1) - upto load zs i
theorem parts_len (load : Int) (zs : List Int) (k : Nat) : (parts load zs k).length = k := by simp [parts]
theorem parts_succ (load : Int) (zs : List Int) (k : Nat) : parts load zs (k + 1) = parts load zs k ++ [upto load zs (k + 1) - upto load zs k] := by
  simp [parts, List.range_succ]
theorem pre_bd (zs : List Int) (k : Nat) (h : ∀ i, i < k → 0 ≤ zs.getD i 0 ∧ zs.getD i 0 ≤ 1000000) : 0 ≤ pre zs k ∧ pre zs k ≤ 1000000 * k := by
  induction k with
  | zero => simp [pre]
  | succ k ih =>
    have := ih (fun i hi => h i (by omega))
    have := h k (by omega)
    simp only [pre]; omega
theorem pre_mono (zs : List Int) (h : ∀ i, i < zs.length → 0 ≤ zs.getD i 0 ∧ zs.getD i 0 ≤ 1000000) (k n : Nat) (hk : k ≤ n) (hn : n ≤ zs.length) : pre zs k ≤ pre zs n := by
  induction n with
  | zero => obtain rfl : k = 0 := by omega
            exact Int.le_refl _
  | succ n ih =>
    rcases Nat.lt_or_eq_of_le hk with h1 | h1
    · have := ih (by omega) (by omega)
      have := h n (by omega)
      simp only [pre]; omega
    · subst h1; exact Int.le_refl _
theorem upto_bd (load : Int) (zs : List Int) (h : ∀ i, i < zs.length → 0 ≤ zs.getD i 0 ∧ zs.getD i 0 ≤ 1000000) (h0 : 0 ≤ load) (h1 : load ≤ 200000000) (hn : zs.length ≤ 64) (hp : 1 ≤ pre zs zs.length) (k : Nat) (hk : k ≤ zs.length) :
    0 ≤ pre zs k ∧ pre zs k ≤ 64000000 ∧ 0 ≤ load * pre zs k ∧ load * pre zs k ≤ 12800000000000000 ∧ 0 ≤ upto load zs k ∧ upto load zs k ≤ load := by
  obtain ⟨p0, p1⟩ := pre_bd zs k (fun i hi => h i (by omega))
  have p2 := pre_mono zs h k zs.length hk (Nat.le_refl _)
  have q0 : 0 ≤ load * pre zs k := Int.mul_nonneg h0 p0
  have q1 : load * pre zs k ≤ load * pre zs zs.length := Int.mul_le_mul_of_nonneg_left p2 h0
  have q2 : load * pre zs k ≤ 200000000 * 64000000 := Int.mul_le_mul h1 (by omega) p0 (by omega)
  refine ⟨p0, by omega, q0, by omega, Int.ediv_nonneg q0 (by omega), ?_⟩
  unfold upto
  exact Int.ediv_le_of_le_mul (by omega) q1

def vShare (load : Int) (zs : List Int) : List Int × Int :=
  if inB load 0 200000000 = true ∧ allB zs 0 1000000 = true then
    if 64 < zs.length then ([], 5) else if pre zs zs.length = 0 then ([], 6) else (parts load zs zs.length, 0)
  else ([], 2)

theorem good_of (zs : List Int) (k : Nat) (h : ∀ j, j < k → bad zs 0 1000000 j = false) : ∀ i, i < k → 0 ≤ zs.getD i 0 ∧ zs.getD i 0 ≤ 1000000 := fun i hi => by
  have := h i hi
  exact inB_yes (by simpa [bad] using this)

set_option maxHeartbeats 1000000 in
theorem spec_any (a : Option Addr) (n cap B : Nat) (zs : List Int) (load : Int) (w : World) (hn : n ≤ 1048576) (hB : B ≤ w.heap.size) (hr : Rd w B 1 a n (ints zs)) :
    Calls Try.prog 34 #[.int .i64 load, .slice a n cap] w (Out w (vShare load zs)) := by
  have hl := hr.len
  have HL := Lib.hid hl
  clear hl
  go_enter Try.func34, Try.ntmps34
  go_wp2
  go_loop [6, 7] (fun s i => ∃ k : Nat, k ≤ n ∧ i = .int .i64 (k : Int) ∧ s = .int .i64 (pre zs k) ∧ (∀ j, j < k → bad zs 0 1000000 j = false)) (fun _ i => n - (intOf i).toNat)
  case atStart => exact ⟨0, Nat.zero_le _, rfl, rfl, fun j hj => absurd hj (by omega)⟩
  case round =>
    obtain ⟨k, hk, rfl, rfl, hall⟩ := hrel
    have hp := pre_bd zs k (good_of zs k hall)
    have HA := Lib.hid hall
    clear hall
    by_cases hlt : k < n
    · obtain ⟨b, off, x, rfl, hb, hc, hx⟩ := hr.atH hlt
      cases hin : inB x 0 1000000
      · have HV : Hid (vShare load zs = ([], 2)) := by
          show _ = _
          unfold vShare
          rw [if_neg]
          intro hh
          have := (allB_iff zs 0 1000000).1 hh.2 k (by rw [HL.out]; exact hlt)
          unfold bad at this
          rw [hx.out, hin] at this; cases this
        go_wp2_with ((go_at_call 42; refine (l00In_any _ _ _ _).mono ?_; rintro e w' ⟨rfl, rfl⟩))
        go_ret2
        exact out_nil HV.out (Below.refl _ _)
      · obtain ⟨x0, x1⟩ := inB_yes hin
        have HS : Hid (pre zs (k + 1) = pre zs k + zs.getD k 0) := rfl
        generalize pre zs k = p at *
        go_wp2_with ((go_at_call 42; refine (l00In_any _ _ _ _).mono ?_; rintro e w' ⟨rfl, rfl⟩))
        go_round
        case rel => exact ⟨k + 1, by omega, by go_num, by rw [HS.out, hx.out], fun j hj => by
            rcases Nat.lt_or_eq_of_le (Nat.lt_succ_iff.1 hj) with h | h
            · exact HA.out j h
            · subst h; unfold bad; rw [hx.out, hin]; rfl⟩
        case measure => simp [intOf]; omega
    · obtain rfl : k = n := by omega
      have hall : allB zs 0 1000000 = true := (allB_iff zs 0 1000000).2 (fun i hi => HA.out i (by rw [HL.out] at hi; exact hi))
      have HD : Hid (∀ i, i < zs.length → 0 ≤ zs.getD i 0 ∧ zs.getD i 0 ≤ 1000000) := fun i hi => allB_mem hall hi
      have HE := Lib.hid hall
      clear hall HA hlt hk
      cases hh : inB load 0 200000000
      · have HV : Hid (vShare load zs = ([], 2)) := by show _ = _; unfold vShare; rw [if_neg (by simp [hh])]
        go_wp2_with ((go_at_call 42; refine (l00In_any _ _ _ _).mono ?_; rintro e w' ⟨rfl, rfl⟩))
        go_ret2
        exact out_nil HV.out (Below.refl _ _)
      · by_cases h64 : 64 < k
        · have HV : Hid (vShare load zs = ([], 5)) := by show _ = _; unfold vShare; rw [if_pos ⟨hh, HE.out⟩, if_pos (by rw [HL.out]; exact h64)]
          go_wp2_with ((go_at_call 42; refine (l00In_any _ _ _ _).mono ?_; rintro e w' ⟨rfl, rfl⟩))
          go_ret2
          exact out_nil HV.out (Below.refl _ _)
        · have d1 : decide ((64 : Int) < (k : Int)) = false := by simp; omega
          by_cases h0 : pre zs k = 0
          · have HV : Hid (vShare load zs = ([], 6)) := by show _ = _; unfold vShare; rw [if_pos ⟨hh, HE.out⟩, if_neg (by rw [HL.out]; exact h64), if_pos (by rw [HL.out]; exact h0)]
            have d2 : (pre zs k == 0) = true := by simp [h0]
            clear h0
            go_wp2_with ((go_at_call 42; refine (l00In_any _ _ _ _).mono ?_; rintro e w' ⟨rfl, rfl⟩))
            go_ret2
            exact out_nil HV.out (Below.refl _ _)
          · have HV : Hid (vShare load zs = (parts load zs k, 0)) := by show _ = _; unfold vShare; rw [if_pos ⟨hh, HE.out⟩, if_neg (by rw [HL.out]; exact h64), if_neg (by rw [HL.out]; exact h0), HL.out]
            have d2 : (pre zs k == 0) = false := by simp [h0]
            obtain ⟨l0, l1⟩ := inB_yes hh
            have hp1 : 1 ≤ pre zs k := by omega
            have hb0 : B ≤ (w.alloc (.cells #[] 2)).heap.size := by simp; omega
            clear h0
            go_wp2_with ((go_at_call 42; refine (l00In_any _ _ _ _).mono ?_; rintro e w' ⟨rfl, rfl⟩))
            clear d1 d2
            have HU : Hid (∀ j, upto load zs j = load * pre zs j / pre zs k) := fun j => by unfold upto; rw [HL.out]
            have HO : (w.alloc (.cells #[] 2)).ownsRow w.heap.size 2 1 (.slice (some ⟨w.heap.size, 0, none⟩) 0 0) 0 (ints (parts load zs 0)) := (Blk.new w 2 []).own 1 0 _ rfl (Nat.le_refl _) (by omega)
            have HW : Below w.heap.size w (w.alloc (.cells #[] 2)) := (Below.refl _ _).alloc (Nat.le_refl _) _
            have HG := Lib.hid hp1
            have HP : pre zs k ≤ 64000000 := by omega
            go_loopw [8, 9, 10, 11, 12] (fun r done before i u wr => ∃ j : Nat, j ≤ k ∧ i = .int .i64 (j : Int) ∧ done = .int .i64 (pre zs j) ∧ before = .int .i64 (upto load zs j) ∧ wr.ownsRow w.heap.size 2 1 r j (ints (parts load zs j)) ∧ Below w.heap.size w wr) (fun _ _ _ i _ _ => k - (intOf i).toNat)
            case atStart => exact ⟨0, Nat.zero_le _, rfl, rfl, by simp [upto, pre], HO, HW⟩
            case round =>
              clear HO HW
              obtain ⟨j, hj, rfl, rfl, rfl, hown, hbw⟩ := hrel
              have u1 := upto_bd load zs HD.out l0 l1 (by rw [HL.out]; omega) (by rw [HL.out]; exact HG.out) j (by rw [HL.out]; omega)
              by_cases hlt : j < k
              · have u2 := upto_bd load zs HD.out l0 l1 (by rw [HL.out]; omega) (by rw [HL.out]; exact HG.out) (j + 1) (by rw [HL.out]; omega)
                obtain ⟨b, off, x, rfl, hb, hc, hx⟩ := (hr.kept (hbw.mono hB)).atH hlt
                have HS : Hid (pre zs (j + 1) = pre zs j + x) := by show _ = _; rw [← hx.out]; rfl
                have HPS := Lib.hid (parts_succ load zs j)
                have HUj := Lib.hid (HU.out (j + 1))
                obtain ⟨x0, x1⟩ := HD.out j (by rw [HL.out]; omega)
                rw [hx.out] at x0 x1
                rw [HS.out] at u2 HUj
                obtain ⟨v0, v1, v2, v3, v4, v5⟩ := u2
                generalize upto load zs j = U0 at *
                obtain ⟨t0, t1, t2, t3, t4, t5⟩ := u1
                have HOW := Lib.hid hown
                have HBW := Lib.hid hbw
                have hz := hbw.size
                clear hown hbw
                generalize pre zs j = p at *
                have HQ0 : 0 ≤ load * (p + x) / pre zs k := by rw [← HUj.out]; exact v4
                have HQ1 : load * (p + x) / pre zs k ≤ 200000000 := by rw [← HUj.out]; omega
                go_wp2_with (at_builtin; refine app1 rfl (.tmp 57) (.tmp 61) rfl w.heap.size _ _ _ _ rfl rfl HOW.out (by omega) hz ?_; intro v' w1 hown1 hbw1)
                go_roundw
                case rel => exact ⟨j + 1, by omega, by go_num, by rw [HS.out], by rw [HUj.out], by rw [HPS.out, HUj.out]; exact hown1, HBW.out.trans hbw1⟩
                case measure => simp [intOf]; omega
              · obtain rfl : j = k := by omega
                have HOW := Lib.hid hown
                have HBW := Lib.hid hbw
                clear hown hbw
                go_wp2
                go_ret2
                exact out_mk HV.out HOW.out HBW.out

set_option maxHeartbeats 1000000 in
theorem impl_any (a : Option Addr) (n cap B : Nat) (zs : List Int) (load : Int) (w : World) (hn : n ≤ 1048576) (hB : B ≤ w.heap.size) (hr : Rd w B 1 a n (ints zs)) :
    Calls Try.prog 35 #[.int .i64 load, .slice a n cap] w (Out w (vShare load zs)) := by
  have hl := hr.len
  have HL := Lib.hid hl
  clear hl
  cases hh : inB load 0 200000000
  · have HV : Hid (vShare load zs = ([], 2)) := by show _ = _; unfold vShare; rw [if_neg (by simp [hh])]
    go_enter Try.func35, Try.ntmps35
    go_wp2_with (first | (go_at_call 48; refine (Er.trafficLoad_any _ _).mono ?_; rintro e w' ⟨rfl, rfl⟩) | (go_at_call 59; refine (allWithin_any _ _ _ _ _ _ _ _ (by omega) hB hr).mono ?_; rintro e w' ⟨rfl, hb1⟩))
    go_ret2
    exact out_nil HV.out (Below.refl _ _)
  · cases hall : allB zs 0 1000000
    · have HV : Hid (vShare load zs = ([], 2)) := by show _ = _; unfold vShare; rw [if_neg (by simp [hall])]
      go_enter Try.func35, Try.ntmps35
      go_wp2_with (first | (go_at_call 48; refine (Er.trafficLoad_any _ _).mono ?_; rintro e w' ⟨rfl, rfl⟩) | (go_at_call 59; refine (allWithin_any _ _ _ _ _ _ _ _ (by omega) hB hr).mono ?_; rintro e w' ⟨rfl, hb1⟩))
      go_ret2
      exact out_nil HV.out hb1
    · by_cases h64 : 64 < n
      · have HV : Hid (vShare load zs = ([], 5)) := by show _ = _; unfold vShare; rw [if_pos ⟨hh, hall⟩, if_pos (by rw [HL.out]; exact h64)]
        go_enter Try.func35, Try.ntmps35
        go_wp2_with (first | (go_at_call 48; refine (Er.trafficLoad_any _ _).mono ?_; rintro e w' ⟨rfl, rfl⟩) | (go_at_call 59; refine (allWithin_any _ _ _ _ _ _ _ _ (by omega) hB hr).mono ?_; rintro e w' ⟨rfl, hb1⟩))
        go_ret2
        exact out_nil HV.out hb1
      · have d1 : decide ((64 : Int) < (n : Int)) = false := by simp; omega
        have HD : Hid (∀ i, i < zs.length → 0 ≤ zs.getD i 0 ∧ zs.getD i 0 ≤ 1000000) := fun i hi => allB_mem hall hi
        have HE := Lib.hid hall
        obtain ⟨l0, l1⟩ := inB_yes hh
        go_enter Try.func35, Try.ntmps35
        go_wp2_with (first | (go_at_call 48; refine (Er.trafficLoad_any _ _).mono ?_; rintro e w' ⟨rfl, rfl⟩) | (go_at_call 59; refine (allWithin_any _ _ _ _ _ _ _ _ (by omega) hB hr).mono ?_; rintro e w' ⟨rfl, hb1⟩))
        clear d1 hall
        have hr1 := hr.kept (hb1.mono hB)
        have hz1 := hb1.size
        have HB1 := Lib.hid hb1
        clear hb1
        go_loop [6, 8, 29] (fun s x i => ∃ k : Nat, k ≤ n ∧ i = .int .i64 (k : Int) ∧ s = .int .i64 (pre zs k)) (fun _ _ i => n - (intOf i).toNat)
        case atStart => exact ⟨0, Nat.zero_le _, rfl, rfl⟩
        case round =>
          obtain ⟨k, hk, rfl, rfl⟩ := hrel
          have hp := pre_bd zs k (fun i hi => HD.out i (by rw [HL.out]; omega))
          by_cases hlt : k < n
          · obtain ⟨b, off, x, rfl, hb, hc, hx⟩ := hr1.atH hlt
            have hx2 := HD.out k (by rw [HL.out]; omega)
            rw [hx.out] at hx2
            have HS : Hid (pre zs (k + 1) = pre zs k + x) := by show _ = _; rw [← hx.out]; rfl
            generalize pre zs k = p at *
            go_wp2
            go_round
            case rel => exact ⟨k + 1, by omega, by go_num, by rw [HS.out]⟩
            case measure => simp [intOf]; omega
          · obtain rfl : k = n := by omega
            by_cases h0 : pre zs k = 0
            · have HV : Hid (vShare load zs = ([], 6)) := by show _ = _; unfold vShare; rw [if_pos ⟨hh, HE.out⟩, if_neg (by rw [HL.out]; exact h64), if_pos (by rw [HL.out]; exact h0)]
              have d2 : (pre zs k == 0) = true := by simp [h0]
              clear h0
              go_wp2
              go_ret2
              exact out_nil HV.out HB1.out
            · have HV : Hid (vShare load zs = (parts load zs k, 0)) := by show _ = _; unfold vShare; rw [if_pos ⟨hh, HE.out⟩, if_neg (by rw [HL.out]; exact h64), if_neg (by rw [HL.out]; exact h0), HL.out]
              have d2 : (pre zs k == 0) = false := by simp [h0]
              have hp1 : 1 ≤ pre zs k := by omega
              clear h0
              go_wp2
              clear d2
              have HU : Hid (∀ j, upto load zs j = load * pre zs j / pre zs k) := fun j => by unfold upto; rw [HL.out]
              have HG := Lib.hid hp1
              have HP : pre zs k ≤ 64000000 := by omega
              go_loopw [9, 10, 11, 13, 41] (fun r done before x i wr => ∃ j : Nat, j ≤ k ∧ i = .int .i64 (j : Int) ∧ done = .int .i64 (pre zs j) ∧ before = .int .i64 (upto load zs j) ∧ wr.ownsRow w.heap.size 2 1 r j (ints (parts load zs j)) ∧ Below w.heap.size w wr) (fun _ _ _ _ i _ => k - (intOf i).toNat)
              case atStart => exact ⟨0, Nat.zero_le _, rfl, rfl, by simp [upto, pre], World.ownsRow_nil _ _ _ _, HB1.out⟩
              case round =>
                obtain ⟨j, hj, rfl, rfl, rfl, hown, hbw⟩ := hrel
                have u1 := upto_bd load zs HD.out l0 l1 (by rw [HL.out]; omega) (by rw [HL.out]; exact HG.out) j (by rw [HL.out]; omega)
                by_cases hlt : j < k
                · have u2 := upto_bd load zs HD.out l0 l1 (by rw [HL.out]; omega) (by rw [HL.out]; exact HG.out) (j + 1) (by rw [HL.out]; omega)
                  obtain ⟨b, off, x, rfl, hb, hc, hx⟩ := (hr.kept (hbw.mono hB)).atH hlt
                  have HS : Hid (pre zs (j + 1) = pre zs j + x) := by show _ = _; rw [← hx.out]; rfl
                  have HPS := Lib.hid (parts_succ load zs j)
                  have HUj := Lib.hid (HU.out (j + 1))
                  obtain ⟨x0, x1⟩ := HD.out j (by rw [HL.out]; omega)
                  rw [hx.out] at x0 x1
                  rw [HS.out] at u2 HUj
                  obtain ⟨v0, v1, v2, v3, v4, v5⟩ := u2
                  generalize upto load zs j = U0 at *
                  obtain ⟨t0, t1, t2, t3, t4, t5⟩ := u1
                  have HOW := Lib.hid hown
                  have HBW := Lib.hid hbw
                  have hz := hbw.size
                  clear hown hbw
                  generalize pre zs j = p at *
                  have HQ0 : 0 ≤ load * (p + x) / pre zs k := by rw [← HUj.out]; exact v4
                  have HQ1 : load * (p + x) / pre zs k ≤ 200000000 := by rw [← HUj.out]; omega
                  go_wp2_with (at_builtin; refine app1 rfl (.tmp 48) (.tmp 56) rfl w.heap.size _ _ _ _ rfl rfl HOW.out (by omega) hz ?_; intro v' w1 hown1 hbw1)
                  go_roundw
                  case rel => exact ⟨j + 1, by omega, by go_num, by rw [HS.out], by rw [HUj.out], by rw [HPS.out, HUj.out]; exact hown1, HBW.out.trans hbw1⟩
                  case measure => simp [intOf]; omega
                · obtain rfl : j = k := by omega
                  have HOW := Lib.hid hown
                  have HBW := Lib.hid hbw
                  clear hown hbw
                  go_wp2
                  go_ret2
                  exact out_mk HV.out HOW.out HBW.out

theorem vShare_len (load : Int) (zs : List Int) : (vShare load zs).1.length ≤ 64 := by
  unfold vShare
  split
  · split
    · simp
    · split
      · simp
      · rw [parts_len]; omega
  · simp

set_option maxHeartbeats 2000000 in
theorem walk (load : Int) (a : Option Addr) (n cap : Nat) (z : List Int) (w : World)
    (w0 : (a = none ∧ n = 0 ∧ cap = 0 ∧ z = []) ∨ ∃ x, a = some x ∧ n ≤ cap ∧ cap ≤ maxLen ∧ z.length = cap ∧ (∀ i, i < z.length → w.cell? (x.add i) = some (.int .i64 (z.getD i 0))) ∧ ∀ n ∈ z, (Lit.int .i64 n).wf = true) :
    Calls Try.prog 11 #[.int .i64 load, .slice a n cap] w fun e w' => e = .returned (.bool true) ∧ Below w.heap.size w w' := by
  obtain ⟨zs, hr, hnc, hcm, _⟩ := Rd.of_row w0
  clear w0
  by_cases hn : n ≤ 1048576
  · have HV := Lib.hid (vShare_len load zs)
    go_enter Try.func11, Try.ntmps11
    go_wp2_with fail
    refine (toInt64S_any _ _ _ _ zs _ hn (Nat.le_refl _) hr).mono ?_
    rintro e w1 ⟨rfl, hB1, hb1⟩
    go_wp2_with fail
    refine (spec_any _ _ _ _ zs load _ hn (Nat.le_refl _) (hB1.rd 1 n (by rw [ints_len, hr.len]; omega))).mono ?_
    rintro e w2 ⟨r0, n0, c0, rfl, ho0, hb2⟩
    have hlt0 := ho0.lt
    have hb02 := hb1.trans (hb2.mono hb1.size)
    have hl0 := Lib.hid (own_len ho0)
    go_wp2_with fail
    refine (toInt64S_any _ _ _ _ zs _ hn hb02.size (hr.kept hb02)).mono ?_
    rintro e w3 ⟨rfl, hB3, hb3⟩
    have hb03 := hb02.trans (hb3.mono hb02.size)
    go_wp2_with fail
    refine (impl_any _ _ _ _ zs load _ hn (Nat.le_refl _) (hB3.rd 1 n (by rw [ints_len, hr.len]; omega))).mono ?_
    rintro e w4 ⟨r1, n1, c1, rfl, ho1, hb4⟩
    have hlt1 := ho1.lt
    have hl1 := Lib.hid (own_len ho1)
    have hb04 := hb03.trans (hb4.mono hb03.size)
    have ho0' := own_below (own_below ho0 hb3 (Nat.le_refl _)) hb4 (Nat.le_refl _)
    go_wp2_with fail
    refine (eqInt64S_self _ _ _ _ _ _ _ _ _ _ (by have := HV.out; rw [hl1.out] at this; omega) (Rd.of_own ho1) (Rd.of_own ho0')).mono ?_
    rintro e w5 ⟨rfl, hb5⟩
    have hb05 := hb04.trans (hb5.mono hb04.size)
    have ho05 := own_below ho0' hb5 (Nat.le_refl _)
    have ho15 := own_below ho1 hb5 (Nat.le_refl _)
    have hB35 := (hB3.kept hb4 hB3.lt).kept hb5 (Nat.lt_of_lt_of_le hB3.lt hb4.size)
    go_wp2_with fail
    refine (toInt64S_any _ _ _ _ zs _ hn hb05.size (hr.kept hb05)).mono ?_
    rintro e w6 ⟨rfl, hB6, hb6⟩
    have hb06 := hb05.trans (hb6.mono hb05.size)
    have hB36 := hB35.kept hb6 hB35.lt
    have ho06 := own_below ho05 hb6 (Nat.le_refl _)
    have ho16 := own_below ho15 hb6 (Nat.le_refl _)
    go_wp2_with fail
    refine (eqInt64S_self _ _ _ _ _ _ _ _ zs _ (by omega) (hB36.rd 1 n (by rw [ints_len, hr.len]; omega)) (hB6.rd 1 n (by rw [ints_len, hr.len]; omega))).mono ?_
    rintro e w7 ⟨rfl, hb7⟩
    have hb07 := hb06.trans (hb7.mono hb06.size)
    have hB37 := hB36.kept hb7 hB36.lt
    have ho07 := own_below ho06 hb7 (Nat.le_refl _)
    have ho17 := own_below ho16 hb7 (Nat.le_refl _)
    go_wp2_with fail
    refine (markInt64S_any _ _ _ w2.heap.size zs 1 _ hn (by omega) (by omega) (hB37.own 1 n _ (by rw [ints_len, hr.len]; omega) (Nat.le_refl _) (by simp only [maxLen]; omega))).mono ?_
    rintro e w8 ⟨rfl, hx8, hg8⟩
    have hb08 := hb07.trans (grown_below hg8 hb07.size (fun k hk => by simp [Value.ownBlock] at hk; subst hk; exact hb02.size))
    have ho08 := ho07.kept hg8 (by
      cases hq : (Value.slice r0 n0 c0).ownBlock with
      | none => exact .inl rfl
      | some k => right; have := (hlt0 k hq).2; simp [Value.ownBlock]; omega)
    have ho18 := ho17.kept hg8 (by
      cases hq : (Value.slice r1 n1 c1).ownBlock with
      | none => exact .inl rfl
      | some k => right; have := (hlt1 k hq).1; have := hB3.lt; simp [Value.ownBlock]; omega)
    go_wp2_with fail
    refine (eqInt64S_self _ _ _ _ _ _ _ _ _ _ (by have := HV.out; rw [hl1.out] at this; omega) (Rd.of_own ho18) (Rd.of_own ho08)).mono ?_
    rintro e w9 ⟨rfl, hb9⟩
    have hb09 := hb08.trans (hb9.mono hb08.size)
    have ho09 := own_below ho08 hb9 (Nat.le_refl _)
    have ho19 := own_below ho18 hb9 (Nat.le_refl _)
    go_wp2_with fail
    refine (markInt64S_any _ _ _ w3.heap.size _ 1 _ (by have := HV.out; rw [hl1.out] at this; omega) (by omega) (by omega) ho19).mono ?_
    rintro e w10 ⟨rfl, ho110, hg10⟩
    have hb010 := hb09.trans (grown_below hg10 hb09.size (fun k hk => Nat.le_trans hb03.size (hlt1 k hk).1))
    have ho010 := ho09.kept hg10 (by
      cases hq : (Value.slice r0 n0 c0).ownBlock with
      | none => exact .inl rfl
      | some k =>
        right
        have := (hlt0 k hq).2
        intro e
        have := (hlt1 k e.symm).1
        have := hB3.lt
        omega)
    go_wp2_with fail
    refine (heldInt64S_any _ _ _ _ 1 _ (by have := HV.out; rw [hl1.out] at this; omega) (by omega) (by omega) (Rd.of_own ho110)).mono ?_
    rintro e w' ⟨rfl, rfl⟩
    have hne : ((1 : Int) + (n1 : Int) != 1 + (n1 : Int)) = false := by simp
    have hn1 : n1 ≤ 1048576 := by have := HV.out; rw [hl1.out] at this; omega
    go_wp2_with fail
    refine (toInt64S_any _ _ _ _ zs _ hn hb010.size (hr.kept hb010)).mono ?_
    rintro e w11 ⟨rfl, hB11, hb11⟩
    have hb011 := hb010.trans (hb11.mono hb010.size)
    have ho011 := own_below ho010 hb11 (Nat.le_refl _)
    have ho111 := own_below ho110 hb11 (Nat.le_refl _)
    go_wp2_with fail
    refine (impl_any _ _ _ _ zs load _ hn (Nat.le_refl _) (hB11.rd 1 n (by rw [ints_len, hr.len]; omega))).mono ?_
    rintro e w12 ⟨r2, n2, c2, rfl, ho2, hb12⟩
    have hl2 := Lib.hid (own_len ho2)
    have ho012 := own_below ho011 hb12 (Nat.le_refl _)
    have ho112 := own_below ho111 hb12 (Nat.le_refl _)
    have hb012 := hb011.trans (hb12.mono hb011.size)
    go_wp2_with fail
    refine (eqInt64S_self _ _ _ _ _ _ _ _ _ _ (by have := HV.out; rw [hl2.out] at this; omega) (Rd.of_own ho2) (Rd.of_own ho012)).mono ?_
    rintro e w13 ⟨rfl, hb13⟩
    go_wp2_with fail
    refine (heldInt64S_any _ _ _ _ 1 _ hn1 (by omega) (by omega) (Rd.of_own (own_below ho112 hb13 (Nat.le_refl _)))).mono ?_
    rintro e w' ⟨rfl, rfl⟩
    go_wp2_with fail
    go_ret
    exact ⟨rfl, hb012.trans (hb13.mono hb012.size)⟩
  · go_enter Try.func11, Try.ntmps11
    go_wp2
    go_ret
    exact ⟨rfl, Below.refl _ _⟩
end Go.Proofs.Ytkogkkbiocejkaa.Sh
