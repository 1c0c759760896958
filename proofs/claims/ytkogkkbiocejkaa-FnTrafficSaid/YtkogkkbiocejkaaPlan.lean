/-
  PlanChannels: the program's and the reference's answers are equal.
-/
import Derived.Test.YtkogkkbiocejkaaAllw
import Derived.Test.YtkogkkbiocejkaaErl2
namespace Go.Proofs.Ytkogkkbiocejkaa.Pl
open Go.RowKit Go.Proofs.Ytkogkkbiocejkaa.Mt Go.Proofs.Ytkogkkbiocejkaa.Wk Go.Proofs.Ytkogkkbiocejkaa.Mm Go.Proofs.Ytkogkkbiocejkaa.Al Go.Proofs.Ytkogkkbiocejkaa.Sl Go.Proofs.Ytkogkkbiocejkaa.Er

def plan (g : Int) (zs : List Int) (k : Nat) : List Int := (List.range k).map fun i => chN (zs.getD i 0) g
theorem plan_len (g : Int) (zs : List Int) (k : Nat) : (plan g zs k).length = k := by simp [plan]
theorem plan_succ (g : Int) (zs : List Int) (k : Nat) : plan g zs (k + 1) = plan g zs k ++ [chN (zs.getD k 0) g] := by simp [plan, List.range_succ]
def tot (g : Int) (zs : List Int) : Nat → Int
  | 0 => 0
  | k + 1 => tot g zs k + chN (zs.getD k 0) g
theorem chN_hi (load g : Int) : chN load g ≤ 200 := by
  unfold chN
  split
  · rename_i n h
    have : ∀ (k n m : Nat), need load g k n = some m → m < n + k := by
      intro k
      induction k with
      | zero => intro n m h; cases h
      | succ k ih =>
        intro n m h
        rw [need] at h
        split at h
        · simp only [Option.some.injEq] at h; omega
        · have := ih _ _ h; omega
    have := this _ _ _ h
    omega
  · omega
theorem tot_bd (g : Int) (zs : List Int) (k : Nat) : 0 ≤ tot g zs k ∧ tot g zs k ≤ 200 * k := by
  induction k with
  | zero => simp [tot]
  | succ k ih =>
    have := chN_lo (zs.getD k 0) g
    have := chN_hi (zs.getD k 0) g
    simp only [tot]; omega
def okAll (g : Int) (zs : List Int) : Bool := zs.all fun z => chOk z g
theorem okAll_iff (g : Int) (zs : List Int) : okAll g zs = true ↔ ∀ i, i < zs.length → chOk (zs.getD i 0) g = true := by
  unfold okAll
  rw [List.all_eq_true]
  constructor
  · intro h i hi'
    have := h zs[i] (List.getElem_mem _)
    simpa [List.getD_eq_getElem?_getD, List.getElem?_eq_getElem hi'] using this
  · intro h z hz
    obtain ⟨i, hi', rfl⟩ := List.getElem_of_mem hz
    have := h i hi'
    simpa [List.getD_eq_getElem?_getD, List.getElem?_eq_getElem hi'] using this
def vPlan (zs : List Int) (g t : Int) : List Int × Int :=
  if allB zs 0 200000000 = true ∧ inB g 0 1000000 = true ∧ inB t 0 10000 = true then
    if 64 < zs.length then ([], 5) else if okAll g zs = true then (if t < tot g zs zs.length then ([], 6) else (plan g zs zs.length, 0)) else ([], 3)
  else ([], 2)
theorem vPlan_len (zs : List Int) (g t : Int) : (vPlan zs g t).1.length ≤ 64 := by
  unfold vPlan
  repeat' split
  all_goals first | simp; done | (simp only [plan_len]; omega)

set_option maxHeartbeats 1000000 in
theorem impl_any (a : Option Addr) (n cap B : Nat) (zs : List Int) (g t : Int) (w : World) (hn : n ≤ 1048576) (hB : B ≤ w.heap.size) (hr : Rd w B 1 a n (ints zs)) :
    Calls Try.prog 40 #[.slice a n cap, .int .i64 g, .int .i64 t] w (Out w (vPlan zs g t)) := by
  have hl := hr.len
  have HL := Lib.hid hl
  clear hl
  cases hall : allB zs 0 200000000
  · have HV : Hid (vPlan zs g t = ([], 2)) := by show _ = _; unfold vPlan; rw [if_neg (by simp [hall])]
    go_enter Try.func40, Try.ntmps40
    go_wp2_with (first | (go_at_call 53; refine (gradeOk_any _ _).mono ?_; rintro e w' ⟨rfl, rfl⟩) | (go_at_call 44; refine (within_any _ _ _ _).mono ?_; rintro e w' ⟨rfl, rfl⟩) | (go_at_call 59; refine (allWithin_any _ _ _ _ _ _ _ _ (by omega) hB hr).mono ?_; rintro e w' ⟨rfl, hb1⟩))
    go_ret2
    exact out_nil HV.out hb1
  · cases hg : inB g 0 1000000
    · have HV : Hid (vPlan zs g t = ([], 2)) := by show _ = _; unfold vPlan; rw [if_neg (by simp [hg])]
      go_enter Try.func40, Try.ntmps40
      go_wp2_with (first | (go_at_call 53; refine (gradeOk_any _ _).mono ?_; rintro e w' ⟨rfl, rfl⟩) | (go_at_call 44; refine (within_any _ _ _ _).mono ?_; rintro e w' ⟨rfl, rfl⟩) | (go_at_call 59; refine (allWithin_any _ _ _ _ _ _ _ _ (by omega) hB hr).mono ?_; rintro e w' ⟨rfl, hb1⟩))
      go_ret2
      exact out_nil HV.out hb1
    · cases ht : inB t 0 10000
      · have HV : Hid (vPlan zs g t = ([], 2)) := by show _ = _; unfold vPlan; rw [if_neg (by simp [ht])]
        go_enter Try.func40, Try.ntmps40
        go_wp2_with (first | (go_at_call 53; refine (gradeOk_any _ _).mono ?_; rintro e w' ⟨rfl, rfl⟩) | (go_at_call 44; refine (within_any _ _ _ _).mono ?_; rintro e w' ⟨rfl, rfl⟩) | (go_at_call 59; refine (allWithin_any _ _ _ _ _ _ _ _ (by omega) hB hr).mono ?_; rintro e w' ⟨rfl, hb1⟩))
        go_ret2
        exact out_nil HV.out hb1
      · by_cases h64 : 64 < n
        · have HV : Hid (vPlan zs g t = ([], 5)) := by show _ = _; unfold vPlan; rw [if_pos ⟨hall, hg, ht⟩, if_pos (by rw [HL.out]; exact h64)]
          go_enter Try.func40, Try.ntmps40
          go_wp2_with (first | (go_at_call 53; refine (gradeOk_any _ _).mono ?_; rintro e w' ⟨rfl, rfl⟩) | (go_at_call 44; refine (within_any _ _ _ _).mono ?_; rintro e w' ⟨rfl, rfl⟩) | (go_at_call 59; refine (allWithin_any _ _ _ _ _ _ _ _ (by omega) hB hr).mono ?_; rintro e w' ⟨rfl, hb1⟩))
          go_ret2
          exact out_nil HV.out hb1
        · have d1 : decide ((64 : Int) < (n : Int)) = false := by simp; omega
          have HD : Hid (∀ i, i < zs.length → 0 ≤ zs.getD i 0 ∧ zs.getD i 0 ≤ 200000000) := fun i hi => allB_mem hall hi
          have HV : Hid (vPlan zs g t = if okAll g zs = true then (if t < tot g zs n then ([], 6) else (plan g zs n, 0)) else ([], 3)) := by
            show _ = _; unfold vPlan; rw [if_pos ⟨hall, hg, ht⟩, if_neg (by rw [HL.out]; exact h64), HL.out]
          obtain ⟨t0, t1⟩ := inB_yes ht
          go_enter Try.func40, Try.ntmps40
          go_wp2_with (first | (go_at_call 53; refine (gradeOk_any _ _).mono ?_; rintro e w' ⟨rfl, rfl⟩) | (go_at_call 44; refine (within_any _ _ _ _).mono ?_; rintro e w' ⟨rfl, rfl⟩) | (go_at_call 59; refine (allWithin_any _ _ _ _ _ _ _ _ (by omega) hB hr).mono ?_; rintro e w' ⟨rfl, hb1⟩))
          clear d1 hall hg ht
          have hz1 := hb1.size
          have HB1 := Lib.hid hb1
          clear hb1
          go_loopw [2, 8, 10, 11, 12, 33] (fun q r x m ok i wr => ∃ j : Nat, j ≤ n ∧ i = .int .i64 (j : Int) ∧ q = .int .i64 (t - tot g zs j) ∧ (∀ i, i < j → chOk (zs.getD i 0) g = true) ∧ wr.ownsRow w.heap.size 2 1 r j (ints (plan g zs j)) ∧ Below w.heap.size w wr) (fun _ _ _ _ _ i _ => n - (intOf i).toNat)
          case atStart => exact ⟨0, Nat.zero_le _, rfl, by simp [tot], fun i hi => absurd hi (by omega), World.ownsRow_nil _ _ _ _, HB1.out⟩
          case round =>
            obtain ⟨j, hj, rfl, rfl, hall, hown, hbw⟩ := hrel
            obtain ⟨s0, s1⟩ := tot_bd g zs j
            have HA := Lib.hid hall
            have HOW := Lib.hid hown
            have HBW := Lib.hid hbw
            have hz := hbw.size
            clear hown hbw hall
            by_cases hlt : j < n
            · obtain ⟨b, off, x, rfl, hb, hc, hx⟩ := (hr.kept (HBW.out.mono hB)).atH hlt
              obtain ⟨x0, x1⟩ := HD.out j (by rw [HL.out]; omega)
              rw [hx.out] at x0 x1
              have y0 := chN_lo x g
              have y1 := chN_hi x g
              have HT : Hid (tot g zs (j + 1) = tot g zs j + chN x g) := by show _ = _; rw [← hx.out]; rfl
              have HP : Hid (plan g zs (j + 1) = plan g zs j ++ [chN x g]) := by show _ = _; rw [← hx.out]; exact plan_succ g zs j
              generalize tot g zs j = s at *
              cases hok : chOk x g
              · have HE : Hid (vPlan zs g t = ([], 3)) := by
                  show _ = _
                  rw [HV.out, if_neg]
                  intro h
                  have := (okAll_iff g zs).1 h j (by rw [HL.out]; exact hlt)
                  rw [hx.out, hok] at this; cases this
                go_wp2_with ((go_at_call 55; refine (channelsFor_any _ _ x0 x1 _).mono ?_; rintro e w' ⟨rfl, nq, rfl⟩))
                go_ret2
                exact out_nil HE.out (below_drewN HBW.out _)
              · go_wp2_with (first | (go_at_call 55; refine (channelsFor_any _ _ x0 x1 _).mono ?_; rintro e w' ⟨rfl, nq, rfl⟩) | (at_builtin; refine app1 rfl (.tmp 45) (.tmp 47) rfl w.heap.size _ _ _ _ rfl rfl (own_drewN HOW.out _) (by omega) (by simpa using hz) ?_; intro v' w1 hown1 hbw1))
                go_roundw
                case rel => exact ⟨j + 1, by omega, by go_num, by rw [HT.out]; go_num, fun i hi => by
                    rcases Nat.lt_or_eq_of_le (Nat.lt_succ_iff.1 hi) with h | h
                    · exact HA.out i h
                    · subst h; rw [hx.out, hok], by rw [HP.out]; exact hown1, HBW.out.trans ((below_drewN (Below.refl _ _) _).trans hbw1)⟩
                case measure => simp [intOf]; omega
            · obtain rfl : j = n := by omega
              have HK : Hid (okAll g zs = true) := (okAll_iff g zs).2 (fun i hi => HA.out i (by rw [HL.out] at hi; exact hi))
              by_cases hlt2 : t < tot g zs j
              · have HE : Hid (vPlan zs g t = ([], 6)) := by show _ = _; rw [HV.out, if_pos HK.out, if_pos hlt2]
                go_wp2
                go_ret2
                exact out_nil HE.out HBW.out
              · have HE : Hid (vPlan zs g t = (plan g zs j, 0)) := by show _ = _; rw [HV.out, if_pos HK.out, if_neg hlt2]
                go_wp2
                go_ret2
                exact out_mk HE.out HOW.out HBW.out

set_option maxHeartbeats 1000000 in
theorem spec_any (a : Option Addr) (n cap B : Nat) (zs : List Int) (g t : Int) (w : World) (hn : n ≤ 1048576) (hB : B ≤ w.heap.size) (hr : Rd w B 1 a n (ints zs)) :
    Calls Try.prog 41 #[.slice a n cap, .int .i64 g, .int .i64 t] w (Out w (vPlan zs g t)) := by
  have hl := hr.len
  have HL := Lib.hid hl
  clear hl
  go_enter Try.func41, Try.ntmps41
  go_wp2
  go_loop [8] (fun i => ∃ k : Nat, k ≤ n ∧ i = .int .i64 (k : Int) ∧ (∀ j, j < k → bad zs 0 200000000 j = false)) (fun i => n - (intOf i).toNat)
  case atStart => exact ⟨0, Nat.zero_le _, rfl, fun j hj => absurd hj (by omega)⟩
  case round =>
    obtain ⟨k, hk, rfl, hall⟩ := hrel
    have HA := Lib.hid hall
    clear hall
    by_cases hlt : k < n
    · obtain ⟨b, off, x, rfl, hb, hc, hx⟩ := hr.atH hlt
      cases hin : inB x 0 200000000
      · have HV : Hid (vPlan zs g t = ([], 2)) := by
          show _ = _
          unfold vPlan
          rw [if_neg]
          intro hh
          have := (allB_iff zs 0 200000000).1 hh.1 k (by rw [HL.out]; exact hlt)
          unfold bad at this
          rw [hx.out, hin] at this; cases this
        go_wp2_with ((go_at_call 42; refine (l00In_any _ _ _ _).mono ?_; rintro e w' ⟨rfl, rfl⟩))
        go_ret2
        exact out_nil HV.out (Below.refl _ _)
      · go_wp2_with ((go_at_call 42; refine (l00In_any _ _ _ _).mono ?_; rintro e w' ⟨rfl, rfl⟩))
        go_round
        case rel => exact ⟨k + 1, by omega, by go_num, fun j hj => by
            rcases Nat.lt_or_eq_of_le (Nat.lt_succ_iff.1 hj) with h | h
            · exact HA.out j h
            · subst h; unfold bad; rw [hx.out, hin]; rfl⟩
        case measure => simp [intOf]; omega
    · obtain rfl : k = n := by omega
      have hall : allB zs 0 200000000 = true := (allB_iff zs 0 200000000).2 (fun i hi => HA.out i (by rw [HL.out] at hi; exact hi))
      have HD : Hid (∀ i, i < zs.length → 0 ≤ zs.getD i 0 ∧ zs.getD i 0 ≤ 200000000) := fun i hi => allB_mem hall hi
      have HE := Lib.hid hall
      clear hall HA hlt hk
      cases hg : inB g 0 1000000
      · have HV : Hid (vPlan zs g t = ([], 2)) := by show _ = _; unfold vPlan; rw [if_neg (by simp [hg])]
        go_wp2_with ((go_at_call 42; refine (l00In_any _ _ _ _).mono ?_; rintro e w' ⟨rfl, rfl⟩))
        go_ret2
        exact out_nil HV.out (Below.refl _ _)
      · cases ht : inB t 0 10000
        · have HV : Hid (vPlan zs g t = ([], 2)) := by show _ = _; unfold vPlan; rw [if_neg (by simp [ht])]
          go_wp2_with ((go_at_call 42; refine (l00In_any _ _ _ _).mono ?_; rintro e w' ⟨rfl, rfl⟩))
          go_ret2
          exact out_nil HV.out (Below.refl _ _)
        · by_cases h64 : 64 < k
          · have HV : Hid (vPlan zs g t = ([], 5)) := by show _ = _; unfold vPlan; rw [if_pos ⟨HE.out, hg, ht⟩, if_pos (by rw [HL.out]; exact h64)]
            go_wp2_with ((go_at_call 42; refine (l00In_any _ _ _ _).mono ?_; rintro e w' ⟨rfl, rfl⟩))
            go_ret2
            exact out_nil HV.out (Below.refl _ _)
          · have d1 : decide ((64 : Int) < (k : Int)) = false := by simp; omega
            have HV : Hid (vPlan zs g t = if okAll g zs = true then (if t < tot g zs k then ([], 6) else (plan g zs k, 0)) else ([], 3)) := by
              show _ = _; unfold vPlan; rw [if_pos ⟨HE.out, hg, ht⟩, if_neg (by rw [HL.out]; exact h64), HL.out]
            obtain ⟨t0, t1⟩ := inB_yes ht
            go_wp2_with ((go_at_call 42; refine (l00In_any _ _ _ _).mono ?_; rintro e w' ⟨rfl, rfl⟩))
            clear d1 hg ht
            have HO : (w.alloc (.cells #[] 2)).ownsRow w.heap.size 2 1 (.slice (some ⟨w.heap.size, 0, none⟩) 0 0) 0 (ints (plan g zs 0)) := (Blk.new w 2 []).own 1 0 _ rfl (Nat.le_refl _) (by omega)
            have HW : Below w.heap.size w (w.alloc (.cells #[] 2)) := (Below.refl _ _).alloc (Nat.le_refl _) _
            go_loopw [2, 9, 10, 11] (fun q r i m wr => ∃ j : Nat, j ≤ k ∧ i = .int .i64 (j : Int) ∧ q = .int .i64 (t - tot g zs j) ∧ (∀ i, i < j → chOk (zs.getD i 0) g = true) ∧ wr.ownsRow w.heap.size 2 1 r j (ints (plan g zs j)) ∧ Below w.heap.size w wr) (fun _ _ i _ _ => k - (intOf i).toNat)
            case atStart => exact ⟨0, Nat.zero_le _, rfl, by simp [tot], fun i hi => absurd hi (by omega), HO, HW⟩
            case round =>
              clear HO HW
              obtain ⟨j, hj, rfl, rfl, hall, hown, hbw⟩ := hrel
              obtain ⟨s0, s1⟩ := tot_bd g zs j
              have HA := Lib.hid hall
              have HOW := Lib.hid hown
              have HBW := Lib.hid hbw
              have hz := hbw.size
              clear hown hbw hall
              by_cases hlt : j < k
              · obtain ⟨b, off, x, rfl, hb, hc, hx⟩ := (hr.kept (HBW.out.mono hB)).atH hlt
                obtain ⟨x0, x1⟩ := HD.out j (by rw [HL.out]; omega)
                rw [hx.out] at x0 x1
                have y0 := chN_lo x g
                have y1 := chN_hi x g
                have HT : Hid (tot g zs (j + 1) = tot g zs j + chN x g) := by show _ = _; rw [← hx.out]; rfl
                have HP : Hid (plan g zs (j + 1) = plan g zs j ++ [chN x g]) := by show _ = _; rw [← hx.out]; exact plan_succ g zs j
                generalize tot g zs j = s at *
                cases hok : chOk x g
                · have HX : Hid (vPlan zs g t = ([], 3)) := by
                    show _ = _
                    rw [HV.out, if_neg]
                    intro h
                    have := (okAll_iff g zs).1 h j (by rw [HL.out]; exact hlt)
                    rw [hx.out, hok] at this; cases this
                  have HS : chS x g < 0 := by unfold chS; rw [if_neg (by simp [hok])]; omega
                  go_wp2_with ((go_at_call 58; refine (l24Need_any _ _ x0 x1 _).mono ?_; rintro e w' ⟨rfl, rfl⟩))
                  go_ret2
                  exact out_nil HX.out HBW.out
                · have HSE : Hid (chS x g = chN x g) := by show _ = _; unfold chS; rw [if_pos hok]
                  have HS0 : 0 ≤ chS x g := by rw [HSE.out]; exact y0
                  have HS1 : chS x g ≤ 200 := by rw [HSE.out]; exact y1
                  go_wp2_with (first | (go_at_call 58; refine (l24Need_any _ _ x0 x1 _).mono ?_; rintro e w' ⟨rfl, rfl⟩) | (at_builtin; refine app1 rfl (.tmp 53) (.tmp 55) rfl w.heap.size _ _ _ _ rfl rfl HOW.out (by omega) hz ?_; intro v' w1 hown1 hbw1))
                  go_roundw
                  case rel => exact ⟨j + 1, by omega, by go_num, by rw [HT.out, HSE.out]; go_num, fun i hi => by
                      rcases Nat.lt_or_eq_of_le (Nat.lt_succ_iff.1 hi) with h | h
                      · exact HA.out i h
                      · subst h; rw [hx.out, hok], by rw [HP.out, ← HSE.out]; exact hown1, HBW.out.trans hbw1⟩
                  case measure => simp [intOf]; omega
              · obtain rfl : j = k := by omega
                have HK : Hid (okAll g zs = true) := (okAll_iff g zs).2 (fun i hi => HA.out i (by rw [HL.out] at hi; exact hi))
                by_cases hlt2 : t < tot g zs j
                · have HE : Hid (vPlan zs g t = ([], 6)) := by show _ = _; rw [HV.out, if_pos HK.out, if_pos hlt2]
                  go_wp2
                  go_ret2
                  exact out_nil HE.out HBW.out
                · have HE : Hid (vPlan zs g t = (plan g zs j, 0)) := by show _ = _; rw [HV.out, if_pos HK.out, if_neg hlt2]
                  go_wp2
                  go_ret2
                  exact out_mk HE.out HOW.out HBW.out

set_option maxHeartbeats 2000000 in
theorem walk (a : Option Addr) (n cap : Nat) (z : List Int) (g t : Int) (w : World)
    (w0 : (a = none ∧ n = 0 ∧ cap = 0 ∧ z = []) ∨ ∃ x, a = some x ∧ n ≤ cap ∧ cap ≤ maxLen ∧ z.length = cap ∧ (∀ i, i < z.length → w.cell? (x.add i) = some (.int .i64 (z.getD i 0))) ∧ ∀ n ∈ z, (Lit.int .i64 n).wf = true) :
    Calls Try.prog 14 #[.slice a n cap, .int .i64 g, .int .i64 t] w fun e w' => e = .returned (.bool true) ∧ Below w.heap.size w w' := by
  obtain ⟨zs, hr, hnc, hcm, _⟩ := Rd.of_row w0
  clear w0
  by_cases hn : n ≤ 1048576
  · have HV := Lib.hid (vPlan_len zs g t)
    go_enter Try.func14, Try.ntmps14
    go_wp2_with fail
    refine (toInt64S_any _ _ _ _ zs _ hn (Nat.le_refl _) hr).mono ?_
    rintro e w1 ⟨rfl, hB1, hb1⟩
    go_wp2_with fail
    refine (spec_any _ _ _ _ zs g t _ hn (Nat.le_refl _) (hB1.rd 1 n (by rw [ints_len, hr.len]; omega))).mono ?_
    rintro e w2 ⟨r0, n0, c0, rfl, ho0, hb2⟩
    have hlt0 := ho0.lt
    have hb02 := hb1.trans (hb2.mono hb1.size)
    have hl0 := Lib.hid (own_len ho0)
    go_wp2_with fail
    refine (toInt64S_any _ _ _ _ zs _ hn hb02.size (hr.kept hb02)).mono ?_
    rintro e w3 ⟨rfl, hB3, hb3⟩
    have hb03 := hb02.trans (hb3.mono hb02.size)
    go_wp2_with fail
    refine (impl_any _ _ _ _ zs g t _ hn (Nat.le_refl _) (hB3.rd 1 n (by rw [ints_len, hr.len]; omega))).mono ?_
    rintro e w4 ⟨r1, n1, c1, rfl, ho1, hb4⟩
    have hlt1 := ho1.lt
    have hl1 := Lib.hid (own_len ho1)
    have hb04 := hb03.trans (hb4.mono hb03.size)
    have ho0' := own_below (own_below ho0 hb3 (Nat.le_refl _)) hb4 (Nat.le_refl _)
    go_wp2_with fail
    refine (eqInt64S_self _ _ _ _ _ _ _ _ _ _ (by have := HV.out; rw [hl1.out] at this; omega) (Rd.of_own ho1) (Rd.of_own ho0')).mono ?_
    rintro e w5 ⟨rfl, hb5⟩
    have hb05 := hb04.trans (hb5.mono hb04.size)
    have ho05 := own_below ho0' hb5 (Nat.le_refl _)
    have ho15 := own_below ho1 hb5 (Nat.le_refl _)
    have hB35 := (hB3.kept hb4 hB3.lt).kept hb5 (Nat.lt_of_lt_of_le hB3.lt hb4.size)
    go_wp2_with fail
    refine (toInt64S_any _ _ _ _ zs _ hn hb05.size (hr.kept hb05)).mono ?_
    rintro e w6 ⟨rfl, hB6, hb6⟩
    have hb06 := hb05.trans (hb6.mono hb05.size)
    have hB36 := hB35.kept hb6 hB35.lt
    have ho06 := own_below ho05 hb6 (Nat.le_refl _)
    have ho16 := own_below ho15 hb6 (Nat.le_refl _)
    go_wp2_with fail
    refine (eqInt64S_self _ _ _ _ _ _ _ _ zs _ (by omega) (hB36.rd 1 n (by rw [ints_len, hr.len]; omega)) (hB6.rd 1 n (by rw [ints_len, hr.len]; omega))).mono ?_
    rintro e w7 ⟨rfl, hb7⟩
    have hb07 := hb06.trans (hb7.mono hb06.size)
    have hB37 := hB36.kept hb7 hB36.lt
    have ho07 := own_below ho06 hb7 (Nat.le_refl _)
    have ho17 := own_below ho16 hb7 (Nat.le_refl _)
    go_wp2_with fail
    refine (markInt64S_any _ _ _ w2.heap.size zs 1 _ hn (by omega) (by omega) (hB37.own 1 n _ (by rw [ints_len, hr.len]; omega) (Nat.le_refl _) (by simp only [maxLen]; omega))).mono ?_
    rintro e w8 ⟨rfl, hx8, hg8⟩
    have hb08 := hb07.trans (grown_below hg8 hb07.size (fun k hk => by simp [Value.ownBlock] at hk; subst hk; exact hb02.size))
    have ho08 := ho07.kept hg8 (by
      cases hq : (Value.slice r0 n0 c0).ownBlock with
      | none => exact .inl rfl
      | some k => right; have := (hlt0 k hq).2; simp [Value.ownBlock]; omega)
    have ho18 := ho17.kept hg8 (by
      cases hq : (Value.slice r1 n1 c1).ownBlock with
      | none => exact .inl rfl
      | some k => right; have := (hlt1 k hq).1; have := hB3.lt; simp [Value.ownBlock]; omega)
    go_wp2_with fail
    refine (eqInt64S_self _ _ _ _ _ _ _ _ _ _ (by have := HV.out; rw [hl1.out] at this; omega) (Rd.of_own ho18) (Rd.of_own ho08)).mono ?_
    rintro e w9 ⟨rfl, hb9⟩
    have hb09 := hb08.trans (hb9.mono hb08.size)
    have ho09 := own_below ho08 hb9 (Nat.le_refl _)
    have ho19 := own_below ho18 hb9 (Nat.le_refl _)
    go_wp2_with fail
    refine (markInt64S_any _ _ _ w3.heap.size _ 1 _ (by have := HV.out; rw [hl1.out] at this; omega) (by omega) (by omega) ho19).mono ?_
    rintro e w10 ⟨rfl, ho110, hg10⟩
    have hb010 := hb09.trans (grown_below hg10 hb09.size (fun k hk => Nat.le_trans hb03.size (hlt1 k hk).1))
    have ho010 := ho09.kept hg10 (by
      cases hq : (Value.slice r0 n0 c0).ownBlock with
      | none => exact .inl rfl
      | some k =>
        right
        have := (hlt0 k hq).2
        intro e
        have := (hlt1 k e.symm).1
        have := hB3.lt
        omega)
    go_wp2_with fail
    refine (heldInt64S_any _ _ _ _ 1 _ (by have := HV.out; rw [hl1.out] at this; omega) (by omega) (by omega) (Rd.of_own ho110)).mono ?_
    rintro e w' ⟨rfl, rfl⟩
    have hne : ((1 : Int) + (n1 : Int) != 1 + (n1 : Int)) = false := by simp
    have hn1 : n1 ≤ 1048576 := by have := HV.out; rw [hl1.out] at this; omega
    go_wp2_with fail
    refine (toInt64S_any _ _ _ _ zs _ hn hb010.size (hr.kept hb010)).mono ?_
    rintro e w11 ⟨rfl, hB11, hb11⟩
    have hb011 := hb010.trans (hb11.mono hb010.size)
    have ho011 := own_below ho010 hb11 (Nat.le_refl _)
    have ho111 := own_below ho110 hb11 (Nat.le_refl _)
    go_wp2_with fail
    refine (impl_any _ _ _ _ zs g t _ hn (Nat.le_refl _) (hB11.rd 1 n (by rw [ints_len, hr.len]; omega))).mono ?_
    rintro e w12 ⟨r2, n2, c2, rfl, ho2, hb12⟩
    have hl2 := Lib.hid (own_len ho2)
    have ho012 := own_below ho011 hb12 (Nat.le_refl _)
    have ho112 := own_below ho111 hb12 (Nat.le_refl _)
    have hb012 := hb011.trans (hb12.mono hb011.size)
    go_wp2_with fail
    refine (eqInt64S_self _ _ _ _ _ _ _ _ _ _ (by have := HV.out; rw [hl2.out] at this; omega) (Rd.of_own ho2) (Rd.of_own ho012)).mono ?_
    rintro e w13 ⟨rfl, hb13⟩
    go_wp2_with fail
    refine (heldInt64S_any _ _ _ _ 1 _ hn1 (by omega) (by omega) (Rd.of_own (own_below ho112 hb13 (Nat.le_refl _)))).mono ?_
    rintro e w' ⟨rfl, rfl⟩
    go_wp2_with fail
    go_ret
    exact ⟨rfl, hb012.trans (hb13.mono hb012.size)⟩
  · go_enter Try.func14, Try.ntmps14
    go_wp2
    go_ret
    exact ⟨rfl, Below.refl _ _⟩
end Go.Proofs.Ytkogkkbiocejkaa.Pl
