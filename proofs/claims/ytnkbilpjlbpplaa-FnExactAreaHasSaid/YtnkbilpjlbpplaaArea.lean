/-
  Areas and points: contracts of the program's and the reference's functions, and the laws on them.
-/
import Derived.Test.YtnkbilpjlbpplaaBase0
import Derived.Test.YtnkbilpjlbpplaaMem0
import Derived.Test.YtnkbilpjlbpplaaShape
import Derived.Deep.RegionHeld3
import Derived.Deep.DrawnRows
namespace Go.Proofs.Ytnkbilpjlbpplaa.Ar
open Go.RowKit Go.Proofs.Ytnkbilpjlbpplaa.Wk Go.Proofs.Ytnkbilpjlbpplaa.Mm

def areaB (w s e n : Int) : Bool := decide (0 ≤ w ∧ w ≤ e ∧ 0 ≤ s ∧ s ≤ n ∧ e ≤ 200000 ∧ n ≤ 200000)

theorem below1 (w : World) (o : Obj) : Below w.heap.size w (w.alloc o) := (Below.refl _ _).alloc (Nat.le_refl _) o
theorem below2 (w : World) (o o' : Obj) : Below w.heap.size w ((w.alloc o).alloc o') := (below1 w o).alloc (by simp) o'
theorem below3 (w : World) (o o' o'' : Obj) : Below w.heap.size w (((w.alloc o).alloc o').alloc o'') := (below2 w o o').alloc (by simp; omega) o''

set_option maxHeartbeats 400000 in
theorem l26Area_any (x y e n : Int) (w : World) :
    Calls Try.prog 47 #[.agg #[.int .i64 x, .int .i64 y, .int .i64 e, .int .i64 n]] w fun r w' => r = .returned (.bool (areaB x y e n)) ∧ Below w.heap.size w w' := by
  cases h1 : inB x 0 e
  · have HV : Hid (areaB x y e n = false) := by show _ = _; have := inB_no h1; unfold areaB; simp; omega
    go_enter Try.func47, Try.ntmps47
    go_wp2_with ((go_at_call 60; refine (l00In_any _ _ _ _).mono ?_; rintro e w' ⟨rfl, rfl⟩))
    go_ret
    exact ⟨ret_bool HV.out.symm, below1 _ _⟩
  · cases h2 : inB y 0 n
    · have HV : Hid (areaB x y e n = false) := by show _ = _; have := inB_no h2; unfold areaB; simp; omega
      go_enter Try.func47, Try.ntmps47
      go_wp2_with ((go_at_call 60; refine (l00In_any _ _ _ _).mono ?_; rintro e w' ⟨rfl, rfl⟩))
      go_ret
      exact ⟨ret_bool HV.out.symm, below1 _ _⟩
    · have i1 := inB_yes h1
      have i2 := inB_yes h2
      by_cases h3 : e ≤ 200000
      · have d3 : decide (e ≤ 200000) = true := by simp [h3]
        by_cases h4 : n ≤ 200000
        · have HV : Hid (areaB x y e n = true) := by show _ = _; unfold areaB; simp; omega
          have d4 : decide (n ≤ 200000) = true := by simp [h4]
          go_enter Try.func47, Try.ntmps47
          go_wp2_with ((go_at_call 60; refine (l00In_any _ _ _ _).mono ?_; rintro e w' ⟨rfl, rfl⟩))
          go_ret
          exact ⟨ret_bool HV.out.symm, below1 _ _⟩
        · have HV : Hid (areaB x y e n = false) := by show _ = _; unfold areaB; simp; omega
          have d4 : decide (n ≤ 200000) = false := by simp; omega
          go_enter Try.func47, Try.ntmps47
          go_wp2_with ((go_at_call 60; refine (l00In_any _ _ _ _).mono ?_; rintro e w' ⟨rfl, rfl⟩))
          go_ret
          exact ⟨ret_bool HV.out.symm, below1 _ _⟩
      · have HV : Hid (areaB x y e n = false) := by show _ = _; unfold areaB; simp; omega
        have d3 : decide (e ≤ 200000) = false := by simp; omega
        go_enter Try.func47, Try.ntmps47
        go_wp2_with ((go_at_call 60; refine (l00In_any _ _ _ _).mono ?_; rintro e w' ⟨rfl, rfl⟩))
        go_ret
        exact ⟨ret_bool HV.out.symm, below1 _ _⟩

set_option maxHeartbeats 400000 in
theorem ValidArea_any (x y e n : Int) (w : World) :
    Calls Try.prog 16 #[.agg #[.int .i64 x, .int .i64 y, .int .i64 e, .int .i64 n]] w fun r w' => r = .returned (.bool (areaB x y e n)) ∧ Below w.heap.size w w' := by
  cases h1 : inB x 0 e
  · have HV : Hid (areaB x y e n = false) := by show _ = _; have := inB_no h1; unfold areaB; simp; omega
    go_enter Try.func16, Try.ntmps16
    go_wp2_with ((go_at_call 48; refine (within_any _ _ _ _).mono ?_; rintro e w' ⟨rfl, rfl⟩))
    go_ret
    exact ⟨ret_bool HV.out.symm, below1 _ _⟩
  · cases h2 : inB y 0 n
    · have HV : Hid (areaB x y e n = false) := by show _ = _; have := inB_no h2; unfold areaB; simp; omega
      go_enter Try.func16, Try.ntmps16
      go_wp2_with ((go_at_call 48; refine (within_any _ _ _ _).mono ?_; rintro e w' ⟨rfl, rfl⟩))
      go_ret
      exact ⟨ret_bool HV.out.symm, below1 _ _⟩
    · have i1 := inB_yes h1
      have i2 := inB_yes h2
      by_cases h3 : e ≤ 200000
      · have d3 : decide (e ≤ 200000) = true := by simp [h3]
        by_cases h4 : n ≤ 200000
        · have HV : Hid (areaB x y e n = true) := by show _ = _; unfold areaB; simp; omega
          have d4 : decide (n ≤ 200000) = true := by simp [h4]
          go_enter Try.func16, Try.ntmps16
          go_wp2_with ((go_at_call 48; refine (within_any _ _ _ _).mono ?_; rintro e w' ⟨rfl, rfl⟩))
          go_ret
          exact ⟨ret_bool HV.out.symm, below1 _ _⟩
        · have HV : Hid (areaB x y e n = false) := by show _ = _; unfold areaB; simp; omega
          have d4 : decide (n ≤ 200000) = false := by simp; omega
          go_enter Try.func16, Try.ntmps16
          go_wp2_with ((go_at_call 48; refine (within_any _ _ _ _).mono ?_; rintro e w' ⟨rfl, rfl⟩))
          go_ret
          exact ⟨ret_bool HV.out.symm, below1 _ _⟩
      · have HV : Hid (areaB x y e n = false) := by show _ = _; unfold areaB; simp; omega
        have d3 : decide (e ≤ 200000) = false := by simp; omega
        go_enter Try.func16, Try.ntmps16
        go_wp2_with ((go_at_call 48; refine (within_any _ _ _ _).mono ?_; rintro e w' ⟨rfl, rfl⟩))
        go_ret
        exact ⟨ret_bool HV.out.symm, below1 _ _⟩

set_option maxHeartbeats 400000 in
theorem specValidArea_any (x y e n : Int) (w : World) :
    Calls Try.prog 14 #[.agg #[.int .i64 x, .int .i64 y, .int .i64 e, .int .i64 n]] w fun r w' => r = .returned (.bool (areaB x y e n)) ∧ Below w.heap.size w w' := by
  go_enter Try.func14, Try.ntmps14
  go_wp2_with ((go_at_call 47; refine (l26Area_any _ _ _ _ _).mono ?_; rintro e w' ⟨rfl, hb⟩))
  go_ret
  exact ⟨rfl, (below1 _ _).trans (hb.mono (by simp))⟩

set_option maxHeartbeats 400000 in
theorem toArea_any (x y e n : Int) (w : World) :
    Calls Try.prog 15 #[.agg #[.int .i64 x, .int .i64 y, .int .i64 e, .int .i64 n]] w fun r w' => r = .returned (.agg #[.int .i64 x, .int .i64 y, .int .i64 e, .int .i64 n]) ∧ Below w.heap.size w w' := by
  go_enter Try.func15, Try.ntmps15
  go_wp2
  exact bodyPost_ret (v := .agg #[.int .i64 x, .int .i64 y, .int .i64 e, .int .i64 n]) (by simp [results, Try.results15, go_sem]) rfl ⟨rfl, below3 _ _ _ _⟩

set_option maxHeartbeats 400000 in
theorem walkValidArea (x y e n : Int) (w : World) :
    Calls Try.prog 3 #[.agg #[.int .i64 x, .int .i64 y, .int .i64 e, .int .i64 n]] w fun r w' => r = .returned (.bool true) ∧ Below w.heap.size w w' := by
  go_enter Try.func3, Try.ntmps3
  go_wp2_with fail
  refine (toArea_any _ _ _ _ _).mono ?_
  rintro r w1 ⟨rfl, hb1⟩
  go_wp2_with fail
  refine (specValidArea_any _ _ _ _ _).mono ?_
  rintro r w2 ⟨rfl, hb2⟩
  have hz1 := hb1.size
  have hb02 := hb1.trans (hb2.mono hb1.size)
  obtain ⟨hc, hf⟩ := cells_kept hb02
  go_wp2_with fail
  refine (toArea_any _ _ _ _ _).mono ?_
  rintro r w3 ⟨rfl, hb3⟩
  go_wp2_with fail
  refine (ValidArea_any _ _ _ _ _).mono ?_
  rintro r w4 ⟨rfl, hb4⟩
  have hb04 := hb02.trans ((hb3.trans (hb4.mono hb3.size)).mono hb02.size)
  go_wp2
  go_ret
  exact ⟨rfl, (below1 _ _).trans (hb04.mono (by simp))⟩


theorem closeValidArea (v : Value) (w : World) (h : Fr.IsArea w v) : Calls Try.prog 3 #[v] w fun r w' => r = .returned (.bool true) ∧ Below w.heap.size w w' := by
  obtain ⟨x, y, e, n, rfl, _⟩ := h
  exact walkValidArea x y e n w

set_option maxHeartbeats 400000 in
theorem toPoint_any (x y : Int) (w : World) :
    Calls Try.prog 18 #[.agg #[.int .i64 x, .int .i64 y]] w fun r w' => r = .returned (.agg #[.int .i64 x, .int .i64 y]) ∧ Below w.heap.size w w' := by
  go_enter Try.func18, Try.ntmps18
  go_wp2
  exact bodyPost_ret (v := .agg #[.int .i64 x, .int .i64 y]) (by simp [results, Try.results18, go_sem]) rfl ⟨rfl, below3 _ _ _ _⟩

def hasB (x y e n a b : Int) : Bool := inB a x e && inB b y n

set_option maxHeartbeats 400000 in
theorem l26Has_any (x y e n a b : Int) (w : World) :
    Calls Try.prog 49 #[.agg #[.int .i64 x, .int .i64 y, .int .i64 e, .int .i64 n], .agg #[.int .i64 a, .int .i64 b]] w fun r w' => r = .returned (.bool (hasB x y e n a b)) ∧ Below w.heap.size w w' := by
  cases h1 : inB a x e
  · go_enter Try.func49, Try.ntmps49
    go_wp2_with ((go_at_call 60; refine (l00In_any _ _ _ _).mono ?_; rintro e w' ⟨rfl, rfl⟩))
    go_ret
    exact ⟨ret_bool (by simp [hasB, h1]), below2 _ _ _⟩
  · go_enter Try.func49, Try.ntmps49
    go_wp2_with ((go_at_call 60; refine (l00In_any _ _ _ _).mono ?_; rintro e w' ⟨rfl, rfl⟩))
    go_ret
    exact ⟨ret_bool (by simp [hasB, h1]), below2 _ _ _⟩

def areaHasB (x y e n a b : Int) : Bool := areaB x y e n && hasB x y e n a b

set_option maxHeartbeats 400000 in
theorem specAreaHas_any (x y e n a b : Int) (w : World) :
    Calls Try.prog 17 #[.agg #[.int .i64 x, .int .i64 y, .int .i64 e, .int .i64 n], .agg #[.int .i64 a, .int .i64 b]] w fun r w' => r = .returned (.bool (areaHasB x y e n a b)) ∧ Below w.heap.size w w' := by
  cases h1 : areaB x y e n
  · go_enter Try.func17, Try.ntmps17
    go_wp2_with ((go_at_call 47; refine (l26Area_any _ _ _ _ _).mono ?_; rintro e w' ⟨rfl, hb⟩))
    go_ret
    exact ⟨ret_bool (by simp [areaHasB, h1]), (below2 _ _ _).trans (hb.mono (by simp; omega))⟩
  · go_enter Try.func17, Try.ntmps17
    go_wp2_with fail
    refine (l26Area_any _ _ _ _ _).mono ?_
    rintro r w1 ⟨rfl, hb⟩
    obtain ⟨hc, hf⟩ := cells_kept hb
    have hz := hb.size
    go_wp2_with fail
    refine (l26Has_any _ _ _ _ _ _ _).mono ?_
    rintro r w2 ⟨rfl, hb2⟩
    go_wp2_with fail
    go_ret
    exact ⟨ret_bool (by simp [areaHasB, h1]), (below2 _ _ _).trans ((hb.trans (hb2.mono hz)).mono (by simp; omega))⟩

set_option maxHeartbeats 400000 in
theorem implAreaHas_any (x y e n a b : Int) (w : World) :
    Calls Try.prog 19 #[.agg #[.int .i64 x, .int .i64 y, .int .i64 e, .int .i64 n], .agg #[.int .i64 a, .int .i64 b]] w fun r w' => r = .returned (.bool (areaHasB x y e n a b)) ∧ Below w.heap.size w w' := by
  cases h1 : areaB x y e n
  · go_enter Try.func19, Try.ntmps19
    go_wp2_with ((go_at_call 16; refine (ValidArea_any _ _ _ _ _).mono ?_; rintro e w' ⟨rfl, hb⟩))
    go_ret
    exact ⟨ret_bool (by simp [areaHasB, h1]), (below2 _ _ _).trans (hb.mono (by simp; omega))⟩
  · cases h2 : inB a x e
    · go_enter Try.func19, Try.ntmps19
      go_wp2_with fail
      refine (ValidArea_any _ _ _ _ _).mono ?_
      rintro r w1 ⟨rfl, hb⟩
      obtain ⟨hc, hf⟩ := cells_kept hb
      have hz := hb.size
      go_wp2_with ((go_at_call 48; refine (within_any _ _ _ _).mono ?_; rintro e w' ⟨rfl, rfl⟩))
      go_ret
      exact ⟨ret_bool (by simp [areaHasB, hasB, h1, h2]), (below2 _ _ _).trans (hb.mono (by simp; omega))⟩
    · go_enter Try.func19, Try.ntmps19
      go_wp2_with fail
      refine (ValidArea_any _ _ _ _ _).mono ?_
      rintro r w1 ⟨rfl, hb⟩
      obtain ⟨hc, hf⟩ := cells_kept hb
      have hz := hb.size
      go_wp2_with ((go_at_call 48; refine (within_any _ _ _ _).mono ?_; rintro e w' ⟨rfl, rfl⟩))
      go_ret
      exact ⟨ret_bool (by simp [areaHasB, hasB, h1, h2]), (below2 _ _ _).trans (hb.mono (by simp; omega))⟩

set_option maxHeartbeats 1000000 in
theorem walkAreaHas (x y e n a b : Int) (w : World) :
    Calls Try.prog 4 #[.agg #[.int .i64 x, .int .i64 y, .int .i64 e, .int .i64 n], .agg #[.int .i64 a, .int .i64 b]] w fun r w' => r = .returned (.bool true) ∧ Below w.heap.size w w' := by
  go_enter Try.func4, Try.ntmps4
  go_wp2_with fail
  generalize hg : (w.alloc (.cells #[.int .i64 x, .int .i64 y, .int .i64 e, .int .i64 n] 23)).alloc (.cells #[.int .i64 a, .int .i64 b] 29) = W0
  have h00 : Below w.heap.size w W0 := by rw [← hg]; exact below2 _ _ _
  have hz0 : w.heap.size + 2 ≤ W0.heap.size := by rw [← hg]; simp
  have s0 : W0.cell? ⟨w.heap.size, 0, none⟩ = some (.int .i64 x) := by rw [← hg]; simp
  have s1 : W0.cell? ⟨w.heap.size, 1, none⟩ = some (.int .i64 y) := by rw [← hg]; simp
  have s2 : W0.cell? ⟨w.heap.size, 2, none⟩ = some (.int .i64 e) := by rw [← hg]; simp
  have s3 : W0.cell? ⟨w.heap.size, 3, none⟩ = some (.int .i64 n) := by rw [← hg]; simp
  have s4 : W0.cell? ⟨w.heap.size + 1, 0, none⟩ = some (.int .i64 a) := by rw [← hg]; simp
  have s5 : W0.cell? ⟨w.heap.size + 1, 1, none⟩ = some (.int .i64 b) := by rw [← hg]; simp
  have h01 : Below W0.heap.size W0 W0 := Below.refl _ _
  clear hg
  have hz1 : w.heap.size < W0.heap.size := by omega
  have hz2 : w.heap.size + 1 < W0.heap.size := by omega
  go_region_held3 (fun w' => (∀ b o, b < W0.heap.size → w'.cell? ⟨b, o, none⟩ = W0.cell? ⟨b, o, none⟩) ∧ Below W0.heap.size W0 w') (first | exact keepB (by assumption) (by assumption) | exact keep0 (by assumption))
    (first | (go_at_call 15; refine (toArea_any _ _ _ _ _).mono ?_; rintro r w1 ⟨rfl, hb1⟩) | (go_at_call 18; refine (toPoint_any _ _ _).mono ?_; rintro r w2 ⟨rfl, hb2⟩) | (go_at_call 17; refine (specAreaHas_any _ _ _ _ _ _ _).mono ?_; rintro r w3 ⟨rfl, hb3⟩))
  obtain ⟨hc3, hb03⟩ : (∀ b o, b < W0.heap.size → w3.cell? ⟨b, o, none⟩ = W0.cell? ⟨b, o, none⟩) ∧ Below W0.heap.size W0 w3 := by assumption
  go_wp2_with fail
  go_region_held3 (fun w' => (∀ b o, b < W0.heap.size → w'.cell? ⟨b, o, none⟩ = W0.cell? ⟨b, o, none⟩) ∧ Below W0.heap.size W0 w') (first | exact keepB (by assumption) (by assumption) | exact ⟨fun b o h => hc3 b o h, hb03.drew⟩)
    (first | (go_at_call 15; refine (toArea_any _ _ _ _ _).mono ?_; rintro r w4 ⟨rfl, hb4⟩) | (go_at_call 18; refine (toPoint_any _ _ _).mono ?_; rintro r w5 ⟨rfl, hb5⟩) | (go_at_call 19; refine (implAreaHas_any _ _ _ _ _ _ _).mono ?_; rintro r w6 ⟨rfl, hb6⟩))
  have hend : (∀ b o, b < W0.heap.size → w6.cell? ⟨b, o, none⟩ = W0.cell? ⟨b, o, none⟩) ∧ Below W0.heap.size W0 w6 := by assumption
  have he := h00.trans (hend.2.mono (by omega))
  clear hend hc3
  go_wp2
  go_ret
  exact ⟨rfl, he⟩

theorem closeAreaHas (v v' : Value) (w : World) (h : Fr.IsArea w v) (h' : Fr.IsPoint w v') : Calls Try.prog 4 #[v, v'] w fun r w' => r = .returned (.bool true) ∧ Below w.heap.size w w' := by
  obtain ⟨x, y, e, n, rfl, _⟩ := h
  obtain ⟨a, b, rfl, _⟩ := h'
  exact walkAreaHas x y e n a b w

end Go.Proofs.Ytnkbilpjlbpplaa.Ar
