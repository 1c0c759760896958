/-
  What the law FnBands rests on, part 4.
-/
import Derived.Test.YtmnklmaefoidbaaDoorZFnBands3
namespace Go.Proofs.YtmnklmaefoidbaaDoor.Bd
open Go Go.RowKit Go.Proofs.YtmnklmaefoidbaaDoor.Aw Go.Proofs.YtmnklmaefoidbaaDoor.Dc Go.Proofs.YtmnklmaefoidbaaDoor.Ba Go.Proofs.YtmnklmaefoidbaaDoor.In Go.Proofs.YtmnklmaefoidbaaDoor.Sr
set_option linter.unusedSimpArgs false
set_option linter.unusedVariables false
attribute [local irreducible] AW SQ Step RO RC DE Thn InB
theorem cod_ok {b : Band} {x : Int} (h : cod b x = 0) : okB b = true ∧ hasB b x = true := by
  unfold cod at h
  split at h
  · rename_i h1
    split at h
    · rename_i h2; exact ⟨h1, h2⟩
    · cases h
  · cases h
theorem hasB_iff {b : Band} (h : okB b = true) (x : Int) : hasB b x = true ↔ 0 ≤ x ∧ x < cnt b := by
  have hcb := cnt_bd h
  have w0 : IntKind.i64.wrap (cnt b - 1) = cnt b - 1 := IntWalk.i64_in _ (by omega)
  unfold hasB inB
  rw [w0]
  simp only [Bool.and_eq_true, decide_eq_true_eq]
  omega
theorem bn_math {b : Band} {x y : Int} (h : okB b = true) (hx : hasB b x = true) (hy : hasB b y = true) :
    cod2 b x b y = 0 ∧ cl b x b y = (x == y) ∧ (y ≤ x → ofs b x b y = (x - y) * b.ra) ∧ (x < y → ofs b x b y = (y - x) * b.ra) := by
  have h2 : cod2 b x b y = 0 := by unfold cod2; rw [if_pos ⟨h, h⟩, if_pos ⟨hx, hy⟩]
  obtain ⟨X, eX, a1, a2, a3, a4, a5, a6, a7, a8, a9⟩ := chan h hx
  obtain ⟨Y, eY, b1, b2, b3, b4, b5, b6, b7, b8, b9⟩ := chan h hy
  have e1 : cl b x b y = (decide (b.lo + X < b.lo + Y + b.ra) && decide (b.lo + Y < b.lo + X + b.ra)) := by unfold cl; rw [h2, a7, a8, b7, b8]; rfl
  have wd : IntKind.i64.wrap (mid b x - mid b y) = X - Y := by rw [a9, b9, show b.lo + X + b.ra / 2 - (b.lo + Y + b.ra / 2) = X - Y by omega]; exact IntWalk.i64_in _ (by omega)
  have e3 : ofs b x b y = mxI (X - Y) (-(X - Y)) := by
    unfold ofs
    rw [if_pos h2, wd]
    unfold absW
    rw [Int.zero_sub, IntWalk.i64_in (-(X - Y)) (by omega)]
  have l1 : x < y → X + b.ra ≤ Y := fun hlt => by
    have : (x + 1) * b.ra ≤ y * b.ra := Int.mul_le_mul_of_nonneg_right (by omega) (by omega)
    rw [Int.add_mul, Int.one_mul] at this; omega
  have l2 : y < x → Y + b.ra ≤ X := fun hlt => by
    have : (y + 1) * b.ra ≤ x * b.ra := Int.mul_le_mul_of_nonneg_right (by omega) (by omega)
    rw [Int.add_mul, Int.one_mul] at this; omega
  have l3 : x = y → X = Y := fun he => by rw [eX, eY, he]
  refine ⟨h2, ?_, fun hle => ?_, fun hlt => ?_⟩
  · rw [e1]
    rcases Int.lt_trichotomy x y with hlt | he | hgt
    · have := l1 hlt
      rw [show (x == y) = false by simp; omega]
      simp; omega
    · have := l3 he
      rw [show (x == y) = true by simpa using he]
      simp; omega
    · have := l2 hgt
      rw [show (x == y) = false by simp; omega]
      simp; omega
  · rw [e3, Int.sub_mul, ← eX, ← eY]
    have : Y ≤ X := by
      rcases Int.lt_or_eq_of_le hle with h | h
      · have := l2 h; omega
      · have := l3 h.symm; omega
    unfold mxI; split <;> omega
  · rw [e3, Int.sub_mul, ← eX, ← eY]
    have := l1 hlt
    unfold mxI; split <;> omega
set_option maxHeartbeats 4000000 in
theorem lawFnBands_ro (cs ds : List Int) (hc : ∀ b ∈ cs, 0 ≤ b ∧ b ≤ 255) (hn : cs.length ≤ 9223372036854775807) (hd : ∀ b ∈ ds, 0 ≤ b ∧ b ≤ 255) (hm : ds.length ≤ 9223372036854775807) (k : Nat) : RO Tryd.prog 3 [.dsl 1 (byL cs), .dsl 1 (byL ds)] k (.v (.bool true)) [] k := by
  have hL := b10Long_ro cs
  have hL2 := b10Long_ro ds
  cases hl : decide (1048576 < (((byL cs).length : Nat) : Int)) with
  | true =>
    rw [hl] at hL
    refine RO.ofv' Tryd.func3 Tryd.ntmps3 rfl (goFn_of Tryd.func3 rfl (by kernel_rfl)) rfl rfl ?_
    ((repeat' (first
    | (show SQ _ _ _ _ _ _ _ _; first | apply sq_nil | (apply q_move; exact rfl; exact rfl) | (apply q_assign; exact rfl; exact rfl) | (apply q_pick_t; exact rfl; exact rfl; exact rfl; exact (by first | assumption | exact rfl)) | (apply q_s; exact rfl; exact rfl; exact rfl; exact rfl; exact rfl))
    | (show SQ _ _ _ _ _ _ _ _; (first | (apply q_callU; exact rfl; exact rfl; exact rfl; exact FzL.of rfl; exact hL _)); (try simp only [put, rowsOf, plR, List.all_cons, selE, ovr, setH, del, cellsA, splice, isV, List.nil_append, List.cons_append, List.map_cons, List.map_nil, List.length_cons, List.length_nil, List.set_cons_zero, List.set_cons_succ, List.take_succ_cons, List.take_zero, List.take_nil, List.drop_succ_cons, List.drop_zero, List.drop_nil, List.append_nil, List.all_cons, List.all_nil, Bool.and_true, Bool.true_and, Bool.and_false, Bool.false_and, Nat.reduceAdd, Nat.zero_add, Nat.add_zero, Nat.reduceEqDiff, if_true, if_false, reduceIte]))
    | (show AW _ _ _ _ _ _ _ _; first | refine aw_region ?_ | (refine aw_seqk ?_; intro K hK) | (apply aw_cond_t; exact rfl; exact rfl) | refine aw_ret ?_)
    | refine thn_n ?_
    | (refine hK _ _ _ ?_; clear hK K)
    | refine thn_r ?_)); all_goals (repeat (clear hK K)))
    all_goals exact fin_r (fin_b rfl rfl)
  | false =>
  cases hl2 : decide (1048576 < (((byL ds).length : Nat) : Int)) with
  | true =>
    rw [hl] at hL
    rw [hl2] at hL2
    refine RO.ofv' Tryd.func3 Tryd.ntmps3 rfl (goFn_of Tryd.func3 rfl (by kernel_rfl)) rfl rfl ?_
    ((repeat' (first
    | (show SQ _ _ _ _ _ _ _ _; first | apply sq_nil | (apply q_move; exact rfl; exact rfl) | (apply q_assign; exact rfl; exact rfl) | (apply q_pick_f; exact rfl; exact rfl; exact rfl; exact (by first | assumption | exact rfl)) | (apply q_g; exact rfl; exact rfl; exact rfl; exact rfl))
    | (show SQ _ _ _ _ _ _ _ _; (first | (apply q_callU; exact rfl; exact rfl; exact rfl; exact FzL.of rfl; exact hL _) | (apply q_callU; exact rfl; exact rfl; exact rfl; exact FzL.of rfl; exact hL2 _)); (try simp only [put, rowsOf, plR, List.all_cons, selE, ovr, setH, del, cellsA, splice, isV, List.nil_append, List.cons_append, List.map_cons, List.map_nil, List.length_cons, List.length_nil, List.set_cons_zero, List.set_cons_succ, List.take_succ_cons, List.take_zero, List.take_nil, List.drop_succ_cons, List.drop_zero, List.drop_nil, List.append_nil, List.all_cons, List.all_nil, Bool.and_true, Bool.true_and, Bool.and_false, Bool.false_and, Nat.reduceAdd, Nat.zero_add, Nat.add_zero, Nat.reduceEqDiff, if_true, if_false, reduceIte]))
    | (show AW _ _ _ _ _ _ _ _; first | refine aw_region ?_ | (refine aw_seqk ?_; intro K hK) | (apply aw_cond_t; exact rfl; exact rfl) | refine aw_ret ?_)
    | refine thn_n ?_
    | (refine hK _ _ _ ?_; clear hK K)
    | refine thn_r ?_)); all_goals (repeat (clear hK K)))
    all_goals exact fin_r (fin_b rfl rfl)
  | false =>
    rw [hl] at hL
    rw [hl2] at hL2
    obtain ⟨b, x, hb, hD⟩ := DrawFreq_ex cs hc hn
    have sb : b.sm := by unfold Band.sm; omega
    have c1 := ChannelFrequency_ro b x sb
    by_cases h0 : cod b x = 0
    · obtain ⟨ob, hx⟩ := cod_ok h0
      rw [h0, show frq b x = mid b x by unfold frq; rw [if_pos h0]] at c1
      have hcb := cnt_bd ob
      have c2 := ChannelCount_ro b sb ob
      have c3 := ChannelAt_ro b x sb ob hx
      obtain ⟨N, hN⟩ : ∃ N : Nat, cnt b = N := ⟨(cnt b).toNat, by omega⟩
      have c4 := ChannelsWithin_ro b sb ob N hN
      have c5 := BandText_ro b sb ob
      have c6 := ReadBand_ro b sb ob
      have c7 := SameBand_ro b sb
      have c8 := b10At_ro ds hd hm 0 (cnt b) (by omega) (by omega) (by omega)
      have hy := bt8_bd ds 0 (cnt b) (by omega)
      generalize bt8 ds 0 (cnt b) = y at *
      have hyB := (hasB_iff ob y).2 hy
      have hx2 := (hasB_iff ob x).1 hx
      obtain ⟨m0, m1, m2, m3⟩ := bn_math ob hx hyB
      have c9 := ChannelsClash_ro b x b y sb sb
      have c10 := OffsetOf_ro b x b y sb sb
      have c11 := PartnerFrequency_ro b x sb
      rw [m0, m1] at c9
      rw [m0] at c10
      rw [hN] at c2 c8 hy hx2 hcb
      generalize wtx (bandW b) = J at *
      have e1 : decide ((N : Int) < 1) = false := by simp; omega
      have e2 : decide ((N : Int) ≤ x) = false := by simp; omega
      have e3 : (x != x) = false := by simp
      have e4 : ((N : Int) != N) = false := by simp
      have e5 : ((x == y) != (x == y)) = false := by simp
      have wxy : IntKind.i64.wrap (x - y) = x - y := IntWalk.i64_in _ (by omega)
      obtain ⟨X, eX, r1, r2, r3, r4, r5, r6, r7, r8, r9⟩ := chan ob hx
      have hdu := (okB_in ob).2.2.2.2
      have mulB : ∀ z : Int, 0 ≤ z → z ≤ 1000 → IntKind.i64.wrap (z * b.ra) = z * b.ra := fun z z0 z1 => by
        have p0 : 0 ≤ z * b.ra := Int.mul_nonneg z0 (by omega)
        have p1 : z * b.ra ≤ 1000 * 100000 := Int.mul_le_mul z1 r4 (by omega) (by omega)
        exact IntWalk.i64_in _ (by omega)
      have hdec : (x < y ∧ decide (IntKind.i64.wrap (x - y) < 0) = true ∧ ((ofs b x b y) != IntKind.i64.wrap (IntKind.i64.wrap (0 - IntKind.i64.wrap (x - y)) * b.ra)) = false) ∨
          (¬ x < y ∧ decide (IntKind.i64.wrap (x - y) < 0) = false ∧ ((ofs b x b y) != IntKind.i64.wrap (IntKind.i64.wrap (x - y) * b.ra)) = false) := by
        by_cases hlt : x < y
        · refine .inl ⟨hlt, by rw [wxy]; simp; omega, ?_⟩
          rw [m3 hlt, wxy, show (0 : Int) - (x - y) = y - x by omega, IntWalk.i64_in (y - x) (by omega), mulB _ (by omega) (by omega)]
          simp
        · refine .inr ⟨hlt, by rw [wxy]; simp; omega, ?_⟩
          rw [m2 (by omega), wxy, mulB _ (by omega) (by omega)]
          simp
      generalize ofs b x b y = D at *
      have hpar : par b x = if b.du = 0 then (0, 6) else (IntKind.i64.wrap (mid b x + b.du), 0) := by unfold par; rw [if_pos h0]
      by_cases hd0 : b.du = 0
      · rw [hpar, if_pos hd0] at c11
        have g1 : (b.du == 0) = true := by simpa using hd0
        unfold baL at *
        rcases hdec with ⟨hlt, d1, d2⟩ | ⟨hlt, d1, d2⟩
        · refine RO.ofv' Tryd.func3 Tryd.ntmps3 rfl (goFn_of Tryd.func3 rfl (by kernel_rfl)) rfl rfl ?_
          ((repeat' (first
    | (show SQ _ _ _ _ _ _ _ _; first | apply sq_nil | (apply q_move; exact rfl; exact rfl) | (apply q_assign; exact rfl; exact rfl) | (apply q_pick_f; exact rfl; exact rfl; exact rfl; exact (by first | assumption | exact rfl)) | (apply q_fieldAddr; exact rfl; exact rfl; exact (ty rfl); exact rfl; exact rfl; exact rfl; exact rfl) | (apply q_not; exact rfl; exact rfl) | (apply q_neg; exact rfl; exact rfl) | (apply q_ext; exact rfl; exact rfl; exact rfl) | (apply q_lenl; exact rfl; exact rfl; exact (ty rfl); exact rfl) | (apply q_sub; exact rfl; exact rfl; exact rfl) | (apply q_mul; exact rfl; exact rfl; exact rfl) | (apply q_eql; exact rfl; exact rfl; exact rfl) | (apply q_neq; exact rfl; exact rfl; exact rfl) | (apply q_lss; exact rfl; exact rfl; exact rfl) | (apply q_geq; exact rfl; exact rfl; exact rfl) | (apply q_bneq; exact rfl; exact rfl; exact rfl; exact (ty rfl); exact rfl) | (apply q_ld1p; exact rfl; exact rfl; exact (ty rfl); exact rfl; exact rfl; exact (by first | rfl | assumption | ((try simp only [Nat.zero_add]); refine List.getElem?_set_self ?_; (try simp only [List.length_set]); assumption)); exact rfl) | (apply q_g; exact rfl; exact rfl; exact rfl; exact (by assumption)) | (apply q_g; exact rfl; exact rfl; exact rfl; exact rfl))
    | (show SQ _ _ _ _ _ _ _ _; (first | (apply q_ldap; exact rfl; exact rfl; exact (ty rfl); exact rfl; exact rfl; exact (by first | rfl | assumption | ((try simp only [Nat.zero_add]); refine List.getElem?_set_self ?_; (try simp only [List.length_set]); assumption)); exact rfl) | (apply q_alloc; exact rfl; exact (ty rfl); exact rfl; exact rfl) | (apply q_store; exact rfl; exact rfl; exact (ty rfl); exact rfl; exact (by first | rfl | assumption | ((try simp only [Nat.zero_add]); refine List.getElem?_set_self ?_; (try simp only [List.length_set]); assumption)); exact rfl; exact rfl; exact rfl) | (apply q_callU; exact rfl; exact rfl; exact rfl; exact FzL.of rfl; exact hL _) | (apply q_callU; exact rfl; exact rfl; exact rfl; exact FzL.of rfl; exact hL2 _) | (apply q_callU; exact rfl; exact rfl; exact rfl; exact FzL.of rfl; exact hD _) | (apply q_callU; exact rfl; exact rfl; exact rfl; exact FzL.of rfl; exact c1 _) | (apply q_callU; exact rfl; exact rfl; exact rfl; exact FzL.of rfl; exact c2 _) | (apply q_callU; exact rfl; exact rfl; exact rfl; exact FzL.of rfl; exact c3 _) | (apply q_callU; exact rfl; exact rfl; exact rfl; exact FzL.of rfl; exact c4 _) | (apply q_callU; exact rfl; exact rfl; exact rfl; exact FzL.of rfl; exact c5 _) | (apply q_callU; exact rfl; exact rfl; exact rfl; exact FzL.of rfl; exact c6 _) | (apply q_callU; exact rfl; exact rfl; exact rfl; exact FzL.of rfl; exact c7 _) | (apply q_callU; exact rfl; exact rfl; exact rfl; exact FzL.of rfl; exact c8 _) | (apply q_callU; exact rfl; exact rfl; exact rfl; exact FzL.of rfl; exact c9 _) | (apply q_callU; exact rfl; exact rfl; exact rfl; exact FzL.of rfl; exact c10 _) | (apply q_callU; exact rfl; exact rfl; exact rfl; exact FzL.of rfl; exact c11 _)); (try simp only [put, rowsOf, plR, List.all_cons, selE, ovr, setH, del, cellsA, splice, isV, List.nil_append, List.cons_append, List.map_cons, List.map_nil, List.length_cons, List.length_nil, List.set_cons_zero, List.set_cons_succ, List.take_succ_cons, List.take_zero, List.take_nil, List.drop_succ_cons, List.drop_zero, List.drop_nil, List.append_nil, List.all_cons, List.all_nil, Bool.and_true, Bool.true_and, Bool.and_false, Bool.false_and, Nat.reduceAdd, Nat.zero_add, Nat.add_zero, Nat.reduceEqDiff, if_true, if_false, reduceIte]))
    | (show AW _ _ _ _ _ _ _ _; first | refine aw_region ?_ | (refine aw_seqk ?_; intro K hK) | (apply aw_cond_f; exact rfl; exact rfl) | (apply aw_cond_t; exact rfl; exact (by assumption)) | (apply aw_cond_f; exact rfl; exact (by assumption)) | refine aw_ret ?_ | refine aw_skip ?_)
    | refine thn_n ?_
    | (refine hK _ _ _ ?_; clear hK K)
    | refine thn_r ?_)); all_goals (repeat (clear hK K)))
          all_goals exact fin_r (fin_b rfl rfl)
        · refine RO.ofv' Tryd.func3 Tryd.ntmps3 rfl (goFn_of Tryd.func3 rfl (by kernel_rfl)) rfl rfl ?_
          ((repeat' (first
    | (show SQ _ _ _ _ _ _ _ _; first | apply sq_nil | (apply q_move; exact rfl; exact rfl) | (apply q_assign; exact rfl; exact rfl) | (apply q_pick_f; exact rfl; exact rfl; exact rfl; exact (by first | assumption | exact rfl)) | (apply q_fieldAddr; exact rfl; exact rfl; exact (ty rfl); exact rfl; exact rfl; exact rfl; exact rfl) | (apply q_not; exact rfl; exact rfl) | (apply q_ext; exact rfl; exact rfl; exact rfl) | (apply q_lenl; exact rfl; exact rfl; exact (ty rfl); exact rfl) | (apply q_sub; exact rfl; exact rfl; exact rfl) | (apply q_mul; exact rfl; exact rfl; exact rfl) | (apply q_eql; exact rfl; exact rfl; exact rfl) | (apply q_neq; exact rfl; exact rfl; exact rfl) | (apply q_lss; exact rfl; exact rfl; exact rfl) | (apply q_geq; exact rfl; exact rfl; exact rfl) | (apply q_bneq; exact rfl; exact rfl; exact rfl; exact (ty rfl); exact rfl) | (apply q_ld1p; exact rfl; exact rfl; exact (ty rfl); exact rfl; exact rfl; exact (by first | rfl | assumption | ((try simp only [Nat.zero_add]); refine List.getElem?_set_self ?_; (try simp only [List.length_set]); assumption)); exact rfl) | (apply q_g; exact rfl; exact rfl; exact rfl; exact (by assumption)) | (apply q_g; exact rfl; exact rfl; exact rfl; exact rfl))
    | (show SQ _ _ _ _ _ _ _ _; (first | (apply q_ldap; exact rfl; exact rfl; exact (ty rfl); exact rfl; exact rfl; exact (by first | rfl | assumption | ((try simp only [Nat.zero_add]); refine List.getElem?_set_self ?_; (try simp only [List.length_set]); assumption)); exact rfl) | (apply q_alloc; exact rfl; exact (ty rfl); exact rfl; exact rfl) | (apply q_store; exact rfl; exact rfl; exact (ty rfl); exact rfl; exact (by first | rfl | assumption | ((try simp only [Nat.zero_add]); refine List.getElem?_set_self ?_; (try simp only [List.length_set]); assumption)); exact rfl; exact rfl; exact rfl) | (apply q_callU; exact rfl; exact rfl; exact rfl; exact FzL.of rfl; exact hL _) | (apply q_callU; exact rfl; exact rfl; exact rfl; exact FzL.of rfl; exact hL2 _) | (apply q_callU; exact rfl; exact rfl; exact rfl; exact FzL.of rfl; exact hD _) | (apply q_callU; exact rfl; exact rfl; exact rfl; exact FzL.of rfl; exact c1 _) | (apply q_callU; exact rfl; exact rfl; exact rfl; exact FzL.of rfl; exact c2 _) | (apply q_callU; exact rfl; exact rfl; exact rfl; exact FzL.of rfl; exact c3 _) | (apply q_callU; exact rfl; exact rfl; exact rfl; exact FzL.of rfl; exact c4 _) | (apply q_callU; exact rfl; exact rfl; exact rfl; exact FzL.of rfl; exact c5 _) | (apply q_callU; exact rfl; exact rfl; exact rfl; exact FzL.of rfl; exact c6 _) | (apply q_callU; exact rfl; exact rfl; exact rfl; exact FzL.of rfl; exact c7 _) | (apply q_callU; exact rfl; exact rfl; exact rfl; exact FzL.of rfl; exact c8 _) | (apply q_callU; exact rfl; exact rfl; exact rfl; exact FzL.of rfl; exact c9 _) | (apply q_callU; exact rfl; exact rfl; exact rfl; exact FzL.of rfl; exact c10 _) | (apply q_callU; exact rfl; exact rfl; exact rfl; exact FzL.of rfl; exact c11 _)); (try simp only [put, rowsOf, plR, List.all_cons, selE, ovr, setH, del, cellsA, splice, isV, List.nil_append, List.cons_append, List.map_cons, List.map_nil, List.length_cons, List.length_nil, List.set_cons_zero, List.set_cons_succ, List.take_succ_cons, List.take_zero, List.take_nil, List.drop_succ_cons, List.drop_zero, List.drop_nil, List.append_nil, List.all_cons, List.all_nil, Bool.and_true, Bool.true_and, Bool.and_false, Bool.false_and, Nat.reduceAdd, Nat.zero_add, Nat.add_zero, Nat.reduceEqDiff, if_true, if_false, reduceIte]))
    | (show AW _ _ _ _ _ _ _ _; first | refine aw_region ?_ | (refine aw_seqk ?_; intro K hK) | (apply aw_cond_f; exact rfl; exact rfl) | (apply aw_cond_t; exact rfl; exact (by assumption)) | (apply aw_cond_f; exact rfl; exact (by assumption)) | refine aw_ret ?_ | refine aw_skip ?_)
    | refine thn_n ?_
    | (refine hK _ _ _ ?_; clear hK K)
    | refine thn_r ?_)); all_goals (repeat (clear hK K)))
          all_goals exact fin_r (fin_b rfl rfl)
      · rw [hpar, if_neg hd0] at c11
        have g1 : (b.du == 0) = false := by simpa using hd0
        have g2 : (IntKind.i64.wrap (mid b x + b.du) == IntKind.i64.wrap (mid b x + b.du)) = true := by simp
        have hdu2 : b.hi - b.lo ≤ b.du := by
          unfold okB inB at ob
          simp only [Bool.and_eq_true, Bool.or_eq_true, decide_eq_true_eq] at ob
          omega
        have g3 : decide (b.hi ≤ IntKind.i64.wrap (mid b x + b.du)) = true := by
          rw [IntWalk.i64_in _ (by omega)]; simp; omega
        unfold baL at *
        rcases hdec with ⟨hlt, d1, d2⟩ | ⟨hlt, d1, d2⟩
        · refine RO.ofv' Tryd.func3 Tryd.ntmps3 rfl (goFn_of Tryd.func3 rfl (by kernel_rfl)) rfl rfl ?_
          ((repeat' (first
    | (show SQ _ _ _ _ _ _ _ _; first | apply sq_nil | (apply q_move; exact rfl; exact rfl) | (apply q_assign; exact rfl; exact rfl) | (apply q_pick_t; exact rfl; exact rfl; exact rfl; exact (by first | assumption | exact rfl)) | (apply q_pick_f; exact rfl; exact rfl; exact rfl; exact (by first | assumption | exact rfl)) | (apply q_fieldAddr; exact rfl; exact rfl; exact (ty rfl); exact rfl; exact rfl; exact rfl; exact rfl) | (apply q_not; exact rfl; exact rfl) | (apply q_neg; exact rfl; exact rfl) | (apply q_ext; exact rfl; exact rfl; exact rfl) | (apply q_lenl; exact rfl; exact rfl; exact (ty rfl); exact rfl) | (apply q_add; exact rfl; exact rfl; exact rfl) | (apply q_sub; exact rfl; exact rfl; exact rfl) | (apply q_mul; exact rfl; exact rfl; exact rfl) | (apply q_eql; exact rfl; exact rfl; exact rfl) | (apply q_neq; exact rfl; exact rfl; exact rfl) | (apply q_lss; exact rfl; exact rfl; exact rfl) | (apply q_geq; exact rfl; exact rfl; exact rfl) | (apply q_bneq; exact rfl; exact rfl; exact rfl; exact (ty rfl); exact rfl) | (apply q_ld1p; exact rfl; exact rfl; exact (ty rfl); exact rfl; exact rfl; exact (by first | rfl | assumption | ((try simp only [Nat.zero_add]); refine List.getElem?_set_self ?_; (try simp only [List.length_set]); assumption)); exact rfl) | (apply q_g; exact rfl; exact rfl; exact rfl; exact (by assumption)) | (apply q_g; exact rfl; exact rfl; exact rfl; exact rfl))
    | (show SQ _ _ _ _ _ _ _ _; (first | (apply q_ldap; exact rfl; exact rfl; exact (ty rfl); exact rfl; exact rfl; exact (by first | rfl | assumption | ((try simp only [Nat.zero_add]); refine List.getElem?_set_self ?_; (try simp only [List.length_set]); assumption)); exact rfl) | (apply q_alloc; exact rfl; exact (ty rfl); exact rfl; exact rfl) | (apply q_store; exact rfl; exact rfl; exact (ty rfl); exact rfl; exact (by first | rfl | assumption | ((try simp only [Nat.zero_add]); refine List.getElem?_set_self ?_; (try simp only [List.length_set]); assumption)); exact rfl; exact rfl; exact rfl) | (apply q_callU; exact rfl; exact rfl; exact rfl; exact FzL.of rfl; exact hL _) | (apply q_callU; exact rfl; exact rfl; exact rfl; exact FzL.of rfl; exact hL2 _) | (apply q_callU; exact rfl; exact rfl; exact rfl; exact FzL.of rfl; exact hD _) | (apply q_callU; exact rfl; exact rfl; exact rfl; exact FzL.of rfl; exact c1 _) | (apply q_callU; exact rfl; exact rfl; exact rfl; exact FzL.of rfl; exact c2 _) | (apply q_callU; exact rfl; exact rfl; exact rfl; exact FzL.of rfl; exact c3 _) | (apply q_callU; exact rfl; exact rfl; exact rfl; exact FzL.of rfl; exact c4 _) | (apply q_callU; exact rfl; exact rfl; exact rfl; exact FzL.of rfl; exact c5 _) | (apply q_callU; exact rfl; exact rfl; exact rfl; exact FzL.of rfl; exact c6 _) | (apply q_callU; exact rfl; exact rfl; exact rfl; exact FzL.of rfl; exact c7 _) | (apply q_callU; exact rfl; exact rfl; exact rfl; exact FzL.of rfl; exact c8 _) | (apply q_callU; exact rfl; exact rfl; exact rfl; exact FzL.of rfl; exact c9 _) | (apply q_callU; exact rfl; exact rfl; exact rfl; exact FzL.of rfl; exact c10 _) | (apply q_callU; exact rfl; exact rfl; exact rfl; exact FzL.of rfl; exact c11 _)); (try simp only [put, rowsOf, plR, List.all_cons, selE, ovr, setH, del, cellsA, splice, isV, List.nil_append, List.cons_append, List.map_cons, List.map_nil, List.length_cons, List.length_nil, List.set_cons_zero, List.set_cons_succ, List.take_succ_cons, List.take_zero, List.take_nil, List.drop_succ_cons, List.drop_zero, List.drop_nil, List.append_nil, List.all_cons, List.all_nil, Bool.and_true, Bool.true_and, Bool.and_false, Bool.false_and, Nat.reduceAdd, Nat.zero_add, Nat.add_zero, Nat.reduceEqDiff, if_true, if_false, reduceIte]))
    | (show AW _ _ _ _ _ _ _ _; first | refine aw_region ?_ | (refine aw_seqk ?_; intro K hK) | (apply aw_cond_f; exact rfl; exact rfl) | (apply aw_cond_t; exact rfl; exact (by assumption)) | (apply aw_cond_f; exact rfl; exact (by assumption)) | refine aw_ret ?_ | refine aw_skip ?_)
    | refine thn_n ?_
    | (refine hK _ _ _ ?_; clear hK K))); all_goals (repeat (clear hK K)))
          all_goals exact fin_r (fin_b rfl (by first | rfl | exact g3))
        · refine RO.ofv' Tryd.func3 Tryd.ntmps3 rfl (goFn_of Tryd.func3 rfl (by kernel_rfl)) rfl rfl ?_
          ((repeat' (first
    | (show SQ _ _ _ _ _ _ _ _; first | apply sq_nil | (apply q_move; exact rfl; exact rfl) | (apply q_assign; exact rfl; exact rfl) | (apply q_pick_t; exact rfl; exact rfl; exact rfl; exact (by first | assumption | exact rfl)) | (apply q_pick_f; exact rfl; exact rfl; exact rfl; exact (by first | assumption | exact rfl)) | (apply q_fieldAddr; exact rfl; exact rfl; exact (ty rfl); exact rfl; exact rfl; exact rfl; exact rfl) | (apply q_not; exact rfl; exact rfl) | (apply q_ext; exact rfl; exact rfl; exact rfl) | (apply q_lenl; exact rfl; exact rfl; exact (ty rfl); exact rfl) | (apply q_add; exact rfl; exact rfl; exact rfl) | (apply q_sub; exact rfl; exact rfl; exact rfl) | (apply q_mul; exact rfl; exact rfl; exact rfl) | (apply q_eql; exact rfl; exact rfl; exact rfl) | (apply q_neq; exact rfl; exact rfl; exact rfl) | (apply q_lss; exact rfl; exact rfl; exact rfl) | (apply q_geq; exact rfl; exact rfl; exact rfl) | (apply q_bneq; exact rfl; exact rfl; exact rfl; exact (ty rfl); exact rfl) | (apply q_ld1p; exact rfl; exact rfl; exact (ty rfl); exact rfl; exact rfl; exact (by first | rfl | assumption | ((try simp only [Nat.zero_add]); refine List.getElem?_set_self ?_; (try simp only [List.length_set]); assumption)); exact rfl) | (apply q_g; exact rfl; exact rfl; exact rfl; exact (by assumption)) | (apply q_g; exact rfl; exact rfl; exact rfl; exact rfl))
    | (show SQ _ _ _ _ _ _ _ _; (first | (apply q_ldap; exact rfl; exact rfl; exact (ty rfl); exact rfl; exact rfl; exact (by first | rfl | assumption | ((try simp only [Nat.zero_add]); refine List.getElem?_set_self ?_; (try simp only [List.length_set]); assumption)); exact rfl) | (apply q_alloc; exact rfl; exact (ty rfl); exact rfl; exact rfl) | (apply q_store; exact rfl; exact rfl; exact (ty rfl); exact rfl; exact (by first | rfl | assumption | ((try simp only [Nat.zero_add]); refine List.getElem?_set_self ?_; (try simp only [List.length_set]); assumption)); exact rfl; exact rfl; exact rfl) | (apply q_callU; exact rfl; exact rfl; exact rfl; exact FzL.of rfl; exact hL _) | (apply q_callU; exact rfl; exact rfl; exact rfl; exact FzL.of rfl; exact hL2 _) | (apply q_callU; exact rfl; exact rfl; exact rfl; exact FzL.of rfl; exact hD _) | (apply q_callU; exact rfl; exact rfl; exact rfl; exact FzL.of rfl; exact c1 _) | (apply q_callU; exact rfl; exact rfl; exact rfl; exact FzL.of rfl; exact c2 _) | (apply q_callU; exact rfl; exact rfl; exact rfl; exact FzL.of rfl; exact c3 _) | (apply q_callU; exact rfl; exact rfl; exact rfl; exact FzL.of rfl; exact c4 _) | (apply q_callU; exact rfl; exact rfl; exact rfl; exact FzL.of rfl; exact c5 _) | (apply q_callU; exact rfl; exact rfl; exact rfl; exact FzL.of rfl; exact c6 _) | (apply q_callU; exact rfl; exact rfl; exact rfl; exact FzL.of rfl; exact c7 _) | (apply q_callU; exact rfl; exact rfl; exact rfl; exact FzL.of rfl; exact c8 _) | (apply q_callU; exact rfl; exact rfl; exact rfl; exact FzL.of rfl; exact c9 _) | (apply q_callU; exact rfl; exact rfl; exact rfl; exact FzL.of rfl; exact c10 _) | (apply q_callU; exact rfl; exact rfl; exact rfl; exact FzL.of rfl; exact c11 _)); (try simp only [put, rowsOf, plR, List.all_cons, selE, ovr, setH, del, cellsA, splice, isV, List.nil_append, List.cons_append, List.map_cons, List.map_nil, List.length_cons, List.length_nil, List.set_cons_zero, List.set_cons_succ, List.take_succ_cons, List.take_zero, List.take_nil, List.drop_succ_cons, List.drop_zero, List.drop_nil, List.append_nil, List.all_cons, List.all_nil, Bool.and_true, Bool.true_and, Bool.and_false, Bool.false_and, Nat.reduceAdd, Nat.zero_add, Nat.add_zero, Nat.reduceEqDiff, if_true, if_false, reduceIte]))
    | (show AW _ _ _ _ _ _ _ _; first | refine aw_region ?_ | (refine aw_seqk ?_; intro K hK) | (apply aw_cond_f; exact rfl; exact rfl) | (apply aw_cond_f; exact rfl; exact (by assumption)) | refine aw_ret ?_ | refine aw_skip ?_)
    | refine thn_n ?_
    | (refine hK _ _ _ ?_; clear hK K))); all_goals (repeat (clear hK K)))
          all_goals exact fin_r (fin_b rfl (by first | rfl | exact g3))
    · have b01 : (cod b x != 0) = true := by simpa using h0
      rw [show frq b x = 0 by unfold frq; rw [if_neg h0]] at c1
      generalize cod b x = c at *
      unfold baL at *
      refine RO.ofv' Tryd.func3 Tryd.ntmps3 rfl (goFn_of Tryd.func3 rfl (by kernel_rfl)) rfl rfl ?_
      ((repeat' (first
    | (show SQ _ _ _ _ _ _ _ _; first | apply sq_nil | (apply q_move; exact rfl; exact rfl) | (apply q_assign; exact rfl; exact rfl) | (apply q_pick_f; exact rfl; exact rfl; exact rfl; exact (by first | assumption | exact rfl)) | (apply q_ext; exact rfl; exact rfl; exact rfl) | (apply q_eql; exact rfl; exact rfl; exact rfl) | (apply q_neq; exact rfl; exact rfl; exact rfl) | (apply q_g; exact rfl; exact rfl; exact rfl; exact rfl))
    | (show SQ _ _ _ _ _ _ _ _; (first | (apply q_ldap; exact rfl; exact rfl; exact (ty rfl); exact rfl; exact rfl; exact (by first | rfl | assumption | ((try simp only [Nat.zero_add]); refine List.getElem?_set_self ?_; (try simp only [List.length_set]); assumption)); exact rfl) | (apply q_alloc; exact rfl; exact (ty rfl); exact rfl; exact rfl) | (apply q_store; exact rfl; exact rfl; exact (ty rfl); exact rfl; exact (by first | rfl | assumption | ((try simp only [Nat.zero_add]); refine List.getElem?_set_self ?_; (try simp only [List.length_set]); assumption)); exact rfl; exact rfl; exact rfl) | (apply q_callU; exact rfl; exact rfl; exact rfl; exact FzL.of rfl; exact hL _) | (apply q_callU; exact rfl; exact rfl; exact rfl; exact FzL.of rfl; exact hL2 _) | (apply q_callU; exact rfl; exact rfl; exact rfl; exact FzL.of rfl; exact hD _) | (apply q_callU; exact rfl; exact rfl; exact rfl; exact FzL.of rfl; exact c1 _)); (try simp only [put, rowsOf, plR, List.all_cons, selE, ovr, setH, del, cellsA, splice, isV, List.nil_append, List.cons_append, List.map_cons, List.map_nil, List.length_cons, List.length_nil, List.set_cons_zero, List.set_cons_succ, List.take_succ_cons, List.take_zero, List.take_nil, List.drop_succ_cons, List.drop_zero, List.drop_nil, List.append_nil, List.all_cons, List.all_nil, Bool.and_true, Bool.true_and, Bool.and_false, Bool.false_and, Nat.reduceAdd, Nat.zero_add, Nat.add_zero, Nat.reduceEqDiff, if_true, if_false, reduceIte]))
    | (show AW _ _ _ _ _ _ _ _; first | refine aw_region ?_ | (refine aw_seqk ?_; intro K hK) | (apply aw_cond_f; exact rfl; exact rfl) | (apply aw_cond_t; exact rfl; exact (by assumption)) | refine aw_ret ?_ | refine aw_skip ?_)
    | refine thn_n ?_
    | (refine hK _ _ _ ?_; clear hK K)
    | refine thn_r ?_)); all_goals (repeat (clear hK K)))
      all_goals exact fin_r (fin_b rfl rfl)
theorem closeFnBands (v u : Value) (w : World) (hg : Gl w) (h : Fr.IsBytes w v) (h2 : Fr.IsBytes w u) : Calls Tryd.prog 3 #[v, u] w fun r w' => r = .returned (.bool true) ∧ Below w.heap.size w w' := by
  obtain ⟨xs, hv, hs, hn⟩ := h
  obtain ⟨ys, hv2, hs2, hn2⟩ := h2
  exact RO.calls (k := 0) (lawFnBands_ro xs ys hs hn hs2 hn2 0) (K := fun k => k < w.heap.size) (fun _ h => h) (VRs.cons hv (VRs.cons hv2 VRs.nil)) hg
end Go.Proofs.YtmnklmaefoidbaaDoor.Bd
