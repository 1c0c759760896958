/-
  What the law FnExactSpanningTree rests on, part 4.
-/
import Derived.Test.YtglfcaioapdiaaaZFnExactSpanningTree3
namespace Go.Proofs.Ytglfcaioapdiaaa.Bk
open Go Go.RowKit Go.Proofs.Ytglfcaioapdiaaa.Aw
set_option linter.unusedSimpArgs false
set_option linter.unusedVariables false
attribute [local irreducible] AW SQ Step RO RC DE Thn InB
def bisF (p : Nat → Bool) : Nat → Nat → Nat → Nat
  | 0, i, _ => i
  | f + 1, i, j => if i < j then (if p ((i + j) / 2) = true then bisF p f ((i + j) / 2 + 1) j else bisF p f i ((i + j) / 2)) else i
theorem bisF_in (p : Nat → Bool) : ∀ (f i j : Nat), i ≤ j → i ≤ bisF p f i j ∧ bisF p f i j ≤ j
  | 0, i, j, h => ⟨Nat.le_refl _, h⟩
  | f + 1, i, j, h => by
    rw [bisF]
    split
    · split
      · have := bisF_in p f ((i + j) / 2 + 1) j (by omega); omega
      · have := bisF_in p f i ((i + j) / 2) (by omega); omega
    · exact ⟨Nat.le_refl _, h⟩
def bubU (xs : List Int) (a : Nat) : Nat → List Int
  | 0 => xs
  | c + 1 => lsw (bubU xs a c) (a + c) (a + c + 1)
def bubD (xs : List Int) (m : Nat) : Nat → List Int
  | 0 => xs
  | c + 1 => lsw (bubD xs m c) (m - c) (m - c - 1)
theorem bubU_len (xs : List Int) (a : Nat) : ∀ c, (bubU xs a c).length = xs.length
  | 0 => rfl
  | c + 1 => by rw [bubU, lsw_len, bubU_len xs a c]
theorem bubD_len (xs : List Int) (m : Nat) : ∀ c, (bubD xs m c).length = xs.length
  | 0 => rfl
  | c + 1 => by rw [bubD, lsw_len, bubD_len xs m c]
theorem half_eq {i j : Nat} (h : i + j ≤ 4194304) : IntKind.i64.wrap (IntKind.u64.wrap (IntKind.i64.wrap ((i : Int) + (j : Int))) / 2 ^ min (Int.toNat 1) IntKind.u64.bits) = (((i + j) / 2 : Nat) : Int) := by
  have e1 : IntKind.i64.wrap ((i : Int) + (j : Int)) = (i : Int) + j := IntWalk.i64_in _ (by omega)
  have e2 : IntKind.u64.wrap ((i : Int) + (j : Int)) = (i : Int) + j := IntWalk.u64_in _ (by omega)
  have e3 : ((2 : Int) ^ min (Int.toNat 1) IntKind.u64.bits) = 2 := by decide
  rw [e1, e2, e3, IntWalk.i64_in _ (by omega)]; omega
set_option maxHeartbeats 4000000 in
theorem symU_rc (n : Int) (ls : List Ln) (xs : List Int) (a m b : Nat) (hn : ls.length ≤ 1048576) (hx : xs.length ≤ 1048576) (hv : Vd ls xs) (ha : a + 1 = m) (hm : m < b) (hb : b ≤ xs.length) (bi k : Nat) :
    RC Try.prog 131 [.sl bi 0 xs.length, .v (.int .i64 (a : Int)), .v (.int .i64 (m : Int)), .v (.int .i64 (b : Int)), stC n ls] [(bi, ⟨2, 1, true, xs.map inL⟩)] k (.tup [])
      [(bi, some ⟨2, 1, true, (bubU xs a (bisF (fun h => ltO ls (xs.getD h 0) (xs.getD a 0)) (b - m) m b - 1 - a)).map inL⟩)] k := by
  have hml : (xs.map inL).length = xs.length := List.length_map _
  have b0 : (IntKind.i64.wrap ((m : Int) - a) == 1) = true := by rw [IntWalk.i64_in _ (by omega), beq_iff_eq]; omega
  generalize hQ : bisF (fun h => ltO ls (xs.getD h 0) (xs.getD a 0)) (b - m) m b = q
  refine RC.ofc [bi] 0 [.sl 0 0 xs.length, .v (.int .i64 (a : Int)), .v (.int .i64 (m : Int)), .v (.int .i64 (b : Int)), stC n ls] [(0, ⟨2, 1, true, xs.map inL⟩)] (.tup []) [(0, some ⟨2, 1, true, (bubU xs a (q - 1 - a)).map inL⟩)] Try.func131 Try.ntmps131 rfl (goFn_of Try.func131 rfl (by kernel_rfl)) rfl rfl rfl rfl rfl rfl rfl rfl (by simp_all) rfl ?_
  ((repeat' (first
    | (show SQ _ _ _ _ _ _ _ _; first | apply sq_nil | (apply q_move; exact rfl; exact rfl) | (apply q_assign; exact rfl; exact rfl) | (apply q_sub; exact rfl; exact rfl; exact rfl) | (apply q_eql; exact rfl; exact rfl; exact rfl))
    | (show AW _ _ _ _ _ _ _ _; first | refine aw_region ?_ | (refine aw_seqk ?_; intro K hK) | refine aw_block ?_ | (apply aw_cond_t; exact rfl; exact (by assumption)))
    | refine thn_n ?_
    | (refine hK _ _ _ ?_; clear hK K))); all_goals (repeat (clear hK K)))
  refine aw_loop (ρ := fun z => z) (ι := Nat × Nat × Nat) (fun s => ([(11, .v (.int .i64 (s.2.2 : Int))), (10, .v (.int .i64 (s.2.1 : Int))), (4, stC n ls), (1, .v (.int .i64 (a : Int))), (0, .sl 0 0 xs.length)], [(0, ⟨2, 1, true, xs.map inL⟩)], 1))
    (fun s => m ≤ s.2.1 ∧ s.2.1 ≤ s.2.2 ∧ s.2.2 ≤ b ∧ s.2.2 - s.2.1 ≤ s.1 ∧ bisF (fun h => ltO ls (xs.getD h 0) (xs.getD a 0)) s.1 s.2.1 s.2.2 = q) (fun s => s.1) (b - m, m, b) ⟨Nat.le_refl _, by dsimp only; omega, Nat.le_refl _, Nat.le_refl _, hQ⟩ ⟨by (repeat (refine ⟨by first | exact lk_i rfl rfl | exact lk_s rfl rfl rfl rfl | exact lk_f rfl, ?_⟩)); exact trivial, by (repeat (refine ⟨by first | exact ⟨rfl, rfl, rfl⟩, ?_⟩)); exact trivial, by rfl, by (intro i hi; (try dsimp only); refine ⟨?_, ?_⟩ <;> first | rfl | omega | (simp at hi; omega) | (simp; omega))⟩ ?_
  rintro ⟨f, i, j⟩ ⟨i1, ij, jb, hf, hg⟩
  dsimp only at i1 ij jb hf hg
  dsimp only
  by_cases c1 : i < j
  · have b1 : decide ((i : Int) < (j : Int)) = true := by simpa using c1
    obtain ⟨f, rfl⟩ : ∃ f', f = f' + 1 := ⟨f - 1, by omega⟩
    rw [bisF, if_pos c1] at hg
    have hh := half_eq (i := i) (j := j) (by omega)
    have hlt : (i + j) / 2 < xs.length := by omega
    have hr1 := inL_get (xs := xs) (i := (i + j) / 2) hlt
    have hr2 := inL_get (xs := xs) (i := a) (by omega)
    have hC := stClos_ro n ls (xs.getD ((i + j) / 2) 0) (xs.getD a 0) hn (hv.at (by omega)) (hv.at (by omega))
    have hw1 : IntKind.i64.wrap ((((i + j) / 2 : Nat) : Int) + 1) = (((i + j) / 2 + 1 : Nat) : Int) := by rw [IntWalk.i64_in _ (by omega)]; omega
    have hlo := (show i ≤ (i + j) / 2 by omega)
    have hhi := (show (i + j) / 2 < j by omega)
    generalize (i + j) / 2 = h at *
    by_cases c2 : kO ls (xs.getD h 0) < kO ls (xs.getD a 0)
    · have b2 : decide (i64c (kO ls (xs.getD h 0)) (kO ls (xs.getD a 0)) < 0) = true := by rw [i64c_lt]; simpa using c2
      rw [if_pos (by simpa [ltO] using c2)] at hg
      rw [← hh] at hr1 hw1
      ((repeat' (first
    | (show SQ _ _ _ _ _ _ _ _; first | apply sq_nil | (apply q_move; exact rfl; exact rfl) | (apply q_assign; exact rfl; exact rfl) | (apply q_conv; exact rfl; exact rfl; exact (ty rfl); exact rfl; exact (ty rfl)) | (apply q_add; exact rfl; exact rfl; exact rfl) | (apply q_lss; exact rfl; exact rfl; exact rfl) | (apply q_shr; exact rfl; exact rfl; exact rfl; exact (by first | omega | (simp; done) | (simp; omega))))
    | (show DE _ _ _ _ _ _ _ _ _ _ _ _; first | (apply e_move; exact rfl; exact rfl; exact rfl) | (apply e_lss; exact rfl; exact rfl; exact rfl; exact rfl) | (apply e_ixl; exact rfl; exact rfl; exact rfl; exact (ty rfl); exact rfl; exact rfl; exact rfl; exact (by first | omega | (simp; done) | (simp; omega)); exact (by first | omega | (simp; done) | (simp; omega)); exact rfl) | (apply e_ld1p; exact rfl; exact rfl; exact (ty rfl); exact rfl; exact rfl; exact (by first | rfl | assumption | ((try simp only [Nat.zero_add]); refine List.getElem?_set_self ?_; (try simp only [List.length_set]); assumption)); exact rfl; exact rfl))
    | (show DE _ _ _ _ _ _ _ _ _ _ _ _; (first | (apply dr_nil; exact trivial) | (apply e_callU; exact rfl; exact rfl; exact rfl; exact FzL.of rfl; exact hC _; exact rfl)); (try simp only [put, rowsOf, plR, List.all_cons, selE, ovr, setH, del, cellsA, splice, isV, List.nil_append, List.cons_append, List.map_cons, List.map_nil, List.length_cons, List.length_nil, List.set_cons_zero, List.set_cons_succ, List.take_succ_cons, List.take_zero, List.take_nil, List.drop_succ_cons, List.drop_zero, List.drop_nil, List.append_nil, List.all_cons, List.all_nil, Bool.and_true, Bool.true_and, Bool.and_false, Bool.false_and, Nat.reduceAdd, Nat.zero_add, Nat.add_zero, Nat.reduceEqDiff, if_true, if_false, reduceIte]))
    | (show AW _ _ _ _ _ _ _ _; first | refine aw_region ?_ | (refine aw_seqk ?_; intro K hK) | refine aw_block ?_ | (apply aw_cond_t; exact rfl; exact (by assumption)) | refine aw_skip ?_ | refine aw_drawE (id := 5) [0, 0, 0, 6, 14, 0, 0, 96, 224, 511, 1023] [0, 0, 0, 1, 1, 0, 0, 1, 1, 1, 0] mixed (by kernel_rfl) ?_)
    | refine thn_n ?_
    | (refine hK _ _ _ ?_; clear hK K)
    | refine inb_n ?_)); all_goals (repeat (clear hK K)))
      all_goals (refine ⟨(f, h + 1, j), fun z => z, ⟨by dsimp only; omega, by dsimp only; omega, jb, by dsimp only; omega, hg⟩, by dsimp only; omega, ?_⟩; (try dsimp only); rw [← hw1]; exact ⟨by (repeat (refine ⟨by first | exact lk_i rfl rfl | exact lk_s rfl rfl rfl rfl | exact lk_f rfl, ?_⟩)); exact trivial, by (repeat (refine ⟨by first | exact ⟨rfl, rfl, rfl⟩, ?_⟩)); exact trivial, by rfl, by (intro i hi; (try dsimp only); refine ⟨?_, ?_⟩ <;> first | rfl | omega | (simp at hi; omega) | (simp; omega))⟩)
    · have b2 : decide (i64c (kO ls (xs.getD h 0)) (kO ls (xs.getD a 0)) < 0) = false := by rw [i64c_lt]; simpa using c2
      rw [if_neg (by simpa [ltO] using c2)] at hg
      rw [← hh] at hr1 hw1
      ((repeat' (first
    | (show SQ _ _ _ _ _ _ _ _; first | apply sq_nil | (apply q_move; exact rfl; exact rfl) | (apply q_assign; exact rfl; exact rfl) | (apply q_conv; exact rfl; exact rfl; exact (ty rfl); exact rfl; exact (ty rfl)) | (apply q_add; exact rfl; exact rfl; exact rfl) | (apply q_lss; exact rfl; exact rfl; exact rfl) | (apply q_shr; exact rfl; exact rfl; exact rfl; exact (by first | omega | (simp; done) | (simp; omega))))
    | (show DE _ _ _ _ _ _ _ _ _ _ _ _; first | (apply e_move; exact rfl; exact rfl; exact rfl) | (apply e_lss; exact rfl; exact rfl; exact rfl; exact rfl) | (apply e_ixl; exact rfl; exact rfl; exact rfl; exact (ty rfl); exact rfl; exact rfl; exact rfl; exact (by first | omega | (simp; done) | (simp; omega)); exact (by first | omega | (simp; done) | (simp; omega)); exact rfl) | (apply e_ld1p; exact rfl; exact rfl; exact (ty rfl); exact rfl; exact rfl; exact (by first | rfl | assumption | ((try simp only [Nat.zero_add]); refine List.getElem?_set_self ?_; (try simp only [List.length_set]); assumption)); exact rfl; exact rfl))
    | (show DE _ _ _ _ _ _ _ _ _ _ _ _; (first | (apply dr_nil; exact trivial) | (apply e_callU; exact rfl; exact rfl; exact rfl; exact FzL.of rfl; exact hC _; exact rfl)); (try simp only [put, rowsOf, plR, List.all_cons, selE, ovr, setH, del, cellsA, splice, isV, List.nil_append, List.cons_append, List.map_cons, List.map_nil, List.length_cons, List.length_nil, List.set_cons_zero, List.set_cons_succ, List.take_succ_cons, List.take_zero, List.take_nil, List.drop_succ_cons, List.drop_zero, List.drop_nil, List.append_nil, List.all_cons, List.all_nil, Bool.and_true, Bool.true_and, Bool.and_false, Bool.false_and, Nat.reduceAdd, Nat.zero_add, Nat.add_zero, Nat.reduceEqDiff, if_true, if_false, reduceIte]))
    | (show AW _ _ _ _ _ _ _ _; first | refine aw_region ?_ | (refine aw_seqk ?_; intro K hK) | refine aw_block ?_ | (apply aw_cond_t; exact rfl; exact (by assumption)) | (apply aw_cond_f; exact rfl; exact (by assumption)) | refine aw_skip ?_ | refine aw_drawE (id := 5) [0, 0, 0, 6, 14, 0, 0, 96, 224, 511, 1023] [0, 0, 0, 1, 1, 0, 0, 1, 1, 1, 0] mixed (by kernel_rfl) ?_)
    | refine thn_n ?_
    | (refine hK _ _ _ ?_; clear hK K)
    | refine inb_n ?_)); all_goals (repeat (clear hK K)))
      all_goals (refine ⟨(f, i, h), fun z => z, ⟨i1, by dsimp only; omega, by dsimp only; omega, by dsimp only; omega, hg⟩, by dsimp only; omega, ?_⟩; (try dsimp only); rw [← hh]; exact ⟨by (repeat (refine ⟨by first | exact lk_i rfl rfl | exact lk_s rfl rfl rfl rfl | exact lk_f rfl, ?_⟩)); exact trivial, by (repeat (refine ⟨by first | exact ⟨rfl, rfl, rfl⟩, ?_⟩)); exact trivial, by rfl, by (intro i hi; (try dsimp only); refine ⟨?_, ?_⟩ <;> first | rfl | omega | (simp at hi; omega) | (simp; omega))⟩)
  · have b1 : decide ((i : Int) < (j : Int)) = false := by simpa using c1
    obtain rfl : i = j := by omega
    have hiq : i = q := by
      rw [← hg]
      cases f with
      | zero => rfl
      | succ f => rw [bisF, if_neg c1]
    subst hiq
    ((repeat' (first
    | (show SQ _ _ _ _ _ _ _ _; first | apply sq_nil | (apply q_move; exact rfl; exact rfl) | (apply q_assign; exact rfl; exact rfl) | (apply q_lss; exact rfl; exact rfl; exact rfl))
    | (show AW _ _ _ _ _ _ _ _; first | refine aw_region ?_ | (refine aw_seqk ?_; intro K hK) | refine aw_block ?_ | (apply aw_cond_f; exact rfl; exact (by assumption)) | refine aw_exit ?_)
    | refine thn_n ?_
    | (refine hK _ _ _ ?_; clear hK K)
    | refine thn_e ?_
    | refine inb_same ?_
    | (clear hK K; refine hK _ _ _ ?_; clear hK K))); all_goals (repeat (clear hK K)))
    refine aw_loop (ρ := fun z => z) (ι := Nat) (fun c => ([(13, .v (.int .i64 ((a + c : Nat) : Int))), (10, .v (.int .i64 (i : Int))), (0, .sl 0 0 xs.length)], [(0, ⟨2, 1, true, (bubU xs a c).map inL⟩)], 1))
      (fun c => c ≤ i - 1 - a) (fun c => i - 1 - a - c) 0 (Nat.zero_le _) ⟨by (repeat (refine ⟨by first | exact lk_i rfl rfl | exact lk_s rfl rfl rfl rfl, ?_⟩)); exact trivial, by (repeat (refine ⟨by first | exact ⟨rfl, rfl, rfl⟩, ?_⟩)); exact trivial, by rfl, by (intro i hi; (try dsimp only); refine ⟨?_, ?_⟩ <;> first | rfl | omega | (simp at hi; omega) | (simp; omega))⟩ ?_
    intro c hc
    have hbl := bubU_len xs a c
    have hbm : ((bubU xs a c).map inL).length = xs.length := by rw [List.length_map, hbl]
    have hwi : IntKind.i64.wrap ((i : Int) - 1) = (i : Int) - 1 := IntWalk.i64_in _ (by omega)
    by_cases c3 : c < i - 1 - a
    · have b3 : decide (((a + c : Nat) : Int) < IntKind.i64.wrap ((i : Int) - 1)) = true := by rw [hwi, decide_eq_true_eq]; omega
      have hwk : IntKind.i64.wrap (((a + c : Nat) : Int) + 1) = ((a + c + 1 : Nat) : Int) := by rw [IntWalk.i64_in _ (by omega)]; omega
      have hr0 := inL_get (xs := bubU xs a c) (i := a + c) (by omega)
      have hr1 := inL_get (xs := bubU xs a c) (i := a + c + 1) (by omega)
      obtain ⟨y, hr3⟩ := inL_set (xs := bubU xs a c) (i := ((a + c : Nat) : Int).toNat) (j := a + c + 1) (.v (.int .i64 ((bubU xs a c).getD (a + c + 1) 0))) (by omega)
      have hfin : (((bubU xs a c).map inL).set (((a + c : Nat) : Int)).toNat [.v (.int .i64 ((bubU xs a c).getD (a + c + 1) 0))]).set (IntKind.i64.wrap (((a + c : Nat) : Int) + 1)).toNat [.v (.int .i64 ((bubU xs a c).getD (a + c) 0))] = (bubU xs a (c + 1)).map inL := by
        rw [hwk, Int.toNat_natCast, Int.toNat_natCast, lsw_rows]; rfl
      have hnx : ((a + (c + 1) : Nat) : Int) = IntKind.i64.wrap (((a + c : Nat) : Int) + 1) := by rw [hwk]; rfl
      rw [← hwk] at hr1 hr3
      ((repeat' (first
    | (show SQ _ _ _ _ _ _ _ _; first | apply sq_nil | (apply q_move; exact rfl; exact rfl) | (apply q_assign; exact rfl; exact rfl) | (apply q_add; exact rfl; exact rfl; exact rfl) | (apply q_sub; exact rfl; exact rfl; exact rfl) | (apply q_lss; exact rfl; exact rfl; exact rfl))
    | (show DE _ _ _ _ _ _ _ _ _ _ _ _; first | (apply e_move; exact rfl; exact rfl; exact rfl) | (apply e_add; exact rfl; exact rfl; exact rfl; exact rfl) | (apply e_ixl; exact rfl; exact rfl; exact rfl; exact (ty rfl); exact rfl; exact rfl; exact rfl; exact (by first | omega | (simp; done) | (simp; omega)); exact (by first | omega | (simp; done) | (simp; omega)); exact rfl) | (apply e_ld1p; exact rfl; exact rfl; exact (ty rfl); exact rfl; exact rfl; exact (by first | rfl | assumption | ((try simp only [Nat.zero_add]); refine List.getElem?_set_self ?_; (try simp only [List.length_set]); assumption)); exact rfl; exact rfl))
    | (show DE _ _ _ _ _ _ _ _ _ _ _ _; (first | (apply dr_nil; exact trivial) | (apply e_store; exact rfl; exact rfl; exact (ty rfl); exact rfl; exact (by first | rfl | assumption | ((try simp only [Nat.zero_add]); refine List.getElem?_set_self ?_; (try simp only [List.length_set]); assumption)); exact rfl; exact rfl; exact rfl; exact rfl)); (try simp only [put, rowsOf, plR, List.all_cons, selE, ovr, setH, del, cellsA, splice, isV, List.nil_append, List.cons_append, List.map_cons, List.map_nil, List.length_cons, List.length_nil, List.set_cons_zero, List.set_cons_succ, List.take_succ_cons, List.take_zero, List.take_nil, List.drop_succ_cons, List.drop_zero, List.drop_nil, List.append_nil, List.all_cons, List.all_nil, Bool.and_true, Bool.true_and, Bool.and_false, Bool.false_and, Nat.reduceAdd, Nat.zero_add, Nat.add_zero, Nat.reduceEqDiff, if_true, if_false, reduceIte]))
    | (show AW _ _ _ _ _ _ _ _; first | refine aw_region ?_ | (refine aw_seqk ?_; intro K hK) | refine aw_block ?_ | (apply aw_cond_t; exact rfl; exact (by assumption)) | refine aw_skip ?_ | refine aw_drawE (id := 11) [0, 0, 0, 0, 8, 0, 0, 64, 224, 480, 0, 0, 3072, 7168, 16355, 32739, 65535, 131071] [0, 0, 0, 0, 0, 0, 0, 0, 1, 1, 0, 0, 1, 1, 1, 2, 1, 2] mixed (by kernel_rfl) ?_)
    | refine thn_n ?_
    | (refine hK _ _ _ ?_; clear hK K)
    | refine inb_n ?_)); all_goals (repeat (clear hK K)))
      all_goals (refine ⟨c + 1, fun z => z, by omega, by omega, ?_⟩; (try dsimp only); rw [← hfin, hnx]; exact ⟨by (repeat (refine ⟨by first | exact lk_i rfl rfl | exact lk_s rfl rfl rfl rfl, ?_⟩)); exact trivial, by (repeat (refine ⟨by first | exact ⟨rfl, rfl, rfl⟩, ?_⟩)); exact trivial, by rfl, by (intro i hi; (try dsimp only); refine ⟨?_, ?_⟩ <;> first | rfl | omega | (simp at hi; omega) | (simp; omega))⟩)
    · have b3 : decide (((a + c : Nat) : Int) < IntKind.i64.wrap ((i : Int) - 1)) = false := by rw [hwi, decide_eq_false_iff_not]; omega
      obtain rfl : c = i - 1 - a := by omega
      ((repeat' (first
    | (show SQ _ _ _ _ _ _ _ _; first | apply sq_nil | (apply q_move; exact rfl; exact rfl) | (apply q_sub; exact rfl; exact rfl; exact rfl) | (apply q_lss; exact rfl; exact rfl; exact rfl))
    | (show AW _ _ _ _ _ _ _ _; first | refine aw_region ?_ | (refine aw_seqk ?_; intro K hK) | (apply aw_cond_f; exact rfl; exact (by assumption)) | refine aw_ret ?_ | refine aw_exit ?_)
    | refine thn_n ?_
    | (refine hK _ _ _ ?_; clear hK K)
    | refine thn_e ?_
    | refine thn_r ?_
    | refine inb_same ?_
    | (clear hK K; refine hK _ _ _ ?_; clear hK K))); all_goals (repeat (clear hK K)))
      all_goals exact finc (fun z => z) .r0 (by simp only [renA, renL]) (fun _ _ => rfl) ⟨rfl, trivial⟩ rfl
set_option maxHeartbeats 4000000 in
theorem symD_rc (n : Int) (ls : List Ln) (xs : List Int) (a m b : Nat) (hn : ls.length ≤ 1048576) (hx : xs.length ≤ 1048576) (hv : Vd ls xs) (ha : a + 1 < m) (hm : m + 1 = b) (hb : b ≤ xs.length) (bi k : Nat) :
    RC Try.prog 131 [.sl bi 0 xs.length, .v (.int .i64 (a : Int)), .v (.int .i64 (m : Int)), .v (.int .i64 (b : Int)), stC n ls] [(bi, ⟨2, 1, true, xs.map inL⟩)] k (.tup [])
      [(bi, some ⟨2, 1, true, (bubD xs m (m - bisF (fun h => !ltO ls (xs.getD m 0) (xs.getD h 0)) (m - a) a m)).map inL⟩)] k := by
  have hml : (xs.map inL).length = xs.length := List.length_map _
  have b0 : (IntKind.i64.wrap ((m : Int) - a) == 1) = false := by rw [IntWalk.i64_in _ (by omega), beq_eq_false_iff_ne]; omega
  have b00 : (IntKind.i64.wrap ((b : Int) - m) == 1) = true := by rw [IntWalk.i64_in _ (by omega), beq_iff_eq]; omega
  generalize hQ : bisF (fun h => !ltO ls (xs.getD m 0) (xs.getD h 0)) (m - a) a m = q
  refine RC.ofc [bi] 0 [.sl 0 0 xs.length, .v (.int .i64 (a : Int)), .v (.int .i64 (m : Int)), .v (.int .i64 (b : Int)), stC n ls] [(0, ⟨2, 1, true, xs.map inL⟩)] (.tup []) [(0, some ⟨2, 1, true, (bubD xs m (m - q)).map inL⟩)] Try.func131 Try.ntmps131 rfl (goFn_of Try.func131 rfl (by kernel_rfl)) rfl rfl rfl rfl rfl rfl rfl rfl (by simp_all) rfl ?_
  ((repeat' (first
    | (show SQ _ _ _ _ _ _ _ _; first | apply sq_nil | (apply q_move; exact rfl; exact rfl) | (apply q_assign; exact rfl; exact rfl) | (apply q_sub; exact rfl; exact rfl; exact rfl) | (apply q_eql; exact rfl; exact rfl; exact rfl))
    | (show AW _ _ _ _ _ _ _ _; first | refine aw_region ?_ | (refine aw_seqk ?_; intro K hK) | refine aw_block ?_ | (apply aw_cond_t; exact rfl; exact (by assumption)) | (apply aw_cond_f; exact rfl; exact (by assumption)) | refine aw_skip ?_)
    | refine thn_n ?_
    | (refine hK _ _ _ ?_; clear hK K))); all_goals (repeat (clear hK K)))
  refine aw_loop (ρ := fun z => z) (ι := Nat × Nat × Nat) (fun s => ([(15, .v (.int .i64 (s.2.2 : Int))), (14, .v (.int .i64 (s.2.1 : Int))), (4, stC n ls), (2, .v (.int .i64 (m : Int))), (0, .sl 0 0 xs.length)], [(0, ⟨2, 1, true, xs.map inL⟩)], 1))
    (fun s => a ≤ s.2.1 ∧ s.2.1 ≤ s.2.2 ∧ s.2.2 ≤ m ∧ s.2.2 - s.2.1 ≤ s.1 ∧ bisF (fun h => !ltO ls (xs.getD m 0) (xs.getD h 0)) s.1 s.2.1 s.2.2 = q) (fun s => s.1) (m - a, a, m) ⟨Nat.le_refl _, by dsimp only; omega, Nat.le_refl _, Nat.le_refl _, hQ⟩ ⟨by (repeat (refine ⟨by first | exact lk_i rfl rfl | exact lk_s rfl rfl rfl rfl | exact lk_f rfl, ?_⟩)); exact trivial, by (repeat (refine ⟨by first | exact ⟨rfl, rfl, rfl⟩, ?_⟩)); exact trivial, by rfl, by (intro i hi; (try dsimp only); refine ⟨?_, ?_⟩ <;> first | rfl | omega | (simp at hi; omega) | (simp; omega))⟩ ?_
  rintro ⟨f, i, j⟩ ⟨i1, ij, jb, hf, hg⟩
  dsimp only at i1 ij jb hf hg
  dsimp only
  by_cases c1 : i < j
  · have b1 : decide ((i : Int) < (j : Int)) = true := by simpa using c1
    obtain ⟨f, rfl⟩ : ∃ f', f = f' + 1 := ⟨f - 1, by omega⟩
    rw [bisF, if_pos c1] at hg
    have hh := half_eq (i := i) (j := j) (by omega)
    have hlt : (i + j) / 2 < xs.length := by omega
    have hr1 := inL_get (xs := xs) (i := (i + j) / 2) hlt
    have hr2 := inL_get (xs := xs) (i := m) (by omega)
    have hC := stClos_ro n ls (xs.getD m 0) (xs.getD ((i + j) / 2) 0) hn (hv.at (by omega)) (hv.at (by omega))
    have hw1 : IntKind.i64.wrap ((((i + j) / 2 : Nat) : Int) + 1) = (((i + j) / 2 + 1 : Nat) : Int) := by rw [IntWalk.i64_in _ (by omega)]; omega
    have hlo := (show i ≤ (i + j) / 2 by omega)
    have hhi := (show (i + j) / 2 < j by omega)
    generalize (i + j) / 2 = h at *
    by_cases c2 : kO ls (xs.getD m 0) < kO ls (xs.getD h 0)
    · have b2 : decide (i64c (kO ls (xs.getD m 0)) (kO ls (xs.getD h 0)) < 0) = true := by rw [i64c_lt]; simpa using c2
      have b22 : (!decide (i64c (kO ls (xs.getD m 0)) (kO ls (xs.getD h 0)) < 0)) = false := by rw [b2]; rfl
      rw [if_neg (by simpa [ltO] using c2)] at hg
      rw [← hh] at hr1 hw1
      ((repeat' (first
    | (show SQ _ _ _ _ _ _ _ _; first | apply sq_nil | (apply q_move; exact rfl; exact rfl) | (apply q_assign; exact rfl; exact rfl) | (apply q_conv; exact rfl; exact rfl; exact (ty rfl); exact rfl; exact (ty rfl)) | (apply q_add; exact rfl; exact rfl; exact rfl) | (apply q_lss; exact rfl; exact rfl; exact rfl) | (apply q_shr; exact rfl; exact rfl; exact rfl; exact (by first | omega | (simp; done) | (simp; omega))))
    | (show DE _ _ _ _ _ _ _ _ _ _ _ _; first | (apply e_move; exact rfl; exact rfl; exact rfl) | (apply e_not; exact rfl; exact rfl; exact rfl) | (apply e_lss; exact rfl; exact rfl; exact rfl; exact rfl) | (apply e_ixl; exact rfl; exact rfl; exact rfl; exact (ty rfl); exact rfl; exact rfl; exact rfl; exact (by first | omega | (simp; done) | (simp; omega)); exact (by first | omega | (simp; done) | (simp; omega)); exact rfl) | (apply e_ld1p; exact rfl; exact rfl; exact (ty rfl); exact rfl; exact rfl; exact (by first | rfl | assumption | ((try simp only [Nat.zero_add]); refine List.getElem?_set_self ?_; (try simp only [List.length_set]); assumption)); exact rfl; exact rfl))
    | (show DE _ _ _ _ _ _ _ _ _ _ _ _; (first | (apply dr_nil; exact trivial) | (apply e_callU; exact rfl; exact rfl; exact rfl; exact FzL.of rfl; exact hC _; exact rfl)); (try simp only [put, rowsOf, plR, List.all_cons, selE, ovr, setH, del, cellsA, splice, isV, List.nil_append, List.cons_append, List.map_cons, List.map_nil, List.length_cons, List.length_nil, List.set_cons_zero, List.set_cons_succ, List.take_succ_cons, List.take_zero, List.take_nil, List.drop_succ_cons, List.drop_zero, List.drop_nil, List.append_nil, List.all_cons, List.all_nil, Bool.and_true, Bool.true_and, Bool.and_false, Bool.false_and, Nat.reduceAdd, Nat.zero_add, Nat.add_zero, Nat.reduceEqDiff, if_true, if_false, reduceIte]))
    | (show AW _ _ _ _ _ _ _ _; first | refine aw_region ?_ | (refine aw_seqk ?_; intro K hK) | refine aw_block ?_ | (apply aw_cond_t; exact rfl; exact (by assumption)) | (apply aw_cond_f; exact rfl; exact (by assumption)) | refine aw_skip ?_ | refine aw_drawE (id := 17) [0, 0, 0, 6, 14, 0, 0, 96, 224, 511, 1023, 2047] [0, 0, 0, 1, 1, 0, 0, 1, 1, 1, 0, 0] mixed (by kernel_rfl) ?_)
    | refine thn_n ?_
    | (refine hK _ _ _ ?_; clear hK K)
    | refine inb_n ?_)); all_goals (repeat (clear hK K)))
      all_goals (refine ⟨(f, i, h), fun z => z, ⟨i1, by dsimp only; omega, by dsimp only; omega, by dsimp only; omega, hg⟩, by dsimp only; omega, ?_⟩; (try dsimp only); rw [← hh]; exact ⟨by (repeat (refine ⟨by first | exact lk_i rfl rfl | exact lk_s rfl rfl rfl rfl | exact lk_f rfl, ?_⟩)); exact trivial, by (repeat (refine ⟨by first | exact ⟨rfl, rfl, rfl⟩, ?_⟩)); exact trivial, by rfl, by (intro i hi; (try dsimp only); refine ⟨?_, ?_⟩ <;> first | rfl | omega | (simp at hi; omega) | (simp; omega))⟩)
    · have b2 : decide (i64c (kO ls (xs.getD m 0)) (kO ls (xs.getD h 0)) < 0) = false := by rw [i64c_lt]; simpa using c2
      have b22 : (!decide (i64c (kO ls (xs.getD m 0)) (kO ls (xs.getD h 0)) < 0)) = true := by rw [b2]; rfl
      rw [if_pos (by simpa [ltO] using c2)] at hg
      rw [← hh] at hr1 hw1
      ((repeat' (first
    | (show SQ _ _ _ _ _ _ _ _; first | apply sq_nil | (apply q_move; exact rfl; exact rfl) | (apply q_assign; exact rfl; exact rfl) | (apply q_conv; exact rfl; exact rfl; exact (ty rfl); exact rfl; exact (ty rfl)) | (apply q_add; exact rfl; exact rfl; exact rfl) | (apply q_lss; exact rfl; exact rfl; exact rfl) | (apply q_shr; exact rfl; exact rfl; exact rfl; exact (by first | omega | (simp; done) | (simp; omega))))
    | (show DE _ _ _ _ _ _ _ _ _ _ _ _; first | (apply e_move; exact rfl; exact rfl; exact rfl) | (apply e_not; exact rfl; exact rfl; exact rfl) | (apply e_lss; exact rfl; exact rfl; exact rfl; exact rfl) | (apply e_ixl; exact rfl; exact rfl; exact rfl; exact (ty rfl); exact rfl; exact rfl; exact rfl; exact (by first | omega | (simp; done) | (simp; omega)); exact (by first | omega | (simp; done) | (simp; omega)); exact rfl) | (apply e_ld1p; exact rfl; exact rfl; exact (ty rfl); exact rfl; exact rfl; exact (by first | rfl | assumption | ((try simp only [Nat.zero_add]); refine List.getElem?_set_self ?_; (try simp only [List.length_set]); assumption)); exact rfl; exact rfl))
    | (show DE _ _ _ _ _ _ _ _ _ _ _ _; (first | (apply dr_nil; exact trivial) | (apply e_callU; exact rfl; exact rfl; exact rfl; exact FzL.of rfl; exact hC _; exact rfl)); (try simp only [put, rowsOf, plR, List.all_cons, selE, ovr, setH, del, cellsA, splice, isV, List.nil_append, List.cons_append, List.map_cons, List.map_nil, List.length_cons, List.length_nil, List.set_cons_zero, List.set_cons_succ, List.take_succ_cons, List.take_zero, List.take_nil, List.drop_succ_cons, List.drop_zero, List.drop_nil, List.append_nil, List.all_cons, List.all_nil, Bool.and_true, Bool.true_and, Bool.and_false, Bool.false_and, Nat.reduceAdd, Nat.zero_add, Nat.add_zero, Nat.reduceEqDiff, if_true, if_false, reduceIte]))
    | (show AW _ _ _ _ _ _ _ _; first | refine aw_region ?_ | (refine aw_seqk ?_; intro K hK) | refine aw_block ?_ | (apply aw_cond_t; exact rfl; exact (by assumption)) | refine aw_skip ?_ | refine aw_drawE (id := 17) [0, 0, 0, 6, 14, 0, 0, 96, 224, 511, 1023, 2047] [0, 0, 0, 1, 1, 0, 0, 1, 1, 1, 0, 0] mixed (by kernel_rfl) ?_)
    | refine thn_n ?_
    | (refine hK _ _ _ ?_; clear hK K)
    | refine inb_n ?_)); all_goals (repeat (clear hK K)))
      all_goals (refine ⟨(f, h + 1, j), fun z => z, ⟨by dsimp only; omega, by dsimp only; omega, jb, by dsimp only; omega, hg⟩, by dsimp only; omega, ?_⟩; (try dsimp only); rw [← hw1]; exact ⟨by (repeat (refine ⟨by first | exact lk_i rfl rfl | exact lk_s rfl rfl rfl rfl | exact lk_f rfl, ?_⟩)); exact trivial, by (repeat (refine ⟨by first | exact ⟨rfl, rfl, rfl⟩, ?_⟩)); exact trivial, by rfl, by (intro i hi; (try dsimp only); refine ⟨?_, ?_⟩ <;> first | rfl | omega | (simp at hi; omega) | (simp; omega))⟩)
  · have b1 : decide ((i : Int) < (j : Int)) = false := by simpa using c1
    obtain rfl : i = j := by omega
    have hiq : i = q := by
      rw [← hg]
      cases f with
      | zero => rfl
      | succ f => rw [bisF, if_neg c1]
    subst hiq
    ((repeat' (first
    | (show SQ _ _ _ _ _ _ _ _; first | apply sq_nil | (apply q_move; exact rfl; exact rfl) | (apply q_assign; exact rfl; exact rfl) | (apply q_lss; exact rfl; exact rfl; exact rfl))
    | (show AW _ _ _ _ _ _ _ _; first | refine aw_region ?_ | (refine aw_seqk ?_; intro K hK) | refine aw_block ?_ | (apply aw_cond_f; exact rfl; exact (by assumption)) | refine aw_exit ?_)
    | refine thn_n ?_
    | (refine hK _ _ _ ?_; clear hK K)
    | refine thn_e ?_
    | refine inb_same ?_
    | (clear hK K; refine hK _ _ _ ?_; clear hK K))); all_goals (repeat (clear hK K)))
    refine aw_loop (ρ := fun z => z) (ι := Nat) (fun c => ([(17, .v (.int .i64 ((m - c : Nat) : Int))), (14, .v (.int .i64 (i : Int))), (0, .sl 0 0 xs.length)], [(0, ⟨2, 1, true, (bubD xs m c).map inL⟩)], 1))
      (fun c => c ≤ m - i) (fun c => m - i - c) 0 (Nat.zero_le _) ⟨by (repeat (refine ⟨by first | exact lk_i rfl rfl | exact lk_s rfl rfl rfl rfl, ?_⟩)); exact trivial, by (repeat (refine ⟨by first | exact ⟨rfl, rfl, rfl⟩, ?_⟩)); exact trivial, by rfl, by (intro i hi; (try dsimp only); refine ⟨?_, ?_⟩ <;> first | rfl | omega | (simp at hi; omega) | (simp; omega))⟩ ?_
    intro c hc
    have hbl := bubD_len xs m c
    have hbm : ((bubD xs m c).map inL).length = xs.length := by rw [List.length_map, hbl]
    by_cases c3 : c < m - i
    · have b3 : decide ((i : Int) < ((m - c : Nat) : Int)) = true := by rw [decide_eq_true_eq]; omega
      have hwk : IntKind.i64.wrap (((m - c : Nat) : Int) - 1) = ((m - c - 1 : Nat) : Int) := by rw [IntWalk.i64_in _ (by omega)]; omega
      have hr0 := inL_get (xs := bubD xs m c) (i := m - c) (by omega)
      have hr1 := inL_get (xs := bubD xs m c) (i := m - c - 1) (by omega)
      obtain ⟨y, hr3⟩ := inL_set (xs := bubD xs m c) (i := ((m - c : Nat) : Int).toNat) (j := m - c - 1) (.v (.int .i64 ((bubD xs m c).getD (m - c - 1) 0))) (by omega)
      have hfin : (((bubD xs m c).map inL).set (((m - c : Nat) : Int)).toNat [.v (.int .i64 ((bubD xs m c).getD (m - c - 1) 0))]).set (IntKind.i64.wrap (((m - c : Nat) : Int) - 1)).toNat [.v (.int .i64 ((bubD xs m c).getD (m - c) 0))] = (bubD xs m (c + 1)).map inL := by
        rw [hwk, Int.toNat_natCast, Int.toNat_natCast, lsw_rows]; rfl
      have hnx : ((m - (c + 1) : Nat) : Int) = IntKind.i64.wrap (((m - c : Nat) : Int) - 1) := by rw [hwk]; rfl
      rw [← hwk] at hr1 hr3
      ((repeat' (first
    | (show SQ _ _ _ _ _ _ _ _; first | apply sq_nil | (apply q_move; exact rfl; exact rfl) | (apply q_assign; exact rfl; exact rfl) | (apply q_sub; exact rfl; exact rfl; exact rfl) | (apply q_gtr; exact rfl; exact rfl; exact rfl))
    | (show DE _ _ _ _ _ _ _ _ _ _ _ _; first | (apply e_move; exact rfl; exact rfl; exact rfl) | (apply e_sub; exact rfl; exact rfl; exact rfl; exact rfl) | (apply e_ixl; exact rfl; exact rfl; exact rfl; exact (ty rfl); exact rfl; exact rfl; exact rfl; exact (by first | omega | (simp; done) | (simp; omega)); exact (by first | omega | (simp; done) | (simp; omega)); exact rfl) | (apply e_ld1p; exact rfl; exact rfl; exact (ty rfl); exact rfl; exact rfl; exact (by first | rfl | assumption | ((try simp only [Nat.zero_add]); refine List.getElem?_set_self ?_; (try simp only [List.length_set]); assumption)); exact rfl; exact rfl))
    | (show DE _ _ _ _ _ _ _ _ _ _ _ _; (first | (apply dr_nil; exact trivial) | (apply e_store; exact rfl; exact rfl; exact (ty rfl); exact rfl; exact (by first | rfl | assumption | ((try simp only [Nat.zero_add]); refine List.getElem?_set_self ?_; (try simp only [List.length_set]); assumption)); exact rfl; exact rfl; exact rfl; exact rfl)); (try simp only [put, rowsOf, plR, List.all_cons, selE, ovr, setH, del, cellsA, splice, isV, List.nil_append, List.cons_append, List.map_cons, List.map_nil, List.length_cons, List.length_nil, List.set_cons_zero, List.set_cons_succ, List.take_succ_cons, List.take_zero, List.take_nil, List.drop_succ_cons, List.drop_zero, List.drop_nil, List.append_nil, List.all_cons, List.all_nil, Bool.and_true, Bool.true_and, Bool.and_false, Bool.false_and, Nat.reduceAdd, Nat.zero_add, Nat.add_zero, Nat.reduceEqDiff, if_true, if_false, reduceIte]))
    | (show AW _ _ _ _ _ _ _ _; first | refine aw_region ?_ | (refine aw_seqk ?_; intro K hK) | refine aw_block ?_ | (apply aw_cond_t; exact rfl; exact (by assumption)) | refine aw_skip ?_ | refine aw_drawE (id := 23) [0, 0, 0, 0, 8, 0, 0, 64, 224, 480, 0, 0, 3072, 7168, 16355, 32739, 65535, 131071] [0, 0, 0, 0, 0, 0, 0, 0, 1, 1, 0, 0, 1, 1, 1, 2, 1, 2] mixed (by kernel_rfl) ?_)
    | refine thn_n ?_
    | (refine hK _ _ _ ?_; clear hK K)
    | refine inb_n ?_)); all_goals (repeat (clear hK K)))
      all_goals (refine ⟨c + 1, fun z => z, by omega, by omega, ?_⟩; (try dsimp only); rw [← hfin, hnx]; exact ⟨by (repeat (refine ⟨by first | exact lk_i rfl rfl | exact lk_s rfl rfl rfl rfl, ?_⟩)); exact trivial, by (repeat (refine ⟨by first | exact ⟨rfl, rfl, rfl⟩, ?_⟩)); exact trivial, by rfl, by (intro i hi; (try dsimp only); refine ⟨?_, ?_⟩ <;> first | rfl | omega | (simp at hi; omega) | (simp; omega))⟩)
    · have b3 : decide ((i : Int) < ((m - c : Nat) : Int)) = false := by rw [decide_eq_false_iff_not]; omega
      obtain rfl : c = m - i := by omega
      ((repeat' (first
    | (show SQ _ _ _ _ _ _ _ _; first | apply sq_nil | (apply q_move; exact rfl; exact rfl) | (apply q_gtr; exact rfl; exact rfl; exact rfl))
    | (show AW _ _ _ _ _ _ _ _; first | refine aw_region ?_ | (refine aw_seqk ?_; intro K hK) | (apply aw_cond_f; exact rfl; exact (by assumption)) | refine aw_ret ?_ | refine aw_exit ?_)
    | refine thn_n ?_
    | (refine hK _ _ _ ?_; clear hK K)
    | refine thn_e ?_
    | refine thn_r ?_
    | refine inb_same ?_
    | (clear hK K; refine hK _ _ _ ?_; clear hK K))); all_goals (repeat (clear hK K)))
      all_goals exact finc (fun z => z) .r0 (by simp only [renA, renL]) (fun _ _ => rfl) ⟨rfl, trivial⟩ rfl
end Go.Proofs.Ytglfcaioapdiaaa.Bk

namespace Go.Proofs.Ytglfcaioapdiaaa.Bk
open Go Go.RowKit Go.Proofs.Ytglfcaioapdiaaa.Aw
set_option linter.unusedSimpArgs false
set_option linter.unusedVariables false
attribute [local irreducible] AW SQ Step RO RC DE Thn InB
theorem lsw_perm {xs : List Int} {i j : Nat} (hi : i < xs.length) (hj : j < xs.length) : (lsw xs i j).Perm xs := by
  have e1 : xs.getD i 0 = xs[i] := by simp [List.getD, hi]
  have e2 : xs.getD j 0 = xs[j] := by simp [List.getD, hj]
  unfold lsw
  rw [e1, e2, List.perm_iff_count]
  intro x
  rw [List.count_set (by simpa using hj), List.count_set hi, List.getElem_set]
  have ci : xs[i] = x → 0 < xs.count x := fun h => List.count_pos_iff.2 (h ▸ List.getElem_mem hi)
  have cj : xs[j] = x → 0 < xs.count x := fun h => List.count_pos_iff.2 (h ▸ List.getElem_mem hj)
  by_cases hij : i = j
  · subst hij
    rw [if_pos rfl]
    by_cases h1 : xs[i] = x
    · have := ci h1; simp [h1]; omega
    · simp [h1]
  · rw [if_neg hij]
    by_cases h1 : xs[i] = x
    · have := ci h1
      by_cases h2 : xs[j] = x
      · simp [h1, h2]; omega
      · simp [h1, h2]; omega
    · by_cases h2 : xs[j] = x
      · have := cj h2; simp [h1, h2]
      · simp [h1, h2]
theorem swR_perm {xs : List Int} {a b : Nat} : ∀ {m : Nat}, a + m ≤ xs.length → b + m ≤ xs.length → (swR xs a b m).Perm xs
  | 0, _, _ => .refl _
  | m + 1, ha, hb => (lsw_perm (by rw [swR_len]; omega) (by rw [swR_len]; omega)).trans (swR_perm (m := m) (by omega) (by omega))
theorem rotF_perm {m : Nat} : ∀ {f i j : Nat} {xs : List Int}, i ≤ m → m + j ≤ xs.length → (rotF m f i j xs).Perm xs
  | 0, i, j, xs, _, _ => .refl _
  | f + 1, i, j, xs, hi, hj => by
    rw [rotF]
    split
    · exact swR_perm (by omega) (by omega)
    · split
      · exact (rotF_perm (f := f) (by omega) (by rw [swR_len]; exact hj)).trans (swR_perm (by omega) (by omega))
      · exact (rotF_perm (f := f) hi (by rw [swR_len]; omega)).trans (swR_perm (by omega) (by omega))
theorem bubU_perm {xs : List Int} {a : Nat} : ∀ {c : Nat}, a + c < xs.length ∨ c = 0 → (bubU xs a c).Perm xs
  | 0, _ => .refl _
  | c + 1, h => (lsw_perm (by rw [bubU_len]; omega) (by rw [bubU_len]; omega)).trans (bubU_perm (by omega))
theorem bubD_perm {xs : List Int} {m : Nat} (hm : m < xs.length) : ∀ {c : Nat}, (bubD xs m c).Perm xs
  | 0 => .refl _
  | c + 1 => (lsw_perm (by rw [bubD_len]; omega) (by rw [bubD_len]; omega)).trans (bubD_perm hm)
def symS (lt : Int → Int → Bool) (a m b : Nat) (xs : List Int) : Nat :=
  bisF (fun c => !lt (xs.getD ((a + b) / 2 + m - 1 - c) 0) (xs.getD c 0)) ((if (a + b) / 2 < m then (a + b) / 2 else m) - (if (a + b) / 2 < m then (a + b) / 2 + m - b else a)) (if (a + b) / 2 < m then (a + b) / 2 + m - b else a) (if (a + b) / 2 < m then (a + b) / 2 else m)
theorem symS_in {lt : Int → Int → Bool} {a m b : Nat} {xs : List Int} (h1 : a < m) (h2 : m < b) : a ≤ symS lt a m b xs ∧ symS lt a m b xs ≤ m ∧ m ≤ (a + b) / 2 + m - symS lt a m b xs ∧ (a + b) / 2 + m - symS lt a m b xs ≤ b ∧ symS lt a m b xs ≤ (a + b) / 2 + m := by
  unfold symS
  split
  · have := bisF_in (fun c => !lt (xs.getD ((a + b) / 2 + m - 1 - c) 0) (xs.getD c 0)) ((a + b) / 2 - ((a + b) / 2 + m - b)) ((a + b) / 2 + m - b) ((a + b) / 2) (by omega); omega
  · have := bisF_in (fun c => !lt (xs.getD ((a + b) / 2 + m - 1 - c) 0) (xs.getD c 0)) (m - a) a m (by omega); omega
def symX (lt : Int → Int → Bool) (a m b : Nat) (xs : List Int) : List Int :=
  if (decide (symS lt a m b xs < m) && decide (m < (a + b) / 2 + m - symS lt a m b xs)) = true then rotF m ((a + b) / 2 + m - symS lt a m b xs - symS lt a m b xs) (m - symS lt a m b xs) ((a + b) / 2 + m - symS lt a m b xs - m) xs else xs
def symF (lt : Int → Int → Bool) : Nat → Nat → Nat → Nat → List Int → List Int
  | 0, _, _, _, xs => xs
  | f + 1, a, m, b, xs => if m = a + 1 then bubU xs a (bisF (fun h => lt (xs.getD h 0) (xs.getD a 0)) (b - m) m b - 1 - a)
    else if b = m + 1 then bubD xs m (m - bisF (fun h => !lt (xs.getD m 0) (xs.getD h 0)) (m - a) a m)
    else if (decide ((a + b) / 2 < (a + b) / 2 + m - symS lt a m b xs) && decide ((a + b) / 2 + m - symS lt a m b xs < b)) = true
      then symF lt f ((a + b) / 2) ((a + b) / 2 + m - symS lt a m b xs) b (if (decide (a < symS lt a m b xs) && decide (symS lt a m b xs < (a + b) / 2)) = true then symF lt f a (symS lt a m b xs) ((a + b) / 2) (symX lt a m b xs) else symX lt a m b xs)
      else (if (decide (a < symS lt a m b xs) && decide (symS lt a m b xs < (a + b) / 2)) = true then symF lt f a (symS lt a m b xs) ((a + b) / 2) (symX lt a m b xs) else symX lt a m b xs)
theorem symX_perm {lt : Int → Int → Bool} {a m b : Nat} {xs : List Int} (h1 : a < m) (h2 : m < b) (hb : b ≤ xs.length) : (symX lt a m b xs).Perm xs := by
  have := symS_in (lt := lt) (xs := xs) h1 h2
  unfold symX
  split
  · exact rotF_perm (by omega) (by omega)
  · exact .refl _
theorem symF_perm {lt : Int → Int → Bool} : ∀ {f a m b : Nat} {xs : List Int}, a < m → m < b → b ≤ xs.length → (symF lt f a m b xs).Perm xs
  | 0, a, m, b, xs, _, _, _ => .refl _
  | f + 1, a, m, b, xs, h1, h2, hb => by
    have hs := symS_in (lt := lt) (xs := xs) h1 h2
    have hX := symX_perm (lt := lt) (xs := xs) h1 h2 hb
    have hXl := hX.length_eq
    rw [symF]
    split
    · have := bisF_in (fun h => lt (xs.getD h 0) (xs.getD a 0)) (b - m) m b (by omega)
      exact bubU_perm (by omega)
    · split
      · exact bubD_perm (by omega)
      · have hA : (if (decide (a < symS lt a m b xs) && decide (symS lt a m b xs < (a + b) / 2)) = true then symF lt f a (symS lt a m b xs) ((a + b) / 2) (symX lt a m b xs) else symX lt a m b xs).Perm xs := by
          split
          · rename_i hc
            simp only [Bool.and_eq_true, decide_eq_true_eq] at hc
            exact (symF_perm (f := f) hc.1 hc.2 (by omega)).trans hX
          · exact hX
        have hAl := hA.length_eq
        split
        · rename_i hc
          simp only [Bool.and_eq_true, decide_eq_true_eq] at hc
          exact (symF_perm (f := f) hc.1 hc.2 (by omega)).trans hA
        · exact hA
theorem Vd.perm {ls : List Ln} {xs ys : List Int} (h : Vd ls xs) (hp : ys.Perm xs) : Vd ls ys := fun x hx => h x (hp.mem_iff.1 hx)
set_option maxHeartbeats 4000000 in
theorem symMerge_rc (n : Int) (ls : List Ln) (hn : ls.length ≤ 1048576) : ∀ (f : Nat) (xs : List Int) (a m b : Nat), xs.length ≤ 1048576 → Vd ls xs → a < m → m < b → b ≤ xs.length → b - a ≤ f → ∀ bi k,
    RC Try.prog 131 [.sl bi 0 xs.length, .v (.int .i64 (a : Int)), .v (.int .i64 (m : Int)), .v (.int .i64 (b : Int)), stC n ls] [(bi, ⟨2, 1, true, xs.map inL⟩)] k (.tup [])
      [(bi, some ⟨2, 1, true, (symF (ltO ls) f a m b xs).map inL⟩)] k
  | 0, xs, a, m, b, hx, hv, ha, hm, hb, hf, bi, k => by omega
  | f + 1, xs, a, m, b, hx, hv, ha, hm, hb, hf, bi, k => by
    rw [symF]
    by_cases k1 : m = a + 1
    · rw [if_pos k1]; exact symU_rc n ls xs a m b hn hx hv k1.symm hm hb bi k
    rw [if_neg k1]
    by_cases k2 : b = m + 1
    · rw [if_pos k2]; exact symD_rc n ls xs a m b hn hx hv (by omega) k2.symm hb bi k
    rw [if_neg k2]
    have hI := symMerge_rc n ls hn f
    have hsi := symS_in (lt := ltO ls) (xs := xs) ha hm
    have hX := symX_perm (lt := ltO ls) (xs := xs) ha hm hb
    have hml : (xs.map inL).length = xs.length := List.length_map _
    have b0 : (IntKind.i64.wrap ((m : Int) - a) == 1) = false := by rw [IntWalk.i64_in _ (by omega), beq_eq_false_iff_ne]; omega
    have b00 : (IntKind.i64.wrap ((b : Int) - m) == 1) = false := by rw [IntWalk.i64_in _ (by omega), beq_eq_false_iff_ne]; omega
    have hmd := half_eq (i := a) (j := b) (by omega)
    have hXd : symX (ltO ls) a m b xs = if (decide (symS (ltO ls) a m b xs < m) && decide (m < (a + b) / 2 + m - symS (ltO ls) a m b xs)) = true then rotF m ((a + b) / 2 + m - symS (ltO ls) a m b xs - symS (ltO ls) a m b xs) (m - symS (ltO ls) a m b xs) ((a + b) / 2 + m - symS (ltO ls) a m b xs - m) xs else xs := rfl
    have hSd : symS (ltO ls) a m b xs = bisF (fun c => !ltO ls (xs.getD ((a + b) / 2 + m - 1 - c) 0) (xs.getD c 0)) ((if (a + b) / 2 < m then (a + b) / 2 else m) - (if (a + b) / 2 < m then (a + b) / 2 + m - b else a)) (if (a + b) / 2 < m then (a + b) / 2 + m - b else a) (if (a + b) / 2 < m then (a + b) / 2 else m) := rfl
    generalize hQ : (if (decide ((a + b) / 2 < (a + b) / 2 + m - symS (ltO ls) a m b xs) && decide ((a + b) / 2 + m - symS (ltO ls) a m b xs < b)) = true
      then symF (ltO ls) f ((a + b) / 2) ((a + b) / 2 + m - symS (ltO ls) a m b xs) b (if (decide (a < symS (ltO ls) a m b xs) && decide (symS (ltO ls) a m b xs < (a + b) / 2)) = true then symF (ltO ls) f a (symS (ltO ls) a m b xs) ((a + b) / 2) (symX (ltO ls) a m b xs) else symX (ltO ls) a m b xs)
      else (if (decide (a < symS (ltO ls) a m b xs) && decide (symS (ltO ls) a m b xs < (a + b) / 2)) = true then symF (ltO ls) f a (symS (ltO ls) a m b xs) ((a + b) / 2) (symX (ltO ls) a m b xs) else symX (ltO ls) a m b xs)) = Q
    generalize symX (ltO ls) a m b xs = X at *
    generalize symS (ltO ls) a m b xs = S at *
    have hdl : a < (a + b) / 2 ∧ (a + b) / 2 < b ∧ (a + b) / 2 * 2 ≤ a + b ∧ a + b ≤ (a + b) / 2 * 2 + 1 := by omega
    generalize (a + b) / 2 = d at *
    have hwn : IntKind.i64.wrap ((d : Int) + m) = ((d + m : Nat) : Int) := by rw [IntWalk.i64_in _ (by omega)]; omega
    have hwp : IntKind.i64.wrap (((d + m : Nat) : Int) - 1) = ((d + m - 1 : Nat) : Int) := by rw [IntWalk.i64_in _ (by omega)]; omega
    have hwb : IntKind.i64.wrap (((d + m : Nat) : Int) - b) = ((d + m : Nat) : Int) - b := IntWalk.i64_in _ (by omega)
    refine RC.ofc [bi] 0 [.sl 0 0 xs.length, .v (.int .i64 (a : Int)), .v (.int .i64 (m : Int)), .v (.int .i64 (b : Int)), stC n ls] [(0, ⟨2, 1, true, xs.map inL⟩)] (.tup []) [(0, some ⟨2, 1, true, Q.map inL⟩)] Try.func131 Try.ntmps131 rfl (goFn_of Try.func131 rfl (by kernel_rfl)) rfl rfl rfl rfl rfl rfl rfl rfl (by simp_all) rfl ?_
    have key : ∀ (s0 r0 : Nat), (if d < m then d + m - b else a) = s0 → (if d < m then d else m) = r0 → a ≤ s0 ∧ s0 ≤ r0 ∧ r0 ≤ m ∧ r0 ≤ d ∧ d + m - b ≤ s0 ∧ d + m ≤ b + s0 := by intro s0 r0 e1 e2; split at e1 <;> split at e2 <;> omega
    by_cases k3 : d < m
    · have b3 : decide ((d : Int) < (m : Int)) = true := by simpa using k3
      rw [← hmd] at b3
      ((repeat' (first
    | (show SQ _ _ _ _ _ _ _ _; first | apply sq_nil | (apply q_move; exact rfl; exact rfl) | (apply q_assign; exact rfl; exact rfl) | (apply q_conv; exact rfl; exact rfl; exact (ty rfl); exact rfl; exact (ty rfl)) | (apply q_add; exact rfl; exact rfl; exact rfl) | (apply q_sub; exact rfl; exact rfl; exact rfl) | (apply q_eql; exact rfl; exact rfl; exact rfl) | (apply q_gtr; exact rfl; exact rfl; exact rfl) | (apply q_shr; exact rfl; exact rfl; exact rfl; exact (by first | omega | (simp; done) | (simp; omega))))
    | (show AW _ _ _ _ _ _ _ _; first | refine aw_region ?_ | (refine aw_seqk ?_; intro K hK) | refine aw_block ?_ | (apply aw_cond_t; exact rfl; exact (by assumption)) | (apply aw_cond_f; exact rfl; exact (by assumption)) | refine aw_skip ?_)
    | refine thn_n ?_
    | (refine hK _ _ _ ?_; clear hK K))); all_goals (repeat (clear hK K)))
      rw [hmd, hwn, hwp, hwb, show ((d + m : Nat) : Int) - b = ((d + m - b : Nat) : Int) by omega]
      obtain ⟨q1, q2, q3, q4, q5, q6⟩ := key (d + m - b) d (if_pos k3) (if_pos k3)
      rw [if_pos k3, if_pos k3] at hSd
      refine aw_loop (ρ := fun z => z) (ι := Nat × Nat × Nat) (fun s => ([(22, .v (.int .i64 ((d + m - 1 : Nat) : Int))), (21, .v (.int .i64 (s.2.2 : Int))), (20, .v (.int .i64 (s.2.1 : Int))), (19, .v (.int .i64 ((d + m : Nat) : Int))), (18, .v (.int .i64 (d : Int))), (4, stC n ls), (3, .v (.int .i64 (b : Int))), (2, .v (.int .i64 (m : Int))), (1, .v (.int .i64 (a : Int))), (0, .sl 0 0 xs.length)], [(0, ⟨2, 1, true, xs.map inL⟩)], 1))
        (fun s => d + m ≤ b + s.2.1 ∧ s.2.1 ≤ s.2.2 ∧ s.2.2 ≤ m ∧ s.2.2 ≤ d ∧ s.2.2 - s.2.1 ≤ s.1 ∧ bisF (fun c => !ltO ls (xs.getD (d + m - 1 - c) 0) (xs.getD c 0)) s.1 s.2.1 s.2.2 = S) (fun s => s.1) (d - (d + m - b), (d + m - b), d) ⟨by dsimp only; omega, by dsimp only; omega, by dsimp only; omega, by dsimp only; omega, Nat.le_refl _, hSd.symm⟩ ⟨by (repeat (refine ⟨by first | exact lk_i rfl rfl | exact lk_s rfl rfl rfl rfl | exact lk_f rfl, ?_⟩)); exact trivial, by (repeat (refine ⟨by first | exact ⟨rfl, rfl, rfl⟩, ?_⟩)); exact trivial, by rfl, by (intro i hi; (try dsimp only); refine ⟨?_, ?_⟩ <;> first | rfl | omega | (simp at hi; omega) | (simp; omega))⟩ ?_
      rintro ⟨g, i, j⟩ ⟨i1, ij, jm, jd, hg1, hg⟩
      dsimp only at i1 ij jm jd hg1 hg
      dsimp only
      by_cases c1 : i < j
      · have b1 : decide ((i : Int) < (j : Int)) = true := by simpa using c1
        obtain ⟨g, rfl⟩ : ∃ g', g = g' + 1 := ⟨g - 1, by omega⟩
        rw [bisF, if_pos c1] at hg
        have hh := half_eq (i := i) (j := j) (by omega)
        have hlo := (show i ≤ (i + j) / 2 by omega)
        have hhi := (show (i + j) / 2 < j by omega)
        generalize (i + j) / 2 = h at *
        have hwp2 : IntKind.i64.wrap (((d + m - 1 : Nat) : Int) - (h : Int)) = ((d + m - 1 - h : Nat) : Int) := by rw [IntWalk.i64_in _ (by omega)]; omega
        have hr1 := inL_get (xs := xs) (i := d + m - 1 - h) (by omega)
        have hr2 := inL_get (xs := xs) (i := h) (by omega)
        have hC := stClos_ro n ls (xs.getD (d + m - 1 - h) 0) (xs.getD h 0) hn (hv.at (by omega)) (hv.at (by omega))
        have hw1 : IntKind.i64.wrap ((h : Int) + 1) = ((h + 1 : Nat) : Int) := by rw [IntWalk.i64_in _ (by omega)]; omega
        rw [← hwp2] at hr1
        by_cases c2 : kO ls (xs.getD (d + m - 1 - h) 0) < kO ls (xs.getD h 0)
        · have b2 : decide (i64c (kO ls (xs.getD (d + m - 1 - h) 0)) (kO ls (xs.getD h 0)) < 0) = true := by rw [i64c_lt]; simpa using c2
          have b22 : (!decide (i64c (kO ls (xs.getD (d + m - 1 - h) 0)) (kO ls (xs.getD h 0)) < 0)) = false := by rw [b2]; rfl
          rw [if_neg (by simpa [ltO] using c2)] at hg
          rw [← hh] at hr1 hr2 hw1 hwp2
          ((repeat' (first
    | (show SQ _ _ _ _ _ _ _ _; first | apply sq_nil | (apply q_move; exact rfl; exact rfl) | (apply q_assign; exact rfl; exact rfl) | (apply q_conv; exact rfl; exact rfl; exact (ty rfl); exact rfl; exact (ty rfl)) | (apply q_add; exact rfl; exact rfl; exact rfl) | (apply q_lss; exact rfl; exact rfl; exact rfl) | (apply q_shr; exact rfl; exact rfl; exact rfl; exact (by first | omega | (simp; done) | (simp; omega))))
    | (show DE _ _ _ _ _ _ _ _ _ _ _ _; first | (apply e_move; exact rfl; exact rfl; exact rfl) | (apply e_not; exact rfl; exact rfl; exact rfl) | (apply e_sub; exact rfl; exact rfl; exact rfl; exact rfl) | (apply e_lss; exact rfl; exact rfl; exact rfl; exact rfl) | (apply e_ixl; exact rfl; exact rfl; exact rfl; exact (ty rfl); exact rfl; exact rfl; exact rfl; exact (by first | omega | (simp; done) | (simp; omega)); exact (by first | omega | (simp; done) | (simp; omega)); exact rfl) | (apply e_ld1p; exact rfl; exact rfl; exact (ty rfl); exact rfl; exact rfl; exact (by first | rfl | assumption | ((try simp only [Nat.zero_add]); refine List.getElem?_set_self ?_; (try simp only [List.length_set]); assumption)); exact rfl; exact rfl))
    | (show DE _ _ _ _ _ _ _ _ _ _ _ _; (first | (apply dr_nil; exact trivial) | (apply e_callU; exact rfl; exact rfl; exact rfl; exact FzL.of rfl; exact hC _; exact rfl)); (try simp only [put, rowsOf, plR, List.all_cons, selE, ovr, setH, del, cellsA, splice, isV, List.nil_append, List.cons_append, List.map_cons, List.map_nil, List.length_cons, List.length_nil, List.set_cons_zero, List.set_cons_succ, List.take_succ_cons, List.take_zero, List.take_nil, List.drop_succ_cons, List.drop_zero, List.drop_nil, List.append_nil, List.all_cons, List.all_nil, Bool.and_true, Bool.true_and, Bool.and_false, Bool.false_and, Nat.reduceAdd, Nat.zero_add, Nat.add_zero, Nat.reduceEqDiff, if_true, if_false, reduceIte]))
    | (show AW _ _ _ _ _ _ _ _; first | refine aw_region ?_ | (refine aw_seqk ?_; intro K hK) | refine aw_block ?_ | (apply aw_cond_t; exact rfl; exact (by assumption)) | (apply aw_cond_f; exact rfl; exact (by assumption)) | refine aw_skip ?_ | refine aw_drawE (id := 35) [0, 0, 0, 0, 12, 30, 62, 0, 0, 384, 896, 2047, 4095, 8191] [0, 0, 0, 0, 0, 1, 1, 0, 0, 1, 1, 1, 0, 0] mixed (by kernel_rfl) ?_)
    | refine thn_n ?_
    | (refine hK _ _ _ ?_; clear hK K)
    | refine inb_n ?_)); all_goals (repeat (clear hK K)))
          all_goals (refine ⟨(g, i, h), fun z => z, ⟨i1, by dsimp only; omega, by dsimp only; omega, by dsimp only; omega, by dsimp only; omega, hg⟩, by dsimp only; omega, ?_⟩; (try dsimp only); rw [← hh]; exact ⟨by (repeat (refine ⟨by first | exact lk_i rfl rfl | exact lk_s rfl rfl rfl rfl | exact lk_f rfl, ?_⟩)); exact trivial, by (repeat (refine ⟨by first | exact ⟨rfl, rfl, rfl⟩, ?_⟩)); exact trivial, by rfl, by (intro i hi; (try dsimp only); refine ⟨?_, ?_⟩ <;> first | rfl | omega | (simp at hi; omega) | (simp; omega))⟩)
        · have b2 : decide (i64c (kO ls (xs.getD (d + m - 1 - h) 0)) (kO ls (xs.getD h 0)) < 0) = false := by rw [i64c_lt]; simpa using c2
          have b22 : (!decide (i64c (kO ls (xs.getD (d + m - 1 - h) 0)) (kO ls (xs.getD h 0)) < 0)) = true := by rw [b2]; rfl
          rw [if_pos (by simpa [ltO] using c2)] at hg
          rw [← hh] at hr1 hr2 hw1 hwp2
          ((repeat' (first
    | (show SQ _ _ _ _ _ _ _ _; first | apply sq_nil | (apply q_move; exact rfl; exact rfl) | (apply q_assign; exact rfl; exact rfl) | (apply q_conv; exact rfl; exact rfl; exact (ty rfl); exact rfl; exact (ty rfl)) | (apply q_add; exact rfl; exact rfl; exact rfl) | (apply q_lss; exact rfl; exact rfl; exact rfl) | (apply q_shr; exact rfl; exact rfl; exact rfl; exact (by first | omega | (simp; done) | (simp; omega))))
    | (show DE _ _ _ _ _ _ _ _ _ _ _ _; first | (apply e_move; exact rfl; exact rfl; exact rfl) | (apply e_not; exact rfl; exact rfl; exact rfl) | (apply e_sub; exact rfl; exact rfl; exact rfl; exact rfl) | (apply e_lss; exact rfl; exact rfl; exact rfl; exact rfl) | (apply e_ixl; exact rfl; exact rfl; exact rfl; exact (ty rfl); exact rfl; exact rfl; exact rfl; exact (by first | omega | (simp; done) | (simp; omega)); exact (by first | omega | (simp; done) | (simp; omega)); exact rfl) | (apply e_ld1p; exact rfl; exact rfl; exact (ty rfl); exact rfl; exact rfl; exact (by first | rfl | assumption | ((try simp only [Nat.zero_add]); refine List.getElem?_set_self ?_; (try simp only [List.length_set]); assumption)); exact rfl; exact rfl))
    | (show DE _ _ _ _ _ _ _ _ _ _ _ _; (first | (apply dr_nil; exact trivial) | (apply e_callU; exact rfl; exact rfl; exact rfl; exact FzL.of rfl; exact hC _; exact rfl)); (try simp only [put, rowsOf, plR, List.all_cons, selE, ovr, setH, del, cellsA, splice, isV, List.nil_append, List.cons_append, List.map_cons, List.map_nil, List.length_cons, List.length_nil, List.set_cons_zero, List.set_cons_succ, List.take_succ_cons, List.take_zero, List.take_nil, List.drop_succ_cons, List.drop_zero, List.drop_nil, List.append_nil, List.all_cons, List.all_nil, Bool.and_true, Bool.true_and, Bool.and_false, Bool.false_and, Nat.reduceAdd, Nat.zero_add, Nat.add_zero, Nat.reduceEqDiff, if_true, if_false, reduceIte]))
    | (show AW _ _ _ _ _ _ _ _; first | refine aw_region ?_ | (refine aw_seqk ?_; intro K hK) | refine aw_block ?_ | (apply aw_cond_t; exact rfl; exact (by assumption)) | refine aw_skip ?_ | refine aw_drawE (id := 35) [0, 0, 0, 0, 12, 30, 62, 0, 0, 384, 896, 2047, 4095, 8191] [0, 0, 0, 0, 0, 1, 1, 0, 0, 1, 1, 1, 0, 0] mixed (by kernel_rfl) ?_)
    | refine thn_n ?_
    | (refine hK _ _ _ ?_; clear hK K)
    | refine inb_n ?_)); all_goals (repeat (clear hK K)))
          all_goals (refine ⟨(g, h + 1, j), fun z => z, ⟨by dsimp only; omega, by dsimp only; omega, jm, jd, by dsimp only; omega, hg⟩, by dsimp only; omega, ?_⟩; (try dsimp only); rw [← hw1]; exact ⟨by (repeat (refine ⟨by first | exact lk_i rfl rfl | exact lk_s rfl rfl rfl rfl | exact lk_f rfl, ?_⟩)); exact trivial, by (repeat (refine ⟨by first | exact ⟨rfl, rfl, rfl⟩, ?_⟩)); exact trivial, by rfl, by (intro i hi; (try dsimp only); refine ⟨?_, ?_⟩ <;> first | rfl | omega | (simp at hi; omega) | (simp; omega))⟩)
      · have b1 : decide ((i : Int) < (j : Int)) = false := by simpa using c1
        obtain rfl : i = j := by omega
        have hiq : i = S := by
          rw [← hg]
          cases g with
          | zero => rfl
          | succ g => rw [bisF, if_neg c1]
        subst hiq
        have hwe : IntKind.i64.wrap (((d + m : Nat) : Int) - (i : Int)) = ((d + m - i : Nat) : Int) := by rw [IntWalk.i64_in _ (by omega)]; omega
        generalize he : d + m - i = e at *
        by_cases x0 : i < m
        · have f0 : decide ((i : Int) < (m : Int)) = true := by simpa using x0
          by_cases y0 : m < e
          · have g0 : decide ((m : Int) < (e : Int)) = true := by simpa using y0
            rw [← hwe] at g0
            by_cases x1 : a < i
            · have f1 : decide ((a : Int) < (i : Int)) = true := by simpa using x1
              by_cases y1 : i < d
              · have g1 : decide ((i : Int) < (d : Int)) = true := by simpa using y1
                by_cases x2 : d < e
                · have f2 : decide ((d : Int) < (e : Int)) = true := by simpa using x2
                  rw [← hwe] at f2
                  by_cases y2 : e < b
                  · have g2 : decide ((e : Int) < (b : Int)) = true := by simpa using y2
                    rw [← hwe] at g2
                    have hXl := hX.length_eq
                    rw [if_pos (by simp; omega)] at hXd
                    have hR := rotate_rc n ls xs i m e hx (by omega) (by omega) (by omega) 0 1
                    rw [← hXd] at hR
                    have hvX := hv.perm hX
                    have hA := hI X a i d (by omega) hvX (by omega) (by omega) (by omega) (by omega) 0 1
                    have hAp := symF_perm (lt := ltO ls) (f := f) (a := a) (m := i) (b := d) (xs := X) (by omega) (by omega) (by omega)
                    have hAl := hAp.length_eq
                    have hvA := hvX.perm hAp
                    have hi2 : (decide (a < i) && decide (i < d)) = true := by simp; omega
                    rw [if_pos hi2] at hQ
                    generalize hY : symF (ltO ls) f a i d X = Y at *
                    have hB := hI Y d e b (by omega) hvA (by omega) (by omega) (by omega) (by omega) 0 1
                    have hi3 : (decide (d < e) && decide (e < b)) = true := by simp; omega
                    rw [if_pos hi3] at hQ
                    rw [← hwe] at hR
                    rw [hXl] at hA
                    rw [hAl, hXl, hQ, ← hwe] at hB
                    ((repeat' (first
    | (show SQ _ _ _ _ _ _ _ _; first | apply sq_nil | (apply q_move; exact rfl; exact rfl) | (apply q_assign; exact rfl; exact rfl) | (apply q_pick_t; exact rfl; exact rfl; exact rfl; exact (by first | assumption | exact rfl)) | (apply q_sub; exact rfl; exact rfl; exact rfl) | (apply q_lss; exact rfl; exact rfl; exact rfl) | (apply q_g; exact rfl; exact rfl; exact rfl; exact (by assumption)))
    | (show SQ _ _ _ _ _ _ _ _; (first | (apply q_callC; exact rfl; exact rfl; exact rfl; exact hR; (focus ((repeat (first | exact trivial | refine ⟨by first | exact rfl | assumption, ?_⟩)); done)); skip) | (apply q_callC; exact rfl; exact rfl; exact rfl; exact hA; (focus ((repeat (first | exact trivial | refine ⟨by first | exact rfl | assumption, ?_⟩)); done)); skip) | (apply q_callC; exact rfl; exact rfl; exact rfl; exact hB; (focus ((repeat (first | exact trivial | refine ⟨by first | exact rfl | assumption, ?_⟩)); done)); skip)); (try simp only [put, rowsOf, plR, List.all_cons, selE, ovr, setH, del, cellsA, splice, isV, List.nil_append, List.cons_append, List.map_cons, List.map_nil, List.length_cons, List.length_nil, List.set_cons_zero, List.set_cons_succ, List.take_succ_cons, List.take_zero, List.take_nil, List.drop_succ_cons, List.drop_zero, List.drop_nil, List.append_nil, List.all_cons, List.all_nil, Bool.and_true, Bool.true_and, Bool.and_false, Bool.false_and, Nat.reduceAdd, Nat.zero_add, Nat.add_zero, Nat.reduceEqDiff, if_true, if_false, reduceIte]))
    | (show AW _ _ _ _ _ _ _ _; first | refine aw_region ?_ | (refine aw_seqk ?_; intro K hK) | (apply aw_cond_t; exact rfl; exact (by assumption)) | (apply aw_cond_f; exact rfl; exact (by assumption)) | refine aw_exit ?_)
    | refine thn_n ?_
    | (refine hK _ _ _ ?_; clear hK K)
    | refine thn_e ?_
    | refine inb_same ?_
    | (clear hK K; refine hK _ _ _ ?_; clear hK K))); all_goals (repeat (clear hK K)))
                    all_goals exact finc_n (fun z => z) .r0 (by simp only [renA, renL]) (fun _ _ => rfl) ⟨rfl, trivial⟩ rfl
                  · have g2 : decide ((e : Int) < (b : Int)) = false := by simpa using y2
                    rw [← hwe] at g2
                    have hXl := hX.length_eq
                    rw [if_pos (by simp; omega)] at hXd
                    have hR := rotate_rc n ls xs i m e hx (by omega) (by omega) (by omega) 0 1
                    rw [← hXd] at hR
                    have hvX := hv.perm hX
                    have hA := hI X a i d (by omega) hvX (by omega) (by omega) (by omega) (by omega) 0 1
                    have hAp := symF_perm (lt := ltO ls) (f := f) (a := a) (m := i) (b := d) (xs := X) (by omega) (by omega) (by omega)
                    have hAl := hAp.length_eq
                    have hvA := hvX.perm hAp
                    have hi2 : (decide (a < i) && decide (i < d)) = true := by simp; omega
                    rw [if_pos hi2] at hQ
                    generalize hY : symF (ltO ls) f a i d X = Y at *
                    have hi3 : ¬ (decide (d < e) && decide (e < b)) = true := by simp; omega
                    rw [if_neg hi3] at hQ
                    rw [← hwe] at hR
                    rw [hXl] at hA
                    subst hQ
                    ((repeat' (first
    | (show SQ _ _ _ _ _ _ _ _; first | apply sq_nil | (apply q_move; exact rfl; exact rfl) | (apply q_assign; exact rfl; exact rfl) | (apply q_pick_t; exact rfl; exact rfl; exact rfl; exact (by first | assumption | exact rfl)) | (apply q_sub; exact rfl; exact rfl; exact rfl) | (apply q_lss; exact rfl; exact rfl; exact rfl) | (apply q_g; exact rfl; exact rfl; exact rfl; exact (by assumption)))
    | (show SQ _ _ _ _ _ _ _ _; (first | (apply q_callC; exact rfl; exact rfl; exact rfl; exact hR; (focus ((repeat (first | exact trivial | refine ⟨by first | exact rfl | assumption, ?_⟩)); done)); skip) | (apply q_callC; exact rfl; exact rfl; exact rfl; exact hA; (focus ((repeat (first | exact trivial | refine ⟨by first | exact rfl | assumption, ?_⟩)); done)); skip)); (try simp only [put, rowsOf, plR, List.all_cons, selE, ovr, setH, del, cellsA, splice, isV, List.nil_append, List.cons_append, List.map_cons, List.map_nil, List.length_cons, List.length_nil, List.set_cons_zero, List.set_cons_succ, List.take_succ_cons, List.take_zero, List.take_nil, List.drop_succ_cons, List.drop_zero, List.drop_nil, List.append_nil, List.all_cons, List.all_nil, Bool.and_true, Bool.true_and, Bool.and_false, Bool.false_and, Nat.reduceAdd, Nat.zero_add, Nat.add_zero, Nat.reduceEqDiff, if_true, if_false, reduceIte]))
    | (show AW _ _ _ _ _ _ _ _; first | refine aw_region ?_ | (refine aw_seqk ?_; intro K hK) | (apply aw_cond_t; exact rfl; exact (by assumption)) | (apply aw_cond_f; exact rfl; exact (by assumption)) | refine aw_exit ?_ | refine aw_skip ?_)
    | refine thn_n ?_
    | (refine hK _ _ _ ?_; clear hK K)
    | refine thn_e ?_
    | refine inb_same ?_
    | (clear hK K; refine hK _ _ _ ?_; clear hK K))); all_goals (repeat (clear hK K)))
                    all_goals exact finc_n (fun z => z) .r0 (by simp only [renA, renL]) (fun _ _ => rfl) ⟨rfl, trivial⟩ rfl
                · have f2 : decide ((d : Int) < (e : Int)) = false := by simpa using x2
                  rw [← hwe] at f2
                  have hXl := hX.length_eq
                  rw [if_pos (by simp; omega)] at hXd
                  have hR := rotate_rc n ls xs i m e hx (by omega) (by omega) (by omega) 0 1
                  rw [← hXd] at hR
                  have hvX := hv.perm hX
                  have hA := hI X a i d (by omega) hvX (by omega) (by omega) (by omega) (by omega) 0 1
                  have hAp := symF_perm (lt := ltO ls) (f := f) (a := a) (m := i) (b := d) (xs := X) (by omega) (by omega) (by omega)
                  have hAl := hAp.length_eq
                  have hvA := hvX.perm hAp
                  have hi2 : (decide (a < i) && decide (i < d)) = true := by simp; omega
                  rw [if_pos hi2] at hQ
                  generalize hY : symF (ltO ls) f a i d X = Y at *
                  have hi3 : ¬ (decide (d < e) && decide (e < b)) = true := by simp; omega
                  rw [if_neg hi3] at hQ
                  rw [← hwe] at hR
                  rw [hXl] at hA
                  subst hQ
                  ((repeat' (first
    | (show SQ _ _ _ _ _ _ _ _; first | apply sq_nil | (apply q_move; exact rfl; exact rfl) | (apply q_assign; exact rfl; exact rfl) | (apply q_pick_t; exact rfl; exact rfl; exact rfl; exact (by first | assumption | exact rfl)) | (apply q_pick_f; exact rfl; exact rfl; exact rfl; exact (by first | assumption | exact rfl)) | (apply q_sub; exact rfl; exact rfl; exact rfl) | (apply q_lss; exact rfl; exact rfl; exact rfl) | (apply q_g; exact rfl; exact rfl; exact rfl; exact (by assumption)) | (apply q_s; exact rfl; exact rfl; exact rfl; exact (by assumption); exact rfl))
    | (show SQ _ _ _ _ _ _ _ _; (first | (apply q_callC; exact rfl; exact rfl; exact rfl; exact hR; (focus ((repeat (first | exact trivial | refine ⟨by first | exact rfl | assumption, ?_⟩)); done)); skip) | (apply q_callC; exact rfl; exact rfl; exact rfl; exact hA; (focus ((repeat (first | exact trivial | refine ⟨by first | exact rfl | assumption, ?_⟩)); done)); skip)); (try simp only [put, rowsOf, plR, List.all_cons, selE, ovr, setH, del, cellsA, splice, isV, List.nil_append, List.cons_append, List.map_cons, List.map_nil, List.length_cons, List.length_nil, List.set_cons_zero, List.set_cons_succ, List.take_succ_cons, List.take_zero, List.take_nil, List.drop_succ_cons, List.drop_zero, List.drop_nil, List.append_nil, List.all_cons, List.all_nil, Bool.and_true, Bool.true_and, Bool.and_false, Bool.false_and, Nat.reduceAdd, Nat.zero_add, Nat.add_zero, Nat.reduceEqDiff, if_true, if_false, reduceIte]))
    | (show AW _ _ _ _ _ _ _ _; first | refine aw_region ?_ | (refine aw_seqk ?_; intro K hK) | (apply aw_cond_f; exact rfl; exact rfl) | (apply aw_cond_t; exact rfl; exact (by assumption)) | (apply aw_cond_f; exact rfl; exact (by assumption)) | refine aw_exit ?_ | refine aw_skip ?_)
    | refine thn_n ?_
    | (refine hK _ _ _ ?_; clear hK K)
    | refine thn_e ?_
    | refine inb_same ?_
    | (clear hK K; refine hK _ _ _ ?_; clear hK K))); all_goals (repeat (clear hK K)))
                  all_goals exact finc_n (fun z => z) .r0 (by simp only [renA, renL]) (fun _ _ => rfl) ⟨rfl, trivial⟩ rfl
              · have g1 : decide ((i : Int) < (d : Int)) = false := by simpa using y1
                by_cases x2 : d < e
                · have f2 : decide ((d : Int) < (e : Int)) = true := by simpa using x2
                  rw [← hwe] at f2
                  by_cases y2 : e < b
                  · have g2 : decide ((e : Int) < (b : Int)) = true := by simpa using y2
                    rw [← hwe] at g2
                    have hXl := hX.length_eq
                    rw [if_pos (by simp; omega)] at hXd
                    have hR := rotate_rc n ls xs i m e hx (by omega) (by omega) (by omega) 0 1
                    rw [← hXd] at hR
                    have hvX := hv.perm hX
                    have hi2 : ¬ (decide (a < i) && decide (i < d)) = true := by simp; omega
                    rw [if_neg hi2] at hQ
                    have hB := hI X d e b (by omega) hvX (by omega) (by omega) (by omega) (by omega) 0 1
                    have hi3 : (decide (d < e) && decide (e < b)) = true := by simp; omega
                    rw [if_pos hi3] at hQ
                    rw [← hwe] at hR
                    rw [hXl, hQ, ← hwe] at hB
                    ((repeat' (first
    | (show SQ _ _ _ _ _ _ _ _; first | apply sq_nil | (apply q_move; exact rfl; exact rfl) | (apply q_assign; exact rfl; exact rfl) | (apply q_pick_t; exact rfl; exact rfl; exact rfl; exact (by first | assumption | exact rfl)) | (apply q_sub; exact rfl; exact rfl; exact rfl) | (apply q_lss; exact rfl; exact rfl; exact rfl) | (apply q_g; exact rfl; exact rfl; exact rfl; exact (by assumption)))
    | (show SQ _ _ _ _ _ _ _ _; (first | (apply q_callC; exact rfl; exact rfl; exact rfl; exact hR; (focus ((repeat (first | exact trivial | refine ⟨by first | exact rfl | assumption, ?_⟩)); done)); skip) | (apply q_callC; exact rfl; exact rfl; exact rfl; exact hB; (focus ((repeat (first | exact trivial | refine ⟨by first | exact rfl | assumption, ?_⟩)); done)); skip)); (try simp only [put, rowsOf, plR, List.all_cons, selE, ovr, setH, del, cellsA, splice, isV, List.nil_append, List.cons_append, List.map_cons, List.map_nil, List.length_cons, List.length_nil, List.set_cons_zero, List.set_cons_succ, List.take_succ_cons, List.take_zero, List.take_nil, List.drop_succ_cons, List.drop_zero, List.drop_nil, List.append_nil, List.all_cons, List.all_nil, Bool.and_true, Bool.true_and, Bool.and_false, Bool.false_and, Nat.reduceAdd, Nat.zero_add, Nat.add_zero, Nat.reduceEqDiff, if_true, if_false, reduceIte]))
    | (show AW _ _ _ _ _ _ _ _; first | refine aw_region ?_ | (refine aw_seqk ?_; intro K hK) | (apply aw_cond_t; exact rfl; exact (by assumption)) | (apply aw_cond_f; exact rfl; exact (by assumption)) | refine aw_exit ?_ | refine aw_skip ?_)
    | refine thn_n ?_
    | (refine hK _ _ _ ?_; clear hK K)
    | refine thn_e ?_
    | refine inb_same ?_
    | (clear hK K; refine hK _ _ _ ?_; clear hK K))); all_goals (repeat (clear hK K)))
                    all_goals exact finc_n (fun z => z) .r0 (by simp only [renA, renL]) (fun _ _ => rfl) ⟨rfl, trivial⟩ rfl
                  · have g2 : decide ((e : Int) < (b : Int)) = false := by simpa using y2
                    rw [← hwe] at g2
                    have hXl := hX.length_eq
                    rw [if_pos (by simp; omega)] at hXd
                    have hR := rotate_rc n ls xs i m e hx (by omega) (by omega) (by omega) 0 1
                    rw [← hXd] at hR
                    have hvX := hv.perm hX
                    have hi2 : ¬ (decide (a < i) && decide (i < d)) = true := by simp; omega
                    rw [if_neg hi2] at hQ
                    have hi3 : ¬ (decide (d < e) && decide (e < b)) = true := by simp; omega
                    rw [if_neg hi3] at hQ
                    rw [← hwe] at hR
                    subst hQ
                    ((repeat' (first
    | (show SQ _ _ _ _ _ _ _ _; first | apply sq_nil | (apply q_move; exact rfl; exact rfl) | (apply q_assign; exact rfl; exact rfl) | (apply q_pick_t; exact rfl; exact rfl; exact rfl; exact (by first | assumption | exact rfl)) | (apply q_sub; exact rfl; exact rfl; exact rfl) | (apply q_lss; exact rfl; exact rfl; exact rfl) | (apply q_g; exact rfl; exact rfl; exact rfl; exact (by assumption)))
    | (show SQ _ _ _ _ _ _ _ _; (first | (apply q_callC; exact rfl; exact rfl; exact rfl; exact hR; (focus ((repeat (first | exact trivial | refine ⟨by first | exact rfl | assumption, ?_⟩)); done)); skip)); (try simp only [put, rowsOf, plR, List.all_cons, selE, ovr, setH, del, cellsA, splice, isV, List.nil_append, List.cons_append, List.map_cons, List.map_nil, List.length_cons, List.length_nil, List.set_cons_zero, List.set_cons_succ, List.take_succ_cons, List.take_zero, List.take_nil, List.drop_succ_cons, List.drop_zero, List.drop_nil, List.append_nil, List.all_cons, List.all_nil, Bool.and_true, Bool.true_and, Bool.and_false, Bool.false_and, Nat.reduceAdd, Nat.zero_add, Nat.add_zero, Nat.reduceEqDiff, if_true, if_false, reduceIte]))
    | (show AW _ _ _ _ _ _ _ _; first | refine aw_region ?_ | (refine aw_seqk ?_; intro K hK) | (apply aw_cond_t; exact rfl; exact (by assumption)) | (apply aw_cond_f; exact rfl; exact (by assumption)) | refine aw_exit ?_ | refine aw_skip ?_)
    | refine thn_n ?_
    | (refine hK _ _ _ ?_; clear hK K)
    | refine thn_e ?_
    | refine inb_same ?_
    | (clear hK K; refine hK _ _ _ ?_; clear hK K))); all_goals (repeat (clear hK K)))
                    all_goals exact finc_n (fun z => z) .r0 (by simp only [renA, renL]) (fun _ _ => rfl) ⟨rfl, trivial⟩ rfl
                · have f2 : decide ((d : Int) < (e : Int)) = false := by simpa using x2
                  rw [← hwe] at f2
                  have hXl := hX.length_eq
                  rw [if_pos (by simp; omega)] at hXd
                  have hR := rotate_rc n ls xs i m e hx (by omega) (by omega) (by omega) 0 1
                  rw [← hXd] at hR
                  have hvX := hv.perm hX
                  have hi2 : ¬ (decide (a < i) && decide (i < d)) = true := by simp; omega
                  rw [if_neg hi2] at hQ
                  have hi3 : ¬ (decide (d < e) && decide (e < b)) = true := by simp; omega
                  rw [if_neg hi3] at hQ
                  rw [← hwe] at hR
                  subst hQ
                  ((repeat' (first
    | (show SQ _ _ _ _ _ _ _ _; first | apply sq_nil | (apply q_move; exact rfl; exact rfl) | (apply q_assign; exact rfl; exact rfl) | (apply q_pick_t; exact rfl; exact rfl; exact rfl; exact (by first | assumption | exact rfl)) | (apply q_pick_f; exact rfl; exact rfl; exact rfl; exact (by first | assumption | exact rfl)) | (apply q_sub; exact rfl; exact rfl; exact rfl) | (apply q_lss; exact rfl; exact rfl; exact rfl) | (apply q_g; exact rfl; exact rfl; exact rfl; exact (by assumption)) | (apply q_s; exact rfl; exact rfl; exact rfl; exact (by assumption); exact rfl))
    | (show SQ _ _ _ _ _ _ _ _; (first | (apply q_callC; exact rfl; exact rfl; exact rfl; exact hR; (focus ((repeat (first | exact trivial | refine ⟨by first | exact rfl | assumption, ?_⟩)); done)); skip)); (try simp only [put, rowsOf, plR, List.all_cons, selE, ovr, setH, del, cellsA, splice, isV, List.nil_append, List.cons_append, List.map_cons, List.map_nil, List.length_cons, List.length_nil, List.set_cons_zero, List.set_cons_succ, List.take_succ_cons, List.take_zero, List.take_nil, List.drop_succ_cons, List.drop_zero, List.drop_nil, List.append_nil, List.all_cons, List.all_nil, Bool.and_true, Bool.true_and, Bool.and_false, Bool.false_and, Nat.reduceAdd, Nat.zero_add, Nat.add_zero, Nat.reduceEqDiff, if_true, if_false, reduceIte]))
    | (show AW _ _ _ _ _ _ _ _; first | refine aw_region ?_ | (refine aw_seqk ?_; intro K hK) | (apply aw_cond_f; exact rfl; exact rfl) | (apply aw_cond_t; exact rfl; exact (by assumption)) | (apply aw_cond_f; exact rfl; exact (by assumption)) | refine aw_exit ?_ | refine aw_skip ?_)
    | refine thn_n ?_
    | (refine hK _ _ _ ?_; clear hK K)
    | refine thn_e ?_
    | refine inb_same ?_
    | (clear hK K; refine hK _ _ _ ?_; clear hK K))); all_goals (repeat (clear hK K)))
                  all_goals exact finc_n (fun z => z) .r0 (by simp only [renA, renL]) (fun _ _ => rfl) ⟨rfl, trivial⟩ rfl
            · have f1 : decide ((a : Int) < (i : Int)) = false := by simpa using x1
              by_cases x2 : d < e
              · have f2 : decide ((d : Int) < (e : Int)) = true := by simpa using x2
                rw [← hwe] at f2
                by_cases y2 : e < b
                · have g2 : decide ((e : Int) < (b : Int)) = true := by simpa using y2
                  rw [← hwe] at g2
                  have hXl := hX.length_eq
                  rw [if_pos (by simp; omega)] at hXd
                  have hR := rotate_rc n ls xs i m e hx (by omega) (by omega) (by omega) 0 1
                  rw [← hXd] at hR
                  have hvX := hv.perm hX
                  have hi2 : ¬ (decide (a < i) && decide (i < d)) = true := by simp; omega
                  rw [if_neg hi2] at hQ
                  have hB := hI X d e b (by omega) hvX (by omega) (by omega) (by omega) (by omega) 0 1
                  have hi3 : (decide (d < e) && decide (e < b)) = true := by simp; omega
                  rw [if_pos hi3] at hQ
                  rw [← hwe] at hR
                  rw [hXl, hQ, ← hwe] at hB
                  ((repeat' (first
    | (show SQ _ _ _ _ _ _ _ _; first | apply sq_nil | (apply q_move; exact rfl; exact rfl) | (apply q_assign; exact rfl; exact rfl) | (apply q_pick_t; exact rfl; exact rfl; exact rfl; exact (by first | assumption | exact rfl)) | (apply q_pick_f; exact rfl; exact rfl; exact rfl; exact (by first | assumption | exact rfl)) | (apply q_sub; exact rfl; exact rfl; exact rfl) | (apply q_lss; exact rfl; exact rfl; exact rfl) | (apply q_g; exact rfl; exact rfl; exact rfl; exact (by assumption)) | (apply q_s; exact rfl; exact rfl; exact rfl; exact (by assumption); exact rfl))
    | (show SQ _ _ _ _ _ _ _ _; (first | (apply q_callC; exact rfl; exact rfl; exact rfl; exact hR; (focus ((repeat (first | exact trivial | refine ⟨by first | exact rfl | assumption, ?_⟩)); done)); skip) | (apply q_callC; exact rfl; exact rfl; exact rfl; exact hB; (focus ((repeat (first | exact trivial | refine ⟨by first | exact rfl | assumption, ?_⟩)); done)); skip)); (try simp only [put, rowsOf, plR, List.all_cons, selE, ovr, setH, del, cellsA, splice, isV, List.nil_append, List.cons_append, List.map_cons, List.map_nil, List.length_cons, List.length_nil, List.set_cons_zero, List.set_cons_succ, List.take_succ_cons, List.take_zero, List.take_nil, List.drop_succ_cons, List.drop_zero, List.drop_nil, List.append_nil, List.all_cons, List.all_nil, Bool.and_true, Bool.true_and, Bool.and_false, Bool.false_and, Nat.reduceAdd, Nat.zero_add, Nat.add_zero, Nat.reduceEqDiff, if_true, if_false, reduceIte]))
    | (show AW _ _ _ _ _ _ _ _; first | refine aw_region ?_ | (refine aw_seqk ?_; intro K hK) | (apply aw_cond_f; exact rfl; exact rfl) | (apply aw_cond_t; exact rfl; exact (by assumption)) | (apply aw_cond_f; exact rfl; exact (by assumption)) | refine aw_exit ?_ | refine aw_skip ?_)
    | refine thn_n ?_
    | (refine hK _ _ _ ?_; clear hK K)
    | refine thn_e ?_
    | refine inb_same ?_
    | (clear hK K; refine hK _ _ _ ?_; clear hK K))); all_goals (repeat (clear hK K)))
                  all_goals exact finc_n (fun z => z) .r0 (by simp only [renA, renL]) (fun _ _ => rfl) ⟨rfl, trivial⟩ rfl
                · have g2 : decide ((e : Int) < (b : Int)) = false := by simpa using y2
                  rw [← hwe] at g2
                  have hXl := hX.length_eq
                  rw [if_pos (by simp; omega)] at hXd
                  have hR := rotate_rc n ls xs i m e hx (by omega) (by omega) (by omega) 0 1
                  rw [← hXd] at hR
                  have hvX := hv.perm hX
                  have hi2 : ¬ (decide (a < i) && decide (i < d)) = true := by simp; omega
                  rw [if_neg hi2] at hQ
                  have hi3 : ¬ (decide (d < e) && decide (e < b)) = true := by simp; omega
                  rw [if_neg hi3] at hQ
                  rw [← hwe] at hR
                  subst hQ
                  ((repeat' (first
    | (show SQ _ _ _ _ _ _ _ _; first | apply sq_nil | (apply q_move; exact rfl; exact rfl) | (apply q_assign; exact rfl; exact rfl) | (apply q_pick_t; exact rfl; exact rfl; exact rfl; exact (by first | assumption | exact rfl)) | (apply q_pick_f; exact rfl; exact rfl; exact rfl; exact (by first | assumption | exact rfl)) | (apply q_sub; exact rfl; exact rfl; exact rfl) | (apply q_lss; exact rfl; exact rfl; exact rfl) | (apply q_g; exact rfl; exact rfl; exact rfl; exact (by assumption)) | (apply q_s; exact rfl; exact rfl; exact rfl; exact (by assumption); exact rfl))
    | (show SQ _ _ _ _ _ _ _ _; (first | (apply q_callC; exact rfl; exact rfl; exact rfl; exact hR; (focus ((repeat (first | exact trivial | refine ⟨by first | exact rfl | assumption, ?_⟩)); done)); skip)); (try simp only [put, rowsOf, plR, List.all_cons, selE, ovr, setH, del, cellsA, splice, isV, List.nil_append, List.cons_append, List.map_cons, List.map_nil, List.length_cons, List.length_nil, List.set_cons_zero, List.set_cons_succ, List.take_succ_cons, List.take_zero, List.take_nil, List.drop_succ_cons, List.drop_zero, List.drop_nil, List.append_nil, List.all_cons, List.all_nil, Bool.and_true, Bool.true_and, Bool.and_false, Bool.false_and, Nat.reduceAdd, Nat.zero_add, Nat.add_zero, Nat.reduceEqDiff, if_true, if_false, reduceIte]))
    | (show AW _ _ _ _ _ _ _ _; first | refine aw_region ?_ | (refine aw_seqk ?_; intro K hK) | (apply aw_cond_f; exact rfl; exact rfl) | (apply aw_cond_t; exact rfl; exact (by assumption)) | (apply aw_cond_f; exact rfl; exact (by assumption)) | refine aw_exit ?_ | refine aw_skip ?_)
    | refine thn_n ?_
    | (refine hK _ _ _ ?_; clear hK K)
    | refine thn_e ?_
    | refine inb_same ?_
    | (clear hK K; refine hK _ _ _ ?_; clear hK K))); all_goals (repeat (clear hK K)))
                  all_goals exact finc_n (fun z => z) .r0 (by simp only [renA, renL]) (fun _ _ => rfl) ⟨rfl, trivial⟩ rfl
              · have f2 : decide ((d : Int) < (e : Int)) = false := by simpa using x2
                rw [← hwe] at f2
                have hXl := hX.length_eq
                rw [if_pos (by simp; omega)] at hXd
                have hR := rotate_rc n ls xs i m e hx (by omega) (by omega) (by omega) 0 1
                rw [← hXd] at hR
                have hvX := hv.perm hX
                have hi2 : ¬ (decide (a < i) && decide (i < d)) = true := by simp; omega
                rw [if_neg hi2] at hQ
                have hi3 : ¬ (decide (d < e) && decide (e < b)) = true := by simp; omega
                rw [if_neg hi3] at hQ
                rw [← hwe] at hR
                subst hQ
                ((repeat' (first
    | (show SQ _ _ _ _ _ _ _ _; first | apply sq_nil | (apply q_move; exact rfl; exact rfl) | (apply q_assign; exact rfl; exact rfl) | (apply q_pick_t; exact rfl; exact rfl; exact rfl; exact (by first | assumption | exact rfl)) | (apply q_pick_f; exact rfl; exact rfl; exact rfl; exact (by first | assumption | exact rfl)) | (apply q_sub; exact rfl; exact rfl; exact rfl) | (apply q_lss; exact rfl; exact rfl; exact rfl) | (apply q_g; exact rfl; exact rfl; exact rfl; exact (by assumption)) | (apply q_s; exact rfl; exact rfl; exact rfl; exact (by assumption); exact rfl))
    | (show SQ _ _ _ _ _ _ _ _; (first | (apply q_callC; exact rfl; exact rfl; exact rfl; exact hR; (focus ((repeat (first | exact trivial | refine ⟨by first | exact rfl | assumption, ?_⟩)); done)); skip)); (try simp only [put, rowsOf, plR, List.all_cons, selE, ovr, setH, del, cellsA, splice, isV, List.nil_append, List.cons_append, List.map_cons, List.map_nil, List.length_cons, List.length_nil, List.set_cons_zero, List.set_cons_succ, List.take_succ_cons, List.take_zero, List.take_nil, List.drop_succ_cons, List.drop_zero, List.drop_nil, List.append_nil, List.all_cons, List.all_nil, Bool.and_true, Bool.true_and, Bool.and_false, Bool.false_and, Nat.reduceAdd, Nat.zero_add, Nat.add_zero, Nat.reduceEqDiff, if_true, if_false, reduceIte]))
    | (show AW _ _ _ _ _ _ _ _; first | refine aw_region ?_ | (refine aw_seqk ?_; intro K hK) | (apply aw_cond_f; exact rfl; exact rfl) | (apply aw_cond_t; exact rfl; exact (by assumption)) | (apply aw_cond_f; exact rfl; exact (by assumption)) | refine aw_exit ?_ | refine aw_skip ?_)
    | refine thn_n ?_
    | (refine hK _ _ _ ?_; clear hK K)
    | refine thn_e ?_
    | refine inb_same ?_
    | (clear hK K; refine hK _ _ _ ?_; clear hK K))); all_goals (repeat (clear hK K)))
                all_goals exact finc_n (fun z => z) .r0 (by simp only [renA, renL]) (fun _ _ => rfl) ⟨rfl, trivial⟩ rfl
          · have g0 : decide ((m : Int) < (e : Int)) = false := by simpa using y0
            rw [← hwe] at g0
            by_cases x1 : a < i
            · have f1 : decide ((a : Int) < (i : Int)) = true := by simpa using x1
              by_cases y1 : i < d
              · have g1 : decide ((i : Int) < (d : Int)) = true := by simpa using y1
                by_cases x2 : d < e
                · have f2 : decide ((d : Int) < (e : Int)) = true := by simpa using x2
                  rw [← hwe] at f2
                  by_cases y2 : e < b
                  · have g2 : decide ((e : Int) < (b : Int)) = true := by simpa using y2
                    rw [← hwe] at g2
                    have hXl := hX.length_eq
                    rw [if_neg (by simp; omega)] at hXd
                    subst hXd
                    have hvX := hv.perm hX
                    have hA := hI X a i d (by omega) hvX (by omega) (by omega) (by omega) (by omega) 0 1
                    have hAp := symF_perm (lt := ltO ls) (f := f) (a := a) (m := i) (b := d) (xs := X) (by omega) (by omega) (by omega)
                    have hAl := hAp.length_eq
                    have hvA := hvX.perm hAp
                    have hi2 : (decide (a < i) && decide (i < d)) = true := by simp; omega
                    rw [if_pos hi2] at hQ
                    generalize hY : symF (ltO ls) f a i d X = Y at *
                    have hB := hI Y d e b (by omega) hvA (by omega) (by omega) (by omega) (by omega) 0 1
                    have hi3 : (decide (d < e) && decide (e < b)) = true := by simp; omega
                    rw [if_pos hi3] at hQ
                    rw [hXl] at hA
                    rw [hAl, hXl, hQ, ← hwe] at hB
                    ((repeat' (first
    | (show SQ _ _ _ _ _ _ _ _; first | apply sq_nil | (apply q_move; exact rfl; exact rfl) | (apply q_assign; exact rfl; exact rfl) | (apply q_pick_t; exact rfl; exact rfl; exact rfl; exact (by first | assumption | exact rfl)) | (apply q_sub; exact rfl; exact rfl; exact rfl) | (apply q_lss; exact rfl; exact rfl; exact rfl) | (apply q_g; exact rfl; exact rfl; exact rfl; exact (by assumption)))
    | (show SQ _ _ _ _ _ _ _ _; (first | (apply q_callC; exact rfl; exact rfl; exact rfl; exact hA; (focus ((repeat (first | exact trivial | refine ⟨by first | exact rfl | assumption, ?_⟩)); done)); skip) | (apply q_callC; exact rfl; exact rfl; exact rfl; exact hB; (focus ((repeat (first | exact trivial | refine ⟨by first | exact rfl | assumption, ?_⟩)); done)); skip)); (try simp only [put, rowsOf, plR, List.all_cons, selE, ovr, setH, del, cellsA, splice, isV, List.nil_append, List.cons_append, List.map_cons, List.map_nil, List.length_cons, List.length_nil, List.set_cons_zero, List.set_cons_succ, List.take_succ_cons, List.take_zero, List.take_nil, List.drop_succ_cons, List.drop_zero, List.drop_nil, List.append_nil, List.all_cons, List.all_nil, Bool.and_true, Bool.true_and, Bool.and_false, Bool.false_and, Nat.reduceAdd, Nat.zero_add, Nat.add_zero, Nat.reduceEqDiff, if_true, if_false, reduceIte]))
    | (show AW _ _ _ _ _ _ _ _; first | refine aw_region ?_ | (refine aw_seqk ?_; intro K hK) | (apply aw_cond_t; exact rfl; exact (by assumption)) | (apply aw_cond_f; exact rfl; exact (by assumption)) | refine aw_exit ?_ | refine aw_skip ?_)
    | refine thn_n ?_
    | (refine hK _ _ _ ?_; clear hK K)
    | refine thn_e ?_
    | refine inb_same ?_
    | (clear hK K; refine hK _ _ _ ?_; clear hK K))); all_goals (repeat (clear hK K)))
                    all_goals exact finc_n (fun z => z) .r0 (by simp only [renA, renL]) (fun _ _ => rfl) ⟨rfl, trivial⟩ rfl
                  · have g2 : decide ((e : Int) < (b : Int)) = false := by simpa using y2
                    rw [← hwe] at g2
                    have hXl := hX.length_eq
                    rw [if_neg (by simp; omega)] at hXd
                    subst hXd
                    have hvX := hv.perm hX
                    have hA := hI X a i d (by omega) hvX (by omega) (by omega) (by omega) (by omega) 0 1
                    have hAp := symF_perm (lt := ltO ls) (f := f) (a := a) (m := i) (b := d) (xs := X) (by omega) (by omega) (by omega)
                    have hAl := hAp.length_eq
                    have hvA := hvX.perm hAp
                    have hi2 : (decide (a < i) && decide (i < d)) = true := by simp; omega
                    rw [if_pos hi2] at hQ
                    generalize hY : symF (ltO ls) f a i d X = Y at *
                    have hi3 : ¬ (decide (d < e) && decide (e < b)) = true := by simp; omega
                    rw [if_neg hi3] at hQ
                    rw [hXl] at hA
                    subst hQ
                    ((repeat' (first
    | (show SQ _ _ _ _ _ _ _ _; first | apply sq_nil | (apply q_move; exact rfl; exact rfl) | (apply q_assign; exact rfl; exact rfl) | (apply q_pick_t; exact rfl; exact rfl; exact rfl; exact (by first | assumption | exact rfl)) | (apply q_sub; exact rfl; exact rfl; exact rfl) | (apply q_lss; exact rfl; exact rfl; exact rfl) | (apply q_g; exact rfl; exact rfl; exact rfl; exact (by assumption)))
    | (show SQ _ _ _ _ _ _ _ _; (first | (apply q_callC; exact rfl; exact rfl; exact rfl; exact hA; (focus ((repeat (first | exact trivial | refine ⟨by first | exact rfl | assumption, ?_⟩)); done)); skip)); (try simp only [put, rowsOf, plR, List.all_cons, selE, ovr, setH, del, cellsA, splice, isV, List.nil_append, List.cons_append, List.map_cons, List.map_nil, List.length_cons, List.length_nil, List.set_cons_zero, List.set_cons_succ, List.take_succ_cons, List.take_zero, List.take_nil, List.drop_succ_cons, List.drop_zero, List.drop_nil, List.append_nil, List.all_cons, List.all_nil, Bool.and_true, Bool.true_and, Bool.and_false, Bool.false_and, Nat.reduceAdd, Nat.zero_add, Nat.add_zero, Nat.reduceEqDiff, if_true, if_false, reduceIte]))
    | (show AW _ _ _ _ _ _ _ _; first | refine aw_region ?_ | (refine aw_seqk ?_; intro K hK) | (apply aw_cond_t; exact rfl; exact (by assumption)) | (apply aw_cond_f; exact rfl; exact (by assumption)) | refine aw_exit ?_ | refine aw_skip ?_)
    | refine thn_n ?_
    | (refine hK _ _ _ ?_; clear hK K)
    | refine thn_e ?_
    | refine inb_same ?_
    | (clear hK K; refine hK _ _ _ ?_; clear hK K))); all_goals (repeat (clear hK K)))
                    all_goals exact finc_n (fun z => z) .r0 (by simp only [renA, renL]) (fun _ _ => rfl) ⟨rfl, trivial⟩ rfl
                · have f2 : decide ((d : Int) < (e : Int)) = false := by simpa using x2
                  rw [← hwe] at f2
                  have hXl := hX.length_eq
                  rw [if_neg (by simp; omega)] at hXd
                  subst hXd
                  have hvX := hv.perm hX
                  have hA := hI X a i d (by omega) hvX (by omega) (by omega) (by omega) (by omega) 0 1
                  have hAp := symF_perm (lt := ltO ls) (f := f) (a := a) (m := i) (b := d) (xs := X) (by omega) (by omega) (by omega)
                  have hAl := hAp.length_eq
                  have hvA := hvX.perm hAp
                  have hi2 : (decide (a < i) && decide (i < d)) = true := by simp; omega
                  rw [if_pos hi2] at hQ
                  generalize hY : symF (ltO ls) f a i d X = Y at *
                  have hi3 : ¬ (decide (d < e) && decide (e < b)) = true := by simp; omega
                  rw [if_neg hi3] at hQ
                  rw [hXl] at hA
                  subst hQ
                  ((repeat' (first
    | (show SQ _ _ _ _ _ _ _ _; first | apply sq_nil | (apply q_move; exact rfl; exact rfl) | (apply q_assign; exact rfl; exact rfl) | (apply q_pick_t; exact rfl; exact rfl; exact rfl; exact (by first | assumption | exact rfl)) | (apply q_pick_f; exact rfl; exact rfl; exact rfl; exact (by first | assumption | exact rfl)) | (apply q_sub; exact rfl; exact rfl; exact rfl) | (apply q_lss; exact rfl; exact rfl; exact rfl) | (apply q_g; exact rfl; exact rfl; exact rfl; exact (by assumption)) | (apply q_s; exact rfl; exact rfl; exact rfl; exact (by assumption); exact rfl))
    | (show SQ _ _ _ _ _ _ _ _; (first | (apply q_callC; exact rfl; exact rfl; exact rfl; exact hA; (focus ((repeat (first | exact trivial | refine ⟨by first | exact rfl | assumption, ?_⟩)); done)); skip)); (try simp only [put, rowsOf, plR, List.all_cons, selE, ovr, setH, del, cellsA, splice, isV, List.nil_append, List.cons_append, List.map_cons, List.map_nil, List.length_cons, List.length_nil, List.set_cons_zero, List.set_cons_succ, List.take_succ_cons, List.take_zero, List.take_nil, List.drop_succ_cons, List.drop_zero, List.drop_nil, List.append_nil, List.all_cons, List.all_nil, Bool.and_true, Bool.true_and, Bool.and_false, Bool.false_and, Nat.reduceAdd, Nat.zero_add, Nat.add_zero, Nat.reduceEqDiff, if_true, if_false, reduceIte]))
    | (show AW _ _ _ _ _ _ _ _; first | refine aw_region ?_ | (refine aw_seqk ?_; intro K hK) | (apply aw_cond_f; exact rfl; exact rfl) | (apply aw_cond_t; exact rfl; exact (by assumption)) | (apply aw_cond_f; exact rfl; exact (by assumption)) | refine aw_exit ?_ | refine aw_skip ?_)
    | refine thn_n ?_
    | (refine hK _ _ _ ?_; clear hK K)
    | refine thn_e ?_
    | refine inb_same ?_
    | (clear hK K; refine hK _ _ _ ?_; clear hK K))); all_goals (repeat (clear hK K)))
                  all_goals exact finc_n (fun z => z) .r0 (by simp only [renA, renL]) (fun _ _ => rfl) ⟨rfl, trivial⟩ rfl
              · have g1 : decide ((i : Int) < (d : Int)) = false := by simpa using y1
                by_cases x2 : d < e
                · have f2 : decide ((d : Int) < (e : Int)) = true := by simpa using x2
                  rw [← hwe] at f2
                  by_cases y2 : e < b
                  · have g2 : decide ((e : Int) < (b : Int)) = true := by simpa using y2
                    rw [← hwe] at g2
                    have hXl := hX.length_eq
                    rw [if_neg (by simp; omega)] at hXd
                    subst hXd
                    have hvX := hv.perm hX
                    have hi2 : ¬ (decide (a < i) && decide (i < d)) = true := by simp; omega
                    rw [if_neg hi2] at hQ
                    have hB := hI X d e b (by omega) hvX (by omega) (by omega) (by omega) (by omega) 0 1
                    have hi3 : (decide (d < e) && decide (e < b)) = true := by simp; omega
                    rw [if_pos hi3] at hQ
                    rw [hXl, hQ, ← hwe] at hB
                    ((repeat' (first
    | (show SQ _ _ _ _ _ _ _ _; first | apply sq_nil | (apply q_move; exact rfl; exact rfl) | (apply q_assign; exact rfl; exact rfl) | (apply q_pick_t; exact rfl; exact rfl; exact rfl; exact (by first | assumption | exact rfl)) | (apply q_sub; exact rfl; exact rfl; exact rfl) | (apply q_lss; exact rfl; exact rfl; exact rfl) | (apply q_g; exact rfl; exact rfl; exact rfl; exact (by assumption)))
    | (show SQ _ _ _ _ _ _ _ _; (first | (apply q_callC; exact rfl; exact rfl; exact rfl; exact hB; (focus ((repeat (first | exact trivial | refine ⟨by first | exact rfl | assumption, ?_⟩)); done)); skip)); (try simp only [put, rowsOf, plR, List.all_cons, selE, ovr, setH, del, cellsA, splice, isV, List.nil_append, List.cons_append, List.map_cons, List.map_nil, List.length_cons, List.length_nil, List.set_cons_zero, List.set_cons_succ, List.take_succ_cons, List.take_zero, List.take_nil, List.drop_succ_cons, List.drop_zero, List.drop_nil, List.append_nil, List.all_cons, List.all_nil, Bool.and_true, Bool.true_and, Bool.and_false, Bool.false_and, Nat.reduceAdd, Nat.zero_add, Nat.add_zero, Nat.reduceEqDiff, if_true, if_false, reduceIte]))
    | (show AW _ _ _ _ _ _ _ _; first | refine aw_region ?_ | (refine aw_seqk ?_; intro K hK) | (apply aw_cond_t; exact rfl; exact (by assumption)) | (apply aw_cond_f; exact rfl; exact (by assumption)) | refine aw_exit ?_ | refine aw_skip ?_)
    | refine thn_n ?_
    | (refine hK _ _ _ ?_; clear hK K)
    | refine thn_e ?_
    | refine inb_same ?_
    | (clear hK K; refine hK _ _ _ ?_; clear hK K))); all_goals (repeat (clear hK K)))
                    all_goals exact finc_n (fun z => z) .r0 (by simp only [renA, renL]) (fun _ _ => rfl) ⟨rfl, trivial⟩ rfl
                  · have g2 : decide ((e : Int) < (b : Int)) = false := by simpa using y2
                    rw [← hwe] at g2
                    have hXl := hX.length_eq
                    rw [if_neg (by simp; omega)] at hXd
                    subst hXd
                    have hvX := hv.perm hX
                    have hi2 : ¬ (decide (a < i) && decide (i < d)) = true := by simp; omega
                    rw [if_neg hi2] at hQ
                    have hi3 : ¬ (decide (d < e) && decide (e < b)) = true := by simp; omega
                    rw [if_neg hi3] at hQ
                    subst hQ
                    ((repeat' (first
    | (show SQ _ _ _ _ _ _ _ _; first | apply sq_nil | (apply q_move; exact rfl; exact rfl) | (apply q_assign; exact rfl; exact rfl) | (apply q_pick_t; exact rfl; exact rfl; exact rfl; exact (by first | assumption | exact rfl)) | (apply q_sub; exact rfl; exact rfl; exact rfl) | (apply q_lss; exact rfl; exact rfl; exact rfl) | (apply q_g; exact rfl; exact rfl; exact rfl; exact (by assumption)))
    | (show AW _ _ _ _ _ _ _ _; first | refine aw_region ?_ | (refine aw_seqk ?_; intro K hK) | (apply aw_cond_f; exact rfl; exact (by assumption)) | refine aw_exit ?_ | refine aw_skip ?_)
    | refine thn_n ?_
    | (refine hK _ _ _ ?_; clear hK K)
    | refine thn_e ?_
    | refine inb_same ?_
    | (clear hK K; refine hK _ _ _ ?_; clear hK K))); all_goals (repeat (clear hK K)))
                    all_goals exact finc_n (fun z => z) .r0 (by simp only [renA, renL]) (fun _ _ => rfl) ⟨rfl, trivial⟩ rfl
                · have f2 : decide ((d : Int) < (e : Int)) = false := by simpa using x2
                  rw [← hwe] at f2
                  have hXl := hX.length_eq
                  rw [if_neg (by simp; omega)] at hXd
                  subst hXd
                  have hvX := hv.perm hX
                  have hi2 : ¬ (decide (a < i) && decide (i < d)) = true := by simp; omega
                  rw [if_neg hi2] at hQ
                  have hi3 : ¬ (decide (d < e) && decide (e < b)) = true := by simp; omega
                  rw [if_neg hi3] at hQ
                  subst hQ
                  ((repeat' (first
    | (show SQ _ _ _ _ _ _ _ _; first | apply sq_nil | (apply q_move; exact rfl; exact rfl) | (apply q_assign; exact rfl; exact rfl) | (apply q_pick_t; exact rfl; exact rfl; exact rfl; exact (by first | assumption | exact rfl)) | (apply q_pick_f; exact rfl; exact rfl; exact rfl; exact (by first | assumption | exact rfl)) | (apply q_sub; exact rfl; exact rfl; exact rfl) | (apply q_lss; exact rfl; exact rfl; exact rfl) | (apply q_g; exact rfl; exact rfl; exact rfl; exact (by assumption)) | (apply q_s; exact rfl; exact rfl; exact rfl; exact (by assumption); exact rfl))
    | (show AW _ _ _ _ _ _ _ _; first | refine aw_region ?_ | (refine aw_seqk ?_; intro K hK) | (apply aw_cond_f; exact rfl; exact rfl) | (apply aw_cond_f; exact rfl; exact (by assumption)) | refine aw_exit ?_ | refine aw_skip ?_)
    | refine thn_n ?_
    | (refine hK _ _ _ ?_; clear hK K)
    | refine thn_e ?_
    | refine inb_same ?_
    | (clear hK K; refine hK _ _ _ ?_; clear hK K))); all_goals (repeat (clear hK K)))
                  all_goals exact finc_n (fun z => z) .r0 (by simp only [renA, renL]) (fun _ _ => rfl) ⟨rfl, trivial⟩ rfl
            · have f1 : decide ((a : Int) < (i : Int)) = false := by simpa using x1
              by_cases x2 : d < e
              · have f2 : decide ((d : Int) < (e : Int)) = true := by simpa using x2
                rw [← hwe] at f2
                by_cases y2 : e < b
                · have g2 : decide ((e : Int) < (b : Int)) = true := by simpa using y2
                  rw [← hwe] at g2
                  have hXl := hX.length_eq
                  rw [if_neg (by simp; omega)] at hXd
                  subst hXd
                  have hvX := hv.perm hX
                  have hi2 : ¬ (decide (a < i) && decide (i < d)) = true := by simp; omega
                  rw [if_neg hi2] at hQ
                  have hB := hI X d e b (by omega) hvX (by omega) (by omega) (by omega) (by omega) 0 1
                  have hi3 : (decide (d < e) && decide (e < b)) = true := by simp; omega
                  rw [if_pos hi3] at hQ
                  rw [hXl, hQ, ← hwe] at hB
                  ((repeat' (first
    | (show SQ _ _ _ _ _ _ _ _; first | apply sq_nil | (apply q_move; exact rfl; exact rfl) | (apply q_assign; exact rfl; exact rfl) | (apply q_pick_t; exact rfl; exact rfl; exact rfl; exact (by first | assumption | exact rfl)) | (apply q_pick_f; exact rfl; exact rfl; exact rfl; exact (by first | assumption | exact rfl)) | (apply q_sub; exact rfl; exact rfl; exact rfl) | (apply q_lss; exact rfl; exact rfl; exact rfl) | (apply q_g; exact rfl; exact rfl; exact rfl; exact (by assumption)) | (apply q_s; exact rfl; exact rfl; exact rfl; exact (by assumption); exact rfl))
    | (show SQ _ _ _ _ _ _ _ _; (first | (apply q_callC; exact rfl; exact rfl; exact rfl; exact hB; (focus ((repeat (first | exact trivial | refine ⟨by first | exact rfl | assumption, ?_⟩)); done)); skip)); (try simp only [put, rowsOf, plR, List.all_cons, selE, ovr, setH, del, cellsA, splice, isV, List.nil_append, List.cons_append, List.map_cons, List.map_nil, List.length_cons, List.length_nil, List.set_cons_zero, List.set_cons_succ, List.take_succ_cons, List.take_zero, List.take_nil, List.drop_succ_cons, List.drop_zero, List.drop_nil, List.append_nil, List.all_cons, List.all_nil, Bool.and_true, Bool.true_and, Bool.and_false, Bool.false_and, Nat.reduceAdd, Nat.zero_add, Nat.add_zero, Nat.reduceEqDiff, if_true, if_false, reduceIte]))
    | (show AW _ _ _ _ _ _ _ _; first | refine aw_region ?_ | (refine aw_seqk ?_; intro K hK) | (apply aw_cond_f; exact rfl; exact rfl) | (apply aw_cond_t; exact rfl; exact (by assumption)) | (apply aw_cond_f; exact rfl; exact (by assumption)) | refine aw_exit ?_ | refine aw_skip ?_)
    | refine thn_n ?_
    | (refine hK _ _ _ ?_; clear hK K)
    | refine thn_e ?_
    | refine inb_same ?_
    | (clear hK K; refine hK _ _ _ ?_; clear hK K))); all_goals (repeat (clear hK K)))
                  all_goals exact finc_n (fun z => z) .r0 (by simp only [renA, renL]) (fun _ _ => rfl) ⟨rfl, trivial⟩ rfl
                · have g2 : decide ((e : Int) < (b : Int)) = false := by simpa using y2
                  rw [← hwe] at g2
                  have hXl := hX.length_eq
                  rw [if_neg (by simp; omega)] at hXd
                  subst hXd
                  have hvX := hv.perm hX
                  have hi2 : ¬ (decide (a < i) && decide (i < d)) = true := by simp; omega
                  rw [if_neg hi2] at hQ
                  have hi3 : ¬ (decide (d < e) && decide (e < b)) = true := by simp; omega
                  rw [if_neg hi3] at hQ
                  subst hQ
                  ((repeat' (first
    | (show SQ _ _ _ _ _ _ _ _; first | apply sq_nil | (apply q_move; exact rfl; exact rfl) | (apply q_assign; exact rfl; exact rfl) | (apply q_pick_t; exact rfl; exact rfl; exact rfl; exact (by first | assumption | exact rfl)) | (apply q_pick_f; exact rfl; exact rfl; exact rfl; exact (by first | assumption | exact rfl)) | (apply q_sub; exact rfl; exact rfl; exact rfl) | (apply q_lss; exact rfl; exact rfl; exact rfl) | (apply q_g; exact rfl; exact rfl; exact rfl; exact (by assumption)) | (apply q_s; exact rfl; exact rfl; exact rfl; exact (by assumption); exact rfl))
    | (show AW _ _ _ _ _ _ _ _; first | refine aw_region ?_ | (refine aw_seqk ?_; intro K hK) | (apply aw_cond_f; exact rfl; exact rfl) | (apply aw_cond_f; exact rfl; exact (by assumption)) | refine aw_exit ?_ | refine aw_skip ?_)
    | refine thn_n ?_
    | (refine hK _ _ _ ?_; clear hK K)
    | refine thn_e ?_
    | refine inb_same ?_
    | (clear hK K; refine hK _ _ _ ?_; clear hK K))); all_goals (repeat (clear hK K)))
                  all_goals exact finc_n (fun z => z) .r0 (by simp only [renA, renL]) (fun _ _ => rfl) ⟨rfl, trivial⟩ rfl
              · have f2 : decide ((d : Int) < (e : Int)) = false := by simpa using x2
                rw [← hwe] at f2
                have hXl := hX.length_eq
                rw [if_neg (by simp; omega)] at hXd
                subst hXd
                have hvX := hv.perm hX
                have hi2 : ¬ (decide (a < i) && decide (i < d)) = true := by simp; omega
                rw [if_neg hi2] at hQ
                have hi3 : ¬ (decide (d < e) && decide (e < b)) = true := by simp; omega
                rw [if_neg hi3] at hQ
                subst hQ
                ((repeat' (first
    | (show SQ _ _ _ _ _ _ _ _; first | apply sq_nil | (apply q_move; exact rfl; exact rfl) | (apply q_assign; exact rfl; exact rfl) | (apply q_pick_t; exact rfl; exact rfl; exact rfl; exact (by first | assumption | exact rfl)) | (apply q_pick_f; exact rfl; exact rfl; exact rfl; exact (by first | assumption | exact rfl)) | (apply q_sub; exact rfl; exact rfl; exact rfl) | (apply q_lss; exact rfl; exact rfl; exact rfl) | (apply q_g; exact rfl; exact rfl; exact rfl; exact (by assumption)) | (apply q_s; exact rfl; exact rfl; exact rfl; exact (by assumption); exact rfl))
    | (show AW _ _ _ _ _ _ _ _; first | refine aw_region ?_ | (refine aw_seqk ?_; intro K hK) | (apply aw_cond_f; exact rfl; exact rfl) | (apply aw_cond_f; exact rfl; exact (by assumption)) | refine aw_exit ?_ | refine aw_skip ?_)
    | refine thn_n ?_
    | (refine hK _ _ _ ?_; clear hK K)
    | refine thn_e ?_
    | refine inb_same ?_
    | (clear hK K; refine hK _ _ _ ?_; clear hK K))); all_goals (repeat (clear hK K)))
                all_goals exact finc_n (fun z => z) .r0 (by simp only [renA, renL]) (fun _ _ => rfl) ⟨rfl, trivial⟩ rfl
        · have f0 : decide ((i : Int) < (m : Int)) = false := by simpa using x0
          by_cases x1 : a < i
          · have f1 : decide ((a : Int) < (i : Int)) = true := by simpa using x1
            by_cases y1 : i < d
            · have g1 : decide ((i : Int) < (d : Int)) = true := by simpa using y1
              by_cases x2 : d < e
              · have f2 : decide ((d : Int) < (e : Int)) = true := by simpa using x2
                rw [← hwe] at f2
                by_cases y2 : e < b
                · have g2 : decide ((e : Int) < (b : Int)) = true := by simpa using y2
                  rw [← hwe] at g2
                  have hXl := hX.length_eq
                  rw [if_neg (by simp; omega)] at hXd
                  subst hXd
                  have hvX := hv.perm hX
                  have hA := hI X a i d (by omega) hvX (by omega) (by omega) (by omega) (by omega) 0 1
                  have hAp := symF_perm (lt := ltO ls) (f := f) (a := a) (m := i) (b := d) (xs := X) (by omega) (by omega) (by omega)
                  have hAl := hAp.length_eq
                  have hvA := hvX.perm hAp
                  have hi2 : (decide (a < i) && decide (i < d)) = true := by simp; omega
                  rw [if_pos hi2] at hQ
                  generalize hY : symF (ltO ls) f a i d X = Y at *
                  have hB := hI Y d e b (by omega) hvA (by omega) (by omega) (by omega) (by omega) 0 1
                  have hi3 : (decide (d < e) && decide (e < b)) = true := by simp; omega
                  rw [if_pos hi3] at hQ
                  rw [hXl] at hA
                  rw [hAl, hXl, hQ, ← hwe] at hB
                  ((repeat' (first
    | (show SQ _ _ _ _ _ _ _ _; first | apply sq_nil | (apply q_move; exact rfl; exact rfl) | (apply q_assign; exact rfl; exact rfl) | (apply q_pick_t; exact rfl; exact rfl; exact rfl; exact (by first | assumption | exact rfl)) | (apply q_pick_f; exact rfl; exact rfl; exact rfl; exact (by first | assumption | exact rfl)) | (apply q_sub; exact rfl; exact rfl; exact rfl) | (apply q_lss; exact rfl; exact rfl; exact rfl) | (apply q_g; exact rfl; exact rfl; exact rfl; exact (by assumption)) | (apply q_s; exact rfl; exact rfl; exact rfl; exact (by assumption); exact rfl))
    | (show SQ _ _ _ _ _ _ _ _; (first | (apply q_callC; exact rfl; exact rfl; exact rfl; exact hA; (focus ((repeat (first | exact trivial | refine ⟨by first | exact rfl | assumption, ?_⟩)); done)); skip) | (apply q_callC; exact rfl; exact rfl; exact rfl; exact hB; (focus ((repeat (first | exact trivial | refine ⟨by first | exact rfl | assumption, ?_⟩)); done)); skip)); (try simp only [put, rowsOf, plR, List.all_cons, selE, ovr, setH, del, cellsA, splice, isV, List.nil_append, List.cons_append, List.map_cons, List.map_nil, List.length_cons, List.length_nil, List.set_cons_zero, List.set_cons_succ, List.take_succ_cons, List.take_zero, List.take_nil, List.drop_succ_cons, List.drop_zero, List.drop_nil, List.append_nil, List.all_cons, List.all_nil, Bool.and_true, Bool.true_and, Bool.and_false, Bool.false_and, Nat.reduceAdd, Nat.zero_add, Nat.add_zero, Nat.reduceEqDiff, if_true, if_false, reduceIte]))
    | (show AW _ _ _ _ _ _ _ _; first | refine aw_region ?_ | (refine aw_seqk ?_; intro K hK) | (apply aw_cond_f; exact rfl; exact rfl) | (apply aw_cond_t; exact rfl; exact (by assumption)) | (apply aw_cond_f; exact rfl; exact (by assumption)) | refine aw_exit ?_ | refine aw_skip ?_)
    | refine thn_n ?_
    | (refine hK _ _ _ ?_; clear hK K)
    | refine thn_e ?_
    | refine inb_same ?_
    | (clear hK K; refine hK _ _ _ ?_; clear hK K))); all_goals (repeat (clear hK K)))
                  all_goals exact finc_n (fun z => z) .r0 (by simp only [renA, renL]) (fun _ _ => rfl) ⟨rfl, trivial⟩ rfl
                · have g2 : decide ((e : Int) < (b : Int)) = false := by simpa using y2
                  rw [← hwe] at g2
                  have hXl := hX.length_eq
                  rw [if_neg (by simp; omega)] at hXd
                  subst hXd
                  have hvX := hv.perm hX
                  have hA := hI X a i d (by omega) hvX (by omega) (by omega) (by omega) (by omega) 0 1
                  have hAp := symF_perm (lt := ltO ls) (f := f) (a := a) (m := i) (b := d) (xs := X) (by omega) (by omega) (by omega)
                  have hAl := hAp.length_eq
                  have hvA := hvX.perm hAp
                  have hi2 : (decide (a < i) && decide (i < d)) = true := by simp; omega
                  rw [if_pos hi2] at hQ
                  generalize hY : symF (ltO ls) f a i d X = Y at *
                  have hi3 : ¬ (decide (d < e) && decide (e < b)) = true := by simp; omega
                  rw [if_neg hi3] at hQ
                  rw [hXl] at hA
                  subst hQ
                  ((repeat' (first
    | (show SQ _ _ _ _ _ _ _ _; first | apply sq_nil | (apply q_move; exact rfl; exact rfl) | (apply q_assign; exact rfl; exact rfl) | (apply q_pick_t; exact rfl; exact rfl; exact rfl; exact (by first | assumption | exact rfl)) | (apply q_pick_f; exact rfl; exact rfl; exact rfl; exact (by first | assumption | exact rfl)) | (apply q_sub; exact rfl; exact rfl; exact rfl) | (apply q_lss; exact rfl; exact rfl; exact rfl) | (apply q_g; exact rfl; exact rfl; exact rfl; exact (by assumption)) | (apply q_s; exact rfl; exact rfl; exact rfl; exact (by assumption); exact rfl))
    | (show SQ _ _ _ _ _ _ _ _; (first | (apply q_callC; exact rfl; exact rfl; exact rfl; exact hA; (focus ((repeat (first | exact trivial | refine ⟨by first | exact rfl | assumption, ?_⟩)); done)); skip)); (try simp only [put, rowsOf, plR, List.all_cons, selE, ovr, setH, del, cellsA, splice, isV, List.nil_append, List.cons_append, List.map_cons, List.map_nil, List.length_cons, List.length_nil, List.set_cons_zero, List.set_cons_succ, List.take_succ_cons, List.take_zero, List.take_nil, List.drop_succ_cons, List.drop_zero, List.drop_nil, List.append_nil, List.all_cons, List.all_nil, Bool.and_true, Bool.true_and, Bool.and_false, Bool.false_and, Nat.reduceAdd, Nat.zero_add, Nat.add_zero, Nat.reduceEqDiff, if_true, if_false, reduceIte]))
    | (show AW _ _ _ _ _ _ _ _; first | refine aw_region ?_ | (refine aw_seqk ?_; intro K hK) | (apply aw_cond_f; exact rfl; exact rfl) | (apply aw_cond_t; exact rfl; exact (by assumption)) | (apply aw_cond_f; exact rfl; exact (by assumption)) | refine aw_exit ?_ | refine aw_skip ?_)
    | refine thn_n ?_
    | (refine hK _ _ _ ?_; clear hK K)
    | refine thn_e ?_
    | refine inb_same ?_
    | (clear hK K; refine hK _ _ _ ?_; clear hK K))); all_goals (repeat (clear hK K)))
                  all_goals exact finc_n (fun z => z) .r0 (by simp only [renA, renL]) (fun _ _ => rfl) ⟨rfl, trivial⟩ rfl
              · have f2 : decide ((d : Int) < (e : Int)) = false := by simpa using x2
                rw [← hwe] at f2
                have hXl := hX.length_eq
                rw [if_neg (by simp; omega)] at hXd
                subst hXd
                have hvX := hv.perm hX
                have hA := hI X a i d (by omega) hvX (by omega) (by omega) (by omega) (by omega) 0 1
                have hAp := symF_perm (lt := ltO ls) (f := f) (a := a) (m := i) (b := d) (xs := X) (by omega) (by omega) (by omega)
                have hAl := hAp.length_eq
                have hvA := hvX.perm hAp
                have hi2 : (decide (a < i) && decide (i < d)) = true := by simp; omega
                rw [if_pos hi2] at hQ
                generalize hY : symF (ltO ls) f a i d X = Y at *
                have hi3 : ¬ (decide (d < e) && decide (e < b)) = true := by simp; omega
                rw [if_neg hi3] at hQ
                rw [hXl] at hA
                subst hQ
                ((repeat' (first
    | (show SQ _ _ _ _ _ _ _ _; first | apply sq_nil | (apply q_move; exact rfl; exact rfl) | (apply q_assign; exact rfl; exact rfl) | (apply q_pick_t; exact rfl; exact rfl; exact rfl; exact (by first | assumption | exact rfl)) | (apply q_pick_f; exact rfl; exact rfl; exact rfl; exact (by first | assumption | exact rfl)) | (apply q_sub; exact rfl; exact rfl; exact rfl) | (apply q_lss; exact rfl; exact rfl; exact rfl) | (apply q_g; exact rfl; exact rfl; exact rfl; exact (by assumption)) | (apply q_s; exact rfl; exact rfl; exact rfl; exact (by assumption); exact rfl))
    | (show SQ _ _ _ _ _ _ _ _; (first | (apply q_callC; exact rfl; exact rfl; exact rfl; exact hA; (focus ((repeat (first | exact trivial | refine ⟨by first | exact rfl | assumption, ?_⟩)); done)); skip)); (try simp only [put, rowsOf, plR, List.all_cons, selE, ovr, setH, del, cellsA, splice, isV, List.nil_append, List.cons_append, List.map_cons, List.map_nil, List.length_cons, List.length_nil, List.set_cons_zero, List.set_cons_succ, List.take_succ_cons, List.take_zero, List.take_nil, List.drop_succ_cons, List.drop_zero, List.drop_nil, List.append_nil, List.all_cons, List.all_nil, Bool.and_true, Bool.true_and, Bool.and_false, Bool.false_and, Nat.reduceAdd, Nat.zero_add, Nat.add_zero, Nat.reduceEqDiff, if_true, if_false, reduceIte]))
    | (show AW _ _ _ _ _ _ _ _; first | refine aw_region ?_ | (refine aw_seqk ?_; intro K hK) | (apply aw_cond_f; exact rfl; exact rfl) | (apply aw_cond_t; exact rfl; exact (by assumption)) | (apply aw_cond_f; exact rfl; exact (by assumption)) | refine aw_exit ?_ | refine aw_skip ?_)
    | refine thn_n ?_
    | (refine hK _ _ _ ?_; clear hK K)
    | refine thn_e ?_
    | refine inb_same ?_
    | (clear hK K; refine hK _ _ _ ?_; clear hK K))); all_goals (repeat (clear hK K)))
                all_goals exact finc_n (fun z => z) .r0 (by simp only [renA, renL]) (fun _ _ => rfl) ⟨rfl, trivial⟩ rfl
            · have g1 : decide ((i : Int) < (d : Int)) = false := by simpa using y1
              by_cases x2 : d < e
              · have f2 : decide ((d : Int) < (e : Int)) = true := by simpa using x2
                rw [← hwe] at f2
                by_cases y2 : e < b
                · have g2 : decide ((e : Int) < (b : Int)) = true := by simpa using y2
                  rw [← hwe] at g2
                  have hXl := hX.length_eq
                  rw [if_neg (by simp; omega)] at hXd
                  subst hXd
                  have hvX := hv.perm hX
                  have hi2 : ¬ (decide (a < i) && decide (i < d)) = true := by simp; omega
                  rw [if_neg hi2] at hQ
                  have hB := hI X d e b (by omega) hvX (by omega) (by omega) (by omega) (by omega) 0 1
                  have hi3 : (decide (d < e) && decide (e < b)) = true := by simp; omega
                  rw [if_pos hi3] at hQ
                  rw [hXl, hQ, ← hwe] at hB
                  ((repeat' (first
    | (show SQ _ _ _ _ _ _ _ _; first | apply sq_nil | (apply q_move; exact rfl; exact rfl) | (apply q_assign; exact rfl; exact rfl) | (apply q_pick_t; exact rfl; exact rfl; exact rfl; exact (by first | assumption | exact rfl)) | (apply q_pick_f; exact rfl; exact rfl; exact rfl; exact (by first | assumption | exact rfl)) | (apply q_sub; exact rfl; exact rfl; exact rfl) | (apply q_lss; exact rfl; exact rfl; exact rfl) | (apply q_g; exact rfl; exact rfl; exact rfl; exact (by assumption)) | (apply q_s; exact rfl; exact rfl; exact rfl; exact (by assumption); exact rfl))
    | (show SQ _ _ _ _ _ _ _ _; (first | (apply q_callC; exact rfl; exact rfl; exact rfl; exact hB; (focus ((repeat (first | exact trivial | refine ⟨by first | exact rfl | assumption, ?_⟩)); done)); skip)); (try simp only [put, rowsOf, plR, List.all_cons, selE, ovr, setH, del, cellsA, splice, isV, List.nil_append, List.cons_append, List.map_cons, List.map_nil, List.length_cons, List.length_nil, List.set_cons_zero, List.set_cons_succ, List.take_succ_cons, List.take_zero, List.take_nil, List.drop_succ_cons, List.drop_zero, List.drop_nil, List.append_nil, List.all_cons, List.all_nil, Bool.and_true, Bool.true_and, Bool.and_false, Bool.false_and, Nat.reduceAdd, Nat.zero_add, Nat.add_zero, Nat.reduceEqDiff, if_true, if_false, reduceIte]))
    | (show AW _ _ _ _ _ _ _ _; first | refine aw_region ?_ | (refine aw_seqk ?_; intro K hK) | (apply aw_cond_f; exact rfl; exact rfl) | (apply aw_cond_t; exact rfl; exact (by assumption)) | (apply aw_cond_f; exact rfl; exact (by assumption)) | refine aw_exit ?_ | refine aw_skip ?_)
    | refine thn_n ?_
    | (refine hK _ _ _ ?_; clear hK K)
    | refine thn_e ?_
    | refine inb_same ?_
    | (clear hK K; refine hK _ _ _ ?_; clear hK K))); all_goals (repeat (clear hK K)))
                  all_goals exact finc_n (fun z => z) .r0 (by simp only [renA, renL]) (fun _ _ => rfl) ⟨rfl, trivial⟩ rfl
                · have g2 : decide ((e : Int) < (b : Int)) = false := by simpa using y2
                  rw [← hwe] at g2
                  have hXl := hX.length_eq
                  rw [if_neg (by simp; omega)] at hXd
                  subst hXd
                  have hvX := hv.perm hX
                  have hi2 : ¬ (decide (a < i) && decide (i < d)) = true := by simp; omega
                  rw [if_neg hi2] at hQ
                  have hi3 : ¬ (decide (d < e) && decide (e < b)) = true := by simp; omega
                  rw [if_neg hi3] at hQ
                  subst hQ
                  ((repeat' (first
    | (show SQ _ _ _ _ _ _ _ _; first | apply sq_nil | (apply q_move; exact rfl; exact rfl) | (apply q_assign; exact rfl; exact rfl) | (apply q_pick_t; exact rfl; exact rfl; exact rfl; exact (by first | assumption | exact rfl)) | (apply q_pick_f; exact rfl; exact rfl; exact rfl; exact (by first | assumption | exact rfl)) | (apply q_sub; exact rfl; exact rfl; exact rfl) | (apply q_lss; exact rfl; exact rfl; exact rfl) | (apply q_g; exact rfl; exact rfl; exact rfl; exact (by assumption)) | (apply q_s; exact rfl; exact rfl; exact rfl; exact (by assumption); exact rfl))
    | (show AW _ _ _ _ _ _ _ _; first | refine aw_region ?_ | (refine aw_seqk ?_; intro K hK) | (apply aw_cond_f; exact rfl; exact rfl) | (apply aw_cond_f; exact rfl; exact (by assumption)) | refine aw_exit ?_ | refine aw_skip ?_)
    | refine thn_n ?_
    | (refine hK _ _ _ ?_; clear hK K)
    | refine thn_e ?_
    | refine inb_same ?_
    | (clear hK K; refine hK _ _ _ ?_; clear hK K))); all_goals (repeat (clear hK K)))
                  all_goals exact finc_n (fun z => z) .r0 (by simp only [renA, renL]) (fun _ _ => rfl) ⟨rfl, trivial⟩ rfl
              · have f2 : decide ((d : Int) < (e : Int)) = false := by simpa using x2
                rw [← hwe] at f2
                have hXl := hX.length_eq
                rw [if_neg (by simp; omega)] at hXd
                subst hXd
                have hvX := hv.perm hX
                have hi2 : ¬ (decide (a < i) && decide (i < d)) = true := by simp; omega
                rw [if_neg hi2] at hQ
                have hi3 : ¬ (decide (d < e) && decide (e < b)) = true := by simp; omega
                rw [if_neg hi3] at hQ
                subst hQ
                ((repeat' (first
    | (show SQ _ _ _ _ _ _ _ _; first | apply sq_nil | (apply q_move; exact rfl; exact rfl) | (apply q_assign; exact rfl; exact rfl) | (apply q_pick_t; exact rfl; exact rfl; exact rfl; exact (by first | assumption | exact rfl)) | (apply q_pick_f; exact rfl; exact rfl; exact rfl; exact (by first | assumption | exact rfl)) | (apply q_sub; exact rfl; exact rfl; exact rfl) | (apply q_lss; exact rfl; exact rfl; exact rfl) | (apply q_g; exact rfl; exact rfl; exact rfl; exact (by assumption)) | (apply q_s; exact rfl; exact rfl; exact rfl; exact (by assumption); exact rfl))
    | (show AW _ _ _ _ _ _ _ _; first | refine aw_region ?_ | (refine aw_seqk ?_; intro K hK) | (apply aw_cond_f; exact rfl; exact rfl) | (apply aw_cond_f; exact rfl; exact (by assumption)) | refine aw_exit ?_ | refine aw_skip ?_)
    | refine thn_n ?_
    | (refine hK _ _ _ ?_; clear hK K)
    | refine thn_e ?_
    | refine inb_same ?_
    | (clear hK K; refine hK _ _ _ ?_; clear hK K))); all_goals (repeat (clear hK K)))
                all_goals exact finc_n (fun z => z) .r0 (by simp only [renA, renL]) (fun _ _ => rfl) ⟨rfl, trivial⟩ rfl
          · have f1 : decide ((a : Int) < (i : Int)) = false := by simpa using x1
            by_cases x2 : d < e
            · have f2 : decide ((d : Int) < (e : Int)) = true := by simpa using x2
              rw [← hwe] at f2
              by_cases y2 : e < b
              · have g2 : decide ((e : Int) < (b : Int)) = true := by simpa using y2
                rw [← hwe] at g2
                have hXl := hX.length_eq
                rw [if_neg (by simp; omega)] at hXd
                subst hXd
                have hvX := hv.perm hX
                have hi2 : ¬ (decide (a < i) && decide (i < d)) = true := by simp; omega
                rw [if_neg hi2] at hQ
                have hB := hI X d e b (by omega) hvX (by omega) (by omega) (by omega) (by omega) 0 1
                have hi3 : (decide (d < e) && decide (e < b)) = true := by simp; omega
                rw [if_pos hi3] at hQ
                rw [hXl, hQ, ← hwe] at hB
                ((repeat' (first
    | (show SQ _ _ _ _ _ _ _ _; first | apply sq_nil | (apply q_move; exact rfl; exact rfl) | (apply q_assign; exact rfl; exact rfl) | (apply q_pick_t; exact rfl; exact rfl; exact rfl; exact (by first | assumption | exact rfl)) | (apply q_pick_f; exact rfl; exact rfl; exact rfl; exact (by first | assumption | exact rfl)) | (apply q_sub; exact rfl; exact rfl; exact rfl) | (apply q_lss; exact rfl; exact rfl; exact rfl) | (apply q_g; exact rfl; exact rfl; exact rfl; exact (by assumption)) | (apply q_s; exact rfl; exact rfl; exact rfl; exact (by assumption); exact rfl))
    | (show SQ _ _ _ _ _ _ _ _; (first | (apply q_callC; exact rfl; exact rfl; exact rfl; exact hB; (focus ((repeat (first | exact trivial | refine ⟨by first | exact rfl | assumption, ?_⟩)); done)); skip)); (try simp only [put, rowsOf, plR, List.all_cons, selE, ovr, setH, del, cellsA, splice, isV, List.nil_append, List.cons_append, List.map_cons, List.map_nil, List.length_cons, List.length_nil, List.set_cons_zero, List.set_cons_succ, List.take_succ_cons, List.take_zero, List.take_nil, List.drop_succ_cons, List.drop_zero, List.drop_nil, List.append_nil, List.all_cons, List.all_nil, Bool.and_true, Bool.true_and, Bool.and_false, Bool.false_and, Nat.reduceAdd, Nat.zero_add, Nat.add_zero, Nat.reduceEqDiff, if_true, if_false, reduceIte]))
    | (show AW _ _ _ _ _ _ _ _; first | refine aw_region ?_ | (refine aw_seqk ?_; intro K hK) | (apply aw_cond_f; exact rfl; exact rfl) | (apply aw_cond_t; exact rfl; exact (by assumption)) | (apply aw_cond_f; exact rfl; exact (by assumption)) | refine aw_exit ?_ | refine aw_skip ?_)
    | refine thn_n ?_
    | (refine hK _ _ _ ?_; clear hK K)
    | refine thn_e ?_
    | refine inb_same ?_
    | (clear hK K; refine hK _ _ _ ?_; clear hK K))); all_goals (repeat (clear hK K)))
                all_goals exact finc_n (fun z => z) .r0 (by simp only [renA, renL]) (fun _ _ => rfl) ⟨rfl, trivial⟩ rfl
              · have g2 : decide ((e : Int) < (b : Int)) = false := by simpa using y2
                rw [← hwe] at g2
                have hXl := hX.length_eq
                rw [if_neg (by simp; omega)] at hXd
                subst hXd
                have hvX := hv.perm hX
                have hi2 : ¬ (decide (a < i) && decide (i < d)) = true := by simp; omega
                rw [if_neg hi2] at hQ
                have hi3 : ¬ (decide (d < e) && decide (e < b)) = true := by simp; omega
                rw [if_neg hi3] at hQ
                subst hQ
                ((repeat' (first
    | (show SQ _ _ _ _ _ _ _ _; first | apply sq_nil | (apply q_move; exact rfl; exact rfl) | (apply q_assign; exact rfl; exact rfl) | (apply q_pick_t; exact rfl; exact rfl; exact rfl; exact (by first | assumption | exact rfl)) | (apply q_pick_f; exact rfl; exact rfl; exact rfl; exact (by first | assumption | exact rfl)) | (apply q_sub; exact rfl; exact rfl; exact rfl) | (apply q_lss; exact rfl; exact rfl; exact rfl) | (apply q_g; exact rfl; exact rfl; exact rfl; exact (by assumption)) | (apply q_s; exact rfl; exact rfl; exact rfl; exact (by assumption); exact rfl))
    | (show AW _ _ _ _ _ _ _ _; first | refine aw_region ?_ | (refine aw_seqk ?_; intro K hK) | (apply aw_cond_f; exact rfl; exact rfl) | (apply aw_cond_f; exact rfl; exact (by assumption)) | refine aw_exit ?_ | refine aw_skip ?_)
    | refine thn_n ?_
    | (refine hK _ _ _ ?_; clear hK K)
    | refine thn_e ?_
    | refine inb_same ?_
    | (clear hK K; refine hK _ _ _ ?_; clear hK K))); all_goals (repeat (clear hK K)))
                all_goals exact finc_n (fun z => z) .r0 (by simp only [renA, renL]) (fun _ _ => rfl) ⟨rfl, trivial⟩ rfl
            · have f2 : decide ((d : Int) < (e : Int)) = false := by simpa using x2
              rw [← hwe] at f2
              have hXl := hX.length_eq
              rw [if_neg (by simp; omega)] at hXd
              subst hXd
              have hvX := hv.perm hX
              have hi2 : ¬ (decide (a < i) && decide (i < d)) = true := by simp; omega
              rw [if_neg hi2] at hQ
              have hi3 : ¬ (decide (d < e) && decide (e < b)) = true := by simp; omega
              rw [if_neg hi3] at hQ
              subst hQ
              ((repeat' (first
    | (show SQ _ _ _ _ _ _ _ _; first | apply sq_nil | (apply q_move; exact rfl; exact rfl) | (apply q_assign; exact rfl; exact rfl) | (apply q_pick_f; exact rfl; exact rfl; exact rfl; exact (by first | assumption | exact rfl)) | (apply q_sub; exact rfl; exact rfl; exact rfl) | (apply q_lss; exact rfl; exact rfl; exact rfl) | (apply q_s; exact rfl; exact rfl; exact rfl; exact (by assumption); exact rfl))
    | (show AW _ _ _ _ _ _ _ _; first | refine aw_region ?_ | (refine aw_seqk ?_; intro K hK) | (apply aw_cond_f; exact rfl; exact rfl) | (apply aw_cond_f; exact rfl; exact (by assumption)) | refine aw_exit ?_ | refine aw_skip ?_)
    | refine thn_n ?_
    | (refine hK _ _ _ ?_; clear hK K)
    | refine thn_e ?_
    | refine inb_same ?_
    | (clear hK K; refine hK _ _ _ ?_; clear hK K))); all_goals (repeat (clear hK K)))
              all_goals exact finc_n (fun z => z) .r0 (by simp only [renA, renL]) (fun _ _ => rfl) ⟨rfl, trivial⟩ rfl
    · have b3 : decide ((d : Int) < (m : Int)) = false := by simpa using k3
      rw [← hmd] at b3
      ((repeat' (first
    | (show SQ _ _ _ _ _ _ _ _; first | apply sq_nil | (apply q_move; exact rfl; exact rfl) | (apply q_assign; exact rfl; exact rfl) | (apply q_conv; exact rfl; exact rfl; exact (ty rfl); exact rfl; exact (ty rfl)) | (apply q_add; exact rfl; exact rfl; exact rfl) | (apply q_sub; exact rfl; exact rfl; exact rfl) | (apply q_eql; exact rfl; exact rfl; exact rfl) | (apply q_gtr; exact rfl; exact rfl; exact rfl) | (apply q_shr; exact rfl; exact rfl; exact rfl; exact (by first | omega | (simp; done) | (simp; omega))))
    | (show AW _ _ _ _ _ _ _ _; first | refine aw_region ?_ | (refine aw_seqk ?_; intro K hK) | refine aw_block ?_ | (apply aw_cond_f; exact rfl; exact (by assumption)) | refine aw_skip ?_)
    | refine thn_n ?_
    | (refine hK _ _ _ ?_; clear hK K))); all_goals (repeat (clear hK K)))
      rw [hmd, hwn, hwp]
      obtain ⟨q1, q2, q3, q4, q5, q6⟩ := key a m (if_neg k3) (if_neg k3)
      rw [if_neg k3, if_neg k3] at hSd
      refine aw_loop (ρ := fun z => z) (ι := Nat × Nat × Nat) (fun s => ([(22, .v (.int .i64 ((d + m - 1 : Nat) : Int))), (21, .v (.int .i64 (s.2.2 : Int))), (20, .v (.int .i64 (s.2.1 : Int))), (19, .v (.int .i64 ((d + m : Nat) : Int))), (18, .v (.int .i64 (d : Int))), (4, stC n ls), (3, .v (.int .i64 (b : Int))), (2, .v (.int .i64 (m : Int))), (1, .v (.int .i64 (a : Int))), (0, .sl 0 0 xs.length)], [(0, ⟨2, 1, true, xs.map inL⟩)], 1))
        (fun s => d + m ≤ b + s.2.1 ∧ s.2.1 ≤ s.2.2 ∧ s.2.2 ≤ m ∧ s.2.2 ≤ d ∧ s.2.2 - s.2.1 ≤ s.1 ∧ bisF (fun c => !ltO ls (xs.getD (d + m - 1 - c) 0) (xs.getD c 0)) s.1 s.2.1 s.2.2 = S) (fun s => s.1) (m - a, a, m) ⟨by dsimp only; omega, by dsimp only; omega, by dsimp only; omega, by dsimp only; omega, Nat.le_refl _, hSd.symm⟩ ⟨by (repeat (refine ⟨by first | exact lk_i rfl rfl | exact lk_s rfl rfl rfl rfl | exact lk_f rfl, ?_⟩)); exact trivial, by (repeat (refine ⟨by first | exact ⟨rfl, rfl, rfl⟩, ?_⟩)); exact trivial, by rfl, by (intro i hi; (try dsimp only); refine ⟨?_, ?_⟩ <;> first | rfl | omega | (simp at hi; omega) | (simp; omega))⟩ ?_
      rintro ⟨g, i, j⟩ ⟨i1, ij, jm, jd, hg1, hg⟩
      dsimp only at i1 ij jm jd hg1 hg
      dsimp only
      by_cases c1 : i < j
      · have b1 : decide ((i : Int) < (j : Int)) = true := by simpa using c1
        obtain ⟨g, rfl⟩ : ∃ g', g = g' + 1 := ⟨g - 1, by omega⟩
        rw [bisF, if_pos c1] at hg
        have hh := half_eq (i := i) (j := j) (by omega)
        have hlo := (show i ≤ (i + j) / 2 by omega)
        have hhi := (show (i + j) / 2 < j by omega)
        generalize (i + j) / 2 = h at *
        have hwp2 : IntKind.i64.wrap (((d + m - 1 : Nat) : Int) - (h : Int)) = ((d + m - 1 - h : Nat) : Int) := by rw [IntWalk.i64_in _ (by omega)]; omega
        have hr1 := inL_get (xs := xs) (i := d + m - 1 - h) (by omega)
        have hr2 := inL_get (xs := xs) (i := h) (by omega)
        have hC := stClos_ro n ls (xs.getD (d + m - 1 - h) 0) (xs.getD h 0) hn (hv.at (by omega)) (hv.at (by omega))
        have hw1 : IntKind.i64.wrap ((h : Int) + 1) = ((h + 1 : Nat) : Int) := by rw [IntWalk.i64_in _ (by omega)]; omega
        rw [← hwp2] at hr1
        by_cases c2 : kO ls (xs.getD (d + m - 1 - h) 0) < kO ls (xs.getD h 0)
        · have b2 : decide (i64c (kO ls (xs.getD (d + m - 1 - h) 0)) (kO ls (xs.getD h 0)) < 0) = true := by rw [i64c_lt]; simpa using c2
          have b22 : (!decide (i64c (kO ls (xs.getD (d + m - 1 - h) 0)) (kO ls (xs.getD h 0)) < 0)) = false := by rw [b2]; rfl
          rw [if_neg (by simpa [ltO] using c2)] at hg
          rw [← hh] at hr1 hr2 hw1 hwp2
          ((repeat' (first
    | (show SQ _ _ _ _ _ _ _ _; first | apply sq_nil | (apply q_move; exact rfl; exact rfl) | (apply q_assign; exact rfl; exact rfl) | (apply q_conv; exact rfl; exact rfl; exact (ty rfl); exact rfl; exact (ty rfl)) | (apply q_add; exact rfl; exact rfl; exact rfl) | (apply q_lss; exact rfl; exact rfl; exact rfl) | (apply q_shr; exact rfl; exact rfl; exact rfl; exact (by first | omega | (simp; done) | (simp; omega))))
    | (show DE _ _ _ _ _ _ _ _ _ _ _ _; first | (apply e_move; exact rfl; exact rfl; exact rfl) | (apply e_not; exact rfl; exact rfl; exact rfl) | (apply e_sub; exact rfl; exact rfl; exact rfl; exact rfl) | (apply e_lss; exact rfl; exact rfl; exact rfl; exact rfl) | (apply e_ixl; exact rfl; exact rfl; exact rfl; exact (ty rfl); exact rfl; exact rfl; exact rfl; exact (by first | omega | (simp; done) | (simp; omega)); exact (by first | omega | (simp; done) | (simp; omega)); exact rfl) | (apply e_ld1p; exact rfl; exact rfl; exact (ty rfl); exact rfl; exact rfl; exact (by first | rfl | assumption | ((try simp only [Nat.zero_add]); refine List.getElem?_set_self ?_; (try simp only [List.length_set]); assumption)); exact rfl; exact rfl))
    | (show DE _ _ _ _ _ _ _ _ _ _ _ _; (first | (apply dr_nil; exact trivial) | (apply e_callU; exact rfl; exact rfl; exact rfl; exact FzL.of rfl; exact hC _; exact rfl)); (try simp only [put, rowsOf, plR, List.all_cons, selE, ovr, setH, del, cellsA, splice, isV, List.nil_append, List.cons_append, List.map_cons, List.map_nil, List.length_cons, List.length_nil, List.set_cons_zero, List.set_cons_succ, List.take_succ_cons, List.take_zero, List.take_nil, List.drop_succ_cons, List.drop_zero, List.drop_nil, List.append_nil, List.all_cons, List.all_nil, Bool.and_true, Bool.true_and, Bool.and_false, Bool.false_and, Nat.reduceAdd, Nat.zero_add, Nat.add_zero, Nat.reduceEqDiff, if_true, if_false, reduceIte]))
    | (show AW _ _ _ _ _ _ _ _; first | refine aw_region ?_ | (refine aw_seqk ?_; intro K hK) | refine aw_block ?_ | (apply aw_cond_t; exact rfl; exact (by assumption)) | (apply aw_cond_f; exact rfl; exact (by assumption)) | refine aw_skip ?_ | refine aw_drawE (id := 35) [0, 0, 0, 0, 12, 30, 62, 0, 0, 384, 896, 2047, 4095, 8191] [0, 0, 0, 0, 0, 1, 1, 0, 0, 1, 1, 1, 0, 0] mixed (by kernel_rfl) ?_)
    | refine thn_n ?_
    | (refine hK _ _ _ ?_; clear hK K)
    | refine inb_n ?_)); all_goals (repeat (clear hK K)))
          all_goals (refine ⟨(g, i, h), fun z => z, ⟨i1, by dsimp only; omega, by dsimp only; omega, by dsimp only; omega, by dsimp only; omega, hg⟩, by dsimp only; omega, ?_⟩; (try dsimp only); rw [← hh]; exact ⟨by (repeat (refine ⟨by first | exact lk_i rfl rfl | exact lk_s rfl rfl rfl rfl | exact lk_f rfl, ?_⟩)); exact trivial, by (repeat (refine ⟨by first | exact ⟨rfl, rfl, rfl⟩, ?_⟩)); exact trivial, by rfl, by (intro i hi; (try dsimp only); refine ⟨?_, ?_⟩ <;> first | rfl | omega | (simp at hi; omega) | (simp; omega))⟩)
        · have b2 : decide (i64c (kO ls (xs.getD (d + m - 1 - h) 0)) (kO ls (xs.getD h 0)) < 0) = false := by rw [i64c_lt]; simpa using c2
          have b22 : (!decide (i64c (kO ls (xs.getD (d + m - 1 - h) 0)) (kO ls (xs.getD h 0)) < 0)) = true := by rw [b2]; rfl
          rw [if_pos (by simpa [ltO] using c2)] at hg
          rw [← hh] at hr1 hr2 hw1 hwp2
          ((repeat' (first
    | (show SQ _ _ _ _ _ _ _ _; first | apply sq_nil | (apply q_move; exact rfl; exact rfl) | (apply q_assign; exact rfl; exact rfl) | (apply q_conv; exact rfl; exact rfl; exact (ty rfl); exact rfl; exact (ty rfl)) | (apply q_add; exact rfl; exact rfl; exact rfl) | (apply q_lss; exact rfl; exact rfl; exact rfl) | (apply q_shr; exact rfl; exact rfl; exact rfl; exact (by first | omega | (simp; done) | (simp; omega))))
    | (show DE _ _ _ _ _ _ _ _ _ _ _ _; first | (apply e_move; exact rfl; exact rfl; exact rfl) | (apply e_not; exact rfl; exact rfl; exact rfl) | (apply e_sub; exact rfl; exact rfl; exact rfl; exact rfl) | (apply e_lss; exact rfl; exact rfl; exact rfl; exact rfl) | (apply e_ixl; exact rfl; exact rfl; exact rfl; exact (ty rfl); exact rfl; exact rfl; exact rfl; exact (by first | omega | (simp; done) | (simp; omega)); exact (by first | omega | (simp; done) | (simp; omega)); exact rfl) | (apply e_ld1p; exact rfl; exact rfl; exact (ty rfl); exact rfl; exact rfl; exact (by first | rfl | assumption | ((try simp only [Nat.zero_add]); refine List.getElem?_set_self ?_; (try simp only [List.length_set]); assumption)); exact rfl; exact rfl))
    | (show DE _ _ _ _ _ _ _ _ _ _ _ _; (first | (apply dr_nil; exact trivial) | (apply e_callU; exact rfl; exact rfl; exact rfl; exact FzL.of rfl; exact hC _; exact rfl)); (try simp only [put, rowsOf, plR, List.all_cons, selE, ovr, setH, del, cellsA, splice, isV, List.nil_append, List.cons_append, List.map_cons, List.map_nil, List.length_cons, List.length_nil, List.set_cons_zero, List.set_cons_succ, List.take_succ_cons, List.take_zero, List.take_nil, List.drop_succ_cons, List.drop_zero, List.drop_nil, List.append_nil, List.all_cons, List.all_nil, Bool.and_true, Bool.true_and, Bool.and_false, Bool.false_and, Nat.reduceAdd, Nat.zero_add, Nat.add_zero, Nat.reduceEqDiff, if_true, if_false, reduceIte]))
    | (show AW _ _ _ _ _ _ _ _; first | refine aw_region ?_ | (refine aw_seqk ?_; intro K hK) | refine aw_block ?_ | (apply aw_cond_t; exact rfl; exact (by assumption)) | refine aw_skip ?_ | refine aw_drawE (id := 35) [0, 0, 0, 0, 12, 30, 62, 0, 0, 384, 896, 2047, 4095, 8191] [0, 0, 0, 0, 0, 1, 1, 0, 0, 1, 1, 1, 0, 0] mixed (by kernel_rfl) ?_)
    | refine thn_n ?_
    | (refine hK _ _ _ ?_; clear hK K)
    | refine inb_n ?_)); all_goals (repeat (clear hK K)))
          all_goals (refine ⟨(g, h + 1, j), fun z => z, ⟨by dsimp only; omega, by dsimp only; omega, jm, jd, by dsimp only; omega, hg⟩, by dsimp only; omega, ?_⟩; (try dsimp only); rw [← hw1]; exact ⟨by (repeat (refine ⟨by first | exact lk_i rfl rfl | exact lk_s rfl rfl rfl rfl | exact lk_f rfl, ?_⟩)); exact trivial, by (repeat (refine ⟨by first | exact ⟨rfl, rfl, rfl⟩, ?_⟩)); exact trivial, by rfl, by (intro i hi; (try dsimp only); refine ⟨?_, ?_⟩ <;> first | rfl | omega | (simp at hi; omega) | (simp; omega))⟩)
      · have b1 : decide ((i : Int) < (j : Int)) = false := by simpa using c1
        obtain rfl : i = j := by omega
        have hiq : i = S := by
          rw [← hg]
          cases g with
          | zero => rfl
          | succ g => rw [bisF, if_neg c1]
        subst hiq
        have hwe : IntKind.i64.wrap (((d + m : Nat) : Int) - (i : Int)) = ((d + m - i : Nat) : Int) := by rw [IntWalk.i64_in _ (by omega)]; omega
        generalize he : d + m - i = e at *
        by_cases x0 : i < m
        · have f0 : decide ((i : Int) < (m : Int)) = true := by simpa using x0
          by_cases y0 : m < e
          · have g0 : decide ((m : Int) < (e : Int)) = true := by simpa using y0
            rw [← hwe] at g0
            by_cases x1 : a < i
            · have f1 : decide ((a : Int) < (i : Int)) = true := by simpa using x1
              by_cases y1 : i < d
              · have g1 : decide ((i : Int) < (d : Int)) = true := by simpa using y1
                by_cases x2 : d < e
                · have f2 : decide ((d : Int) < (e : Int)) = true := by simpa using x2
                  rw [← hwe] at f2
                  by_cases y2 : e < b
                  · have g2 : decide ((e : Int) < (b : Int)) = true := by simpa using y2
                    rw [← hwe] at g2
                    have hXl := hX.length_eq
                    rw [if_pos (by simp; omega)] at hXd
                    have hR := rotate_rc n ls xs i m e hx (by omega) (by omega) (by omega) 0 1
                    rw [← hXd] at hR
                    have hvX := hv.perm hX
                    have hA := hI X a i d (by omega) hvX (by omega) (by omega) (by omega) (by omega) 0 1
                    have hAp := symF_perm (lt := ltO ls) (f := f) (a := a) (m := i) (b := d) (xs := X) (by omega) (by omega) (by omega)
                    have hAl := hAp.length_eq
                    have hvA := hvX.perm hAp
                    have hi2 : (decide (a < i) && decide (i < d)) = true := by simp; omega
                    rw [if_pos hi2] at hQ
                    generalize hY : symF (ltO ls) f a i d X = Y at *
                    have hB := hI Y d e b (by omega) hvA (by omega) (by omega) (by omega) (by omega) 0 1
                    have hi3 : (decide (d < e) && decide (e < b)) = true := by simp; omega
                    rw [if_pos hi3] at hQ
                    rw [← hwe] at hR
                    rw [hXl] at hA
                    rw [hAl, hXl, hQ, ← hwe] at hB
                    ((repeat' (first
    | (show SQ _ _ _ _ _ _ _ _; first | apply sq_nil | (apply q_move; exact rfl; exact rfl) | (apply q_assign; exact rfl; exact rfl) | (apply q_pick_t; exact rfl; exact rfl; exact rfl; exact (by first | assumption | exact rfl)) | (apply q_sub; exact rfl; exact rfl; exact rfl) | (apply q_lss; exact rfl; exact rfl; exact rfl) | (apply q_g; exact rfl; exact rfl; exact rfl; exact (by assumption)))
    | (show SQ _ _ _ _ _ _ _ _; (first | (apply q_callC; exact rfl; exact rfl; exact rfl; exact hR; (focus ((repeat (first | exact trivial | refine ⟨by first | exact rfl | assumption, ?_⟩)); done)); skip) | (apply q_callC; exact rfl; exact rfl; exact rfl; exact hA; (focus ((repeat (first | exact trivial | refine ⟨by first | exact rfl | assumption, ?_⟩)); done)); skip) | (apply q_callC; exact rfl; exact rfl; exact rfl; exact hB; (focus ((repeat (first | exact trivial | refine ⟨by first | exact rfl | assumption, ?_⟩)); done)); skip)); (try simp only [put, rowsOf, plR, List.all_cons, selE, ovr, setH, del, cellsA, splice, isV, List.nil_append, List.cons_append, List.map_cons, List.map_nil, List.length_cons, List.length_nil, List.set_cons_zero, List.set_cons_succ, List.take_succ_cons, List.take_zero, List.take_nil, List.drop_succ_cons, List.drop_zero, List.drop_nil, List.append_nil, List.all_cons, List.all_nil, Bool.and_true, Bool.true_and, Bool.and_false, Bool.false_and, Nat.reduceAdd, Nat.zero_add, Nat.add_zero, Nat.reduceEqDiff, if_true, if_false, reduceIte]))
    | (show AW _ _ _ _ _ _ _ _; first | refine aw_region ?_ | (refine aw_seqk ?_; intro K hK) | (apply aw_cond_t; exact rfl; exact (by assumption)) | (apply aw_cond_f; exact rfl; exact (by assumption)) | refine aw_exit ?_)
    | refine thn_n ?_
    | (refine hK _ _ _ ?_; clear hK K)
    | refine thn_e ?_
    | refine inb_same ?_
    | (clear hK K; refine hK _ _ _ ?_; clear hK K))); all_goals (repeat (clear hK K)))
                    all_goals exact finc_n (fun z => z) .r0 (by simp only [renA, renL]) (fun _ _ => rfl) ⟨rfl, trivial⟩ rfl
                  · have g2 : decide ((e : Int) < (b : Int)) = false := by simpa using y2
                    rw [← hwe] at g2
                    have hXl := hX.length_eq
                    rw [if_pos (by simp; omega)] at hXd
                    have hR := rotate_rc n ls xs i m e hx (by omega) (by omega) (by omega) 0 1
                    rw [← hXd] at hR
                    have hvX := hv.perm hX
                    have hA := hI X a i d (by omega) hvX (by omega) (by omega) (by omega) (by omega) 0 1
                    have hAp := symF_perm (lt := ltO ls) (f := f) (a := a) (m := i) (b := d) (xs := X) (by omega) (by omega) (by omega)
                    have hAl := hAp.length_eq
                    have hvA := hvX.perm hAp
                    have hi2 : (decide (a < i) && decide (i < d)) = true := by simp; omega
                    rw [if_pos hi2] at hQ
                    generalize hY : symF (ltO ls) f a i d X = Y at *
                    have hi3 : ¬ (decide (d < e) && decide (e < b)) = true := by simp; omega
                    rw [if_neg hi3] at hQ
                    rw [← hwe] at hR
                    rw [hXl] at hA
                    subst hQ
                    ((repeat' (first
    | (show SQ _ _ _ _ _ _ _ _; first | apply sq_nil | (apply q_move; exact rfl; exact rfl) | (apply q_assign; exact rfl; exact rfl) | (apply q_pick_t; exact rfl; exact rfl; exact rfl; exact (by first | assumption | exact rfl)) | (apply q_sub; exact rfl; exact rfl; exact rfl) | (apply q_lss; exact rfl; exact rfl; exact rfl) | (apply q_g; exact rfl; exact rfl; exact rfl; exact (by assumption)))
    | (show SQ _ _ _ _ _ _ _ _; (first | (apply q_callC; exact rfl; exact rfl; exact rfl; exact hR; (focus ((repeat (first | exact trivial | refine ⟨by first | exact rfl | assumption, ?_⟩)); done)); skip) | (apply q_callC; exact rfl; exact rfl; exact rfl; exact hA; (focus ((repeat (first | exact trivial | refine ⟨by first | exact rfl | assumption, ?_⟩)); done)); skip)); (try simp only [put, rowsOf, plR, List.all_cons, selE, ovr, setH, del, cellsA, splice, isV, List.nil_append, List.cons_append, List.map_cons, List.map_nil, List.length_cons, List.length_nil, List.set_cons_zero, List.set_cons_succ, List.take_succ_cons, List.take_zero, List.take_nil, List.drop_succ_cons, List.drop_zero, List.drop_nil, List.append_nil, List.all_cons, List.all_nil, Bool.and_true, Bool.true_and, Bool.and_false, Bool.false_and, Nat.reduceAdd, Nat.zero_add, Nat.add_zero, Nat.reduceEqDiff, if_true, if_false, reduceIte]))
    | (show AW _ _ _ _ _ _ _ _; first | refine aw_region ?_ | (refine aw_seqk ?_; intro K hK) | (apply aw_cond_t; exact rfl; exact (by assumption)) | (apply aw_cond_f; exact rfl; exact (by assumption)) | refine aw_exit ?_ | refine aw_skip ?_)
    | refine thn_n ?_
    | (refine hK _ _ _ ?_; clear hK K)
    | refine thn_e ?_
    | refine inb_same ?_
    | (clear hK K; refine hK _ _ _ ?_; clear hK K))); all_goals (repeat (clear hK K)))
                    all_goals exact finc_n (fun z => z) .r0 (by simp only [renA, renL]) (fun _ _ => rfl) ⟨rfl, trivial⟩ rfl
                · have f2 : decide ((d : Int) < (e : Int)) = false := by simpa using x2
                  rw [← hwe] at f2
                  have hXl := hX.length_eq
                  rw [if_pos (by simp; omega)] at hXd
                  have hR := rotate_rc n ls xs i m e hx (by omega) (by omega) (by omega) 0 1
                  rw [← hXd] at hR
                  have hvX := hv.perm hX
                  have hA := hI X a i d (by omega) hvX (by omega) (by omega) (by omega) (by omega) 0 1
                  have hAp := symF_perm (lt := ltO ls) (f := f) (a := a) (m := i) (b := d) (xs := X) (by omega) (by omega) (by omega)
                  have hAl := hAp.length_eq
                  have hvA := hvX.perm hAp
                  have hi2 : (decide (a < i) && decide (i < d)) = true := by simp; omega
                  rw [if_pos hi2] at hQ
                  generalize hY : symF (ltO ls) f a i d X = Y at *
                  have hi3 : ¬ (decide (d < e) && decide (e < b)) = true := by simp; omega
                  rw [if_neg hi3] at hQ
                  rw [← hwe] at hR
                  rw [hXl] at hA
                  subst hQ
                  ((repeat' (first
    | (show SQ _ _ _ _ _ _ _ _; first | apply sq_nil | (apply q_move; exact rfl; exact rfl) | (apply q_assign; exact rfl; exact rfl) | (apply q_pick_t; exact rfl; exact rfl; exact rfl; exact (by first | assumption | exact rfl)) | (apply q_pick_f; exact rfl; exact rfl; exact rfl; exact (by first | assumption | exact rfl)) | (apply q_sub; exact rfl; exact rfl; exact rfl) | (apply q_lss; exact rfl; exact rfl; exact rfl) | (apply q_g; exact rfl; exact rfl; exact rfl; exact (by assumption)) | (apply q_s; exact rfl; exact rfl; exact rfl; exact (by assumption); exact rfl))
    | (show SQ _ _ _ _ _ _ _ _; (first | (apply q_callC; exact rfl; exact rfl; exact rfl; exact hR; (focus ((repeat (first | exact trivial | refine ⟨by first | exact rfl | assumption, ?_⟩)); done)); skip) | (apply q_callC; exact rfl; exact rfl; exact rfl; exact hA; (focus ((repeat (first | exact trivial | refine ⟨by first | exact rfl | assumption, ?_⟩)); done)); skip)); (try simp only [put, rowsOf, plR, List.all_cons, selE, ovr, setH, del, cellsA, splice, isV, List.nil_append, List.cons_append, List.map_cons, List.map_nil, List.length_cons, List.length_nil, List.set_cons_zero, List.set_cons_succ, List.take_succ_cons, List.take_zero, List.take_nil, List.drop_succ_cons, List.drop_zero, List.drop_nil, List.append_nil, List.all_cons, List.all_nil, Bool.and_true, Bool.true_and, Bool.and_false, Bool.false_and, Nat.reduceAdd, Nat.zero_add, Nat.add_zero, Nat.reduceEqDiff, if_true, if_false, reduceIte]))
    | (show AW _ _ _ _ _ _ _ _; first | refine aw_region ?_ | (refine aw_seqk ?_; intro K hK) | (apply aw_cond_f; exact rfl; exact rfl) | (apply aw_cond_t; exact rfl; exact (by assumption)) | (apply aw_cond_f; exact rfl; exact (by assumption)) | refine aw_exit ?_ | refine aw_skip ?_)
    | refine thn_n ?_
    | (refine hK _ _ _ ?_; clear hK K)
    | refine thn_e ?_
    | refine inb_same ?_
    | (clear hK K; refine hK _ _ _ ?_; clear hK K))); all_goals (repeat (clear hK K)))
                  all_goals exact finc_n (fun z => z) .r0 (by simp only [renA, renL]) (fun _ _ => rfl) ⟨rfl, trivial⟩ rfl
              · have g1 : decide ((i : Int) < (d : Int)) = false := by simpa using y1
                by_cases x2 : d < e
                · have f2 : decide ((d : Int) < (e : Int)) = true := by simpa using x2
                  rw [← hwe] at f2
                  by_cases y2 : e < b
                  · have g2 : decide ((e : Int) < (b : Int)) = true := by simpa using y2
                    rw [← hwe] at g2
                    have hXl := hX.length_eq
                    rw [if_pos (by simp; omega)] at hXd
                    have hR := rotate_rc n ls xs i m e hx (by omega) (by omega) (by omega) 0 1
                    rw [← hXd] at hR
                    have hvX := hv.perm hX
                    have hi2 : ¬ (decide (a < i) && decide (i < d)) = true := by simp; omega
                    rw [if_neg hi2] at hQ
                    have hB := hI X d e b (by omega) hvX (by omega) (by omega) (by omega) (by omega) 0 1
                    have hi3 : (decide (d < e) && decide (e < b)) = true := by simp; omega
                    rw [if_pos hi3] at hQ
                    rw [← hwe] at hR
                    rw [hXl, hQ, ← hwe] at hB
                    ((repeat' (first
    | (show SQ _ _ _ _ _ _ _ _; first | apply sq_nil | (apply q_move; exact rfl; exact rfl) | (apply q_assign; exact rfl; exact rfl) | (apply q_pick_t; exact rfl; exact rfl; exact rfl; exact (by first | assumption | exact rfl)) | (apply q_sub; exact rfl; exact rfl; exact rfl) | (apply q_lss; exact rfl; exact rfl; exact rfl) | (apply q_g; exact rfl; exact rfl; exact rfl; exact (by assumption)))
    | (show SQ _ _ _ _ _ _ _ _; (first | (apply q_callC; exact rfl; exact rfl; exact rfl; exact hR; (focus ((repeat (first | exact trivial | refine ⟨by first | exact rfl | assumption, ?_⟩)); done)); skip) | (apply q_callC; exact rfl; exact rfl; exact rfl; exact hB; (focus ((repeat (first | exact trivial | refine ⟨by first | exact rfl | assumption, ?_⟩)); done)); skip)); (try simp only [put, rowsOf, plR, List.all_cons, selE, ovr, setH, del, cellsA, splice, isV, List.nil_append, List.cons_append, List.map_cons, List.map_nil, List.length_cons, List.length_nil, List.set_cons_zero, List.set_cons_succ, List.take_succ_cons, List.take_zero, List.take_nil, List.drop_succ_cons, List.drop_zero, List.drop_nil, List.append_nil, List.all_cons, List.all_nil, Bool.and_true, Bool.true_and, Bool.and_false, Bool.false_and, Nat.reduceAdd, Nat.zero_add, Nat.add_zero, Nat.reduceEqDiff, if_true, if_false, reduceIte]))
    | (show AW _ _ _ _ _ _ _ _; first | refine aw_region ?_ | (refine aw_seqk ?_; intro K hK) | (apply aw_cond_t; exact rfl; exact (by assumption)) | (apply aw_cond_f; exact rfl; exact (by assumption)) | refine aw_exit ?_ | refine aw_skip ?_)
    | refine thn_n ?_
    | (refine hK _ _ _ ?_; clear hK K)
    | refine thn_e ?_
    | refine inb_same ?_
    | (clear hK K; refine hK _ _ _ ?_; clear hK K))); all_goals (repeat (clear hK K)))
                    all_goals exact finc_n (fun z => z) .r0 (by simp only [renA, renL]) (fun _ _ => rfl) ⟨rfl, trivial⟩ rfl
                  · have g2 : decide ((e : Int) < (b : Int)) = false := by simpa using y2
                    rw [← hwe] at g2
                    have hXl := hX.length_eq
                    rw [if_pos (by simp; omega)] at hXd
                    have hR := rotate_rc n ls xs i m e hx (by omega) (by omega) (by omega) 0 1
                    rw [← hXd] at hR
                    have hvX := hv.perm hX
                    have hi2 : ¬ (decide (a < i) && decide (i < d)) = true := by simp; omega
                    rw [if_neg hi2] at hQ
                    have hi3 : ¬ (decide (d < e) && decide (e < b)) = true := by simp; omega
                    rw [if_neg hi3] at hQ
                    rw [← hwe] at hR
                    subst hQ
                    ((repeat' (first
    | (show SQ _ _ _ _ _ _ _ _; first | apply sq_nil | (apply q_move; exact rfl; exact rfl) | (apply q_assign; exact rfl; exact rfl) | (apply q_pick_t; exact rfl; exact rfl; exact rfl; exact (by first | assumption | exact rfl)) | (apply q_sub; exact rfl; exact rfl; exact rfl) | (apply q_lss; exact rfl; exact rfl; exact rfl) | (apply q_g; exact rfl; exact rfl; exact rfl; exact (by assumption)))
    | (show SQ _ _ _ _ _ _ _ _; (first | (apply q_callC; exact rfl; exact rfl; exact rfl; exact hR; (focus ((repeat (first | exact trivial | refine ⟨by first | exact rfl | assumption, ?_⟩)); done)); skip)); (try simp only [put, rowsOf, plR, List.all_cons, selE, ovr, setH, del, cellsA, splice, isV, List.nil_append, List.cons_append, List.map_cons, List.map_nil, List.length_cons, List.length_nil, List.set_cons_zero, List.set_cons_succ, List.take_succ_cons, List.take_zero, List.take_nil, List.drop_succ_cons, List.drop_zero, List.drop_nil, List.append_nil, List.all_cons, List.all_nil, Bool.and_true, Bool.true_and, Bool.and_false, Bool.false_and, Nat.reduceAdd, Nat.zero_add, Nat.add_zero, Nat.reduceEqDiff, if_true, if_false, reduceIte]))
    | (show AW _ _ _ _ _ _ _ _; first | refine aw_region ?_ | (refine aw_seqk ?_; intro K hK) | (apply aw_cond_t; exact rfl; exact (by assumption)) | (apply aw_cond_f; exact rfl; exact (by assumption)) | refine aw_exit ?_ | refine aw_skip ?_)
    | refine thn_n ?_
    | (refine hK _ _ _ ?_; clear hK K)
    | refine thn_e ?_
    | refine inb_same ?_
    | (clear hK K; refine hK _ _ _ ?_; clear hK K))); all_goals (repeat (clear hK K)))
                    all_goals exact finc_n (fun z => z) .r0 (by simp only [renA, renL]) (fun _ _ => rfl) ⟨rfl, trivial⟩ rfl
                · have f2 : decide ((d : Int) < (e : Int)) = false := by simpa using x2
                  rw [← hwe] at f2
                  have hXl := hX.length_eq
                  rw [if_pos (by simp; omega)] at hXd
                  have hR := rotate_rc n ls xs i m e hx (by omega) (by omega) (by omega) 0 1
                  rw [← hXd] at hR
                  have hvX := hv.perm hX
                  have hi2 : ¬ (decide (a < i) && decide (i < d)) = true := by simp; omega
                  rw [if_neg hi2] at hQ
                  have hi3 : ¬ (decide (d < e) && decide (e < b)) = true := by simp; omega
                  rw [if_neg hi3] at hQ
                  rw [← hwe] at hR
                  subst hQ
                  ((repeat' (first
    | (show SQ _ _ _ _ _ _ _ _; first | apply sq_nil | (apply q_move; exact rfl; exact rfl) | (apply q_assign; exact rfl; exact rfl) | (apply q_pick_t; exact rfl; exact rfl; exact rfl; exact (by first | assumption | exact rfl)) | (apply q_pick_f; exact rfl; exact rfl; exact rfl; exact (by first | assumption | exact rfl)) | (apply q_sub; exact rfl; exact rfl; exact rfl) | (apply q_lss; exact rfl; exact rfl; exact rfl) | (apply q_g; exact rfl; exact rfl; exact rfl; exact (by assumption)) | (apply q_s; exact rfl; exact rfl; exact rfl; exact (by assumption); exact rfl))
    | (show SQ _ _ _ _ _ _ _ _; (first | (apply q_callC; exact rfl; exact rfl; exact rfl; exact hR; (focus ((repeat (first | exact trivial | refine ⟨by first | exact rfl | assumption, ?_⟩)); done)); skip)); (try simp only [put, rowsOf, plR, List.all_cons, selE, ovr, setH, del, cellsA, splice, isV, List.nil_append, List.cons_append, List.map_cons, List.map_nil, List.length_cons, List.length_nil, List.set_cons_zero, List.set_cons_succ, List.take_succ_cons, List.take_zero, List.take_nil, List.drop_succ_cons, List.drop_zero, List.drop_nil, List.append_nil, List.all_cons, List.all_nil, Bool.and_true, Bool.true_and, Bool.and_false, Bool.false_and, Nat.reduceAdd, Nat.zero_add, Nat.add_zero, Nat.reduceEqDiff, if_true, if_false, reduceIte]))
    | (show AW _ _ _ _ _ _ _ _; first | refine aw_region ?_ | (refine aw_seqk ?_; intro K hK) | (apply aw_cond_f; exact rfl; exact rfl) | (apply aw_cond_t; exact rfl; exact (by assumption)) | (apply aw_cond_f; exact rfl; exact (by assumption)) | refine aw_exit ?_ | refine aw_skip ?_)
    | refine thn_n ?_
    | (refine hK _ _ _ ?_; clear hK K)
    | refine thn_e ?_
    | refine inb_same ?_
    | (clear hK K; refine hK _ _ _ ?_; clear hK K))); all_goals (repeat (clear hK K)))
                  all_goals exact finc_n (fun z => z) .r0 (by simp only [renA, renL]) (fun _ _ => rfl) ⟨rfl, trivial⟩ rfl
            · have f1 : decide ((a : Int) < (i : Int)) = false := by simpa using x1
              by_cases x2 : d < e
              · have f2 : decide ((d : Int) < (e : Int)) = true := by simpa using x2
                rw [← hwe] at f2
                by_cases y2 : e < b
                · have g2 : decide ((e : Int) < (b : Int)) = true := by simpa using y2
                  rw [← hwe] at g2
                  have hXl := hX.length_eq
                  rw [if_pos (by simp; omega)] at hXd
                  have hR := rotate_rc n ls xs i m e hx (by omega) (by omega) (by omega) 0 1
                  rw [← hXd] at hR
                  have hvX := hv.perm hX
                  have hi2 : ¬ (decide (a < i) && decide (i < d)) = true := by simp; omega
                  rw [if_neg hi2] at hQ
                  have hB := hI X d e b (by omega) hvX (by omega) (by omega) (by omega) (by omega) 0 1
                  have hi3 : (decide (d < e) && decide (e < b)) = true := by simp; omega
                  rw [if_pos hi3] at hQ
                  rw [← hwe] at hR
                  rw [hXl, hQ, ← hwe] at hB
                  ((repeat' (first
    | (show SQ _ _ _ _ _ _ _ _; first | apply sq_nil | (apply q_move; exact rfl; exact rfl) | (apply q_assign; exact rfl; exact rfl) | (apply q_pick_t; exact rfl; exact rfl; exact rfl; exact (by first | assumption | exact rfl)) | (apply q_pick_f; exact rfl; exact rfl; exact rfl; exact (by first | assumption | exact rfl)) | (apply q_sub; exact rfl; exact rfl; exact rfl) | (apply q_lss; exact rfl; exact rfl; exact rfl) | (apply q_g; exact rfl; exact rfl; exact rfl; exact (by assumption)) | (apply q_s; exact rfl; exact rfl; exact rfl; exact (by assumption); exact rfl))
    | (show SQ _ _ _ _ _ _ _ _; (first | (apply q_callC; exact rfl; exact rfl; exact rfl; exact hR; (focus ((repeat (first | exact trivial | refine ⟨by first | exact rfl | assumption, ?_⟩)); done)); skip) | (apply q_callC; exact rfl; exact rfl; exact rfl; exact hB; (focus ((repeat (first | exact trivial | refine ⟨by first | exact rfl | assumption, ?_⟩)); done)); skip)); (try simp only [put, rowsOf, plR, List.all_cons, selE, ovr, setH, del, cellsA, splice, isV, List.nil_append, List.cons_append, List.map_cons, List.map_nil, List.length_cons, List.length_nil, List.set_cons_zero, List.set_cons_succ, List.take_succ_cons, List.take_zero, List.take_nil, List.drop_succ_cons, List.drop_zero, List.drop_nil, List.append_nil, List.all_cons, List.all_nil, Bool.and_true, Bool.true_and, Bool.and_false, Bool.false_and, Nat.reduceAdd, Nat.zero_add, Nat.add_zero, Nat.reduceEqDiff, if_true, if_false, reduceIte]))
    | (show AW _ _ _ _ _ _ _ _; first | refine aw_region ?_ | (refine aw_seqk ?_; intro K hK) | (apply aw_cond_f; exact rfl; exact rfl) | (apply aw_cond_t; exact rfl; exact (by assumption)) | (apply aw_cond_f; exact rfl; exact (by assumption)) | refine aw_exit ?_ | refine aw_skip ?_)
    | refine thn_n ?_
    | (refine hK _ _ _ ?_; clear hK K)
    | refine thn_e ?_
    | refine inb_same ?_
    | (clear hK K; refine hK _ _ _ ?_; clear hK K))); all_goals (repeat (clear hK K)))
                  all_goals exact finc_n (fun z => z) .r0 (by simp only [renA, renL]) (fun _ _ => rfl) ⟨rfl, trivial⟩ rfl
                · have g2 : decide ((e : Int) < (b : Int)) = false := by simpa using y2
                  rw [← hwe] at g2
                  have hXl := hX.length_eq
                  rw [if_pos (by simp; omega)] at hXd
                  have hR := rotate_rc n ls xs i m e hx (by omega) (by omega) (by omega) 0 1
                  rw [← hXd] at hR
                  have hvX := hv.perm hX
                  have hi2 : ¬ (decide (a < i) && decide (i < d)) = true := by simp; omega
                  rw [if_neg hi2] at hQ
                  have hi3 : ¬ (decide (d < e) && decide (e < b)) = true := by simp; omega
                  rw [if_neg hi3] at hQ
                  rw [← hwe] at hR
                  subst hQ
                  ((repeat' (first
    | (show SQ _ _ _ _ _ _ _ _; first | apply sq_nil | (apply q_move; exact rfl; exact rfl) | (apply q_assign; exact rfl; exact rfl) | (apply q_pick_t; exact rfl; exact rfl; exact rfl; exact (by first | assumption | exact rfl)) | (apply q_pick_f; exact rfl; exact rfl; exact rfl; exact (by first | assumption | exact rfl)) | (apply q_sub; exact rfl; exact rfl; exact rfl) | (apply q_lss; exact rfl; exact rfl; exact rfl) | (apply q_g; exact rfl; exact rfl; exact rfl; exact (by assumption)) | (apply q_s; exact rfl; exact rfl; exact rfl; exact (by assumption); exact rfl))
    | (show SQ _ _ _ _ _ _ _ _; (first | (apply q_callC; exact rfl; exact rfl; exact rfl; exact hR; (focus ((repeat (first | exact trivial | refine ⟨by first | exact rfl | assumption, ?_⟩)); done)); skip)); (try simp only [put, rowsOf, plR, List.all_cons, selE, ovr, setH, del, cellsA, splice, isV, List.nil_append, List.cons_append, List.map_cons, List.map_nil, List.length_cons, List.length_nil, List.set_cons_zero, List.set_cons_succ, List.take_succ_cons, List.take_zero, List.take_nil, List.drop_succ_cons, List.drop_zero, List.drop_nil, List.append_nil, List.all_cons, List.all_nil, Bool.and_true, Bool.true_and, Bool.and_false, Bool.false_and, Nat.reduceAdd, Nat.zero_add, Nat.add_zero, Nat.reduceEqDiff, if_true, if_false, reduceIte]))
    | (show AW _ _ _ _ _ _ _ _; first | refine aw_region ?_ | (refine aw_seqk ?_; intro K hK) | (apply aw_cond_f; exact rfl; exact rfl) | (apply aw_cond_t; exact rfl; exact (by assumption)) | (apply aw_cond_f; exact rfl; exact (by assumption)) | refine aw_exit ?_ | refine aw_skip ?_)
    | refine thn_n ?_
    | (refine hK _ _ _ ?_; clear hK K)
    | refine thn_e ?_
    | refine inb_same ?_
    | (clear hK K; refine hK _ _ _ ?_; clear hK K))); all_goals (repeat (clear hK K)))
                  all_goals exact finc_n (fun z => z) .r0 (by simp only [renA, renL]) (fun _ _ => rfl) ⟨rfl, trivial⟩ rfl
              · have f2 : decide ((d : Int) < (e : Int)) = false := by simpa using x2
                rw [← hwe] at f2
                have hXl := hX.length_eq
                rw [if_pos (by simp; omega)] at hXd
                have hR := rotate_rc n ls xs i m e hx (by omega) (by omega) (by omega) 0 1
                rw [← hXd] at hR
                have hvX := hv.perm hX
                have hi2 : ¬ (decide (a < i) && decide (i < d)) = true := by simp; omega
                rw [if_neg hi2] at hQ
                have hi3 : ¬ (decide (d < e) && decide (e < b)) = true := by simp; omega
                rw [if_neg hi3] at hQ
                rw [← hwe] at hR
                subst hQ
                ((repeat' (first
    | (show SQ _ _ _ _ _ _ _ _; first | apply sq_nil | (apply q_move; exact rfl; exact rfl) | (apply q_assign; exact rfl; exact rfl) | (apply q_pick_t; exact rfl; exact rfl; exact rfl; exact (by first | assumption | exact rfl)) | (apply q_pick_f; exact rfl; exact rfl; exact rfl; exact (by first | assumption | exact rfl)) | (apply q_sub; exact rfl; exact rfl; exact rfl) | (apply q_lss; exact rfl; exact rfl; exact rfl) | (apply q_g; exact rfl; exact rfl; exact rfl; exact (by assumption)) | (apply q_s; exact rfl; exact rfl; exact rfl; exact (by assumption); exact rfl))
    | (show SQ _ _ _ _ _ _ _ _; (first | (apply q_callC; exact rfl; exact rfl; exact rfl; exact hR; (focus ((repeat (first | exact trivial | refine ⟨by first | exact rfl | assumption, ?_⟩)); done)); skip)); (try simp only [put, rowsOf, plR, List.all_cons, selE, ovr, setH, del, cellsA, splice, isV, List.nil_append, List.cons_append, List.map_cons, List.map_nil, List.length_cons, List.length_nil, List.set_cons_zero, List.set_cons_succ, List.take_succ_cons, List.take_zero, List.take_nil, List.drop_succ_cons, List.drop_zero, List.drop_nil, List.append_nil, List.all_cons, List.all_nil, Bool.and_true, Bool.true_and, Bool.and_false, Bool.false_and, Nat.reduceAdd, Nat.zero_add, Nat.add_zero, Nat.reduceEqDiff, if_true, if_false, reduceIte]))
    | (show AW _ _ _ _ _ _ _ _; first | refine aw_region ?_ | (refine aw_seqk ?_; intro K hK) | (apply aw_cond_f; exact rfl; exact rfl) | (apply aw_cond_t; exact rfl; exact (by assumption)) | (apply aw_cond_f; exact rfl; exact (by assumption)) | refine aw_exit ?_ | refine aw_skip ?_)
    | refine thn_n ?_
    | (refine hK _ _ _ ?_; clear hK K)
    | refine thn_e ?_
    | refine inb_same ?_
    | (clear hK K; refine hK _ _ _ ?_; clear hK K))); all_goals (repeat (clear hK K)))
                all_goals exact finc_n (fun z => z) .r0 (by simp only [renA, renL]) (fun _ _ => rfl) ⟨rfl, trivial⟩ rfl
          · have g0 : decide ((m : Int) < (e : Int)) = false := by simpa using y0
            rw [← hwe] at g0
            by_cases x1 : a < i
            · have f1 : decide ((a : Int) < (i : Int)) = true := by simpa using x1
              by_cases y1 : i < d
              · have g1 : decide ((i : Int) < (d : Int)) = true := by simpa using y1
                by_cases x2 : d < e
                · have f2 : decide ((d : Int) < (e : Int)) = true := by simpa using x2
                  rw [← hwe] at f2
                  by_cases y2 : e < b
                  · have g2 : decide ((e : Int) < (b : Int)) = true := by simpa using y2
                    rw [← hwe] at g2
                    have hXl := hX.length_eq
                    rw [if_neg (by simp; omega)] at hXd
                    subst hXd
                    have hvX := hv.perm hX
                    have hA := hI X a i d (by omega) hvX (by omega) (by omega) (by omega) (by omega) 0 1
                    have hAp := symF_perm (lt := ltO ls) (f := f) (a := a) (m := i) (b := d) (xs := X) (by omega) (by omega) (by omega)
                    have hAl := hAp.length_eq
                    have hvA := hvX.perm hAp
                    have hi2 : (decide (a < i) && decide (i < d)) = true := by simp; omega
                    rw [if_pos hi2] at hQ
                    generalize hY : symF (ltO ls) f a i d X = Y at *
                    have hB := hI Y d e b (by omega) hvA (by omega) (by omega) (by omega) (by omega) 0 1
                    have hi3 : (decide (d < e) && decide (e < b)) = true := by simp; omega
                    rw [if_pos hi3] at hQ
                    rw [hXl] at hA
                    rw [hAl, hXl, hQ, ← hwe] at hB
                    ((repeat' (first
    | (show SQ _ _ _ _ _ _ _ _; first | apply sq_nil | (apply q_move; exact rfl; exact rfl) | (apply q_assign; exact rfl; exact rfl) | (apply q_pick_t; exact rfl; exact rfl; exact rfl; exact (by first | assumption | exact rfl)) | (apply q_sub; exact rfl; exact rfl; exact rfl) | (apply q_lss; exact rfl; exact rfl; exact rfl) | (apply q_g; exact rfl; exact rfl; exact rfl; exact (by assumption)))
    | (show SQ _ _ _ _ _ _ _ _; (first | (apply q_callC; exact rfl; exact rfl; exact rfl; exact hA; (focus ((repeat (first | exact trivial | refine ⟨by first | exact rfl | assumption, ?_⟩)); done)); skip) | (apply q_callC; exact rfl; exact rfl; exact rfl; exact hB; (focus ((repeat (first | exact trivial | refine ⟨by first | exact rfl | assumption, ?_⟩)); done)); skip)); (try simp only [put, rowsOf, plR, List.all_cons, selE, ovr, setH, del, cellsA, splice, isV, List.nil_append, List.cons_append, List.map_cons, List.map_nil, List.length_cons, List.length_nil, List.set_cons_zero, List.set_cons_succ, List.take_succ_cons, List.take_zero, List.take_nil, List.drop_succ_cons, List.drop_zero, List.drop_nil, List.append_nil, List.all_cons, List.all_nil, Bool.and_true, Bool.true_and, Bool.and_false, Bool.false_and, Nat.reduceAdd, Nat.zero_add, Nat.add_zero, Nat.reduceEqDiff, if_true, if_false, reduceIte]))
    | (show AW _ _ _ _ _ _ _ _; first | refine aw_region ?_ | (refine aw_seqk ?_; intro K hK) | (apply aw_cond_t; exact rfl; exact (by assumption)) | (apply aw_cond_f; exact rfl; exact (by assumption)) | refine aw_exit ?_ | refine aw_skip ?_)
    | refine thn_n ?_
    | (refine hK _ _ _ ?_; clear hK K)
    | refine thn_e ?_
    | refine inb_same ?_
    | (clear hK K; refine hK _ _ _ ?_; clear hK K))); all_goals (repeat (clear hK K)))
                    all_goals exact finc_n (fun z => z) .r0 (by simp only [renA, renL]) (fun _ _ => rfl) ⟨rfl, trivial⟩ rfl
                  · have g2 : decide ((e : Int) < (b : Int)) = false := by simpa using y2
                    rw [← hwe] at g2
                    have hXl := hX.length_eq
                    rw [if_neg (by simp; omega)] at hXd
                    subst hXd
                    have hvX := hv.perm hX
                    have hA := hI X a i d (by omega) hvX (by omega) (by omega) (by omega) (by omega) 0 1
                    have hAp := symF_perm (lt := ltO ls) (f := f) (a := a) (m := i) (b := d) (xs := X) (by omega) (by omega) (by omega)
                    have hAl := hAp.length_eq
                    have hvA := hvX.perm hAp
                    have hi2 : (decide (a < i) && decide (i < d)) = true := by simp; omega
                    rw [if_pos hi2] at hQ
                    generalize hY : symF (ltO ls) f a i d X = Y at *
                    have hi3 : ¬ (decide (d < e) && decide (e < b)) = true := by simp; omega
                    rw [if_neg hi3] at hQ
                    rw [hXl] at hA
                    subst hQ
                    ((repeat' (first
    | (show SQ _ _ _ _ _ _ _ _; first | apply sq_nil | (apply q_move; exact rfl; exact rfl) | (apply q_assign; exact rfl; exact rfl) | (apply q_pick_t; exact rfl; exact rfl; exact rfl; exact (by first | assumption | exact rfl)) | (apply q_sub; exact rfl; exact rfl; exact rfl) | (apply q_lss; exact rfl; exact rfl; exact rfl) | (apply q_g; exact rfl; exact rfl; exact rfl; exact (by assumption)))
    | (show SQ _ _ _ _ _ _ _ _; (first | (apply q_callC; exact rfl; exact rfl; exact rfl; exact hA; (focus ((repeat (first | exact trivial | refine ⟨by first | exact rfl | assumption, ?_⟩)); done)); skip)); (try simp only [put, rowsOf, plR, List.all_cons, selE, ovr, setH, del, cellsA, splice, isV, List.nil_append, List.cons_append, List.map_cons, List.map_nil, List.length_cons, List.length_nil, List.set_cons_zero, List.set_cons_succ, List.take_succ_cons, List.take_zero, List.take_nil, List.drop_succ_cons, List.drop_zero, List.drop_nil, List.append_nil, List.all_cons, List.all_nil, Bool.and_true, Bool.true_and, Bool.and_false, Bool.false_and, Nat.reduceAdd, Nat.zero_add, Nat.add_zero, Nat.reduceEqDiff, if_true, if_false, reduceIte]))
    | (show AW _ _ _ _ _ _ _ _; first | refine aw_region ?_ | (refine aw_seqk ?_; intro K hK) | (apply aw_cond_t; exact rfl; exact (by assumption)) | (apply aw_cond_f; exact rfl; exact (by assumption)) | refine aw_exit ?_ | refine aw_skip ?_)
    | refine thn_n ?_
    | (refine hK _ _ _ ?_; clear hK K)
    | refine thn_e ?_
    | refine inb_same ?_
    | (clear hK K; refine hK _ _ _ ?_; clear hK K))); all_goals (repeat (clear hK K)))
                    all_goals exact finc_n (fun z => z) .r0 (by simp only [renA, renL]) (fun _ _ => rfl) ⟨rfl, trivial⟩ rfl
                · have f2 : decide ((d : Int) < (e : Int)) = false := by simpa using x2
                  rw [← hwe] at f2
                  have hXl := hX.length_eq
                  rw [if_neg (by simp; omega)] at hXd
                  subst hXd
                  have hvX := hv.perm hX
                  have hA := hI X a i d (by omega) hvX (by omega) (by omega) (by omega) (by omega) 0 1
                  have hAp := symF_perm (lt := ltO ls) (f := f) (a := a) (m := i) (b := d) (xs := X) (by omega) (by omega) (by omega)
                  have hAl := hAp.length_eq
                  have hvA := hvX.perm hAp
                  have hi2 : (decide (a < i) && decide (i < d)) = true := by simp; omega
                  rw [if_pos hi2] at hQ
                  generalize hY : symF (ltO ls) f a i d X = Y at *
                  have hi3 : ¬ (decide (d < e) && decide (e < b)) = true := by simp; omega
                  rw [if_neg hi3] at hQ
                  rw [hXl] at hA
                  subst hQ
                  ((repeat' (first
    | (show SQ _ _ _ _ _ _ _ _; first | apply sq_nil | (apply q_move; exact rfl; exact rfl) | (apply q_assign; exact rfl; exact rfl) | (apply q_pick_t; exact rfl; exact rfl; exact rfl; exact (by first | assumption | exact rfl)) | (apply q_pick_f; exact rfl; exact rfl; exact rfl; exact (by first | assumption | exact rfl)) | (apply q_sub; exact rfl; exact rfl; exact rfl) | (apply q_lss; exact rfl; exact rfl; exact rfl) | (apply q_g; exact rfl; exact rfl; exact rfl; exact (by assumption)) | (apply q_s; exact rfl; exact rfl; exact rfl; exact (by assumption); exact rfl))
    | (show SQ _ _ _ _ _ _ _ _; (first | (apply q_callC; exact rfl; exact rfl; exact rfl; exact hA; (focus ((repeat (first | exact trivial | refine ⟨by first | exact rfl | assumption, ?_⟩)); done)); skip)); (try simp only [put, rowsOf, plR, List.all_cons, selE, ovr, setH, del, cellsA, splice, isV, List.nil_append, List.cons_append, List.map_cons, List.map_nil, List.length_cons, List.length_nil, List.set_cons_zero, List.set_cons_succ, List.take_succ_cons, List.take_zero, List.take_nil, List.drop_succ_cons, List.drop_zero, List.drop_nil, List.append_nil, List.all_cons, List.all_nil, Bool.and_true, Bool.true_and, Bool.and_false, Bool.false_and, Nat.reduceAdd, Nat.zero_add, Nat.add_zero, Nat.reduceEqDiff, if_true, if_false, reduceIte]))
    | (show AW _ _ _ _ _ _ _ _; first | refine aw_region ?_ | (refine aw_seqk ?_; intro K hK) | (apply aw_cond_f; exact rfl; exact rfl) | (apply aw_cond_t; exact rfl; exact (by assumption)) | (apply aw_cond_f; exact rfl; exact (by assumption)) | refine aw_exit ?_ | refine aw_skip ?_)
    | refine thn_n ?_
    | (refine hK _ _ _ ?_; clear hK K)
    | refine thn_e ?_
    | refine inb_same ?_
    | (clear hK K; refine hK _ _ _ ?_; clear hK K))); all_goals (repeat (clear hK K)))
                  all_goals exact finc_n (fun z => z) .r0 (by simp only [renA, renL]) (fun _ _ => rfl) ⟨rfl, trivial⟩ rfl
              · have g1 : decide ((i : Int) < (d : Int)) = false := by simpa using y1
                by_cases x2 : d < e
                · have f2 : decide ((d : Int) < (e : Int)) = true := by simpa using x2
                  rw [← hwe] at f2
                  by_cases y2 : e < b
                  · have g2 : decide ((e : Int) < (b : Int)) = true := by simpa using y2
                    rw [← hwe] at g2
                    have hXl := hX.length_eq
                    rw [if_neg (by simp; omega)] at hXd
                    subst hXd
                    have hvX := hv.perm hX
                    have hi2 : ¬ (decide (a < i) && decide (i < d)) = true := by simp; omega
                    rw [if_neg hi2] at hQ
                    have hB := hI X d e b (by omega) hvX (by omega) (by omega) (by omega) (by omega) 0 1
                    have hi3 : (decide (d < e) && decide (e < b)) = true := by simp; omega
                    rw [if_pos hi3] at hQ
                    rw [hXl, hQ, ← hwe] at hB
                    ((repeat' (first
    | (show SQ _ _ _ _ _ _ _ _; first | apply sq_nil | (apply q_move; exact rfl; exact rfl) | (apply q_assign; exact rfl; exact rfl) | (apply q_pick_t; exact rfl; exact rfl; exact rfl; exact (by first | assumption | exact rfl)) | (apply q_sub; exact rfl; exact rfl; exact rfl) | (apply q_lss; exact rfl; exact rfl; exact rfl) | (apply q_g; exact rfl; exact rfl; exact rfl; exact (by assumption)))
    | (show SQ _ _ _ _ _ _ _ _; (first | (apply q_callC; exact rfl; exact rfl; exact rfl; exact hB; (focus ((repeat (first | exact trivial | refine ⟨by first | exact rfl | assumption, ?_⟩)); done)); skip)); (try simp only [put, rowsOf, plR, List.all_cons, selE, ovr, setH, del, cellsA, splice, isV, List.nil_append, List.cons_append, List.map_cons, List.map_nil, List.length_cons, List.length_nil, List.set_cons_zero, List.set_cons_succ, List.take_succ_cons, List.take_zero, List.take_nil, List.drop_succ_cons, List.drop_zero, List.drop_nil, List.append_nil, List.all_cons, List.all_nil, Bool.and_true, Bool.true_and, Bool.and_false, Bool.false_and, Nat.reduceAdd, Nat.zero_add, Nat.add_zero, Nat.reduceEqDiff, if_true, if_false, reduceIte]))
    | (show AW _ _ _ _ _ _ _ _; first | refine aw_region ?_ | (refine aw_seqk ?_; intro K hK) | (apply aw_cond_t; exact rfl; exact (by assumption)) | (apply aw_cond_f; exact rfl; exact (by assumption)) | refine aw_exit ?_ | refine aw_skip ?_)
    | refine thn_n ?_
    | (refine hK _ _ _ ?_; clear hK K)
    | refine thn_e ?_
    | refine inb_same ?_
    | (clear hK K; refine hK _ _ _ ?_; clear hK K))); all_goals (repeat (clear hK K)))
                    all_goals exact finc_n (fun z => z) .r0 (by simp only [renA, renL]) (fun _ _ => rfl) ⟨rfl, trivial⟩ rfl
                  · have g2 : decide ((e : Int) < (b : Int)) = false := by simpa using y2
                    rw [← hwe] at g2
                    have hXl := hX.length_eq
                    rw [if_neg (by simp; omega)] at hXd
                    subst hXd
                    have hvX := hv.perm hX
                    have hi2 : ¬ (decide (a < i) && decide (i < d)) = true := by simp; omega
                    rw [if_neg hi2] at hQ
                    have hi3 : ¬ (decide (d < e) && decide (e < b)) = true := by simp; omega
                    rw [if_neg hi3] at hQ
                    subst hQ
                    ((repeat' (first
    | (show SQ _ _ _ _ _ _ _ _; first | apply sq_nil | (apply q_move; exact rfl; exact rfl) | (apply q_assign; exact rfl; exact rfl) | (apply q_pick_t; exact rfl; exact rfl; exact rfl; exact (by first | assumption | exact rfl)) | (apply q_sub; exact rfl; exact rfl; exact rfl) | (apply q_lss; exact rfl; exact rfl; exact rfl) | (apply q_g; exact rfl; exact rfl; exact rfl; exact (by assumption)))
    | (show AW _ _ _ _ _ _ _ _; first | refine aw_region ?_ | (refine aw_seqk ?_; intro K hK) | (apply aw_cond_f; exact rfl; exact (by assumption)) | refine aw_exit ?_ | refine aw_skip ?_)
    | refine thn_n ?_
    | (refine hK _ _ _ ?_; clear hK K)
    | refine thn_e ?_
    | refine inb_same ?_
    | (clear hK K; refine hK _ _ _ ?_; clear hK K))); all_goals (repeat (clear hK K)))
                    all_goals exact finc_n (fun z => z) .r0 (by simp only [renA, renL]) (fun _ _ => rfl) ⟨rfl, trivial⟩ rfl
                · have f2 : decide ((d : Int) < (e : Int)) = false := by simpa using x2
                  rw [← hwe] at f2
                  have hXl := hX.length_eq
                  rw [if_neg (by simp; omega)] at hXd
                  subst hXd
                  have hvX := hv.perm hX
                  have hi2 : ¬ (decide (a < i) && decide (i < d)) = true := by simp; omega
                  rw [if_neg hi2] at hQ
                  have hi3 : ¬ (decide (d < e) && decide (e < b)) = true := by simp; omega
                  rw [if_neg hi3] at hQ
                  subst hQ
                  ((repeat' (first
    | (show SQ _ _ _ _ _ _ _ _; first | apply sq_nil | (apply q_move; exact rfl; exact rfl) | (apply q_assign; exact rfl; exact rfl) | (apply q_pick_t; exact rfl; exact rfl; exact rfl; exact (by first | assumption | exact rfl)) | (apply q_pick_f; exact rfl; exact rfl; exact rfl; exact (by first | assumption | exact rfl)) | (apply q_sub; exact rfl; exact rfl; exact rfl) | (apply q_lss; exact rfl; exact rfl; exact rfl) | (apply q_g; exact rfl; exact rfl; exact rfl; exact (by assumption)) | (apply q_s; exact rfl; exact rfl; exact rfl; exact (by assumption); exact rfl))
    | (show AW _ _ _ _ _ _ _ _; first | refine aw_region ?_ | (refine aw_seqk ?_; intro K hK) | (apply aw_cond_f; exact rfl; exact rfl) | (apply aw_cond_f; exact rfl; exact (by assumption)) | refine aw_exit ?_ | refine aw_skip ?_)
    | refine thn_n ?_
    | (refine hK _ _ _ ?_; clear hK K)
    | refine thn_e ?_
    | refine inb_same ?_
    | (clear hK K; refine hK _ _ _ ?_; clear hK K))); all_goals (repeat (clear hK K)))
                  all_goals exact finc_n (fun z => z) .r0 (by simp only [renA, renL]) (fun _ _ => rfl) ⟨rfl, trivial⟩ rfl
            · have f1 : decide ((a : Int) < (i : Int)) = false := by simpa using x1
              by_cases x2 : d < e
              · have f2 : decide ((d : Int) < (e : Int)) = true := by simpa using x2
                rw [← hwe] at f2
                by_cases y2 : e < b
                · have g2 : decide ((e : Int) < (b : Int)) = true := by simpa using y2
                  rw [← hwe] at g2
                  have hXl := hX.length_eq
                  rw [if_neg (by simp; omega)] at hXd
                  subst hXd
                  have hvX := hv.perm hX
                  have hi2 : ¬ (decide (a < i) && decide (i < d)) = true := by simp; omega
                  rw [if_neg hi2] at hQ
                  have hB := hI X d e b (by omega) hvX (by omega) (by omega) (by omega) (by omega) 0 1
                  have hi3 : (decide (d < e) && decide (e < b)) = true := by simp; omega
                  rw [if_pos hi3] at hQ
                  rw [hXl, hQ, ← hwe] at hB
                  ((repeat' (first
    | (show SQ _ _ _ _ _ _ _ _; first | apply sq_nil | (apply q_move; exact rfl; exact rfl) | (apply q_assign; exact rfl; exact rfl) | (apply q_pick_t; exact rfl; exact rfl; exact rfl; exact (by first | assumption | exact rfl)) | (apply q_pick_f; exact rfl; exact rfl; exact rfl; exact (by first | assumption | exact rfl)) | (apply q_sub; exact rfl; exact rfl; exact rfl) | (apply q_lss; exact rfl; exact rfl; exact rfl) | (apply q_g; exact rfl; exact rfl; exact rfl; exact (by assumption)) | (apply q_s; exact rfl; exact rfl; exact rfl; exact (by assumption); exact rfl))
    | (show SQ _ _ _ _ _ _ _ _; (first | (apply q_callC; exact rfl; exact rfl; exact rfl; exact hB; (focus ((repeat (first | exact trivial | refine ⟨by first | exact rfl | assumption, ?_⟩)); done)); skip)); (try simp only [put, rowsOf, plR, List.all_cons, selE, ovr, setH, del, cellsA, splice, isV, List.nil_append, List.cons_append, List.map_cons, List.map_nil, List.length_cons, List.length_nil, List.set_cons_zero, List.set_cons_succ, List.take_succ_cons, List.take_zero, List.take_nil, List.drop_succ_cons, List.drop_zero, List.drop_nil, List.append_nil, List.all_cons, List.all_nil, Bool.and_true, Bool.true_and, Bool.and_false, Bool.false_and, Nat.reduceAdd, Nat.zero_add, Nat.add_zero, Nat.reduceEqDiff, if_true, if_false, reduceIte]))
    | (show AW _ _ _ _ _ _ _ _; first | refine aw_region ?_ | (refine aw_seqk ?_; intro K hK) | (apply aw_cond_f; exact rfl; exact rfl) | (apply aw_cond_t; exact rfl; exact (by assumption)) | (apply aw_cond_f; exact rfl; exact (by assumption)) | refine aw_exit ?_ | refine aw_skip ?_)
    | refine thn_n ?_
    | (refine hK _ _ _ ?_; clear hK K)
    | refine thn_e ?_
    | refine inb_same ?_
    | (clear hK K; refine hK _ _ _ ?_; clear hK K))); all_goals (repeat (clear hK K)))
                  all_goals exact finc_n (fun z => z) .r0 (by simp only [renA, renL]) (fun _ _ => rfl) ⟨rfl, trivial⟩ rfl
                · have g2 : decide ((e : Int) < (b : Int)) = false := by simpa using y2
                  rw [← hwe] at g2
                  have hXl := hX.length_eq
                  rw [if_neg (by simp; omega)] at hXd
                  subst hXd
                  have hvX := hv.perm hX
                  have hi2 : ¬ (decide (a < i) && decide (i < d)) = true := by simp; omega
                  rw [if_neg hi2] at hQ
                  have hi3 : ¬ (decide (d < e) && decide (e < b)) = true := by simp; omega
                  rw [if_neg hi3] at hQ
                  subst hQ
                  ((repeat' (first
    | (show SQ _ _ _ _ _ _ _ _; first | apply sq_nil | (apply q_move; exact rfl; exact rfl) | (apply q_assign; exact rfl; exact rfl) | (apply q_pick_t; exact rfl; exact rfl; exact rfl; exact (by first | assumption | exact rfl)) | (apply q_pick_f; exact rfl; exact rfl; exact rfl; exact (by first | assumption | exact rfl)) | (apply q_sub; exact rfl; exact rfl; exact rfl) | (apply q_lss; exact rfl; exact rfl; exact rfl) | (apply q_g; exact rfl; exact rfl; exact rfl; exact (by assumption)) | (apply q_s; exact rfl; exact rfl; exact rfl; exact (by assumption); exact rfl))
    | (show AW _ _ _ _ _ _ _ _; first | refine aw_region ?_ | (refine aw_seqk ?_; intro K hK) | (apply aw_cond_f; exact rfl; exact rfl) | (apply aw_cond_f; exact rfl; exact (by assumption)) | refine aw_exit ?_ | refine aw_skip ?_)
    | refine thn_n ?_
    | (refine hK _ _ _ ?_; clear hK K)
    | refine thn_e ?_
    | refine inb_same ?_
    | (clear hK K; refine hK _ _ _ ?_; clear hK K))); all_goals (repeat (clear hK K)))
                  all_goals exact finc_n (fun z => z) .r0 (by simp only [renA, renL]) (fun _ _ => rfl) ⟨rfl, trivial⟩ rfl
              · have f2 : decide ((d : Int) < (e : Int)) = false := by simpa using x2
                rw [← hwe] at f2
                have hXl := hX.length_eq
                rw [if_neg (by simp; omega)] at hXd
                subst hXd
                have hvX := hv.perm hX
                have hi2 : ¬ (decide (a < i) && decide (i < d)) = true := by simp; omega
                rw [if_neg hi2] at hQ
                have hi3 : ¬ (decide (d < e) && decide (e < b)) = true := by simp; omega
                rw [if_neg hi3] at hQ
                subst hQ
                ((repeat' (first
    | (show SQ _ _ _ _ _ _ _ _; first | apply sq_nil | (apply q_move; exact rfl; exact rfl) | (apply q_assign; exact rfl; exact rfl) | (apply q_pick_t; exact rfl; exact rfl; exact rfl; exact (by first | assumption | exact rfl)) | (apply q_pick_f; exact rfl; exact rfl; exact rfl; exact (by first | assumption | exact rfl)) | (apply q_sub; exact rfl; exact rfl; exact rfl) | (apply q_lss; exact rfl; exact rfl; exact rfl) | (apply q_g; exact rfl; exact rfl; exact rfl; exact (by assumption)) | (apply q_s; exact rfl; exact rfl; exact rfl; exact (by assumption); exact rfl))
    | (show AW _ _ _ _ _ _ _ _; first | refine aw_region ?_ | (refine aw_seqk ?_; intro K hK) | (apply aw_cond_f; exact rfl; exact rfl) | (apply aw_cond_f; exact rfl; exact (by assumption)) | refine aw_exit ?_ | refine aw_skip ?_)
    | refine thn_n ?_
    | (refine hK _ _ _ ?_; clear hK K)
    | refine thn_e ?_
    | refine inb_same ?_
    | (clear hK K; refine hK _ _ _ ?_; clear hK K))); all_goals (repeat (clear hK K)))
                all_goals exact finc_n (fun z => z) .r0 (by simp only [renA, renL]) (fun _ _ => rfl) ⟨rfl, trivial⟩ rfl
        · have f0 : decide ((i : Int) < (m : Int)) = false := by simpa using x0
          by_cases x1 : a < i
          · have f1 : decide ((a : Int) < (i : Int)) = true := by simpa using x1
            by_cases y1 : i < d
            · have g1 : decide ((i : Int) < (d : Int)) = true := by simpa using y1
              by_cases x2 : d < e
              · have f2 : decide ((d : Int) < (e : Int)) = true := by simpa using x2
                rw [← hwe] at f2
                by_cases y2 : e < b
                · have g2 : decide ((e : Int) < (b : Int)) = true := by simpa using y2
                  rw [← hwe] at g2
                  have hXl := hX.length_eq
                  rw [if_neg (by simp; omega)] at hXd
                  subst hXd
                  have hvX := hv.perm hX
                  have hA := hI X a i d (by omega) hvX (by omega) (by omega) (by omega) (by omega) 0 1
                  have hAp := symF_perm (lt := ltO ls) (f := f) (a := a) (m := i) (b := d) (xs := X) (by omega) (by omega) (by omega)
                  have hAl := hAp.length_eq
                  have hvA := hvX.perm hAp
                  have hi2 : (decide (a < i) && decide (i < d)) = true := by simp; omega
                  rw [if_pos hi2] at hQ
                  generalize hY : symF (ltO ls) f a i d X = Y at *
                  have hB := hI Y d e b (by omega) hvA (by omega) (by omega) (by omega) (by omega) 0 1
                  have hi3 : (decide (d < e) && decide (e < b)) = true := by simp; omega
                  rw [if_pos hi3] at hQ
                  rw [hXl] at hA
                  rw [hAl, hXl, hQ, ← hwe] at hB
                  ((repeat' (first
    | (show SQ _ _ _ _ _ _ _ _; first | apply sq_nil | (apply q_move; exact rfl; exact rfl) | (apply q_assign; exact rfl; exact rfl) | (apply q_pick_t; exact rfl; exact rfl; exact rfl; exact (by first | assumption | exact rfl)) | (apply q_pick_f; exact rfl; exact rfl; exact rfl; exact (by first | assumption | exact rfl)) | (apply q_sub; exact rfl; exact rfl; exact rfl) | (apply q_lss; exact rfl; exact rfl; exact rfl) | (apply q_g; exact rfl; exact rfl; exact rfl; exact (by assumption)) | (apply q_s; exact rfl; exact rfl; exact rfl; exact (by assumption); exact rfl))
    | (show SQ _ _ _ _ _ _ _ _; (first | (apply q_callC; exact rfl; exact rfl; exact rfl; exact hA; (focus ((repeat (first | exact trivial | refine ⟨by first | exact rfl | assumption, ?_⟩)); done)); skip) | (apply q_callC; exact rfl; exact rfl; exact rfl; exact hB; (focus ((repeat (first | exact trivial | refine ⟨by first | exact rfl | assumption, ?_⟩)); done)); skip)); (try simp only [put, rowsOf, plR, List.all_cons, selE, ovr, setH, del, cellsA, splice, isV, List.nil_append, List.cons_append, List.map_cons, List.map_nil, List.length_cons, List.length_nil, List.set_cons_zero, List.set_cons_succ, List.take_succ_cons, List.take_zero, List.take_nil, List.drop_succ_cons, List.drop_zero, List.drop_nil, List.append_nil, List.all_cons, List.all_nil, Bool.and_true, Bool.true_and, Bool.and_false, Bool.false_and, Nat.reduceAdd, Nat.zero_add, Nat.add_zero, Nat.reduceEqDiff, if_true, if_false, reduceIte]))
    | (show AW _ _ _ _ _ _ _ _; first | refine aw_region ?_ | (refine aw_seqk ?_; intro K hK) | (apply aw_cond_f; exact rfl; exact rfl) | (apply aw_cond_t; exact rfl; exact (by assumption)) | (apply aw_cond_f; exact rfl; exact (by assumption)) | refine aw_exit ?_ | refine aw_skip ?_)
    | refine thn_n ?_
    | (refine hK _ _ _ ?_; clear hK K)
    | refine thn_e ?_
    | refine inb_same ?_
    | (clear hK K; refine hK _ _ _ ?_; clear hK K))); all_goals (repeat (clear hK K)))
                  all_goals exact finc_n (fun z => z) .r0 (by simp only [renA, renL]) (fun _ _ => rfl) ⟨rfl, trivial⟩ rfl
                · have g2 : decide ((e : Int) < (b : Int)) = false := by simpa using y2
                  rw [← hwe] at g2
                  have hXl := hX.length_eq
                  rw [if_neg (by simp; omega)] at hXd
                  subst hXd
                  have hvX := hv.perm hX
                  have hA := hI X a i d (by omega) hvX (by omega) (by omega) (by omega) (by omega) 0 1
                  have hAp := symF_perm (lt := ltO ls) (f := f) (a := a) (m := i) (b := d) (xs := X) (by omega) (by omega) (by omega)
                  have hAl := hAp.length_eq
                  have hvA := hvX.perm hAp
                  have hi2 : (decide (a < i) && decide (i < d)) = true := by simp; omega
                  rw [if_pos hi2] at hQ
                  generalize hY : symF (ltO ls) f a i d X = Y at *
                  have hi3 : ¬ (decide (d < e) && decide (e < b)) = true := by simp; omega
                  rw [if_neg hi3] at hQ
                  rw [hXl] at hA
                  subst hQ
                  ((repeat' (first
    | (show SQ _ _ _ _ _ _ _ _; first | apply sq_nil | (apply q_move; exact rfl; exact rfl) | (apply q_assign; exact rfl; exact rfl) | (apply q_pick_t; exact rfl; exact rfl; exact rfl; exact (by first | assumption | exact rfl)) | (apply q_pick_f; exact rfl; exact rfl; exact rfl; exact (by first | assumption | exact rfl)) | (apply q_sub; exact rfl; exact rfl; exact rfl) | (apply q_lss; exact rfl; exact rfl; exact rfl) | (apply q_g; exact rfl; exact rfl; exact rfl; exact (by assumption)) | (apply q_s; exact rfl; exact rfl; exact rfl; exact (by assumption); exact rfl))
    | (show SQ _ _ _ _ _ _ _ _; (first | (apply q_callC; exact rfl; exact rfl; exact rfl; exact hA; (focus ((repeat (first | exact trivial | refine ⟨by first | exact rfl | assumption, ?_⟩)); done)); skip)); (try simp only [put, rowsOf, plR, List.all_cons, selE, ovr, setH, del, cellsA, splice, isV, List.nil_append, List.cons_append, List.map_cons, List.map_nil, List.length_cons, List.length_nil, List.set_cons_zero, List.set_cons_succ, List.take_succ_cons, List.take_zero, List.take_nil, List.drop_succ_cons, List.drop_zero, List.drop_nil, List.append_nil, List.all_cons, List.all_nil, Bool.and_true, Bool.true_and, Bool.and_false, Bool.false_and, Nat.reduceAdd, Nat.zero_add, Nat.add_zero, Nat.reduceEqDiff, if_true, if_false, reduceIte]))
    | (show AW _ _ _ _ _ _ _ _; first | refine aw_region ?_ | (refine aw_seqk ?_; intro K hK) | (apply aw_cond_f; exact rfl; exact rfl) | (apply aw_cond_t; exact rfl; exact (by assumption)) | (apply aw_cond_f; exact rfl; exact (by assumption)) | refine aw_exit ?_ | refine aw_skip ?_)
    | refine thn_n ?_
    | (refine hK _ _ _ ?_; clear hK K)
    | refine thn_e ?_
    | refine inb_same ?_
    | (clear hK K; refine hK _ _ _ ?_; clear hK K))); all_goals (repeat (clear hK K)))
                  all_goals exact finc_n (fun z => z) .r0 (by simp only [renA, renL]) (fun _ _ => rfl) ⟨rfl, trivial⟩ rfl
              · have f2 : decide ((d : Int) < (e : Int)) = false := by simpa using x2
                rw [← hwe] at f2
                have hXl := hX.length_eq
                rw [if_neg (by simp; omega)] at hXd
                subst hXd
                have hvX := hv.perm hX
                have hA := hI X a i d (by omega) hvX (by omega) (by omega) (by omega) (by omega) 0 1
                have hAp := symF_perm (lt := ltO ls) (f := f) (a := a) (m := i) (b := d) (xs := X) (by omega) (by omega) (by omega)
                have hAl := hAp.length_eq
                have hvA := hvX.perm hAp
                have hi2 : (decide (a < i) && decide (i < d)) = true := by simp; omega
                rw [if_pos hi2] at hQ
                generalize hY : symF (ltO ls) f a i d X = Y at *
                have hi3 : ¬ (decide (d < e) && decide (e < b)) = true := by simp; omega
                rw [if_neg hi3] at hQ
                rw [hXl] at hA
                subst hQ
                ((repeat' (first
    | (show SQ _ _ _ _ _ _ _ _; first | apply sq_nil | (apply q_move; exact rfl; exact rfl) | (apply q_assign; exact rfl; exact rfl) | (apply q_pick_t; exact rfl; exact rfl; exact rfl; exact (by first | assumption | exact rfl)) | (apply q_pick_f; exact rfl; exact rfl; exact rfl; exact (by first | assumption | exact rfl)) | (apply q_sub; exact rfl; exact rfl; exact rfl) | (apply q_lss; exact rfl; exact rfl; exact rfl) | (apply q_g; exact rfl; exact rfl; exact rfl; exact (by assumption)) | (apply q_s; exact rfl; exact rfl; exact rfl; exact (by assumption); exact rfl))
    | (show SQ _ _ _ _ _ _ _ _; (first | (apply q_callC; exact rfl; exact rfl; exact rfl; exact hA; (focus ((repeat (first | exact trivial | refine ⟨by first | exact rfl | assumption, ?_⟩)); done)); skip)); (try simp only [put, rowsOf, plR, List.all_cons, selE, ovr, setH, del, cellsA, splice, isV, List.nil_append, List.cons_append, List.map_cons, List.map_nil, List.length_cons, List.length_nil, List.set_cons_zero, List.set_cons_succ, List.take_succ_cons, List.take_zero, List.take_nil, List.drop_succ_cons, List.drop_zero, List.drop_nil, List.append_nil, List.all_cons, List.all_nil, Bool.and_true, Bool.true_and, Bool.and_false, Bool.false_and, Nat.reduceAdd, Nat.zero_add, Nat.add_zero, Nat.reduceEqDiff, if_true, if_false, reduceIte]))
    | (show AW _ _ _ _ _ _ _ _; first | refine aw_region ?_ | (refine aw_seqk ?_; intro K hK) | (apply aw_cond_f; exact rfl; exact rfl) | (apply aw_cond_t; exact rfl; exact (by assumption)) | (apply aw_cond_f; exact rfl; exact (by assumption)) | refine aw_exit ?_ | refine aw_skip ?_)
    | refine thn_n ?_
    | (refine hK _ _ _ ?_; clear hK K)
    | refine thn_e ?_
    | refine inb_same ?_
    | (clear hK K; refine hK _ _ _ ?_; clear hK K))); all_goals (repeat (clear hK K)))
                all_goals exact finc_n (fun z => z) .r0 (by simp only [renA, renL]) (fun _ _ => rfl) ⟨rfl, trivial⟩ rfl
            · have g1 : decide ((i : Int) < (d : Int)) = false := by simpa using y1
              by_cases x2 : d < e
              · have f2 : decide ((d : Int) < (e : Int)) = true := by simpa using x2
                rw [← hwe] at f2
                by_cases y2 : e < b
                · have g2 : decide ((e : Int) < (b : Int)) = true := by simpa using y2
                  rw [← hwe] at g2
                  have hXl := hX.length_eq
                  rw [if_neg (by simp; omega)] at hXd
                  subst hXd
                  have hvX := hv.perm hX
                  have hi2 : ¬ (decide (a < i) && decide (i < d)) = true := by simp; omega
                  rw [if_neg hi2] at hQ
                  have hB := hI X d e b (by omega) hvX (by omega) (by omega) (by omega) (by omega) 0 1
                  have hi3 : (decide (d < e) && decide (e < b)) = true := by simp; omega
                  rw [if_pos hi3] at hQ
                  rw [hXl, hQ, ← hwe] at hB
                  ((repeat' (first
    | (show SQ _ _ _ _ _ _ _ _; first | apply sq_nil | (apply q_move; exact rfl; exact rfl) | (apply q_assign; exact rfl; exact rfl) | (apply q_pick_t; exact rfl; exact rfl; exact rfl; exact (by first | assumption | exact rfl)) | (apply q_pick_f; exact rfl; exact rfl; exact rfl; exact (by first | assumption | exact rfl)) | (apply q_sub; exact rfl; exact rfl; exact rfl) | (apply q_lss; exact rfl; exact rfl; exact rfl) | (apply q_g; exact rfl; exact rfl; exact rfl; exact (by assumption)) | (apply q_s; exact rfl; exact rfl; exact rfl; exact (by assumption); exact rfl))
    | (show SQ _ _ _ _ _ _ _ _; (first | (apply q_callC; exact rfl; exact rfl; exact rfl; exact hB; (focus ((repeat (first | exact trivial | refine ⟨by first | exact rfl | assumption, ?_⟩)); done)); skip)); (try simp only [put, rowsOf, plR, List.all_cons, selE, ovr, setH, del, cellsA, splice, isV, List.nil_append, List.cons_append, List.map_cons, List.map_nil, List.length_cons, List.length_nil, List.set_cons_zero, List.set_cons_succ, List.take_succ_cons, List.take_zero, List.take_nil, List.drop_succ_cons, List.drop_zero, List.drop_nil, List.append_nil, List.all_cons, List.all_nil, Bool.and_true, Bool.true_and, Bool.and_false, Bool.false_and, Nat.reduceAdd, Nat.zero_add, Nat.add_zero, Nat.reduceEqDiff, if_true, if_false, reduceIte]))
    | (show AW _ _ _ _ _ _ _ _; first | refine aw_region ?_ | (refine aw_seqk ?_; intro K hK) | (apply aw_cond_f; exact rfl; exact rfl) | (apply aw_cond_t; exact rfl; exact (by assumption)) | (apply aw_cond_f; exact rfl; exact (by assumption)) | refine aw_exit ?_ | refine aw_skip ?_)
    | refine thn_n ?_
    | (refine hK _ _ _ ?_; clear hK K)
    | refine thn_e ?_
    | refine inb_same ?_
    | (clear hK K; refine hK _ _ _ ?_; clear hK K))); all_goals (repeat (clear hK K)))
                  all_goals exact finc_n (fun z => z) .r0 (by simp only [renA, renL]) (fun _ _ => rfl) ⟨rfl, trivial⟩ rfl
                · have g2 : decide ((e : Int) < (b : Int)) = false := by simpa using y2
                  rw [← hwe] at g2
                  have hXl := hX.length_eq
                  rw [if_neg (by simp; omega)] at hXd
                  subst hXd
                  have hvX := hv.perm hX
                  have hi2 : ¬ (decide (a < i) && decide (i < d)) = true := by simp; omega
                  rw [if_neg hi2] at hQ
                  have hi3 : ¬ (decide (d < e) && decide (e < b)) = true := by simp; omega
                  rw [if_neg hi3] at hQ
                  subst hQ
                  ((repeat' (first
    | (show SQ _ _ _ _ _ _ _ _; first | apply sq_nil | (apply q_move; exact rfl; exact rfl) | (apply q_assign; exact rfl; exact rfl) | (apply q_pick_t; exact rfl; exact rfl; exact rfl; exact (by first | assumption | exact rfl)) | (apply q_pick_f; exact rfl; exact rfl; exact rfl; exact (by first | assumption | exact rfl)) | (apply q_sub; exact rfl; exact rfl; exact rfl) | (apply q_lss; exact rfl; exact rfl; exact rfl) | (apply q_g; exact rfl; exact rfl; exact rfl; exact (by assumption)) | (apply q_s; exact rfl; exact rfl; exact rfl; exact (by assumption); exact rfl))
    | (show AW _ _ _ _ _ _ _ _; first | refine aw_region ?_ | (refine aw_seqk ?_; intro K hK) | (apply aw_cond_f; exact rfl; exact rfl) | (apply aw_cond_f; exact rfl; exact (by assumption)) | refine aw_exit ?_ | refine aw_skip ?_)
    | refine thn_n ?_
    | (refine hK _ _ _ ?_; clear hK K)
    | refine thn_e ?_
    | refine inb_same ?_
    | (clear hK K; refine hK _ _ _ ?_; clear hK K))); all_goals (repeat (clear hK K)))
                  all_goals exact finc_n (fun z => z) .r0 (by simp only [renA, renL]) (fun _ _ => rfl) ⟨rfl, trivial⟩ rfl
              · have f2 : decide ((d : Int) < (e : Int)) = false := by simpa using x2
                rw [← hwe] at f2
                have hXl := hX.length_eq
                rw [if_neg (by simp; omega)] at hXd
                subst hXd
                have hvX := hv.perm hX
                have hi2 : ¬ (decide (a < i) && decide (i < d)) = true := by simp; omega
                rw [if_neg hi2] at hQ
                have hi3 : ¬ (decide (d < e) && decide (e < b)) = true := by simp; omega
                rw [if_neg hi3] at hQ
                subst hQ
                ((repeat' (first
    | (show SQ _ _ _ _ _ _ _ _; first | apply sq_nil | (apply q_move; exact rfl; exact rfl) | (apply q_assign; exact rfl; exact rfl) | (apply q_pick_t; exact rfl; exact rfl; exact rfl; exact (by first | assumption | exact rfl)) | (apply q_pick_f; exact rfl; exact rfl; exact rfl; exact (by first | assumption | exact rfl)) | (apply q_sub; exact rfl; exact rfl; exact rfl) | (apply q_lss; exact rfl; exact rfl; exact rfl) | (apply q_g; exact rfl; exact rfl; exact rfl; exact (by assumption)) | (apply q_s; exact rfl; exact rfl; exact rfl; exact (by assumption); exact rfl))
    | (show AW _ _ _ _ _ _ _ _; first | refine aw_region ?_ | (refine aw_seqk ?_; intro K hK) | (apply aw_cond_f; exact rfl; exact rfl) | (apply aw_cond_f; exact rfl; exact (by assumption)) | refine aw_exit ?_ | refine aw_skip ?_)
    | refine thn_n ?_
    | (refine hK _ _ _ ?_; clear hK K)
    | refine thn_e ?_
    | refine inb_same ?_
    | (clear hK K; refine hK _ _ _ ?_; clear hK K))); all_goals (repeat (clear hK K)))
                all_goals exact finc_n (fun z => z) .r0 (by simp only [renA, renL]) (fun _ _ => rfl) ⟨rfl, trivial⟩ rfl
          · have f1 : decide ((a : Int) < (i : Int)) = false := by simpa using x1
            by_cases x2 : d < e
            · have f2 : decide ((d : Int) < (e : Int)) = true := by simpa using x2
              rw [← hwe] at f2
              by_cases y2 : e < b
              · have g2 : decide ((e : Int) < (b : Int)) = true := by simpa using y2
                rw [← hwe] at g2
                have hXl := hX.length_eq
                rw [if_neg (by simp; omega)] at hXd
                subst hXd
                have hvX := hv.perm hX
                have hi2 : ¬ (decide (a < i) && decide (i < d)) = true := by simp; omega
                rw [if_neg hi2] at hQ
                have hB := hI X d e b (by omega) hvX (by omega) (by omega) (by omega) (by omega) 0 1
                have hi3 : (decide (d < e) && decide (e < b)) = true := by simp; omega
                rw [if_pos hi3] at hQ
                rw [hXl, hQ, ← hwe] at hB
                ((repeat' (first
    | (show SQ _ _ _ _ _ _ _ _; first | apply sq_nil | (apply q_move; exact rfl; exact rfl) | (apply q_assign; exact rfl; exact rfl) | (apply q_pick_t; exact rfl; exact rfl; exact rfl; exact (by first | assumption | exact rfl)) | (apply q_pick_f; exact rfl; exact rfl; exact rfl; exact (by first | assumption | exact rfl)) | (apply q_sub; exact rfl; exact rfl; exact rfl) | (apply q_lss; exact rfl; exact rfl; exact rfl) | (apply q_g; exact rfl; exact rfl; exact rfl; exact (by assumption)) | (apply q_s; exact rfl; exact rfl; exact rfl; exact (by assumption); exact rfl))
    | (show SQ _ _ _ _ _ _ _ _; (first | (apply q_callC; exact rfl; exact rfl; exact rfl; exact hB; (focus ((repeat (first | exact trivial | refine ⟨by first | exact rfl | assumption, ?_⟩)); done)); skip)); (try simp only [put, rowsOf, plR, List.all_cons, selE, ovr, setH, del, cellsA, splice, isV, List.nil_append, List.cons_append, List.map_cons, List.map_nil, List.length_cons, List.length_nil, List.set_cons_zero, List.set_cons_succ, List.take_succ_cons, List.take_zero, List.take_nil, List.drop_succ_cons, List.drop_zero, List.drop_nil, List.append_nil, List.all_cons, List.all_nil, Bool.and_true, Bool.true_and, Bool.and_false, Bool.false_and, Nat.reduceAdd, Nat.zero_add, Nat.add_zero, Nat.reduceEqDiff, if_true, if_false, reduceIte]))
    | (show AW _ _ _ _ _ _ _ _; first | refine aw_region ?_ | (refine aw_seqk ?_; intro K hK) | (apply aw_cond_f; exact rfl; exact rfl) | (apply aw_cond_t; exact rfl; exact (by assumption)) | (apply aw_cond_f; exact rfl; exact (by assumption)) | refine aw_exit ?_ | refine aw_skip ?_)
    | refine thn_n ?_
    | (refine hK _ _ _ ?_; clear hK K)
    | refine thn_e ?_
    | refine inb_same ?_
    | (clear hK K; refine hK _ _ _ ?_; clear hK K))); all_goals (repeat (clear hK K)))
                all_goals exact finc_n (fun z => z) .r0 (by simp only [renA, renL]) (fun _ _ => rfl) ⟨rfl, trivial⟩ rfl
              · have g2 : decide ((e : Int) < (b : Int)) = false := by simpa using y2
                rw [← hwe] at g2
                have hXl := hX.length_eq
                rw [if_neg (by simp; omega)] at hXd
                subst hXd
                have hvX := hv.perm hX
                have hi2 : ¬ (decide (a < i) && decide (i < d)) = true := by simp; omega
                rw [if_neg hi2] at hQ
                have hi3 : ¬ (decide (d < e) && decide (e < b)) = true := by simp; omega
                rw [if_neg hi3] at hQ
                subst hQ
                ((repeat' (first
    | (show SQ _ _ _ _ _ _ _ _; first | apply sq_nil | (apply q_move; exact rfl; exact rfl) | (apply q_assign; exact rfl; exact rfl) | (apply q_pick_t; exact rfl; exact rfl; exact rfl; exact (by first | assumption | exact rfl)) | (apply q_pick_f; exact rfl; exact rfl; exact rfl; exact (by first | assumption | exact rfl)) | (apply q_sub; exact rfl; exact rfl; exact rfl) | (apply q_lss; exact rfl; exact rfl; exact rfl) | (apply q_g; exact rfl; exact rfl; exact rfl; exact (by assumption)) | (apply q_s; exact rfl; exact rfl; exact rfl; exact (by assumption); exact rfl))
    | (show AW _ _ _ _ _ _ _ _; first | refine aw_region ?_ | (refine aw_seqk ?_; intro K hK) | (apply aw_cond_f; exact rfl; exact rfl) | (apply aw_cond_f; exact rfl; exact (by assumption)) | refine aw_exit ?_ | refine aw_skip ?_)
    | refine thn_n ?_
    | (refine hK _ _ _ ?_; clear hK K)
    | refine thn_e ?_
    | refine inb_same ?_
    | (clear hK K; refine hK _ _ _ ?_; clear hK K))); all_goals (repeat (clear hK K)))
                all_goals exact finc_n (fun z => z) .r0 (by simp only [renA, renL]) (fun _ _ => rfl) ⟨rfl, trivial⟩ rfl
            · have f2 : decide ((d : Int) < (e : Int)) = false := by simpa using x2
              rw [← hwe] at f2
              have hXl := hX.length_eq
              rw [if_neg (by simp; omega)] at hXd
              subst hXd
              have hvX := hv.perm hX
              have hi2 : ¬ (decide (a < i) && decide (i < d)) = true := by simp; omega
              rw [if_neg hi2] at hQ
              have hi3 : ¬ (decide (d < e) && decide (e < b)) = true := by simp; omega
              rw [if_neg hi3] at hQ
              subst hQ
              ((repeat' (first
    | (show SQ _ _ _ _ _ _ _ _; first | apply sq_nil | (apply q_move; exact rfl; exact rfl) | (apply q_assign; exact rfl; exact rfl) | (apply q_pick_f; exact rfl; exact rfl; exact rfl; exact (by first | assumption | exact rfl)) | (apply q_sub; exact rfl; exact rfl; exact rfl) | (apply q_lss; exact rfl; exact rfl; exact rfl) | (apply q_s; exact rfl; exact rfl; exact rfl; exact (by assumption); exact rfl))
    | (show AW _ _ _ _ _ _ _ _; first | refine aw_region ?_ | (refine aw_seqk ?_; intro K hK) | (apply aw_cond_f; exact rfl; exact rfl) | (apply aw_cond_f; exact rfl; exact (by assumption)) | refine aw_exit ?_ | refine aw_skip ?_)
    | refine thn_n ?_
    | (refine hK _ _ _ ?_; clear hK K)
    | refine thn_e ?_
    | refine inb_same ?_
    | (clear hK K; refine hK _ _ _ ?_; clear hK K))); all_goals (repeat (clear hK K)))
              all_goals exact finc_n (fun z => z) .r0 (by simp only [renA, renL]) (fun _ _ => rfl) ⟨rfl, trivial⟩ rfl
end Go.Proofs.Ytglfcaioapdiaaa.Bk

namespace Go.Proofs.Ytglfcaioapdiaaa.Bk
open Go Go.RowKit Go.Proofs.Ytglfcaioapdiaaa.Aw
set_option linter.unusedSimpArgs false
set_option linter.unusedVariables false
attribute [local irreducible] AW SQ Step RO RC DE Thn InB
theorem insJ_perm {lt : Int → Int → Bool} {a : Nat} : ∀ {j : Nat} {xs : List Int}, j < xs.length → (insJ lt a j xs).Perm xs
  | 0, xs, _ => .refl _
  | j + 1, xs, hj => by
    rw [insJ]; split
    · exact (insJ_perm (j := j) (by rw [lsw_len]; omega)).trans (lsw_perm hj (by omega))
    · exact .refl _
theorem insO_perm {lt : Int → Int → Bool} {a : Nat} {xs : List Int} : ∀ {c : Nat}, a + c < xs.length ∨ c = 0 → (insO lt a c xs).Perm xs
  | 0, _ => .refl _
  | c + 1, h => by
    rw [insO]
    exact (insJ_perm (by rw [insO_len]; omega)).trans (insO_perm (c := c) (by omega))
def stF (lt : Int → Int → Bool) (xs : List Int) : List Int :=
  if xs.length < 20 then insO lt 0 (xs.length - 1) xs
  else if xs.length = 20 then insO lt 20 0 (insO lt 0 19 xs)
  else symF lt xs.length 0 20 xs.length (insO lt 20 (xs.length - 21) (insO lt 0 19 xs))
set_option maxHeartbeats 4000000 in
theorem stable_rc (n : Int) (ls : List Ln) (hn : ls.length ≤ 1048576) (xs : List Int) (hx : xs.length ≤ 32) (hv : Vd ls xs) (bi k : Nat) :
    RC Try.prog 111 [.sl bi 0 xs.length, .v (.int .i64 (xs.length : Int)), stC n ls] [(bi, ⟨2, 1, true, xs.map inL⟩)] k (.tup []) [(bi, some ⟨2, 1, true, (stF (ltO ls) xs).map inL⟩)] k := by
  have hml : (xs.map inL).length = xs.length := List.length_map _
  have w40 : IntKind.i64.wrap (20 + 20) = 40 := by decide
  have w400 : IntKind.i64.wrap (2 * 20) = 40 := by decide
  have w401 : IntKind.i64.wrap (20 * 2) = 40 := by decide
  have w20 : IntKind.i64.wrap (0 + 20) = 20 := by decide
  generalize hQ : stF (ltO ls) xs = Q
  unfold stF at hQ
  have hp1 : 20 ≤ xs.length → (insO (ltO ls) 0 19 xs).Perm xs := fun h => insO_perm (by omega)
  refine RC.ofc [bi] 0 [.sl 0 0 xs.length, .v (.int .i64 (xs.length : Int)), stC n ls] [(0, ⟨2, 1, true, xs.map inL⟩)] (.tup []) [(0, some ⟨2, 1, true, Q.map inL⟩)] Try.func111 Try.ntmps111 rfl (goFn_of Try.func111 rfl (by kernel_rfl)) rfl rfl rfl rfl rfl rfl rfl rfl (by simp_all) rfl ?_
  ((repeat' (first
    | (show SQ _ _ _ _ _ _ _ _; first | apply sq_nil | (apply q_move; exact rfl; exact rfl) | (apply q_assign; exact rfl; exact rfl))
    | (show AW _ _ _ _ _ _ _ _; first | refine aw_region ?_ | (refine aw_seqk ?_; intro K hK) | refine aw_block ?_)
    | refine thn_n ?_
    | (refine hK _ _ _ ?_; clear hK K))); all_goals (repeat (clear hK K)))
  refine aw_loop (ρ := fun z => z) (ι := Nat) (fun s => ([(8, .v (.int .i64 ((20 * s + 20 : Nat) : Int))), (7, .v (.int .i64 ((20 * s : Nat) : Int))), (6, .v (.int .i64 20)), (2, stC n ls), (1, .v (.int .i64 (xs.length : Int))), (0, .sl 0 0 xs.length)], [(0, ⟨2, 1, true, (if s = 0 then xs else insO (ltO ls) 0 19 xs).map inL⟩)], 1))
    (fun s => s ≤ 1 ∧ (s = 1 → 20 ≤ xs.length)) (fun s => 1 - s) 0 ⟨by omega, fun h => by cases h⟩ ⟨by (repeat (refine ⟨by first | exact lk_i rfl rfl | exact lk_s rfl rfl rfl rfl | exact lk_f rfl, ?_⟩)); exact trivial, by (repeat (refine ⟨by first | exact ⟨rfl, rfl, rfl⟩, ?_⟩)); exact trivial, by rfl, by (intro i hi; (try dsimp only); refine ⟨?_, ?_⟩ <;> first | rfl | omega | (simp at hi; omega) | (simp; omega))⟩ ?_
  rintro s ⟨s1, s2⟩
  by_cases c1 : 20 * s + 20 ≤ xs.length
  · obtain rfl : s = 0 := by omega
    have b1 : decide (((20 * 0 + 20 : Nat) : Int) ≤ (xs.length : Int)) = true := by rw [decide_eq_true_eq]; omega
    have hI := insertionSort_rc n ls xs 0 20 hn (by omega) hv (by omega) (by omega) 0 1
    have hol := insO_len (ltO ls) 0 xs 19
    ((repeat' (first
    | (show SQ _ _ _ _ _ _ _ _; first | apply sq_nil | (apply q_move; exact rfl; exact rfl) | (apply q_assign; exact rfl; exact rfl) | (apply q_add; exact rfl; exact rfl; exact rfl) | (apply q_leq; exact rfl; exact rfl; exact rfl))
    | (show SQ _ _ _ _ _ _ _ _; (first | (apply q_callC; exact rfl; exact rfl; exact rfl; exact hI; (focus ((repeat (first | exact trivial | refine ⟨by first | exact rfl | assumption, ?_⟩)); done)); skip)); (try simp only [put, rowsOf, plR, List.all_cons, selE, ovr, setH, del, cellsA, splice, isV, List.nil_append, List.cons_append, List.map_cons, List.map_nil, List.length_cons, List.length_nil, List.set_cons_zero, List.set_cons_succ, List.take_succ_cons, List.take_zero, List.take_nil, List.drop_succ_cons, List.drop_zero, List.drop_nil, List.append_nil, List.all_cons, List.all_nil, Bool.and_true, Bool.true_and, Bool.and_false, Bool.false_and, Nat.reduceAdd, Nat.zero_add, Nat.add_zero, Nat.reduceEqDiff, if_true, if_false, reduceIte]))
    | (show AW _ _ _ _ _ _ _ _; first | refine aw_region ?_ | (refine aw_seqk ?_; intro K hK) | refine aw_block ?_ | (apply aw_cond_t; exact rfl; exact (by assumption)) | refine aw_skip ?_)
    | refine thn_n ?_
    | (refine hK _ _ _ ?_; clear hK K)
    | refine inb_n ?_)); all_goals (repeat (clear hK K)))
    all_goals (refine ⟨1, fun z => z, ⟨Nat.le_refl _, fun _ => c1⟩, by omega, ?_⟩; (try dsimp only); exact ⟨by (repeat (refine ⟨by first | exact lk_i rfl rfl | exact lk_s rfl rfl rfl rfl | exact lk_f rfl, ?_⟩)); exact trivial, by (repeat (refine ⟨by first | exact ⟨rfl, rfl, rfl⟩, ?_⟩)); exact trivial, by rfl, by (intro i hi; (try dsimp only); refine ⟨?_, ?_⟩ <;> first | rfl | omega | (simp at hi; omega) | (simp; omega))⟩)
  have b1 : decide (((20 * s + 20 : Nat) : Int) ≤ (xs.length : Int)) = false := by rw [decide_eq_false_iff_not]; omega
  have hA : (if s = 0 then xs else insO (ltO ls) 0 19 xs).Perm xs := by
    split
    · exact .refl _
    · exact hp1 (s2 (by omega))
  have hAl := hA.length_eq
  have hvA := hv.perm hA
  have hI := insertionSort_rc n ls (if s = 0 then xs else insO (ltO ls) 0 19 xs) (20 * s) xs.length hn (by omega) hvA (by by_cases h : s = 1; (have := s2 h; omega); omega) (by omega) 0 1
  have hBp := insO_perm (lt := ltO ls) (a := 20 * s) (xs := if s = 0 then xs else insO (ltO ls) 0 19 xs) (c := xs.length - (20 * s + 1)) (by omega)
  have hQ2 : Q = if 20 < xs.length then symF (ltO ls) xs.length 0 20 xs.length (insO (ltO ls) (20 * s) (xs.length - (20 * s + 1)) (if s = 0 then xs else insO (ltO ls) 0 19 xs)) else insO (ltO ls) (20 * s) (xs.length - (20 * s + 1)) (if s = 0 then xs else insO (ltO ls) 0 19 xs) := by
    rw [← hQ]
    by_cases h : s = 0
    · subst h
      rw [if_pos (show xs.length < 20 by omega), if_neg (show ¬ 20 < xs.length by omega), if_pos rfl, Nat.mul_zero, Nat.zero_add]
    · obtain rfl : s = 1 := by omega
      have := s2 rfl
      rw [if_neg (show ¬ xs.length < 20 by omega), if_neg (show ¬ (1 : Nat) = 0 by decide), Nat.mul_one]
      by_cases h2 : xs.length = 20
      · rw [if_pos h2, if_neg (show ¬ 20 < xs.length by omega), h2]
      · rw [if_neg h2, if_pos (show 20 < xs.length by omega)]
  rw [hAl] at hI
  clear hQ
  generalize (if s = 0 then xs else insO (ltO ls) 0 19 xs) = A at *
  generalize insO (ltO ls) (20 * s) (xs.length - (20 * s + 1)) A = B at *
  have hBl := hBp.length_eq
  have hvB := hvA.perm hBp
  ((repeat' (first
    | (show SQ _ _ _ _ _ _ _ _; first | apply sq_nil | (apply q_move; exact rfl; exact rfl) | (apply q_leq; exact rfl; exact rfl; exact rfl))
    | (show SQ _ _ _ _ _ _ _ _; (first | (apply q_callC; exact rfl; exact rfl; exact rfl; exact hI; (focus ((repeat (first | exact trivial | refine ⟨by first | exact rfl | assumption, ?_⟩)); done)); skip)); (try simp only [put, rowsOf, plR, List.all_cons, selE, ovr, setH, del, cellsA, splice, isV, List.nil_append, List.cons_append, List.map_cons, List.map_nil, List.length_cons, List.length_nil, List.set_cons_zero, List.set_cons_succ, List.take_succ_cons, List.take_zero, List.take_nil, List.drop_succ_cons, List.drop_zero, List.drop_nil, List.append_nil, List.all_cons, List.all_nil, Bool.and_true, Bool.true_and, Bool.and_false, Bool.false_and, Nat.reduceAdd, Nat.zero_add, Nat.add_zero, Nat.reduceEqDiff, if_true, if_false, reduceIte]))
    | (show AW _ _ _ _ _ _ _ _; first | refine aw_region ?_ | (refine aw_seqk ?_; intro K hK) | refine aw_block ?_ | (apply aw_cond_f; exact rfl; exact (by assumption)) | refine aw_exit ?_)
    | refine thn_n ?_
    | (refine hK _ _ _ ?_; clear hK K)
    | refine thn_e ?_
    | refine inb_same ?_
    | (clear hK K; refine hK _ _ _ ?_; clear hK K))); all_goals (repeat (clear hK K)))
  refine aw_loop (ρ := fun z => z) (ι := Nat) (fun s => ([(6, .v (.int .i64 ((20 * s + 20 : Nat) : Int))), (2, stC n ls), (1, .v (.int .i64 (xs.length : Int))), (0, .sl 0 0 xs.length)], [(0, ⟨2, 1, true, (if s = 0 then B else Q).map inL⟩)], 1))
    (fun s => s ≤ 1 ∧ (s = 1 → 20 < xs.length)) (fun s => 1 - s) 0 ⟨by omega, fun h => by cases h⟩ ⟨by (repeat (refine ⟨by first | exact lk_i rfl rfl | exact lk_s rfl rfl rfl rfl | exact lk_f rfl, ?_⟩)); exact trivial, by (repeat (refine ⟨by first | exact ⟨rfl, rfl, rfl⟩, ?_⟩)); exact trivial, by rfl, by (intro i hi; (try dsimp only); refine ⟨?_, ?_⟩ <;> first | rfl | omega | (simp at hi; omega) | (simp; omega))⟩ ?_
  rintro s' ⟨t1, t2⟩
  by_cases c2 : 20 * s' + 20 < xs.length
  · obtain rfl : s' = 0 := by omega
    have b2 : decide (((20 * 0 + 20 : Nat) : Int) < (xs.length : Int)) = true := by rw [decide_eq_true_eq]; omega
    have b3 : decide ((40 : Int) ≤ (xs.length : Int)) = false := by rw [decide_eq_false_iff_not]; omega
    have b4 : decide ((20 : Int) < (xs.length : Int)) = true := by rw [decide_eq_true_eq]; omega
    have hS := symMerge_rc n ls hn xs.length B 0 20 xs.length (by omega) hvB (by omega) (by omega) (by omega) (by omega) 0 1
    rw [if_pos (by omega)] at hQ2
    rw [← hQ2, hBl, hAl] at hS
    ((repeat' (first
    | (show SQ _ _ _ _ _ _ _ _; first | apply sq_nil | (apply q_move; exact rfl; exact rfl) | (apply q_assign; exact rfl; exact rfl) | (apply q_mul; exact rfl; exact rfl; exact rfl) | (apply q_lss; exact rfl; exact rfl; exact rfl))
    | (show AW _ _ _ _ _ _ _ _; first | refine aw_region ?_ | (refine aw_seqk ?_; intro K hK) | refine aw_block ?_ | (apply aw_cond_t; exact rfl; exact (by assumption)) | refine aw_skip ?_)
    | refine thn_n ?_
    | (refine hK _ _ _ ?_; clear hK K))); all_goals (repeat (clear hK K)))
    refine aw_loop (ρ := fun z => z) (ι := Unit) (fun s => ([(8, .v (.int .i64 40)), (7, .v (.int .i64 0)), (6, .v (.int .i64 20)), (2, stC n ls), (1, .v (.int .i64 (xs.length : Int))), (0, .sl 0 0 xs.length)], [(0, ⟨2, 1, true, B.map inL⟩)], 1))
      (fun _ => True) (fun _ => 0) () trivial ⟨by (repeat (refine ⟨by first | exact lk_i rfl rfl | exact lk_s rfl rfl rfl rfl | exact lk_f rfl, ?_⟩)); exact trivial, by (repeat (refine ⟨by first | exact ⟨rfl, rfl, rfl⟩, ?_⟩)); exact trivial, by rfl, by (intro i hi; (try dsimp only); refine ⟨?_, ?_⟩ <;> first | rfl | omega | (simp at hi; omega) | (simp; omega))⟩ ?_
    rintro _ _
    ((repeat' (first
    | (show SQ _ _ _ _ _ _ _ _; first | apply sq_nil | (apply q_move; exact rfl; exact rfl) | (apply q_assign; exact rfl; exact rfl) | (apply q_add; exact rfl; exact rfl; exact rfl) | (apply q_mul; exact rfl; exact rfl; exact rfl) | (apply q_lss; exact rfl; exact rfl; exact rfl) | (apply q_leq; exact rfl; exact rfl; exact rfl))
    | (show SQ _ _ _ _ _ _ _ _; (first | (apply q_callC; exact rfl; exact rfl; exact rfl; exact hS; (focus ((repeat (first | exact trivial | refine ⟨by first | exact rfl | assumption, ?_⟩)); done)); skip)); (try simp only [put, rowsOf, plR, List.all_cons, selE, ovr, setH, del, cellsA, splice, isV, List.nil_append, List.cons_append, List.map_cons, List.map_nil, List.length_cons, List.length_nil, List.set_cons_zero, List.set_cons_succ, List.take_succ_cons, List.take_zero, List.take_nil, List.drop_succ_cons, List.drop_zero, List.drop_nil, List.append_nil, List.all_cons, List.all_nil, Bool.and_true, Bool.true_and, Bool.and_false, Bool.false_and, Nat.reduceAdd, Nat.zero_add, Nat.add_zero, Nat.reduceEqDiff, if_true, if_false, reduceIte]))
    | (show AW _ _ _ _ _ _ _ _; first | refine aw_region ?_ | (refine aw_seqk ?_; intro K hK) | (apply aw_cond_t; exact rfl; exact (by assumption)) | (apply aw_cond_f; exact rfl; exact (by assumption)) | refine aw_exit ?_)
    | refine thn_n ?_
    | (refine hK _ _ _ ?_; clear hK K)
    | refine thn_e ?_
    | refine inb_same ?_
    | refine inb_n ?_
    | (clear hK K; refine hK _ _ _ ?_; clear hK K))); all_goals (repeat (clear hK K)))
    all_goals (refine ⟨1, fun z => z, ⟨Nat.le_refl _, fun _ => c2⟩, by omega, ?_⟩; (try dsimp only); exact ⟨by (repeat (refine ⟨by first | exact lk_i rfl rfl | exact lk_s rfl rfl rfl rfl | exact lk_f rfl, ?_⟩)); exact trivial, by (repeat (refine ⟨by first | exact ⟨rfl, rfl, rfl⟩, ?_⟩)); exact trivial, by rfl, by (intro i hi; (try dsimp only); refine ⟨?_, ?_⟩ <;> first | rfl | omega | (simp at hi; omega) | (simp; omega))⟩)
  have b2 : decide (((20 * s' + 20 : Nat) : Int) < (xs.length : Int)) = false := by rw [decide_eq_false_iff_not]; omega
  have hfin : (if s' = 0 then B else Q) = Q := by
    by_cases h : s' = 0
    · subst h; rw [if_pos rfl, hQ2, if_neg (by omega)]
    · rw [if_neg h]
  rw [hfin]
  ((repeat' (first
    | (show SQ _ _ _ _ _ _ _ _; first | apply sq_nil | (apply q_move; exact rfl; exact rfl) | (apply q_lss; exact rfl; exact rfl; exact rfl))
    | (show AW _ _ _ _ _ _ _ _; first | refine aw_region ?_ | (refine aw_seqk ?_; intro K hK) | (apply aw_cond_f; exact rfl; exact (by assumption)) | refine aw_exit ?_)
    | refine thn_n ?_
    | (refine hK _ _ _ ?_; clear hK K)
    | refine thn_e ?_
    | refine inb_same ?_)); all_goals (repeat (clear hK K)))
  all_goals exact finc_n (fun z => z) .r0 (by simp only [renA, renL]) (fun _ _ => rfl) ⟨rfl, trivial⟩ rfl
set_option maxHeartbeats 4000000 in
theorem SortStable_rc (n : Int) (ls : List Ln) (hn : ls.length ≤ 1048576) (xs : List Int) (hx : xs.length ≤ 32) (hv : Vd ls xs) (bi k : Nat) :
    RC Try.prog 76 [.sl bi 0 xs.length, stC n ls] [(bi, ⟨2, 1, true, xs.map inL⟩)] k (.tup []) [(bi, some ⟨2, 1, true, (stF (ltO ls) xs).map inL⟩)] k := by
  have hS := stable_rc n ls hn xs hx hv 0 1
  refine RC.ofc [bi] 0 [.sl 0 0 xs.length, stC n ls] [(0, ⟨2, 1, true, xs.map inL⟩)] (.tup []) [(0, some ⟨2, 1, true, (stF (ltO ls) xs).map inL⟩)] Try.func76 Try.ntmps76 rfl (goFn_of Try.func76 rfl (by kernel_rfl)) rfl rfl rfl rfl rfl rfl rfl rfl (by simp_all) rfl ?_
  ((repeat' (first
    | (show SQ _ _ _ _ _ _ _ _; first | apply sq_nil | (apply q_move; exact rfl; exact rfl) | (apply q_lenl; exact rfl; exact rfl; exact (ty rfl); exact rfl))
    | (show SQ _ _ _ _ _ _ _ _; (first | (apply q_callC; exact rfl; exact rfl; exact rfl; exact hS; (focus ((repeat (first | exact trivial | refine ⟨by first | exact rfl | assumption, ?_⟩)); done)); skip)); (try simp only [put, rowsOf, plR, List.all_cons, selE, ovr, setH, del, cellsA, splice, isV, List.nil_append, List.cons_append, List.map_cons, List.map_nil, List.length_cons, List.length_nil, List.set_cons_zero, List.set_cons_succ, List.take_succ_cons, List.take_zero, List.take_nil, List.drop_succ_cons, List.drop_zero, List.drop_nil, List.append_nil, List.all_cons, List.all_nil, Bool.and_true, Bool.true_and, Bool.and_false, Bool.false_and, Nat.reduceAdd, Nat.zero_add, Nat.add_zero, Nat.reduceEqDiff, if_true, if_false, reduceIte]))
    | (show AW _ _ _ _ _ _ _ _; first | refine aw_region ?_))); all_goals (repeat (clear hK K)))
  all_goals exact finc_n (fun z => z) .r0 (by simp only [renA, renL]) (fun _ _ => rfl) ⟨rfl, trivial⟩ rfl
end Go.Proofs.Ytglfcaioapdiaaa.Bk
