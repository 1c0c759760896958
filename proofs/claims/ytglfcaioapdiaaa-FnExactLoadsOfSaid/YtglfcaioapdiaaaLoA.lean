/-
  Loads of a tree: functions in hand.
-/
import Derived.Test.YtglfcaioapdiaaaTrC
import Derived.Test.YtglfcaioapdiaaaCrA
import Derived.Test.YtglfcaioapdiaaaRuA
namespace Go.Proofs.Ytglfcaioapdiaaa.Bk
open Go Go.RowKit Go.Proofs.Ytglfcaioapdiaaa.Aw
set_option linter.unusedSimpArgs false
set_option linter.unusedVariables false
attribute [local irreducible] AW SQ Step RO RC DE Thn InB

set_option maxHeartbeats 4000000 in
theorem CloneInt_ro (xs : List Int) (h : 0 < xs.length) (hn : xs.length ≤ 1048576) (k : Nat) : RO Try.prog 66 [.dsl 1 (xs.map inL)] k (.sl k 0 xs.length) [(k, ⟨2, 1, true, xs.map inL⟩)] (k + 1) := by
  have hl : (xs.map inL).length = xs.length := List.length_map _
  have h1 : 0 < (xs.map inL).length := by omega
  have hp : ((xs.map inL).all fun r => r.all isV) = true := by simp [inL, isV]
  refine RO.ofm (.sl 0 0 xs.length) ([(0, ⟨2, 1, true, xs.map inL⟩)]) 1 Try.func66 Try.ntmps66 rfl (goFn_of Try.func66 rfl (by kernel_rfl)) rfl rfl (by simp [renA, renL]) (by simp [shH, renB]) rfl ?_
  ((repeat' (first
    | (show SQ _ _ _ _ _ _ _ _; first | apply sq_nil | (apply q_move; exact rfl; exact rfl) | (apply q_assign; exact rfl; exact rfl) | (apply q_nil_ed; exact rfl; exact rfl; exact rfl; exact (ty rfl); exact rfl; exact (by first | omega | (simp; done) | (simp; omega))))
    | (show SQ _ _ _ _ _ _ _ _; (first | (apply q_build0; exact rfl; exact (ty rfl); exact rfl) | (apply q_apo_d; exact rfl; exact rfl; exact rfl; exact (ty rfl); exact rfl; exact rfl; exact (by first | omega | (simp; done) | (simp; omega)); exact (by first | exact List.take_of_length_le (by first | omega | (simp; done) | (simp; omega)) | rfl); exact (ty rfl); exact rfl; exact rfl; exact (by first | omega | (simp; done) | (simp; omega)); exact (by first | omega | (simp; done) | (simp; omega)); exact (by first | assumption | exact rfl))); (try simp only [put, rowsOf, plR, List.all_cons, selE, ovr, setH, del, cellsA, splice, isV, List.nil_append, List.cons_append, List.map_cons, List.map_nil, List.length_cons, List.length_nil, List.set_cons_zero, List.set_cons_succ, List.take_succ_cons, List.take_zero, List.take_nil, List.drop_succ_cons, List.drop_zero, List.drop_nil, List.append_nil, List.all_cons, List.all_nil, Bool.and_true, Bool.true_and, Bool.and_false, Bool.false_and, Nat.reduceAdd, Nat.zero_add, Nat.add_zero, Nat.reduceEqDiff, if_true, if_false, reduceIte]))
    | (show AW _ _ _ _ _ _ _ _; first | refine aw_region ?_ | (refine aw_seqk ?_; intro K hK) | (apply aw_cond_f; exact rfl; exact rfl) | refine aw_ret ?_ | refine aw_skip ?_)
    | refine thn_n ?_
    | (refine hK _ _ _ ?_; clear hK K))); all_goals (repeat (clear hK K)))
  all_goals exact fin_r (fin_m rfl rfl _ _ hl rfl)

/-- what is kept of the first j, and behind it what stood there -/
def dfK (p : Int → Bool) (xs : List Int) (j : Nat) : List Int := (xs.take j).filter fun x => !p x
def dfR (p : Int → Bool) (xs : List Int) (j : Nat) : List Int := dfK p xs j ++ xs.drop (dfK p xs j).length
theorem dfK_len (p : Int → Bool) (xs : List Int) (j : Nat) : (dfK p xs j).length ≤ j := by
  have := List.length_filter_le (fun x => !p x) (xs.take j)
  simp only [dfK, List.length_take] at *
  omega
theorem dfK_le (p : Int → Bool) (xs : List Int) (j : Nat) : (dfK p xs j).length ≤ xs.length := by
  have := List.length_filter_le (fun x => !p x) (xs.take j)
  simp only [dfK, List.length_take] at *
  omega
theorem dfR_len (p : Int → Bool) (xs : List Int) (j : Nat) : (dfR p xs j).length = xs.length := by
  have := dfK_le p xs j
  simp [dfR]; omega
theorem dfK_yes {p : Int → Bool} {xs : List Int} {j : Nat} (h : j < xs.length) (hp : p xs[j] = true) : dfK p xs (j + 1) = dfK p xs j := by
  unfold dfK; rw [List.take_succ_eq_append_getElem h, List.filter_append]; simp [hp]
theorem dfK_no {p : Int → Bool} {xs : List Int} {j : Nat} (h : j < xs.length) (hp : p xs[j] = false) : dfK p xs (j + 1) = dfK p xs j ++ [xs[j]] := by
  unfold dfK; rw [List.take_succ_eq_append_getElem h, List.filter_append]; simp [hp]
theorem dfR_get {p : Int → Bool} {xs : List Int} {j : Nat} (h : j < xs.length) : (dfR p xs j)[j]? = some xs[j] := by
  have := dfK_len p xs j
  rw [dfR, List.getElem?_append_right (by omega), List.getElem?_drop, show (dfK p xs j).length + (j - (dfK p xs j).length) = j by omega]
  simp [h]
theorem dfR_set {p : Int → Bool} {xs : List Int} {j : Nat} (h : j < xs.length) (hp : p xs[j] = false) : (dfR p xs j).set (dfK p xs j).length xs[j] = dfR p xs (j + 1) := by
  have h1 := dfK_len p xs j
  unfold dfR; rw [dfK_no h hp, List.set_append_right _ _ (Nat.le_refl _), Nat.sub_self, List.length_append, List.length_singleton]
  have : xs.drop (dfK p xs j).length = xs[(dfK p xs j).length] :: xs.drop ((dfK p xs j).length + 1) := List.drop_eq_getElem_cons (by omega)
  rw [this, List.set_cons_zero, List.append_assoc, List.singleton_append]
theorem dfR_same {p : Int → Bool} {xs : List Int} {j : Nat} (h : j < xs.length) (hp : p xs[j] = true) : dfR p xs (j + 1) = dfR p xs j := by
  unfold dfR; rw [dfK_yes h hp]
theorem dfK_full (p : Int → Bool) (xs : List Int) : dfK p xs xs.length = xs.filter fun x => !p x := by simp [dfK]
theorem dfK_pre {p : Int → Bool} {xs : List Int} {j : Nat} (h : ∀ y ∈ xs.take j, p y = false) : dfK p xs j = xs.take j := by
  refine List.filter_eq_self.2 fun x hx => ?_
  rw [h x hx]; rfl
theorem ixG_split {α : Type} (p : α → Bool) : ∀ xs : List α, (ixG p xs = -1 ∧ ∀ y ∈ xs, p y = false) ∨ ∃ (i : Nat) (h : i < xs.length), ixG p xs = i ∧ (∀ y ∈ xs.take i, p y = false) ∧ p xs[i] = true
  | [] => .inl ⟨rfl, by simp⟩
  | x :: xs => by
    cases hx : p x with
    | true => exact .inr ⟨0, by simp, by simp [ixG, hx], by simp, by simpa using hx⟩
    | false =>
      rcases ixG_split p xs with ⟨h1, h2⟩ | ⟨i, hi, h1, h2, h3⟩
      · refine .inl ⟨ixG_none p _ ?_, ?_⟩ <;> (intro y hy; rcases List.mem_cons.1 hy with rfl | hy; exact hx; exact h2 y hy)
      · refine .inr ⟨i + 1, by simp; omega, ?_, ?_, by simpa using h3⟩
        · have hh : ∀ y ∈ (x :: xs).take (i + 1), p y = false := by
            intro y hy
            rw [List.take_succ_cons] at hy
            rcases List.mem_cons.1 hy with rfl | hy
            · exact hx
            · exact h2 y hy
          exact ixG_hit (xs := x :: xs) (i := i + 1) (by simp; omega) hh (by simpa using h3)
        · intro y hy
          rw [List.take_succ_cons] at hy
          rcases List.mem_cons.1 hy with rfl | hy
          · exact hx
          · exact h2 y hy
set_option maxHeartbeats 4000000 in
theorem delClosure_ro (x i : Int) (k : Nat) : RO Try.prog 67 [.v (.int .i64 x), .dptr [.v (.int .i64 i)]] k (.v (.bool (x == i))) [] k := by
  refine RO.ofv' Try.func67 Try.ntmps67 rfl (goFn_of Try.func67 rfl (by kernel_rfl)) rfl rfl ?_
  ((repeat' (first
    | (show SQ _ _ _ _ _ _ _ _; first | apply sq_nil | (apply q_move; exact rfl; exact rfl) | (apply q_assign; exact rfl; exact rfl) | (apply q_eql; exact rfl; exact rfl; exact rfl) | (apply q_ld1d; exact rfl; exact rfl; exact (ty rfl); exact rfl; exact rfl))
    | (show AW _ _ _ _ _ _ _ _; first | refine aw_region ?_ | (refine aw_seqk ?_; intro K hK) | refine aw_ret ?_)
    | refine thn_n ?_
    | (refine hK _ _ _ ?_; clear hK K))); all_goals (repeat (clear hK K)))
  all_goals exact fin_r (fin_b rfl rfl)
def othI (xs : List Int) (i : Int) : List Int := xs.filter fun x => !(x == i)
set_option maxHeartbeats 4000000 in
theorem DeleteFunc_rc (xs : List Int) (i : Int) (hn : xs.length ≤ 1048576) (k bi : Nat) :
    RC Try.prog 65 [.sl bi 0 xs.length, .fn 67 [.dptr [.v (.int .i64 i)]]] [(bi, ⟨2, 1, true, xs.map inL⟩)] k (.sl bi 0 (othI xs i).length)
      [(bi, some ⟨2, 1, true, (othI xs i).map inL ++ List.replicate (xs.length - (othI xs i).length) [.v (.int .i64 0)]⟩)] k := by
  have hI := IndexFuncInt_ro xs (xs.map inL) 67 [.dptr [.v (.int .i64 i)]] (fun x => x == i) rfl (fun H => FzL.of rfl) rfl (fun x _ m => delClosure_ro x i m) hn
  have hml : (xs.map inL).length = xs.length := List.length_map _
  refine RC.ofc [bi] 0 [.sl 0 0 xs.length, .fn 67 [.dptr [.v (.int .i64 i)]]] [(0, ⟨2, 1, true, xs.map inL⟩)] (.sl 0 0 (othI xs i).length) [(0, some ⟨2, 1, true, (othI xs i).map inL ++ List.replicate (xs.length - (othI xs i).length) [.v (.int .i64 0)]⟩)] Try.func65 Try.ntmps65 rfl (goFn_of Try.func65 rfl (by kernel_rfl)) rfl rfl rfl rfl rfl rfl rfl rfl (by simp_all) rfl ?_
  rcases ixG_split (fun x => x == i) xs with ⟨e, hall⟩ | ⟨q, hq, e, hbef, hat⟩
  · have ho : othI xs i = xs := List.filter_eq_self.2 fun x hx => by have := hall x hx; rw [this]; rfl
    have b1 : (ixG (fun x => x == i) xs == -1) = true := by rw [e]; rfl
    ((repeat' (first
    | (show SQ _ _ _ _ _ _ _ _; first | apply sq_nil | (apply q_move; exact rfl; exact rfl) | (apply q_assign; exact rfl; exact rfl) | (apply q_eql; exact rfl; exact rfl; exact rfl))
    | (show SQ _ _ _ _ _ _ _ _; (first | (apply q_callU; exact rfl; exact rfl; exact rfl; rotate_left; exact hI _; rotate_right; focus ((repeat' (first | exact FzL.nil | exact (by assumption : FzC _) _ | refine FzL.cons ?_ ?_ | exact Fz.of rfl | exact Fz.nil | exact Fz.emp | (apply Fz.fnC; assumption) | (apply Fz.sl2; exact rfl; exact (by first | omega | (simp; done) | (simp; omega)); first | exact rfl | exact dt_full (by first | omega | (simp; done) | (simp; omega)) | assumption) | apply Fz.agg | (apply Fz.ptrL; exact rfl; first | exact rfl | assumption) | apply Fz.fnL)); done))); (try simp only [put, rowsOf, plR, List.all_cons, selE, ovr, setH, del, cellsA, splice, isV, List.nil_append, List.cons_append, List.map_cons, List.map_nil, List.length_cons, List.length_nil, List.set_cons_zero, List.set_cons_succ, List.take_succ_cons, List.take_zero, List.take_nil, List.drop_succ_cons, List.drop_zero, List.drop_nil, List.append_nil, List.all_cons, List.all_nil, Bool.and_true, Bool.true_and, Bool.and_false, Bool.false_and, Nat.reduceAdd, Nat.zero_add, Nat.add_zero, Nat.reduceEqDiff, if_true, if_false, reduceIte]))
    | (show AW _ _ _ _ _ _ _ _; first | refine aw_region ?_ | (refine aw_seqk ?_; intro K hK) | (apply aw_cond_t; exact rfl; exact (by assumption)) | refine aw_ret ?_)
    | refine thn_n ?_
    | (refine hK _ _ _ ?_; clear hK K)
    | refine thn_r ?_)); all_goals (repeat (clear hK K)))
    rw [ho, Nat.sub_self, List.replicate_zero, List.append_nil]
    all_goals exact finc (fun z => z) (.r1 _ _ (.tmp _ _ rfl)) (by simp only [renA]) (fun _ _ => rfl) ⟨rfl, trivial⟩ rfl
  · have b1 : (ixG (fun x => x == i) xs == -1) = false := by rw [e]; simp
    have e0 : dfK (fun x => x == i) xs (q + 1) = xs.take q := by rw [dfK_yes hq hat, dfK_pre hbef]
    have e1 : dfR (fun x => x == i) xs (q + 1) = xs := by
      unfold dfR; rw [e0, List.length_take, Nat.min_eq_left (by omega), List.take_append_drop]
    have hw1 : IntKind.i64.wrap ((q : Int) + 1) = ((q + 1 : Nat) : Int) := by rw [IntWalk.i64_in _ (by omega)]; omega
    rw [e] at hI
    ((repeat' (first
    | (show SQ _ _ _ _ _ _ _ _; first | apply sq_nil | (apply q_move; exact rfl; exact rfl) | (apply q_assign; exact rfl; exact rfl) | (apply q_add; exact rfl; exact rfl; exact rfl) | (apply q_eql; exact rfl; exact rfl; exact rfl))
    | (show SQ _ _ _ _ _ _ _ _; (first | (apply q_callU; exact rfl; exact rfl; exact rfl; rotate_left; exact hI _; rotate_right; focus ((repeat' (first | exact FzL.nil | exact (by assumption : FzC _) _ | refine FzL.cons ?_ ?_ | exact Fz.of rfl | exact Fz.nil | exact Fz.emp | (apply Fz.fnC; assumption) | (apply Fz.sl2; exact rfl; exact (by first | omega | (simp; done) | (simp; omega)); first | exact rfl | exact dt_full (by first | omega | (simp; done) | (simp; omega)) | assumption) | apply Fz.agg | (apply Fz.ptrL; exact rfl; first | exact rfl | assumption) | apply Fz.fnL)); done))); (try simp only [put, rowsOf, plR, List.all_cons, selE, ovr, setH, del, cellsA, splice, isV, List.nil_append, List.cons_append, List.map_cons, List.map_nil, List.length_cons, List.length_nil, List.set_cons_zero, List.set_cons_succ, List.take_succ_cons, List.take_zero, List.take_nil, List.drop_succ_cons, List.drop_zero, List.drop_nil, List.append_nil, List.all_cons, List.all_nil, Bool.and_true, Bool.true_and, Bool.and_false, Bool.false_and, Nat.reduceAdd, Nat.zero_add, Nat.add_zero, Nat.reduceEqDiff, if_true, if_false, reduceIte]))
    | (show AW _ _ _ _ _ _ _ _; first | refine aw_region ?_ | (refine aw_seqk ?_; intro K hK) | refine aw_block ?_ | (apply aw_cond_f; exact rfl; exact rfl) | refine aw_skip ?_)
    | refine thn_n ?_
    | (refine hK _ _ _ ?_; clear hK K))); all_goals (repeat (clear hK K)))
    refine aw_loop (ρ := fun z => z) (ι := Nat) (fun j => ([(6, .v (.int .i64 j)), (5, .v (.int .i64 (dfK (fun x => x == i) xs j).length)), (1, .fn 67 [.dptr [.v (.int .i64 i)]]), (0, .sl 0 0 xs.length)], [(0, ⟨2, 1, true, (dfR (fun x => x == i) xs j).map inL⟩)], 1))
      (fun j => j ≤ xs.length ∧ q < j) (fun j => xs.length - j) (q + 1) ⟨by omega, by omega⟩ (by rw [e0, e1, List.length_take, Nat.min_eq_left (by omega), ← hw1]; exact ⟨by (repeat (refine ⟨by first | exact lk_i rfl rfl | exact lk_s rfl rfl rfl rfl | exact lk_f rfl, ?_⟩)); exact trivial, by (repeat (refine ⟨by first | exact ⟨rfl, rfl, rfl⟩, ?_⟩)); exact trivial, by rfl, by (intro i hi; (try dsimp only); refine ⟨?_, ?_⟩ <;> first | rfl | omega | (simp at hi; omega) | (simp; omega))⟩) ?_
    rintro j ⟨hj, hqj⟩
    have hKl := dfK_len (fun x => x == i) xs j
    have hRl := dfR_len (fun x => x == i) xs j
    have hRm : ((dfR (fun x => x == i) xs j).map inL).length = xs.length := by rw [List.length_map, hRl]
    by_cases c1 : j < xs.length
    · have b2 : decide ((j : Int) < (xs.length : Int)) = true := by simpa using c1
      have hrow : ((dfR (fun x => x == i) xs j).map inL)[0 + ((j : Int)).toNat]? = some (inL xs[j]) := by
        rw [List.getElem?_map, show 0 + ((j : Int)).toNat = j by omega, dfR_get c1]; rfl
      rw [inL_eq] at hrow
      have hC := delClosure_ro xs[j] i
      have hw2 : IntKind.i64.wrap ((j : Int) + 1) = ((j + 1 : Nat) : Int) := by rw [IntWalk.i64_in _ (by omega)]; omega
      cases hp : (xs[j] == i) with
      | true =>
        rw [hp] at hC
        have f1 := dfK_yes (p := fun x => x == i) c1 hp
        have f2 := dfR_same (p := fun x => x == i) c1 hp
        ((repeat' (first
    | (show SQ _ _ _ _ _ _ _ _; first | apply sq_nil | (apply q_move; exact rfl; exact rfl) | (apply q_assign; exact rfl; exact rfl) | (apply q_not; exact rfl; exact rfl) | (apply q_lenl; exact rfl; exact rfl; exact (ty rfl); exact rfl) | (apply q_add; exact rfl; exact rfl; exact rfl) | (apply q_lss; exact rfl; exact rfl; exact rfl) | (apply q_ixl; exact rfl; exact rfl; exact rfl; exact (ty rfl); exact rfl; exact rfl; exact rfl; exact (by first | omega | (simp; done) | (simp; omega)); exact (by first | omega | (simp; done) | (simp; omega))) | (apply q_ld1p; exact rfl; exact rfl; exact (ty rfl); exact rfl; exact rfl; exact (by first | rfl | assumption | ((try simp only [Nat.zero_add]); refine List.getElem?_set_self ?_; (try simp only [List.length_set]); assumption)); exact rfl))
    | (show SQ _ _ _ _ _ _ _ _; (first | (apply q_callU; exact rfl; exact rfl; exact rfl; exact FzL.of rfl; exact hC _)); (try simp only [put, rowsOf, plR, List.all_cons, selE, ovr, setH, del, cellsA, splice, isV, List.nil_append, List.cons_append, List.map_cons, List.map_nil, List.length_cons, List.length_nil, List.set_cons_zero, List.set_cons_succ, List.take_succ_cons, List.take_zero, List.take_nil, List.drop_succ_cons, List.drop_zero, List.drop_nil, List.append_nil, List.all_cons, List.all_nil, Bool.and_true, Bool.true_and, Bool.and_false, Bool.false_and, Nat.reduceAdd, Nat.zero_add, Nat.add_zero, Nat.reduceEqDiff, if_true, if_false, reduceIte]))
    | (show AW _ _ _ _ _ _ _ _; first | refine aw_region ?_ | (refine aw_seqk ?_; intro K hK) | refine aw_block ?_ | (apply aw_cond_f; exact rfl; exact rfl) | (apply aw_cond_t; exact rfl; exact (by assumption)) | refine aw_skip ?_)
    | refine thn_n ?_
    | (refine hK _ _ _ ?_; clear hK K)
    | refine inb_n ?_)); all_goals (repeat (clear hK K)))
        all_goals (refine ⟨j + 1, fun z => z, ⟨c1, by omega⟩, by omega, ?_⟩; (try dsimp only); rw [f1, f2, ← hw2]; exact ⟨by (repeat (refine ⟨by first | exact lk_i rfl rfl | exact lk_s rfl rfl rfl rfl | exact lk_f rfl, ?_⟩)); exact trivial, by (repeat (refine ⟨by first | exact ⟨rfl, rfl, rfl⟩, ?_⟩)); exact trivial, by rfl, by (intro i hi; (try dsimp only); refine ⟨?_, ?_⟩ <;> first | rfl | omega | (simp at hi; omega) | (simp; omega))⟩)
      | false =>
        rw [hp] at hC
        have f1 := dfK_no (p := fun x => x == i) c1 hp
        have f1l : (dfK (fun x => x == i) xs (j + 1)).length = (dfK (fun x => x == i) xs j).length + 1 := by rw [f1]; simp
        have f2 := dfR_set (p := fun x => x == i) c1 hp
        have hw3 : IntKind.i64.wrap (((dfK (fun x => x == i) xs j).length : Int) + 1) = (((dfK (fun x => x == i) xs j).length + 1 : Nat) : Int) := by rw [IntWalk.i64_in _ (by omega)]; omega
        have hKq : (dfK (fun x => x == i) xs j).length < xs.length := by omega
        have hrow3 : ((dfR (fun x => x == i) xs j).map inL)[0 + (((dfK (fun x => x == i) xs j).length : Int)).toNat]? = some (inL xs[(dfK (fun x => x == i) xs j).length]) := by
          rw [List.getElem?_map, show 0 + (((dfK (fun x => x == i) xs j).length : Int)).toNat = (dfK (fun x => x == i) xs j).length by omega, dfR, List.getElem?_append_right (Nat.le_refl _), Nat.sub_self, List.getElem?_drop]
          simp [hKq]
        rw [inL_eq] at hrow3
        have hlen : (((dfK (fun x => x == i) xs j).length : Int)).toNat < ((dfR (fun x => x == i) xs j).map inL).length := by omega
        have hst : ((dfR (fun x => x == i) xs j).map inL).set (dfK (fun x => x == i) xs j).length [.v (.int .i64 xs[j])] = (dfR (fun x => x == i) xs (j + 1)).map inL := by rw [← f2, List.map_set]; rfl
        ((repeat' (first
    | (show SQ _ _ _ _ _ _ _ _; first | apply sq_nil | (apply q_move; exact rfl; exact rfl) | (apply q_assign; exact rfl; exact rfl) | (apply q_not; exact rfl; exact rfl) | (apply q_lenl; exact rfl; exact rfl; exact (ty rfl); exact rfl) | (apply q_add; exact rfl; exact rfl; exact rfl) | (apply q_lss; exact rfl; exact rfl; exact rfl) | (apply q_ixl; exact rfl; exact rfl; exact rfl; exact (ty rfl); exact rfl; exact rfl; exact rfl; exact (by first | omega | (simp; done) | (simp; omega)); exact (by first | omega | (simp; done) | (simp; omega))) | (apply q_ld1p; exact rfl; exact rfl; exact (ty rfl); exact rfl; exact rfl; exact (by first | rfl | assumption | ((try simp only [Nat.zero_add]); refine List.getElem?_set_self ?_; (try simp only [List.length_set]); assumption)); exact rfl))
    | (show SQ _ _ _ _ _ _ _ _; (first | (apply q_store; exact rfl; exact rfl; exact (ty rfl); exact rfl; exact (by first | rfl | assumption | ((try simp only [Nat.zero_add]); refine List.getElem?_set_self ?_; (try simp only [List.length_set]); assumption)); exact rfl; exact rfl; exact rfl) | (apply q_callU; exact rfl; exact rfl; exact rfl; exact FzL.of rfl; exact hC _)); (try simp only [put, rowsOf, plR, List.all_cons, selE, ovr, setH, del, cellsA, splice, isV, List.nil_append, List.cons_append, List.map_cons, List.map_nil, List.length_cons, List.length_nil, List.set_cons_zero, List.set_cons_succ, List.take_succ_cons, List.take_zero, List.take_nil, List.drop_succ_cons, List.drop_zero, List.drop_nil, List.append_nil, List.all_cons, List.all_nil, Bool.and_true, Bool.true_and, Bool.and_false, Bool.false_and, Nat.reduceAdd, Nat.zero_add, Nat.add_zero, Nat.reduceEqDiff, if_true, if_false, reduceIte]))
    | (show AW _ _ _ _ _ _ _ _; first | refine aw_region ?_ | (refine aw_seqk ?_; intro K hK) | refine aw_block ?_ | (apply aw_cond_t; exact rfl; exact rfl) | (apply aw_cond_t; exact rfl; exact (by assumption)) | refine aw_skip ?_)
    | refine thn_n ?_
    | (refine hK _ _ _ ?_; clear hK K)
    | refine inb_n ?_)); all_goals (repeat (clear hK K)))
        all_goals (refine ⟨j + 1, fun z => z, ⟨c1, by omega⟩, by omega, ?_⟩; (try dsimp only); rw [f1l, ← hst, ← hw2, ← hw3]; exact ⟨by (repeat (refine ⟨by first | exact lk_i rfl rfl | exact lk_s rfl rfl rfl rfl | exact lk_f rfl, ?_⟩)); exact trivial, by (repeat (refine ⟨by first | exact ⟨rfl, rfl, rfl⟩, ?_⟩)); exact trivial, by rfl, by (intro i hi; (try dsimp only); refine ⟨?_, ?_⟩ <;> first | rfl | omega | (simp at hi; omega) | (simp; omega))⟩)
    · have b2 : decide ((j : Int) < (xs.length : Int)) = false := by simpa using c1
      obtain rfl : j = xs.length := by omega
      have hKe : dfK (fun x => x == i) xs xs.length = othI xs i := dfK_full _ _
      have hRe : dfR (fun x => x == i) xs xs.length = othI xs i ++ xs.drop (othI xs i).length := by unfold dfR; rw [hKe]
      rw [hKe] at hKl ⊢
      rw [hRe] at hRm hRl ⊢
      generalize othI xs i = ys at *
      have hfin : List.take ys.length ((ys ++ xs.drop ys.length).map inL) ++ List.replicate (xs.length - ys.length) [AV.v (.int .i64 0)] ++ List.drop (ys.length + (xs.length - ys.length)) ((ys ++ xs.drop ys.length).map inL) = ys.map inL ++ List.replicate (xs.length - ys.length) [AV.v (.int .i64 0)] := by
        have e5 : List.drop (ys.length + (xs.length - ys.length)) ((ys ++ xs.drop ys.length).map inL) = [] := List.drop_eq_nil_of_le (by rw [hRm]; omega)
        rw [e5, List.append_nil, List.map_append, List.take_left' (by simp)]
      ((repeat' (first
    | (show SQ _ _ _ _ _ _ _ _; first | apply sq_nil | (apply q_move; exact rfl; exact rfl) | (apply q_assign; exact rfl; exact rfl) | (apply q_lenl; exact rfl; exact rfl; exact (ty rfl); exact rfl) | (apply q_lss; exact rfl; exact rfl; exact rfl) | (apply q_ssl_h; exact rfl; exact rfl; exact rfl; exact (ty rfl); exact rfl; exact rfl; exact (by first | omega | (simp; done) | (simp; omega)); exact (by first | omega | (simp; done) | (simp; omega)); exact (by first | omega | (simp; done) | (simp; omega))) | (apply q_ssl_l; exact rfl; exact rfl; exact rfl; exact (ty rfl); exact rfl; exact rfl; exact (by first | omega | (simp; done) | (simp; omega)); exact (by first | omega | (simp; done) | (simp; omega)); exact (by first | omega | (simp; done) | (simp; omega))))
    | (show SQ _ _ _ _ _ _ _ _; (first | (apply q_clrs; exact rfl; exact rfl; exact (ty rfl); exact rfl; exact rfl; exact (by first | omega | (simp; done) | (simp; omega)); exact rfl; exact rfl)); (try simp only [put, rowsOf, plR, List.all_cons, selE, ovr, setH, del, cellsA, splice, isV, List.nil_append, List.cons_append, List.map_cons, List.map_nil, List.length_cons, List.length_nil, List.set_cons_zero, List.set_cons_succ, List.take_succ_cons, List.take_zero, List.take_nil, List.drop_succ_cons, List.drop_zero, List.drop_nil, List.append_nil, List.all_cons, List.all_nil, Bool.and_true, Bool.true_and, Bool.and_false, Bool.false_and, Nat.reduceAdd, Nat.zero_add, Nat.add_zero, Nat.reduceEqDiff, if_true, if_false, reduceIte]))
    | (show AW _ _ _ _ _ _ _ _; first | refine aw_region ?_ | (refine aw_seqk ?_; intro K hK) | (apply aw_cond_f; exact rfl; exact (by assumption)) | refine aw_ret ?_ | refine aw_exit ?_)
    | refine thn_n ?_
    | (refine hK _ _ _ ?_; clear hK K)
    | refine thn_e ?_
    | refine inb_same ?_
    | (clear hK K; refine hK _ _ _ ?_; clear hK K))); all_goals (repeat (clear hK K)))
      all_goals refine finc (fun z => z) (.r1 _ _ (.tmp _ _ rfl)) (by simp only [renA]; rfl) (fun _ _ => rfl) ⟨?_, trivial⟩ rfl
      rw [← hfin]; rfl
end Go.Proofs.Ytglfcaioapdiaaa.Bk
