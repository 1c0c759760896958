/-
  What the law FnTrees rests on, part 4.
-/
import Derived.Test.YtglfcaioapdiaaaZFnTrees3
namespace Go.Proofs.Ytglfcaioapdiaaa.Bk
open Go Go.RowKit Go.Proofs.Ytglfcaioapdiaaa.Aw
set_option linter.unusedSimpArgs false
set_option linter.unusedVariables false
attribute [local irreducible] AW SQ Step RO RC DE Thn InB
set_option maxHeartbeats 4000000 in
theorem CloneInt_ro (xs : List Int) (h : 0 < xs.length) (hn : xs.length ≤ 1048576) (k : Nat) : RO Try.prog 66 [.dsl 1 (xs.map inL)] k (.sl k 0 xs.length) [(k, ⟨2, 1, true, xs.map inL⟩)] (k + 1) := by
  have hl : (xs.map inL).length = xs.length := List.length_map _
  have h1 : 0 < (xs.map inL).length := by omega
  have hp : ((xs.map inL).all fun r => r.all isV) = true := by simp [inL, isV]
  refine RO.ofm (.sl 0 0 xs.length) ([(0, ⟨2, 1, true, xs.map inL⟩)]) 1 Try.func66 Try.ntmps66 rfl (goFn_of Try.func66 rfl (by kernel_rfl)) rfl rfl (by simp [renA, renL]) (by simp [shH, renB]) rfl ?_
  ((repeat' (first
    | (show SQ _ _ _ _ _ _ _ _; first | apply sq_nil | (apply q_move; exact rfl; exact rfl) | (apply q_assign; exact rfl; exact rfl) | (apply q_nil_ed; (iterate 3 exact rfl); exact (ty rfl); exact rfl; exact (by first | omega | (simp; done) | (simp; omega))))
    | (show SQ _ _ _ _ _ _ _ _; (first | (apply q_build0; exact rfl; exact (ty rfl); exact rfl) | (apply q_apo_d; (iterate 3 exact rfl); exact (ty rfl); exact rfl; exact rfl; exact (by first | omega | (simp; done) | (simp; omega)); exact (by first | exact List.take_of_length_le (by first | omega | (simp; done) | (simp; omega)) | rfl); exact (ty rfl); exact rfl; exact rfl; exact (by first | omega | (simp; done) | (simp; omega)); exact (by first | omega | (simp; done) | (simp; omega)); exact (by first | assumption | exact rfl))); (try simp only [put, rowsOf, plR, selE, ovr, setH, del, cellsA, splice, isV, spq, if_true, if_false]))
    | (show AW _ _ _ _ _ _ _ _; first | refine aw_region ?_ | (refine aw_seqk ?_; intro K hK) | (apply aw_cond_f; exact rfl; exact rfl) | refine aw_ret ?_ | refine aw_skip ?_)
    | refine thn_n ?_
    | (refine hK _ _ _ ?_; clear hK K))); all_goals (repeat (clear hK K)))
  all_goals exact fin_r (fin_m rfl rfl _ _ hl rfl)
def dfK (p : Int → Bool) (xs : List Int) (j : Nat) : List Int := (xs.take j).filter fun x => !p x
def dfR (p : Int → Bool) (xs : List Int) (j : Nat) : List Int := dfK p xs j ++ xs.drop (dfK p xs j).length
theorem dfK_len (p : Int → Bool) (xs : List Int) (j : Nat) : (dfK p xs j).length ≤ j := by
  have := List.length_filter_le (fun x => !p x) (xs.take j)
  simp only [dfK, List.length_take] at *
  omega
theorem dfK_le (p : Int → Bool) (xs : List Int) (j : Nat) : (dfK p xs j).length ≤ xs.length := by
  have := List.length_filter_le (fun x => !p x) (xs.take j)
  simp only [dfK, List.length_take] at *
  omega
theorem dfR_len (p : Int → Bool) (xs : List Int) (j : Nat) : (dfR p xs j).length = xs.length := by
  have := dfK_le p xs j
  simp [dfR]; omega
theorem dfK_yes {p : Int → Bool} {xs : List Int} {j : Nat} (h : j < xs.length) (hp : p xs[j] = true) : dfK p xs (j + 1) = dfK p xs j := by
  unfold dfK; rw [List.take_succ_eq_append_getElem h, List.filter_append]; simp [hp]
theorem dfK_no {p : Int → Bool} {xs : List Int} {j : Nat} (h : j < xs.length) (hp : p xs[j] = false) : dfK p xs (j + 1) = dfK p xs j ++ [xs[j]] := by
  unfold dfK; rw [List.take_succ_eq_append_getElem h, List.filter_append]; simp [hp]
theorem dfR_get {p : Int → Bool} {xs : List Int} {j : Nat} (h : j < xs.length) : (dfR p xs j)[j]? = some xs[j] := by
  have := dfK_len p xs j
  rw [dfR, List.getElem?_append_right (by omega), List.getElem?_drop, show (dfK p xs j).length + (j - (dfK p xs j).length) = j by omega]
  simp [h]
theorem dfR_set {p : Int → Bool} {xs : List Int} {j : Nat} (h : j < xs.length) (hp : p xs[j] = false) : (dfR p xs j).set (dfK p xs j).length xs[j] = dfR p xs (j + 1) := by
  have h1 := dfK_len p xs j
  unfold dfR; rw [dfK_no h hp, List.set_append_right _ _ (Nat.le_refl _), Nat.sub_self, List.length_append, List.length_singleton]
  have : xs.drop (dfK p xs j).length = xs[(dfK p xs j).length] :: xs.drop ((dfK p xs j).length + 1) := List.drop_eq_getElem_cons (by omega)
  rw [this, List.set_cons_zero, List.append_assoc, List.singleton_append]
theorem dfR_same {p : Int → Bool} {xs : List Int} {j : Nat} (h : j < xs.length) (hp : p xs[j] = true) : dfR p xs (j + 1) = dfR p xs j := by
  unfold dfR; rw [dfK_yes h hp]
theorem dfK_full (p : Int → Bool) (xs : List Int) : dfK p xs xs.length = xs.filter fun x => !p x := by simp [dfK]
theorem dfK_pre {p : Int → Bool} {xs : List Int} {j : Nat} (h : ∀ y ∈ xs.take j, p y = false) : dfK p xs j = xs.take j := by
  refine List.filter_eq_self.2 fun x hx => ?_
  rw [h x hx]; rfl
theorem ixG_split {α : Type} (p : α → Bool) : ∀ xs : List α, (ixG p xs = -1 ∧ ∀ y ∈ xs, p y = false) ∨ ∃ (i : Nat) (h : i < xs.length), ixG p xs = i ∧ (∀ y ∈ xs.take i, p y = false) ∧ p xs[i] = true
  | [] => .inl ⟨rfl, by simp⟩
  | x :: xs => by
    cases hx : p x with
    | true => exact .inr ⟨0, by simp, by simp [ixG, hx], by simp, by simpa using hx⟩
    | false =>
      rcases ixG_split p xs with ⟨h1, h2⟩ | ⟨i, hi, h1, h2, h3⟩
      · refine .inl ⟨ixG_none p _ ?_, ?_⟩ <;> (intro y hy; rcases List.mem_cons.1 hy with rfl | hy; exact hx; exact h2 y hy)
      · refine .inr ⟨i + 1, by simp; omega, ?_, ?_, by simpa using h3⟩
        · have hh : ∀ y ∈ (x :: xs).take (i + 1), p y = false := by
            intro y hy
            rw [List.take_succ_cons] at hy
            rcases List.mem_cons.1 hy with rfl | hy
            · exact hx
            · exact h2 y hy
          exact ixG_hit (xs := x :: xs) (i := i + 1) (by simp; omega) hh (by simpa using h3)
        · intro y hy
          rw [List.take_succ_cons] at hy
          rcases List.mem_cons.1 hy with rfl | hy
          · exact hx
          · exact h2 y hy
set_option maxHeartbeats 4000000 in
theorem delClosure_ro (x i : Int) (k : Nat) : RO Try.prog 67 [.v (.int .i64 x), .dptr [.v (.int .i64 i)]] k (.v (.bool (x == i))) [] k := by
  refine RO.ofv' Try.func67 Try.ntmps67 rfl (goFn_of Try.func67 rfl (by kernel_rfl)) rfl rfl ?_
  ((repeat' (first
    | (show SQ _ _ _ _ _ _ _ _; first | apply sq_nil | (apply q_move; exact rfl; exact rfl) | (apply q_assign; exact rfl; exact rfl) | (apply q_eql; iterate 3 exact rfl) | (apply q_ld1d; exact rfl; exact rfl; exact (ty rfl); exact rfl; exact rfl))
    | (show AW _ _ _ _ _ _ _ _; first | refine aw_region ?_ | (refine aw_seqk ?_; intro K hK) | refine aw_ret ?_)
    | refine thn_n ?_
    | (refine hK _ _ _ ?_; clear hK K))); all_goals (repeat (clear hK K)))
  all_goals exact fin_r (fin_b rfl rfl)
def othI (xs : List Int) (i : Int) : List Int := xs.filter fun x => !(x == i)
set_option maxHeartbeats 4000000 in
theorem DeleteFunc_rc (xs : List Int) (i : Int) (hn : xs.length ≤ 1048576) (k bi : Nat) :
    RC Try.prog 65 [.sl bi 0 xs.length, .fn 67 [.dptr [.v (.int .i64 i)]]] [(bi, ⟨2, 1, true, xs.map inL⟩)] k (.sl bi 0 (othI xs i).length)
      [(bi, some ⟨2, 1, true, (othI xs i).map inL ++ List.replicate (xs.length - (othI xs i).length) [.v (.int .i64 0)]⟩)] k := by
  have hI := IndexFuncInt_ro xs (xs.map inL) 67 [.dptr [.v (.int .i64 i)]] (fun x => x == i) rfl (fun H => FzL.of rfl) rfl (fun x _ m => delClosure_ro x i m) hn
  have hml : (xs.map inL).length = xs.length := List.length_map _
  refine RC.ofc [bi] 0 [.sl 0 0 xs.length, .fn 67 [.dptr [.v (.int .i64 i)]]] [(0, ⟨2, 1, true, xs.map inL⟩)] (.sl 0 0 (othI xs i).length) [(0, some ⟨2, 1, true, (othI xs i).map inL ++ List.replicate (xs.length - (othI xs i).length) [.v (.int .i64 0)]⟩)] Try.func65 Try.ntmps65 rfl (goFn_of Try.func65 rfl (by kernel_rfl)) rfl rfl rfl rfl rfl rfl rfl rfl (by simp_all) rfl ?_
  rcases ixG_split (fun x => x == i) xs with ⟨e, hall⟩ | ⟨q, hq, e, hbef, hat⟩
  · have ho : othI xs i = xs := List.filter_eq_self.2 fun x hx => by have := hall x hx; rw [this]; rfl
    have b1 : (ixG (fun x => x == i) xs == -1) = true := by rw [e]; rfl
    ((repeat' (first
    | (show SQ _ _ _ _ _ _ _ _; first | apply sq_nil | (apply q_move; exact rfl; exact rfl) | (apply q_assign; exact rfl; exact rfl) | (apply q_eql; iterate 3 exact rfl))
    | (show SQ _ _ _ _ _ _ _ _; (first | (apply q_callU; (iterate 3 exact rfl); rotate_left; exact hI _; rotate_right; focus ((repeat' (first | exact FzL.nil | exact (by assumption : FzC _) _ | refine FzL.cons ?_ ?_ | exact Fz.of rfl | exact Fz.nil | exact Fz.emp | (apply Fz.fnC; assumption) | (apply Fz.sl2; exact rfl; exact (by first | omega | (simp; done) | (simp; omega)); first | exact rfl | exact dt_full (by first | omega | (simp; done) | (simp; omega)) | assumption) | apply Fz.agg | (apply Fz.ptrL; exact rfl; first | exact rfl | assumption) | apply Fz.fnL)); done))); (try simp only [put, rowsOf, plR, selE, ovr, setH, del, cellsA, splice, isV, spq, if_true, if_false]))
    | (show AW _ _ _ _ _ _ _ _; first | refine aw_region ?_ | (refine aw_seqk ?_; intro K hK) | (apply aw_cond_t; exact rfl; exact (by assumption)) | refine aw_ret ?_)
    | refine thn_n ?_
    | (refine hK _ _ _ ?_; clear hK K)
    | refine thn_r ?_)); all_goals (repeat (clear hK K)))
    rw [ho, Nat.sub_self, List.replicate_zero, List.append_nil]
    all_goals exact finc (fun z => z) (.r1 _ _ (.tmp _ _ rfl)) (by simp only [renA]) (fun _ _ => rfl) ⟨rfl, trivial⟩ rfl
  · have b1 : (ixG (fun x => x == i) xs == -1) = false := by rw [e]; simp
    have e0 : dfK (fun x => x == i) xs (q + 1) = xs.take q := by rw [dfK_yes hq hat, dfK_pre hbef]
    have e1 : dfR (fun x => x == i) xs (q + 1) = xs := by
      unfold dfR; rw [e0, List.length_take, Nat.min_eq_left (by omega), List.take_append_drop]
    have hw1 : IntKind.i64.wrap ((q : Int) + 1) = ((q + 1 : Nat) : Int) := by rw [IntWalk.i64_in _ (by omega)]; omega
    rw [e] at hI
    ((repeat' (first
    | (show SQ _ _ _ _ _ _ _ _; first | apply sq_nil | (apply q_move; exact rfl; exact rfl) | (apply q_assign; exact rfl; exact rfl) | (apply q_add; iterate 3 exact rfl) | (apply q_eql; iterate 3 exact rfl))
    | (show SQ _ _ _ _ _ _ _ _; (first | (apply q_callU; (iterate 3 exact rfl); rotate_left; exact hI _; rotate_right; focus ((repeat' (first | exact FzL.nil | exact (by assumption : FzC _) _ | refine FzL.cons ?_ ?_ | exact Fz.of rfl | exact Fz.nil | exact Fz.emp | (apply Fz.fnC; assumption) | (apply Fz.sl2; exact rfl; exact (by first | omega | (simp; done) | (simp; omega)); first | exact rfl | exact dt_full (by first | omega | (simp; done) | (simp; omega)) | assumption) | apply Fz.agg | (apply Fz.ptrL; exact rfl; first | exact rfl | assumption) | apply Fz.fnL)); done))); (try simp only [put, rowsOf, plR, selE, ovr, setH, del, cellsA, splice, isV, spq, if_true, if_false]))
    | (show AW _ _ _ _ _ _ _ _; first | refine aw_region ?_ | (refine aw_seqk ?_; intro K hK) | refine aw_block ?_ | (apply aw_cond_f; exact rfl; exact rfl) | refine aw_skip ?_)
    | refine thn_n ?_
    | (refine hK _ _ _ ?_; clear hK K))); all_goals (repeat (clear hK K)))
    refine aw_loop (ρ := fun z => z) (ι := Nat) (fun j => ([(6, .v (.int .i64 j)), (5, .v (.int .i64 (dfK (fun x => x == i) xs j).length)), (1, .fn 67 [.dptr [.v (.int .i64 i)]]), (0, .sl 0 0 xs.length)], [(0, ⟨2, 1, true, (dfR (fun x => x == i) xs j).map inL⟩)], 1))
      (fun j => j ≤ xs.length ∧ q < j) (fun j => xs.length - j) (q + 1) ⟨by omega, by omega⟩ (by rw [e0, e1, List.length_take, Nat.min_eq_left (by omega), ← hw1]; exact ⟨by (repeat (refine ⟨by first | exact lk_i rfl rfl | exact lk_s rfl rfl rfl rfl | exact lk_f rfl, ?_⟩)); exact trivial, by (repeat (refine ⟨by first | exact ⟨rfl, rfl, rfl⟩, ?_⟩)); exact trivial, by rfl, by (intro i hi; (try dsimp only); refine ⟨?_, ?_⟩ <;> first | rfl | omega | (simp at hi; omega) | (simp; omega))⟩) ?_
    rintro j ⟨hj, hqj⟩
    have hKl := dfK_len (fun x => x == i) xs j
    have hRl := dfR_len (fun x => x == i) xs j
    have hRm : ((dfR (fun x => x == i) xs j).map inL).length = xs.length := by rw [List.length_map, hRl]
    by_cases c1 : j < xs.length
    · have b2 : decide ((j : Int) < (xs.length : Int)) = true := by simpa using c1
      have hrow : ((dfR (fun x => x == i) xs j).map inL)[0 + ((j : Int)).toNat]? = some (inL xs[j]) := by
        rw [List.getElem?_map, show 0 + ((j : Int)).toNat = j by omega, dfR_get c1]; rfl
      rw [inL_eq] at hrow
      have hC := delClosure_ro xs[j] i
      have hw2 : IntKind.i64.wrap ((j : Int) + 1) = ((j + 1 : Nat) : Int) := by rw [IntWalk.i64_in _ (by omega)]; omega
      cases hp : (xs[j] == i) with
      | true =>
        rw [hp] at hC
        have f1 := dfK_yes (p := fun x => x == i) c1 hp
        have f2 := dfR_same (p := fun x => x == i) c1 hp
        ((repeat' (first
    | (show SQ _ _ _ _ _ _ _ _; first | apply sq_nil | (apply q_move; exact rfl; exact rfl) | (apply q_assign; exact rfl; exact rfl) | (apply q_not; exact rfl; exact rfl) | (apply q_lenl; exact rfl; exact rfl; exact (ty rfl); exact rfl) | (apply q_add; iterate 3 exact rfl) | (apply q_lss; iterate 3 exact rfl) | (apply q_ixl; (iterate 3 exact rfl); exact (ty rfl); (iterate 3 exact rfl); exact (by first | omega | (simp; done) | (simp; omega)); exact (by first | omega | (simp; done) | (simp; omega))) | (apply q_ld1p; exact rfl; exact rfl; exact (ty rfl); exact rfl; exact rfl; exact (by first | rfl | assumption | ((try simp only [Nat.zero_add]); refine List.getElem?_set_self ?_; (try simp only [List.length_set]); assumption)); exact rfl))
    | (show SQ _ _ _ _ _ _ _ _; (first | (apply q_callU; (iterate 3 exact rfl); exact FzL.of rfl; exact hC _)); (try simp only [put, rowsOf, plR, selE, ovr, setH, del, cellsA, splice, isV, spq, if_true, if_false]))
    | (show AW _ _ _ _ _ _ _ _; first | refine aw_region ?_ | (refine aw_seqk ?_; intro K hK) | refine aw_block ?_ | (apply aw_cond_f; exact rfl; exact rfl) | (apply aw_cond_t; exact rfl; exact (by assumption)) | refine aw_skip ?_)
    | refine thn_n ?_
    | (refine hK _ _ _ ?_; clear hK K)
    | refine inb_n ?_)); all_goals (repeat (clear hK K)))
        all_goals (refine ⟨j + 1, fun z => z, ⟨c1, by omega⟩, by omega, ?_⟩; (try dsimp only); rw [f1, f2, ← hw2]; exact ⟨by (repeat (refine ⟨by first | exact lk_i rfl rfl | exact lk_s rfl rfl rfl rfl | exact lk_f rfl, ?_⟩)); exact trivial, by (repeat (refine ⟨by first | exact ⟨rfl, rfl, rfl⟩, ?_⟩)); exact trivial, by rfl, by (intro i hi; (try dsimp only); refine ⟨?_, ?_⟩ <;> first | rfl | omega | (simp at hi; omega) | (simp; omega))⟩)
      | false =>
        rw [hp] at hC
        have f1 := dfK_no (p := fun x => x == i) c1 hp
        have f1l : (dfK (fun x => x == i) xs (j + 1)).length = (dfK (fun x => x == i) xs j).length + 1 := by rw [f1]; simp
        have f2 := dfR_set (p := fun x => x == i) c1 hp
        have hw3 : IntKind.i64.wrap (((dfK (fun x => x == i) xs j).length : Int) + 1) = (((dfK (fun x => x == i) xs j).length + 1 : Nat) : Int) := by rw [IntWalk.i64_in _ (by omega)]; omega
        have hKq : (dfK (fun x => x == i) xs j).length < xs.length := by omega
        have hrow3 : ((dfR (fun x => x == i) xs j).map inL)[0 + (((dfK (fun x => x == i) xs j).length : Int)).toNat]? = some (inL xs[(dfK (fun x => x == i) xs j).length]) := by
          rw [List.getElem?_map, show 0 + (((dfK (fun x => x == i) xs j).length : Int)).toNat = (dfK (fun x => x == i) xs j).length by omega, dfR, List.getElem?_append_right (Nat.le_refl _), Nat.sub_self, List.getElem?_drop]
          simp [hKq]
        rw [inL_eq] at hrow3
        have hlen : (((dfK (fun x => x == i) xs j).length : Int)).toNat < ((dfR (fun x => x == i) xs j).map inL).length := by omega
        have hst : ((dfR (fun x => x == i) xs j).map inL).set (dfK (fun x => x == i) xs j).length [.v (.int .i64 xs[j])] = (dfR (fun x => x == i) xs (j + 1)).map inL := by rw [← f2, List.map_set]; rfl
        ((repeat' (first
    | (show SQ _ _ _ _ _ _ _ _; first | apply sq_nil | (apply q_move; exact rfl; exact rfl) | (apply q_assign; exact rfl; exact rfl) | (apply q_not; exact rfl; exact rfl) | (apply q_lenl; exact rfl; exact rfl; exact (ty rfl); exact rfl) | (apply q_add; iterate 3 exact rfl) | (apply q_lss; iterate 3 exact rfl) | (apply q_ixl; (iterate 3 exact rfl); exact (ty rfl); (iterate 3 exact rfl); exact (by first | omega | (simp; done) | (simp; omega)); exact (by first | omega | (simp; done) | (simp; omega))) | (apply q_ld1p; exact rfl; exact rfl; exact (ty rfl); exact rfl; exact rfl; exact (by first | rfl | assumption | ((try simp only [Nat.zero_add]); refine List.getElem?_set_self ?_; (try simp only [List.length_set]); assumption)); exact rfl))
    | (show SQ _ _ _ _ _ _ _ _; (first | (apply q_store; exact rfl; exact rfl; exact (ty rfl); exact rfl; exact (by first | rfl | assumption | ((try simp only [Nat.zero_add]); refine List.getElem?_set_self ?_; (try simp only [List.length_set]); assumption)); iterate 3 exact rfl) | (apply q_callU; (iterate 3 exact rfl); exact FzL.of rfl; exact hC _)); (try simp only [put, rowsOf, plR, selE, ovr, setH, del, cellsA, splice, isV, spq, if_true, if_false]))
    | (show AW _ _ _ _ _ _ _ _; first | refine aw_region ?_ | (refine aw_seqk ?_; intro K hK) | refine aw_block ?_ | (apply aw_cond_t; exact rfl; exact rfl) | (apply aw_cond_t; exact rfl; exact (by assumption)) | refine aw_skip ?_)
    | refine thn_n ?_
    | (refine hK _ _ _ ?_; clear hK K)
    | refine inb_n ?_)); all_goals (repeat (clear hK K)))
        all_goals (refine ⟨j + 1, fun z => z, ⟨c1, by omega⟩, by omega, ?_⟩; (try dsimp only); rw [f1l, ← hst, ← hw2, ← hw3]; exact ⟨by (repeat (refine ⟨by first | exact lk_i rfl rfl | exact lk_s rfl rfl rfl rfl | exact lk_f rfl, ?_⟩)); exact trivial, by (repeat (refine ⟨by first | exact ⟨rfl, rfl, rfl⟩, ?_⟩)); exact trivial, by rfl, by (intro i hi; (try dsimp only); refine ⟨?_, ?_⟩ <;> first | rfl | omega | (simp at hi; omega) | (simp; omega))⟩)
    · have b2 : decide ((j : Int) < (xs.length : Int)) = false := by simpa using c1
      obtain rfl : j = xs.length := by omega
      have hKe : dfK (fun x => x == i) xs xs.length = othI xs i := dfK_full _ _
      have hRe : dfR (fun x => x == i) xs xs.length = othI xs i ++ xs.drop (othI xs i).length := by unfold dfR; rw [hKe]
      rw [hKe] at hKl ⊢
      rw [hRe] at hRm hRl ⊢
      generalize othI xs i = ys at *
      have hfin : List.take ys.length ((ys ++ xs.drop ys.length).map inL) ++ List.replicate (xs.length - ys.length) [AV.v (.int .i64 0)] ++ List.drop (ys.length + (xs.length - ys.length)) ((ys ++ xs.drop ys.length).map inL) = ys.map inL ++ List.replicate (xs.length - ys.length) [AV.v (.int .i64 0)] := by
        have e5 : List.drop (ys.length + (xs.length - ys.length)) ((ys ++ xs.drop ys.length).map inL) = [] := List.drop_eq_nil_of_le (by rw [hRm]; omega)
        rw [e5, List.append_nil, List.map_append, List.take_left' (by simp)]
      ((repeat' (first
    | (show SQ _ _ _ _ _ _ _ _; first | apply sq_nil | (apply q_move; exact rfl; exact rfl) | (apply q_assign; exact rfl; exact rfl) | (apply q_lenl; exact rfl; exact rfl; exact (ty rfl); exact rfl) | (apply q_lss; iterate 3 exact rfl) | (apply q_ssl_h; (iterate 3 exact rfl); exact (ty rfl); exact rfl; exact rfl; exact (by first | omega | (simp; done) | (simp; omega)); exact (by first | omega | (simp; done) | (simp; omega)); exact (by first | omega | (simp; done) | (simp; omega))) | (apply q_ssl_l; (iterate 3 exact rfl); exact (ty rfl); exact rfl; exact rfl; exact (by first | omega | (simp; done) | (simp; omega)); exact (by first | omega | (simp; done) | (simp; omega)); exact (by first | omega | (simp; done) | (simp; omega))))
    | (show SQ _ _ _ _ _ _ _ _; (first | (apply q_clrs; exact rfl; exact rfl; exact (ty rfl); exact rfl; exact rfl; exact (by first | omega | (simp; done) | (simp; omega)); exact rfl; exact rfl)); (try simp only [put, rowsOf, plR, selE, ovr, setH, del, cellsA, splice, isV, spq, if_true, if_false]))
    | (show AW _ _ _ _ _ _ _ _; first | refine aw_region ?_ | (refine aw_seqk ?_; intro K hK) | (apply aw_cond_f; exact rfl; exact (by assumption)) | refine aw_ret ?_ | refine aw_exit ?_)
    | refine thn_n ?_
    | (refine hK _ _ _ ?_; clear hK K)
    | refine thn_e ?_
    | refine inb_same ?_
    | (clear hK K; refine hK _ _ _ ?_; clear hK K))); all_goals (repeat (clear hK K)))
      all_goals refine finc (fun z => z) (.r1 _ _ (.tmp _ _ rfl)) (by simp only [renA]; rfl) (fun _ _ => rfl) ⟨?_, trivial⟩ rfl
      rw [← hfin]; rfl
end Go.Proofs.Ytglfcaioapdiaaa.Bk

namespace Go.Proofs.Ytglfcaioapdiaaa.Bk
open Go Go.RowKit Go.Proofs.Ytglfcaioapdiaaa.Aw
set_option linter.unusedSimpArgs false
set_option linter.unusedVariables false
attribute [local irreducible] AW SQ Step RO RC DE Thn InB
theorem finc_n {P : Program} {rs : List ResultVar} {g n : Nat} {u v : AV} {E : Ef} {T : Tp} {H : Hp} (ρ : Nat → Nat) (hr : ResV P T H rs u) (e : u = renA ρ v) (hp : ∀ i, i < g → ρ i = i) (hl : liveE H ρ E) (hi : injB ρ (E.filterMap fun p => p.2.map fun _ => p.1) = true) :
    Finc P rs g v E .normal T H n := finc (n := n) ρ hr e hp hl hi
def lsw (xs : List Int) (i j : Nat) : List Int := (xs.set i (xs.getD j 0)).set j (xs.getD i 0)
theorem lsw_len (xs : List Int) (i j : Nat) : (lsw xs i j).length = xs.length := by simp [lsw]
def swR (xs : List Int) (a b : Nat) : Nat → List Int
  | 0 => xs
  | i + 1 => lsw (swR xs a b i) (a + i) (b + i)
theorem swR_len (xs : List Int) (a b : Nat) : ∀ i, (swR xs a b i).length = xs.length
  | 0 => rfl
  | i + 1 => by rw [swR, lsw_len, swR_len xs a b i]
theorem inL_get {xs : List Int} {i : Nat} (h : i < xs.length) : (xs.map inL)[0 + ((i : Int)).toNat]? = some [.v (.int .i64 (xs.getD i 0))] := by
  rw [Nat.zero_add, Int.toNat_natCast]; simp [h, inL]
theorem lsw_rows {xs : List Int} {i j : Nat} : ((xs.map inL).set i [.v (.int .i64 (xs.getD j 0))]).set j [.v (.int .i64 (xs.getD i 0))] = (lsw xs i j).map inL := by
  rw [lsw, List.map_set, List.map_set]; rfl
theorem inL_set {xs : List Int} {i j : Nat} (v : AV) (h : j < xs.length) : ∃ y, ((xs.map inL).set i [v])[0 + ((j : Int)).toNat]? = some [y] := by
  rw [Nat.zero_add, Int.toNat_natCast, List.getElem?_set]
  split
  · rename_i e; rw [if_pos (by simpa [e] using h)]; exact ⟨v, rfl⟩
  · exact ⟨_, by rw [List.getElem?_map, List.getElem?_eq_getElem h]; rfl⟩
abbrev stC (n : Int) (ls : List Ln) : AV := .fn 77 [.dptr (bkL n ls)]
set_option maxHeartbeats 4000000 in
theorem swapRange_rc (n : Int) (ls : List Ln) (xs : List Int) (a b m : Nat) (hx : xs.length ≤ 1048576) (ha : a + m ≤ xs.length) (hb : b + m ≤ xs.length) (bi k : Nat) :
    RC Try.prog 140 [.sl bi 0 xs.length, .v (.int .i64 (a : Int)), .v (.int .i64 (b : Int)), .v (.int .i64 (m : Int)), stC n ls] [(bi, ⟨2, 1, true, xs.map inL⟩)] k (.tup []) [(bi, some ⟨2, 1, true, (swR xs a b m).map inL⟩)] k := by
  have hml : (xs.map inL).length = xs.length := List.length_map _
  refine RC.ofc [bi] 0 [.sl 0 0 xs.length, .v (.int .i64 (a : Int)), .v (.int .i64 (b : Int)), .v (.int .i64 (m : Int)), stC n ls] [(0, ⟨2, 1, true, xs.map inL⟩)] (.tup []) [(0, some ⟨2, 1, true, (swR xs a b m).map inL⟩)] Try.func140 Try.ntmps140 rfl (goFn_of Try.func140 rfl (by kernel_rfl)) rfl rfl rfl rfl rfl rfl rfl rfl (by simp_all) rfl ?_
  ((repeat' (first
    | (show SQ _ _ _ _ _ _ _ _; first | apply sq_nil | (apply q_assign; exact rfl; exact rfl))
    | (show AW _ _ _ _ _ _ _ _; first | refine aw_region ?_ | (refine aw_seqk ?_; intro K hK) | refine aw_block ?_)
    | refine thn_n ?_
    | (refine hK _ _ _ ?_; clear hK K))); all_goals (repeat (clear hK K)))
  refine aw_loop (ρ := fun z => z) (ι := Nat) (fun i => ([(10, .v (.int .i64 i)), (3, .v (.int .i64 (m : Int))), (2, .v (.int .i64 (b : Int))), (1, .v (.int .i64 (a : Int))), (0, .sl 0 0 xs.length)], [(0, ⟨2, 1, true, (swR xs a b i).map inL⟩)], 1))
    (fun i => i ≤ m) (fun i => m - i) 0 (Nat.zero_le _) ⟨by (repeat (refine ⟨by first | exact lk_i rfl rfl | exact lk_s rfl rfl rfl rfl, ?_⟩)); exact trivial, by (repeat (refine ⟨by first | exact ⟨rfl, rfl, rfl⟩, ?_⟩)); exact trivial, by rfl, by (intro i hi; (try dsimp only); refine ⟨?_, ?_⟩ <;> first | rfl | omega | (simp at hi; omega) | (simp; omega))⟩ ?_
  intro i hi
  have hsl := swR_len xs a b i
  have hsm : ((swR xs a b i).map inL).length = xs.length := by rw [List.length_map, hsl]
  by_cases c1 : i < m
  · have b1 : decide ((i : Int) < (m : Int)) = true := by simpa using c1
    have hw : IntKind.i64.wrap ((i : Int) + 1) = ((i + 1 : Nat) : Int) := by rw [IntWalk.i64_in _ (by omega)]; omega
    have hwa : IntKind.i64.wrap ((a : Int) + i) = ((a + i : Nat) : Int) := by rw [IntWalk.i64_in _ (by omega)]; omega
    have hwb : IntKind.i64.wrap ((b : Int) + i) = ((b + i : Nat) : Int) := by rw [IntWalk.i64_in _ (by omega)]; omega
    have hra := inL_get (xs := swR xs a b i) (i := a + i) (by omega)
    have hrb := inL_get (xs := swR xs a b i) (i := b + i) (by omega)
    obtain ⟨y, hrc⟩ := inL_set (xs := swR xs a b i) (i := ((a + i : Nat) : Int).toNat) (j := b + i) (.v (.int .i64 ((swR xs a b i).getD (b + i) 0))) (by omega)
    have hfin : (((swR xs a b i).map inL).set (IntKind.i64.wrap ((a : Int) + i)).toNat [.v (.int .i64 ((swR xs a b i).getD (b + i) 0))]).set (IntKind.i64.wrap ((b : Int) + i)).toNat [.v (.int .i64 ((swR xs a b i).getD (a + i) 0))] = (swR xs a b (i + 1)).map inL := by
      rw [hwa, hwb, Int.toNat_natCast, Int.toNat_natCast, lsw_rows]; rfl
    rw [← hwa] at hra hrc
    rw [← hwb] at hrb hrc
    ((repeat' (first
    | (show SQ _ _ _ _ _ _ _ _; first | apply sq_nil | (apply q_move; exact rfl; exact rfl) | (apply q_assign; exact rfl; exact rfl) | (apply q_add; iterate 3 exact rfl) | (apply q_lss; iterate 3 exact rfl))
    | (show DE _ _ _ _ _ _ _ _ _ _ _ _; first | (apply e_move; iterate 3 exact rfl) | (apply e_add; iterate 4 exact rfl) | (apply e_ixl; (iterate 3 exact rfl); exact (ty rfl); (iterate 3 exact rfl); exact (by first | omega | (simp; done) | (simp; omega)); exact (by first | omega | (simp; done) | (simp; omega)); exact rfl) | (apply e_ld1p; exact rfl; exact rfl; exact (ty rfl); exact rfl; exact rfl; exact (by first | rfl | assumption | ((try simp only [Nat.zero_add]); refine List.getElem?_set_self ?_; (try simp only [List.length_set]); assumption)); exact rfl; exact rfl))
    | (show DE _ _ _ _ _ _ _ _ _ _ _ _; (first | (apply dr_nil; exact trivial) | (apply e_store; exact rfl; exact rfl; exact (ty rfl); exact rfl; exact (by first | rfl | assumption | ((try simp only [Nat.zero_add]); refine List.getElem?_set_self ?_; (try simp only [List.length_set]); assumption)); iterate 4 exact rfl)); (try simp only [put, rowsOf, plR, selE, ovr, setH, del, cellsA, splice, isV, spq, if_true, if_false]))
    | (show AW _ _ _ _ _ _ _ _; first | refine aw_region ?_ | (refine aw_seqk ?_; intro K hK) | refine aw_block ?_ | (apply aw_cond_t; exact rfl; exact (by assumption)) | refine aw_skip ?_ | refine aw_drawE (id := 3) [0, 0, 0, 6, 0, 0, 0, 96, 0, 0, 0, 1536, 3840, 7936, 0, 0, 0, 98304, 245760, 507904, 1048335, 2096911, 4194303, 8388607] [0, 0, 0, 0, 0, 0, 0, 0, 0, 0, 0, 0, 1, 1, 0, 0, 0, 0, 1, 1, 1, 2, 1, 2] mixed (by kernel_rfl) ?_)
    | refine thn_n ?_
    | (refine hK _ _ _ ?_; clear hK K)
    | refine inb_n ?_)); all_goals (repeat (clear hK K)))
    all_goals (refine ⟨i + 1, fun z => z, c1, by omega, ?_⟩; (try dsimp only); rw [← hfin, ← hw]; exact ⟨by (repeat (refine ⟨by first | exact lk_i rfl rfl | exact lk_s rfl rfl rfl rfl, ?_⟩)); exact trivial, by (repeat (refine ⟨by first | exact ⟨rfl, rfl, rfl⟩, ?_⟩)); exact trivial, by rfl, by (intro i hi; (try dsimp only); refine ⟨?_, ?_⟩ <;> first | rfl | omega | (simp at hi; omega) | (simp; omega))⟩)
  · have b1 : decide ((i : Int) < (m : Int)) = false := by simpa using c1
    obtain rfl : i = m := by omega
    ((repeat' (first
    | (show SQ _ _ _ _ _ _ _ _; first | apply sq_nil | (apply q_move; exact rfl; exact rfl) | (apply q_lss; iterate 3 exact rfl))
    | (show AW _ _ _ _ _ _ _ _; first | refine aw_region ?_ | (refine aw_seqk ?_; intro K hK) | (apply aw_cond_f; exact rfl; exact (by assumption)) | refine aw_exit ?_)
    | refine thn_n ?_
    | (refine hK _ _ _ ?_; clear hK K)
    | refine thn_e ?_
    | refine inb_same ?_)); all_goals (repeat (clear hK K)))
    all_goals exact finc_n (fun z => z) .r0 (by simp only [renA, renL]) (fun _ _ => rfl) ⟨rfl, trivial⟩ rfl
end Go.Proofs.Ytglfcaioapdiaaa.Bk

namespace Go.Proofs.Ytglfcaioapdiaaa.Bk
open Go Go.RowKit Go.Proofs.Ytglfcaioapdiaaa.Aw
set_option linter.unusedSimpArgs false
set_option linter.unusedVariables false
attribute [local irreducible] AW SQ Step RO RC DE Thn InB
def rotF (m : Nat) : Nat → Nat → Nat → List Int → List Int
  | 0, _, _, xs => xs
  | f + 1, i, j, xs => if i = j then swR xs (m - i) m i else if j < i then rotF m f (i - j) j (swR xs (m - i) m j) else rotF m f i (j - i) (swR xs (m - i) (m + j - i) i)
set_option maxHeartbeats 4000000 in
theorem rotate_rc (n : Int) (ls : List Ln) (xs : List Int) (a m b : Nat) (hx : xs.length ≤ 1048576) (ha : a < m) (hb : m < b) (hbx : b ≤ xs.length) (bi k : Nat) :
    RC Try.prog 138 [.sl bi 0 xs.length, .v (.int .i64 (a : Int)), .v (.int .i64 (m : Int)), .v (.int .i64 (b : Int)), stC n ls] [(bi, ⟨2, 1, true, xs.map inL⟩)] k (.tup []) [(bi, some ⟨2, 1, true, (rotF m (b - a) (m - a) (b - m) xs).map inL⟩)] k := by
  have hml : (xs.map inL).length = xs.length := List.length_map _
  have hw1 : IntKind.i64.wrap ((m : Int) - a) = ((m - a : Nat) : Int) := by rw [IntWalk.i64_in _ (by omega)]; omega
  have hw2 : IntKind.i64.wrap ((b : Int) - m) = ((b - m : Nat) : Int) := by rw [IntWalk.i64_in _ (by omega)]; omega
  generalize hQ : rotF m (b - a) (m - a) (b - m) xs = Q
  refine RC.ofc [bi] 0 [.sl 0 0 xs.length, .v (.int .i64 (a : Int)), .v (.int .i64 (m : Int)), .v (.int .i64 (b : Int)), stC n ls] [(0, ⟨2, 1, true, xs.map inL⟩)] (.tup []) [(0, some ⟨2, 1, true, Q.map inL⟩)] Try.func138 Try.ntmps138 rfl (goFn_of Try.func138 rfl (by kernel_rfl)) rfl rfl rfl rfl rfl rfl rfl rfl (by simp_all) rfl ?_
  ((repeat' (first
    | (show SQ _ _ _ _ _ _ _ _; first | apply sq_nil | (apply q_move; exact rfl; exact rfl) | (apply q_assign; exact rfl; exact rfl) | (apply q_sub; iterate 3 exact rfl))
    | (show AW _ _ _ _ _ _ _ _; first | refine aw_region ?_ | (refine aw_seqk ?_; intro K hK) | refine aw_block ?_)
    | refine thn_n ?_
    | (refine hK _ _ _ ?_; clear hK K))); all_goals (repeat (clear hK K)))
  rw [hw1, hw2]
  refine aw_loop (ρ := fun z => z) (ι := Nat × Nat × Nat × List Int) (fun s => ([(11, .v (.int .i64 (s.2.2.1 : Int))), (10, .v (.int .i64 (s.2.1 : Int))), (4, stC n ls), (2, .v (.int .i64 (m : Int))), (0, .sl 0 0 xs.length)], [(0, ⟨2, 1, true, s.2.2.2.map inL⟩)], 1))
    (fun s => 1 ≤ s.2.1 ∧ 1 ≤ s.2.2.1 ∧ s.2.1 ≤ m ∧ m + s.2.2.1 ≤ xs.length ∧ s.2.1 + s.2.2.1 ≤ s.1 ∧ s.2.2.2.length = xs.length ∧ rotF m s.1 s.2.1 s.2.2.1 s.2.2.2 = Q) (fun s => s.1) (b - a, m - a, b - m, xs) ⟨by dsimp only; omega, by dsimp only; omega, by dsimp only; omega, by dsimp only; omega, by dsimp only; omega, rfl, hQ⟩ ⟨by (repeat (refine ⟨by first | exact lk_i rfl rfl | exact lk_s rfl rfl rfl rfl | exact lk_f rfl, ?_⟩)); exact trivial, by (repeat (refine ⟨by first | exact ⟨rfl, rfl, rfl⟩, ?_⟩)); exact trivial, by rfl, by (intro i hi; (try dsimp only); refine ⟨?_, ?_⟩ <;> first | rfl | omega | (simp at hi; omega) | (simp; omega))⟩ ?_
  rintro ⟨f, i, j, ys⟩ ⟨i1, j1, im, mj, hf, hy, hg⟩
  dsimp only at i1 j1 im mj hf hy hg
  obtain ⟨f, rfl⟩ : ∃ f', f = f' + 1 := ⟨f - 1, by omega⟩
  have hym : (ys.map inL).length = xs.length := by rw [List.length_map, hy]
  have hwm : IntKind.i64.wrap ((m : Int) - i) = ((m - i : Nat) : Int) := by rw [IntWalk.i64_in _ (by omega)]; omega
  rw [rotF] at hg
  by_cases c1 : i = j
  · have b1 : ((i : Int) != (j : Int)) = false := by subst c1; simp
    rw [if_pos c1] at hg
    have hS := swapRange_rc n ls ys (m - i) m i (by omega) (by omega) (by omega) 0 1
    rw [hg, hy, ← hwm] at hS
    ((repeat' (first
    | (show SQ _ _ _ _ _ _ _ _; first | apply sq_nil | (apply q_move; exact rfl; exact rfl) | (apply q_sub; iterate 3 exact rfl) | (apply q_neq; iterate 3 exact rfl))
    | (show SQ _ _ _ _ _ _ _ _; (first | (apply q_callC; (iterate 3 exact rfl); exact hS; (focus ((repeat (first | exact trivial | refine ⟨by first | exact rfl | assumption, ?_⟩)); done)); skip)); (try simp only [put, rowsOf, plR, selE, ovr, setH, del, cellsA, splice, isV, spq, if_true, if_false]))
    | (show AW _ _ _ _ _ _ _ _; first | refine aw_region ?_ | (refine aw_seqk ?_; intro K hK) | (apply aw_cond_f; exact rfl; exact (by assumption)) | refine aw_exit ?_)
    | refine thn_n ?_
    | (refine hK _ _ _ ?_; clear hK K)
    | refine thn_e ?_
    | refine inb_same ?_
    | (clear hK K; refine hK _ _ _ ?_; clear hK K))); all_goals (repeat (clear hK K)))
    all_goals exact finc_n (fun z => z) .r0 (by simp only [renA, renL]) (fun _ _ => rfl) ⟨rfl, trivial⟩ rfl
  · have b1 : ((i : Int) != (j : Int)) = true := by simp; omega
    rw [if_neg c1] at hg
    by_cases c2 : j < i
    · have b2 : decide ((j : Int) < (i : Int)) = true := by simpa using c2
      rw [if_pos c2] at hg
      have hS := swapRange_rc n ls ys (m - i) m j (by omega) (by omega) (by omega) 0 1
      rw [hy, ← hwm] at hS
      have hsl := swR_len ys (m - i) m j
      have hw : IntKind.i64.wrap ((i : Int) - j) = ((i - j : Nat) : Int) := by rw [IntWalk.i64_in _ (by omega)]; omega
      ((repeat' (first
    | (show SQ _ _ _ _ _ _ _ _; first | apply sq_nil | (apply q_move; exact rfl; exact rfl) | (apply q_assign; exact rfl; exact rfl) | (apply q_sub; iterate 3 exact rfl) | (apply q_neq; iterate 3 exact rfl) | (apply q_gtr; iterate 3 exact rfl))
    | (show SQ _ _ _ _ _ _ _ _; (first | (apply q_callC; (iterate 3 exact rfl); exact hS; (focus ((repeat (first | exact trivial | refine ⟨by first | exact rfl | assumption, ?_⟩)); done)); skip)); (try simp only [put, rowsOf, plR, selE, ovr, setH, del, cellsA, splice, isV, spq, if_true, if_false]))
    | (show AW _ _ _ _ _ _ _ _; first | refine aw_region ?_ | (refine aw_seqk ?_; intro K hK) | refine aw_block ?_ | (apply aw_cond_t; exact rfl; exact (by assumption)) | refine aw_skip ?_)
    | refine thn_n ?_
    | (refine hK _ _ _ ?_; clear hK K)
    | refine inb_n ?_)); all_goals (repeat (clear hK K)))
      all_goals (refine ⟨(f, i - j, j, swR ys (m - i) m j), fun z => z, ⟨by dsimp only; omega, j1, by dsimp only; omega, mj, by dsimp only; omega, by dsimp only; omega, hg⟩, by dsimp only; omega, ?_⟩; (try dsimp only); rw [← hw]; exact ⟨by (repeat (refine ⟨by first | exact lk_i rfl rfl | exact lk_s rfl rfl rfl rfl | exact lk_f rfl, ?_⟩)); exact trivial, by (repeat (refine ⟨by first | exact ⟨rfl, rfl, rfl⟩, ?_⟩)); exact trivial, by rfl, by (intro i hi; (try dsimp only); refine ⟨?_, ?_⟩ <;> first | rfl | omega | (simp at hi; omega) | (simp; omega))⟩)
    · have b2 : decide ((j : Int) < (i : Int)) = false := by simpa using c2
      rw [if_neg c2] at hg
      have hS := swapRange_rc n ls ys (m - i) (m + j - i) i (by omega) (by omega) (by omega) 0 1
      have hwj : IntKind.i64.wrap (IntKind.i64.wrap ((m : Int) + j) - i) = ((m + j - i : Nat) : Int) := by
        have e1 : IntKind.i64.wrap ((m : Int) + j) = (m : Int) + j := IntWalk.i64_in _ (by omega)
        rw [e1, IntWalk.i64_in _ (by omega)]; omega
      rw [hy, ← hwm, ← hwj] at hS
      have hsl := swR_len ys (m - i) (m + j - i) i
      have hw : IntKind.i64.wrap ((j : Int) - i) = ((j - i : Nat) : Int) := by rw [IntWalk.i64_in _ (by omega)]; omega
      ((repeat' (first
    | (show SQ _ _ _ _ _ _ _ _; first | apply sq_nil | (apply q_move; exact rfl; exact rfl) | (apply q_assign; exact rfl; exact rfl) | (apply q_add; iterate 3 exact rfl) | (apply q_sub; iterate 3 exact rfl) | (apply q_neq; iterate 3 exact rfl) | (apply q_gtr; iterate 3 exact rfl))
    | (show SQ _ _ _ _ _ _ _ _; (first | (apply q_callC; (iterate 3 exact rfl); exact hS; (focus ((repeat (first | exact trivial | refine ⟨by first | exact rfl | assumption, ?_⟩)); done)); skip)); (try simp only [put, rowsOf, plR, selE, ovr, setH, del, cellsA, splice, isV, spq, if_true, if_false]))
    | (show AW _ _ _ _ _ _ _ _; first | refine aw_region ?_ | (refine aw_seqk ?_; intro K hK) | refine aw_block ?_ | (apply aw_cond_t; exact rfl; exact (by assumption)) | (apply aw_cond_f; exact rfl; exact (by assumption)) | refine aw_skip ?_)
    | refine thn_n ?_
    | (refine hK _ _ _ ?_; clear hK K)
    | refine inb_n ?_)); all_goals (repeat (clear hK K)))
      all_goals (refine ⟨(f, i, j - i, swR ys (m - i) (m + j - i) i), fun z => z, ⟨i1, by dsimp only; omega, im, by dsimp only; omega, by dsimp only; omega, by dsimp only; omega, hg⟩, by dsimp only; omega, ?_⟩; (try dsimp only); rw [← hw]; exact ⟨by (repeat (refine ⟨by first | exact lk_i rfl rfl | exact lk_s rfl rfl rfl rfl | exact lk_f rfl, ?_⟩)); exact trivial, by (repeat (refine ⟨by first | exact ⟨rfl, rfl, rfl⟩, ?_⟩)); exact trivial, by rfl, by (intro i hi; (try dsimp only); refine ⟨?_, ?_⟩ <;> first | rfl | omega | (simp at hi; omega) | (simp; omega))⟩)
end Go.Proofs.Ytglfcaioapdiaaa.Bk

namespace Go.Proofs.Ytglfcaioapdiaaa.Bk
open Go Go.RowKit Go.Proofs.Ytglfcaioapdiaaa.Aw
set_option linter.unusedSimpArgs false
set_option linter.unusedVariables false
attribute [local irreducible] AW SQ Step RO RC DE Thn InB
def kO (ls : List Ln) (x : Int) : Int := (ls.getD x.toNat lnz).o
def ltO (ls : List Ln) (x y : Int) : Bool := decide (kO ls x < kO ls y)
def Vd (ls : List Ln) (xs : List Int) : Prop := ∀ x ∈ xs, 0 ≤ x ∧ x < ls.length
theorem Vd.at {ls : List Ln} {xs : List Int} (h : Vd ls xs) {i : Nat} (hi : i < xs.length) : 0 ≤ xs.getD i 0 ∧ xs.getD i 0 < ls.length := by
  have : xs.getD i 0 = xs[i] := by simp [List.getD, hi]
  rw [this]; exact h _ (List.getElem_mem hi)
theorem lsw_mem {xs : List Int} {i j : Nat} (hi : i < xs.length) (hj : j < xs.length) : ∀ x ∈ lsw xs i j, x ∈ xs := fun x hx => by
  unfold lsw at hx
  have e1 : xs.getD i 0 = xs[i] := by simp [List.getD, hi]
  have e2 : xs.getD j 0 = xs[j] := by simp [List.getD, hj]
  rcases List.mem_or_eq_of_mem_set hx with h | h
  · rcases List.mem_or_eq_of_mem_set h with h | h
    · exact h
    · rw [h, e2]; exact List.getElem_mem hj
  · rw [h, e1]; exact List.getElem_mem hi
theorem Vd.lsw {ls : List Ln} {xs : List Int} (h : Vd ls xs) {i j : Nat} (hi : i < xs.length) (hj : j < xs.length) : Vd ls (lsw xs i j) := fun x hx => h x (lsw_mem hi hj x hx)
theorem i64c_lt (x y : Int) : decide (i64c x y < 0) = decide (x < y) := by
  unfold i64c
  split
  · simp [*]
  · split <;> simp [*]
set_option maxHeartbeats 4000000 in
theorem stClos_ro (n : Int) (ls : List Ln) (x y : Int) (hn : ls.length ≤ 1048576) (hx : 0 ≤ x ∧ x < ls.length) (hy : 0 ≤ y ∧ y < ls.length) (k : Nat) : RO Try.prog 77 [.v (.int .i64 x), .v (.int .i64 y), .dptr (bkL n ls)] k (.v (.int .i64 (i64c (kO ls x) (kO ls y)))) [] k := by
  obtain ⟨i, rfl⟩ : ∃ i : Nat, x = i := ⟨x.toNat, by omega⟩
  obtain ⟨j, rfl⟩ : ∃ j : Nat, y = j := ⟨y.toNat, by omega⟩
  have hi : i < ls.length := by omega
  have hj : j < ls.length := by omega
  have hli : (ls.map lnL).length = ls.length := List.length_map _
  have hr1 : (ls.map lnL)[((i : Int)).toNat]? = some (lnL ls[i]) := by simp [hi]
  have hr2 : (ls.map lnL)[((j : Int)).toNat]? = some (lnL ls[j]) := by simp [hj]
  rw [lnL_eq] at hr1 hr2
  have e1 : kO ls i = ls[i].o := by simp [kO, List.getD, hi]
  have e2 : kO ls j = ls[j].o := by simp [kO, List.getD, hj]
  rw [e1, e2]
  refine RO.ofv' Try.func77 Try.ntmps77 rfl (goFn_of Try.func77 rfl (by kernel_rfl)) rfl rfl ?_
  unfold bkL
  ((repeat' (first
    | (show SQ _ _ _ _ _ _ _ _; first | apply sq_nil | (apply q_assign; exact rfl; exact rfl))
    | (show DE _ _ _ _ _ _ _ _ _ _ _ _; first | (apply e_move; iterate 3 exact rfl) | (apply e_assign; iterate 3 exact rfl) | (apply e_fieldAddr; exact rfl; exact rfl; exact (ty rfl); iterate 5 exact rfl) | (apply e_ixd; (iterate 3 exact rfl); exact (ty rfl); exact rfl; exact (by first | omega | (simp; done) | (simp; omega)); exact (by first | omega | (simp; done) | (simp; omega)); exact (by first | rfl | assumption); exact rfl) | (apply e_ld1d; exact rfl; exact rfl; exact (ty rfl); iterate 3 exact rfl))
    | (show DE _ _ _ _ _ _ _ _ _ _ _ _; (first | (apply dr_nil; exact trivial) | (apply e_callU; (iterate 3 exact rfl); exact FzL.of rfl; exact Compare_ro _ _ _; exact rfl)); (try simp only [put, rowsOf, plR, selE, ovr, setH, del, cellsA, splice, isV, spq, if_true, if_false]))
    | (show AW _ _ _ _ _ _ _ _; first | refine aw_region ?_ | (refine aw_seqk ?_; intro K hK) | refine aw_ret ?_ | refine aw_drawE (id := 1) [0, 1, 0, 7, 15, 31, 0, 64, 0, 448, 960, 1984, 4095, 8191] [0, 1, 0, 0, 0, 1, 0, 1, 0, 0, 0, 1, 1, 0] mixed (by kernel_rfl) ?_)
    | refine thn_n ?_
    | (refine hK _ _ _ ?_; clear hK K))); all_goals (repeat (clear hK K)))
  all_goals exact fin_r (fin_i rfl rfl)
def insJ (lt : Int → Int → Bool) (a : Nat) : Nat → List Int → List Int
  | 0, xs => xs
  | j + 1, xs => if (decide (a < j + 1) && lt (xs.getD (j + 1) 0) (xs.getD j 0)) = true then insJ lt a j (lsw xs (j + 1) j) else xs
def insO (lt : Int → Int → Bool) (a : Nat) : Nat → List Int → List Int
  | 0, xs => xs
  | c + 1, xs => insJ lt a (a + 1 + c) (insO lt a c xs)
theorem insJ_len (lt : Int → Int → Bool) (a : Nat) : ∀ (j : Nat) (xs : List Int), (insJ lt a j xs).length = xs.length
  | 0, xs => rfl
  | j + 1, xs => by
    rw [insJ]; split
    · rw [insJ_len lt a j, lsw_len]
    · rfl
theorem insJ_mem (lt : Int → Int → Bool) (a : Nat) : ∀ (j : Nat) (xs : List Int), j < xs.length → ∀ x ∈ insJ lt a j xs, x ∈ xs
  | 0, xs, _, x, hx => hx
  | j + 1, xs, hj, x, hx => by
    rw [insJ] at hx
    split at hx
    · exact lsw_mem hj (by omega) x (insJ_mem lt a j _ (by rw [lsw_len]; omega) x hx)
    · exact hx
theorem insO_len (lt : Int → Int → Bool) (a : Nat) (xs : List Int) : ∀ c, (insO lt a c xs).length = xs.length
  | 0 => rfl
  | c + 1 => by rw [insO, insJ_len, insO_len lt a xs c]
theorem insO_mem (lt : Int → Int → Bool) (a : Nat) (xs : List Int) : ∀ c, a + c < xs.length ∨ c = 0 → ∀ x ∈ insO lt a c xs, x ∈ xs
  | 0, _, x, hx => hx
  | c + 1, h, x, hx => by
    rw [insO] at hx
    exact insO_mem lt a xs c (by omega) x (insJ_mem lt a _ _ (by rw [insO_len]; omega) x hx)
set_option maxHeartbeats 4000000 in
theorem insertionSort_rc (n : Int) (ls : List Ln) (xs : List Int) (a b : Nat) (hn : ls.length ≤ 1048576) (hx : xs.length ≤ 1048576) (hv : Vd ls xs) (ha : a ≤ b) (hb : b ≤ xs.length) (bi k : Nat) :
    RC Try.prog 130 [.sl bi 0 xs.length, .v (.int .i64 (a : Int)), .v (.int .i64 (b : Int)), stC n ls] [(bi, ⟨2, 1, true, xs.map inL⟩)] k (.tup []) [(bi, some ⟨2, 1, true, (insO (ltO ls) a (b - (a + 1)) xs).map inL⟩)] k := by
  have hml : (xs.map inL).length = xs.length := List.length_map _
  have hwa : IntKind.i64.wrap ((a : Int) + 1) = ((a + 1 + 0 : Nat) : Int) := by rw [IntWalk.i64_in _ (by omega)]; omega
  refine RC.ofc [bi] 0 [.sl 0 0 xs.length, .v (.int .i64 (a : Int)), .v (.int .i64 (b : Int)), stC n ls] [(0, ⟨2, 1, true, xs.map inL⟩)] (.tup []) [(0, some ⟨2, 1, true, (insO (ltO ls) a (b - (a + 1)) xs).map inL⟩)] Try.func130 Try.ntmps130 rfl (goFn_of Try.func130 rfl (by kernel_rfl)) rfl rfl rfl rfl rfl rfl rfl rfl (by simp_all) rfl ?_
  ((repeat' (first
    | (show SQ _ _ _ _ _ _ _ _; first | apply sq_nil | (apply q_move; exact rfl; exact rfl) | (apply q_assign; exact rfl; exact rfl) | (apply q_add; iterate 3 exact rfl))
    | (show AW _ _ _ _ _ _ _ _; first | refine aw_region ?_ | (refine aw_seqk ?_; intro K hK) | refine aw_block ?_)
    | refine thn_n ?_
    | (refine hK _ _ _ ?_; clear hK K))); all_goals (repeat (clear hK K)))
  rw [hwa]
  refine aw_loop (ρ := fun z => z) (ι := Nat) (fun c => ([(8, .v (.int .i64 ((a + 1 + c : Nat) : Int))), (3, stC n ls), (2, .v (.int .i64 (b : Int))), (1, .v (.int .i64 (a : Int))), (0, .sl 0 0 xs.length)], [(0, ⟨2, 1, true, (insO (ltO ls) a c xs).map inL⟩)], 1))
    (fun c => c ≤ b - (a + 1)) (fun c => b - (a + 1) - c) 0 (Nat.zero_le _) ⟨by (repeat (refine ⟨by first | exact lk_i rfl rfl | exact lk_s rfl rfl rfl rfl | exact lk_f rfl, ?_⟩)); exact trivial, by (repeat (refine ⟨by first | exact ⟨rfl, rfl, rfl⟩, ?_⟩)); exact trivial, by rfl, by (intro i hi; (try dsimp only); refine ⟨?_, ?_⟩ <;> first | rfl | omega | (simp at hi; omega) | (simp; omega))⟩ ?_
  intro c hc
  have hol := insO_len (ltO ls) a xs c
  have hom := insO_mem (ltO ls) a xs c (by omega)
  by_cases c1 : c < b - (a + 1)
  · have b1 : decide (((a + 1 + c : Nat) : Int) < (b : Int)) = true := by rw [decide_eq_true_eq]; omega
    have hwc : IntKind.i64.wrap (((a + 1 + c : Nat) : Int) + 1) = ((a + 1 + (c + 1) : Nat) : Int) := by rw [IntWalk.i64_in _ (by omega)]; omega
    have hQ : insJ (ltO ls) a (a + 1 + c) (insO (ltO ls) a c xs) = insO (ltO ls) a (c + 1) xs := rfl
    generalize insO (ltO ls) a c xs = zs at *
    generalize hQe : insO (ltO ls) a (c + 1) xs = Q at *
    ((repeat' (first
    | (show SQ _ _ _ _ _ _ _ _; first | apply sq_nil | (apply q_move; exact rfl; exact rfl) | (apply q_assign; exact rfl; exact rfl) | (apply q_lss; iterate 3 exact rfl))
    | (show AW _ _ _ _ _ _ _ _; first | refine aw_region ?_ | (refine aw_seqk ?_; intro K hK) | refine aw_block ?_ | (apply aw_cond_t; exact rfl; exact (by assumption)) | refine aw_skip ?_)
    | refine thn_n ?_
    | (refine hK _ _ _ ?_; clear hK K))); all_goals (repeat (clear hK K)))
    refine aw_loop (ρ := fun z => z) (ι := Nat × List Int) (fun s => ([(9, .v (.int .i64 (s.1 : Int))), (8, .v (.int .i64 ((a + 1 + c : Nat) : Int))), (3, stC n ls), (2, .v (.int .i64 (b : Int))), (1, .v (.int .i64 (a : Int))), (0, .sl 0 0 xs.length)], [(0, ⟨2, 1, true, s.2.map inL⟩)], 1))
      (fun s => a ≤ s.1 ∧ s.1 ≤ a + 1 + c ∧ s.2.length = xs.length ∧ Vd ls s.2 ∧ insJ (ltO ls) a s.1 s.2 = Q) (fun s => s.1) (a + 1 + c, zs) ⟨by dsimp only; omega, Nat.le_refl _, hol, fun x hx => hv x (hom x hx), hQ⟩ ⟨by (repeat (refine ⟨by first | exact lk_i rfl rfl | exact lk_s rfl rfl rfl rfl | exact lk_f rfl, ?_⟩)); exact trivial, by (repeat (refine ⟨by first | exact ⟨rfl, rfl, rfl⟩, ?_⟩)); exact trivial, by rfl, by (intro i hi; (try dsimp only); refine ⟨?_, ?_⟩ <;> first | rfl | omega | (simp at hi; omega) | (simp; omega))⟩ ?_
    rintro ⟨j, ys⟩ ⟨ja, jc, hyl, hyv, hg⟩
    dsimp only at ja jc hyl hyv hg
    dsimp only
    have hym : (ys.map inL).length = xs.length := by rw [List.length_map, hyl]
    by_cases c2 : a < j
    · have b2 : decide ((a : Int) < (j : Int)) = true := by simpa using c2
      obtain ⟨j, rfl⟩ : ∃ j', j = j' + 1 := ⟨j - 1, by omega⟩
      have hwj : IntKind.i64.wrap (((j + 1 : Nat) : Int) - 1) = (j : Int) := by rw [IntWalk.i64_in _ (by omega)]; omega
      have hr1 := inL_get (xs := ys) (i := j + 1) (by omega)
      have hr0 := inL_get (xs := ys) (i := j) (by omega)
      have hC := stClos_ro n ls (ys.getD (j + 1) 0) (ys.getD j 0) hn (hyv.at (by omega)) (hyv.at (by omega))
      rw [insJ, decide_eq_true c2, Bool.true_and] at hg
      by_cases c3 : kO ls (ys.getD (j + 1) 0) < kO ls (ys.getD j 0)
      · have b3 : decide (i64c (kO ls (ys.getD (j + 1) 0)) (kO ls (ys.getD j 0)) < 0) = true := by rw [i64c_lt]; simpa using c3
        rw [if_pos (by simpa [ltO] using c3)] at hg
        obtain ⟨y, hr3⟩ := inL_set (xs := ys) (i := ((j + 1 : Nat) : Int).toNat) (j := j) (.v (.int .i64 (ys.getD j 0))) (by omega)
        have hfin : ((ys.map inL).set (((j + 1 : Nat) : Int)).toNat [.v (.int .i64 (ys.getD j 0))]).set (IntKind.i64.wrap (((j + 1 : Nat) : Int) - 1)).toNat [.v (.int .i64 (ys.getD (j + 1) 0))] = (lsw ys (j + 1) j).map inL := by
          rw [hwj, Int.toNat_natCast, Int.toNat_natCast, lsw_rows]
        rw [← hwj] at hr0 hr3
        ((repeat' (first
    | (show SQ _ _ _ _ _ _ _ _; first | apply sq_nil | (apply q_move; exact rfl; exact rfl) | (apply q_assign; exact rfl; exact rfl) | (apply q_sub; iterate 3 exact rfl))
    | (show DE _ _ _ _ _ _ _ _ _ _ _ _; first | (apply e_move; iterate 3 exact rfl) | (apply e_pick_t; (iterate 3 exact rfl); exact (by first | assumption | exact rfl); exact rfl) | (apply e_sub; iterate 4 exact rfl) | (apply e_lss; iterate 4 exact rfl) | (apply e_gtr; iterate 4 exact rfl) | (apply e_ixl; (iterate 3 exact rfl); exact (ty rfl); (iterate 3 exact rfl); exact (by first | omega | (simp; done) | (simp; omega)); exact (by first | omega | (simp; done) | (simp; omega)); exact rfl) | (apply e_ld1p; exact rfl; exact rfl; exact (ty rfl); exact rfl; exact rfl; exact (by first | rfl | assumption | ((try simp only [Nat.zero_add]); refine List.getElem?_set_self ?_; (try simp only [List.length_set]); assumption)); exact rfl; exact rfl) | (apply e_g; (iterate 3 exact rfl); exact (by assumption)))
    | (show DE _ _ _ _ _ _ _ _ _ _ _ _; (first | (apply dr_nil; exact trivial) | (apply e_store; exact rfl; exact rfl; exact (ty rfl); exact rfl; exact (by first | rfl | assumption | ((try simp only [Nat.zero_add]); refine List.getElem?_set_self ?_; (try simp only [List.length_set]); assumption)); iterate 4 exact rfl) | (apply e_callU; (iterate 3 exact rfl); exact FzL.of rfl; exact hC _; exact rfl)); (try simp only [put, rowsOf, plR, selE, ovr, setH, del, cellsA, splice, isV, spq, if_true, if_false]))
    | (show AW _ _ _ _ _ _ _ _; first | refine aw_region ?_ | (refine aw_seqk ?_; intro K hK) | refine aw_block ?_ | (apply aw_cond_t; exact rfl; exact (by assumption)) | refine aw_skip ?_ | refine aw_drawE (id := 4) [0, 0, 3, 7, 15, 15, 15, 111, 239, 15, 15, 1039, 3599, 7695, 16383, 32767, 65535] [0, 0, 0, 0, 0, 0, 0, 1, 1, 0, 0, 0, 1, 1, 1, 0, 0] mixed (by kernel_rfl) ?_ | refine aw_drawE (id := 6) [0, 0, 0, 0, 8, 0, 0, 64, 224, 480, 0, 0, 3072, 7168, 16355, 32739, 65535, 131071] [0, 0, 0, 0, 0, 0, 0, 0, 1, 1, 0, 0, 1, 1, 1, 2, 1, 2] mixed (by kernel_rfl) ?_)
    | refine thn_n ?_
    | (refine hK _ _ _ ?_; clear hK K)
    | refine inb_n ?_)); all_goals (repeat (clear hK K)))
        all_goals (refine ⟨(j, lsw ys (j + 1) j), fun z => z, ⟨by dsimp only; omega, by dsimp only; omega, by dsimp only; rw [lsw_len, hyl], hyv.lsw (by omega) (by omega), hg⟩, by dsimp only; omega, ?_⟩; (try dsimp only); rw [← hfin, ← hwj]; exact ⟨by (repeat (refine ⟨by first | exact lk_i rfl rfl | exact lk_s rfl rfl rfl rfl | exact lk_f rfl, ?_⟩)); exact trivial, by (repeat (refine ⟨by first | exact ⟨rfl, rfl, rfl⟩, ?_⟩)); exact trivial, by rfl, by (intro i hi; (try dsimp only); refine ⟨?_, ?_⟩ <;> first | rfl | omega | (simp at hi; omega) | (simp; omega))⟩)
      · have b3 : decide (i64c (kO ls (ys.getD (j + 1) 0)) (kO ls (ys.getD j 0)) < 0) = false := by rw [i64c_lt]; simpa using c3
        rw [if_neg (by simpa [ltO] using c3)] at hg
        subst hg
        rw [← hwj] at hr0
        ((repeat' (first
    | (show SQ _ _ _ _ _ _ _ _; first | apply sq_nil | (apply q_move; exact rfl; exact rfl) | (apply q_assign; exact rfl; exact rfl) | (apply q_add; iterate 3 exact rfl))
    | (show DE _ _ _ _ _ _ _ _ _ _ _ _; first | (apply e_move; iterate 3 exact rfl) | (apply e_pick_t; (iterate 3 exact rfl); exact (by first | assumption | exact rfl); exact rfl) | (apply e_sub; iterate 4 exact rfl) | (apply e_lss; iterate 4 exact rfl) | (apply e_gtr; iterate 4 exact rfl) | (apply e_ixl; (iterate 3 exact rfl); exact (ty rfl); (iterate 3 exact rfl); exact (by first | omega | (simp; done) | (simp; omega)); exact (by first | omega | (simp; done) | (simp; omega)); exact rfl) | (apply e_ld1p; exact rfl; exact rfl; exact (ty rfl); exact rfl; exact rfl; exact (by first | rfl | assumption | ((try simp only [Nat.zero_add]); refine List.getElem?_set_self ?_; (try simp only [List.length_set]); assumption)); exact rfl; exact rfl) | (apply e_g; (iterate 3 exact rfl); exact (by assumption)))
    | (show DE _ _ _ _ _ _ _ _ _ _ _ _; (first | (apply dr_nil; exact trivial) | (apply e_callU; (iterate 3 exact rfl); exact FzL.of rfl; exact hC _; exact rfl)); (try simp only [put, rowsOf, plR, selE, ovr, setH, del, cellsA, splice, isV, spq, if_true, if_false]))
    | (show AW _ _ _ _ _ _ _ _; first | refine aw_region ?_ | (refine aw_seqk ?_; intro K hK) | (apply aw_cond_f; exact rfl; exact (by assumption)) | refine aw_exit ?_ | refine aw_drawE (id := 4) [0, 0, 3, 7, 15, 15, 15, 111, 239, 15, 15, 1039, 3599, 7695, 16383, 32767, 65535] [0, 0, 0, 0, 0, 0, 0, 1, 1, 0, 0, 0, 1, 1, 1, 0, 0] mixed (by kernel_rfl) ?_)
    | refine thn_n ?_
    | (refine hK _ _ _ ?_; clear hK K)
    | refine thn_e ?_
    | refine inb_same ?_
    | refine inb_n ?_
    | (clear hK K; refine hK _ _ _ ?_; clear hK K))); all_goals (repeat (clear hK K)))
        all_goals (refine ⟨c + 1, fun z => z, by omega, by omega, ?_⟩; (try dsimp only); rw [← hwc, hQe]; exact ⟨by (repeat (refine ⟨by first | exact lk_i rfl rfl | exact lk_s rfl rfl rfl rfl | exact lk_f rfl, ?_⟩)); exact trivial, by (repeat (refine ⟨by first | exact ⟨rfl, rfl, rfl⟩, ?_⟩)); exact trivial, by rfl, by (intro i hi; (try dsimp only); refine ⟨?_, ?_⟩ <;> first | rfl | omega | (simp at hi; omega) | (simp; omega))⟩)
    · have b2 : decide ((a : Int) < (j : Int)) = false := by simpa using c2
      have hg2 : ys = Q := by
        rw [← hg]
        cases j with
        | zero => rfl
        | succ j => rw [insJ, decide_eq_false c2]; rfl
      subst hg2
      ((repeat' (first
    | (show SQ _ _ _ _ _ _ _ _; first | apply sq_nil | (apply q_move; exact rfl; exact rfl) | (apply q_assign; exact rfl; exact rfl) | (apply q_add; iterate 3 exact rfl))
    | (show DE _ _ _ _ _ _ _ _ _ _ _ _; first | (apply e_move; iterate 3 exact rfl) | (apply e_pick_f; (iterate 3 exact rfl); exact (by first | assumption | exact rfl); exact rfl) | (apply e_gtr; iterate 4 exact rfl) | (apply e_s; (iterate 3 exact rfl); exact (by assumption); exact rfl))
    | (show DE _ _ _ _ _ _ _ _ _ _ _ _; (first | (apply dr_nil; exact trivial)); (try simp only [put, rowsOf, plR, selE, ovr, setH, del, cellsA, splice, isV, spq, if_true, if_false]))
    | (show AW _ _ _ _ _ _ _ _; first | refine aw_region ?_ | (refine aw_seqk ?_; intro K hK) | (apply aw_cond_f; exact rfl; exact rfl) | refine aw_exit ?_ | refine aw_drawE (id := 4) [0, 0, 3, 7, 15, 15, 15, 111, 239, 15, 15, 1039, 3599, 7695, 16383, 32767, 65535] [0, 0, 0, 0, 0, 0, 0, 1, 1, 0, 0, 0, 1, 1, 1, 0, 0] mixed (by kernel_rfl) ?_)
    | refine thn_n ?_
    | (refine hK _ _ _ ?_; clear hK K)
    | refine thn_e ?_
    | refine inb_same ?_
    | refine inb_n ?_
    | (clear hK K; refine hK _ _ _ ?_; clear hK K))); all_goals (repeat (clear hK K)))
      all_goals (refine ⟨c + 1, fun z => z, by omega, by omega, ?_⟩; (try dsimp only); rw [← hwc, hQe]; exact ⟨by (repeat (refine ⟨by first | exact lk_i rfl rfl | exact lk_s rfl rfl rfl rfl | exact lk_f rfl, ?_⟩)); exact trivial, by (repeat (refine ⟨by first | exact ⟨rfl, rfl, rfl⟩, ?_⟩)); exact trivial, by rfl, by (intro i hi; (try dsimp only); refine ⟨?_, ?_⟩ <;> first | rfl | omega | (simp at hi; omega) | (simp; omega))⟩)
  · have b1 : decide (((a + 1 + c : Nat) : Int) < (b : Int)) = false := by rw [decide_eq_false_iff_not]; omega
    obtain rfl : c = b - (a + 1) := by omega
    ((repeat' (first
    | (show SQ _ _ _ _ _ _ _ _; first | apply sq_nil | (apply q_move; exact rfl; exact rfl) | (apply q_lss; iterate 3 exact rfl))
    | (show AW _ _ _ _ _ _ _ _; first | refine aw_region ?_ | (refine aw_seqk ?_; intro K hK) | (apply aw_cond_f; exact rfl; exact (by assumption)) | refine aw_exit ?_)
    | refine thn_n ?_
    | (refine hK _ _ _ ?_; clear hK K)
    | refine thn_e ?_
    | refine inb_same ?_)); all_goals (repeat (clear hK K)))
    all_goals exact finc_n (fun z => z) .r0 (by simp only [renA, renL]) (fun _ _ => rfl) ⟨rfl, trivial⟩ rfl
end Go.Proofs.Ytglfcaioapdiaaa.Bk

namespace Go.Proofs.Ytglfcaioapdiaaa.Bk
open Go Go.RowKit Go.Proofs.Ytglfcaioapdiaaa.Aw
set_option linter.unusedSimpArgs false
set_option linter.unusedVariables false
attribute [local irreducible] AW SQ Step RO RC DE Thn InB
def bisF (p : Nat → Bool) : Nat → Nat → Nat → Nat
  | 0, i, _ => i
  | f + 1, i, j => if i < j then (if p ((i + j) / 2) = true then bisF p f ((i + j) / 2 + 1) j else bisF p f i ((i + j) / 2)) else i
theorem bisF_in (p : Nat → Bool) : ∀ (f i j : Nat), i ≤ j → i ≤ bisF p f i j ∧ bisF p f i j ≤ j
  | 0, i, j, h => ⟨Nat.le_refl _, h⟩
  | f + 1, i, j, h => by
    rw [bisF]
    split
    · split
      · have := bisF_in p f ((i + j) / 2 + 1) j (by omega); omega
      · have := bisF_in p f i ((i + j) / 2) (by omega); omega
    · exact ⟨Nat.le_refl _, h⟩
def bubU (xs : List Int) (a : Nat) : Nat → List Int
  | 0 => xs
  | c + 1 => lsw (bubU xs a c) (a + c) (a + c + 1)
def bubD (xs : List Int) (m : Nat) : Nat → List Int
  | 0 => xs
  | c + 1 => lsw (bubD xs m c) (m - c) (m - c - 1)
theorem bubU_len (xs : List Int) (a : Nat) : ∀ c, (bubU xs a c).length = xs.length
  | 0 => rfl
  | c + 1 => by rw [bubU, lsw_len, bubU_len xs a c]
theorem bubD_len (xs : List Int) (m : Nat) : ∀ c, (bubD xs m c).length = xs.length
  | 0 => rfl
  | c + 1 => by rw [bubD, lsw_len, bubD_len xs m c]
theorem half_eq {i j : Nat} (h : i + j ≤ 4194304) : IntKind.i64.wrap (IntKind.u64.wrap (IntKind.i64.wrap ((i : Int) + (j : Int))) / 2 ^ min (Int.toNat 1) IntKind.u64.bits) = (((i + j) / 2 : Nat) : Int) := by
  have e1 : IntKind.i64.wrap ((i : Int) + (j : Int)) = (i : Int) + j := IntWalk.i64_in _ (by omega)
  have e2 : IntKind.u64.wrap ((i : Int) + (j : Int)) = (i : Int) + j := IntWalk.u64_in _ (by omega)
  have e3 : ((2 : Int) ^ min (Int.toNat 1) IntKind.u64.bits) = 2 := by decide
  rw [e1, e2, e3, IntWalk.i64_in _ (by omega)]; omega
set_option maxHeartbeats 4000000 in
theorem symU_rc (n : Int) (ls : List Ln) (xs : List Int) (a m b : Nat) (hn : ls.length ≤ 1048576) (hx : xs.length ≤ 1048576) (hv : Vd ls xs) (ha : a + 1 = m) (hm : m < b) (hb : b ≤ xs.length) (bi k : Nat) :
    RC Try.prog 131 [.sl bi 0 xs.length, .v (.int .i64 (a : Int)), .v (.int .i64 (m : Int)), .v (.int .i64 (b : Int)), stC n ls] [(bi, ⟨2, 1, true, xs.map inL⟩)] k (.tup [])
      [(bi, some ⟨2, 1, true, (bubU xs a (bisF (fun h => ltO ls (xs.getD h 0) (xs.getD a 0)) (b - m) m b - 1 - a)).map inL⟩)] k := by
  have hml : (xs.map inL).length = xs.length := List.length_map _
  have b0 : (IntKind.i64.wrap ((m : Int) - a) == 1) = true := by rw [IntWalk.i64_in _ (by omega), beq_iff_eq]; omega
  generalize hQ : bisF (fun h => ltO ls (xs.getD h 0) (xs.getD a 0)) (b - m) m b = q
  refine RC.ofc [bi] 0 [.sl 0 0 xs.length, .v (.int .i64 (a : Int)), .v (.int .i64 (m : Int)), .v (.int .i64 (b : Int)), stC n ls] [(0, ⟨2, 1, true, xs.map inL⟩)] (.tup []) [(0, some ⟨2, 1, true, (bubU xs a (q - 1 - a)).map inL⟩)] Try.func131 Try.ntmps131 rfl (goFn_of Try.func131 rfl (by kernel_rfl)) rfl rfl rfl rfl rfl rfl rfl rfl (by simp_all) rfl ?_
  ((repeat' (first
    | (show SQ _ _ _ _ _ _ _ _; first | apply sq_nil | (apply q_move; exact rfl; exact rfl) | (apply q_assign; exact rfl; exact rfl) | (apply q_sub; iterate 3 exact rfl) | (apply q_eql; iterate 3 exact rfl))
    | (show AW _ _ _ _ _ _ _ _; first | refine aw_region ?_ | (refine aw_seqk ?_; intro K hK) | refine aw_block ?_ | (apply aw_cond_t; exact rfl; exact (by assumption)))
    | refine thn_n ?_
    | (refine hK _ _ _ ?_; clear hK K))); all_goals (repeat (clear hK K)))
  refine aw_loop (ρ := fun z => z) (ι := Nat × Nat × Nat) (fun s => ([(11, .v (.int .i64 (s.2.2 : Int))), (10, .v (.int .i64 (s.2.1 : Int))), (4, stC n ls), (1, .v (.int .i64 (a : Int))), (0, .sl 0 0 xs.length)], [(0, ⟨2, 1, true, xs.map inL⟩)], 1))
    (fun s => m ≤ s.2.1 ∧ s.2.1 ≤ s.2.2 ∧ s.2.2 ≤ b ∧ s.2.2 - s.2.1 ≤ s.1 ∧ bisF (fun h => ltO ls (xs.getD h 0) (xs.getD a 0)) s.1 s.2.1 s.2.2 = q) (fun s => s.1) (b - m, m, b) ⟨Nat.le_refl _, by dsimp only; omega, Nat.le_refl _, Nat.le_refl _, hQ⟩ ⟨by (repeat (refine ⟨by first | exact lk_i rfl rfl | exact lk_s rfl rfl rfl rfl | exact lk_f rfl, ?_⟩)); exact trivial, by (repeat (refine ⟨by first | exact ⟨rfl, rfl, rfl⟩, ?_⟩)); exact trivial, by rfl, by (intro i hi; (try dsimp only); refine ⟨?_, ?_⟩ <;> first | rfl | omega | (simp at hi; omega) | (simp; omega))⟩ ?_
  rintro ⟨f, i, j⟩ ⟨i1, ij, jb, hf, hg⟩
  dsimp only at i1 ij jb hf hg
  dsimp only
  by_cases c1 : i < j
  · have b1 : decide ((i : Int) < (j : Int)) = true := by simpa using c1
    obtain ⟨f, rfl⟩ : ∃ f', f = f' + 1 := ⟨f - 1, by omega⟩
    rw [bisF, if_pos c1] at hg
    have hh := half_eq (i := i) (j := j) (by omega)
    have hlt : (i + j) / 2 < xs.length := by omega
    have hr1 := inL_get (xs := xs) (i := (i + j) / 2) hlt
    have hr2 := inL_get (xs := xs) (i := a) (by omega)
    have hC := stClos_ro n ls (xs.getD ((i + j) / 2) 0) (xs.getD a 0) hn (hv.at (by omega)) (hv.at (by omega))
    have hw1 : IntKind.i64.wrap ((((i + j) / 2 : Nat) : Int) + 1) = (((i + j) / 2 + 1 : Nat) : Int) := by rw [IntWalk.i64_in _ (by omega)]; omega
    have hlo := (show i ≤ (i + j) / 2 by omega)
    have hhi := (show (i + j) / 2 < j by omega)
    generalize (i + j) / 2 = h at *
    by_cases c2 : kO ls (xs.getD h 0) < kO ls (xs.getD a 0)
    · have b2 : decide (i64c (kO ls (xs.getD h 0)) (kO ls (xs.getD a 0)) < 0) = true := by rw [i64c_lt]; simpa using c2
      rw [if_pos (by simpa [ltO] using c2)] at hg
      rw [← hh] at hr1 hw1
      ((repeat' (first
    | (show SQ _ _ _ _ _ _ _ _; first | apply sq_nil | (apply q_move; exact rfl; exact rfl) | (apply q_assign; exact rfl; exact rfl) | (apply q_conv; exact rfl; exact rfl; exact (ty rfl); exact rfl; exact (ty rfl)) | (apply q_add; iterate 3 exact rfl) | (apply q_lss; iterate 3 exact rfl) | (apply q_shr; (iterate 3 exact rfl); exact (by first | omega | (simp; done) | (simp; omega))))
    | (show DE _ _ _ _ _ _ _ _ _ _ _ _; first | (apply e_move; iterate 3 exact rfl) | (apply e_lss; iterate 4 exact rfl) | (apply e_ixl; (iterate 3 exact rfl); exact (ty rfl); (iterate 3 exact rfl); exact (by first | omega | (simp; done) | (simp; omega)); exact (by first | omega | (simp; done) | (simp; omega)); exact rfl) | (apply e_ld1p; exact rfl; exact rfl; exact (ty rfl); exact rfl; exact rfl; exact (by first | rfl | assumption | ((try simp only [Nat.zero_add]); refine List.getElem?_set_self ?_; (try simp only [List.length_set]); assumption)); exact rfl; exact rfl))
    | (show DE _ _ _ _ _ _ _ _ _ _ _ _; (first | (apply dr_nil; exact trivial) | (apply e_callU; (iterate 3 exact rfl); exact FzL.of rfl; exact hC _; exact rfl)); (try simp only [put, rowsOf, plR, selE, ovr, setH, del, cellsA, splice, isV, spq, if_true, if_false]))
    | (show AW _ _ _ _ _ _ _ _; first | refine aw_region ?_ | (refine aw_seqk ?_; intro K hK) | refine aw_block ?_ | (apply aw_cond_t; exact rfl; exact (by assumption)) | refine aw_skip ?_ | refine aw_drawE (id := 5) [0, 0, 0, 6, 14, 0, 0, 96, 224, 511, 1023] [0, 0, 0, 1, 1, 0, 0, 1, 1, 1, 0] mixed (by kernel_rfl) ?_)
    | refine thn_n ?_
    | (refine hK _ _ _ ?_; clear hK K)
    | refine inb_n ?_)); all_goals (repeat (clear hK K)))
      all_goals (refine ⟨(f, h + 1, j), fun z => z, ⟨by dsimp only; omega, by dsimp only; omega, jb, by dsimp only; omega, hg⟩, by dsimp only; omega, ?_⟩; (try dsimp only); rw [← hw1]; exact ⟨by (repeat (refine ⟨by first | exact lk_i rfl rfl | exact lk_s rfl rfl rfl rfl | exact lk_f rfl, ?_⟩)); exact trivial, by (repeat (refine ⟨by first | exact ⟨rfl, rfl, rfl⟩, ?_⟩)); exact trivial, by rfl, by (intro i hi; (try dsimp only); refine ⟨?_, ?_⟩ <;> first | rfl | omega | (simp at hi; omega) | (simp; omega))⟩)
    · have b2 : decide (i64c (kO ls (xs.getD h 0)) (kO ls (xs.getD a 0)) < 0) = false := by rw [i64c_lt]; simpa using c2
      rw [if_neg (by simpa [ltO] using c2)] at hg
      rw [← hh] at hr1 hw1
      ((repeat' (first
    | (show SQ _ _ _ _ _ _ _ _; first | apply sq_nil | (apply q_move; exact rfl; exact rfl) | (apply q_assign; exact rfl; exact rfl) | (apply q_conv; exact rfl; exact rfl; exact (ty rfl); exact rfl; exact (ty rfl)) | (apply q_add; iterate 3 exact rfl) | (apply q_lss; iterate 3 exact rfl) | (apply q_shr; (iterate 3 exact rfl); exact (by first | omega | (simp; done) | (simp; omega))))
    | (show DE _ _ _ _ _ _ _ _ _ _ _ _; first | (apply e_move; iterate 3 exact rfl) | (apply e_lss; iterate 4 exact rfl) | (apply e_ixl; (iterate 3 exact rfl); exact (ty rfl); (iterate 3 exact rfl); exact (by first | omega | (simp; done) | (simp; omega)); exact (by first | omega | (simp; done) | (simp; omega)); exact rfl) | (apply e_ld1p; exact rfl; exact rfl; exact (ty rfl); exact rfl; exact rfl; exact (by first | rfl | assumption | ((try simp only [Nat.zero_add]); refine List.getElem?_set_self ?_; (try simp only [List.length_set]); assumption)); exact rfl; exact rfl))
    | (show DE _ _ _ _ _ _ _ _ _ _ _ _; (first | (apply dr_nil; exact trivial) | (apply e_callU; (iterate 3 exact rfl); exact FzL.of rfl; exact hC _; exact rfl)); (try simp only [put, rowsOf, plR, selE, ovr, setH, del, cellsA, splice, isV, spq, if_true, if_false]))
    | (show AW _ _ _ _ _ _ _ _; first | refine aw_region ?_ | (refine aw_seqk ?_; intro K hK) | refine aw_block ?_ | (apply aw_cond_t; exact rfl; exact (by assumption)) | (apply aw_cond_f; exact rfl; exact (by assumption)) | refine aw_skip ?_ | refine aw_drawE (id := 5) [0, 0, 0, 6, 14, 0, 0, 96, 224, 511, 1023] [0, 0, 0, 1, 1, 0, 0, 1, 1, 1, 0] mixed (by kernel_rfl) ?_)
    | refine thn_n ?_
    | (refine hK _ _ _ ?_; clear hK K)
    | refine inb_n ?_)); all_goals (repeat (clear hK K)))
      all_goals (refine ⟨(f, i, h), fun z => z, ⟨i1, by dsimp only; omega, by dsimp only; omega, by dsimp only; omega, hg⟩, by dsimp only; omega, ?_⟩; (try dsimp only); rw [← hh]; exact ⟨by (repeat (refine ⟨by first | exact lk_i rfl rfl | exact lk_s rfl rfl rfl rfl | exact lk_f rfl, ?_⟩)); exact trivial, by (repeat (refine ⟨by first | exact ⟨rfl, rfl, rfl⟩, ?_⟩)); exact trivial, by rfl, by (intro i hi; (try dsimp only); refine ⟨?_, ?_⟩ <;> first | rfl | omega | (simp at hi; omega) | (simp; omega))⟩)
  · have b1 : decide ((i : Int) < (j : Int)) = false := by simpa using c1
    obtain rfl : i = j := by omega
    have hiq : i = q := by
      rw [← hg]
      cases f with
      | zero => rfl
      | succ f => rw [bisF, if_neg c1]
    subst hiq
    ((repeat' (first
    | (show SQ _ _ _ _ _ _ _ _; first | apply sq_nil | (apply q_move; exact rfl; exact rfl) | (apply q_assign; exact rfl; exact rfl) | (apply q_lss; iterate 3 exact rfl))
    | (show AW _ _ _ _ _ _ _ _; first | refine aw_region ?_ | (refine aw_seqk ?_; intro K hK) | refine aw_block ?_ | (apply aw_cond_f; exact rfl; exact (by assumption)) | refine aw_exit ?_)
    | refine thn_n ?_
    | (refine hK _ _ _ ?_; clear hK K)
    | refine thn_e ?_
    | refine inb_same ?_
    | (clear hK K; refine hK _ _ _ ?_; clear hK K))); all_goals (repeat (clear hK K)))
    refine aw_loop (ρ := fun z => z) (ι := Nat) (fun c => ([(13, .v (.int .i64 ((a + c : Nat) : Int))), (10, .v (.int .i64 (i : Int))), (0, .sl 0 0 xs.length)], [(0, ⟨2, 1, true, (bubU xs a c).map inL⟩)], 1))
      (fun c => c ≤ i - 1 - a) (fun c => i - 1 - a - c) 0 (Nat.zero_le _) ⟨by (repeat (refine ⟨by first | exact lk_i rfl rfl | exact lk_s rfl rfl rfl rfl, ?_⟩)); exact trivial, by (repeat (refine ⟨by first | exact ⟨rfl, rfl, rfl⟩, ?_⟩)); exact trivial, by rfl, by (intro i hi; (try dsimp only); refine ⟨?_, ?_⟩ <;> first | rfl | omega | (simp at hi; omega) | (simp; omega))⟩ ?_
    intro c hc
    have hbl := bubU_len xs a c
    have hbm : ((bubU xs a c).map inL).length = xs.length := by rw [List.length_map, hbl]
    have hwi : IntKind.i64.wrap ((i : Int) - 1) = (i : Int) - 1 := IntWalk.i64_in _ (by omega)
    by_cases c3 : c < i - 1 - a
    · have b3 : decide (((a + c : Nat) : Int) < IntKind.i64.wrap ((i : Int) - 1)) = true := by rw [hwi, decide_eq_true_eq]; omega
      have hwk : IntKind.i64.wrap (((a + c : Nat) : Int) + 1) = ((a + c + 1 : Nat) : Int) := by rw [IntWalk.i64_in _ (by omega)]; omega
      have hr0 := inL_get (xs := bubU xs a c) (i := a + c) (by omega)
      have hr1 := inL_get (xs := bubU xs a c) (i := a + c + 1) (by omega)
      obtain ⟨y, hr3⟩ := inL_set (xs := bubU xs a c) (i := ((a + c : Nat) : Int).toNat) (j := a + c + 1) (.v (.int .i64 ((bubU xs a c).getD (a + c + 1) 0))) (by omega)
      have hfin : (((bubU xs a c).map inL).set (((a + c : Nat) : Int)).toNat [.v (.int .i64 ((bubU xs a c).getD (a + c + 1) 0))]).set (IntKind.i64.wrap (((a + c : Nat) : Int) + 1)).toNat [.v (.int .i64 ((bubU xs a c).getD (a + c) 0))] = (bubU xs a (c + 1)).map inL := by
        rw [hwk, Int.toNat_natCast, Int.toNat_natCast, lsw_rows]; rfl
      have hnx : ((a + (c + 1) : Nat) : Int) = IntKind.i64.wrap (((a + c : Nat) : Int) + 1) := by rw [hwk]; rfl
      rw [← hwk] at hr1 hr3
      ((repeat' (first
    | (show SQ _ _ _ _ _ _ _ _; first | apply sq_nil | (apply q_move; exact rfl; exact rfl) | (apply q_assign; exact rfl; exact rfl) | (apply q_add; iterate 3 exact rfl) | (apply q_sub; iterate 3 exact rfl) | (apply q_lss; iterate 3 exact rfl))
    | (show DE _ _ _ _ _ _ _ _ _ _ _ _; first | (apply e_move; iterate 3 exact rfl) | (apply e_add; iterate 4 exact rfl) | (apply e_ixl; (iterate 3 exact rfl); exact (ty rfl); (iterate 3 exact rfl); exact (by first | omega | (simp; done) | (simp; omega)); exact (by first | omega | (simp; done) | (simp; omega)); exact rfl) | (apply e_ld1p; exact rfl; exact rfl; exact (ty rfl); exact rfl; exact rfl; exact (by first | rfl | assumption | ((try simp only [Nat.zero_add]); refine List.getElem?_set_self ?_; (try simp only [List.length_set]); assumption)); exact rfl; exact rfl))
    | (show DE _ _ _ _ _ _ _ _ _ _ _ _; (first | (apply dr_nil; exact trivial) | (apply e_store; exact rfl; exact rfl; exact (ty rfl); exact rfl; exact (by first | rfl | assumption | ((try simp only [Nat.zero_add]); refine List.getElem?_set_self ?_; (try simp only [List.length_set]); assumption)); iterate 4 exact rfl)); (try simp only [put, rowsOf, plR, selE, ovr, setH, del, cellsA, splice, isV, spq, if_true, if_false]))
    | (show AW _ _ _ _ _ _ _ _; first | refine aw_region ?_ | (refine aw_seqk ?_; intro K hK) | refine aw_block ?_ | (apply aw_cond_t; exact rfl; exact (by assumption)) | refine aw_skip ?_ | refine aw_drawE (id := 11) [0, 0, 0, 0, 8, 0, 0, 64, 224, 480, 0, 0, 3072, 7168, 16355, 32739, 65535, 131071] [0, 0, 0, 0, 0, 0, 0, 0, 1, 1, 0, 0, 1, 1, 1, 2, 1, 2] mixed (by kernel_rfl) ?_)
    | refine thn_n ?_
    | (refine hK _ _ _ ?_; clear hK K)
    | refine inb_n ?_)); all_goals (repeat (clear hK K)))
      all_goals (refine ⟨c + 1, fun z => z, by omega, by omega, ?_⟩; (try dsimp only); rw [← hfin, hnx]; exact ⟨by (repeat (refine ⟨by first | exact lk_i rfl rfl | exact lk_s rfl rfl rfl rfl, ?_⟩)); exact trivial, by (repeat (refine ⟨by first | exact ⟨rfl, rfl, rfl⟩, ?_⟩)); exact trivial, by rfl, by (intro i hi; (try dsimp only); refine ⟨?_, ?_⟩ <;> first | rfl | omega | (simp at hi; omega) | (simp; omega))⟩)
    · have b3 : decide (((a + c : Nat) : Int) < IntKind.i64.wrap ((i : Int) - 1)) = false := by rw [hwi, decide_eq_false_iff_not]; omega
      obtain rfl : c = i - 1 - a := by omega
      ((repeat' (first
    | (show SQ _ _ _ _ _ _ _ _; first | apply sq_nil | (apply q_move; exact rfl; exact rfl) | (apply q_sub; iterate 3 exact rfl) | (apply q_lss; iterate 3 exact rfl))
    | (show AW _ _ _ _ _ _ _ _; first | refine aw_region ?_ | (refine aw_seqk ?_; intro K hK) | (apply aw_cond_f; exact rfl; exact (by assumption)) | refine aw_ret ?_ | refine aw_exit ?_)
    | refine thn_n ?_
    | (refine hK _ _ _ ?_; clear hK K)
    | refine thn_e ?_
    | refine thn_r ?_
    | refine inb_same ?_
    | (clear hK K; refine hK _ _ _ ?_; clear hK K))); all_goals (repeat (clear hK K)))
      all_goals exact finc (fun z => z) .r0 (by simp only [renA, renL]) (fun _ _ => rfl) ⟨rfl, trivial⟩ rfl
set_option maxHeartbeats 4000000 in
theorem symD_rc (n : Int) (ls : List Ln) (xs : List Int) (a m b : Nat) (hn : ls.length ≤ 1048576) (hx : xs.length ≤ 1048576) (hv : Vd ls xs) (ha : a + 1 < m) (hm : m + 1 = b) (hb : b ≤ xs.length) (bi k : Nat) :
    RC Try.prog 131 [.sl bi 0 xs.length, .v (.int .i64 (a : Int)), .v (.int .i64 (m : Int)), .v (.int .i64 (b : Int)), stC n ls] [(bi, ⟨2, 1, true, xs.map inL⟩)] k (.tup [])
      [(bi, some ⟨2, 1, true, (bubD xs m (m - bisF (fun h => !ltO ls (xs.getD m 0) (xs.getD h 0)) (m - a) a m)).map inL⟩)] k := by
  have hml : (xs.map inL).length = xs.length := List.length_map _
  have b0 : (IntKind.i64.wrap ((m : Int) - a) == 1) = false := by rw [IntWalk.i64_in _ (by omega), beq_eq_false_iff_ne]; omega
  have b00 : (IntKind.i64.wrap ((b : Int) - m) == 1) = true := by rw [IntWalk.i64_in _ (by omega), beq_iff_eq]; omega
  generalize hQ : bisF (fun h => !ltO ls (xs.getD m 0) (xs.getD h 0)) (m - a) a m = q
  refine RC.ofc [bi] 0 [.sl 0 0 xs.length, .v (.int .i64 (a : Int)), .v (.int .i64 (m : Int)), .v (.int .i64 (b : Int)), stC n ls] [(0, ⟨2, 1, true, xs.map inL⟩)] (.tup []) [(0, some ⟨2, 1, true, (bubD xs m (m - q)).map inL⟩)] Try.func131 Try.ntmps131 rfl (goFn_of Try.func131 rfl (by kernel_rfl)) rfl rfl rfl rfl rfl rfl rfl rfl (by simp_all) rfl ?_
  ((repeat' (first
    | (show SQ _ _ _ _ _ _ _ _; first | apply sq_nil | (apply q_move; exact rfl; exact rfl) | (apply q_assign; exact rfl; exact rfl) | (apply q_sub; iterate 3 exact rfl) | (apply q_eql; iterate 3 exact rfl))
    | (show AW _ _ _ _ _ _ _ _; first | refine aw_region ?_ | (refine aw_seqk ?_; intro K hK) | refine aw_block ?_ | (apply aw_cond_t; exact rfl; exact (by assumption)) | (apply aw_cond_f; exact rfl; exact (by assumption)) | refine aw_skip ?_)
    | refine thn_n ?_
    | (refine hK _ _ _ ?_; clear hK K))); all_goals (repeat (clear hK K)))
  refine aw_loop (ρ := fun z => z) (ι := Nat × Nat × Nat) (fun s => ([(15, .v (.int .i64 (s.2.2 : Int))), (14, .v (.int .i64 (s.2.1 : Int))), (4, stC n ls), (2, .v (.int .i64 (m : Int))), (0, .sl 0 0 xs.length)], [(0, ⟨2, 1, true, xs.map inL⟩)], 1))
    (fun s => a ≤ s.2.1 ∧ s.2.1 ≤ s.2.2 ∧ s.2.2 ≤ m ∧ s.2.2 - s.2.1 ≤ s.1 ∧ bisF (fun h => !ltO ls (xs.getD m 0) (xs.getD h 0)) s.1 s.2.1 s.2.2 = q) (fun s => s.1) (m - a, a, m) ⟨Nat.le_refl _, by dsimp only; omega, Nat.le_refl _, Nat.le_refl _, hQ⟩ ⟨by (repeat (refine ⟨by first | exact lk_i rfl rfl | exact lk_s rfl rfl rfl rfl | exact lk_f rfl, ?_⟩)); exact trivial, by (repeat (refine ⟨by first | exact ⟨rfl, rfl, rfl⟩, ?_⟩)); exact trivial, by rfl, by (intro i hi; (try dsimp only); refine ⟨?_, ?_⟩ <;> first | rfl | omega | (simp at hi; omega) | (simp; omega))⟩ ?_
  rintro ⟨f, i, j⟩ ⟨i1, ij, jb, hf, hg⟩
  dsimp only at i1 ij jb hf hg
  dsimp only
  by_cases c1 : i < j
  · have b1 : decide ((i : Int) < (j : Int)) = true := by simpa using c1
    obtain ⟨f, rfl⟩ : ∃ f', f = f' + 1 := ⟨f - 1, by omega⟩
    rw [bisF, if_pos c1] at hg
    have hh := half_eq (i := i) (j := j) (by omega)
    have hlt : (i + j) / 2 < xs.length := by omega
    have hr1 := inL_get (xs := xs) (i := (i + j) / 2) hlt
    have hr2 := inL_get (xs := xs) (i := m) (by omega)
    have hC := stClos_ro n ls (xs.getD m 0) (xs.getD ((i + j) / 2) 0) hn (hv.at (by omega)) (hv.at (by omega))
    have hw1 : IntKind.i64.wrap ((((i + j) / 2 : Nat) : Int) + 1) = (((i + j) / 2 + 1 : Nat) : Int) := by rw [IntWalk.i64_in _ (by omega)]; omega
    have hlo := (show i ≤ (i + j) / 2 by omega)
    have hhi := (show (i + j) / 2 < j by omega)
    generalize (i + j) / 2 = h at *
    by_cases c2 : kO ls (xs.getD m 0) < kO ls (xs.getD h 0)
    · have b2 : decide (i64c (kO ls (xs.getD m 0)) (kO ls (xs.getD h 0)) < 0) = true := by rw [i64c_lt]; simpa using c2
      have b22 : (!decide (i64c (kO ls (xs.getD m 0)) (kO ls (xs.getD h 0)) < 0)) = false := by rw [b2]; rfl
      rw [if_neg (by simpa [ltO] using c2)] at hg
      rw [← hh] at hr1 hw1
      ((repeat' (first
    | (show SQ _ _ _ _ _ _ _ _; first | apply sq_nil | (apply q_move; exact rfl; exact rfl) | (apply q_assign; exact rfl; exact rfl) | (apply q_conv; exact rfl; exact rfl; exact (ty rfl); exact rfl; exact (ty rfl)) | (apply q_add; iterate 3 exact rfl) | (apply q_lss; iterate 3 exact rfl) | (apply q_shr; (iterate 3 exact rfl); exact (by first | omega | (simp; done) | (simp; omega))))
    | (show DE _ _ _ _ _ _ _ _ _ _ _ _; first | (apply e_move; iterate 3 exact rfl) | (apply e_not; iterate 3 exact rfl) | (apply e_lss; iterate 4 exact rfl) | (apply e_ixl; (iterate 3 exact rfl); exact (ty rfl); (iterate 3 exact rfl); exact (by first | omega | (simp; done) | (simp; omega)); exact (by first | omega | (simp; done) | (simp; omega)); exact rfl) | (apply e_ld1p; exact rfl; exact rfl; exact (ty rfl); exact rfl; exact rfl; exact (by first | rfl | assumption | ((try simp only [Nat.zero_add]); refine List.getElem?_set_self ?_; (try simp only [List.length_set]); assumption)); exact rfl; exact rfl))
    | (show DE _ _ _ _ _ _ _ _ _ _ _ _; (first | (apply dr_nil; exact trivial) | (apply e_callU; (iterate 3 exact rfl); exact FzL.of rfl; exact hC _; exact rfl)); (try simp only [put, rowsOf, plR, selE, ovr, setH, del, cellsA, splice, isV, spq, if_true, if_false]))
    | (show AW _ _ _ _ _ _ _ _; first | refine aw_region ?_ | (refine aw_seqk ?_; intro K hK) | refine aw_block ?_ | (apply aw_cond_t; exact rfl; exact (by assumption)) | (apply aw_cond_f; exact rfl; exact (by assumption)) | refine aw_skip ?_ | refine aw_drawE (id := 17) [0, 0, 0, 6, 14, 0, 0, 96, 224, 511, 1023, 2047] [0, 0, 0, 1, 1, 0, 0, 1, 1, 1, 0, 0] mixed (by kernel_rfl) ?_)
    | refine thn_n ?_
    | (refine hK _ _ _ ?_; clear hK K)
    | refine inb_n ?_)); all_goals (repeat (clear hK K)))
      all_goals (refine ⟨(f, i, h), fun z => z, ⟨i1, by dsimp only; omega, by dsimp only; omega, by dsimp only; omega, hg⟩, by dsimp only; omega, ?_⟩; (try dsimp only); rw [← hh]; exact ⟨by (repeat (refine ⟨by first | exact lk_i rfl rfl | exact lk_s rfl rfl rfl rfl | exact lk_f rfl, ?_⟩)); exact trivial, by (repeat (refine ⟨by first | exact ⟨rfl, rfl, rfl⟩, ?_⟩)); exact trivial, by rfl, by (intro i hi; (try dsimp only); refine ⟨?_, ?_⟩ <;> first | rfl | omega | (simp at hi; omega) | (simp; omega))⟩)
    · have b2 : decide (i64c (kO ls (xs.getD m 0)) (kO ls (xs.getD h 0)) < 0) = false := by rw [i64c_lt]; simpa using c2
      have b22 : (!decide (i64c (kO ls (xs.getD m 0)) (kO ls (xs.getD h 0)) < 0)) = true := by rw [b2]; rfl
      rw [if_pos (by simpa [ltO] using c2)] at hg
      rw [← hh] at hr1 hw1
      ((repeat' (first
    | (show SQ _ _ _ _ _ _ _ _; first | apply sq_nil | (apply q_move; exact rfl; exact rfl) | (apply q_assign; exact rfl; exact rfl) | (apply q_conv; exact rfl; exact rfl; exact (ty rfl); exact rfl; exact (ty rfl)) | (apply q_add; iterate 3 exact rfl) | (apply q_lss; iterate 3 exact rfl) | (apply q_shr; (iterate 3 exact rfl); exact (by first | omega | (simp; done) | (simp; omega))))
    | (show DE _ _ _ _ _ _ _ _ _ _ _ _; first | (apply e_move; iterate 3 exact rfl) | (apply e_not; iterate 3 exact rfl) | (apply e_lss; iterate 4 exact rfl) | (apply e_ixl; (iterate 3 exact rfl); exact (ty rfl); (iterate 3 exact rfl); exact (by first | omega | (simp; done) | (simp; omega)); exact (by first | omega | (simp; done) | (simp; omega)); exact rfl) | (apply e_ld1p; exact rfl; exact rfl; exact (ty rfl); exact rfl; exact rfl; exact (by first | rfl | assumption | ((try simp only [Nat.zero_add]); refine List.getElem?_set_self ?_; (try simp only [List.length_set]); assumption)); exact rfl; exact rfl))
    | (show DE _ _ _ _ _ _ _ _ _ _ _ _; (first | (apply dr_nil; exact trivial) | (apply e_callU; (iterate 3 exact rfl); exact FzL.of rfl; exact hC _; exact rfl)); (try simp only [put, rowsOf, plR, selE, ovr, setH, del, cellsA, splice, isV, spq, if_true, if_false]))
    | (show AW _ _ _ _ _ _ _ _; first | refine aw_region ?_ | (refine aw_seqk ?_; intro K hK) | refine aw_block ?_ | (apply aw_cond_t; exact rfl; exact (by assumption)) | refine aw_skip ?_ | refine aw_drawE (id := 17) [0, 0, 0, 6, 14, 0, 0, 96, 224, 511, 1023, 2047] [0, 0, 0, 1, 1, 0, 0, 1, 1, 1, 0, 0] mixed (by kernel_rfl) ?_)
    | refine thn_n ?_
    | (refine hK _ _ _ ?_; clear hK K)
    | refine inb_n ?_)); all_goals (repeat (clear hK K)))
      all_goals (refine ⟨(f, h + 1, j), fun z => z, ⟨by dsimp only; omega, by dsimp only; omega, jb, by dsimp only; omega, hg⟩, by dsimp only; omega, ?_⟩; (try dsimp only); rw [← hw1]; exact ⟨by (repeat (refine ⟨by first | exact lk_i rfl rfl | exact lk_s rfl rfl rfl rfl | exact lk_f rfl, ?_⟩)); exact trivial, by (repeat (refine ⟨by first | exact ⟨rfl, rfl, rfl⟩, ?_⟩)); exact trivial, by rfl, by (intro i hi; (try dsimp only); refine ⟨?_, ?_⟩ <;> first | rfl | omega | (simp at hi; omega) | (simp; omega))⟩)
  · have b1 : decide ((i : Int) < (j : Int)) = false := by simpa using c1
    obtain rfl : i = j := by omega
    have hiq : i = q := by
      rw [← hg]
      cases f with
      | zero => rfl
      | succ f => rw [bisF, if_neg c1]
    subst hiq
    ((repeat' (first
    | (show SQ _ _ _ _ _ _ _ _; first | apply sq_nil | (apply q_move; exact rfl; exact rfl) | (apply q_assign; exact rfl; exact rfl) | (apply q_lss; iterate 3 exact rfl))
    | (show AW _ _ _ _ _ _ _ _; first | refine aw_region ?_ | (refine aw_seqk ?_; intro K hK) | refine aw_block ?_ | (apply aw_cond_f; exact rfl; exact (by assumption)) | refine aw_exit ?_)
    | refine thn_n ?_
    | (refine hK _ _ _ ?_; clear hK K)
    | refine thn_e ?_
    | refine inb_same ?_
    | (clear hK K; refine hK _ _ _ ?_; clear hK K))); all_goals (repeat (clear hK K)))
    refine aw_loop (ρ := fun z => z) (ι := Nat) (fun c => ([(17, .v (.int .i64 ((m - c : Nat) : Int))), (14, .v (.int .i64 (i : Int))), (0, .sl 0 0 xs.length)], [(0, ⟨2, 1, true, (bubD xs m c).map inL⟩)], 1))
      (fun c => c ≤ m - i) (fun c => m - i - c) 0 (Nat.zero_le _) ⟨by (repeat (refine ⟨by first | exact lk_i rfl rfl | exact lk_s rfl rfl rfl rfl, ?_⟩)); exact trivial, by (repeat (refine ⟨by first | exact ⟨rfl, rfl, rfl⟩, ?_⟩)); exact trivial, by rfl, by (intro i hi; (try dsimp only); refine ⟨?_, ?_⟩ <;> first | rfl | omega | (simp at hi; omega) | (simp; omega))⟩ ?_
    intro c hc
    have hbl := bubD_len xs m c
    have hbm : ((bubD xs m c).map inL).length = xs.length := by rw [List.length_map, hbl]
    by_cases c3 : c < m - i
    · have b3 : decide ((i : Int) < ((m - c : Nat) : Int)) = true := by rw [decide_eq_true_eq]; omega
      have hwk : IntKind.i64.wrap (((m - c : Nat) : Int) - 1) = ((m - c - 1 : Nat) : Int) := by rw [IntWalk.i64_in _ (by omega)]; omega
      have hr0 := inL_get (xs := bubD xs m c) (i := m - c) (by omega)
      have hr1 := inL_get (xs := bubD xs m c) (i := m - c - 1) (by omega)
      obtain ⟨y, hr3⟩ := inL_set (xs := bubD xs m c) (i := ((m - c : Nat) : Int).toNat) (j := m - c - 1) (.v (.int .i64 ((bubD xs m c).getD (m - c - 1) 0))) (by omega)
      have hfin : (((bubD xs m c).map inL).set (((m - c : Nat) : Int)).toNat [.v (.int .i64 ((bubD xs m c).getD (m - c - 1) 0))]).set (IntKind.i64.wrap (((m - c : Nat) : Int) - 1)).toNat [.v (.int .i64 ((bubD xs m c).getD (m - c) 0))] = (bubD xs m (c + 1)).map inL := by
        rw [hwk, Int.toNat_natCast, Int.toNat_natCast, lsw_rows]; rfl
      have hnx : ((m - (c + 1) : Nat) : Int) = IntKind.i64.wrap (((m - c : Nat) : Int) - 1) := by rw [hwk]; rfl
      rw [← hwk] at hr1 hr3
      ((repeat' (first
    | (show SQ _ _ _ _ _ _ _ _; first | apply sq_nil | (apply q_move; exact rfl; exact rfl) | (apply q_assign; exact rfl; exact rfl) | (apply q_sub; iterate 3 exact rfl) | (apply q_gtr; iterate 3 exact rfl))
    | (show DE _ _ _ _ _ _ _ _ _ _ _ _; first | (apply e_move; iterate 3 exact rfl) | (apply e_sub; iterate 4 exact rfl) | (apply e_ixl; (iterate 3 exact rfl); exact (ty rfl); (iterate 3 exact rfl); exact (by first | omega | (simp; done) | (simp; omega)); exact (by first | omega | (simp; done) | (simp; omega)); exact rfl) | (apply e_ld1p; exact rfl; exact rfl; exact (ty rfl); exact rfl; exact rfl; exact (by first | rfl | assumption | ((try simp only [Nat.zero_add]); refine List.getElem?_set_self ?_; (try simp only [List.length_set]); assumption)); exact rfl; exact rfl))
    | (show DE _ _ _ _ _ _ _ _ _ _ _ _; (first | (apply dr_nil; exact trivial) | (apply e_store; exact rfl; exact rfl; exact (ty rfl); exact rfl; exact (by first | rfl | assumption | ((try simp only [Nat.zero_add]); refine List.getElem?_set_self ?_; (try simp only [List.length_set]); assumption)); iterate 4 exact rfl)); (try simp only [put, rowsOf, plR, selE, ovr, setH, del, cellsA, splice, isV, spq, if_true, if_false]))
    | (show AW _ _ _ _ _ _ _ _; first | refine aw_region ?_ | (refine aw_seqk ?_; intro K hK) | refine aw_block ?_ | (apply aw_cond_t; exact rfl; exact (by assumption)) | refine aw_skip ?_ | refine aw_drawE (id := 23) [0, 0, 0, 0, 8, 0, 0, 64, 224, 480, 0, 0, 3072, 7168, 16355, 32739, 65535, 131071] [0, 0, 0, 0, 0, 0, 0, 0, 1, 1, 0, 0, 1, 1, 1, 2, 1, 2] mixed (by kernel_rfl) ?_)
    | refine thn_n ?_
    | (refine hK _ _ _ ?_; clear hK K)
    | refine inb_n ?_)); all_goals (repeat (clear hK K)))
      all_goals (refine ⟨c + 1, fun z => z, by omega, by omega, ?_⟩; (try dsimp only); rw [← hfin, hnx]; exact ⟨by (repeat (refine ⟨by first | exact lk_i rfl rfl | exact lk_s rfl rfl rfl rfl, ?_⟩)); exact trivial, by (repeat (refine ⟨by first | exact ⟨rfl, rfl, rfl⟩, ?_⟩)); exact trivial, by rfl, by (intro i hi; (try dsimp only); refine ⟨?_, ?_⟩ <;> first | rfl | omega | (simp at hi; omega) | (simp; omega))⟩)
    · have b3 : decide ((i : Int) < ((m - c : Nat) : Int)) = false := by rw [decide_eq_false_iff_not]; omega
      obtain rfl : c = m - i := by omega
      ((repeat' (first
    | (show SQ _ _ _ _ _ _ _ _; first | apply sq_nil | (apply q_move; exact rfl; exact rfl) | (apply q_gtr; iterate 3 exact rfl))
    | (show AW _ _ _ _ _ _ _ _; first | refine aw_region ?_ | (refine aw_seqk ?_; intro K hK) | (apply aw_cond_f; exact rfl; exact (by assumption)) | refine aw_ret ?_ | refine aw_exit ?_)
    | refine thn_n ?_
    | (refine hK _ _ _ ?_; clear hK K)
    | refine thn_e ?_
    | refine thn_r ?_
    | refine inb_same ?_
    | (clear hK K; refine hK _ _ _ ?_; clear hK K))); all_goals (repeat (clear hK K)))
      all_goals exact finc (fun z => z) .r0 (by simp only [renA, renL]) (fun _ _ => rfl) ⟨rfl, trivial⟩ rfl
end Go.Proofs.Ytglfcaioapdiaaa.Bk
