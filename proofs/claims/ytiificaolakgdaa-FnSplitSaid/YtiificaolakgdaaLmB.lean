/-
  Marks: what the laws write into lists of licences.
-/
import Derived.Test.YtiificaolakgdaaLiV
import Derived.Test.YtiificaolakgdaaAwX
namespace Go.Proofs.Ytiificaolakgdaa.Li
open Go Go.RowKit Go.Proofs.Ytiificaolakgdaa.Aw Go.Proofs.Ytiificaolakgdaa.Ar
set_option linter.unusedSimpArgs false
set_option linter.unusedVariables false
attribute [local irreducible] AW SQ Step RO RC DE Thn InB

def mkD (n : Nat) (out : ByteArray) : ByteArray := if n = 0 then out else mkD (n / 10) (bstr [((48 + n % 10 : Nat) : Int)] ++ out)
termination_by n
decreasing_by omega
theorem mkD_zero (out : ByteArray) : mkD 0 out = out := by rw [mkD]; simp
theorem mkD_pos {n : Nat} (h : 0 < n) (out : ByteArray) : mkD n out = mkD (n / 10) (bstr [((48 + n % 10 : Nat) : Int)] ++ out) := by rw [mkD, if_neg (by omega)]
def mkT (k : Int) : ByteArray := if k ≤ 0 then ⟨#[109, 48]⟩ else ⟨#[109]⟩ ++ mkD k.toNat ByteArray.empty
theorem bstr_size (ns : List Int) : (bstr ns).size = ns.length := by simp [bstr, ByteArray.size]
set_option maxHeartbeats 4000000 in
theorem markText_ro (k : Int) (h1 : k ≤ 9223372036854775807) (m : Nat) : RO Try.prog 52 [.v (.int .i64 k)] m (.v (.string (mkT k))) [] m := by
  by_cases c1 : k ≤ 0
  · have b1 : decide (k ≤ 0) = true := by simpa using c1
    refine RO.ofv' Try.func52 Try.ntmps52 rfl (goFn_of Try.func52 rfl (by kernel_rfl)) rfl rfl ?_
    ((repeat' (first
    | (show SQ _ _ _ _ _ _ _ _; first | apply sq_nil | (apply q_move; exact rfl; exact rfl) | (apply q_assign; exact rfl; exact rfl) | (apply q_leq; exact rfl; exact rfl; exact rfl))
    | (show AW _ _ _ _ _ _ _ _; first | refine aw_region ?_ | (refine aw_seqk ?_; intro K hK) | (apply aw_cond_t; exact rfl; exact (by assumption)) | refine aw_ret ?_)
    | refine thn_n ?_
    | (refine hK _ _ _ ?_; clear hK K)
    | refine thn_r ?_)); all_goals (repeat (clear hK K)))
    all_goals refine fin_r (fin_s rfl ?_)
    rw [mkT, if_pos c1]
  · have b1 : decide (k ≤ 0) = false := by simpa using c1
    obtain ⟨N, rfl⟩ : ∃ N : Nat, k = (N : Int) := ⟨k.toNat, by omega⟩
    refine RO.ofv' Try.func52 Try.ntmps52 rfl (goFn_of Try.func52 rfl (by kernel_rfl)) rfl rfl ?_
    ((repeat' (first
    | (show SQ _ _ _ _ _ _ _ _; first | apply sq_nil | (apply q_move; exact rfl; exact rfl) | (apply q_assign; exact rfl; exact rfl) | (apply q_leq; exact rfl; exact rfl; exact rfl))
    | (show AW _ _ _ _ _ _ _ _; first | refine aw_region ?_ | (refine aw_seqk ?_; intro K hK) | refine aw_block ?_ | (apply aw_cond_f; exact rfl; exact (by assumption)) | refine aw_skip ?_)
    | refine thn_n ?_
    | (refine hK _ _ _ ?_; clear hK K))); all_goals (repeat (clear hK K)))
    refine aw_loop (ρ := id) (ι := Nat × ByteArray) (fun s => ([(0, .v (.int .i64 (s.1 : Int))), (3, .v (.string s.2))], [], 0))
      (fun s => mkD s.1 s.2 = mkD N ByteArray.empty ∧ ((s.1 = N ∧ s.2.size = 0) ∨ s.1 + s.2.size ≤ N / 10 + 1)) (fun s => s.1) (N, ByteArray.empty) ⟨rfl, .inl ⟨rfl, rfl⟩⟩ ⟨by (repeat (refine ⟨by first | exact lk_i rfl rfl | exact lk_v rfl rfl, ?_⟩)); exact trivial, by exact trivial, by rfl, by exact pin_0⟩ ?_
    rintro ⟨n, out⟩ ⟨hd, hb⟩
    dsimp only at hd hb
    have hN : (N : Int) ≤ 9223372036854775807 := h1
    by_cases c2 : 0 < n
    · have b2 : decide ((0 : Int) < (n : Int)) = true := by simpa using c2
      have hcat : (bstr [IntKind.u8.wrap (IntKind.i64.wrap (48 + (n : Int).tmod 10))]).size + out.size ≤ 9223372036854775807 := by
        rw [bstr_size]; simp only [List.length_cons, List.length_nil]; omega
      ((repeat' (first
    | (show SQ _ _ _ _ _ _ _ _; first | apply sq_nil | (apply q_move; exact rfl; exact rfl) | (apply q_assign; exact rfl; exact rfl) | (apply q_conv; exact rfl; exact rfl; exact (ty rfl); exact rfl; exact (ty rfl)) | (apply q_add; exact rfl; exact rfl; exact rfl) | (apply q_quo; exact rfl; exact rfl; exact rfl; exact (by first | decide | omega)) | (apply q_rem; exact rfl; exact rfl; exact rfl; exact (by first | decide | omega)) | (apply q_gtr; exact rfl; exact rfl; exact rfl) | (apply q_cat; exact rfl; exact rfl; exact rfl; exact (by first | omega | (simp; done) | (simp; omega))) | (apply q_bst1; exact rfl; exact rfl; exact (ty rfl); exact rfl; exact (ty rfl); exact rfl; exact (ty rfl); exact rfl; exact rfl; exact (by first | rfl | assumption)))
    | (show SQ _ _ _ _ _ _ _ _; (first | (apply q_buildn; exact rfl; exact (ty rfl); exact rfl; exact rfl; exact rfl; exact rfl; exact rfl; exact rfl; exact rfl)); (try simp only [put, rowsOf, plR, List.all_cons, selE, ovr, setH, del, cellsA, splice, isV, List.nil_append, List.cons_append, List.map_cons, List.map_nil, List.length_cons, List.length_nil, List.set_cons_zero, List.set_cons_succ, List.take_succ_cons, List.take_zero, List.take_nil, List.drop_succ_cons, List.drop_zero, List.drop_nil, List.append_nil, List.all_cons, List.all_nil, Bool.and_true, Bool.true_and, Bool.and_false, Bool.false_and, Nat.reduceAdd, Nat.zero_add, Nat.add_zero, Nat.reduceEqDiff, if_true, if_false, reduceIte]))
    | (show AW _ _ _ _ _ _ _ _; first | refine aw_region ?_ | (refine aw_seqk ?_; intro K hK) | refine aw_block ?_ | (apply aw_cond_t; exact rfl; exact (by assumption)) | refine aw_skip ?_)
    | refine thn_n ?_
    | (refine hK _ _ _ ?_; clear hK K)
    | refine inb_n ?_)); all_goals (repeat (clear hK K)))
      have e1 : IntKind.u8.wrap (IntKind.i64.wrap (48 + (n : Int).tmod 10)) = ((48 + n % 10 : Nat) : Int) := by
        have : (n : Int).tmod 10 = ((n % 10 : Nat) : Int) := by rw [Int.tmod_eq_emod_of_nonneg (by omega)]; simp
        rw [this, IntWalk.i64_in _ (by omega)]
        simp [IntKind.wrap, IntKind.bits, IntKind.signed]
        omega
      have hw : IntKind.i64.wrap ((n : Int).tdiv 10) = ((n / 10 : Nat) : Int) := by
        have : (n : Int).tdiv 10 = ((n / 10 : Nat) : Int) := by rw [Int.tdiv_eq_ediv_of_nonneg (by omega)]; simp
        rw [this, IntWalk.i64_in _ (by omega)]
      refine ⟨(n / 10, bstr [((48 + n % 10 : Nat) : Int)] ++ out), id, ⟨?_, .inr ?_⟩, by simp only; omega, ?_⟩
      · rw [← hd, mkD_pos c2]
      · simp only [ByteArray.size_append, bstr_size, List.length_cons, List.length_nil]; omega
      · rw [e1, hw]
        exact ⟨by (repeat (refine ⟨by first | exact lk_i rfl rfl | exact lk_v rfl rfl, ?_⟩)); exact trivial, by exact trivial, by rfl, by exact pin_0⟩
    · have b2 : decide ((0 : Int) < (n : Int)) = false := by simpa using c2
      have hcat : (⟨#[109]⟩ : ByteArray).size + out.size ≤ 9223372036854775807 := by
        have : (⟨#[109]⟩ : ByteArray).size = 1 := rfl
        omega
      ((repeat' (first
    | (show SQ _ _ _ _ _ _ _ _; first | apply sq_nil | (apply q_move; exact rfl; exact rfl) | (apply q_assign; exact rfl; exact rfl) | (apply q_gtr; exact rfl; exact rfl; exact rfl) | (apply q_cat; exact rfl; exact rfl; exact rfl; exact (by first | omega | (simp; done) | (simp; omega))))
    | (show AW _ _ _ _ _ _ _ _; first | refine aw_region ?_ | (refine aw_seqk ?_; intro K hK) | (apply aw_cond_f; exact rfl; exact (by assumption)) | refine aw_ret ?_ | refine aw_exit ?_)
    | refine thn_n ?_
    | (refine hK _ _ _ ?_; clear hK K)
    | refine thn_e ?_
    | refine inb_same ?_
    | (clear hK K; refine hK _ _ _ ?_; clear hK K))); all_goals (repeat (clear hK K)))
      all_goals refine fin_r (fin_s rfl ?_)
      have : n = 0 := by omega
      subst this
      rw [mkD_zero] at hd
      rw [mkT, if_neg (by omega), Int.toNat_natCast, ← hd]
def up11 (z : Int) (i : Nat) : Lic := ⟨mkT (z + 11 * (i : Int)), mkT (z + 11 * (i : Int) + 1), z + 11 * (i : Int) + 2, z + 11 * (i : Int) + 3, z + 11 * (i : Int) + 4, z + 11 * (i : Int) + 5, z + 11 * (i : Int) + 6, z + 11 * (i : Int) + 7, z + 11 * (i : Int) + 8, z + 11 * (i : Int) + 9, z + 11 * (i : Int) + 10⟩
def ramp {α : Type} (f : Nat → α) (xs : List α) (i : Nat) : List α := (List.range i).map f ++ xs.drop i
theorem ramp_get {α : Type} {f : Nat → α} {xs : List α} {i : Nat} (h : i < xs.length) : (ramp f xs i)[i]? = some xs[i] := by
  unfold ramp; rw [List.getElem?_append_right (by simp)]; simp [h]
theorem ramp_set {α : Type} {f : Nat → α} {xs : List α} {i : Nat} (h : i < xs.length) : (ramp f xs i).set i (f i) = ramp f xs (i + 1) := by
  unfold ramp
  rw [List.drop_eq_getElem_cons h, List.set_append_right _ _ (by simp), List.range_succ]
  simp only [List.length_map, List.length_range, Nat.sub_self, List.set_cons_zero, List.map_append, List.map_cons, List.map_nil, List.append_assoc, List.singleton_append]
theorem ramp_zero {α : Type} {f : Nat → α} {xs : List α} : ramp f xs 0 = xs := by simp [ramp]
theorem ramp_full {α : Type} {f : Nat → α} {xs : List α} : ramp f xs xs.length = (List.range xs.length).map f := by simp [ramp]
theorem mkC_get {z : Int} {xs : List Lic} {i : Nat} (h : i < xs.length) : ((ramp (up11 z) xs i).map licL)[i]? = some (licL xs[i]) := by
  rw [List.getElem?_map, ramp_get h]; rfl
theorem mkC_set {z : Int} {xs : List Lic} {i : Nat} (h : i < xs.length) : ((ramp (up11 z) xs i).map licL).set i (licL (up11 z i)) = (ramp (up11 z) xs (i + 1)).map licL := by
  rw [← ramp_set h, List.map_set]
theorem wr (x : Int) (h0 : 0 ≤ x) (h1 : x ≤ 4000000000) : IntKind.i64.wrap (x + 1) = x + 1 := IntWalk.i64_in _ (by omega)
set_option maxHeartbeats 4000000 in
theorem markLicenceS_rc (b : Nat) (xs : List Lic) (z : Int) (hn : xs.length ≤ 1048576) (h0 : 0 ≤ z) (h1 : z ≤ 1073741824) (k : Nat) :
    RC Try.prog 25 [.sl b 0 xs.length, .v (.int .i64 z)] [(b, ⟨29, 11, true, xs.map licL⟩)] k (.v (.int .i64 (z + 11 * (xs.length : Int)))) [(b, some ⟨29, 11, true, ((List.range xs.length).map (up11 z)).map licL⟩)] k := by
  refine RC.ofc [b] 0 [.sl 0 0 xs.length, .v (.int .i64 z)] [(0, ⟨29, 11, true, xs.map licL⟩)] (.v (.int .i64 (z + 11 * (xs.length : Int)))) [(0, some ⟨29, 11, true, ((List.range xs.length).map (up11 z)).map licL⟩)] Try.func25 Try.ntmps25 rfl (goFn_of Try.func25 rfl (by kernel_rfl)) rfl rfl rfl rfl rfl rfl rfl rfl (by simp_all) rfl ?_
  ((repeat' (first
    | (show SQ _ _ _ _ _ _ _ _; first | apply sq_nil | (apply q_assign; exact rfl; exact rfl))
    | (show AW _ _ _ _ _ _ _ _; first | refine aw_region ?_ | (refine aw_seqk ?_; intro K hK) | refine aw_block ?_)
    | refine thn_n ?_
    | (refine hK _ _ _ ?_; clear hK K))); all_goals (repeat (clear hK K)))
  refine aw_loop (ρ := id) (ι := Nat) (fun i => ([(5, .v (.int .i64 i)), (1, .v (.int .i64 (z + 11 * (i : Int)))), (0, .sl 0 0 xs.length)], [(0, ⟨29, 11, true, (ramp (up11 z) xs i).map licL⟩)], 1))
    (fun i => i ≤ xs.length) (fun i => xs.length - i) 0 (Nat.zero_le _) ⟨by (repeat (refine ⟨by first | exact lk_i rfl rfl | exact lk_i rfl (by (try dsimp only); first | rfl | omega | (rw [IntWalk.i64_in _ (by omega)]; first | rfl | omega | (push_cast; omega)) | (simp; done) | (simp; omega)) | exact lk_s rfl rfl rfl rfl, ?_⟩)); exact trivial, by (repeat (refine ⟨by first | exact ⟨rfl, rfl, rfl⟩, ?_⟩)); exact trivial, by rfl, by (intro i hi; (try dsimp only); refine ⟨?_, ?_⟩ <;> first | rfl | omega | (simp at hi; omega) | (simp; omega))⟩ ?_
  intro i hi
  by_cases c2 : i < xs.length
  · have b2 : decide ((i : Int) < ((xs.length : Nat) : Int)) = true := by simpa using c2
    have hr2 : ((ramp (up11 z) xs i).map licL)[0 + ((i : Int)).toNat]? = some (licL xs[i]) := by simpa using mkC_get (z := z) c2
    have hlen : ((i : Int)).toNat < ((ramp (up11 z) xs i).map licL).length := by have := (List.getElem?_eq_some_iff.1 hr2).1; omega
    rw [show licL xs[i] = _ from rfl] at hr2
    unfold licL at hr2
    generalize hy : z + 11 * (i : Int) = y
    have y0 : 0 ≤ y := by omega
    have y1 : y ≤ 2000000000 := by omega
    have w1 := wr y (by omega) (by omega)
    have w2 : IntKind.i64.wrap (y + 1 + 1) = y + 2 := by rw [wr _ (by omega) (by omega)]; omega
    have w3 : IntKind.i64.wrap (y + 2 + 1) = y + 3 := by rw [wr _ (by omega) (by omega)]; omega
    have w4 : IntKind.i64.wrap (y + 3 + 1) = y + 4 := by rw [wr _ (by omega) (by omega)]; omega
    have w5 : IntKind.i64.wrap (y + 4 + 1) = y + 5 := by rw [wr _ (by omega) (by omega)]; omega
    have w6 : IntKind.i64.wrap (y + 5 + 1) = y + 6 := by rw [wr _ (by omega) (by omega)]; omega
    have w7 : IntKind.i64.wrap (y + 6 + 1) = y + 7 := by rw [wr _ (by omega) (by omega)]; omega
    have w8 : IntKind.i64.wrap (y + 7 + 1) = y + 8 := by rw [wr _ (by omega) (by omega)]; omega
    have w9 : IntKind.i64.wrap (y + 8 + 1) = y + 9 := by rw [wr _ (by omega) (by omega)]; omega
    have w10 : IntKind.i64.wrap (y + 9 + 1) = y + 10 := by rw [wr _ (by omega) (by omega)]; omega
    have w11 : IntKind.i64.wrap (y + 10 + 1) = z + 11 * ((i + 1 : Nat) : Int) := by rw [wr _ (by omega) (by omega)]; omega
    ((repeat' (first
    | (show SQ _ _ _ _ _ _ _ _; first | apply sq_nil | (apply q_move; exact rfl; exact rfl) | (apply q_assign; exact rfl; exact rfl) | (apply q_fieldAddr; exact rfl; exact rfl; exact (ty rfl); exact rfl; exact rfl; exact rfl; exact rfl) | (apply q_lenl; exact rfl; exact rfl; exact (ty rfl); exact rfl) | (apply q_add; exact rfl; exact rfl; exact rfl) | (apply q_lss; exact rfl; exact rfl; exact rfl) | (apply q_ixl; exact rfl; exact rfl; exact rfl; exact (ty rfl); exact rfl; exact rfl; exact rfl; exact (by first | omega | (simp; done) | (simp; omega)); exact (by first | omega | (simp; done) | (simp; omega))))
    | (show SQ _ _ _ _ _ _ _ _; (first | (apply q_store; exact rfl; exact rfl; exact (ty rfl); exact rfl; exact (by first | rfl | assumption | ((try simp only [Nat.zero_add]); refine List.getElem?_set_self ?_; (try simp only [List.length_set]); assumption)); exact rfl; exact rfl; exact rfl) | (apply q_callU; exact rfl; exact rfl; exact rfl; exact FzL.of rfl; exact markText_ro _ (by omega) _)); (try simp only [put, rowsOf, plR, List.all_cons, selE, ovr, setH, del, cellsA, splice, isV, List.nil_append, List.cons_append, List.map_cons, List.map_nil, List.length_cons, List.length_nil, List.set_cons_zero, List.set_cons_succ, List.take_succ_cons, List.take_zero, List.take_nil, List.drop_succ_cons, List.drop_zero, List.drop_nil, List.append_nil, List.all_cons, List.all_nil, Bool.and_true, Bool.true_and, Bool.and_false, Bool.false_and, Nat.reduceAdd, Nat.zero_add, Nat.add_zero, Nat.reduceEqDiff, if_true, if_false, reduceIte]))
    | (show AW _ _ _ _ _ _ _ _; first | refine aw_region ?_ | (refine aw_seqk ?_; intro K hK) | refine aw_block ?_ | (apply aw_cond_t; exact rfl; exact (by assumption)) | refine aw_skip ?_)
    | refine thn_n ?_
    | (refine hK _ _ _ ?_; clear hK K)
    | refine inb_n ?_)); all_goals (repeat (clear hK K)))
    simp only [w1, w2, w3, w4, w5, w6, w7, w8, w9, w10, w11, List.set_set]
    subst hy
    exact ⟨i + 1, id, c2, by omega, ⟨by (repeat (refine ⟨by first | exact lk_i rfl rfl | exact lk_i rfl (by (try dsimp only); first | rfl | omega | (rw [IntWalk.i64_in _ (by omega)]; first | rfl | omega | (push_cast; omega)) | (simp; done) | (simp; omega)) | exact lk_s rfl rfl rfl rfl, ?_⟩)); exact trivial, by (repeat (refine ⟨by first | exact lkb rfl rfl rfl (by rw [← mkC_set c2]; simp only [List.set_set, Nat.zero_add, Int.toNat_natCast]; rfl) rfl, ?_⟩)); exact trivial, by rfl, by (intro i hi; (try dsimp only); refine ⟨?_, ?_⟩ <;> first | rfl | omega | (simp at hi; omega) | (simp; omega))⟩⟩
  · have b2 : decide ((i : Int) < ((xs.length : Nat) : Int)) = false := by simpa using c2
    obtain rfl : i = xs.length := by omega
    ((repeat' (first
    | (show SQ _ _ _ _ _ _ _ _; first | apply sq_nil | (apply q_move; exact rfl; exact rfl) | (apply q_assign; exact rfl; exact rfl) | (apply q_lenl; exact rfl; exact rfl; exact (ty rfl); exact rfl) | (apply q_lss; exact rfl; exact rfl; exact rfl))
    | (show AW _ _ _ _ _ _ _ _; first | refine aw_region ?_ | (refine aw_seqk ?_; intro K hK) | (apply aw_cond_f; exact rfl; exact (by assumption)) | refine aw_ret ?_ | refine aw_exit ?_)
    | refine thn_n ?_
    | (refine hK _ _ _ ?_; clear hK K)
    | refine thn_e ?_
    | refine inb_same ?_
    | (clear hK K; refine hK _ _ _ ?_; clear hK K))); all_goals (repeat (clear hK K)))
    exact finc (fun i => i) (.r1 _ _ (.tmp _ _ rfl)) rfl (fun _ _ => rfl) ⟨by rw [ramp_full]; rfl, trivial⟩ rfl
set_option maxHeartbeats 4000000 in
theorem heldLicenceS_ro (l : Nat) (z : Int) (hn : l ≤ 1048576) (h0 : 0 ≤ z) (h1 : z ≤ 1073741824) (k : Nat) : RO Try.prog 26 [.dsl 11 (((List.range l).map (up11 z)).map licL), .v (.int .i64 z)] k (.v (.int .i64 (z + 11 * (l : Int)))) [] k := by
  generalize hx : (List.range l).map (up11 z) = xs
  have hl : l = xs.length := by rw [← hx]; simp
  refine RO.ofv' Try.func26 Try.ntmps26 rfl (goFn_of Try.func26 rfl (by kernel_rfl)) rfl rfl ?_
  ((repeat' (first
    | (show SQ _ _ _ _ _ _ _ _; first | apply sq_nil | (apply q_assign; exact rfl; exact rfl))
    | (show AW _ _ _ _ _ _ _ _; first | refine aw_region ?_ | (refine aw_seqk ?_; intro K hK) | refine aw_block ?_)
    | refine thn_n ?_
    | (refine hK _ _ _ ?_; clear hK K))); all_goals (repeat (clear hK K)))
  refine aw_loop (ρ := id) (ι := Nat) (fun i => ([(5, .v (.int .i64 i)), (1, .v (.int .i64 (z + 11 * (i : Int)))), (0, .dsl 11 (xs.map licL))], [], 0))
    (fun i => i ≤ xs.length) (fun i => xs.length - i) 0 (Nat.zero_le _) ⟨by (repeat (refine ⟨by first | exact lk_i rfl rfl | exact lk_i rfl (by (try dsimp only); first | rfl | omega | (rw [IntWalk.i64_in _ (by omega)]; first | rfl | omega | (push_cast; omega)) | (simp; done) | (simp; omega)) | exact lk_d rfl rfl, ?_⟩)); exact trivial, by exact trivial, by rfl, by exact pin_0⟩ ?_
  intro i hi
  by_cases c2 : i < xs.length
  · have b2 : decide ((i : Int) < ((xs.map licL).length : Int)) = true := by simpa using c2
    have hrow : (xs.map licL)[((i : Int)).toNat]? = some (licL (up11 z i)) := by subst hx; simp at c2; simp [c2]
    unfold up11 licL at hrow
    generalize hy : z + 11 * (i : Int) = y at hrow
    have y0 : 0 ≤ y := by omega
    have y1 : y ≤ 2000000000 := by omega
    have w1 := wr y (by omega) (by omega)
    have w2 : IntKind.i64.wrap (IntKind.i64.wrap (y + 1) + 1) = y + 2 := by rw [w1, wr _ (by omega) (by omega)]; omega
    have w3 : IntKind.i64.wrap (IntKind.i64.wrap (IntKind.i64.wrap (y + 1) + 1) + 1) = y + 3 := by rw [w2, wr _ (by omega) (by omega)]; omega
    have w4 : IntKind.i64.wrap (IntKind.i64.wrap (IntKind.i64.wrap (IntKind.i64.wrap (y + 1) + 1) + 1) + 1) = y + 4 := by rw [w3, wr _ (by omega) (by omega)]; omega
    have w5 : IntKind.i64.wrap (IntKind.i64.wrap (IntKind.i64.wrap (IntKind.i64.wrap (IntKind.i64.wrap (y + 1) + 1) + 1) + 1) + 1) = y + 5 := by rw [w4, wr _ (by omega) (by omega)]; omega
    have w6 : IntKind.i64.wrap (IntKind.i64.wrap (IntKind.i64.wrap (IntKind.i64.wrap (IntKind.i64.wrap (IntKind.i64.wrap (y + 1) + 1) + 1) + 1) + 1) + 1) = y + 6 := by rw [w5, wr _ (by omega) (by omega)]; omega
    have w7 : IntKind.i64.wrap (IntKind.i64.wrap (IntKind.i64.wrap (IntKind.i64.wrap (IntKind.i64.wrap (IntKind.i64.wrap (IntKind.i64.wrap (y + 1) + 1) + 1) + 1) + 1) + 1) + 1) = y + 7 := by rw [w6, wr _ (by omega) (by omega)]; omega
    have w8 : IntKind.i64.wrap (IntKind.i64.wrap (IntKind.i64.wrap (IntKind.i64.wrap (IntKind.i64.wrap (IntKind.i64.wrap (IntKind.i64.wrap (IntKind.i64.wrap (y + 1) + 1) + 1) + 1) + 1) + 1) + 1) + 1) = y + 8 := by rw [w7, wr _ (by omega) (by omega)]; omega
    have w9 : IntKind.i64.wrap (IntKind.i64.wrap (IntKind.i64.wrap (IntKind.i64.wrap (IntKind.i64.wrap (IntKind.i64.wrap (IntKind.i64.wrap (IntKind.i64.wrap (IntKind.i64.wrap (y + 1) + 1) + 1) + 1) + 1) + 1) + 1) + 1) + 1) = y + 9 := by rw [w8, wr _ (by omega) (by omega)]; omega
    have w10 : IntKind.i64.wrap (IntKind.i64.wrap (IntKind.i64.wrap (IntKind.i64.wrap (IntKind.i64.wrap (IntKind.i64.wrap (IntKind.i64.wrap (IntKind.i64.wrap (IntKind.i64.wrap (IntKind.i64.wrap (y + 1) + 1) + 1) + 1) + 1) + 1) + 1) + 1) + 1) + 1) = y + 10 := by rw [w9, wr _ (by omega) (by omega)]; omega
    have w11 : IntKind.i64.wrap (IntKind.i64.wrap (IntKind.i64.wrap (IntKind.i64.wrap (IntKind.i64.wrap (IntKind.i64.wrap (IntKind.i64.wrap (IntKind.i64.wrap (IntKind.i64.wrap (IntKind.i64.wrap (IntKind.i64.wrap (y + 1) + 1) + 1) + 1) + 1) + 1) + 1) + 1) + 1) + 1) + 1) = y + 11 := by rw [w10, wr _ (by omega) (by omega)]; omega
    dsimp only at hrow
    obtain ⟨v2, hv2⟩ : ∃ v, v = y + 2 := ⟨_, rfl⟩
    rw [← hv2] at hrow
    have b2' : (v2 != IntKind.i64.wrap (IntKind.i64.wrap (y + 1) + 1)) = false := by rw [w2, hv2]; simp
    obtain ⟨v3, hv3⟩ : ∃ v, v = y + 3 := ⟨_, rfl⟩
    rw [← hv3] at hrow
    have b3' : (v3 != IntKind.i64.wrap (IntKind.i64.wrap (IntKind.i64.wrap (y + 1) + 1) + 1)) = false := by rw [w3, hv3]; simp
    obtain ⟨v4, hv4⟩ : ∃ v, v = y + 4 := ⟨_, rfl⟩
    rw [← hv4] at hrow
    have b4' : (v4 != IntKind.i64.wrap (IntKind.i64.wrap (IntKind.i64.wrap (IntKind.i64.wrap (y + 1) + 1) + 1) + 1)) = false := by rw [w4, hv4]; simp
    obtain ⟨v5, hv5⟩ : ∃ v, v = y + 5 := ⟨_, rfl⟩
    rw [← hv5] at hrow
    have b5' : (v5 != IntKind.i64.wrap (IntKind.i64.wrap (IntKind.i64.wrap (IntKind.i64.wrap (IntKind.i64.wrap (y + 1) + 1) + 1) + 1) + 1)) = false := by rw [w5, hv5]; simp
    obtain ⟨v6, hv6⟩ : ∃ v, v = y + 6 := ⟨_, rfl⟩
    rw [← hv6] at hrow
    have b6' : (v6 != IntKind.i64.wrap (IntKind.i64.wrap (IntKind.i64.wrap (IntKind.i64.wrap (IntKind.i64.wrap (IntKind.i64.wrap (y + 1) + 1) + 1) + 1) + 1) + 1)) = false := by rw [w6, hv6]; simp
    obtain ⟨v7, hv7⟩ : ∃ v, v = y + 7 := ⟨_, rfl⟩
    rw [← hv7] at hrow
    have b7' : (v7 != IntKind.i64.wrap (IntKind.i64.wrap (IntKind.i64.wrap (IntKind.i64.wrap (IntKind.i64.wrap (IntKind.i64.wrap (IntKind.i64.wrap (y + 1) + 1) + 1) + 1) + 1) + 1) + 1)) = false := by rw [w7, hv7]; simp
    obtain ⟨v8, hv8⟩ : ∃ v, v = y + 8 := ⟨_, rfl⟩
    rw [← hv8] at hrow
    have b8' : (v8 != IntKind.i64.wrap (IntKind.i64.wrap (IntKind.i64.wrap (IntKind.i64.wrap (IntKind.i64.wrap (IntKind.i64.wrap (IntKind.i64.wrap (IntKind.i64.wrap (y + 1) + 1) + 1) + 1) + 1) + 1) + 1) + 1)) = false := by rw [w8, hv8]; simp
    obtain ⟨v9, hv9⟩ : ∃ v, v = y + 9 := ⟨_, rfl⟩
    rw [← hv9] at hrow
    have b9' : (v9 != IntKind.i64.wrap (IntKind.i64.wrap (IntKind.i64.wrap (IntKind.i64.wrap (IntKind.i64.wrap (IntKind.i64.wrap (IntKind.i64.wrap (IntKind.i64.wrap (IntKind.i64.wrap (y + 1) + 1) + 1) + 1) + 1) + 1) + 1) + 1) + 1)) = false := by rw [w9, hv9]; simp
    obtain ⟨v10, hv10⟩ : ∃ v, v = y + 10 := ⟨_, rfl⟩
    rw [← hv10] at hrow
    have b10' : (v10 != IntKind.i64.wrap (IntKind.i64.wrap (IntKind.i64.wrap (IntKind.i64.wrap (IntKind.i64.wrap (IntKind.i64.wrap (IntKind.i64.wrap (IntKind.i64.wrap (IntKind.i64.wrap (IntKind.i64.wrap (y + 1) + 1) + 1) + 1) + 1) + 1) + 1) + 1) + 1) + 1)) = false := by rw [w10, hv10]; simp
    obtain ⟨s0, hs0⟩ : ∃ v, v = mkT y := ⟨_, rfl⟩
    rw [← hs0] at hrow
    have c0' : (!eqS s0 (mkT y)) = false := by rw [hs0]; simp [eqS]
    obtain ⟨s1, hs1⟩ : ∃ v, v = mkT (y + 1) := ⟨_, rfl⟩
    rw [← hs1] at hrow
    have c1' : (!eqS s1 (mkT (IntKind.i64.wrap (y + 1)))) = false := by rw [w1, hs1]; simp [eqS]
    clear hv2 hv3 hv4 hv5 hv6 hv7 hv8 hv9 hv10 hs0 hs1
    dsimp only
    try rw [hy]
    ((repeat' (first
    | (show SQ _ _ _ _ _ _ _ _; first | apply sq_nil | (apply q_move; exact rfl; exact rfl) | (apply q_assign; exact rfl; exact rfl) | (apply q_fieldAddr; exact rfl; exact rfl; exact (ty rfl); exact rfl; exact rfl; exact rfl; exact rfl) | (apply q_lend; exact rfl; exact rfl; exact (ty rfl); exact rfl) | (apply q_add; exact rfl; exact rfl; exact rfl) | (apply q_neq; exact rfl; exact rfl; exact rfl) | (apply q_lss; exact rfl; exact rfl; exact rfl) | (apply q_ixd; exact rfl; exact rfl; exact rfl; exact (ty rfl); exact rfl; exact (by first | omega | (simp; done) | (simp; omega)); exact (by first | omega | (simp; done) | (simp; omega)); exact (by first | rfl | assumption)) | (apply q_ld1d; exact rfl; exact rfl; exact (ty rfl); exact rfl; exact rfl))
    | (show DE _ _ _ _ _ _ _ _ _ _ _ _; first | (apply e_move; exact rfl; exact rfl; exact rfl) | (apply e_fieldAddr; exact rfl; exact rfl; exact (ty rfl); exact rfl; exact rfl; exact rfl; exact rfl; exact rfl) | (apply e_sneq; exact rfl; exact rfl; exact rfl; exact rfl) | (apply e_ixd; exact rfl; exact rfl; exact rfl; exact (ty rfl); exact rfl; exact (by first | omega | (simp; done) | (simp; omega)); exact (by first | omega | (simp; done) | (simp; omega)); exact (by first | rfl | assumption); exact rfl) | (apply e_ld1d; exact rfl; exact rfl; exact (ty rfl); exact rfl; exact rfl; exact rfl))
    | (show DE _ _ _ _ _ _ _ _ _ _ _ _; (first | (apply dr_nil; exact rfl) | (apply e_callU; exact rfl; exact rfl; exact rfl; exact FzL.of rfl; exact markText_ro _ (by omega) _; exact rfl)); (try simp only [put, rowsOf, plR, List.all_cons, selE, ovr, setH, del, cellsA, splice, isV, List.nil_append, List.cons_append, List.map_cons, List.map_nil, List.length_cons, List.length_nil, List.set_cons_zero, List.set_cons_succ, List.take_succ_cons, List.take_zero, List.take_nil, List.drop_succ_cons, List.drop_zero, List.drop_nil, List.append_nil, List.all_cons, List.all_nil, Bool.and_true, Bool.true_and, Bool.and_false, Bool.false_and, Nat.reduceAdd, Nat.zero_add, Nat.add_zero, Nat.reduceEqDiff, if_true, if_false, reduceIte]))
    | (show AW _ _ _ _ _ _ _ _; first | refine aw_region ?_ | (refine aw_seqk ?_; intro K hK) | refine aw_block ?_ | (apply aw_cond_t; exact rfl; exact (by assumption)) | (apply aw_cond_f; exact rfl; exact (by assumption)) | refine aw_skip ?_ | refine aw_drawE (id := 4) [0, 0, 3, 7, 15, 0, 32, 127] [0, 0, 0, 0, 1, 0, 1, 0] mixed (by kernel_rfl) ?_ | refine aw_drawE (id := 7) [0, 0, 3, 7, 15, 0, 32, 127] [0, 0, 0, 0, 1, 0, 1, 0] mixed (by kernel_rfl) ?_)
    | refine thn_n ?_
    | (refine hK _ _ _ ?_; clear hK K)
    | refine inb_n ?_)); all_goals (repeat (clear hK K)))
    refine ⟨i + 1, id, c2, by omega, ?_⟩
    rw [w11, show y + 11 = z + 11 * ((i + 1 : Nat) : Int) by omega]
    exact ⟨by (repeat (refine ⟨by first | exact lk_i rfl rfl | exact lk_i rfl (by (try dsimp only); first | rfl | omega | (rw [IntWalk.i64_in _ (by omega)]; first | rfl | omega | (push_cast; omega)) | (simp; done) | (simp; omega)) | exact lk_d rfl rfl, ?_⟩)); exact trivial, by exact trivial, by rfl, by exact pin_0⟩
  · have b2 : decide ((i : Int) < ((xs.map licL).length : Int)) = false := by simpa using c2
    ((repeat' (first
    | (show SQ _ _ _ _ _ _ _ _; first | apply sq_nil | (apply q_move; exact rfl; exact rfl) | (apply q_assign; exact rfl; exact rfl) | (apply q_lend; exact rfl; exact rfl; exact (ty rfl); exact rfl) | (apply q_lss; exact rfl; exact rfl; exact rfl))
    | (show AW _ _ _ _ _ _ _ _; first | refine aw_region ?_ | (refine aw_seqk ?_; intro K hK) | (apply aw_cond_f; exact rfl; exact (by assumption)) | refine aw_ret ?_ | refine aw_exit ?_)
    | refine thn_n ?_
    | (refine hK _ _ _ ?_; clear hK K)
    | refine thn_e ?_
    | refine inb_same ?_
    | (clear hK K; refine hK _ _ _ ?_; clear hK K))); all_goals (repeat (clear hK K)))
    all_goals refine fin_r (fin_i rfl ?_)
    all_goals (simp; omega)
end Go.Proofs.Ytiificaolakgdaa.Li
