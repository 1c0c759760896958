/-
  What the law FnCodes rests on, part 4.
-/
import Derived.Test.YteknfaldpajlpaaZFnCodes3
namespace Go.Proofs.Yteknfaldpajlpaa.Nb
open Go Go.RowKit Go.Proofs.Yteknfaldpajlpaa.Aw Go.Proofs.Yteknfaldpajlpaa.In Go.Proofs.Yteknfaldpajlpaa.Il Go.Proofs.Yteknfaldpajlpaa.Sr
set_option linter.unusedSimpArgs false
set_option linter.unusedVariables false
set_option linter.unusedSectionVars false
attribute [local irreducible] AW SQ Step RO RC DE Thn InB
theorem am_mem {s : Sr} {ws : List Int} (h : 1 ≤ ws.length) : (am ws s).1 ∈ ws := by
  have hp := pk_bd s ws.length (by omega)
  have hl : (pk s ws.length).1.toNat < ws.length := by omega
  unfold am
  dsimp only
  rw [List.getD_eq_getElem?_getD, List.getElem?_eq_getElem hl]
  exact List.getElem_mem _
def inX (part : Int) (i : Nat) (st : Sr × List Int) : Nat → Sr × List Int
  | 0 => st
  | j + 1 => if j = i then inX part i st j else ((pk (inX part i st j).1 8).2, if (pk (inX part i st j).1 8).1 < part then (inX part i st j).2 ++ [(j : Int)] else (inX part i st j).2)
def outX (part : Int) (n : Nat) (s : Sr) : Nat → Sr × List (List Int)
  | 0 => (s, [])
  | i + 1 => ((inX part i ((outX part n s i).1, []) n).1, (outX part n s i).2 ++ [(inX part i ((outX part n s i).1, []) n).2])
theorem inX_ok {part : Int} {i : Nat} {st : Sr × List Int} {k : Int} (h : st.1.ok k) : ∀ j : Nat, (inX part i st j).1.ok (k + 2 * (j : Int)) ∧ (inX part i st j).2.length ≤ st.2.length + j
  | 0 => ⟨h.mono (by omega), Nat.le_refl _⟩
  | j + 1 => by
    obtain ⟨h1, h2⟩ := inX_ok (part := part) (i := i) h j
    unfold inX
    split
    · exact ⟨h1.mono (by omega), by omega⟩
    · refine ⟨(pk_ok 8 h1).mono (by omega), ?_⟩
      dsimp only
      split
      · rw [List.length_append, List.length_singleton]; omega
      · omega
theorem outX_ok {part : Int} {n : Nat} {s : Sr} {k : Int} (h : s.ok k) (hn : n ≤ 25) : ∀ i : Nat, (outX part n s i).1.ok (k + 50 * (i : Int)) ∧ (outX part n s i).2.length = i ∧ ∀ l ∈ (outX part n s i).2, l.length ≤ 25
  | 0 => ⟨h.mono (by omega), rfl, by simp [outX]⟩
  | i + 1 => by
    obtain ⟨h1, h2, h3⟩ := outX_ok (part := part) h hn i
    obtain ⟨g1, g2⟩ := inX_ok (part := part) (i := i) (st := ((outX part n s i).1, [])) h1 n
    refine ⟨g1.mono (by omega), by simp [outX, h2], fun l hl => ?_⟩
    rcases List.mem_append.1 hl with hl | hl
    · exact h3 l hl
    · simp only [List.mem_singleton] at hl
      subst hl
      dsimp only [List.length_nil] at g2
      omega
theorem nbL_app (ls : List (List Int)) (l : List Int) : nbL (ls ++ [l]) = nbL ls ++ [[.dsl 1 (l.map inL)]] := by simp [nbL]
theorem nbL_no (ls : List (List Int)) : (nbL ls).all noOwnL = true := all_noOwn_map fun _ => rfl
set_option maxHeartbeats 4000000 in
theorem l00Own_ro (xs : List Int) (hx : xs.length ≤ 1048576) (k : Nat) : RO Try.prog 89 [.dsl 1 (xs.map inL)] k (.sl k 0 xs.length) [(k, ⟨2, 1, true, xs.map inL⟩)] (k + 1) := by
  have hl : (xs.map inL).length = xs.length := List.length_map _
  have hp : ((xs.map inL).all fun r => r.all isV) = true := by simp [inL, isV]
  refine RO.ofm (.sl 0 0 xs.length) ([(0, ⟨2, 1, true, xs.map inL⟩)]) 1 Try.func89 Try.ntmps89 rfl (goFn_of Try.func89 rfl (by kernel_rfl)) rfl rfl (by simp [renA, renL]) (by simp [shH, renB]) rfl ?_
  ((repeat' (first
    | (show SQ _ _ _ _ _ _ _ _; first | apply sq_nil | (apply q_move; exact rfl; exact rfl) | (apply q_assign; exact rfl; exact rfl))
    | (show SQ _ _ _ _ _ _ _ _; (first | (apply q_build0; exact rfl; exact (ty rfl); exact rfl) | (apply q_apo_d; exact rfl; exact rfl; exact rfl; exact (ty rfl); exact rfl; exact rfl; exact (by first | omega | (simp; done) | (simp; omega)); exact (by first | exact List.take_of_length_le (by first | omega | (simp; done) | (simp; omega)) | rfl); exact (ty rfl); exact rfl; exact rfl; exact (by first | omega | (simp; done) | (simp; omega)); exact (by first | omega | (simp; done) | (simp; omega)); exact (by first | assumption | exact rfl))); (try simp only [put, rowsOf, plR, List.all_cons, selE, ovr, setH, del, cellsA, splice, isV, List.nil_append, List.cons_append, List.map_cons, List.map_nil, List.length_cons, List.length_nil, List.set_cons_zero, List.set_cons_succ, List.take_succ_cons, List.take_zero, List.take_nil, List.drop_succ_cons, List.drop_zero, List.drop_nil, List.append_nil, List.all_cons, List.all_nil, Bool.and_true, Bool.true_and, Bool.and_false, Bool.false_and, Nat.reduceAdd, Nat.zero_add, Nat.add_zero, Nat.reduceEqDiff, if_true, if_false, reduceIte]))
    | (show AW _ _ _ _ _ _ _ _; first | refine aw_region ?_ | (refine aw_seqk ?_; intro K hK) | refine aw_ret ?_)
    | refine thn_n ?_
    | (refine hK _ _ _ ?_; clear hK K))); all_goals (repeat (clear hK K)))
  all_goals exact fin_r (fin_m rfl rfl _ _ (by simp) (by simp))
structure Nd (s : Sr) (k : Int) (ls : List (List Int)) (s' : Sr) : Prop where
  n : ls.length ≤ 25
  m : ∀ l ∈ ls, l.length ≤ 26
  ok : s'.ok (k + 1400)
  rc : ∀ j id, RC Try.prog 48 [.ptr id 0 0] [(id, ⟨109, 3, false, [srR s]⟩)] j (.sl j 0 ls.length) [(id, some ⟨109, 3, false, [srR s']⟩), (j, some ⟨23, 1, false, nbL ls⟩)] (j + 1)
theorem l23Draw_ex {s : Sr} {k : Int} (h : s.ok k) (hk : k ≤ 90000) : ∃ ls s', Nd s k ls s' := by
  have h1 := fun id => pick_rc id s 8 (h.mono (by omega)) (by omega)
  have bd1 := pk_bd s 8 (by omega)
  have ok1 := pk_ok 8 h
  generalize pk s 8 = P at *
  obtain ⟨p, s1⟩ := P
  dsimp only at h1 bd1 ok1
  have h2 := fun id => one_rc id s1 12 (ok1.mono (by omega)) (by omega)
  have ok2 := pk_ok 12 ok1
  generalize pk s1 12 = P at *
  obtain ⟨q, s2⟩ := P
  dsimp only at h2 ok2
  -- how many
  obtain ⟨n, s3, hn, ok3, X, hn3⟩ : ∃ (n : Nat) (s3 : Sr), n ≤ 25 ∧ s3.ok (k + 6) ∧ ∃ X : Nat, ((q == 0) = true ∧ X = 2 ∧ (∀ id b c, b ≠ c → RC Try.prog 76 [.ptr b 0 0, .sl c 0 3] [(b, ⟨109, 3, false, [srR s2]⟩), (c, ⟨2, 1, true, [[.v (.int .i64 14)], [.v (.int .i64 24)], [.v (.int .i64 25)]]⟩)] id (.v (.int .i64 n)) [(b, some ⟨109, 3, false, [srR s3]⟩), (c, some ⟨2, 1, true, [[.v (.int .i64 14)], [.v (.int .i64 24)], [.v (.int .i64 25)]]⟩)] id)) ∨ ((q == 0) = false ∧ X = 1 ∧ (n : Int) = p ∧ s3 = s2) := by
    cases hc : (q == 0) with
    | true =>
      have hm := am_mem (s := s2) (ws := [14, 24, 25]) (by simp)
      have a1 := fun id b c hbc => among_rc b c s2 [14, 24, 25] hbc (ok2.mono (by omega)) (by simp) (by simp) id
      have hok := am_ok [14, 24, 25] ok2
      generalize am [14, 24, 25] s2 = A at *
      obtain ⟨v, s3⟩ := A
      dsimp only at a1 hok hm
      simp only [List.mem_cons, List.not_mem_nil, or_false] at hm
      simp only [nuR, List.map_cons, List.map_nil, List.length_cons, List.length_nil] at a1
      obtain ⟨n, rfl⟩ := Int.eq_ofNat_of_zero_le (show 0 ≤ v by omega)
      exact ⟨n, s3, by omega, hok.mono (by omega), 2, .inl ⟨rfl, rfl, a1⟩⟩
    | false =>
      obtain ⟨n, rfl⟩ := Int.eq_ofNat_of_zero_le (show 0 ≤ p by omega)
      exact ⟨n, s2, by omega, ok2.mono (by omega), 1, .inr ⟨rfl, rfl, rfl, rfl⟩⟩
  have h4 := fun id => pick_rc id s3 4 (ok3.mono (by omega)) (by omega)
  have bd4 := pk_bd s3 4 (by omega)
  have ok4 := pk_ok 4 ok3
  generalize pk s3 4 = P at *
  obtain ⟨pa, s4⟩ := P
  dsimp only at h4 bd4 ok4
  obtain ⟨part, hpart⟩ : ∃ part : Int, pa + 1 = part := ⟨_, rfl⟩
  have hwp : IntKind.i64.wrap (pa + 1) = part := by rw [IntWalk.i64_in _ (by omega)]; exact hpart
  have hO := outX_ok (part := part) (n := n) ok4 hn
  obtain ⟨ok5, len5, bd5⟩ := hO n
  -- how it ends
  have h6 := fun id => one_rc id (outX part n s4 n).1 12 (ok5.mono (by omega)) (by omega)
  have ok6 := pk_ok 12 ok5
  have hlen0 := len5
  have hbd0 := bd5
  obtain ⟨ls', s', hl', hm', hok', hend⟩ : ∃ (ls' : List (List Int)) (s' : Sr), ls'.length = n ∧ (∀ l ∈ ls', l.length ≤ 26) ∧ s'.ok (k + 1400) ∧
      ((n = 0 ∧ ls' = (outX part n s4 n).2 ∧ s' = (outX part n s4 n).1) ∨ (0 < n ∧ ((pk (outX part n s4 n).1 12).1 == 0) = false ∧ ls' = (outX part n s4 n).2 ∧ s' = (pk (outX part n s4 n).1 12).2) ∨
       (0 < n ∧ ((pk (outX part n s4 n).1 12).1 == 0) = true ∧ ∃ (a : Nat) (ha : a < (outX part n s4 n).2.length) (v : Int) (s7 : Sr),
          (∀ id j, RC Try.prog 73 [.ptr id 0 0, .v (.int .i64 n)] [(id, ⟨109, 3, false, [srR (pk (outX part n s4 n).1 12).2]⟩)] j (.v (.int .i64 a)) [(id, some ⟨109, 3, false, [srR s7]⟩)] j) ∧
          (∀ j, RC Try.prog 76 [.ptr 0 0 0, .sl 3 0 4] [(0, ⟨109, 3, false, [srR s7]⟩), (3, ⟨2, 1, true, [[.v (.int .i64 (-1))], [.v (.int .i64 a)], [.v (.int .i64 n)], [.v (.int .i64 0)]]⟩)] j (.v (.int .i64 v)) [(0, some ⟨109, 3, false, [srR s']⟩), (3, some ⟨2, 1, true, [[.v (.int .i64 (-1))], [.v (.int .i64 a)], [.v (.int .i64 n)], [.v (.int .i64 0)]]⟩)] j) ∧
          ls' = (outX part n s4 n).2.set a ((outX part n s4 n).2[a] ++ [v]))) := by
    generalize outX part n s4 n = Z at *
    obtain ⟨s5, L0⟩ := Z
    dsimp only at *
    by_cases c0 : n = 0
    · exact ⟨L0, s5, len5, fun l hl => by have := bd5 l hl; omega, ok5.mono (by omega), .inl ⟨c0, rfl, rfl⟩⟩
    · cases hq : ((pk s5 12).1 == 0) with
      | false => exact ⟨L0, (pk s5 12).2, len5, fun l hl => by have := bd5 l hl; omega, ok6.mono (by omega), .inr (.inl ⟨by omega, rfl, rfl, rfl⟩)⟩
      | true =>
        have g7 := fun id => pick_rc id (pk s5 12).2 (n : Int) (ok6.mono (by omega)) (by omega)
        have bd7 := pk_bd (pk s5 12).2 (n : Int) (by omega)
        have ok7 := pk_ok (n : Int) ok6
        generalize pk (pk s5 12).2 (n : Int) = P at *
        obtain ⟨a, s7⟩ := P
        dsimp only at g7 bd7 ok7
        obtain ⟨a, rfl⟩ := Int.eq_ofNat_of_zero_le bd7.1
        have a8 := fun j => among_rc 0 3 s7 [-1, (a : Int), (n : Int), 0] (by decide) (ok7.mono (by omega)) (by simp) (by simp) j
        have ok8 := am_ok [-1, (a : Int), (n : Int), 0] ok7
        generalize am [-1, (a : Int), (n : Int), 0] s7 = A at *
        obtain ⟨v, s8⟩ := A
        dsimp only at a8 ok8
        simp only [nuR, List.map_cons, List.map_nil, List.length_cons, List.length_nil] at a8
        have ha : a < L0.length := by omega
        refine ⟨L0.set a (L0[a] ++ [v]), s8, by simpa using len5, fun l hl => ?_, ok8.mono (by omega), .inr (.inr ⟨by omega, rfl, a, ha, v, s7, fun id j => g7 id j, a8, rfl⟩)⟩
        rcases List.mem_or_eq_of_mem_set hl with h | h
        · have := bd5 l h; omega
        · have := bd5 _ (List.getElem_mem ha); rw [h, List.length_append, List.length_singleton]; omega
  refine ⟨ls', s', by omega, hm', hok', fun j0 bi => ?_⟩
  rw [hl']
  refine RC.ofc [bi] 1 [.ptr 0 0 0] [(0, ⟨109, 3, false, [srR s]⟩)] (.sl 1 0 n) [(0, some ⟨109, 3, false, [srR s']⟩), (1, some ⟨23, 1, false, nbL ls'⟩)] Try.func48 Try.ntmps48 rfl (goFn_of Try.func48 rfl (by kernel_rfl)) rfl rfl ?_ rfl rfl ?_ rfl ?_ (by simp_all) rfl ?_
  · rfl
  · have := rows_no (nmC [bi] j0) (nbL_no ls')
    simp only [renE, renB, List.map_cons, List.map_nil, Option.map_some, this]; rfl
  · have := rows_ok 2 (nbL_no ls')
    simp [okC, idsOk, idsOkL, idsOkB, srR, look_cons, this]; rfl
  rcases hn3 with ⟨hq, rfl, a1⟩ | ⟨hq, rfl, hnp, rfl⟩
  · skip
    ((repeat' (first
    | (show SQ _ _ _ _ _ _ _ _; first | apply sq_nil | (apply q_move; exact rfl; exact rfl) | (apply q_assign; exact rfl; exact rfl) | (apply q_add; exact rfl; exact rfl; exact rfl))
    | (show SQ _ _ _ _ _ _ _ _; (first | (apply q_build0; exact rfl; exact (ty rfl); exact rfl) | (apply q_buildn; exact rfl; exact (ty rfl); exact rfl; exact rfl; exact rfl; exact rfl; exact rfl; exact rfl; exact rfl) | (apply q_callC; exact rfl; exact rfl; exact rfl; exact h1 0 _; (focus ((repeat (first | exact trivial | refine ⟨by first | exact rfl | assumption, ?_⟩)); done)); skip) | (apply q_callC; exact rfl; exact rfl; exact rfl; exact h2 0 _; (focus ((repeat (first | exact trivial | refine ⟨by first | exact rfl | assumption, ?_⟩)); done)); skip) | (apply q_callC; exact rfl; exact rfl; exact rfl; exact h4 0 _; (focus ((repeat (first | exact trivial | refine ⟨by first | exact rfl | assumption, ?_⟩)); done)); skip) | (apply q_callC; exact rfl; exact rfl; exact rfl; exact a1 _ 0 1 (by decide); (focus ((repeat (first | exact trivial | refine ⟨by first | exact rfl | assumption, ?_⟩)); done)); skip)); (try simp only [put, rowsOf, plR, List.all_cons, selE, ovr, setH, del, cellsA, splice, isV, List.nil_append, List.cons_append, List.map_cons, List.map_nil, List.length_cons, List.length_nil, List.set_cons_zero, List.set_cons_succ, List.take_succ_cons, List.take_zero, List.take_nil, List.drop_succ_cons, List.drop_zero, List.drop_nil, List.append_nil, List.all_cons, List.all_nil, Bool.and_true, Bool.true_and, Bool.and_false, Bool.false_and, Nat.reduceAdd, Nat.zero_add, Nat.add_zero, Nat.reduceEqDiff, if_true, if_false, reduceIte]))
    | (show AW _ _ _ _ _ _ _ _; first | refine aw_region ?_ | (refine aw_seqk ?_; intro K hK) | refine aw_block ?_ | (apply aw_cond_t; exact rfl; exact (by assumption)))
    | refine thn_n ?_
    | (refine hK _ _ _ ?_; clear hK K))); all_goals (repeat (clear hK K)))
    rw [hwp]
    refine aw_unpl 2 rfl ?_
    show AW _ _ 1 _ _ _ _ _
    refine aw_loop (ρ := mv 1 2) (ι := Nat) (fun i => ([(6, .v (.int .i64 i)), (5, .sl 1 0 i), (4, .v (.int .i64 part)), (3, .v (.int .i64 n)), (0, .ptr 0 0 0)],
        [(0, ⟨109, 3, false, [srR (outX part n s4 i).1]⟩), (1, ⟨23, 1, false, nbL (outX part n s4 i).2⟩)], 2))
      (fun i => i ≤ n) (fun i => n - i) 0 (Nat.zero_le _) ⟨by (repeat (refine ⟨by first | exact lk_i rfl rfl | exact lk_r rfl rfl rfl | exact lk_s rfl rfl rfl rfl, ?_⟩)); exact trivial, by (repeat (refine ⟨by first | exact ⟨rfl, rfl, rfl⟩, ?_⟩)); exact trivial, by rfl, by (intro i hi; (try dsimp only); refine ⟨?_, ?_⟩ <;> first | rfl | omega | (simp [mv]; omega))⟩ ?_
    intro i hi
    obtain ⟨oki, leni, bdi⟩ := hO i
    by_cases c1 : i < n
    · have b1 : decide ((i : Int) < (n : Int)) = true := by simpa using c1
      have hw : IntKind.i64.wrap ((i : Int) + 1) = ((i + 1 : Nat) : Int) := by rw [IntWalk.i64_in _ (by omega)]; omega
      have e1 : outX part n s4 (i + 1) = ((inX part i ((outX part n s4 i).1, []) n).1, (outX part n s4 i).2 ++ [(inX part i ((outX part n s4 i).1, []) n).2]) := rfl
      generalize outX part n s4 i = Z at *
      obtain ⟨sz, acc⟩ := Z
      dsimp only at oki leni e1 ⊢
      subst leni
      have hnl := nbL_len acc
      ((repeat' (first
    | (show SQ _ _ _ _ _ _ _ _; first | apply sq_nil | (apply q_move; exact rfl; exact rfl) | (apply q_assign; exact rfl; exact rfl) | (apply q_lss; exact rfl; exact rfl; exact rfl))
    | (show SQ _ _ _ _ _ _ _ _; (first | (apply q_build0; exact rfl; exact (ty rfl); exact rfl)); (try simp only [put, rowsOf, plR, List.all_cons, selE, ovr, setH, del, cellsA, splice, isV, List.nil_append, List.cons_append, List.map_cons, List.map_nil, List.length_cons, List.length_nil, List.set_cons_zero, List.set_cons_succ, List.take_succ_cons, List.take_zero, List.take_nil, List.drop_succ_cons, List.drop_zero, List.drop_nil, List.append_nil, List.all_cons, List.all_nil, Bool.and_true, Bool.true_and, Bool.and_false, Bool.false_and, Nat.reduceAdd, Nat.zero_add, Nat.add_zero, Nat.reduceEqDiff, if_true, if_false, reduceIte]))
    | (show AW _ _ _ _ _ _ _ _; first | refine aw_region ?_ | (refine aw_seqk ?_; intro K hK) | refine aw_block ?_ | (apply aw_cond_t; exact rfl; exact (by assumption)) | refine aw_skip ?_)
    | refine thn_n ?_
    | (refine hK _ _ _ ?_; clear hK K))); all_goals (repeat (clear hK K)))
      show AW _ _ 1 _ _ _ _ _
      refine aw_loop (ρ := id) (ι := Nat) (fun j => ([(8, .v (.int .i64 j)), (7, .sl 2 0 (inX part acc.length (sz, []) j).2.length), (6, .v (.int .i64 acc.length)), (5, .sl 1 0 acc.length), (4, .v (.int .i64 part)), (3, .v (.int .i64 n)), (0, .ptr 0 0 0)],
          [(0, ⟨109, 3, false, [srR (inX part acc.length (sz, []) j).1]⟩), (1, ⟨23, 1, false, nbL acc⟩), (2, ⟨2, 1, true, (inX part acc.length (sz, []) j).2.map inL⟩)], 3))
        (fun j => j ≤ n) (fun j => n - j) 0 (Nat.zero_le _) ⟨by (repeat (refine ⟨by first | exact lk_i rfl rfl | exact lk_r rfl rfl rfl | exact lk_s rfl rfl rfl rfl, ?_⟩)); exact trivial, by (repeat (refine ⟨by first | exact ⟨rfl, rfl, rfl⟩ | exact lknc rfl rfl rfl rfl (by first | rfl | exact all_noOwn_map (fun _ => rfl) | assumption | exact hclo) rfl, ?_⟩)); exact trivial, by rfl, by (intro i hi; (try dsimp only); refine ⟨?_, ?_⟩ <;> first | rfl | omega | (simp at hi; omega) | (simp; omega))⟩ ?_
      intro j hj
      obtain ⟨okj, lenj⟩ := inX_ok (part := part) (i := acc.length) (st := (sz, [])) oki j
      have e2 : inX part acc.length (sz, []) (j + 1) = if j = acc.length then inX part acc.length (sz, []) j else ((pk (inX part acc.length (sz, []) j).1 8).2, if (pk (inX part acc.length (sz, []) j).1 8).1 < part then (inX part acc.length (sz, []) j).2 ++ [(j : Int)] else (inX part acc.length (sz, []) j).2) := rfl
      by_cases c2 : j < n
      · have b2 : decide ((j : Int) < (n : Int)) = true := by simpa using c2
        have hw2 : IntKind.i64.wrap ((j : Int) + 1) = ((j + 1 : Nat) : Int) := by rw [IntWalk.i64_in _ (by omega)]; omega
        generalize inX part acc.length (sz, []) j = Y at *
        obtain ⟨sy, row⟩ := Y
        dsimp only at okj lenj e2 ⊢
        simp only [List.length_nil, Nat.zero_add] at lenj
        have hrl : (row.map inL).length = row.length := List.length_map _
        have g8 := pick_rc 0 sy 8 (okj.mono (by omega)) (by omega)
        by_cases c3 : j = acc.length
        · have b3 : ((j : Int) != ((acc.length : Nat) : Int)) = false := by simp [c3]
          rw [if_pos c3] at e2
          ((repeat' (first
    | (show SQ _ _ _ _ _ _ _ _; first | apply sq_nil | (apply q_move; exact rfl; exact rfl) | (apply q_assign; exact rfl; exact rfl) | (apply q_pick_f; exact rfl; exact rfl; exact rfl; exact (by first | assumption | exact rfl)) | (apply q_add; exact rfl; exact rfl; exact rfl) | (apply q_neq; exact rfl; exact rfl; exact rfl) | (apply q_lss; exact rfl; exact rfl; exact rfl) | (apply q_s; exact rfl; exact rfl; exact rfl; exact (by assumption); exact rfl))
    | (show AW _ _ _ _ _ _ _ _; first | refine aw_region ?_ | (refine aw_seqk ?_; intro K hK) | refine aw_block ?_ | (apply aw_cond_f; exact rfl; exact rfl) | (apply aw_cond_t; exact rfl; exact (by assumption)) | refine aw_skip ?_)
    | refine thn_n ?_
    | (refine hK _ _ _ ?_; clear hK K)
    | refine inb_n ?_)); all_goals (repeat (clear hK K)))
          all_goals (refine ⟨j + 1, id, c2, by omega, ?_⟩; (try dsimp only); rw [e2, ← hw2]; exact ⟨by (repeat (refine ⟨by first | exact lk_i rfl rfl | exact lk_r rfl rfl rfl | exact lk_s rfl rfl rfl rfl, ?_⟩)); exact trivial, by (repeat (refine ⟨by first | exact ⟨rfl, rfl, rfl⟩ | exact lknc rfl rfl rfl rfl (by first | rfl | exact all_noOwn_map (fun _ => rfl) | assumption | exact hclo) rfl, ?_⟩)); exact trivial, by rfl, by (intro i hi; (try dsimp only); refine ⟨?_, ?_⟩ <;> first | rfl | omega | (simp at hi; omega) | (simp; omega))⟩)
        · have b3 : ((j : Int) != ((acc.length : Nat) : Int)) = true := by simp; omega
          rw [if_neg c3] at e2
          by_cases c4 : (pk sy 8).1 < part
          · have b4 : decide ((pk sy 8).1 < part) = true := by simpa using c4
            rw [if_pos c4] at e2
            ((repeat' (first
    | (show SQ _ _ _ _ _ _ _ _; first | apply sq_nil | (apply q_move; exact rfl; exact rfl) | (apply q_assign; exact rfl; exact rfl) | (apply q_pick_t; exact rfl; exact rfl; exact rfl; exact (by first | assumption | exact rfl)) | (apply q_add; exact rfl; exact rfl; exact rfl) | (apply q_neq; exact rfl; exact rfl; exact rfl) | (apply q_lss; exact rfl; exact rfl; exact rfl) | (apply q_g; exact rfl; exact rfl; exact rfl; exact (by assumption)))
    | (show SQ _ _ _ _ _ _ _ _; (first | (apply q_buildn; exact rfl; exact (ty rfl); exact rfl; exact rfl; exact rfl; exact rfl; exact rfl; exact rfl; exact rfl) | (apply q_apo_s; exact rfl; exact rfl; exact rfl; exact (ty rfl); exact rfl; exact rfl; exact (by first | omega | (simp; done) | (simp; omega)); exact (by first | exact List.take_of_length_le (by first | omega | (simp; done) | (simp; omega)) | rfl); exact (ty rfl); exact rfl; exact rfl; exact (by first | omega | (simp; done) | (simp; omega)); exact (by first | exact dt_full (by first | omega | (simp; done) | (simp; omega)) | assumption | rfl); exact rfl; exact (by first | omega | (simp; done) | (simp; omega)); exact (by first | omega | (simp; done) | (simp; omega)); exact (by first | assumption | exact rfl)) | (apply q_callC; exact rfl; exact rfl; exact rfl; exact g8 _; (focus ((repeat (first | exact trivial | refine ⟨by first | exact rfl | assumption, ?_⟩)); done)); skip)); (try simp only [put, rowsOf, plR, List.all_cons, selE, ovr, setH, del, cellsA, splice, isV, List.nil_append, List.cons_append, List.map_cons, List.map_nil, List.length_cons, List.length_nil, List.set_cons_zero, List.set_cons_succ, List.take_succ_cons, List.take_zero, List.take_nil, List.drop_succ_cons, List.drop_zero, List.drop_nil, List.append_nil, List.all_cons, List.all_nil, Bool.and_true, Bool.true_and, Bool.and_false, Bool.false_and, Nat.reduceAdd, Nat.zero_add, Nat.add_zero, Nat.reduceEqDiff, if_true, if_false, reduceIte]))
    | (show AW _ _ _ _ _ _ _ _; first | refine aw_region ?_ | (refine aw_seqk ?_; intro K hK) | refine aw_block ?_ | (apply aw_cond_t; exact rfl; exact (by assumption)) | refine aw_skip ?_)
    | refine thn_n ?_
    | (refine hK _ _ _ ?_; clear hK K)
    | refine inb_n ?_)); all_goals (repeat (clear hK K)))
            all_goals (refine ⟨j + 1, mv 2 4, c2, by omega, ?_⟩; (try dsimp only); rw [e2, ← hw2]; (try dsimp only); rw [List.map_append, List.length_append]; exact ⟨by (repeat (refine ⟨by first | exact lk_i rfl rfl | exact lk_r rfl rfl rfl | exact lk_s rfl rfl rfl rfl, ?_⟩)); exact trivial, by (repeat (refine ⟨by first | exact ⟨rfl, rfl, rfl⟩ | exact lknc rfl rfl rfl rfl (by first | rfl | exact all_noOwn_map (fun _ => rfl) | assumption | exact hclo) rfl, ?_⟩)); exact trivial, by rfl, by (intro i hi; (try dsimp only); refine ⟨?_, ?_⟩ <;> first | rfl | omega | (simp [mv]; omega))⟩)
          · have b4 : decide ((pk sy 8).1 < part) = false := by simpa using c4
            rw [if_neg c4] at e2
            ((repeat' (first
    | (show SQ _ _ _ _ _ _ _ _; first | apply sq_nil | (apply q_move; exact rfl; exact rfl) | (apply q_assign; exact rfl; exact rfl) | (apply q_pick_t; exact rfl; exact rfl; exact rfl; exact (by first | assumption | exact rfl)) | (apply q_add; exact rfl; exact rfl; exact rfl) | (apply q_neq; exact rfl; exact rfl; exact rfl) | (apply q_lss; exact rfl; exact rfl; exact rfl) | (apply q_g; exact rfl; exact rfl; exact rfl; exact (by assumption)))
    | (show SQ _ _ _ _ _ _ _ _; (first | (apply q_callC; exact rfl; exact rfl; exact rfl; exact g8 _; (focus ((repeat (first | exact trivial | refine ⟨by first | exact rfl | assumption, ?_⟩)); done)); skip)); (try simp only [put, rowsOf, plR, List.all_cons, selE, ovr, setH, del, cellsA, splice, isV, List.nil_append, List.cons_append, List.map_cons, List.map_nil, List.length_cons, List.length_nil, List.set_cons_zero, List.set_cons_succ, List.take_succ_cons, List.take_zero, List.take_nil, List.drop_succ_cons, List.drop_zero, List.drop_nil, List.append_nil, List.all_cons, List.all_nil, Bool.and_true, Bool.true_and, Bool.and_false, Bool.false_and, Nat.reduceAdd, Nat.zero_add, Nat.add_zero, Nat.reduceEqDiff, if_true, if_false, reduceIte]))
    | (show AW _ _ _ _ _ _ _ _; first | refine aw_region ?_ | (refine aw_seqk ?_; intro K hK) | refine aw_block ?_ | (apply aw_cond_t; exact rfl; exact (by assumption)) | (apply aw_cond_f; exact rfl; exact (by assumption)) | refine aw_skip ?_)
    | refine thn_n ?_
    | (refine hK _ _ _ ?_; clear hK K)
    | refine inb_n ?_)); all_goals (repeat (clear hK K)))
            all_goals (refine ⟨j + 1, id, c2, by omega, ?_⟩; (try dsimp only); rw [e2, ← hw2]; exact ⟨by (repeat (refine ⟨by first | exact lk_i rfl rfl | exact lk_r rfl rfl rfl | exact lk_s rfl rfl rfl rfl, ?_⟩)); exact trivial, by (repeat (refine ⟨by first | exact ⟨rfl, rfl, rfl⟩ | exact lknc rfl rfl rfl rfl (by first | rfl | exact all_noOwn_map (fun _ => rfl) | assumption | exact hclo) rfl, ?_⟩)); exact trivial, by rfl, by (intro i hi; (try dsimp only); refine ⟨?_, ?_⟩ <;> first | rfl | omega | (simp at hi; omega) | (simp; omega))⟩)
      · have b2 : decide ((j : Int) < (n : Int)) = false := by simpa using c2
        obtain rfl : j = n := by omega
        clear e2
        generalize inX part acc.length (sz, []) j = Y at *
        obtain ⟨sy, row⟩ := Y
        dsimp only at okj lenj e1 ⊢
        simp only [List.length_nil, Nat.zero_add] at lenj
        have hrl : (row.map inL).length = row.length := List.length_map _
        have hdt : ((row.map inL).drop 0).take row.length = row.map inL := by rw [List.drop_zero, List.take_of_length_le (by omega)]
        ((repeat' (first
    | (show SQ _ _ _ _ _ _ _ _; apply sq_frz (t := 46); exact rfl; exact rfl; exact (by first | rfl | exact all_noOwn_map (fun _ => rfl) | assumption | exact hclo); exact (by first | omega | (simp; done) | (simp; omega)); exact (by first | exact dt_full (by first | omega | (simp; done) | (simp; omega)) | assumption | rfl); (try simp only [put, rowsOf, plR, List.all_cons, selE, ovr, setH, del, cellsA, splice, isV, List.nil_append, List.cons_append, List.map_cons, List.map_nil, List.length_cons, List.length_nil, List.set_cons_zero, List.set_cons_succ, List.take_succ_cons, List.take_zero, List.take_nil, List.drop_succ_cons, List.drop_zero, List.drop_nil, List.append_nil, List.all_cons, List.all_nil, Bool.and_true, Bool.true_and, Bool.and_false, Bool.false_and, Nat.reduceAdd, Nat.zero_add, Nat.add_zero, Nat.reduceEqDiff, if_true, if_false, reduceIte]))
    | (show SQ _ _ _ _ _ _ _ _; first | apply sq_nil | (apply q_move; exact rfl; exact rfl) | (apply q_assign; exact rfl; exact rfl) | (apply q_add; exact rfl; exact rfl; exact rfl) | (apply q_lss; exact rfl; exact rfl; exact rfl))
    | (show SQ _ _ _ _ _ _ _ _; (first | (apply q_buildn; exact rfl; exact (ty rfl); exact rfl; exact rfl; exact rfl; exact rfl; exact rfl; exact rfl; exact rfl) | (apply q_apo_s; exact rfl; exact rfl; exact rfl; exact (ty rfl); exact rfl; exact rfl; exact (by first | omega | (simp; done) | (simp; omega)); exact (by first | exact List.take_of_length_le (by first | omega | (simp; done) | (simp; omega)) | rfl); exact (ty rfl); exact rfl; exact rfl; exact (by first | omega | (simp; done) | (simp; omega)); exact (by first | exact dt_full (by first | omega | (simp; done) | (simp; omega)) | assumption | rfl); exact rfl; exact (by first | omega | (simp; done) | (simp; omega)); exact (by first | omega | (simp; done) | (simp; omega)); exact (by first | assumption | exact rfl))); (try simp only [put, rowsOf, plR, List.all_cons, selE, ovr, setH, del, cellsA, splice, isV, List.nil_append, List.cons_append, List.map_cons, List.map_nil, List.length_cons, List.length_nil, List.set_cons_zero, List.set_cons_succ, List.take_succ_cons, List.take_zero, List.take_nil, List.drop_succ_cons, List.drop_zero, List.drop_nil, List.append_nil, List.all_cons, List.all_nil, Bool.and_true, Bool.true_and, Bool.and_false, Bool.false_and, Nat.reduceAdd, Nat.zero_add, Nat.add_zero, Nat.reduceEqDiff, if_true, if_false, reduceIte]))
    | (show AW _ _ _ _ _ _ _ _; first | refine aw_region ?_ | (refine aw_seqk ?_; intro K hK) | (apply aw_cond_f; exact rfl; exact (by assumption)) | refine aw_exit ?_)
    | refine thn_n ?_
    | (refine hK _ _ _ ?_; clear hK K)
    | refine thn_e ?_
    | refine inb_same ?_
    | refine inb_n ?_
    | (clear hK K; refine hK _ _ _ ?_; clear hK K))); all_goals (repeat (clear hK K)))
        all_goals (refine ⟨acc.length + 1, mv 1 4, c1, by omega, ?_⟩; (try dsimp only); rw [e1, ← hw]; (try dsimp only); exact ⟨by (repeat (refine ⟨by first | exact lk_i rfl rfl | exact lk_r rfl rfl rfl | exact lk_s rfl rfl rfl rfl, ?_⟩)); exact trivial, by (repeat (refine ⟨by first | exact ⟨rfl, rfl, rfl⟩ | exact lknc rfl rfl rfl (by rw [nbL_app]; rfl) (by first | rfl | exact all_noOwn_map (fun _ => rfl) | assumption | exact hclo) rfl, ?_⟩)); exact trivial, by rfl, by (intro i hi; (try dsimp only); refine ⟨?_, ?_⟩ <;> first | rfl | omega | (simp [mv]; omega))⟩)
    · have b1 : decide ((i : Int) < (n : Int)) = false := by simpa using c1
      obtain rfl : i = n := by omega
      generalize outX part i s4 i = Z at *
      obtain ⟨s5, L0⟩ := Z
      dsimp only at *
      rcases hend with ⟨d1, rfl, rfl⟩ | ⟨d1, d2, rfl, rfl⟩ | ⟨d1, d2, a, ha, v, s7, g7, a8, rfl⟩
      · have b5 : decide ((0 : Int) < (i : Int)) = false := by simp; omega
        ((repeat' (first
    | (show SQ _ _ _ _ _ _ _ _; first | apply sq_nil | (apply q_move; exact rfl; exact rfl) | (apply q_assign; exact rfl; exact rfl) | (apply q_pick_f; exact rfl; exact rfl; exact rfl; exact (by first | assumption | exact rfl)) | (apply q_lss; exact rfl; exact rfl; exact rfl) | (apply q_gtr; exact rfl; exact rfl; exact rfl) | (apply q_s; exact rfl; exact rfl; exact rfl; exact (by assumption); exact rfl))
    | (show AW _ _ _ _ _ _ _ _; first | refine aw_region ?_ | (refine aw_seqk ?_; intro K hK) | (apply aw_cond_f; exact rfl; exact rfl) | (apply aw_cond_f; exact rfl; exact (by assumption)) | refine aw_ret ?_ | refine aw_exit ?_ | refine aw_skip ?_)
    | refine thn_n ?_
    | (refine hK _ _ _ ?_; clear hK K)
    | refine thn_e ?_
    | refine inb_same ?_
    | (clear hK K; refine hK _ _ _ ?_; clear hK K))); all_goals (repeat (clear hK K)))
        all_goals exact finc id (.r1 _ _ (.tmp _ _ rfl)) rfl (fun z hz => rfl) ⟨rfl, (by simp only [renB, rows_no _ (nbL_no _)]; rfl), trivial⟩ rfl
      · have b5 : decide ((0 : Int) < (i : Int)) = true := by simp; omega
        ((repeat' (first
    | (show SQ _ _ _ _ _ _ _ _; first | apply sq_nil | (apply q_move; exact rfl; exact rfl) | (apply q_assign; exact rfl; exact rfl) | (apply q_pick_t; exact rfl; exact rfl; exact rfl; exact (by first | assumption | exact rfl)) | (apply q_lss; exact rfl; exact rfl; exact rfl) | (apply q_gtr; exact rfl; exact rfl; exact rfl) | (apply q_g; exact rfl; exact rfl; exact rfl; exact (by assumption)))
    | (show SQ _ _ _ _ _ _ _ _; (first | (apply q_callC; exact rfl; exact rfl; exact rfl; exact h6 0 _; (focus ((repeat (first | exact trivial | refine ⟨by first | exact rfl | assumption, ?_⟩)); done)); skip)); (try simp only [put, rowsOf, plR, List.all_cons, selE, ovr, setH, del, cellsA, splice, isV, List.nil_append, List.cons_append, List.map_cons, List.map_nil, List.length_cons, List.length_nil, List.set_cons_zero, List.set_cons_succ, List.take_succ_cons, List.take_zero, List.take_nil, List.drop_succ_cons, List.drop_zero, List.drop_nil, List.append_nil, List.all_cons, List.all_nil, Bool.and_true, Bool.true_and, Bool.and_false, Bool.false_and, Nat.reduceAdd, Nat.zero_add, Nat.add_zero, Nat.reduceEqDiff, if_true, if_false, reduceIte]))
    | (show AW _ _ _ _ _ _ _ _; first | refine aw_region ?_ | (refine aw_seqk ?_; intro K hK) | (apply aw_cond_f; exact rfl; exact (by assumption)) | refine aw_ret ?_ | refine aw_exit ?_ | refine aw_skip ?_)
    | refine thn_n ?_
    | (refine hK _ _ _ ?_; clear hK K)
    | refine thn_e ?_
    | refine inb_same ?_
    | (clear hK K; refine hK _ _ _ ?_; clear hK K))); all_goals (repeat (clear hK K)))
        all_goals exact finc id (.r1 _ _ (.tmp _ _ rfl)) rfl (fun z hz => rfl) ⟨rfl, (by simp only [renB, rows_no _ (nbL_no _)]; rfl), trivial⟩ rfl
      · have b5 : decide ((0 : Int) < (i : Int)) = true := by simp; omega
        have hnl := nbL_len L0
        have hrow : (nbL L0)[0 + ((a : Int)).toNat]? = some [.dsl 1 (L0[a].map inL)] := by simp [nbL, ha]
        have hlen2 : ((a : Int)).toNat < (nbL L0).length := by rw [hnl]; simpa using ha
        have hOw := l00Own_ro L0[a] (by have := bd5 _ (List.getElem_mem ha); omega)
        have hrl : (L0[a].map inL).length = L0[a].length := List.length_map _
        have hbl := bd5 _ (List.getElem_mem ha)
        have hset : nbL (L0.set a (L0[a] ++ [v])) = (nbL L0).set a [.dsl 1 (L0[a].map inL ++ [[.v (.int .i64 v)]])] := by rw [nbL, List.map_set, List.map_append]; rfl
        have hno : ((nbL L0).set a [.dsl 1 (L0[a].map inL ++ [[.v (.int .i64 v)]])]).all noOwnL = true := by rw [← hset]; exact nbL_no _
        generalize L0[a] = lx at *
        have hclo : (lx.map inL ++ [[AV.v (.int .i64 v)]]).all noOwnL = true := by rw [List.all_append, all_noOwn_map (fun _ => rfl)]; rfl
        have hdt2 : ((lx.map inL ++ [[AV.v (.int .i64 v)]]).drop 0).take (lx.length + 1) = lx.map inL ++ [[AV.v (.int .i64 v)]] := by rw [List.drop_zero, List.take_of_length_le (by simp)]
        ((repeat' (first
    | (show SQ _ _ _ _ _ _ _ _; apply sq_frz (t := 71); exact rfl; exact rfl; exact (by first | rfl | exact all_noOwn_map (fun _ => rfl) | assumption | exact hclo); exact (by first | omega | (simp; done) | (simp; omega)); exact (by first | exact dt_full (by first | omega | (simp; done) | (simp; omega)) | assumption | rfl); (try simp only [put, rowsOf, plR, List.all_cons, selE, ovr, setH, del, cellsA, splice, isV, List.nil_append, List.cons_append, List.map_cons, List.map_nil, List.length_cons, List.length_nil, List.set_cons_zero, List.set_cons_succ, List.take_succ_cons, List.take_zero, List.take_nil, List.drop_succ_cons, List.drop_zero, List.drop_nil, List.append_nil, List.all_cons, List.all_nil, Bool.and_true, Bool.true_and, Bool.and_false, Bool.false_and, Nat.reduceAdd, Nat.zero_add, Nat.add_zero, Nat.reduceEqDiff, if_true, if_false, reduceIte]))
    | (show SQ _ _ _ _ _ _ _ _; first | apply sq_nil | (apply q_move; exact rfl; exact rfl) | (apply q_assign; exact rfl; exact rfl) | (apply q_pick_t; exact rfl; exact rfl; exact rfl; exact (by first | assumption | exact rfl)) | (apply q_lss; exact rfl; exact rfl; exact rfl) | (apply q_gtr; exact rfl; exact rfl; exact rfl) | (apply q_ixl; exact rfl; exact rfl; exact rfl; exact (ty rfl); exact rfl; exact rfl; exact rfl; exact (by first | omega | (simp; done) | (simp; omega)); exact (by first | omega | (simp; done) | (simp; omega))) | (apply q_ld1p; exact rfl; exact rfl; exact (ty rfl); exact rfl; exact rfl; exact (by first | rfl | assumption | ((try simp only [Nat.zero_add]); refine List.getElem?_set_self ?_; (try simp only [List.length_set]); assumption)); exact rfl) | (apply q_g; exact rfl; exact rfl; exact rfl; exact (by assumption)))
    | (show SQ _ _ _ _ _ _ _ _; (first | (apply q_store; exact rfl; exact rfl; exact (ty rfl); exact rfl; exact (by first | rfl | assumption | ((try simp only [Nat.zero_add]); refine List.getElem?_set_self ?_; (try simp only [List.length_set]); assumption)); exact rfl; exact rfl; exact rfl) | (apply q_buildn; exact rfl; exact (ty rfl); exact rfl; exact rfl; exact rfl; exact rfl; exact rfl; exact rfl; exact rfl) | (apply q_apo_s; exact rfl; exact rfl; exact rfl; exact (ty rfl); exact rfl; exact rfl; exact (by first | omega | (simp; done) | (simp; omega)); exact (by first | exact List.take_of_length_le (by first | omega | (simp; done) | (simp; omega)) | rfl); exact (ty rfl); exact rfl; exact rfl; exact (by first | omega | (simp; done) | (simp; omega)); exact (by first | exact dt_full (by first | omega | (simp; done) | (simp; omega)) | assumption | rfl); exact rfl; exact (by first | omega | (simp; done) | (simp; omega)); exact (by first | omega | (simp; done) | (simp; omega)); exact (by first | assumption | exact rfl)) | (apply q_callU; exact rfl; exact rfl; exact rfl; exact FzL.of rfl; exact hOw _) | (apply q_callC; exact rfl; exact rfl; exact rfl; exact h6 0 _; (focus ((repeat (first | exact trivial | refine ⟨by first | exact rfl | assumption, ?_⟩)); done)); skip) | (apply q_callC; exact rfl; exact rfl; exact rfl; exact g7 0 _; (focus ((repeat (first | exact trivial | refine ⟨by first | exact rfl | assumption, ?_⟩)); done)); skip) | (apply q_callC; exact rfl; exact rfl; exact rfl; exact a8 _; (focus ((repeat (first | exact trivial | refine ⟨by first | exact rfl | assumption, ?_⟩)); done)); skip)); (try simp only [put, rowsOf, plR, List.all_cons, selE, ovr, setH, del, cellsA, splice, isV, List.nil_append, List.cons_append, List.map_cons, List.map_nil, List.length_cons, List.length_nil, List.set_cons_zero, List.set_cons_succ, List.take_succ_cons, List.take_zero, List.take_nil, List.drop_succ_cons, List.drop_zero, List.drop_nil, List.append_nil, List.all_cons, List.all_nil, Bool.and_true, Bool.true_and, Bool.and_false, Bool.false_and, Nat.reduceAdd, Nat.zero_add, Nat.add_zero, Nat.reduceEqDiff, if_true, if_false, reduceIte]))
    | (show AW _ _ _ _ _ _ _ _; first | refine aw_region ?_ | (refine aw_seqk ?_; intro K hK) | (apply aw_cond_t; exact rfl; exact (by assumption)) | (apply aw_cond_f; exact rfl; exact (by assumption)) | refine aw_ret ?_ | refine aw_exit ?_)
    | refine thn_n ?_
    | (refine hK _ _ _ ?_; clear hK K)
    | refine thn_e ?_
    | refine inb_same ?_
    | (clear hK K; refine hK _ _ _ ?_; clear hK K))); all_goals (repeat (clear hK K)))
        all_goals exact finc id (.r1 _ _ (.tmp _ _ rfl)) rfl (fun z hz => rfl) ⟨rfl, (by simp only [renB, rows_no _ (nbL_no _)]; rw [hset]; rfl), trivial⟩ rfl
  · subst hnp
    ((repeat' (first
    | (show SQ _ _ _ _ _ _ _ _; first | apply sq_nil | (apply q_move; exact rfl; exact rfl) | (apply q_assign; exact rfl; exact rfl) | (apply q_add; exact rfl; exact rfl; exact rfl))
    | (show SQ _ _ _ _ _ _ _ _; (first | (apply q_build0; exact rfl; exact (ty rfl); exact rfl) | (apply q_callC; exact rfl; exact rfl; exact rfl; exact h1 0 _; (focus ((repeat (first | exact trivial | refine ⟨by first | exact rfl | assumption, ?_⟩)); done)); skip) | (apply q_callC; exact rfl; exact rfl; exact rfl; exact h2 0 _; (focus ((repeat (first | exact trivial | refine ⟨by first | exact rfl | assumption, ?_⟩)); done)); skip) | (apply q_callC; exact rfl; exact rfl; exact rfl; exact h4 0 _; (focus ((repeat (first | exact trivial | refine ⟨by first | exact rfl | assumption, ?_⟩)); done)); skip) | (apply q_callC; exact rfl; exact rfl; exact rfl; exact h4 0 _; (focus ((repeat (first | exact trivial | refine ⟨by first | exact rfl | assumption, ?_⟩)); done)); skip)); (try simp only [put, rowsOf, plR, List.all_cons, selE, ovr, setH, del, cellsA, splice, isV, List.nil_append, List.cons_append, List.map_cons, List.map_nil, List.length_cons, List.length_nil, List.set_cons_zero, List.set_cons_succ, List.take_succ_cons, List.take_zero, List.take_nil, List.drop_succ_cons, List.drop_zero, List.drop_nil, List.append_nil, List.all_cons, List.all_nil, Bool.and_true, Bool.true_and, Bool.and_false, Bool.false_and, Nat.reduceAdd, Nat.zero_add, Nat.add_zero, Nat.reduceEqDiff, if_true, if_false, reduceIte]))
    | (show AW _ _ _ _ _ _ _ _; first | refine aw_region ?_ | (refine aw_seqk ?_; intro K hK) | refine aw_block ?_ | (apply aw_cond_f; exact rfl; exact (by assumption)) | refine aw_skip ?_)
    | refine thn_n ?_
    | (refine hK _ _ _ ?_; clear hK K))); all_goals (repeat (clear hK K)))
    rw [hwp]
    refine aw_unpl 1 rfl ?_
    show AW _ _ 1 _ _ _ _ _
    refine aw_loop (ρ := mv 1 1) (ι := Nat) (fun i => ([(6, .v (.int .i64 i)), (5, .sl 1 0 i), (4, .v (.int .i64 part)), (3, .v (.int .i64 n)), (0, .ptr 0 0 0)],
        [(0, ⟨109, 3, false, [srR (outX part n s4 i).1]⟩), (1, ⟨23, 1, false, nbL (outX part n s4 i).2⟩)], 2))
      (fun i => i ≤ n) (fun i => n - i) 0 (Nat.zero_le _) ⟨by (repeat (refine ⟨by first | exact lk_i rfl rfl | exact lk_r rfl rfl rfl | exact lk_s rfl rfl rfl rfl, ?_⟩)); exact trivial, by (repeat (refine ⟨by first | exact ⟨rfl, rfl, rfl⟩, ?_⟩)); exact trivial, by rfl, by (intro i hi; (try dsimp only); refine ⟨?_, ?_⟩ <;> first | rfl | omega | (simp [mv]; omega))⟩ ?_
    intro i hi
    obtain ⟨oki, leni, bdi⟩ := hO i
    by_cases c1 : i < n
    · have b1 : decide ((i : Int) < (n : Int)) = true := by simpa using c1
      have hw : IntKind.i64.wrap ((i : Int) + 1) = ((i + 1 : Nat) : Int) := by rw [IntWalk.i64_in _ (by omega)]; omega
      have e1 : outX part n s4 (i + 1) = ((inX part i ((outX part n s4 i).1, []) n).1, (outX part n s4 i).2 ++ [(inX part i ((outX part n s4 i).1, []) n).2]) := rfl
      generalize outX part n s4 i = Z at *
      obtain ⟨sz, acc⟩ := Z
      dsimp only at oki leni e1 ⊢
      subst leni
      have hnl := nbL_len acc
      ((repeat' (first
    | (show SQ _ _ _ _ _ _ _ _; first | apply sq_nil | (apply q_move; exact rfl; exact rfl) | (apply q_assign; exact rfl; exact rfl) | (apply q_lss; exact rfl; exact rfl; exact rfl))
    | (show SQ _ _ _ _ _ _ _ _; (first | (apply q_build0; exact rfl; exact (ty rfl); exact rfl)); (try simp only [put, rowsOf, plR, List.all_cons, selE, ovr, setH, del, cellsA, splice, isV, List.nil_append, List.cons_append, List.map_cons, List.map_nil, List.length_cons, List.length_nil, List.set_cons_zero, List.set_cons_succ, List.take_succ_cons, List.take_zero, List.take_nil, List.drop_succ_cons, List.drop_zero, List.drop_nil, List.append_nil, List.all_cons, List.all_nil, Bool.and_true, Bool.true_and, Bool.and_false, Bool.false_and, Nat.reduceAdd, Nat.zero_add, Nat.add_zero, Nat.reduceEqDiff, if_true, if_false, reduceIte]))
    | (show AW _ _ _ _ _ _ _ _; first | refine aw_region ?_ | (refine aw_seqk ?_; intro K hK) | refine aw_block ?_ | (apply aw_cond_t; exact rfl; exact (by assumption)) | refine aw_skip ?_)
    | refine thn_n ?_
    | (refine hK _ _ _ ?_; clear hK K))); all_goals (repeat (clear hK K)))
      show AW _ _ 1 _ _ _ _ _
      refine aw_loop (ρ := id) (ι := Nat) (fun j => ([(8, .v (.int .i64 j)), (7, .sl 2 0 (inX part acc.length (sz, []) j).2.length), (6, .v (.int .i64 acc.length)), (5, .sl 1 0 acc.length), (4, .v (.int .i64 part)), (3, .v (.int .i64 n)), (0, .ptr 0 0 0)],
          [(0, ⟨109, 3, false, [srR (inX part acc.length (sz, []) j).1]⟩), (1, ⟨23, 1, false, nbL acc⟩), (2, ⟨2, 1, true, (inX part acc.length (sz, []) j).2.map inL⟩)], 3))
        (fun j => j ≤ n) (fun j => n - j) 0 (Nat.zero_le _) ⟨by (repeat (refine ⟨by first | exact lk_i rfl rfl | exact lk_r rfl rfl rfl | exact lk_s rfl rfl rfl rfl, ?_⟩)); exact trivial, by (repeat (refine ⟨by first | exact ⟨rfl, rfl, rfl⟩ | exact lknc rfl rfl rfl rfl (by first | rfl | exact all_noOwn_map (fun _ => rfl) | assumption | exact hclo) rfl, ?_⟩)); exact trivial, by rfl, by (intro i hi; (try dsimp only); refine ⟨?_, ?_⟩ <;> first | rfl | omega | (simp at hi; omega) | (simp; omega))⟩ ?_
      intro j hj
      obtain ⟨okj, lenj⟩ := inX_ok (part := part) (i := acc.length) (st := (sz, [])) oki j
      have e2 : inX part acc.length (sz, []) (j + 1) = if j = acc.length then inX part acc.length (sz, []) j else ((pk (inX part acc.length (sz, []) j).1 8).2, if (pk (inX part acc.length (sz, []) j).1 8).1 < part then (inX part acc.length (sz, []) j).2 ++ [(j : Int)] else (inX part acc.length (sz, []) j).2) := rfl
      by_cases c2 : j < n
      · have b2 : decide ((j : Int) < (n : Int)) = true := by simpa using c2
        have hw2 : IntKind.i64.wrap ((j : Int) + 1) = ((j + 1 : Nat) : Int) := by rw [IntWalk.i64_in _ (by omega)]; omega
        generalize inX part acc.length (sz, []) j = Y at *
        obtain ⟨sy, row⟩ := Y
        dsimp only at okj lenj e2 ⊢
        simp only [List.length_nil, Nat.zero_add] at lenj
        have hrl : (row.map inL).length = row.length := List.length_map _
        have g8 := pick_rc 0 sy 8 (okj.mono (by omega)) (by omega)
        by_cases c3 : j = acc.length
        · have b3 : ((j : Int) != ((acc.length : Nat) : Int)) = false := by simp [c3]
          rw [if_pos c3] at e2
          ((repeat' (first
    | (show SQ _ _ _ _ _ _ _ _; first | apply sq_nil | (apply q_move; exact rfl; exact rfl) | (apply q_assign; exact rfl; exact rfl) | (apply q_pick_f; exact rfl; exact rfl; exact rfl; exact (by first | assumption | exact rfl)) | (apply q_add; exact rfl; exact rfl; exact rfl) | (apply q_neq; exact rfl; exact rfl; exact rfl) | (apply q_lss; exact rfl; exact rfl; exact rfl) | (apply q_s; exact rfl; exact rfl; exact rfl; exact (by assumption); exact rfl))
    | (show AW _ _ _ _ _ _ _ _; first | refine aw_region ?_ | (refine aw_seqk ?_; intro K hK) | refine aw_block ?_ | (apply aw_cond_f; exact rfl; exact rfl) | (apply aw_cond_t; exact rfl; exact (by assumption)) | refine aw_skip ?_)
    | refine thn_n ?_
    | (refine hK _ _ _ ?_; clear hK K)
    | refine inb_n ?_)); all_goals (repeat (clear hK K)))
          all_goals (refine ⟨j + 1, id, c2, by omega, ?_⟩; (try dsimp only); rw [e2, ← hw2]; exact ⟨by (repeat (refine ⟨by first | exact lk_i rfl rfl | exact lk_r rfl rfl rfl | exact lk_s rfl rfl rfl rfl, ?_⟩)); exact trivial, by (repeat (refine ⟨by first | exact ⟨rfl, rfl, rfl⟩ | exact lknc rfl rfl rfl rfl (by first | rfl | exact all_noOwn_map (fun _ => rfl) | assumption | exact hclo) rfl, ?_⟩)); exact trivial, by rfl, by (intro i hi; (try dsimp only); refine ⟨?_, ?_⟩ <;> first | rfl | omega | (simp at hi; omega) | (simp; omega))⟩)
        · have b3 : ((j : Int) != ((acc.length : Nat) : Int)) = true := by simp; omega
          rw [if_neg c3] at e2
          by_cases c4 : (pk sy 8).1 < part
          · have b4 : decide ((pk sy 8).1 < part) = true := by simpa using c4
            rw [if_pos c4] at e2
            ((repeat' (first
    | (show SQ _ _ _ _ _ _ _ _; first | apply sq_nil | (apply q_move; exact rfl; exact rfl) | (apply q_assign; exact rfl; exact rfl) | (apply q_pick_t; exact rfl; exact rfl; exact rfl; exact (by first | assumption | exact rfl)) | (apply q_add; exact rfl; exact rfl; exact rfl) | (apply q_neq; exact rfl; exact rfl; exact rfl) | (apply q_lss; exact rfl; exact rfl; exact rfl) | (apply q_g; exact rfl; exact rfl; exact rfl; exact (by assumption)))
    | (show SQ _ _ _ _ _ _ _ _; (first | (apply q_buildn; exact rfl; exact (ty rfl); exact rfl; exact rfl; exact rfl; exact rfl; exact rfl; exact rfl; exact rfl) | (apply q_apo_s; exact rfl; exact rfl; exact rfl; exact (ty rfl); exact rfl; exact rfl; exact (by first | omega | (simp; done) | (simp; omega)); exact (by first | exact List.take_of_length_le (by first | omega | (simp; done) | (simp; omega)) | rfl); exact (ty rfl); exact rfl; exact rfl; exact (by first | omega | (simp; done) | (simp; omega)); exact (by first | exact dt_full (by first | omega | (simp; done) | (simp; omega)) | assumption | rfl); exact rfl; exact (by first | omega | (simp; done) | (simp; omega)); exact (by first | omega | (simp; done) | (simp; omega)); exact (by first | assumption | exact rfl)) | (apply q_callC; exact rfl; exact rfl; exact rfl; exact g8 _; (focus ((repeat (first | exact trivial | refine ⟨by first | exact rfl | assumption, ?_⟩)); done)); skip)); (try simp only [put, rowsOf, plR, List.all_cons, selE, ovr, setH, del, cellsA, splice, isV, List.nil_append, List.cons_append, List.map_cons, List.map_nil, List.length_cons, List.length_nil, List.set_cons_zero, List.set_cons_succ, List.take_succ_cons, List.take_zero, List.take_nil, List.drop_succ_cons, List.drop_zero, List.drop_nil, List.append_nil, List.all_cons, List.all_nil, Bool.and_true, Bool.true_and, Bool.and_false, Bool.false_and, Nat.reduceAdd, Nat.zero_add, Nat.add_zero, Nat.reduceEqDiff, if_true, if_false, reduceIte]))
    | (show AW _ _ _ _ _ _ _ _; first | refine aw_region ?_ | (refine aw_seqk ?_; intro K hK) | refine aw_block ?_ | (apply aw_cond_t; exact rfl; exact (by assumption)) | refine aw_skip ?_)
    | refine thn_n ?_
    | (refine hK _ _ _ ?_; clear hK K)
    | refine inb_n ?_)); all_goals (repeat (clear hK K)))
            all_goals (refine ⟨j + 1, mv 2 4, c2, by omega, ?_⟩; (try dsimp only); rw [e2, ← hw2]; (try dsimp only); rw [List.map_append, List.length_append]; exact ⟨by (repeat (refine ⟨by first | exact lk_i rfl rfl | exact lk_r rfl rfl rfl | exact lk_s rfl rfl rfl rfl, ?_⟩)); exact trivial, by (repeat (refine ⟨by first | exact ⟨rfl, rfl, rfl⟩ | exact lknc rfl rfl rfl rfl (by first | rfl | exact all_noOwn_map (fun _ => rfl) | assumption | exact hclo) rfl, ?_⟩)); exact trivial, by rfl, by (intro i hi; (try dsimp only); refine ⟨?_, ?_⟩ <;> first | rfl | omega | (simp [mv]; omega))⟩)
          · have b4 : decide ((pk sy 8).1 < part) = false := by simpa using c4
            rw [if_neg c4] at e2
            ((repeat' (first
    | (show SQ _ _ _ _ _ _ _ _; first | apply sq_nil | (apply q_move; exact rfl; exact rfl) | (apply q_assign; exact rfl; exact rfl) | (apply q_pick_t; exact rfl; exact rfl; exact rfl; exact (by first | assumption | exact rfl)) | (apply q_add; exact rfl; exact rfl; exact rfl) | (apply q_neq; exact rfl; exact rfl; exact rfl) | (apply q_lss; exact rfl; exact rfl; exact rfl) | (apply q_g; exact rfl; exact rfl; exact rfl; exact (by assumption)))
    | (show SQ _ _ _ _ _ _ _ _; (first | (apply q_callC; exact rfl; exact rfl; exact rfl; exact g8 _; (focus ((repeat (first | exact trivial | refine ⟨by first | exact rfl | assumption, ?_⟩)); done)); skip)); (try simp only [put, rowsOf, plR, List.all_cons, selE, ovr, setH, del, cellsA, splice, isV, List.nil_append, List.cons_append, List.map_cons, List.map_nil, List.length_cons, List.length_nil, List.set_cons_zero, List.set_cons_succ, List.take_succ_cons, List.take_zero, List.take_nil, List.drop_succ_cons, List.drop_zero, List.drop_nil, List.append_nil, List.all_cons, List.all_nil, Bool.and_true, Bool.true_and, Bool.and_false, Bool.false_and, Nat.reduceAdd, Nat.zero_add, Nat.add_zero, Nat.reduceEqDiff, if_true, if_false, reduceIte]))
    | (show AW _ _ _ _ _ _ _ _; first | refine aw_region ?_ | (refine aw_seqk ?_; intro K hK) | refine aw_block ?_ | (apply aw_cond_t; exact rfl; exact (by assumption)) | (apply aw_cond_f; exact rfl; exact (by assumption)) | refine aw_skip ?_)
    | refine thn_n ?_
    | (refine hK _ _ _ ?_; clear hK K)
    | refine inb_n ?_)); all_goals (repeat (clear hK K)))
            all_goals (refine ⟨j + 1, id, c2, by omega, ?_⟩; (try dsimp only); rw [e2, ← hw2]; exact ⟨by (repeat (refine ⟨by first | exact lk_i rfl rfl | exact lk_r rfl rfl rfl | exact lk_s rfl rfl rfl rfl, ?_⟩)); exact trivial, by (repeat (refine ⟨by first | exact ⟨rfl, rfl, rfl⟩ | exact lknc rfl rfl rfl rfl (by first | rfl | exact all_noOwn_map (fun _ => rfl) | assumption | exact hclo) rfl, ?_⟩)); exact trivial, by rfl, by (intro i hi; (try dsimp only); refine ⟨?_, ?_⟩ <;> first | rfl | omega | (simp at hi; omega) | (simp; omega))⟩)
      · have b2 : decide ((j : Int) < (n : Int)) = false := by simpa using c2
        obtain rfl : j = n := by omega
        clear e2
        generalize inX part acc.length (sz, []) j = Y at *
        obtain ⟨sy, row⟩ := Y
        dsimp only at okj lenj e1 ⊢
        simp only [List.length_nil, Nat.zero_add] at lenj
        have hrl : (row.map inL).length = row.length := List.length_map _
        have hdt : ((row.map inL).drop 0).take row.length = row.map inL := by rw [List.drop_zero, List.take_of_length_le (by omega)]
        ((repeat' (first
    | (show SQ _ _ _ _ _ _ _ _; apply sq_frz (t := 46); exact rfl; exact rfl; exact (by first | rfl | exact all_noOwn_map (fun _ => rfl) | assumption | exact hclo); exact (by first | omega | (simp; done) | (simp; omega)); exact (by first | exact dt_full (by first | omega | (simp; done) | (simp; omega)) | assumption | rfl); (try simp only [put, rowsOf, plR, List.all_cons, selE, ovr, setH, del, cellsA, splice, isV, List.nil_append, List.cons_append, List.map_cons, List.map_nil, List.length_cons, List.length_nil, List.set_cons_zero, List.set_cons_succ, List.take_succ_cons, List.take_zero, List.take_nil, List.drop_succ_cons, List.drop_zero, List.drop_nil, List.append_nil, List.all_cons, List.all_nil, Bool.and_true, Bool.true_and, Bool.and_false, Bool.false_and, Nat.reduceAdd, Nat.zero_add, Nat.add_zero, Nat.reduceEqDiff, if_true, if_false, reduceIte]))
    | (show SQ _ _ _ _ _ _ _ _; first | apply sq_nil | (apply q_move; exact rfl; exact rfl) | (apply q_assign; exact rfl; exact rfl) | (apply q_add; exact rfl; exact rfl; exact rfl) | (apply q_lss; exact rfl; exact rfl; exact rfl))
    | (show SQ _ _ _ _ _ _ _ _; (first | (apply q_buildn; exact rfl; exact (ty rfl); exact rfl; exact rfl; exact rfl; exact rfl; exact rfl; exact rfl; exact rfl) | (apply q_apo_s; exact rfl; exact rfl; exact rfl; exact (ty rfl); exact rfl; exact rfl; exact (by first | omega | (simp; done) | (simp; omega)); exact (by first | exact List.take_of_length_le (by first | omega | (simp; done) | (simp; omega)) | rfl); exact (ty rfl); exact rfl; exact rfl; exact (by first | omega | (simp; done) | (simp; omega)); exact (by first | exact dt_full (by first | omega | (simp; done) | (simp; omega)) | assumption | rfl); exact rfl; exact (by first | omega | (simp; done) | (simp; omega)); exact (by first | omega | (simp; done) | (simp; omega)); exact (by first | assumption | exact rfl))); (try simp only [put, rowsOf, plR, List.all_cons, selE, ovr, setH, del, cellsA, splice, isV, List.nil_append, List.cons_append, List.map_cons, List.map_nil, List.length_cons, List.length_nil, List.set_cons_zero, List.set_cons_succ, List.take_succ_cons, List.take_zero, List.take_nil, List.drop_succ_cons, List.drop_zero, List.drop_nil, List.append_nil, List.all_cons, List.all_nil, Bool.and_true, Bool.true_and, Bool.and_false, Bool.false_and, Nat.reduceAdd, Nat.zero_add, Nat.add_zero, Nat.reduceEqDiff, if_true, if_false, reduceIte]))
    | (show AW _ _ _ _ _ _ _ _; first | refine aw_region ?_ | (refine aw_seqk ?_; intro K hK) | (apply aw_cond_f; exact rfl; exact (by assumption)) | refine aw_exit ?_)
    | refine thn_n ?_
    | (refine hK _ _ _ ?_; clear hK K)
    | refine thn_e ?_
    | refine inb_same ?_
    | refine inb_n ?_
    | (clear hK K; refine hK _ _ _ ?_; clear hK K))); all_goals (repeat (clear hK K)))
        all_goals (refine ⟨acc.length + 1, mv 1 4, c1, by omega, ?_⟩; (try dsimp only); rw [e1, ← hw]; (try dsimp only); exact ⟨by (repeat (refine ⟨by first | exact lk_i rfl rfl | exact lk_r rfl rfl rfl | exact lk_s rfl rfl rfl rfl, ?_⟩)); exact trivial, by (repeat (refine ⟨by first | exact ⟨rfl, rfl, rfl⟩ | exact lknc rfl rfl rfl (by rw [nbL_app]; rfl) (by first | rfl | exact all_noOwn_map (fun _ => rfl) | assumption | exact hclo) rfl, ?_⟩)); exact trivial, by rfl, by (intro i hi; (try dsimp only); refine ⟨?_, ?_⟩ <;> first | rfl | omega | (simp [mv]; omega))⟩)
    · have b1 : decide ((i : Int) < (n : Int)) = false := by simpa using c1
      obtain rfl : i = n := by omega
      generalize outX part i s4 i = Z at *
      obtain ⟨s5, L0⟩ := Z
      dsimp only at *
      rcases hend with ⟨d1, rfl, rfl⟩ | ⟨d1, d2, rfl, rfl⟩ | ⟨d1, d2, a, ha, v, s7, g7, a8, rfl⟩
      · have b5 : decide ((0 : Int) < (i : Int)) = false := by simp; omega
        ((repeat' (first
    | (show SQ _ _ _ _ _ _ _ _; first | apply sq_nil | (apply q_move; exact rfl; exact rfl) | (apply q_assign; exact rfl; exact rfl) | (apply q_pick_f; exact rfl; exact rfl; exact rfl; exact (by first | assumption | exact rfl)) | (apply q_lss; exact rfl; exact rfl; exact rfl) | (apply q_gtr; exact rfl; exact rfl; exact rfl) | (apply q_s; exact rfl; exact rfl; exact rfl; exact (by assumption); exact rfl))
    | (show AW _ _ _ _ _ _ _ _; first | refine aw_region ?_ | (refine aw_seqk ?_; intro K hK) | (apply aw_cond_f; exact rfl; exact rfl) | (apply aw_cond_f; exact rfl; exact (by assumption)) | refine aw_ret ?_ | refine aw_exit ?_ | refine aw_skip ?_)
    | refine thn_n ?_
    | (refine hK _ _ _ ?_; clear hK K)
    | refine thn_e ?_
    | refine inb_same ?_
    | (clear hK K; refine hK _ _ _ ?_; clear hK K))); all_goals (repeat (clear hK K)))
        all_goals exact finc id (.r1 _ _ (.tmp _ _ rfl)) rfl (fun z hz => rfl) ⟨rfl, (by simp only [renB, rows_no _ (nbL_no _)]; rfl), trivial⟩ rfl
      · have b5 : decide ((0 : Int) < (i : Int)) = true := by simp; omega
        ((repeat' (first
    | (show SQ _ _ _ _ _ _ _ _; first | apply sq_nil | (apply q_move; exact rfl; exact rfl) | (apply q_assign; exact rfl; exact rfl) | (apply q_pick_t; exact rfl; exact rfl; exact rfl; exact (by first | assumption | exact rfl)) | (apply q_lss; exact rfl; exact rfl; exact rfl) | (apply q_gtr; exact rfl; exact rfl; exact rfl) | (apply q_g; exact rfl; exact rfl; exact rfl; exact (by assumption)))
    | (show SQ _ _ _ _ _ _ _ _; (first | (apply q_callC; exact rfl; exact rfl; exact rfl; exact h6 0 _; (focus ((repeat (first | exact trivial | refine ⟨by first | exact rfl | assumption, ?_⟩)); done)); skip)); (try simp only [put, rowsOf, plR, List.all_cons, selE, ovr, setH, del, cellsA, splice, isV, List.nil_append, List.cons_append, List.map_cons, List.map_nil, List.length_cons, List.length_nil, List.set_cons_zero, List.set_cons_succ, List.take_succ_cons, List.take_zero, List.take_nil, List.drop_succ_cons, List.drop_zero, List.drop_nil, List.append_nil, List.all_cons, List.all_nil, Bool.and_true, Bool.true_and, Bool.and_false, Bool.false_and, Nat.reduceAdd, Nat.zero_add, Nat.add_zero, Nat.reduceEqDiff, if_true, if_false, reduceIte]))
    | (show AW _ _ _ _ _ _ _ _; first | refine aw_region ?_ | (refine aw_seqk ?_; intro K hK) | (apply aw_cond_f; exact rfl; exact (by assumption)) | refine aw_ret ?_ | refine aw_exit ?_ | refine aw_skip ?_)
    | refine thn_n ?_
    | (refine hK _ _ _ ?_; clear hK K)
    | refine thn_e ?_
    | refine inb_same ?_
    | (clear hK K; refine hK _ _ _ ?_; clear hK K))); all_goals (repeat (clear hK K)))
        all_goals exact finc id (.r1 _ _ (.tmp _ _ rfl)) rfl (fun z hz => rfl) ⟨rfl, (by simp only [renB, rows_no _ (nbL_no _)]; rfl), trivial⟩ rfl
      · have b5 : decide ((0 : Int) < (i : Int)) = true := by simp; omega
        have hnl := nbL_len L0
        have hrow : (nbL L0)[0 + ((a : Int)).toNat]? = some [.dsl 1 (L0[a].map inL)] := by simp [nbL, ha]
        have hlen2 : ((a : Int)).toNat < (nbL L0).length := by rw [hnl]; simpa using ha
        have hOw := l00Own_ro L0[a] (by have := bd5 _ (List.getElem_mem ha); omega)
        have hrl : (L0[a].map inL).length = L0[a].length := List.length_map _
        have hbl := bd5 _ (List.getElem_mem ha)
        have hset : nbL (L0.set a (L0[a] ++ [v])) = (nbL L0).set a [.dsl 1 (L0[a].map inL ++ [[.v (.int .i64 v)]])] := by rw [nbL, List.map_set, List.map_append]; rfl
        have hno : ((nbL L0).set a [.dsl 1 (L0[a].map inL ++ [[.v (.int .i64 v)]])]).all noOwnL = true := by rw [← hset]; exact nbL_no _
        generalize L0[a] = lx at *
        have hclo : (lx.map inL ++ [[AV.v (.int .i64 v)]]).all noOwnL = true := by rw [List.all_append, all_noOwn_map (fun _ => rfl)]; rfl
        have hdt2 : ((lx.map inL ++ [[AV.v (.int .i64 v)]]).drop 0).take (lx.length + 1) = lx.map inL ++ [[AV.v (.int .i64 v)]] := by rw [List.drop_zero, List.take_of_length_le (by simp)]
        ((repeat' (first
    | (show SQ _ _ _ _ _ _ _ _; apply sq_frz (t := 71); exact rfl; exact rfl; exact (by first | rfl | exact all_noOwn_map (fun _ => rfl) | assumption | exact hclo); exact (by first | omega | (simp; done) | (simp; omega)); exact (by first | exact dt_full (by first | omega | (simp; done) | (simp; omega)) | assumption | rfl); (try simp only [put, rowsOf, plR, List.all_cons, selE, ovr, setH, del, cellsA, splice, isV, List.nil_append, List.cons_append, List.map_cons, List.map_nil, List.length_cons, List.length_nil, List.set_cons_zero, List.set_cons_succ, List.take_succ_cons, List.take_zero, List.take_nil, List.drop_succ_cons, List.drop_zero, List.drop_nil, List.append_nil, List.all_cons, List.all_nil, Bool.and_true, Bool.true_and, Bool.and_false, Bool.false_and, Nat.reduceAdd, Nat.zero_add, Nat.add_zero, Nat.reduceEqDiff, if_true, if_false, reduceIte]))
    | (show SQ _ _ _ _ _ _ _ _; first | apply sq_nil | (apply q_move; exact rfl; exact rfl) | (apply q_assign; exact rfl; exact rfl) | (apply q_pick_t; exact rfl; exact rfl; exact rfl; exact (by first | assumption | exact rfl)) | (apply q_lss; exact rfl; exact rfl; exact rfl) | (apply q_gtr; exact rfl; exact rfl; exact rfl) | (apply q_ixl; exact rfl; exact rfl; exact rfl; exact (ty rfl); exact rfl; exact rfl; exact rfl; exact (by first | omega | (simp; done) | (simp; omega)); exact (by first | omega | (simp; done) | (simp; omega))) | (apply q_ld1p; exact rfl; exact rfl; exact (ty rfl); exact rfl; exact rfl; exact (by first | rfl | assumption | ((try simp only [Nat.zero_add]); refine List.getElem?_set_self ?_; (try simp only [List.length_set]); assumption)); exact rfl) | (apply q_g; exact rfl; exact rfl; exact rfl; exact (by assumption)))
    | (show SQ _ _ _ _ _ _ _ _; (first | (apply q_store; exact rfl; exact rfl; exact (ty rfl); exact rfl; exact (by first | rfl | assumption | ((try simp only [Nat.zero_add]); refine List.getElem?_set_self ?_; (try simp only [List.length_set]); assumption)); exact rfl; exact rfl; exact rfl) | (apply q_buildn; exact rfl; exact (ty rfl); exact rfl; exact rfl; exact rfl; exact rfl; exact rfl; exact rfl; exact rfl) | (apply q_apo_s; exact rfl; exact rfl; exact rfl; exact (ty rfl); exact rfl; exact rfl; exact (by first | omega | (simp; done) | (simp; omega)); exact (by first | exact List.take_of_length_le (by first | omega | (simp; done) | (simp; omega)) | rfl); exact (ty rfl); exact rfl; exact rfl; exact (by first | omega | (simp; done) | (simp; omega)); exact (by first | exact dt_full (by first | omega | (simp; done) | (simp; omega)) | assumption | rfl); exact rfl; exact (by first | omega | (simp; done) | (simp; omega)); exact (by first | omega | (simp; done) | (simp; omega)); exact (by first | assumption | exact rfl)) | (apply q_callU; exact rfl; exact rfl; exact rfl; exact FzL.of rfl; exact hOw _) | (apply q_callC; exact rfl; exact rfl; exact rfl; exact h6 0 _; (focus ((repeat (first | exact trivial | refine ⟨by first | exact rfl | assumption, ?_⟩)); done)); skip) | (apply q_callC; exact rfl; exact rfl; exact rfl; exact g7 0 _; (focus ((repeat (first | exact trivial | refine ⟨by first | exact rfl | assumption, ?_⟩)); done)); skip) | (apply q_callC; exact rfl; exact rfl; exact rfl; exact a8 _; (focus ((repeat (first | exact trivial | refine ⟨by first | exact rfl | assumption, ?_⟩)); done)); skip)); (try simp only [put, rowsOf, plR, List.all_cons, selE, ovr, setH, del, cellsA, splice, isV, List.nil_append, List.cons_append, List.map_cons, List.map_nil, List.length_cons, List.length_nil, List.set_cons_zero, List.set_cons_succ, List.take_succ_cons, List.take_zero, List.take_nil, List.drop_succ_cons, List.drop_zero, List.drop_nil, List.append_nil, List.all_cons, List.all_nil, Bool.and_true, Bool.true_and, Bool.and_false, Bool.false_and, Nat.reduceAdd, Nat.zero_add, Nat.add_zero, Nat.reduceEqDiff, if_true, if_false, reduceIte]))
    | (show AW _ _ _ _ _ _ _ _; first | refine aw_region ?_ | (refine aw_seqk ?_; intro K hK) | (apply aw_cond_t; exact rfl; exact (by assumption)) | (apply aw_cond_f; exact rfl; exact (by assumption)) | refine aw_ret ?_ | refine aw_exit ?_)
    | refine thn_n ?_
    | (refine hK _ _ _ ?_; clear hK K)
    | refine thn_e ?_
    | refine inb_same ?_
    | (clear hK K; refine hK _ _ _ ?_; clear hK K))); all_goals (repeat (clear hK K)))
        all_goals exact finc id (.r1 _ _ (.tmp _ _ rfl)) rfl (fun z hz => rfl) ⟨rfl, (by simp only [renB, rows_no _ (nbL_no _)]; rw [hset]; rfl), trivial⟩ rfl
end Go.Proofs.Yteknfaldpajlpaa.Nb

namespace Go.Proofs.Yteknfaldpajlpaa.Nb
open Go Go.RowKit Go.Proofs.Yteknfaldpajlpaa.Aw Go.Proofs.Yteknfaldpajlpaa.In Go.Proofs.Yteknfaldpajlpaa.Il Go.Proofs.Yteknfaldpajlpaa.Sr
set_option linter.unusedSimpArgs false
set_option linter.unusedVariables false
set_option linter.unusedSectionVars false
attribute [local irreducible] AW SQ Step RO RC DE Thn InB
def coX (kinds : Int) (s : Sr) : Nat → Sr × List Int
  | 0 => (s, [])
  | i + 1 => ((pk (coX kinds s i).1 kinds).2, (coX kinds s i).2 ++ [(pk (coX kinds s i).1 kinds).1])
theorem coX_ok {kinds : Int} {s : Sr} {k : Int} (h : s.ok k) : ∀ i : Nat, (coX kinds s i).1.ok (k + 2 * (i : Int)) ∧ (coX kinds s i).2.length = i
  | 0 => ⟨h.mono (by omega), rfl⟩
  | i + 1 => by
    obtain ⟨h1, h2⟩ := coX_ok (kinds := kinds) h i
    exact ⟨(pk_ok kinds h1).mono (by omega), by simp [coX, h2]⟩
theorem l23DrawCodes_ex {s : Sr} {k : Int} (n : Nat) (hn : n ≤ 25) (h : s.ok k) (hk : k ≤ 90000) : ∃ (cs : List Int) (s' : Sr), cs.length ≤ 26 ∧ s'.ok (k + 100) ∧
    ∀ j id, RC Try.prog 49 [.ptr id 0 0, .v (.int .i64 n)] [(id, ⟨109, 3, false, [srR s]⟩)] j (.sl j 0 cs.length) [(id, some ⟨109, 3, false, [srR s']⟩), (j, some ⟨2, 1, true, cs.map inL⟩)] (j + 1) := by
  have hm := am_mem (s := s) (ws := [2, 4, 9]) (by simp)
  have a1 := fun j => among_rc 0 2 s [2, 4, 9] (by decide) (h.mono (by omega)) (by simp) (by simp) j
  have ok1 := am_ok [2, 4, 9] h
  generalize am [2, 4, 9] s = A at *
  obtain ⟨kinds, s1⟩ := A
  dsimp only at a1 ok1 hm
  simp only [List.mem_cons, List.not_mem_nil, or_false] at hm
  simp only [nuR, List.map_cons, List.map_nil, List.length_cons, List.length_nil] at a1
  have hC := coX_ok (kinds := kinds) ok1
  obtain ⟨ok2, len2⟩ := hC n
  have h3 := fun id => pick_rc id (coX kinds s1 n).1 14 (ok2.mono (by omega)) (by omega)
  have ok3 := pk_ok 14 ok2
  obtain ⟨cs, s', hl', hok', hend⟩ : ∃ (cs : List Int) (s' : Sr), cs.length ≤ 26 ∧ s'.ok (k + 100) ∧
      (((pk (coX kinds s1 n).1 14).1 = 0 ∧ cs = (coX kinds s1 n).2 ++ [0] ∧ s' = (pk (coX kinds s1 n).1 14).2) ∨
       ((pk (coX kinds s1 n).1 14).1 ≠ 0 ∧ ((pk (coX kinds s1 n).1 14).1 = 1 → n = 0) ∧ cs = (coX kinds s1 n).2 ∧ s' = (pk (coX kinds s1 n).1 14).2) ∨
       ((pk (coX kinds s1 n).1 14).1 = 1 ∧ 0 < n ∧ ∃ v, (∀ j, RC Try.prog 76 [.ptr 0 0 0, .sl 2 0 3] [(0, ⟨109, 3, false, [srR (pk (coX kinds s1 n).1 14).2]⟩), (2, ⟨2, 1, true, [[.v (.int .i64 (-1))], [.v (.int .i64 999)], [.v (.int .i64 1000)]]⟩)] j (.v (.int .i64 v)) [(0, some ⟨109, 3, false, [srR s']⟩), (2, some ⟨2, 1, true, [[.v (.int .i64 (-1))], [.v (.int .i64 999)], [.v (.int .i64 1000)]]⟩)] j) ∧ cs = (coX kinds s1 n).2.set 0 v)) := by
    generalize coX kinds s1 n = Z at *
    obtain ⟨s5, L0⟩ := Z
    dsimp only at *
    generalize pk s5 14 = P at *
    obtain ⟨p, s6⟩ := P
    dsimp only at *
    by_cases c0 : p = 0
    · exact ⟨L0 ++ [0], s6, by simp; omega, ok3.mono (by omega), .inl ⟨c0, rfl, rfl⟩⟩
    · by_cases c1 : p = 1 ∧ 0 < n
      · have a8 := fun j => among_rc 0 2 s6 [-1, 999, 1000] (by decide) (ok3.mono (by omega)) (by simp) (by simp) j
        have ok8 := am_ok [-1, 999, 1000] ok3
        generalize am [-1, 999, 1000] s6 = A at *
        obtain ⟨v, s8⟩ := A
        dsimp only at a8 ok8
        simp only [nuR, List.map_cons, List.map_nil, List.length_cons, List.length_nil] at a8
        exact ⟨L0.set 0 v, s8, by simp; omega, ok8.mono (by omega), .inr (.inr ⟨c1.1, c1.2, v, a8, rfl⟩)⟩
      · exact ⟨L0, s6, by omega, ok3.mono (by omega), .inr (.inl ⟨c0, fun e => by omega, rfl, rfl⟩)⟩
  refine ⟨cs, s', hl', hok', fun j0 bi => ?_⟩
  refine RC.ofc [bi] 1 [.ptr 0 0 0, .v (.int .i64 n)] [(0, ⟨109, 3, false, [srR s]⟩)] (.sl 1 0 cs.length) [(0, some ⟨109, 3, false, [srR s']⟩), (1, some ⟨2, 1, true, cs.map inL⟩)] Try.func49 Try.ntmps49 rfl (goFn_of Try.func49 rfl (by kernel_rfl)) rfl rfl rfl rfl rfl rfl rfl rfl (by simp_all) rfl ?_
  ((repeat' (first
    | (show SQ _ _ _ _ _ _ _ _; first | apply sq_nil | (apply q_move; exact rfl; exact rfl) | (apply q_assign; exact rfl; exact rfl))
    | (show SQ _ _ _ _ _ _ _ _; (first | (apply q_build0; exact rfl; exact (ty rfl); exact rfl) | (apply q_buildn; exact rfl; exact (ty rfl); exact rfl; exact rfl; exact rfl; exact rfl; exact rfl; exact rfl; exact rfl) | (apply q_callC; exact rfl; exact rfl; exact rfl; exact a1 _; (focus ((repeat (first | exact trivial | refine ⟨by first | exact rfl | assumption, ?_⟩)); done)); skip)); (try simp only [put, rowsOf, plR, List.all_cons, selE, ovr, setH, del, cellsA, splice, isV, List.nil_append, List.cons_append, List.map_cons, List.map_nil, List.length_cons, List.length_nil, List.set_cons_zero, List.set_cons_succ, List.take_succ_cons, List.take_zero, List.take_nil, List.drop_succ_cons, List.drop_zero, List.drop_nil, List.append_nil, List.all_cons, List.all_nil, Bool.and_true, Bool.true_and, Bool.and_false, Bool.false_and, Nat.reduceAdd, Nat.zero_add, Nat.add_zero, Nat.reduceEqDiff, if_true, if_false, reduceIte]))
    | (show AW _ _ _ _ _ _ _ _; first | refine aw_region ?_ | (refine aw_seqk ?_; intro K hK) | refine aw_block ?_)
    | refine thn_n ?_
    | (refine hK _ _ _ ?_; clear hK K))); all_goals (repeat (clear hK K)))
  show AW _ _ 1 _ _ _ _ _
  refine aw_loop (ρ := id) (ι := Nat) (fun i => ([(7, .v (.int .i64 i)), (6, .v (.int .i64 kinds)), (5, .sl 1 0 i), (1, .v (.int .i64 n)), (0, .ptr 0 0 0)],
      [(0, ⟨109, 3, false, [srR (coX kinds s1 i).1]⟩), (1, ⟨2, 1, true, (coX kinds s1 i).2.map inL⟩)], 2))
    (fun i => i ≤ n) (fun i => n - i) 0 (Nat.zero_le _) ⟨by (repeat (refine ⟨by first | exact lk_i rfl rfl | exact lk_r rfl rfl rfl | exact lk_s rfl rfl rfl rfl, ?_⟩)); exact trivial, by (repeat (refine ⟨by first | exact ⟨rfl, rfl, rfl⟩, ?_⟩)); exact trivial, by rfl, by (intro i hi; (try dsimp only); refine ⟨?_, ?_⟩ <;> first | rfl | omega | (simp at hi; omega) | (simp; omega))⟩ ?_
  intro i hi
  obtain ⟨oki, leni⟩ := hC i
  by_cases c1 : i < n
  · have b1 : decide ((i : Int) < (n : Int)) = true := by simpa using c1
    have hw : IntKind.i64.wrap ((i : Int) + 1) = ((i + 1 : Nat) : Int) := by rw [IntWalk.i64_in _ (by omega)]; omega
    have e1 : coX kinds s1 (i + 1) = ((pk (coX kinds s1 i).1 kinds).2, (coX kinds s1 i).2 ++ [(pk (coX kinds s1 i).1 kinds).1]) := rfl
    have g := pick_rc 0 (coX kinds s1 i).1 kinds (oki.mono (by omega)) (by omega)
    generalize coX kinds s1 i = Z at *
    obtain ⟨sz, L⟩ := Z
    dsimp only at oki leni e1 g ⊢
    subst leni
    have hml : (L.map inL).length = L.length := List.length_map _
    ((repeat' (first
    | (show SQ _ _ _ _ _ _ _ _; first | apply sq_nil | (apply q_move; exact rfl; exact rfl) | (apply q_assign; exact rfl; exact rfl) | (apply q_add; exact rfl; exact rfl; exact rfl) | (apply q_lss; exact rfl; exact rfl; exact rfl))
    | (show SQ _ _ _ _ _ _ _ _; (first | (apply q_buildn; exact rfl; exact (ty rfl); exact rfl; exact rfl; exact rfl; exact rfl; exact rfl; exact rfl; exact rfl) | (apply q_apo_s; exact rfl; exact rfl; exact rfl; exact (ty rfl); exact rfl; exact rfl; exact (by first | omega | (simp; done) | (simp; omega)); exact (by first | exact List.take_of_length_le (by first | omega | (simp; done) | (simp; omega)) | rfl); exact (ty rfl); exact rfl; exact rfl; exact (by first | omega | (simp; done) | (simp; omega)); exact (by first | exact dt_full (by first | omega | (simp; done) | (simp; omega)) | assumption | rfl); exact rfl; exact (by first | omega | (simp; done) | (simp; omega)); exact (by first | omega | (simp; done) | (simp; omega)); exact (by first | assumption | exact rfl)) | (apply q_callC; exact rfl; exact rfl; exact rfl; exact g _; (focus ((repeat (first | exact trivial | refine ⟨by first | exact rfl | assumption, ?_⟩)); done)); skip)); (try simp only [put, rowsOf, plR, List.all_cons, selE, ovr, setH, del, cellsA, splice, isV, List.nil_append, List.cons_append, List.map_cons, List.map_nil, List.length_cons, List.length_nil, List.set_cons_zero, List.set_cons_succ, List.take_succ_cons, List.take_zero, List.take_nil, List.drop_succ_cons, List.drop_zero, List.drop_nil, List.append_nil, List.all_cons, List.all_nil, Bool.and_true, Bool.true_and, Bool.and_false, Bool.false_and, Nat.reduceAdd, Nat.zero_add, Nat.add_zero, Nat.reduceEqDiff, if_true, if_false, reduceIte]))
    | (show AW _ _ _ _ _ _ _ _; first | refine aw_region ?_ | (refine aw_seqk ?_; intro K hK) | refine aw_block ?_ | (apply aw_cond_t; exact rfl; exact (by assumption)) | refine aw_skip ?_)
    | refine thn_n ?_
    | (refine hK _ _ _ ?_; clear hK K)
    | refine inb_n ?_)); all_goals (repeat (clear hK K)))
    all_goals (refine ⟨L.length + 1, mv 1 3, c1, by omega, ?_⟩; (try dsimp only); rw [e1, ← hw]; (try dsimp only); rw [List.map_append]; exact ⟨by (repeat (refine ⟨by first | exact lk_i rfl rfl | exact lk_r rfl rfl rfl | exact lk_s rfl rfl rfl rfl, ?_⟩)); exact trivial, by (repeat (refine ⟨by first | exact ⟨rfl, rfl, rfl⟩, ?_⟩)); exact trivial, by rfl, by (intro i hi; (try dsimp only); refine ⟨?_, ?_⟩ <;> first | rfl | omega | (simp [mv]; omega))⟩)
  · have b1 : decide ((i : Int) < (n : Int)) = false := by simpa using c1
    obtain rfl : i = n := by omega
    generalize coX kinds s1 i = Z at *
    obtain ⟨s5, L0⟩ := Z
    dsimp only at *
    generalize pk s5 14 = P at *
    obtain ⟨p, s6⟩ := P
    dsimp only at *
    subst len2
    have hml : (L0.map inL).length = L0.length := List.length_map _
    rcases hend with ⟨d1, rfl, rfl⟩ | ⟨d1, d2, rfl, rfl⟩ | ⟨d1, d2, v, a8, rfl⟩
    · have d3 : (p == 0) = true := by simpa using d1
      ((repeat' (first
    | (show SQ _ _ _ _ _ _ _ _; first | apply sq_nil | (apply q_move; exact rfl; exact rfl) | (apply q_assign; exact rfl; exact rfl) | (apply q_eql; exact rfl; exact rfl; exact rfl) | (apply q_lss; exact rfl; exact rfl; exact rfl))
    | (show SQ _ _ _ _ _ _ _ _; (first | (apply q_buildn; exact rfl; exact (ty rfl); exact rfl; exact rfl; exact rfl; exact rfl; exact rfl; exact rfl; exact rfl) | (apply q_apo_s; exact rfl; exact rfl; exact rfl; exact (ty rfl); exact rfl; exact rfl; exact (by first | omega | (simp; done) | (simp; omega)); exact (by first | exact List.take_of_length_le (by first | omega | (simp; done) | (simp; omega)) | rfl); exact (ty rfl); exact rfl; exact rfl; exact (by first | omega | (simp; done) | (simp; omega)); exact (by first | exact dt_full (by first | omega | (simp; done) | (simp; omega)) | assumption | rfl); exact rfl; exact (by first | omega | (simp; done) | (simp; omega)); exact (by first | omega | (simp; done) | (simp; omega)); exact (by first | assumption | exact rfl)) | (apply q_callC; exact rfl; exact rfl; exact rfl; exact h3 0 _; (focus ((repeat (first | exact trivial | refine ⟨by first | exact rfl | assumption, ?_⟩)); done)); skip)); (try simp only [put, rowsOf, plR, List.all_cons, selE, ovr, setH, del, cellsA, splice, isV, List.nil_append, List.cons_append, List.map_cons, List.map_nil, List.length_cons, List.length_nil, List.set_cons_zero, List.set_cons_succ, List.take_succ_cons, List.take_zero, List.take_nil, List.drop_succ_cons, List.drop_zero, List.drop_nil, List.append_nil, List.all_cons, List.all_nil, Bool.and_true, Bool.true_and, Bool.and_false, Bool.false_and, Nat.reduceAdd, Nat.zero_add, Nat.add_zero, Nat.reduceEqDiff, if_true, if_false, reduceIte]))
    | (show AW _ _ _ _ _ _ _ _; first | refine aw_region ?_ | (refine aw_seqk ?_; intro K hK) | refine aw_block ?_ | (apply aw_cond_t; exact rfl; exact (by assumption)) | (apply aw_cond_f; exact rfl; exact (by assumption)) | refine aw_ret ?_ | refine aw_exit ?_)
    | refine thn_n ?_
    | (refine hK _ _ _ ?_; clear hK K)
    | refine thn_e ?_
    | refine inb_same ?_
    | refine inb_n ?_
    | (clear hK K; refine hK _ _ _ ?_; clear hK K))); all_goals (repeat (clear hK K)))
      all_goals refine finc (mv 1 3) (.r1 _ _ (.tmp _ _ rfl)) ?_ (fun z hz => by simp at hz; simp [mv]; omega) ⟨rfl, ?_, trivial⟩ rfl
      · rw [List.length_append]; rfl
      · rw [List.map_append]; rfl
    · have d3 : (p == 0) = false := by simpa using d1
      by_cases e : p = 1
      · have d4 : (p == 1) = true := by simpa using e
        have d5 : decide ((0 : Int) < (cs.length : Int)) = false := decide_eq_false (by have := d2 e; omega)
        ((repeat' (first
    | (show SQ _ _ _ _ _ _ _ _; first | apply sq_nil | (apply q_move; exact rfl; exact rfl) | (apply q_assign; exact rfl; exact rfl) | (apply q_eql; exact rfl; exact rfl; exact rfl) | (apply q_lss; exact rfl; exact rfl; exact rfl) | (apply q_gtr; exact rfl; exact rfl; exact rfl))
    | (show SQ _ _ _ _ _ _ _ _; (first | (apply q_callC; exact rfl; exact rfl; exact rfl; exact h3 0 _; (focus ((repeat (first | exact trivial | refine ⟨by first | exact rfl | assumption, ?_⟩)); done)); skip)); (try simp only [put, rowsOf, plR, List.all_cons, selE, ovr, setH, del, cellsA, splice, isV, List.nil_append, List.cons_append, List.map_cons, List.map_nil, List.length_cons, List.length_nil, List.set_cons_zero, List.set_cons_succ, List.take_succ_cons, List.take_zero, List.take_nil, List.drop_succ_cons, List.drop_zero, List.drop_nil, List.append_nil, List.all_cons, List.all_nil, Bool.and_true, Bool.true_and, Bool.and_false, Bool.false_and, Nat.reduceAdd, Nat.zero_add, Nat.add_zero, Nat.reduceEqDiff, if_true, if_false, reduceIte]))
    | (show AW _ _ _ _ _ _ _ _; first | refine aw_region ?_ | (refine aw_seqk ?_; intro K hK) | refine aw_block ?_ | (apply aw_cond_t; exact rfl; exact (by assumption)) | (apply aw_cond_f; exact rfl; exact (by assumption)) | refine aw_ret ?_ | refine aw_exit ?_ | refine aw_skip ?_)
    | refine thn_n ?_
    | (refine hK _ _ _ ?_; clear hK K)
    | refine thn_e ?_
    | refine inb_same ?_
    | refine inb_n ?_
    | (clear hK K; refine hK _ _ _ ?_; clear hK K))); all_goals (repeat (clear hK K)))
        all_goals exact finc id (.r1 _ _ (.tmp _ _ rfl)) rfl (fun z hz => rfl) ⟨rfl, rfl, trivial⟩ rfl
      · have d4 : (p == 1) = false := by simpa using e
        ((repeat' (first
    | (show SQ _ _ _ _ _ _ _ _; first | apply sq_nil | (apply q_move; exact rfl; exact rfl) | (apply q_assign; exact rfl; exact rfl) | (apply q_eql; exact rfl; exact rfl; exact rfl) | (apply q_lss; exact rfl; exact rfl; exact rfl))
    | (show SQ _ _ _ _ _ _ _ _; (first | (apply q_callC; exact rfl; exact rfl; exact rfl; exact h3 0 _; (focus ((repeat (first | exact trivial | refine ⟨by first | exact rfl | assumption, ?_⟩)); done)); skip)); (try simp only [put, rowsOf, plR, List.all_cons, selE, ovr, setH, del, cellsA, splice, isV, List.nil_append, List.cons_append, List.map_cons, List.map_nil, List.length_cons, List.length_nil, List.set_cons_zero, List.set_cons_succ, List.take_succ_cons, List.take_zero, List.take_nil, List.drop_succ_cons, List.drop_zero, List.drop_nil, List.append_nil, List.all_cons, List.all_nil, Bool.and_true, Bool.true_and, Bool.and_false, Bool.false_and, Nat.reduceAdd, Nat.zero_add, Nat.add_zero, Nat.reduceEqDiff, if_true, if_false, reduceIte]))
    | (show AW _ _ _ _ _ _ _ _; first | refine aw_region ?_ | (refine aw_seqk ?_; intro K hK) | refine aw_block ?_ | (apply aw_cond_f; exact rfl; exact (by assumption)) | refine aw_ret ?_ | refine aw_exit ?_ | refine aw_skip ?_)
    | refine thn_n ?_
    | (refine hK _ _ _ ?_; clear hK K)
    | refine thn_e ?_
    | refine inb_same ?_
    | refine inb_n ?_
    | (clear hK K; refine hK _ _ _ ?_; clear hK K))); all_goals (repeat (clear hK K)))
        all_goals exact finc id (.r1 _ _ (.tmp _ _ rfl)) rfl (fun z hz => rfl) ⟨rfl, rfl, trivial⟩ rfl
    · have d3 : (p == 0) = false := by rw [d1]; rfl
      have d4 : (p == 1) = true := by rw [d1]; rfl
      have d5 : decide ((0 : Int) < (L0.length : Int)) = true := by simpa using d2
      have hlen2 : ((0 : Int)).toNat < (L0.map inL).length := by rw [hml]; exact d2
      have hrow : (L0.map inL)[0 + ((0 : Int)).toNat]? = some (inL L0[0]) := by simp [d2]
      rw [inL_eq] at hrow
      have hset : (L0.set 0 v).map inL = (L0.map inL).set 0 [.v (.int .i64 v)] := List.map_set
      ((repeat' (first
    | (show SQ _ _ _ _ _ _ _ _; first | apply sq_nil | (apply q_move; exact rfl; exact rfl) | (apply q_assign; exact rfl; exact rfl) | (apply q_eql; exact rfl; exact rfl; exact rfl) | (apply q_lss; exact rfl; exact rfl; exact rfl) | (apply q_gtr; exact rfl; exact rfl; exact rfl) | (apply q_ixl; exact rfl; exact rfl; exact rfl; exact (ty rfl); exact rfl; exact rfl; exact rfl; exact (by first | omega | (simp; done) | (simp; omega)); exact (by first | omega | (simp; done) | (simp; omega))))
    | (show SQ _ _ _ _ _ _ _ _; (first | (apply q_store; exact rfl; exact rfl; exact (ty rfl); exact rfl; exact (by first | rfl | assumption | ((try simp only [Nat.zero_add]); refine List.getElem?_set_self ?_; (try simp only [List.length_set]); assumption)); exact rfl; exact rfl; exact rfl) | (apply q_buildn; exact rfl; exact (ty rfl); exact rfl; exact rfl; exact rfl; exact rfl; exact rfl; exact rfl; exact rfl) | (apply q_callC; exact rfl; exact rfl; exact rfl; exact h3 0 _; (focus ((repeat (first | exact trivial | refine ⟨by first | exact rfl | assumption, ?_⟩)); done)); skip) | (apply q_callC; exact rfl; exact rfl; exact rfl; exact a8 _; (focus ((repeat (first | exact trivial | refine ⟨by first | exact rfl | assumption, ?_⟩)); done)); skip)); (try simp only [put, rowsOf, plR, List.all_cons, selE, ovr, setH, del, cellsA, splice, isV, List.nil_append, List.cons_append, List.map_cons, List.map_nil, List.length_cons, List.length_nil, List.set_cons_zero, List.set_cons_succ, List.take_succ_cons, List.take_zero, List.take_nil, List.drop_succ_cons, List.drop_zero, List.drop_nil, List.append_nil, List.all_cons, List.all_nil, Bool.and_true, Bool.true_and, Bool.and_false, Bool.false_and, Nat.reduceAdd, Nat.zero_add, Nat.add_zero, Nat.reduceEqDiff, if_true, if_false, reduceIte]))
    | (show AW _ _ _ _ _ _ _ _; first | refine aw_region ?_ | (refine aw_seqk ?_; intro K hK) | refine aw_block ?_ | (apply aw_cond_t; exact rfl; exact (by assumption)) | (apply aw_cond_f; exact rfl; exact (by assumption)) | refine aw_ret ?_ | refine aw_exit ?_)
    | refine thn_n ?_
    | (refine hK _ _ _ ?_; clear hK K)
    | refine thn_e ?_
    | refine inb_same ?_
    | refine inb_n ?_
    | (clear hK K; refine hK _ _ _ ?_; clear hK K))); all_goals (repeat (clear hK K)))
      all_goals refine finc id (.r1 _ _ (.tmp _ _ rfl)) ?_ (fun z hz => rfl) ⟨rfl, ?_, trivial⟩ rfl
      · rw [List.length_set]; rfl
      · rw [hset]; rfl
theorem l19DrawBudget_ex {s : Sr} {k : Int} (h : s.ok k) (hk : k ≤ 90000) : ∃ (v : Int) (s' : Sr), s'.ok (k + 100) ∧ ∀ j id, RC Try.prog 52 [.ptr id 0 0] [(id, ⟨109, 3, false, [srR s]⟩)] j (.v (.int .i64 v)) [(id, some ⟨109, 3, false, [srR s']⟩)] j := by
  have h1 := fun id => pick_rc id s 8 (h.mono (by omega)) (by omega)
  have ok1 := pk_ok 8 h
  generalize pk s 8 = P at *
  obtain ⟨p, s1⟩ := P
  dsimp only at h1 ok1
  by_cases c0 : p = 0
  · have b0 : (p == 0) = true := by simpa using c0
    have a1 := among_rc 0 1 s1 [0, 1, -1, 20001, 3] (by decide) (ok1.mono (by omega)) (by simp) (by simp)
    have ok2 := am_ok [0, 1, -1, 20001, 3] ok1
    generalize am [0, 1, -1, 20001, 3] s1 = A at *
    obtain ⟨v, s2⟩ := A
    dsimp only at a1 ok2
    simp only [nuR, List.map_cons, List.map_nil, List.length_cons, List.length_nil] at a1
    refine ⟨v, s2, ok2.mono (by omega), fun j bi => ?_⟩
    refine RC.ofc [bi] 0 [.ptr 0 0 0] [(0, ⟨109, 3, false, [srR s]⟩)] (.v (.int .i64 v)) [(0, some ⟨109, 3, false, [srR s2]⟩)] Try.func52 Try.ntmps52 rfl (goFn_of Try.func52 rfl (by kernel_rfl)) rfl rfl rfl rfl rfl rfl rfl rfl (by simp_all) rfl ?_
    ((repeat' (first
    | (show SQ _ _ _ _ _ _ _ _; first | apply sq_nil | (apply q_move; exact rfl; exact rfl) | (apply q_assign; exact rfl; exact rfl) | (apply q_eql; exact rfl; exact rfl; exact rfl))
    | (show SQ _ _ _ _ _ _ _ _; (first | (apply q_buildn; exact rfl; exact (ty rfl); exact rfl; exact rfl; exact rfl; exact rfl; exact rfl; exact rfl; exact rfl) | (apply q_callC; exact rfl; exact rfl; exact rfl; exact h1 0 _; (focus ((repeat (first | exact trivial | refine ⟨by first | exact rfl | assumption, ?_⟩)); done)); skip) | (apply q_callC; exact rfl; exact rfl; exact rfl; exact a1 _; (focus ((repeat (first | exact trivial | refine ⟨by first | exact rfl | assumption, ?_⟩)); done)); skip)); (try simp only [put, rowsOf, plR, List.all_cons, selE, ovr, setH, del, cellsA, splice, isV, List.nil_append, List.cons_append, List.map_cons, List.map_nil, List.length_cons, List.length_nil, List.set_cons_zero, List.set_cons_succ, List.take_succ_cons, List.take_zero, List.take_nil, List.drop_succ_cons, List.drop_zero, List.drop_nil, List.append_nil, List.all_cons, List.all_nil, Bool.and_true, Bool.true_and, Bool.and_false, Bool.false_and, Nat.reduceAdd, Nat.zero_add, Nat.add_zero, Nat.reduceEqDiff, if_true, if_false, reduceIte]))
    | (show AW _ _ _ _ _ _ _ _; first | refine aw_region ?_ | (refine aw_seqk ?_; intro K hK) | refine aw_block ?_ | (apply aw_cond_t; exact rfl; exact (by assumption)) | refine aw_ret ?_)
    | refine thn_n ?_
    | (refine hK _ _ _ ?_; clear hK K)
    | refine thn_r ?_
    | refine inb_r ?_)); all_goals (repeat (clear hK K)))
    all_goals exact finc id (.r1 _ _ (.tmp _ _ rfl)) rfl (fun z hz => rfl) ⟨rfl, trivial⟩ rfl
  have b0 : (p == 0) = false := by simpa using c0
  by_cases c1 : p = 1
  · have b1 : (p == 1) = true := by simpa using c1
    have h2 := fun id => pick_rc id s1 40 (ok1.mono (by omega)) (by omega)
    have ok2 := pk_ok 40 ok1
    generalize pk s1 40 = P at *
    obtain ⟨v, s2⟩ := P
    dsimp only at h2 ok2
    refine ⟨IntKind.i64.wrap (v + 1), s2, ok2.mono (by omega), fun j bi => ?_⟩
    refine RC.ofc [bi] 0 [.ptr 0 0 0] [(0, ⟨109, 3, false, [srR s]⟩)] (.v (.int .i64 (IntKind.i64.wrap (v + 1)))) [(0, some ⟨109, 3, false, [srR s2]⟩)] Try.func52 Try.ntmps52 rfl (goFn_of Try.func52 rfl (by kernel_rfl)) rfl rfl rfl rfl rfl rfl rfl rfl (by simp_all) rfl ?_
    ((repeat' (first
    | (show SQ _ _ _ _ _ _ _ _; first | apply sq_nil | (apply q_move; exact rfl; exact rfl) | (apply q_assign; exact rfl; exact rfl) | (apply q_add; exact rfl; exact rfl; exact rfl) | (apply q_eql; exact rfl; exact rfl; exact rfl))
    | (show SQ _ _ _ _ _ _ _ _; (first | (apply q_callC; exact rfl; exact rfl; exact rfl; exact h1 0 _; (focus ((repeat (first | exact trivial | refine ⟨by first | exact rfl | assumption, ?_⟩)); done)); skip) | (apply q_callC; exact rfl; exact rfl; exact rfl; exact h2 0 _; (focus ((repeat (first | exact trivial | refine ⟨by first | exact rfl | assumption, ?_⟩)); done)); skip)); (try simp only [put, rowsOf, plR, List.all_cons, selE, ovr, setH, del, cellsA, splice, isV, List.nil_append, List.cons_append, List.map_cons, List.map_nil, List.length_cons, List.length_nil, List.set_cons_zero, List.set_cons_succ, List.take_succ_cons, List.take_zero, List.take_nil, List.drop_succ_cons, List.drop_zero, List.drop_nil, List.append_nil, List.all_cons, List.all_nil, Bool.and_true, Bool.true_and, Bool.and_false, Bool.false_and, Nat.reduceAdd, Nat.zero_add, Nat.add_zero, Nat.reduceEqDiff, if_true, if_false, reduceIte]))
    | (show AW _ _ _ _ _ _ _ _; first | refine aw_region ?_ | (refine aw_seqk ?_; intro K hK) | refine aw_block ?_ | (apply aw_cond_t; exact rfl; exact (by assumption)) | (apply aw_cond_f; exact rfl; exact (by assumption)) | refine aw_ret ?_)
    | refine thn_n ?_
    | (refine hK _ _ _ ?_; clear hK K)
    | refine thn_r ?_
    | refine inb_r ?_)); all_goals (repeat (clear hK K)))
    all_goals exact finc id (.r1 _ _ (.tmp _ _ rfl)) rfl (fun z hz => rfl) ⟨rfl, trivial⟩ rfl
  · have b1 : (p == 1) = false := by simpa using c1
    have h2 := fun id => pick_rc id s1 1000 (ok1.mono (by omega)) (by omega)
    have ok2 := pk_ok 1000 ok1
    generalize pk s1 1000 = P at *
    obtain ⟨v, s2⟩ := P
    dsimp only at h2 ok2
    refine ⟨IntKind.i64.wrap (300 + v), s2, ok2.mono (by omega), fun j bi => ?_⟩
    refine RC.ofc [bi] 0 [.ptr 0 0 0] [(0, ⟨109, 3, false, [srR s]⟩)] (.v (.int .i64 (IntKind.i64.wrap (300 + v)))) [(0, some ⟨109, 3, false, [srR s2]⟩)] Try.func52 Try.ntmps52 rfl (goFn_of Try.func52 rfl (by kernel_rfl)) rfl rfl rfl rfl rfl rfl rfl rfl (by simp_all) rfl ?_
    ((repeat' (first
    | (show SQ _ _ _ _ _ _ _ _; first | apply sq_nil | (apply q_move; exact rfl; exact rfl) | (apply q_assign; exact rfl; exact rfl) | (apply q_add; exact rfl; exact rfl; exact rfl) | (apply q_eql; exact rfl; exact rfl; exact rfl))
    | (show SQ _ _ _ _ _ _ _ _; (first | (apply q_callC; exact rfl; exact rfl; exact rfl; exact h1 0 _; (focus ((repeat (first | exact trivial | refine ⟨by first | exact rfl | assumption, ?_⟩)); done)); skip) | (apply q_callC; exact rfl; exact rfl; exact rfl; exact h2 0 _; (focus ((repeat (first | exact trivial | refine ⟨by first | exact rfl | assumption, ?_⟩)); done)); skip)); (try simp only [put, rowsOf, plR, List.all_cons, selE, ovr, setH, del, cellsA, splice, isV, List.nil_append, List.cons_append, List.map_cons, List.map_nil, List.length_cons, List.length_nil, List.set_cons_zero, List.set_cons_succ, List.take_succ_cons, List.take_zero, List.take_nil, List.drop_succ_cons, List.drop_zero, List.drop_nil, List.append_nil, List.all_cons, List.all_nil, Bool.and_true, Bool.true_and, Bool.and_false, Bool.false_and, Nat.reduceAdd, Nat.zero_add, Nat.add_zero, Nat.reduceEqDiff, if_true, if_false, reduceIte]))
    | (show AW _ _ _ _ _ _ _ _; first | refine aw_region ?_ | (refine aw_seqk ?_; intro K hK) | refine aw_block ?_ | (apply aw_cond_f; exact rfl; exact (by assumption)) | refine aw_ret ?_ | refine aw_skip ?_)
    | refine thn_n ?_
    | (refine hK _ _ _ ?_; clear hK K)
    | refine inb_n ?_)); all_goals (repeat (clear hK K)))
    all_goals exact finc id (.r1 _ _ (.tmp _ _ rfl)) rfl (fun z hz => rfl) ⟨rfl, trivial⟩ rfl
theorem nb_s {ls : List (List Int)} (hn : ls.length ≤ 25) (hm : ∀ l ∈ ls, l.length ≤ 26) : NbS ls := ⟨by omega, fun l hl => by have := hm l hl; omega⟩
theorem DrawCodeClashes_ex (bs : List Int) (hb : ∀ b ∈ bs, 0 ≤ b ∧ b ≤ 255) (hn : bs.length ≤ 9223372036854775807) : ∃ (ls : List (List Int)) (cs : List Int), NbS ls ∧ cs.length ≤ 26 ∧
    ∀ k, RC Try.prog 19 [.dsl 1 (byL bs)] [] k (.tup [.sl k 0 ls.length, .sl (k + 1) 0 cs.length]) [(k, some ⟨23, 1, false, nbL ls⟩), (k + 1, some ⟨2, 1, true, cs.map inL⟩)] (k + 2) := by
  have hok : (⟨bs, 0, 0⟩ : Sr).ok 0 := ⟨hb, by simp, by simp, hn⟩
  obtain ⟨ls, s1, h1⟩ := l23Draw_ex hok (by omega)
  obtain ⟨cs, s2, h2, h3, h4⟩ := l23DrawCodes_ex ls.length h1.n h1.ok (by omega)
  have r1 := h1.rc
  refine ⟨ls, cs, nb_s h1.n h1.m, h2, fun k => ?_⟩
  refine RC.ofc [] 2 [.dsl 1 (byL bs)] [] (.tup [.sl 0 0 ls.length, .sl 1 0 cs.length]) [(0, some ⟨23, 1, false, nbL ls⟩), (1, some ⟨2, 1, true, cs.map inL⟩)] Try.func19 Try.ntmps19 rfl (goFn_of Try.func19 rfl (by kernel_rfl)) rfl rfl ?_ rfl rfl ?_ rfl ?_ (by simp_all) rfl ?_
  · rfl
  · have := rows_no (nmC [] k) (nbL_no ls)
    simp only [renE, renB, List.map_cons, List.map_nil, Option.map_some, this]; rfl
  · have := rows_ok 2 (nbL_no ls)
    simp [okC, idsOk, idsOkL, idsOkB, this]
  ((repeat' (first
    | (show SQ _ _ _ _ _ _ _ _; first | apply sq_nil | (apply q_move; exact rfl; exact rfl) | (apply q_assign; exact rfl; exact rfl) | (apply q_lenl; exact rfl; exact rfl; exact (ty rfl); exact rfl))
    | (show SQ _ _ _ _ _ _ _ _; (first | (apply q_callC; exact rfl; exact rfl; exact rfl; exact l00From_rc bs _; (focus ((repeat (first | exact trivial | refine ⟨by first | exact rfl | assumption, ?_⟩)); done)); skip) | (apply q_callC; exact rfl; exact rfl; exact rfl; exact r1 _ 0; (focus ((repeat (first | exact trivial | refine ⟨by first | exact rfl | assumption, ?_⟩)); done)); skip) | (apply q_callC; exact rfl; exact rfl; exact rfl; exact h4 _ 0; (focus ((repeat (first | exact trivial | refine ⟨by first | exact rfl | assumption, ?_⟩)); done)); skip)); (try simp only [put, rowsOf, plR, List.all_cons, selE, ovr, setH, del, cellsA, splice, isV, List.nil_append, List.cons_append, List.map_cons, List.map_nil, List.length_cons, List.length_nil, List.set_cons_zero, List.set_cons_succ, List.take_succ_cons, List.take_zero, List.take_nil, List.drop_succ_cons, List.drop_zero, List.drop_nil, List.append_nil, List.all_cons, List.all_nil, Bool.and_true, Bool.true_and, Bool.and_false, Bool.false_and, Nat.reduceAdd, Nat.zero_add, Nat.add_zero, Nat.reduceEqDiff, if_true, if_false, reduceIte]))
    | (show AW _ _ _ _ _ _ _ _; first | refine aw_region ?_ | (refine aw_seqk ?_; intro K hK) | refine aw_ret ?_)
    | refine thn_n ?_
    | (refine hK _ _ _ ?_; clear hK K))); all_goals (repeat (clear hK K)))
  all_goals exact finc (fun z => z + 1) (.r2 _ _ _ _ (.tmp _ _ rfl) (.tmp _ _ rfl)) rfl (fun z hz => by simp at hz) ⟨(by simp only [renB, rows_no _ (nbL_no _)]; rfl), rfl, trivial⟩ rfl
theorem DrawFewestCodes_ex (bs : List Int) (hb : ∀ b ∈ bs, 0 ≤ b ∧ b ≤ 255) (hn : bs.length ≤ 9223372036854775807) : ∃ (ls : List (List Int)) (bu : Int), NbS ls ∧
    ∀ k, RC Try.prog 21 [.dsl 1 (byL bs)] [] k (.tup [.sl k 0 ls.length, .v (.int .i64 bu)]) [(k, some ⟨23, 1, false, nbL ls⟩)] (k + 1) := by
  have hok : (⟨bs, 0, 0⟩ : Sr).ok 0 := ⟨hb, by simp, by simp, hn⟩
  obtain ⟨ls, s1, h1⟩ := l23Draw_ex hok (by omega)
  obtain ⟨bu, s2, h3, h4⟩ := l19DrawBudget_ex h1.ok (by omega)
  have r1 := h1.rc
  refine ⟨ls, bu, nb_s h1.n h1.m, fun k => ?_⟩
  refine RC.ofc [] 1 [.dsl 1 (byL bs)] [] (.tup [.sl 0 0 ls.length, .v (.int .i64 bu)]) [(0, some ⟨23, 1, false, nbL ls⟩)] Try.func21 Try.ntmps21 rfl (goFn_of Try.func21 rfl (by kernel_rfl)) rfl rfl ?_ rfl rfl ?_ rfl ?_ (by simp_all) rfl ?_
  · rfl
  · have := rows_no (nmC [] k) (nbL_no ls)
    simp only [renE, renB, List.map_cons, List.map_nil, Option.map_some, this]; rfl
  · have := rows_ok 1 (nbL_no ls)
    simp [okC, idsOk, idsOkL, idsOkB, this]
  ((repeat' (first
    | (show SQ _ _ _ _ _ _ _ _; first | apply sq_nil | (apply q_move; exact rfl; exact rfl) | (apply q_assign; exact rfl; exact rfl))
    | (show SQ _ _ _ _ _ _ _ _; (first | (apply q_callC; exact rfl; exact rfl; exact rfl; exact l00From_rc bs _; (focus ((repeat (first | exact trivial | refine ⟨by first | exact rfl | assumption, ?_⟩)); done)); skip) | (apply q_callC; exact rfl; exact rfl; exact rfl; exact r1 _ 0; (focus ((repeat (first | exact trivial | refine ⟨by first | exact rfl | assumption, ?_⟩)); done)); skip) | (apply q_callC; exact rfl; exact rfl; exact rfl; exact h4 _ 0; (focus ((repeat (first | exact trivial | refine ⟨by first | exact rfl | assumption, ?_⟩)); done)); skip)); (try simp only [put, rowsOf, plR, List.all_cons, selE, ovr, setH, del, cellsA, splice, isV, List.nil_append, List.cons_append, List.map_cons, List.map_nil, List.length_cons, List.length_nil, List.set_cons_zero, List.set_cons_succ, List.take_succ_cons, List.take_zero, List.take_nil, List.drop_succ_cons, List.drop_zero, List.drop_nil, List.append_nil, List.all_cons, List.all_nil, Bool.and_true, Bool.true_and, Bool.and_false, Bool.false_and, Nat.reduceAdd, Nat.zero_add, Nat.add_zero, Nat.reduceEqDiff, if_true, if_false, reduceIte]))
    | (show AW _ _ _ _ _ _ _ _; first | refine aw_region ?_ | (refine aw_seqk ?_; intro K hK) | refine aw_ret ?_)
    | refine thn_n ?_
    | (refine hK _ _ _ ?_; clear hK K))); all_goals (repeat (clear hK K)))
  all_goals exact finc (fun z => z + 1) (.r2 _ _ _ _ (.tmp _ _ rfl) (.tmp _ _ rfl)) rfl (fun z hz => by simp at hz) ⟨(by simp only [renB, rows_no _ (nbL_no _)]; rfl), trivial⟩ rfl
end Go.Proofs.Yteknfaldpajlpaa.Nb

namespace Go.Proofs.Yteknfaldpajlpaa.Nb
open Go Go.RowKit Go.Proofs.Yteknfaldpajlpaa.Aw Go.Proofs.Yteknfaldpajlpaa.In Go.Proofs.Yteknfaldpajlpaa.Il Go.Proofs.Yteknfaldpajlpaa.Sr
set_option linter.unusedSimpArgs false
set_option linter.unusedVariables false
set_option linter.unusedSectionVars false
attribute [local irreducible] AW SQ Step RO RC DE Thn InB
set_option maxHeartbeats 4000000 in
theorem b10Long_ro (a : List Int) (m : Nat) : RO Try.prog 18 [.dsl 1 (byL a)] m (.v (.bool (decide (1048576 < (a.length : Int))))) [] m := by
  have h1 : (byL a).length = a.length := List.length_map _
  refine RO.ofv' Try.func18 Try.ntmps18 rfl (goFn_of Try.func18 rfl (by kernel_rfl)) rfl rfl ?_
  ((repeat' (first
    | (show SQ _ _ _ _ _ _ _ _; first | apply sq_nil | (apply q_move; exact rfl; exact rfl) | (apply q_assign; exact rfl; exact rfl) | (apply q_lend; exact rfl; exact rfl; exact (ty rfl); exact rfl) | (apply q_gtr; exact rfl; exact rfl; exact rfl))
    | (show AW _ _ _ _ _ _ _ _; first | refine aw_region ?_ | (refine aw_seqk ?_; intro K hK) | refine aw_ret ?_)
    | refine thn_n ?_
    | (refine hK _ _ _ ?_; clear hK K))); all_goals (repeat (clear hK K)))
  all_goals refine fin_r (fin_b rfl ?_)
  all_goals simp_all
set_option maxHeartbeats 4000000 in
theorem l23Ok_ro (ls : List (List Int)) (hS : NbS ls) (k : Nat) : RO Try.prog 39 [.dsl 1 (nbL ls)] k (.v (.bool (nbB ls))) [] k := by
  have hl := nbL_len ls
  by_cases c0 : 24 < ls.length
  · have b0 : decide ((24 : Int) < ((nbL ls).length : Int)) = true := by rw [hl]; simp; omega
    refine RO.ofv' Try.func39 Try.ntmps39 rfl (goFn_of Try.func39 rfl (by kernel_rfl)) rfl rfl ?_
    ((repeat' (first
    | (show SQ _ _ _ _ _ _ _ _; first | apply sq_nil | (apply q_move; exact rfl; exact rfl) | (apply q_assign; exact rfl; exact rfl) | (apply q_lend; exact rfl; exact rfl; exact (ty rfl); exact rfl) | (apply q_gtr; exact rfl; exact rfl; exact rfl))
    | (show AW _ _ _ _ _ _ _ _; first | refine aw_region ?_ | (refine aw_seqk ?_; intro K hK) | (apply aw_cond_t; exact rfl; exact (by assumption)) | refine aw_ret ?_)
    | refine thn_n ?_
    | (refine hK _ _ _ ?_; clear hK K)
    | refine thn_r ?_)); all_goals (repeat (clear hK K)))
    all_goals refine fin_r (fin_b rfl ?_)
    simp [nbB]; omega
  have b0 : decide ((24 : Int) < ((nbL ls).length : Int)) = false := by rw [hl]; simp; omega
  have hdec : decide (ls.length ≤ 24) = true := by simp; omega
  refine RO.ofv' Try.func39 Try.ntmps39 rfl (goFn_of Try.func39 rfl (by kernel_rfl)) rfl rfl ?_
  ((repeat' (first
    | (show SQ _ _ _ _ _ _ _ _; first | apply sq_nil | (apply q_move; exact rfl; exact rfl) | (apply q_assign; exact rfl; exact rfl) | (apply q_lend; exact rfl; exact rfl; exact (ty rfl); exact rfl) | (apply q_gtr; exact rfl; exact rfl; exact rfl))
    | (show AW _ _ _ _ _ _ _ _; first | refine aw_region ?_ | (refine aw_seqk ?_; intro K hK) | refine aw_block ?_ | (apply aw_cond_f; exact rfl; exact (by assumption)) | refine aw_skip ?_)
    | refine thn_n ?_
    | (refine hK _ _ _ ?_; clear hK K))); all_goals (repeat (clear hK K)))
  refine aw_loop (ρ := id) (ι := Nat) (fun i => ([(4, .v (.int .i64 i)), (3, .v (.int .i64 ls.length)), (0, .dsl 1 (nbL ls))], [], 0))
    (fun i => i ≤ ls.length ∧ ∀ j, j < i → nbG ls j = true) (fun i => ls.length - i) 0 ⟨Nat.zero_le _, fun j hj => absurd hj (Nat.not_lt_zero _)⟩ ⟨by (repeat (refine ⟨by first | exact lk_i rfl rfl | exact lk_i rfl (by (try dsimp only); first | rfl | omega | (rw [IntWalk.i64_in _ (by omega)]; first | rfl | omega | (push_cast; omega)) | (simp; done) | (simp; omega)) | exact lk_d rfl rfl, ?_⟩)); exact trivial, by exact trivial, by rfl, by exact pin_0⟩ ?_
  rintro i ⟨hi, hg⟩
  by_cases c1 : i < ls.length
  · have b1 : decide ((i : Int) < (ls.length : Int)) = true := by simpa using c1
    have hrow := nbL_get c1
    have hD : ls.getD i [] = ls[i] := by simp [List.getD, c1]
    have hm := hS.m _ (List.getElem_mem c1)
    have hG : nbG ls i = (risB ls[i] 0 ((ls.length : Int) - 1) && !(ls[i].any fun y => y == (i : Int))) := by rw [nbG, hD, risB_eq]
    have hwl : IntKind.i64.wrap ((ls.length : Int) - 1) = (ls.length : Int) - 1 := IntWalk.i64_in _ (by omega)
    have hw : IntKind.i64.wrap ((i : Int) + 1) = ((i + 1 : Nat) : Int) := by rw [IntWalk.i64_in _ (by omega)]; omega
    have hI := l00Rises_ro ls[i] 0 (IntKind.i64.wrap ((ls.length : Int) - 1)) hm
    rw [show risB ls[i] 0 (IntKind.i64.wrap ((ls.length : Int) - 1)) = risB ls[i] 0 ((ls.length : Int) - 1) by rw [hwl]] at hI
    have hC := l00Has_ro ls[i] (ls[i].map inL) (i : Int) rfl hm
    generalize risB ls[i] 0 ((ls.length : Int) - 1) = u2 at *
    generalize (ls[i].any fun y => y == (i : Int)) = u3 at *
    ((repeat' (first
    | (show SQ _ _ _ _ _ _ _ _; first | apply sq_nil | (apply q_move; exact rfl; exact rfl) | (apply q_assign; exact rfl; exact rfl) | (apply q_pick_t; exact rfl; exact rfl; exact rfl; exact (by first | assumption | exact rfl)) | (apply q_pick_f; exact rfl; exact rfl; exact rfl; exact (by first | assumption | exact rfl)) | (apply q_not; exact rfl; exact rfl) | (apply q_add; exact rfl; exact rfl; exact rfl) | (apply q_sub; exact rfl; exact rfl; exact rfl) | (apply q_lss; exact rfl; exact rfl; exact rfl) | (apply q_ixd; exact rfl; exact rfl; exact rfl; exact (ty rfl); exact rfl; exact (by first | omega | (simp; done) | (simp; omega)); exact (by first | omega | (simp; done) | (simp; omega)); exact (by first | rfl | assumption)) | (apply q_ld1d; exact rfl; exact rfl; exact (ty rfl); exact rfl; exact rfl) | (apply q_g; exact rfl; exact rfl; exact rfl; exact (by assumption)) | (apply q_s; exact rfl; exact rfl; exact rfl; exact (by assumption); exact rfl))
    | (show SQ _ _ _ _ _ _ _ _; (first | (apply q_callU; exact rfl; exact rfl; exact rfl; exact FzL.of rfl; exact hI _) | (apply q_callU; exact rfl; exact rfl; exact rfl; exact FzL.of rfl; exact hC _)); (try simp only [put, rowsOf, plR, List.all_cons, selE, ovr, setH, del, cellsA, splice, isV, List.nil_append, List.cons_append, List.map_cons, List.map_nil, List.length_cons, List.length_nil, List.set_cons_zero, List.set_cons_succ, List.take_succ_cons, List.take_zero, List.take_nil, List.drop_succ_cons, List.drop_zero, List.drop_nil, List.append_nil, List.all_cons, List.all_nil, Bool.and_true, Bool.true_and, Bool.and_false, Bool.false_and, Nat.reduceAdd, Nat.zero_add, Nat.add_zero, Nat.reduceEqDiff, if_true, if_false, reduceIte]))
    | (show SQ _ _ _ _ _ _ _ _; apply q_gs; exact rfl; exact rfl; exact rfl; exact rfl; all_goals intro h)
    | (show AW _ _ _ _ _ _ _ _; first | refine aw_region ?_ | (refine aw_seqk ?_; intro K hK) | refine aw_block ?_ | (apply aw_cond_t; exact rfl; exact rfl) | (apply aw_cond_t; exact rfl; exact (by assumption)) | refine aw_ret ?_ | refine aw_skip ?_ | (apply aw_ite; exact rfl; all_goals intro h))
    | refine thn_n ?_
    | (refine hK _ _ _ ?_; clear hK K)
    | refine thn_r ?_
    | refine inb_n ?_
    | refine inb_r ?_)); all_goals (repeat (clear hK K)))
    all_goals first
      | (refine fin_r (fin_b rfl ?_)
         rw [nbB, allR_false c1 (by rw [hG]; simp_all), Bool.and_false]; done)
      | (refine ⟨i + 1, id, ⟨c1, fun j hj => ?_⟩, by omega, ?_⟩
         · by_cases hjq : j < i
           · exact hg j hjq
           · obtain rfl : j = i := by omega
             rw [hG]; simp_all
         · (try dsimp only); rw [← hw]; exact ⟨by (repeat (refine ⟨by first | exact lk_i rfl rfl | exact lk_d rfl rfl, ?_⟩)); exact trivial, by exact trivial, by rfl, by exact pin_0⟩)
  · have b1 : decide ((i : Int) < (ls.length : Int)) = false := by simpa using c1
    ((repeat' (first
    | (show SQ _ _ _ _ _ _ _ _; first | apply sq_nil | (apply q_move; exact rfl; exact rfl) | (apply q_assign; exact rfl; exact rfl) | (apply q_lss; exact rfl; exact rfl; exact rfl))
    | (show AW _ _ _ _ _ _ _ _; first | refine aw_region ?_ | (refine aw_seqk ?_; intro K hK) | (apply aw_cond_f; exact rfl; exact (by assumption)) | refine aw_ret ?_ | refine aw_exit ?_)
    | refine thn_n ?_
    | (refine hK _ _ _ ?_; clear hK K)
    | refine thn_e ?_
    | refine inb_same ?_
    | (clear hK K; refine hK _ _ _ ?_; clear hK K))); all_goals (repeat (clear hK K)))
    all_goals refine fin_r (fin_b rfl ?_)
    rw [nbB, hdec, allR_true fun j hj => hg j (by omega)]; rfl
set_option maxHeartbeats 4000000 in
theorem specValidNeighbours_ro (ls : List (List Int)) (hS : NbS ls) (k : Nat) : RO Try.prog 24 [.dsl 1 (nbL ls)] k (.v (.bool (nbB ls))) [] k := by
  refine RO.ofv' Try.func24 Try.ntmps24 rfl (goFn_of Try.func24 rfl (by kernel_rfl)) rfl rfl ?_
  ((repeat' (first
    | (show SQ _ _ _ _ _ _ _ _; first | apply sq_nil | (apply q_move; exact rfl; exact rfl) | (apply q_assign; exact rfl; exact rfl))
    | (show SQ _ _ _ _ _ _ _ _; (first | (apply q_callU; exact rfl; exact rfl; exact rfl; exact FzL.of rfl; exact l23Ok_ro ls hS _)); (try simp only [put, rowsOf, plR, List.all_cons, selE, ovr, setH, del, cellsA, splice, isV, List.nil_append, List.cons_append, List.map_cons, List.map_nil, List.length_cons, List.length_nil, List.set_cons_zero, List.set_cons_succ, List.take_succ_cons, List.take_zero, List.take_nil, List.drop_succ_cons, List.drop_zero, List.drop_nil, List.append_nil, List.all_cons, List.all_nil, Bool.and_true, Bool.true_and, Bool.and_false, Bool.false_and, Nat.reduceAdd, Nat.zero_add, Nat.add_zero, Nat.reduceEqDiff, if_true, if_false, reduceIte]))
    | (show AW _ _ _ _ _ _ _ _; first | refine aw_region ?_ | (refine aw_seqk ?_; intro K hK) | refine aw_ret ?_)
    | refine thn_n ?_
    | (refine hK _ _ _ ?_; clear hK K))); all_goals (repeat (clear hK K)))
  all_goals exact fin_r (fin_b rfl rfl)
theorem few_ok {ls : List (List Int)} (hN : ls.length ≤ 24) : ∀ (k m : Nat) (st : Int × List Int), m + k = ls.length → 0 ≤ st.1 → (ls.length = 0 → st.2.length = 0) → (fewF ls k m st).2.1 = true → m ≤ (fewF ls k m st).1 ∧ ((fewF ls k m st).1 : Int) ≤ max (m : Int) (us (asgC ls ls.length)) ∧ (fewF ls k m st).1 ≤ ls.length ∧
    (fewF ls k m st).2.2.2.length = ls.length ∧ OkFrom ls 0 (fewF ls k m st).2.2.2 ∧ ∀ i, i < ls.length → 0 ≤ (fewF ls k m st).2.2.2.getD i 0 ∧ (fewF ls k m st).2.2.2.getD i 0 < ((fewF ls k m st).1 : Int) := by
  intro k
  induction k with
  | zero =>
    intro m st hmk h0 h1 hv
    have hk := ext_keep (ls := ls) (m := (m : Int)) ls.length 0 st (Nat.le_refl _) h0 (by omega) (fun e => by rw [h1 e, e])
    rw [Nat.sub_self] at hk
    have := hk.ok hv
    exact ⟨Nat.le_refl _, by show (m : Int) ≤ _; omega, by show m ≤ _; omega, this.1, this.2.2.1, fun i hi => this.2.2.2 i (Nat.zero_le _) hi⟩
  | succ k ih =>
    intro m st hmk h0 h1 hv
    have hk := ext_keep (ls := ls) (m := (m : Int)) ls.length 0 st (Nat.le_refl _) h0 (by omega) (fun e => by rw [h1 e, e])
    rw [Nat.sub_self] at hk
    have ht := fun hh => ext_top (ls := ls) (m := (m : Int)) (st := st) hN hh h0 h1
    rw [fewF] at hv ⊢
    by_cases c1 : (ext ls (m : Int) ls.length 0 st).1 = true
    · rw [if_pos c1] at hv ⊢
      have := hk.ok c1
      exact ⟨Nat.le_refl _, by show (m : Int) ≤ _; omega, by show m ≤ _; omega, this.1, this.2.2.1, fun i hi => this.2.2.2 i (Nat.zero_le _) hi⟩
    · rw [if_neg c1] at hv ⊢
      by_cases c2 : (ext ls (m : Int) ls.length 0 st).2.1 < 0
      · rw [if_pos c2] at hv
        exact absurd hv c1
      · rw [if_neg c2] at hv ⊢
        have hlt : (m : Int) < us (asgC ls ls.length) := by
          apply Int.lt_of_not_ge
          intro hge
          rcases ht hge with h | h
          · exact c1 h
          · exact c2 h
        have := ih (m + 1) (ext ls (m : Int) ls.length 0 st).2 (by omega) (by omega) (fun e => by omega) hv
        obtain ⟨g1, g2, g3⟩ := this
        exact ⟨by omega, by omega, g3⟩
theorem vcB_ok {ls : List (List Int)} {cs : List Int} (h : nbB ls = true) (h2 : coB ls cs = true) : vcB ls cs 1000 = ((prOut (ccP ls cs) ls.length ls.length).length == 0) := by
  have h3 : (cs.any fun x => decide (1000 ≤ x)) = false := by
    simp only [coB, Bool.and_eq_true, Bool.not_eq_true', List.any_eq_false] at h2
    rw [List.any_eq_false]
    intro x hx
    have := h2.2 x hx
    simp [inB] at this
    simp; omega
  unfold vcB
  rw [h, h2, h3, Bool.eq_iff_iff]
  simp
end Go.Proofs.Yteknfaldpajlpaa.Nb

namespace Go.Proofs.Yteknfaldpajlpaa.Nb
open Go Go.RowKit Go.Proofs.Yteknfaldpajlpaa.Aw Go.Proofs.Yteknfaldpajlpaa.In Go.Proofs.Yteknfaldpajlpaa.Il Go.Proofs.Yteknfaldpajlpaa.Sr
set_option linter.unusedSimpArgs false
set_option linter.unusedVariables false
set_option linter.unusedSectionVars false
attribute [local irreducible] AW SQ Step RO RC DE Thn InB
theorem nbL_sim (ls : List (List Int)) : (nbL ls).all (fun r => r.all simB) = true := by simp [nbL, simB]
def sh (x : Nat) : Nat → Nat := fun z => z + x
theorem us_take {cs : List Int} {i : Nat} (h : i < cs.length) : us (cs.take (i + 1)) = max (us (cs.take i)) (cs[i] + 1) := by
  rw [List.take_succ_eq_append_getElem h, us_app]
set_option maxHeartbeats 4000000 in
theorem lawFnCodes_ro (cs ms : List Int) (hc : ∀ b ∈ cs, 0 ≤ b ∧ b ≤ 255) (hm : ∀ b ∈ ms, 0 ≤ b ∧ b ≤ 255) (hnc : cs.length ≤ 9223372036854775807) (hnm : ms.length ≤ 9223372036854775807) (k : Nat) :
    RO Try.prog 4 [.dsl 1 (byL cs), .dsl 1 (byL ms)] k (.v (.bool true)) [] k := by
  have hL1 := b10Long_ro cs
  have hL2 := b10Long_ro ms
  by_cases cl : 1048576 < (cs.length : Int) ∨ 1048576 < (ms.length : Int)
  · have hor : (decide (1048576 < (cs.length : Int)) || decide (1048576 < (ms.length : Int))) = true := by simpa using cl
    generalize decide (1048576 < (cs.length : Int)) = u1 at *
    generalize decide (1048576 < (ms.length : Int)) = u2 at *
    cases u1 with
    | true =>
      refine RO.ofv' Try.func4 Try.ntmps4 rfl (goFn_of Try.func4 rfl (by kernel_rfl)) rfl rfl ?_
      ((repeat' (first
    | (show SQ _ _ _ _ _ _ _ _; first | apply sq_nil | (apply q_move; exact rfl; exact rfl) | (apply q_assign; exact rfl; exact rfl) | (apply q_pick_t; exact rfl; exact rfl; exact rfl; exact (by first | assumption | exact rfl)) | (apply q_s; exact rfl; exact rfl; exact rfl; exact (by assumption); exact rfl))
    | (show SQ _ _ _ _ _ _ _ _; (first | (apply q_callU; exact rfl; exact rfl; exact rfl; exact FzL.of rfl; exact hL1 _)); (try simp only [put, rowsOf, plR, List.all_cons, selE, ovr, setH, del, cellsA, splice, isV, List.nil_append, List.cons_append, List.map_cons, List.map_nil, List.length_cons, List.length_nil, List.set_cons_zero, List.set_cons_succ, List.take_succ_cons, List.take_zero, List.take_nil, List.drop_succ_cons, List.drop_zero, List.drop_nil, List.append_nil, List.all_cons, List.all_nil, Bool.and_true, Bool.true_and, Bool.and_false, Bool.false_and, Nat.reduceAdd, Nat.zero_add, Nat.add_zero, Nat.reduceEqDiff, if_true, if_false, reduceIte]))
    | (show AW _ _ _ _ _ _ _ _; first | refine aw_region ?_ | (refine aw_seqk ?_; intro K hK) | (apply aw_cond_t; exact rfl; exact rfl) | refine aw_ret ?_)
    | refine thn_n ?_
    | (refine hK _ _ _ ?_; clear hK K)
    | refine thn_r ?_)); all_goals (repeat (clear hK K)))
      all_goals exact fin_r (fin_b rfl rfl)
    | false =>
      cases u2 with
      | true =>
        refine RO.ofv' Try.func4 Try.ntmps4 rfl (goFn_of Try.func4 rfl (by kernel_rfl)) rfl rfl ?_
        ((repeat' (first
    | (show SQ _ _ _ _ _ _ _ _; first | apply sq_nil | (apply q_move; exact rfl; exact rfl) | (apply q_assign; exact rfl; exact rfl) | (apply q_pick_f; exact rfl; exact rfl; exact rfl; exact (by first | assumption | exact rfl)) | (apply q_g; exact rfl; exact rfl; exact rfl; exact rfl))
    | (show SQ _ _ _ _ _ _ _ _; (first | (apply q_callU; exact rfl; exact rfl; exact rfl; exact FzL.of rfl; exact hL1 _) | (apply q_callU; exact rfl; exact rfl; exact rfl; exact FzL.of rfl; exact hL2 _)); (try simp only [put, rowsOf, plR, List.all_cons, selE, ovr, setH, del, cellsA, splice, isV, List.nil_append, List.cons_append, List.map_cons, List.map_nil, List.length_cons, List.length_nil, List.set_cons_zero, List.set_cons_succ, List.take_succ_cons, List.take_zero, List.take_nil, List.drop_succ_cons, List.drop_zero, List.drop_nil, List.append_nil, List.all_cons, List.all_nil, Bool.and_true, Bool.true_and, Bool.and_false, Bool.false_and, Nat.reduceAdd, Nat.zero_add, Nat.add_zero, Nat.reduceEqDiff, if_true, if_false, reduceIte]))
    | (show AW _ _ _ _ _ _ _ _; first | refine aw_region ?_ | (refine aw_seqk ?_; intro K hK) | (apply aw_cond_t; exact rfl; exact rfl) | refine aw_ret ?_)
    | refine thn_n ?_
    | (refine hK _ _ _ ?_; clear hK K)
    | refine thn_r ?_)); all_goals (repeat (clear hK K)))
        all_goals exact fin_r (fin_b rfl rfl)
      | false => cases hor
  have e1 : decide (1048576 < (cs.length : Int)) = false := by simp; omega
  have e2 : decide (1048576 < (ms.length : Int)) = false := by simp; omega
  rw [e1] at hL1
  rw [e2] at hL2
  obtain ⟨l1, c1, hS1, hc1, hD1⟩ := DrawCodeClashes_ex cs hc hnc
  obtain ⟨l2, bu, hS2, hD2⟩ := DrawFewestCodes_ex ms hm hnm
  have hn1 := nbL_len l1
  have hn2 := nbL_len l2
  have hs1 := nbL_sim l1
  have hs2 := nbL_sim l2
  have hV := specValidNeighbours_ro l2 hS2
  have hdt1 : ((nbL l1).drop 0).take l1.length = nbL l1 := by rw [List.drop_zero, List.take_of_length_le (by omega)]
  have hdt2 : ((nbL l2).drop 0).take l2.length = nbL l2 := by rw [List.drop_zero, List.take_of_length_le (by omega)]
  have z0 : ((0 : Int) != 0) = false := rfl
  have z1 : ((0 : Int) == 0) = true := rfl
  have z2 : (((0 : Nat) : Int) == 0) = true := rfl
  have y0 : ((1 : Int) == 0) = false := rfl
  have y1 : ((6 : Int) == 0) = false := rfl
  have y2 : ((1 : Int) == 1) = true := rfl
  have y3 : ((2 : Int) != 0) = true := rfl
  have y4 : ((5 : Int) != 0) = true := rfl
  have y5 : ((1 : Int) != 0) = true := rfl
  refine RO.ofv' Try.func4 Try.ntmps4 rfl (goFn_of Try.func4 rfl (by kernel_rfl)) rfl rfl ?_
  -- the first half: clashes say what the codes' validity says
  have first : (∃ v, (v : Int) ≠ 0 ∧ ∀ k, RO Try.prog 12 [.dsl 1 (nbL l1), .dsl 1 (c1.map inL)] k (.tup [.v (.slice none 0 0), .v (.int .i64 v)]) [] k) ∨
      (∃ ps : List (Int × Int), (∀ k, RC Try.prog 12 [.dsl 1 (nbL l1), .dsl 1 (c1.map inL)] [] k (.tup [.sl k 0 ps.length, .v (.int .i64 0)]) [(k, some ⟨23, 1, false, ps.map prR⟩)] (k + 1)) ∧
        ∀ k, RO Try.prog 20 [.dsl 1 (nbL l1), .dsl 1 (c1.map inL), .v (.int .i64 1000)] k (.v (.bool ((ps.length : Int) == 0))) [] k) := by
    cases h : nbB l1 with
    | false => exact .inl ⟨1, by decide, Clashes_bad_ro l1 hS1 c1 h⟩
    | true =>
      cases h2 : coB l1 c1 with
      | false => exact .inl ⟨6, by decide, Clashes_st_ro l1 hS1 c1 (by omega) h h2⟩
      | true =>
        refine .inr ⟨prOut (ccP l1 c1) l1.length l1.length, Clashes_ok_rc l1 hS1 c1 (by omega) h h2, fun k => ?_⟩
        have := ValidCodes_ro l1 hS1 c1 1000 (by omega) k
        rw [vcB_ok h h2] at this
        have e : ((prOut (ccP l1 c1) l1.length l1.length).length == 0) = (((prOut (ccP l1 c1) l1.length l1.length).length : Int) == 0) := by
          rw [Bool.eq_iff_iff]; simp
        rwa [e] at this
  have second : ∀ (X : Nat), (X = 2 ∨ X = 3) → (nbB l2 = false ∧ (∀ k, RO Try.prog 22 [.dsl 1 (nbL l2), .v (.int .i64 bu)] k (.tup [.v (.slice none 0 0), .v (.int .i64 0), .v (.int .i64 1)]) [] k) ∧
       ∀ k, RO Try.prog 23 [.dsl 1 (nbL l2), .v (.int .i64 1000)] k (.tup [.v (.slice none 0 0), .v (.int .i64 1)]) [] k) ∨
      (nbB l2 = true ∧ l2.length ≤ 24 ∧ ((∃ v, (v : Int) ≠ 0 ∧ ∀ k, RO Try.prog 22 [.dsl 1 (nbL l2), .v (.int .i64 bu)] k (.tup [.v (.slice none 0 0), .v (.int .i64 0), .v (.int .i64 v)]) [] k) ∨
        (∃ (m : Nat) (bs : List Int), bs.length = l2.length ∧ (m : Int) ≤ us (asgC l2 l2.length) ∧ (∀ k, RC Try.prog 22 [.dsl 1 (nbL l2), .v (.int .i64 bu)] [] k (.tup [.sl k 0 l2.length, .v (.int .i64 m), .v (.int .i64 0)]) [(k, some ⟨2, 1, true, bs.map inL⟩)] (k + 1)) ∧
          ∀ k, RO Try.prog 20 [.dsl 1 (nbL l2), .dsl 1 (bs.map inL), .v (.int .i64 m)] k (.v (.bool true)) [] k))) := by
    intro X _
    cases h : nbB l2 with
    | false => exact .inl ⟨rfl, Fewest_bad_ro l2 hS2 bu h, Assign_bad_ro l2 hS2 1000 h⟩
    | true =>
      have hN := nbB_in h
      refine .inr ⟨rfl, hN, ?_⟩
      cases h2 : inB bu 1 20000 with
      | false => exact .inl ⟨2, by decide, Fewest_rng_ro l2 hS2 bu h h2⟩
      | true =>
        have hbu : 1 ≤ bu ∧ bu ≤ 20000 := by simpa [inB] using h2
        cases h3 : (fewF l2 l2.length 0 (bu, [])).2.1 with
        | false => exact .inl ⟨5, by decide, Fewest_full l2 hS2 bu h h2 h3⟩
        | true =>
          obtain ⟨g1, g2, g3, g4, g5, g6⟩ := few_ok hN l2.length 0 (bu, []) (by omega) (by dsimp only; omega) (fun _ => rfl) h3
          have hus := us_in l2 l2.length hN
          refine .inr ⟨_, _, g4, by omega, Fewest_ok l2 hS2 bu h h2 h3, fun k => ?_⟩
          have := ValidCodes_ro l2 hS2 (fewF l2 l2.length 0 (bu, [])).2.2.2 ((fewF l2 l2.length 0 (bu, [])).1 : Int) (by omega) k
          rwa [vcB_true h g4 (fun x hx => ?_) g5] at this
          obtain ⟨i, hi, rfl⟩ := List.getElem_of_mem hx
          have := g6 i (by omega)
          simp only [List.getD, List.getElem?_eq_getElem hi, Option.getD_some] at this
          omega
  have rest := second 2 (.inl rfl)
  have hO := fun h => Assign_ok_rc l2 hS2 h
  have hOv : nbB l2 = true → ∀ k, RO Try.prog 20 [.dsl 1 (nbL l2), .dsl 1 ((asgC l2 l2.length).map inL), .v (.int .i64 1000)] k (.v (.bool true)) [] k := fun h k => by
    have hN := nbB_in h
    have hal := asgC_len l2 l2.length
    obtain ⟨a1, a2⟩ := asgC_ok l2 l2.length hN
    have := ValidCodes_ro l2 hS2 (asgC l2 l2.length) 1000 (by omega) k
    rwa [vcB_true h hal (fun x hx => by have := a2 x hx; omega) a1] at this
  have hal := asgC_len l2 l2.length
  have hrg : nbB l2 = true → ∀ x ∈ asgC l2 l2.length, 0 ≤ x ∧ x < 24 := fun h => (asgC_ok l2 l2.length (nbB_in h)).2
  have huu : nbB l2 = true → 0 ≤ us (asgC l2 l2.length) ∧ us (asgC l2 l2.length) ≤ (l2.length : Int) := fun h => us_in l2 l2.length (nbB_in h)
  have umon : ∀ i, 0 ≤ us ((asgC l2 l2.length).take i) := fun i => by
    have gen : ∀ (cs : List Int) (u : Int), u ≤ cs.foldl (fun u c => max u (c + 1)) u := by
      intro cs; induction cs with
      | nil => intro u; exact Int.le_refl _
      | cons y cs ih => intro u; have := ih (max u (y + 1)); simp only [List.foldl_cons]; omega
    exact gen _ 0
  generalize asgC l2 l2.length = od at *
  rcases first with ⟨v, hv, hB⟩ | ⟨ps, hB, hVc⟩
  · have d0 : (v == 0) = false := by simpa using hv
    rcases rest with ⟨hb, hF, hA⟩ | ⟨hb, hN, ⟨w, hw, hF⟩ | ⟨m, bs, hbl, hmu, hF, hFv⟩⟩
    · have d1 : (!nbB l2) = true := by rw [hb]; rfl
      ((repeat' (first
    | (show SQ _ _ _ _ _ _ _ _; apply sq_frz (t := 27); exact rfl; exact rfl; exact (by first | rfl | exact all_noOwn_map (fun _ => rfl) | assumption | exact hclo); exact (by first | omega | (simp; done) | (simp; omega)); exact (by first | exact dt_full (by first | omega | (simp; done) | (simp; omega)) | assumption | rfl); (try simp only [put, rowsOf, plR, List.all_cons, selE, ovr, setH, del, cellsA, splice, isV, List.nil_append, List.cons_append, List.map_cons, List.map_nil, List.length_cons, List.length_nil, List.set_cons_zero, List.set_cons_succ, List.take_succ_cons, List.take_zero, List.take_nil, List.drop_succ_cons, List.drop_zero, List.drop_nil, List.append_nil, List.all_cons, List.all_nil, Bool.and_true, Bool.true_and, Bool.and_false, Bool.false_and, Nat.reduceAdd, Nat.zero_add, Nat.add_zero, Nat.reduceEqDiff, if_true, if_false, reduceIte]))
    | (show SQ _ _ _ _ _ _ _ _; apply sq_frz (t := 28); exact rfl; exact rfl; exact (by first | rfl | exact all_noOwn_map (fun _ => rfl) | assumption | exact hclo); exact (by first | omega | (simp; done) | (simp; omega)); exact (by first | exact dt_full (by first | omega | (simp; done) | (simp; omega)) | assumption | rfl); (try simp only [put, rowsOf, plR, List.all_cons, selE, ovr, setH, del, cellsA, splice, isV, List.nil_append, List.cons_append, List.map_cons, List.map_nil, List.length_cons, List.length_nil, List.set_cons_zero, List.set_cons_succ, List.take_succ_cons, List.take_zero, List.take_nil, List.drop_succ_cons, List.drop_zero, List.drop_nil, List.append_nil, List.all_cons, List.all_nil, Bool.and_true, Bool.true_and, Bool.and_false, Bool.false_and, Nat.reduceAdd, Nat.zero_add, Nat.add_zero, Nat.reduceEqDiff, if_true, if_false, reduceIte]))
    | (show SQ _ _ _ _ _ _ _ _; apply sq_frz (t := 49); exact rfl; exact rfl; exact (by first | rfl | exact all_noOwn_map (fun _ => rfl) | assumption | exact hclo); exact (by first | omega | (simp; done) | (simp; omega)); exact (by first | exact dt_full (by first | omega | (simp; done) | (simp; omega)) | assumption | rfl); (try simp only [put, rowsOf, plR, List.all_cons, selE, ovr, setH, del, cellsA, splice, isV, List.nil_append, List.cons_append, List.map_cons, List.map_nil, List.length_cons, List.length_nil, List.set_cons_zero, List.set_cons_succ, List.take_succ_cons, List.take_zero, List.take_nil, List.drop_succ_cons, List.drop_zero, List.drop_nil, List.append_nil, List.all_cons, List.all_nil, Bool.and_true, Bool.true_and, Bool.and_false, Bool.false_and, Nat.reduceAdd, Nat.zero_add, Nat.add_zero, Nat.reduceEqDiff, if_true, if_false, reduceIte]))
    | (show SQ _ _ _ _ _ _ _ _; first | apply sq_nil | (apply q_move; exact rfl; exact rfl) | (apply q_assign; exact rfl; exact rfl) | (apply q_pick_t; exact rfl; exact rfl; exact rfl; exact (by first | assumption | exact rfl)) | (apply q_pick_f; exact rfl; exact rfl; exact rfl; exact (by first | assumption | exact rfl)) | (apply q_not; exact rfl; exact rfl) | (apply q_ext; exact rfl; exact rfl; exact rfl) | (apply q_eql; exact rfl; exact rfl; exact rfl) | (apply q_g; exact rfl; exact rfl; exact rfl; exact (by assumption)) | (apply q_s; exact rfl; exact rfl; exact rfl; exact (by assumption); exact rfl))
    | (show SQ _ _ _ _ _ _ _ _; (first | (apply q_callU; exact rfl; exact rfl; exact rfl; exact FzL.of rfl; exact hL1 _) | (apply q_callU; exact rfl; exact rfl; exact rfl; exact FzL.of rfl; exact hL2 _) | (apply q_callU; exact rfl; exact rfl; exact rfl; exact FzL.of rfl; exact hB _) | (apply q_callU; exact rfl; exact rfl; exact rfl; exact FzL.of rfl; exact hF _) | (apply q_callU; exact rfl; exact rfl; exact rfl; exact FzL.of rfl; exact hA _) | (apply q_callU; exact rfl; exact rfl; exact rfl; exact FzL.of rfl; exact hV _) | (apply q_callC; exact rfl; exact rfl; exact rfl; exact hD1 _; (focus ((repeat (first | exact trivial | refine ⟨by first | exact rfl | assumption, ?_⟩)); done)); skip) | (apply q_callC; exact rfl; exact rfl; exact rfl; exact hD2 _; (focus ((repeat (first | exact trivial | refine ⟨by first | exact rfl | assumption, ?_⟩)); done)); skip)); (try simp only [put, rowsOf, plR, List.all_cons, selE, ovr, setH, del, cellsA, splice, isV, List.nil_append, List.cons_append, List.map_cons, List.map_nil, List.length_cons, List.length_nil, List.set_cons_zero, List.set_cons_succ, List.take_succ_cons, List.take_zero, List.take_nil, List.drop_succ_cons, List.drop_zero, List.drop_nil, List.append_nil, List.all_cons, List.all_nil, Bool.and_true, Bool.true_and, Bool.and_false, Bool.false_and, Nat.reduceAdd, Nat.zero_add, Nat.add_zero, Nat.reduceEqDiff, if_true, if_false, reduceIte]))
    | (show AW _ _ _ _ _ _ _ _; first | refine aw_region ?_ | (refine aw_seqk ?_; intro K hK) | (apply aw_cond_f; exact rfl; exact rfl) | (apply aw_cond_t; exact rfl; exact (by assumption)) | refine aw_ret ?_ | refine aw_skip ?_)
    | refine thn_n ?_
    | (refine hK _ _ _ ?_; clear hK K)
    | refine thn_r ?_)); all_goals (repeat (clear hK K)))
      all_goals exact fin_r (fin_b rfl rfl)
    · have d1 : (!nbB l2) = false := by rw [hb]; rfl
      have d2 : (w != 0) = true := by simpa using hw
      have hO := hO hb
      have hOv := hOv hb
      ((repeat' (first
    | (show SQ _ _ _ _ _ _ _ _; apply sq_frz (t := 27); exact rfl; exact rfl; exact (by first | rfl | exact all_noOwn_map (fun _ => rfl) | assumption | exact hclo); exact (by first | omega | (simp; done) | (simp; omega)); exact (by first | exact dt_full (by first | omega | (simp; done) | (simp; omega)) | assumption | rfl); (try simp only [put, rowsOf, plR, List.all_cons, selE, ovr, setH, del, cellsA, splice, isV, List.nil_append, List.cons_append, List.map_cons, List.map_nil, List.length_cons, List.length_nil, List.set_cons_zero, List.set_cons_succ, List.take_succ_cons, List.take_zero, List.take_nil, List.drop_succ_cons, List.drop_zero, List.drop_nil, List.append_nil, List.all_cons, List.all_nil, Bool.and_true, Bool.true_and, Bool.and_false, Bool.false_and, Nat.reduceAdd, Nat.zero_add, Nat.add_zero, Nat.reduceEqDiff, if_true, if_false, reduceIte]))
    | (show SQ _ _ _ _ _ _ _ _; apply sq_frz (t := 28); exact rfl; exact rfl; exact (by first | rfl | exact all_noOwn_map (fun _ => rfl) | assumption | exact hclo); exact (by first | omega | (simp; done) | (simp; omega)); exact (by first | exact dt_full (by first | omega | (simp; done) | (simp; omega)) | assumption | rfl); (try simp only [put, rowsOf, plR, List.all_cons, selE, ovr, setH, del, cellsA, splice, isV, List.nil_append, List.cons_append, List.map_cons, List.map_nil, List.length_cons, List.length_nil, List.set_cons_zero, List.set_cons_succ, List.take_succ_cons, List.take_zero, List.take_nil, List.drop_succ_cons, List.drop_zero, List.drop_nil, List.append_nil, List.all_cons, List.all_nil, Bool.and_true, Bool.true_and, Bool.and_false, Bool.false_and, Nat.reduceAdd, Nat.zero_add, Nat.add_zero, Nat.reduceEqDiff, if_true, if_false, reduceIte]))
    | (show SQ _ _ _ _ _ _ _ _; apply sq_frz (t := 49); exact rfl; exact rfl; exact (by first | rfl | exact all_noOwn_map (fun _ => rfl) | assumption | exact hclo); exact (by first | omega | (simp; done) | (simp; omega)); exact (by first | exact dt_full (by first | omega | (simp; done) | (simp; omega)) | assumption | rfl); (try simp only [put, rowsOf, plR, List.all_cons, selE, ovr, setH, del, cellsA, splice, isV, List.nil_append, List.cons_append, List.map_cons, List.map_nil, List.length_cons, List.length_nil, List.set_cons_zero, List.set_cons_succ, List.take_succ_cons, List.take_zero, List.take_nil, List.drop_succ_cons, List.drop_zero, List.drop_nil, List.append_nil, List.all_cons, List.all_nil, Bool.and_true, Bool.true_and, Bool.and_false, Bool.false_and, Nat.reduceAdd, Nat.zero_add, Nat.add_zero, Nat.reduceEqDiff, if_true, if_false, reduceIte]))
    | (show SQ _ _ _ _ _ _ _ _; first | apply sq_nil | (apply q_move; exact rfl; exact rfl) | (apply q_assign; exact rfl; exact rfl) | (apply q_pick_t; exact rfl; exact rfl; exact rfl; exact (by first | assumption | exact rfl)) | (apply q_pick_f; exact rfl; exact rfl; exact rfl; exact (by first | assumption | exact rfl)) | (apply q_not; exact rfl; exact rfl) | (apply q_ext; exact rfl; exact rfl; exact rfl) | (apply q_lenn; exact rfl; exact rfl; exact (ty rfl); exact rfl) | (apply q_eql; exact rfl; exact rfl; exact rfl) | (apply q_neq; exact rfl; exact rfl; exact rfl) | (apply q_g; exact rfl; exact rfl; exact rfl; exact (by assumption)) | (apply q_s; exact rfl; exact rfl; exact rfl; exact (by assumption); exact rfl))
    | (show SQ _ _ _ _ _ _ _ _; (first | (apply q_callU; exact rfl; exact rfl; exact rfl; exact FzL.of rfl; exact hL1 _) | (apply q_callU; exact rfl; exact rfl; exact rfl; exact FzL.of rfl; exact hL2 _) | (apply q_callU; exact rfl; exact rfl; exact rfl; exact FzL.of rfl; exact hB _) | (apply q_callU; exact rfl; exact rfl; exact rfl; exact FzL.of rfl; exact hF _) | (apply q_callU; exact rfl; exact rfl; exact rfl; exact FzL.of rfl; exact hV _) | (apply q_callU; exact rfl; exact rfl; exact rfl; rotate_left; exact hOv _; rotate_right; focus ((repeat' (first | exact FzL.nil | exact (by assumption : FzC _) _ | refine FzL.cons ?_ ?_ | exact Fz.of rfl | exact Fz.nil | exact Fz.emp | (apply Fz.fnC; assumption) | (apply Fz.sl2; exact rfl; exact (by first | omega | (simp; done) | (simp; omega)); first | exact rfl | exact dt_full (by first | omega | (simp; done) | (simp; omega)) | assumption) | apply Fz.agg | (apply Fz.ptrL; exact rfl; first | exact rfl | assumption) | apply Fz.fnL)); done)) | (apply q_callC; exact rfl; exact rfl; exact rfl; exact hD1 _; (focus ((repeat (first | exact trivial | refine ⟨by first | exact rfl | assumption, ?_⟩)); done)); skip) | (apply q_callC; exact rfl; exact rfl; exact rfl; exact hD2 _; (focus ((repeat (first | exact trivial | refine ⟨by first | exact rfl | assumption, ?_⟩)); done)); skip) | (apply q_callC; exact rfl; exact rfl; exact rfl; exact hO _; (focus ((repeat (first | exact trivial | refine ⟨by first | exact rfl | assumption, ?_⟩)); done)); skip)); (try simp only [put, rowsOf, plR, List.all_cons, selE, ovr, setH, del, cellsA, splice, isV, List.nil_append, List.cons_append, List.map_cons, List.map_nil, List.length_cons, List.length_nil, List.set_cons_zero, List.set_cons_succ, List.take_succ_cons, List.take_zero, List.take_nil, List.drop_succ_cons, List.drop_zero, List.drop_nil, List.append_nil, List.all_cons, List.all_nil, Bool.and_true, Bool.true_and, Bool.and_false, Bool.false_and, Nat.reduceAdd, Nat.zero_add, Nat.add_zero, Nat.reduceEqDiff, if_true, if_false, reduceIte]))
    | (show AW _ _ _ _ _ _ _ _; first | refine aw_region ?_ | (refine aw_seqk ?_; intro K hK) | (apply aw_cond_f; exact rfl; exact rfl) | (apply aw_cond_t; exact rfl; exact (by assumption)) | (apply aw_cond_f; exact rfl; exact (by assumption)) | refine aw_ret ?_ | refine aw_skip ?_)
    | refine thn_n ?_
    | (refine hK _ _ _ ?_; clear hK K)
    | refine thn_r ?_)); all_goals (repeat (clear hK K)))
      all_goals exact fin_r (fin_b rfl rfl)
    · have d1 : (!nbB l2) = false := by rw [hb]; rfl
      have hO := hO hb
      have hOv := hOv hb
      have hrg := hrg hb
      have huu := huu hb
      have hbm : (bs.map inL).length = l2.length := by rw [List.length_map, hbl]
      have hom : (od.map inL).length = l2.length := by rw [List.length_map, hal]
      have hdtb : ((bs.map inL).drop 0).take l2.length = bs.map inL := by rw [List.drop_zero, List.take_of_length_le (by omega)]
      have hdto : ((od.map inL).drop 0).take l2.length = od.map inL := by rw [List.drop_zero, List.take_of_length_le (by omega)]
      ((repeat' (first
    | (show SQ _ _ _ _ _ _ _ _; apply sq_frz (t := 27); exact rfl; exact rfl; exact (by first | rfl | exact all_noOwn_map (fun _ => rfl) | assumption | exact hclo); exact (by first | omega | (simp; done) | (simp; omega)); exact (by first | exact dt_full (by first | omega | (simp; done) | (simp; omega)) | assumption | rfl); (try simp only [put, rowsOf, plR, List.all_cons, selE, ovr, setH, del, cellsA, splice, isV, List.nil_append, List.cons_append, List.map_cons, List.map_nil, List.length_cons, List.length_nil, List.set_cons_zero, List.set_cons_succ, List.take_succ_cons, List.take_zero, List.take_nil, List.drop_succ_cons, List.drop_zero, List.drop_nil, List.append_nil, List.all_cons, List.all_nil, Bool.and_true, Bool.true_and, Bool.and_false, Bool.false_and, Nat.reduceAdd, Nat.zero_add, Nat.add_zero, Nat.reduceEqDiff, if_true, if_false, reduceIte]))
    | (show SQ _ _ _ _ _ _ _ _; apply sq_frz (t := 28); exact rfl; exact rfl; exact (by first | rfl | exact all_noOwn_map (fun _ => rfl) | assumption | exact hclo); exact (by first | omega | (simp; done) | (simp; omega)); exact (by first | exact dt_full (by first | omega | (simp; done) | (simp; omega)) | assumption | rfl); (try simp only [put, rowsOf, plR, List.all_cons, selE, ovr, setH, del, cellsA, splice, isV, List.nil_append, List.cons_append, List.map_cons, List.map_nil, List.length_cons, List.length_nil, List.set_cons_zero, List.set_cons_succ, List.take_succ_cons, List.take_zero, List.take_nil, List.drop_succ_cons, List.drop_zero, List.drop_nil, List.append_nil, List.all_cons, List.all_nil, Bool.and_true, Bool.true_and, Bool.and_false, Bool.false_and, Nat.reduceAdd, Nat.zero_add, Nat.add_zero, Nat.reduceEqDiff, if_true, if_false, reduceIte]))
    | (show SQ _ _ _ _ _ _ _ _; apply sq_frz (t := 49); exact rfl; exact rfl; exact (by first | rfl | exact all_noOwn_map (fun _ => rfl) | assumption | exact hclo); exact (by first | omega | (simp; done) | (simp; omega)); exact (by first | exact dt_full (by first | omega | (simp; done) | (simp; omega)) | assumption | rfl); (try simp only [put, rowsOf, plR, List.all_cons, selE, ovr, setH, del, cellsA, splice, isV, List.nil_append, List.cons_append, List.map_cons, List.map_nil, List.length_cons, List.length_nil, List.set_cons_zero, List.set_cons_succ, List.take_succ_cons, List.take_zero, List.take_nil, List.drop_succ_cons, List.drop_zero, List.drop_nil, List.append_nil, List.all_cons, List.all_nil, Bool.and_true, Bool.true_and, Bool.and_false, Bool.false_and, Nat.reduceAdd, Nat.zero_add, Nat.add_zero, Nat.reduceEqDiff, if_true, if_false, reduceIte]))
    | (show SQ _ _ _ _ _ _ _ _; first | apply sq_nil | (apply q_move; exact rfl; exact rfl) | (apply q_assign; exact rfl; exact rfl) | (apply q_pick_f; exact rfl; exact rfl; exact rfl; exact (by first | assumption | exact rfl)) | (apply q_not; exact rfl; exact rfl) | (apply q_ext; exact rfl; exact rfl; exact rfl) | (apply q_eql; exact rfl; exact rfl; exact rfl) | (apply q_neq; exact rfl; exact rfl; exact rfl) | (apply q_g; exact rfl; exact rfl; exact rfl; exact (by assumption)) | (apply q_s; exact rfl; exact rfl; exact rfl; exact (by assumption); exact rfl))
    | (show SQ _ _ _ _ _ _ _ _; (first | (apply q_callU; exact rfl; exact rfl; exact rfl; exact FzL.of rfl; exact hL1 _) | (apply q_callU; exact rfl; exact rfl; exact rfl; exact FzL.of rfl; exact hL2 _) | (apply q_callU; exact rfl; exact rfl; exact rfl; exact FzL.of rfl; exact hB _) | (apply q_callU; exact rfl; exact rfl; exact rfl; exact FzL.of rfl; exact hV _) | (apply q_callU; exact rfl; exact rfl; exact rfl; rotate_left; exact hOv _; rotate_right; focus ((repeat' (first | exact FzL.nil | exact (by assumption : FzC _) _ | refine FzL.cons ?_ ?_ | exact Fz.of rfl | exact Fz.nil | exact Fz.emp | (apply Fz.fnC; assumption) | (apply Fz.sl2; exact rfl; exact (by first | omega | (simp; done) | (simp; omega)); first | exact rfl | exact dt_full (by first | omega | (simp; done) | (simp; omega)) | assumption) | apply Fz.agg | (apply Fz.ptrL; exact rfl; first | exact rfl | assumption) | apply Fz.fnL)); done)) | (apply q_callC; exact rfl; exact rfl; exact rfl; exact hD1 _; (focus ((repeat (first | exact trivial | refine ⟨by first | exact rfl | assumption, ?_⟩)); done)); skip) | (apply q_callC; exact rfl; exact rfl; exact rfl; exact hD2 _; (focus ((repeat (first | exact trivial | refine ⟨by first | exact rfl | assumption, ?_⟩)); done)); skip) | (apply q_callC; exact rfl; exact rfl; exact rfl; exact hF _; (focus ((repeat (first | exact trivial | refine ⟨by first | exact rfl | assumption, ?_⟩)); done)); skip) | (apply q_callC; exact rfl; exact rfl; exact rfl; exact hO _; (focus ((repeat (first | exact trivial | refine ⟨by first | exact rfl | assumption, ?_⟩)); done)); skip)); (try simp only [put, rowsOf, plR, List.all_cons, selE, ovr, setH, del, cellsA, splice, isV, List.nil_append, List.cons_append, List.map_cons, List.map_nil, List.length_cons, List.length_nil, List.set_cons_zero, List.set_cons_succ, List.take_succ_cons, List.take_zero, List.take_nil, List.drop_succ_cons, List.drop_zero, List.drop_nil, List.append_nil, List.all_cons, List.all_nil, Bool.and_true, Bool.true_and, Bool.and_false, Bool.false_and, Nat.reduceAdd, Nat.zero_add, Nat.add_zero, Nat.reduceEqDiff, if_true, if_false, reduceIte]))
    | (show AW _ _ _ _ _ _ _ _; first | refine aw_region ?_ | (refine aw_seqk ?_; intro K hK) | refine aw_block ?_ | (apply aw_cond_f; exact rfl; exact rfl) | (apply aw_cond_f; exact rfl; exact (by assumption)) | refine aw_skip ?_)
    | refine thn_n ?_
    | (refine hK _ _ _ ?_; clear hK K))); all_goals (repeat (clear hK K)))
      refine aw_loop (ρ := sh 3) (ι := Nat) (fun i => ([(17, .v (.int .i64 i)), (16, .v (.int .i64 (us (od.take i) - 1))), (14, .sl 1 0 l2.length), (12, .v (.int .i64 m)), (11, .sl 0 0 l2.length), (9, .dsl 1 (nbL l2))],
          [(0, ⟨2, 1, true, bs.map inL⟩), (1, ⟨2, 1, true, od.map inL⟩)], 2))
        (fun i => i ≤ l2.length) (fun i => l2.length - i) 0 (Nat.zero_le _) ⟨by (repeat (refine ⟨by first | exact lk_i rfl rfl | exact lk_d rfl rfl | exact lk_s rfl rfl rfl rfl, ?_⟩)); exact trivial, by (repeat (refine ⟨by first | exact ⟨rfl, rfl, rfl⟩, ?_⟩)); exact trivial, by rfl, by exact pin_0⟩ ?_
      intro i hi
      by_cases c2 : i < l2.length
      · have b1 : decide ((i : Int) < (l2.length : Int)) = true := by simpa using c2
        have hio : i < od.length := by omega
        have hrow : (od.map inL)[0 + ((i : Int)).toNat]? = some (inL od[i]) := by simp [hio]
        rw [inL_eq] at hrow
        have hw : IntKind.i64.wrap ((i : Int) + 1) = ((i + 1 : Nat) : Int) := by rw [IntWalk.i64_in _ (by omega)]; omega
        have ut := us_take hio
        have um := umon i
        have ur := hrg _ (List.getElem_mem hio)
        by_cases c3 : us (od.take i) - 1 < od[i]
        · have b3 : decide (us (od.take i) - 1 < od[i]) = true := by simpa using c3
          have e3 : us (od.take (i + 1)) - 1 = od[i] := by omega
          ((repeat' (first
    | (show SQ _ _ _ _ _ _ _ _; first | apply sq_nil | (apply q_move; exact rfl; exact rfl) | (apply q_assign; exact rfl; exact rfl) | (apply q_lenl; exact rfl; exact rfl; exact (ty rfl); exact rfl) | (apply q_add; exact rfl; exact rfl; exact rfl) | (apply q_lss; exact rfl; exact rfl; exact rfl) | (apply q_gtr; exact rfl; exact rfl; exact rfl) | (apply q_ixl; exact rfl; exact rfl; exact rfl; exact (ty rfl); exact rfl; exact rfl; exact rfl; exact (by first | omega | (simp; done) | (simp; omega)); exact (by first | omega | (simp; done) | (simp; omega))) | (apply q_ld1p; exact rfl; exact rfl; exact (ty rfl); exact rfl; exact rfl; exact (by first | rfl | assumption | ((try simp only [Nat.zero_add]); refine List.getElem?_set_self ?_; (try simp only [List.length_set]); assumption)); exact rfl))
    | (show AW _ _ _ _ _ _ _ _; first | refine aw_region ?_ | (refine aw_seqk ?_; intro K hK) | refine aw_block ?_ | (apply aw_cond_t; exact rfl; exact (by assumption)) | refine aw_skip ?_)
    | refine thn_n ?_
    | (refine hK _ _ _ ?_; clear hK K)
    | refine inb_n ?_)); all_goals (repeat (clear hK K)))
          all_goals (refine ⟨i + 1, id, c2, by omega, ?_⟩; (try dsimp only); rw [e3, ← hw]; exact ⟨by (repeat (refine ⟨by first | exact lk_i rfl rfl | exact lk_d rfl rfl | exact lk_s rfl rfl rfl rfl, ?_⟩)); exact trivial, by (repeat (refine ⟨by first | exact ⟨rfl, rfl, rfl⟩, ?_⟩)); exact trivial, by rfl, by exact pin_0⟩)
        · have b3 : decide (us (od.take i) - 1 < od[i]) = false := by simpa using c3
          have e3 : us (od.take (i + 1)) = us (od.take i) := by omega
          ((repeat' (first
    | (show SQ _ _ _ _ _ _ _ _; first | apply sq_nil | (apply q_move; exact rfl; exact rfl) | (apply q_assign; exact rfl; exact rfl) | (apply q_lenl; exact rfl; exact rfl; exact (ty rfl); exact rfl) | (apply q_add; exact rfl; exact rfl; exact rfl) | (apply q_lss; exact rfl; exact rfl; exact rfl) | (apply q_gtr; exact rfl; exact rfl; exact rfl) | (apply q_ixl; exact rfl; exact rfl; exact rfl; exact (ty rfl); exact rfl; exact rfl; exact rfl; exact (by first | omega | (simp; done) | (simp; omega)); exact (by first | omega | (simp; done) | (simp; omega))) | (apply q_ld1p; exact rfl; exact rfl; exact (ty rfl); exact rfl; exact rfl; exact (by first | rfl | assumption | ((try simp only [Nat.zero_add]); refine List.getElem?_set_self ?_; (try simp only [List.length_set]); assumption)); exact rfl))
    | (show AW _ _ _ _ _ _ _ _; first | refine aw_region ?_ | (refine aw_seqk ?_; intro K hK) | refine aw_block ?_ | (apply aw_cond_t; exact rfl; exact (by assumption)) | (apply aw_cond_f; exact rfl; exact (by assumption)) | refine aw_skip ?_)
    | refine thn_n ?_
    | (refine hK _ _ _ ?_; clear hK K)
    | refine inb_n ?_)); all_goals (repeat (clear hK K)))
          all_goals (refine ⟨i + 1, id, c2, by omega, ?_⟩; (try dsimp only); rw [e3, ← hw]; exact ⟨by (repeat (refine ⟨by first | exact lk_i rfl rfl | exact lk_d rfl rfl | exact lk_s rfl rfl rfl rfl, ?_⟩)); exact trivial, by (repeat (refine ⟨by first | exact ⟨rfl, rfl, rfl⟩, ?_⟩)); exact trivial, by rfl, by exact pin_0⟩)
      · have b1 : decide ((i : Int) < (l2.length : Int)) = false := by simpa using c2
        rw [List.take_of_length_le (by omega)]
        have hw : IntKind.i64.wrap (us od - 1 + 1) = us od := by rw [IntWalk.i64_in _ (by omega)]; omega
        have b4 : decide ((m : Int) ≤ IntKind.i64.wrap (us od - 1 + 1)) = true := by rw [hw]; simpa using hmu
        ((repeat' (first
    | (show SQ _ _ _ _ _ _ _ _; first | apply sq_nil | (apply q_move; exact rfl; exact rfl) | (apply q_assign; exact rfl; exact rfl) | (apply q_pick_t; exact rfl; exact rfl; exact rfl; exact (by first | assumption | exact rfl)) | (apply q_lenl; exact rfl; exact rfl; exact (ty rfl); exact rfl) | (apply q_add; exact rfl; exact rfl; exact rfl) | (apply q_lss; exact rfl; exact rfl; exact rfl) | (apply q_leq; exact rfl; exact rfl; exact rfl) | (apply q_g; exact rfl; exact rfl; exact rfl; exact (by assumption)))
    | (show SQ _ _ _ _ _ _ _ _; (first | (apply q_callU; exact rfl; exact rfl; exact rfl; rotate_left; exact hFv _; rotate_right; focus ((repeat' (first | exact FzL.nil | exact (by assumption : FzC _) _ | refine FzL.cons ?_ ?_ | exact Fz.of rfl | exact Fz.nil | exact Fz.emp | (apply Fz.fnC; assumption) | (apply Fz.sl2; exact rfl; exact (by first | omega | (simp; done) | (simp; omega)); first | exact rfl | exact dt_full (by first | omega | (simp; done) | (simp; omega)) | assumption) | apply Fz.agg | (apply Fz.ptrL; exact rfl; first | exact rfl | assumption) | apply Fz.fnL)); done))); (try simp only [put, rowsOf, plR, List.all_cons, selE, ovr, setH, del, cellsA, splice, isV, List.nil_append, List.cons_append, List.map_cons, List.map_nil, List.length_cons, List.length_nil, List.set_cons_zero, List.set_cons_succ, List.take_succ_cons, List.take_zero, List.take_nil, List.drop_succ_cons, List.drop_zero, List.drop_nil, List.append_nil, List.all_cons, List.all_nil, Bool.and_true, Bool.true_and, Bool.and_false, Bool.false_and, Nat.reduceAdd, Nat.zero_add, Nat.add_zero, Nat.reduceEqDiff, if_true, if_false, reduceIte]))
    | (show AW _ _ _ _ _ _ _ _; first | refine aw_region ?_ | (refine aw_seqk ?_; intro K hK) | (apply aw_cond_f; exact rfl; exact (by assumption)) | refine aw_ret ?_ | refine aw_exit ?_)
    | refine thn_n ?_
    | (refine hK _ _ _ ?_; clear hK K)
    | refine thn_e ?_
    | refine inb_same ?_
    | (clear hK K; refine hK _ _ _ ?_; clear hK K))); all_goals (repeat (clear hK K)))
        all_goals exact fin_r (fin_b rfl b4)
  · have d0 : ((((ps.length : Nat) : Int) == 0) != (((ps.length : Nat) : Int) == 0)) = false := by simp
    rcases rest with ⟨hb, hF, hA⟩ | ⟨hb, hN, ⟨w, hw, hF⟩ | ⟨m, bs, hbl, hmu, hF, hFv⟩⟩
    · have d1 : (!nbB l2) = true := by rw [hb]; rfl
      ((repeat' (first
    | (show SQ _ _ _ _ _ _ _ _; apply sq_frz (t := 27); exact rfl; exact rfl; exact (by first | rfl | exact all_noOwn_map (fun _ => rfl) | assumption | exact hclo); exact (by first | omega | (simp; done) | (simp; omega)); exact (by first | exact dt_full (by first | omega | (simp; done) | (simp; omega)) | assumption | rfl); (try simp only [put, rowsOf, plR, List.all_cons, selE, ovr, setH, del, cellsA, splice, isV, List.nil_append, List.cons_append, List.map_cons, List.map_nil, List.length_cons, List.length_nil, List.set_cons_zero, List.set_cons_succ, List.take_succ_cons, List.take_zero, List.take_nil, List.drop_succ_cons, List.drop_zero, List.drop_nil, List.append_nil, List.all_cons, List.all_nil, Bool.and_true, Bool.true_and, Bool.and_false, Bool.false_and, Nat.reduceAdd, Nat.zero_add, Nat.add_zero, Nat.reduceEqDiff, if_true, if_false, reduceIte]))
    | (show SQ _ _ _ _ _ _ _ _; apply sq_frz (t := 28); exact rfl; exact rfl; exact (by first | rfl | exact all_noOwn_map (fun _ => rfl) | assumption | exact hclo); exact (by first | omega | (simp; done) | (simp; omega)); exact (by first | exact dt_full (by first | omega | (simp; done) | (simp; omega)) | assumption | rfl); (try simp only [put, rowsOf, plR, List.all_cons, selE, ovr, setH, del, cellsA, splice, isV, List.nil_append, List.cons_append, List.map_cons, List.map_nil, List.length_cons, List.length_nil, List.set_cons_zero, List.set_cons_succ, List.take_succ_cons, List.take_zero, List.take_nil, List.drop_succ_cons, List.drop_zero, List.drop_nil, List.append_nil, List.all_cons, List.all_nil, Bool.and_true, Bool.true_and, Bool.and_false, Bool.false_and, Nat.reduceAdd, Nat.zero_add, Nat.add_zero, Nat.reduceEqDiff, if_true, if_false, reduceIte]))
    | (show SQ _ _ _ _ _ _ _ _; apply sq_frz (t := 49); exact rfl; exact rfl; exact (by first | rfl | exact all_noOwn_map (fun _ => rfl) | assumption | exact hclo); exact (by first | omega | (simp; done) | (simp; omega)); exact (by first | exact dt_full (by first | omega | (simp; done) | (simp; omega)) | assumption | rfl); (try simp only [put, rowsOf, plR, List.all_cons, selE, ovr, setH, del, cellsA, splice, isV, List.nil_append, List.cons_append, List.map_cons, List.map_nil, List.length_cons, List.length_nil, List.set_cons_zero, List.set_cons_succ, List.take_succ_cons, List.take_zero, List.take_nil, List.drop_succ_cons, List.drop_zero, List.drop_nil, List.append_nil, List.all_cons, List.all_nil, Bool.and_true, Bool.true_and, Bool.and_false, Bool.false_and, Nat.reduceAdd, Nat.zero_add, Nat.add_zero, Nat.reduceEqDiff, if_true, if_false, reduceIte]))
    | (show SQ _ _ _ _ _ _ _ _; first | apply sq_nil | (apply q_move; exact rfl; exact rfl) | (apply q_assign; exact rfl; exact rfl) | (apply q_pick_t; exact rfl; exact rfl; exact rfl; exact (by first | assumption | exact rfl)) | (apply q_pick_f; exact rfl; exact rfl; exact rfl; exact (by first | assumption | exact rfl)) | (apply q_not; exact rfl; exact rfl) | (apply q_ext; exact rfl; exact rfl; exact rfl) | (apply q_lenl; exact rfl; exact rfl; exact (ty rfl); exact rfl) | (apply q_eql; exact rfl; exact rfl; exact rfl) | (apply q_bneq; exact rfl; exact rfl; exact rfl; exact (ty rfl); exact rfl) | (apply q_g; exact rfl; exact rfl; exact rfl; exact (by assumption)))
    | (show SQ _ _ _ _ _ _ _ _; (first | (apply q_callU; exact rfl; exact rfl; exact rfl; exact FzL.of rfl; exact hL1 _) | (apply q_callU; exact rfl; exact rfl; exact rfl; exact FzL.of rfl; exact hL2 _) | (apply q_callU; exact rfl; exact rfl; exact rfl; exact FzL.of rfl; exact hVc _) | (apply q_callU; exact rfl; exact rfl; exact rfl; exact FzL.of rfl; exact hF _) | (apply q_callU; exact rfl; exact rfl; exact rfl; exact FzL.of rfl; exact hA _) | (apply q_callU; exact rfl; exact rfl; exact rfl; exact FzL.of rfl; exact hV _) | (apply q_callC; exact rfl; exact rfl; exact rfl; exact hD1 _; (focus ((repeat (first | exact trivial | refine ⟨by first | exact rfl | assumption, ?_⟩)); done)); skip) | (apply q_callC; exact rfl; exact rfl; exact rfl; exact hB _; (focus ((repeat (first | exact trivial | refine ⟨by first | exact rfl | assumption, ?_⟩)); done)); skip) | (apply q_callC; exact rfl; exact rfl; exact rfl; exact hD2 _; (focus ((repeat (first | exact trivial | refine ⟨by first | exact rfl | assumption, ?_⟩)); done)); skip)); (try simp only [put, rowsOf, plR, List.all_cons, selE, ovr, setH, del, cellsA, splice, isV, List.nil_append, List.cons_append, List.map_cons, List.map_nil, List.length_cons, List.length_nil, List.set_cons_zero, List.set_cons_succ, List.take_succ_cons, List.take_zero, List.take_nil, List.drop_succ_cons, List.drop_zero, List.drop_nil, List.append_nil, List.all_cons, List.all_nil, Bool.and_true, Bool.true_and, Bool.and_false, Bool.false_and, Nat.reduceAdd, Nat.zero_add, Nat.add_zero, Nat.reduceEqDiff, if_true, if_false, reduceIte]))
    | (show AW _ _ _ _ _ _ _ _; first | refine aw_region ?_ | (refine aw_seqk ?_; intro K hK) | (apply aw_cond_f; exact rfl; exact rfl) | (apply aw_cond_t; exact rfl; exact (by assumption)) | (apply aw_cond_f; exact rfl; exact (by assumption)) | refine aw_ret ?_ | refine aw_skip ?_)
    | refine thn_n ?_
    | (refine hK _ _ _ ?_; clear hK K)
    | refine thn_r ?_)); all_goals (repeat (clear hK K)))
      all_goals exact fin_r (fin_b rfl rfl)
    · have d1 : (!nbB l2) = false := by rw [hb]; rfl
      have d2 : (w != 0) = true := by simpa using hw
      have hO := hO hb
      have hOv := hOv hb
      ((repeat' (first
    | (show SQ _ _ _ _ _ _ _ _; apply sq_frz (t := 27); exact rfl; exact rfl; exact (by first | rfl | exact all_noOwn_map (fun _ => rfl) | assumption | exact hclo); exact (by first | omega | (simp; done) | (simp; omega)); exact (by first | exact dt_full (by first | omega | (simp; done) | (simp; omega)) | assumption | rfl); (try simp only [put, rowsOf, plR, List.all_cons, selE, ovr, setH, del, cellsA, splice, isV, List.nil_append, List.cons_append, List.map_cons, List.map_nil, List.length_cons, List.length_nil, List.set_cons_zero, List.set_cons_succ, List.take_succ_cons, List.take_zero, List.take_nil, List.drop_succ_cons, List.drop_zero, List.drop_nil, List.append_nil, List.all_cons, List.all_nil, Bool.and_true, Bool.true_and, Bool.and_false, Bool.false_and, Nat.reduceAdd, Nat.zero_add, Nat.add_zero, Nat.reduceEqDiff, if_true, if_false, reduceIte]))
    | (show SQ _ _ _ _ _ _ _ _; apply sq_frz (t := 28); exact rfl; exact rfl; exact (by first | rfl | exact all_noOwn_map (fun _ => rfl) | assumption | exact hclo); exact (by first | omega | (simp; done) | (simp; omega)); exact (by first | exact dt_full (by first | omega | (simp; done) | (simp; omega)) | assumption | rfl); (try simp only [put, rowsOf, plR, List.all_cons, selE, ovr, setH, del, cellsA, splice, isV, List.nil_append, List.cons_append, List.map_cons, List.map_nil, List.length_cons, List.length_nil, List.set_cons_zero, List.set_cons_succ, List.take_succ_cons, List.take_zero, List.take_nil, List.drop_succ_cons, List.drop_zero, List.drop_nil, List.append_nil, List.all_cons, List.all_nil, Bool.and_true, Bool.true_and, Bool.and_false, Bool.false_and, Nat.reduceAdd, Nat.zero_add, Nat.add_zero, Nat.reduceEqDiff, if_true, if_false, reduceIte]))
    | (show SQ _ _ _ _ _ _ _ _; apply sq_frz (t := 49); exact rfl; exact rfl; exact (by first | rfl | exact all_noOwn_map (fun _ => rfl) | assumption | exact hclo); exact (by first | omega | (simp; done) | (simp; omega)); exact (by first | exact dt_full (by first | omega | (simp; done) | (simp; omega)) | assumption | rfl); (try simp only [put, rowsOf, plR, List.all_cons, selE, ovr, setH, del, cellsA, splice, isV, List.nil_append, List.cons_append, List.map_cons, List.map_nil, List.length_cons, List.length_nil, List.set_cons_zero, List.set_cons_succ, List.take_succ_cons, List.take_zero, List.take_nil, List.drop_succ_cons, List.drop_zero, List.drop_nil, List.append_nil, List.all_cons, List.all_nil, Bool.and_true, Bool.true_and, Bool.and_false, Bool.false_and, Nat.reduceAdd, Nat.zero_add, Nat.add_zero, Nat.reduceEqDiff, if_true, if_false, reduceIte]))
    | (show SQ _ _ _ _ _ _ _ _; first | apply sq_nil | (apply q_move; exact rfl; exact rfl) | (apply q_assign; exact rfl; exact rfl) | (apply q_pick_t; exact rfl; exact rfl; exact rfl; exact (by first | assumption | exact rfl)) | (apply q_pick_f; exact rfl; exact rfl; exact rfl; exact (by first | assumption | exact rfl)) | (apply q_not; exact rfl; exact rfl) | (apply q_ext; exact rfl; exact rfl; exact rfl) | (apply q_lenl; exact rfl; exact rfl; exact (ty rfl); exact rfl) | (apply q_lenn; exact rfl; exact rfl; exact (ty rfl); exact rfl) | (apply q_eql; exact rfl; exact rfl; exact rfl) | (apply q_neq; exact rfl; exact rfl; exact rfl) | (apply q_bneq; exact rfl; exact rfl; exact rfl; exact (ty rfl); exact rfl) | (apply q_g; exact rfl; exact rfl; exact rfl; exact (by assumption)))
    | (show SQ _ _ _ _ _ _ _ _; (first | (apply q_callU; exact rfl; exact rfl; exact rfl; exact FzL.of rfl; exact hL1 _) | (apply q_callU; exact rfl; exact rfl; exact rfl; exact FzL.of rfl; exact hL2 _) | (apply q_callU; exact rfl; exact rfl; exact rfl; exact FzL.of rfl; exact hVc _) | (apply q_callU; exact rfl; exact rfl; exact rfl; exact FzL.of rfl; exact hF _) | (apply q_callU; exact rfl; exact rfl; exact rfl; exact FzL.of rfl; exact hV _) | (apply q_callU; exact rfl; exact rfl; exact rfl; rotate_left; exact hOv _; rotate_right; focus ((repeat' (first | exact FzL.nil | exact (by assumption : FzC _) _ | refine FzL.cons ?_ ?_ | exact Fz.of rfl | exact Fz.nil | exact Fz.emp | (apply Fz.fnC; assumption) | (apply Fz.sl2; exact rfl; exact (by first | omega | (simp; done) | (simp; omega)); first | exact rfl | exact dt_full (by first | omega | (simp; done) | (simp; omega)) | assumption) | apply Fz.agg | (apply Fz.ptrL; exact rfl; first | exact rfl | assumption) | apply Fz.fnL)); done)) | (apply q_callC; exact rfl; exact rfl; exact rfl; exact hD1 _; (focus ((repeat (first | exact trivial | refine ⟨by first | exact rfl | assumption, ?_⟩)); done)); skip) | (apply q_callC; exact rfl; exact rfl; exact rfl; exact hB _; (focus ((repeat (first | exact trivial | refine ⟨by first | exact rfl | assumption, ?_⟩)); done)); skip) | (apply q_callC; exact rfl; exact rfl; exact rfl; exact hD2 _; (focus ((repeat (first | exact trivial | refine ⟨by first | exact rfl | assumption, ?_⟩)); done)); skip) | (apply q_callC; exact rfl; exact rfl; exact rfl; exact hO _; (focus ((repeat (first | exact trivial | refine ⟨by first | exact rfl | assumption, ?_⟩)); done)); skip)); (try simp only [put, rowsOf, plR, List.all_cons, selE, ovr, setH, del, cellsA, splice, isV, List.nil_append, List.cons_append, List.map_cons, List.map_nil, List.length_cons, List.length_nil, List.set_cons_zero, List.set_cons_succ, List.take_succ_cons, List.take_zero, List.take_nil, List.drop_succ_cons, List.drop_zero, List.drop_nil, List.append_nil, List.all_cons, List.all_nil, Bool.and_true, Bool.true_and, Bool.and_false, Bool.false_and, Nat.reduceAdd, Nat.zero_add, Nat.add_zero, Nat.reduceEqDiff, if_true, if_false, reduceIte]))
    | (show AW _ _ _ _ _ _ _ _; first | refine aw_region ?_ | (refine aw_seqk ?_; intro K hK) | (apply aw_cond_f; exact rfl; exact rfl) | (apply aw_cond_t; exact rfl; exact (by assumption)) | (apply aw_cond_f; exact rfl; exact (by assumption)) | refine aw_ret ?_ | refine aw_skip ?_)
    | refine thn_n ?_
    | (refine hK _ _ _ ?_; clear hK K)
    | refine thn_r ?_)); all_goals (repeat (clear hK K)))
      all_goals exact fin_r (fin_b rfl rfl)
    · have d1 : (!nbB l2) = false := by rw [hb]; rfl
      have hO := hO hb
      have hOv := hOv hb
      have hrg := hrg hb
      have huu := huu hb
      have hbm : (bs.map inL).length = l2.length := by rw [List.length_map, hbl]
      have hom : (od.map inL).length = l2.length := by rw [List.length_map, hal]
      have hdtb : ((bs.map inL).drop 0).take l2.length = bs.map inL := by rw [List.drop_zero, List.take_of_length_le (by omega)]
      have hdto : ((od.map inL).drop 0).take l2.length = od.map inL := by rw [List.drop_zero, List.take_of_length_le (by omega)]
      ((repeat' (first
    | (show SQ _ _ _ _ _ _ _ _; apply sq_frz (t := 27); exact rfl; exact rfl; exact (by first | rfl | exact all_noOwn_map (fun _ => rfl) | assumption | exact hclo); exact (by first | omega | (simp; done) | (simp; omega)); exact (by first | exact dt_full (by first | omega | (simp; done) | (simp; omega)) | assumption | rfl); (try simp only [put, rowsOf, plR, List.all_cons, selE, ovr, setH, del, cellsA, splice, isV, List.nil_append, List.cons_append, List.map_cons, List.map_nil, List.length_cons, List.length_nil, List.set_cons_zero, List.set_cons_succ, List.take_succ_cons, List.take_zero, List.take_nil, List.drop_succ_cons, List.drop_zero, List.drop_nil, List.append_nil, List.all_cons, List.all_nil, Bool.and_true, Bool.true_and, Bool.and_false, Bool.false_and, Nat.reduceAdd, Nat.zero_add, Nat.add_zero, Nat.reduceEqDiff, if_true, if_false, reduceIte]))
    | (show SQ _ _ _ _ _ _ _ _; apply sq_frz (t := 28); exact rfl; exact rfl; exact (by first | rfl | exact all_noOwn_map (fun _ => rfl) | assumption | exact hclo); exact (by first | omega | (simp; done) | (simp; omega)); exact (by first | exact dt_full (by first | omega | (simp; done) | (simp; omega)) | assumption | rfl); (try simp only [put, rowsOf, plR, List.all_cons, selE, ovr, setH, del, cellsA, splice, isV, List.nil_append, List.cons_append, List.map_cons, List.map_nil, List.length_cons, List.length_nil, List.set_cons_zero, List.set_cons_succ, List.take_succ_cons, List.take_zero, List.take_nil, List.drop_succ_cons, List.drop_zero, List.drop_nil, List.append_nil, List.all_cons, List.all_nil, Bool.and_true, Bool.true_and, Bool.and_false, Bool.false_and, Nat.reduceAdd, Nat.zero_add, Nat.add_zero, Nat.reduceEqDiff, if_true, if_false, reduceIte]))
    | (show SQ _ _ _ _ _ _ _ _; apply sq_frz (t := 49); exact rfl; exact rfl; exact (by first | rfl | exact all_noOwn_map (fun _ => rfl) | assumption | exact hclo); exact (by first | omega | (simp; done) | (simp; omega)); exact (by first | exact dt_full (by first | omega | (simp; done) | (simp; omega)) | assumption | rfl); (try simp only [put, rowsOf, plR, List.all_cons, selE, ovr, setH, del, cellsA, splice, isV, List.nil_append, List.cons_append, List.map_cons, List.map_nil, List.length_cons, List.length_nil, List.set_cons_zero, List.set_cons_succ, List.take_succ_cons, List.take_zero, List.take_nil, List.drop_succ_cons, List.drop_zero, List.drop_nil, List.append_nil, List.all_cons, List.all_nil, Bool.and_true, Bool.true_and, Bool.and_false, Bool.false_and, Nat.reduceAdd, Nat.zero_add, Nat.add_zero, Nat.reduceEqDiff, if_true, if_false, reduceIte]))
    | (show SQ _ _ _ _ _ _ _ _; first | apply sq_nil | (apply q_move; exact rfl; exact rfl) | (apply q_assign; exact rfl; exact rfl) | (apply q_pick_t; exact rfl; exact rfl; exact rfl; exact (by first | assumption | exact rfl)) | (apply q_pick_f; exact rfl; exact rfl; exact rfl; exact (by first | assumption | exact rfl)) | (apply q_not; exact rfl; exact rfl) | (apply q_ext; exact rfl; exact rfl; exact rfl) | (apply q_lenl; exact rfl; exact rfl; exact (ty rfl); exact rfl) | (apply q_eql; exact rfl; exact rfl; exact rfl) | (apply q_neq; exact rfl; exact rfl; exact rfl) | (apply q_bneq; exact rfl; exact rfl; exact rfl; exact (ty rfl); exact rfl) | (apply q_g; exact rfl; exact rfl; exact rfl; exact (by assumption)))
    | (show SQ _ _ _ _ _ _ _ _; (first | (apply q_callU; exact rfl; exact rfl; exact rfl; exact FzL.of rfl; exact hL1 _) | (apply q_callU; exact rfl; exact rfl; exact rfl; exact FzL.of rfl; exact hL2 _) | (apply q_callU; exact rfl; exact rfl; exact rfl; exact FzL.of rfl; exact hVc _) | (apply q_callU; exact rfl; exact rfl; exact rfl; exact FzL.of rfl; exact hV _) | (apply q_callU; exact rfl; exact rfl; exact rfl; rotate_left; exact hOv _; rotate_right; focus ((repeat' (first | exact FzL.nil | exact (by assumption : FzC _) _ | refine FzL.cons ?_ ?_ | exact Fz.of rfl | exact Fz.nil | exact Fz.emp | (apply Fz.fnC; assumption) | (apply Fz.sl2; exact rfl; exact (by first | omega | (simp; done) | (simp; omega)); first | exact rfl | exact dt_full (by first | omega | (simp; done) | (simp; omega)) | assumption) | apply Fz.agg | (apply Fz.ptrL; exact rfl; first | exact rfl | assumption) | apply Fz.fnL)); done)) | (apply q_callC; exact rfl; exact rfl; exact rfl; exact hD1 _; (focus ((repeat (first | exact trivial | refine ⟨by first | exact rfl | assumption, ?_⟩)); done)); skip) | (apply q_callC; exact rfl; exact rfl; exact rfl; exact hB _; (focus ((repeat (first | exact trivial | refine ⟨by first | exact rfl | assumption, ?_⟩)); done)); skip) | (apply q_callC; exact rfl; exact rfl; exact rfl; exact hD2 _; (focus ((repeat (first | exact trivial | refine ⟨by first | exact rfl | assumption, ?_⟩)); done)); skip) | (apply q_callC; exact rfl; exact rfl; exact rfl; exact hF _; (focus ((repeat (first | exact trivial | refine ⟨by first | exact rfl | assumption, ?_⟩)); done)); skip) | (apply q_callC; exact rfl; exact rfl; exact rfl; exact hO _; (focus ((repeat (first | exact trivial | refine ⟨by first | exact rfl | assumption, ?_⟩)); done)); skip)); (try simp only [put, rowsOf, plR, List.all_cons, selE, ovr, setH, del, cellsA, splice, isV, List.nil_append, List.cons_append, List.map_cons, List.map_nil, List.length_cons, List.length_nil, List.set_cons_zero, List.set_cons_succ, List.take_succ_cons, List.take_zero, List.take_nil, List.drop_succ_cons, List.drop_zero, List.drop_nil, List.append_nil, List.all_cons, List.all_nil, Bool.and_true, Bool.true_and, Bool.and_false, Bool.false_and, Nat.reduceAdd, Nat.zero_add, Nat.add_zero, Nat.reduceEqDiff, if_true, if_false, reduceIte]))
    | (show AW _ _ _ _ _ _ _ _; first | refine aw_region ?_ | (refine aw_seqk ?_; intro K hK) | refine aw_block ?_ | (apply aw_cond_f; exact rfl; exact rfl) | (apply aw_cond_f; exact rfl; exact (by assumption)) | refine aw_skip ?_)
    | refine thn_n ?_
    | (refine hK _ _ _ ?_; clear hK K))); all_goals (repeat (clear hK K)))
      refine aw_loop (ρ := sh 4) (ι := Nat) (fun i => ([(17, .v (.int .i64 i)), (16, .v (.int .i64 (us (od.take i) - 1))), (14, .sl 1 0 l2.length), (12, .v (.int .i64 m)), (11, .sl 0 0 l2.length), (9, .dsl 1 (nbL l2))],
          [(0, ⟨2, 1, true, bs.map inL⟩), (1, ⟨2, 1, true, od.map inL⟩)], 2))
        (fun i => i ≤ l2.length) (fun i => l2.length - i) 0 (Nat.zero_le _) ⟨by (repeat (refine ⟨by first | exact lk_i rfl rfl | exact lk_d rfl rfl | exact lk_s rfl rfl rfl rfl, ?_⟩)); exact trivial, by (repeat (refine ⟨by first | exact ⟨rfl, rfl, rfl⟩, ?_⟩)); exact trivial, by rfl, by exact pin_0⟩ ?_
      intro i hi
      by_cases c2 : i < l2.length
      · have b1 : decide ((i : Int) < (l2.length : Int)) = true := by simpa using c2
        have hio : i < od.length := by omega
        have hrow : (od.map inL)[0 + ((i : Int)).toNat]? = some (inL od[i]) := by simp [hio]
        rw [inL_eq] at hrow
        have hw : IntKind.i64.wrap ((i : Int) + 1) = ((i + 1 : Nat) : Int) := by rw [IntWalk.i64_in _ (by omega)]; omega
        have ut := us_take hio
        have um := umon i
        have ur := hrg _ (List.getElem_mem hio)
        by_cases c3 : us (od.take i) - 1 < od[i]
        · have b3 : decide (us (od.take i) - 1 < od[i]) = true := by simpa using c3
          have e3 : us (od.take (i + 1)) - 1 = od[i] := by omega
          ((repeat' (first
    | (show SQ _ _ _ _ _ _ _ _; first | apply sq_nil | (apply q_move; exact rfl; exact rfl) | (apply q_assign; exact rfl; exact rfl) | (apply q_lenl; exact rfl; exact rfl; exact (ty rfl); exact rfl) | (apply q_add; exact rfl; exact rfl; exact rfl) | (apply q_lss; exact rfl; exact rfl; exact rfl) | (apply q_gtr; exact rfl; exact rfl; exact rfl) | (apply q_ixl; exact rfl; exact rfl; exact rfl; exact (ty rfl); exact rfl; exact rfl; exact rfl; exact (by first | omega | (simp; done) | (simp; omega)); exact (by first | omega | (simp; done) | (simp; omega))) | (apply q_ld1p; exact rfl; exact rfl; exact (ty rfl); exact rfl; exact rfl; exact (by first | rfl | assumption | ((try simp only [Nat.zero_add]); refine List.getElem?_set_self ?_; (try simp only [List.length_set]); assumption)); exact rfl))
    | (show AW _ _ _ _ _ _ _ _; first | refine aw_region ?_ | (refine aw_seqk ?_; intro K hK) | refine aw_block ?_ | (apply aw_cond_t; exact rfl; exact (by assumption)) | refine aw_skip ?_)
    | refine thn_n ?_
    | (refine hK _ _ _ ?_; clear hK K)
    | refine inb_n ?_)); all_goals (repeat (clear hK K)))
          all_goals (refine ⟨i + 1, id, c2, by omega, ?_⟩; (try dsimp only); rw [e3, ← hw]; exact ⟨by (repeat (refine ⟨by first | exact lk_i rfl rfl | exact lk_d rfl rfl | exact lk_s rfl rfl rfl rfl, ?_⟩)); exact trivial, by (repeat (refine ⟨by first | exact ⟨rfl, rfl, rfl⟩, ?_⟩)); exact trivial, by rfl, by exact pin_0⟩)
        · have b3 : decide (us (od.take i) - 1 < od[i]) = false := by simpa using c3
          have e3 : us (od.take (i + 1)) = us (od.take i) := by omega
          ((repeat' (first
    | (show SQ _ _ _ _ _ _ _ _; first | apply sq_nil | (apply q_move; exact rfl; exact rfl) | (apply q_assign; exact rfl; exact rfl) | (apply q_lenl; exact rfl; exact rfl; exact (ty rfl); exact rfl) | (apply q_add; exact rfl; exact rfl; exact rfl) | (apply q_lss; exact rfl; exact rfl; exact rfl) | (apply q_gtr; exact rfl; exact rfl; exact rfl) | (apply q_ixl; exact rfl; exact rfl; exact rfl; exact (ty rfl); exact rfl; exact rfl; exact rfl; exact (by first | omega | (simp; done) | (simp; omega)); exact (by first | omega | (simp; done) | (simp; omega))) | (apply q_ld1p; exact rfl; exact rfl; exact (ty rfl); exact rfl; exact rfl; exact (by first | rfl | assumption | ((try simp only [Nat.zero_add]); refine List.getElem?_set_self ?_; (try simp only [List.length_set]); assumption)); exact rfl))
    | (show AW _ _ _ _ _ _ _ _; first | refine aw_region ?_ | (refine aw_seqk ?_; intro K hK) | refine aw_block ?_ | (apply aw_cond_t; exact rfl; exact (by assumption)) | (apply aw_cond_f; exact rfl; exact (by assumption)) | refine aw_skip ?_)
    | refine thn_n ?_
    | (refine hK _ _ _ ?_; clear hK K)
    | refine inb_n ?_)); all_goals (repeat (clear hK K)))
          all_goals (refine ⟨i + 1, id, c2, by omega, ?_⟩; (try dsimp only); rw [e3, ← hw]; exact ⟨by (repeat (refine ⟨by first | exact lk_i rfl rfl | exact lk_d rfl rfl | exact lk_s rfl rfl rfl rfl, ?_⟩)); exact trivial, by (repeat (refine ⟨by first | exact ⟨rfl, rfl, rfl⟩, ?_⟩)); exact trivial, by rfl, by exact pin_0⟩)
      · have b1 : decide ((i : Int) < (l2.length : Int)) = false := by simpa using c2
        rw [List.take_of_length_le (by omega)]
        have hw : IntKind.i64.wrap (us od - 1 + 1) = us od := by rw [IntWalk.i64_in _ (by omega)]; omega
        have b4 : decide ((m : Int) ≤ IntKind.i64.wrap (us od - 1 + 1)) = true := by rw [hw]; simpa using hmu
        ((repeat' (first
    | (show SQ _ _ _ _ _ _ _ _; first | apply sq_nil | (apply q_move; exact rfl; exact rfl) | (apply q_assign; exact rfl; exact rfl) | (apply q_pick_t; exact rfl; exact rfl; exact rfl; exact (by first | assumption | exact rfl)) | (apply q_lenl; exact rfl; exact rfl; exact (ty rfl); exact rfl) | (apply q_add; exact rfl; exact rfl; exact rfl) | (apply q_lss; exact rfl; exact rfl; exact rfl) | (apply q_leq; exact rfl; exact rfl; exact rfl) | (apply q_g; exact rfl; exact rfl; exact rfl; exact (by assumption)))
    | (show SQ _ _ _ _ _ _ _ _; (first | (apply q_callU; exact rfl; exact rfl; exact rfl; rotate_left; exact hFv _; rotate_right; focus ((repeat' (first | exact FzL.nil | exact (by assumption : FzC _) _ | refine FzL.cons ?_ ?_ | exact Fz.of rfl | exact Fz.nil | exact Fz.emp | (apply Fz.fnC; assumption) | (apply Fz.sl2; exact rfl; exact (by first | omega | (simp; done) | (simp; omega)); first | exact rfl | exact dt_full (by first | omega | (simp; done) | (simp; omega)) | assumption) | apply Fz.agg | (apply Fz.ptrL; exact rfl; first | exact rfl | assumption) | apply Fz.fnL)); done))); (try simp only [put, rowsOf, plR, List.all_cons, selE, ovr, setH, del, cellsA, splice, isV, List.nil_append, List.cons_append, List.map_cons, List.map_nil, List.length_cons, List.length_nil, List.set_cons_zero, List.set_cons_succ, List.take_succ_cons, List.take_zero, List.take_nil, List.drop_succ_cons, List.drop_zero, List.drop_nil, List.append_nil, List.all_cons, List.all_nil, Bool.and_true, Bool.true_and, Bool.and_false, Bool.false_and, Nat.reduceAdd, Nat.zero_add, Nat.add_zero, Nat.reduceEqDiff, if_true, if_false, reduceIte]))
    | (show AW _ _ _ _ _ _ _ _; first | refine aw_region ?_ | (refine aw_seqk ?_; intro K hK) | (apply aw_cond_f; exact rfl; exact (by assumption)) | refine aw_ret ?_ | refine aw_exit ?_)
    | refine thn_n ?_
    | (refine hK _ _ _ ?_; clear hK K)
    | refine thn_e ?_
    | refine inb_same ?_
    | (clear hK K; refine hK _ _ _ ?_; clear hK K))); all_goals (repeat (clear hK K)))
        all_goals exact fin_r (fin_b rfl b4)
theorem closeFnCodes (v v1 : Value) (w : World) (h : Fr.IsBytes w v) (h1 : Fr.IsBytes w v1) : Calls Try.prog 4 #[v, v1] w fun r w' => r = .returned (.bool true) ∧ Below w.heap.size w w' := by
  obtain ⟨xs, hv, hs, hn⟩ := h
  obtain ⟨ys, hv1, hs1, hn1⟩ := h1
  exact RO.calls (k := 0) (lawFnCodes_ro xs ys hs hs1 hn hn1 0) (K := fun k => k < w.heap.size) (fun _ h => h) (VRs.cons hv (VRs.cons hv1 VRs.nil))
end Go.Proofs.Yteknfaldpajlpaa.Nb
