/-
  Bands and channels of choices.
-/
import Derived.Test.YtmnklmaefoidbaaSq0
import Derived.Test.YtmnklmaefoidbaaBaA
namespace Go.Proofs.Ytmnklmaefoidbaa.Ba
open Go Go.RowKit Go.Proofs.Ytmnklmaefoidbaa.Aw Go.Proofs.Ytmnklmaefoidbaa.In Go.Proofs.Ytmnklmaefoidbaa.Sr
set_option linter.unusedSimpArgs false
set_option linter.unusedVariables false
attribute [local irreducible] AW SQ Step RO RC DE Thn InB

structure Pk (s : Sr) (n k x : Int) (s' : Sr) : Prop where
  lo : 0 ≤ x
  hi : x < n
  ok : s'.ok (k + 2)
  rc : ∀ j b, RC Try.prog 59 [.ptr b 0 0, .v (.int .i64 n)] [(b, ⟨73, 3, false, [srR s]⟩)] j (.v (.int .i64 x)) [(b, some ⟨73, 3, false, [srR s']⟩)] j
theorem pk_ex {s : Sr} {k : Int} (n : Int) (h : s.ok k) (hk : k ≤ 900000) (h1 : 1 ≤ n) (hn : n ≤ 1000000) : ∃ x s', Pk s n k x s' :=
  ⟨_, _, (pk_bd s n h1).1, (pk_bd s n h1).2, pk_ok n h, fun j b => pick_rc b s n (h.mono hk) hn j⟩
set_option maxHeartbeats 4000000 in
theorem one_rc (b : Nat) {s : Sr} {n k x : Int} {s' : Sr} (h : Pk s n k x s') (j : Nat) : RC Try.prog 57 [.ptr b 0 0, .v (.int .i64 n)] [(b, ⟨73, 3, false, [srR s]⟩)] j (.v (.bool (x == 0))) [(b, some ⟨73, 3, false, [srR s']⟩)] j := by
  refine RC.ofc [b] 0 [.ptr 0 0 0, .v (.int .i64 n)] [(0, ⟨73, 3, false, [srR s]⟩)] (.v (.bool (x == 0))) [(0, some ⟨73, 3, false, [srR s']⟩)] Try.func57 Try.ntmps57 rfl (goFn_of Try.func57 rfl (by kernel_rfl)) rfl rfl rfl rfl rfl rfl rfl rfl (by simp_all) rfl ?_
  ((repeat' (first
    | (show SQ _ _ _ _ _ _ _ _; first | apply sq_nil | (apply q_move; exact rfl; exact rfl) | (apply q_assign; exact rfl; exact rfl) | (apply q_eql; exact rfl; exact rfl; exact rfl) | (apply q_seql; exact rfl; exact rfl; exact rfl) | (apply q_beql; exact rfl; exact rfl; exact rfl; exact (ty rfl); exact rfl) | (apply q_eqa; exact rfl; exact rfl; exact rfl; kernel_rfl; assumption; exact rfl; exact rfl) | (apply q_nil_ev; exact rfl; exact rfl; exact rfl; exact (ty rfl); exact rfl) | (apply q_nil_el; exact rfl; exact rfl; exact rfl; exact (ty rfl); exact rfl; exact (by first | omega | (simp; done) | (simp; omega))) | (apply q_nil_ed; exact rfl; exact rfl; exact rfl; exact (ty rfl); exact rfl; exact (by first | omega | (simp; done) | (simp; omega))))
    | (show SQ _ _ _ _ _ _ _ _; (first | (apply q_callC; exact rfl; exact rfl; exact rfl; exact h.rc _ 0; (focus ((repeat (first | exact trivial | refine ⟨by first | exact rfl | assumption, ?_⟩)); done)); skip)); (try simp only [put, rowsOf, plR, List.all_cons, selE, ovr, setH, del, cellsA, splice, isV, List.nil_append, List.cons_append, List.map_cons, List.map_nil, List.length_cons, List.length_nil, List.set_cons_zero, List.set_cons_succ, List.take_succ_cons, List.take_zero, List.take_nil, List.drop_succ_cons, List.drop_zero, List.drop_nil, List.append_nil, List.all_cons, List.all_nil, Bool.and_true, Bool.true_and, Bool.and_false, Bool.false_and, Nat.reduceAdd, Nat.zero_add, Nat.add_zero, Nat.reduceEqDiff, if_true, if_false, reduceIte]))
    | (show AW _ _ _ _ _ _ _ _; first | refine aw_region ?_ | (refine aw_seqk ?_; intro K hK) | refine aw_block ?_ | (apply aw_cond_t; exact rfl; exact rfl) | (apply aw_cond_f; exact rfl; exact rfl) | (apply aw_cond_t; exact rfl; exact (by assumption)) | (apply aw_cond_f; exact rfl; exact (by assumption)) | refine aw_ret ?_ | refine aw_exit ?_ | refine aw_skip ?_ | (apply aw_ite; exact rfl; all_goals intro h))
    | refine thn_n ?_
    | (refine hK _ _ _ ?_; clear hK K)
    | refine thn_e ?_
    | refine thn_r ?_
    | refine inb_same ?_
    | refine inb_ne rfl ?_
    | refine inb_n ?_
    | refine inb_r ?_
    | (clear hK K; refine hK _ _ _ ?_; clear hK K)
    | (clear hK K; clear hK K; refine hK _ _ _ ?_; clear hK K)
    | (clear hK K; clear hK K; clear hK K; refine hK _ _ _ ?_; clear hK K))); all_goals (repeat (clear hK K)))
  exact finc (fun i => i) (.r1 _ _ (.tmp _ _ rfl)) rfl (fun _ _ => rfl) ⟨rfl, trivial⟩ rfl
def nuR (ws : List Int) : List (List AV) := ws.map fun w => [.v (.int .i64 w)]
structure Ak (s : Sr) (ws : List Int) (k x : Int) (s' : Sr) : Prop where
  mem : x ∈ ws
  ok : s'.ok (k + 2)
  rc : ∀ j b c, b ≠ c → RC Try.prog 58 [.ptr b 0 0, .sl c 0 ws.length] [(b, ⟨73, 3, false, [srR s]⟩), (c, ⟨2, 1, true, ws.map fun w => [.v (.int .i64 w)]⟩)] j (.v (.int .i64 x)) [(b, some ⟨73, 3, false, [srR s']⟩), (c, some ⟨2, 1, true, ws.map fun w => [.v (.int .i64 w)]⟩)] j
set_option maxHeartbeats 4000000 in
theorem among_rc (b c : Nat) (s : Sr) (ws : List Int) (hbc : b ≠ c) (h : s.ok 900000) (hw : 1 ≤ ws.length) (hw2 : ws.length ≤ 1000) (k : Nat) :
    RC Try.prog 58 [.ptr b 0 0, .sl c 0 ws.length] [(b, ⟨73, 3, false, [srR s]⟩), (c, ⟨2, 1, true, ws.map fun w => [.v (.int .i64 w)]⟩)] k (.v (.int .i64 (ws.getD (pk s ws.length).1.toNat 0))) [(b, some ⟨73, 3, false, [srR (pk s ws.length).2]⟩), (c, some ⟨2, 1, true, ws.map fun w => [.v (.int .i64 w)]⟩)] k := by
  have hp := pk_bd s ws.length (by omega)
  obtain ⟨i, hi⟩ : ∃ i : Nat, (pk s ws.length).1 = i := ⟨(pk s ws.length).1.toNat, by omega⟩
  have hil : i < ws.length := by omega
  have hr2 : (ws.map fun w => [AV.v (.int .i64 w)])[0 + ((i : Int)).toNat]? = some [.v (.int .i64 ws[i])] := by simp [hil]
  have hv : ws.getD (pk s ws.length).1.toNat 0 = ws[i] := by rw [hi]; simp [hil]
  rw [hv]
  refine RC.ofc [b, c] 0 [.ptr 0 0 0, .sl 1 0 ws.length] [(0, ⟨73, 3, false, [srR s]⟩), (1, ⟨2, 1, true, ws.map fun w => [.v (.int .i64 w)]⟩)] (.v (.int .i64 ws[i])) [(0, some ⟨73, 3, false, [srR (pk s ws.length).2]⟩), (1, some ⟨2, 1, true, ws.map fun w => [.v (.int .i64 w)]⟩)] Try.func58 Try.ntmps58 rfl (goFn_of Try.func58 rfl (by kernel_rfl)) rfl rfl rfl rfl rfl rfl rfl rfl (by simp_all) rfl ?_
  have hpk := pick_rc 0 s (ws.length : Int) h (by omega)
  rw [hi] at hpk
  ((repeat' (first
    | (show SQ _ _ _ _ _ _ _ _; first | apply sq_nil | (apply q_move; exact rfl; exact rfl) | (apply q_assign; exact rfl; exact rfl) | (apply q_lens; exact rfl; exact rfl; exact (ty rfl); exact rfl) | (apply q_lend; exact rfl; exact rfl; exact (ty rfl); exact rfl) | (apply q_lenl; exact rfl; exact rfl; exact (ty rfl); exact rfl) | (apply q_lenn; exact rfl; exact rfl; exact (ty rfl); exact rfl) | (apply q_ixd; exact rfl; exact rfl; exact rfl; exact (ty rfl); exact rfl; exact (by first | omega | (simp; done) | (simp; omega)); exact (by first | omega | (simp; done) | (simp; omega)); exact (by first | rfl | assumption)) | (apply q_ixa; exact rfl; exact rfl; exact rfl; exact (ty rfl); exact rfl; exact (by first | omega | (simp; done) | (simp; omega)); exact (by first | omega | (simp; done) | (simp; omega)); exact rfl) | (apply q_ixl; exact rfl; exact rfl; exact rfl; exact (ty rfl); exact rfl; exact rfl; exact rfl; exact (by first | omega | (simp; done) | (simp; omega)); exact (by first | omega | (simp; done) | (simp; omega))) | (apply q_ld1d; exact rfl; exact rfl; exact (ty rfl); exact rfl; exact rfl) | (apply q_ld1p; exact rfl; exact rfl; exact (ty rfl); exact rfl; exact rfl; exact (by first | rfl | assumption | ((try simp only [Nat.zero_add]); refine List.getElem?_set_self ?_; (try simp only [List.length_set]); assumption)); exact rfl) | (apply q_lenx; exact rfl; exact rfl; exact (ty rfl); exact rfl))
    | (show SQ _ _ _ _ _ _ _ _; (first | (apply q_ldad; exact rfl; exact rfl; exact (ty rfl); exact rfl; exact rfl) | (apply q_ldap; exact rfl; exact rfl; exact (ty rfl); exact rfl; exact rfl; exact (by first | rfl | assumption | ((try simp only [Nat.zero_add]); refine List.getElem?_set_self ?_; (try simp only [List.length_set]); assumption)); exact rfl) | (apply q_callC; exact rfl; exact rfl; exact rfl; exact hpk _; (focus ((repeat (first | exact trivial | refine ⟨by first | exact rfl | assumption, ?_⟩)); done)); skip)); (try simp only [put, rowsOf, plR, List.all_cons, selE, ovr, setH, del, cellsA, splice, isV, List.nil_append, List.cons_append, List.map_cons, List.map_nil, List.length_cons, List.length_nil, List.set_cons_zero, List.set_cons_succ, List.take_succ_cons, List.take_zero, List.take_nil, List.drop_succ_cons, List.drop_zero, List.drop_nil, List.append_nil, List.all_cons, List.all_nil, Bool.and_true, Bool.true_and, Bool.and_false, Bool.false_and, Nat.reduceAdd, Nat.zero_add, Nat.add_zero, Nat.reduceEqDiff, if_true, if_false, reduceIte]))
    | (show AW _ _ _ _ _ _ _ _; first | refine aw_region ?_ | (refine aw_seqk ?_; intro K hK) | refine aw_block ?_ | (apply aw_cond_t; exact rfl; exact rfl) | (apply aw_cond_f; exact rfl; exact rfl) | (apply aw_cond_t; exact rfl; exact (by assumption)) | (apply aw_cond_f; exact rfl; exact (by assumption)) | refine aw_ret ?_ | refine aw_exit ?_ | refine aw_skip ?_ | (apply aw_ite; exact rfl; all_goals intro h))
    | refine thn_n ?_
    | (refine hK _ _ _ ?_; clear hK K)
    | refine thn_e ?_
    | refine thn_r ?_
    | refine inb_same ?_
    | refine inb_ne rfl ?_
    | refine inb_n ?_
    | refine inb_r ?_
    | (clear hK K; refine hK _ _ _ ?_; clear hK K)
    | (clear hK K; clear hK K; refine hK _ _ _ ?_; clear hK K)
    | (clear hK K; clear hK K; clear hK K; refine hK _ _ _ ?_; clear hK K))); all_goals (repeat (clear hK K)))
  exact finc (fun i => i) (.r1 _ _ (.tmp _ _ rfl)) rfl (fun _ _ => rfl) ⟨rfl, rfl, trivial⟩ rfl
theorem ak_ex {s : Sr} {k : Int} (ws : List Int) (h : s.ok k) (hk : k ≤ 900000) (h1 : 1 ≤ ws.length) (hn : ws.length ≤ 1000) : ∃ x s', Ak s ws k x s' := by
  refine ⟨_, _, ?_, pk_ok _ h, fun j b c hbc => among_rc b c s ws hbc (h.mono hk) h1 hn j⟩
  have hp := pk_bd s ws.length (by omega)
  have hl : (pk s ws.length).1.toNat < ws.length := by omega
  rw [List.getD_eq_getElem?_getD, List.getElem?_eq_getElem hl]
  exact List.getElem_mem _
structure Tk (s : Sr) (ws : List ByteArray) (k : Int) (w : ByteArray) (s' : Sr) : Prop where
  mem : w ∈ ws
  ok : s'.ok (k + 2)
  rc : ∀ j b c, b ≠ c → RC Try.prog 67 [.ptr b 0 0, .sl c 0 ws.length] [(b, ⟨73, 3, false, [srR s]⟩), (c, ⟨9, 1, true, ws.map fun w => [.v (.string w)]⟩)] j (.v (.string w)) [(b, some ⟨73, 3, false, [srR s']⟩), (c, some ⟨9, 1, true, ws.map fun w => [.v (.string w)]⟩)] j
theorem tk_ex {s : Sr} {k : Int} (ws : List ByteArray) (h : s.ok k) (hk : k ≤ 900000) (h1 : 1 ≤ ws.length) (hn : ws.length ≤ 1000) : ∃ w s', Tk s ws k w s' := by
  refine ⟨_, _, ?_, pk_ok _ h, fun j b c hbc => text_rc b c s ws hbc (h.mono hk) h1 hn j⟩
  have hp := pk_bd s ws.length (by omega)
  have hl : (pk s ws.length).1.toNat < ws.length := by omega
  rw [List.getD_eq_getElem?_getD, List.getElem?_eq_getElem hl]
  exact List.getElem_mem _
/-- a function that draws a band -/
structure Bk (f : FuncId) (s : Sr) (k : Int) (b : Band) (s' : Sr) : Prop where
  sm : b.nm.size ≤ 10
  ok : s'.ok (k + 20)
  rc : ∀ j id, RC Try.prog f [.ptr id 0 0] [(id, ⟨73, 3, false, [srR s]⟩)] j (.agg (baL b)) [(id, some ⟨73, 3, false, [srR s']⟩)] j
def namT : List ByteArray := [⟨#[98, 57, 48, 48]⟩, ⟨#[118, 104, 102]⟩, ⟨#[117, 104, 102]⟩, ⟨#[109, 119]⟩]
theorem nam_ok {w : ByteArray} (h : w ∈ namT) : w.size ≤ 10 := by
  simp only [namT, List.mem_cons, List.not_mem_nil, or_false] at h
  rcases h with rfl | rfl | rfl | rfl <;> decide
theorem l15DrawOk_ex {s : Sr} {k : Int} (h : s.ok k) (hk : k ≤ 700000) : ∃ b s', Bk 66 s k b s' := by
  obtain ⟨nm, s1, h1⟩ := tk_ex namT h (by omega) (by decide) (by decide)
  obtain ⟨lo, s2, h2⟩ := ak_ex [1, 1000, 150000, 890000, 17700000] h1.ok (by omega) (by decide) (by decide)
  obtain ⟨ra, s3, h3⟩ := ak_ex [1, 7, 25, 200, 1000] h2.ok (by omega) (by decide) (by decide)
  have hra : 1 ≤ ra ∧ ra ≤ 1000 := by
    have := h3.mem
    simp only [List.mem_cons, List.not_mem_nil, or_false] at this
    omega
  obtain ⟨q, s4, h4⟩ := pk_ex 40 h3.ok (by omega) (by omega) (by omega)
  obtain ⟨p, s5, h5⟩ := pk_ex ra h4.ok (by omega) (by omega) (by omega)
  obtain ⟨o, s6, h6⟩ := pk_ex 3 h5.ok (by omega) (by omega) (by omega)
  have ho := fun j b => one_rc b h6 j
  have c1 := fun j => h1.rc j 0 2 (by decide)
  have c2 := fun j => h2.rc j 0 4 (by decide)
  have c3 := fun j => h3.rc j 0 5 (by decide)
  have hsm := nam_ok h1.mem
  simp only [namT, List.map_cons, List.map_nil, List.length_cons, List.length_nil] at c1 c2 c3
  by_cases e : o = 0
  · have b1 : (o == 0) = true := by simpa using e
    obtain ⟨r, s7, h7⟩ := pk_ex 5000 h6.ok (by omega) (by omega) (by omega)
    refine ⟨⟨nm, lo, IntKind.i64.wrap (IntKind.i64.wrap (lo + IntKind.i64.wrap (IntKind.i64.wrap (q + 1) * ra)) + p), ra, IntKind.i64.wrap (IntKind.i64.wrap (IntKind.i64.wrap (IntKind.i64.wrap (lo + IntKind.i64.wrap (IntKind.i64.wrap (q + 1) * ra)) + p) - lo) + r)⟩, s7, hsm, h7.ok.mono (by omega), fun j id => ?_⟩
    unfold baL
    dsimp only
    refine RC.ofc [id] 0 [.ptr 0 0 0] [(0, ⟨73, 3, false, [srR s]⟩)] (.agg [.v (.string nm), .v (.int .i64 lo), .v (.int .i64 (IntKind.i64.wrap (IntKind.i64.wrap (lo + IntKind.i64.wrap (IntKind.i64.wrap (q + 1) * ra)) + p))), .v (.int .i64 ra), .v (.int .i64 (IntKind.i64.wrap (IntKind.i64.wrap (IntKind.i64.wrap (IntKind.i64.wrap (lo + IntKind.i64.wrap (IntKind.i64.wrap (q + 1) * ra)) + p) - lo) + r)))]) [(0, some ⟨73, 3, false, [srR s7]⟩)] Try.func66 Try.ntmps66 rfl (goFn_of Try.func66 rfl (by kernel_rfl)) rfl rfl rfl rfl rfl rfl rfl rfl (by simp_all) rfl ?_
    ((repeat' (first
    | (show SQ _ _ _ _ _ _ _ _; first | apply sq_nil | (apply q_move; exact rfl; exact rfl) | (apply q_assign; exact rfl; exact rfl) | (apply q_fieldAddr; exact rfl; exact rfl; exact (ty rfl); exact rfl; exact rfl; exact rfl; exact rfl) | (apply q_add; exact rfl; exact rfl; exact rfl) | (apply q_sub; exact rfl; exact rfl; exact rfl) | (apply q_mul; exact rfl; exact rfl; exact rfl) | (apply q_cat; exact rfl; exact rfl; exact rfl; exact (by first | omega | (simp; done) | (simp; omega))) | (apply q_ld1d; exact rfl; exact rfl; exact (ty rfl); exact rfl; exact rfl) | (apply q_ld1p; exact rfl; exact rfl; exact (ty rfl); exact rfl; exact rfl; exact (by first | rfl | assumption | ((try simp only [Nat.zero_add]); refine List.getElem?_set_self ?_; (try simp only [List.length_set]); assumption)); exact rfl) | (apply q_build; exact rfl; exact (ty rfl); exact rfl; exact rfl; exact rfl))
    | (show SQ _ _ _ _ _ _ _ _; (first | (apply q_ldad; exact rfl; exact rfl; exact (ty rfl); exact rfl; exact rfl) | (apply q_ldap; exact rfl; exact rfl; exact (ty rfl); exact rfl; exact rfl; exact (by first | rfl | assumption | ((try simp only [Nat.zero_add]); refine List.getElem?_set_self ?_; (try simp only [List.length_set]); assumption)); exact rfl) | (apply q_alloc; exact rfl; exact (ty rfl); exact rfl; exact rfl) | (apply q_store; exact rfl; exact rfl; exact (ty rfl); exact rfl; exact (by first | rfl | assumption | ((try simp only [Nat.zero_add]); refine List.getElem?_set_self ?_; (try simp only [List.length_set]); assumption)); exact rfl; exact rfl; exact rfl) | (apply q_build0; exact rfl; exact (ty rfl); exact rfl) | (apply q_buildn; exact rfl; exact (ty rfl); exact rfl; exact rfl; exact rfl; exact rfl; exact rfl; exact rfl; exact rfl) | (apply q_callC; exact rfl; exact rfl; exact rfl; exact c1 _; (focus ((repeat (first | exact trivial | refine ⟨by first | exact rfl | assumption, ?_⟩)); done)); skip) | (apply q_callC; exact rfl; exact rfl; exact rfl; exact c2 _; (focus ((repeat (first | exact trivial | refine ⟨by first | exact rfl | assumption, ?_⟩)); done)); skip) | (apply q_callC; exact rfl; exact rfl; exact rfl; exact c3 _; (focus ((repeat (first | exact trivial | refine ⟨by first | exact rfl | assumption, ?_⟩)); done)); skip) | (apply q_callC; exact rfl; exact rfl; exact rfl; exact h4.rc _ 0; (focus ((repeat (first | exact trivial | refine ⟨by first | exact rfl | assumption, ?_⟩)); done)); skip) | (apply q_callC; exact rfl; exact rfl; exact rfl; exact h5.rc _ 0; (focus ((repeat (first | exact trivial | refine ⟨by first | exact rfl | assumption, ?_⟩)); done)); skip) | (apply q_callC; exact rfl; exact rfl; exact rfl; exact ho _ 0; (focus ((repeat (first | exact trivial | refine ⟨by first | exact rfl | assumption, ?_⟩)); done)); skip) | (apply q_callC; exact rfl; exact rfl; exact rfl; exact h7.rc _ 0; (focus ((repeat (first | exact trivial | refine ⟨by first | exact rfl | assumption, ?_⟩)); done)); skip)); (try simp only [put, rowsOf, plR, List.all_cons, selE, ovr, setH, del, cellsA, splice, isV, List.nil_append, List.cons_append, List.map_cons, List.map_nil, List.length_cons, List.length_nil, List.set_cons_zero, List.set_cons_succ, List.take_succ_cons, List.take_zero, List.take_nil, List.drop_succ_cons, List.drop_zero, List.drop_nil, List.append_nil, List.all_cons, List.all_nil, Bool.and_true, Bool.true_and, Bool.and_false, Bool.false_and, Nat.reduceAdd, Nat.zero_add, Nat.add_zero, Nat.reduceEqDiff, if_true, if_false, reduceIte]))
    | (show DE _ _ _ _ _ _ _ _ _ _ _ _; first | (apply e_move; exact rfl; exact rfl; exact rfl) | (apply e_assign; exact rfl; exact rfl; exact rfl) | (apply e_fieldAddr; exact rfl; exact rfl; exact (ty rfl); exact rfl; exact rfl; exact rfl; exact rfl; exact rfl) | (apply e_add; exact rfl; exact rfl; exact rfl; exact rfl) | (apply e_sub; exact rfl; exact rfl; exact rfl; exact rfl) | (apply e_mul; exact rfl; exact rfl; exact rfl; exact rfl) | (apply e_cat; exact rfl; exact rfl; exact rfl; exact (by first | omega | (simp; done) | (simp; omega)); exact rfl) | (apply e_ld1d; exact rfl; exact rfl; exact (ty rfl); exact rfl; exact rfl; exact rfl) | (apply e_ld1p; exact rfl; exact rfl; exact (ty rfl); exact rfl; exact rfl; exact (by first | rfl | assumption | ((try simp only [Nat.zero_add]); refine List.getElem?_set_self ?_; (try simp only [List.length_set]); assumption)); exact rfl; exact rfl) | (apply e_build; exact rfl; exact (ty rfl); exact rfl; exact rfl; exact rfl; exact rfl))
    | (show DE _ _ _ _ _ _ _ _ _ _ _ _; (first | (apply dr_nil; (focus ((repeat (first | exact trivial | exact Or.inl (by kernel_rfl) | exact Or.inr rfl | apply And.intro)); done))) | (apply e_rd1; exact rfl; exact rfl; exact (ty rfl); exact rfl; exact rfl; exact (by first | rfl | assumption | ((try simp only [Nat.zero_add]); refine List.getElem?_set_self ?_; (try simp only [List.length_set]); assumption)); exact rfl; exact rfl; exact rfl) | (apply e_rda; exact rfl; exact rfl; exact (ty rfl); exact rfl; exact rfl; exact (by first | rfl | assumption | ((try simp only [Nat.zero_add]); refine List.getElem?_set_self ?_; (try simp only [List.length_set]); assumption)); exact rfl; exact rfl; exact rfl) | (apply e_ldad; exact rfl; exact rfl; exact (ty rfl); exact rfl; exact rfl; exact rfl) | (apply e_ldap; exact rfl; exact rfl; exact (ty rfl); exact rfl; exact rfl; exact (by first | rfl | assumption | ((try simp only [Nat.zero_add]); refine List.getElem?_set_self ?_; (try simp only [List.length_set]); assumption)); exact rfl; exact rfl) | (apply e_alloc; exact rfl; exact (ty rfl); exact rfl; exact rfl; exact rfl) | (apply e_store; exact rfl; exact rfl; exact (ty rfl); exact rfl; exact (by first | rfl | assumption | ((try simp only [Nat.zero_add]); refine List.getElem?_set_self ?_; (try simp only [List.length_set]); assumption)); exact rfl; exact rfl; exact rfl; exact rfl) | (apply e_build0; exact rfl; exact (ty rfl); exact rfl; exact rfl) | (apply e_buildn; exact rfl; exact (ty rfl); exact rfl; exact rfl; exact rfl; exact rfl; exact rfl; exact rfl; exact rfl; exact rfl) | (apply e_callC; exact rfl; exact rfl; exact rfl; exact c1 _; (focus ((repeat (first | exact trivial | refine ⟨by first | exact rfl | assumption, ?_⟩)); done)); exact rfl; skip) | (apply e_callC; exact rfl; exact rfl; exact rfl; exact c2 _; (focus ((repeat (first | exact trivial | refine ⟨by first | exact rfl | assumption, ?_⟩)); done)); exact rfl; skip) | (apply e_callC; exact rfl; exact rfl; exact rfl; exact c3 _; (focus ((repeat (first | exact trivial | refine ⟨by first | exact rfl | assumption, ?_⟩)); done)); exact rfl; skip) | (apply e_callC; exact rfl; exact rfl; exact rfl; exact h4.rc _ 0; (focus ((repeat (first | exact trivial | refine ⟨by first | exact rfl | assumption, ?_⟩)); done)); exact rfl; skip) | (apply e_callC; exact rfl; exact rfl; exact rfl; exact h5.rc _ 0; (focus ((repeat (first | exact trivial | refine ⟨by first | exact rfl | assumption, ?_⟩)); done)); exact rfl; skip) | (apply e_callC; exact rfl; exact rfl; exact rfl; exact ho _ 0; (focus ((repeat (first | exact trivial | refine ⟨by first | exact rfl | assumption, ?_⟩)); done)); exact rfl; skip) | (apply e_callC; exact rfl; exact rfl; exact rfl; exact h7.rc _ 0; (focus ((repeat (first | exact trivial | refine ⟨by first | exact rfl | assumption, ?_⟩)); done)); exact rfl; skip)); (try simp only [put, rowsOf, plR, List.all_cons, selE, ovr, setH, del, cellsA, splice, isV, List.nil_append, List.cons_append, List.map_cons, List.map_nil, List.length_cons, List.length_nil, List.set_cons_zero, List.set_cons_succ, List.take_succ_cons, List.take_zero, List.take_nil, List.drop_succ_cons, List.drop_zero, List.drop_nil, List.append_nil, List.all_cons, List.all_nil, Bool.and_true, Bool.true_and, Bool.and_false, Bool.false_and, Nat.reduceAdd, Nat.zero_add, Nat.add_zero, Nat.reduceEqDiff, if_true, if_false, reduceIte]))
    | (show AW _ _ _ _ _ _ _ _; first | refine aw_region ?_ | (refine aw_seqk ?_; intro K hK) | refine aw_block ?_ | (apply aw_cond_t; exact rfl; exact rfl) | (apply aw_cond_f; exact rfl; exact rfl) | (apply aw_cond_t; exact rfl; exact (by assumption)) | (apply aw_cond_f; exact rfl; exact (by assumption)) | refine aw_ret ?_ | refine aw_exit ?_ | refine aw_skip ?_ | refine aw_drawE (id := 5) [0, 1, 0, 0, 8, 28, 63, 0, 0, 256, 896, 2047, 4095, 8191] [0, 0, 0, 0, 0, 0, 0, 0, 0, 0, 2, 0, 0, 2, 1, 3, 4, 3, 9, 3] mixed (by kernel_rfl) ?_ | refine aw_drawE (id := 7) [0, 1, 0, 4, 15, 0, 32, 127, 255, 511] [0, 0, 0, 0, 0, 0, 2, 0, 0, 2, 1, 3, 3, 3] mixed (by kernel_rfl) ?_ | (apply aw_ite; exact rfl; all_goals intro h))
    | refine thn_n ?_
    | (refine hK _ _ _ ?_; clear hK K)
    | refine thn_e ?_
    | refine thn_r ?_
    | refine inb_same ?_
    | refine inb_ne rfl ?_
    | refine inb_n ?_
    | refine inb_r ?_
    | (clear hK K; refine hK _ _ _ ?_; clear hK K)
    | (clear hK K; clear hK K; refine hK _ _ _ ?_; clear hK K)
    | (clear hK K; clear hK K; clear hK K; refine hK _ _ _ ?_; clear hK K))); all_goals (repeat (clear hK K)))
    exact finc (fun i => i) (.r1 _ _ (.agg _ _ _ _ _ rfl (.inr ⟨_, _, _, _, _, rfl, rfl, rfl, rfl⟩) (ty rfl) rfl (Nat.le_of_ble_eq_true rfl))) rfl (fun _ _ => rfl) ⟨rfl, trivial⟩ rfl
  · have b1 : (o == 0) = false := by simpa using e
    refine ⟨⟨nm, lo, IntKind.i64.wrap (IntKind.i64.wrap (lo + IntKind.i64.wrap (IntKind.i64.wrap (q + 1) * ra)) + p), ra, 0⟩, s6, hsm, h6.ok.mono (by omega), fun j id => ?_⟩
    unfold baL
    dsimp only
    refine RC.ofc [id] 0 [.ptr 0 0 0] [(0, ⟨73, 3, false, [srR s]⟩)] (.agg [.v (.string nm), .v (.int .i64 lo), .v (.int .i64 (IntKind.i64.wrap (IntKind.i64.wrap (lo + IntKind.i64.wrap (IntKind.i64.wrap (q + 1) * ra)) + p))), .v (.int .i64 ra), .v (.int .i64 0)]) [(0, some ⟨73, 3, false, [srR s6]⟩)] Try.func66 Try.ntmps66 rfl (goFn_of Try.func66 rfl (by kernel_rfl)) rfl rfl rfl rfl rfl rfl rfl rfl (by simp_all) rfl ?_
    ((repeat' (first
    | (show SQ _ _ _ _ _ _ _ _; first | apply sq_nil | (apply q_move; exact rfl; exact rfl) | (apply q_assign; exact rfl; exact rfl) | (apply q_fieldAddr; exact rfl; exact rfl; exact (ty rfl); exact rfl; exact rfl; exact rfl; exact rfl) | (apply q_add; exact rfl; exact rfl; exact rfl) | (apply q_sub; exact rfl; exact rfl; exact rfl) | (apply q_mul; exact rfl; exact rfl; exact rfl) | (apply q_cat; exact rfl; exact rfl; exact rfl; exact (by first | omega | (simp; done) | (simp; omega))) | (apply q_ld1d; exact rfl; exact rfl; exact (ty rfl); exact rfl; exact rfl) | (apply q_ld1p; exact rfl; exact rfl; exact (ty rfl); exact rfl; exact rfl; exact (by first | rfl | assumption | ((try simp only [Nat.zero_add]); refine List.getElem?_set_self ?_; (try simp only [List.length_set]); assumption)); exact rfl) | (apply q_build; exact rfl; exact (ty rfl); exact rfl; exact rfl; exact rfl))
    | (show SQ _ _ _ _ _ _ _ _; (first | (apply q_ldad; exact rfl; exact rfl; exact (ty rfl); exact rfl; exact rfl) | (apply q_ldap; exact rfl; exact rfl; exact (ty rfl); exact rfl; exact rfl; exact (by first | rfl | assumption | ((try simp only [Nat.zero_add]); refine List.getElem?_set_self ?_; (try simp only [List.length_set]); assumption)); exact rfl) | (apply q_alloc; exact rfl; exact (ty rfl); exact rfl; exact rfl) | (apply q_store; exact rfl; exact rfl; exact (ty rfl); exact rfl; exact (by first | rfl | assumption | ((try simp only [Nat.zero_add]); refine List.getElem?_set_self ?_; (try simp only [List.length_set]); assumption)); exact rfl; exact rfl; exact rfl) | (apply q_build0; exact rfl; exact (ty rfl); exact rfl) | (apply q_buildn; exact rfl; exact (ty rfl); exact rfl; exact rfl; exact rfl; exact rfl; exact rfl; exact rfl; exact rfl) | (apply q_callC; exact rfl; exact rfl; exact rfl; exact c1 _; (focus ((repeat (first | exact trivial | refine ⟨by first | exact rfl | assumption, ?_⟩)); done)); skip) | (apply q_callC; exact rfl; exact rfl; exact rfl; exact c2 _; (focus ((repeat (first | exact trivial | refine ⟨by first | exact rfl | assumption, ?_⟩)); done)); skip) | (apply q_callC; exact rfl; exact rfl; exact rfl; exact c3 _; (focus ((repeat (first | exact trivial | refine ⟨by first | exact rfl | assumption, ?_⟩)); done)); skip) | (apply q_callC; exact rfl; exact rfl; exact rfl; exact h4.rc _ 0; (focus ((repeat (first | exact trivial | refine ⟨by first | exact rfl | assumption, ?_⟩)); done)); skip) | (apply q_callC; exact rfl; exact rfl; exact rfl; exact h5.rc _ 0; (focus ((repeat (first | exact trivial | refine ⟨by first | exact rfl | assumption, ?_⟩)); done)); skip) | (apply q_callC; exact rfl; exact rfl; exact rfl; exact ho _ 0; (focus ((repeat (first | exact trivial | refine ⟨by first | exact rfl | assumption, ?_⟩)); done)); skip)); (try simp only [put, rowsOf, plR, List.all_cons, selE, ovr, setH, del, cellsA, splice, isV, List.nil_append, List.cons_append, List.map_cons, List.map_nil, List.length_cons, List.length_nil, List.set_cons_zero, List.set_cons_succ, List.take_succ_cons, List.take_zero, List.take_nil, List.drop_succ_cons, List.drop_zero, List.drop_nil, List.append_nil, List.all_cons, List.all_nil, Bool.and_true, Bool.true_and, Bool.and_false, Bool.false_and, Nat.reduceAdd, Nat.zero_add, Nat.add_zero, Nat.reduceEqDiff, if_true, if_false, reduceIte]))
    | (show DE _ _ _ _ _ _ _ _ _ _ _ _; first | (apply e_move; exact rfl; exact rfl; exact rfl) | (apply e_assign; exact rfl; exact rfl; exact rfl) | (apply e_fieldAddr; exact rfl; exact rfl; exact (ty rfl); exact rfl; exact rfl; exact rfl; exact rfl; exact rfl) | (apply e_add; exact rfl; exact rfl; exact rfl; exact rfl) | (apply e_sub; exact rfl; exact rfl; exact rfl; exact rfl) | (apply e_mul; exact rfl; exact rfl; exact rfl; exact rfl) | (apply e_cat; exact rfl; exact rfl; exact rfl; exact (by first | omega | (simp; done) | (simp; omega)); exact rfl) | (apply e_ld1d; exact rfl; exact rfl; exact (ty rfl); exact rfl; exact rfl; exact rfl) | (apply e_ld1p; exact rfl; exact rfl; exact (ty rfl); exact rfl; exact rfl; exact (by first | rfl | assumption | ((try simp only [Nat.zero_add]); refine List.getElem?_set_self ?_; (try simp only [List.length_set]); assumption)); exact rfl; exact rfl) | (apply e_build; exact rfl; exact (ty rfl); exact rfl; exact rfl; exact rfl; exact rfl))
    | (show DE _ _ _ _ _ _ _ _ _ _ _ _; (first | (apply dr_nil; (focus ((repeat (first | exact trivial | exact Or.inl (by kernel_rfl) | exact Or.inr rfl | apply And.intro)); done))) | (apply e_rd1; exact rfl; exact rfl; exact (ty rfl); exact rfl; exact rfl; exact (by first | rfl | assumption | ((try simp only [Nat.zero_add]); refine List.getElem?_set_self ?_; (try simp only [List.length_set]); assumption)); exact rfl; exact rfl; exact rfl) | (apply e_rda; exact rfl; exact rfl; exact (ty rfl); exact rfl; exact rfl; exact (by first | rfl | assumption | ((try simp only [Nat.zero_add]); refine List.getElem?_set_self ?_; (try simp only [List.length_set]); assumption)); exact rfl; exact rfl; exact rfl) | (apply e_ldad; exact rfl; exact rfl; exact (ty rfl); exact rfl; exact rfl; exact rfl) | (apply e_ldap; exact rfl; exact rfl; exact (ty rfl); exact rfl; exact rfl; exact (by first | rfl | assumption | ((try simp only [Nat.zero_add]); refine List.getElem?_set_self ?_; (try simp only [List.length_set]); assumption)); exact rfl; exact rfl) | (apply e_alloc; exact rfl; exact (ty rfl); exact rfl; exact rfl; exact rfl) | (apply e_store; exact rfl; exact rfl; exact (ty rfl); exact rfl; exact (by first | rfl | assumption | ((try simp only [Nat.zero_add]); refine List.getElem?_set_self ?_; (try simp only [List.length_set]); assumption)); exact rfl; exact rfl; exact rfl; exact rfl) | (apply e_build0; exact rfl; exact (ty rfl); exact rfl; exact rfl) | (apply e_buildn; exact rfl; exact (ty rfl); exact rfl; exact rfl; exact rfl; exact rfl; exact rfl; exact rfl; exact rfl; exact rfl) | (apply e_callC; exact rfl; exact rfl; exact rfl; exact c1 _; (focus ((repeat (first | exact trivial | refine ⟨by first | exact rfl | assumption, ?_⟩)); done)); exact rfl; skip) | (apply e_callC; exact rfl; exact rfl; exact rfl; exact c2 _; (focus ((repeat (first | exact trivial | refine ⟨by first | exact rfl | assumption, ?_⟩)); done)); exact rfl; skip) | (apply e_callC; exact rfl; exact rfl; exact rfl; exact c3 _; (focus ((repeat (first | exact trivial | refine ⟨by first | exact rfl | assumption, ?_⟩)); done)); exact rfl; skip) | (apply e_callC; exact rfl; exact rfl; exact rfl; exact h4.rc _ 0; (focus ((repeat (first | exact trivial | refine ⟨by first | exact rfl | assumption, ?_⟩)); done)); exact rfl; skip) | (apply e_callC; exact rfl; exact rfl; exact rfl; exact h5.rc _ 0; (focus ((repeat (first | exact trivial | refine ⟨by first | exact rfl | assumption, ?_⟩)); done)); exact rfl; skip) | (apply e_callC; exact rfl; exact rfl; exact rfl; exact ho _ 0; (focus ((repeat (first | exact trivial | refine ⟨by first | exact rfl | assumption, ?_⟩)); done)); exact rfl; skip)); (try simp only [put, rowsOf, plR, List.all_cons, selE, ovr, setH, del, cellsA, splice, isV, List.nil_append, List.cons_append, List.map_cons, List.map_nil, List.length_cons, List.length_nil, List.set_cons_zero, List.set_cons_succ, List.take_succ_cons, List.take_zero, List.take_nil, List.drop_succ_cons, List.drop_zero, List.drop_nil, List.append_nil, List.all_cons, List.all_nil, Bool.and_true, Bool.true_and, Bool.and_false, Bool.false_and, Nat.reduceAdd, Nat.zero_add, Nat.add_zero, Nat.reduceEqDiff, if_true, if_false, reduceIte]))
    | (show AW _ _ _ _ _ _ _ _; first | refine aw_region ?_ | (refine aw_seqk ?_; intro K hK) | refine aw_block ?_ | (apply aw_cond_t; exact rfl; exact rfl) | (apply aw_cond_f; exact rfl; exact rfl) | (apply aw_cond_t; exact rfl; exact (by assumption)) | (apply aw_cond_f; exact rfl; exact (by assumption)) | refine aw_ret ?_ | refine aw_exit ?_ | refine aw_skip ?_ | refine aw_drawE (id := 5) [0, 1, 0, 0, 8, 28, 63, 0, 0, 256, 896, 2047, 4095, 8191] [0, 0, 0, 0, 0, 0, 0, 0, 0, 0, 2, 0, 0, 2, 1, 3, 4, 3, 9, 3] mixed (by kernel_rfl) ?_ | refine aw_drawE (id := 7) [0, 1, 0, 4, 15, 0, 32, 127, 255, 511] [0, 0, 0, 0, 0, 0, 2, 0, 0, 2, 1, 3, 3, 3] mixed (by kernel_rfl) ?_ | (apply aw_ite; exact rfl; all_goals intro h))
    | refine thn_n ?_
    | (refine hK _ _ _ ?_; clear hK K)
    | refine thn_e ?_
    | refine thn_r ?_
    | refine inb_same ?_
    | refine inb_ne rfl ?_
    | refine inb_n ?_
    | refine inb_r ?_
    | (clear hK K; refine hK _ _ _ ?_; clear hK K)
    | (clear hK K; clear hK K; refine hK _ _ _ ?_; clear hK K)
    | (clear hK K; clear hK K; clear hK K; refine hK _ _ _ ?_; clear hK K))); all_goals (repeat (clear hK K)))
    exact finc (fun i => i) (.r1 _ _ (.agg _ _ _ _ _ rfl (.inr ⟨_, _, _, _, _, rfl, rfl, rfl, rfl⟩) (ty rfl) rfl (Nat.le_of_ble_eq_true rfl))) rfl (fun _ _ => rfl) ⟨rfl, trivial⟩ rfl
end Go.Proofs.Ytmnklmaefoidbaa.Ba
