/-
  Choices read from bytes: the source, one choice, a number below another, one of some texts.
-/
import Derived.Test.YtmnklmaefoidbaaAwTy
import Derived.Test.YtmnklmaefoidbaaAwX
import Derived.IntWalk
namespace Go.Proofs.Ytmnklmaefoidbaa.Sr
open Go Go.RowKit Go.Proofs.Ytmnklmaefoidbaa.Aw
set_option linter.unusedSimpArgs false
set_option linter.unusedVariables false
attribute [local irreducible] AW SQ Step RO RC DE

structure Sr where
  c : List Int
  a : Int
  s : Int
def byL (bs : List Int) : List (List AV) := bs.map fun b => [.v (.int .u8 b)]
def srR (s : Sr) : List AV := [.dsl 1 (byL s.c), .v (.int .i64 s.a), .v (.int .u64 s.s)]
/-- a source that may be asked k times more -/
structure Sr.ok (s : Sr) (k : Int) : Prop where
  b : ∀ b ∈ s.c, 0 ≤ b ∧ b ≤ 255
  a0 : 0 ≤ s.a
  a1 : s.a ≤ k
  n : s.c.length ≤ 9223372036854775807
theorem Sr.ok.mono {s : Sr} {k k' : Int} (h : s.ok k) (hk : k ≤ k') : s.ok k' := ⟨h.b, h.a0, by have := h.a1; omega, h.n⟩
def sd (s b : Int) : Int := IntKind.u64.wrap (IntKind.u64.wrap (IntKind.u64.wrap (s * 6364136223846793005) + IntKind.u64.wrap b) + 1442695040888963407)
def tl (s : Int) : Int := IntKind.i64.wrap (andI IntKind.u64 (s / 2 ^ min (Int.toNat 40) IntKind.u64.bits) 255)
def nx (s : Sr) : Int × Sr :=
  if s.a < s.c.length then (s.c.getD s.a.toNat 0, ⟨s.c, s.a + 1, sd s.s (s.c.getD s.a.toNat 0)⟩)
  else (tl (sd s.s 0), ⟨s.c, s.a + 1, sd s.s 0⟩)
set_option maxRecDepth 100000 in
theorem next_rc (b : Nat) (s : Sr) (h : s.ok 1000000) (k : Nat) : RC Try.prog 68 [.ptr b 0 0] [(b, ⟨73, 3, false, [srR s]⟩)] k (.v (.int .i64 (nx s).1)) [(b, some ⟨73, 3, false, [srR (nx s).2]⟩)] k := by
  obtain ⟨c, a, sd0⟩ := s
  obtain ⟨hb, a0, a1, hn⟩ := h
  dsimp only at hb a0 a1 hn
  have hl : (byL c).length = c.length := List.length_map _
  have w1 : IntKind.i64.wrap (a + 1) = a + 1 := IntWalk.i64_in _ (by omega)
  by_cases c1 : a < c.length
  · obtain ⟨A, rfl⟩ := Int.eq_ofNat_of_zero_le a0
    have b1 : decide ((A : Int) < (((byL c).length : Nat) : Int)) = true := by simp [hl]; omega
    have b2 : decide (IntKind.i64.wrap ((A : Int) + 1) ≤ (((byL c).length : Nat) : Int)) = true := by rw [w1]; simp [hl]; omega
    have c1' : A < c.length := by omega
    have hrow : (byL c)[((A : Int)).toNat]? = some [.v (.int .u8 c[A])] := by simp [byL, c1']
    have hbd := hb c[A] (List.getElem_mem c1')
    have w3 : IntKind.i64.wrap c[A] = c[A] := IntWalk.i64_in _ (by omega)
    have hnx : nx ⟨c, A, sd0⟩ = (c[A], ⟨c, A + 1, sd sd0 c[A]⟩) := by
      unfold nx; dsimp only; rw [if_pos c1]; simp [c1']
    rw [hnx]
    refine RC.ofc [b] 0 [.ptr 0 0 0] [(0, ⟨73, 3, false, [srR ⟨c, A, sd0⟩]⟩)] (.v (.int .i64 c[A])) [(0, some ⟨73, 3, false, [srR ⟨c, A + 1, sd sd0 c[A]⟩]⟩)] Try.func68 Try.ntmps68 rfl (goFn_of Try.func68 rfl (by kernel_rfl)) rfl rfl rfl rfl rfl rfl rfl rfl (by simp_all) rfl ?_
    unfold srR
    dsimp only
    ((repeat' (first
    | (show SQ _ _ _ _ _ _ _ _; first | apply sq_nil | (apply q_move; exact rfl; exact rfl) | (apply q_assign; exact rfl; exact rfl) | (apply q_fieldAddr; exact rfl; exact rfl; exact (ty rfl); exact rfl; exact rfl; exact rfl; exact rfl) | (apply q_nilc; exact rfl; exact rfl; exact rfl) | (apply q_nilf; exact rfl; exact rfl) | (apply q_conv; exact rfl; exact rfl; exact (ty rfl); exact rfl; exact (ty rfl)) | (apply q_lens; exact rfl; exact rfl; exact (ty rfl); exact rfl) | (apply q_lend; exact rfl; exact rfl; exact (ty rfl); exact rfl) | (apply q_lenl; exact rfl; exact rfl; exact (ty rfl); exact rfl) | (apply q_lenn; exact rfl; exact rfl; exact (ty rfl); exact rfl) | (apply q_add; exact rfl; exact rfl; exact rfl) | (apply q_mul; exact rfl; exact rfl; exact rfl) | (apply q_lss; exact rfl; exact rfl; exact rfl) | (apply q_leq; exact rfl; exact rfl; exact rfl) | (apply q_slss; exact rfl; exact rfl; exact rfl) | (apply q_sleq; exact rfl; exact rfl; exact rfl) | (apply q_cat; exact rfl; exact rfl; exact rfl; exact (by first | omega | (simp; done) | (simp; omega))) | (apply q_ixd; exact rfl; exact rfl; exact rfl; exact (ty rfl); exact rfl; exact (by first | omega | (simp; done) | (simp; omega)); exact (by first | omega | (simp; done) | (simp; omega)); exact (by first | rfl | assumption)) | (apply q_ixa; exact rfl; exact rfl; exact rfl; exact (ty rfl); exact rfl; exact (by first | omega | (simp; done) | (simp; omega)); exact (by first | omega | (simp; done) | (simp; omega)); exact rfl) | (apply q_ixl; exact rfl; exact rfl; exact rfl; exact (ty rfl); exact rfl; exact rfl; exact rfl; exact (by first | omega | (simp; done) | (simp; omega)); exact (by first | omega | (simp; done) | (simp; omega))) | (apply q_ld1d; exact rfl; exact rfl; exact (ty rfl); exact rfl; exact rfl) | (apply q_ld1p; exact rfl; exact rfl; exact (ty rfl); exact rfl; exact rfl; exact (by first | rfl | assumption | ((try simp only [Nat.zero_add]); refine List.getElem?_set_self ?_; (try simp only [List.length_set]); assumption)); exact rfl) | (apply q_shr; exact rfl; exact rfl; exact rfl; exact (by first | omega | (simp; done) | (simp; omega))) | (apply q_and; exact rfl; exact rfl; exact rfl) | (apply q_lenx; exact rfl; exact rfl; exact (ty rfl); exact rfl) | (apply q_bst1; exact rfl; exact rfl; exact (ty rfl); exact rfl; exact (ty rfl); exact rfl; exact (ty rfl); exact rfl; exact rfl; exact (by first | rfl | assumption)))
    | (show SQ _ _ _ _ _ _ _ _; (first | (apply q_ldad; exact rfl; exact rfl; exact (ty rfl); exact rfl; exact rfl) | (apply q_ldap; exact rfl; exact rfl; exact (ty rfl); exact rfl; exact rfl; exact (by first | rfl | assumption | ((try simp only [Nat.zero_add]); refine List.getElem?_set_self ?_; (try simp only [List.length_set]); assumption)); exact rfl) | (apply q_store; exact rfl; exact rfl; exact (ty rfl); exact rfl; exact (by first | rfl | assumption | ((try simp only [Nat.zero_add]); refine List.getElem?_set_self ?_; (try simp only [List.length_set]); assumption)); exact rfl; exact rfl; exact rfl)); (try simp only [put, rowsOf, plR, List.all_cons, selE, ovr, setH, del, cellsA, splice, isV, List.nil_append, List.cons_append, List.map_cons, List.map_nil, List.length_cons, List.length_nil, List.set_cons_zero, List.set_cons_succ, List.take_succ_cons, List.take_zero, List.take_nil, List.drop_succ_cons, List.drop_zero, List.drop_nil, List.append_nil, List.all_cons, List.all_nil, Bool.and_true, Bool.true_and, Bool.and_false, Bool.false_and, Nat.reduceAdd, Nat.zero_add, Nat.add_zero, Nat.reduceEqDiff, if_true, if_false, reduceIte]))
    | (show DE _ _ _ _ _ _ _ _ _ _ _ _; first | (apply e_move; exact rfl; exact rfl; exact rfl) | (apply e_assign; exact rfl; exact rfl; exact rfl) | (apply e_fieldAddr; exact rfl; exact rfl; exact (ty rfl); exact rfl; exact rfl; exact rfl; exact rfl; exact rfl) | (apply e_nilc; exact rfl; exact rfl; exact rfl; exact rfl) | (apply e_nilf; exact rfl; exact rfl; exact rfl) | (apply e_conv; exact rfl; exact rfl; exact (ty rfl); exact rfl; exact (ty rfl); exact rfl) | (apply e_lens; exact rfl; exact rfl; exact (ty rfl); exact rfl; exact rfl) | (apply e_lend; exact rfl; exact rfl; exact (ty rfl); exact rfl; exact rfl) | (apply e_lenl; exact rfl; exact rfl; exact (ty rfl); exact rfl; exact rfl) | (apply e_lenn; exact rfl; exact rfl; exact (ty rfl); exact rfl; exact rfl) | (apply e_add; exact rfl; exact rfl; exact rfl; exact rfl) | (apply e_mul; exact rfl; exact rfl; exact rfl; exact rfl) | (apply e_lss; exact rfl; exact rfl; exact rfl; exact rfl) | (apply e_leq; exact rfl; exact rfl; exact rfl; exact rfl) | (apply e_slss; exact rfl; exact rfl; exact rfl; exact rfl) | (apply e_sleq; exact rfl; exact rfl; exact rfl; exact rfl) | (apply e_cat; exact rfl; exact rfl; exact rfl; exact (by first | omega | (simp; done) | (simp; omega)); exact rfl) | (apply e_ixd; exact rfl; exact rfl; exact rfl; exact (ty rfl); exact rfl; exact (by first | omega | (simp; done) | (simp; omega)); exact (by first | omega | (simp; done) | (simp; omega)); exact (by first | rfl | assumption); exact rfl) | (apply e_ixa; exact rfl; exact rfl; exact rfl; exact (ty rfl); exact rfl; exact (by first | omega | (simp; done) | (simp; omega)); exact (by first | omega | (simp; done) | (simp; omega)); exact rfl; exact rfl) | (apply e_ixl; exact rfl; exact rfl; exact rfl; exact (ty rfl); exact rfl; exact rfl; exact rfl; exact (by first | omega | (simp; done) | (simp; omega)); exact (by first | omega | (simp; done) | (simp; omega)); exact rfl) | (apply e_ld1d; exact rfl; exact rfl; exact (ty rfl); exact rfl; exact rfl; exact rfl) | (apply e_ld1p; exact rfl; exact rfl; exact (ty rfl); exact rfl; exact rfl; exact (by first | rfl | assumption | ((try simp only [Nat.zero_add]); refine List.getElem?_set_self ?_; (try simp only [List.length_set]); assumption)); exact rfl; exact rfl) | (apply e_shr; exact rfl; exact rfl; exact rfl; exact (by first | omega | (simp; done) | (simp; omega)); exact rfl) | (apply e_and; exact rfl; exact rfl; exact rfl; exact rfl) | (apply e_lenx; exact rfl; exact rfl; exact (ty rfl); exact rfl; exact rfl) | (apply e_bst1; exact rfl; exact rfl; exact (ty rfl); exact rfl; exact (ty rfl); exact rfl; exact (ty rfl); exact rfl; exact rfl; exact (by first | rfl | assumption); exact rfl))
    | (show DE _ _ _ _ _ _ _ _ _ _ _ _; (first | (apply dr_nil; exact trivial) | (apply e_ldad; exact rfl; exact rfl; exact (ty rfl); exact rfl; exact rfl; exact rfl) | (apply e_ldap; exact rfl; exact rfl; exact (ty rfl); exact rfl; exact rfl; exact (by first | rfl | assumption | ((try simp only [Nat.zero_add]); refine List.getElem?_set_self ?_; (try simp only [List.length_set]); assumption)); exact rfl; exact rfl) | (apply e_store; exact rfl; exact rfl; exact (ty rfl); exact rfl; exact (by first | rfl | assumption | ((try simp only [Nat.zero_add]); refine List.getElem?_set_self ?_; (try simp only [List.length_set]); assumption)); exact rfl; exact rfl; exact rfl; exact rfl)); (try simp only [put, rowsOf, plR, List.all_cons, selE, ovr, setH, del, cellsA, splice, isV, List.nil_append, List.cons_append, List.map_cons, List.map_nil, List.length_cons, List.length_nil, List.set_cons_zero, List.set_cons_succ, List.take_succ_cons, List.take_zero, List.take_nil, List.drop_succ_cons, List.drop_zero, List.drop_nil, List.append_nil, List.all_cons, List.all_nil, Bool.and_true, Bool.true_and, Bool.and_false, Bool.false_and, Nat.reduceAdd, Nat.zero_add, Nat.add_zero, Nat.reduceEqDiff, if_true, if_false, reduceIte]))
    | (show AW _ _ _ _ _ _ _ _; first | refine aw_region ?_ | (refine aw_seqk ?_; intro K hK) | refine aw_block ?_ | (apply aw_cond_t; exact rfl; exact rfl) | (apply aw_cond_f; exact rfl; exact rfl) | (apply aw_cond_t; exact rfl; exact (by assumption)) | (apply aw_cond_f; exact rfl; exact (by assumption)) | refine aw_ret ?_ | refine aw_exit ?_ | refine aw_skip ?_ | refine aw_drawE (id := 2) [0, 1, 3, 7, 0, 16, 48, 112, 240, 511] [0, 0, 0, 1, 0, 0, 0, 1, 0, 0] mixed (by kernel_rfl) ?_ | refine aw_drawE (id := 3) [0, 1, 3, 7, 0, 16, 48, 112, 255, 511, 1023, 2047] [0, 0, 0, 1, 0, 0, 0, 1, 0, 1, 0, 0] mixed (by kernel_rfl) ?_ | refine aw_drawE (id := 6) [0, 1, 3, 7, 0, 16, 48, 112, 240, 511] [0, 0, 0, 1, 0, 0, 0, 1, 0, 0] mixed (by kernel_rfl) ?_ | (apply aw_ite; exact rfl; all_goals intro h))
    | refine thn_n ?_
    | (refine hK _ _ _ ?_; clear hK K)
    | refine thn_e ?_
    | refine thn_r ?_
    | refine inb_same ?_
    | refine inb_ne rfl ?_
    | refine inb_n ?_
    | refine inb_r ?_
    | (clear hK K; refine hK _ _ _ ?_; clear hK K)
    | (clear hK K; clear hK K; refine hK _ _ _ ?_; clear hK K)
    | (clear hK K; clear hK K; clear hK K; refine hK _ _ _ ?_; clear hK K))); all_goals (repeat (clear hK K)))
    exact finc (fun i => i) (.r1 _ _ (.tmp _ _ rfl)) (by rw [w3]; rfl) (fun _ _ => rfl) ⟨by rw [w3, w1]; rfl, trivial⟩ rfl
  · have b1 : decide (a < (((byL c).length : Nat) : Int)) = false := by simp [hl]; omega
    have b2 : decide (IntKind.i64.wrap (a + 1) ≤ (((byL c).length : Nat) : Int)) = false := by rw [w1]; simp [hl]; omega
    have hnx : nx ⟨c, a, sd0⟩ = (tl (sd sd0 0), ⟨c, a + 1, sd sd0 0⟩) := by
      unfold nx; dsimp only; rw [if_neg c1]
    rw [hnx]
    refine RC.ofc [b] 0 [.ptr 0 0 0] [(0, ⟨73, 3, false, [srR ⟨c, a, sd0⟩]⟩)] (.v (.int .i64 (tl (sd sd0 0)))) [(0, some ⟨73, 3, false, [srR ⟨c, a + 1, sd sd0 0⟩]⟩)] Try.func68 Try.ntmps68 rfl (goFn_of Try.func68 rfl (by kernel_rfl)) rfl rfl rfl rfl rfl rfl rfl rfl (by simp_all) rfl ?_
    unfold srR
    dsimp only
    ((repeat' (first
    | (show SQ _ _ _ _ _ _ _ _; first | apply sq_nil | (apply q_move; exact rfl; exact rfl) | (apply q_assign; exact rfl; exact rfl) | (apply q_fieldAddr; exact rfl; exact rfl; exact (ty rfl); exact rfl; exact rfl; exact rfl; exact rfl) | (apply q_nilc; exact rfl; exact rfl; exact rfl) | (apply q_nilf; exact rfl; exact rfl) | (apply q_conv; exact rfl; exact rfl; exact (ty rfl); exact rfl; exact (ty rfl)) | (apply q_lens; exact rfl; exact rfl; exact (ty rfl); exact rfl) | (apply q_lend; exact rfl; exact rfl; exact (ty rfl); exact rfl) | (apply q_lenl; exact rfl; exact rfl; exact (ty rfl); exact rfl) | (apply q_lenn; exact rfl; exact rfl; exact (ty rfl); exact rfl) | (apply q_add; exact rfl; exact rfl; exact rfl) | (apply q_mul; exact rfl; exact rfl; exact rfl) | (apply q_lss; exact rfl; exact rfl; exact rfl) | (apply q_leq; exact rfl; exact rfl; exact rfl) | (apply q_slss; exact rfl; exact rfl; exact rfl) | (apply q_sleq; exact rfl; exact rfl; exact rfl) | (apply q_cat; exact rfl; exact rfl; exact rfl; exact (by first | omega | (simp; done) | (simp; omega))) | (apply q_ixd; exact rfl; exact rfl; exact rfl; exact (ty rfl); exact rfl; exact (by first | omega | (simp; done) | (simp; omega)); exact (by first | omega | (simp; done) | (simp; omega)); exact (by first | rfl | assumption)) | (apply q_ixa; exact rfl; exact rfl; exact rfl; exact (ty rfl); exact rfl; exact (by first | omega | (simp; done) | (simp; omega)); exact (by first | omega | (simp; done) | (simp; omega)); exact rfl) | (apply q_ixl; exact rfl; exact rfl; exact rfl; exact (ty rfl); exact rfl; exact rfl; exact rfl; exact (by first | omega | (simp; done) | (simp; omega)); exact (by first | omega | (simp; done) | (simp; omega))) | (apply q_ld1d; exact rfl; exact rfl; exact (ty rfl); exact rfl; exact rfl) | (apply q_ld1p; exact rfl; exact rfl; exact (ty rfl); exact rfl; exact rfl; exact (by first | rfl | assumption | ((try simp only [Nat.zero_add]); refine List.getElem?_set_self ?_; (try simp only [List.length_set]); assumption)); exact rfl) | (apply q_shr; exact rfl; exact rfl; exact rfl; exact (by first | omega | (simp; done) | (simp; omega))) | (apply q_and; exact rfl; exact rfl; exact rfl) | (apply q_lenx; exact rfl; exact rfl; exact (ty rfl); exact rfl) | (apply q_bst1; exact rfl; exact rfl; exact (ty rfl); exact rfl; exact (ty rfl); exact rfl; exact (ty rfl); exact rfl; exact rfl; exact (by first | rfl | assumption)))
    | (show SQ _ _ _ _ _ _ _ _; (first | (apply q_ldad; exact rfl; exact rfl; exact (ty rfl); exact rfl; exact rfl) | (apply q_ldap; exact rfl; exact rfl; exact (ty rfl); exact rfl; exact rfl; exact (by first | rfl | assumption | ((try simp only [Nat.zero_add]); refine List.getElem?_set_self ?_; (try simp only [List.length_set]); assumption)); exact rfl) | (apply q_store; exact rfl; exact rfl; exact (ty rfl); exact rfl; exact (by first | rfl | assumption | ((try simp only [Nat.zero_add]); refine List.getElem?_set_self ?_; (try simp only [List.length_set]); assumption)); exact rfl; exact rfl; exact rfl)); (try simp only [put, rowsOf, plR, List.all_cons, selE, ovr, setH, del, cellsA, splice, isV, List.nil_append, List.cons_append, List.map_cons, List.map_nil, List.length_cons, List.length_nil, List.set_cons_zero, List.set_cons_succ, List.take_succ_cons, List.take_zero, List.take_nil, List.drop_succ_cons, List.drop_zero, List.drop_nil, List.append_nil, List.all_cons, List.all_nil, Bool.and_true, Bool.true_and, Bool.and_false, Bool.false_and, Nat.reduceAdd, Nat.zero_add, Nat.add_zero, Nat.reduceEqDiff, if_true, if_false, reduceIte]))
    | (show DE _ _ _ _ _ _ _ _ _ _ _ _; first | (apply e_move; exact rfl; exact rfl; exact rfl) | (apply e_assign; exact rfl; exact rfl; exact rfl) | (apply e_fieldAddr; exact rfl; exact rfl; exact (ty rfl); exact rfl; exact rfl; exact rfl; exact rfl; exact rfl) | (apply e_nilc; exact rfl; exact rfl; exact rfl; exact rfl) | (apply e_nilf; exact rfl; exact rfl; exact rfl) | (apply e_conv; exact rfl; exact rfl; exact (ty rfl); exact rfl; exact (ty rfl); exact rfl) | (apply e_lens; exact rfl; exact rfl; exact (ty rfl); exact rfl; exact rfl) | (apply e_lend; exact rfl; exact rfl; exact (ty rfl); exact rfl; exact rfl) | (apply e_lenl; exact rfl; exact rfl; exact (ty rfl); exact rfl; exact rfl) | (apply e_lenn; exact rfl; exact rfl; exact (ty rfl); exact rfl; exact rfl) | (apply e_add; exact rfl; exact rfl; exact rfl; exact rfl) | (apply e_mul; exact rfl; exact rfl; exact rfl; exact rfl) | (apply e_lss; exact rfl; exact rfl; exact rfl; exact rfl) | (apply e_leq; exact rfl; exact rfl; exact rfl; exact rfl) | (apply e_slss; exact rfl; exact rfl; exact rfl; exact rfl) | (apply e_sleq; exact rfl; exact rfl; exact rfl; exact rfl) | (apply e_cat; exact rfl; exact rfl; exact rfl; exact (by first | omega | (simp; done) | (simp; omega)); exact rfl) | (apply e_ixd; exact rfl; exact rfl; exact rfl; exact (ty rfl); exact rfl; exact (by first | omega | (simp; done) | (simp; omega)); exact (by first | omega | (simp; done) | (simp; omega)); exact (by first | rfl | assumption); exact rfl) | (apply e_ixa; exact rfl; exact rfl; exact rfl; exact (ty rfl); exact rfl; exact (by first | omega | (simp; done) | (simp; omega)); exact (by first | omega | (simp; done) | (simp; omega)); exact rfl; exact rfl) | (apply e_ixl; exact rfl; exact rfl; exact rfl; exact (ty rfl); exact rfl; exact rfl; exact rfl; exact (by first | omega | (simp; done) | (simp; omega)); exact (by first | omega | (simp; done) | (simp; omega)); exact rfl) | (apply e_ld1d; exact rfl; exact rfl; exact (ty rfl); exact rfl; exact rfl; exact rfl) | (apply e_ld1p; exact rfl; exact rfl; exact (ty rfl); exact rfl; exact rfl; exact (by first | rfl | assumption | ((try simp only [Nat.zero_add]); refine List.getElem?_set_self ?_; (try simp only [List.length_set]); assumption)); exact rfl; exact rfl) | (apply e_shr; exact rfl; exact rfl; exact rfl; exact (by first | omega | (simp; done) | (simp; omega)); exact rfl) | (apply e_and; exact rfl; exact rfl; exact rfl; exact rfl) | (apply e_lenx; exact rfl; exact rfl; exact (ty rfl); exact rfl; exact rfl) | (apply e_bst1; exact rfl; exact rfl; exact (ty rfl); exact rfl; exact (ty rfl); exact rfl; exact (ty rfl); exact rfl; exact rfl; exact (by first | rfl | assumption); exact rfl))
    | (show DE _ _ _ _ _ _ _ _ _ _ _ _; (first | (apply dr_nil; exact trivial) | (apply e_ldad; exact rfl; exact rfl; exact (ty rfl); exact rfl; exact rfl; exact rfl) | (apply e_ldap; exact rfl; exact rfl; exact (ty rfl); exact rfl; exact rfl; exact (by first | rfl | assumption | ((try simp only [Nat.zero_add]); refine List.getElem?_set_self ?_; (try simp only [List.length_set]); assumption)); exact rfl; exact rfl) | (apply e_store; exact rfl; exact rfl; exact (ty rfl); exact rfl; exact (by first | rfl | assumption | ((try simp only [Nat.zero_add]); refine List.getElem?_set_self ?_; (try simp only [List.length_set]); assumption)); exact rfl; exact rfl; exact rfl; exact rfl)); (try simp only [put, rowsOf, plR, List.all_cons, selE, ovr, setH, del, cellsA, splice, isV, List.nil_append, List.cons_append, List.map_cons, List.map_nil, List.length_cons, List.length_nil, List.set_cons_zero, List.set_cons_succ, List.take_succ_cons, List.take_zero, List.take_nil, List.drop_succ_cons, List.drop_zero, List.drop_nil, List.append_nil, List.all_cons, List.all_nil, Bool.and_true, Bool.true_and, Bool.and_false, Bool.false_and, Nat.reduceAdd, Nat.zero_add, Nat.add_zero, Nat.reduceEqDiff, if_true, if_false, reduceIte]))
    | (show AW _ _ _ _ _ _ _ _; first | refine aw_region ?_ | (refine aw_seqk ?_; intro K hK) | refine aw_block ?_ | (apply aw_cond_t; exact rfl; exact rfl) | (apply aw_cond_f; exact rfl; exact rfl) | (apply aw_cond_t; exact rfl; exact (by assumption)) | (apply aw_cond_f; exact rfl; exact (by assumption)) | refine aw_ret ?_ | refine aw_exit ?_ | refine aw_skip ?_ | refine aw_drawE (id := 2) [0, 1, 3, 7, 0, 16, 48, 112, 240, 511] [0, 0, 0, 1, 0, 0, 0, 1, 0, 0] mixed (by kernel_rfl) ?_ | refine aw_drawE (id := 3) [0, 1, 3, 7, 0, 16, 48, 112, 255, 511, 1023, 2047] [0, 0, 0, 1, 0, 0, 0, 1, 0, 1, 0, 0] mixed (by kernel_rfl) ?_ | refine aw_drawE (id := 6) [0, 1, 3, 7, 0, 16, 48, 112, 240, 511] [0, 0, 0, 1, 0, 0, 0, 1, 0, 0] mixed (by kernel_rfl) ?_ | (apply aw_ite; exact rfl; all_goals intro h))
    | refine thn_n ?_
    | (refine hK _ _ _ ?_; clear hK K)
    | refine thn_e ?_
    | refine thn_r ?_
    | refine inb_same ?_
    | refine inb_ne rfl ?_
    | refine inb_n ?_
    | refine inb_r ?_
    | (clear hK K; refine hK _ _ _ ?_; clear hK K)
    | (clear hK K; clear hK K; refine hK _ _ _ ?_; clear hK K)
    | (clear hK K; clear hK K; clear hK K; refine hK _ _ _ ?_; clear hK K))); all_goals (repeat (clear hK K)))
    exact finc (fun i => i) (.r1 _ _ (.tmp _ _ rfl)) rfl (fun _ _ => rfl) ⟨by rw [w1]; rfl, trivial⟩ rfl
theorem andI_bd (x : Int) : 0 ≤ andI IntKind.u64 x 255 ∧ andI IntKind.u64 x 255 ≤ 255 := by
  unfold andI
  have h : (BitVec.ofInt IntKind.u64.bits x &&& BitVec.ofInt IntKind.u64.bits 255).toNat ≤ 255 := by
    rw [BitVec.toNat_and]
    exact Nat.le_trans Nat.and_le_right (by decide)
  generalize (BitVec.ofInt IntKind.u64.bits x &&& BitVec.ofInt IntKind.u64.bits 255).toNat = z at h
  simp only [IntKind.wrap, IntKind.bits, IntKind.signed]
  simp
  omega
theorem tl_bd (x : Int) : 0 ≤ tl x ∧ tl x ≤ 255 := by
  have := andI_bd (x / 2 ^ min (Int.toNat 40) IntKind.u64.bits)
  unfold tl
  rw [IntWalk.i64_in _ (by omega)]
  exact this
theorem nx_bd {s : Sr} {k : Int} (h : s.ok k) : 0 ≤ (nx s).1 ∧ (nx s).1 ≤ 255 := by
  unfold nx
  split
  · rename_i h1
    have h0 := h.a0
    have hlt : s.a.toNat < s.c.length := by omega
    have := h.b s.c[s.a.toNat] (List.getElem_mem hlt)
    simpa [List.getD_eq_getElem?_getD, hlt] using this
  · exact tl_bd _
theorem nx_ok {s : Sr} {k : Int} (h : s.ok k) : (nx s).2.ok (k + 1) := by
  obtain ⟨h1, h2, h3, h4⟩ := h
  unfold nx
  split
  · exact ⟨h1, by dsimp only; omega, by dsimp only; omega, h4⟩
  · exact ⟨h1, by dsimp only; omega, by dsimp only; omega, h4⟩
/-- a number below n -/
def pk (s : Sr) (n : Int) : Int × Sr :=
  if n ≤ 1 then (0, s) else if 200 < n then (((nx s).1 * 256 + (nx (nx s).2).1) % n, (nx (nx s).2).2) else ((nx s).1 % n, (nx s).2)
theorem pk_bd (s : Sr) (n : Int) (hn : 1 ≤ n) : 0 ≤ (pk s n).1 ∧ (pk s n).1 < n := by
  unfold pk
  split
  · dsimp only; omega
  · split
    · exact ⟨Int.emod_nonneg _ (by omega), Int.emod_lt_of_pos _ (by omega)⟩
    · exact ⟨Int.emod_nonneg _ (by omega), Int.emod_lt_of_pos _ (by omega)⟩
theorem pk_ok {s : Sr} {k : Int} (n : Int) (h : s.ok k) : (pk s n).2.ok (k + 2) := by
  unfold pk
  split
  · exact h.mono (by omega)
  · split
    · exact (nx_ok (nx_ok h)).mono (by omega)
    · exact (nx_ok h).mono (by omega)
set_option maxRecDepth 100000 in
theorem pick_rc (b : Nat) (s : Sr) (n : Int) (h : s.ok 900000) (hn : n ≤ 1000000) (k : Nat) : RC Try.prog 59 [.ptr b 0 0, .v (.int .i64 n)] [(b, ⟨73, 3, false, [srR s]⟩)] k (.v (.int .i64 (pk s n).1)) [(b, some ⟨73, 3, false, [srR (pk s n).2]⟩)] k := by
  by_cases c1 : n ≤ 1
  · have b1 : decide (n ≤ 1) = true := by simpa using c1
    have hpk : pk s n = (0, s) := by unfold pk; rw [if_pos c1]
    rw [hpk]
    refine RC.ofc [b] 0 [.ptr 0 0 0, .v (.int .i64 n)] [(0, ⟨73, 3, false, [srR s]⟩)] (.v (.int .i64 0)) [(0, some ⟨73, 3, false, [srR s]⟩)] Try.func59 Try.ntmps59 rfl (goFn_of Try.func59 rfl (by kernel_rfl)) rfl rfl rfl rfl rfl rfl rfl rfl (by simp_all) rfl ?_
    ((repeat' (first
    | (show SQ _ _ _ _ _ _ _ _; first | apply sq_nil | (apply q_move; exact rfl; exact rfl) | (apply q_assign; exact rfl; exact rfl) | (apply q_add; exact rfl; exact rfl; exact rfl) | (apply q_mul; exact rfl; exact rfl; exact rfl) | (apply q_rem; exact rfl; exact rfl; exact rfl; exact (by first | decide | omega)) | (apply q_leq; exact rfl; exact rfl; exact rfl) | (apply q_gtr; exact rfl; exact rfl; exact rfl) | (apply q_sleq; exact rfl; exact rfl; exact rfl) | (apply q_sgtr; exact rfl; exact rfl; exact rfl) | (apply q_cat; exact rfl; exact rfl; exact rfl; exact (by first | omega | (simp; done) | (simp; omega))))
    | (show AW _ _ _ _ _ _ _ _; first | refine aw_region ?_ | (refine aw_seqk ?_; intro K hK) | refine aw_block ?_ | (apply aw_cond_t; exact rfl; exact rfl) | (apply aw_cond_f; exact rfl; exact rfl) | (apply aw_cond_t; exact rfl; exact (by assumption)) | (apply aw_cond_f; exact rfl; exact (by assumption)) | refine aw_ret ?_ | refine aw_exit ?_ | refine aw_skip ?_ | (apply aw_ite; exact rfl; all_goals intro h))
    | refine thn_n ?_
    | (refine hK _ _ _ ?_; clear hK K)
    | refine thn_e ?_
    | refine thn_r ?_
    | refine inb_same ?_
    | refine inb_ne rfl ?_
    | refine inb_n ?_
    | refine inb_r ?_
    | (clear hK K; refine hK _ _ _ ?_; clear hK K)
    | (clear hK K; clear hK K; refine hK _ _ _ ?_; clear hK K)
    | (clear hK K; clear hK K; clear hK K; refine hK _ _ _ ?_; clear hK K))); all_goals (repeat (clear hK K)))
    exact finc (fun i => i) (.r1 _ _ (.tmp _ _ rfl)) rfl (fun _ _ => rfl) ⟨rfl, trivial⟩ rfl
  · have b1 : decide (n ≤ 1) = false := by simpa using c1
    have hn0 : (n == 0) = false := by simp; omega
    by_cases c2 : 200 < n
    · have b2 : decide (200 < n) = true := by simpa using c2
      have hpk : pk s n = (((nx s).1 * 256 + (nx (nx s).2).1) % n, (nx (nx s).2).2) := by unfold pk; rw [if_neg c1, if_pos c2]
      rw [hpk]
      have h1 := nx_bd h
      have h2 := nx_bd (nx_ok h)
      have w1 : IntKind.i64.wrap ((nx s).1 * 256) = (nx s).1 * 256 := IntWalk.i64_in _ (by omega)
      have w2 : IntKind.i64.wrap ((nx s).1 * 256 + (nx (nx s).2).1) = (nx s).1 * 256 + (nx (nx s).2).1 := IntWalk.i64_in _ (by omega)
      have w3 : ((nx s).1 * 256 + (nx (nx s).2).1).tmod n = ((nx s).1 * 256 + (nx (nx s).2).1) % n := Int.tmod_eq_emod_of_nonneg (by omega)
      have w4 := Int.emod_lt_of_pos ((nx s).1 * 256 + (nx (nx s).2).1) (b := n) (by omega)
      have w5 := Int.emod_nonneg ((nx s).1 * 256 + (nx (nx s).2).1) (b := n) (by omega)
      have w6 : IntKind.i64.wrap (((nx s).1 * 256 + (nx (nx s).2).1) % n) = ((nx s).1 * 256 + (nx (nx s).2).1) % n := IntWalk.i64_in _ (by omega)
      refine RC.ofc [b] 0 [.ptr 0 0 0, .v (.int .i64 n)] [(0, ⟨73, 3, false, [srR s]⟩)] (.v (.int .i64 (((nx s).1 * 256 + (nx (nx s).2).1) % n))) [(0, some ⟨73, 3, false, [srR (nx (nx s).2).2]⟩)] Try.func59 Try.ntmps59 rfl (goFn_of Try.func59 rfl (by kernel_rfl)) rfl rfl rfl rfl rfl rfl rfl rfl (by simp_all) rfl ?_
      ((repeat' (first
    | (show SQ _ _ _ _ _ _ _ _; first | apply sq_nil | (apply q_move; exact rfl; exact rfl) | (apply q_assign; exact rfl; exact rfl) | (apply q_add; exact rfl; exact rfl; exact rfl) | (apply q_mul; exact rfl; exact rfl; exact rfl) | (apply q_rem; exact rfl; exact rfl; exact rfl; exact (by first | decide | omega)) | (apply q_leq; exact rfl; exact rfl; exact rfl) | (apply q_gtr; exact rfl; exact rfl; exact rfl) | (apply q_sleq; exact rfl; exact rfl; exact rfl) | (apply q_sgtr; exact rfl; exact rfl; exact rfl) | (apply q_cat; exact rfl; exact rfl; exact rfl; exact (by first | omega | (simp; done) | (simp; omega))))
    | (show SQ _ _ _ _ _ _ _ _; (first | (apply q_callC; exact rfl; exact rfl; exact rfl; exact next_rc 0 s (h.mono (by omega)) _; (focus ((repeat (first | exact trivial | refine ⟨by first | exact rfl | assumption, ?_⟩)); done)); skip) | (apply q_callC; exact rfl; exact rfl; exact rfl; exact next_rc 0 (nx s).2 ((nx_ok h).mono (by omega)) _; (focus ((repeat (first | exact trivial | refine ⟨by first | exact rfl | assumption, ?_⟩)); done)); skip)); (try simp only [put, rowsOf, plR, List.all_cons, selE, ovr, setH, del, cellsA, splice, isV, List.nil_append, List.cons_append, List.map_cons, List.map_nil, List.length_cons, List.length_nil, List.set_cons_zero, List.set_cons_succ, List.take_succ_cons, List.take_zero, List.take_nil, List.drop_succ_cons, List.drop_zero, List.drop_nil, List.append_nil, List.all_cons, List.all_nil, Bool.and_true, Bool.true_and, Bool.and_false, Bool.false_and, Nat.reduceAdd, Nat.zero_add, Nat.add_zero, Nat.reduceEqDiff, if_true, if_false, reduceIte]))
    | (show AW _ _ _ _ _ _ _ _; first | refine aw_region ?_ | (refine aw_seqk ?_; intro K hK) | refine aw_block ?_ | (apply aw_cond_t; exact rfl; exact rfl) | (apply aw_cond_f; exact rfl; exact rfl) | (apply aw_cond_t; exact rfl; exact (by assumption)) | (apply aw_cond_f; exact rfl; exact (by assumption)) | refine aw_ret ?_ | refine aw_exit ?_ | refine aw_skip ?_ | (apply aw_ite; exact rfl; all_goals intro h))
    | refine thn_n ?_
    | (refine hK _ _ _ ?_; clear hK K)
    | refine thn_e ?_
    | refine thn_r ?_
    | refine inb_same ?_
    | refine inb_ne rfl ?_
    | refine inb_n ?_
    | refine inb_r ?_
    | (clear hK K; refine hK _ _ _ ?_; clear hK K)
    | (clear hK K; clear hK K; refine hK _ _ _ ?_; clear hK K)
    | (clear hK K; clear hK K; clear hK K; refine hK _ _ _ ?_; clear hK K))); all_goals (repeat (clear hK K)))
      exact finc (fun i => i) (.r1 _ _ (.tmp _ _ rfl)) (by simp only [w1, w2, w3, w6]; rfl) (fun _ _ => rfl) ⟨rfl, trivial⟩ rfl
    · have b2 : decide (200 < n) = false := by simpa using c2
      have hpk : pk s n = ((nx s).1 % n, (nx s).2) := by unfold pk; rw [if_neg c1, if_neg c2]
      rw [hpk]
      have h1 := nx_bd h
      have w3 : ((nx s).1).tmod n = ((nx s).1) % n := Int.tmod_eq_emod_of_nonneg (by omega)
      have w4 := Int.emod_lt_of_pos ((nx s).1) (b := n) (by omega)
      have w5 := Int.emod_nonneg ((nx s).1) (b := n) (by omega)
      have w6 : IntKind.i64.wrap (((nx s).1) % n) = ((nx s).1) % n := IntWalk.i64_in _ (by omega)
      refine RC.ofc [b] 0 [.ptr 0 0 0, .v (.int .i64 n)] [(0, ⟨73, 3, false, [srR s]⟩)] (.v (.int .i64 (((nx s).1) % n))) [(0, some ⟨73, 3, false, [srR (nx s).2]⟩)] Try.func59 Try.ntmps59 rfl (goFn_of Try.func59 rfl (by kernel_rfl)) rfl rfl rfl rfl rfl rfl rfl rfl (by simp_all) rfl ?_
      ((repeat' (first
    | (show SQ _ _ _ _ _ _ _ _; first | apply sq_nil | (apply q_move; exact rfl; exact rfl) | (apply q_assign; exact rfl; exact rfl) | (apply q_add; exact rfl; exact rfl; exact rfl) | (apply q_mul; exact rfl; exact rfl; exact rfl) | (apply q_rem; exact rfl; exact rfl; exact rfl; exact (by first | decide | omega)) | (apply q_leq; exact rfl; exact rfl; exact rfl) | (apply q_gtr; exact rfl; exact rfl; exact rfl) | (apply q_sleq; exact rfl; exact rfl; exact rfl) | (apply q_sgtr; exact rfl; exact rfl; exact rfl) | (apply q_cat; exact rfl; exact rfl; exact rfl; exact (by first | omega | (simp; done) | (simp; omega))))
    | (show SQ _ _ _ _ _ _ _ _; (first | (apply q_callC; exact rfl; exact rfl; exact rfl; exact next_rc 0 s (h.mono (by omega)) _; (focus ((repeat (first | exact trivial | refine ⟨by first | exact rfl | assumption, ?_⟩)); done)); skip)); (try simp only [put, rowsOf, plR, List.all_cons, selE, ovr, setH, del, cellsA, splice, isV, List.nil_append, List.cons_append, List.map_cons, List.map_nil, List.length_cons, List.length_nil, List.set_cons_zero, List.set_cons_succ, List.take_succ_cons, List.take_zero, List.take_nil, List.drop_succ_cons, List.drop_zero, List.drop_nil, List.append_nil, List.all_cons, List.all_nil, Bool.and_true, Bool.true_and, Bool.and_false, Bool.false_and, Nat.reduceAdd, Nat.zero_add, Nat.add_zero, Nat.reduceEqDiff, if_true, if_false, reduceIte]))
    | (show AW _ _ _ _ _ _ _ _; first | refine aw_region ?_ | (refine aw_seqk ?_; intro K hK) | refine aw_block ?_ | (apply aw_cond_t; exact rfl; exact rfl) | (apply aw_cond_f; exact rfl; exact rfl) | (apply aw_cond_t; exact rfl; exact (by assumption)) | (apply aw_cond_f; exact rfl; exact (by assumption)) | refine aw_ret ?_ | refine aw_exit ?_ | refine aw_skip ?_ | (apply aw_ite; exact rfl; all_goals intro h))
    | refine thn_n ?_
    | (refine hK _ _ _ ?_; clear hK K)
    | refine thn_e ?_
    | refine thn_r ?_
    | refine inb_same ?_
    | refine inb_ne rfl ?_
    | refine inb_n ?_
    | refine inb_r ?_
    | (clear hK K; refine hK _ _ _ ?_; clear hK K)
    | (clear hK K; clear hK K; refine hK _ _ _ ?_; clear hK K)
    | (clear hK K; clear hK K; clear hK K; refine hK _ _ _ ?_; clear hK K))); all_goals (repeat (clear hK K)))
      exact finc (fun i => i) (.r1 _ _ (.tmp _ _ rfl)) (by simp only [w3, w6]; rfl) (fun _ _ => rfl) ⟨rfl, trivial⟩ rfl
set_option maxHeartbeats 4000000 in
theorem text_rc (b c : Nat) (s : Sr) (ws : List ByteArray) (hbc : b ≠ c) (h : s.ok 900000) (hw : 1 ≤ ws.length) (hw2 : ws.length ≤ 1000) (k : Nat) :
    RC Try.prog 67 [.ptr b 0 0, .sl c 0 ws.length] [(b, ⟨73, 3, false, [srR s]⟩), (c, ⟨9, 1, true, ws.map fun w => [.v (.string w)]⟩)] k (.v (.string (ws.getD (pk s ws.length).1.toNat .empty))) [(b, some ⟨73, 3, false, [srR (pk s ws.length).2]⟩), (c, some ⟨9, 1, true, ws.map fun w => [.v (.string w)]⟩)] k := by
  have hp := pk_bd s ws.length (by omega)
  obtain ⟨i, hi⟩ : ∃ i : Nat, (pk s ws.length).1 = i := ⟨(pk s ws.length).1.toNat, by omega⟩
  have hil : i < ws.length := by omega
  have hr2 : (ws.map fun w => [AV.v (.string w)])[0 + ((i : Int)).toNat]? = some [.v (.string ws[i])] := by simp [hil]
  have hv : ws.getD (pk s ws.length).1.toNat .empty = ws[i] := by rw [hi]; simp [hil]
  rw [hv]
  refine RC.ofc [b, c] 0 [.ptr 0 0 0, .sl 1 0 ws.length] [(0, ⟨73, 3, false, [srR s]⟩), (1, ⟨9, 1, true, ws.map fun w => [.v (.string w)]⟩)] (.v (.string ws[i])) [(0, some ⟨73, 3, false, [srR (pk s ws.length).2]⟩), (1, some ⟨9, 1, true, ws.map fun w => [.v (.string w)]⟩)] Try.func67 Try.ntmps67 rfl (goFn_of Try.func67 rfl (by kernel_rfl)) rfl rfl rfl rfl rfl rfl rfl rfl (by simp_all) rfl ?_
  have hpk := pick_rc 0 s (ws.length : Int) h (by omega)
  rw [hi] at hpk
  ((repeat' (first
    | (show SQ _ _ _ _ _ _ _ _; first | apply sq_nil | (apply q_move; exact rfl; exact rfl) | (apply q_assign; exact rfl; exact rfl) | (apply q_lens; exact rfl; exact rfl; exact (ty rfl); exact rfl) | (apply q_lend; exact rfl; exact rfl; exact (ty rfl); exact rfl) | (apply q_lenl; exact rfl; exact rfl; exact (ty rfl); exact rfl) | (apply q_lenn; exact rfl; exact rfl; exact (ty rfl); exact rfl) | (apply q_ixd; exact rfl; exact rfl; exact rfl; exact (ty rfl); exact rfl; exact (by first | omega | (simp; done) | (simp; omega)); exact (by first | omega | (simp; done) | (simp; omega)); exact (by first | rfl | assumption)) | (apply q_ixa; exact rfl; exact rfl; exact rfl; exact (ty rfl); exact rfl; exact (by first | omega | (simp; done) | (simp; omega)); exact (by first | omega | (simp; done) | (simp; omega)); exact rfl) | (apply q_ixl; exact rfl; exact rfl; exact rfl; exact (ty rfl); exact rfl; exact rfl; exact rfl; exact (by first | omega | (simp; done) | (simp; omega)); exact (by first | omega | (simp; done) | (simp; omega))) | (apply q_ld1d; exact rfl; exact rfl; exact (ty rfl); exact rfl; exact rfl) | (apply q_ld1p; exact rfl; exact rfl; exact (ty rfl); exact rfl; exact rfl; exact (by first | rfl | assumption | ((try simp only [Nat.zero_add]); refine List.getElem?_set_self ?_; (try simp only [List.length_set]); assumption)); exact rfl) | (apply q_lenx; exact rfl; exact rfl; exact (ty rfl); exact rfl))
    | (show SQ _ _ _ _ _ _ _ _; (first | (apply q_ldad; exact rfl; exact rfl; exact (ty rfl); exact rfl; exact rfl) | (apply q_ldap; exact rfl; exact rfl; exact (ty rfl); exact rfl; exact rfl; exact (by first | rfl | assumption | ((try simp only [Nat.zero_add]); refine List.getElem?_set_self ?_; (try simp only [List.length_set]); assumption)); exact rfl) | (apply q_callC; exact rfl; exact rfl; exact rfl; exact hpk _; (focus ((repeat (first | exact trivial | refine ⟨by first | exact rfl | assumption, ?_⟩)); done)); skip)); (try simp only [put, rowsOf, plR, List.all_cons, selE, ovr, setH, del, cellsA, splice, isV, List.nil_append, List.cons_append, List.map_cons, List.map_nil, List.length_cons, List.length_nil, List.set_cons_zero, List.set_cons_succ, List.take_succ_cons, List.take_zero, List.take_nil, List.drop_succ_cons, List.drop_zero, List.drop_nil, List.append_nil, List.all_cons, List.all_nil, Bool.and_true, Bool.true_and, Bool.and_false, Bool.false_and, Nat.reduceAdd, Nat.zero_add, Nat.add_zero, Nat.reduceEqDiff, if_true, if_false, reduceIte]))
    | (show AW _ _ _ _ _ _ _ _; first | refine aw_region ?_ | (refine aw_seqk ?_; intro K hK) | refine aw_block ?_ | (apply aw_cond_t; exact rfl; exact rfl) | (apply aw_cond_f; exact rfl; exact rfl) | (apply aw_cond_t; exact rfl; exact (by assumption)) | (apply aw_cond_f; exact rfl; exact (by assumption)) | refine aw_ret ?_ | refine aw_exit ?_ | refine aw_skip ?_ | (apply aw_ite; exact rfl; all_goals intro h))
    | refine thn_n ?_
    | (refine hK _ _ _ ?_; clear hK K)
    | refine thn_e ?_
    | refine thn_r ?_
    | refine inb_same ?_
    | refine inb_ne rfl ?_
    | refine inb_n ?_
    | refine inb_r ?_
    | (clear hK K; refine hK _ _ _ ?_; clear hK K)
    | (clear hK K; clear hK K; refine hK _ _ _ ?_; clear hK K)
    | (clear hK K; clear hK K; clear hK K; refine hK _ _ _ ?_; clear hK K))); all_goals (repeat (clear hK K)))
  exact finc (fun i => i) (.r1 _ _ (.tmp _ _ rfl)) rfl (fun _ _ => rfl) ⟨rfl, rfl, trivial⟩ rfl
set_option maxHeartbeats 4000000 in
theorem l00From_rc (bs : List Int) (k : Nat) : RC Try.prog 43 [.dsl 1 (byL bs)] [] k (.ptr k 0 0) [(k, some ⟨73, 3, false, [srR ⟨bs, 0, 0⟩]⟩)] (k + 1) := by
  refine RC.ofc [] 1 [.dsl 1 (byL bs)] [] (.ptr 0 0 0) [(0, some ⟨73, 3, false, [srR ⟨bs, 0, 0⟩]⟩)] Try.func43 Try.ntmps43 rfl (goFn_of Try.func43 rfl (by kernel_rfl)) rfl rfl rfl rfl rfl rfl rfl rfl (by simp_all) rfl ?_
  ((repeat' (first
    | (show SQ _ _ _ _ _ _ _ _; first | apply sq_nil | (apply q_move; exact rfl; exact rfl) | (apply q_assign; exact rfl; exact rfl) | (apply q_build; exact rfl; exact (ty rfl); exact rfl; exact rfl; exact rfl))
    | (show SQ _ _ _ _ _ _ _ _; (first | (apply q_box; exact rfl; exact rfl; exact rfl)); (try simp only [put, rowsOf, plR, List.all_cons, selE, ovr, setH, del, cellsA, splice, isV, List.nil_append, List.cons_append, List.map_cons, List.map_nil, List.length_cons, List.length_nil, List.set_cons_zero, List.set_cons_succ, List.take_succ_cons, List.take_zero, List.take_nil, List.drop_succ_cons, List.drop_zero, List.drop_nil, List.append_nil, List.all_cons, List.all_nil, Bool.and_true, Bool.true_and, Bool.and_false, Bool.false_and, Nat.reduceAdd, Nat.zero_add, Nat.add_zero, Nat.reduceEqDiff, if_true, if_false, reduceIte]))
    | (show AW _ _ _ _ _ _ _ _; first | refine aw_region ?_ | (refine aw_seqk ?_; intro K hK) | refine aw_block ?_ | (apply aw_cond_t; exact rfl; exact rfl) | (apply aw_cond_f; exact rfl; exact rfl) | (apply aw_cond_t; exact rfl; exact (by assumption)) | (apply aw_cond_f; exact rfl; exact (by assumption)) | refine aw_ret ?_ | refine aw_exit ?_ | refine aw_skip ?_ | (apply aw_ite; exact rfl; all_goals intro h))
    | refine thn_n ?_
    | (refine hK _ _ _ ?_; clear hK K)
    | refine thn_e ?_
    | refine thn_r ?_
    | refine inb_same ?_
    | refine inb_ne rfl ?_
    | refine inb_n ?_
    | refine inb_r ?_
    | (clear hK K; refine hK _ _ _ ?_; clear hK K)
    | (clear hK K; clear hK K; refine hK _ _ _ ?_; clear hK K)
    | (clear hK K; clear hK K; clear hK K; refine hK _ _ _ ?_; clear hK K))); all_goals (repeat (clear hK K)))
  exact finc (fun i => i) (.r1 _ _ (.tmp _ _ rfl)) rfl (fun _ _ => rfl) ⟨rfl, trivial⟩ rfl
end Go.Proofs.Ytmnklmaefoidbaa.Sr

-- Numbers chosen by the bytes of an input.
namespace Go.Proofs.Ytmnklmaefoidbaa.Sr
open Go Go.RowKit Go.Proofs.Ytmnklmaefoidbaa.Aw
set_option linter.unusedSimpArgs false
set_option linter.unusedVariables false
attribute [local irreducible] AW SQ Step RO RC DE Thn InB

def at8 (bs : List Int) (k n : Int) : Int := if n ≤ 1 then 0 else if (bs.length : Int) ≤ k then 0 else bs.getD k.toNat 0 % n
theorem at8_bd (bs : List Int) (k n : Int) (hn : 1 ≤ n) : 0 ≤ at8 bs k n ∧ at8 bs k n < n := by
  unfold at8
  split
  · omega
  · split
    · omega
    · exact ⟨Int.emod_nonneg _ (by omega), Int.emod_lt_of_pos _ (by omega)⟩
def wide8 (bs : List Int) (k n : Int) : Int := (256 * at8 bs k 256 + at8 bs (k + 1) 256) % n
theorem wide8_bd (bs : List Int) (k n : Int) (hn : 1 ≤ n) : 0 ≤ wide8 bs k n ∧ wide8 bs k n < n :=
  ⟨Int.emod_nonneg _ (by omega), Int.emod_lt_of_pos _ (by omega)⟩
def longB (a b : List Int) : Bool := decide (1048576 < (a.length : Int)) || decide (1048576 < (b.length : Int))
end Go.Proofs.Ytmnklmaefoidbaa.Sr
