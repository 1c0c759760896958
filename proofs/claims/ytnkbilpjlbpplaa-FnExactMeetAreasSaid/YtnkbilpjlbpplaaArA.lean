/-
  Areas and points: contracts on abstract values.
-/
import Derived.Test.YtnkbilpjlbpplaaAwDraw5
import Derived.Test.YtnkbilpjlbpplaaAwTy
namespace Go.Proofs.Ytnkbilpjlbpplaa.Ar
open Go Go.RowKit Go.Proofs.Ytnkbilpjlbpplaa.Aw
set_option linter.unusedSimpArgs false
set_option linter.unusedVariables false
set_option linter.unusedSimpArgs false
set_option linter.unusedVariables false
attribute [local irreducible] AW SQ Step RO

def I (n : Int) : AV := .v (.int .i64 n)
def Bo (b : Bool) : AV := .v (.bool b)
def inB (n lo hi : Int) : Bool := decide (lo ≤ n) && decide (n ≤ hi)
def areaB (w s e n : Int) : Bool := decide (0 ≤ w ∧ w ≤ e ∧ 0 ≤ s ∧ s ≤ n ∧ e ≤ 200000 ∧ n ≤ 200000)
def areaA (x y e n : Int) : AV := .agg [.v (.int .i64 x), .v (.int .i64 y), .v (.int .i64 e), .v (.int .i64 n)]
def pointA (x y : Int) : AV := .agg [.v (.int .i64 x), .v (.int .i64 y)]
def hasB (x y e n a b : Int) : Bool := inB a x e && inB b y n

set_option maxHeartbeats 4000000 in
theorem within_ro (n lo hi : Int) (k : Nat) : RO Try.prog 48 [.v (.int .i64 n), .v (.int .i64 lo), .v (.int .i64 hi)] k (.v (.bool (inB n lo hi))) [] k := by
  refine RO.ofv' Try.func48 Try.ntmps48 rfl (goFn_of Try.func48 rfl (by kernel_rfl)) rfl rfl ?_
  repeat (any_goals (first
    | refine aw_region ?_
    | (refine aw_seqk ?_; intro K hK)
    | refine thn_n ?_
    | refine hK _ _ _ ?_
    | (apply sq_step rfl rfl; (first | exact s_move (.inl rfl) rfl | exact s_move (.inr rfl) rfl | exact s_fieldAddr rfl (ty rfl) rfl rfl rfl (by decide) rfl | exact s_cmpI rfl rfl rfl rfl | exact s_arith rfl rfl rfl rfl | exact s_pick rfl rfl rfl | exact s_pick_t rfl rfl (by assumption) rfl | exact s_pick_f rfl rfl (by assumption) rfl | exact s_not rfl rfl | exact s_extract rfl rfl rfl | exact s_extract_v rfl rfl rfl | exact s_field rfl (ty rfl) rfl (.inl rfl) rfl rfl (.inr ⟨rfl, rfl⟩) | exact s_field rfl (ty rfl) rfl (.inl rfl) rfl rfl (.inl ⟨rfl, rfl⟩) | exact s_field rfl (ty rfl) rfl (.inr ⟨_, rfl, rfl⟩) rfl rfl (.inr ⟨rfl, rfl⟩) | exact s_cmpS rfl rfl rfl rfl | exact s_eqB false rfl (ty rfl) rfl rfl rfl | exact s_eqB true rfl (ty rfl) rfl rfl rfl | exact s_conv rfl (ty rfl) rfl (ty rfl) rfl | exact s_nilCheck rfl rfl (.inl rfl) | exact s_nilCheck rfl rfl (.inr ⟨_, _, rfl⟩) | exact s_makeFunc rfl rfl | exact s_len rfl (ty rfl) rfl (.inl ⟨rfl, _, rfl, rfl⟩) | exact s_len rfl (ty rfl) rfl (.inr ⟨_, _, _, _, rfl, .inl ⟨_, _, rfl, rfl⟩⟩) | exact s_len rfl (ty rfl) rfl (.inr ⟨_, _, _, _, rfl, .inr (.inl ⟨_, _, _, rfl, rfl⟩)⟩) | exact s_len rfl (ty rfl) rfl (.inr ⟨_, _, _, _, rfl, .inr (.inr ⟨_, _, _, rfl, rfl⟩)⟩) | exact s_neg rfl rfl | exact s_max rfl rfl rfl | exact s_min rfl rfl rfl | exact s_build rfl (ty rfl) rfl rfl rfl | exact s_load_one rfl (ty rfl) rfl (.inl rfl) rfl | exact s_load_one rfl (ty rfl) rfl (.inr ⟨_, _, _, _, _, rfl, rfl, rfl, rfl⟩) rfl | exact s_load_agg rfl (ty rfl) rfl (.inl rfl) rfl (Nat.le_of_ble_eq_true rfl) | exact s_load_agg rfl (ty rfl) rfl (.inr ⟨_, _, _, _, _, rfl, rfl, rfl, rfl⟩) rfl (Nat.le_of_ble_eq_true rfl)))
    | (apply sq_step rfl rfl; (first | exact s_box rfl rfl rfl | exact s_alloc rfl (ty rfl) rfl rfl | exact s_store rfl (ty rfl) rfl rfl rfl rfl rfl (Nat.le_of_ble_eq_true rfl) rfl); (try simp only [selE, ovr, setH, del, cellsA, splice, isV, List.nil_append, List.cons_append, List.map_cons, List.map_nil, List.length_cons, List.length_nil, List.set_cons_zero, List.set_cons_succ, List.take_succ_cons, List.take_zero, List.take_nil, List.drop_succ_cons, List.drop_zero, List.drop_nil, List.append_nil, List.all_cons, List.all_nil, Bool.and_true, Bool.true_and, Bool.and_false, Bool.false_and, Nat.reduceAdd, Nat.zero_add, Nat.add_zero, Nat.reduceEqDiff, if_true, if_false, reduceIte]))
    | refine sq_nil ?_
    | refine sq_g rfl rfl rfl (by assumption) ?_
    | refine sq_s rfl rfl rfl (by assumption) rfl ?_
    | refine sq_g rfl rfl rfl rfl ?_
    | refine sq_s rfl rfl rfl rfl rfl ?_
    | refine aw_block ?_
    | refine aw_cond_t rfl rfl ?_
    | refine aw_cond_f rfl rfl ?_
    | refine aw_cond_t rfl (by assumption) ?_
    | refine aw_cond_f rfl (by assumption) ?_
    | refine aw_ret ?_
    | refine aw_exit ?_
    | refine aw_skip ?_
    | refine thn_e ?_
    | refine thn_r ?_
    | refine inb_same ?_
    | refine inb_ne rfl ?_
    | refine inb_n ?_
    | refine inb_r ?_
    | (refine sq_gs rfl rfl rfl rfl (fun h => ?_) (fun h => ?_))
    | (refine aw_ite rfl (fun h => ?_) (fun h => ?_))
    | (clear hK K; refine hK _ _ _ ?_)
    | (clear hK K; clear hK K; refine hK _ _ _ ?_)
    | (clear hK K; clear hK K; clear hK K; refine hK _ _ _ ?_)))
  all_goals refine fin_r (fin_b rfl ?_)
  all_goals simp_all [inB]
  all_goals omega
set_option maxHeartbeats 4000000 in
theorem l00In_ro (n lo hi : Int) (k : Nat) : RO Try.prog 60 [.v (.int .i64 n), .v (.int .i64 lo), .v (.int .i64 hi)] k (.v (.bool (inB n lo hi))) [] k := by
  refine RO.ofv' Try.func60 Try.ntmps60 rfl (goFn_of Try.func60 rfl (by kernel_rfl)) rfl rfl ?_
  repeat (any_goals (first
    | refine aw_region ?_
    | (refine aw_seqk ?_; intro K hK)
    | refine thn_n ?_
    | refine hK _ _ _ ?_
    | (apply sq_step rfl rfl; (first | exact s_move (.inl rfl) rfl | exact s_move (.inr rfl) rfl | exact s_fieldAddr rfl (ty rfl) rfl rfl rfl (by decide) rfl | exact s_cmpI rfl rfl rfl rfl | exact s_arith rfl rfl rfl rfl | exact s_pick rfl rfl rfl | exact s_pick_t rfl rfl (by assumption) rfl | exact s_pick_f rfl rfl (by assumption) rfl | exact s_not rfl rfl | exact s_extract rfl rfl rfl | exact s_extract_v rfl rfl rfl | exact s_field rfl (ty rfl) rfl (.inl rfl) rfl rfl (.inr ⟨rfl, rfl⟩) | exact s_field rfl (ty rfl) rfl (.inl rfl) rfl rfl (.inl ⟨rfl, rfl⟩) | exact s_field rfl (ty rfl) rfl (.inr ⟨_, rfl, rfl⟩) rfl rfl (.inr ⟨rfl, rfl⟩) | exact s_cmpS rfl rfl rfl rfl | exact s_eqB false rfl (ty rfl) rfl rfl rfl | exact s_eqB true rfl (ty rfl) rfl rfl rfl | exact s_conv rfl (ty rfl) rfl (ty rfl) rfl | exact s_nilCheck rfl rfl (.inl rfl) | exact s_nilCheck rfl rfl (.inr ⟨_, _, rfl⟩) | exact s_makeFunc rfl rfl | exact s_len rfl (ty rfl) rfl (.inl ⟨rfl, _, rfl, rfl⟩) | exact s_len rfl (ty rfl) rfl (.inr ⟨_, _, _, _, rfl, .inl ⟨_, _, rfl, rfl⟩⟩) | exact s_len rfl (ty rfl) rfl (.inr ⟨_, _, _, _, rfl, .inr (.inl ⟨_, _, _, rfl, rfl⟩)⟩) | exact s_len rfl (ty rfl) rfl (.inr ⟨_, _, _, _, rfl, .inr (.inr ⟨_, _, _, rfl, rfl⟩)⟩) | exact s_neg rfl rfl | exact s_max rfl rfl rfl | exact s_min rfl rfl rfl | exact s_build rfl (ty rfl) rfl rfl rfl | exact s_load_one rfl (ty rfl) rfl (.inl rfl) rfl | exact s_load_one rfl (ty rfl) rfl (.inr ⟨_, _, _, _, _, rfl, rfl, rfl, rfl⟩) rfl | exact s_load_agg rfl (ty rfl) rfl (.inl rfl) rfl (Nat.le_of_ble_eq_true rfl) | exact s_load_agg rfl (ty rfl) rfl (.inr ⟨_, _, _, _, _, rfl, rfl, rfl, rfl⟩) rfl (Nat.le_of_ble_eq_true rfl)))
    | (apply sq_step rfl rfl; (first | exact s_box rfl rfl rfl | exact s_alloc rfl (ty rfl) rfl rfl | exact s_store rfl (ty rfl) rfl rfl rfl rfl rfl (Nat.le_of_ble_eq_true rfl) rfl); (try simp only [selE, ovr, setH, del, cellsA, splice, isV, List.nil_append, List.cons_append, List.map_cons, List.map_nil, List.length_cons, List.length_nil, List.set_cons_zero, List.set_cons_succ, List.take_succ_cons, List.take_zero, List.take_nil, List.drop_succ_cons, List.drop_zero, List.drop_nil, List.append_nil, List.all_cons, List.all_nil, Bool.and_true, Bool.true_and, Bool.and_false, Bool.false_and, Nat.reduceAdd, Nat.zero_add, Nat.add_zero, Nat.reduceEqDiff, if_true, if_false, reduceIte]))
    | refine sq_nil ?_
    | refine sq_g rfl rfl rfl (by assumption) ?_
    | refine sq_s rfl rfl rfl (by assumption) rfl ?_
    | refine sq_g rfl rfl rfl rfl ?_
    | refine sq_s rfl rfl rfl rfl rfl ?_
    | refine aw_block ?_
    | refine aw_cond_t rfl rfl ?_
    | refine aw_cond_f rfl rfl ?_
    | refine aw_cond_t rfl (by assumption) ?_
    | refine aw_cond_f rfl (by assumption) ?_
    | refine aw_ret ?_
    | refine aw_exit ?_
    | refine aw_skip ?_
    | refine thn_e ?_
    | refine thn_r ?_
    | refine inb_same ?_
    | refine inb_ne rfl ?_
    | refine inb_n ?_
    | refine inb_r ?_
    | (refine sq_gs rfl rfl rfl rfl (fun h => ?_) (fun h => ?_))
    | (refine aw_ite rfl (fun h => ?_) (fun h => ?_))
    | (clear hK K; refine hK _ _ _ ?_)
    | (clear hK K; clear hK K; refine hK _ _ _ ?_)
    | (clear hK K; clear hK K; clear hK K; refine hK _ _ _ ?_)))
  all_goals refine fin_r (fin_b rfl ?_)
  all_goals simp_all [inB]
  all_goals omega
set_option maxHeartbeats 4000000 in
theorem ValidArea_ro (x y e n : Int) (k : Nat) : RO Try.prog 16 [areaA x y e n] k (.v (.bool (areaB x y e n))) [] k := by
  refine RO.ofv' Try.func16 Try.ntmps16 rfl (goFn_of Try.func16 rfl (by kernel_rfl)) rfl rfl ?_
  unfold areaA
  repeat (any_goals (first
    | refine aw_region ?_
    | (refine aw_seqk ?_; intro K hK)
    | refine thn_n ?_
    | refine hK _ _ _ ?_
    | (apply sq_step rfl rfl; (first | exact s_move (.inl rfl) rfl | exact s_move (.inr rfl) rfl | exact s_fieldAddr rfl (ty rfl) rfl rfl rfl (by decide) rfl | exact s_cmpI rfl rfl rfl rfl | exact s_arith rfl rfl rfl rfl | exact s_pick rfl rfl rfl | exact s_pick_t rfl rfl (by assumption) rfl | exact s_pick_f rfl rfl (by assumption) rfl | exact s_not rfl rfl | exact s_extract rfl rfl rfl | exact s_extract_v rfl rfl rfl | exact s_field rfl (ty rfl) rfl (.inl rfl) rfl rfl (.inr ⟨rfl, rfl⟩) | exact s_field rfl (ty rfl) rfl (.inl rfl) rfl rfl (.inl ⟨rfl, rfl⟩) | exact s_field rfl (ty rfl) rfl (.inr ⟨_, rfl, rfl⟩) rfl rfl (.inr ⟨rfl, rfl⟩) | exact s_cmpS rfl rfl rfl rfl | exact s_eqB false rfl (ty rfl) rfl rfl rfl | exact s_eqB true rfl (ty rfl) rfl rfl rfl | exact s_conv rfl (ty rfl) rfl (ty rfl) rfl | exact s_nilCheck rfl rfl (.inl rfl) | exact s_nilCheck rfl rfl (.inr ⟨_, _, rfl⟩) | exact s_makeFunc rfl rfl | exact s_len rfl (ty rfl) rfl (.inl ⟨rfl, _, rfl, rfl⟩) | exact s_len rfl (ty rfl) rfl (.inr ⟨_, _, _, _, rfl, .inl ⟨_, _, rfl, rfl⟩⟩) | exact s_len rfl (ty rfl) rfl (.inr ⟨_, _, _, _, rfl, .inr (.inl ⟨_, _, _, rfl, rfl⟩)⟩) | exact s_len rfl (ty rfl) rfl (.inr ⟨_, _, _, _, rfl, .inr (.inr ⟨_, _, _, rfl, rfl⟩)⟩) | exact s_neg rfl rfl | exact s_max rfl rfl rfl | exact s_min rfl rfl rfl | exact s_build rfl (ty rfl) rfl rfl rfl | exact s_load_one rfl (ty rfl) rfl (.inl rfl) rfl | exact s_load_one rfl (ty rfl) rfl (.inr ⟨_, _, _, _, _, rfl, rfl, rfl, rfl⟩) rfl | exact s_load_agg rfl (ty rfl) rfl (.inl rfl) rfl (Nat.le_of_ble_eq_true rfl) | exact s_load_agg rfl (ty rfl) rfl (.inr ⟨_, _, _, _, _, rfl, rfl, rfl, rfl⟩) rfl (Nat.le_of_ble_eq_true rfl) | exact s_call rfl rfl rfl rfl (within_ro _ _ _ _)))
    | (apply sq_step rfl rfl; (first | exact s_box rfl rfl rfl | exact s_alloc rfl (ty rfl) rfl rfl | exact s_store rfl (ty rfl) rfl rfl rfl rfl rfl (Nat.le_of_ble_eq_true rfl) rfl); (try simp only [selE, ovr, setH, del, cellsA, splice, isV, List.nil_append, List.cons_append, List.map_cons, List.map_nil, List.length_cons, List.length_nil, List.set_cons_zero, List.set_cons_succ, List.take_succ_cons, List.take_zero, List.take_nil, List.drop_succ_cons, List.drop_zero, List.drop_nil, List.append_nil, List.all_cons, List.all_nil, Bool.and_true, Bool.true_and, Bool.and_false, Bool.false_and, Nat.reduceAdd, Nat.zero_add, Nat.add_zero, Nat.reduceEqDiff, if_true, if_false, reduceIte]))
    | refine sq_nil ?_
    | refine sq_g rfl rfl rfl (by assumption) ?_
    | refine sq_s rfl rfl rfl (by assumption) rfl ?_
    | refine sq_g rfl rfl rfl rfl ?_
    | refine sq_s rfl rfl rfl rfl rfl ?_
    | refine aw_block ?_
    | refine aw_cond_t rfl rfl ?_
    | refine aw_cond_f rfl rfl ?_
    | refine aw_cond_t rfl (by assumption) ?_
    | refine aw_cond_f rfl (by assumption) ?_
    | refine aw_ret ?_
    | refine aw_exit ?_
    | refine aw_skip ?_
    | refine thn_e ?_
    | refine thn_r ?_
    | refine inb_same ?_
    | refine inb_ne rfl ?_
    | refine inb_n ?_
    | refine inb_r ?_
    | (refine sq_gs rfl rfl rfl rfl (fun h => ?_) (fun h => ?_))
    | (refine aw_ite rfl (fun h => ?_) (fun h => ?_))
    | (clear hK K; refine hK _ _ _ ?_)
    | (clear hK K; clear hK K; refine hK _ _ _ ?_)
    | (clear hK K; clear hK K; clear hK K; refine hK _ _ _ ?_)))
  all_goals refine fin_r (fin_b rfl ?_)
  all_goals simp_all [inB, areaB]
  all_goals omega
set_option maxHeartbeats 4000000 in
theorem l26Area_ro (x y e n : Int) (k : Nat) : RO Try.prog 47 [areaA x y e n] k (.v (.bool (areaB x y e n))) [] k := by
  refine RO.ofv' Try.func47 Try.ntmps47 rfl (goFn_of Try.func47 rfl (by kernel_rfl)) rfl rfl ?_
  unfold areaA
  repeat (any_goals (first
    | refine aw_region ?_
    | (refine aw_seqk ?_; intro K hK)
    | refine thn_n ?_
    | refine hK _ _ _ ?_
    | (apply sq_step rfl rfl; (first | exact s_move (.inl rfl) rfl | exact s_move (.inr rfl) rfl | exact s_fieldAddr rfl (ty rfl) rfl rfl rfl (by decide) rfl | exact s_cmpI rfl rfl rfl rfl | exact s_arith rfl rfl rfl rfl | exact s_pick rfl rfl rfl | exact s_pick_t rfl rfl (by assumption) rfl | exact s_pick_f rfl rfl (by assumption) rfl | exact s_not rfl rfl | exact s_extract rfl rfl rfl | exact s_extract_v rfl rfl rfl | exact s_field rfl (ty rfl) rfl (.inl rfl) rfl rfl (.inr ⟨rfl, rfl⟩) | exact s_field rfl (ty rfl) rfl (.inl rfl) rfl rfl (.inl ⟨rfl, rfl⟩) | exact s_field rfl (ty rfl) rfl (.inr ⟨_, rfl, rfl⟩) rfl rfl (.inr ⟨rfl, rfl⟩) | exact s_cmpS rfl rfl rfl rfl | exact s_eqB false rfl (ty rfl) rfl rfl rfl | exact s_eqB true rfl (ty rfl) rfl rfl rfl | exact s_conv rfl (ty rfl) rfl (ty rfl) rfl | exact s_nilCheck rfl rfl (.inl rfl) | exact s_nilCheck rfl rfl (.inr ⟨_, _, rfl⟩) | exact s_makeFunc rfl rfl | exact s_len rfl (ty rfl) rfl (.inl ⟨rfl, _, rfl, rfl⟩) | exact s_len rfl (ty rfl) rfl (.inr ⟨_, _, _, _, rfl, .inl ⟨_, _, rfl, rfl⟩⟩) | exact s_len rfl (ty rfl) rfl (.inr ⟨_, _, _, _, rfl, .inr (.inl ⟨_, _, _, rfl, rfl⟩)⟩) | exact s_len rfl (ty rfl) rfl (.inr ⟨_, _, _, _, rfl, .inr (.inr ⟨_, _, _, rfl, rfl⟩)⟩) | exact s_neg rfl rfl | exact s_max rfl rfl rfl | exact s_min rfl rfl rfl | exact s_build rfl (ty rfl) rfl rfl rfl | exact s_load_one rfl (ty rfl) rfl (.inl rfl) rfl | exact s_load_one rfl (ty rfl) rfl (.inr ⟨_, _, _, _, _, rfl, rfl, rfl, rfl⟩) rfl | exact s_load_agg rfl (ty rfl) rfl (.inl rfl) rfl (Nat.le_of_ble_eq_true rfl) | exact s_load_agg rfl (ty rfl) rfl (.inr ⟨_, _, _, _, _, rfl, rfl, rfl, rfl⟩) rfl (Nat.le_of_ble_eq_true rfl) | exact s_call rfl rfl rfl rfl (l00In_ro _ _ _ _)))
    | (apply sq_step rfl rfl; (first | exact s_box rfl rfl rfl | exact s_alloc rfl (ty rfl) rfl rfl | exact s_store rfl (ty rfl) rfl rfl rfl rfl rfl (Nat.le_of_ble_eq_true rfl) rfl); (try simp only [selE, ovr, setH, del, cellsA, splice, isV, List.nil_append, List.cons_append, List.map_cons, List.map_nil, List.length_cons, List.length_nil, List.set_cons_zero, List.set_cons_succ, List.take_succ_cons, List.take_zero, List.take_nil, List.drop_succ_cons, List.drop_zero, List.drop_nil, List.append_nil, List.all_cons, List.all_nil, Bool.and_true, Bool.true_and, Bool.and_false, Bool.false_and, Nat.reduceAdd, Nat.zero_add, Nat.add_zero, Nat.reduceEqDiff, if_true, if_false, reduceIte]))
    | refine sq_nil ?_
    | refine sq_g rfl rfl rfl (by assumption) ?_
    | refine sq_s rfl rfl rfl (by assumption) rfl ?_
    | refine sq_g rfl rfl rfl rfl ?_
    | refine sq_s rfl rfl rfl rfl rfl ?_
    | refine aw_block ?_
    | refine aw_cond_t rfl rfl ?_
    | refine aw_cond_f rfl rfl ?_
    | refine aw_cond_t rfl (by assumption) ?_
    | refine aw_cond_f rfl (by assumption) ?_
    | refine aw_ret ?_
    | refine aw_exit ?_
    | refine aw_skip ?_
    | refine thn_e ?_
    | refine thn_r ?_
    | refine inb_same ?_
    | refine inb_ne rfl ?_
    | refine inb_n ?_
    | refine inb_r ?_
    | (refine sq_gs rfl rfl rfl rfl (fun h => ?_) (fun h => ?_))
    | (refine aw_ite rfl (fun h => ?_) (fun h => ?_))
    | (clear hK K; refine hK _ _ _ ?_)
    | (clear hK K; clear hK K; refine hK _ _ _ ?_)
    | (clear hK K; clear hK K; clear hK K; refine hK _ _ _ ?_)))
  all_goals refine fin_r (fin_b rfl ?_)
  all_goals simp_all [inB, areaB]
  all_goals omega
set_option maxHeartbeats 4000000 in
theorem l00Max_ro (n m : Int) (k : Nat) : RO Try.prog 71 [.v (.int .i64 n), .v (.int .i64 m)] k (.v (.int .i64 (mxI n m))) [] k := by
  refine RO.ofv' Try.func71 Try.ntmps71 rfl (goFn_of Try.func71 rfl (by kernel_rfl)) rfl rfl ?_
  repeat (any_goals (first
    | refine aw_region ?_
    | (refine aw_seqk ?_; intro K hK)
    | refine thn_n ?_
    | refine hK _ _ _ ?_
    | (apply sq_step rfl rfl; (first | exact s_move (.inl rfl) rfl | exact s_move (.inr rfl) rfl | exact s_fieldAddr rfl (ty rfl) rfl rfl rfl (by decide) rfl | exact s_cmpI rfl rfl rfl rfl | exact s_arith rfl rfl rfl rfl | exact s_pick rfl rfl rfl | exact s_pick_t rfl rfl (by assumption) rfl | exact s_pick_f rfl rfl (by assumption) rfl | exact s_not rfl rfl | exact s_extract rfl rfl rfl | exact s_extract_v rfl rfl rfl | exact s_field rfl (ty rfl) rfl (.inl rfl) rfl rfl (.inr ⟨rfl, rfl⟩) | exact s_field rfl (ty rfl) rfl (.inl rfl) rfl rfl (.inl ⟨rfl, rfl⟩) | exact s_field rfl (ty rfl) rfl (.inr ⟨_, rfl, rfl⟩) rfl rfl (.inr ⟨rfl, rfl⟩) | exact s_cmpS rfl rfl rfl rfl | exact s_eqB false rfl (ty rfl) rfl rfl rfl | exact s_eqB true rfl (ty rfl) rfl rfl rfl | exact s_conv rfl (ty rfl) rfl (ty rfl) rfl | exact s_nilCheck rfl rfl (.inl rfl) | exact s_nilCheck rfl rfl (.inr ⟨_, _, rfl⟩) | exact s_makeFunc rfl rfl | exact s_len rfl (ty rfl) rfl (.inl ⟨rfl, _, rfl, rfl⟩) | exact s_len rfl (ty rfl) rfl (.inr ⟨_, _, _, _, rfl, .inl ⟨_, _, rfl, rfl⟩⟩) | exact s_len rfl (ty rfl) rfl (.inr ⟨_, _, _, _, rfl, .inr (.inl ⟨_, _, _, rfl, rfl⟩)⟩) | exact s_len rfl (ty rfl) rfl (.inr ⟨_, _, _, _, rfl, .inr (.inr ⟨_, _, _, rfl, rfl⟩)⟩) | exact s_neg rfl rfl | exact s_max rfl rfl rfl | exact s_min rfl rfl rfl | exact s_build rfl (ty rfl) rfl rfl rfl | exact s_load_one rfl (ty rfl) rfl (.inl rfl) rfl | exact s_load_one rfl (ty rfl) rfl (.inr ⟨_, _, _, _, _, rfl, rfl, rfl, rfl⟩) rfl | exact s_load_agg rfl (ty rfl) rfl (.inl rfl) rfl (Nat.le_of_ble_eq_true rfl) | exact s_load_agg rfl (ty rfl) rfl (.inr ⟨_, _, _, _, _, rfl, rfl, rfl, rfl⟩) rfl (Nat.le_of_ble_eq_true rfl)))
    | (apply sq_step rfl rfl; (first | exact s_box rfl rfl rfl | exact s_alloc rfl (ty rfl) rfl rfl | exact s_store rfl (ty rfl) rfl rfl rfl rfl rfl (Nat.le_of_ble_eq_true rfl) rfl); (try simp only [selE, ovr, setH, del, cellsA, splice, isV, List.nil_append, List.cons_append, List.map_cons, List.map_nil, List.length_cons, List.length_nil, List.set_cons_zero, List.set_cons_succ, List.take_succ_cons, List.take_zero, List.take_nil, List.drop_succ_cons, List.drop_zero, List.drop_nil, List.append_nil, List.all_cons, List.all_nil, Bool.and_true, Bool.true_and, Bool.and_false, Bool.false_and, Nat.reduceAdd, Nat.zero_add, Nat.add_zero, Nat.reduceEqDiff, if_true, if_false, reduceIte]))
    | refine sq_nil ?_
    | refine sq_g rfl rfl rfl (by assumption) ?_
    | refine sq_s rfl rfl rfl (by assumption) rfl ?_
    | refine sq_g rfl rfl rfl rfl ?_
    | refine sq_s rfl rfl rfl rfl rfl ?_
    | refine aw_block ?_
    | refine aw_cond_t rfl rfl ?_
    | refine aw_cond_f rfl rfl ?_
    | refine aw_cond_t rfl (by assumption) ?_
    | refine aw_cond_f rfl (by assumption) ?_
    | refine aw_ret ?_
    | refine aw_exit ?_
    | refine aw_skip ?_
    | refine thn_e ?_
    | refine thn_r ?_
    | refine inb_same ?_
    | refine inb_ne rfl ?_
    | refine inb_n ?_
    | refine inb_r ?_
    | (refine sq_gs rfl rfl rfl rfl (fun h => ?_) (fun h => ?_))
    | (refine aw_ite rfl (fun h => ?_) (fun h => ?_))
    | (clear hK K; refine hK _ _ _ ?_)
    | (clear hK K; clear hK K; refine hK _ _ _ ?_)
    | (clear hK K; clear hK K; clear hK K; refine hK _ _ _ ?_)))
  all_goals refine fin_r (fin_i rfl ?_)
  all_goals simp_all [mxI]
  all_goals omega
set_option maxHeartbeats 4000000 in
theorem l00Min_ro (n m : Int) (k : Nat) : RO Try.prog 72 [.v (.int .i64 n), .v (.int .i64 m)] k (.v (.int .i64 (mnI n m))) [] k := by
  refine RO.ofv' Try.func72 Try.ntmps72 rfl (goFn_of Try.func72 rfl (by kernel_rfl)) rfl rfl ?_
  repeat (any_goals (first
    | refine aw_region ?_
    | (refine aw_seqk ?_; intro K hK)
    | refine thn_n ?_
    | refine hK _ _ _ ?_
    | (apply sq_step rfl rfl; (first | exact s_move (.inl rfl) rfl | exact s_move (.inr rfl) rfl | exact s_fieldAddr rfl (ty rfl) rfl rfl rfl (by decide) rfl | exact s_cmpI rfl rfl rfl rfl | exact s_arith rfl rfl rfl rfl | exact s_pick rfl rfl rfl | exact s_pick_t rfl rfl (by assumption) rfl | exact s_pick_f rfl rfl (by assumption) rfl | exact s_not rfl rfl | exact s_extract rfl rfl rfl | exact s_extract_v rfl rfl rfl | exact s_field rfl (ty rfl) rfl (.inl rfl) rfl rfl (.inr ⟨rfl, rfl⟩) | exact s_field rfl (ty rfl) rfl (.inl rfl) rfl rfl (.inl ⟨rfl, rfl⟩) | exact s_field rfl (ty rfl) rfl (.inr ⟨_, rfl, rfl⟩) rfl rfl (.inr ⟨rfl, rfl⟩) | exact s_cmpS rfl rfl rfl rfl | exact s_eqB false rfl (ty rfl) rfl rfl rfl | exact s_eqB true rfl (ty rfl) rfl rfl rfl | exact s_conv rfl (ty rfl) rfl (ty rfl) rfl | exact s_nilCheck rfl rfl (.inl rfl) | exact s_nilCheck rfl rfl (.inr ⟨_, _, rfl⟩) | exact s_makeFunc rfl rfl | exact s_len rfl (ty rfl) rfl (.inl ⟨rfl, _, rfl, rfl⟩) | exact s_len rfl (ty rfl) rfl (.inr ⟨_, _, _, _, rfl, .inl ⟨_, _, rfl, rfl⟩⟩) | exact s_len rfl (ty rfl) rfl (.inr ⟨_, _, _, _, rfl, .inr (.inl ⟨_, _, _, rfl, rfl⟩)⟩) | exact s_len rfl (ty rfl) rfl (.inr ⟨_, _, _, _, rfl, .inr (.inr ⟨_, _, _, rfl, rfl⟩)⟩) | exact s_neg rfl rfl | exact s_max rfl rfl rfl | exact s_min rfl rfl rfl | exact s_build rfl (ty rfl) rfl rfl rfl | exact s_load_one rfl (ty rfl) rfl (.inl rfl) rfl | exact s_load_one rfl (ty rfl) rfl (.inr ⟨_, _, _, _, _, rfl, rfl, rfl, rfl⟩) rfl | exact s_load_agg rfl (ty rfl) rfl (.inl rfl) rfl (Nat.le_of_ble_eq_true rfl) | exact s_load_agg rfl (ty rfl) rfl (.inr ⟨_, _, _, _, _, rfl, rfl, rfl, rfl⟩) rfl (Nat.le_of_ble_eq_true rfl)))
    | (apply sq_step rfl rfl; (first | exact s_box rfl rfl rfl | exact s_alloc rfl (ty rfl) rfl rfl | exact s_store rfl (ty rfl) rfl rfl rfl rfl rfl (Nat.le_of_ble_eq_true rfl) rfl); (try simp only [selE, ovr, setH, del, cellsA, splice, isV, List.nil_append, List.cons_append, List.map_cons, List.map_nil, List.length_cons, List.length_nil, List.set_cons_zero, List.set_cons_succ, List.take_succ_cons, List.take_zero, List.take_nil, List.drop_succ_cons, List.drop_zero, List.drop_nil, List.append_nil, List.all_cons, List.all_nil, Bool.and_true, Bool.true_and, Bool.and_false, Bool.false_and, Nat.reduceAdd, Nat.zero_add, Nat.add_zero, Nat.reduceEqDiff, if_true, if_false, reduceIte]))
    | refine sq_nil ?_
    | refine sq_g rfl rfl rfl (by assumption) ?_
    | refine sq_s rfl rfl rfl (by assumption) rfl ?_
    | refine sq_g rfl rfl rfl rfl ?_
    | refine sq_s rfl rfl rfl rfl rfl ?_
    | refine aw_block ?_
    | refine aw_cond_t rfl rfl ?_
    | refine aw_cond_f rfl rfl ?_
    | refine aw_cond_t rfl (by assumption) ?_
    | refine aw_cond_f rfl (by assumption) ?_
    | refine aw_ret ?_
    | refine aw_exit ?_
    | refine aw_skip ?_
    | refine thn_e ?_
    | refine thn_r ?_
    | refine inb_same ?_
    | refine inb_ne rfl ?_
    | refine inb_n ?_
    | refine inb_r ?_
    | (refine sq_gs rfl rfl rfl rfl (fun h => ?_) (fun h => ?_))
    | (refine aw_ite rfl (fun h => ?_) (fun h => ?_))
    | (clear hK K; refine hK _ _ _ ?_)
    | (clear hK K; clear hK K; refine hK _ _ _ ?_)
    | (clear hK K; clear hK K; clear hK K; refine hK _ _ _ ?_)))
  all_goals refine fin_r (fin_i rfl ?_)
  all_goals simp_all [mnI]
  all_goals omega
set_option maxHeartbeats 4000000 in
theorem l26Meet_ro (x y e n x' y' e' n' : Int) (k : Nat) : RO Try.prog 50 [areaA x y e n, areaA x' y' e' n'] k (areaA (mxI x x') (mxI y y') (mnI e e') (mnI n n')) [] k := by
  refine RO.ofp Try.func50 Try.ntmps50 rfl (goFn_of Try.func50 rfl (by kernel_rfl)) rfl rfl rfl ?_
  unfold areaA
  repeat (any_goals (first
    | refine aw_region ?_
    | (refine aw_seqk ?_; intro K hK)
    | refine thn_n ?_
    | refine hK _ _ _ ?_
    | (apply sq_step rfl rfl; (first | exact s_move (.inl rfl) rfl | exact s_move (.inr rfl) rfl | exact s_fieldAddr rfl (ty rfl) rfl rfl rfl (by decide) rfl | exact s_cmpI rfl rfl rfl rfl | exact s_arith rfl rfl rfl rfl | exact s_pick rfl rfl rfl | exact s_pick_t rfl rfl (by assumption) rfl | exact s_pick_f rfl rfl (by assumption) rfl | exact s_not rfl rfl | exact s_extract rfl rfl rfl | exact s_extract_v rfl rfl rfl | exact s_field rfl (ty rfl) rfl (.inl rfl) rfl rfl (.inr ⟨rfl, rfl⟩) | exact s_field rfl (ty rfl) rfl (.inl rfl) rfl rfl (.inl ⟨rfl, rfl⟩) | exact s_field rfl (ty rfl) rfl (.inr ⟨_, rfl, rfl⟩) rfl rfl (.inr ⟨rfl, rfl⟩) | exact s_cmpS rfl rfl rfl rfl | exact s_eqB false rfl (ty rfl) rfl rfl rfl | exact s_eqB true rfl (ty rfl) rfl rfl rfl | exact s_conv rfl (ty rfl) rfl (ty rfl) rfl | exact s_nilCheck rfl rfl (.inl rfl) | exact s_nilCheck rfl rfl (.inr ⟨_, _, rfl⟩) | exact s_makeFunc rfl rfl | exact s_len rfl (ty rfl) rfl (.inl ⟨rfl, _, rfl, rfl⟩) | exact s_len rfl (ty rfl) rfl (.inr ⟨_, _, _, _, rfl, .inl ⟨_, _, rfl, rfl⟩⟩) | exact s_len rfl (ty rfl) rfl (.inr ⟨_, _, _, _, rfl, .inr (.inl ⟨_, _, _, rfl, rfl⟩)⟩) | exact s_len rfl (ty rfl) rfl (.inr ⟨_, _, _, _, rfl, .inr (.inr ⟨_, _, _, rfl, rfl⟩)⟩) | exact s_neg rfl rfl | exact s_max rfl rfl rfl | exact s_min rfl rfl rfl | exact s_build rfl (ty rfl) rfl rfl rfl | exact s_load_one rfl (ty rfl) rfl (.inl rfl) rfl | exact s_load_one rfl (ty rfl) rfl (.inr ⟨_, _, _, _, _, rfl, rfl, rfl, rfl⟩) rfl | exact s_load_agg rfl (ty rfl) rfl (.inl rfl) rfl (Nat.le_of_ble_eq_true rfl) | exact s_load_agg rfl (ty rfl) rfl (.inr ⟨_, _, _, _, _, rfl, rfl, rfl, rfl⟩) rfl (Nat.le_of_ble_eq_true rfl) | exact s_call rfl rfl rfl rfl (l00Max_ro _ _ _) | exact s_call rfl rfl rfl rfl (l00Min_ro _ _ _)))
    | (apply sq_step rfl rfl; (first | exact s_box rfl rfl rfl | exact s_alloc rfl (ty rfl) rfl rfl | exact s_store rfl (ty rfl) rfl rfl rfl rfl rfl (Nat.le_of_ble_eq_true rfl) rfl); (try simp only [selE, ovr, setH, del, cellsA, splice, isV, List.nil_append, List.cons_append, List.map_cons, List.map_nil, List.length_cons, List.length_nil, List.set_cons_zero, List.set_cons_succ, List.take_succ_cons, List.take_zero, List.take_nil, List.drop_succ_cons, List.drop_zero, List.drop_nil, List.append_nil, List.all_cons, List.all_nil, Bool.and_true, Bool.true_and, Bool.and_false, Bool.false_and, Nat.reduceAdd, Nat.zero_add, Nat.add_zero, Nat.reduceEqDiff, if_true, if_false, reduceIte]))
    | refine sq_nil ?_
    | refine sq_g rfl rfl rfl (by assumption) ?_
    | refine sq_s rfl rfl rfl (by assumption) rfl ?_
    | refine sq_g rfl rfl rfl rfl ?_
    | refine sq_s rfl rfl rfl rfl rfl ?_
    | refine aw_drawE (id := 1) [0, 1, 0, 4, 15, 0, 32, 0, 128, 511, 0, 1024, 0, 4096, 16383, 0, 32768, 0, 131072, 524287, 1048575, 2097151] [0, 1, 0, 1, 1, 0, 1, 0, 1, 1, 0, 1, 0, 1, 1, 0, 1, 0, 1, 1, 0, 2] mixed (by kernel_rfl) ?_
    | (apply dr_0 rfl rfl rfl; (intro H n; (first | exact s_move (.inl rfl) rfl | exact s_move (.inr rfl) rfl | exact s_fieldAddr rfl (ty rfl) rfl rfl rfl (by decide) rfl | exact s_cmpI rfl rfl rfl rfl | exact s_arith rfl rfl rfl rfl | exact s_pick rfl rfl rfl | exact s_pick_t rfl rfl (by assumption) rfl | exact s_pick_f rfl rfl (by assumption) rfl | exact s_not rfl rfl | exact s_extract rfl rfl rfl | exact s_extract_v rfl rfl rfl | exact s_field rfl (ty rfl) rfl (.inl rfl) rfl rfl (.inr ⟨rfl, rfl⟩) | exact s_field rfl (ty rfl) rfl (.inl rfl) rfl rfl (.inl ⟨rfl, rfl⟩) | exact s_field rfl (ty rfl) rfl (.inr ⟨_, rfl, rfl⟩) rfl rfl (.inr ⟨rfl, rfl⟩) | exact s_cmpS rfl rfl rfl rfl | exact s_eqB false rfl (ty rfl) rfl rfl rfl | exact s_eqB true rfl (ty rfl) rfl rfl rfl | exact s_conv rfl (ty rfl) rfl (ty rfl) rfl | exact s_nilCheck rfl rfl (.inl rfl) | exact s_nilCheck rfl rfl (.inr ⟨_, _, rfl⟩) | exact s_makeFunc rfl rfl | exact s_len rfl (ty rfl) rfl (.inl ⟨rfl, _, rfl, rfl⟩) | exact s_len rfl (ty rfl) rfl (.inr ⟨_, _, _, _, rfl, .inl ⟨_, _, rfl, rfl⟩⟩) | exact s_len rfl (ty rfl) rfl (.inr ⟨_, _, _, _, rfl, .inr (.inl ⟨_, _, _, rfl, rfl⟩)⟩) | exact s_len rfl (ty rfl) rfl (.inr ⟨_, _, _, _, rfl, .inr (.inr ⟨_, _, _, rfl, rfl⟩)⟩) | exact s_neg rfl rfl | exact s_max rfl rfl rfl | exact s_min rfl rfl rfl | exact s_build rfl (ty rfl) rfl rfl rfl)))
    | (apply dr_1 rfl rfl rfl; (first | exact s_load_one rfl (ty rfl) rfl (.inl rfl) rfl | exact s_load_one rfl (ty rfl) rfl (.inr ⟨_, _, _, _, _, rfl, rfl, rfl, rfl⟩) rfl | exact s_load_agg rfl (ty rfl) rfl (.inl rfl) rfl (Nat.le_of_ble_eq_true rfl) | exact s_load_agg rfl (ty rfl) rfl (.inr ⟨_, _, _, _, _, rfl, rfl, rfl, rfl⟩) rfl (Nat.le_of_ble_eq_true rfl)))
    | (apply dr_n rfl rfl rfl; (first | exact s_box rfl rfl rfl | exact s_alloc rfl (ty rfl) rfl rfl); (try simp only [selE, ovr, setH, del, cellsA, splice, isV, List.nil_append, List.cons_append, List.map_cons, List.map_nil, List.length_cons, List.length_nil, List.set_cons_zero, List.set_cons_succ, List.take_succ_cons, List.take_zero, List.take_nil, List.drop_succ_cons, List.drop_zero, List.drop_nil, List.append_nil, List.all_cons, List.all_nil, Bool.and_true, Bool.true_and, Bool.and_false, Bool.false_and, Nat.reduceAdd, Nat.zero_add, Nat.add_zero, Nat.reduceEqDiff, if_true, if_false, reduceIte]))
    | refine dr_c rfl rfl rfl rfl rfl rfl rfl (l00Max_ro _ _ _) ?_
    | refine dr_c rfl rfl rfl rfl rfl rfl rfl (l00Min_ro _ _ _) ?_
    | refine dr_cU rfl rfl rfl rfl rfl rfl rfl (l00Max_ro _ _ _) ?_
    | refine dr_cU rfl rfl rfl rfl rfl rfl rfl (l00Min_ro _ _ _) ?_
    | (refine dr_2 rfl rfl rfl (s_store rfl (ty rfl) rfl rfl rfl rfl rfl (Nat.le_of_ble_eq_true rfl) rfl) rfl ?_; (try simp only [selE, ovr, setH, del, cellsA, splice, isV, List.nil_append, List.cons_append, List.map_cons, List.map_nil, List.length_cons, List.length_nil, List.set_cons_zero, List.set_cons_succ, List.take_succ_cons, List.take_zero, List.take_nil, List.drop_succ_cons, List.drop_zero, List.drop_nil, List.append_nil, List.all_cons, List.all_nil, Bool.and_true, Bool.true_and, Bool.and_false, Bool.false_and, Nat.reduceAdd, Nat.zero_add, Nat.add_zero, Nat.reduceEqDiff, if_true, if_false, reduceIte]))
    | refine dr_g rfl rfl rfl (by assumption) ?_
    | refine dr_s rfl rfl rfl (by assumption) rfl ?_
    | refine dr_g rfl rfl rfl rfl ?_
    | refine dr_s rfl rfl rfl rfl rfl ?_
    | (refine dr_nil ?_; (try simp only [selE, ovr, setH, del, cellsA, splice, isV, List.nil_append, List.cons_append, List.map_cons, List.map_nil, List.length_cons, List.length_nil, List.set_cons_zero, List.set_cons_succ, List.take_succ_cons, List.take_zero, List.take_nil, List.drop_succ_cons, List.drop_zero, List.drop_nil, List.append_nil, List.all_cons, List.all_nil, Bool.and_true, Bool.true_and, Bool.and_false, Bool.false_and, Nat.reduceAdd, Nat.zero_add, Nat.add_zero, Nat.reduceEqDiff, if_true, if_false, reduceIte]))
    | refine aw_block ?_
    | refine aw_cond_t rfl rfl ?_
    | refine aw_cond_f rfl rfl ?_
    | refine aw_cond_t rfl (by assumption) ?_
    | refine aw_cond_f rfl (by assumption) ?_
    | refine aw_ret ?_
    | refine aw_exit ?_
    | refine aw_skip ?_
    | refine thn_e ?_
    | refine thn_r ?_
    | refine inb_same ?_
    | refine inb_ne rfl ?_
    | refine inb_n ?_
    | refine inb_r ?_
    | (refine sq_gs rfl rfl rfl rfl (fun h => ?_) (fun h => ?_))
    | (refine dr_gs rfl rfl rfl rfl (fun h => ?_) (fun h => ?_))
    | (refine aw_ite rfl (fun h => ?_) (fun h => ?_))
    | (clear hK K; refine hK _ _ _ ?_)
    | (clear hK K; clear hK K; refine hK _ _ _ ?_)
    | (clear hK K; clear hK K; clear hK K; refine hK _ _ _ ?_)))
  refine fin_r (fin_p (.r1 _ _ (.agg _ _ _ _ _ rfl (.inr ⟨_, _, _, _, _, rfl, rfl, rfl, rfl⟩) (ty rfl) rfl (Nat.le_of_ble_eq_true rfl))) ?_ rfl rfl rfl)
  rfl
def okB (x y e n x' y' e' n' : Int) : Bool := areaB x y e n && areaB x' y' e' n' && areaB (mxI x x') (mxI y y') (mnI e e') (mnI n n')
def meetN (x y e n x' y' e' n' : Int) : Int × Int × Int × Int := if okB x y e n x' y' e' n' = true then (mxI x x', mxI y y', mnI e e', mnI n n') else (0, 0, 0, 0)
def meetA (x y e n x' y' e' n' : Int) : AV := .tup [areaA (meetN x y e n x' y' e' n').1 (meetN x y e n x' y' e' n').2.1 (meetN x y e n x' y' e' n').2.2.1 (meetN x y e n x' y' e' n').2.2.2, .v (.bool (okB x y e n x' y' e' n'))]
set_option maxHeartbeats 4000000 in
theorem MeetAreas_ro (x y e n x' y' e' n' : Int) (k : Nat) : RO Try.prog 21 [areaA x y e n, areaA x' y' e' n'] k (meetA x y e n x' y' e' n') [] k := by
  refine RO.ofp Try.func21 Try.ntmps21 rfl (goFn_of Try.func21 rfl (by kernel_rfl)) rfl rfl rfl ?_
  unfold areaA
  repeat (any_goals (first
    | refine aw_region ?_
    | (refine aw_seqk ?_; intro K hK)
    | refine thn_n ?_
    | refine hK _ _ _ ?_
    | (apply sq_step rfl rfl; (first | exact s_move (.inl rfl) rfl | exact s_move (.inr rfl) rfl | exact s_fieldAddr rfl (ty rfl) rfl rfl rfl (by decide) rfl | exact s_cmpI rfl rfl rfl rfl | exact s_arith rfl rfl rfl rfl | exact s_pick rfl rfl rfl | exact s_pick_t rfl rfl (by assumption) rfl | exact s_pick_f rfl rfl (by assumption) rfl | exact s_not rfl rfl | exact s_extract rfl rfl rfl | exact s_extract_v rfl rfl rfl | exact s_field rfl (ty rfl) rfl (.inl rfl) rfl rfl (.inr ⟨rfl, rfl⟩) | exact s_field rfl (ty rfl) rfl (.inl rfl) rfl rfl (.inl ⟨rfl, rfl⟩) | exact s_field rfl (ty rfl) rfl (.inr ⟨_, rfl, rfl⟩) rfl rfl (.inr ⟨rfl, rfl⟩) | exact s_cmpS rfl rfl rfl rfl | exact s_eqB false rfl (ty rfl) rfl rfl rfl | exact s_eqB true rfl (ty rfl) rfl rfl rfl | exact s_conv rfl (ty rfl) rfl (ty rfl) rfl | exact s_nilCheck rfl rfl (.inl rfl) | exact s_nilCheck rfl rfl (.inr ⟨_, _, rfl⟩) | exact s_makeFunc rfl rfl | exact s_len rfl (ty rfl) rfl (.inl ⟨rfl, _, rfl, rfl⟩) | exact s_len rfl (ty rfl) rfl (.inr ⟨_, _, _, _, rfl, .inl ⟨_, _, rfl, rfl⟩⟩) | exact s_len rfl (ty rfl) rfl (.inr ⟨_, _, _, _, rfl, .inr (.inl ⟨_, _, _, rfl, rfl⟩)⟩) | exact s_len rfl (ty rfl) rfl (.inr ⟨_, _, _, _, rfl, .inr (.inr ⟨_, _, _, rfl, rfl⟩)⟩) | exact s_neg rfl rfl | exact s_max rfl rfl rfl | exact s_min rfl rfl rfl | exact s_build rfl (ty rfl) rfl rfl rfl | exact s_load_one rfl (ty rfl) rfl (.inl rfl) rfl | exact s_load_one rfl (ty rfl) rfl (.inr ⟨_, _, _, _, _, rfl, rfl, rfl, rfl⟩) rfl | exact s_load_agg rfl (ty rfl) rfl (.inl rfl) rfl (Nat.le_of_ble_eq_true rfl) | exact s_load_agg rfl (ty rfl) rfl (.inr ⟨_, _, _, _, _, rfl, rfl, rfl, rfl⟩) rfl (Nat.le_of_ble_eq_true rfl) | exact s_call rfl rfl rfl rfl (ValidArea_ro _ _ _ _ _)))
    | (apply sq_step rfl rfl; (first | exact s_box rfl rfl rfl | exact s_alloc rfl (ty rfl) rfl rfl | exact s_store rfl (ty rfl) rfl rfl rfl rfl rfl (Nat.le_of_ble_eq_true rfl) rfl); (try simp only [selE, ovr, setH, del, cellsA, splice, isV, List.nil_append, List.cons_append, List.map_cons, List.map_nil, List.length_cons, List.length_nil, List.set_cons_zero, List.set_cons_succ, List.take_succ_cons, List.take_zero, List.take_nil, List.drop_succ_cons, List.drop_zero, List.drop_nil, List.append_nil, List.all_cons, List.all_nil, Bool.and_true, Bool.true_and, Bool.and_false, Bool.false_and, Nat.reduceAdd, Nat.zero_add, Nat.add_zero, Nat.reduceEqDiff, if_true, if_false, reduceIte]))
    | refine sq_nil ?_
    | refine sq_g rfl rfl rfl (by assumption) ?_
    | refine sq_s rfl rfl rfl (by assumption) rfl ?_
    | refine sq_g rfl rfl rfl rfl ?_
    | refine sq_s rfl rfl rfl rfl rfl ?_
    | refine aw_block ?_
    | refine aw_cond_t rfl rfl ?_
    | refine aw_cond_f rfl rfl ?_
    | refine aw_cond_t rfl (by assumption) ?_
    | refine aw_cond_f rfl (by assumption) ?_
    | refine aw_ret ?_
    | refine aw_exit ?_
    | refine aw_skip ?_
    | refine thn_e ?_
    | refine thn_r ?_
    | refine inb_same ?_
    | refine inb_ne rfl ?_
    | refine inb_n ?_
    | refine inb_r ?_
    | (refine sq_gs rfl rfl rfl rfl (fun h => ?_) (fun h => ?_))
    | (refine aw_ite rfl (fun h => ?_) (fun h => ?_))
    | (clear hK K; refine hK _ _ _ ?_)
    | (clear hK K; clear hK K; refine hK _ _ _ ?_)
    | (clear hK K; clear hK K; clear hK K; refine hK _ _ _ ?_)))
  all_goals refine fin_r (fin_p (.r2 _ _ _ _ (.agg _ _ _ _ _ rfl (.inr ⟨_, _, _, _, _, rfl, rfl, rfl, rfl⟩) (ty rfl) rfl (Nat.le_of_ble_eq_true rfl)) (.tmp _ _ rfl)) ?_ rfl rfl rfl)
  all_goals simp_all [meetA, meetN, okB, areaA, splice, cellsA]
set_option maxHeartbeats 4000000 in
theorem specMeet_ro (x y e n x' y' e' n' : Int) (k : Nat) : RO Try.prog 20 [areaA x y e n, areaA x' y' e' n'] k (meetA x y e n x' y' e' n') [] k := by
  refine RO.ofp Try.func20 Try.ntmps20 rfl (goFn_of Try.func20 rfl (by kernel_rfl)) rfl rfl rfl ?_
  unfold areaA
  repeat (any_goals (first
    | refine aw_region ?_
    | (refine aw_seqk ?_; intro K hK)
    | refine thn_n ?_
    | refine hK _ _ _ ?_
    | (apply sq_step rfl rfl; (first | exact s_move (.inl rfl) rfl | exact s_move (.inr rfl) rfl | exact s_fieldAddr rfl (ty rfl) rfl rfl rfl (by decide) rfl | exact s_cmpI rfl rfl rfl rfl | exact s_arith rfl rfl rfl rfl | exact s_pick rfl rfl rfl | exact s_pick_t rfl rfl (by assumption) rfl | exact s_pick_f rfl rfl (by assumption) rfl | exact s_not rfl rfl | exact s_extract rfl rfl rfl | exact s_extract_v rfl rfl rfl | exact s_field rfl (ty rfl) rfl (.inl rfl) rfl rfl (.inr ⟨rfl, rfl⟩) | exact s_field rfl (ty rfl) rfl (.inl rfl) rfl rfl (.inl ⟨rfl, rfl⟩) | exact s_field rfl (ty rfl) rfl (.inr ⟨_, rfl, rfl⟩) rfl rfl (.inr ⟨rfl, rfl⟩) | exact s_cmpS rfl rfl rfl rfl | exact s_eqB false rfl (ty rfl) rfl rfl rfl | exact s_eqB true rfl (ty rfl) rfl rfl rfl | exact s_conv rfl (ty rfl) rfl (ty rfl) rfl | exact s_nilCheck rfl rfl (.inl rfl) | exact s_nilCheck rfl rfl (.inr ⟨_, _, rfl⟩) | exact s_makeFunc rfl rfl | exact s_len rfl (ty rfl) rfl (.inl ⟨rfl, _, rfl, rfl⟩) | exact s_len rfl (ty rfl) rfl (.inr ⟨_, _, _, _, rfl, .inl ⟨_, _, rfl, rfl⟩⟩) | exact s_len rfl (ty rfl) rfl (.inr ⟨_, _, _, _, rfl, .inr (.inl ⟨_, _, _, rfl, rfl⟩)⟩) | exact s_len rfl (ty rfl) rfl (.inr ⟨_, _, _, _, rfl, .inr (.inr ⟨_, _, _, rfl, rfl⟩)⟩) | exact s_neg rfl rfl | exact s_max rfl rfl rfl | exact s_min rfl rfl rfl | exact s_build rfl (ty rfl) rfl rfl rfl | exact s_load_one rfl (ty rfl) rfl (.inl rfl) rfl | exact s_load_one rfl (ty rfl) rfl (.inr ⟨_, _, _, _, _, rfl, rfl, rfl, rfl⟩) rfl | exact s_load_agg rfl (ty rfl) rfl (.inl rfl) rfl (Nat.le_of_ble_eq_true rfl) | exact s_load_agg rfl (ty rfl) rfl (.inr ⟨_, _, _, _, _, rfl, rfl, rfl, rfl⟩) rfl (Nat.le_of_ble_eq_true rfl) | exact s_call rfl rfl rfl rfl (l26Area_ro _ _ _ _ _) | exact s_call rfl rfl rfl rfl (l26Meet_ro _ _ _ _ _ _ _ _ _)))
    | (apply sq_step rfl rfl; (first | exact s_box rfl rfl rfl | exact s_alloc rfl (ty rfl) rfl rfl | exact s_store rfl (ty rfl) rfl rfl rfl rfl rfl (Nat.le_of_ble_eq_true rfl) rfl); (try simp only [selE, ovr, setH, del, cellsA, splice, isV, List.nil_append, List.cons_append, List.map_cons, List.map_nil, List.length_cons, List.length_nil, List.set_cons_zero, List.set_cons_succ, List.take_succ_cons, List.take_zero, List.take_nil, List.drop_succ_cons, List.drop_zero, List.drop_nil, List.append_nil, List.all_cons, List.all_nil, Bool.and_true, Bool.true_and, Bool.and_false, Bool.false_and, Nat.reduceAdd, Nat.zero_add, Nat.add_zero, Nat.reduceEqDiff, if_true, if_false, reduceIte]))
    | refine sq_nil ?_
    | refine sq_g rfl rfl rfl (by assumption) ?_
    | refine sq_s rfl rfl rfl (by assumption) rfl ?_
    | refine sq_g rfl rfl rfl rfl ?_
    | refine sq_s rfl rfl rfl rfl rfl ?_
    | refine aw_block ?_
    | refine aw_cond_t rfl rfl ?_
    | refine aw_cond_f rfl rfl ?_
    | refine aw_cond_t rfl (by assumption) ?_
    | refine aw_cond_f rfl (by assumption) ?_
    | refine aw_ret ?_
    | refine aw_exit ?_
    | refine aw_skip ?_
    | refine thn_e ?_
    | refine thn_r ?_
    | refine inb_same ?_
    | refine inb_ne rfl ?_
    | refine inb_n ?_
    | refine inb_r ?_
    | (refine sq_gs rfl rfl rfl rfl (fun h => ?_) (fun h => ?_))
    | (refine aw_ite rfl (fun h => ?_) (fun h => ?_))
    | (clear hK K; refine hK _ _ _ ?_)
    | (clear hK K; clear hK K; refine hK _ _ _ ?_)
    | (clear hK K; clear hK K; clear hK K; refine hK _ _ _ ?_)))
  all_goals refine fin_r (fin_p (.r2 _ _ _ _ (.agg _ _ _ _ _ rfl (.inr ⟨_, _, _, _, _, rfl, rfl, rfl, rfl⟩) (ty rfl) rfl (Nat.le_of_ble_eq_true rfl)) (.tmp _ _ rfl)) ?_ rfl rfl rfl)
  all_goals simp_all [meetA, meetN, okB, areaA, splice, cellsA]
set_option maxHeartbeats 4000000 in
theorem toArea_ro (x y e n : Int) (k : Nat) : RO Try.prog 15 [areaA x y e n] k (areaA x y e n) [] k := by
  refine RO.ofp Try.func15 Try.ntmps15 rfl (goFn_of Try.func15 rfl (by kernel_rfl)) rfl rfl rfl ?_
  unfold areaA
  repeat (any_goals (first
    | refine aw_region ?_
    | (refine aw_seqk ?_; intro K hK)
    | refine thn_n ?_
    | refine hK _ _ _ ?_
    | (apply sq_step rfl rfl; (first | exact s_move (.inl rfl) rfl | exact s_move (.inr rfl) rfl | exact s_fieldAddr rfl (ty rfl) rfl rfl rfl (by decide) rfl | exact s_cmpI rfl rfl rfl rfl | exact s_arith rfl rfl rfl rfl | exact s_pick rfl rfl rfl | exact s_pick_t rfl rfl (by assumption) rfl | exact s_pick_f rfl rfl (by assumption) rfl | exact s_not rfl rfl | exact s_extract rfl rfl rfl | exact s_extract_v rfl rfl rfl | exact s_field rfl (ty rfl) rfl (.inl rfl) rfl rfl (.inr ⟨rfl, rfl⟩) | exact s_field rfl (ty rfl) rfl (.inl rfl) rfl rfl (.inl ⟨rfl, rfl⟩) | exact s_field rfl (ty rfl) rfl (.inr ⟨_, rfl, rfl⟩) rfl rfl (.inr ⟨rfl, rfl⟩) | exact s_cmpS rfl rfl rfl rfl | exact s_eqB false rfl (ty rfl) rfl rfl rfl | exact s_eqB true rfl (ty rfl) rfl rfl rfl | exact s_conv rfl (ty rfl) rfl (ty rfl) rfl | exact s_nilCheck rfl rfl (.inl rfl) | exact s_nilCheck rfl rfl (.inr ⟨_, _, rfl⟩) | exact s_makeFunc rfl rfl | exact s_len rfl (ty rfl) rfl (.inl ⟨rfl, _, rfl, rfl⟩) | exact s_len rfl (ty rfl) rfl (.inr ⟨_, _, _, _, rfl, .inl ⟨_, _, rfl, rfl⟩⟩) | exact s_len rfl (ty rfl) rfl (.inr ⟨_, _, _, _, rfl, .inr (.inl ⟨_, _, _, rfl, rfl⟩)⟩) | exact s_len rfl (ty rfl) rfl (.inr ⟨_, _, _, _, rfl, .inr (.inr ⟨_, _, _, rfl, rfl⟩)⟩) | exact s_neg rfl rfl | exact s_max rfl rfl rfl | exact s_min rfl rfl rfl | exact s_build rfl (ty rfl) rfl rfl rfl | exact s_load_one rfl (ty rfl) rfl (.inl rfl) rfl | exact s_load_one rfl (ty rfl) rfl (.inr ⟨_, _, _, _, _, rfl, rfl, rfl, rfl⟩) rfl | exact s_load_agg rfl (ty rfl) rfl (.inl rfl) rfl (Nat.le_of_ble_eq_true rfl) | exact s_load_agg rfl (ty rfl) rfl (.inr ⟨_, _, _, _, _, rfl, rfl, rfl, rfl⟩) rfl (Nat.le_of_ble_eq_true rfl)))
    | (apply sq_step rfl rfl; (first | exact s_box rfl rfl rfl | exact s_alloc rfl (ty rfl) rfl rfl | exact s_store rfl (ty rfl) rfl rfl rfl rfl rfl (Nat.le_of_ble_eq_true rfl) rfl); (try simp only [selE, ovr, setH, del, cellsA, splice, isV, List.nil_append, List.cons_append, List.map_cons, List.map_nil, List.length_cons, List.length_nil, List.set_cons_zero, List.set_cons_succ, List.take_succ_cons, List.take_zero, List.take_nil, List.drop_succ_cons, List.drop_zero, List.drop_nil, List.append_nil, List.all_cons, List.all_nil, Bool.and_true, Bool.true_and, Bool.and_false, Bool.false_and, Nat.reduceAdd, Nat.zero_add, Nat.add_zero, Nat.reduceEqDiff, if_true, if_false, reduceIte]))
    | refine sq_nil ?_
    | refine sq_g rfl rfl rfl (by assumption) ?_
    | refine sq_s rfl rfl rfl (by assumption) rfl ?_
    | refine sq_g rfl rfl rfl rfl ?_
    | refine sq_s rfl rfl rfl rfl rfl ?_
    | refine aw_block ?_
    | refine aw_cond_t rfl rfl ?_
    | refine aw_cond_f rfl rfl ?_
    | refine aw_cond_t rfl (by assumption) ?_
    | refine aw_cond_f rfl (by assumption) ?_
    | refine aw_ret ?_
    | refine aw_exit ?_
    | refine aw_skip ?_
    | refine thn_e ?_
    | refine thn_r ?_
    | refine inb_same ?_
    | refine inb_ne rfl ?_
    | refine inb_n ?_
    | refine inb_r ?_
    | (refine sq_gs rfl rfl rfl rfl (fun h => ?_) (fun h => ?_))
    | (refine aw_ite rfl (fun h => ?_) (fun h => ?_))
    | (clear hK K; refine hK _ _ _ ?_)
    | (clear hK K; clear hK K; refine hK _ _ _ ?_)
    | (clear hK K; clear hK K; clear hK K; refine hK _ _ _ ?_)))
  refine fin_r (fin_p (.r1 _ _ (.agg _ _ _ _ _ rfl (.inr ⟨_, _, _, _, _, rfl, rfl, rfl, rfl⟩) (ty rfl) rfl (Nat.le_of_ble_eq_true rfl))) ?_ rfl rfl rfl)
  rfl
set_option maxHeartbeats 4000000 in
theorem eqArea_ro (x y e n : Int) (k : Nat) : RO Try.prog 22 [areaA x y e n, areaA x y e n] k (.v (.bool true)) [] k := by
  refine RO.ofv' Try.func22 Try.ntmps22 rfl (goFn_of Try.func22 rfl (by kernel_rfl)) rfl rfl ?_
  unfold areaA
  repeat (any_goals (first
    | refine aw_region ?_
    | (refine aw_seqk ?_; intro K hK)
    | refine thn_n ?_
    | refine hK _ _ _ ?_
    | (apply sq_step rfl rfl; (first | exact s_move (.inl rfl) rfl | exact s_move (.inr rfl) rfl | exact s_fieldAddr rfl (ty rfl) rfl rfl rfl (by decide) rfl | exact s_cmpI rfl rfl rfl rfl | exact s_arith rfl rfl rfl rfl | exact s_pick rfl rfl rfl | exact s_pick_t rfl rfl (by assumption) rfl | exact s_pick_f rfl rfl (by assumption) rfl | exact s_not rfl rfl | exact s_extract rfl rfl rfl | exact s_extract_v rfl rfl rfl | exact s_field rfl (ty rfl) rfl (.inl rfl) rfl rfl (.inr ⟨rfl, rfl⟩) | exact s_field rfl (ty rfl) rfl (.inl rfl) rfl rfl (.inl ⟨rfl, rfl⟩) | exact s_field rfl (ty rfl) rfl (.inr ⟨_, rfl, rfl⟩) rfl rfl (.inr ⟨rfl, rfl⟩) | exact s_cmpS rfl rfl rfl rfl | exact s_eqB false rfl (ty rfl) rfl rfl rfl | exact s_eqB true rfl (ty rfl) rfl rfl rfl | exact s_conv rfl (ty rfl) rfl (ty rfl) rfl | exact s_nilCheck rfl rfl (.inl rfl) | exact s_nilCheck rfl rfl (.inr ⟨_, _, rfl⟩) | exact s_makeFunc rfl rfl | exact s_len rfl (ty rfl) rfl (.inl ⟨rfl, _, rfl, rfl⟩) | exact s_len rfl (ty rfl) rfl (.inr ⟨_, _, _, _, rfl, .inl ⟨_, _, rfl, rfl⟩⟩) | exact s_len rfl (ty rfl) rfl (.inr ⟨_, _, _, _, rfl, .inr (.inl ⟨_, _, _, rfl, rfl⟩)⟩) | exact s_len rfl (ty rfl) rfl (.inr ⟨_, _, _, _, rfl, .inr (.inr ⟨_, _, _, rfl, rfl⟩)⟩) | exact s_neg rfl rfl | exact s_max rfl rfl rfl | exact s_min rfl rfl rfl | exact s_build rfl (ty rfl) rfl rfl rfl | exact s_load_one rfl (ty rfl) rfl (.inl rfl) rfl | exact s_load_one rfl (ty rfl) rfl (.inr ⟨_, _, _, _, _, rfl, rfl, rfl, rfl⟩) rfl | exact s_load_agg rfl (ty rfl) rfl (.inl rfl) rfl (Nat.le_of_ble_eq_true rfl) | exact s_load_agg rfl (ty rfl) rfl (.inr ⟨_, _, _, _, _, rfl, rfl, rfl, rfl⟩) rfl (Nat.le_of_ble_eq_true rfl)))
    | (apply sq_step rfl rfl; (first | exact s_box rfl rfl rfl | exact s_alloc rfl (ty rfl) rfl rfl | exact s_store rfl (ty rfl) rfl rfl rfl rfl rfl (Nat.le_of_ble_eq_true rfl) rfl); (try simp only [selE, ovr, setH, del, cellsA, splice, isV, List.nil_append, List.cons_append, List.map_cons, List.map_nil, List.length_cons, List.length_nil, List.set_cons_zero, List.set_cons_succ, List.take_succ_cons, List.take_zero, List.take_nil, List.drop_succ_cons, List.drop_zero, List.drop_nil, List.append_nil, List.all_cons, List.all_nil, Bool.and_true, Bool.true_and, Bool.and_false, Bool.false_and, Nat.reduceAdd, Nat.zero_add, Nat.add_zero, Nat.reduceEqDiff, if_true, if_false, reduceIte]))
    | refine sq_nil ?_
    | refine sq_g rfl rfl rfl (by assumption) ?_
    | refine sq_s rfl rfl rfl (by assumption) rfl ?_
    | refine sq_g rfl rfl rfl rfl ?_
    | refine sq_s rfl rfl rfl rfl rfl ?_
    | refine aw_block ?_
    | refine aw_cond_t rfl rfl ?_
    | refine aw_cond_f rfl rfl ?_
    | refine aw_cond_t rfl (by assumption) ?_
    | refine aw_cond_f rfl (by assumption) ?_
    | refine aw_ret ?_
    | refine aw_exit ?_
    | refine aw_skip ?_
    | refine thn_e ?_
    | refine thn_r ?_
    | refine inb_same ?_
    | refine inb_ne rfl ?_
    | refine inb_n ?_
    | refine inb_r ?_
    | (refine sq_gs rfl rfl rfl rfl (fun h => ?_) (fun h => ?_))
    | (refine aw_ite rfl (fun h => ?_) (fun h => ?_))
    | (clear hK K; refine hK _ _ _ ?_)
    | (clear hK K; clear hK K; refine hK _ _ _ ?_)
    | (clear hK K; clear hK K; clear hK K; refine hK _ _ _ ?_)))
  all_goals refine fin_r (fin_b rfl ?_)
  all_goals simp_all
set_option maxHeartbeats 4000000 in
theorem lawMeet_ro (x y e n x' y' e' n' : Int) (k : Nat) : RO Try.prog 5 [areaA x y e n, areaA x' y' e' n'] k (.v (.bool true)) [] k := by
  refine RO.ofv' Try.func5 Try.ntmps5 rfl (goFn_of Try.func5 rfl (by kernel_rfl)) rfl rfl ?_
  unfold areaA
  repeat (any_goals (first
    | refine aw_region ?_
    | (refine aw_seqk ?_; intro K hK)
    | refine thn_n ?_
    | refine hK _ _ _ ?_
    | (apply sq_step rfl rfl; (first | exact s_move (.inl rfl) rfl | exact s_move (.inr rfl) rfl | exact s_fieldAddr rfl (ty rfl) rfl rfl rfl (by decide) rfl | exact s_cmpI rfl rfl rfl rfl | exact s_arith rfl rfl rfl rfl | exact s_pick rfl rfl rfl | exact s_pick_t rfl rfl (by assumption) rfl | exact s_pick_f rfl rfl (by assumption) rfl | exact s_not rfl rfl | exact s_extract rfl rfl rfl | exact s_extract_v rfl rfl rfl | exact s_field rfl (ty rfl) rfl (.inl rfl) rfl rfl (.inr ⟨rfl, rfl⟩) | exact s_field rfl (ty rfl) rfl (.inl rfl) rfl rfl (.inl ⟨rfl, rfl⟩) | exact s_field rfl (ty rfl) rfl (.inr ⟨_, rfl, rfl⟩) rfl rfl (.inr ⟨rfl, rfl⟩) | exact s_cmpS rfl rfl rfl rfl | exact s_eqB false rfl (ty rfl) rfl rfl rfl | exact s_eqB true rfl (ty rfl) rfl rfl rfl | exact s_conv rfl (ty rfl) rfl (ty rfl) rfl | exact s_nilCheck rfl rfl (.inl rfl) | exact s_nilCheck rfl rfl (.inr ⟨_, _, rfl⟩) | exact s_makeFunc rfl rfl | exact s_len rfl (ty rfl) rfl (.inl ⟨rfl, _, rfl, rfl⟩) | exact s_len rfl (ty rfl) rfl (.inr ⟨_, _, _, _, rfl, .inl ⟨_, _, rfl, rfl⟩⟩) | exact s_len rfl (ty rfl) rfl (.inr ⟨_, _, _, _, rfl, .inr (.inl ⟨_, _, _, rfl, rfl⟩)⟩) | exact s_len rfl (ty rfl) rfl (.inr ⟨_, _, _, _, rfl, .inr (.inr ⟨_, _, _, rfl, rfl⟩)⟩) | exact s_neg rfl rfl | exact s_max rfl rfl rfl | exact s_min rfl rfl rfl | exact s_build rfl (ty rfl) rfl rfl rfl | exact s_load_one rfl (ty rfl) rfl (.inl rfl) rfl | exact s_load_one rfl (ty rfl) rfl (.inr ⟨_, _, _, _, _, rfl, rfl, rfl, rfl⟩) rfl | exact s_load_agg rfl (ty rfl) rfl (.inl rfl) rfl (Nat.le_of_ble_eq_true rfl) | exact s_load_agg rfl (ty rfl) rfl (.inr ⟨_, _, _, _, _, rfl, rfl, rfl, rfl⟩) rfl (Nat.le_of_ble_eq_true rfl) | exact s_call rfl rfl rfl rfl (toArea_ro _ _ _ _ _) | exact s_call rfl rfl rfl rfl (specMeet_ro _ _ _ _ _ _ _ _ _) | exact s_call rfl rfl rfl rfl (MeetAreas_ro _ _ _ _ _ _ _ _ _) | exact s_call rfl rfl rfl rfl (eqArea_ro _ _ _ _ _)))
    | (apply sq_step rfl rfl; (first | exact s_box rfl rfl rfl | exact s_alloc rfl (ty rfl) rfl rfl | exact s_store rfl (ty rfl) rfl rfl rfl rfl rfl (Nat.le_of_ble_eq_true rfl) rfl); (try simp only [selE, ovr, setH, del, cellsA, splice, isV, List.nil_append, List.cons_append, List.map_cons, List.map_nil, List.length_cons, List.length_nil, List.set_cons_zero, List.set_cons_succ, List.take_succ_cons, List.take_zero, List.take_nil, List.drop_succ_cons, List.drop_zero, List.drop_nil, List.append_nil, List.all_cons, List.all_nil, Bool.and_true, Bool.true_and, Bool.and_false, Bool.false_and, Nat.reduceAdd, Nat.zero_add, Nat.add_zero, Nat.reduceEqDiff, if_true, if_false, reduceIte]))
    | refine sq_nil ?_
    | refine sq_g rfl rfl rfl (by assumption) ?_
    | refine sq_s rfl rfl rfl (by assumption) rfl ?_
    | refine sq_g rfl rfl rfl rfl ?_
    | refine sq_s rfl rfl rfl rfl rfl ?_
    | refine aw_drawE (id := 1) [0, 1, 0, 7, 15, 31, 63, 63, 0, 383, 1023] [1, 1, 1, 1, 1, 0, 0, 0, 1, 2, 0] mixed (by kernel_rfl) ?_
    | refine aw_drawE (id := 2) [0, 1, 0, 7, 15, 31, 63, 63, 0, 383, 1023] [1, 1, 1, 1, 1, 0, 0, 0, 1, 2, 0] mixed (by kernel_rfl) ?_
    | (apply dr_0 rfl rfl rfl; (intro H n; (first | exact s_move (.inl rfl) rfl | exact s_move (.inr rfl) rfl | exact s_fieldAddr rfl (ty rfl) rfl rfl rfl (by decide) rfl | exact s_cmpI rfl rfl rfl rfl | exact s_arith rfl rfl rfl rfl | exact s_pick rfl rfl rfl | exact s_pick_t rfl rfl (by assumption) rfl | exact s_pick_f rfl rfl (by assumption) rfl | exact s_not rfl rfl | exact s_extract rfl rfl rfl | exact s_extract_v rfl rfl rfl | exact s_field rfl (ty rfl) rfl (.inl rfl) rfl rfl (.inr ⟨rfl, rfl⟩) | exact s_field rfl (ty rfl) rfl (.inl rfl) rfl rfl (.inl ⟨rfl, rfl⟩) | exact s_field rfl (ty rfl) rfl (.inr ⟨_, rfl, rfl⟩) rfl rfl (.inr ⟨rfl, rfl⟩) | exact s_cmpS rfl rfl rfl rfl | exact s_eqB false rfl (ty rfl) rfl rfl rfl | exact s_eqB true rfl (ty rfl) rfl rfl rfl | exact s_conv rfl (ty rfl) rfl (ty rfl) rfl | exact s_nilCheck rfl rfl (.inl rfl) | exact s_nilCheck rfl rfl (.inr ⟨_, _, rfl⟩) | exact s_makeFunc rfl rfl | exact s_len rfl (ty rfl) rfl (.inl ⟨rfl, _, rfl, rfl⟩) | exact s_len rfl (ty rfl) rfl (.inr ⟨_, _, _, _, rfl, .inl ⟨_, _, rfl, rfl⟩⟩) | exact s_len rfl (ty rfl) rfl (.inr ⟨_, _, _, _, rfl, .inr (.inl ⟨_, _, _, rfl, rfl⟩)⟩) | exact s_len rfl (ty rfl) rfl (.inr ⟨_, _, _, _, rfl, .inr (.inr ⟨_, _, _, rfl, rfl⟩)⟩) | exact s_neg rfl rfl | exact s_max rfl rfl rfl | exact s_min rfl rfl rfl | exact s_build rfl (ty rfl) rfl rfl rfl)))
    | (apply dr_1 rfl rfl rfl; (first | exact s_load_one rfl (ty rfl) rfl (.inl rfl) rfl | exact s_load_one rfl (ty rfl) rfl (.inr ⟨_, _, _, _, _, rfl, rfl, rfl, rfl⟩) rfl | exact s_load_agg rfl (ty rfl) rfl (.inl rfl) rfl (Nat.le_of_ble_eq_true rfl) | exact s_load_agg rfl (ty rfl) rfl (.inr ⟨_, _, _, _, _, rfl, rfl, rfl, rfl⟩) rfl (Nat.le_of_ble_eq_true rfl)))
    | (apply dr_n rfl rfl rfl; (first | exact s_box rfl rfl rfl | exact s_alloc rfl (ty rfl) rfl rfl); (try simp only [selE, ovr, setH, del, cellsA, splice, isV, List.nil_append, List.cons_append, List.map_cons, List.map_nil, List.length_cons, List.length_nil, List.set_cons_zero, List.set_cons_succ, List.take_succ_cons, List.take_zero, List.take_nil, List.drop_succ_cons, List.drop_zero, List.drop_nil, List.append_nil, List.all_cons, List.all_nil, Bool.and_true, Bool.true_and, Bool.and_false, Bool.false_and, Nat.reduceAdd, Nat.zero_add, Nat.add_zero, Nat.reduceEqDiff, if_true, if_false, reduceIte]))
    | refine dr_c rfl rfl rfl rfl rfl rfl rfl (toArea_ro _ _ _ _ _) ?_
    | refine dr_c rfl rfl rfl rfl rfl rfl rfl (specMeet_ro _ _ _ _ _ _ _ _ _) ?_
    | refine dr_c rfl rfl rfl rfl rfl rfl rfl (MeetAreas_ro _ _ _ _ _ _ _ _ _) ?_
    | refine dr_c rfl rfl rfl rfl rfl rfl rfl (eqArea_ro _ _ _ _ _) ?_
    | refine dr_cU rfl rfl rfl rfl rfl rfl rfl (toArea_ro _ _ _ _ _) ?_
    | refine dr_cU rfl rfl rfl rfl rfl rfl rfl (specMeet_ro _ _ _ _ _ _ _ _ _) ?_
    | refine dr_cU rfl rfl rfl rfl rfl rfl rfl (MeetAreas_ro _ _ _ _ _ _ _ _ _) ?_
    | refine dr_cU rfl rfl rfl rfl rfl rfl rfl (eqArea_ro _ _ _ _ _) ?_
    | (refine dr_2 rfl rfl rfl (s_store rfl (ty rfl) rfl rfl rfl rfl rfl (Nat.le_of_ble_eq_true rfl) rfl) rfl ?_; (try simp only [selE, ovr, setH, del, cellsA, splice, isV, List.nil_append, List.cons_append, List.map_cons, List.map_nil, List.length_cons, List.length_nil, List.set_cons_zero, List.set_cons_succ, List.take_succ_cons, List.take_zero, List.take_nil, List.drop_succ_cons, List.drop_zero, List.drop_nil, List.append_nil, List.all_cons, List.all_nil, Bool.and_true, Bool.true_and, Bool.and_false, Bool.false_and, Nat.reduceAdd, Nat.zero_add, Nat.add_zero, Nat.reduceEqDiff, if_true, if_false, reduceIte]))
    | refine dr_g rfl rfl rfl (by assumption) ?_
    | refine dr_s rfl rfl rfl (by assumption) rfl ?_
    | refine dr_g rfl rfl rfl rfl ?_
    | refine dr_s rfl rfl rfl rfl rfl ?_
    | (refine dr_nil ?_; (try simp only [selE, ovr, setH, del, cellsA, splice, isV, List.nil_append, List.cons_append, List.map_cons, List.map_nil, List.length_cons, List.length_nil, List.set_cons_zero, List.set_cons_succ, List.take_succ_cons, List.take_zero, List.take_nil, List.drop_succ_cons, List.drop_zero, List.drop_nil, List.append_nil, List.all_cons, List.all_nil, Bool.and_true, Bool.true_and, Bool.and_false, Bool.false_and, Nat.reduceAdd, Nat.zero_add, Nat.add_zero, Nat.reduceEqDiff, if_true, if_false, reduceIte]))
    | refine aw_block ?_
    | refine aw_cond_t rfl rfl ?_
    | refine aw_cond_f rfl rfl ?_
    | refine aw_cond_t rfl (by assumption) ?_
    | refine aw_cond_f rfl (by assumption) ?_
    | refine aw_ret ?_
    | refine aw_exit ?_
    | refine aw_skip ?_
    | refine thn_e ?_
    | refine thn_r ?_
    | refine inb_same ?_
    | refine inb_ne rfl ?_
    | refine inb_n ?_
    | refine inb_r ?_
    | (refine sq_gs rfl rfl rfl rfl (fun h => ?_) (fun h => ?_))
    | (refine dr_gs rfl rfl rfl rfl (fun h => ?_) (fun h => ?_))
    | (refine aw_ite rfl (fun h => ?_) (fun h => ?_))
    | (clear hK K; refine hK _ _ _ ?_)
    | (clear hK K; clear hK K; refine hK _ _ _ ?_)
    | (clear hK K; clear hK K; clear hK K; refine hK _ _ _ ?_)))
  all_goals refine fin_r (fin_b rfl ?_)
  all_goals simp_all

end Go.Proofs.Ytnkbilpjlbpplaa.Ar
