/-
  How far each node is: the program's walk.
-/
import Derived.Test.YtglfcaioapdiaaaRtP
import Derived.Test.YtglfcaioapdiaaaAwMp
namespace Go.Proofs.Ytglfcaioapdiaaa.Bk
open Go Go.RowKit Go.Proofs.Ytglfcaioapdiaaa.Aw
set_option linter.unusedSimpArgs false
set_option linter.unusedVariables false
attribute [local irreducible] AW SQ Step RO RC DE Thn InB

def farV (v : Int × Int) : Value := .agg #[.int .i64 v.1, .int .i64 v.2]
def farD (F : Far) : List (Value × Value) := F.map fun p => (.int .i64 p.1, farV p.2)
theorem farD_keys : ∀ F : Far, keysI (farD F) = true
  | [] => rfl
  | p :: F => by
    have := farD_keys F
    simp only [farD, keysI, List.map_cons, List.all_cons] at this ⊢
    simp only [this, Bool.and_true]
theorem farD_get : ∀ (F : Far) (k : Int), mget (farD F) k = (fget F k).map farV
  | [], k => rfl
  | (x, v) :: F, k => by
    have := farD_get F k
    simp only [farD, List.map_cons, mget, fget] at this ⊢
    split
    · rfl
    · exact this
theorem farD_set : ∀ (F : Far) (k : Int) (v : Int × Int), mset (farD F) k (farV v) = farD (fset F k v)
  | [], k, v => rfl
  | (x, u) :: F, k, v => by
    have := farD_set F k v
    simp only [farD, List.map_cons, mset, fset] at this ⊢
    split
    · rfl
    · rw [this]; rfl
theorem map_ty : Try.prog.underlying 114 = some (.map 2 117) := by kernel_rfl
theorem map_k : Try.prog.underlying 2 = some (.int .i64) := by kernel_rfl
theorem map_z : (Try.prog.info? 117).bind (·.zero) = some (.agg #[.int .i64 0, .int .i64 0]) := by kernel_rfl

section
variable {N n : Nat} {all : Array Oper} {l : List Oper} {G : Tp → Hp → Nat → Prop} {T T' : Tp} {H : Hp} {ty : TypeId} {pos : String} {after : Array Edge} {d : Nat}
theorem far_getD (F : Far) (k : Int) : (mget (farD F) k).getD (.agg #[.int .i64 0, .int .i64 0]) = .agg #[.int .i64 (fc F k), .int .i64 (fl F k)] := by
  rw [farD_get]
  unfold fc fl
  cases fget F k <;> rfl
theorem far_has (F : Far) (k : Int) : (mget (farD F) k).isSome = fh F k := by
  rw [farD_get]
  unfold fh
  cases fget F k <;> rfl
theorem q_farOk {x y : Operand} {id : Nat} {F : Far} {k : Int} (hd : Nat.blt d N = true) (hx : evalA T x = some (.om id (farD F))) (hy : evalA T y = some (.v (.int .i64 k)))
    (h : SQ Try.prog N all l G ((d, .tup [.agg [.v (.int .i64 (fc F k)), .v (.int .i64 (fl F k))], .v (.bool (fh F k))]) :: T) H n) : SQ Try.prog N all (⟨some d, .lookup 114 x y true, ty, pos, after, none⟩ :: l) G T H n :=
  sq_step rfl hd (Step.vok (s_lookup (ok := true) rfl hx hy map_ty map_k map_z (farD_keys F) (far_has F k) (far_getD F k)) (.agg2 _ _)) h
theorem q_far {x y : Operand} {id : Nat} {F : Far} {k : Int} (hd : Nat.blt d N = true) (hx : evalA T x = some (.om id (farD F))) (hy : evalA T y = some (.v (.int .i64 k)))
    (h : SQ Try.prog N all l G ((d, .agg [.v (.int .i64 (fc F k)), .v (.int .i64 (fl F k))]) :: T) H n) : SQ Try.prog N all (⟨some d, .lookup 114 x y false, ty, pos, after, none⟩ :: l) G T H n :=
  sq_step rfl hd (Step.vv (s_lookup (ok := false) rfl hx hy map_ty map_k map_z (farD_keys F) rfl (far_getD F k)) (.agg2 _ _)) h
theorem q_farPut {x y z : Operand} {id : Nat} {b : Blk} {F : Far} {k c j : Int} (hx : evalA T x = some (.om id (farD F))) (hy : evalA T y = some (.v (.int .i64 k))) (hz : evalA T z = some (.agg [.v (.int .i64 c), .v (.int .i64 j)])) (hl : Aw.look H id = some b)
    (hH : noOmH H = true) (hT : omT id (farD (fset F k (c, j))) T = some T') (h : SQ Try.prog N all l G T' H n) : SQ Try.prog N all (⟨none, .mapUpdate 114 x y z, ty, pos, after, none⟩ :: l) G T H n :=
  q_mapPut hx hy hz (.agg2 _ _) hl map_ty map_k (farD_keys F) hH (farD_set F k (c, j)) hT h
theorem q_farIns {x y z : Operand} {id : Nat} {b : Blk} {k c j : Int} (hx : evalA T x = some (.om id [])) (hy : evalA T y = some (.v (.int .i64 k))) (hz : evalA T z = some (.agg [.v (.int .i64 c), .v (.int .i64 j)])) (hl : Aw.look H id = some b)
    (hH : noOmH H = true) (hT : omT id (farD [(k, c, j)]) T = some T') (h : SQ Try.prog N all l G T' H n) : SQ Try.prog N all (⟨none, .insert 114 x y z, ty, pos, after, none⟩ :: l) G T H n :=
  q_mapIns hx hy hz (.agg2 _ _) hl map_ty map_k rfl hH rfl hT h
end

set_option maxHeartbeats 4000000 in
theorem less_ro (c l c' l' : Int) (k : Nat) : RO Try.prog 118 [.agg [.v (.int .i64 c), .v (.int .i64 l)], .agg [.v (.int .i64 c'), .v (.int .i64 l')]] k (.v (.bool (lessF (c, l) (c', l')))) [] k := by
  refine RO.ofv' Try.func118 Try.ntmps118 rfl (goFn_of Try.func118 rfl (by kernel_rfl)) rfl rfl ?_
  ((repeat' (first
    | (show SQ _ _ _ _ _ _ _ _; first | apply sq_nil | (apply q_assign; exact rfl; exact rfl))
    | (show SQ _ _ _ _ _ _ _ _; (first | (apply q_box; exact rfl; exact rfl; exact rfl)); (try simp only [put, rowsOf, plR, List.all_cons, selE, ovr, setH, del, cellsA, splice, isV, List.nil_append, List.cons_append, List.map_cons, List.map_nil, List.length_cons, List.length_nil, List.set_cons_zero, List.set_cons_succ, List.take_succ_cons, List.take_zero, List.take_nil, List.drop_succ_cons, List.drop_zero, List.drop_nil, List.append_nil, List.all_cons, List.all_nil, Bool.and_true, Bool.true_and, Bool.and_false, Bool.false_and, Nat.reduceAdd, Nat.zero_add, Nat.add_zero, Nat.reduceEqDiff, if_true, if_false, reduceIte]))
    | (show DE _ _ _ _ _ _ _ _ _ _ _ _; first | (apply e_assign; exact rfl; exact rfl; exact rfl) | (apply e_fieldAddr; exact rfl; exact rfl; exact (ty rfl); exact rfl; exact rfl; exact rfl; exact rfl; exact rfl) | (apply e_lss; exact rfl; exact rfl; exact rfl; exact rfl) | (apply e_ld1p; exact rfl; exact rfl; exact (ty rfl); exact rfl; exact rfl; exact (by first | rfl | assumption | ((try simp only [Nat.zero_add]); refine List.getElem?_set_self ?_; (try simp only [List.length_set]); assumption)); exact rfl; exact rfl))
    | (show DE _ _ _ _ _ _ _ _ _ _ _ _; (first | (apply dr_nil; exact trivial) | (apply e_buildn; exact rfl; exact (ty rfl); exact rfl; exact rfl; exact rfl; exact rfl; exact rfl; exact rfl; exact rfl; exact rfl) | (apply e_callU; exact rfl; exact rfl; exact rfl; exact FzL.of rfl; exact Compare_ro _ _ _; exact rfl) | (apply e_callU; exact rfl; exact rfl; exact rfl; exact FzL.of rfl; exact Or_ro _ _ _; exact rfl)); (try simp only [put, rowsOf, plR, List.all_cons, selE, ovr, setH, del, cellsA, splice, isV, List.nil_append, List.cons_append, List.map_cons, List.map_nil, List.length_cons, List.length_nil, List.set_cons_zero, List.set_cons_succ, List.take_succ_cons, List.take_zero, List.take_nil, List.drop_succ_cons, List.drop_zero, List.drop_nil, List.append_nil, List.all_cons, List.all_nil, Bool.and_true, Bool.true_and, Bool.and_false, Bool.false_and, Nat.reduceAdd, Nat.zero_add, Nat.add_zero, Nat.reduceEqDiff, if_true, if_false, reduceIte]))
    | (show AW _ _ _ _ _ _ _ _; first | refine aw_region ?_ | (refine aw_seqk ?_; intro K hK) | refine aw_ret ?_ | refine aw_drawE (id := 1) [0, 1, 0, 4, 15, 0, 32, 0, 128, 511, 1023, 2047, 4095, 8191] [0, 1, 0, 1, 1, 0, 1, 0, 1, 1, 1, 1, 0, 0] mixed (by kernel_rfl) ?_)
    | refine thn_n ?_
    | (refine hK _ _ _ ?_; clear hK K))); all_goals (repeat (clear hK K)))
  all_goals refine fin_r (fin_b rfl ?_)
  unfold lessF i64c
  simp only
  grind
end Go.Proofs.Ytglfcaioapdiaaa.Bk

-- How far each node is: the walk of the rounds.
namespace Go.Proofs.Ytglfcaioapdiaaa.Bk
open Go Go.RowKit Go.Proofs.Ytglfcaioapdiaaa.Aw
set_option linter.unusedSimpArgs false
set_option linter.unusedVariables false
attribute [local irreducible] AW SQ Step RO RC DE Thn InB

theorem fstep_case (st : Far × Bool) (x y o : Int) : (fimp st.1 x y o = true ∧ fstep st x y o = (fset st.1 y (fc st.1 x + o, fl st.1 x + 1), true)) ∨ (fimp st.1 x y o = false ∧ fstep st x y o = st) := by
  unfold fstep
  cases fimp st.1 x y o
  · exact .inr ⟨rfl, rfl⟩
  · exact .inl ⟨rfl, rfl⟩

set_option maxHeartbeats 4000000 in
theorem farTo_rc (n : Int) (ls : List Ln) (to : Int) (hN : 1 ≤ n ∧ n ≤ 12) (hn : ls.length ≤ 1048576) (hL : LnsOk n ls) (ht : 0 ≤ to ∧ to < n) (k : Nat) :
    RC Try.prog 91 [.agg (bkL n ls), .v (.int .i64 to)] [] k (.om k (farD (farR n ls to))) [] (k + 1) := by
  refine RC.ofc [] 1 [.agg (bkL n ls), .v (.int .i64 to)] [] (.om 0 (farD (farR n ls to))) [] Try.func91 Try.ntmps91 rfl (goFn_of Try.func91 rfl (by kernel_rfl)) rfl rfl rfl rfl rfl rfl rfl rfl (by simp_all) rfl ?_
  unfold bkL
  ((repeat' (first
    | (show SQ _ _ _ _ _ _ _ _; first | apply sq_nil | (apply q_move; exact rfl; exact rfl) | (apply q_assign; exact rfl; exact rfl) | (apply q_build; exact rfl; exact (ty rfl); exact rfl; exact rfl; exact rfl))
    | (show SQ _ _ _ _ _ _ _ _; (first | (apply q_box; exact rfl; exact rfl; exact rfl)); (try simp only [put, rowsOf, plR, List.all_cons, selE, ovr, setH, del, cellsA, splice, isV, List.nil_append, List.cons_append, List.map_cons, List.map_nil, List.length_cons, List.length_nil, List.set_cons_zero, List.set_cons_succ, List.take_succ_cons, List.take_zero, List.take_nil, List.drop_succ_cons, List.drop_zero, List.drop_nil, List.append_nil, List.all_cons, List.all_nil, Bool.and_true, Bool.true_and, Bool.and_false, Bool.false_and, Nat.reduceAdd, Nat.zero_add, Nat.add_zero, Nat.reduceEqDiff, if_true, if_false, reduceIte]))
    | (show AW _ _ _ _ _ _ _ _; first | refine aw_region ?_ | (refine aw_seqk ?_; intro K hK) | refine aw_block ?_)
    | refine thn_n ?_
    | (refine hK _ _ _ ?_; clear hK K)
    | (show SQ _ _ _ _ _ _ _ _; apply q_makeMap; exact rfl; (try simp only [put, rowsOf, plR, List.all_cons, selE, ovr, setH, del, cellsA, splice, isV, List.nil_append, List.cons_append, List.map_cons, List.map_nil, List.length_cons, List.length_nil, List.set_cons_zero, List.set_cons_succ, List.take_succ_cons, List.take_zero, List.take_nil, List.drop_succ_cons, List.drop_zero, List.drop_nil, List.append_nil, List.all_cons, List.all_nil, Bool.and_true, Bool.true_and, Bool.and_false, Bool.false_and, Nat.reduceAdd, Nat.zero_add, Nat.add_zero, Nat.reduceEqDiff, if_true, if_false, reduceIte]))
    | (show SQ _ _ _ _ _ _ _ _; apply q_farIns; exact rfl; exact rfl; exact rfl; exact rfl; exact rfl; exact rfl; (try simp only [put, rowsOf, plR, List.all_cons, selE, ovr, setH, del, cellsA, splice, isV, List.nil_append, List.cons_append, List.map_cons, List.map_nil, List.length_cons, List.length_nil, List.set_cons_zero, List.set_cons_succ, List.take_succ_cons, List.take_zero, List.take_nil, List.drop_succ_cons, List.drop_zero, List.drop_nil, List.append_nil, List.all_cons, List.all_nil, Bool.and_true, Bool.true_and, Bool.and_false, Bool.false_and, Nat.reduceAdd, Nat.zero_add, Nat.add_zero, Nat.reduceEqDiff, if_true, if_false, reduceIte])))); all_goals (repeat (clear hK K)))
  have hE := fun x y o (h : EL ls x y o) => EL.ok hL h
  have hM := fun x y o (h : EL ls x y o) => EL.le hL h
  refine aw_loop (ρ := id) (ι := Far × Bool) (fun p => ([(6, .v (.bool p.2)), (5, .om 1 (farD p.1)), (2, .ptr 0 0 0)], [(0, ⟨31, 2, false, [[.v (.int .i64 n), .dsl 4 (ls.map lnL)]]⟩), (1, ⟨0, 1000003, true, []⟩)], 2))
    (fun p => FG (EL ls) to n p.1 ∧ (p.2 = true → ∃ q, mu n p.1 < q ∧ farF ls q p.1 = farR n ls to) ∧ (p.2 = false → p.1 = farR n ls to)) (fun p => if p.2 then mu n p.1 + 1 else 0) ([(to, 0, 0)], true)
    ⟨FG.start, fun _ => ⟨_, Nat.lt_succ_self _, rfl⟩, fun h => by cases h⟩ ⟨by (repeat (refine ⟨by first | exact lk_v rfl rfl | exact lk_r rfl rfl rfl | exact lk_om rfl rfl rfl rfl, ?_⟩)); exact trivial, by (repeat (refine ⟨by first | exact ⟨rfl, rfl, rfl⟩, ?_⟩)); exact trivial, by rfl, by exact pin_0⟩ ?_
  rintro ⟨F, more⟩ ⟨hF, hu, hs⟩
  dsimp only at hF hu hs ⊢
  cases more with
  | false =>
    have hs := hs rfl
    subst hs
    ((repeat' (first
    | (show SQ _ _ _ _ _ _ _ _; first | apply sq_nil | (apply q_move; exact rfl; exact rfl) | (apply q_assign; exact rfl; exact rfl))
    | (show AW _ _ _ _ _ _ _ _; first | refine aw_region ?_ | (refine aw_seqk ?_; intro K hK) | (apply aw_cond_f; exact rfl; exact rfl) | refine aw_ret ?_ | refine aw_exit ?_)
    | refine thn_n ?_
    | (refine hK _ _ _ ?_; clear hK K)
    | refine thn_e ?_
    | refine inb_same ?_
    | (clear hK K; refine hK _ _ _ ?_; clear hK K))); all_goals (repeat (clear hK K)))
    all_goals exact finc (fun _ => 1) (.r1 _ _ (.tmp _ _ rfl)) (by simp only [renA]) (fun _ h => absurd h (Nat.not_lt_zero _)) trivial rfl
  | true =>
    obtain ⟨q0, hq0, hR⟩ := hu rfl
    clear hu hs
    obtain ⟨q1, rfl⟩ : ∃ q1, q0 = q1 + 1 := ⟨q0 - 1, by omega⟩
    have hP0 : FS n to ls F (F, false) := ⟨hF, fun h => (by cases h), fun _ => rfl⟩
    ((repeat' (first
    | (show SQ _ _ _ _ _ _ _ _; first | apply sq_nil | (apply q_move; exact rfl; exact rfl) | (apply q_assign; exact rfl; exact rfl) | (apply q_fieldAddr; exact rfl; exact rfl; exact (ty rfl); exact rfl; exact rfl; exact rfl; exact rfl) | (apply q_lend; exact rfl; exact rfl; exact (ty rfl); exact rfl) | (apply q_ld1p; exact rfl; exact rfl; exact (ty rfl); exact rfl; exact rfl; exact (by first | rfl | assumption | ((try simp only [Nat.zero_add]); refine List.getElem?_set_self ?_; (try simp only [List.length_set]); assumption)); exact rfl))
    | (show AW _ _ _ _ _ _ _ _; first | refine aw_region ?_ | (refine aw_seqk ?_; intro K hK) | refine aw_block ?_ | (apply aw_cond_t; exact rfl; exact rfl) | refine aw_skip ?_)
    | refine thn_n ?_
    | (refine hK _ _ _ ?_; clear hK K))); all_goals (repeat (clear hK K)))
    refine aw_loop (ρ := id) (ι := Nat) (fun i => ([(24, .v (.int .i64 i)), (23, .v (.int .i64 ls.length)), (22, .dsl 4 (ls.map lnL)), (6, .v (.bool (fpass ls (F, false) i).2)), (5, .om 1 (farD (fpass ls (F, false) i).1)), (2, .ptr 0 0 0)], [(0, ⟨31, 2, false, [[.v (.int .i64 n), .dsl 4 (ls.map lnL)]]⟩), (1, ⟨0, 1000003, true, []⟩)], 2))
      (fun i => i ≤ ls.length) (fun i => ls.length - i) 0 (Nat.zero_le _) ⟨by (repeat (refine ⟨by first | exact lk_i rfl rfl | exact lk_i rfl (by (try dsimp only); first | rfl | omega | (rw [IntWalk.i64_in _ (by omega)]; first | rfl | omega | (push_cast; omega)) | (simp; done) | (simp; omega)) | exact lk_d rfl rfl | exact lk_v rfl rfl | exact lk_r rfl rfl rfl | exact lk_om rfl rfl rfl rfl, ?_⟩)); exact trivial, by (repeat (refine ⟨by first | exact ⟨rfl, rfl, rfl⟩, ?_⟩)); exact trivial, by rfl, by exact pin_0⟩ ?_
    intro i hi
    have hS := FS.pass hL hN.2 ht hP0 i hi
    by_cases c1 : i < ls.length
    · have b1 : decide ((i : Int) < (ls.length : Int)) = true := by simpa using c1
      have hrow : (ls.map lnL)[((i : Int)).toNat]? = some (lnL ls[i]) := by simp [c1]
      rw [lnL_eq] at hrow
      have hnx : fpass ls (F, false) (i + 1) = ftwo (fpass ls (F, false) i) ls[i] 2 := by simp [fpass, List.getD, c1]
      have hw1 : IntKind.i64.wrap ((i : Int) + 1) = ((i + 1 : Nat) : Int) := by rw [IntWalk.i64_in _ (by omega)]; omega
      generalize fpass ls (F, false) i = st at hS hnx ⊢
      have hmem := List.getElem_mem c1
      generalize ls[i] = l at hrow hnx hmem
      have heE := EL.of hmem
      ((repeat' (first
    | (show SQ _ _ _ _ _ _ _ _; first | apply sq_nil | (apply q_move; exact rfl; exact rfl) | (apply q_fieldAddr; exact rfl; exact rfl; exact (ty rfl); exact rfl; exact rfl; exact rfl; exact rfl) | (apply q_lss; exact rfl; exact rfl; exact rfl) | (apply q_ixd; exact rfl; exact rfl; exact rfl; exact (ty rfl); exact rfl; exact (by first | omega | (simp; done) | (simp; omega)); exact (by first | omega | (simp; done) | (simp; omega)); exact (by first | rfl | assumption)) | (apply q_ld1p; exact rfl; exact rfl; exact (ty rfl); exact rfl; exact rfl; exact (by first | rfl | assumption | ((try simp only [Nat.zero_add]); refine List.getElem?_set_self ?_; (try simp only [List.length_set]); assumption)); exact rfl))
    | (show SQ _ _ _ _ _ _ _ _; (first | (apply q_ldad; exact rfl; exact rfl; exact (ty rfl); exact rfl; exact rfl) | (apply q_alloc; exact rfl; exact (ty rfl); exact rfl; exact rfl) | (apply q_store; exact rfl; exact rfl; exact (ty rfl); exact rfl; exact (by first | rfl | assumption | ((try simp only [Nat.zero_add]); refine List.getElem?_set_self ?_; (try simp only [List.length_set]); assumption)); exact rfl; exact rfl; exact rfl)); (try simp only [put, rowsOf, plR, List.all_cons, selE, ovr, setH, del, cellsA, splice, isV, List.nil_append, List.cons_append, List.map_cons, List.map_nil, List.length_cons, List.length_nil, List.set_cons_zero, List.set_cons_succ, List.take_succ_cons, List.take_zero, List.take_nil, List.drop_succ_cons, List.drop_zero, List.drop_nil, List.append_nil, List.all_cons, List.all_nil, Bool.and_true, Bool.true_and, Bool.and_false, Bool.false_and, Nat.reduceAdd, Nat.zero_add, Nat.add_zero, Nat.reduceEqDiff, if_true, if_false, reduceIte]))
    | (show AW _ _ _ _ _ _ _ _; first | refine aw_region ?_ | (refine aw_seqk ?_; intro K hK) | refine aw_block ?_ | (apply aw_cond_t; exact rfl; exact (by assumption)) | refine aw_skip ?_)
    | refine thn_n ?_
    | (refine hK _ _ _ ?_; clear hK K)
    | (show SQ _ _ _ _ _ _ _ _; apply q_buildArr; exact rfl; exact (ty rfl); exact rfl; exact rfl; exact rfl; (try simp only [put, rowsOf, plR, List.all_cons, selE, ovr, setH, del, cellsA, splice, isV, List.nil_append, List.cons_append, List.map_cons, List.map_nil, List.length_cons, List.length_nil, List.set_cons_zero, List.set_cons_succ, List.take_succ_cons, List.take_zero, List.take_nil, List.drop_succ_cons, List.drop_zero, List.drop_nil, List.append_nil, List.all_cons, List.all_nil, Bool.and_true, Bool.true_and, Bool.and_false, Bool.false_and, Nat.reduceAdd, Nat.zero_add, Nat.add_zero, Nat.reduceEqDiff, if_true, if_false, reduceIte])))); all_goals (repeat (clear hK K)))
      refine aw_loop (ρ := id) (ι := Nat) (fun q => ([(39, .v (.int .i64 q)), (38, .agg [.v (.int .i64 l.a), .v (.int .i64 l.b), .v (.int .i64 l.b), .v (.int .i64 l.a)]), (24, .v (.int .i64 i)), (23, .v (.int .i64 ls.length)), (22, .dsl 4 (ls.map lnL)), (8, .ptr 2 0 0), (6, .v (.bool (ftwo st l q).2)), (5, .om 1 (farD (ftwo st l q).1)), (2, .ptr 0 0 0)], [(0, ⟨31, 2, false, [[.v (.int .i64 n), .dsl 4 (ls.map lnL)]]⟩), (1, ⟨0, 1000003, true, []⟩), (2, ⟨56, 4, false, [[.v (.int .i64 l.a), .v (.int .i64 l.b), .v (.int .i64 l.o), .v (.int .i64 l.c)]]⟩)], 3))
        (fun q => q ≤ 2) (fun q => 2 - q) 0 (Nat.zero_le _) ⟨by (repeat (refine ⟨by first | exact lk_i rfl rfl | exact lk_d rfl rfl | exact lk_v rfl rfl | exact lk_r rfl rfl rfl | exact lk_om rfl rfl rfl rfl | exact lk_g rfl rfl (by simp only [renL, renA]) rfl, ?_⟩)); exact trivial, by (repeat (refine ⟨by first | exact ⟨rfl, rfl, rfl⟩, ?_⟩)); exact trivial, by rfl, by exact pin_0⟩ ?_
      intro q hq
      have hSq := FS.two hL hN.2 ht hS hmem q
      match q, hq with
      | 0, _ =>
        have b2 : decide (((0 : Nat) : Int) < 2) = true := by decide
        have hw2 : IntKind.i64.wrap (((0 : Nat) : Int) + 1) = ((1 : Nat) : Int) := by decide
        have hst : ftwo st l 1 = fstep (ftwo st l 0) l.a l.b l.o := rfl
        generalize ftwo st l 0 = u at hSq hst ⊢
        have hb1 := FG.bc hE ht hM hN.2 hSq.good l.a
        have hb2 := hL l hmem
        have hwc : IntKind.i64.wrap (fc u.1 l.a + l.o) = fc u.1 l.a + l.o := IntWalk.i64_in _ (by omega)
        have hwl : IntKind.i64.wrap (fl u.1 l.a + 1) = fl u.1 l.a + 1 := IntWalk.i64_in _ (by omega)
        have hcs := fstep_case u l.a l.b l.o
        rw [← hst] at hcs
        unfold fimp at hcs
        rw [← hwc, ← hwl] at hcs
        clear hwc hwl hb1 hb2 hst
        ((repeat' (first
    | (show SQ _ _ _ _ _ _ _ _; first | apply sq_nil | (apply q_move; exact rfl; exact rfl) | (apply q_assign; exact rfl; exact rfl) | (apply q_pick_t; exact rfl; exact rfl; exact rfl; exact (by first | assumption | exact rfl)) | (apply q_pick_f; exact rfl; exact rfl; exact rfl; exact (by first | assumption | exact rfl)) | (apply q_fieldAddr; exact rfl; exact rfl; exact (ty rfl); exact rfl; exact rfl; exact rfl; exact rfl) | (apply q_not; exact rfl; exact rfl) | (apply q_ext; exact rfl; exact rfl; exact rfl) | (apply q_add; exact rfl; exact rfl; exact rfl) | (apply q_lss; exact rfl; exact rfl; exact rfl) | (apply q_ixa; exact rfl; exact rfl; exact rfl; exact (ty rfl); exact rfl; exact (by first | omega | (simp; done) | (simp; omega)); exact (by first | omega | (simp; done) | (simp; omega)); exact rfl) | (apply q_ld1p; exact rfl; exact rfl; exact (ty rfl); exact rfl; exact rfl; exact (by first | rfl | assumption | ((try simp only [Nat.zero_add]); refine List.getElem?_set_self ?_; (try simp only [List.length_set]); assumption)); exact rfl) | (apply q_build; exact rfl; exact (ty rfl); exact rfl; exact rfl; exact rfl) | (apply q_ixga; exact rfl; exact rfl; exact rfl; exact (ty rfl); exact rfl; exact (by first | omega | (simp; done) | (simp; omega)); exact (by first | omega | (simp; done) | (simp; omega))) | (apply q_g; exact rfl; exact rfl; exact rfl; exact (by assumption)) | (apply q_s; exact rfl; exact rfl; exact rfl; exact (by assumption); exact rfl) | (apply q_sU; exact rfl; exact rfl; exact rfl; exact rfl))
    | (show SQ _ _ _ _ _ _ _ _; (first | (apply q_ldap; exact rfl; exact rfl; exact (ty rfl); exact rfl; exact rfl; exact (by first | rfl | assumption | ((try simp only [Nat.zero_add]); refine List.getElem?_set_self ?_; (try simp only [List.length_set]); assumption)); exact rfl) | (apply q_alloc; exact rfl; exact (ty rfl); exact rfl; exact rfl) | (apply q_store; exact rfl; exact rfl; exact (ty rfl); exact rfl; exact (by first | rfl | assumption | ((try simp only [Nat.zero_add]); refine List.getElem?_set_self ?_; (try simp only [List.length_set]); assumption)); exact rfl; exact rfl; exact rfl) | (apply q_callU; exact rfl; exact rfl; exact rfl; exact FzL.of rfl; exact less_ro _ _ _ _ _)); (try simp only [put, rowsOf, plR, List.all_cons, selE, ovr, setH, del, cellsA, splice, isV, List.nil_append, List.cons_append, List.map_cons, List.map_nil, List.length_cons, List.length_nil, List.set_cons_zero, List.set_cons_succ, List.take_succ_cons, List.take_zero, List.take_nil, List.drop_succ_cons, List.drop_zero, List.drop_nil, List.append_nil, List.all_cons, List.all_nil, Bool.and_true, Bool.true_and, Bool.and_false, Bool.false_and, Nat.reduceAdd, Nat.zero_add, Nat.add_zero, Nat.reduceEqDiff, if_true, if_false, reduceIte]))
    | (show SQ _ _ _ _ _ _ _ _; apply q_gs; exact rfl; exact rfl; exact rfl; exact rfl; all_goals intro h)
    | (show AW _ _ _ _ _ _ _ _; first | refine aw_region ?_ | (refine aw_seqk ?_; intro K hK) | refine aw_block ?_ | (apply aw_cond_t; exact rfl; exact rfl) | (apply aw_cond_f; exact rfl; exact rfl) | refine aw_skip ?_ | (apply aw_ite; exact rfl; all_goals intro h))
    | refine thn_n ?_
    | (refine hK _ _ _ ?_; clear hK K)
    | refine inb_n ?_
    | (show SQ _ _ _ _ _ _ _ _; apply q_farOk; exact rfl; exact rfl; exact rfl; (try simp only [put, rowsOf, plR, List.all_cons, selE, ovr, setH, del, cellsA, splice, isV, List.nil_append, List.cons_append, List.map_cons, List.map_nil, List.length_cons, List.length_nil, List.set_cons_zero, List.set_cons_succ, List.take_succ_cons, List.take_zero, List.take_nil, List.drop_succ_cons, List.drop_zero, List.drop_nil, List.append_nil, List.all_cons, List.all_nil, Bool.and_true, Bool.true_and, Bool.and_false, Bool.false_and, Nat.reduceAdd, Nat.zero_add, Nat.add_zero, Nat.reduceEqDiff, if_true, if_false, reduceIte]))
    | (show SQ _ _ _ _ _ _ _ _; apply q_farPut; exact rfl; exact rfl; exact rfl; exact rfl; exact rfl; exact rfl; (try simp only [put, rowsOf, plR, List.all_cons, selE, ovr, setH, del, cellsA, splice, isV, List.nil_append, List.cons_append, List.map_cons, List.map_nil, List.length_cons, List.length_nil, List.set_cons_zero, List.set_cons_succ, List.take_succ_cons, List.take_zero, List.take_nil, List.drop_succ_cons, List.drop_zero, List.drop_nil, List.append_nil, List.all_cons, List.all_nil, Bool.and_true, Bool.true_and, Bool.and_false, Bool.false_and, Nat.reduceAdd, Nat.zero_add, Nat.add_zero, Nat.reduceEqDiff, if_true, if_false, reduceIte])))); all_goals (repeat (clear hK K)))
        all_goals first
          | (rcases hcs with ⟨g1, g2⟩ | ⟨g1, g2⟩
             · refine ⟨1, id, by omega, by omega, ?_⟩
               (try dsimp only); rw [g2, ← hw2]; exact ⟨by (repeat (refine ⟨by first | exact lk_i rfl rfl | exact lk_d rfl rfl | exact lk_v rfl rfl | exact lk_r rfl rfl rfl | exact lk_om rfl rfl rfl rfl | exact lk_g rfl rfl (by simp only [renL, renA]) rfl | exact lk_v rfl (by (try dsimp only); first | rfl | assumption | (simp; done)), ?_⟩)); exact trivial, by (repeat (refine ⟨by first | exact ⟨rfl, rfl, rfl⟩, ?_⟩)); exact trivial, by rfl, by exact pin_0⟩
             · exfalso; simp_all; done)
          | (rcases hcs with ⟨g1, g2⟩ | ⟨g1, g2⟩
             · exfalso; simp_all; done
             · refine ⟨1, id, by omega, by omega, ?_⟩
               (try dsimp only); rw [g2, ← hw2]; exact ⟨by (repeat (refine ⟨by first | exact lk_i rfl rfl | exact lk_d rfl rfl | exact lk_v rfl rfl | exact lk_r rfl rfl rfl | exact lk_om rfl rfl rfl rfl | exact lk_g rfl rfl (by simp only [renL, renA]) rfl, ?_⟩)); exact trivial, by (repeat (refine ⟨by first | exact ⟨rfl, rfl, rfl⟩, ?_⟩)); exact trivial, by rfl, by exact pin_0⟩)
      | 1, _ =>
        have b2 : decide (((1 : Nat) : Int) < 2) = true := by decide
        have hw2 : IntKind.i64.wrap (((1 : Nat) : Int) + 1) = ((2 : Nat) : Int) := by decide
        have hst : ftwo st l 2 = fstep (ftwo st l 1) l.b l.a l.o := rfl
        generalize ftwo st l 1 = u at hSq hst ⊢
        have hb1 := FG.bc hE ht hM hN.2 hSq.good l.b
        have hb2 := hL l hmem
        have hwc : IntKind.i64.wrap (fc u.1 l.b + l.o) = fc u.1 l.b + l.o := IntWalk.i64_in _ (by omega)
        have hwl : IntKind.i64.wrap (fl u.1 l.b + 1) = fl u.1 l.b + 1 := IntWalk.i64_in _ (by omega)
        have hcs := fstep_case u l.b l.a l.o
        rw [← hst] at hcs
        unfold fimp at hcs
        rw [← hwc, ← hwl] at hcs
        clear hwc hwl hb1 hb2 hst
        ((repeat' (first
    | (show SQ _ _ _ _ _ _ _ _; first | apply sq_nil | (apply q_move; exact rfl; exact rfl) | (apply q_assign; exact rfl; exact rfl) | (apply q_pick_t; exact rfl; exact rfl; exact rfl; exact (by first | assumption | exact rfl)) | (apply q_pick_f; exact rfl; exact rfl; exact rfl; exact (by first | assumption | exact rfl)) | (apply q_fieldAddr; exact rfl; exact rfl; exact (ty rfl); exact rfl; exact rfl; exact rfl; exact rfl) | (apply q_not; exact rfl; exact rfl) | (apply q_ext; exact rfl; exact rfl; exact rfl) | (apply q_add; exact rfl; exact rfl; exact rfl) | (apply q_lss; exact rfl; exact rfl; exact rfl) | (apply q_ixa; exact rfl; exact rfl; exact rfl; exact (ty rfl); exact rfl; exact (by first | omega | (simp; done) | (simp; omega)); exact (by first | omega | (simp; done) | (simp; omega)); exact rfl) | (apply q_ld1p; exact rfl; exact rfl; exact (ty rfl); exact rfl; exact rfl; exact (by first | rfl | assumption | ((try simp only [Nat.zero_add]); refine List.getElem?_set_self ?_; (try simp only [List.length_set]); assumption)); exact rfl) | (apply q_build; exact rfl; exact (ty rfl); exact rfl; exact rfl; exact rfl) | (apply q_ixga; exact rfl; exact rfl; exact rfl; exact (ty rfl); exact rfl; exact (by first | omega | (simp; done) | (simp; omega)); exact (by first | omega | (simp; done) | (simp; omega))) | (apply q_g; exact rfl; exact rfl; exact rfl; exact (by assumption)) | (apply q_s; exact rfl; exact rfl; exact rfl; exact (by assumption); exact rfl) | (apply q_sU; exact rfl; exact rfl; exact rfl; exact rfl))
    | (show SQ _ _ _ _ _ _ _ _; (first | (apply q_ldap; exact rfl; exact rfl; exact (ty rfl); exact rfl; exact rfl; exact (by first | rfl | assumption | ((try simp only [Nat.zero_add]); refine List.getElem?_set_self ?_; (try simp only [List.length_set]); assumption)); exact rfl) | (apply q_alloc; exact rfl; exact (ty rfl); exact rfl; exact rfl) | (apply q_store; exact rfl; exact rfl; exact (ty rfl); exact rfl; exact (by first | rfl | assumption | ((try simp only [Nat.zero_add]); refine List.getElem?_set_self ?_; (try simp only [List.length_set]); assumption)); exact rfl; exact rfl; exact rfl) | (apply q_callU; exact rfl; exact rfl; exact rfl; exact FzL.of rfl; exact less_ro _ _ _ _ _)); (try simp only [put, rowsOf, plR, List.all_cons, selE, ovr, setH, del, cellsA, splice, isV, List.nil_append, List.cons_append, List.map_cons, List.map_nil, List.length_cons, List.length_nil, List.set_cons_zero, List.set_cons_succ, List.take_succ_cons, List.take_zero, List.take_nil, List.drop_succ_cons, List.drop_zero, List.drop_nil, List.append_nil, List.all_cons, List.all_nil, Bool.and_true, Bool.true_and, Bool.and_false, Bool.false_and, Nat.reduceAdd, Nat.zero_add, Nat.add_zero, Nat.reduceEqDiff, if_true, if_false, reduceIte]))
    | (show SQ _ _ _ _ _ _ _ _; apply q_gs; exact rfl; exact rfl; exact rfl; exact rfl; all_goals intro h)
    | (show AW _ _ _ _ _ _ _ _; first | refine aw_region ?_ | (refine aw_seqk ?_; intro K hK) | refine aw_block ?_ | (apply aw_cond_t; exact rfl; exact rfl) | (apply aw_cond_f; exact rfl; exact rfl) | refine aw_skip ?_ | (apply aw_ite; exact rfl; all_goals intro h))
    | refine thn_n ?_
    | (refine hK _ _ _ ?_; clear hK K)
    | refine inb_n ?_
    | (show SQ _ _ _ _ _ _ _ _; apply q_farOk; exact rfl; exact rfl; exact rfl; (try simp only [put, rowsOf, plR, List.all_cons, selE, ovr, setH, del, cellsA, splice, isV, List.nil_append, List.cons_append, List.map_cons, List.map_nil, List.length_cons, List.length_nil, List.set_cons_zero, List.set_cons_succ, List.take_succ_cons, List.take_zero, List.take_nil, List.drop_succ_cons, List.drop_zero, List.drop_nil, List.append_nil, List.all_cons, List.all_nil, Bool.and_true, Bool.true_and, Bool.and_false, Bool.false_and, Nat.reduceAdd, Nat.zero_add, Nat.add_zero, Nat.reduceEqDiff, if_true, if_false, reduceIte]))
    | (show SQ _ _ _ _ _ _ _ _; apply q_farPut; exact rfl; exact rfl; exact rfl; exact rfl; exact rfl; exact rfl; (try simp only [put, rowsOf, plR, List.all_cons, selE, ovr, setH, del, cellsA, splice, isV, List.nil_append, List.cons_append, List.map_cons, List.map_nil, List.length_cons, List.length_nil, List.set_cons_zero, List.set_cons_succ, List.take_succ_cons, List.take_zero, List.take_nil, List.drop_succ_cons, List.drop_zero, List.drop_nil, List.append_nil, List.all_cons, List.all_nil, Bool.and_true, Bool.true_and, Bool.and_false, Bool.false_and, Nat.reduceAdd, Nat.zero_add, Nat.add_zero, Nat.reduceEqDiff, if_true, if_false, reduceIte])))); all_goals (repeat (clear hK K)))
        all_goals first
          | (rcases hcs with ⟨g1, g2⟩ | ⟨g1, g2⟩
             · refine ⟨2, id, by omega, by omega, ?_⟩
               (try dsimp only); rw [g2, ← hw2]; exact ⟨by (repeat (refine ⟨by first | exact lk_i rfl rfl | exact lk_d rfl rfl | exact lk_v rfl rfl | exact lk_r rfl rfl rfl | exact lk_om rfl rfl rfl rfl | exact lk_g rfl rfl (by simp only [renL, renA]) rfl | exact lk_v rfl (by (try dsimp only); first | rfl | assumption | (simp; done)), ?_⟩)); exact trivial, by (repeat (refine ⟨by first | exact ⟨rfl, rfl, rfl⟩, ?_⟩)); exact trivial, by rfl, by exact pin_0⟩
             · exfalso; simp_all; done)
          | (rcases hcs with ⟨g1, g2⟩ | ⟨g1, g2⟩
             · exfalso; simp_all; done
             · refine ⟨2, id, by omega, by omega, ?_⟩
               (try dsimp only); rw [g2, ← hw2]; exact ⟨by (repeat (refine ⟨by first | exact lk_i rfl rfl | exact lk_d rfl rfl | exact lk_v rfl rfl | exact lk_r rfl rfl rfl | exact lk_om rfl rfl rfl rfl | exact lk_g rfl rfl (by simp only [renL, renA]) rfl, ?_⟩)); exact trivial, by (repeat (refine ⟨by first | exact ⟨rfl, rfl, rfl⟩, ?_⟩)); exact trivial, by rfl, by exact pin_0⟩)
      | 2, _ =>
        have b2 : decide (((2 : Nat) : Int) < 2) = false := by decide
        ((repeat' (first
    | (show SQ _ _ _ _ _ _ _ _; first | apply sq_nil | (apply q_move; exact rfl; exact rfl) | (apply q_add; exact rfl; exact rfl; exact rfl) | (apply q_lss; exact rfl; exact rfl; exact rfl))
    | (show AW _ _ _ _ _ _ _ _; first | refine aw_region ?_ | (refine aw_seqk ?_; intro K hK) | (apply aw_cond_f; exact rfl; exact rfl) | refine aw_exit ?_)
    | refine thn_n ?_
    | (refine hK _ _ _ ?_; clear hK K)
    | refine thn_e ?_
    | refine inb_same ?_
    | refine inb_n ?_
    | (clear hK K; refine hK _ _ _ ?_; clear hK K))); all_goals (repeat (clear hK K)))
        all_goals (refine ⟨i + 1, id, c1, by omega, ?_⟩; (try dsimp only); rw [hnx, ← hw1]; exact ⟨by (repeat (refine ⟨by first | exact lk_i rfl rfl | exact lk_d rfl rfl | exact lk_v rfl rfl | exact lk_r rfl rfl rfl | exact lk_om rfl rfl rfl rfl, ?_⟩)); exact trivial, by (repeat (refine ⟨by first | exact ⟨rfl, rfl, rfl⟩, ?_⟩)); exact trivial, by rfl, by exact pin_0⟩)
      | q + 3, hq => exact absurd hq (by omega)
    · have b1 : decide ((i : Int) < (ls.length : Int)) = false := by simpa using c1
      obtain rfl : i = ls.length := by omega
      rw [farF] at hR
      generalize fpass ls (F, false) ls.length = st at hS hR ⊢
      ((repeat' (first
    | (show SQ _ _ _ _ _ _ _ _; first | apply sq_nil | (apply q_lss; exact rfl; exact rfl; exact rfl))
    | (show AW _ _ _ _ _ _ _ _; first | refine aw_region ?_ | (refine aw_seqk ?_; intro K hK) | (apply aw_cond_f; exact rfl; exact (by assumption)) | refine aw_exit ?_)
    | refine thn_n ?_
    | (refine hK _ _ _ ?_; clear hK K)
    | refine thn_e ?_
    | refine inb_same ?_
    | refine inb_n ?_)); all_goals (repeat (clear hK K)))
      all_goals
        refine ⟨st, id, ⟨hS.good, fun hb => ⟨q1, by have := hS.up hb; omega, by rw [if_pos hb] at hR; exact hR⟩, fun hb => by rw [if_neg (by simp [hb])] at hR; exact hR⟩, ?_, ⟨by (repeat (refine ⟨by first | exact lk_v rfl rfl | exact lk_r rfl rfl rfl | exact lk_om rfl rfl rfl rfl, ?_⟩)); exact trivial, by (repeat (refine ⟨by first | exact ⟨rfl, rfl, rfl⟩, ?_⟩)); exact trivial, by rfl, by exact pin_0⟩⟩
        cases hb : st.2 with
        | true => have := hS.up hb; simp only [if_true]; omega
        | false => simp
end Go.Proofs.Ytglfcaioapdiaaa.Bk
