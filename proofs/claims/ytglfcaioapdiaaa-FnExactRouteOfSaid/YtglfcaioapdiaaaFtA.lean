/-
  How far each node is: the program's walk.
-/
import Derived.Test.YtglfcaioapdiaaaFtP
import Derived.Test.YtglfcaioapdiaaaAwMp
namespace Go.Proofs.Ytglfcaioapdiaaa.Bk
open Go Go.RowKit Go.Proofs.Ytglfcaioapdiaaa.Aw
set_option linter.unusedSimpArgs false
set_option linter.unusedVariables false
attribute [local irreducible] AW SQ Step RO RC DE Thn InB

def farV (v : Int × Int) : Value := .agg #[.int .i64 v.1, .int .i64 v.2]
def farD (F : Far) : List (Value × Value) := F.map fun p => (.int .i64 p.1, farV p.2)
theorem farD_keys : ∀ F : Far, keysI (farD F) = true
  | [] => rfl
  | p :: F => by
    have := farD_keys F
    simp only [farD, keysI, List.map_cons, List.all_cons] at this ⊢
    simp only [this, Bool.and_true]
theorem farD_get : ∀ (F : Far) (k : Int), mget (farD F) k = (fget F k).map farV
  | [], k => rfl
  | (x, v) :: F, k => by
    have := farD_get F k
    simp only [farD, List.map_cons, mget, fget] at this ⊢
    split
    · rfl
    · exact this
theorem farD_set : ∀ (F : Far) (k : Int) (v : Int × Int), mset (farD F) k (farV v) = farD (fset F k v)
  | [], k, v => rfl
  | (x, u) :: F, k, v => by
    have := farD_set F k v
    simp only [farD, List.map_cons, mset, fset] at this ⊢
    split
    · rfl
    · rw [this]; rfl
theorem map_ty : Try.prog.underlying 114 = some (.map 2 117) := by kernel_rfl
theorem map_k : Try.prog.underlying 2 = some (.int .i64) := by kernel_rfl
theorem map_z : (Try.prog.info? 117).bind (·.zero) = some (.agg #[.int .i64 0, .int .i64 0]) := by kernel_rfl

section
variable {N n : Nat} {all : Array Oper} {l : List Oper} {G : Tp → Hp → Nat → Prop} {T T' : Tp} {H : Hp} {ty : TypeId} {pos : String} {after : Array Edge} {d : Nat}
theorem far_getD (F : Far) (k : Int) : (mget (farD F) k).getD (.agg #[.int .i64 0, .int .i64 0]) = .agg #[.int .i64 (fc F k), .int .i64 (fl F k)] := by
  rw [farD_get]
  unfold fc fl
  cases fget F k <;> rfl
theorem far_has (F : Far) (k : Int) : (mget (farD F) k).isSome = fh F k := by
  rw [farD_get]
  unfold fh
  cases fget F k <;> rfl
theorem q_farOk {x y : Operand} {id : Nat} {F : Far} {k : Int} (hd : Nat.blt d N = true) (hx : evalA T x = some (.om id (farD F))) (hy : evalA T y = some (.v (.int .i64 k)))
    (h : SQ Try.prog N all l G ((d, .tup [.agg [.v (.int .i64 (fc F k)), .v (.int .i64 (fl F k))], .v (.bool (fh F k))]) :: T) H n) : SQ Try.prog N all (⟨some d, .lookup 114 x y true, ty, pos, after, none⟩ :: l) G T H n :=
  sq_step rfl hd (Step.vok (s_lookup (ok := true) rfl hx hy map_ty map_k map_z (farD_keys F) (far_has F k) (far_getD F k)) (.agg2 _ _)) h
theorem q_far {x y : Operand} {id : Nat} {F : Far} {k : Int} (hd : Nat.blt d N = true) (hx : evalA T x = some (.om id (farD F))) (hy : evalA T y = some (.v (.int .i64 k)))
    (h : SQ Try.prog N all l G ((d, .agg [.v (.int .i64 (fc F k)), .v (.int .i64 (fl F k))]) :: T) H n) : SQ Try.prog N all (⟨some d, .lookup 114 x y false, ty, pos, after, none⟩ :: l) G T H n :=
  sq_step rfl hd (Step.vv (s_lookup (ok := false) rfl hx hy map_ty map_k map_z (farD_keys F) rfl (far_getD F k)) (.agg2 _ _)) h
theorem q_farPut {x y z : Operand} {id : Nat} {b : Blk} {F : Far} {k c j : Int} (hx : evalA T x = some (.om id (farD F))) (hy : evalA T y = some (.v (.int .i64 k))) (hz : evalA T z = some (.agg [.v (.int .i64 c), .v (.int .i64 j)])) (hl : Aw.look H id = some b)
    (hH : noOmH H = true) (hT : omT id (farD (fset F k (c, j))) T = some T') (h : SQ Try.prog N all l G T' H n) : SQ Try.prog N all (⟨none, .mapUpdate 114 x y z, ty, pos, after, none⟩ :: l) G T H n :=
  q_mapPut hx hy hz (.agg2 _ _) hl map_ty map_k (farD_keys F) hH (farD_set F k (c, j)) hT h
theorem q_farIns {x y z : Operand} {id : Nat} {b : Blk} {k c j : Int} (hx : evalA T x = some (.om id [])) (hy : evalA T y = some (.v (.int .i64 k))) (hz : evalA T z = some (.agg [.v (.int .i64 c), .v (.int .i64 j)])) (hl : Aw.look H id = some b)
    (hH : noOmH H = true) (hT : omT id (farD [(k, c, j)]) T = some T') (h : SQ Try.prog N all l G T' H n) : SQ Try.prog N all (⟨none, .insert 114 x y z, ty, pos, after, none⟩ :: l) G T H n :=
  q_mapIns hx hy hz (.agg2 _ _) hl map_ty map_k rfl hH rfl hT h
end

set_option maxHeartbeats 4000000 in
theorem less_ro (c l c' l' : Int) (k : Nat) : RO Try.prog 118 [.agg [.v (.int .i64 c), .v (.int .i64 l)], .agg [.v (.int .i64 c'), .v (.int .i64 l')]] k (.v (.bool (lessF (c, l) (c', l')))) [] k := by
  refine RO.ofv' Try.func118 Try.ntmps118 rfl (goFn_of Try.func118 rfl (by kernel_rfl)) rfl rfl ?_
  ((repeat' (first
    | (show SQ _ _ _ _ _ _ _ _; first | apply sq_nil | (apply q_assign; exact rfl; exact rfl))
    | (show SQ _ _ _ _ _ _ _ _; (first | (apply q_box; exact rfl; exact rfl; exact rfl)); (try simp only [put, rowsOf, plR, List.all_cons, selE, ovr, setH, del, cellsA, splice, isV, List.nil_append, List.cons_append, List.map_cons, List.map_nil, List.length_cons, List.length_nil, List.set_cons_zero, List.set_cons_succ, List.take_succ_cons, List.take_zero, List.take_nil, List.drop_succ_cons, List.drop_zero, List.drop_nil, List.append_nil, List.all_cons, List.all_nil, Bool.and_true, Bool.true_and, Bool.and_false, Bool.false_and, Nat.reduceAdd, Nat.zero_add, Nat.add_zero, Nat.reduceEqDiff, if_true, if_false, reduceIte]))
    | (show DE _ _ _ _ _ _ _ _ _ _ _ _; first | (apply e_assign; exact rfl; exact rfl; exact rfl) | (apply e_fieldAddr; exact rfl; exact rfl; exact (ty rfl); exact rfl; exact rfl; exact rfl; exact rfl; exact rfl) | (apply e_lss; exact rfl; exact rfl; exact rfl; exact rfl) | (apply e_ld1p; exact rfl; exact rfl; exact (ty rfl); exact rfl; exact rfl; exact (by first | rfl | assumption | ((try simp only [Nat.zero_add]); refine List.getElem?_set_self ?_; (try simp only [List.length_set]); assumption)); exact rfl; exact rfl))
    | (show DE _ _ _ _ _ _ _ _ _ _ _ _; (first | (apply dr_nil; exact trivial) | (apply e_buildn; exact rfl; exact (ty rfl); exact rfl; exact rfl; exact rfl; exact rfl; exact rfl; exact rfl; exact rfl; exact rfl) | (apply e_callU; exact rfl; exact rfl; exact rfl; exact FzL.of rfl; exact Compare_ro _ _ _; exact rfl) | (apply e_callU; exact rfl; exact rfl; exact rfl; exact FzL.of rfl; exact Or_ro _ _ _; exact rfl)); (try simp only [put, rowsOf, plR, List.all_cons, selE, ovr, setH, del, cellsA, splice, isV, List.nil_append, List.cons_append, List.map_cons, List.map_nil, List.length_cons, List.length_nil, List.set_cons_zero, List.set_cons_succ, List.take_succ_cons, List.take_zero, List.take_nil, List.drop_succ_cons, List.drop_zero, List.drop_nil, List.append_nil, List.all_cons, List.all_nil, Bool.and_true, Bool.true_and, Bool.and_false, Bool.false_and, Nat.reduceAdd, Nat.zero_add, Nat.add_zero, Nat.reduceEqDiff, if_true, if_false, reduceIte]))
    | (show AW _ _ _ _ _ _ _ _; first | refine aw_region ?_ | (refine aw_seqk ?_; intro K hK) | refine aw_ret ?_ | refine aw_drawE (id := 1) [0, 1, 0, 4, 15, 0, 32, 0, 128, 511, 1023, 2047, 4095, 8191] [0, 1, 0, 1, 1, 0, 1, 0, 1, 1, 1, 1, 0, 0] mixed (by kernel_rfl) ?_)
    | refine thn_n ?_
    | (refine hK _ _ _ ?_; clear hK K))); all_goals (repeat (clear hK K)))
  all_goals refine fin_r (fin_b rfl ?_)
  unfold lessF i64c
  simp only
  grind
end Go.Proofs.Ytglfcaioapdiaaa.Bk
