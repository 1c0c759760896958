/-
  What the law FnBackhaul rests on, part 4.
-/
import Derived.Test.YtglfcaioapdiaaaZFnBackhaul3
namespace Go.Proofs.Ytglfcaioapdiaaa.Bk
open Go Go.RowKit Go.Proofs.Ytglfcaioapdiaaa.Aw
set_option linter.unusedSimpArgs false
set_option linter.unusedVariables false
attribute [local irreducible] AW SQ Step RO RC DE Thn InB
def farV (v : Int × Int) : Value := .agg #[.int .i64 v.1, .int .i64 v.2]
def farD (F : Far) : List (Value × Value) := F.map fun p => (.int .i64 p.1, farV p.2)
theorem farD_keys : ∀ F : Far, keysI (farD F) = true
  | [] => rfl
  | p :: F => by
    have := farD_keys F
    simp only [farD, keysI, List.map_cons, List.all_cons] at this ⊢
    simp only [this, Bool.and_true]
theorem farD_get : ∀ (F : Far) (k : Int), mget (farD F) k = (fget F k).map farV
  | [], k => rfl
  | (x, v) :: F, k => by
    have := farD_get F k
    simp only [farD, List.map_cons, mget, fget] at this ⊢
    split
    · rfl
    · exact this
theorem farD_set : ∀ (F : Far) (k : Int) (v : Int × Int), mset (farD F) k (farV v) = farD (fset F k v)
  | [], k, v => rfl
  | (x, u) :: F, k, v => by
    have := farD_set F k v
    simp only [farD, List.map_cons, mset, fset] at this ⊢
    split
    · rfl
    · rw [this]; rfl
theorem map_ty : Try.prog.underlying 114 = some (.map 2 117) := by kernel_rfl
theorem map_k : Try.prog.underlying 2 = some (.int .i64) := by kernel_rfl
theorem map_z : (Try.prog.info? 117).bind (·.zero) = some (.agg #[.int .i64 0, .int .i64 0]) := by kernel_rfl
section
variable {N n : Nat} {all : Array Oper} {l : List Oper} {G : Tp → Hp → Nat → Prop} {T T' : Tp} {H : Hp} {ty : TypeId} {pos : String} {after : Array Edge} {d : Nat}
theorem far_getD (F : Far) (k : Int) : (mget (farD F) k).getD (.agg #[.int .i64 0, .int .i64 0]) = .agg #[.int .i64 (fc F k), .int .i64 (fl F k)] := by
  rw [farD_get]
  unfold fc fl
  cases fget F k <;> rfl
theorem far_has (F : Far) (k : Int) : (mget (farD F) k).isSome = fh F k := by
  rw [farD_get]
  unfold fh
  cases fget F k <;> rfl
theorem q_farOk {x y : Operand} {id : Nat} {F : Far} {k : Int} (hd : Nat.blt d N = true) (hx : evalA T x = some (.om id (farD F))) (hy : evalA T y = some (.v (.int .i64 k)))
    (h : SQ Try.prog N all l G ((d, .tup [.agg [.v (.int .i64 (fc F k)), .v (.int .i64 (fl F k))], .v (.bool (fh F k))]) :: T) H n) : SQ Try.prog N all (⟨some d, .lookup 114 x y true, ty, pos, after, none⟩ :: l) G T H n :=
  sq_step rfl hd (Step.vok (s_lookup (ok := true) rfl hx hy map_ty map_k map_z (farD_keys F) (far_has F k) (far_getD F k)) (.agg2 _ _)) h
theorem q_far {x y : Operand} {id : Nat} {F : Far} {k : Int} (hd : Nat.blt d N = true) (hx : evalA T x = some (.om id (farD F))) (hy : evalA T y = some (.v (.int .i64 k)))
    (h : SQ Try.prog N all l G ((d, .agg [.v (.int .i64 (fc F k)), .v (.int .i64 (fl F k))]) :: T) H n) : SQ Try.prog N all (⟨some d, .lookup 114 x y false, ty, pos, after, none⟩ :: l) G T H n :=
  sq_step rfl hd (Step.vv (s_lookup (ok := false) rfl hx hy map_ty map_k map_z (farD_keys F) rfl (far_getD F k)) (.agg2 _ _)) h
theorem q_farPut {x y z : Operand} {id : Nat} {b : Blk} {F : Far} {k c j : Int} (hx : evalA T x = some (.om id (farD F))) (hy : evalA T y = some (.v (.int .i64 k))) (hz : evalA T z = some (.agg [.v (.int .i64 c), .v (.int .i64 j)])) (hl : Aw.look H id = some b)
    (hH : noOmH H = true) (hT : omT id (farD (fset F k (c, j))) T = some T') (h : SQ Try.prog N all l G T' H n) : SQ Try.prog N all (⟨none, .mapUpdate 114 x y z, ty, pos, after, none⟩ :: l) G T H n :=
  q_mapPut hx hy hz (.agg2 _ _) hl map_ty map_k (farD_keys F) hH (farD_set F k (c, j)) hT h
theorem q_farIns {x y z : Operand} {id : Nat} {b : Blk} {k c j : Int} (hx : evalA T x = some (.om id [])) (hy : evalA T y = some (.v (.int .i64 k))) (hz : evalA T z = some (.agg [.v (.int .i64 c), .v (.int .i64 j)])) (hl : Aw.look H id = some b)
    (hH : noOmH H = true) (hT : omT id (farD [(k, c, j)]) T = some T') (h : SQ Try.prog N all l G T' H n) : SQ Try.prog N all (⟨none, .insert 114 x y z, ty, pos, after, none⟩ :: l) G T H n :=
  q_mapIns hx hy hz (.agg2 _ _) hl map_ty map_k rfl hH rfl hT h
end
set_option maxHeartbeats 4000000 in
theorem less_ro (c l c' l' : Int) (k : Nat) : RO Try.prog 118 [.agg [.v (.int .i64 c), .v (.int .i64 l)], .agg [.v (.int .i64 c'), .v (.int .i64 l')]] k (.v (.bool (lessF (c, l) (c', l')))) [] k := by
  refine RO.ofv' Try.func118 Try.ntmps118 rfl (goFn_of Try.func118 rfl (by kernel_rfl)) rfl rfl ?_
  ((repeat' (first
    | (show SQ _ _ _ _ _ _ _ _; first | apply sq_nil | (apply q_assign; exact rfl; exact rfl))
    | (show SQ _ _ _ _ _ _ _ _; (first | (apply q_box; iterate 3 exact rfl)); (try simp only [put, rowsOf, plR, selE, ovr, setH, del, cellsA, splice, isV, spq, if_true, if_false]))
    | (show DE _ _ _ _ _ _ _ _ _ _ _ _; first | (apply e_assign; iterate 3 exact rfl) | (apply e_fieldAddr; exact rfl; exact rfl; exact (ty rfl); iterate 5 exact rfl) | (apply e_lss; iterate 4 exact rfl) | (apply e_ld1p; exact rfl; exact rfl; exact (ty rfl); exact rfl; exact rfl; exact (by first | rfl | assumption | ((try simp only [Nat.zero_add]); refine List.getElem?_set_self ?_; (try simp only [List.length_set]); assumption)); exact rfl; exact rfl))
    | (show DE _ _ _ _ _ _ _ _ _ _ _ _; (first | (apply dr_nil; exact trivial) | (apply e_buildn; exact rfl; exact (ty rfl); iterate 8 exact rfl) | (apply e_callU; (iterate 3 exact rfl); exact FzL.of rfl; exact Compare_ro _ _ _; exact rfl) | (apply e_callU; (iterate 3 exact rfl); exact FzL.of rfl; exact Or_ro _ _ _; exact rfl)); (try simp only [put, rowsOf, plR, selE, ovr, setH, del, cellsA, splice, isV, spq, if_true, if_false]))
    | (show AW _ _ _ _ _ _ _ _; first | refine aw_region ?_ | (refine aw_seqk ?_; intro K hK) | refine aw_ret ?_ | refine aw_drawE (id := 1) [0, 1, 0, 4, 15, 0, 32, 0, 128, 511, 1023, 2047, 4095, 8191] [0, 1, 0, 1, 1, 0, 1, 0, 1, 1, 1, 1, 0, 0] mixed (by kernel_rfl) ?_)
    | refine thn_n ?_
    | (refine hK _ _ _ ?_; clear hK K))); all_goals (repeat (clear hK K)))
  all_goals refine fin_r (fin_b rfl ?_)
  unfold lessF i64c
  simp only
  grind
end Go.Proofs.Ytglfcaioapdiaaa.Bk

-- How far each node is: the walk of the rounds.
namespace Go.Proofs.Ytglfcaioapdiaaa.Bk
open Go Go.RowKit Go.Proofs.Ytglfcaioapdiaaa.Aw
set_option linter.unusedSimpArgs false
set_option linter.unusedVariables false
attribute [local irreducible] AW SQ Step RO RC DE Thn InB
theorem fstep_case (st : Far × Bool) (x y o : Int) : (fimp st.1 x y o = true ∧ fstep st x y o = (fset st.1 y (fc st.1 x + o, fl st.1 x + 1), true)) ∨ (fimp st.1 x y o = false ∧ fstep st x y o = st) := by
  unfold fstep
  cases fimp st.1 x y o
  · exact .inr ⟨rfl, rfl⟩
  · exact .inl ⟨rfl, rfl⟩
set_option maxHeartbeats 4000000 in
theorem farTo_rc (n : Int) (ls : List Ln) (to : Int) (hN : 1 ≤ n ∧ n ≤ 12) (hn : ls.length ≤ 1048576) (hL : LnsOk n ls) (ht : 0 ≤ to ∧ to < n) (k : Nat) :
    RC Try.prog 91 [.agg (bkL n ls), .v (.int .i64 to)] [] k (.om k (farD (farR n ls to))) [] (k + 1) := by
  refine RC.ofc [] 1 [.agg (bkL n ls), .v (.int .i64 to)] [] (.om 0 (farD (farR n ls to))) [] Try.func91 Try.ntmps91 rfl (goFn_of Try.func91 rfl (by kernel_rfl)) rfl rfl rfl rfl rfl rfl rfl rfl (by simp_all) rfl ?_
  unfold bkL
  ((repeat' (first
    | (show SQ _ _ _ _ _ _ _ _; first | apply sq_nil | (apply q_move; exact rfl; exact rfl) | (apply q_assign; exact rfl; exact rfl) | (apply q_build; exact rfl; exact (ty rfl); iterate 3 exact rfl))
    | (show SQ _ _ _ _ _ _ _ _; (first | (apply q_box; iterate 3 exact rfl)); (try simp only [put, rowsOf, plR, selE, ovr, setH, del, cellsA, splice, isV, spq, if_true, if_false]))
    | (show AW _ _ _ _ _ _ _ _; first | refine aw_region ?_ | (refine aw_seqk ?_; intro K hK) | refine aw_block ?_)
    | refine thn_n ?_
    | (refine hK _ _ _ ?_; clear hK K)
    | (show SQ _ _ _ _ _ _ _ _; apply q_makeMap; exact rfl; (try simp only [put, rowsOf, plR, selE, ovr, setH, del, cellsA, splice, isV, spq, if_true, if_false]))
    | (show SQ _ _ _ _ _ _ _ _; apply q_farIns; (iterate 6 exact rfl); (try simp only [put, rowsOf, plR, selE, ovr, setH, del, cellsA, splice, isV, spq, if_true, if_false])))); all_goals (repeat (clear hK K)))
  have hE := fun x y o (h : EL ls x y o) => EL.ok hL h
  have hM := fun x y o (h : EL ls x y o) => EL.le hL h
  refine aw_loop (ρ := id) (ι := Far × Bool) (fun p => ([(6, .v (.bool p.2)), (5, .om 1 (farD p.1)), (2, .ptr 0 0 0)], [(0, ⟨31, 2, false, [[.v (.int .i64 n), .dsl 4 (ls.map lnL)]]⟩), (1, ⟨0, 1000003, true, []⟩)], 2))
    (fun p => FG (EL ls) to n p.1 ∧ (p.2 = true → ∃ q, mu n p.1 < q ∧ farF ls q p.1 = farR n ls to) ∧ (p.2 = false → p.1 = farR n ls to)) (fun p => if p.2 then mu n p.1 + 1 else 0) ([(to, 0, 0)], true)
    ⟨FG.start, fun _ => ⟨_, Nat.lt_succ_self _, rfl⟩, fun h => by cases h⟩ ⟨by (repeat (refine ⟨by first | exact lk_v rfl rfl | exact lk_r rfl rfl rfl | exact lk_om rfl rfl rfl rfl, ?_⟩)); exact trivial, by (repeat (refine ⟨by first | exact ⟨rfl, rfl, rfl⟩, ?_⟩)); exact trivial, by rfl, by exact pin_0⟩ ?_
  rintro ⟨F, more⟩ ⟨hF, hu, hs⟩
  dsimp only at hF hu hs ⊢
  cases more with
  | false =>
    have hs := hs rfl
    subst hs
    ((repeat' (first
    | (show SQ _ _ _ _ _ _ _ _; first | apply sq_nil | (apply q_move; exact rfl; exact rfl) | (apply q_assign; exact rfl; exact rfl))
    | (show AW _ _ _ _ _ _ _ _; first | refine aw_region ?_ | (refine aw_seqk ?_; intro K hK) | (apply aw_cond_f; exact rfl; exact rfl) | refine aw_ret ?_ | refine aw_exit ?_)
    | refine thn_n ?_
    | (refine hK _ _ _ ?_; clear hK K)
    | refine thn_e ?_
    | refine inb_same ?_
    | (clear hK K; refine hK _ _ _ ?_; clear hK K))); all_goals (repeat (clear hK K)))
    all_goals exact finc (fun _ => 1) (.r1 _ _ (.tmp _ _ rfl)) (by simp only [renA]) (fun _ h => absurd h (Nat.not_lt_zero _)) trivial rfl
  | true =>
    obtain ⟨q0, hq0, hR⟩ := hu rfl
    clear hu hs
    obtain ⟨q1, rfl⟩ : ∃ q1, q0 = q1 + 1 := ⟨q0 - 1, by omega⟩
    have hP0 : FS n to ls F (F, false) := ⟨hF, fun h => (by cases h), fun _ => rfl⟩
    ((repeat' (first
    | (show SQ _ _ _ _ _ _ _ _; first | apply sq_nil | (apply q_move; exact rfl; exact rfl) | (apply q_assign; exact rfl; exact rfl) | (apply q_fieldAddr; exact rfl; exact rfl; exact (ty rfl); iterate 4 exact rfl) | (apply q_lend; exact rfl; exact rfl; exact (ty rfl); exact rfl) | (apply q_ld1p; exact rfl; exact rfl; exact (ty rfl); exact rfl; exact rfl; exact (by first | rfl | assumption | ((try simp only [Nat.zero_add]); refine List.getElem?_set_self ?_; (try simp only [List.length_set]); assumption)); exact rfl))
    | (show AW _ _ _ _ _ _ _ _; first | refine aw_region ?_ | (refine aw_seqk ?_; intro K hK) | refine aw_block ?_ | (apply aw_cond_t; exact rfl; exact rfl) | refine aw_skip ?_)
    | refine thn_n ?_
    | (refine hK _ _ _ ?_; clear hK K))); all_goals (repeat (clear hK K)))
    refine aw_loop (ρ := id) (ι := Nat) (fun i => ([(24, .v (.int .i64 i)), (23, .v (.int .i64 ls.length)), (22, .dsl 4 (ls.map lnL)), (6, .v (.bool (fpass ls (F, false) i).2)), (5, .om 1 (farD (fpass ls (F, false) i).1)), (2, .ptr 0 0 0)], [(0, ⟨31, 2, false, [[.v (.int .i64 n), .dsl 4 (ls.map lnL)]]⟩), (1, ⟨0, 1000003, true, []⟩)], 2))
      (fun i => i ≤ ls.length) (fun i => ls.length - i) 0 (Nat.zero_le _) ⟨by (repeat (refine ⟨by first | exact lk_i rfl rfl | exact lk_i rfl (by (try dsimp only); first | rfl | omega | (rw [IntWalk.i64_in _ (by omega)]; first | rfl | omega | (push_cast; omega)) | (simp; done) | (simp; omega)) | exact lk_d rfl rfl | exact lk_v rfl rfl | exact lk_r rfl rfl rfl | exact lk_om rfl rfl rfl rfl, ?_⟩)); exact trivial, by (repeat (refine ⟨by first | exact ⟨rfl, rfl, rfl⟩, ?_⟩)); exact trivial, by rfl, by exact pin_0⟩ ?_
    intro i hi
    have hS := FS.pass hL hN.2 ht hP0 i hi
    by_cases c1 : i < ls.length
    · have b1 : decide ((i : Int) < (ls.length : Int)) = true := by simpa using c1
      have hrow : (ls.map lnL)[((i : Int)).toNat]? = some (lnL ls[i]) := by simp [c1]
      rw [lnL_eq] at hrow
      have hnx : fpass ls (F, false) (i + 1) = ftwo (fpass ls (F, false) i) ls[i] 2 := by simp [fpass, List.getD, c1]
      have hw1 : IntKind.i64.wrap ((i : Int) + 1) = ((i + 1 : Nat) : Int) := by rw [IntWalk.i64_in _ (by omega)]; omega
      generalize fpass ls (F, false) i = st at hS hnx ⊢
      have hmem := List.getElem_mem c1
      generalize ls[i] = l at hrow hnx hmem
      have heE := EL.of hmem
      ((repeat' (first
    | (show SQ _ _ _ _ _ _ _ _; first | apply sq_nil | (apply q_move; exact rfl; exact rfl) | (apply q_fieldAddr; exact rfl; exact rfl; exact (ty rfl); iterate 4 exact rfl) | (apply q_lss; iterate 3 exact rfl) | (apply q_ixd; (iterate 3 exact rfl); exact (ty rfl); exact rfl; exact (by first | omega | (simp; done) | (simp; omega)); exact (by first | omega | (simp; done) | (simp; omega)); exact (by first | rfl | assumption)) | (apply q_ld1p; exact rfl; exact rfl; exact (ty rfl); exact rfl; exact rfl; exact (by first | rfl | assumption | ((try simp only [Nat.zero_add]); refine List.getElem?_set_self ?_; (try simp only [List.length_set]); assumption)); exact rfl))
    | (show SQ _ _ _ _ _ _ _ _; (first | (apply q_ldad; exact rfl; exact rfl; exact (ty rfl); exact rfl; exact rfl) | (apply q_alloc; exact rfl; exact (ty rfl); exact rfl; exact rfl) | (apply q_store; exact rfl; exact rfl; exact (ty rfl); exact rfl; exact (by first | rfl | assumption | ((try simp only [Nat.zero_add]); refine List.getElem?_set_self ?_; (try simp only [List.length_set]); assumption)); iterate 3 exact rfl)); (try simp only [put, rowsOf, plR, selE, ovr, setH, del, cellsA, splice, isV, spq, if_true, if_false]))
    | (show AW _ _ _ _ _ _ _ _; first | refine aw_region ?_ | (refine aw_seqk ?_; intro K hK) | refine aw_block ?_ | (apply aw_cond_t; exact rfl; exact (by assumption)) | refine aw_skip ?_)
    | refine thn_n ?_
    | (refine hK _ _ _ ?_; clear hK K)
    | (show SQ _ _ _ _ _ _ _ _; apply q_buildArr; exact rfl; exact (ty rfl); (iterate 3 exact rfl); (try simp only [put, rowsOf, plR, selE, ovr, setH, del, cellsA, splice, isV, spq, if_true, if_false])))); all_goals (repeat (clear hK K)))
      refine aw_loop (ρ := id) (ι := Nat) (fun q => ([(39, .v (.int .i64 q)), (38, .agg [.v (.int .i64 l.a), .v (.int .i64 l.b), .v (.int .i64 l.b), .v (.int .i64 l.a)]), (24, .v (.int .i64 i)), (23, .v (.int .i64 ls.length)), (22, .dsl 4 (ls.map lnL)), (8, .ptr 2 0 0), (6, .v (.bool (ftwo st l q).2)), (5, .om 1 (farD (ftwo st l q).1)), (2, .ptr 0 0 0)], [(0, ⟨31, 2, false, [[.v (.int .i64 n), .dsl 4 (ls.map lnL)]]⟩), (1, ⟨0, 1000003, true, []⟩), (2, ⟨56, 4, false, [[.v (.int .i64 l.a), .v (.int .i64 l.b), .v (.int .i64 l.o), .v (.int .i64 l.c)]]⟩)], 3))
        (fun q => q ≤ 2) (fun q => 2 - q) 0 (Nat.zero_le _) ⟨by (repeat (refine ⟨by first | exact lk_i rfl rfl | exact lk_d rfl rfl | exact lk_v rfl rfl | exact lk_r rfl rfl rfl | exact lk_om rfl rfl rfl rfl | exact lk_g rfl rfl (by simp only [renL, renA]) rfl, ?_⟩)); exact trivial, by (repeat (refine ⟨by first | exact ⟨rfl, rfl, rfl⟩, ?_⟩)); exact trivial, by rfl, by exact pin_0⟩ ?_
      intro q hq
      have hSq := FS.two hL hN.2 ht hS hmem q
      match q, hq with
      | 0, _ =>
        have b2 : decide (((0 : Nat) : Int) < 2) = true := by decide
        have hw2 : IntKind.i64.wrap (((0 : Nat) : Int) + 1) = ((1 : Nat) : Int) := by decide
        have hst : ftwo st l 1 = fstep (ftwo st l 0) l.a l.b l.o := rfl
        generalize ftwo st l 0 = u at hSq hst ⊢
        have hb1 := FG.bc hE ht hM hN.2 hSq.good l.a
        have hb2 := hL l hmem
        have hwc : IntKind.i64.wrap (fc u.1 l.a + l.o) = fc u.1 l.a + l.o := IntWalk.i64_in _ (by omega)
        have hwl : IntKind.i64.wrap (fl u.1 l.a + 1) = fl u.1 l.a + 1 := IntWalk.i64_in _ (by omega)
        have hcs := fstep_case u l.a l.b l.o
        rw [← hst] at hcs
        unfold fimp at hcs
        rw [← hwc, ← hwl] at hcs
        clear hwc hwl hb1 hb2 hst
        ((repeat' (first
    | (show SQ _ _ _ _ _ _ _ _; first | apply sq_nil | (apply q_move; exact rfl; exact rfl) | (apply q_assign; exact rfl; exact rfl) | (apply q_pick_t; (iterate 3 exact rfl); exact (by first | assumption | exact rfl)) | (apply q_pick_f; (iterate 3 exact rfl); exact (by first | assumption | exact rfl)) | (apply q_fieldAddr; exact rfl; exact rfl; exact (ty rfl); iterate 4 exact rfl) | (apply q_not; exact rfl; exact rfl) | (apply q_ext; iterate 3 exact rfl) | (apply q_add; iterate 3 exact rfl) | (apply q_lss; iterate 3 exact rfl) | (apply q_ixa; (iterate 3 exact rfl); exact (ty rfl); exact rfl; exact (by first | omega | (simp; done) | (simp; omega)); exact (by first | omega | (simp; done) | (simp; omega)); exact rfl) | (apply q_ld1p; exact rfl; exact rfl; exact (ty rfl); exact rfl; exact rfl; exact (by first | rfl | assumption | ((try simp only [Nat.zero_add]); refine List.getElem?_set_self ?_; (try simp only [List.length_set]); assumption)); exact rfl) | (apply q_build; exact rfl; exact (ty rfl); iterate 3 exact rfl) | (apply q_ixga; (iterate 3 exact rfl); exact (ty rfl); exact rfl; exact (by first | omega | (simp; done) | (simp; omega)); exact (by first | omega | (simp; done) | (simp; omega))) | (apply q_g; (iterate 3 exact rfl); exact (by assumption)) | (apply q_s; (iterate 3 exact rfl); exact (by assumption); exact rfl) | (apply q_sU; iterate 4 exact rfl))
    | (show SQ _ _ _ _ _ _ _ _; (first | (apply q_ldap; exact rfl; exact rfl; exact (ty rfl); exact rfl; exact rfl; exact (by first | rfl | assumption | ((try simp only [Nat.zero_add]); refine List.getElem?_set_self ?_; (try simp only [List.length_set]); assumption)); exact rfl) | (apply q_alloc; exact rfl; exact (ty rfl); exact rfl; exact rfl) | (apply q_store; exact rfl; exact rfl; exact (ty rfl); exact rfl; exact (by first | rfl | assumption | ((try simp only [Nat.zero_add]); refine List.getElem?_set_self ?_; (try simp only [List.length_set]); assumption)); iterate 3 exact rfl) | (apply q_callU; (iterate 3 exact rfl); exact FzL.of rfl; exact less_ro _ _ _ _ _)); (try simp only [put, rowsOf, plR, selE, ovr, setH, del, cellsA, splice, isV, spq, if_true, if_false]))
    | (show SQ _ _ _ _ _ _ _ _; apply q_gs; (iterate 4 exact rfl); all_goals intro h)
    | (show AW _ _ _ _ _ _ _ _; first | refine aw_region ?_ | (refine aw_seqk ?_; intro K hK) | refine aw_block ?_ | (apply aw_cond_t; exact rfl; exact rfl) | (apply aw_cond_f; exact rfl; exact rfl) | refine aw_skip ?_ | (apply aw_ite; exact rfl; all_goals intro h))
    | refine thn_n ?_
    | (refine hK _ _ _ ?_; clear hK K)
    | refine inb_n ?_
    | (show SQ _ _ _ _ _ _ _ _; apply q_farOk; (iterate 3 exact rfl); (try simp only [put, rowsOf, plR, selE, ovr, setH, del, cellsA, splice, isV, spq, if_true, if_false]))
    | (show SQ _ _ _ _ _ _ _ _; apply q_farPut; (iterate 6 exact rfl); (try simp only [put, rowsOf, plR, selE, ovr, setH, del, cellsA, splice, isV, spq, if_true, if_false])))); all_goals (repeat (clear hK K)))
        all_goals first
          | (rcases hcs with ⟨g1, g2⟩ | ⟨g1, g2⟩
             · refine ⟨1, id, by omega, by omega, ?_⟩
               (try dsimp only); rw [g2, ← hw2]; exact ⟨by (repeat (refine ⟨by first | exact lk_i rfl rfl | exact lk_d rfl rfl | exact lk_v rfl rfl | exact lk_r rfl rfl rfl | exact lk_om rfl rfl rfl rfl | exact lk_g rfl rfl (by simp only [renL, renA]) rfl | exact lk_v rfl (by (try dsimp only); first | rfl | assumption | (simp; done)), ?_⟩)); exact trivial, by (repeat (refine ⟨by first | exact ⟨rfl, rfl, rfl⟩, ?_⟩)); exact trivial, by rfl, by exact pin_0⟩
             · exfalso; simp_all; done)
          | (rcases hcs with ⟨g1, g2⟩ | ⟨g1, g2⟩
             · exfalso; simp_all; done
             · refine ⟨1, id, by omega, by omega, ?_⟩
               (try dsimp only); rw [g2, ← hw2]; exact ⟨by (repeat (refine ⟨by first | exact lk_i rfl rfl | exact lk_d rfl rfl | exact lk_v rfl rfl | exact lk_r rfl rfl rfl | exact lk_om rfl rfl rfl rfl | exact lk_g rfl rfl (by simp only [renL, renA]) rfl, ?_⟩)); exact trivial, by (repeat (refine ⟨by first | exact ⟨rfl, rfl, rfl⟩, ?_⟩)); exact trivial, by rfl, by exact pin_0⟩)
      | 1, _ =>
        have b2 : decide (((1 : Nat) : Int) < 2) = true := by decide
        have hw2 : IntKind.i64.wrap (((1 : Nat) : Int) + 1) = ((2 : Nat) : Int) := by decide
        have hst : ftwo st l 2 = fstep (ftwo st l 1) l.b l.a l.o := rfl
        generalize ftwo st l 1 = u at hSq hst ⊢
        have hb1 := FG.bc hE ht hM hN.2 hSq.good l.b
        have hb2 := hL l hmem
        have hwc : IntKind.i64.wrap (fc u.1 l.b + l.o) = fc u.1 l.b + l.o := IntWalk.i64_in _ (by omega)
        have hwl : IntKind.i64.wrap (fl u.1 l.b + 1) = fl u.1 l.b + 1 := IntWalk.i64_in _ (by omega)
        have hcs := fstep_case u l.b l.a l.o
        rw [← hst] at hcs
        unfold fimp at hcs
        rw [← hwc, ← hwl] at hcs
        clear hwc hwl hb1 hb2 hst
        ((repeat' (first
    | (show SQ _ _ _ _ _ _ _ _; first | apply sq_nil | (apply q_move; exact rfl; exact rfl) | (apply q_assign; exact rfl; exact rfl) | (apply q_pick_t; (iterate 3 exact rfl); exact (by first | assumption | exact rfl)) | (apply q_pick_f; (iterate 3 exact rfl); exact (by first | assumption | exact rfl)) | (apply q_fieldAddr; exact rfl; exact rfl; exact (ty rfl); iterate 4 exact rfl) | (apply q_not; exact rfl; exact rfl) | (apply q_ext; iterate 3 exact rfl) | (apply q_add; iterate 3 exact rfl) | (apply q_lss; iterate 3 exact rfl) | (apply q_ixa; (iterate 3 exact rfl); exact (ty rfl); exact rfl; exact (by first | omega | (simp; done) | (simp; omega)); exact (by first | omega | (simp; done) | (simp; omega)); exact rfl) | (apply q_ld1p; exact rfl; exact rfl; exact (ty rfl); exact rfl; exact rfl; exact (by first | rfl | assumption | ((try simp only [Nat.zero_add]); refine List.getElem?_set_self ?_; (try simp only [List.length_set]); assumption)); exact rfl) | (apply q_build; exact rfl; exact (ty rfl); iterate 3 exact rfl) | (apply q_ixga; (iterate 3 exact rfl); exact (ty rfl); exact rfl; exact (by first | omega | (simp; done) | (simp; omega)); exact (by first | omega | (simp; done) | (simp; omega))) | (apply q_g; (iterate 3 exact rfl); exact (by assumption)) | (apply q_s; (iterate 3 exact rfl); exact (by assumption); exact rfl) | (apply q_sU; iterate 4 exact rfl))
    | (show SQ _ _ _ _ _ _ _ _; (first | (apply q_ldap; exact rfl; exact rfl; exact (ty rfl); exact rfl; exact rfl; exact (by first | rfl | assumption | ((try simp only [Nat.zero_add]); refine List.getElem?_set_self ?_; (try simp only [List.length_set]); assumption)); exact rfl) | (apply q_alloc; exact rfl; exact (ty rfl); exact rfl; exact rfl) | (apply q_store; exact rfl; exact rfl; exact (ty rfl); exact rfl; exact (by first | rfl | assumption | ((try simp only [Nat.zero_add]); refine List.getElem?_set_self ?_; (try simp only [List.length_set]); assumption)); iterate 3 exact rfl) | (apply q_callU; (iterate 3 exact rfl); exact FzL.of rfl; exact less_ro _ _ _ _ _)); (try simp only [put, rowsOf, plR, selE, ovr, setH, del, cellsA, splice, isV, spq, if_true, if_false]))
    | (show SQ _ _ _ _ _ _ _ _; apply q_gs; (iterate 4 exact rfl); all_goals intro h)
    | (show AW _ _ _ _ _ _ _ _; first | refine aw_region ?_ | (refine aw_seqk ?_; intro K hK) | refine aw_block ?_ | (apply aw_cond_t; exact rfl; exact rfl) | (apply aw_cond_f; exact rfl; exact rfl) | refine aw_skip ?_ | (apply aw_ite; exact rfl; all_goals intro h))
    | refine thn_n ?_
    | (refine hK _ _ _ ?_; clear hK K)
    | refine inb_n ?_
    | (show SQ _ _ _ _ _ _ _ _; apply q_farOk; (iterate 3 exact rfl); (try simp only [put, rowsOf, plR, selE, ovr, setH, del, cellsA, splice, isV, spq, if_true, if_false]))
    | (show SQ _ _ _ _ _ _ _ _; apply q_farPut; (iterate 6 exact rfl); (try simp only [put, rowsOf, plR, selE, ovr, setH, del, cellsA, splice, isV, spq, if_true, if_false])))); all_goals (repeat (clear hK K)))
        all_goals first
          | (rcases hcs with ⟨g1, g2⟩ | ⟨g1, g2⟩
             · refine ⟨2, id, by omega, by omega, ?_⟩
               (try dsimp only); rw [g2, ← hw2]; exact ⟨by (repeat (refine ⟨by first | exact lk_i rfl rfl | exact lk_d rfl rfl | exact lk_v rfl rfl | exact lk_r rfl rfl rfl | exact lk_om rfl rfl rfl rfl | exact lk_g rfl rfl (by simp only [renL, renA]) rfl | exact lk_v rfl (by (try dsimp only); first | rfl | assumption | (simp; done)), ?_⟩)); exact trivial, by (repeat (refine ⟨by first | exact ⟨rfl, rfl, rfl⟩, ?_⟩)); exact trivial, by rfl, by exact pin_0⟩
             · exfalso; simp_all; done)
          | (rcases hcs with ⟨g1, g2⟩ | ⟨g1, g2⟩
             · exfalso; simp_all; done
             · refine ⟨2, id, by omega, by omega, ?_⟩
               (try dsimp only); rw [g2, ← hw2]; exact ⟨by (repeat (refine ⟨by first | exact lk_i rfl rfl | exact lk_d rfl rfl | exact lk_v rfl rfl | exact lk_r rfl rfl rfl | exact lk_om rfl rfl rfl rfl | exact lk_g rfl rfl (by simp only [renL, renA]) rfl, ?_⟩)); exact trivial, by (repeat (refine ⟨by first | exact ⟨rfl, rfl, rfl⟩, ?_⟩)); exact trivial, by rfl, by exact pin_0⟩)
      | 2, _ =>
        have b2 : decide (((2 : Nat) : Int) < 2) = false := by decide
        ((repeat' (first
    | (show SQ _ _ _ _ _ _ _ _; first | apply sq_nil | (apply q_move; exact rfl; exact rfl) | (apply q_add; iterate 3 exact rfl) | (apply q_lss; iterate 3 exact rfl))
    | (show AW _ _ _ _ _ _ _ _; first | refine aw_region ?_ | (refine aw_seqk ?_; intro K hK) | (apply aw_cond_f; exact rfl; exact rfl) | refine aw_exit ?_)
    | refine thn_n ?_
    | (refine hK _ _ _ ?_; clear hK K)
    | refine thn_e ?_
    | refine inb_same ?_
    | refine inb_n ?_
    | (clear hK K; refine hK _ _ _ ?_; clear hK K))); all_goals (repeat (clear hK K)))
        all_goals (refine ⟨i + 1, id, c1, by omega, ?_⟩; (try dsimp only); rw [hnx, ← hw1]; exact ⟨by (repeat (refine ⟨by first | exact lk_i rfl rfl | exact lk_d rfl rfl | exact lk_v rfl rfl | exact lk_r rfl rfl rfl | exact lk_om rfl rfl rfl rfl, ?_⟩)); exact trivial, by (repeat (refine ⟨by first | exact ⟨rfl, rfl, rfl⟩, ?_⟩)); exact trivial, by rfl, by exact pin_0⟩)
      | q + 3, hq => exact absurd hq (by omega)
    · have b1 : decide ((i : Int) < (ls.length : Int)) = false := by simpa using c1
      obtain rfl : i = ls.length := by omega
      rw [farF] at hR
      generalize fpass ls (F, false) ls.length = st at hS hR ⊢
      ((repeat' (first
    | (show SQ _ _ _ _ _ _ _ _; first | apply sq_nil | (apply q_lss; iterate 3 exact rfl))
    | (show AW _ _ _ _ _ _ _ _; first | refine aw_region ?_ | (refine aw_seqk ?_; intro K hK) | (apply aw_cond_f; exact rfl; exact (by assumption)) | refine aw_exit ?_)
    | refine thn_n ?_
    | (refine hK _ _ _ ?_; clear hK K)
    | refine thn_e ?_
    | refine inb_same ?_
    | refine inb_n ?_)); all_goals (repeat (clear hK K)))
      all_goals
        refine ⟨st, id, ⟨hS.good, fun hb => ⟨q1, by have := hS.up hb; omega, by rw [if_pos hb] at hR; exact hR⟩, fun hb => by rw [if_neg (by simp [hb])] at hR; exact hR⟩, ?_, ⟨by (repeat (refine ⟨by first | exact lk_v rfl rfl | exact lk_r rfl rfl rfl | exact lk_om rfl rfl rfl rfl, ?_⟩)); exact trivial, by (repeat (refine ⟨by first | exact ⟨rfl, rfl, rfl⟩, ?_⟩)); exact trivial, by rfl, by exact pin_0⟩⟩
        cases hb : st.2 with
        | true => have := hS.up hb; simp only [if_true]; omega
        | false => simp
end Go.Proofs.Ytglfcaioapdiaaa.Bk

namespace Go.Proofs.Ytglfcaioapdiaaa.Bk
open Go Go.RowKit Go.Proofs.Ytglfcaioapdiaaa.Aw
set_option linter.unusedSimpArgs false
set_option linter.unusedVariables false
attribute [local irreducible] AW SQ Step RO RC DE Thn InB
theorem farEq_run (a b c d : Int) (w : World) : (Op.equalIn 10000 117 (.agg ([Value.int .i64 a, Value.int .i64 b] : List Value).toArray) (.agg ([Value.int .i64 c, Value.int .i64 d] : List Value).toArray)).run Try.prog w = .ok (a == c && b == d) w := by
  have u3 := Try.underlying2
  have hS : Try.prog.underlying 117 = some (.struct (Try.prog.fieldsOf 117)) := by kernel_rfl
  have hp : Try.prog.stoodInHeld 117 = false := by kernel_rfl
  have hc : Try.prog.cellsOf 2 = 1 := by kernel_rfl
  rw [show (10000 : Nat) = 9999 + 1 from rfl, run_equalIn_agg w 9999 117 _ _ hS hp]
  simp only [Program.fieldsOf, Try.underlying117]
  go_simp
  by_cases h1 : a = c <;> by_cases h2 : b = d <;> simp [h1, h2]
section
variable {N n : Nat} {all : Array Oper} {l : List Oper} {G : Tp → Hp → Nat → Prop} {T : Tp} {H : Hp} {ty : TypeId} {pos : String} {after : Array Edge} {d : Nat}
theorem q_farEq {x y : Operand} {u : TypeId} {p q p' q' : Int} (hd : Nat.blt d N = true) (hx : evalA T x = some (.agg [.v (.int .i64 p), .v (.int .i64 q)])) (hy : evalA T y = some (.agg [.v (.int .i64 p'), .v (.int .i64 q')]))
    (h : SQ Try.prog N all l G ((d, .v (.bool (p == p' && q == q'))) :: T) H n) : SQ Try.prog N all (⟨some d, .binOp .eql 117 x y u, ty, pos, after, none⟩ :: l) G T H n :=
  sq_step rfl hd (s_eqA false rfl hx hy (by kernel_rfl) (farEq_run p q p' q') rfl rfl) h
end
set_option maxHeartbeats 4000000 in
theorem route_nil_ro (n : Int) (ls : List Ln) (frm to : Int) (hN : 1 ≤ n ∧ n ≤ 12) (hn : ls.length ≤ 1048576) (hL : LnsOk n ls) (hf : 0 ≤ frm ∧ frm < n) (ht : 0 ≤ to ∧ to < n) (hh : fh (farR n ls to) frm = false) (k : Nat) :
    RO Try.prog 50 [.agg (bkL n ls), .v (.int .i64 frm), .v (.int .i64 to)] k (.v (.slice none 0 0)) [] k := by
  have hT := farTo_rc n ls to hN hn hL ht
  refine RO.ofv' Try.func50 Try.ntmps50 rfl (goFn_of Try.func50 rfl (by kernel_rfl)) rfl rfl ?_
  unfold bkL at hT ⊢
  have b0 : (!fh (farR n ls to) frm) = true := by rw [hh]; rfl
  ((repeat' (first
    | (show SQ _ _ _ _ _ _ _ _; first | apply sq_nil | (apply q_move; exact rfl; exact rfl) | (apply q_assign; exact rfl; exact rfl) | (apply q_not; exact rfl; exact rfl) | (apply q_ext; iterate 3 exact rfl))
    | (show SQ _ _ _ _ _ _ _ _; (first | (apply q_ldap; exact rfl; exact rfl; exact (ty rfl); exact rfl; exact rfl; exact (by first | rfl | assumption | ((try simp only [Nat.zero_add]); refine List.getElem?_set_self ?_; (try simp only [List.length_set]); assumption)); exact rfl) | (apply q_box; iterate 3 exact rfl) | (apply q_alloc; exact rfl; exact (ty rfl); exact rfl; exact rfl) | (apply q_store; exact rfl; exact rfl; exact (ty rfl); exact rfl; exact (by first | rfl | assumption | ((try simp only [Nat.zero_add]); refine List.getElem?_set_self ?_; (try simp only [List.length_set]); assumption)); iterate 3 exact rfl) | (apply q_callC; (iterate 3 exact rfl); exact hT _; (focus ((repeat (first | exact trivial | refine ⟨by first | exact rfl | assumption, ?_⟩)); done)); skip)); (try simp only [put, rowsOf, plR, selE, ovr, setH, del, cellsA, splice, isV, spq, if_true, if_false]))
    | (show AW _ _ _ _ _ _ _ _; first | refine aw_region ?_ | (refine aw_seqk ?_; intro K hK) | (apply aw_cond_t; exact rfl; exact (by assumption)) | refine aw_ret ?_)
    | refine thn_n ?_
    | (refine hK _ _ _ ?_; clear hK K)
    | refine thn_r ?_
    | (show SQ _ _ _ _ _ _ _ _; apply q_farOk; (iterate 3 exact rfl); (try simp only [put, rowsOf, plR, selE, ovr, setH, del, cellsA, splice, isV, spq, if_true, if_false])))); all_goals (repeat (clear hK K)))
  all_goals exact fin_r (fin_v (.r1 _ _ (.tmp _ _ rfl)))
set_option maxHeartbeats 4000000 in
theorem route_some_ro (n : Int) (ls : List Ln) (frm to : Int) (hN : 1 ≤ n ∧ n ≤ 12) (hn : ls.length ≤ 1048576) (hL : LnsOk n ls) (hf : 0 ≤ frm ∧ frm < n) (ht : 0 ≤ to ∧ to < n) (hh : fh (farR n ls to) frm = true) (k : Nat) :
    RO Try.prog 50 [.agg (bkL n ls), .v (.int .i64 frm), .v (.int .i64 to)] k (.sl k 0 ((fl (farR n ls to) frm).toNat + 1)) [(k, ⟨2, 1, true, (rlist (farR n ls to) n ls frm (fl (farR n ls to) frm).toNat).map inL⟩)] (k + 1) := by
  have hT := farTo_rc n ls to hN hn hL ht
  have hFW := FW.of (to := to) hL hN.2 ht
  refine RO.ofm (.sl 0 0 ((fl (farR n ls to) frm).toNat + 1)) ([(0, ⟨2, 1, true, (rlist (farR n ls to) n ls frm (fl (farR n ls to) frm).toNat).map inL⟩)]) 1 Try.func50 Try.ntmps50 rfl (goFn_of Try.func50 rfl (by kernel_rfl)) rfl rfl (by simp [renA, renL]) (by simp [shH, renB]) rfl ?_
  unfold bkL at hT ⊢
  generalize farR n ls to = F at *
  have b0 : (!fh F frm) = false := by rw [hh]; rfl
  have hbd := hFW.bd hh
  ((repeat' (first
    | (show SQ _ _ _ _ _ _ _ _; first | apply sq_nil | (apply q_move; exact rfl; exact rfl) | (apply q_assign; exact rfl; exact rfl) | (apply q_not; exact rfl; exact rfl) | (apply q_ext; iterate 3 exact rfl))
    | (show SQ _ _ _ _ _ _ _ _; (first | (apply q_ldap; exact rfl; exact rfl; exact (ty rfl); exact rfl; exact rfl; exact (by first | rfl | assumption | ((try simp only [Nat.zero_add]); refine List.getElem?_set_self ?_; (try simp only [List.length_set]); assumption)); exact rfl) | (apply q_box; iterate 3 exact rfl) | (apply q_alloc; exact rfl; exact (ty rfl); exact rfl; exact rfl) | (apply q_store; exact rfl; exact rfl; exact (ty rfl); exact rfl; exact (by first | rfl | assumption | ((try simp only [Nat.zero_add]); refine List.getElem?_set_self ?_; (try simp only [List.length_set]); assumption)); iterate 3 exact rfl) | (apply q_buildn; exact rfl; exact (ty rfl); iterate 7 exact rfl) | (apply q_callC; (iterate 3 exact rfl); exact hT _; (focus ((repeat (first | exact trivial | refine ⟨by first | exact rfl | assumption, ?_⟩)); done)); skip)); (try simp only [put, rowsOf, plR, selE, ovr, setH, del, cellsA, splice, isV, spq, if_true, if_false]))
    | (show AW _ _ _ _ _ _ _ _; first | refine aw_region ?_ | (refine aw_seqk ?_; intro K hK) | refine aw_block ?_ | (apply aw_cond_f; exact rfl; exact (by assumption)) | refine aw_skip ?_)
    | refine thn_n ?_
    | (refine hK _ _ _ ?_; clear hK K)
    | (show SQ _ _ _ _ _ _ _ _; apply q_farOk; (iterate 3 exact rfl); (try simp only [put, rowsOf, plR, selE, ovr, setH, del, cellsA, splice, isV, spq, if_true, if_false])))); all_goals (repeat (clear hK K)))
  refine aw_loop (ρ := fun j => [0, 1, 3].getD j 0) (ι := Nat) (fun k => ([(11, .v (.int .i64 (gat F n ls frm k))), (10, .sl 2 0 (k + 1)), (7, .om 1 (farD F)), (3, .ptr 0 0 0), (2, .v (.int .i64 to))], [(0, ⟨31, 2, false, [[.v (.int .i64 n), .dsl 4 (ls.map lnL)]]⟩), (2, ⟨2, 1, true, (rlist F n ls frm k).map inL⟩)], 3))
    (fun k => (k : Int) ≤ fl F frm) (fun k => (fl F frm).toNat - k) 0 (by omega) ⟨by (repeat (refine ⟨by first | exact lk_i rfl rfl | exact lk_r rfl rfl rfl | exact lk_s rfl rfl rfl rfl | exact lk_om rfl rfl rfl rfl, ?_⟩)); exact trivial, by (repeat (refine ⟨by first | exact ⟨rfl, rfl, rfl⟩, ?_⟩)); exact trivial, by rfl, by exact pin_0⟩ ?_
  intro k hk
  obtain ⟨g1, g2⟩ := hFW.at hh k hk
  have hrl := rlist_len F n ls frm k
  by_cases c1 : (k : Int) < fl F frm
  · have b1 : (gat F n ls frm k != to) = true := by have := hFW.ne g1 (by omega); simpa using this
    have hrs := rlist_succ F n ls frm k
    have hga : gat F n ls frm (k + 1) = gmin F n (gat F n ls frm k) ls ls.length := rfl
    rw [hga] at hrs
    generalize rlist F n ls frm k = rk at *
    generalize gat F n ls frm k = x at *
    ((repeat' (first
    | (show SQ _ _ _ _ _ _ _ _; first | apply sq_nil | (apply q_move; exact rfl; exact rfl) | (apply q_assign; exact rfl; exact rfl) | (apply q_fieldAddr; exact rfl; exact rfl; exact (ty rfl); iterate 4 exact rfl) | (apply q_lend; exact rfl; exact rfl; exact (ty rfl); exact rfl) | (apply q_neq; iterate 3 exact rfl) | (apply q_ld1p; exact rfl; exact rfl; exact (ty rfl); exact rfl; exact rfl; exact (by first | rfl | assumption | ((try simp only [Nat.zero_add]); refine List.getElem?_set_self ?_; (try simp only [List.length_set]); assumption)); exact rfl))
    | (show AW _ _ _ _ _ _ _ _; first | refine aw_region ?_ | (refine aw_seqk ?_; intro K hK) | refine aw_block ?_ | (apply aw_cond_t; exact rfl; exact (by assumption)) | refine aw_skip ?_)
    | refine thn_n ?_
    | (refine hK _ _ _ ?_; clear hK K))); all_goals (repeat (clear hK K)))
    refine aw_loop (ρ := id) (ι := Nat) (fun i => ([(40, .v (.int .i64 i)), (39, .v (.int .i64 ls.length)), (38, .dsl 4 (ls.map lnL)), (12, .v (.int .i64 (gmin F n x ls i))), (11, .v (.int .i64 x)), (10, .sl 2 0 (k + 1)), (7, .om 1 (farD F)), (3, .ptr 0 0 0), (2, .v (.int .i64 to))], [(0, ⟨31, 2, false, [[.v (.int .i64 n), .dsl 4 (ls.map lnL)]]⟩), (2, ⟨2, 1, true, rk.map inL⟩)], 3))
      (fun i => i ≤ ls.length) (fun i => ls.length - i) 0 (Nat.zero_le _) ⟨by (repeat (refine ⟨by first | exact lk_i rfl rfl | exact lk_i rfl (by (try dsimp only); first | rfl | omega | (rw [IntWalk.i64_in _ (by omega)]; first | rfl | omega | (push_cast; omega)) | (simp; done) | (simp; omega)) | exact lk_d rfl rfl | exact lk_r rfl rfl rfl | exact lk_s rfl rfl rfl rfl | exact lk_om rfl rfl rfl rfl, ?_⟩)); exact trivial, by (repeat (refine ⟨by first | exact ⟨rfl, rfl, rfl⟩, ?_⟩)); exact trivial, by rfl, by exact pin_0⟩ ?_
    intro i hi
    by_cases c2 : i < ls.length
    · have b2 : decide ((i : Int) < (ls.length : Int)) = true := by simpa using c2
      have hrow : (ls.map lnL)[((i : Int)).toNat]? = some (lnL ls[i]) := by simp [c2]
      rw [lnL_eq] at hrow
      have hgs := gmin_succ (F := F) (n := n) (x := x) c2
      have hw1 : IntKind.i64.wrap ((i : Int) + 1) = ((i + 1 : Nat) : Int) := by rw [IntWalk.i64_in _ (by omega)]; omega
      have hmem := List.getElem_mem c2
      have hO := other_ro x ls[i]
      rw [lnL_eq] at hO
      generalize ls[i] = l at hrow hgs hmem hO
      have hb1 := hFW.bc (othV x l)
      have hb2 := hL l hmem
      have hwc : IntKind.i64.wrap (fc F (othV x l) + l.o) = fc F (othV x l) + l.o := IntWalk.i64_in _ (by omega)
      have hwl : IntKind.i64.wrap (fl F (othV x l) + 1) = fl F (othV x l) + 1 := IntWalk.i64_in _ (by omega)
      unfold gst gok at hgs
      rw [← hwc, ← hwl] at hgs
      clear hwc hwl hb1 hb2
      generalize gmin F n x ls i = b at hgs ⊢
      have hmn : mnI b (othV x l) = min b (othV x l) := by unfold mnI; split <;> omega
      rw [← hmn] at hgs
      clear hmn
      ((repeat' (first
    | (show SQ _ _ _ _ _ _ _ _; first | apply sq_nil | (apply q_move; exact rfl; exact rfl) | (apply q_assign; exact rfl; exact rfl) | (apply q_pick_t; (iterate 3 exact rfl); exact (by first | assumption | exact rfl)) | (apply q_pick_f; (iterate 3 exact rfl); exact (by first | assumption | exact rfl)) | (apply q_fieldAddr; exact rfl; exact rfl; exact (ty rfl); iterate 4 exact rfl) | (apply q_field1; exact rfl; exact rfl; exact (ty rfl); iterate 3 exact rfl) | (apply q_ext; iterate 3 exact rfl) | (apply q_min; iterate 3 exact rfl) | (apply q_add; iterate 3 exact rfl) | (apply q_lss; iterate 3 exact rfl) | (apply q_ixd; (iterate 3 exact rfl); exact (ty rfl); exact rfl; exact (by first | omega | (simp; done) | (simp; omega)); exact (by first | omega | (simp; done) | (simp; omega)); exact (by first | rfl | assumption)) | (apply q_ld1p; exact rfl; exact rfl; exact (ty rfl); exact rfl; exact rfl; exact (by first | rfl | assumption | ((try simp only [Nat.zero_add]); refine List.getElem?_set_self ?_; (try simp only [List.length_set]); assumption)); exact rfl) | (apply q_build; exact rfl; exact (ty rfl); iterate 3 exact rfl) | (apply q_g; (iterate 3 exact rfl); exact (by assumption)) | (apply q_s; (iterate 3 exact rfl); exact (by assumption); exact rfl))
    | (show SQ _ _ _ _ _ _ _ _; (first | (apply q_ldad; exact rfl; exact rfl; exact (ty rfl); exact rfl; exact rfl) | (apply q_ldap; exact rfl; exact rfl; exact (ty rfl); exact rfl; exact rfl; exact (by first | rfl | assumption | ((try simp only [Nat.zero_add]); refine List.getElem?_set_self ?_; (try simp only [List.length_set]); assumption)); exact rfl) | (apply q_alloc; exact rfl; exact (ty rfl); exact rfl; exact rfl) | (apply q_store; exact rfl; exact rfl; exact (ty rfl); exact rfl; exact (by first | rfl | assumption | ((try simp only [Nat.zero_add]); refine List.getElem?_set_self ?_; (try simp only [List.length_set]); assumption)); iterate 3 exact rfl) | (apply q_callU; (iterate 3 exact rfl); exact FzL.of rfl; exact hO _)); (try simp only [put, rowsOf, plR, selE, ovr, setH, del, cellsA, splice, isV, spq, if_true, if_false]))
    | (show SQ _ _ _ _ _ _ _ _; apply q_gs; (iterate 4 exact rfl); all_goals intro h)
    | (show AW _ _ _ _ _ _ _ _; first | refine aw_region ?_ | (refine aw_seqk ?_; intro K hK) | refine aw_block ?_ | (apply aw_cond_f; exact rfl; exact rfl) | (apply aw_cond_t; exact rfl; exact (by assumption)) | refine aw_skip ?_ | (apply aw_ite; exact rfl; all_goals intro h))
    | refine thn_n ?_
    | (refine hK _ _ _ ?_; clear hK K)
    | refine inb_n ?_
    | (show SQ _ _ _ _ _ _ _ _; apply q_farEq; iterate 3 exact rfl)
    | (show SQ _ _ _ _ _ _ _ _; apply q_far; (iterate 3 exact rfl); (try simp only [put, rowsOf, plR, selE, ovr, setH, del, cellsA, splice, isV, spq, if_true, if_false])))); all_goals (repeat (clear hK K)))
      all_goals
        refine ⟨i + 1, id, c2, by omega, ?_⟩
        (try dsimp only)
        clear hrow hO hT b2 hi
        by_cases hc : (othB x l && (IntKind.i64.wrap (fc F (othV x l) + l.o) == fc F x && IntKind.i64.wrap (fl F (othV x l) + 1) == fl F x)) = true
        · rw [if_pos hc] at hgs
          first
            | (exfalso; clear hgs g2; simp_all; done)
            | (rw [hgs, ← hw1]; exact ⟨by (repeat (refine ⟨by first | exact lk_i rfl rfl | exact lk_d rfl rfl | exact lk_r rfl rfl rfl | exact lk_s rfl rfl rfl rfl | exact lk_om rfl rfl rfl rfl, ?_⟩)); exact trivial, by (repeat (refine ⟨by first | exact ⟨rfl, rfl, rfl⟩, ?_⟩)); exact trivial, by rfl, by exact pin_0⟩)
        · rw [if_neg hc] at hgs
          first
            | (exfalso; clear hgs g2; simp_all; done)
            | (rw [hgs, ← hw1]; exact ⟨by (repeat (refine ⟨by first | exact lk_i rfl rfl | exact lk_d rfl rfl | exact lk_r rfl rfl rfl | exact lk_s rfl rfl rfl rfl | exact lk_om rfl rfl rfl rfl, ?_⟩)); exact trivial, by (repeat (refine ⟨by first | exact ⟨rfl, rfl, rfl⟩, ?_⟩)); exact trivial, by rfl, by exact pin_0⟩)
    · have b2 : decide ((i : Int) < (ls.length : Int)) = false := by simpa using c2
      obtain rfl : i = ls.length := by omega
      have hml : (rk.map inL).length = k + 1 := by rw [List.length_map, hrl]
      ((repeat' (first
    | (show SQ _ _ _ _ _ _ _ _; first | apply sq_nil | (apply q_move; exact rfl; exact rfl) | (apply q_assign; exact rfl; exact rfl) | (apply q_lss; iterate 3 exact rfl))
    | (show SQ _ _ _ _ _ _ _ _; (first | (apply q_buildn; exact rfl; exact (ty rfl); iterate 7 exact rfl) | (apply q_apo_s; (iterate 3 exact rfl); exact (ty rfl); exact rfl; exact rfl; exact (by first | omega | (simp; done) | (simp; omega)); exact (by first | exact List.take_of_length_le (by first | omega | (simp; done) | (simp; omega)) | rfl); exact (ty rfl); exact rfl; exact rfl; exact (by first | omega | (simp; done) | (simp; omega)); exact (by first | exact dt_full (by first | omega | (simp; done) | (simp; omega)) | assumption | rfl); exact rfl; exact (by first | omega | (simp; done) | (simp; omega)); exact (by first | omega | (simp; done) | (simp; omega)); exact (by first | assumption | exact rfl))); (try simp only [put, rowsOf, plR, selE, ovr, setH, del, cellsA, splice, isV, spq, if_true, if_false]))
    | (show AW _ _ _ _ _ _ _ _; first | refine aw_region ?_ | (refine aw_seqk ?_; intro K hK) | (apply aw_cond_f; exact rfl; exact (by assumption)) | refine aw_exit ?_)
    | refine thn_n ?_
    | (refine hK _ _ _ ?_; clear hK K)
    | refine thn_e ?_
    | refine inb_same ?_
    | refine inb_n ?_
    | (clear hK K; refine hK _ _ _ ?_; clear hK K))); all_goals (repeat (clear hK K)))
      all_goals
        refine ⟨k + 1, fun j => [0, 1, 4].getD j 0, by omega, by omega, ?_⟩
        (try dsimp only)
        rw [hrs, hga, List.map_append]
        exact ⟨by (repeat (refine ⟨by first | exact lk_i rfl rfl | exact lk_r rfl rfl rfl | exact lk_s rfl rfl rfl rfl | exact lk_om rfl rfl rfl rfl, ?_⟩)); exact trivial, by (repeat (refine ⟨by first | exact ⟨rfl, rfl, rfl⟩, ?_⟩)); exact trivial, by rfl, by exact pin_0⟩
  · have hkk : k = (fl F frm).toNat := by omega
    subst hkk
    have he := hFW.zero g1 (by omega)
    have b1 : (gat F n ls frm (fl F frm).toNat != to) = false := by simpa using he
    generalize rlist F n ls frm (fl F frm).toNat = rk at *
    ((repeat' (first
    | (show SQ _ _ _ _ _ _ _ _; first | apply sq_nil | (apply q_move; exact rfl; exact rfl) | (apply q_assign; exact rfl; exact rfl) | (apply q_neq; iterate 3 exact rfl))
    | (show AW _ _ _ _ _ _ _ _; first | refine aw_region ?_ | (refine aw_seqk ?_; intro K hK) | (apply aw_cond_f; exact rfl; exact (by assumption)) | refine aw_ret ?_ | refine aw_exit ?_)
    | refine thn_n ?_
    | (refine hK _ _ _ ?_; clear hK K)
    | refine thn_e ?_
    | refine inb_same ?_
    | (clear hK K; refine hK _ _ _ ?_; clear hK K))); all_goals (repeat (clear hK K)))
    all_goals exact fin_r (fin_m rfl rfl _ _ rfl rfl)
end Go.Proofs.Ytglfcaioapdiaaa.Bk

namespace Go.Proofs.Ytglfcaioapdiaaa.Bk
set_option linter.unusedSimpArgs false
set_option linter.unusedVariables false
def Ed (p : List Ln) (x y : Int) : Prop := ∃ l ∈ p, linkP x y l = true
inductive Cn (p : List Ln) (x : Int) : Int → Prop
  | refl : Cn p x x
  | step {y z : Int} : Cn p x y → Ed p y z → Cn p x z
theorem Ed.symm {p : List Ln} {x y : Int} (h : Ed p x y) : Ed p y x := by
  obtain ⟨l, hl, h⟩ := h; exact ⟨l, hl, linkP_symm h⟩
theorem Cn.trans {p : List Ln} {x y z : Int} (h : Cn p x y) (g : Cn p y z) : Cn p x z := by
  induction g with
  | refl => exact h
  | step _ e ih => exact ih.step e
theorem Cn.symm {p : List Ln} {x y : Int} (h : Cn p x y) : Cn p y x := by
  induction h with
  | refl => exact .refl
  | step _ e ih => exact (Cn.step .refl e.symm).trans ih
theorem Cn.mono {p q : List Ln} (hpq : ∀ l ∈ p, l ∈ q) {x y : Int} (h : Cn p x y) : Cn q x y := by
  induction h with
  | refl => exact .refl
  | step _ e ih => obtain ⟨l, hl, e⟩ := e; exact ih.step ⟨l, hpq l hl, e⟩
theorem Cn_add (p : List Ln) (l : Ln) (x y : Int) : Cn (p ++ [l]) x y ↔ Cn p x y ∨ (Cn p x l.b ∧ Cn p l.a y) ∨ (Cn p x l.a ∧ Cn p l.b y) := by
  constructor
  · intro h
    induction h with
    | refl => exact .inl .refl
    | @step y z _ e ih =>
      obtain ⟨k, hk, e⟩ := e
      rcases List.mem_append.1 hk with h1 | h1
      · have e : Ed p y z := ⟨k, h1, e⟩
        rcases ih with h | ⟨h, g⟩ | ⟨h, g⟩
        · exact .inl (h.step e)
        · exact .inr (.inl ⟨h, g.step e⟩)
        · exact .inr (.inr ⟨h, g.step e⟩)
      · simp at h1; subst h1
        rcases linkP_iff.1 e with ⟨rfl, rfl⟩ | ⟨rfl, rfl⟩
        · rcases ih with h | ⟨h, g⟩ | ⟨h, g⟩
          · exact .inr (.inr ⟨h, .refl⟩)
          · exact .inl h
          · exact .inr (.inr ⟨h, .refl⟩)
        · rcases ih with h | ⟨h, g⟩ | ⟨h, g⟩
          · exact .inr (.inl ⟨h, .refl⟩)
          · exact .inr (.inl ⟨h, .refl⟩)
          · exact .inl h
  · have hm : ∀ k ∈ p, k ∈ p ++ [l] := fun k hk => List.mem_append_left _ hk
    have e : Ed (p ++ [l]) l.a l.b := ⟨l, by simp, linkP_iff.2 (.inl ⟨rfl, rfl⟩)⟩
    rintro (h | ⟨h, g⟩ | ⟨h, g⟩)
    · exact h.mono hm
    · exact ((h.mono hm).step e.symm).trans (g.mono hm)
    · exact ((h.mono hm).step e).trans (g.mono hm)
theorem Cn_nil {x y : Int} (h : Cn [] x y) : x = y := by
  cases h with
  | refl => rfl
  | step _ e => obtain ⟨l, hl, _⟩ := e; simp at hl
def lnAt (ls : List Ln) (t : Int) : Ln := ls.getD t.toNat lnz
theorem stepN_mem {ls : List Ln} {cur y t : Int} {nodes : List Int} (h : y ∈ nodes) : y ∈ stepN ls cur nodes t := by
  unfold stepN
  split
  · exact List.mem_append_left _ h
  · exact h
theorem foldN_mem {ls : List Ln} {cur y : Int} : ∀ (ix nodes : List Int), y ∈ nodes → y ∈ ix.foldl (stepN ls cur) nodes
  | [], _, h => h
  | t :: ix, nodes, h => foldN_mem ix _ (stepN_mem h)
theorem stepN_src {ls : List Ln} {cur y t : Int} {nodes : List Int} (h : y ∈ stepN ls cur nodes t) : y ∈ nodes ∨ linkP cur y (lnAt ls t) = true := by
  unfold stepN at h
  split at h
  · rename_i hc
    rcases List.mem_append.1 h with h | h
    · exact .inl h
    · simp at h
      right
      rw [← oth_link]
      simp only [Bool.and_eq_true] at hc
      simp only [lnAt, hc.1, Bool.true_and, beq_iff_eq]
      exact h.symm
  · exact .inl h
theorem foldN_src {ls : List Ln} {cur y : Int} : ∀ (ix nodes : List Int), y ∈ ix.foldl (stepN ls cur) nodes → y ∈ nodes ∨ ∃ t ∈ ix, linkP cur y (lnAt ls t) = true
  | [], _, h => .inl h
  | t :: ix, nodes, h => by
    rcases foldN_src ix _ h with h | ⟨u, hu, h⟩
    · rcases stepN_src h with h | h
      · exact .inl h
      · exact .inr ⟨t, List.mem_cons_self, h⟩
    · exact .inr ⟨u, List.mem_cons_of_mem _ hu, h⟩
theorem stepN_all {ls : List Ln} {cur z t : Int} {nodes : List Int} (h : linkP cur z (lnAt ls t) = true) : z ∈ stepN ls cur nodes t := by
  rw [← oth_link] at h
  simp only [Bool.and_eq_true, beq_iff_eq, lnAt] at h
  unfold stepN
  split
  · rw [h.2]; simp
  · rename_i hc
    simp only [h.1, Bool.true_and, Bool.not_eq_true, Bool.not_eq_false', List.any_eq_true, beq_iff_eq] at hc
    obtain ⟨w, hw, e⟩ := hc
    rw [← h.2, ← e]; exact hw
theorem foldN_all {ls : List Ln} {cur z : Int} : ∀ (ix nodes : List Int) (t : Int), t ∈ ix → linkP cur z (lnAt ls t) = true → z ∈ ix.foldl (stepN ls cur) nodes
  | [], _, t, ht, _ => by simp at ht
  | u :: ix, nodes, t, ht, h => by
    rcases List.mem_cons.1 ht with rfl | ht
    · exact foldN_mem ix _ (stepN_all h)
    · exact foldN_all ix _ t ht h
theorem reachF_spec {n : Int} {ls : List Ln} {ix : List Int} {frm : Int} (h0 : 0 ≤ n) (hL : ∀ l ∈ ls, 0 ≤ l.a ∧ l.a < n ∧ 0 ≤ l.b ∧ l.b < n) (hix : ∀ x ∈ ix, 0 ≤ x ∧ x < ls.length) : ∀ (f k : Nat) (nodes : List Int), n.toNat - k = f → k ≤ nodes.length → GoodN n nodes →
    (∀ y ∈ nodes, Cn (ix.map (lnAt ls)) frm y) → (∀ j y, j < k → nodes[j]? = some y → ∀ z, Ed (ix.map (lnAt ls)) y z → z ∈ nodes) →
    (∀ y ∈ nodes, y ∈ reachF ls ix f k nodes) ∧ GoodN n (reachF ls ix f k nodes) ∧ (∀ y ∈ reachF ls ix f k nodes, Cn (ix.map (lnAt ls)) frm y) ∧ ∀ y ∈ reachF ls ix f k nodes, ∀ z, Ed (ix.map (lnAt ls)) y z → z ∈ reachF ls ix f k nodes := by
  have fin : ∀ (k : Nat) (nodes : List Int), nodes.length ≤ k → GoodN n nodes → (∀ y ∈ nodes, Cn (ix.map (lnAt ls)) frm y) → (∀ j y, j < k → nodes[j]? = some y → ∀ z, Ed (ix.map (lnAt ls)) y z → z ∈ nodes) →
      (∀ y ∈ nodes, y ∈ nodes) ∧ GoodN n nodes ∧ (∀ y ∈ nodes, Cn (ix.map (lnAt ls)) frm y) ∧ ∀ y ∈ nodes, ∀ z, Ed (ix.map (lnAt ls)) y z → z ∈ nodes := fun k nodes hk hg hc he =>
    ⟨fun _ h => h, hg, hc, fun y hy z hz => by
      obtain ⟨j, hj, rfl⟩ := List.getElem_of_mem hy
      exact he j _ (by omega) (List.getElem?_eq_getElem hj) z hz⟩
  intro f
  induction f with
  | zero => intro k nodes hf hk hg hc he; exact fin k nodes (by have := hg.le h0; omega) hg hc he
  | succ f ih =>
    intro k nodes hf hk hg hc he
    rw [reachF]
    split
    · rename_i hlt
      have hcur : nodes[k]? = some (nodes.getD k 0) := by simp [List.getD, hlt]
      have hmem : nodes.getD k 0 ∈ nodes := List.mem_of_getElem? hcur
      generalize nodes.getD k 0 = cur at hcur hmem ⊢
      have hR : rIn ls cur ix nodes ix.length = ix.foldl (stepN ls cur) nodes := by rw [rIn, List.take_length]
      have hg2 := rIn_good (cur := cur) hL hix hg ix.length (Nat.le_refl _)
      rw [hR] at hg2 ⊢
      have hk2 : (ix.foldl (stepN ls cur) nodes)[k]? = some cur := foldN_get _ _ hcur
      have := ih (k + 1) (ix.foldl (stepN ls cur) nodes) (by omega) (List.getElem?_eq_some_iff.1 hk2).1 hg2 (fun y hy => by
        rcases foldN_src ix nodes hy with h | ⟨t, ht, h⟩
        · exact hc y h
        · exact (hc cur hmem).step ⟨_, List.mem_map.2 ⟨t, ht, rfl⟩, h⟩) (fun j y hj hy z hz => by
        by_cases hjk : j = k
        · subst hjk
          rw [hk2] at hy
          cases hy
          obtain ⟨l, hl, hz⟩ := hz
          obtain ⟨t, ht, rfl⟩ := List.mem_map.1 hl
          exact foldN_all ix nodes t ht hz
        · have hjn : j < nodes.length := by omega
          have h2 : (ix.foldl (stepN ls cur) nodes)[j]? = some nodes[j] := foldN_get _ _ (List.getElem?_eq_getElem hjn)
          rw [h2] at hy
          cases hy
          exact foldN_mem ix nodes (he j _ (by omega) (List.getElem?_eq_getElem hjn) z hz))
      exact ⟨fun y hy => this.1 y (foldN_mem ix nodes hy), this.2⟩
    · exact fin k nodes (by omega) hg hc he
theorem reachV_spec {n : Int} {ls : List Ln} {ix : List Int} {frm : Int} (hL : ∀ l ∈ ls, 0 ≤ l.a ∧ l.a < n ∧ 0 ≤ l.b ∧ l.b < n) (hix : ∀ x ∈ ix, 0 ≤ x ∧ x < ls.length) (hf : 0 ≤ frm ∧ frm < n) :
    GoodN n (reachV n ls ix frm) ∧ ∀ y, y ∈ reachV n ls ix frm ↔ Cn (ix.map (lnAt ls)) frm y := by
  have := reachF_spec (frm := frm) (by omega) hL hix n.toNat 0 [frm] (by omega) (Nat.zero_le _) ⟨by simp, fun x hx => by simp at hx; subst hx; exact hf⟩ (fun y hy => by simp at hy; subst hy; exact .refl) (fun j y hj => absurd hj (Nat.not_lt_zero _))
  obtain ⟨h1, h2, h3, h4⟩ := this
  refine ⟨h2, fun y => ⟨h3 y, fun h => ?_⟩⟩
  induction h with
  | refl => exact h1 frm (by simp)
  | step _ e ih => exact h4 _ ih _ e
end Go.Proofs.Ytglfcaioapdiaaa.Bk

namespace Go.Proofs.Ytglfcaioapdiaaa.Bk
open Go Go.RowKit Go.Proofs.Ytglfcaioapdiaaa.Aw
set_option linter.unusedSimpArgs false
set_option linter.unusedVariables false
attribute [local irreducible] AW SQ Step RO RC DE Thn InB
theorem bkB_in {n : Int} {ls : List Ln} (h : bkB n ls = true) : (1 ≤ n ∧ n ≤ 12) ∧ ∀ l ∈ ls, 0 ≤ l.a ∧ l.a < n ∧ 0 ≤ l.b ∧ l.b < n := by
  simp only [bkB, Bool.and_eq_true, decide_eq_true_eq] at h
  refine ⟨by simpa [inB] using h.1.1, fun l hl => ?_⟩
  obtain ⟨j, hj, rfl⟩ := List.getElem_of_mem hl
  have := List.all_eq_true.1 h.2 j (List.mem_range.2 hj)
  simp only [goodL, sOk, inB, Bool.and_eq_true, decide_eq_true_eq, List.getD, List.getElem?_eq_getElem hj, Option.getD_some] at this
  omega
end Go.Proofs.Ytglfcaioapdiaaa.Bk

namespace Go.Proofs.Ytglfcaioapdiaaa.Bk
open Go Go.RowKit Go.Proofs.Ytglfcaioapdiaaa.Aw
set_option linter.unusedSimpArgs false
set_option linter.unusedVariables false
attribute [local irreducible] AW SQ Step RO RC DE Thn InB
def codeV (n : Int) (ls : List Ln) (xs : List Int) : Int := if bkB n ls = true then (if (xs.any fun x => !inB x 0 (n - 1)) = true then 2 else 0) else 1
set_option maxHeartbeats 4000000 in
theorem code_ro (n : Int) (ls : List Ln) (xs : List Int) (hn : ls.length ≤ 1048576) (hx : xs.length ≤ 1048576) (k : Nat) : RO Try.prog 49 [.agg (bkL n ls), .dsl 1 (xs.map inL)] k (.v (.int .i64 (codeV n ls xs))) [] k := by
  have hV := ValidBackhaul_ro n ls hn
  unfold bkL at hV ⊢
  refine RO.ofv' Try.func49 Try.ntmps49 rfl (goFn_of Try.func49 rfl (by kernel_rfl)) rfl rfl ?_
  cases hb : bkB n ls with
  | false =>
    have b1 : (!bkB n ls) = true := by rw [hb]; rfl
    ((repeat' (first
    | (show SQ _ _ _ _ _ _ _ _; first | apply sq_nil | (apply q_assign; exact rfl; exact rfl) | (apply q_not; exact rfl; exact rfl))
    | (show SQ _ _ _ _ _ _ _ _; (first | (apply q_ldap; exact rfl; exact rfl; exact (ty rfl); exact rfl; exact rfl; exact (by first | rfl | assumption | ((try simp only [Nat.zero_add]); refine List.getElem?_set_self ?_; (try simp only [List.length_set]); assumption)); exact rfl) | (apply q_box; iterate 3 exact rfl) | (apply q_callU; (iterate 3 exact rfl); exact FzL.of rfl; exact hV _)); (try simp only [put, rowsOf, plR, selE, ovr, setH, del, cellsA, splice, isV, spq, if_true, if_false]))
    | (show AW _ _ _ _ _ _ _ _; first | refine aw_region ?_ | (refine aw_seqk ?_; intro K hK) | refine aw_block ?_ | (apply aw_cond_t; exact rfl; exact (by assumption)) | refine aw_ret ?_)
    | refine thn_n ?_
    | (refine hK _ _ _ ?_; clear hK K)
    | refine thn_r ?_
    | refine inb_r ?_)); all_goals (repeat (clear hK K)))
    all_goals refine fin_r (fin_i rfl ?_)
    simp [codeV, hb]
  | true =>
    have b1 : (!bkB n ls) = false := by rw [hb]; rfl
    have hN := (bkB_in hb).1
    have hw : IntKind.i64.wrap (n - 1) = n - 1 := IntWalk.i64_in _ (by omega)
    have hA := allWithin_ro xs (xs.map inL) 0 (IntKind.i64.wrap (n - 1)) rfl hx
    ((repeat' (first
    | (show SQ _ _ _ _ _ _ _ _; first | apply sq_nil | (apply q_move; exact rfl; exact rfl) | (apply q_assign; exact rfl; exact rfl) | (apply q_fieldAddr; exact rfl; exact rfl; exact (ty rfl); iterate 4 exact rfl) | (apply q_not; exact rfl; exact rfl) | (apply q_sub; iterate 3 exact rfl) | (apply q_ld1p; exact rfl; exact rfl; exact (ty rfl); exact rfl; exact rfl; exact (by first | rfl | assumption | ((try simp only [Nat.zero_add]); refine List.getElem?_set_self ?_; (try simp only [List.length_set]); assumption)); exact rfl))
    | (show SQ _ _ _ _ _ _ _ _; (first | (apply q_ldap; exact rfl; exact rfl; exact (ty rfl); exact rfl; exact rfl; exact (by first | rfl | assumption | ((try simp only [Nat.zero_add]); refine List.getElem?_set_self ?_; (try simp only [List.length_set]); assumption)); exact rfl) | (apply q_box; iterate 3 exact rfl) | (apply q_callU; (iterate 3 exact rfl); exact FzL.of rfl; exact hV _) | (apply q_callU; (iterate 3 exact rfl); exact FzL.of rfl; exact hA _)); (try simp only [put, rowsOf, plR, selE, ovr, setH, del, cellsA, splice, isV, spq, if_true, if_false]))
    | (show AW _ _ _ _ _ _ _ _; first | refine aw_region ?_ | (refine aw_seqk ?_; intro K hK) | refine aw_block ?_ | (apply aw_cond_f; exact rfl; exact (by assumption)) | refine aw_ret ?_ | refine aw_skip ?_ | (apply aw_ite; exact rfl; all_goals intro h))
    | refine thn_n ?_
    | (refine hK _ _ _ ?_; clear hK K)
    | refine thn_r ?_
    | refine inb_n ?_
    | refine inb_r ?_)); all_goals (repeat (clear hK K)))
    all_goals refine fin_r (fin_i rfl ?_)
    all_goals (rw [hw] at *; simp_all [codeV])
theorem codeV_two (n : Int) (ls : List Ln) (a b : Int) : codeV n ls [a, b] = if bkB n ls = true then (if inB a 0 (n - 1) && inB b 0 (n - 1) then 0 else 2) else 1 := by
  unfold codeV
  cases bkB n ls <;> cases h1 : inB a 0 (n - 1) <;> cases h2 : inB b 0 (n - 1) <;> simp [h1, h2]
set_option maxHeartbeats 4000000 in
theorem code2_ro (n : Int) (ls : List Ln) (a b : Int) (hn : ls.length ≤ 1048576) (k : Nat) : RO Try.prog 49 [.agg (bkL n ls), .dsl 1 [[.v (.int .i64 a)], [.v (.int .i64 b)]]] k (.v (.int .i64 (codeV n ls [a, b]))) [] k := code_ro n ls [a, b] hn (by simp) k
theorem codeV_ok {n : Int} {ls : List Ln} {a b : Int} (h : codeV n ls [a, b] = 0) : (1 ≤ n ∧ n ≤ 12) ∧ LnsOk n ls ∧ (0 ≤ a ∧ a < n) ∧ (0 ≤ b ∧ b < n) ∧ ls.length ≤ 32 ∧ bkB n ls = true := by
  rw [codeV_two] at h
  cases hb : bkB n ls with
  | false => rw [hb] at h; simp at h
  | true =>
    rw [hb] at h
    simp only [if_true] at h
    split at h
    · rename_i hc
      simp only [Bool.and_eq_true, inB, decide_eq_true_eq] at hc
      refine ⟨(bkB_in hb).1, fun l hl => ?_, by omega, by omega, ?_, rfl⟩
      · have h1 := (bkB_in hb).2 l hl
        simp only [bkB, Bool.and_eq_true, decide_eq_true_eq] at hb
        obtain ⟨j, hj, rfl⟩ := List.getElem_of_mem hl
        have := List.all_eq_true.1 hb.2 j (List.mem_range.2 hj)
        simp only [goodL, sOk, inB, Bool.and_eq_true, decide_eq_true_eq, List.getD, List.getElem?_eq_getElem hj, Option.getD_some] at this
        omega
      · simp only [bkB, Bool.and_eq_true, decide_eq_true_eq] at hb
        exact hb.1.2
    · omega
def rtN (n : Int) (ls : List Ln) (frm to : Int) : Nat := (fl (farR n ls to) frm).toNat + 1
def rtL (n : Int) (ls : List Ln) (frm to : Int) : List Int := rlist (farR n ls to) n ls frm (fl (farR n ls to) frm).toNat
theorem rtL_len (n : Int) (ls : List Ln) (frm to : Int) : (rtL n ls frm to).length = rtN n ls frm to := rlist_len _ _ _ _ _
theorem rtL_le {n : Int} {ls : List Ln} {frm to : Int} (hL : LnsOk n ls) (hn : n ≤ 12) (ht : 0 ≤ to ∧ to < n) (hh : fh (farR n ls to) frm = true) : rtN n ls frm to ≤ 12 := by
  have := (FW.of (to := to) hL hn ht).bd hh
  unfold rtN; omega
section
variable (n : Int) (ls : List Ln) (a b : Int) (hn : ls.length ≤ 1048576)
include hn
set_option maxHeartbeats 4000000 in
theorem RouteOf_bad_ro (hc : codeV n ls [a, b] ≠ 0) (k : Nat) : RO Try.prog 15 [.agg (bkL n ls), .v (.int .i64 a), .v (.int .i64 b)] k (.tup [.v (.slice none 0 0), .v (.int .i64 (codeV n ls [a, b]))]) [] k := by
  have hC := code2_ro n ls a b hn
  have b1 : (codeV n ls [a, b] != 0) = true := by simpa using hc
  generalize codeV n ls [a, b] = c at *
  unfold bkL at hC ⊢
  refine RO.ofp Try.func15 Try.ntmps15 rfl (goFn_of Try.func15 rfl (by kernel_rfl)) rfl rfl rfl ?_
  ((repeat' (first
    | (show SQ _ _ _ _ _ _ _ _; first | apply sq_nil | (apply q_move; exact rfl; exact rfl) | (apply q_assign; exact rfl; exact rfl) | (apply q_neq; iterate 3 exact rfl))
    | (show SQ _ _ _ _ _ _ _ _; (first | (apply q_ldap; exact rfl; exact rfl; exact (ty rfl); exact rfl; exact rfl; exact (by first | rfl | assumption | ((try simp only [Nat.zero_add]); refine List.getElem?_set_self ?_; (try simp only [List.length_set]); assumption)); exact rfl) | (apply q_box; iterate 3 exact rfl) | (apply q_buildn; exact rfl; exact (ty rfl); iterate 7 exact rfl) | (apply q_callU; (iterate 3 exact rfl); exact FzL.of rfl; exact hC _)); (try simp only [put, rowsOf, plR, selE, ovr, setH, del, cellsA, splice, isV, spq, if_true, if_false]))
    | (show AW _ _ _ _ _ _ _ _; first | refine aw_region ?_ | (refine aw_seqk ?_; intro K hK) | (apply aw_cond_t; exact rfl; exact (by assumption)) | refine aw_ret ?_)
    | refine thn_n ?_
    | (refine hK _ _ _ ?_; clear hK K)
    | refine thn_r ?_)); all_goals (repeat (clear hK K)))
  all_goals refine fin_r (fin_p (.r2 _ _ _ _ (.tmp _ _ rfl) (.tmp _ _ rfl)) ?_ rfl rfl rfl)
  all_goals rfl
set_option maxHeartbeats 4000000 in
theorem RouteOf_none_ro (hc : codeV n ls [a, b] = 0) (hh : fh (farR n ls b) a = false) (k : Nat) : RO Try.prog 15 [.agg (bkL n ls), .v (.int .i64 a), .v (.int .i64 b)] k (.tup [.v (.slice none 0 0), .v (.int .i64 3)]) [] k := by
  have hC := code2_ro n ls a b hn
  obtain ⟨hN, hL, ha, hb, _⟩ := codeV_ok hc
  have hR := route_nil_ro n ls a b hN hn hL ha hb hh
  have b1 : ((0 : Int) != 0) = false := by simp
  rw [hc] at hC
  unfold bkL at hC hR ⊢
  refine RO.ofp Try.func15 Try.ntmps15 rfl (goFn_of Try.func15 rfl (by kernel_rfl)) rfl rfl rfl ?_
  ((repeat' (first
    | (show SQ _ _ _ _ _ _ _ _; first | apply sq_nil | (apply q_move; exact rfl; exact rfl) | (apply q_assign; exact rfl; exact rfl) | (apply q_neq; iterate 3 exact rfl) | (apply q_nil_ev; (iterate 3 exact rfl); exact (ty rfl); exact rfl))
    | (show SQ _ _ _ _ _ _ _ _; (first | (apply q_ldap; exact rfl; exact rfl; exact (ty rfl); exact rfl; exact rfl; exact (by first | rfl | assumption | ((try simp only [Nat.zero_add]); refine List.getElem?_set_self ?_; (try simp only [List.length_set]); assumption)); exact rfl) | (apply q_box; iterate 3 exact rfl) | (apply q_buildn; exact rfl; exact (ty rfl); iterate 7 exact rfl) | (apply q_callU; (iterate 3 exact rfl); exact FzL.of rfl; exact hC _) | (apply q_callU; (iterate 3 exact rfl); exact FzL.of rfl; exact hR _)); (try simp only [put, rowsOf, plR, selE, ovr, setH, del, cellsA, splice, isV, spq, if_true, if_false]))
    | (show AW _ _ _ _ _ _ _ _; first | refine aw_region ?_ | (refine aw_seqk ?_; intro K hK) | (apply aw_cond_t; exact rfl; exact rfl) | (apply aw_cond_f; exact rfl; exact rfl) | refine aw_ret ?_ | refine aw_skip ?_)
    | refine thn_n ?_
    | (refine hK _ _ _ ?_; clear hK K)
    | refine thn_r ?_)); all_goals (repeat (clear hK K)))
  all_goals refine fin_r (fin_p (.r2 _ _ _ _ (.tmp _ _ rfl) (.tmp _ _ rfl)) ?_ rfl rfl rfl)
  all_goals rfl
set_option maxHeartbeats 4000000 in
theorem RouteOf_some_ro (hc : codeV n ls [a, b] = 0) (hh : fh (farR n ls b) a = true) (k : Nat) : RO Try.prog 15 [.agg (bkL n ls), .v (.int .i64 a), .v (.int .i64 b)] k (.tup [.sl k 0 (rtN n ls a b), .v (.int .i64 0)]) [(k, ⟨2, 1, true, (rtL n ls a b).map inL⟩)] (k + 1) := by
  have hC := code2_ro n ls a b hn
  obtain ⟨hN, hL, ha, hb, _⟩ := codeV_ok hc
  have hR : ∀ k, RO Try.prog 50 [.agg (bkL n ls), .v (.int .i64 a), .v (.int .i64 b)] k (.sl k 0 (rtN n ls a b)) [(k, ⟨2, 1, true, (rtL n ls a b).map inL⟩)] (k + 1) := route_some_ro n ls a b hN hn hL ha hb hh
  have b1 : ((0 : Int) != 0) = false := by simp
  have h0 : 0 < rtN n ls a b := Nat.succ_pos _
  rw [hc] at hC
  refine RO.ofm (.tup [.sl 0 0 (rtN n ls a b), .v (.int .i64 0)]) ([(0, ⟨2, 1, true, (rtL n ls a b).map inL⟩)]) 1 Try.func15 Try.ntmps15 rfl (goFn_of Try.func15 rfl (by kernel_rfl)) rfl rfl (by simp [renA, renL]) (by simp [shH, renB]) rfl ?_
  unfold bkL at hC hR ⊢
  generalize rtN n ls a b = L at *
  generalize rtL n ls a b = xs at *
  ((repeat' (first
    | (show SQ _ _ _ _ _ _ _ _; first | apply sq_nil | (apply q_move; exact rfl; exact rfl) | (apply q_assign; exact rfl; exact rfl) | (apply q_neq; iterate 3 exact rfl) | (apply q_nil_el; (iterate 3 exact rfl); exact (ty rfl); exact rfl; exact (by first | omega | (simp; done) | (simp; omega))))
    | (show SQ _ _ _ _ _ _ _ _; (first | (apply q_ldap; exact rfl; exact rfl; exact (ty rfl); exact rfl; exact rfl; exact (by first | rfl | assumption | ((try simp only [Nat.zero_add]); refine List.getElem?_set_self ?_; (try simp only [List.length_set]); assumption)); exact rfl) | (apply q_box; iterate 3 exact rfl) | (apply q_buildn; exact rfl; exact (ty rfl); iterate 7 exact rfl) | (apply q_callU; (iterate 3 exact rfl); exact FzL.of rfl; exact hC _) | (apply q_callU; (iterate 3 exact rfl); exact FzL.of rfl; exact hR _)); (try simp only [put, rowsOf, plR, selE, ovr, setH, del, cellsA, splice, isV, spq, if_true, if_false]))
    | (show AW _ _ _ _ _ _ _ _; first | refine aw_region ?_ | (refine aw_seqk ?_; intro K hK) | (apply aw_cond_f; exact rfl; exact rfl) | refine aw_ret ?_ | refine aw_skip ?_)
    | refine thn_n ?_
    | (refine hK _ _ _ ?_; clear hK K))); all_goals (repeat (clear hK K)))
  all_goals exact fin_r (fin_m2 rfl rfl rfl _ _ rfl rfl rfl)
end
end Go.Proofs.Ytglfcaioapdiaaa.Bk

namespace Go.Proofs.Ytglfcaioapdiaaa.Bk
open Go Go.RowKit Go.Proofs.Ytglfcaioapdiaaa.Aw
set_option linter.unusedSimpArgs false
set_option linter.unusedVariables false
attribute [local irreducible] AW SQ Step RO RC DE Thn InB
def lkAt (ls : List Ln) (rd : List Int) (j : Nat) : Int := ixG (linkP (rd.getD (j - 1) 0) (rd.getD j 0)) ls
def goodR (n : Int) (ls : List Ln) (rd : List Int) (i : Nat) : Bool := inB (rd.getD i 0) 0 (n - 1) && !((rd.take i).any fun y => y == rd.getD i 0) && (decide (i = 0) || decide (0 ≤ lkAt ls rd i))
def rtB (n : Int) (ls : List Ln) (rd : List Int) : Bool := !((rd.length : Int) == 0) && (List.range rd.length).all (goodR n ls rd)
def rtI (ls : List Ln) (rd : List Int) (i : Nat) : List Int := (List.range (i - 1)).map fun j => lkAt ls rd (j + 1)
theorem rtI_len (ls : List Ln) (rd : List Int) (i : Nat) : (rtI ls rd i).length = i - 1 := by simp [rtI]
theorem rtI_succ (ls : List Ln) (rd : List Int) {i : Nat} (h : 0 < i) : rtI ls rd (i + 1) = rtI ls rd i ++ [lkAt ls rd i] := by
  obtain ⟨j, rfl⟩ : ∃ j, i = j + 1 := ⟨i - 1, by omega⟩
  simp [rtI, List.range_succ]
theorem rtB_true {n : Int} {ls : List Ln} {rd : List Int} (h0 : rd.length ≠ 0) (h : ∀ j, j < rd.length → goodR n ls rd j = true) : rtB n ls rd = true := by
  rw [rtB, allR_true h, Bool.and_true]; simp; exact fun h => h0 (by simp [h])
theorem rtB_get {n : Int} {ls : List Ln} {rd : List Int} (h : rtB n ls rd = true) : rd.length ≠ 0 ∧ ∀ j, j < rd.length → goodR n ls rd j = true := by
  simp only [rtB, Bool.and_eq_true] at h
  refine ⟨fun h0 => by simp [h0] at h, fun j hj => List.all_eq_true.1 h.2 j (List.mem_range.2 hj)⟩
end Go.Proofs.Ytglfcaioapdiaaa.Bk

-- Links of a route: the program's walk.
namespace Go.Proofs.Ytglfcaioapdiaaa.Bk
open Go Go.RowKit Go.Proofs.Ytglfcaioapdiaaa.Aw
set_option linter.unusedSimpArgs false
set_option linter.unusedVariables false
attribute [local irreducible] AW SQ Step RO RC DE Thn InB
theorem rtB_in {n : Int} {ls : List Ln} {rd : List Int} (h : rtB n ls rd = true) : (rd.any fun x => !inB x 0 (n - 1)) = false := by
  refine List.any_eq_false.2 fun x hx => ?_
  obtain ⟨j, hj, rfl⟩ := List.getElem_of_mem hx
  have := (rtB_get h).2 j hj
  simp only [goodR, Bool.and_eq_true, List.getD, List.getElem?_eq_getElem hj, Option.getD_some] at this
  simp [this.1.1]
set_option maxHeartbeats 4000000 in
theorem linksOf_ok_ro (n : Int) (ls : List Ln) (rd : List Int) (hN : 1 ≤ n ∧ n ≤ 12) (hn : ls.length ≤ 1048576) (hr : rd.length ≤ 1048576) (h : rtB n ls rd = true) (k : Nat) :
    RO Try.prog 81 [.agg (bkL n ls), .dsl 1 (rd.map inL)] k (.tup [.sl k 0 (rtI ls rd rd.length).length, .v (.bool true)]) [(k, ⟨2, 1, true, (rtI ls rd rd.length).map inL⟩)] (k + 1) := by
  have hw : IntKind.i64.wrap (n - 1) = n - 1 := IntWalk.i64_in _ (by omega)
  have hAW := allWithin_ro rd _ 0 (IntKind.i64.wrap (n - 1)) rfl hr
  have hq : (fun x => !inB x 0 (IntKind.i64.wrap (n - 1))) = fun x => !inB x 0 (n - 1) := by rw [hw]
  rw [hq] at hAW
  obtain ⟨c0, hg⟩ := rtB_get h
  refine RO.ofm (.tup [.sl 0 0 (rtI ls rd rd.length).length, .v (.bool true)]) ([(0, ⟨2, 1, true, (rtI ls rd rd.length).map inL⟩)]) 1 Try.func81 Try.ntmps81 rfl (goFn_of Try.func81 rfl (by kernel_rfl)) rfl rfl (by simp [renA, renL]) (by simp [shH, renB]) rfl ?_
  unfold bkL
  have b0 : (((rd.map inL).length : Int) == 0) = false := by simpa using c0
  have c1 := rtB_in h
  have b1 : (!(!rd.any fun x => !inB x 0 (n - 1))) = false := by rw [c1]; rfl
  ((repeat' (first
    | (show SQ _ _ _ _ _ _ _ _; first | apply sq_nil | (apply q_move; exact rfl; exact rfl) | (apply q_assign; exact rfl; exact rfl) | (apply q_pick_f; (iterate 3 exact rfl); exact (by first | assumption | exact rfl)) | (apply q_fieldAddr; exact rfl; exact rfl; exact (ty rfl); iterate 4 exact rfl) | (apply q_not; exact rfl; exact rfl) | (apply q_lend; exact rfl; exact rfl; exact (ty rfl); exact rfl) | (apply q_sub; iterate 3 exact rfl) | (apply q_eql; iterate 3 exact rfl) | (apply q_ld1p; exact rfl; exact rfl; exact (ty rfl); exact rfl; exact rfl; exact (by first | rfl | assumption | ((try simp only [Nat.zero_add]); refine List.getElem?_set_self ?_; (try simp only [List.length_set]); assumption)); exact rfl) | (apply q_g; (iterate 3 exact rfl); exact (by assumption)))
    | (show SQ _ _ _ _ _ _ _ _; (first | (apply q_box; iterate 3 exact rfl) | (apply q_alloc; exact rfl; exact (ty rfl); exact rfl; exact rfl) | (apply q_store; exact rfl; exact rfl; exact (ty rfl); exact rfl; exact (by first | rfl | assumption | ((try simp only [Nat.zero_add]); refine List.getElem?_set_self ?_; (try simp only [List.length_set]); assumption)); iterate 3 exact rfl) | (apply q_callU; (iterate 3 exact rfl); exact FzL.of rfl; exact hAW _)); (try simp only [put, rowsOf, plR, selE, ovr, setH, del, cellsA, splice, isV, spq, if_true, if_false]))
    | (show AW _ _ _ _ _ _ _ _; first | refine aw_region ?_ | (refine aw_seqk ?_; intro K hK) | refine aw_block ?_ | (apply aw_cond_f; exact rfl; exact (by assumption)) | refine aw_skip ?_)
    | refine thn_n ?_
    | (refine hK _ _ _ ?_; clear hK K))); all_goals (repeat (clear hK K)))
  refine aw_nil (t := 6) 2 1 rfl ?_
  refine aw_loop (ρ := id) (ι := Nat) (fun i => ([(7, .ptr 2 0 0), (6, .sl 3 0 (rtI ls rd i).length), (3, .ptr 1 0 0), (2, .ptr 0 0 0)], [(0, ⟨31, 2, false, [[.v (.int .i64 n), .dsl 4 (ls.map lnL)]]⟩), (1, ⟨26, 1, false, [[.dsl 1 (rd.map inL)]]⟩), (2, ⟨3, 1, false, [[.v (.int .i64 i)]]⟩), (3, ⟨2, 1, true, (rtI ls rd i).map inL⟩)], 4))
    (fun i => 1 ≤ i ∧ i ≤ rd.length) (fun i => rd.length - i) 1 ⟨by omega, by omega⟩ ⟨by (repeat (refine ⟨by first | exact lk_r rfl rfl rfl | exact lk_s rfl rfl rfl rfl, ?_⟩)); exact trivial, by (repeat (refine ⟨by first | exact ⟨rfl, rfl, rfl⟩, ?_⟩)); exact trivial, by rfl, by exact pin_0⟩ ?_
  rintro i ⟨hi1, hi⟩
  have hlen := rtI_len ls rd i
  have hml : ((rtI ls rd i).map inL).length = (rtI ls rd i).length := List.length_map _
  by_cases c2 : i < rd.length
  · have b2 : decide ((i : Int) < ((rd.map inL).length : Int)) = true := by simpa using c2
    have hrow : (rd.map inL)[((i : Int)).toNat]? = some (inL rd[i]) := by simp [c2]
    rw [inL_eq] at hrow
    have hT : List.take ((i : Int)).toNat (rd.map inL) = (rd.take i).map inL := by simp [List.map_take]
    have hH := slContains_ro (rd.take i) _ rd[i] hT (by simp; omega)
    have hD : rd.getD i 0 = rd[i] := by simp [List.getD, c2]
    have hD2 : rd.getD (i - 1) 0 = rd[i - 1] := by simp [List.getD, show i - 1 < rd.length by omega]
    have eL : ixG (linkP rd[i - 1] rd[i]) ls = lkAt ls rd i := by rw [lkAt, hD, hD2]
    have hI := IndexFuncLn_ro ls (ls.map lnL) 115 [.dptr [.dsl 1 (rd.map inL)], .dptr [.v (.int .i64 i)]] (linkP rd[i - 1] rd[i]) rfl (fun H => FzL.of rfl) rfl (fun l _ m => loClosure_ro rd l i (by omega) c2 hr m) hn
    rw [eL] at hI
    have e1 := rtI_succ ls rd (i := i) (by omega)
    have hgi := hg i c2
    simp only [goodR, hD, Bool.and_eq_true] at hgi
    obtain ⟨⟨g1, g2⟩, g3⟩ := hgi
    have f2 : ((rd.take i).any fun y => y == rd[i]) = false := by simpa using g2
    have f3 : decide (lkAt ls rd i < 0) = false := by simp [show i ≠ 0 by omega] at g3; simpa using g3
    have hw3 : IntKind.i64.wrap ((i : Int) + 1) = ((i + 1 : Nat) : Int) := by rw [IntWalk.i64_in _ (by omega)]; omega
    ((repeat' (first
    | (show SQ _ _ _ _ _ _ _ _; first | apply sq_nil | (apply q_move; exact rfl; exact rfl) | (apply q_assign; exact rfl; exact rfl) | (apply q_fieldAddr; exact rfl; exact rfl; exact (ty rfl); iterate 4 exact rfl) | (apply q_lend; exact rfl; exact rfl; exact (ty rfl); exact rfl) | (apply q_add; iterate 3 exact rfl) | (apply q_lss; iterate 3 exact rfl) | (apply q_ld1p; exact rfl; exact rfl; exact (ty rfl); exact rfl; exact rfl; exact (by first | rfl | assumption | ((try simp only [Nat.zero_add]); refine List.getElem?_set_self ?_; (try simp only [List.length_set]); assumption)); exact rfl) | (apply q_mkf; exact rfl; exact rfl))
    | (show SQ _ _ _ _ _ _ _ _; (first | (apply q_alloc; exact rfl; exact (ty rfl); exact rfl; exact rfl) | (apply q_store; exact rfl; exact rfl; exact (ty rfl); exact rfl; exact (by first | rfl | assumption | ((try simp only [Nat.zero_add]); refine List.getElem?_set_self ?_; (try simp only [List.length_set]); assumption)); iterate 3 exact rfl) | (apply q_buildn; exact rfl; exact (ty rfl); iterate 7 exact rfl) | (apply q_apo_s; (iterate 3 exact rfl); exact (ty rfl); exact rfl; exact rfl; exact (by first | omega | (simp; done) | (simp; omega)); exact (by first | exact List.take_of_length_le (by first | omega | (simp; done) | (simp; omega)) | rfl); exact (ty rfl); exact rfl; exact rfl; exact (by first | omega | (simp; done) | (simp; omega)); exact (by first | exact dt_full (by first | omega | (simp; done) | (simp; omega)) | assumption | rfl); exact rfl; exact (by first | omega | (simp; done) | (simp; omega)); exact (by first | omega | (simp; done) | (simp; omega)); exact (by first | assumption | exact rfl)) | (apply q_callU; (iterate 3 exact rfl); exact FzL.of rfl; exact hI _)); (try simp only [put, rowsOf, plR, selE, ovr, setH, del, cellsA, splice, isV, spq, if_true, if_false]))
    | (show DE _ _ _ _ _ _ _ _ _ _ _ _; first | (apply e_move; iterate 3 exact rfl) | (apply e_pick_f; (iterate 3 exact rfl); exact (by first | assumption | exact rfl); exact rfl) | (apply e_lss; iterate 4 exact rfl) | (apply e_ixd; (iterate 3 exact rfl); exact (ty rfl); exact rfl; exact (by first | omega | (simp; done) | (simp; omega)); exact (by first | omega | (simp; done) | (simp; omega)); exact (by first | rfl | assumption); exact rfl) | (apply e_ld1d; exact rfl; exact rfl; exact (ty rfl); iterate 3 exact rfl) | (apply e_ld1p; exact rfl; exact rfl; exact (ty rfl); exact rfl; exact rfl; exact (by first | rfl | assumption | ((try simp only [Nat.zero_add]); refine List.getElem?_set_self ?_; (try simp only [List.length_set]); assumption)); exact rfl; exact rfl) | (apply e_sdl_h; (iterate 3 exact rfl); exact (ty rfl); exact rfl; exact (by first | omega | (simp; done) | (simp; omega)); exact (by first | omega | (simp; done) | (simp; omega)); exact rfl) | (apply e_g; (iterate 3 exact rfl); exact (by assumption)))
    | (show DE _ _ _ _ _ _ _ _ _ _ _ _; (first | (apply dr_nil; exact trivial) | (apply e_callU; (iterate 3 exact rfl); exact FzL.of rfl; exact hH _; exact rfl)); (try simp only [put, rowsOf, plR, selE, ovr, setH, del, cellsA, splice, isV, spq, if_true, if_false]))
    | (show AW _ _ _ _ _ _ _ _; first | refine aw_region ?_ | (refine aw_seqk ?_; intro K hK) | refine aw_block ?_ | (apply aw_cond_t; exact rfl; exact (by assumption)) | (apply aw_cond_f; exact rfl; exact (by assumption)) | refine aw_skip ?_ | refine aw_drawE (id := 8) [0, 1, 3, 7, 7, 31, 7, 7, 199, 455, 1023, 2047] [0, 0, 0, 1, 1, 0, 1, 1, 0, 1, 1, 0] mixed (by kernel_rfl) ?_)
    | refine thn_n ?_
    | (refine hK _ _ _ ?_; clear hK K)
    | refine inb_n ?_)); all_goals (repeat (clear hK K)))
    all_goals first
      | (exfalso; simp_all; done)
      | (refine ⟨i + 1, fun j => [0, 1, 6, 5].getD j 0, ⟨by omega, c2⟩, by omega, ?_⟩; (try dsimp only); rw [e1, List.map_append, List.length_append, ← hw3]; exact ⟨by (repeat (refine ⟨by first | exact lk_r rfl rfl rfl | exact lk_s rfl rfl rfl rfl, ?_⟩)); exact trivial, by (repeat (refine ⟨by first | exact ⟨rfl, rfl, rfl⟩, ?_⟩)); exact trivial, by rfl, by exact pin_0⟩)
  · have b2 : decide ((i : Int) < ((rd.map inL).length : Int)) = false := by simpa using c2
    obtain rfl : i = rd.length := by omega
    ((repeat' (first
    | (show SQ _ _ _ _ _ _ _ _; first | apply sq_nil | (apply q_move; exact rfl; exact rfl) | (apply q_assign; exact rfl; exact rfl) | (apply q_lend; exact rfl; exact rfl; exact (ty rfl); exact rfl) | (apply q_lss; iterate 3 exact rfl) | (apply q_ld1p; exact rfl; exact rfl; exact (ty rfl); exact rfl; exact rfl; exact (by first | rfl | assumption | ((try simp only [Nat.zero_add]); refine List.getElem?_set_self ?_; (try simp only [List.length_set]); assumption)); exact rfl))
    | (show AW _ _ _ _ _ _ _ _; first | refine aw_region ?_ | (refine aw_seqk ?_; intro K hK) | (apply aw_cond_f; exact rfl; exact (by assumption)) | refine aw_ret ?_ | refine aw_exit ?_)
    | refine thn_n ?_
    | (refine hK _ _ _ ?_; clear hK K)
    | refine thn_e ?_
    | refine inb_same ?_
    | (clear hK K; refine hK _ _ _ ?_; clear hK K))); all_goals (repeat (clear hK K)))
    exact fin_r (fin_m2 rfl rfl rfl _ _ rfl rfl rfl)
end Go.Proofs.Ytglfcaioapdiaaa.Bk

namespace Go.Proofs.Ytglfcaioapdiaaa.Bk
open Go
set_option linter.unusedSimpArgs false
set_option linter.unusedVariables false
theorem link_at {ls : List Ln} {x y o : Int} (h : EL ls x y o) : 0 ≤ ixG (linkP x y) ls := by
  have := ixG_any (linkP x y) ls
  have h2 : ls.any (linkP x y) = true := by
    obtain ⟨l, hl, hor, _⟩ := h
    refine List.any_eq_true.2 ⟨l, hl, ?_⟩
    unfold linkP
    rcases hor with ⟨a, b⟩ | ⟨a, b⟩ <;> simp [a, b]
  rw [h2] at this
  simpa using this
theorem Pt.goodR {n : Int} {ls : List Ln} {s : Int} (hL : LnsOk n ls) (hs : 0 ≤ s ∧ s < n) {p : List Int} {c t : Int} (h : Pt (EL ls) s p c t) : p ≠ [] ∧ p.getLast? = some t ∧ ∀ j, j < p.length → goodR n ls p j = true := by
  induction h with
  | one =>
    refine ⟨by simp, rfl, fun j hj => ?_⟩
    simp at hj
    subst hj
    simp [Bk.goodR, inB]; omega
  | @step p c x y o h he hy ih =>
    obtain ⟨h1, h2, h3⟩ := ih
    refine ⟨by simp, by simp, fun j hj => ?_⟩
    simp only [List.length_append, List.length_singleton] at hj
    have hp0 : 0 < p.length := List.length_pos_iff.2 h1
    by_cases hjl : j < p.length
    · have := h3 j hjl
      have e1 : (p ++ [y]).getD j 0 = p.getD j 0 := by simp [List.getD, List.getElem?_append_left hjl]
      have e2 : (p ++ [y]).take j = p.take j := List.take_append_of_le_length (by omega)
      have e3 : (p ++ [y]).getD (j - 1) 0 = p.getD (j - 1) 0 := by simp [List.getD, List.getElem?_append_left (show j - 1 < p.length by omega)]
      simp only [Bk.goodR, lkAt, e1, e2, e3] at this ⊢
      exact this
    · have hje : j = p.length := by omega
      subst hje
      have e1 : (p ++ [y]).getD p.length 0 = y := by simp [List.getD]
      have e2 : (p ++ [y]).take p.length = p := by simp
      have e3 : (p ++ [y]).getD (p.length - 1) 0 = x := by
        simp only [List.getD, List.getElem?_append_left (show p.length - 1 < p.length by omega)]
        rw [← List.getLast?_eq_getElem?, h2]; rfl
      have hrng := (EL.ok hL he).2.2
      have hl := link_at he
      simp only [Bk.goodR, lkAt, e1, e2, e3, Bool.and_eq_true, Bool.or_eq_true, decide_eq_true_eq]
      refine ⟨⟨by simp [inB]; omega, ?_⟩, .inr hl⟩
      simp only [Bool.not_eq_true', List.any_eq_false, beq_iff_eq]
      exact fun z hz e => hy (e ▸ hz)
theorem Pt.rtB {n : Int} {ls : List Ln} {s : Int} (hL : LnsOk n ls) (hs : 0 ≤ s ∧ s < n) {p : List Int} {c t : Int} (h : Pt (EL ls) s p c t) : rtB n ls p = true :=
  rtB_true (fun e => h.ne (List.length_eq_zero_iff.1 e)) (Pt.goodR hL hs h).2.2
theorem rtL_rtB {n : Int} {ls : List Ln} {frm to : Int} (hL : LnsOk n ls) (hn : n ≤ 12) (hf : 0 ≤ frm ∧ frm < n) (ht : 0 ≤ to ∧ to < n) (hh : fh (farR n ls to) frm = true) : rtB n ls (rtL n ls frm to) = true := by
  have hW := FW.of (to := to) hL hn ht
  have hb := hW.bd hh
  exact Pt.rtB hL hf (hW.way _ hh (by omega)).1
def offB (ix : List Int) (j : Nat) : Bool := ix.any fun y => y == (j : Int)
def restI (ls : List Ln) (ix : List Int) (i : Nat) : List Ln := ((List.range i).filter fun j => !offB ix j).map fun j => ls.getD j lnz
def restL (ls : List Ln) (ix : List Int) : List Ln := restI ls ix ls.length
theorem restL_mem {ls : List Ln} {ix : List Int} {l : Ln} (h : l ∈ restL ls ix) : ∃ i, ∃ hi : i < ls.length, offB ix i = false ∧ ls[i] = l := by
  simp only [restL, restI, List.mem_map, List.mem_filter, List.mem_range, Bool.not_eq_true'] at h
  obtain ⟨i, ⟨hi, ho⟩, e⟩ := h
  exact ⟨i, hi, ho, by simpa [List.getD, hi] using e⟩
end Go.Proofs.Ytglfcaioapdiaaa.Bk

-- Two routes: the program's walk.
namespace Go.Proofs.Ytglfcaioapdiaaa.Bk
open Go Go.RowKit Go.Proofs.Ytglfcaioapdiaaa.Aw
set_option linter.unusedSimpArgs false
set_option linter.unusedVariables false
attribute [local irreducible] AW SQ Step RO RC DE Thn InB
theorem rtI_in' {n : Int} {ls : List Ln} {rd : List Int} (h : rtB n ls rd = true) : ∀ x ∈ rtI ls rd rd.length, 0 ≤ x ∧ x < ls.length := by
  intro x hx
  obtain ⟨j, hj, rfl⟩ := List.mem_map.1 hx
  have hj := List.mem_range.1 hj
  have := (rtB_get h).2 (j + 1) (by omega)
  simp only [goodR, Bool.and_eq_true, Bool.or_eq_true, decide_eq_true_eq] at this
  refine ⟨by omega, (ixG_rng _ _).2⟩
end Go.Proofs.Ytglfcaioapdiaaa.Bk

namespace Go.Proofs.Ytglfcaioapdiaaa.Aw
open Go Go.RowKit
set_option linter.unusedVariables false
section
variable {P : Program} {N g n : Nat} {Q : Exit → Tp → Hp → Nat → Prop} {T : Tp} {H : Hp}
end
def mv (a b : Nat) : Nat → Nat := fun z => if z = a then b else z
end Go.Proofs.Ytglfcaioapdiaaa.Aw

namespace Go.Proofs.Ytglfcaioapdiaaa.Bk
open Go Go.RowKit Go.Proofs.Ytglfcaioapdiaaa.Aw
set_option linter.unusedSimpArgs false
set_option linter.unusedVariables false
attribute [local irreducible] AW SQ Step RO DE AW1
def wdI (ls : List Ln) (w : Int) (i : Nat) : List Ln := ((ls.take i).filter fun l => decide (w ≤ l.c)).map fun l => ⟨l.a, l.b, 0, 0⟩
def wdL (ls : List Ln) (w : Int) : List Ln := wdI ls w ls.length
theorem wdI_len (ls : List Ln) (w : Int) (i : Nat) : (wdI ls w i).length ≤ ls.length := by
  unfold wdI
  rw [List.length_map]
  exact Nat.le_trans (List.length_filter_le _ _) (by rw [List.length_take]; omega)
theorem wdI_yes {ls : List Ln} {w : Int} {i : Nat} (hi : i < ls.length) (h : w ≤ ls[i].c) : wdI ls w (i + 1) = wdI ls w i ++ [⟨ls[i].a, ls[i].b, 0, 0⟩] := by
  have e : ls.take (i + 1) = ls.take i ++ [ls[i]] := by rw [List.take_add_one, List.getElem?_eq_getElem hi]; rfl
  unfold wdI
  rw [e, List.filter_append, List.map_append]
  congr 1
  simp [h]
theorem wdI_no {ls : List Ln} {w : Int} {i : Nat} (hi : i < ls.length) (h : ¬ w ≤ ls[i].c) : wdI ls w (i + 1) = wdI ls w i := by
  have e : ls.take (i + 1) = ls.take i ++ [ls[i]] := by rw [List.take_add_one, List.getElem?_eq_getElem hi]; rfl
  unfold wdI
  rw [e, List.filter_append, List.map_append]
  have : [ls[i]].filter (fun l => decide (w ≤ l.c)) = [] := by simp [h]
  rw [this]; simp
theorem wdL_ok {n : Int} {ls : List Ln} {w : Int} (hL : LnsOk n ls) : LnsOk n (wdL ls w) := fun l hl => by
  unfold wdL wdI at hl
  rw [List.take_length] at hl
  obtain ⟨x, hx, rfl⟩ := List.mem_map.1 hl
  have := hL x (List.mem_filter.1 hx).1
  exact ⟨this.1, this.2.1, by simp⟩
def capL (ls : List Ln) : List Int := ls.map (·.c)
def wkW (ls : List Ln) (k : Nat) : Int := (So.srt (capL ls)).getD (ls.length - 1 - k) 0
theorem capL_len (ls : List Ln) : (capL ls).length = ls.length := List.length_map _
theorem capL_take {ls : List Ln} {i : Nat} (h : i < ls.length) : (capL ls).take (i + 1) = (capL ls).take i ++ [ls[i].c] := by
  rw [List.take_add_one]; simp [capL, h]
set_option maxHeartbeats 4000000 in
theorem Backward_rc (b : Nat) (rows : List (List AV)) (len k : Nat) : RC Try.prog 72 [.sl b 0 len] [(b, ⟨2, 1, true, rows⟩)] k (.fn 109 [.ptr k 0 0]) [(b, some ⟨2, 1, true, rows⟩), (k, some ⟨26, 1, false, [[.sl b 0 len]]⟩)] (k + 1) := by
  refine RC.ofc [b] 1 [.sl 0 0 len] [(0, ⟨2, 1, true, rows⟩)] (.fn 109 [.ptr 1 0 0]) [(0, some ⟨2, 1, true, rows⟩), (1, some ⟨26, 1, false, [[.sl 0 0 len]]⟩)] Try.func72 Try.ntmps72 rfl (goFn_of Try.func72 rfl (by kernel_rfl)) rfl rfl rfl rfl rfl rfl rfl rfl (by simp_all) rfl ?_
  ((repeat' (first
    | (show SQ _ _ _ _ _ _ _ _; first | apply sq_nil | (apply q_assign; exact rfl; exact rfl) | (apply q_mkf; exact rfl; exact rfl))
    | (show SQ _ _ _ _ _ _ _ _; (first | (apply q_box; iterate 3 exact rfl)); (try simp only [put, rowsOf, plR, selE, ovr, setH, del, cellsA, splice, isV, spq, if_true, if_false]))
    | (show AW _ _ _ _ _ _ _ _; first | refine aw_region ?_ | (refine aw_seqk ?_; intro K hK) | refine aw_ret ?_)
    | refine thn_n ?_
    | (refine hK _ _ _ ?_; clear hK K))); all_goals (repeat (clear hK K)))
  all_goals exact finc id (.r1 _ _ (.tmp _ _ rfl)) (by simp only [renA, renL]; rfl) (fun _ _ => rfl) ⟨rfl, rfl, trivial⟩ rfl
def bwH (n : Int) (ls : List Ln) (a b : Int) : Hp := [(0, ⟨31, 2, false, [[.v (.int .i64 n), .dsl 4 (ls.map lnL)]]⟩), (1, ⟨2, 1, false, [[.v (.int .i64 a)]]⟩), (2, ⟨2, 1, false, [[.v (.int .i64 b)]]⟩), (3, ⟨26, 1, false, [[.v (.slice none 0 0)]]⟩), (4, ⟨2, 1, false, [[.v (.int .i64 0)]]⟩), (5, ⟨2, 1, false, [[.v (.int .i64 0)]]⟩),
  (6, ⟨2, 1, true, (So.srt (capL ls)).map inL⟩), (7, ⟨26, 1, false, [[.sl 6 0 ls.length]]⟩)]
def bwT : Tp := [(8, .ptr 5 0 0), (7, .ptr 4 0 0), (6, .ptr 3 0 0), (5, .ptr 2 0 0), (4, .ptr 1 0 0), (3, .ptr 0 0 0)]
section
variable (n : Int) (ls : List Ln) (a b : Int) (hn : ls.length ≤ 1048576)
include hn
set_option maxHeartbeats 4000000 in
theorem Wide_bad_ro (hc : codeV n ls [a, b] ≠ 0) (k : Nat) : RO Try.prog 29 [.agg (bkL n ls), .v (.int .i64 a), .v (.int .i64 b)] k (.tup [.v (.slice none 0 0), .v (.int .i64 0), .v (.int .i64 (codeV n ls [a, b]))]) [] k := by
  have hC := code2_ro n ls a b hn
  have b1 : (codeV n ls [a, b] != 0) = true := by simpa using hc
  generalize codeV n ls [a, b] = c at *
  unfold bkL at hC ⊢
  refine RO.ofp Try.func29 Try.ntmps29 rfl (goFn_of Try.func29 rfl (by kernel_rfl)) rfl rfl rfl ?_
  ((repeat' (first
    | (show SQ _ _ _ _ _ _ _ _; first | apply sq_nil | (apply q_move; exact rfl; exact rfl) | (apply q_assign; exact rfl; exact rfl) | (apply q_neq; iterate 3 exact rfl) | (apply q_ld1p; exact rfl; exact rfl; exact (ty rfl); exact rfl; exact rfl; exact (by first | rfl | assumption | ((try simp only [Nat.zero_add]); refine List.getElem?_set_self ?_; (try simp only [List.length_set]); assumption)); exact rfl))
    | (show SQ _ _ _ _ _ _ _ _; (first | (apply q_ldap; exact rfl; exact rfl; exact (ty rfl); exact rfl; exact rfl; exact (by first | rfl | assumption | ((try simp only [Nat.zero_add]); refine List.getElem?_set_self ?_; (try simp only [List.length_set]); assumption)); exact rfl) | (apply q_box; iterate 3 exact rfl) | (apply q_alloc; exact rfl; exact (ty rfl); exact rfl; exact rfl) | (apply q_store; exact rfl; exact rfl; exact (ty rfl); exact rfl; exact (by first | rfl | assumption | ((try simp only [Nat.zero_add]); refine List.getElem?_set_self ?_; (try simp only [List.length_set]); assumption)); iterate 3 exact rfl) | (apply q_buildn; exact rfl; exact (ty rfl); iterate 7 exact rfl) | (apply q_callU; (iterate 3 exact rfl); exact FzL.of rfl; exact hC _)); (try simp only [put, rowsOf, plR, selE, ovr, setH, del, cellsA, splice, isV, spq, if_true, if_false]))
    | (show AW _ _ _ _ _ _ _ _; first | refine aw_region ?_ | (refine aw_seqk ?_; intro K hK) | refine aw_block ?_ | (apply aw_cond_t; exact rfl; exact (by assumption)) | refine aw_ret ?_)
    | refine thn_n ?_
    | (refine hK _ _ _ ?_; clear hK K)
    | refine thn_r ?_
    | refine inb_r ?_)); all_goals (repeat (clear hK K)))
  all_goals refine fin_r (fin_p (.r3 _ _ _ _ _ _ (.one _ _ _ _ _ _ rfl (.inr ⟨_, _, _, _, _, rfl, rfl, rfl, rfl⟩) (ty rfl) rfl) (.one _ _ _ _ _ _ rfl (.inr ⟨_, _, _, _, _, rfl, rfl, rfl, rfl⟩) (ty rfl) rfl) (.one _ _ _ _ _ _ rfl (.inr ⟨_, _, _, _, _, rfl, rfl, rfl, rfl⟩) (ty rfl) rfl)) ?_ rfl rfl rfl)
  all_goals rfl
set_option maxHeartbeats 4000000 in
theorem Wide_none_ro (hc : codeV n ls [a, b] = 0) (he : a ≠ b) (hno : ∀ k, k < ls.length → fh (farR n (wdL ls (wkW ls k)) b) a = false) (k : Nat) : RO Try.prog 29 [.agg (bkL n ls), .v (.int .i64 a), .v (.int .i64 b)] k (.tup [.v (.slice none 0 0), .v (.int .i64 0), .v (.int .i64 3)]) [] k := by
  have hC := code2_ro n ls a b hn
  obtain ⟨hN, hL, ha, hb, _⟩ := codeV_ok hc
  rw [hc] at hC
  have b1 : ((0 : Int) != 0) = false := by simp
  have b2 : (a == b) = false := by simpa using he
  unfold bkL at hC ⊢
  refine RO.ofm1 (.tup [.v (.slice none 0 0), .v (.int .i64 0), .v (.int .i64 3)]) [] 0 Try.func29 Try.ntmps29 rfl (goFn_of Try.func29 rfl (by kernel_rfl)) rfl (by simp [renA, renL]) (by simp [shH]) rfl ?_
  refine aw1_pre (qend_ret' Try.ntmps29 rfl rfl) fun K hK => ?_
  ((repeat' (first
    | (show SQ _ _ _ _ _ _ _ _; first | apply sq_nil)
    | (show SQ _ _ _ _ _ _ _ _; (first | (apply q_box; iterate 3 exact rfl) | (apply q_alloc; exact rfl; exact (ty rfl); exact rfl; exact rfl)); (try simp only [put, rowsOf, plR, selE, ovr, setH, del, cellsA, splice, isV, spq, if_true, if_false]))
    | (show AW _ _ _ _ _ _ _ _; first | refine aw_region ?_)
    | refine thn_n ?_
    | (refine hK _ _ _ ?_; clear hK K))); all_goals (repeat (clear hK K)))
  refine aw1_pre (qend_ret' Try.ntmps29 rfl rfl) fun K hK => ?_
  ((repeat' (first
    | (show SQ _ _ _ _ _ _ _ _; first | apply sq_nil | (apply q_move; exact rfl; exact rfl) | (apply q_assign; exact rfl; exact rfl) | (apply q_eql; iterate 3 exact rfl) | (apply q_neq; iterate 3 exact rfl) | (apply q_ld1p; exact rfl; exact rfl; exact (ty rfl); exact rfl; exact rfl; exact (by first | rfl | assumption | ((try simp only [Nat.zero_add]); refine List.getElem?_set_self ?_; (try simp only [List.length_set]); assumption)); exact rfl))
    | (show SQ _ _ _ _ _ _ _ _; (first | (apply q_ldap; exact rfl; exact rfl; exact (ty rfl); exact rfl; exact rfl; exact (by first | rfl | assumption | ((try simp only [Nat.zero_add]); refine List.getElem?_set_self ?_; (try simp only [List.length_set]); assumption)); exact rfl) | (apply q_buildn; exact rfl; exact (ty rfl); iterate 7 exact rfl) | (apply q_callU; (iterate 3 exact rfl); exact FzL.of rfl; exact hC _)); (try simp only [put, rowsOf, plR, selE, ovr, setH, del, cellsA, splice, isV, spq, if_true, if_false]))
    | (show AW _ _ _ _ _ _ _ _; first | refine aw_region ?_ | (refine aw_seqk ?_; intro K hK) | refine aw_block ?_ | (apply aw_cond_f; exact rfl; exact rfl) | (apply aw_cond_f; exact rfl; exact (by assumption)) | refine aw_skip ?_)
    | refine thn_n ?_
    | (refine hK _ _ _ ?_; clear hK K))); all_goals (repeat (clear hK K)))
  refine aw1_pre (qend_ret' Try.ntmps29 rfl rfl) fun K hK => ?_
  ((repeat' (first
    | (show SQ _ _ _ _ _ _ _ _; first | apply sq_nil | (apply q_assign; exact rfl; exact rfl))
    | (show AW _ _ _ _ _ _ _ _; first | refine aw_region ?_)
    | refine thn_n ?_
    | (refine hK _ _ _ ?_; clear hK K))); all_goals (repeat (clear hK K)))
  refine aw1_pre (qend_ret' Try.ntmps29 rfl rfl) fun K hK => ?_
  ((repeat' (first
    | (show SQ _ _ _ _ _ _ _ _; first | apply sq_nil | (apply q_move; exact rfl; exact rfl) | (apply q_fieldAddr; exact rfl; exact rfl; exact (ty rfl); iterate 4 exact rfl) | (apply q_lend; exact rfl; exact rfl; exact (ty rfl); exact rfl) | (apply q_ld1p; exact rfl; exact rfl; exact (ty rfl); exact rfl; exact rfl; exact (by first | rfl | assumption | ((try simp only [Nat.zero_add]); refine List.getElem?_set_self ?_; (try simp only [List.length_set]); assumption)); exact rfl))
    | (show AW _ _ _ _ _ _ _ _; first | refine aw_region ?_ | (refine aw_seqk ?_; intro K hK) | refine aw_block ?_)
    | refine thn_n ?_
    | (refine hK _ _ _ ?_; clear hK K))); all_goals (repeat (clear hK K)))
  refine aw_nil 2 1 (t := 10) rfl ?_
  refine aw_loop (ρ := mv 6 7) (ι := Nat) (fun i => ([(37, .v (.int .i64 i)), (36, .v (.int .i64 ls.length)), (35, .dsl 4 (ls.map lnL)), (10, .sl 6 0 ((capL ls).take i).length), (8, .ptr 5 0 0), (7, .ptr 4 0 0), (6, .ptr 3 0 0), (5, .ptr 2 0 0), (4, .ptr 1 0 0), (3, .ptr 0 0 0)],
      [(0, ⟨31, 2, false, [[.v (.int .i64 n), .dsl 4 (ls.map lnL)]]⟩), (1, ⟨2, 1, false, [[.v (.int .i64 a)]]⟩), (2, ⟨2, 1, false, [[.v (.int .i64 b)]]⟩), (3, ⟨26, 1, false, [[.v (.slice none 0 0)]]⟩), (4, ⟨2, 1, false, [[.v (.int .i64 0)]]⟩), (5, ⟨2, 1, false, [[.v (.int .i64 0)]]⟩), (6, ⟨2, 1, true, ((capL ls).take i).map inL⟩)], 7))
    (fun i => i ≤ ls.length) (fun i => ls.length - i) 0 (Nat.zero_le _) ⟨by (repeat (refine ⟨by first | exact lk_i rfl rfl | exact lk_i rfl (by (try dsimp only); first | rfl | omega | (rw [IntWalk.i64_in _ (by omega)]; first | rfl | omega | (push_cast; omega)) | (simp; done) | (simp; omega)) | exact lk_d rfl rfl | exact lk_r rfl rfl rfl | exact lk_s rfl rfl rfl rfl, ?_⟩)); exact trivial, by (repeat (refine ⟨by first | exact ⟨rfl, rfl, rfl⟩, ?_⟩)); exact trivial, by rfl, by exact pin_0⟩ ?_
  intro i hi
  (try dsimp only)
  have hml : (((capL ls).take i).map inL).length = ((capL ls).take i).length := List.length_map _
  have hcl := capL_len ls
  have htl : ((capL ls).take i).length = i := by rw [List.length_take]; omega
  by_cases c2 : i < ls.length
  · have b3 : decide ((i : Int) < (ls.length : Int)) = true := by simpa using c2
    have hrow : (ls.map lnL)[((i : Int)).toNat]? = some (lnL ls[i]) := by simp [c2]
    rw [lnL_eq] at hrow
    have hw1 : IntKind.i64.wrap ((i : Int) + 1) = ((i + 1 : Nat) : Int) := by rw [IntWalk.i64_in _ (by omega)]; omega
    have e1 := capL_take c2
    ((repeat' (first
    | (show SQ _ _ _ _ _ _ _ _; first | apply sq_nil | (apply q_move; exact rfl; exact rfl) | (apply q_assign; exact rfl; exact rfl) | (apply q_fieldAddr; exact rfl; exact rfl; exact (ty rfl); iterate 4 exact rfl) | (apply q_add; iterate 3 exact rfl) | (apply q_lss; iterate 3 exact rfl) | (apply q_ixd; (iterate 3 exact rfl); exact (ty rfl); exact rfl; exact (by first | omega | (simp; done) | (simp; omega)); exact (by first | omega | (simp; done) | (simp; omega)); exact (by first | rfl | assumption)) | (apply q_ld1p; exact rfl; exact rfl; exact (ty rfl); exact rfl; exact rfl; exact (by first | rfl | assumption | ((try simp only [Nat.zero_add]); refine List.getElem?_set_self ?_; (try simp only [List.length_set]); assumption)); exact rfl))
    | (show SQ _ _ _ _ _ _ _ _; (first | (apply q_ldad; exact rfl; exact rfl; exact (ty rfl); exact rfl; exact rfl) | (apply q_alloc; exact rfl; exact (ty rfl); exact rfl; exact rfl) | (apply q_store; exact rfl; exact rfl; exact (ty rfl); exact rfl; exact (by first | rfl | assumption | ((try simp only [Nat.zero_add]); refine List.getElem?_set_self ?_; (try simp only [List.length_set]); assumption)); iterate 3 exact rfl) | (apply q_buildn; exact rfl; exact (ty rfl); iterate 7 exact rfl) | (apply q_apo_s; (iterate 3 exact rfl); exact (ty rfl); exact rfl; exact rfl; exact (by first | omega | (simp; done) | (simp; omega)); exact (by first | exact List.take_of_length_le (by first | omega | (simp; done) | (simp; omega)) | rfl); exact (ty rfl); exact rfl; exact rfl; exact (by first | omega | (simp; done) | (simp; omega)); exact (by first | exact dt_full (by first | omega | (simp; done) | (simp; omega)) | assumption | rfl); exact rfl; exact (by first | omega | (simp; done) | (simp; omega)); exact (by first | omega | (simp; done) | (simp; omega)); exact (by first | assumption | exact rfl))); (try simp only [put, rowsOf, plR, selE, ovr, setH, del, cellsA, splice, isV, spq, if_true, if_false]))
    | (show AW _ _ _ _ _ _ _ _; first | refine aw_region ?_ | (refine aw_seqk ?_; intro K hK) | refine aw_block ?_ | (apply aw_cond_t; exact rfl; exact (by assumption)) | refine aw_skip ?_)
    | refine thn_n ?_
    | (refine hK _ _ _ ?_; clear hK K))); all_goals (repeat (clear hK K)))
    all_goals (refine ⟨i + 1, mv 6 9, c2, by omega, ?_⟩; (try dsimp only); rw [e1, List.map_append, List.length_append, ← hw1]; exact ⟨by (repeat (refine ⟨by first | exact lk_i rfl rfl | exact lk_d rfl rfl | exact lk_r rfl rfl rfl | exact lk_s rfl rfl rfl rfl, ?_⟩)); exact trivial, by (repeat (refine ⟨by first | exact ⟨rfl, rfl, rfl⟩, ?_⟩)); exact trivial, by rfl, by exact pin_0⟩)
  · have b3 : decide ((i : Int) < (ls.length : Int)) = false := by simpa using c2
    obtain rfl : i = ls.length := by omega
    have e3 : (capL ls).take ls.length = capL ls := List.take_of_length_le (by omega)
    rw [e3]
    ((repeat' (first
    | (show SQ _ _ _ _ _ _ _ _; first | apply sq_nil | (apply q_lss; iterate 3 exact rfl))
    | (show AW _ _ _ _ _ _ _ _; first | refine aw_region ?_ | (refine aw_seqk ?_; intro K hK) | (apply aw_cond_f; exact rfl; exact (by assumption)) | refine aw_exit ?_)
    | refine thn_n ?_
    | (refine hK _ _ _ ?_; clear hK K)
    | refine thn_e ?_
    | refine inb_same ?_
    | (clear hK K; refine hK _ _ _ ?_; clear hK K))); all_goals (repeat (clear hK K)))
    have hS := fun k => So.Sort_rc 6 (capL ls) (by omega) k
    rw [hcl] at hS
    rw [hcl]
    have hSl : (So.srt (capL ls)).length = ls.length := by rw [So.srt_len, hcl]
    refine aw1_pre (qend_ret' Try.ntmps29 rfl rfl) fun K hK => ?_
    ((repeat' (first
    | (show SQ _ _ _ _ _ _ _ _; first | apply sq_nil | (apply q_move; exact rfl; exact rfl))
    | (show SQ _ _ _ _ _ _ _ _; (first | (apply q_callC; (iterate 3 exact rfl); exact hS _; (focus ((repeat (first | exact trivial | refine ⟨by first | exact rfl | assumption, ?_⟩)); done)); skip)); (try simp only [put, rowsOf, plR, selE, ovr, setH, del, cellsA, splice, isV, spq, if_true, if_false]))
    | (show AW _ _ _ _ _ _ _ _; first | refine aw_region ?_)
    | refine thn_n ?_
    | (refine hK _ _ _ ?_; clear hK K))); all_goals (repeat (clear hK K)))
    refine aw1_seq (aw1_pre (retOk_then (qend_ret' Try.ntmps29 rfl rfl)) fun K hK => ?_)
    have hBk := Backward_rc 6 ((So.srt (capL ls)).map inL) ls.length
    ((repeat' (first
    | (show SQ _ _ _ _ _ _ _ _; first | apply sq_nil | (apply q_move; exact rfl; exact rfl))
    | (show SQ _ _ _ _ _ _ _ _; (first | (apply q_callC; (iterate 3 exact rfl); exact hBk _; (focus ((repeat (first | exact trivial | refine ⟨by first | exact rfl | assumption, ?_⟩)); done)); skip)); (try simp only [put, rowsOf, plR, selE, ovr, setH, del, cellsA, splice, isV, spq, if_true, if_false]))
    | (show AW _ _ _ _ _ _ _ _; first | refine aw_region ?_)
    | refine thn_n ?_
    | (refine hK _ _ _ ?_; clear hK K))); all_goals (repeat (clear hK K)))
    refine aw1_weak (T' := (50, .fn 109 [.ptr 7 0 0]) :: bwT) (H' := bwH n ls a b) (n' := 8) (ρ := id) ?_ ?_
    · unfold bwT bwH; exact ⟨by (repeat (refine ⟨by first | exact lk_r rfl rfl rfl | exact lk_f rfl, ?_⟩)); exact trivial, by (repeat (refine ⟨by first | exact ⟨rfl, rfl, rfl⟩, ?_⟩)); exact trivial, by rfl, by exact pin_0⟩
    refine aw1_back (gg := 8) (len := ls.length) (T0 := bwT) (bx := 7) (sid := 6) (rows := (So.srt (capL ls)).map inL) (fun j => (So.srt (capL ls)).getD j 0) (fun _ => (bwH n ls a b, 8)) ls.length Try.ntmps29 rfl rfl rfl (goFn_of Try.func109 rfl (by kernel_rfl)) Bw.back_it ⟨rfl, rfl⟩ ?_ rfl (fun _ _ => Nat.le_refl _) (by omega) (by omega) (fun _ _ => rfl) (fun _ _ => ⟨rfl, rfl⟩) (by rw [List.length_map, hSl]) ?_ (by decide) (by decide) ?_ rfl ?_
    · intro t v h
      rw [look_cons]
      split
      · rename_i e; subst e; simp [bwT, look_cons, look_nil] at h
      · exact h
    · intro j hj
      simp [inL, List.getD, hSl, hj]
    · intro i hi him
      have hRw := hno i hi
      unfold wkW at hRw
      generalize (So.srt (capL ls)).getD (ls.length - 1 - i) 0 = w at *
      have hwl := wdI_len ls w ls.length
      have hR := route_nil_ro n (wdL ls w) a b hN (by unfold wdL; omega) (wdL_ok hL) ha hb hRw
      unfold bwT bwH
      unfold bkL at hR
      ((repeat' (first
    | (show SQ _ _ _ _ _ _ _ _; first | apply sq_nil | (apply q_move; exact rfl; exact rfl) | (apply q_assign; exact rfl; exact rfl) | (apply q_fieldAddr; exact rfl; exact rfl; exact (ty rfl); iterate 4 exact rfl) | (apply q_lend; exact rfl; exact rfl; exact (ty rfl); exact rfl) | (apply q_ld1p; exact rfl; exact rfl; exact (ty rfl); exact rfl; exact rfl; exact (by first | rfl | assumption | ((try simp only [Nat.zero_add]); refine List.getElem?_set_self ?_; (try simp only [List.length_set]); assumption)); exact rfl) | (apply q_build; exact rfl; exact (ty rfl); iterate 3 exact rfl))
    | (show SQ _ _ _ _ _ _ _ _; (first | (apply q_alloc; exact rfl; exact (ty rfl); exact rfl; exact rfl) | (apply q_store; exact rfl; exact rfl; exact (ty rfl); exact rfl; exact (by first | rfl | assumption | ((try simp only [Nat.zero_add]); refine List.getElem?_set_self ?_; (try simp only [List.length_set]); assumption)); iterate 3 exact rfl)); (try simp only [put, rowsOf, plR, selE, ovr, setH, del, cellsA, splice, isV, spq, if_true, if_false]))
    | (show AW _ _ _ _ _ _ _ _; first | refine aw_region ?_ | (refine aw_seqk ?_; intro K hK) | refine aw_block ?_)
    | refine thn_n ?_
    | (refine hK _ _ _ ?_; clear hK K))); all_goals (repeat (clear hK K)))
      show AW _ _ 8 _ _ _ _ _
      (all_goals (repeat (clear hK K)))
      refine aw_nilB 8 0 1 56 4 rfl rfl rfl rfl rfl ?_
      refine aw_loop (ρ := id) (ι := Nat) (fun j => ([(59, .v (.int .i64 j)), (58, .v (.int .i64 ls.length)), (57, .dsl 4 (ls.map lnL)), (15, .ptr 8 0 0), (14, .v (.int .i64 w)), (8, .ptr 5 0 0), (7, .ptr 4 0 0), (6, .ptr 3 0 0), (5, .ptr 2 0 0), (4, .ptr 1 0 0), (3, .ptr 0 0 0)],
          [(0, ⟨31, 2, false, [[.v (.int .i64 n), .dsl 4 (ls.map lnL)]]⟩), (1, ⟨2, 1, false, [[.v (.int .i64 a)]]⟩), (2, ⟨2, 1, false, [[.v (.int .i64 b)]]⟩), (3, ⟨26, 1, false, [[.v (.slice none 0 0)]]⟩), (4, ⟨2, 1, false, [[.v (.int .i64 0)]]⟩), (5, ⟨2, 1, false, [[.v (.int .i64 0)]]⟩), (6, ⟨2, 1, true, (So.srt (capL ls)).map inL⟩), (7, ⟨26, 1, false, [[.sl 6 0 ls.length]]⟩),
           (8, ⟨31, 2, false, [[.v (.int .i64 n), .sl 9 0 (wdI ls w j).length]]⟩), (9, ⟨56, 4, true, (wdI ls w j).map lnL⟩)], 10))
        (fun j => j ≤ ls.length) (fun j => ls.length - j) 0 (Nat.zero_le _) ⟨by (repeat (refine ⟨by first | exact lk_i rfl rfl | exact lk_i rfl (by (try dsimp only); first | rfl | omega | (rw [IntWalk.i64_in _ (by omega)]; first | rfl | omega | (push_cast; omega)) | (simp; done) | (simp; omega)) | exact lk_d rfl rfl | exact lk_r rfl rfl rfl, ?_⟩)); exact trivial, by (repeat (refine ⟨by first | exact ⟨rfl, rfl, rfl⟩, ?_⟩)); exact trivial, by rfl, by (intro i hi; (try dsimp only); refine ⟨?_, ?_⟩ <;> first | rfl | omega | (simp at hi; omega) | (simp; omega))⟩ ?_
      intro j hj
      (try dsimp only)
      have hml : ((wdI ls w j).map lnL).length = (wdI ls w j).length := List.length_map _
      have hwj := wdI_len ls w j
      by_cases c2 : j < ls.length
      · have b3 : decide ((j : Int) < (ls.length : Int)) = true := by simpa using c2
        have hrow : (ls.map lnL)[((j : Int)).toNat]? = some (lnL ls[j]) := by simp [c2]
        rw [lnL_eq] at hrow
        have hw1 : IntKind.i64.wrap ((j : Int) + 1) = ((j + 1 : Nat) : Int) := by rw [IntWalk.i64_in _ (by omega)]; omega
        by_cases c3 : w ≤ ls[j].c
        · have b4 : decide (w ≤ ls[j].c) = true := by simpa using c3
          have e1 := wdI_yes c2 c3
          ((repeat' (first
    | (show SQ _ _ _ _ _ _ _ _; first | apply sq_nil | (apply q_move; exact rfl; exact rfl) | (apply q_fieldAddr; exact rfl; exact rfl; exact (ty rfl); iterate 4 exact rfl) | (apply q_add; iterate 3 exact rfl) | (apply q_lss; iterate 3 exact rfl) | (apply q_geq; iterate 3 exact rfl) | (apply q_ixd; (iterate 3 exact rfl); exact (ty rfl); exact rfl; exact (by first | omega | (simp; done) | (simp; omega)); exact (by first | omega | (simp; done) | (simp; omega)); exact (by first | rfl | assumption)) | (apply q_ld1p; exact rfl; exact rfl; exact (ty rfl); exact rfl; exact rfl; exact (by first | rfl | assumption | ((try simp only [Nat.zero_add]); refine List.getElem?_set_self ?_; (try simp only [List.length_set]); assumption)); exact rfl) | (apply q_build; exact rfl; exact (ty rfl); iterate 3 exact rfl))
    | (show SQ _ _ _ _ _ _ _ _; (first | (apply q_ldad; exact rfl; exact rfl; exact (ty rfl); exact rfl; exact rfl) | (apply q_alloc; exact rfl; exact (ty rfl); exact rfl; exact rfl) | (apply q_store; exact rfl; exact rfl; exact (ty rfl); exact rfl; exact (by first | rfl | assumption | ((try simp only [Nat.zero_add]); refine List.getElem?_set_self ?_; (try simp only [List.length_set]); assumption)); iterate 3 exact rfl) | (apply q_buildn; exact rfl; exact (ty rfl); iterate 7 exact rfl) | (apply q_apo_s; (iterate 3 exact rfl); exact (ty rfl); exact rfl; exact rfl; exact (by first | omega | (simp; done) | (simp; omega)); exact (by first | exact List.take_of_length_le (by first | omega | (simp; done) | (simp; omega)) | rfl); exact (ty rfl); exact rfl; exact rfl; exact (by first | omega | (simp; done) | (simp; omega)); exact (by first | exact dt_full (by first | omega | (simp; done) | (simp; omega)) | assumption | rfl); exact rfl; exact (by first | omega | (simp; done) | (simp; omega)); exact (by first | omega | (simp; done) | (simp; omega)); exact (by first | assumption | exact rfl))); (try simp only [put, rowsOf, plR, selE, ovr, setH, del, cellsA, splice, isV, spq, if_true, if_false]))
    | (show AW _ _ _ _ _ _ _ _; first | refine aw_region ?_ | (refine aw_seqk ?_; intro K hK) | refine aw_block ?_ | (apply aw_cond_t; exact rfl; exact (by assumption)) | refine aw_skip ?_)
    | refine thn_n ?_
    | (refine hK _ _ _ ?_; clear hK K))); all_goals (repeat (clear hK K)))
          all_goals (refine ⟨j + 1, mv 9 12, c2, by omega, ?_⟩; (try dsimp only); rw [e1, List.map_append, List.length_append, ← hw1]; exact ⟨by (repeat (refine ⟨by first | exact lk_i rfl rfl | exact lk_d rfl rfl | exact lk_r rfl rfl rfl, ?_⟩)); exact trivial, by (repeat (refine ⟨by first | exact ⟨rfl, rfl, rfl⟩, ?_⟩)); exact trivial, by rfl, by (intro i hi; (try dsimp only); refine ⟨?_, ?_⟩ <;> first | rfl | omega | (simp [mv]; omega))⟩)
        · have b4 : decide (w ≤ ls[j].c) = false := by simpa using c3
          have e1 := wdI_no c2 c3
          ((repeat' (first
    | (show SQ _ _ _ _ _ _ _ _; first | apply sq_nil | (apply q_move; exact rfl; exact rfl) | (apply q_fieldAddr; exact rfl; exact rfl; exact (ty rfl); iterate 4 exact rfl) | (apply q_add; iterate 3 exact rfl) | (apply q_lss; iterate 3 exact rfl) | (apply q_geq; iterate 3 exact rfl) | (apply q_ixd; (iterate 3 exact rfl); exact (ty rfl); exact rfl; exact (by first | omega | (simp; done) | (simp; omega)); exact (by first | omega | (simp; done) | (simp; omega)); exact (by first | rfl | assumption)) | (apply q_ld1p; exact rfl; exact rfl; exact (ty rfl); exact rfl; exact rfl; exact (by first | rfl | assumption | ((try simp only [Nat.zero_add]); refine List.getElem?_set_self ?_; (try simp only [List.length_set]); assumption)); exact rfl))
    | (show SQ _ _ _ _ _ _ _ _; (first | (apply q_ldad; exact rfl; exact rfl; exact (ty rfl); exact rfl; exact rfl) | (apply q_alloc; exact rfl; exact (ty rfl); exact rfl; exact rfl) | (apply q_store; exact rfl; exact rfl; exact (ty rfl); exact rfl; exact (by first | rfl | assumption | ((try simp only [Nat.zero_add]); refine List.getElem?_set_self ?_; (try simp only [List.length_set]); assumption)); iterate 3 exact rfl)); (try simp only [put, rowsOf, plR, selE, ovr, setH, del, cellsA, splice, isV, spq, if_true, if_false]))
    | (show AW _ _ _ _ _ _ _ _; first | refine aw_region ?_ | (refine aw_seqk ?_; intro K hK) | refine aw_block ?_ | (apply aw_cond_t; exact rfl; exact (by assumption)) | (apply aw_cond_f; exact rfl; exact (by assumption)) | refine aw_skip ?_)
    | refine thn_n ?_
    | (refine hK _ _ _ ?_; clear hK K))); all_goals (repeat (clear hK K)))
          all_goals (refine ⟨j + 1, id, c2, by omega, ?_⟩; (try dsimp only); rw [e1, ← hw1]; exact ⟨by (repeat (refine ⟨by first | exact lk_i rfl rfl | exact lk_d rfl rfl | exact lk_r rfl rfl rfl, ?_⟩)); exact trivial, by (repeat (refine ⟨by first | exact ⟨rfl, rfl, rfl⟩, ?_⟩)); exact trivial, by rfl, by (intro i hi; (try dsimp only); refine ⟨?_, ?_⟩ <;> first | rfl | omega | (simp at hi; omega) | (simp; omega))⟩)
      · have b3 : decide ((j : Int) < (ls.length : Int)) = false := by simpa using c2
        obtain rfl : j = ls.length := by omega
        have e4 : wdI ls w ls.length = wdL ls w := rfl
        rw [e4] at hml hwj ⊢
        ((repeat' (first
    | (show SQ _ _ _ _ _ _ _ _; first | apply sq_nil | (apply q_move; exact rfl; exact rfl) | (apply q_assign; exact rfl; exact rfl) | (apply q_lss; iterate 3 exact rfl) | (apply q_ld1p; exact rfl; exact rfl; exact (ty rfl); exact rfl; exact rfl; exact (by first | rfl | assumption | ((try simp only [Nat.zero_add]); refine List.getElem?_set_self ?_; (try simp only [List.length_set]); assumption)); exact rfl) | (apply q_nil_nv; (iterate 3 exact rfl); exact (ty rfl); exact rfl))
    | (show SQ _ _ _ _ _ _ _ _; (first | (apply q_ldap; exact rfl; exact rfl; exact (ty rfl); exact rfl; exact rfl; exact (by first | rfl | assumption | ((try simp only [Nat.zero_add]); refine List.getElem?_set_self ?_; (try simp only [List.length_set]); assumption)); exact rfl) | (apply q_callU; (iterate 3 exact rfl); rotate_left; exact hR _; rotate_right; focus ((repeat' (first | exact FzL.nil | exact (by assumption : FzC _) _ | refine FzL.cons ?_ ?_ | exact Fz.of rfl | exact Fz.nil | exact Fz.emp | (apply Fz.fnC; assumption) | (apply Fz.sl2; exact rfl; exact (by first | omega | (simp; done) | (simp; omega)); first | exact rfl | exact dt_full (by first | omega | (simp; done) | (simp; omega)) | assumption) | apply Fz.agg | (apply Fz.ptrL; exact rfl; first | exact rfl | assumption) | apply Fz.fnL)); done))); (try simp only [put, rowsOf, plR, selE, ovr, setH, del, cellsA, splice, isV, spq, if_true, if_false]))
    | (show AW _ _ _ _ _ _ _ _; first | refine aw_region ?_ | (refine aw_seqk ?_; intro K hK) | (apply aw_cond_f; exact rfl; exact rfl) | (apply aw_cond_f; exact rfl; exact (by assumption)) | refine aw_exit ?_ | refine aw_skip ?_)
    | refine thn_n ?_
    | (refine hK _ _ _ ?_; clear hK K)
    | refine thn_e ?_
    | refine inb_same ?_
    | refine inb_n ?_
    | (clear hK K; refine hK _ _ _ ?_; clear hK K))); all_goals (repeat (clear hK K)))
        all_goals (refine ⟨by omega, id, ?_⟩; (try dsimp only); exact ⟨by exact trivial, by (repeat (refine ⟨by first | exact ⟨rfl, rfl, rfl⟩, ?_⟩)); exact trivial, by rfl, by (intro i hi; (try dsimp only); refine ⟨?_, ?_⟩ <;> first | rfl | omega | (simp at hi; omega) | (simp; omega))⟩)
    · intro _
      unfold bwT bwH
      ((repeat' (first
    | (show SQ _ _ _ _ _ _ _ _; first | apply sq_nil)
    | (show SQ _ _ _ _ _ _ _ _; (first | (apply q_store; exact rfl; exact rfl; exact (ty rfl); exact rfl; exact (by first | rfl | assumption | ((try simp only [Nat.zero_add]); refine List.getElem?_set_self ?_; (try simp only [List.length_set]); assumption)); iterate 3 exact rfl)); (try simp only [put, rowsOf, plR, selE, ovr, setH, del, cellsA, splice, isV, spq, if_true, if_false])))); all_goals (repeat (clear hK K)))
      all_goals (refine fin_p (.r3 _ _ _ _ _ _ (.one _ _ _ _ _ _ rfl (.inr ⟨_, _, _, _, _, rfl, rfl, rfl, rfl⟩) (ty rfl) rfl) (.one _ _ _ _ _ _ rfl (.inr ⟨_, _, _, _, _, rfl, rfl, rfl, rfl⟩) (ty rfl) rfl) (.one _ _ _ _ _ _ rfl (.inr ⟨_, _, _, _, _, rfl, rfl, rfl, rfl⟩) (ty rfl) rfl)) ?_ rfl rfl rfl; rfl)
set_option maxHeartbeats 4000000 in
theorem Wide_same_ro (hc : codeV n ls [a, b] = 0) (he : a = b) (k : Nat) : RO Try.prog 29 [.agg (bkL n ls), .v (.int .i64 a), .v (.int .i64 b)] k (.tup [.sl k 0 1, .v (.int .i64 0), .v (.int .i64 0)]) [(k, ⟨2, 1, true, [inL a]⟩)] (k + 1) := by
  have hC := code2_ro n ls a b hn
  rw [hc] at hC
  have b1 : ((0 : Int) != 0) = false := by simp
  have b2 : (a == b) = true := by simpa using he
  unfold bkL at hC ⊢
  refine RO.ofm (.tup [.sl 0 0 1, .v (.int .i64 0), .v (.int .i64 0)]) ([(0, ⟨2, 1, true, [inL a]⟩)]) 1 Try.func29 Try.ntmps29 rfl (goFn_of Try.func29 rfl (by kernel_rfl)) rfl rfl (by simp [renA, renL]) (by simp [shH, renB]) rfl ?_
  ((repeat' (first
    | (show SQ _ _ _ _ _ _ _ _; first | apply sq_nil | (apply q_move; exact rfl; exact rfl) | (apply q_assign; exact rfl; exact rfl) | (apply q_eql; iterate 3 exact rfl) | (apply q_neq; iterate 3 exact rfl) | (apply q_ld1p; exact rfl; exact rfl; exact (ty rfl); exact rfl; exact rfl; exact (by first | rfl | assumption | ((try simp only [Nat.zero_add]); refine List.getElem?_set_self ?_; (try simp only [List.length_set]); assumption)); exact rfl))
    | (show SQ _ _ _ _ _ _ _ _; (first | (apply q_ldap; exact rfl; exact rfl; exact (ty rfl); exact rfl; exact rfl; exact (by first | rfl | assumption | ((try simp only [Nat.zero_add]); refine List.getElem?_set_self ?_; (try simp only [List.length_set]); assumption)); exact rfl) | (apply q_box; iterate 3 exact rfl) | (apply q_alloc; exact rfl; exact (ty rfl); exact rfl; exact rfl) | (apply q_store; exact rfl; exact rfl; exact (ty rfl); exact rfl; exact (by first | rfl | assumption | ((try simp only [Nat.zero_add]); refine List.getElem?_set_self ?_; (try simp only [List.length_set]); assumption)); iterate 3 exact rfl) | (apply q_buildn; exact rfl; exact (ty rfl); iterate 7 exact rfl) | (apply q_callU; (iterate 3 exact rfl); exact FzL.of rfl; exact hC _)); (try simp only [put, rowsOf, plR, selE, ovr, setH, del, cellsA, splice, isV, spq, if_true, if_false]))
    | (show AW _ _ _ _ _ _ _ _; first | refine aw_region ?_ | (refine aw_seqk ?_; intro K hK) | refine aw_block ?_ | (apply aw_cond_f; exact rfl; exact rfl) | (apply aw_cond_t; exact rfl; exact (by assumption)) | refine aw_ret ?_)
    | refine thn_n ?_
    | (refine hK _ _ _ ?_; clear hK K)
    | refine thn_r ?_
    | refine inb_r ?_)); all_goals (repeat (clear hK K)))
  all_goals refine fin_r ?_
  all_goals exact ⟨⟨_, fun _ => 7, .r3 _ _ _ _ _ _ (.one _ _ _ _ _ _ rfl (.inr ⟨_, _, _, _, _, rfl, rfl, rfl, rfl⟩) (ty rfl) rfl) (.one _ _ _ _ _ _ rfl (.inr ⟨_, _, _, _, _, rfl, rfl, rfl, rfl⟩) (ty rfl) rfl) (.one _ _ _ _ _ _ rfl (.inr ⟨_, _, _, _, _, rfl, rfl, rfl, rfl⟩) (ty rfl) rfl), by simp only [renA, renL], ⟨⟨rfl, rfl, rfl⟩, trivial⟩, rfl⟩, rfl, rfl, rfl⟩
set_option maxHeartbeats 4000000 in
theorem Wide_some_ro (hc : codeV n ls [a, b] = 0) (he : a ≠ b) (k0 : Nat) (hk0 : k0 < ls.length) (hno : ∀ k, k < k0 → fh (farR n (wdL ls (wkW ls k)) b) a = false) (hyes : fh (farR n (wdL ls (wkW ls k0)) b) a = true) (k : Nat) : RO Try.prog 29 [.agg (bkL n ls), .v (.int .i64 a), .v (.int .i64 b)] k (.tup [.sl k 0 (rtN n (wdL ls (wkW ls k0)) a b), .v (.int .i64 (wkW ls k0)), .v (.int .i64 0)]) [(k, ⟨2, 1, true, (rtL n (wdL ls (wkW ls k0)) a b).map inL⟩)] (k + 1) := by
  have hC := code2_ro n ls a b hn
  obtain ⟨hN, hL, ha, hb, _⟩ := codeV_ok hc
  rw [hc] at hC
  have b1 : ((0 : Int) != 0) = false := by simp
  have b2 : (a == b) = false := by simpa using he
  unfold bkL at hC ⊢
  refine RO.ofm1 (.tup [.sl 0 0 (rtN n (wdL ls (wkW ls k0)) a b), .v (.int .i64 (wkW ls k0)), .v (.int .i64 0)]) [(0, ⟨2, 1, true, (rtL n (wdL ls (wkW ls k0)) a b).map inL⟩)] 1 Try.func29 Try.ntmps29 rfl (goFn_of Try.func29 rfl (by kernel_rfl)) rfl (by simp [renA, renL]) (by simp [shH, renB]) rfl ?_
  refine aw1_pre (qend_ret' Try.ntmps29 rfl rfl) fun K hK => ?_
  ((repeat' (first
    | (show SQ _ _ _ _ _ _ _ _; first | apply sq_nil)
    | (show SQ _ _ _ _ _ _ _ _; (first | (apply q_box; iterate 3 exact rfl) | (apply q_alloc; exact rfl; exact (ty rfl); exact rfl; exact rfl)); (try simp only [put, rowsOf, plR, selE, ovr, setH, del, cellsA, splice, isV, spq, if_true, if_false]))
    | (show AW _ _ _ _ _ _ _ _; first | refine aw_region ?_)
    | refine thn_n ?_
    | (refine hK _ _ _ ?_; clear hK K))); all_goals (repeat (clear hK K)))
  refine aw1_pre (qend_ret' Try.ntmps29 rfl rfl) fun K hK => ?_
  ((repeat' (first
    | (show SQ _ _ _ _ _ _ _ _; first | apply sq_nil | (apply q_move; exact rfl; exact rfl) | (apply q_assign; exact rfl; exact rfl) | (apply q_eql; iterate 3 exact rfl) | (apply q_neq; iterate 3 exact rfl) | (apply q_ld1p; exact rfl; exact rfl; exact (ty rfl); exact rfl; exact rfl; exact (by first | rfl | assumption | ((try simp only [Nat.zero_add]); refine List.getElem?_set_self ?_; (try simp only [List.length_set]); assumption)); exact rfl))
    | (show SQ _ _ _ _ _ _ _ _; (first | (apply q_ldap; exact rfl; exact rfl; exact (ty rfl); exact rfl; exact rfl; exact (by first | rfl | assumption | ((try simp only [Nat.zero_add]); refine List.getElem?_set_self ?_; (try simp only [List.length_set]); assumption)); exact rfl) | (apply q_buildn; exact rfl; exact (ty rfl); iterate 7 exact rfl) | (apply q_callU; (iterate 3 exact rfl); exact FzL.of rfl; exact hC _)); (try simp only [put, rowsOf, plR, selE, ovr, setH, del, cellsA, splice, isV, spq, if_true, if_false]))
    | (show AW _ _ _ _ _ _ _ _; first | refine aw_region ?_ | (refine aw_seqk ?_; intro K hK) | refine aw_block ?_ | (apply aw_cond_f; exact rfl; exact rfl) | (apply aw_cond_f; exact rfl; exact (by assumption)) | refine aw_skip ?_)
    | refine thn_n ?_
    | (refine hK _ _ _ ?_; clear hK K))); all_goals (repeat (clear hK K)))
  refine aw1_pre (qend_ret' Try.ntmps29 rfl rfl) fun K hK => ?_
  ((repeat' (first
    | (show SQ _ _ _ _ _ _ _ _; first | apply sq_nil | (apply q_assign; exact rfl; exact rfl))
    | (show AW _ _ _ _ _ _ _ _; first | refine aw_region ?_)
    | refine thn_n ?_
    | (refine hK _ _ _ ?_; clear hK K))); all_goals (repeat (clear hK K)))
  refine aw1_pre (qend_ret' Try.ntmps29 rfl rfl) fun K hK => ?_
  ((repeat' (first
    | (show SQ _ _ _ _ _ _ _ _; first | apply sq_nil | (apply q_move; exact rfl; exact rfl) | (apply q_fieldAddr; exact rfl; exact rfl; exact (ty rfl); iterate 4 exact rfl) | (apply q_lend; exact rfl; exact rfl; exact (ty rfl); exact rfl) | (apply q_ld1p; exact rfl; exact rfl; exact (ty rfl); exact rfl; exact rfl; exact (by first | rfl | assumption | ((try simp only [Nat.zero_add]); refine List.getElem?_set_self ?_; (try simp only [List.length_set]); assumption)); exact rfl))
    | (show AW _ _ _ _ _ _ _ _; first | refine aw_region ?_ | (refine aw_seqk ?_; intro K hK) | refine aw_block ?_)
    | refine thn_n ?_
    | (refine hK _ _ _ ?_; clear hK K))); all_goals (repeat (clear hK K)))
  refine aw_nil 2 1 (t := 10) rfl ?_
  refine aw_loop (ρ := mv 6 7) (ι := Nat) (fun i => ([(37, .v (.int .i64 i)), (36, .v (.int .i64 ls.length)), (35, .dsl 4 (ls.map lnL)), (10, .sl 6 0 ((capL ls).take i).length), (8, .ptr 5 0 0), (7, .ptr 4 0 0), (6, .ptr 3 0 0), (5, .ptr 2 0 0), (4, .ptr 1 0 0), (3, .ptr 0 0 0)],
      [(0, ⟨31, 2, false, [[.v (.int .i64 n), .dsl 4 (ls.map lnL)]]⟩), (1, ⟨2, 1, false, [[.v (.int .i64 a)]]⟩), (2, ⟨2, 1, false, [[.v (.int .i64 b)]]⟩), (3, ⟨26, 1, false, [[.v (.slice none 0 0)]]⟩), (4, ⟨2, 1, false, [[.v (.int .i64 0)]]⟩), (5, ⟨2, 1, false, [[.v (.int .i64 0)]]⟩), (6, ⟨2, 1, true, ((capL ls).take i).map inL⟩)], 7))
    (fun i => i ≤ ls.length) (fun i => ls.length - i) 0 (Nat.zero_le _) ⟨by (repeat (refine ⟨by first | exact lk_i rfl rfl | exact lk_i rfl (by (try dsimp only); first | rfl | omega | (rw [IntWalk.i64_in _ (by omega)]; first | rfl | omega | (push_cast; omega)) | (simp; done) | (simp; omega)) | exact lk_d rfl rfl | exact lk_r rfl rfl rfl | exact lk_s rfl rfl rfl rfl, ?_⟩)); exact trivial, by (repeat (refine ⟨by first | exact ⟨rfl, rfl, rfl⟩, ?_⟩)); exact trivial, by rfl, by exact pin_0⟩ ?_
  intro i hi
  (try dsimp only)
  have hml : (((capL ls).take i).map inL).length = ((capL ls).take i).length := List.length_map _
  have hcl := capL_len ls
  have htl : ((capL ls).take i).length = i := by rw [List.length_take]; omega
  by_cases c2 : i < ls.length
  · have b3 : decide ((i : Int) < (ls.length : Int)) = true := by simpa using c2
    have hrow : (ls.map lnL)[((i : Int)).toNat]? = some (lnL ls[i]) := by simp [c2]
    rw [lnL_eq] at hrow
    have hw1 : IntKind.i64.wrap ((i : Int) + 1) = ((i + 1 : Nat) : Int) := by rw [IntWalk.i64_in _ (by omega)]; omega
    have e1 := capL_take c2
    ((repeat' (first
    | (show SQ _ _ _ _ _ _ _ _; first | apply sq_nil | (apply q_move; exact rfl; exact rfl) | (apply q_assign; exact rfl; exact rfl) | (apply q_fieldAddr; exact rfl; exact rfl; exact (ty rfl); iterate 4 exact rfl) | (apply q_add; iterate 3 exact rfl) | (apply q_lss; iterate 3 exact rfl) | (apply q_ixd; (iterate 3 exact rfl); exact (ty rfl); exact rfl; exact (by first | omega | (simp; done) | (simp; omega)); exact (by first | omega | (simp; done) | (simp; omega)); exact (by first | rfl | assumption)) | (apply q_ld1p; exact rfl; exact rfl; exact (ty rfl); exact rfl; exact rfl; exact (by first | rfl | assumption | ((try simp only [Nat.zero_add]); refine List.getElem?_set_self ?_; (try simp only [List.length_set]); assumption)); exact rfl))
    | (show SQ _ _ _ _ _ _ _ _; (first | (apply q_ldad; exact rfl; exact rfl; exact (ty rfl); exact rfl; exact rfl) | (apply q_alloc; exact rfl; exact (ty rfl); exact rfl; exact rfl) | (apply q_store; exact rfl; exact rfl; exact (ty rfl); exact rfl; exact (by first | rfl | assumption | ((try simp only [Nat.zero_add]); refine List.getElem?_set_self ?_; (try simp only [List.length_set]); assumption)); iterate 3 exact rfl) | (apply q_buildn; exact rfl; exact (ty rfl); iterate 7 exact rfl) | (apply q_apo_s; (iterate 3 exact rfl); exact (ty rfl); exact rfl; exact rfl; exact (by first | omega | (simp; done) | (simp; omega)); exact (by first | exact List.take_of_length_le (by first | omega | (simp; done) | (simp; omega)) | rfl); exact (ty rfl); exact rfl; exact rfl; exact (by first | omega | (simp; done) | (simp; omega)); exact (by first | exact dt_full (by first | omega | (simp; done) | (simp; omega)) | assumption | rfl); exact rfl; exact (by first | omega | (simp; done) | (simp; omega)); exact (by first | omega | (simp; done) | (simp; omega)); exact (by first | assumption | exact rfl))); (try simp only [put, rowsOf, plR, selE, ovr, setH, del, cellsA, splice, isV, spq, if_true, if_false]))
    | (show AW _ _ _ _ _ _ _ _; first | refine aw_region ?_ | (refine aw_seqk ?_; intro K hK) | refine aw_block ?_ | (apply aw_cond_t; exact rfl; exact (by assumption)) | refine aw_skip ?_)
    | refine thn_n ?_
    | (refine hK _ _ _ ?_; clear hK K))); all_goals (repeat (clear hK K)))
    all_goals (refine ⟨i + 1, mv 6 9, c2, by omega, ?_⟩; (try dsimp only); rw [e1, List.map_append, List.length_append, ← hw1]; exact ⟨by (repeat (refine ⟨by first | exact lk_i rfl rfl | exact lk_d rfl rfl | exact lk_r rfl rfl rfl | exact lk_s rfl rfl rfl rfl, ?_⟩)); exact trivial, by (repeat (refine ⟨by first | exact ⟨rfl, rfl, rfl⟩, ?_⟩)); exact trivial, by rfl, by exact pin_0⟩)
  · have b3 : decide ((i : Int) < (ls.length : Int)) = false := by simpa using c2
    obtain rfl : i = ls.length := by omega
    have e3 : (capL ls).take ls.length = capL ls := List.take_of_length_le (by omega)
    rw [e3]
    ((repeat' (first
    | (show SQ _ _ _ _ _ _ _ _; first | apply sq_nil | (apply q_lss; iterate 3 exact rfl))
    | (show AW _ _ _ _ _ _ _ _; first | refine aw_region ?_ | (refine aw_seqk ?_; intro K hK) | (apply aw_cond_f; exact rfl; exact (by assumption)) | refine aw_exit ?_)
    | refine thn_n ?_
    | (refine hK _ _ _ ?_; clear hK K)
    | refine thn_e ?_
    | refine inb_same ?_
    | (clear hK K; refine hK _ _ _ ?_; clear hK K))); all_goals (repeat (clear hK K)))
    have hS := fun k => So.Sort_rc 6 (capL ls) (by omega) k
    rw [hcl] at hS
    rw [hcl]
    have hSl : (So.srt (capL ls)).length = ls.length := by rw [So.srt_len, hcl]
    refine aw1_pre (qend_ret' Try.ntmps29 rfl rfl) fun K hK => ?_
    ((repeat' (first
    | (show SQ _ _ _ _ _ _ _ _; first | apply sq_nil | (apply q_move; exact rfl; exact rfl))
    | (show SQ _ _ _ _ _ _ _ _; (first | (apply q_callC; (iterate 3 exact rfl); exact hS _; (focus ((repeat (first | exact trivial | refine ⟨by first | exact rfl | assumption, ?_⟩)); done)); skip)); (try simp only [put, rowsOf, plR, selE, ovr, setH, del, cellsA, splice, isV, spq, if_true, if_false]))
    | (show AW _ _ _ _ _ _ _ _; first | refine aw_region ?_)
    | refine thn_n ?_
    | (refine hK _ _ _ ?_; clear hK K))); all_goals (repeat (clear hK K)))
    refine aw1_seq (aw1_pre (retOk_then (qend_ret' Try.ntmps29 rfl rfl)) fun K hK => ?_)
    have hBk := Backward_rc 6 ((So.srt (capL ls)).map inL) ls.length
    ((repeat' (first
    | (show SQ _ _ _ _ _ _ _ _; first | apply sq_nil | (apply q_move; exact rfl; exact rfl))
    | (show SQ _ _ _ _ _ _ _ _; (first | (apply q_callC; (iterate 3 exact rfl); exact hBk _; (focus ((repeat (first | exact trivial | refine ⟨by first | exact rfl | assumption, ?_⟩)); done)); skip)); (try simp only [put, rowsOf, plR, selE, ovr, setH, del, cellsA, splice, isV, spq, if_true, if_false]))
    | (show AW _ _ _ _ _ _ _ _; first | refine aw_region ?_)
    | refine thn_n ?_
    | (refine hK _ _ _ ?_; clear hK K))); all_goals (repeat (clear hK K)))
    refine aw1_weak (T' := (50, .fn 109 [.ptr 7 0 0]) :: bwT) (H' := bwH n ls a b) (n' := 8) (ρ := id) ?_ ?_
    · unfold bwT bwH; exact ⟨by (repeat (refine ⟨by first | exact lk_r rfl rfl rfl | exact lk_f rfl, ?_⟩)); exact trivial, by (repeat (refine ⟨by first | exact ⟨rfl, rfl, rfl⟩, ?_⟩)); exact trivial, by rfl, by exact pin_0⟩
    refine aw1_back (gg := 8) (len := ls.length) (T0 := bwT) (bx := 7) (sid := 6) (rows := (So.srt (capL ls)).map inL) (fun j => (So.srt (capL ls)).getD j 0) (fun _ => (bwH n ls a b, 8)) k0 Try.ntmps29 rfl rfl rfl (goFn_of Try.func109 rfl (by kernel_rfl)) Bw.back_it ⟨rfl, rfl⟩ ?_ rfl (fun _ _ => Nat.le_refl _) (by omega) (by omega) (fun _ _ => rfl) (fun _ _ => ⟨rfl, rfl⟩) (by rw [List.length_map, hSl]) ?_ (by decide) (by decide) ?_ rfl ?_
    · intro t v h
      rw [look_cons]
      split
      · rename_i e; subst e; simp [bwT, look_cons, look_nil] at h
      · exact h
    · intro j hj
      simp [inL, List.getD, hSl, hj]
    · intro i hi him
      by_cases hik : i < k0
      · have hRw := hno i hik
        unfold wkW at hRw
        generalize (So.srt (capL ls)).getD (ls.length - 1 - i) 0 = w at *
        have hwl := wdI_len ls w ls.length
        have hR := route_nil_ro n (wdL ls w) a b hN (by unfold wdL; omega) (wdL_ok hL) ha hb hRw
        unfold bwT bwH
        unfold bkL at hR
        ((repeat' (first
    | (show SQ _ _ _ _ _ _ _ _; first | apply sq_nil | (apply q_move; exact rfl; exact rfl) | (apply q_assign; exact rfl; exact rfl) | (apply q_fieldAddr; exact rfl; exact rfl; exact (ty rfl); iterate 4 exact rfl) | (apply q_lend; exact rfl; exact rfl; exact (ty rfl); exact rfl) | (apply q_ld1p; exact rfl; exact rfl; exact (ty rfl); exact rfl; exact rfl; exact (by first | rfl | assumption | ((try simp only [Nat.zero_add]); refine List.getElem?_set_self ?_; (try simp only [List.length_set]); assumption)); exact rfl) | (apply q_build; exact rfl; exact (ty rfl); iterate 3 exact rfl))
    | (show SQ _ _ _ _ _ _ _ _; (first | (apply q_alloc; exact rfl; exact (ty rfl); exact rfl; exact rfl) | (apply q_store; exact rfl; exact rfl; exact (ty rfl); exact rfl; exact (by first | rfl | assumption | ((try simp only [Nat.zero_add]); refine List.getElem?_set_self ?_; (try simp only [List.length_set]); assumption)); iterate 3 exact rfl)); (try simp only [put, rowsOf, plR, selE, ovr, setH, del, cellsA, splice, isV, spq, if_true, if_false]))
    | (show AW _ _ _ _ _ _ _ _; first | refine aw_region ?_ | (refine aw_seqk ?_; intro K hK) | refine aw_block ?_)
    | refine thn_n ?_
    | (refine hK _ _ _ ?_; clear hK K))); all_goals (repeat (clear hK K)))
        show AW _ _ 8 _ _ _ _ _
        (all_goals (repeat (clear hK K)))
        refine aw_nilB 8 0 1 56 4 rfl rfl rfl rfl rfl ?_
        refine aw_loop (ρ := id) (ι := Nat) (fun j => ([(59, .v (.int .i64 j)), (58, .v (.int .i64 ls.length)), (57, .dsl 4 (ls.map lnL)), (15, .ptr 8 0 0), (14, .v (.int .i64 w)), (8, .ptr 5 0 0), (7, .ptr 4 0 0), (6, .ptr 3 0 0), (5, .ptr 2 0 0), (4, .ptr 1 0 0), (3, .ptr 0 0 0)],
            [(0, ⟨31, 2, false, [[.v (.int .i64 n), .dsl 4 (ls.map lnL)]]⟩), (1, ⟨2, 1, false, [[.v (.int .i64 a)]]⟩), (2, ⟨2, 1, false, [[.v (.int .i64 b)]]⟩), (3, ⟨26, 1, false, [[.v (.slice none 0 0)]]⟩), (4, ⟨2, 1, false, [[.v (.int .i64 0)]]⟩), (5, ⟨2, 1, false, [[.v (.int .i64 0)]]⟩), (6, ⟨2, 1, true, (So.srt (capL ls)).map inL⟩), (7, ⟨26, 1, false, [[.sl 6 0 ls.length]]⟩),
             (8, ⟨31, 2, false, [[.v (.int .i64 n), .sl 9 0 (wdI ls w j).length]]⟩), (9, ⟨56, 4, true, (wdI ls w j).map lnL⟩)], 10))
          (fun j => j ≤ ls.length) (fun j => ls.length - j) 0 (Nat.zero_le _) ⟨by (repeat (refine ⟨by first | exact lk_i rfl rfl | exact lk_i rfl (by (try dsimp only); first | rfl | omega | (rw [IntWalk.i64_in _ (by omega)]; first | rfl | omega | (push_cast; omega)) | (simp; done) | (simp; omega)) | exact lk_d rfl rfl | exact lk_r rfl rfl rfl, ?_⟩)); exact trivial, by (repeat (refine ⟨by first | exact ⟨rfl, rfl, rfl⟩, ?_⟩)); exact trivial, by rfl, by (intro i hi; (try dsimp only); refine ⟨?_, ?_⟩ <;> first | rfl | omega | (simp at hi; omega) | (simp; omega))⟩ ?_
        intro j hj
        (try dsimp only)
        have hml : ((wdI ls w j).map lnL).length = (wdI ls w j).length := List.length_map _
        have hwj := wdI_len ls w j
        by_cases c2 : j < ls.length
        · have b3 : decide ((j : Int) < (ls.length : Int)) = true := by simpa using c2
          have hrow : (ls.map lnL)[((j : Int)).toNat]? = some (lnL ls[j]) := by simp [c2]
          rw [lnL_eq] at hrow
          have hw1 : IntKind.i64.wrap ((j : Int) + 1) = ((j + 1 : Nat) : Int) := by rw [IntWalk.i64_in _ (by omega)]; omega
          by_cases c3 : w ≤ ls[j].c
          · have b4 : decide (w ≤ ls[j].c) = true := by simpa using c3
            have e1 := wdI_yes c2 c3
            ((repeat' (first
    | (show SQ _ _ _ _ _ _ _ _; first | apply sq_nil | (apply q_move; exact rfl; exact rfl) | (apply q_fieldAddr; exact rfl; exact rfl; exact (ty rfl); iterate 4 exact rfl) | (apply q_add; iterate 3 exact rfl) | (apply q_lss; iterate 3 exact rfl) | (apply q_geq; iterate 3 exact rfl) | (apply q_ixd; (iterate 3 exact rfl); exact (ty rfl); exact rfl; exact (by first | omega | (simp; done) | (simp; omega)); exact (by first | omega | (simp; done) | (simp; omega)); exact (by first | rfl | assumption)) | (apply q_ld1p; exact rfl; exact rfl; exact (ty rfl); exact rfl; exact rfl; exact (by first | rfl | assumption | ((try simp only [Nat.zero_add]); refine List.getElem?_set_self ?_; (try simp only [List.length_set]); assumption)); exact rfl) | (apply q_build; exact rfl; exact (ty rfl); iterate 3 exact rfl))
    | (show SQ _ _ _ _ _ _ _ _; (first | (apply q_ldad; exact rfl; exact rfl; exact (ty rfl); exact rfl; exact rfl) | (apply q_alloc; exact rfl; exact (ty rfl); exact rfl; exact rfl) | (apply q_store; exact rfl; exact rfl; exact (ty rfl); exact rfl; exact (by first | rfl | assumption | ((try simp only [Nat.zero_add]); refine List.getElem?_set_self ?_; (try simp only [List.length_set]); assumption)); iterate 3 exact rfl) | (apply q_buildn; exact rfl; exact (ty rfl); iterate 7 exact rfl) | (apply q_apo_s; (iterate 3 exact rfl); exact (ty rfl); exact rfl; exact rfl; exact (by first | omega | (simp; done) | (simp; omega)); exact (by first | exact List.take_of_length_le (by first | omega | (simp; done) | (simp; omega)) | rfl); exact (ty rfl); exact rfl; exact rfl; exact (by first | omega | (simp; done) | (simp; omega)); exact (by first | exact dt_full (by first | omega | (simp; done) | (simp; omega)) | assumption | rfl); exact rfl; exact (by first | omega | (simp; done) | (simp; omega)); exact (by first | omega | (simp; done) | (simp; omega)); exact (by first | assumption | exact rfl))); (try simp only [put, rowsOf, plR, selE, ovr, setH, del, cellsA, splice, isV, spq, if_true, if_false]))
    | (show AW _ _ _ _ _ _ _ _; first | refine aw_region ?_ | (refine aw_seqk ?_; intro K hK) | refine aw_block ?_ | (apply aw_cond_t; exact rfl; exact (by assumption)) | refine aw_skip ?_)
    | refine thn_n ?_
    | (refine hK _ _ _ ?_; clear hK K))); all_goals (repeat (clear hK K)))
            all_goals (refine ⟨j + 1, mv 9 12, c2, by omega, ?_⟩; (try dsimp only); rw [e1, List.map_append, List.length_append, ← hw1]; exact ⟨by (repeat (refine ⟨by first | exact lk_i rfl rfl | exact lk_d rfl rfl | exact lk_r rfl rfl rfl, ?_⟩)); exact trivial, by (repeat (refine ⟨by first | exact ⟨rfl, rfl, rfl⟩, ?_⟩)); exact trivial, by rfl, by (intro i hi; (try dsimp only); refine ⟨?_, ?_⟩ <;> first | rfl | omega | (simp [mv]; omega))⟩)
          · have b4 : decide (w ≤ ls[j].c) = false := by simpa using c3
            have e1 := wdI_no c2 c3
            ((repeat' (first
    | (show SQ _ _ _ _ _ _ _ _; first | apply sq_nil | (apply q_move; exact rfl; exact rfl) | (apply q_fieldAddr; exact rfl; exact rfl; exact (ty rfl); iterate 4 exact rfl) | (apply q_add; iterate 3 exact rfl) | (apply q_lss; iterate 3 exact rfl) | (apply q_geq; iterate 3 exact rfl) | (apply q_ixd; (iterate 3 exact rfl); exact (ty rfl); exact rfl; exact (by first | omega | (simp; done) | (simp; omega)); exact (by first | omega | (simp; done) | (simp; omega)); exact (by first | rfl | assumption)) | (apply q_ld1p; exact rfl; exact rfl; exact (ty rfl); exact rfl; exact rfl; exact (by first | rfl | assumption | ((try simp only [Nat.zero_add]); refine List.getElem?_set_self ?_; (try simp only [List.length_set]); assumption)); exact rfl))
    | (show SQ _ _ _ _ _ _ _ _; (first | (apply q_ldad; exact rfl; exact rfl; exact (ty rfl); exact rfl; exact rfl) | (apply q_alloc; exact rfl; exact (ty rfl); exact rfl; exact rfl) | (apply q_store; exact rfl; exact rfl; exact (ty rfl); exact rfl; exact (by first | rfl | assumption | ((try simp only [Nat.zero_add]); refine List.getElem?_set_self ?_; (try simp only [List.length_set]); assumption)); iterate 3 exact rfl)); (try simp only [put, rowsOf, plR, selE, ovr, setH, del, cellsA, splice, isV, spq, if_true, if_false]))
    | (show AW _ _ _ _ _ _ _ _; first | refine aw_region ?_ | (refine aw_seqk ?_; intro K hK) | refine aw_block ?_ | (apply aw_cond_t; exact rfl; exact (by assumption)) | (apply aw_cond_f; exact rfl; exact (by assumption)) | refine aw_skip ?_)
    | refine thn_n ?_
    | (refine hK _ _ _ ?_; clear hK K))); all_goals (repeat (clear hK K)))
            all_goals (refine ⟨j + 1, id, c2, by omega, ?_⟩; (try dsimp only); rw [e1, ← hw1]; exact ⟨by (repeat (refine ⟨by first | exact lk_i rfl rfl | exact lk_d rfl rfl | exact lk_r rfl rfl rfl, ?_⟩)); exact trivial, by (repeat (refine ⟨by first | exact ⟨rfl, rfl, rfl⟩, ?_⟩)); exact trivial, by rfl, by (intro i hi; (try dsimp only); refine ⟨?_, ?_⟩ <;> first | rfl | omega | (simp at hi; omega) | (simp; omega))⟩)
        · have b3 : decide ((j : Int) < (ls.length : Int)) = false := by simpa using c2
          obtain rfl : j = ls.length := by omega
          have e4 : wdI ls w ls.length = wdL ls w := rfl
          rw [e4] at hml hwj ⊢
          ((repeat' (first
    | (show SQ _ _ _ _ _ _ _ _; first | apply sq_nil | (apply q_move; exact rfl; exact rfl) | (apply q_assign; exact rfl; exact rfl) | (apply q_lss; iterate 3 exact rfl) | (apply q_ld1p; exact rfl; exact rfl; exact (ty rfl); exact rfl; exact rfl; exact (by first | rfl | assumption | ((try simp only [Nat.zero_add]); refine List.getElem?_set_self ?_; (try simp only [List.length_set]); assumption)); exact rfl) | (apply q_nil_nv; (iterate 3 exact rfl); exact (ty rfl); exact rfl))
    | (show SQ _ _ _ _ _ _ _ _; (first | (apply q_ldap; exact rfl; exact rfl; exact (ty rfl); exact rfl; exact rfl; exact (by first | rfl | assumption | ((try simp only [Nat.zero_add]); refine List.getElem?_set_self ?_; (try simp only [List.length_set]); assumption)); exact rfl) | (apply q_callU; (iterate 3 exact rfl); rotate_left; exact hR _; rotate_right; focus ((repeat' (first | exact FzL.nil | exact (by assumption : FzC _) _ | refine FzL.cons ?_ ?_ | exact Fz.of rfl | exact Fz.nil | exact Fz.emp | (apply Fz.fnC; assumption) | (apply Fz.sl2; exact rfl; exact (by first | omega | (simp; done) | (simp; omega)); first | exact rfl | exact dt_full (by first | omega | (simp; done) | (simp; omega)) | assumption) | apply Fz.agg | (apply Fz.ptrL; exact rfl; first | exact rfl | assumption) | apply Fz.fnL)); done))); (try simp only [put, rowsOf, plR, selE, ovr, setH, del, cellsA, splice, isV, spq, if_true, if_false]))
    | (show AW _ _ _ _ _ _ _ _; first | refine aw_region ?_ | (refine aw_seqk ?_; intro K hK) | (apply aw_cond_f; exact rfl; exact rfl) | (apply aw_cond_f; exact rfl; exact (by assumption)) | refine aw_exit ?_ | refine aw_skip ?_)
    | refine thn_n ?_
    | (refine hK _ _ _ ?_; clear hK K)
    | refine thn_e ?_
    | refine inb_same ?_
    | refine inb_n ?_
    | (clear hK K; refine hK _ _ _ ?_; clear hK K))); all_goals (repeat (clear hK K)))
          all_goals (refine ⟨by omega, id, ?_⟩; (try dsimp only); exact ⟨by exact trivial, by (repeat (refine ⟨by first | exact ⟨rfl, rfl, rfl⟩, ?_⟩)); exact trivial, by rfl, by (intro i hi; (try dsimp only); refine ⟨?_, ?_⟩ <;> first | rfl | omega | (simp at hi; omega) | (simp; omega))⟩)
      · obtain rfl : i = k0 := by omega
        have hRw := hyes
        unfold wkW at hRw ⊢
        generalize (So.srt (capL ls)).getD (ls.length - 1 - i) 0 = w at *
        have hwl := wdI_len ls w ls.length
        have hR : ∀ k, RO Try.prog 50 [.agg (bkL n (wdL ls w)), .v (.int .i64 a), .v (.int .i64 b)] k (.sl k 0 (rtN n (wdL ls w) a b)) [(k, ⟨2, 1, true, (rtL n (wdL ls w) a b).map inL⟩)] (k + 1) := route_some_ro n (wdL ls w) a b hN (by unfold wdL; omega) (wdL_ok hL) ha hb hRw
        have h0 : 0 < rtN n (wdL ls w) a b := Nat.succ_pos _
        unfold bwT bwH
        unfold bkL at hR
        ((repeat' (first
    | (show SQ _ _ _ _ _ _ _ _; first | apply sq_nil | (apply q_move; exact rfl; exact rfl) | (apply q_assign; exact rfl; exact rfl) | (apply q_fieldAddr; exact rfl; exact rfl; exact (ty rfl); iterate 4 exact rfl) | (apply q_lend; exact rfl; exact rfl; exact (ty rfl); exact rfl) | (apply q_ld1p; exact rfl; exact rfl; exact (ty rfl); exact rfl; exact rfl; exact (by first | rfl | assumption | ((try simp only [Nat.zero_add]); refine List.getElem?_set_self ?_; (try simp only [List.length_set]); assumption)); exact rfl) | (apply q_build; exact rfl; exact (ty rfl); iterate 3 exact rfl))
    | (show SQ _ _ _ _ _ _ _ _; (first | (apply q_alloc; exact rfl; exact (ty rfl); exact rfl; exact rfl) | (apply q_store; exact rfl; exact rfl; exact (ty rfl); exact rfl; exact (by first | rfl | assumption | ((try simp only [Nat.zero_add]); refine List.getElem?_set_self ?_; (try simp only [List.length_set]); assumption)); iterate 3 exact rfl)); (try simp only [put, rowsOf, plR, selE, ovr, setH, del, cellsA, splice, isV, spq, if_true, if_false]))
    | (show AW _ _ _ _ _ _ _ _; first | refine aw_region ?_ | (refine aw_seqk ?_; intro K hK) | refine aw_block ?_)
    | refine thn_n ?_
    | (refine hK _ _ _ ?_; clear hK K))); all_goals (repeat (clear hK K)))
        show AW _ _ 8 _ _ _ _ _
        (all_goals (repeat (clear hK K)))
        refine aw_nilB 8 0 1 56 4 rfl rfl rfl rfl rfl ?_
        refine aw_loop (ρ := id) (ι := Nat) (fun j => ([(59, .v (.int .i64 j)), (58, .v (.int .i64 ls.length)), (57, .dsl 4 (ls.map lnL)), (15, .ptr 8 0 0), (14, .v (.int .i64 w)), (8, .ptr 5 0 0), (7, .ptr 4 0 0), (6, .ptr 3 0 0), (5, .ptr 2 0 0), (4, .ptr 1 0 0), (3, .ptr 0 0 0)],
            [(0, ⟨31, 2, false, [[.v (.int .i64 n), .dsl 4 (ls.map lnL)]]⟩), (1, ⟨2, 1, false, [[.v (.int .i64 a)]]⟩), (2, ⟨2, 1, false, [[.v (.int .i64 b)]]⟩), (3, ⟨26, 1, false, [[.v (.slice none 0 0)]]⟩), (4, ⟨2, 1, false, [[.v (.int .i64 0)]]⟩), (5, ⟨2, 1, false, [[.v (.int .i64 0)]]⟩), (6, ⟨2, 1, true, (So.srt (capL ls)).map inL⟩), (7, ⟨26, 1, false, [[.sl 6 0 ls.length]]⟩),
             (8, ⟨31, 2, false, [[.v (.int .i64 n), .sl 9 0 (wdI ls w j).length]]⟩), (9, ⟨56, 4, true, (wdI ls w j).map lnL⟩)], 10))
          (fun j => j ≤ ls.length) (fun j => ls.length - j) 0 (Nat.zero_le _) ⟨by (repeat (refine ⟨by first | exact lk_i rfl rfl | exact lk_i rfl (by (try dsimp only); first | rfl | omega | (rw [IntWalk.i64_in _ (by omega)]; first | rfl | omega | (push_cast; omega)) | (simp; done) | (simp; omega)) | exact lk_d rfl rfl | exact lk_r rfl rfl rfl, ?_⟩)); exact trivial, by (repeat (refine ⟨by first | exact ⟨rfl, rfl, rfl⟩, ?_⟩)); exact trivial, by rfl, by (intro i hi; (try dsimp only); refine ⟨?_, ?_⟩ <;> first | rfl | omega | (simp at hi; omega) | (simp; omega))⟩ ?_
        intro j hj
        (try dsimp only)
        have hml : ((wdI ls w j).map lnL).length = (wdI ls w j).length := List.length_map _
        have hwj := wdI_len ls w j
        by_cases c2 : j < ls.length
        · have b3 : decide ((j : Int) < (ls.length : Int)) = true := by simpa using c2
          have hrow : (ls.map lnL)[((j : Int)).toNat]? = some (lnL ls[j]) := by simp [c2]
          rw [lnL_eq] at hrow
          have hw1 : IntKind.i64.wrap ((j : Int) + 1) = ((j + 1 : Nat) : Int) := by rw [IntWalk.i64_in _ (by omega)]; omega
          by_cases c3 : w ≤ ls[j].c
          · have b4 : decide (w ≤ ls[j].c) = true := by simpa using c3
            have e1 := wdI_yes c2 c3
            ((repeat' (first
    | (show SQ _ _ _ _ _ _ _ _; first | apply sq_nil | (apply q_move; exact rfl; exact rfl) | (apply q_fieldAddr; exact rfl; exact rfl; exact (ty rfl); iterate 4 exact rfl) | (apply q_add; iterate 3 exact rfl) | (apply q_lss; iterate 3 exact rfl) | (apply q_geq; iterate 3 exact rfl) | (apply q_ixd; (iterate 3 exact rfl); exact (ty rfl); exact rfl; exact (by first | omega | (simp; done) | (simp; omega)); exact (by first | omega | (simp; done) | (simp; omega)); exact (by first | rfl | assumption)) | (apply q_ld1p; exact rfl; exact rfl; exact (ty rfl); exact rfl; exact rfl; exact (by first | rfl | assumption | ((try simp only [Nat.zero_add]); refine List.getElem?_set_self ?_; (try simp only [List.length_set]); assumption)); exact rfl) | (apply q_build; exact rfl; exact (ty rfl); iterate 3 exact rfl))
    | (show SQ _ _ _ _ _ _ _ _; (first | (apply q_ldad; exact rfl; exact rfl; exact (ty rfl); exact rfl; exact rfl) | (apply q_alloc; exact rfl; exact (ty rfl); exact rfl; exact rfl) | (apply q_store; exact rfl; exact rfl; exact (ty rfl); exact rfl; exact (by first | rfl | assumption | ((try simp only [Nat.zero_add]); refine List.getElem?_set_self ?_; (try simp only [List.length_set]); assumption)); iterate 3 exact rfl) | (apply q_buildn; exact rfl; exact (ty rfl); iterate 7 exact rfl) | (apply q_apo_s; (iterate 3 exact rfl); exact (ty rfl); exact rfl; exact rfl; exact (by first | omega | (simp; done) | (simp; omega)); exact (by first | exact List.take_of_length_le (by first | omega | (simp; done) | (simp; omega)) | rfl); exact (ty rfl); exact rfl; exact rfl; exact (by first | omega | (simp; done) | (simp; omega)); exact (by first | exact dt_full (by first | omega | (simp; done) | (simp; omega)) | assumption | rfl); exact rfl; exact (by first | omega | (simp; done) | (simp; omega)); exact (by first | omega | (simp; done) | (simp; omega)); exact (by first | assumption | exact rfl))); (try simp only [put, rowsOf, plR, selE, ovr, setH, del, cellsA, splice, isV, spq, if_true, if_false]))
    | (show AW _ _ _ _ _ _ _ _; first | refine aw_region ?_ | (refine aw_seqk ?_; intro K hK) | refine aw_block ?_ | (apply aw_cond_t; exact rfl; exact (by assumption)) | refine aw_skip ?_)
    | refine thn_n ?_
    | (refine hK _ _ _ ?_; clear hK K))); all_goals (repeat (clear hK K)))
            all_goals (refine ⟨j + 1, mv 9 12, c2, by omega, ?_⟩; (try dsimp only); rw [e1, List.map_append, List.length_append, ← hw1]; exact ⟨by (repeat (refine ⟨by first | exact lk_i rfl rfl | exact lk_d rfl rfl | exact lk_r rfl rfl rfl, ?_⟩)); exact trivial, by (repeat (refine ⟨by first | exact ⟨rfl, rfl, rfl⟩, ?_⟩)); exact trivial, by rfl, by (intro i hi; (try dsimp only); refine ⟨?_, ?_⟩ <;> first | rfl | omega | (simp [mv]; omega))⟩)
          · have b4 : decide (w ≤ ls[j].c) = false := by simpa using c3
            have e1 := wdI_no c2 c3
            ((repeat' (first
    | (show SQ _ _ _ _ _ _ _ _; first | apply sq_nil | (apply q_move; exact rfl; exact rfl) | (apply q_fieldAddr; exact rfl; exact rfl; exact (ty rfl); iterate 4 exact rfl) | (apply q_add; iterate 3 exact rfl) | (apply q_lss; iterate 3 exact rfl) | (apply q_geq; iterate 3 exact rfl) | (apply q_ixd; (iterate 3 exact rfl); exact (ty rfl); exact rfl; exact (by first | omega | (simp; done) | (simp; omega)); exact (by first | omega | (simp; done) | (simp; omega)); exact (by first | rfl | assumption)) | (apply q_ld1p; exact rfl; exact rfl; exact (ty rfl); exact rfl; exact rfl; exact (by first | rfl | assumption | ((try simp only [Nat.zero_add]); refine List.getElem?_set_self ?_; (try simp only [List.length_set]); assumption)); exact rfl))
    | (show SQ _ _ _ _ _ _ _ _; (first | (apply q_ldad; exact rfl; exact rfl; exact (ty rfl); exact rfl; exact rfl) | (apply q_alloc; exact rfl; exact (ty rfl); exact rfl; exact rfl) | (apply q_store; exact rfl; exact rfl; exact (ty rfl); exact rfl; exact (by first | rfl | assumption | ((try simp only [Nat.zero_add]); refine List.getElem?_set_self ?_; (try simp only [List.length_set]); assumption)); iterate 3 exact rfl)); (try simp only [put, rowsOf, plR, selE, ovr, setH, del, cellsA, splice, isV, spq, if_true, if_false]))
    | (show AW _ _ _ _ _ _ _ _; first | refine aw_region ?_ | (refine aw_seqk ?_; intro K hK) | refine aw_block ?_ | (apply aw_cond_t; exact rfl; exact (by assumption)) | (apply aw_cond_f; exact rfl; exact (by assumption)) | refine aw_skip ?_)
    | refine thn_n ?_
    | (refine hK _ _ _ ?_; clear hK K))); all_goals (repeat (clear hK K)))
            all_goals (refine ⟨j + 1, id, c2, by omega, ?_⟩; (try dsimp only); rw [e1, ← hw1]; exact ⟨by (repeat (refine ⟨by first | exact lk_i rfl rfl | exact lk_d rfl rfl | exact lk_r rfl rfl rfl, ?_⟩)); exact trivial, by (repeat (refine ⟨by first | exact ⟨rfl, rfl, rfl⟩, ?_⟩)); exact trivial, by rfl, by (intro i hi; (try dsimp only); refine ⟨?_, ?_⟩ <;> first | rfl | omega | (simp at hi; omega) | (simp; omega))⟩)
        · have b3 : decide ((j : Int) < (ls.length : Int)) = false := by simpa using c2
          obtain rfl : j = ls.length := by omega
          have e4 : wdI ls w ls.length = wdL ls w := rfl
          rw [e4] at hml hwj ⊢
          ((repeat' (first
    | (show SQ _ _ _ _ _ _ _ _; first | apply sq_nil | (apply q_move; exact rfl; exact rfl) | (apply q_assign; exact rfl; exact rfl) | (apply q_lss; iterate 3 exact rfl) | (apply q_ld1p; exact rfl; exact rfl; exact (ty rfl); exact rfl; exact rfl; exact (by first | rfl | assumption | ((try simp only [Nat.zero_add]); refine List.getElem?_set_self ?_; (try simp only [List.length_set]); assumption)); exact rfl) | (apply q_nil_nl; (iterate 3 exact rfl); exact (ty rfl); exact rfl; exact (by first | omega | (simp; done) | (simp; omega))))
    | (show SQ _ _ _ _ _ _ _ _; (first | (apply q_ldap; exact rfl; exact rfl; exact (ty rfl); exact rfl; exact rfl; exact (by first | rfl | assumption | ((try simp only [Nat.zero_add]); refine List.getElem?_set_self ?_; (try simp only [List.length_set]); assumption)); exact rfl) | (apply q_store; exact rfl; exact rfl; exact (ty rfl); exact rfl; exact (by first | rfl | assumption | ((try simp only [Nat.zero_add]); refine List.getElem?_set_self ?_; (try simp only [List.length_set]); assumption)); iterate 3 exact rfl) | (apply q_callU; (iterate 3 exact rfl); rotate_left; exact hR _; rotate_right; focus ((repeat' (first | exact FzL.nil | exact (by assumption : FzC _) _ | refine FzL.cons ?_ ?_ | exact Fz.of rfl | exact Fz.nil | exact Fz.emp | (apply Fz.fnC; assumption) | (apply Fz.sl2; exact rfl; exact (by first | omega | (simp; done) | (simp; omega)); first | exact rfl | exact dt_full (by first | omega | (simp; done) | (simp; omega)) | assumption) | apply Fz.agg | (apply Fz.ptrL; exact rfl; first | exact rfl | assumption) | apply Fz.fnL)); done))); (try simp only [put, rowsOf, plR, selE, ovr, setH, del, cellsA, splice, isV, spq, if_true, if_false]))
    | (show AW _ _ _ _ _ _ _ _; first | refine aw_region ?_ | (refine aw_seqk ?_; intro K hK) | (apply aw_cond_t; exact rfl; exact rfl) | (apply aw_cond_f; exact rfl; exact (by assumption)) | refine aw_ret ?_ | refine aw_exit ?_)
    | refine thn_n ?_
    | (refine hK _ _ _ ?_; clear hK K)
    | refine thn_e ?_
    | refine inb_same ?_
    | refine inb_r ?_
    | (clear hK K; refine hK _ _ _ ?_; clear hK K))); all_goals (repeat (clear hK K)))
          all_goals exact ⟨⟨_, fun _ => 10, .r3 _ _ _ _ _ _ (.one _ _ _ _ _ _ rfl (.inr ⟨_, _, _, _, _, rfl, rfl, rfl, rfl⟩) (ty rfl) rfl) (.one _ _ _ _ _ _ rfl (.inr ⟨_, _, _, _, _, rfl, rfl, rfl, rfl⟩) (ty rfl) rfl) (.one _ _ _ _ _ _ rfl (.inr ⟨_, _, _, _, _, rfl, rfl, rfl, rfl⟩) (ty rfl) rfl), by simp only [renA, renL], ⟨⟨rfl, rfl, rfl⟩, trivial⟩, rfl⟩, rfl, rfl, rfl⟩
    · intro h
      omega
end
end Go.Proofs.Ytglfcaioapdiaaa.Bk

namespace Go.Proofs.Ytglfcaioapdiaaa.Bk
open Go Go.RowKit Go.Proofs.Ytglfcaioapdiaaa.Aw
set_option linter.unusedSimpArgs false
set_option linter.unusedVariables false
attribute [local irreducible] AW SQ Step RO RC DE Thn InB
def cnW (n : Int) (ls : List Ln) (a b w : Int) : Bool := fh (farR n (wdL ls w) b) a
theorem srt_mem (xs : List Int) (x : Int) : x ∈ So.srt xs ↔ x ∈ xs := (List.mergeSort_perm xs _).mem_iff
theorem srt_le {xs : List Int} {i j : Nat} (hij : i ≤ j) (hj : j < (So.srt xs).length) : (So.srt xs).getD i 0 ≤ (So.srt xs).getD j 0 := by
  have hs : (So.srt xs).Pairwise fun x y => x ≤ y := by
    have := List.pairwise_mergeSort (le := fun (x y : Int) => decide (x ≤ y)) (fun a b c => by simp; omega) (fun a b => by simp; omega) xs
    exact this.imp fun h => by simpa using h
  have hi : i < (So.srt xs).length := by omega
  rw [List.getD, List.getD, List.getElem?_eq_getElem hi, List.getElem?_eq_getElem hj]
  simp only [Option.getD_some]
  rcases Nat.lt_or_eq_of_le hij with h | rfl
  · exact List.pairwise_iff_getElem.1 hs i j hi hj h
  · exact Int.le_refl _
theorem wk_of {ls : List Ln} {l : Ln} (hl : l ∈ ls) : ∃ k, k < ls.length ∧ wkW ls k = l.c := by
  have hlen : (So.srt (capL ls)).length = ls.length := by rw [So.srt_len, capL_len]
  have : l.c ∈ So.srt (capL ls) := (srt_mem _ _).2 (List.mem_map.2 ⟨l, hl, rfl⟩)
  obtain ⟨i, hi, e⟩ := List.mem_iff_getElem.1 this
  refine ⟨ls.length - 1 - i, by omega, ?_⟩
  unfold wkW
  rw [show ls.length - 1 - (ls.length - 1 - i) = i by omega, List.getD, List.getElem?_eq_getElem hi, ← e]
  rfl
theorem wk_mono {ls : List Ln} {i j : Nat} (hij : i ≤ j) (hj : j < ls.length) : wkW ls j ≤ wkW ls i := by
  have hlen : (So.srt (capL ls)).length = ls.length := by rw [So.srt_len, capL_len]
  unfold wkW
  exact srt_le (by omega) (by omega)
theorem least {p : Nat → Bool} : ∀ {m : Nat}, p m = true → ∃ k, k ≤ m ∧ p k = true ∧ ∀ j, j < k → p j = false
  | 0, h => ⟨0, Nat.le_refl _, h, fun j hj => absurd hj (Nat.not_lt_zero _)⟩
  | m + 1, h => by
    by_cases hq : ∃ j, j ≤ m ∧ p j = true
    · obtain ⟨j, hj, hpj⟩ := hq
      obtain ⟨k, h1, h2, h3⟩ := least hpj
      exact ⟨k, by omega, h2, h3⟩
    · refine ⟨m + 1, Nat.le_refl _, h, fun j hj => ?_⟩
      cases hp : p j
      · rfl
      · exact absurd ⟨j, by omega, hp⟩ hq
section
variable (n : Int) (ls : List Ln) (a b : Int) (hn : ls.length ≤ 1048576)
include hn
end
end Go.Proofs.Ytglfcaioapdiaaa.Bk

namespace Go.Proofs.Ytglfcaioapdiaaa.Bk
open Go
set_option linter.unusedSimpArgs false
set_option linter.unusedVariables false
def Uq (ls : List Ln) : Prop := ∀ (i j : Nat) (hi : i < ls.length) (hj : j < ls.length) (x y : Int), linkP x y ls[i] = true → linkP x y ls[j] = true → i = j
theorem bkB_lex {n : Int} {ls : List Ln} (h : bkB n ls = true) : (∀ (i : Nat) (hi : i < ls.length), ls[i].a < ls[i].b) ∧ ∀ (d i : Nat) (hi : i + d + 1 < ls.length), lexB ls[i] ls[i + d + 1] = true := by
  simp only [bkB, Bool.and_eq_true, decide_eq_true_eq] at h
  have hg : ∀ i, i < ls.length → goodL n ls i = true := fun i hi => List.all_eq_true.1 h.2 i (List.mem_range.2 hi)
  have one : ∀ (i : Nat) (hi : i + 1 < ls.length), lexB ls[i] ls[i + 1] = true := fun i hi => by
    have := hg (i + 1) hi
    simp only [goodL, Bool.and_eq_true, Bool.or_eq_true, decide_eq_true_eq] at this
    have h2 := this.2
    simp only [Nat.add_sub_cancel, List.getD, List.getElem?_eq_getElem hi, List.getElem?_eq_getElem (show i < ls.length by omega), Option.getD_some] at h2
    rcases h2 with h2 | h2
    · omega
    · exact h2
  refine ⟨fun i hi => ?_, fun d => ?_⟩
  · have := hg i hi
    simp only [goodL, sOk, inB, Bool.and_eq_true, decide_eq_true_eq, List.getD, List.getElem?_eq_getElem hi, Option.getD_some] at this
    omega
  · induction d with
    | zero => exact fun i hi => one i hi
    | succ d ih =>
      intro i hi
      have h1 := ih i (by omega)
      have h2 := one (i + d + 1) (by omega)
      have e : i + d + 1 + 1 = i + (d + 1) + 1 := by omega
      simp only [e] at h2
      unfold lexB at *
      simp only [Bool.or_eq_true, Bool.and_eq_true, decide_eq_true_eq] at *
      omega
theorem Uq.of {n : Int} {ls : List Ln} (h : bkB n ls = true) : Uq ls := by
  obtain ⟨h1, h2⟩ := bkB_lex h
  have key : ∀ (i j : Nat) (hi : i < ls.length) (hj : j < ls.length) (x y : Int), i < j → linkP x y ls[i] = true → linkP x y ls[j] = true → False := by
    intro i j hi hj x y hij g1 g2
    have a1 := h1 i hi
    have a2 := h1 j hj
    have l := h2 (j - i - 1) i (by omega)
    have e : i + (j - i - 1) + 1 = j := by omega
    simp only [e] at l
    rw [linkP_iff] at g1 g2
    unfold lexB at l
    simp only [Bool.or_eq_true, Bool.and_eq_true, decide_eq_true_eq] at l
    omega
  intro i j hi hj x y g1 g2
  rcases Nat.lt_trichotomy i j with h | h | h
  · exact (key i j hi hj x y h g1 g2).elim
  · exact h
  · exact (key j i hj hi x y h g2 g1).elim
theorem ixG_uq {ls : List Ln} (hu : Uq ls) {i : Nat} (hi : i < ls.length) {x y : Int} (h : linkP x y ls[i] = true) : ixG (linkP x y) ls = i :=
  ixG_hit hi (fun z hz => by
    cases hc : linkP x y z with
    | false => rfl
    | true =>
      obtain ⟨j, hj, rfl⟩ := List.getElem_of_mem hz
      simp only [List.length_take] at hj
      rw [List.getElem_take] at hc
      have := hu j i (by omega) hi x y hc h
      omega) h
end Go.Proofs.Ytglfcaioapdiaaa.Bk

namespace Go.Proofs.Ytglfcaioapdiaaa.Bk
open Go
set_option linter.unusedSimpArgs false
set_option linter.unusedVariables false
def cstI (ls : List Ln) (ix : List Int) : Int := (ix.map fun i => (ls.getD i.toNat lnz).o).sum
theorem cstI_app (ls : List Ln) (p q : List Int) : cstI ls (p ++ q) = cstI ls p + cstI ls q := by simp [cstI]
theorem lkAt_app {ls : List Ln} {p : List Int} {y : Int} {j : Nat} (h : j < p.length) : lkAt ls (p ++ [y]) j = lkAt ls p j := by
  unfold lkAt
  simp only [List.getD, List.getElem?_append_left h, List.getElem?_append_left (show j - 1 < p.length by omega)]
theorem rtI_app {ls : List Ln} {p : List Int} {y : Int} : rtI ls (p ++ [y]) p.length = rtI ls p p.length := by
  unfold rtI
  refine List.map_congr_left fun j hj => ?_
  rw [List.mem_range] at hj
  exact lkAt_app (by omega)
theorem rtI_step {ls : List Ln} {p : List Int} {x y : Int} (h0 : p ≠ []) (hl : p.getLast? = some x) : rtI ls (p ++ [y]) (p ++ [y]).length = rtI ls p p.length ++ [ixG (linkP x y) ls] := by
  have hp0 : 0 < p.length := List.length_pos_iff.2 h0
  have e : (p ++ [y]).length = p.length + 1 := by simp
  rw [e, rtI_succ _ _ hp0, rtI_app]
  have e1 : (p ++ [y]).getD p.length 0 = y := by simp [List.getD]
  have e3 : (p ++ [y]).getD (p.length - 1) 0 = x := by
    simp only [List.getD, List.getElem?_append_left (show p.length - 1 < p.length by omega)]
    rw [← List.getLast?_eq_getElem?, hl]; rfl
  rw [lkAt, e1, e3]
theorem EL.uq {ls : List Ln} (hu : Uq ls) {x y o : Int} (h : EL ls x y o) : ∃ (i : Nat) (hi : i < ls.length), ixG (linkP x y) ls = i ∧ linkP x y ls[i] = true ∧ ls[i].o = o := by
  obtain ⟨l, hl, hor, e⟩ := h
  obtain ⟨i, hi, rfl⟩ := List.getElem_of_mem hl
  have hp : linkP x y ls[i] = true := linkP_iff.2 hor
  exact ⟨i, hi, ixG_uq hu hi hp, hp, e.symm⟩
theorem Pt.cst {ls : List Ln} (hu : Uq ls) {s : Int} {p : List Int} {c t : Int} (h : Pt (EL ls) s p c t) : cstI ls (rtI ls p p.length) = c := by
  induction h with
  | one => rfl
  | @step p c x y o h he hy ih =>
    obtain ⟨i, hi, e1, _, e2⟩ := he.uq hu
    rw [rtI_step h.ne h.last, cstI_app, ih, e1]
    simp [cstI, List.getD, hi, e2]
theorem Pt.mono {E E' : Int → Int → Int → Prop} (hE : ∀ x y o, E x y o → E' x y o) {s : Int} {p : List Int} {c t : Int} (h : Pt E s p c t) : Pt E' s p c t := by
  induction h with
  | one => exact .one
  | step h he hy ih => exact .step ih (hE _ _ _ he) hy
theorem EL.rest {ls : List Ln} {ix : List Int} {x y o : Int} (h : EL (restL ls ix) x y o) : EL ls x y o := by
  obtain ⟨l, hl, hor, e⟩ := h
  obtain ⟨i, hi, _, rfl⟩ := restL_mem hl
  exact ⟨ls[i], List.getElem_mem hi, hor, e⟩
theorem Pt.off {ls : List Ln} (hu : Uq ls) {ix : List Int} {s : Int} {p : List Int} {c t : Int} (h : Pt (EL (restL ls ix)) s p c t) : ∀ y ∈ rtI ls p p.length, y ∉ ix := by
  induction h with
  | one => intro y hy; simp [rtI] at hy
  | @step p c x y o h he hy ih =>
    rw [rtI_step h.ne h.last]
    intro z hz
    rcases List.mem_append.1 hz with hz | hz
    · exact ih z hz
    · obtain ⟨l, hl, hor, e⟩ := he
      obtain ⟨i, hi, ho, rfl⟩ := restL_mem hl
      have e1 := ixG_uq hu hi (linkP_iff.2 hor)
      rw [e1, List.mem_singleton] at hz
      subst hz
      intro hc
      have : offB ix i = true := List.any_eq_true.2 ⟨_, hc, by simp⟩
      rw [ho] at this; cases this
theorem rtL_way {n : Int} {ls : List Ln} {frm to : Int} (hL : LnsOk n ls) (hn : n ≤ 12) (ht : 0 ≤ to ∧ to < n) (hh : fh (farR n ls to) frm = true) : Pt (EL ls) frm (rtL n ls frm to) (fc (farR n ls to) frm) to := by
  have hW := FW.of (to := to) hL hn ht
  have hb := hW.bd hh
  exact (hW.way _ hh (by omega)).1
theorem best_le {n : Int} {ls : List Ln} {frm to : Int} (hL : LnsOk n ls) (hn : n ≤ 12) (ht : 0 ≤ to ∧ to < n) {p : List Int} {c : Int} (h : Pt (EL ls) frm p c to) : fh (farR n ls to) frm = true ∧ fc (farR n ls to) frm ≤ c := by
  have hW := FW.of (to := to) hL hn ht
  obtain ⟨v, hv, hle⟩ := far_least hW.good hW.fix (h.rev fun x y o h => h.symm)
  have hh : fh (farR n ls to) frm = true := by unfold fh; rw [hv]; rfl
  have ev := fget_of hh
  rw [hv] at ev
  refine ⟨hh, ?_⟩
  unfold leF at hle
  simp only [Option.some.injEq] at ev
  rw [ev] at hle
  dsimp only at hle
  omega
theorem rtL_head {n : Int} {ls : List Ln} {frm to : Int} : (rtL n ls frm to)[0]? = some frm := by
  simp [rtL, rlist, gat]
end Go.Proofs.Ytglfcaioapdiaaa.Bk

namespace Go.Proofs.Ytglfcaioapdiaaa.Bk
open Go
set_option linter.unusedSimpArgs false
set_option linter.unusedVariables false
theorem walk_le {ls : List Ln} {F : Far} (hx : Fix ls F) {s t c : Int} {p : List Int} (h : Pt (EL ls) s p c t) (hs : fh F s = true) : fh F t = true ∧ fc F t ≤ fc F s + c := by
  induction h with
  | one => exact ⟨hs, by omega⟩
  | @step p c x y o h he hy ih =>
    obtain ⟨h1, h2⟩ := ih
    have hf := hx x y o he
    unfold fimp at hf
    rw [h1, Bool.true_and, Bool.or_eq_false_iff] at hf
    obtain ⟨g1, g2⟩ := hf
    have := leF_of_not g2
    unfold leF at this
    dsimp only at this
    exact ⟨by simpa using g1, by omega⟩
theorem best_leF {n : Int} {ls : List Ln} {frm to : Int} (hL : LnsOk n ls) (hn : n ≤ 12) (ht : 0 ≤ to ∧ to < n) {p : List Int} {c : Int} (h : Pt (EL ls) frm p c to) : leF (fc (farR n ls to) frm, fl (farR n ls to) frm) (c, (p.length : Int) - 1) := by
  have hW := FW.of (to := to) hL hn ht
  obtain ⟨v, hv, hle⟩ := far_least hW.good hW.fix (h.rev fun x y o h => h.symm)
  have hh : fh (farR n ls to) frm = true := by unfold fh; rw [hv]; rfl
  have ev := fget_of hh
  rw [hv] at ev
  simp only [Option.some.injEq] at ev
  rw [ev, List.length_reverse] at hle
  exact hle
theorem best_back {n : Int} {ls : List Ln} {a b : Int} (hL : LnsOk n ls) (hn : n ≤ 12) (ha : 0 ≤ a ∧ a < n) (hb : 0 ≤ b ∧ b < n) (hh : fh (farR n ls b) a = true) :
    fh (farR n ls a) b = true ∧ fc (farR n ls a) b = fc (farR n ls b) a ∧ rtN n ls b a = rtN n ls a b := by
  have w1 := rtL_way hL hn hb hh
  have r1 := w1.rev fun x y o h => h.symm
  have g1 := (best_le hL hn ha r1).1
  have w2 := rtL_way hL hn ha g1
  have r2 := w2.rev fun x y o h => h.symm
  have u1 := best_leF hL hn ha r1
  have u2 := best_leF hL hn hb r2
  have l1 := rtL_len n ls a b
  have l2 := rtL_len n ls b a
  have f1 := (FW.of (to := b) hL hn hb).bd hh
  have f2 := (FW.of (to := a) hL hn ha).bd g1
  rw [List.length_reverse] at u1 u2
  unfold rtN at *
  unfold leF at u1 u2
  dsimp only at u1 u2
  refine ⟨g1, by omega, by omega⟩
theorem best_via {n : Int} {ls : List Ln} {a b v : Int} (hL : LnsOk n ls) (hn : n ≤ 12) (ha : 0 ≤ a ∧ a < n) (hb : 0 ≤ b ∧ b < n) (hv : 0 ≤ v ∧ v < n) (hh : fh (farR n ls b) a = true) :
    fh (farR n ls v) a = fh (farR n ls b) v ∧ (fh (farR n ls v) a = true → fc (farR n ls b) a ≤ fc (farR n ls v) a + fc (farR n ls b) v) := by
  have hWb := FW.of (to := b) hL hn hb
  have hWv := FW.of (to := v) hL hn hv
  have w := rtL_way hL hn hb hh
  have key : ∀ h : fh (farR n ls v) a = true, fh (farR n ls b) v = true ∧ fc (farR n ls b) a ≤ fc (farR n ls v) a + fc (farR n ls b) v := fun h => by
    have w1 := rtL_way hL hn hv h
    have g1 := (walk_le hWb.fix w1 hh).1
    have g2 := (walk_le hWb.fix (w1.rev fun x y o h => h.symm) g1).2
    exact ⟨g1, by omega⟩
  refine ⟨?_, fun h => (key h).2⟩
  cases h1 : fh (farR n ls v) a with
  | true => exact (key h1).1.symm
  | false =>
    cases h2 : fh (farR n ls b) v with
    | false => rfl
    | true =>
      have w2 := rtL_way hL hn hb h2
      have g1 := (walk_le hWv.fix w2 (hWv.at0).1).1
      have g2 := (walk_le hWv.fix (w.rev fun x y o h => h.symm) g1).1
      rw [h1] at g2; cases g2
def ELw (ls : List Ln) (w : Int) (x y o : Int) : Prop := ∃ l ∈ ls, w ≤ l.c ∧ ((l.a = x ∧ l.b = y) ∨ (l.a = y ∧ l.b = x)) ∧ o = l.o
theorem wd_mem {ls : List Ln} {w : Int} {l : Ln} : l ∈ wdL ls w ↔ ∃ l' ∈ ls, w ≤ l'.c ∧ (⟨l'.a, l'.b, 0, 0⟩ : Ln) = l := by
  unfold wdL wdI
  rw [List.take_length]
  simp only [List.mem_map, List.mem_filter, decide_eq_true_eq, and_assoc]
theorem Pt.wide {ls : List Ln} {w s t c : Int} {p : List Int} (h : Pt (EL (wdL ls w)) s p c t) : ∃ c', Pt (ELw ls w) s p c' t := by
  induction h with
  | one => exact ⟨_, .one⟩
  | step h he hy ih =>
    obtain ⟨c', ih⟩ := ih
    obtain ⟨l, hl, hor, _⟩ := he
    obtain ⟨l', h1, h2, rfl⟩ := wd_mem.1 hl
    exact ⟨_, .step ih ⟨l', h1, h2, hor, rfl⟩ hy⟩
theorem Pt.narrow {ls : List Ln} {w s t c : Int} {p : List Int} (hw : ∀ l ∈ ls, w ≤ l.c) (h : Pt (EL ls) s p c t) : ∃ c', Pt (EL (wdL ls w)) s p c' t := by
  induction h with
  | one => exact ⟨_, .one⟩
  | step h he hy ih =>
    obtain ⟨c', ih⟩ := ih
    obtain ⟨l, hl, hor, _⟩ := he
    exact ⟨_, .step ih ⟨⟨l.a, l.b, 0, 0⟩, wd_mem.2 ⟨l, hl, hw l hl, rfl⟩, hor, rfl⟩ hy⟩
theorem ELw.el {ls : List Ln} {w x y o : Int} (h : ELw ls w x y o) : EL ls x y o := by
  obtain ⟨l, h1, _, h3, h4⟩ := h
  exact ⟨l, h1, h3, h4⟩
theorem Pt.caps {ls : List Ln} (hu : Uq ls) {w s t c : Int} {p : List Int} (h : Pt (ELw ls w) s p c t) : ∀ y ∈ rtI ls p p.length, w ≤ (ls.getD y.toNat lnz).c := by
  induction h with
  | one => intro y hy; simp [rtI] at hy
  | @step p c x y o h he hy ih =>
    rw [rtI_step h.ne h.last]
    intro z hz
    rcases List.mem_append.1 hz with hz | hz
    · exact ih z hz
    · obtain ⟨l, hl, hw, hor, e⟩ := he
      obtain ⟨i, hi, rfl⟩ := List.getElem_of_mem hl
      have e1 := ixG_uq hu hi (linkP_iff.2 hor)
      rw [e1, List.mem_singleton] at hz
      subst hz
      simpa [List.getD, hi] using hw
theorem wide_way {n : Int} {ls : List Ln} {a b w : Int} (hL : LnsOk n ls) (hn : n ≤ 12) (hb : 0 ≤ b ∧ b < n) (hh : fh (farR n (wdL ls w) b) a = true) : ∃ c, Pt (ELw ls w) a (rtL n (wdL ls w) a b) c b :=
  (rtL_way (wdL_ok hL) hn hb hh).wide
theorem wide_fh {n : Int} {ls : List Ln} {a b w : Int} (hL : LnsOk n ls) (hn : n ≤ 12) (hb : 0 ≤ b ∧ b < n) (hh : fh (farR n (wdL ls w) b) a = true) : fh (farR n ls b) a = true := by
  obtain ⟨c, h⟩ := wide_way hL hn hb hh
  exact (best_le hL hn hb (h.mono fun x y o => ELw.el)).1
theorem wide_ex {n : Int} {ls : List Ln} {a b : Int} (hL : LnsOk n ls) (hn : n ≤ 12) (hb : 0 ≤ b ∧ b < n) (hne : a ≠ b) (hh : fh (farR n ls b) a = true) : ∃ k, k < ls.length ∧ cnW n ls a b (wkW ls k) = true ∧ ∀ j, j < k → cnW n ls a b (wkW ls j) = false := by
  have w := rtL_way hL hn hb hh
  have key : ∀ {p : List Int} {c : Int}, Pt (EL ls) a p c b → ∃ l, l ∈ ls := fun h => by
    cases h with
    | one => exact absurd rfl hne
    | step h he hy => obtain ⟨l, hl, _⟩ := he; exact ⟨l, hl⟩
  have hl : 0 < ls.length := by
    obtain ⟨l, hl⟩ := key w
    exact List.length_pos_of_mem hl
  have hw : ∀ l ∈ ls, wkW ls (ls.length - 1) ≤ l.c := fun l hl => by
    obtain ⟨k, h1, h2⟩ := wk_of hl
    have := wk_mono (ls := ls) (i := k) (j := ls.length - 1) (by omega) (by omega)
    omega
  obtain ⟨c', w'⟩ := w.narrow hw
  have hc : cnW n ls a b (wkW ls (ls.length - 1)) = true := (best_le (wdL_ok hL) hn hb w').1
  obtain ⟨k, h1, h2, h3⟩ := least (p := fun k => cnW n ls a b (wkW ls k)) hc
  exact ⟨k, by omega, h2, h3⟩
end Go.Proofs.Ytglfcaioapdiaaa.Bk

namespace Go.Proofs.Ytglfcaioapdiaaa.Bk
open Go Go.RowKit Go.Proofs.Ytglfcaioapdiaaa.Aw
set_option linter.unusedSimpArgs false
set_option linter.unusedVariables false
attribute [local irreducible] AW SQ Step RO RC DE Thn InB
def incAt (xs : List Int) (i : Nat) : Bool := decide (i = 0) || decide (xs.getD (i - 1) 0 < xs.getD i 0)
def incB (xs : List Int) : Bool := (List.range xs.length).all (incAt xs)
end Go.Proofs.Ytglfcaioapdiaaa.Bk

-- Trees: both functions.
namespace Go.Proofs.Ytglfcaioapdiaaa.Bk
open Go Go.RowKit Go.Proofs.Ytglfcaioapdiaaa.Aw
set_option linter.unusedSimpArgs false
set_option linter.unusedVariables false
attribute [local irreducible] AW SQ Step RO RC DE Thn InB
def inW (ls : List Ln) (ix : List Int) : Bool := !ix.any fun x => !inB x 0 ((ls.length : Int) - 1)
theorem inW_get {ls : List Ln} {ix : List Int} (h : inW ls ix = true) : ∀ x ∈ ix, 0 ≤ x ∧ x < ls.length := by
  intro x hx
  simp only [inW, Bool.not_eq_true', List.any_eq_false] at h
  have := h x hx
  simp [inB] at this
  omega
def isT (n : Int) (ls : List Ln) (ix : List Int) : Bool := incB ix && inW ls ix && ((ix.length : Int) == n - 1) && (((reachV n ls ix 0).length : Int) == n)
def mayT (m : Nat) (ix : List Int) : Nat → List Bool
  | 0 => List.replicate m false
  | i + 1 => (mayT m ix i).set (ix.getD i 0).toNat true
theorem mayT_len (m : Nat) (ix : List Int) : ∀ i, (mayT m ix i).length = m
  | 0 => by simp [mayT]
  | i + 1 => by simp [mayT, mayT_len m ix i]
theorem mayT_get {m : Nat} {ix : List Int} {j : Nat} (hj : j < m) : ∀ i, i ≤ ix.length → ((mayT m ix i).getD j false = true ↔ ∃ t ∈ ix.take i, t.toNat = j)
  | 0, _ => by simp [mayT, List.getD, hj]
  | i + 1, hi => by
    have ih := mayT_get hj i (by omega) (ix := ix)
    have hl := mayT_len m ix i
    rw [List.take_succ_eq_append_getElem (by omega)]
    have hD : ix.getD i 0 = ix[i] := by simp [List.getD, show i < ix.length by omega]
    rw [mayT, hD]
    simp only [List.getD, List.getElem?_set, List.mem_append, List.mem_singleton]
    by_cases e : (ix[i]).toNat = j
    · simp only [e, if_true]
      have : j < (mayT m ix i).length := by omega
      simp only [this, if_true, Option.getD_some, true_iff]
      exact ⟨ix[i], .inr rfl, e⟩
    · simp only [e, if_false]
      rw [List.getD] at ih
      rw [ih]
      constructor
      · rintro ⟨t, ht, h⟩; exact ⟨t, .inl ht, h⟩
      · rintro ⟨t, ht | rfl, h⟩
        · exact ⟨t, ht, h⟩
        · exact absurd h e
end Go.Proofs.Ytglfcaioapdiaaa.Bk

-- Trees: the law.
namespace Go.Proofs.Ytglfcaioapdiaaa.Bk
open Go Go.RowKit Go.Proofs.Ytglfcaioapdiaaa.Aw
set_option linter.unusedSimpArgs false
set_option linter.unusedVariables false
attribute [local irreducible] AW SQ Step RO RC DE Thn InB
end Go.Proofs.Ytglfcaioapdiaaa.Bk

namespace Go.Proofs.Ytglfcaioapdiaaa.Bk
open Go Go.RowKit Go.Proofs.Ytglfcaioapdiaaa.Aw
set_option linter.unusedSimpArgs false
set_option linter.unusedVariables false
attribute [local irreducible] AW SQ Step RO RC DE Thn InB
def othI (xs : List Int) (i : Int) : List Int := xs.filter fun x => !(x == i)
end Go.Proofs.Ytglfcaioapdiaaa.Bk

namespace Go.Proofs.Ytglfcaioapdiaaa.Bk
open Go Go.RowKit Go.Proofs.Ytglfcaioapdiaaa.Aw
set_option linter.unusedSimpArgs false
set_option linter.unusedVariables false
attribute [local irreducible] AW SQ Step RO RC DE Thn InB
def lsw (xs : List Int) (i j : Nat) : List Int := (xs.set i (xs.getD j 0)).set j (xs.getD i 0)
def swR (xs : List Int) (a b : Nat) : Nat → List Int
  | 0 => xs
  | i + 1 => lsw (swR xs a b i) (a + i) (b + i)
end Go.Proofs.Ytglfcaioapdiaaa.Bk

namespace Go.Proofs.Ytglfcaioapdiaaa.Bk
open Go Go.RowKit Go.Proofs.Ytglfcaioapdiaaa.Aw
set_option linter.unusedSimpArgs false
set_option linter.unusedVariables false
attribute [local irreducible] AW SQ Step RO RC DE Thn InB
def rotF (m : Nat) : Nat → Nat → Nat → List Int → List Int
  | 0, _, _, xs => xs
  | f + 1, i, j, xs => if i = j then swR xs (m - i) m i else if j < i then rotF m f (i - j) j (swR xs (m - i) m j) else rotF m f i (j - i) (swR xs (m - i) (m + j - i) i)
end Go.Proofs.Ytglfcaioapdiaaa.Bk

namespace Go.Proofs.Ytglfcaioapdiaaa.Bk
open Go Go.RowKit Go.Proofs.Ytglfcaioapdiaaa.Aw
set_option linter.unusedSimpArgs false
set_option linter.unusedVariables false
attribute [local irreducible] AW SQ Step RO RC DE Thn InB
def kO (ls : List Ln) (x : Int) : Int := (ls.getD x.toNat lnz).o
def ltO (ls : List Ln) (x y : Int) : Bool := decide (kO ls x < kO ls y)
def Vd (ls : List Ln) (xs : List Int) : Prop := ∀ x ∈ xs, 0 ≤ x ∧ x < ls.length
theorem Vd.at {ls : List Ln} {xs : List Int} (h : Vd ls xs) {i : Nat} (hi : i < xs.length) : 0 ≤ xs.getD i 0 ∧ xs.getD i 0 < ls.length := by
  have : xs.getD i 0 = xs[i] := by simp [List.getD, hi]
  rw [this]; exact h _ (List.getElem_mem hi)
theorem lsw_mem {xs : List Int} {i j : Nat} (hi : i < xs.length) (hj : j < xs.length) : ∀ x ∈ lsw xs i j, x ∈ xs := fun x hx => by
  unfold lsw at hx
  have e1 : xs.getD i 0 = xs[i] := by simp [List.getD, hi]
  have e2 : xs.getD j 0 = xs[j] := by simp [List.getD, hj]
  rcases List.mem_or_eq_of_mem_set hx with h | h
  · rcases List.mem_or_eq_of_mem_set h with h | h
    · exact h
    · rw [h, e2]; exact List.getElem_mem hj
  · rw [h, e1]; exact List.getElem_mem hi
theorem Vd.lsw {ls : List Ln} {xs : List Int} (h : Vd ls xs) {i j : Nat} (hi : i < xs.length) (hj : j < xs.length) : Vd ls (lsw xs i j) := fun x hx => h x (lsw_mem hi hj x hx)
def insJ (lt : Int → Int → Bool) (a : Nat) : Nat → List Int → List Int
  | 0, xs => xs
  | j + 1, xs => if (decide (a < j + 1) && lt (xs.getD (j + 1) 0) (xs.getD j 0)) = true then insJ lt a j (lsw xs (j + 1) j) else xs
def insO (lt : Int → Int → Bool) (a : Nat) : Nat → List Int → List Int
  | 0, xs => xs
  | c + 1, xs => insJ lt a (a + 1 + c) (insO lt a c xs)
end Go.Proofs.Ytglfcaioapdiaaa.Bk

namespace Go.Proofs.Ytglfcaioapdiaaa.Bk
open Go Go.RowKit Go.Proofs.Ytglfcaioapdiaaa.Aw
set_option linter.unusedSimpArgs false
set_option linter.unusedVariables false
attribute [local irreducible] AW SQ Step RO RC DE Thn InB
def bisF (p : Nat → Bool) : Nat → Nat → Nat → Nat
  | 0, i, _ => i
  | f + 1, i, j => if i < j then (if p ((i + j) / 2) = true then bisF p f ((i + j) / 2 + 1) j else bisF p f i ((i + j) / 2)) else i
def bubU (xs : List Int) (a : Nat) : Nat → List Int
  | 0 => xs
  | c + 1 => lsw (bubU xs a c) (a + c) (a + c + 1)
def bubD (xs : List Int) (m : Nat) : Nat → List Int
  | 0 => xs
  | c + 1 => lsw (bubD xs m c) (m - c) (m - c - 1)
end Go.Proofs.Ytglfcaioapdiaaa.Bk

namespace Go.Proofs.Ytglfcaioapdiaaa.Bk
open Go Go.RowKit Go.Proofs.Ytglfcaioapdiaaa.Aw
set_option linter.unusedSimpArgs false
set_option linter.unusedVariables false
attribute [local irreducible] AW SQ Step RO RC DE Thn InB
def symS (lt : Int → Int → Bool) (a m b : Nat) (xs : List Int) : Nat :=
  bisF (fun c => !lt (xs.getD ((a + b) / 2 + m - 1 - c) 0) (xs.getD c 0)) ((if (a + b) / 2 < m then (a + b) / 2 else m) - (if (a + b) / 2 < m then (a + b) / 2 + m - b else a)) (if (a + b) / 2 < m then (a + b) / 2 + m - b else a) (if (a + b) / 2 < m then (a + b) / 2 else m)
def symX (lt : Int → Int → Bool) (a m b : Nat) (xs : List Int) : List Int :=
  if (decide (symS lt a m b xs < m) && decide (m < (a + b) / 2 + m - symS lt a m b xs)) = true then rotF m ((a + b) / 2 + m - symS lt a m b xs - symS lt a m b xs) (m - symS lt a m b xs) ((a + b) / 2 + m - symS lt a m b xs - m) xs else xs
def symF (lt : Int → Int → Bool) : Nat → Nat → Nat → Nat → List Int → List Int
  | 0, _, _, _, xs => xs
  | f + 1, a, m, b, xs => if m = a + 1 then bubU xs a (bisF (fun h => lt (xs.getD h 0) (xs.getD a 0)) (b - m) m b - 1 - a)
    else if b = m + 1 then bubD xs m (m - bisF (fun h => !lt (xs.getD m 0) (xs.getD h 0)) (m - a) a m)
    else if (decide ((a + b) / 2 < (a + b) / 2 + m - symS lt a m b xs) && decide ((a + b) / 2 + m - symS lt a m b xs < b)) = true
      then symF lt f ((a + b) / 2) ((a + b) / 2 + m - symS lt a m b xs) b (if (decide (a < symS lt a m b xs) && decide (symS lt a m b xs < (a + b) / 2)) = true then symF lt f a (symS lt a m b xs) ((a + b) / 2) (symX lt a m b xs) else symX lt a m b xs)
      else (if (decide (a < symS lt a m b xs) && decide (symS lt a m b xs < (a + b) / 2)) = true then symF lt f a (symS lt a m b xs) ((a + b) / 2) (symX lt a m b xs) else symX lt a m b xs)
end Go.Proofs.Ytglfcaioapdiaaa.Bk

namespace Go.Proofs.Ytglfcaioapdiaaa.Bk
open Go Go.RowKit Go.Proofs.Ytglfcaioapdiaaa.Aw
set_option linter.unusedSimpArgs false
set_option linter.unusedVariables false
attribute [local irreducible] AW SQ Step RO RC DE Thn InB
def stF (lt : Int → Int → Bool) (xs : List Int) : List Int :=
  if xs.length < 20 then insO lt 0 (xs.length - 1) xs
  else if xs.length = 20 then insO lt 20 0 (insO lt 0 19 xs)
  else symF lt xs.length 0 20 xs.length (insO lt 20 (xs.length - 21) (insO lt 0 19 xs))
end Go.Proofs.Ytglfcaioapdiaaa.Bk

namespace Go.Proofs.Ytglfcaioapdiaaa.Bk
open Go
set_option linter.unusedSimpArgs false
set_option linter.unusedVariables false
section
variable (K : Int → Int)
def Lx (x y : Int) : Prop := K x < K y ∨ (K x = K y ∧ x < y)
variable {K}
theorem Lx.trans {x y z : Int} (h : Lx K x y) (h' : Lx K y z) : Lx K x z := by unfold Lx at *; omega
end
end Go.Proofs.Ytglfcaioapdiaaa.Bk

namespace Go.Proofs.Ytglfcaioapdiaaa.Bk
open Go Go.RowKit Go.Proofs.Ytglfcaioapdiaaa.Aw
set_option linter.unusedSimpArgs false
set_option linter.unusedVariables false
attribute [local irreducible] AW SQ Step RO RC DE Thn InB
def ordK (ls : List Ln) : List Int := stF (ltO ls) (part0 ls.length)
def spT (n : Int) (ls : List Ln) (ys : List Int) : Nat → List Int
  | 0 => []
  | i + 1 => if ((reachV n ls (spT n ls ys i) (lnAt ls (ys.getD i 0)).a).any fun y => y == (lnAt ls (ys.getD i 0)).b) = true then spT n ls ys i else spT n ls ys i ++ [ys.getD i 0]
def treK (n : Int) (ls : List Ln) : List Int := spT n ls (ordK ls) ls.length
end Go.Proofs.Ytglfcaioapdiaaa.Bk

namespace Go.Proofs.Ytglfcaioapdiaaa.Bk
open Go
set_option linter.unusedSimpArgs false
set_option linter.unusedVariables false
inductive Pq (ls : List Ln) (may : List Bool) (s : Int) : List Int → List Int → Int → Prop
  | one : Pq ls may s [s] [] s
  | step {p q : List Int} {x y : Int} {i : Nat} (h : Pq ls may s p q x) (hi : i < ls.length) (hm : may.getD i false = true) (hl : linkP x y ls[i] = true) (hy : y ∉ p) : Pq ls may s (p ++ [y]) (q ++ [(i : Int)]) y
section
variable {ls : List Ln} {may : List Bool} {s : Int}
theorem Pq.len {p q : List Int} {t : Int} (h : Pq ls may s p q t) : p.length = q.length + 1 ∧ p.getLast? = some t := by
  induction h with
  | one => exact ⟨rfl, rfl⟩
  | step h hi hm hl hy ih => exact ⟨by simp [ih.1], by simp⟩
theorem rtI_snoc {p : List Int} {y x : Int} (h0 : p ≠ []) (hx : p.getLast? = some x) : rtI ls (p ++ [y]) (p ++ [y]).length = rtI ls p p.length ++ [ixG (linkP x y) ls] := by
  have hp : 0 < p.length := List.length_pos_iff.2 h0
  rw [List.length_append, List.length_singleton, rtI_succ _ _ hp]
  have e1 : rtI ls (p ++ [y]) p.length = rtI ls p p.length := by
    unfold rtI
    refine List.map_congr_left fun j hj => ?_
    have hj := List.mem_range.1 hj
    unfold lkAt
    have a1 : (p ++ [y]).getD (j + 1 - 1) 0 = p.getD (j + 1 - 1) 0 := by simp [List.getD, List.getElem?_append_left (show j < p.length by omega)]
    have a2 : (p ++ [y]).getD (j + 1) 0 = p.getD (j + 1) 0 := by simp [List.getD, List.getElem?_append_left (show j + 1 < p.length by omega)]
    rw [a1, a2]
  have e2 : lkAt ls (p ++ [y]) p.length = ixG (linkP x y) ls := by
    unfold lkAt
    have a1 : (p ++ [y]).getD (p.length - 1) 0 = x := by
      simp only [List.getD, List.getElem?_append_left (show p.length - 1 < p.length by omega)]
      rw [← List.getLast?_eq_getElem?, hx]; rfl
    have a2 : (p ++ [y]).getD p.length 0 = y := by simp [List.getD]
    rw [a1, a2]
  rw [e1, e2]
theorem Pq.of {counts : Bool} (hu : Uq ls) {p : List Int} {c t : Int} (h : Pt (Lk ls may counts) s p c t) : Pq ls may s p (rtI ls p p.length) t := by
  induction h with
  | one => exact .one
  | @step p c x y o h he hy ih =>
    obtain ⟨i, hi, hm, hor, _⟩ := he
    have hl : linkP x y ls[i] = true := linkP_iff.2 hor
    rw [rtI_snoc h.ne h.last, ixG_uq hu hi hl]
    exact .step ih hi hm hl hy
theorem Pq.idx {p q : List Int} {t : Int} (h : Pq ls may s p q t) : ∀ k ∈ q, ∃ i, ∃ hi : i < ls.length, k = (i : Int) ∧ may.getD i false = true ∧ ls[i].a ∈ p ∧ ls[i].b ∈ p := by
  induction h with
  | one => intro k hk; cases hk
  | @step p q x y i h hi hm hl hy ih =>
    intro k hk
    rcases List.mem_append.1 hk with hk | hk
    · obtain ⟨j, hj, e, g1, g2, g3⟩ := ih k hk
      exact ⟨j, hj, e, g1, List.mem_append_left _ g2, List.mem_append_left _ g3⟩
    · simp at hk
      have hx : x ∈ p := List.mem_of_getLast? h.len.2
      refine ⟨i, hi, hk, hm, ?_, ?_⟩ <;> (rcases linkP_iff.1 hl with ⟨a, b⟩ | ⟨a, b⟩ <;> simp [a, b, hx])
theorem Pq.new {p q : List Int} {x y : Int} {i : Nat} (h : Pq ls may s p q x) (hi : i < ls.length) (hl : linkP x y ls[i] = true) (hy : y ∉ p) : (i : Int) ∉ q := fun hm => by
  obtain ⟨j, hj, e, _, g2, g3⟩ := h.idx _ hm
  have : i = j := by omega
  subst this
  rcases linkP_iff.1 hl with ⟨a, b⟩ | ⟨a, b⟩
  · exact hy (b ▸ g3)
  · exact hy (a ▸ g2)
theorem Pq.nd {p q : List Int} {t : Int} (h : Pq ls may s p q t) : q.Nodup := by
  induction h with
  | one => exact List.nodup_nil
  | @step p q x y i h hi hm hl hy ih =>
    refine List.nodup_append.2 ⟨ih, by simp, fun a ha b hb => ?_⟩
    simp at hb; subst hb
    exact fun e => h.new hi hl hy (e ▸ ha)
variable {ix : List Int} (hmay : ∀ i, i < ls.length → (may.getD i false = true ↔ (i : Int) ∈ ix))
include hmay
theorem Pq.off {p q : List Int} {t k : Int} (h : Pq ls may s p q t) : k ∉ q → Cn ((ix.filter fun x => !(x == k)).map (lnAt ls)) s t := by
  induction h with
  | one => intro _; exact .refl
  | @step p q x y i h hi hm hl hy ih =>
    intro hk
    simp only [List.mem_append, List.mem_singleton, not_or] at hk
    refine .step (ih hk.1) ⟨ls[i], List.mem_map.2 ⟨(i : Int), ?_, by simp [lnAt, List.getD, hi]⟩, hl⟩
    refine List.mem_filter.2 ⟨(hmay i hi).1 hm, ?_⟩
    have : ((i : Int) == k) = false := by simpa using fun e => hk.2 e.symm
    rw [this]; rfl
theorem Pq.on {p q : List Int} {t : Int} {k : Nat} (hk : k < ls.length) (h : Pq ls may s p q t) : (k : Int) ∈ q → ∃ u v, linkP u v ls[k] = true ∧ Cn ((ix.filter fun x => !(x == (k : Int))).map (lnAt ls)) s u ∧ Cn ((ix.filter fun x => !(x == (k : Int))).map (lnAt ls)) v t := by
  induction h with
  | one => intro h; cases h
  | @step p q x y i h hi hm hl hy ih =>
    intro hkm
    by_cases hkq : (k : Int) ∈ q
    · obtain ⟨u, v, g1, g2, g3⟩ := ih hkq
      have hne : i ≠ k := fun e => h.new hi hl hy (e ▸ hkq)
      refine ⟨u, v, g1, g2, .step g3 ⟨ls[i], List.mem_map.2 ⟨(i : Int), List.mem_filter.2 ⟨(hmay i hi).1 hm, ?_⟩, by simp [lnAt, List.getD, hi]⟩, hl⟩⟩
      have : ((i : Int) == (k : Int)) = false := by simp; omega
      rw [this]; rfl
    · have : i = k := by
        rcases List.mem_append.1 hkm with h1 | h1
        · exact absurd h1 hkq
        · simp at h1; omega
      subst this
      exact ⟨x, y, hl, h.off hmay hkq, .refl⟩
end
theorem cn_count {n : Int} : ∀ (m : Nat) (p : List Ln), p.length = m → ∃ R : List Int, R.Nodup ∧ (∀ r ∈ R, 0 ≤ r ∧ r < n) ∧ n.toNat ≤ R.length + m ∧ ∀ r ∈ R, ∀ r' ∈ R, r ≠ r' → ¬ Cn p r r'
  | 0, p, hp => by
    have : p = [] := List.length_eq_zero_iff.1 hp
    subst this
    refine ⟨part0 n.toNat, List.Pairwise.map _ (fun a b (hab : a ≠ b) => by omega) List.nodup_range, fun r hr => ?_, by rw [part0_len]; omega, fun r _ r' _ hne h => hne (Cn_nil h)⟩
    obtain ⟨j, hj, rfl⟩ := List.mem_map.1 hr
    have := List.mem_range.1 hj
    omega
  | m + 1, p, hp => by
    obtain ⟨q, l, rfl⟩ : ∃ q l, p = q ++ [l] := by
      have : p ≠ [] := fun e => by subst e; simp at hp
      exact ⟨p.dropLast, p.getLast this, (List.dropLast_concat_getLast this).symm⟩
    obtain ⟨R, h1, h2, h3, h4⟩ := cn_count m q (by simpa using hp)
    by_cases hc : ∃ r ∈ R, Cn q r l.b
    · obtain ⟨r0, hr0, hcn⟩ := hc
      have hl := List.length_erase_of_mem hr0
      have hp0 : 0 < R.length := List.length_pos_of_mem hr0
      have no : ∀ r ∈ R.erase r0, ¬ Cn q r l.b := fun r hr hcr => by
        have := (h1.mem_erase_iff).1 hr
        exact h4 r this.2 r0 hr0 this.1 (hcr.trans hcn.symm)
      refine ⟨R.erase r0, h1.erase _, fun r hr => h2 r (List.mem_of_mem_erase hr), by omega, fun r hr r' hr' hne h => ?_⟩
      rcases (Cn_add q l r r').1 h with h | ⟨h, _⟩ | ⟨_, h⟩
      · exact h4 r (List.mem_of_mem_erase hr) r' (List.mem_of_mem_erase hr') hne h
      · exact no r hr h
      · exact no r' hr' h.symm
    · refine ⟨R, h1, h2, by omega, fun r hr r' hr' hne h => ?_⟩
      rcases (Cn_add q l r r').1 h with h | ⟨h, _⟩ | ⟨_, h⟩
      · exact h4 r hr r' hr' hne h
      · exact hc ⟨r, hr, h⟩
      · exact hc ⟨r', hr', h.symm⟩
theorem cn_all {n : Int} {p : List Ln} (h : ∀ x y, 0 ≤ x → x < n → 0 ≤ y → y < n → Cn p x y) : n.toNat ≤ p.length + 1 := by
  obtain ⟨R, h1, h2, h3, h4⟩ := cn_count (n := n) p.length p rfl
  have : R.length ≤ 1 := by
    match R, h1, h2, h4 with
    | [], _, _, _ => simp
    | [_], _, _, _ => simp
    | a :: b :: R, h1, h2, h4 =>
      have ha := h2 a (by simp)
      have hb := h2 b (by simp)
      have hne : a ≠ b := fun e => by subst e; simp at h1
      exact absurd (h a b ha.1 ha.2 hb.1 hb.2) (h4 a (by simp) b (by simp) hne)
  omega
structure Tr (n : Int) (ls : List Ln) (ix : List Int) : Prop where
  n1 : 1 ≤ n ∧ n ≤ 12
  ok : ∀ l ∈ ls, 0 ≤ l.a ∧ l.a < n ∧ 0 ≤ l.b ∧ l.b < n
  uq : Uq ls
  nd : ix.Nodup
  rg : ∀ x ∈ ix, 0 ≤ x ∧ x < ls.length
  len : (ix.length : Int) = n - 1
  all : ∀ x y, 0 ≤ x → x < n → 0 ≤ y → y < n → Cn (ix.map (lnAt ls)) x y
theorem incB_lt {xs : List Int} (h : incB xs = true) : ∀ (d i : Nat), i + d + 1 < xs.length → xs.getD i 0 < xs.getD (i + d + 1) 0 := by
  have one : ∀ i, i + 1 < xs.length → xs.getD i 0 < xs.getD (i + 1) 0 := fun i hi => by
    have := List.all_eq_true.1 h (i + 1) (List.mem_range.2 hi)
    simpa [incAt] using this
  intro d
  induction d with
  | zero => exact one
  | succ d ih =>
    intro i hi
    have h1 := ih i (by omega)
    have h2 := one (i + d + 1) (by omega)
    have e : i + d + 1 + 1 = i + (d + 1) + 1 := by omega
    rw [e] at h2
    omega
theorem incB_nd {xs : List Int} (h : incB xs = true) : xs.Nodup := by
  refine List.pairwise_iff_getElem.2 fun i j hi hj hij he => ?_
  have h1 := incB_lt h (j - i - 1) i (by omega)
  have e : i + (j - i - 1) + 1 = j := by omega
  rw [e] at h1
  simp only [List.getD, List.getElem?_eq_getElem hi, List.getElem?_eq_getElem hj, Option.getD_some, he] at h1
  omega
theorem Tr.of {n : Int} {ls : List Ln} {ix : List Int} (hN : 1 ≤ n ∧ n ≤ 12) (hL : ∀ l ∈ ls, 0 ≤ l.a ∧ l.a < n ∧ 0 ≤ l.b ∧ l.b < n) (hu : Uq ls) (h : isT n ls ix = true) : Tr n ls ix := by
  simp only [isT, Bool.and_eq_true, beq_iff_eq] at h
  obtain ⟨⟨⟨h1, h2⟩, h3⟩, h4⟩ := h
  have hg := inW_get h2
  obtain ⟨hG, hR⟩ := reachV_spec (frm := 0) hL hg (by omega)
  have hin : ∀ x, 0 ≤ x → x < n → Cn (ix.map (lnAt ls)) 0 x := fun x h0 h1 => by
    refine (hR x).1 (Classical.byContradiction fun hc => ?_)
    have := pigeon n.toNat (x :: reachV n ls ix 0) (List.nodup_cons.2 ⟨hc, hG.1⟩) fun y hy => by
      rcases List.mem_cons.1 hy with rfl | hy
      · omega
      · have := hG.2 y hy; omega
    simp only [List.length_cons] at this
    omega
  exact ⟨hN, hL, hu, incB_nd h1, hg, h3, fun x y hx hx1 hy hy1 => (hin x hx hx1).symm.trans (hin y hy hy1)⟩
theorem Tr.cut {n : Int} {ls : List Ln} {ix : List Int} (h : Tr n ls ix) {k : Nat} (hk : k < ls.length) (hm : (k : Int) ∈ ix) {u v : Int} (hl : linkP u v ls[k] = true) : ¬ Cn ((ix.filter fun x => !(x == (k : Int))).map (lnAt ls)) u v := fun hc => by
  have up : ∀ {x y : Int}, Cn (ix.map (lnAt ls)) x y → Cn ((ix.filter fun x => !(x == (k : Int))).map (lnAt ls)) x y := fun hh => by
    induction hh with
    | refl => exact .refl
    | @step y z _ e ih =>
      obtain ⟨l, hl', e⟩ := e
      obtain ⟨t, ht, rfl⟩ := List.mem_map.1 hl'
      by_cases he : t = (k : Int)
      · subst he
        have hat : lnAt ls (k : Int) = ls[k] := by simp [lnAt, List.getD, hk]
        rw [hat] at e
        refine ih.trans ?_
        rcases linkP_iff.1 e with ⟨a, b⟩ | ⟨a, b⟩ <;> rcases linkP_iff.1 hl with ⟨a', b'⟩ | ⟨a', b'⟩
        · rw [← a, ← b, a', b']; exact hc
        · rw [← a, ← b, a', b']; exact hc.symm
        · rw [← a, ← b, a', b']; exact hc.symm
        · rw [← a, ← b, a', b']; exact hc
      · refine ih.step ⟨_, List.mem_map.2 ⟨t, List.mem_filter.2 ⟨ht, ?_⟩, rfl⟩, e⟩
        have : (t == (k : Int)) = false := by simpa using he
        rw [this]; rfl
  have h1 := cn_all (n := n) fun x y hx hx1 hy hy1 => up (h.all x y hx hx1 hy hy1)
  have h2 : (ix.filter fun x => !(x == (k : Int))).length < ix.length := by
    refine Nat.lt_of_le_of_ne (List.length_filter_le _ _) fun e => ?_
    have := List.length_filter_eq_length_iff.1 e (k : Int) hm
    simp at this
  have := h.len
  have := h.n1
  rw [List.length_map] at h1
  omega
theorem Tr.way {n : Int} {ls : List Ln} {ix : List Int} (h : Tr n ls ix) {may : List Bool} (hmay : ∀ i, i < ls.length → (may.getD i false = true ↔ (i : Int) ∈ ix)) {x root : Int} {p q : List Int} (hp : Pq ls may x p q root) {k : Nat} (hk : k < ls.length) (hm : (k : Int) ∈ ix) :
    (k : Int) ∈ q ↔ ¬ Cn ((ix.filter fun x => !(x == (k : Int))).map (lnAt ls)) root x := by
  constructor
  · intro hq hc
    obtain ⟨u, v, g1, g2, g3⟩ := hp.on hmay hk hq
    exact h.cut hk hm g1 (g2.symm.trans (hc.symm.trans g3.symm))
  · intro hc
    exact Classical.byContradiction fun hq => hc (hp.off hmay hq).symm
end Go.Proofs.Ytglfcaioapdiaaa.Bk

-- Loads of a tree: what both functions count.
namespace Go.Proofs.Ytglfcaioapdiaaa.Bk
open Go Go.Proofs.Ytglfcaioapdiaaa.Aw
set_option linter.unusedSimpArgs false
set_option linter.unusedVariables false
def sumV (d : List Int) (P : Nat → Bool) : Nat → Int
  | 0 => 0
  | x + 1 => sumV d P x + (if P x then d.getD x 0 else 0)
theorem sumV_congr {d : List Int} {P Q : Nat → Bool} : ∀ x : Nat, (∀ y, y < x → P y = Q y) → sumV d P x = sumV d Q x
  | 0, _ => rfl
  | x + 1, h => by simp only [sumV]; rw [sumV_congr x fun y hy => h y (by omega), h x (by omega)]
section
variable (n : Int) (ls : List Ln) (ix : List Int) (root : Int) (d : List Int)
def cutB (i : Int) (x : Nat) : Bool := !((reachV n ls (othI ix i) root).any fun y => y == (x : Int))
def loF (j i : Nat) : Int := if (i : Int) ∈ ix.take j then sumV d (cutB n ls ix root i) n.toNat else 0
variable {n ls ix root d}
end
def qnB (q : Nat → List Int) (i x : Nat) : Bool := (q x).any fun y => y == (i : Int)
def spF (d : List Int) (q : Nat → List Int) (x i : Nat) : Int := sumV d (qnB q i) x
theorem way_of {ls : List Ln} {may : List Bool} {ix : List Int} {s : Int} (hmay : ∀ i, i < ls.length → (may.getD i false = true ↔ (i : Int) ∈ ix)) (hrg : ∀ x ∈ ix, 0 ≤ x ∧ x < ls.length) {t : Int} (h : Cn (ix.map (lnAt ls)) s t) : ∃ p c, Pt (Lk ls may false) s p c t := by
  induction h with
  | refl => exact ⟨[s], 0, .one⟩
  | @step y z _ e ih =>
    obtain ⟨p, c, hp⟩ := ih
    obtain ⟨l, hl, e⟩ := e
    obtain ⟨u, hu, rfl⟩ := List.mem_map.1 hl
    have hur := hrg u hu
    have hi : u.toNat < ls.length := by omega
    have hat : lnAt ls u = ls[u.toNat] := by simp [lnAt, List.getD, hi]
    rw [hat] at e
    have hm : may.getD u.toNat false = true := (hmay _ hi).2 (by rw [show ((u.toNat : Nat) : Int) = u by omega]; exact hu)
    have hE : Lk ls may false y z 0 := ⟨u.toNat, hi, hm, linkP_iff.1 e, by simp [costW]⟩
    by_cases hz : z ∈ p
    · obtain ⟨q, _, c', _, hq, _⟩ := hp.pre (fun _ _ _ h => by obtain ⟨_, _, _, _, e⟩ := h; simp [costW] at e; omega) z hz
      exact ⟨q, c', hq⟩
    · exact ⟨p ++ [z], c + 0, .step hp hE hz⟩
def wyQ (n : Int) (ls : List Ln) (ix : List Int) (root : Int) (x : Nat) : List Int :=
  rtI ls (routeW n ls (mayT ls.length ix ix.length) false (x : Int) root).p (routeW n ls (mayT ls.length ix ix.length) false (x : Int) root).p.length
theorem Tr.may {n : Int} {ls : List Ln} {ix : List Int} (h : Tr n ls ix) : ∀ i, i < ls.length → ((mayT ls.length ix ix.length).getD i false = true ↔ (i : Int) ∈ ix) := fun i hi => by
  rw [mayT_get hi ix.length (Nat.le_refl _), List.take_length]
  constructor
  · rintro ⟨t, ht, e⟩
    have := h.rg t ht
    rw [show (i : Int) = t by omega]; exact ht
  · exact fun hm => ⟨_, hm, by simp⟩
theorem Tr.route {n : Int} {ls : List Ln} {ix : List Int} (h : Tr n ls ix) {root : Int} (hr : 0 ≤ root ∧ root < n) {x : Nat} (hx : (x : Int) < n) :
    (routeW n ls (mayT ls.length ix ix.length) false (x : Int) root).f = true ∧ Pq ls (mayT ls.length ix ix.length) (x : Int) (routeW n ls (mayT ls.length ix ix.length) false (x : Int) root).p (wyQ n ls ix root x) root := by
  have hE : ∀ x y o, Lk ls (mayT ls.length ix ix.length) false x y o → 0 ≤ o ∧ (0 ≤ x ∧ x < n) ∧ (0 ≤ y ∧ y < n) := fun x y o he => by
    obtain ⟨i, hi, _, hor, e⟩ := he
    have := h.ok _ (List.getElem_mem hi)
    refine ⟨by simp [costW] at e; omega, ?_⟩
    rcases hor with ⟨a, b⟩ | ⟨a, b⟩ <;> omega
  obtain ⟨r1, r2⟩ := route_spec (E := Lk ls (mayT ls.length ix ix.length) false) (s := (x : Int)) (n := n) hE (by omega) rfl hr
  obtain ⟨p, c, hp⟩ := way_of h.may h.rg (h.all (x : Int) root (by omega) hx hr.1 hr.2)
  have hf := (r2 p c hp).1
  exact ⟨hf, Pq.of h.uq (r1 hf)⟩
theorem Tr.loads {n : Int} {ls : List Ln} {ix : List Int} (h : Tr n ls ix) {root : Int} (hr : 0 ≤ root ∧ root < n) (d : List Int) {i : Nat} (hi : i < ls.length) : spF d (wyQ n ls ix root) n.toNat i = loF n ls ix root d ix.length i := by
  unfold spF loF
  rw [List.take_length]
  by_cases hm : (i : Int) ∈ ix
  · rw [if_pos hm]
    refine sumV_congr _ fun x hx => ?_
    have hxn : (x : Int) < n := by omega
    have hw := (h.route hr hxn).2
    have h1 := h.way h.may hw hi hm
    have hoix : ∀ y ∈ othI ix i, 0 ≤ y ∧ y < ls.length := fun y hy => h.rg y (List.mem_filter.1 hy).1
    have h2 := (reachV_spec (frm := root) h.ok hoix hr).2 (x : Int)
    rw [Bool.eq_iff_iff]
    simp only [qnB, cutB, List.any_eq_true, beq_iff_eq, Bool.not_eq_true', List.any_eq_false, exists_eq_right]
    rw [h1]
    have e : (ix.filter fun x => !(x == (i : Int))) = othI ix i := rfl
    rw [e, ← h2]
    constructor
    · intro hn y hy e; exact hn (e ▸ hy)
    · intro hn hy; exact hn _ hy rfl
  · rw [if_neg hm]
    have : ∀ x : Nat, x ≤ n.toNat → sumV d (qnB (wyQ n ls ix root) i) x = 0 := fun x => by
      induction x with
      | zero => intro _; rfl
      | succ x ih =>
        intro hx
        have hw := (h.route hr (x := x) (by omega)).2
        have hq : qnB (wyQ n ls ix root) i x = false := by
          simp only [qnB, List.any_eq_false, beq_iff_eq]
          intro y hy e
          subst e
          obtain ⟨j, hj, e, hmj, _⟩ := hw.idx _ hy
          have : i = j := by omega
          subst this
          exact hm ((h.may i hi).1 hmj)
        simp only [sumV, hq, ih (by omega)]
        simp
    exact this _ (Nat.le_refl _)
theorem Pq.rtB {n : Int} {ls : List Ln} {may : List Bool} {s : Int} (hL : ∀ l ∈ ls, 0 ≤ l.a ∧ l.a < n ∧ 0 ≤ l.b ∧ l.b < n) (hs : 0 ≤ s ∧ s < n) {p q : List Int} {t : Int} (h : Pq ls may s p q t) : p ≠ [] ∧ ∀ j, j < p.length → goodR n ls p j = true := by
  induction h with
  | one =>
    refine ⟨by simp, fun j hj => ?_⟩
    simp at hj
    subst hj
    simp [goodR, inB]; omega
  | @step p q x y i h hi hm hl hy ih =>
    obtain ⟨h1, h3⟩ := ih
    have h2 := h.len.2
    refine ⟨by simp, fun j hj => ?_⟩
    simp only [List.length_append, List.length_singleton] at hj
    have hp0 : 0 < p.length := List.length_pos_iff.2 h1
    by_cases hjl : j < p.length
    · have := h3 j hjl
      have e1 : (p ++ [y]).getD j 0 = p.getD j 0 := by simp [List.getD, List.getElem?_append_left hjl]
      have e2 : (p ++ [y]).take j = p.take j := List.take_append_of_le_length (by omega)
      have e3 : (p ++ [y]).getD (j - 1) 0 = p.getD (j - 1) 0 := by simp [List.getD, List.getElem?_append_left (show j - 1 < p.length by omega)]
      simp only [goodR, lkAt, e1, e2, e3] at this ⊢
      exact this
    · have hje : j = p.length := by omega
      subst hje
      have e1 : (p ++ [y]).getD p.length 0 = y := by simp [List.getD]
      have e2 : (p ++ [y]).take p.length = p := by simp
      have e3 : (p ++ [y]).getD (p.length - 1) 0 = x := by
        simp only [List.getD, List.getElem?_append_left (show p.length - 1 < p.length by omega)]
        rw [← List.getLast?_eq_getElem?, h2]; rfl
      have hrng : 0 ≤ y ∧ y < n := by
        have := hL _ (List.getElem_mem hi)
        rcases linkP_iff.1 hl with ⟨a, b⟩ | ⟨a, b⟩ <;> omega
      have hlk : 0 ≤ ixG (linkP x y) ls := by
        have := ixG_any (linkP x y) ls
        rw [List.any_eq_true.2 ⟨ls[i], List.getElem_mem hi, hl⟩] at this
        simpa using this
      simp only [goodR, lkAt, e1, e2, e3, Bool.and_eq_true, Bool.or_eq_true, decide_eq_true_eq]
      refine ⟨⟨by simp [inB]; omega, ?_⟩, .inr hlk⟩
      simp only [Bool.not_eq_true', List.any_eq_false, beq_iff_eq]
      exact fun z hz e => hy (e ▸ hz)
end Go.Proofs.Ytglfcaioapdiaaa.Bk

namespace Go.Proofs.Ytglfcaioapdiaaa.Bk
open Go
set_option linter.unusedSimpArgs false
set_option linter.unusedVariables false
set_option linter.unusedSectionVars false
section
variable {n : Int} {ls : List Ln} {ys : List Int} (hN : 1 ≤ n ∧ n ≤ 12) (hL : ∀ l ∈ ls, 0 ≤ l.a ∧ l.a < n ∧ 0 ≤ l.b ∧ l.b < n) (hys : ∀ x ∈ ys, 0 ≤ x ∧ x < ls.length)
include hN hL hys
end
section
variable {n : Int} {ls : List Ln} (hb : bkB n ls = true) (hN : 1 ≤ n ∧ n ≤ 12) (hL : ∀ l ∈ ls, 0 ≤ l.a ∧ l.a < n ∧ 0 ≤ l.b ∧ l.b < n) (hl : ((treK n ls).length : Int) = n - 1)
include hb hN hL hl
end
/-! the loads at the root -/
end Go.Proofs.Ytglfcaioapdiaaa.Bk

namespace Go.Proofs.Ytglfcaioapdiaaa.Sr
open Go Go.RowKit Go.Proofs.Ytglfcaioapdiaaa.Aw
set_option linter.unusedSimpArgs false
set_option linter.unusedVariables false
attribute [local irreducible] AW SQ Step RO RC DE Thn InB
set_option maxHeartbeats 4000000 in
theorem one_rc (b : Nat) (s : Sr) (n : Int) (h : s.ok 900000) (hn : n ≤ 1000000) (j : Nat) : RC Try.prog 86 [.ptr b 0 0, .v (.int .i64 n)] [(b, ⟨133, 3, false, [srR s]⟩)] j (.v (.bool ((pk s n).1 == 0))) [(b, some ⟨133, 3, false, [srR (pk s n).2]⟩)] j := by
  refine RC.ofc [b] 0 [.ptr 0 0 0, .v (.int .i64 n)] [(0, ⟨133, 3, false, [srR s]⟩)] (.v (.bool ((pk s n).1 == 0))) [(0, some ⟨133, 3, false, [srR (pk s n).2]⟩)] Try.func86 Try.ntmps86 rfl (goFn_of Try.func86 rfl (by kernel_rfl)) rfl rfl rfl rfl rfl rfl rfl rfl (by simp_all) rfl ?_
  have hp := pick_rc 0 s n h hn
  ((repeat' (first
    | (show SQ _ _ _ _ _ _ _ _; first | apply sq_nil | (apply q_move; exact rfl; exact rfl) | (apply q_assign; exact rfl; exact rfl) | (apply q_eql; iterate 3 exact rfl))
    | (show SQ _ _ _ _ _ _ _ _; (first | (apply q_callC; (iterate 3 exact rfl); exact hp _; (focus ((repeat (first | exact trivial | refine ⟨by first | exact rfl | assumption, ?_⟩)); done)); skip)); (try simp only [put, rowsOf, plR, selE, ovr, setH, del, cellsA, splice, isV, spq, if_true, if_false]))
    | (show AW _ _ _ _ _ _ _ _; first | refine aw_region ?_ | (refine aw_seqk ?_; intro K hK) | refine aw_ret ?_)
    | refine thn_n ?_
    | (refine hK _ _ _ ?_; clear hK K))); all_goals (repeat (clear hK K)))
  exact finc (fun i => i) (.r1 _ _ (.tmp _ _ rfl)) rfl (fun _ _ => rfl) ⟨rfl, trivial⟩ rfl
def am (ws : List Int) (s : Sr) : Int × Sr := (ws.getD (pk s ws.length).1.toNat 0, (pk s ws.length).2)
theorem am_ok {s : Sr} {k : Int} (ws : List Int) (h : s.ok k) : (am ws s).2.ok (k + 2) := pk_ok _ h
def nuR (ws : List Int) : List (List AV) := ws.map fun w => [.v (.int .i64 w)]
set_option maxHeartbeats 4000000 in
theorem among_rc (b c : Nat) (s : Sr) (ws : List Int) (hbc : b ≠ c) (h : s.ok 900000) (hw : 1 ≤ ws.length) (hw2 : ws.length ≤ 1000) (k : Nat) :
    RC Try.prog 85 [.ptr b 0 0, .sl c 0 ws.length] [(b, ⟨133, 3, false, [srR s]⟩), (c, ⟨2, 1, true, nuR ws⟩)] k (.v (.int .i64 (am ws s).1)) [(b, some ⟨133, 3, false, [srR (am ws s).2]⟩), (c, some ⟨2, 1, true, nuR ws⟩)] k := by
  have hp := pk_bd s ws.length (by omega)
  obtain ⟨i, hi⟩ : ∃ i : Nat, (pk s ws.length).1 = i := ⟨(pk s ws.length).1.toNat, by omega⟩
  have hil : i < ws.length := by omega
  have hr2 : (nuR ws)[0 + ((i : Int)).toNat]? = some [.v (.int .i64 ws[i])] := by simp [nuR, hil]
  have hv : (am ws s).1 = ws[i] := by simp [am, hi, hil]
  have hs : (am ws s).2 = (pk s ws.length).2 := rfl
  rw [hv, hs]
  refine RC.ofc [b, c] 0 [.ptr 0 0 0, .sl 1 0 ws.length] [(0, ⟨133, 3, false, [srR s]⟩), (1, ⟨2, 1, true, nuR ws⟩)] (.v (.int .i64 ws[i])) [(0, some ⟨133, 3, false, [srR (pk s ws.length).2]⟩), (1, some ⟨2, 1, true, nuR ws⟩)] Try.func85 Try.ntmps85 rfl (goFn_of Try.func85 rfl (by kernel_rfl)) rfl rfl rfl rfl rfl rfl rfl rfl (by simp_all) rfl ?_
  have hpk := pick_rc 0 s (ws.length : Int) h (by omega)
  rw [hi] at hpk
  ((repeat' (first
    | (show SQ _ _ _ _ _ _ _ _; first | apply sq_nil | (apply q_move; exact rfl; exact rfl) | (apply q_assign; exact rfl; exact rfl) | (apply q_lenl; exact rfl; exact rfl; exact (ty rfl); exact rfl) | (apply q_ixl; (iterate 3 exact rfl); exact (ty rfl); (iterate 3 exact rfl); exact (by first | omega | (simp; done) | (simp; omega)); exact (by first | omega | (simp; done) | (simp; omega))) | (apply q_ld1p; exact rfl; exact rfl; exact (ty rfl); exact rfl; exact rfl; exact (by first | rfl | assumption | ((try simp only [Nat.zero_add]); refine List.getElem?_set_self ?_; (try simp only [List.length_set]); assumption)); exact rfl))
    | (show SQ _ _ _ _ _ _ _ _; (first | (apply q_callC; (iterate 3 exact rfl); exact hpk _; (focus ((repeat (first | exact trivial | refine ⟨by first | exact rfl | assumption, ?_⟩)); done)); skip)); (try simp only [put, rowsOf, plR, selE, ovr, setH, del, cellsA, splice, isV, spq, if_true, if_false]))
    | (show AW _ _ _ _ _ _ _ _; first | refine aw_region ?_ | (refine aw_seqk ?_; intro K hK) | refine aw_ret ?_)
    | refine thn_n ?_
    | (refine hK _ _ _ ?_; clear hK K))); all_goals (repeat (clear hK K)))
  exact finc (fun i => i) (.r1 _ _ (.tmp _ _ rfl)) rfl (fun _ _ => rfl) ⟨rfl, rfl, trivial⟩ rfl
end Go.Proofs.Ytglfcaioapdiaaa.Sr
