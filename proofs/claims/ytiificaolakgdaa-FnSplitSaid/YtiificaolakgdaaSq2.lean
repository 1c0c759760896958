/-
  A licence of choices.
-/
import Derived.Test.YtiificaolakgdaaSq0
import Derived.Test.YtiificaolakgdaaLiA
import Derived.Test.YtiificaolakgdaaSq1
import Derived.Test.YtiificaolakgdaaLnI
namespace Go.Proofs.Ytiificaolakgdaa.Li
open Go Go.RowKit Go.Proofs.Ytiificaolakgdaa.Aw Go.Proofs.Ytiificaolakgdaa.Ar Go.Proofs.Ytiificaolakgdaa.Sr
set_option linter.unusedSimpArgs false
set_option linter.unusedVariables false
attribute [local irreducible] AW SQ Step RO RC DE Thn InB

/-- one draw: what it gives and where the source stands then -/
structure Pk (s : Sr) (n k x : Int) (s' : Sr) : Prop where
  lo : 0 ≤ x
  hi : x < n
  ok : s'.ok (k + 2)
  rc : ∀ j b, RC Try.prog 63 [.ptr b 0 0, .v (.int .i64 n)] [(b, ⟨81, 3, false, [srR s]⟩)] j (.v (.int .i64 x)) [(b, some ⟨81, 3, false, [srR s']⟩)] j
theorem pk_all {s : Sr} {k : Int} (n : Int) (h : s.ok k) (hk : k ≤ 900000) (h1 : 1 ≤ n) (hn : n ≤ 1000000) : Pk s n k (pk s n).1 (pk s n).2 :=
  ⟨(pk_bd s n h1).1, (pk_bd s n h1).2, pk_ok n h, fun j b => pick_rc b s n (h.mono hk) hn j⟩
def drwA (s : Sr) : (Int × Int × Int × Int) × Sr :=
  let p := pk s 30; let q := pk p.2 30; let r := pk q.2 30; let t := pk r.2 30
  ((100 * p.1, 100 * q.1, 100 * p.1 + 100 * r.1, 100 * q.1 + 100 * t.1), t.2)
theorem w64 (x : Int) (h0 : 0 ≤ x) (h1 : x ≤ 4000000000) : IntKind.i64.wrap x = x := IntWalk.i64_in _ (by omega)
set_option maxHeartbeats 4000000 in
theorem l26DrawArea_rc (b : Nat) (s : Sr) (h : s.ok 800000) (k : Nat) : RC Try.prog 86 [.ptr b 0 0] [(b, ⟨81, 3, false, [srR s]⟩)] k (areaA (drwA s).1.1 (drwA s).1.2.1 (drwA s).1.2.2.1 (drwA s).1.2.2.2) [(b, some ⟨81, 3, false, [srR (drwA s).2]⟩)] k := by
  unfold drwA areaA
  dsimp only
  have h1 := pk_all 30 h (by omega) (by omega) (by omega)
  have h2 := pk_all 30 h1.ok (by omega) (by omega) (by omega)
  have h3 := pk_all 30 h2.ok (by omega) (by omega) (by omega)
  have h4 := pk_all 30 h3.ok (by omega) (by omega) (by omega)
  generalize pk s 30 = p at *
  generalize pk p.2 30 = q at *
  generalize pk q.2 30 = r at *
  generalize pk r.2 30 = t at *
  obtain ⟨x1, s1⟩ := p
  obtain ⟨x2, s2⟩ := q
  obtain ⟨x3, s3⟩ := r
  obtain ⟨x4, s4⟩ := t
  dsimp only at *
  have a1 := h1.lo
  have b1 := h1.hi
  have a2 := h2.lo
  have b2 := h2.hi
  have a3 := h3.lo
  have b3 := h3.hi
  have a4 := h4.lo
  have b4 := h4.hi
  have w1 := w64 (100 * x1) (by omega) (by omega)
  have w2 := w64 (100 * x2) (by omega) (by omega)
  have w3 := w64 (100 * x3) (by omega) (by omega)
  have w4 := w64 (100 * x4) (by omega) (by omega)
  have w5 := w64 (100 * x1 + 100 * x3) (by omega) (by omega)
  have w6 := w64 (100 * x2 + 100 * x4) (by omega) (by omega)
  refine RC.ofc [b] 0 [.ptr 0 0 0] [(0, ⟨81, 3, false, [srR s]⟩)] (.agg [.v (.int .i64 (100 * x1)), .v (.int .i64 (100 * x2)), .v (.int .i64 (100 * x1 + 100 * x3)), .v (.int .i64 (100 * x2 + 100 * x4))]) [(0, some ⟨81, 3, false, [srR s4]⟩)] Try.func86 Try.ntmps86 rfl (goFn_of Try.func86 rfl (by kernel_rfl)) rfl rfl rfl rfl rfl rfl rfl rfl (by simp_all) rfl ?_
  ((repeat' (first
    | (show SQ _ _ _ _ _ _ _ _; first | apply sq_nil | (apply q_move; exact rfl; exact rfl) | (apply q_fieldAddr; exact rfl; exact rfl; exact (ty rfl); exact rfl; exact rfl; exact rfl; exact rfl) | (apply q_mul; exact rfl; exact rfl; exact rfl) | (apply q_build; exact rfl; exact (ty rfl); exact rfl; exact rfl; exact rfl))
    | (show SQ _ _ _ _ _ _ _ _; (first | (apply q_ldap; exact rfl; exact rfl; exact (ty rfl); exact rfl; exact rfl; exact (by first | rfl | assumption | ((try simp only [Nat.zero_add]); refine List.getElem?_set_self ?_; (try simp only [List.length_set]); assumption)); exact rfl) | (apply q_alloc; exact rfl; exact (ty rfl); exact rfl; exact rfl) | (apply q_store; exact rfl; exact rfl; exact (ty rfl); exact rfl; exact (by first | rfl | assumption | ((try simp only [Nat.zero_add]); refine List.getElem?_set_self ?_; (try simp only [List.length_set]); assumption)); exact rfl; exact rfl; exact rfl) | (apply q_callC; exact rfl; exact rfl; exact rfl; exact h1.rc _ 0; (focus ((repeat (first | exact trivial | refine ⟨by first | exact rfl | assumption, ?_⟩)); done)); skip) | (apply q_callC; exact rfl; exact rfl; exact rfl; exact h2.rc _ 0; (focus ((repeat (first | exact trivial | refine ⟨by first | exact rfl | assumption, ?_⟩)); done)); skip)); (try simp only [put, rowsOf, plR, List.all_cons, selE, ovr, setH, del, cellsA, splice, isV, List.nil_append, List.cons_append, List.map_cons, List.map_nil, List.length_cons, List.length_nil, List.set_cons_zero, List.set_cons_succ, List.take_succ_cons, List.take_zero, List.take_nil, List.drop_succ_cons, List.drop_zero, List.drop_nil, List.append_nil, List.all_cons, List.all_nil, Bool.and_true, Bool.true_and, Bool.and_false, Bool.false_and, Nat.reduceAdd, Nat.zero_add, Nat.add_zero, Nat.reduceEqDiff, if_true, if_false, reduceIte]))
    | (show DE _ _ _ _ _ _ _ _ _ _ _ _; first | (apply e_move; exact rfl; exact rfl; exact rfl) | (apply e_fieldAddr; exact rfl; exact rfl; exact (ty rfl); exact rfl; exact rfl; exact rfl; exact rfl; exact rfl) | (apply e_add; exact rfl; exact rfl; exact rfl; exact rfl) | (apply e_mul; exact rfl; exact rfl; exact rfl; exact rfl))
    | (show DE _ _ _ _ _ _ _ _ _ _ _ _; (first | (apply dr_nil; kernel_rfl) | (apply e_rd1; exact rfl; exact rfl; exact (ty rfl); exact rfl; exact rfl; exact (by first | rfl | assumption | ((try simp only [Nat.zero_add]); refine List.getElem?_set_self ?_; (try simp only [List.length_set]); assumption)); exact rfl; exact rfl; exact rfl) | (apply e_store; exact rfl; exact rfl; exact (ty rfl); exact rfl; exact (by first | rfl | assumption | ((try simp only [Nat.zero_add]); refine List.getElem?_set_self ?_; (try simp only [List.length_set]); assumption)); exact rfl; exact rfl; exact rfl; exact rfl) | (apply e_callC; exact rfl; exact rfl; exact rfl; exact h3.rc _ 0; (focus ((repeat (first | exact trivial | refine ⟨by first | exact rfl | assumption, ?_⟩)); done)); exact rfl; skip) | (apply e_callC; exact rfl; exact rfl; exact rfl; exact h4.rc _ 0; (focus ((repeat (first | exact trivial | refine ⟨by first | exact rfl | assumption, ?_⟩)); done)); exact rfl; skip)); (try simp only [put, rowsOf, plR, List.all_cons, selE, ovr, setH, del, cellsA, splice, isV, List.nil_append, List.cons_append, List.map_cons, List.map_nil, List.length_cons, List.length_nil, List.set_cons_zero, List.set_cons_succ, List.take_succ_cons, List.take_zero, List.take_nil, List.drop_succ_cons, List.drop_zero, List.drop_nil, List.append_nil, List.all_cons, List.all_nil, Bool.and_true, Bool.true_and, Bool.and_false, Bool.false_and, Nat.reduceAdd, Nat.zero_add, Nat.add_zero, Nat.reduceEqDiff, if_true, if_false, reduceIte]))
    | (show AW _ _ _ _ _ _ _ _; first | refine aw_region ?_ | (refine aw_seqk ?_; intro K hK) | refine aw_ret ?_ | refine aw_drawE (id := 3) [0, 1, 0, 4, 12, 31, 63, 127] [0, 0, 0, 2, 0, 0, 0, 2, 1, 2] mixed (by kernel_rfl) ?_ | refine aw_drawE (id := 4) [0, 1, 0, 4, 12, 31, 63, 127] [0, 0, 0, 2, 0, 0, 0, 2, 1, 2] mixed (by kernel_rfl) ?_)
    | refine thn_n ?_
    | (refine hK _ _ _ ?_; clear hK K))); all_goals (repeat (clear hK K)))
  exact finc (fun i => i) (.r1 _ _ (.agg _ _ _ _ _ rfl (.inr ⟨_, _, _, _, _, rfl, rfl, rfl, rfl⟩) (ty rfl) rfl (Nat.le_of_ble_eq_true rfl))) (by simp only [w1, w2, w3, w4, w5, w6]; rfl) (fun _ _ => rfl) ⟨rfl, trivial⟩ rfl
theorem drwA_ok {s : Sr} (h : s.ok 800000) {k : Int} (hk : s.ok k) : (drwA s).2.ok (k + 8) ∧ areaB (drwA s).1.1 (drwA s).1.2.1 (drwA s).1.2.2.1 (drwA s).1.2.2.2 = true := by
  unfold drwA
  dsimp only
  have h1 := pk_bd s 30 (by omega)
  have h2 := pk_bd (pk s 30).2 30 (by omega)
  have h3 := pk_bd (pk (pk s 30).2 30).2 30 (by omega)
  have h4 := pk_bd (pk (pk (pk s 30).2 30).2 30).2 30 (by omega)
  refine ⟨(pk_ok _ (pk_ok _ (pk_ok _ (pk_ok _ hk)))).mono (by omega), ?_⟩
  unfold areaB
  simp only [decide_eq_true_eq]
  omega
def fiveT : List ByteArray := [⟨#[97]⟩, ⟨#[98]⟩, ⟨#[99]⟩, ⟨#[100]⟩, ⟨#[101]⟩]
def twoT : List ByteArray := [⟨#[111, 110, 101]⟩, ⟨#[116, 119, 111]⟩]
structure Tk (s : Sr) (ws : List ByteArray) (k : Int) (w : ByteArray) (s' : Sr) : Prop where
  mem : w ∈ ws
  ok : s'.ok (k + 2)
  rc : ∀ j b c, b ≠ c → RC Try.prog 85 [.ptr b 0 0, .sl c 0 ws.length] [(b, ⟨81, 3, false, [srR s]⟩), (c, ⟨9, 1, true, ws.map fun w => [.v (.string w)]⟩)] j (.v (.string w)) [(b, some ⟨81, 3, false, [srR s']⟩), (c, some ⟨9, 1, true, ws.map fun w => [.v (.string w)]⟩)] j
def tk (s : Sr) (ws : List ByteArray) : ByteArray × Sr := (ws.getD (pk s ws.length).1.toNat .empty, (pk s ws.length).2)
theorem tk_all {s : Sr} {k : Int} (ws : List ByteArray) (h : s.ok k) (hk : k ≤ 900000) (h1 : 1 ≤ ws.length) (hn : ws.length ≤ 1000) : Tk s ws k (tk s ws).1 (tk s ws).2 := by
  refine ⟨?_, pk_ok _ h, fun j b c hbc => text_rc b c s ws hbc (h.mono hk) h1 hn j⟩
  have hp := pk_bd s ws.length (by omega)
  have hl : (pk s ws.length).1.toNat < ws.length := by omega
  unfold tk
  dsimp only
  rw [List.getD_eq_getElem?_getD, List.getElem?_eq_getElem hl]
  exact List.getElem_mem _
def dO (s : Sr) : Lic × Sr :=
  let i := tk s fiveT; let o := tk i.2 twoT; let p := pk o.2 40; let q := pk p.2 20; let a := drwA q.2; let r := pk a.2 200; let t := pk r.2 200
  (⟨i.1, o.1, 900000 + 100 * p.1, 900000 + 100 * p.1 + 100 * (1 + q.1), a.1.1, a.1.2.1, a.1.2.2.1, a.1.2.2.2, r.1, r.1 + t.1, 40000⟩, t.2)
structure Dk (s : Sr) (k : Int) (x : Lic) (s' : Sr) : Prop where
  mem : x.id ∈ fiveT
  lic : licB x = true
  sm : x.sm
  ok : s'.ok (k + 20)
  rc : ∀ j b, RC Try.prog 64 [.ptr b 0 0] [(b, ⟨81, 3, false, [srR s]⟩)] j (.agg (licL x)) [(b, some ⟨81, 3, false, [srR s']⟩)] j
theorem five_ok {w : ByteArray} (h : w ∈ fiveT) : Nm.nameB w = true ∧ w.size ≤ 10 := by
  simp only [fiveT, List.mem_cons, List.not_mem_nil, or_false] at h
  rcases h with rfl | rfl | rfl | rfl | rfl <;> decide
theorem two_ok {w : ByteArray} (h : w ∈ twoT) : Nm.nameB w = true ∧ w.size ≤ 10 := by
  simp only [twoT, List.mem_cons, List.not_mem_nil, or_false] at h
  rcases h with rfl | rfl <;> decide
set_option maxHeartbeats 4000000 in
theorem dO_all {s : Sr} {k : Int} (h : s.ok k) (hk : k ≤ 700000) : Dk s k (dO s).1 (dO s).2 := by
  unfold dO
  dsimp only
  have h1 := tk_all fiveT h (by omega) (by decide) (by decide)
  have h2 := tk_all twoT h1.ok (by omega) (by decide) (by decide)
  have h3 := pk_all 40 h2.ok (by omega) (by omega) (by omega)
  have h4 := pk_all 20 h3.ok (by omega) (by omega) (by omega)
  have h5 := drwA_ok (h4.ok.mono (by omega)) h4.ok
  have h5c := fun j b => l26DrawArea_rc b (pk (pk (tk (tk s fiveT).2 twoT).2 40).2 20).2 (h4.ok.mono (by omega)) j
  have h6 := pk_all 200 h5.1 (by omega) (by omega) (by omega)
  have h7 := pk_all 200 h6.ok (by omega) (by omega) (by omega)
  generalize tk s fiveT = i at *
  generalize tk i.2 twoT = o at *
  generalize pk o.2 40 = p at *
  generalize pk p.2 20 = q at *
  generalize drwA q.2 = a at *
  generalize pk a.2 200 = r at *
  generalize pk r.2 200 = t at *
  obtain ⟨i, s1⟩ := i
  obtain ⟨o, s2⟩ := o
  obtain ⟨p, s3⟩ := p
  obtain ⟨q, s4⟩ := q
  obtain ⟨⟨ax, ay, ae, an⟩, s5⟩ := a
  obtain ⟨r, s6⟩ := r
  obtain ⟨t, s7⟩ := t
  dsimp only at *
  have a3 := h3.lo
  have b3 := h3.hi
  have a4 := h4.lo
  have b4 := h4.hi
  have a6 := h6.lo
  have b6 := h6.hi
  have a7 := h7.lo
  have b7 := h7.hi
  have n1 := five_ok h1.mem
  have n2 := two_ok h2.mem
  refine ⟨h1.mem, ?_, ⟨?_, ?_⟩, h7.ok.mono (by omega), fun j b => ?_⟩
  · unfold licB inB
    rw [n1.1, n2.1, h5.2]
    simp
    omega
  · dsimp only; omega
  · dsimp only; omega
  have w1 := w64 (100 * p) (by omega) (by omega)
  have w2 := w64 (900000 + 100 * p) (by omega) (by omega)
  have w3 := w64 (1 + q) (by omega) (by omega)
  have w4 := w64 (100 * (1 + q)) (by omega) (by omega)
  have w5 := w64 (900000 + 100 * p + 100 * (1 + q)) (by omega) (by omega)
  have w6 := w64 (r + t) (by omega) (by omega)
  unfold licL
  dsimp only
  refine RC.ofc [b] 0 [.ptr 0 0 0] [(0, ⟨81, 3, false, [srR s]⟩)] (.agg [.v (.string i), .v (.string o), .v (.int .i64 (900000 + 100 * p)), .v (.int .i64 (900000 + 100 * p + 100 * (1 + q))), .v (.int .i64 ax), .v (.int .i64 ay), .v (.int .i64 ae), .v (.int .i64 an), .v (.int .i64 r), .v (.int .i64 (r + t)), .v (.int .i64 40000)]) [(0, some ⟨81, 3, false, [srR s7]⟩)] Try.func64 Try.ntmps64 rfl (goFn_of Try.func64 rfl (by kernel_rfl)) rfl rfl rfl rfl rfl rfl rfl rfl (by simp_all) rfl ?_
  have c1 := fun j => h1.rc j 0 2 (by decide)
  have c2 := fun j => h2.rc j 0 4 (by decide)
  simp only [fiveT, twoT, List.map_cons, List.map_nil, List.length_cons, List.length_nil] at c1 c2
  unfold areaA at h5c
  ((repeat' (first
    | (show SQ _ _ _ _ _ _ _ _; first | apply sq_nil | (apply q_move; exact rfl; exact rfl) | (apply q_fieldAddr; exact rfl; exact rfl; exact (ty rfl); exact rfl; exact rfl; exact rfl; exact rfl) | (apply q_add; exact rfl; exact rfl; exact rfl) | (apply q_mul; exact rfl; exact rfl; exact rfl) | (apply q_build; exact rfl; exact (ty rfl); exact rfl; exact rfl; exact rfl))
    | (show SQ _ _ _ _ _ _ _ _; (first | (apply q_ldap; exact rfl; exact rfl; exact (ty rfl); exact rfl; exact rfl; exact (by first | rfl | assumption | ((try simp only [Nat.zero_add]); refine List.getElem?_set_self ?_; (try simp only [List.length_set]); assumption)); exact rfl) | (apply q_alloc; exact rfl; exact (ty rfl); exact rfl; exact rfl) | (apply q_store; exact rfl; exact rfl; exact (ty rfl); exact rfl; exact (by first | rfl | assumption | ((try simp only [Nat.zero_add]); refine List.getElem?_set_self ?_; (try simp only [List.length_set]); assumption)); exact rfl; exact rfl; exact rfl) | (apply q_buildn; exact rfl; exact (ty rfl); exact rfl; exact rfl; exact rfl; exact rfl; exact rfl; exact rfl; exact rfl) | (apply q_callC; exact rfl; exact rfl; exact rfl; exact c1 _; (focus ((repeat (first | exact trivial | refine ⟨by first | exact rfl | assumption, ?_⟩)); done)); skip) | (apply q_callC; exact rfl; exact rfl; exact rfl; exact c2 _; (focus ((repeat (first | exact trivial | refine ⟨by first | exact rfl | assumption, ?_⟩)); done)); skip) | (apply q_callC; exact rfl; exact rfl; exact rfl; exact h3.rc _ 0; (focus ((repeat (first | exact trivial | refine ⟨by first | exact rfl | assumption, ?_⟩)); done)); skip) | (apply q_callC; exact rfl; exact rfl; exact rfl; exact h5c _ 0; (focus ((repeat (first | exact trivial | refine ⟨by first | exact rfl | assumption, ?_⟩)); done)); skip) | (apply q_callC; exact rfl; exact rfl; exact rfl; exact h6.rc _ 0; (focus ((repeat (first | exact trivial | refine ⟨by first | exact rfl | assumption, ?_⟩)); done)); skip)); (try simp only [put, rowsOf, plR, List.all_cons, selE, ovr, setH, del, cellsA, splice, isV, List.nil_append, List.cons_append, List.map_cons, List.map_nil, List.length_cons, List.length_nil, List.set_cons_zero, List.set_cons_succ, List.take_succ_cons, List.take_zero, List.take_nil, List.drop_succ_cons, List.drop_zero, List.drop_nil, List.append_nil, List.all_cons, List.all_nil, Bool.and_true, Bool.true_and, Bool.and_false, Bool.false_and, Nat.reduceAdd, Nat.zero_add, Nat.add_zero, Nat.reduceEqDiff, if_true, if_false, reduceIte]))
    | (show DE _ _ _ _ _ _ _ _ _ _ _ _; first | (apply e_move; exact rfl; exact rfl; exact rfl) | (apply e_fieldAddr; exact rfl; exact rfl; exact (ty rfl); exact rfl; exact rfl; exact rfl; exact rfl; exact rfl) | (apply e_add; exact rfl; exact rfl; exact rfl; exact rfl) | (apply e_mul; exact rfl; exact rfl; exact rfl; exact rfl))
    | (show DE _ _ _ _ _ _ _ _ _ _ _ _; (first | (apply dr_nil; kernel_rfl) | (apply e_rd1; exact rfl; exact rfl; exact (ty rfl); exact rfl; exact rfl; exact (by first | rfl | assumption | ((try simp only [Nat.zero_add]); refine List.getElem?_set_self ?_; (try simp only [List.length_set]); assumption)); exact rfl; exact rfl; exact rfl) | (apply e_store; exact rfl; exact rfl; exact (ty rfl); exact rfl; exact (by first | rfl | assumption | ((try simp only [Nat.zero_add]); refine List.getElem?_set_self ?_; (try simp only [List.length_set]); assumption)); exact rfl; exact rfl; exact rfl; exact rfl) | (apply e_callC; exact rfl; exact rfl; exact rfl; exact h4.rc _ 0; (focus ((repeat (first | exact trivial | refine ⟨by first | exact rfl | assumption, ?_⟩)); done)); exact rfl; skip) | (apply e_callC; exact rfl; exact rfl; exact rfl; exact h7.rc _ 0; (focus ((repeat (first | exact trivial | refine ⟨by first | exact rfl | assumption, ?_⟩)); done)); exact rfl; skip)); (try simp only [put, rowsOf, plR, List.all_cons, selE, ovr, setH, del, cellsA, splice, isV, List.nil_append, List.cons_append, List.map_cons, List.map_nil, List.length_cons, List.length_nil, List.set_cons_zero, List.set_cons_succ, List.take_succ_cons, List.take_zero, List.take_nil, List.drop_succ_cons, List.drop_zero, List.drop_nil, List.append_nil, List.all_cons, List.all_nil, Bool.and_true, Bool.true_and, Bool.and_false, Bool.false_and, Nat.reduceAdd, Nat.zero_add, Nat.add_zero, Nat.reduceEqDiff, if_true, if_false, reduceIte]))
    | (show AW _ _ _ _ _ _ _ _; first | refine aw_region ?_ | (refine aw_seqk ?_; intro K hK) | refine aw_ret ?_ | refine aw_drawE (id := 4) [0, 1, 0, 4, 12, 28, 63, 127, 255] [0, 0, 0, 2, 0, 0, 0, 0, 2, 1, 3] mixed (by kernel_rfl) ?_ | refine aw_drawE (id := 7) [0, 1, 0, 4, 15, 31, 63] [0, 0, 0, 2, 0, 0, 2, 1, 3] mixed (by kernel_rfl) ?_)
    | refine thn_n ?_
    | (refine hK _ _ _ ?_; clear hK K))); all_goals (repeat (clear hK K)))
  exact finc (fun i => i) (.r1 _ _ (.agg _ _ _ _ _ rfl (.inr ⟨_, _, _, _, _, rfl, rfl, rfl, rfl⟩) (ty rfl) rfl (Nat.le_of_ble_eq_true rfl))) (by simp only [w1, w2, w3, w4, w5, w6]; rfl) (fun _ _ => rfl) ⟨rfl, trivial⟩ rfl
end Go.Proofs.Ytiificaolakgdaa.Li

-- Holdings of choices.
namespace Go.Proofs.Ytiificaolakgdaa.Li
open Go Go.RowKit Go.Proofs.Ytiificaolakgdaa.Aw Go.Proofs.Ytiificaolakgdaa.Ar Go.Proofs.Ytiificaolakgdaa.Sr
set_option linter.unusedSimpArgs false
set_option linter.unusedVariables false
attribute [local irreducible] AW SQ Step RO RC DE Thn InB

structure GoodL (xs : List Lic) : Prop where
  hold : holdB xs = true
  sm : ∀ l ∈ xs, l.sm
  ids : ∀ l ∈ xs, l.id ∈ fiveT
structure GrP (xs : List Lic) (x : Lic) (o : Option (List Lic)) : Prop where
  err : o = none → ∃ e : Int, (e == 0) = false ∧ ErrR 31 [.dsl 11 (xs.map licL), .agg (licL x)] e
  ok : ∀ ys, o = some ys → OkR 31 [.dsl 11 (xs.map licL), .agg (licL x)] ys ∧ GoodL ys ∧ ys.length = xs.length + 1
set_option maxHeartbeats 4000000 in
theorem grantErr_ro (xs : List Lic) (x : Lic) (hG : GoodL xs) (hl : xs.length < 24) (hx : licB x = true) (hxs : x.sm) (c3 : ¬ ixOf (idP x.id) xs < 0) (k : Nat) : RO Try.prog 31 [.dsl 11 (xs.map licL), .agg (licL x)] k (.tup [.v (.slice none 0 0), .v (.int .i64 4)]) [] k := by
  have hn : xs.length ≤ 1048576 := by omega
  have hs := hG.sm
  have b1 : (!holdB xs) = false := by rw [hG.hold]; rfl
  have b2 : (!licB x) = false := by rw [hx]; rfl
  have b3 : decide (0 ≤ ixOf (idP x.id) xs) = true := by simp; omega
  have hSF := l26Find_ro xs x.id hn
  have hO := l26Ok_ro x hxs
  refine RO.ofp Try.func31 Try.ntmps31 rfl (goFn_of Try.func31 rfl (by kernel_rfl)) rfl rfl rfl ?_
  rw [licL_eq x]
  ((repeat' (first
    | (show SQ _ _ _ _ _ _ _ _; first | apply sq_nil | (apply q_move; exact rfl; exact rfl) | (apply q_assign; exact rfl; exact rfl) | (apply q_pick_f; exact rfl; exact rfl; exact rfl; exact (by first | assumption | exact rfl)) | (apply q_fieldAddr; exact rfl; exact rfl; exact (ty rfl); exact rfl; exact rfl; exact rfl; exact rfl) | (apply q_not; exact rfl; exact rfl) | (apply q_geq; exact rfl; exact rfl; exact rfl) | (apply q_ld1p; exact rfl; exact rfl; exact (ty rfl); exact rfl; exact rfl; exact (by first | rfl | assumption | ((try simp only [Nat.zero_add]); refine List.getElem?_set_self ?_; (try simp only [List.length_set]); assumption)); exact rfl) | (apply q_g; exact rfl; exact rfl; exact rfl; exact (by assumption)))
    | (show SQ _ _ _ _ _ _ _ _; (first | (apply q_box; exact rfl; exact rfl; exact rfl) | (apply q_callU; exact rfl; exact rfl; exact rfl; exact FzL.of rfl; exact l26List_ro xs hs hn _) | (apply q_callU; exact rfl; exact rfl; exact rfl; exact FzL.of rfl; exact hSF _) | (apply q_callU; exact rfl; exact rfl; exact rfl; exact FzL.of rfl; exact hO _)); (try simp only [put, rowsOf, plR, List.all_cons, selE, ovr, setH, del, cellsA, splice, isV, List.nil_append, List.cons_append, List.map_cons, List.map_nil, List.length_cons, List.length_nil, List.set_cons_zero, List.set_cons_succ, List.take_succ_cons, List.take_zero, List.take_nil, List.drop_succ_cons, List.drop_zero, List.drop_nil, List.append_nil, List.all_cons, List.all_nil, Bool.and_true, Bool.true_and, Bool.and_false, Bool.false_and, Nat.reduceAdd, Nat.zero_add, Nat.add_zero, Nat.reduceEqDiff, if_true, if_false, reduceIte]))
    | (show AW _ _ _ _ _ _ _ _; first | refine aw_region ?_ | (refine aw_seqk ?_; intro K hK) | (apply aw_cond_t; exact rfl; exact (by assumption)) | (apply aw_cond_f; exact rfl; exact (by assumption)) | refine aw_ret ?_ | refine aw_skip ?_)
    | refine thn_n ?_
    | (refine hK _ _ _ ?_; clear hK K)
    | refine thn_r ?_)); all_goals (repeat (clear hK K)))
  all_goals (refine fin_r (fin_p (.r2 _ _ _ _ (.tmp _ _ rfl) (.tmp _ _ rfl)) ?_ rfl rfl rfl); rfl)
theorem ins_mem {xs : List Lic} {a : Nat} {x l : Lic} (h : l ∈ insL xs a x) : l = x ∨ l ∈ xs := by
  unfold insL at h
  rcases List.mem_append.1 h with h | h
  · exact .inr (List.mem_of_mem_take h)
  · rcases List.mem_cons.1 h with h | h
    · exact .inl h
    · exact .inr (List.mem_of_mem_drop h)
theorem grant_ex (xs : List Lic) (x : Lic) (hG : GoodL xs) (hl : xs.length < 24) (hx : licB x = true) (hxs : x.sm) (hxi : x.id ∈ fiveT) : ∃ o, GrP xs x o := by
  have hn : xs.length ≤ 1048576 := by omega
  by_cases c3 : ixOf (idP x.id) xs < 0
  · obtain ⟨s1, s2, s3⟩ := specGrant xs x hG.sm hxs hn hG.hold hx c3
    cases c5 : xs.any (fun y => clB y x) with
    | true => exact ⟨none, fun _ => ⟨6, rfl, s1 c5⟩, fun ys h => by cases h⟩
    | false =>
      have hP := (holdP_iff xs).1 hG.hold
      obtain ⟨a, ha⟩ := at_ex hP x (fun j hj => ixOf_lt (idP x.id) xs c3 j hj)
      refine ⟨some (insL xs a x), fun h => (by cases h), fun ys h => ?_⟩
      simp only [Option.some.injEq] at h
      subst h
      refine ⟨s3 c5 (by omega) a ha, ⟨(holdP_iff _).2 (hold_ins hP hx ha (fun j hj => ?_) hl), fun l h => ?_, fun l h => ?_⟩, insL_len ha.le x⟩
      · rw [List.any_eq_false] at c5
        have := c5 xs[j] (List.getElem_mem hj)
        simpa using this
      · rcases ins_mem h with h | h
        · rw [h]; exact hxs
        · exact hG.sm l h
      · rcases ins_mem h with h | h
        · rw [h]; exact hxi
        · exact hG.ids l h
  · exact ⟨none, fun _ => ⟨4, rfl, fun k => grantErr_ro xs x hG hl hx hxs c3 k⟩, fun ys h => by cases h⟩
noncomputable def grV (xs : List Lic) (x : Lic) : Option (List Lic) := Classical.epsilon (GrP xs x)
theorem grV_ok (xs : List Lic) (x : Lic) (hG : GoodL xs) (hl : xs.length < 24) (hx : licB x = true) (hxs : x.sm) (hxi : x.id ∈ fiveT) : GrP xs x (grV xs x) := Classical.epsilon_spec (grant_ex xs x hG hl hx hxs hxi)
noncomputable def drL : Nat → List Lic → Sr → List Lic × Sr
  | 0, xs, s => (xs, s)
  | k + 1, xs, s => drL k ((grV xs (dO s).1).getD xs) (dO s).2
noncomputable def dL (s : Sr) : List Lic × Sr := drL (pk s 6).1.toNat [] (pk s 6).2
theorem good_nil : GoodL [] := ⟨by decide, by simp, by simp⟩
theorem dr_step {k : Nat} {xs : List Lic} {s : Sr} {c : Int} (hG : GoodL xs) (hl : xs.length + (k + 1) ≤ 5) (hs : s.ok c) (hc : c ≤ 700000) : GoodL ((grV xs (dO s).1).getD xs) ∧ ((grV xs (dO s).1).getD xs).length + k ≤ 5 ∧ (dO s).2.ok (c + 20) := by
  have hd := dO_all hs hc
  have hg := grV_ok xs (dO s).1 hG (by omega) hd.lic hd.sm hd.mem
  refine ⟨?_, ?_, hd.ok⟩
  · cases ho : grV xs (dO s).1 with
    | none => exact hG
    | some ys => exact (hg.ok ys ho).2.1
  · cases ho : grV xs (dO s).1 with
    | none => simp only [Option.getD_none]; omega
    | some ys => have := (hg.ok ys ho).2.2; simp only [Option.getD_some]; omega
theorem drL_good : ∀ (k : Nat) (xs : List Lic) (s : Sr) (c : Int), GoodL xs → xs.length + k ≤ 5 → s.ok c → c + 20 * (k : Int) ≤ 700000 → GoodL (drL k xs s).1 ∧ (drL k xs s).1.length ≤ 5 ∧ (drL k xs s).2.ok (c + 20 * (k : Int))
  | 0, xs, s, c, hG, hl, hs, hc => ⟨hG, by simpa [drL] using hl, by simpa [drL] using hs⟩
  | k + 1, xs, s, c, hG, hl, hs, hc => by
    obtain ⟨h1, h2, h3⟩ := dr_step hG hl hs (by omega)
    obtain ⟨g1, g2, g3⟩ := drL_good k _ _ (c + 20) h1 h2 h3 (by omega)
    exact ⟨g1, g2, g3.mono (by omega)⟩
theorem dL_good {s : Sr} {c : Int} (hs : s.ok c) (hc : c ≤ 600000) : GoodL (dL s).1 ∧ (dL s).1.length ≤ 5 ∧ (dL s).2.ok (c + 200) := by
  have hp := pk_bd s 6 (by omega)
  have := drL_good (pk s 6).1.toNat [] (pk s 6).2 (c + 2) good_nil (by simp; omega) (pk_ok 6 hs) (by omega)
  exact ⟨this.1, this.2.1, this.2.2.mono (by omega)⟩
set_option maxHeartbeats 4000000 in
theorem l26Draw_rc (b : Nat) (s : Sr) (h : s.ok 600000) (k : Nat) : RC Try.prog 37 [.ptr b 0 0] [(b, ⟨81, 3, false, [srR s]⟩)] k (.sl k 0 (dL s).1.length) [(b, some ⟨81, 3, false, [srR (dL s).2]⟩), (k, some ⟨29, 11, true, (dL s).1.map licL⟩)] (k + 1) := by
  unfold dL
  have hp := pk_all 6 h (by omega) (by omega) (by omega)
  generalize pk s 6 = p at *
  obtain ⟨q, s1⟩ := p
  dsimp only at *
  have h0 := hp.lo
  have h1 := hp.hi
  obtain ⟨q, rfl⟩ := Int.eq_ofNat_of_zero_le h0
  rw [Int.toNat_natCast]
  refine RC.ofc [b] 1 [.ptr 0 0 0] [(0, ⟨81, 3, false, [srR s]⟩)] (.sl 1 0 (drL q [] s1).1.length) [(0, some ⟨81, 3, false, [srR (drL q [] s1).2]⟩), (1, some ⟨29, 11, true, (drL q [] s1).1.map licL⟩)] Try.func37 Try.ntmps37 rfl (goFn_of Try.func37 rfl (by kernel_rfl)) rfl rfl rfl rfl rfl rfl rfl rfl (by simp_all) rfl ?_
  show AW _ _ 1 _ _ _ _ _
  ((repeat' (first
    | (show SQ _ _ _ _ _ _ _ _; first | apply sq_nil | (apply q_move; exact rfl; exact rfl) | (apply q_assign; exact rfl; exact rfl))
    | (show SQ _ _ _ _ _ _ _ _; (first | (apply q_build0; exact rfl; exact (ty rfl); exact rfl) | (apply q_callC; exact rfl; exact rfl; exact rfl; exact hp.rc _ 0; (focus ((repeat (first | exact trivial | refine ⟨by first | exact rfl | assumption, ?_⟩)); done)); skip)); (try simp only [put, rowsOf, plR, List.all_cons, selE, ovr, setH, del, cellsA, splice, isV, List.nil_append, List.cons_append, List.map_cons, List.map_nil, List.length_cons, List.length_nil, List.set_cons_zero, List.set_cons_succ, List.take_succ_cons, List.take_zero, List.take_nil, List.drop_succ_cons, List.drop_zero, List.drop_nil, List.append_nil, List.all_cons, List.all_nil, Bool.and_true, Bool.true_and, Bool.and_false, Bool.false_and, Nat.reduceAdd, Nat.zero_add, Nat.add_zero, Nat.reduceEqDiff, if_true, if_false, reduceIte]))
    | (show AW _ _ _ _ _ _ _ _; first | refine aw_region ?_ | (refine aw_seqk ?_; intro K hK) | refine aw_block ?_)
    | refine thn_n ?_
    | (refine hK _ _ _ ?_; clear hK K))); all_goals (repeat (clear hK K)))
  refine aw_loop (ρ := id) (ι := Nat × List Lic × Sr) (fun t => ([(0, .ptr 0 0 0), (3, .sl 1 0 t.2.1.length), (4, .v (.int .i64 (t.1 : Int)))], [(0, ⟨81, 3, false, [srR t.2.2]⟩), (1, ⟨29, 11, true, t.2.1.map licL⟩)], 2))
    (fun t => drL t.1 t.2.1 t.2.2 = drL q [] s1 ∧ GoodL t.2.1 ∧ t.2.1.length + t.1 ≤ 5 ∧ t.2.2.ok (600200 - 20 * (t.1 : Int))) (fun t => t.1) (q, [], s1) ⟨rfl, good_nil, by simp only [List.length_nil]; omega, hp.ok.mono (by omega)⟩ ⟨by (repeat (refine ⟨by first | exact lk_i rfl rfl | exact lk_r rfl rfl rfl | exact lk_s rfl rfl rfl rfl, ?_⟩)); exact trivial, by (repeat (refine ⟨by first | exact ⟨rfl, rfl, rfl⟩, ?_⟩)); exact trivial, by rfl, by (intro i hi; (try dsimp only); refine ⟨?_, ?_⟩ <;> first | rfl | omega | (simp at hi; omega) | (simp; omega))⟩ ?_
  rintro ⟨i, xs, s2⟩ ⟨hd, hG, hl, hok⟩
  dsimp only at hd hG hl hok
  have hml : (xs.map licL).length = xs.length := List.length_map _
  cases i with
  | zero =>
    have b2 : decide ((0 : Int) < ((0 : Nat) : Int)) = false := rfl
    ((repeat' (first
    | (show SQ _ _ _ _ _ _ _ _; first | apply sq_nil | (apply q_move; exact rfl; exact rfl) | (apply q_assign; exact rfl; exact rfl) | (apply q_gtr; exact rfl; exact rfl; exact rfl))
    | (show AW _ _ _ _ _ _ _ _; first | refine aw_region ?_ | (refine aw_seqk ?_; intro K hK) | (apply aw_cond_f; exact rfl; exact rfl) | refine aw_ret ?_ | refine aw_exit ?_)
    | refine thn_n ?_
    | (refine hK _ _ _ ?_; clear hK K)
    | refine thn_e ?_
    | refine inb_same ?_
    | (clear hK K; refine hK _ _ _ ?_; clear hK K))); all_goals (repeat (clear hK K)))
    rw [← hd]
    exact finc (fun i => i) (.r1 _ _ (.tmp _ _ rfl)) rfl (fun _ _ => rfl) ⟨rfl, rfl, trivial⟩ rfl
  | succ i =>
    have b2 : decide ((0 : Int) < ((i + 1 : Nat) : Int)) = true := by simp only [decide_eq_true_eq]; omega
    have hD := dO_all hok (by omega)
    have hg := grV_ok xs (dO s2).1 hG (by omega) hD.lic hD.sm hD.mem
    obtain ⟨n1, n2, n3⟩ := dr_step hG hl hok (by omega)
    have hw : IntKind.i64.wrap (((i + 1 : Nat) : Int) - 1) = (i : Int) := by rw [IntWalk.i64_in _ (by omega)]; omega
    cases ho : grV xs (dO s2).1 with
    | none =>
      rw [drL, ho, Option.getD_none] at hd
      rw [ho, Option.getD_none] at n1 n2
      obtain ⟨e, he, hE⟩ := hg.err ho
      ((repeat' (first
    | (show SQ _ _ _ _ _ _ _ _; first | apply sq_nil | (apply q_move; exact rfl; exact rfl) | (apply q_assign; exact rfl; exact rfl) | (apply q_ext; exact rfl; exact rfl; exact rfl) | (apply q_sub; exact rfl; exact rfl; exact rfl) | (apply q_eql; exact rfl; exact rfl; exact rfl) | (apply q_gtr; exact rfl; exact rfl; exact rfl))
    | (show SQ _ _ _ _ _ _ _ _; (first | (apply q_callU; exact rfl; exact rfl; exact rfl; rotate_left; exact hE _; rotate_right; focus ((repeat' (first | exact FzL.nil | exact (by assumption : FzC _) _ | refine FzL.cons ?_ ?_ | exact Fz.of rfl | exact Fz.nil | exact Fz.emp | (apply Fz.fnC; assumption) | (apply Fz.sl2; exact rfl; exact (by first | omega | (simp; done) | (simp; omega)); first | exact rfl | exact dt_full (by first | omega | (simp; done) | (simp; omega)) | assumption) | apply Fz.agg | (apply Fz.ptrL; exact rfl; first | exact rfl | assumption) | apply Fz.fnL)); done)) | (apply q_callC; exact rfl; exact rfl; exact rfl; exact hD.rc _ 0; (focus ((repeat (first | exact trivial | refine ⟨by first | exact rfl | assumption, ?_⟩)); done)); skip)); (try simp only [put, rowsOf, plR, List.all_cons, selE, ovr, setH, del, cellsA, splice, isV, List.nil_append, List.cons_append, List.map_cons, List.map_nil, List.length_cons, List.length_nil, List.set_cons_zero, List.set_cons_succ, List.take_succ_cons, List.take_zero, List.take_nil, List.drop_succ_cons, List.drop_zero, List.drop_nil, List.append_nil, List.all_cons, List.all_nil, Bool.and_true, Bool.true_and, Bool.and_false, Bool.false_and, Nat.reduceAdd, Nat.zero_add, Nat.add_zero, Nat.reduceEqDiff, if_true, if_false, reduceIte]))
    | (show AW _ _ _ _ _ _ _ _; first | refine aw_region ?_ | (refine aw_seqk ?_; intro K hK) | refine aw_block ?_ | (apply aw_cond_t; exact rfl; exact (by assumption)) | (apply aw_cond_f; exact rfl; exact (by assumption)) | refine aw_skip ?_)
    | refine thn_n ?_
    | (refine hK _ _ _ ?_; clear hK K)
    | refine inb_n ?_)); all_goals (repeat (clear hK K)))
      exact ⟨(i, xs, (dO s2).2), id, ⟨hd, n1, n2, n3.mono (by omega)⟩, by simp only; omega, ⟨by (repeat (refine ⟨by first | exact lk_i rfl (by (try dsimp only); first | rfl | omega | (rw [IntWalk.i64_in _ (by omega)]; first | rfl | omega | (push_cast; omega)) | (simp; done) | (simp; omega)) | exact lk_r rfl rfl rfl | exact lk_s rfl rfl rfl rfl, ?_⟩)); exact trivial, by (repeat (refine ⟨by first | exact ⟨rfl, rfl, rfl⟩, ?_⟩)); exact trivial, by rfl, by (intro i hi; (try dsimp only); refine ⟨?_, ?_⟩ <;> first | rfl | omega | (simp at hi; omega) | (simp; omega))⟩⟩
    | some ys =>
      rw [drL, ho, Option.getD_some] at hd
      rw [ho, Option.getD_some] at n1 n2
      obtain ⟨hO, _, hyl⟩ := hg.ok ys ho
      ((repeat' (first
    | (show SQ _ _ _ _ _ _ _ _; first | apply sq_nil | (apply q_move; exact rfl; exact rfl) | (apply q_assign; exact rfl; exact rfl) | (apply q_ext; exact rfl; exact rfl; exact rfl) | (apply q_sub; exact rfl; exact rfl; exact rfl) | (apply q_eql; exact rfl; exact rfl; exact rfl) | (apply q_gtr; exact rfl; exact rfl; exact rfl))
    | (show SQ _ _ _ _ _ _ _ _; (first | (apply q_callU; exact rfl; exact rfl; exact rfl; rotate_left; exact hO _; rotate_right; focus ((repeat' (first | exact FzL.nil | exact (by assumption : FzC _) _ | refine FzL.cons ?_ ?_ | exact Fz.of rfl | exact Fz.nil | exact Fz.emp | (apply Fz.fnC; assumption) | (apply Fz.sl2; exact rfl; exact (by first | omega | (simp; done) | (simp; omega)); first | exact rfl | exact dt_full (by first | omega | (simp; done) | (simp; omega)) | assumption) | apply Fz.agg | (apply Fz.ptrL; exact rfl; first | exact rfl | assumption) | apply Fz.fnL)); done)) | (apply q_callC; exact rfl; exact rfl; exact rfl; exact hD.rc _ 0; (focus ((repeat (first | exact trivial | refine ⟨by first | exact rfl | assumption, ?_⟩)); done)); skip)); (try simp only [put, rowsOf, plR, List.all_cons, selE, ovr, setH, del, cellsA, splice, isV, List.nil_append, List.cons_append, List.map_cons, List.map_nil, List.length_cons, List.length_nil, List.set_cons_zero, List.set_cons_succ, List.take_succ_cons, List.take_zero, List.take_nil, List.drop_succ_cons, List.drop_zero, List.drop_nil, List.append_nil, List.all_cons, List.all_nil, Bool.and_true, Bool.true_and, Bool.and_false, Bool.false_and, Nat.reduceAdd, Nat.zero_add, Nat.add_zero, Nat.reduceEqDiff, if_true, if_false, reduceIte]))
    | (show AW _ _ _ _ _ _ _ _; first | refine aw_region ?_ | (refine aw_seqk ?_; intro K hK) | refine aw_block ?_ | (apply aw_cond_t; exact rfl; exact rfl) | (apply aw_cond_t; exact rfl; exact (by assumption)) | refine aw_skip ?_)
    | refine thn_n ?_
    | (refine hK _ _ _ ?_; clear hK K)
    | refine inb_n ?_)); all_goals (repeat (clear hK K)))
      exact ⟨(i, ys, (dO s2).2), fun j => 2 * j, ⟨hd, n1, n2, n3.mono (by omega)⟩, by simp only; omega, ⟨by (repeat (refine ⟨by first | exact lk_i rfl (by (try dsimp only); first | rfl | omega | (rw [IntWalk.i64_in _ (by omega)]; first | rfl | omega | (push_cast; omega)) | (simp; done) | (simp; omega)) | exact lk_r rfl rfl rfl | exact lk_s rfl rfl rfl rfl, ?_⟩)); exact trivial, by (repeat (refine ⟨by first | exact ⟨rfl, rfl, rfl⟩, ?_⟩)); exact trivial, by rfl, by (intro i hi; (try dsimp only); refine ⟨?_, ?_⟩ <;> first | rfl | omega | (simp at hi; omega) | (simp; omega))⟩⟩
set_option maxHeartbeats 4000000 in
theorem R8Holdings_ro (bs : List Int) (hb : ∀ b ∈ bs, 0 ≤ b ∧ b ≤ 255) (hn : bs.length ≤ 9223372036854775807) (k : Nat) : RO Try.prog 11 [.dsl 1 (byL bs)] k (.sl k 0 (dL ⟨bs, 0, 0⟩).1.length) [(k, ⟨29, 11, true, (dL ⟨bs, 0, 0⟩).1.map licL⟩)] (k + 1) := by
  have hok : (⟨bs, 0, 0⟩ : Sr).ok 0 := ⟨hb, by simp, by simp, hn⟩
  refine RO.ofm (.sl 0 0 (dL ⟨bs, 0, 0⟩).1.length) ([(0, ⟨29, 11, true, (dL ⟨bs, 0, 0⟩).1.map licL⟩)]) 1 Try.func11 Try.ntmps11 rfl (goFn_of Try.func11 rfl (by kernel_rfl)) rfl rfl (by simp [renA, renL]) (by simp [shH, renB]) rfl ?_
  ((repeat' (first
    | (show SQ _ _ _ _ _ _ _ _; first | apply sq_nil | (apply q_move; exact rfl; exact rfl) | (apply q_assign; exact rfl; exact rfl))
    | (show SQ _ _ _ _ _ _ _ _; (first | (apply q_callC; exact rfl; exact rfl; exact rfl; exact l00From_rc bs _; (focus ((repeat (first | exact trivial | refine ⟨by first | exact rfl | assumption, ?_⟩)); done)); skip) | (apply q_callC; exact rfl; exact rfl; exact rfl; exact l26Draw_rc 0 _ (hok.mono (by omega)) _; (focus ((repeat (first | exact trivial | refine ⟨by first | exact rfl | assumption, ?_⟩)); done)); skip)); (try simp only [put, rowsOf, plR, List.all_cons, selE, ovr, setH, del, cellsA, splice, isV, List.nil_append, List.cons_append, List.map_cons, List.map_nil, List.length_cons, List.length_nil, List.set_cons_zero, List.set_cons_succ, List.take_succ_cons, List.take_zero, List.take_nil, List.drop_succ_cons, List.drop_zero, List.drop_nil, List.append_nil, List.all_cons, List.all_nil, Bool.and_true, Bool.true_and, Bool.and_false, Bool.false_and, Nat.reduceAdd, Nat.zero_add, Nat.add_zero, Nat.reduceEqDiff, if_true, if_false, reduceIte]))
    | (show AW _ _ _ _ _ _ _ _; first | refine aw_region ?_ | (refine aw_seqk ?_; intro K hK) | refine aw_ret ?_)
    | refine thn_n ?_
    | (refine hK _ _ _ ?_; clear hK K))); all_goals (repeat (clear hK K)))
  exact fin_r (fin_m rfl rfl _ _ rfl rfl)
end Go.Proofs.Ytiificaolakgdaa.Li
