/-
  Connected parts: the reference's walk.
-/
import Derived.Test.YtglfcaioapdiaaaLkB
namespace Go.Proofs.Ytglfcaioapdiaaa.Bk
open Go Go.RowKit Go.Proofs.Ytglfcaioapdiaaa.Aw
set_option linter.unusedSimpArgs false
set_option linter.unusedVariables false
attribute [local irreducible] AW SQ Step RO RC DE Thn InB

def boL (b : Bool) : List AV := [.v (.bool b)]
theorem boL_eq (b : Bool) : boL b = [.v (.bool b)] := rfl
def part0 (i : Nat) : List Int := (List.range i).map fun x : Nat => (x : Int)
theorem part0_len (i : Nat) : (part0 i).length = i := by simp [part0]
theorem part0_succ (i : Nat) : part0 (i + 1) = part0 i ++ [(i : Int)] := by simp [part0, List.range_succ]
def relab (x y : Int) (p : List Int) : List Int := p.map fun v => if v = y then x else v
theorem relab_len (x y : Int) (p : List Int) : (relab x y p).length = p.length := by simp [relab]
def partS (ls : List Ln) (may : List Bool) (p : List Int) (i : Nat) : List Int :=
  if may.getD i false then relab (p.getD (ls.getD i lnz).a.toNat 0) (p.getD (ls.getD i lnz).b.toNat 0) p else p
def parts (n : Int) (ls : List Ln) (may : List Bool) : Nat → List Int
  | 0 => part0 n.toNat
  | i + 1 => partS ls may (parts n ls may i) i
theorem parts_len (n : Int) (ls : List Ln) (may : List Bool) : ∀ i, (parts n ls may i).length = n.toNat
  | 0 => part0_len _
  | i + 1 => by
    have := parts_len n ls may i
    simp only [parts, partS]
    split
    · rw [relab_len, this]
    · exact this
def rlF (x y : Int) (p : List Int) (k : Nat) : Int := (relab x y p).getD k 0
theorem rl_yes {x y : Int} {p : List Int} {k : Nat} (h : k < p.length) (hy : p[k] = y) : rlF x y p k = x := by
  simp [rlF, relab, List.getD, h, hy]
theorem rl_no {x y : Int} {p : List Int} {k : Nat} (h : k < p.length) (hy : p[k] ≠ y) : rlF x y p k = p[k] := by
  simp [rlF, relab, List.getD, h, hy]
theorem rl_full (x y : Int) (p : List Int) : (List.range p.length).map (rlF x y p) = relab x y p := by
  refine List.ext_getElem (by simp [relab]) fun i h1 h2 => ?_
  simp only [List.getElem_map, List.getElem_range, rlF, List.getD, List.getElem?_eq_getElem h2, Option.getD_some]
theorem ramp_same {α : Type} {f : Nat → α} {xs : List α} {i : Nat} (h : i < xs.length) (hf : f i = xs[i]) : ramp f xs (i + 1) = ramp f xs i := by
  rw [← ramp_set h, hf]
  have := ramp_get (f := f) h
  obtain ⟨h1, h2⟩ := List.getElem?_eq_some_iff.1 this
  rw [← h2]; exact List.set_getElem_self h1
set_option maxHeartbeats 4000000 in
theorem l25Parts_ro (n : Int) (ls : List Ln) (may : List Bool) (hN : 1 ≤ n ∧ n ≤ 12) (hn : ls.length ≤ 1048576) (hm : may.length = ls.length) (hL : ∀ l ∈ ls, 0 ≤ l.a ∧ l.a < n ∧ 0 ≤ l.b ∧ l.b < n) (k : Nat) :
    RO Try.prog 73 [.dptr (bkL n ls), .dsl 1 (may.map boL)] k (.sl k 0 n.toNat) [(k, ⟨2, 1, true, (parts n ls may ls.length).map inL⟩)] (k + 1) := by
  refine RO.ofm (.sl 0 0 n.toNat) ([(0, ⟨2, 1, true, (parts n ls may ls.length).map inL⟩)]) 1 Try.func73 Try.ntmps73 rfl (goFn_of Try.func73 rfl (by kernel_rfl)) rfl rfl (by simp [renA, renL]) (by simp [shH, renB]) rfl ?_
  unfold bkL
  ((repeat' (first
    | (show SQ _ _ _ _ _ _ _ _; first | apply sq_nil | (apply q_assign; exact rfl; exact rfl))
    | (show SQ _ _ _ _ _ _ _ _; (first | (apply q_build0; exact rfl; exact (ty rfl); exact rfl)); (try simp only [put, rowsOf, plR, List.all_cons, selE, ovr, setH, del, cellsA, splice, isV, List.nil_append, List.cons_append, List.map_cons, List.map_nil, List.length_cons, List.length_nil, List.set_cons_zero, List.set_cons_succ, List.take_succ_cons, List.take_zero, List.take_nil, List.drop_succ_cons, List.drop_zero, List.drop_nil, List.append_nil, List.all_cons, List.all_nil, Bool.and_true, Bool.true_and, Bool.and_false, Bool.false_and, Nat.reduceAdd, Nat.zero_add, Nat.add_zero, Nat.reduceEqDiff, if_true, if_false, reduceIte]))
    | (show AW _ _ _ _ _ _ _ _; first | refine aw_region ?_ | (refine aw_seqk ?_; intro K hK) | refine aw_block ?_)
    | refine thn_n ?_
    | (refine hK _ _ _ ?_; clear hK K))); all_goals (repeat (clear hK K)))
  refine aw_loop (ρ := id) (ι := Nat) (fun i => ([(6, .v (.int .i64 i)), (5, .sl 0 0 i), (1, .dsl 1 (may.map boL)), (0, .dptr [.v (.int .i64 n), .dsl 4 (ls.map lnL)])], [(0, ⟨2, 1, true, (part0 i).map inL⟩)], 1))
    (fun i => (i : Int) ≤ n) (fun i => n.toNat - i) 0 (by omega) ⟨by (repeat (refine ⟨by first | exact lk_i rfl rfl | exact lk_d rfl rfl | exact lk_s rfl rfl rfl rfl | exact lk_p rfl rfl, ?_⟩)); exact trivial, by (repeat (refine ⟨by first | exact ⟨rfl, rfl, rfl⟩, ?_⟩)); exact trivial, by rfl, by exact pin_0⟩ ?_
  intro i hi
  have hml : ((part0 i).map inL).length = i := by rw [List.length_map, part0_len]
  by_cases c2 : (i : Int) < n
  · have b2 : decide ((i : Int) < n) = true := by simpa using c2
    have hw3 : IntKind.i64.wrap ((i : Int) + 1) = ((i + 1 : Nat) : Int) := by rw [IntWalk.i64_in _ (by omega)]; omega
    ((repeat' (first
    | (show SQ _ _ _ _ _ _ _ _; first | apply sq_nil | (apply q_move; exact rfl; exact rfl) | (apply q_assign; exact rfl; exact rfl) | (apply q_fieldAddr; exact rfl; exact rfl; exact (ty rfl); exact rfl; exact rfl; exact rfl; exact rfl) | (apply q_nilc; exact rfl; exact rfl; exact rfl) | (apply q_add; exact rfl; exact rfl; exact rfl) | (apply q_lss; exact rfl; exact rfl; exact rfl) | (apply q_ld1d; exact rfl; exact rfl; exact (ty rfl); exact rfl; exact rfl))
    | (show SQ _ _ _ _ _ _ _ _; (first | (apply q_buildn; exact rfl; exact (ty rfl); exact rfl; exact rfl; exact rfl; exact rfl; exact rfl; exact rfl; exact rfl) | (apply q_apo_s; exact rfl; exact rfl; exact rfl; exact (ty rfl); exact rfl; exact rfl; exact (by first | omega | (simp; done) | (simp; omega)); exact (by first | exact List.take_of_length_le (by first | omega | (simp; done) | (simp; omega)) | rfl); exact (ty rfl); exact rfl; exact rfl; exact (by first | omega | (simp; done) | (simp; omega)); exact (by first | exact dt_full (by first | omega | (simp; done) | (simp; omega)) | assumption | rfl); exact rfl; exact (by first | omega | (simp; done) | (simp; omega)); exact (by first | omega | (simp; done) | (simp; omega)); exact (by first | assumption | exact rfl))); (try simp only [put, rowsOf, plR, List.all_cons, selE, ovr, setH, del, cellsA, splice, isV, List.nil_append, List.cons_append, List.map_cons, List.map_nil, List.length_cons, List.length_nil, List.set_cons_zero, List.set_cons_succ, List.take_succ_cons, List.take_zero, List.take_nil, List.drop_succ_cons, List.drop_zero, List.drop_nil, List.append_nil, List.all_cons, List.all_nil, Bool.and_true, Bool.true_and, Bool.and_false, Bool.false_and, Nat.reduceAdd, Nat.zero_add, Nat.add_zero, Nat.reduceEqDiff, if_true, if_false, reduceIte]))
    | (show AW _ _ _ _ _ _ _ _; first | refine aw_region ?_ | (refine aw_seqk ?_; intro K hK) | refine aw_block ?_ | (apply aw_cond_t; exact rfl; exact (by assumption)) | refine aw_skip ?_)
    | refine thn_n ?_
    | (refine hK _ _ _ ?_; clear hK K)
    | refine inb_n ?_)); all_goals (repeat (clear hK K)))
    all_goals (refine ⟨i + 1, fun j => [2].getD j 0, by omega, by omega, ?_⟩; (try dsimp only); rw [part0_succ, List.map_append, ← hw3]; exact ⟨by (repeat (refine ⟨by first | exact lk_i rfl rfl | exact lk_d rfl rfl | exact lk_s rfl rfl rfl rfl | exact lk_p rfl rfl, ?_⟩)); exact trivial, by (repeat (refine ⟨by first | exact ⟨rfl, rfl, rfl⟩, ?_⟩)); exact trivial, by rfl, by exact pin_0⟩)
  have b2 : decide ((i : Int) < n) = false := by simpa using c2
  have hin : i = n.toNat := by omega
  ((repeat' (first
    | (show SQ _ _ _ _ _ _ _ _; first | apply sq_nil | (apply q_move; exact rfl; exact rfl) | (apply q_assign; exact rfl; exact rfl) | (apply q_fieldAddr; exact rfl; exact rfl; exact (ty rfl); exact rfl; exact rfl; exact rfl; exact rfl) | (apply q_nilc; exact rfl; exact rfl; exact rfl) | (apply q_lss; exact rfl; exact rfl; exact rfl) | (apply q_ld1d; exact rfl; exact rfl; exact (ty rfl); exact rfl; exact rfl))
    | (show AW _ _ _ _ _ _ _ _; first | refine aw_region ?_ | (refine aw_seqk ?_; intro K hK) | refine aw_block ?_ | (apply aw_cond_f; exact rfl; exact (by assumption)) | refine aw_exit ?_)
    | refine thn_n ?_
    | (refine hK _ _ _ ?_; clear hK K)
    | refine thn_e ?_
    | refine inb_same ?_
    | (clear hK K; refine hK _ _ _ ?_; clear hK K))); all_goals (repeat (clear hK K)))
  refine aw_loop (ρ := id) (ι := Nat) (fun i => ([(7, .v (.int .i64 i)), (5, .sl 0 0 n.toNat), (1, .dsl 1 (may.map boL)), (0, .dptr [.v (.int .i64 n), .dsl 4 (ls.map lnL)])], [(0, ⟨2, 1, true, (parts n ls may i).map inL⟩)], 1))
    (fun i => i ≤ ls.length) (fun i => ls.length - i) 0 (Nat.zero_le _) (by subst hin; exact ⟨by (repeat (refine ⟨by first | exact lk_i rfl rfl | exact lk_d rfl rfl | exact lk_s rfl rfl rfl rfl | exact lk_p rfl rfl, ?_⟩)); exact trivial, by (repeat (refine ⟨by first | exact ⟨rfl, rfl, rfl⟩, ?_⟩)); exact trivial, by rfl, by exact pin_0⟩) ?_
  clear hml b2 hin c2 hi
  clear i
  intro i hi
  have hpl := parts_len n ls may i
  by_cases c2 : i < ls.length
  · have b2 : decide ((i : Int) < ((ls.map lnL).length : Int)) = true := by simpa using c2
    have c3 : i < may.length := by omega
    have hrow : (may.map boL)[((i : Int)).toNat]? = some (boL may[i]) := by simp [c3]
    rw [boL_eq] at hrow
    have hrow2 : (ls.map lnL)[((i : Int)).toNat]? = some (lnL ls[i]) := by simp [c2]
    rw [lnL_eq] at hrow2
    obtain ⟨a0, a1, d0, d1⟩ := hL ls[i] (List.getElem_mem c2)
    have a2 : ls[i].a.toNat < (parts n ls may i).length := by omega
    have d2 : ls[i].b.toNat < (parts n ls may i).length := by omega
    have hra : ((parts n ls may i).map inL)[0 + ls[i].a.toNat]? = some (inL (parts n ls may i)[ls[i].a.toNat]) := by simp [a2]
    have hrb : ((parts n ls may i).map inL)[0 + ls[i].b.toNat]? = some (inL (parts n ls may i)[ls[i].b.toNat]) := by simp [d2]
    rw [inL_eq] at hra hrb
    have hw3 : IntKind.i64.wrap ((i : Int) + 1) = ((i + 1 : Nat) : Int) := by rw [IntWalk.i64_in _ (by omega)]; omega
    cases c4 : may[i] with
    | false =>
      have b4 : (!may[i]) = true := by rw [c4]; rfl
      have e1 : parts n ls may (i + 1) = parts n ls may i := by simp [parts, partS, List.getD, c3, c4]
      ((repeat' (first
    | (show SQ _ _ _ _ _ _ _ _; first | apply sq_nil | (apply q_move; exact rfl; exact rfl) | (apply q_assign; exact rfl; exact rfl) | (apply q_fieldAddr; exact rfl; exact rfl; exact (ty rfl); exact rfl; exact rfl; exact rfl; exact rfl) | (apply q_nilc; exact rfl; exact rfl; exact rfl) | (apply q_not; exact rfl; exact rfl) | (apply q_lend; exact rfl; exact rfl; exact (ty rfl); exact rfl) | (apply q_add; exact rfl; exact rfl; exact rfl) | (apply q_lss; exact rfl; exact rfl; exact rfl) | (apply q_ixd; exact rfl; exact rfl; exact rfl; exact (ty rfl); exact rfl; exact (by first | omega | (simp; done) | (simp; omega)); exact (by first | omega | (simp; done) | (simp; omega)); exact (by first | rfl | assumption)) | (apply q_ld1d; exact rfl; exact rfl; exact (ty rfl); exact rfl; exact rfl))
    | (show AW _ _ _ _ _ _ _ _; first | refine aw_region ?_ | (refine aw_seqk ?_; intro K hK) | refine aw_block ?_ | (apply aw_cond_t; exact rfl; exact (by assumption)) | refine aw_exit ?_ | refine aw_skip ?_)
    | refine thn_n ?_
    | (refine hK _ _ _ ?_; clear hK K)
    | refine thn_e ?_
    | refine inb_same ?_
    | (clear hK K; refine hK _ _ _ ?_; clear hK K))); all_goals (repeat (clear hK K)))
      all_goals (refine ⟨i + 1, id, c2, by omega, ?_⟩; (try dsimp only); rw [e1, ← hw3]; exact ⟨by (repeat (refine ⟨by first | exact lk_i rfl rfl | exact lk_d rfl rfl | exact lk_s rfl rfl rfl rfl | exact lk_p rfl rfl, ?_⟩)); exact trivial, by (repeat (refine ⟨by first | exact ⟨rfl, rfl, rfl⟩, ?_⟩)); exact trivial, by rfl, by exact pin_0⟩)
    | true =>
      have b4 : (!may[i]) = false := by rw [c4]; rfl
      have e1 : parts n ls may (i + 1) = relab (parts n ls may i)[ls[i].a.toNat] (parts n ls may i)[ls[i].b.toNat] (parts n ls may i) := by simp [parts, partS, List.getD, c2, c3, c4, a2, d2]
      ((repeat' (first
    | (show SQ _ _ _ _ _ _ _ _; first | apply sq_nil | (apply q_move; exact rfl; exact rfl) | (apply q_assign; exact rfl; exact rfl) | (apply q_fieldAddr; exact rfl; exact rfl; exact (ty rfl); exact rfl; exact rfl; exact rfl; exact rfl) | (apply q_nilc; exact rfl; exact rfl; exact rfl) | (apply q_not; exact rfl; exact rfl) | (apply q_lend; exact rfl; exact rfl; exact (ty rfl); exact rfl) | (apply q_lss; exact rfl; exact rfl; exact rfl) | (apply q_ixd; exact rfl; exact rfl; exact rfl; exact (ty rfl); exact rfl; exact (by first | omega | (simp; done) | (simp; omega)); exact (by first | omega | (simp; done) | (simp; omega)); exact (by first | rfl | assumption)) | (apply q_ixl; exact rfl; exact rfl; exact rfl; exact (ty rfl); exact rfl; exact rfl; exact rfl; exact (by first | omega | (simp; done) | (simp; omega)); exact (by first | omega | (simp; done) | (simp; omega))) | (apply q_ld1d; exact rfl; exact rfl; exact (ty rfl); exact rfl; exact rfl) | (apply q_ld1p; exact rfl; exact rfl; exact (ty rfl); exact rfl; exact rfl; exact (by first | rfl | assumption | ((try simp only [Nat.zero_add]); refine List.getElem?_set_self ?_; (try simp only [List.length_set]); assumption)); exact rfl))
    | (show AW _ _ _ _ _ _ _ _; first | refine aw_region ?_ | (refine aw_seqk ?_; intro K hK) | refine aw_block ?_ | (apply aw_cond_t; exact rfl; exact (by assumption)) | (apply aw_cond_f; exact rfl; exact (by assumption)) | refine aw_skip ?_)
    | refine thn_n ?_
    | (refine hK _ _ _ ?_; clear hK K))); all_goals (repeat (clear hK K)))
      generalize parts n ls may i = p at *
      generalize hx : p[ls[i].a.toNat] = x at *
      generalize hy : p[ls[i].b.toNat] = y at *
      refine aw_loop (ρ := id) (ι := Nat) (fun q => ([(10, .v (.int .i64 q)), (9, .v (.int .i64 y)), (8, .v (.int .i64 x)), (7, .v (.int .i64 i)), (5, .sl 0 0 n.toNat), (1, .dsl 1 (may.map boL)), (0, .dptr [.v (.int .i64 n), .dsl 4 (ls.map lnL)])], [(0, ⟨2, 1, true, (ramp (rlF x y p) p q).map inL⟩)], 1))
        (fun q => q ≤ n.toNat) (fun q => n.toNat - q) 0 (Nat.zero_le _) ⟨by (repeat (refine ⟨by first | exact lk_i rfl rfl | exact lk_d rfl rfl | exact lk_s rfl rfl rfl rfl | exact lk_p rfl rfl, ?_⟩)); exact trivial, by (repeat (refine ⟨by first | exact ⟨rfl, rfl, rfl⟩, ?_⟩)); exact trivial, by rfl, by exact pin_0⟩ ?_
      intro q hq
      by_cases c5 : q < n.toNat
      · have b5 : decide ((q : Int) < (n.toNat : Int)) = true := by simp only [decide_eq_true_eq]; omega
        have c6 : q < p.length := by omega
        have hr2 : ((ramp (rlF x y p) p q).map inL)[0 + ((q : Int)).toNat]? = some (inL p[q]) := by
          rw [List.getElem?_map, show 0 + ((q : Int)).toNat = q by omega, ramp_get c6]; rfl
        rw [inL_eq] at hr2
        have hw4 : IntKind.i64.wrap ((q : Int) + 1) = ((q + 1 : Nat) : Int) := by rw [IntWalk.i64_in _ (by omega)]; omega
        ((repeat' (first
    | (show SQ _ _ _ _ _ _ _ _; first | apply sq_nil | (apply q_move; exact rfl; exact rfl) | (apply q_assign; exact rfl; exact rfl) | (apply q_lenl; exact rfl; exact rfl; exact (ty rfl); exact rfl) | (apply q_add; exact rfl; exact rfl; exact rfl) | (apply q_eql; exact rfl; exact rfl; exact rfl) | (apply q_lss; exact rfl; exact rfl; exact rfl) | (apply q_ixl; exact rfl; exact rfl; exact rfl; exact (ty rfl); exact rfl; exact rfl; exact rfl; exact (by first | omega | (simp; done) | (simp; omega)); exact (by first | omega | (simp; done) | (simp; omega))) | (apply q_ld1p; exact rfl; exact rfl; exact (ty rfl); exact rfl; exact rfl; exact (by first | rfl | assumption | ((try simp only [Nat.zero_add]); refine List.getElem?_set_self ?_; (try simp only [List.length_set]); assumption)); exact rfl))
    | (show SQ _ _ _ _ _ _ _ _; (first | (apply q_store; exact rfl; exact rfl; exact (ty rfl); exact rfl; exact (by first | rfl | assumption | ((try simp only [Nat.zero_add]); refine List.getElem?_set_self ?_; (try simp only [List.length_set]); assumption)); exact rfl; exact rfl; exact rfl)); (try simp only [put, rowsOf, plR, List.all_cons, selE, ovr, setH, del, cellsA, splice, isV, List.nil_append, List.cons_append, List.map_cons, List.map_nil, List.length_cons, List.length_nil, List.set_cons_zero, List.set_cons_succ, List.take_succ_cons, List.take_zero, List.take_nil, List.drop_succ_cons, List.drop_zero, List.drop_nil, List.append_nil, List.all_cons, List.all_nil, Bool.and_true, Bool.true_and, Bool.and_false, Bool.false_and, Nat.reduceAdd, Nat.zero_add, Nat.add_zero, Nat.reduceEqDiff, if_true, if_false, reduceIte]))
    | (show AW _ _ _ _ _ _ _ _; first | refine aw_region ?_ | (refine aw_seqk ?_; intro K hK) | refine aw_block ?_ | (apply aw_cond_t; exact rfl; exact (by assumption)) | refine aw_skip ?_ | (apply aw_ite; exact rfl; all_goals intro h))
    | refine thn_n ?_
    | (refine hK _ _ _ ?_; clear hK K)
    | refine inb_n ?_)); all_goals (repeat (clear hK K)))
        · have e2 := rl_yes (x := x) c6 (by simpa using ‹(p[q] == y) = true›)
          refine ⟨q + 1, id, c5, by omega, ?_⟩
          (try dsimp only); rw [← ramp_set c6, e2, List.map_set, ← hw4]
          exact ⟨by (repeat (refine ⟨by first | exact lk_i rfl rfl | exact lk_d rfl rfl | exact lk_s rfl rfl rfl rfl | exact lk_p rfl rfl, ?_⟩)); exact trivial, by (repeat (refine ⟨by first | exact ⟨rfl, rfl, rfl⟩, ?_⟩)); exact trivial, by rfl, by exact pin_0⟩
        · have e2 := ramp_same (f := rlF x y p) c6 (rl_no (x := x) c6 (by simpa using ‹(p[q] == y) = false›))
          refine ⟨q + 1, id, c5, by omega, ?_⟩
          (try dsimp only); rw [e2, ← hw4]
          exact ⟨by (repeat (refine ⟨by first | exact lk_i rfl rfl | exact lk_d rfl rfl | exact lk_s rfl rfl rfl rfl | exact lk_p rfl rfl, ?_⟩)); exact trivial, by (repeat (refine ⟨by first | exact ⟨rfl, rfl, rfl⟩, ?_⟩)); exact trivial, by rfl, by exact pin_0⟩
      · have b5 : decide ((q : Int) < (n.toNat : Int)) = false := by simp only [decide_eq_false_iff_not]; omega
        have e2 : ramp (rlF x y p) p q = relab x y p := by
          rw [show q = p.length by omega, ramp_full, rl_full]
        ((repeat' (first
    | (show SQ _ _ _ _ _ _ _ _; first | apply sq_nil | (apply q_move; exact rfl; exact rfl) | (apply q_assign; exact rfl; exact rfl) | (apply q_lenl; exact rfl; exact rfl; exact (ty rfl); exact rfl) | (apply q_add; exact rfl; exact rfl; exact rfl) | (apply q_lss; exact rfl; exact rfl; exact rfl))
    | (show AW _ _ _ _ _ _ _ _; first | refine aw_region ?_ | (refine aw_seqk ?_; intro K hK) | (apply aw_cond_f; exact rfl; exact (by assumption)) | refine aw_exit ?_)
    | refine thn_n ?_
    | (refine hK _ _ _ ?_; clear hK K)
    | refine thn_e ?_
    | refine inb_same ?_
    | refine inb_n ?_
    | (clear hK K; refine hK _ _ _ ?_; clear hK K))); all_goals (repeat (clear hK K)))
        all_goals (refine ⟨i + 1, id, c2, by omega, ?_⟩; (try dsimp only); rw [e1, ← e2, ← hw3]; exact ⟨by (repeat (refine ⟨by first | exact lk_i rfl rfl | exact lk_d rfl rfl | exact lk_s rfl rfl rfl rfl | exact lk_p rfl rfl, ?_⟩)); exact trivial, by (repeat (refine ⟨by first | exact ⟨rfl, rfl, rfl⟩, ?_⟩)); exact trivial, by rfl, by exact pin_0⟩)
  · have b2 : decide ((i : Int) < ((ls.map lnL).length : Int)) = false := by simpa using c2
    obtain rfl : i = ls.length := by omega
    ((repeat' (first
    | (show SQ _ _ _ _ _ _ _ _; first | apply sq_nil | (apply q_move; exact rfl; exact rfl) | (apply q_assign; exact rfl; exact rfl) | (apply q_fieldAddr; exact rfl; exact rfl; exact (ty rfl); exact rfl; exact rfl; exact rfl; exact rfl) | (apply q_nilc; exact rfl; exact rfl; exact rfl) | (apply q_lend; exact rfl; exact rfl; exact (ty rfl); exact rfl) | (apply q_lss; exact rfl; exact rfl; exact rfl) | (apply q_ld1d; exact rfl; exact rfl; exact (ty rfl); exact rfl; exact rfl))
    | (show AW _ _ _ _ _ _ _ _; first | refine aw_region ?_ | (refine aw_seqk ?_; intro K hK) | (apply aw_cond_f; exact rfl; exact (by assumption)) | refine aw_ret ?_ | refine aw_exit ?_)
    | refine thn_n ?_
    | (refine hK _ _ _ ?_; clear hK K)
    | refine thn_e ?_
    | refine inb_same ?_
    | (clear hK K; refine hK _ _ _ ?_; clear hK K))); all_goals (repeat (clear hK K)))
    all_goals exact fin_r (fin_m rfl rfl _ _ rfl rfl)
end Go.Proofs.Ytglfcaioapdiaaa.Bk
