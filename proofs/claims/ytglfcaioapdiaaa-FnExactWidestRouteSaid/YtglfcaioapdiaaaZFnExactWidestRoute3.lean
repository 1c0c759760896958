/-
  What the law FnExactWidestRoute rests on, part 3.
-/
import Derived.Test.YtglfcaioapdiaaaZFnExactWidestRoute2
namespace Go.Proofs.Ytglfcaioapdiaaa.Bk
open Go Go.RowKit Go.Proofs.Ytglfcaioapdiaaa.Aw
set_option linter.unusedSimpArgs false
set_option linter.unusedVariables false
attribute [local irreducible] AW SQ Step RO RC DE Thn InB
structure Ln where
  a : Int
  b : Int
  o : Int
  c : Int
def lnL (l : Ln) : List AV := [.v (.int .i64 l.a), .v (.int .i64 l.b), .v (.int .i64 l.o), .v (.int .i64 l.c)]
theorem lnL_eq (l : Ln) : lnL l = [.v (.int .i64 l.a), .v (.int .i64 l.b), .v (.int .i64 l.o), .v (.int .i64 l.c)] := rfl
def lnz : Ln := ⟨0, 0, 0, 0⟩
def inB (n lo hi : Int) : Bool := decide (lo ≤ n) && decide (n ≤ hi)
def bkL (n : Int) (ls : List Ln) : List AV := [.v (.int .i64 n), .dsl 4 (ls.map lnL)]
def i64c (x y : Int) : Int := if x < y then -1 else if y < x then 1 else 0
set_option maxHeartbeats 4000000 in
theorem within_ro (n lo hi : Int) (k : Nat) : RO Try.prog 103 [.v (.int .i64 n), .v (.int .i64 lo), .v (.int .i64 hi)] k (.v (.bool (inB n lo hi))) [] k := by
  refine RO.ofv' Try.func103 Try.ntmps103 rfl (goFn_of Try.func103 rfl (by kernel_rfl)) rfl rfl ?_
  ((repeat' (first
    | (show SQ _ _ _ _ _ _ _ _; first | apply sq_nil | (apply q_move; exact rfl; exact rfl) | (apply q_assign; exact rfl; exact rfl) | (apply q_pick_t; exact rfl; exact rfl; exact rfl; exact (by first | assumption | exact rfl)) | (apply q_pick_f; exact rfl; exact rfl; exact rfl; exact (by first | assumption | exact rfl)) | (apply q_leq; exact rfl; exact rfl; exact rfl) | (apply q_geq; exact rfl; exact rfl; exact rfl) | (apply q_g; exact rfl; exact rfl; exact rfl; exact (by assumption)) | (apply q_s; exact rfl; exact rfl; exact rfl; exact (by assumption); exact rfl))
    | (show SQ _ _ _ _ _ _ _ _; apply q_gs; exact rfl; exact rfl; exact rfl; exact rfl; all_goals intro h)
    | (show AW _ _ _ _ _ _ _ _; first | refine aw_region ?_ | (refine aw_seqk ?_; intro K hK) | refine aw_ret ?_)
    | refine thn_n ?_
    | (refine hK _ _ _ ?_; clear hK K))); all_goals (repeat (clear hK K)))
  all_goals refine fin_r (fin_b rfl ?_)
  all_goals simp_all [inB]
  all_goals (intros; omega)
set_option maxHeartbeats 4000000 in
theorem l00In_ro (n lo hi : Int) (k : Nat) : RO Try.prog 61 [.v (.int .i64 n), .v (.int .i64 lo), .v (.int .i64 hi)] k (.v (.bool (inB n lo hi))) [] k := by
  refine RO.ofv' Try.func61 Try.ntmps61 rfl (goFn_of Try.func61 rfl (by kernel_rfl)) rfl rfl ?_
  ((repeat' (first
    | (show SQ _ _ _ _ _ _ _ _; first | apply sq_nil | (apply q_move; exact rfl; exact rfl) | (apply q_assign; exact rfl; exact rfl) | (apply q_pick_t; exact rfl; exact rfl; exact rfl; exact (by first | assumption | exact rfl)) | (apply q_pick_f; exact rfl; exact rfl; exact rfl; exact (by first | assumption | exact rfl)) | (apply q_leq; exact rfl; exact rfl; exact rfl) | (apply q_geq; exact rfl; exact rfl; exact rfl) | (apply q_g; exact rfl; exact rfl; exact rfl; exact (by assumption)) | (apply q_s; exact rfl; exact rfl; exact rfl; exact (by assumption); exact rfl))
    | (show SQ _ _ _ _ _ _ _ _; apply q_gs; exact rfl; exact rfl; exact rfl; exact rfl; all_goals intro h)
    | (show AW _ _ _ _ _ _ _ _; first | refine aw_region ?_ | (refine aw_seqk ?_; intro K hK) | refine aw_ret ?_)
    | refine thn_n ?_
    | (refine hK _ _ _ ?_; clear hK K))); all_goals (repeat (clear hK K)))
  all_goals refine fin_r (fin_b rfl ?_)
  all_goals simp_all [inB]
  all_goals (intros; omega)
set_option maxHeartbeats 4000000 in
theorem l13Outage_ro (n : Int) (k : Nat) : RO Try.prog 99 [.v (.int .i64 n)] k (.v (.bool (inB n 0 1000000))) [] k := by
  refine RO.ofv' Try.func99 Try.ntmps99 rfl (goFn_of Try.func99 rfl (by kernel_rfl)) rfl rfl ?_
  ((repeat' (first
    | (show SQ _ _ _ _ _ _ _ _; first | apply sq_nil | (apply q_move; exact rfl; exact rfl) | (apply q_assign; exact rfl; exact rfl))
    | (show SQ _ _ _ _ _ _ _ _; (first | (apply q_callU; exact rfl; exact rfl; exact rfl; exact FzL.of rfl; exact l00In_ro _ _ _ _)); (try simp only [put, rowsOf, plR, List.all_cons, selE, ovr, setH, del, cellsA, splice, isV, List.nil_append, List.cons_append, List.map_cons, List.map_nil, List.length_cons, List.length_nil, List.set_cons_zero, List.set_cons_succ, List.take_succ_cons, List.take_zero, List.take_nil, List.drop_succ_cons, List.drop_zero, List.drop_nil, List.append_nil, List.all_cons, List.all_nil, Bool.and_true, Bool.true_and, Bool.and_false, Bool.false_and, Nat.reduceAdd, Nat.zero_add, Nat.add_zero, Nat.reduceEqDiff, if_true, if_false, reduceIte]))
    | (show AW _ _ _ _ _ _ _ _; first | refine aw_region ?_ | (refine aw_seqk ?_; intro K hK) | refine aw_ret ?_)
    | refine thn_n ?_
    | (refine hK _ _ _ ?_; clear hK K))); all_goals (repeat (clear hK K)))
  all_goals exact fin_r (fin_b rfl rfl)
set_option maxHeartbeats 4000000 in
theorem isNaN_ro (n : Int) (k : Nat) : RO Try.prog 112 [.v (.int .i64 n)] k (.v (.bool false)) [] k := by
  refine RO.ofv' Try.func112 Try.ntmps112 rfl (goFn_of Try.func112 rfl (by kernel_rfl)) rfl rfl ?_
  ((repeat' (first
    | (show SQ _ _ _ _ _ _ _ _; first | apply sq_nil | (apply q_move; exact rfl; exact rfl) | (apply q_assign; exact rfl; exact rfl) | (apply q_neq; exact rfl; exact rfl; exact rfl))
    | (show AW _ _ _ _ _ _ _ _; first | refine aw_region ?_ | (refine aw_seqk ?_; intro K hK) | refine aw_ret ?_)
    | refine thn_n ?_
    | (refine hK _ _ _ ?_; clear hK K))); all_goals (repeat (clear hK K)))
  all_goals refine fin_r (fin_b rfl ?_)
  all_goals simp
set_option maxHeartbeats 4000000 in
theorem Compare_ro (x y : Int) (k : Nat) : RO Try.prog 78 [.v (.int .i64 x), .v (.int .i64 y)] k (.v (.int .i64 (i64c x y))) [] k := by
  refine RO.ofv' Try.func78 Try.ntmps78 rfl (goFn_of Try.func78 rfl (by kernel_rfl)) rfl rfl ?_
  ((repeat' (first
    | (show SQ _ _ _ _ _ _ _ _; first | apply sq_nil | (apply q_move; exact rfl; exact rfl) | (apply q_assign; exact rfl; exact rfl) | (apply q_lss; exact rfl; exact rfl; exact rfl) | (apply q_gtr; exact rfl; exact rfl; exact rfl))
    | (show SQ _ _ _ _ _ _ _ _; (first | (apply q_callU; exact rfl; exact rfl; exact rfl; exact FzL.of rfl; exact isNaN_ro _ _)); (try simp only [put, rowsOf, plR, List.all_cons, selE, ovr, setH, del, cellsA, splice, isV, List.nil_append, List.cons_append, List.map_cons, List.map_nil, List.length_cons, List.length_nil, List.set_cons_zero, List.set_cons_succ, List.take_succ_cons, List.take_zero, List.take_nil, List.drop_succ_cons, List.drop_zero, List.drop_nil, List.append_nil, List.all_cons, List.all_nil, Bool.and_true, Bool.true_and, Bool.and_false, Bool.false_and, Nat.reduceAdd, Nat.zero_add, Nat.add_zero, Nat.reduceEqDiff, if_true, if_false, reduceIte]))
    | (show AW _ _ _ _ _ _ _ _; first | refine aw_region ?_ | (refine aw_seqk ?_; intro K hK) | (apply aw_cond_f; exact rfl; exact rfl) | refine aw_ret ?_ | refine aw_skip ?_ | (apply aw_ite; exact rfl; all_goals intro h))
    | refine thn_n ?_
    | (refine hK _ _ _ ?_; clear hK K)
    | refine thn_r ?_)); all_goals (repeat (clear hK K)))
  all_goals refine fin_r (fin_i rfl ?_)
  all_goals simp_all [i64c]
  all_goals (intros; omega)
set_option maxHeartbeats 4000000 in
theorem Or_ro (x y : Int) (k : Nat) : RO Try.prog 110 [.dsl 1 [[.v (.int .i64 x)], [.v (.int .i64 y)]]] k (.v (.int .i64 (if x = 0 then y else x))) [] k := by
  refine RO.ofv' Try.func110 Try.ntmps110 rfl (goFn_of Try.func110 rfl (by kernel_rfl)) rfl rfl ?_
  ((repeat' (first
    | (show SQ _ _ _ _ _ _ _ _; first | apply sq_nil | (apply q_move; exact rfl; exact rfl) | (apply q_assign; exact rfl; exact rfl) | (apply q_lend; exact rfl; exact rfl; exact (ty rfl); exact rfl))
    | (show AW _ _ _ _ _ _ _ _; first | refine aw_region ?_ | (refine aw_seqk ?_; intro K hK) | refine aw_block ?_)
    | refine thn_n ?_
    | (refine hK _ _ _ ?_; clear hK K))); all_goals (repeat (clear hK K)))
  refine aw_loop (ρ := id) (ι := Nat) (fun i => ([(8, .v (.int .i64 i)), (7, .v (.int .i64 2)), (6, .dsl 1 [[.v (.int .i64 x)], [.v (.int .i64 y)]]), (3, .v (.int .i64 0))], [], 0))
    (fun i => i ≤ 2 ∧ (0 < i → x = 0) ∧ (1 < i → y = 0)) (fun i => 2 - i) 0 (by simp) ⟨by (repeat (refine ⟨by first | exact lk_i rfl rfl | exact lk_d rfl rfl, ?_⟩)); exact trivial, by exact trivial, by rfl, by exact pin_0⟩ ?_
  rintro i ⟨hi, h0, h1⟩
  match i, hi with
  | 0, _ =>
    have b2 : decide (((0 : Nat) : Int) < 2) = true := by simp
    ((repeat' (first
    | (show SQ _ _ _ _ _ _ _ _; first | apply sq_nil | (apply q_move; exact rfl; exact rfl) | (apply q_assign; exact rfl; exact rfl) | (apply q_add; exact rfl; exact rfl; exact rfl) | (apply q_neq; exact rfl; exact rfl; exact rfl) | (apply q_lss; exact rfl; exact rfl; exact rfl) | (apply q_ixd; exact rfl; exact rfl; exact rfl; exact (ty rfl); exact rfl; exact (by first | omega | (simp; done) | (simp; omega)); exact (by first | omega | (simp; done) | (simp; omega)); exact (by first | rfl | assumption)) | (apply q_ld1d; exact rfl; exact rfl; exact (ty rfl); exact rfl; exact rfl))
    | (show AW _ _ _ _ _ _ _ _; first | refine aw_region ?_ | (refine aw_seqk ?_; intro K hK) | refine aw_block ?_ | (apply aw_cond_t; exact rfl; exact rfl) | refine aw_ret ?_ | refine aw_skip ?_ | (apply aw_ite; exact rfl; all_goals intro h))
    | refine thn_n ?_
    | (refine hK _ _ _ ?_; clear hK K)
    | refine thn_r ?_
    | refine inb_n ?_
    | refine inb_r ?_)); all_goals (repeat (clear hK K)))
    all_goals first
      | (refine fin_r (fin_i rfl ?_); simp_all; done)
      | (refine ⟨1, id, ⟨by omega, by simp_all, by simp⟩, by omega, ⟨by (repeat (refine ⟨by first | exact lk_i rfl rfl | exact lk_d rfl rfl, ?_⟩)); exact trivial, by exact trivial, by rfl, by exact pin_0⟩⟩)
  | 1, _ =>
    have b2 : decide (((1 : Nat) : Int) < 2) = true := by simp
    have h0 := h0 (by omega)
    ((repeat' (first
    | (show SQ _ _ _ _ _ _ _ _; first | apply sq_nil | (apply q_move; exact rfl; exact rfl) | (apply q_assign; exact rfl; exact rfl) | (apply q_add; exact rfl; exact rfl; exact rfl) | (apply q_neq; exact rfl; exact rfl; exact rfl) | (apply q_lss; exact rfl; exact rfl; exact rfl) | (apply q_ixd; exact rfl; exact rfl; exact rfl; exact (ty rfl); exact rfl; exact (by first | omega | (simp; done) | (simp; omega)); exact (by first | omega | (simp; done) | (simp; omega)); exact (by first | rfl | assumption)) | (apply q_ld1d; exact rfl; exact rfl; exact (ty rfl); exact rfl; exact rfl))
    | (show AW _ _ _ _ _ _ _ _; first | refine aw_region ?_ | (refine aw_seqk ?_; intro K hK) | refine aw_block ?_ | (apply aw_cond_t; exact rfl; exact rfl) | refine aw_ret ?_ | refine aw_skip ?_ | (apply aw_ite; exact rfl; all_goals intro h))
    | refine thn_n ?_
    | (refine hK _ _ _ ?_; clear hK K)
    | refine thn_r ?_
    | refine inb_n ?_
    | refine inb_r ?_)); all_goals (repeat (clear hK K)))
    all_goals first
      | (refine fin_r (fin_i rfl ?_); simp_all; done)
      | (refine ⟨2, id, ⟨by omega, by simp_all, by simp_all⟩, by omega, ⟨by (repeat (refine ⟨by first | exact lk_i rfl rfl | exact lk_d rfl rfl, ?_⟩)); exact trivial, by exact trivial, by rfl, by exact pin_0⟩⟩)
  | 2, _ =>
    have b2 : decide (((2 : Nat) : Int) < 2) = false := by simp
    ((repeat' (first
    | (show SQ _ _ _ _ _ _ _ _; first | apply sq_nil | (apply q_move; exact rfl; exact rfl) | (apply q_assign; exact rfl; exact rfl) | (apply q_lss; exact rfl; exact rfl; exact rfl))
    | (show AW _ _ _ _ _ _ _ _; first | refine aw_region ?_ | (refine aw_seqk ?_; intro K hK) | (apply aw_cond_f; exact rfl; exact rfl) | refine aw_ret ?_ | refine aw_exit ?_)
    | refine thn_n ?_
    | (refine hK _ _ _ ?_; clear hK K)
    | refine thn_e ?_
    | refine inb_same ?_
    | (clear hK K; refine hK _ _ _ ?_; clear hK K))); all_goals (repeat (clear hK K)))
    all_goals refine fin_r (fin_i rfl ?_)
    simp_all
end Go.Proofs.Ytglfcaioapdiaaa.Bk

namespace Go.Proofs.Ytglfcaioapdiaaa.Fr
open Go.ChangeShapes Go.WideShapes Go.ChangeAt Go.RowKit Go.Deep
open Go.ChangeMaps (open_string shut_string)
open Go.Proofs.Ytglfcaioapdiaaa.Bk
set_option linter.unusedSimpArgs false
def lnC (l : Ln) : List Value := [.int .i64 l.a, .int .i64 l.b, .int .i64 l.o, .int .i64 l.c]
def Ln.wf (l : Ln) : Prop := (Lit.int .i64 l.a).wf = true ∧ (Lit.int .i64 l.b).wf = true ∧ (Lit.int .i64 l.o).wf = true ∧ (Lit.int .i64 l.c).wf = true
def IsBack (w : World) (v : Value) : Prop := ∃ (n : Int) (ls : List Ln) (s : Value), v = .agg #[.int .i64 n, s] ∧ SlV lnC 4 w s ls ∧ (Lit.int .i64 n).wf = true ∧ ∀ l ∈ ls, Ln.wf l
instance : Inhabited Ln := ⟨⟨0, 0, 0, 0⟩⟩
section
variable {H : Type} {enc : TypeId × Value → H} {W : World} {r : Reach} {b0 base : Nat} {spare : Nat → Bool} {held : Bool} {v : Value} {d : DataW H} {p : List MemPlace}
theorem cellsInt : Try.prog.cellsOf 2 = 1 := by kernel_rfl
theorem cellsLink : Try.prog.cellsOf 113 = 4 := by kernel_rfl
theorem cellsBack : Try.prog.cellsOf 24 = 2 := by kernel_rfl
theorem cellsLinks : Try.prog.cellsOf 22 = 1 := by kernel_rfl
set_option maxRecDepth 100000 in
theorem isInt_of (hv : Value.okWide Try.prog W r b0 2 v) (h : DataW.Trod enc Try.prog W base spare held 2 v d p) : IsInt W v := by
  obtain ⟨x, rfl, _, _, wx⟩ := open_int Try.underlying2 hv h
  exact ⟨x, rfl, wx⟩
set_option maxRecDepth 100000 in
theorem link_cells {fuel : Nat} {cs : List Value} {x : DataW H × List MemPlace} (h : DataW.trod enc Try.prog W base spare held fuel 113 cs = some x) : ∃ l : Ln, cs = lnC l ∧ Ln.wf l := by
  obtain ⟨xs, n, _, _, hcl, hlen, hg⟩ := DataW.trod_struct Try.underlying113 h
  rw [cellsLink] at hcl
  match cs, hcl with
  | [c0, c1, c2, c3], _ =>
    match xs, hlen with
    | [y0, y1, y2, y3], _ =>
      have g0 := hg 0 _ rfl
      have g1 := hg 1 _ rfl
      have g2 := hg 2 _ rfl
      have g3 := hg 3 _ rfl
      simp [Value.cells, cellsInt] at g0 g1 g2 g3
      obtain ⟨i0, e0, _, w0⟩ := DataW.trod_int Try.underlying2 g0
      obtain ⟨i1, e1, _, w1⟩ := DataW.trod_int Try.underlying2 g1
      obtain ⟨i2, e2, _, w2⟩ := DataW.trod_int Try.underlying2 g2
      obtain ⟨i3, e3, _, w3⟩ := DataW.trod_int Try.underlying2 g3
      simp at e0 e1 e2 e3
      subst e0 e1 e2 e3
      exact ⟨⟨i0, i1, i2, i3⟩, rfl, w0, w1, w2, w3⟩
set_option maxRecDepth 100000 in
theorem isBack_of (hv : Value.okWide Try.prog W r b0 24 v) (h : DataW.Trod enc Try.prog W base spare held 24 v d p) : IsBack W v := by
  obtain ⟨cs, rfl, hsz⟩ := okWide_struct Try.underlying24 hv
  obtain ⟨l⟩ := cs
  match l, hsz.trans cellsBack with
  | [c0, c1], _ =>
    obtain ⟨fuel, hf⟩ := h
    obtain ⟨xs, n, _, _, _, hlen, hg⟩ := DataW.trod_struct Try.underlying24 hf
    match xs, hlen with
    | [y0, y1], _ =>
      have g0 := hg 0 _ rfl
      have g1 := hg 1 _ rfl
      simp [Value.cells, cellsInt, cellsLinks] at g0 g1
      obtain ⟨i0, e0, _, w0⟩ := DataW.trod_int Try.underlying2 g0
      simp at e0
      subst e0
      obtain ⟨ls, h1, h2⟩ := sl_open (Q := Ln.wf) Try.underlying22 cellsLink (by omega) (fun _ => rfl) (fun a y hy => by simp [lnC] at hy; rcases hy with rfl | rfl | rfl | rfl <;> rfl) (fun _ _ _ h => link_cells h) g1
      exact ⟨i0, ls, c1, rfl, h1, w0, h2⟩
theorem back_vr {n : Int} {ls : List Ln} {s : Value} (h : SlV lnC 4 W s ls) : Aw.VR (fun k => k < W.heap.size) W (fun _ => ⟨0, 0, 0, false⟩) Aw.NoS (.agg (bkL n ls)) (.agg #[.int .i64 n, s]) := by
  refine .agg _ _ [.int .i64 n, s] rfl fun j cv x h1 h2 => ?_
  match j with
  | 0 => simp [bkL] at h1 h2; subst h1 h2; exact .v _ _
  | 1 => simp [bkL] at h1 h2; subst h1 h2; exact h.1
  | j + 2 => simp [bkL] at h1
end
end Go.Proofs.Ytglfcaioapdiaaa.Fr

namespace Go.Proofs.Ytglfcaioapdiaaa.Aw
open Go Go.RowKit
set_option linter.unusedSimpArgs false
set_option linter.unusedVariables false
abbrev wi0 (w : World) (hgl : Gl w) : WI (fun i => i < w.heap.size) := ⟨w, fun _ => none, hgl, fun _ hk => Nat.lt_of_lt_of_le hk hgl.size⟩
theorem fin_new {P : Program} {fn : Func} {v : AV} {U : Hp} {n k : Nat} {w : World} {hgl : Gl w} (hU : fullB U k = true) {a' : Act} {w' : World} {T' : Tp} {H' : Hp} {n' : Nat} {m' : Nat → Loc} {K' : Nat → Prop} (hfin : FinOk P fn.results.toList v U k T' H')
    (hr : Rel (fun i => i < w.heap.size) (wi0 w hgl) K' m' (fun i => i < n') H' w') (ht : TRel K' w' m' (fun i => i < n') fn.ntmps T' a') :
    a'.defers = [] ∧ ∃ x, (results fn a'.tmps).run P w' = .ok x w' ∧ ∃ r m', Ending.returned x = .returned r ∧ NewR n (n + k) (renA (fun i => i + n) v) (shH n U) w r w' m' := by
  simp only [fullB, Bool.and_eq_true] at hU
  obtain ⟨hU1, hU2⟩ := hU
  have hids : ∀ i b, look (shH n U) i = some b → n ≤ i ∧ i < n + k := fun i b hl => by
    obtain ⟨j, b0, h1, h2, _⟩ := look_shH hl
    have := look_all hU1 h2
    simp only [Nat.blt_eq, Bool.and_eq_true] at this
    omega
  obtain ⟨u, ρ, hres, hu, hs, hi⟩ := hfin.res
  obtain ⟨x, hx, hvx⟩ := hres.run hr ht
  refine ⟨ht.dn, x, hx, x, fun i => m' (ρ (i - n)), rfl, ?_⟩
  have hm : ∀ i, i < k → (fun i => m' (ρ (i - n))) (i + n) = m' (ρ i) ∧ (n ≤ i + n ∧ i + n < n + k) := fun i hi => ⟨by simp, by omega, by omega⟩
  refine ⟨⟨hr.os, hr.tape, hr.output, hr.size, hr.old⟩, hvx.ren2 ρ (fun i => i + n) k hm v hu.symm hfin.ids hfin.nd, fun i h1 h2 hph => ?_, hids, fun i b hl => ?_, fun i j bi bj h1 h2 hne => ?_, fun i b hl hph hq => ?_⟩
  · have := List.all_eq_true.1 hU2 (i - n) (by simp; omega)
    obtain ⟨b0, hb0⟩ := Option.isSome_iff_exists.1 this
    have hnk : ¬ ((m' (ρ (i - n))).blk < w.heap.size) := hr.oown _ _ (subH_get hs hb0).1 hph
    show w.heap.size ≤ (m' (ρ (i - n))).blk
    omega
  · obtain ⟨j, b0, rfl, h2, rfl⟩ := look_shH hl
    obtain ⟨g1, g2, g3⟩ := subH_get hs h2
    have e : j + n - n = j := by omega
    rcases hr.own _ _ g1 with ⟨p1, p2⟩ | ⟨hph, hb⟩
    · refine .inl ⟨by simp only [e]; exact p1, ?_⟩
      cases hp : b0.pl with
      | true => have e : ∀ σ, renB σ b0 = b0 := fun σ => by cases b0; simp only at hp; subst hp; rfl
                rw [e] at p2 ⊢; exact p2
      | false => have e : ∀ σ, renB σ b0 = { b0 with rows := b0.rows.map (renL σ) } := fun σ => by cases b0; simp only at hp; subst hp; rfl
                 rw [e] at p2 ⊢; simpa using p2
    refine .inr ⟨by simp only [e]; exact hph, ?_⟩
    obtain ⟨cur, c1, c2, c3⟩ := hb.ex
    cases hp : b0.pl with
    | true =>
      have e1 : ∀ σ, renB σ b0 = b0 := fun σ => by cases b0; simp only at hp; subst hp; rfl
      rw [e1] at hb c1 c2 c3 ⊢
      refine ⟨fun h => h, by simp only [e]; exact hb.sz, by simp only [e]; exact hb.cap, by simp only [e]; exact hb.capm, hb.plv, cur, by simp only [e]; exact c1, by simp only [e]; exact c2, fun r row hrow => ⟨(c3 r row hrow).1, fun i cv hi => ?_⟩⟩
      obtain ⟨y, hy, hone, hvy⟩ := (c3 r row hrow).2 i cv hi
      have := hb.plv hp r row hrow i cv hi
      refine ⟨y, hy, hone, ?_⟩
      cases cv <;> simp only [isV] at this <;> try (cases this)
      cases hvy
      exact .v _ _
    | false =>
      have e1 : ∀ σ, renB σ b0 = { b0 with rows := b0.rows.map (renL σ) } := fun σ => by cases b0; simp only at hp; subst hp; rfl
      rw [e1] at hb c1 c2 c3 ⊢
      have hcap := hb.cap
      simp only [List.length_map] at hcap
      have hnd := look_all hfin.ndU h2
      unfold noDeepB at hnd
      unfold idsOkB at g2
      simp only [hp] at hnd g2
      refine ⟨fun h => h, by simp only [e]; exact hb.sz, by simp only [e, List.length_map]; exact hcap, by simp only [e]; exact hb.capm, fun hc => absurd hc (by simp [hp]), cur, by simp only [e]; exact c1, by simp only [e]; exact c2, fun r row hrow => ?_⟩
      simp only [List.getElem?_map] at hrow
      cases hrow0 : b0.rows[r]? with
      | none => simp [hrow0] at hrow
      | some row0 =>
        simp only [hrow0, Option.map_some, Option.some.injEq] at hrow
        subst hrow
        obtain ⟨k1, k2⟩ := c3 r (renL ρ row0) (by simp [hrow0])
        rw [renL_len] at k1
        refine ⟨by rw [renL_len]; exact k1, fun i cv hi => ?_⟩
        rw [renL_get] at hi
        cases hi0 : row0[i]? with
        | none => simp [hi0] at hi
        | some cv0 =>
          simp only [hi0, Option.map_some, Option.some.injEq] at hi
          subst hi
          obtain ⟨y, hy, hone, hvy⟩ := k2 i (renA ρ cv0) (by rw [renL_get, hi0]; rfl)
          exact ⟨y, hy, hone, (hvy.ren2 ρ (fun i => i + n) k (S2 := fun i => (n ≤ i ∧ i < n + k) ∧ b0.pl = false) (fun i hi => ⟨(hm i hi).1, (hm i hi).2, hp⟩) cv0 rfl (idsOkL_get (List.all_eq_true.1 g2 _ (List.mem_of_getElem? hrow0)) hi0) (noDeepL_get (List.all_eq_true.1 hnd _ (List.mem_of_getElem? hrow0)) hi0))⟩
  · obtain ⟨i, b1, rfl, h1, _⟩ := look_shH h1
    obtain ⟨j, b2, rfl, h2, _⟩ := look_shH h2
    have e1 : i + n - n = i := by omega
    have e2 : j + n - n = j := by omega
    simp only [e1, e2]
    exact hr.inj _ _ _ _ (subH_get hs h1).1 (subH_get hs h2).1 (injB_spec hi i j (look_mem h1) (look_mem h2) (fun e => hne (by rw [e])))
  · obtain ⟨j, b0, rfl, h2, rfl⟩ := look_shH hl
    have e : j + n - n = j := by omega
    simp only [e] at hph hq
    have hz := (hr.om _ _ (subH_get hs h2).1 hph hq).1
    have := look_all hU1 h2
    simp only [Bool.and_eq_true, Bool.not_eq_true'] at this
    have h3 := this.2
    simp only [renB] at hz
    rw [hz] at h3
    exact absurd h3 (by decide)

/-! the machine's rule, for one iterator at a time -/
def rndPost (D : Nat) (o : Obj) (I Ix : World → Prop) : Exit → Act → World → Prop
  | .normal, _, W => W.heap[D]? = some (.deferred (some [])) ∧ W.heap[D + 1]? = some o ∧ I W
  | .ret, _, W => W.heap[D]? = some (.deferred (some [])) ∧ W.heap[D + 1]? = some o ∧ Ix W
  | _, _, _ => False
theorem wpIn_back {P : Program} {g : Operand} {ps : Array Tmp} {assign body : Code} {Q : Exit → Act → World → Prop} {a : Act} {w : World} {gf : Nat} {lb : Array Value}
    (hg : a.eval g = .func (.func gf) #[] lb) (eg : ∀ args w, (callFunc gf args).run P w = .ok (.enter gf args) w)
    {len : Nat} {encs : Nat → Array Value} (hps : ∀ k, (encs k).size = ps.size) {I : Nat → World → Prop} {Ix : World → Prop}
    (hiter : ∀ (l : Nat) (J : Nat → World → Prop) (Jx : World → Prop) (W : World), (∀ k W, J k W → I k W) →
      (∀ k W, J k W → k < len → YieldAt (FW none) 0 P l (encs k) W fun e W' => (e = .returned (.bool true) ∧ J (k + 1) W') ∨ (e = .returned (.bool false) ∧ Jx W')) → J 0 W →
      CallsIn (FW none) 0 P gf (#[.func (.yield l) #[] #[]] ++ lb) W fun e W' => (∃ v, e = .returned v) ∧ (J len W' ∨ Jx W'))
    (h0 : ∀ o1 o2, I 0 ((w.alloc o1).alloc o2))
    (hput : ∀ k W o o', I k W → W.heap[w.heap.size + 1]? = some o → o.isCells = false → I k (W.putObj (w.heap.size + 1) o'))
    (hputx : ∀ W o o', Ix W → W.heap[w.heap.size + 1]? = some o → o.isCells = false → Ix (W.putObj (w.heap.size + 1) o'))
    (hround : ∀ k W o, k < len → I k W → W.heap[w.heap.size]? = some (.deferred (some [])) → W.heap[w.heap.size + 1]? = some o → o.isCells = false →
      assign.wpIn (FW (some (w.heap.size + 1))) 0 P (Exit.then (fun a₁ w₁ => w₁.heap[w.heap.size + 1]? = some o ∧ ∀ o', o'.isCells = false → body.wpIn (FW (some (w.heap.size + 1))) 0 P (rndPost w.heap.size o' (I (k + 1)) Ix) a₁ (w₁.putObj (w.heap.size + 1) o')) (fun _ _ _ => False))
        { tmps := (ps.zip (encs k)).foldl (fun t (p, v) => t.setIfInBounds p v) a.tmps, defers := [] } W)
    (hdone : ∀ W, I len W → W.heap[w.heap.size]? = some (.deferred (some [])) → Q .normal { a with defers := { target := .collected w.heap.size, args := #[] } :: a.defers } W)
    (hstop : ∀ W, Ix W → W.heap[w.heap.size]? = some (.deferred (some [])) → Q .ret { a with defers := { target := .collected w.heap.size, args := #[] } :: a.defers } W) :
    (Code.rangeFunc g ps assign body).wpIn (FW none) 0 P Q a w := by
  refine wpIn_rangeFunc ?_
  intro fn hfn
  obtain ⟨rec, hrec⟩ : ∃ rec : LoopState → Option Code → Loop, rec = fun st pe => { state := st, pending := pe, fn, tmps := a.tmps, params := ps, assign, body, defers := w.heap.size } := ⟨_, rfl⟩
  obtain ⟨W1, hW1⟩ : ∃ W1, (w.alloc (.deferred (some []))).alloc (.loop (rec .ready none)) = W1 := ⟨_, rfl⟩
  have hL1 : W1.heap[w.heap.size + 1]? = some (.loop (rec .ready none)) := by
    rw [← hW1]; have := World.alloc_heap_new (w.alloc (.deferred (some []))) (.loop (rec .ready none)); rwa [World.size_alloc] at this
  have hK1 : W1.heap[w.heap.size]? = some (.deferred (some [])) := by
    rw [← hW1]; exact (Below.heap_alloc _ _ _ (by simp)).trans (World.alloc_heap_new w _)
  have hI1 : I 0 W1 := by rw [← hW1]; exact h0 _ _
  refine ⟨w.heap.size + 1, [{ target := .collected w.heap.size, args := #[] }], W1, { target := .fn (.func gf) lb, args := #[.func (.yield (w.heap.size + 1)) #[] #[]] }, W1, gf,
    #[.func (.yield (w.heap.size + 1)) #[] #[]] ++ lb, W1, ?_, ?_, fun _ _ => trivial, ?_, fun h => by simp at h, ?_⟩
  · rw [← hW1, hrec]; exact run_enterLoop_outer _ _ _ _ _
  · simp only [resolve, hg]
    simp [go_sem]
  · simp [invoke, go_sem, eg]
  · have at2 : ∀ {W : World} {l : Nat} {o' : Obj} {o : Obj}, W.heap[l]? = some o → (W.putObj l o').heap[l]? = some o' := fun h => World.putObj_heap_same (Array.getElem?_eq_some_iff.1 h).1
    refine (hiter (w.heap.size + 1)
      (fun k W => I k W ∧ W.heap[w.heap.size + 1]? = some (.loop (rec .ready none)) ∧ W.heap[w.heap.size]? = some (.deferred (some [])))
      (fun W => Ix W ∧ W.heap[w.heap.size + 1]? = some (.loop (rec .done (some .ret))) ∧ W.heap[w.heap.size]? = some (.deferred (some [])))
      W1 (fun _ _ h => h.1) ?_ ⟨hI1, hL1, hK1⟩).mono ?_
    · rintro k W ⟨hi, hl, hk⟩ hlen
      have hy := run_yield (P := P) (args := encs k) hl (by rw [hrec]; exact hps k)
      rw [hrec] at hy
      refine ⟨fn, _, assign, body, hy, roundIn_of_wpIn trivial (wpIn_mono (hround k W _ hlen hi hk hl rfl) ?_)⟩
      rintro e a₁ w₁ hp
      cases e with
      | normal =>
        obtain ⟨hl1, hb⟩ := hp
        refine ⟨_, run_beginRound hl1 (by rw [hrec]), wpIn_mono (hb _ rfl) ?_⟩
        rintro e a3 W3 hp
        cases e with
        | normal =>
          obtain ⟨hk3, hl3, hi3⟩ := hp
          have hr := run_endRound (P := P) none hl3
          refine ⟨_, _, hr, .inl ⟨rfl, hput _ _ _ _ hi3 hl3 rfl, ?_, (World.putObj_heap_other (by omega)).trans hk3⟩⟩
          rw [at2 hl3, hrec]; rfl
        | ret =>
          obtain ⟨hk3, hl3, hi3⟩ := hp
          have hr := run_endRound (P := P) (some .ret) hl3
          refine ⟨_, _, hr, .inr ⟨rfl, hputx _ _ _ hi3 hl3 rfl, ?_, (World.putObj_heap_other (by omega)).trans hk3⟩⟩
          rw [at2 hl3, hrec]; rfl
        | exit id => exact hp.elim
        | goto t => exact hp.elim
        | panic ch => exact hp.elim
        | outgrown => exact hp.elim
      | exit id => exact hp.elim
      | goto t => exact hp.elim
      | ret => exact hp.elim
      | panic ch => exact hp.elim
      | outgrown => exact hp.elim
    · rintro e W2 ⟨⟨v, rfl⟩, (⟨hi, hl, hk⟩ | ⟨hi, hl, hk⟩)⟩
      · exact ⟨none, _, by have := run_endLoop (P := P) hl (by rw [hrec]; simp); rw [hrec] at this; exact this, hdone _ (hput _ _ _ _ hi hl rfl) ((World.putObj_heap_other (by omega)).trans hk)⟩
      · exact ⟨some .ret, _, by have := run_endLoop (P := P) hl (by rw [hrec]; simp); rw [hrec] at this; exact this, wpIn_ret (hstop _ (hputx _ _ _ hi hl rfl) ((World.putObj_heap_other (by omega)).trans hk))⟩
end Go.Proofs.Ytglfcaioapdiaaa.Aw

namespace Go.Proofs.Ytglfcaioapdiaaa.Aw
open Go Go.RowKit
set_option linter.unusedSimpArgs false
set_option linter.unusedVariables false
section
variable {Old : Nat → Prop} {wi : WI Old} {K K' : Nat → Prop} {m m' : Nat → Loc} {S S' : Nat → Prop} {H H' : Hp} {w w' : World}
theorem Rel.putO (hr : Rel Old wi K m S H w) {r : Nat} {o : Obj} (o' : Obj) (ho : w.heap[r]? = some o) (hc : o.isCells = false) (hO : ¬ Old r) (hK : ¬ K r) : Rel Old wi K m S H (w.putObj r o') := by
  have ne : ∀ {k : Nat}, k ≠ r → (w.putObj r o').heap[k]? = w.heap[k]? := fun h => World.putObj_heap_other h
  refine { os := hr.os, tape := hr.tape, output := hr.output, size := by rw [World.putObj_size]; exact hr.size, old := fun k hk => (ne (fun e => hO (e ▸ hk))).trans (hr.old k hk), olt := fun k hk => by rw [World.putObj_size]; exact hr.olt k hk, oown := hr.oown, om := hr.om, kb := fun k hk => by rw [World.putObj_size]; exact hr.kb k hk, inS := hr.inS, pin := hr.pin, pinS := hr.pinS, own := fun i b hl => ?_, inj := hr.inj }
  refine (hr.own i b hl).mono (fun k hk => ne (fun e => hK (e ▸ hk))) (fun hp hb => ne fun e => ?_) (fun _ h => h) (fun _ _ => rfl) (hr.inS i b hl)
  obtain ⟨cur, h1, _⟩ := hb.ex
  rw [e, ho] at h1
  cases h1
  cases hc
theorem Rel.allocO (hr : Rel Old wi K m S H w) (o : Obj) : Rel Old wi K m S H (w.alloc o) := by
  have ne : ∀ {k : Nat}, k < w.heap.size → (w.alloc o).heap[k]? = w.heap[k]? := fun h => Below.heap_alloc _ _ _ h
  have hs : (w.alloc o).heap.size = w.heap.size + 1 := by simp
  exact { os := hr.os, tape := hr.tape, output := hr.output, size := by rw [hs]; have := hr.size; omega, old := fun k hk => (ne (hr.olt k hk)).trans (hr.old k hk), olt := fun k hk => by rw [hs]; have := hr.olt k hk; omega, oown := hr.oown, om := hr.om, kb := fun k hk => by rw [hs]; have := hr.kb k hk; omega, inS := hr.inS, pin := hr.pin, pinS := hr.pinS, own := fun i b hl => (hr.own i b hl).mono (fun k hk => ne (hr.kb k hk)) (fun hp hb => ne hb.lt_size) (fun _ h => h) (fun _ _ => rfl) (hr.inS i b hl), inj := hr.inj }
theorem Rel.chain {Old1 : Nat → Prop} {wi1 : WI Old1} (h0 : Rel Old wi K m S H w) (hw : wi1.w = w) (h1 : Rel Old1 wi1 K' m' S' H' w') (hO : ∀ k, Old k → Old1 k) (hp : ∀ i, wi.pin i = none) : Rel Old wi K' m' S' H' w' := by
  subst hw
  exact { os := h1.os.trans h0.os, tape := h1.tape.trans h0.tape, output := h1.output.trans h0.output, size := Nat.le_trans h0.size h1.size, old := fun k hk => (h1.old k (hO k hk)).trans (h0.old k hk), olt := fun k hk => h1.olt k (hO k hk), oown := fun i b hl hp ho => h1.oown i b hl hp (hO _ ho), om := fun i b hl hp hq => ⟨(h1.om i b hl hp hq).1, (h1.om i b hl hp hq).2.1, fun ho => (h1.om i b hl hp hq).2.2 (hO _ ho)⟩, kb := h1.kb, inS := h1.inS, pin := fun i l h => (by rw [hp i] at h; cases h), pinS := fun i l h => (by rw [hp i] at h; cases h), own := h1.own, inj := h1.inj }
theorem Rel.here (hr : Rel Old wi K m S H w) {Old1 : Nat → Prop} {wi1 : WI Old1} (hw : wi1.w = w) (hlt : ∀ k, Old1 k → k < w.heap.size) (ho : ∀ i b, look H i = some b → (m i).ph = false → ¬ Old1 (m i).blk) (hom : ∀ i b, look H i = some b → (m i).ph = true → (m i).cap = 1 → ¬ Old1 (m i).blk)
    (hp : ∀ i l, wi1.pin i = some l → m i = l ∧ S i) : Rel Old1 wi1 K m S H w := by
  subst hw
  exact { os := rfl, tape := rfl, output := rfl, size := Nat.le_refl _, old := fun _ _ => rfl, olt := hlt, oown := ho, om := fun i b hl hp hq => ⟨(hr.om i b hl hp hq).1, (hr.om i b hl hp hq).2.1, hom i b hl hp hq⟩, kb := hr.kb, inS := hr.inS, pin := fun i l h => (hp i l h).1, pinS := fun i l h => (hp i l h).2, own := hr.own, inj := hr.inj }
end
def pinT (g : Nat) (T : Tp) : Bool := T.all fun p => match p.2 with
  | .v _ => true
  | .ptr id _ _ => Nat.blt id g
  | _ => false
theorem look_in {β : Type} : ∀ {l : List (Nat × β)} {i : Nat} {b : β}, look l i = some b → (i, b) ∈ l
  | [], i, b, h => by simp [look_nil] at h
  | (u, x) :: l, i, b, h => by
    rw [look_cons] at h
    split at h
    · rename_i he; subst he; simp only [Option.some.injEq] at h; subst h; simp
    · exact List.mem_cons_of_mem _ (look_in h)
theorem pin_vr {g : Nat} {T0 : Tp} (hp : pinT g T0 = true) {t : Nat} {v : AV} (hl : look T0 t = some v) {K K' : Nat → Prop} {w w' : World} {m m' : Nat → Loc} {S S' : Nat → Prop} {x : Value} (h : VR K w m S v x) (hm : ∀ i, i < g → m' i = m i) (hS : ∀ i, i < g → S' i) : VR K' w' m' S' v x := by
  have := List.all_eq_true.1 hp _ (look_in hl)
  cases v <;> simp only [Bool.false_eq_true] at this
  · cases h; exact .v _ _
  · rename_i id row col
    have hlt : id < g := by simpa [Nat.blt_eq] using this
    cases h with
    | ptr _ _ _ _ o hs ho => rw [← hm _ hlt]; exact .ptr _ _ _ _ o (hS _ hlt) (by rw [hm _ hlt]; exact ho)
def BackIt (P : Program) (gf : FuncId) : Prop := ∀ (l B len : Nat) (xs : Nat → Int) (J : Nat → World → Prop) (Jx : World → Prop), len ≤ 1048576 →
  (∀ k W, k ≤ len → J k W → ∃ ad c, W.cell? ⟨B, 0, none⟩ = some (.slice ad len c) ∧ (0 < len → ∃ sb so, ad = some ⟨sb, so, none⟩ ∧ ∀ j, j < len → W.cell? ⟨sb, so + j, none⟩ = some (.int .i64 (xs j)))) →
  (∀ k W, J k W → k < len → YieldAt (FW none) 0 P l #[.int .i64 ((len : Int) - 1 - k), .int .i64 (xs (len - 1 - k))] W fun e W' =>
      (e = .returned (.bool true) ∧ J (k + 1) W') ∨ (e = .returned (.bool false) ∧ Jx W')) →
  ∀ W, J 0 W → CallsIn (FW none) 0 P gf #[.func (.yield l) #[] #[], .pointer (some ⟨B, 0, none⟩)] W fun e W' => (∃ v, e = .returned v) ∧ (J len W' ∨ Jx W')
def RdQ (P : Program) (rs : List ResultVar) (v : AV) (U : Hp) (kk g : Nat) (T0 : Tp) (ok : Prop) (st : Hp × Nat) : Exit → Tp → Hp → Nat → Prop
  | .normal, T', H', _ => ok ∧ ∃ ρ, Sub g T' H' ρ [] st.1 st.2
  | .ret, _, H', _ => FinOk P rs v U kk T0 H'
  | _, _, _, _ => False
def NoQ (G : Tp → Hp → Nat → Prop) : Exit → Tp → Hp → Nat → Prop
  | .normal, T', H', n' => G T' H' n'
  | _, _, _, _ => False
section
variable {P : Program} {N gg n len : Nat} {w0 : World} {hgl : Gl w0} {K : Nat → Prop} {m : Nat → Loc} {H : Hp} {w : World} {T T0 : Tp} {a : Act} {rs : List ResultVar} {v : AV} {U : Hp} {kk : Nat}
theorem wp_back {gf bx sid p1 p2 ty1 ty2 : Nat} {pl1 : Bool} {g : Operand} {assign body : Code} {Q : Exit → Act → World → Prop} {rows : List (List AV)} (xs : Nat → Int) (st : Nat → Hp × Nat) (kmax : Nat)
    (hr : Rel (fun i => i < w0.heap.size) (wi0 w0 hgl) K m (fun i => i < n) H w) (ht : TRel K w m (fun i => i < n) N T a)
    (hg : evalA T g = some (.fn gf [.ptr bx 0 0])) (hgo : goFn P gf = true) (hit : BackIt P gf) (hst : H = (st 0).1 ∧ n = (st 0).2) (hT0 : ∀ t v, look T0 t = some v → look T t = some v) (hpin : pinT gg T0 = true) (hgg : ∀ k, k ≤ len → gg ≤ (st k).2) (hbx : bx < gg) (hlen : len ≤ 1048576)
    (hom : ∀ k, k ≤ len → (st k).1.all (fun p => !Nat.beq p.2.size 1000003) = true)
    (hB : ∀ k, k ≤ len → look (st k).1 bx = some ⟨ty1, 1, pl1, [[.sl sid 0 len]]⟩ ∧ look (st k).1 sid = some ⟨ty2, 1, true, rows⟩) (hrl : rows.length = len) (hrw : ∀ j, j < len → rows[j]? = some [.v (.int .i64 (xs j))]) (hp1 : p1 < N) (hp2 : p2 < N)
    (hround : ∀ k, k < len → k ≤ kmax → AW P N gg assign (NoQ fun T' H' n' => AW P N gg body (RdQ P rs v U kk gg T0 (k + 1 ≤ kmax) (st (k + 1))) T' H' n') ((p2, .v (.int .i64 (xs (len - 1 - k)))) :: (p1, .v (.int .i64 ((len : Int) - 1 - k))) :: T0) (st k).1 (st k).2)
    (hdone : ∀ (W : World) (K1 : Nat → Prop) (m1 : Nat → Loc), len ≤ kmax → Rel (fun i => i < w0.heap.size) (wi0 w0 hgl) K1 m1 (fun i => i < (st len).2) (st len).1 W → ¬ K1 w.heap.size → TRel K1 W m1 (fun i => i < (st len).2) N T0 { a with defers := [] } → W.heap[w.heap.size]? = some (.deferred (some [])) →
      Q .normal { a with defers := { target := .collected w.heap.size, args := #[] } :: a.defers } W)
    (hstop : ∀ (W : World) (K1 : Nat → Prop) (m1 : Nat → Loc) (H' : Hp) (n' : Nat), FinOk P rs v U kk T0 H' → Rel (fun i => i < w0.heap.size) (wi0 w0 hgl) K1 m1 (fun i => i < n') H' W → ¬ K1 w.heap.size → TRel K1 W m1 (fun i => i < n') N T0 { a with defers := [] } → W.heap[w.heap.size]? = some (.deferred (some [])) →
      Q .ret { a with defers := { target := .collected w.heap.size, args := #[] } :: a.defers } W) :
    (Code.rangeFunc g #[p1, p2] assign body).wpIn (FW none) 0 P Q a w := by
  obtain ⟨rfl, rfl⟩ := hst
  have hfv := ht.eval hg
  generalize hfx : a.eval g = fx at hfv
  obtain ⟨B, hBe, hfx2⟩ : ∃ B, (m bx).blk = B ∧ fx = .func (.func gf) #[] #[.pointer (some ⟨B, 0, none⟩)] := by
    cases hfv with
    | fn _ _ _ ys hl hv =>
      match ys, hl, hv with
      | [y], _, hv =>
        have hy := hv 0 _ y rfl rfl
        cases hy with
        | ptr _ _ _ _ o hs ho =>
          have : o = 0 := by rw [ho]; simp
          subst this
          exact ⟨_, rfl, rfl⟩
  subst hfx2
  have hDlt : w0.heap.size ≤ w.heap.size := hr.size
  -- what stands between two rounds
  let I : Nat → World → Prop := fun k W => k ≤ kmax ∧ ∃ K1 m1, Rel (fun i => i < w0.heap.size) (wi0 w0 hgl) K1 m1 (fun i => i < (st k).2) (st k).1 W ∧ (∀ i, i < gg → m1 i = m i) ∧ ¬ K1 w.heap.size ∧ ¬ K1 (w.heap.size + 1)
  let Ix : World → Prop := fun W => ∃ K1 m1 H' n', FinOk P rs v U kk T0 H' ∧ Rel (fun i => i < w0.heap.size) (wi0 w0 hgl) K1 m1 (fun i => i < n') H' W ∧ (∀ i, i < gg → m1 i = m i ∧ i < n') ∧ ¬ K1 w.heap.size ∧ ¬ K1 (w.heap.size + 1)
  have tr : ∀ {K1 : Nat → Prop} {m1 : Nat → Loc} {n' : Nat} {W : World} (ds : List Deferred), (∀ i, i < gg → m1 i = m i ∧ i < n') → TRel K1 W m1 (fun i => i < n') N T0 { a with defers := [] } := fun ds hm =>
    ⟨rfl, ht.sz, fun t v hl => pin_vr hpin hl (ht.tm t v (hT0 t v hl)) (fun i hi => (hm i hi).1) (fun i hi => (hm i hi).2)⟩
  refine wpIn_back (len := len) (encs := fun k => #[.int .i64 ((len : Int) - 1 - k), .int .i64 (xs (len - 1 - k))]) (I := I) (Ix := Ix) hfx (run_goFn hgo) (fun k => rfl) ?_ ?_ ?_ ?_ ?_ ?_ ?_
  · intro l J Jx W hJI hY h0
    refine hit l B len xs J Jx hlen (fun k W hk hJ => ?_) hY W h0
    obtain ⟨_, K1, m1, r1, hm1, _, _⟩ := hJI k W hJ
    obtain ⟨hb1, hb2⟩ := hB k hk
    obtain ⟨hph, hbr⟩ := (r1.own bx _ hb1).real (r := 0) rfl
    obtain ⟨cur, c1, c2, c3⟩ := hbr.ex
    obtain ⟨x, hx, _, hvx⟩ := (c3 0 _ rfl).2 0 _ rfl
    have hcell : W.cell? ⟨B, 0, none⟩ = some x := by
      rw [← hBe, ← hm1 bx hbx, cell_of_row W _ _ _ _ _ c1]; simpa using hx
    cases hvx with
    | sl0 _ _ _ ad hS => exact ⟨ad, 0, hcell, fun h => absurd h (Nat.lt_irrefl _)⟩
    | sl _ _ _ _ o c hS hp ho hc =>
      have o0 : o = 0 := by rw [ho, Nat.zero_mul]
      subst o0
      refine ⟨_, _, hcell, fun _ => ⟨_, _, rfl, fun j hj => ?_⟩⟩
      obtain ⟨cur2, e1, e2, e3⟩ := ((r1.own sid _ hb2).br hp).ex
      obtain ⟨y, hy, _, hvy⟩ := (e3 j _ (hrw j hj)).2 0 _ rfl
      cases hvy
      rw [cell_of_row W _ _ _ _ _ e1]
      simpa using hy
  · intro o1 o2
    refine ⟨Nat.zero_le _, K, m, (hr.allocO o1).allocO o2, fun _ _ => rfl, fun h => ?_, fun h => ?_⟩
    · have := hr.kb _ h; omega
    · have := hr.kb _ h; omega
  · rintro k W o o' ⟨hkm, K1, m1, r1, hm1, d1, d2⟩ ho hc
    exact ⟨hkm, K1, m1, r1.putO o' ho hc (by omega) d2, hm1, d1, d2⟩
  · rintro W o o' ⟨K1, m1, H', n', f1, r1, hm1, d1, d2⟩ ho hc
    exact ⟨K1, m1, H', n', f1, r1.putO o' ho hc (by omega) d2, hm1, d1, d2⟩
  · rintro k W o hk ⟨hkm, K1, m1, r1, hm1, d1, d2⟩ hD hL hc
    have hsz : ∀ {W : World} {r : Nat} {o : Obj}, W.heap[r]? = some o → r < W.heap.size := fun h => (Array.getElem?_eq_some_iff.1 h).1
    -- a run that begins in the midst: old are the function's old, and the two records
    have begin : ∀ {K1 : Nat → Prop} {m1 : Nat → Loc} {S1 : Nat → Prop} {H1 : Hp} {W : World} {oD oL : Obj}, Rel (fun i => i < w0.heap.size) (wi0 w0 hgl) K1 m1 S1 H1 W → (∀ i, i < gg → m1 i = m i ∧ S1 i) → ¬ K1 w.heap.size → ¬ K1 (w.heap.size + 1) →
        W.heap[w.heap.size]? = some oD → oD.isCells = false → W.heap[w.heap.size + 1]? = some oL → oL.isCells = false →
        ∃ wi1 : WI (fun k => k < w0.heap.size ∨ k = w.heap.size ∨ k = w.heap.size + 1), wi1.w = W ∧ (∀ i l, wi1.pin i = some l → i < gg) ∧ (∀ i, i < gg → wi1.pin i = some (m i)) ∧ Rel _ wi1 K1 m1 S1 H1 W := by
      intro K1 m1 S1 H1 W oD oL r1 hm1 d1 d2 hD hcD hL hcL
      refine ⟨⟨W, fun i => if i < gg then some (m i) else none, r1.gl, fun k hk => .inl (Nat.lt_of_lt_of_le hk hgl.size)⟩, rfl, fun i l h => ?_, fun i hi => if_pos hi, r1.here rfl ?_ ?_ ?_ ?_⟩
      · simp only at h; split at h
        · assumption
        · cases h
      · have := hsz hD; have := hsz hL; have := r1.size
        rintro k (hk | rfl | rfl)
        · exact Nat.lt_of_lt_of_le hk this
        · assumption
        · assumption
      · intro i b hl hp ho
        obtain ⟨cur, c1, _⟩ := ((r1.own i b hl).br hp).ex
        rcases ho with ho | ho | ho
        · exact r1.oown i b hl hp ho
        · rw [ho, hD] at c1; cases c1; cases hcD
        · rw [ho, hL] at c1; cases c1; cases hcL
      · intro i b hl hp hq ho
        obtain ⟨_, g2, g3⟩ := r1.om i b hl hp hq
        rcases ho with ho | ho | ho
        · exact g3 ho
        · rw [ho] at g2; exact d1 g2
        · rw [ho] at g2; exact d2 g2
      · intro i l h
        simp only at h
        split at h
        · rename_i hi
          simp only [Option.some.injEq] at h
          subst h
          exact hm1 i hi
        · cases h
    have hgk : gg ≤ (st k).2 := hgg k (Nat.le_of_lt hk)
    obtain ⟨wi1, w1e, pp1, p2e, q1⟩ := begin r1 (fun i hi => ⟨hm1 i hi, Nat.lt_of_lt_of_le hi hgk⟩) d1 d2 hD rfl hL hc
    have t1 := ((tr (W := W) (K1 := K1) (m1 := m1) (n' := (st k).2) a.defers fun i hi => ⟨hm1 i hi, Nat.lt_of_lt_of_le hi hgk⟩).put (d := some p1) (v := .v (.int .i64 ((len : Int) - 1 - k))) (.v _ _) (by simpa [dOk, Nat.blt_eq] using hp1)).put (d := some p2) (v := .v (.int .i64 (xs (len - 1 - k)))) (.v _ _) (by simpa [dOk, Nat.blt_eq] using hp2)
    have ez : ((({ tmps := a.tmps, defers := [] } : Act).put (some p1) (.int .i64 ((len : Int) - 1 - k))).put (some p2) (.int .i64 (xs (len - 1 - k)))) = { tmps := (#[p1, p2].zip #[.int .i64 ((len : Int) - 1 - k), .int .i64 (xs (len - 1 - k))]).foldl (fun t (p, v) => t.setIfInBounds p v) a.tmps, defers := [] } := by simp [Act.put]
    have hrun := hround k hk hkm _ wi1 K1 m1 _ W pp1 q1 t1 (some (w.heap.size + 1))
    rw [ez] at hrun
    refine wpIn_mono hrun ?_
    rintro e a1 W1 ⟨T1, H1, n1, m2, K2, gk1, hq, r2, t2⟩
    cases e with
    | normal =>
      have hb : AW P N gg body (RdQ P rs v U kk gg T0 (k + 1 ≤ kmax) (st (k + 1))) T1 H1 n1 := hq
      have eL : W1.heap[w.heap.size + 1]? = some o := (r2.old _ (.inr (.inr rfl))).trans (by rw [w1e]; exact hL)
      have eD : W1.heap[w.heap.size]? = some (.deferred (some [])) := (r2.old _ (.inr (.inl rfl))).trans (by rw [w1e]; exact hD)
      have hm2 : ∀ i, i < gg → m2 i = m i ∧ i < n1 := fun i hi => ⟨r2.pin i _ (p2e i hi), r2.pinS i _ (p2e i hi)⟩
      have k1 : ¬ K2 w.heap.size := fun h => d1 (gk1.2 _ h (.inr (.inl rfl)))
      have k2 : ¬ K2 (w.heap.size + 1) := fun h => d2 (gk1.2 _ h (.inr (.inr rfl)))
      have r3 := r1.chain w1e r2 (fun _ h => .inl h) fun _ => rfl
      refine ⟨eL, fun o' hc' => ?_⟩
      have ne : ∀ {j : Nat}, j ≠ w.heap.size + 1 → (W1.putObj (w.heap.size + 1) o').heap[j]? = W1.heap[j]? := fun h => World.putObj_heap_other h
      have r4 := r3.putO o' eL hc (by omega) k2
      have eL4 : (W1.putObj (w.heap.size + 1) o').heap[w.heap.size + 1]? = some o' := World.putObj_heap_same (hsz eL)
      have eD4 : (W1.putObj (w.heap.size + 1) o').heap[w.heap.size]? = some (.deferred (some [])) := (ne (by omega)).trans eD
      obtain ⟨wi2, w2e, p3, p4, q2⟩ := begin r4 hm2 k1 k2 eD4 rfl eL4 hc'
      have t4 : TRel K2 (W1.putObj (w.heap.size + 1) o') m2 (fun i => i < n1) N T1 a1 := t2.mono (fun _ h => h) (fun j hj => ne (fun e => k2 (e ▸ hj))) (fun _ h => h) (fun _ _ => rfl)
      refine wpIn_mono (hb _ wi2 K2 m2 a1 _ p3 q2 t4 (some (w.heap.size + 1))) ?_
      rintro e a3 W3 ⟨T3, H3, n3, m3, K3, gk3, hq3, r5, t5⟩
      have eL5 : W3.heap[w.heap.size + 1]? = some o' := (r5.old _ (.inr (.inr rfl))).trans (by rw [w2e]; exact eL4)
      have eD5 : W3.heap[w.heap.size]? = some (.deferred (some [])) := (r5.old _ (.inr (.inl rfl))).trans (by rw [w2e]; exact eD4)
      have hm5 : ∀ i, i < gg → m3 i = m i ∧ i < n3 := fun i hi => ⟨r5.pin i _ (p4 i hi), r5.pinS i _ (p4 i hi)⟩
      have k3 : ¬ K3 w.heap.size := fun h => k1 (gk3.2 _ h (.inr (.inl rfl)))
      have k4 : ¬ K3 (w.heap.size + 1) := fun h => k2 (gk3.2 _ h (.inr (.inr rfl)))
      cases e with
      | normal =>
        obtain ⟨hkm1, ρ, hs⟩ := hq3
        obtain ⟨s1, _⟩ := weak p3 r5 t5 hs
        refine ⟨eD5, eL5, hkm1, K3, fun i => m3 (ρ i), r4.chain w2e s1 (fun _ h => .inl h) fun _ => rfl, fun i hi => ?_, k3, k4⟩
        simp only [(hs.p i hi).1]
        exact (hm5 i hi).1
      | ret => exact ⟨eD5, eL5, K3, m3, H3, n3, hq3, r4.chain w2e r5 (fun _ h => .inl h) (fun _ => rfl), hm5, k3, k4⟩
      | exit id => exact hq3.elim
      | goto l => exact hq3.elim
      | panic ch => exact hq3.elim
      | outgrown => exact hq3.elim
    | exit id => exact hq.elim
    | goto l => exact hq.elim
    | ret => exact hq.elim
    | panic ch => exact hq.elim
    | outgrown => exact hq.elim
  · rintro W ⟨hkm, K1, m1, r1, hm1, d1, d2⟩ hD
    exact hdone W K1 m1 hkm r1 d1 (tr a.defers fun i hi => ⟨hm1 i hi, Nat.lt_of_lt_of_le hi (hgg len (Nat.le_refl _))⟩) hD
  · rintro W ⟨K1, m1, H', n', f1, r1, hm1, d1, d2⟩ hD
    exact hstop W K1 m1 H' n' f1 r1 d1 (tr a.defers hm1) hD
end
end Go.Proofs.Ytglfcaioapdiaaa.Aw

namespace Go.Proofs.Ytglfcaioapdiaaa.Aw
open Go Go.RowKit
set_option linter.unusedSimpArgs false
set_option linter.unusedVariables false
def stB (o : Oper) : Bool := match o.op with
  | .store _ _ _ => true
  | _ => false
theorem exec_store {P : Program} {o : Oper} (h : stB o = true) (ρ : Operand → Value) (w : World) : (∃ w', (execOp ρ o).run P w = .ok .skip w') ∨ ∃ x w', (execOp ρ o).run P w = .halt x w' := by
  unfold stB at h
  cases ho : o.op <;> rw [ho] at h <;> first | (simp at h; done) | skip
  rename_i t a x
  simp only [execOp, ho, Sem.run_bind]
  cases hr : (Instr.storeAt t (ρ a) (ρ x)).run P w with
  | ok v w' => left; exact ⟨w', rfl⟩
  | halt y w' => right; exact ⟨y, w', rfl⟩
theorem wpListIn_defers {P : Program} {rr : Option Nat} {k : Nat} {all : Array Oper} {Q : Exit → Act → World → Prop} (ds : List Deferred) : ∀ (l : List Oper), l.all stB = true → ∀ (a : Act) (w : World),
    wpListIn (FW rr) k P all (fun e a' w' => Q e { a' with defers := ds } w') l { a with defers := [] } w → wpListIn (FW rr) k P all Q l { a with defers := ds } w
  | [], _, a, w, h => h
  | o :: l, hl, a, w, h => by
    simp only [List.all_cons, Bool.and_eq_true] at hl
    have ih := wpListIn_defers (Q := Q) (k := k) (all := all) (rr := rr) (P := P) ds l hl.2
    have ev : ({ a with defers := [] } : Act).eval = ({ a with defers := ds } : Act).eval := funext fun x => by cases x <;> rfl
    have pt : ∀ (v : Value) (es : List Deferred), ({ a with defers := es } : Act).put o.dst v = { a.put o.dst v with defers := es } := fun v es => by cases hd : o.dst <;> rfl
    have ns : ∀ c, o.op ≠ .defer c := fun c e => by have := hl.1; unfold stB at this; rw [e] at this; cases this
    unfold wpListIn at h ⊢
    by_cases hw : Region.wanted o (yielded all a.tmps) = true
    · rw [if_pos hw] at h ⊢
      unfold Oper.wpIn at h ⊢
      refine ⟨fun _ _ => trivial, ?_⟩
      have h := h.2
      rw [Oper.semAt_eq _ _ _ ns] at h ⊢
      rw [ev] at h
      rcases exec_store (P := P) hl.1 ({ a with defers := ds } : Act).eval w with ⟨w', e⟩ | ⟨x, w', e⟩
      · rw [e] at h ⊢
        simp only [Oper.uponIn] at h ⊢
        rw [pt] at h ⊢
        exact ih _ _ h
      · rw [e] at h ⊢
        cases x <;> simp only [Oper.uponIn] at h ⊢ <;> exact h
    · rw [if_neg hw] at h ⊢
      refine ⟨fun _ _ => trivial, ?_⟩
      have h := h.2
      rw [pt] at h ⊢
      exact ih _ _ h
def RR (w0 : World) (n0 : Nat) (v : AV) (U : Hp) (k : Nat) : Ending → World → Prop := fun e w' => ∃ r m', e = .returned r ∧ NewR n0 (n0 + k) (renA (fun i => i + n0) v) (shH n0 U) w0 r w' m'
abbrev QF := (w0 : World) → Gl w0 → Nat → Exit → Act → World → Prop
def AW1 (P : Program) (N : Nat) (c : Code) (Q : QF) (T : Tp) (H : Hp) (n : Nat) : Prop := ∀ (w0 : World) (hgl : Gl w0) (n0 : Nat) (K : Nat → Prop) (m : Nat → Loc) (a : Act) (w : World),
  Rel (fun i => i < w0.heap.size) (wi0 w0 hgl) K m (fun i => i < n) H w → TRel K w m (fun i => i < n) N T a → c.wpIn (FW none) 0 P (Q w0 hgl n0) a w
def RetOk (P : Program) (N : Nat) (rs : List ResultVar) (v : AV) (U : Hp) (k : Nat) (Q : QF) : Prop := ∀ (w0 : World) (hgl : Gl w0) (n0 : Nat) (K : Nat → Prop) (m : Nat → Loc) (a : Act) (w : World) (T : Tp) (H : Hp) (n : Nat),
  FinOk P rs v U k T H → Rel (fun i => i < w0.heap.size) (wi0 w0 hgl) K m (fun i => i < n) H w → TRel K w m (fun i => i < n) N T a → Q w0 hgl n0 .ret a w
def QThen (P : Program) (y : Code) (Q : QF) : QF := fun w0 hgl n0 => Exit.then (y.wpIn (FW none) 0 P (Q w0 hgl n0)) (Q w0 hgl n0)
section
variable {P : Program} {N n k : Nat} {rs : List ResultVar} {v : AV} {U : Hp} {T : Tp} {H : Hp} {Q : QF}
theorem aw1_seq {x y : Code} (h : AW1 P N x (QThen P y Q) T H n) : AW1 P N (.seq x y) Q T H n := fun w0 hgl n0 K m a w hr ht => wpIn_seq (h w0 hgl n0 K m a w hr ht)
theorem aw1_weak {c : Code} {T' : Tp} {H' : Hp} {n' : Nat} {ρ : Nat → Nat} (hs : Sub 0 T H ρ T' H' n') (h : AW1 P N c Q T' H' n') : AW1 P N c Q T H n := fun w0 hgl n0 K m a w hr ht =>
  let ⟨h1, h2⟩ := weak (fun i l hp => by cases hp) hr ht hs
  h w0 hgl n0 K _ a w h1 h2
theorem retOk_then {y : Code} (h : RetOk P N rs v U k Q) : RetOk P N rs v U k (QThen P y Q) := h
theorem aw1_pre {x y : Code} (hQ : RetOk P N rs v U k Q) (h : ∀ G : Tp → Hp → Nat → Prop, (∀ T H n, AW1 P N y Q T H n → G T H n) → AW P N 0 x (Thn G (Fin P rs v U k)) T H n) : AW1 P N (.seq x y) Q T H n := by
  intro w0 hgl n0 K m a w hr ht
  refine wpIn_seq (wpIn_mono (h (fun T H n => AW1 P N y Q T H n) (fun _ _ _ h => h) _ (wi0 w0 hgl) K m a w (fun _ _ h => by cases h) hr ht none) ?_)
  rintro e a' w' ⟨T', H', n', m', K', _, hq, hr', ht'⟩
  cases e with
  | normal => exact hq w0 hgl n0 K' m' a' w' hr' ht'
  | ret => exact hQ w0 hgl n0 K' m' a' w' T' H' n' hq hr' ht'
  | exit id => exact hq.elim
  | goto l => exact hq.elim
  | panic ch => exact hq.elim
  | outgrown => exact hq.elim
end
section
variable {P : Program} {fn : Func} {v : AV} {U : Hp} {k : Nat}
def QEnd (P : Program) (fn : Func) (v : AV) (U : Hp) (k : Nat) : QF := fun w0 _ n0 => bodyPostM (FW none) 0 P fn (RR w0 n0 v U k)
theorem qend_ret (hU : fullB U k = true) : RetOk P fn.ntmps fn.results.toList v U k (QEnd P fn v U k) := by
  intro w0 hgl n0 K m a w T H n hf hr ht
  obtain ⟨h1, x, h2, h3⟩ := fin_new (n := n0) hU hf hr ht
  show LeavesInM (FW none) 0 P fn a.tmps _ a.defers .returning w
  rw [h1]
  exact ⟨x, h2, h3⟩
theorem qend_mark (hU : fullB U k = true) {w0 : World} {hgl : Gl w0} {n0 D n : Nat} {K : Nat → Prop} {m : Nat → Loc} {a : Act} {w : World} {T : Tp} {H : Hp} (hD : w0.heap.size ≤ D) (hk : ¬ K D) (hm : w.heap[D]? = some (.deferred (some []))) (hf : FinOk P fn.results.toList v U k T H)
    (hr : Rel (fun i => i < w0.heap.size) (wi0 w0 hgl) K m (fun i => i < n) H w) (ht : TRel K w m (fun i => i < n) fn.ntmps T { a with defers := [] }) : QEnd P fn v U k w0 hgl n0 .ret { a with defers := [{ target := .collected D, args := #[] }] } w := by
  have hr2 := hr.putO (.deferred none) hm rfl (by omega) hk
  have ht2 : TRel K (w.putObj D (.deferred none)) m (fun i => i < n) fn.ntmps T { a with defers := [] } := ht.mono (fun _ h => h) (fun j hj => World.putObj_heap_other (fun e => hk (e ▸ hj))) (fun _ h => h) (fun _ _ => rfl)
  obtain ⟨_, x, h2, h3⟩ := fin_new (n := n0) hU hf hr2 ht2
  exact ⟨by simp, .inl ⟨D, _, rfl, run_takeDeferred hm, ⟨x, h2, h3⟩⟩⟩
theorem RO.of1 {f : FuncId} {c : Code} {args : List AV} (n : Nat) (hf : P.funcs[f]? = some fn) (hb : fn.body = some c) (hg : goFn P f = true) (hN : args.length ≤ fn.ntmps) (hU : fullB U k = true)
    (h : AW1 P fn.ntmps c (QEnd P fn v U k) (idx 0 args) [] 0) : RO P f args n (renA (fun i => i + n) v) (shH n U) (n + k) := by
  have hU' := hU
  simp only [fullB, Bool.and_eq_true] at hU'
  obtain ⟨hU1, hU2⟩ := hU'
  have hids : ∀ i b, look (shH n U) i = some b → n ≤ i ∧ i < n + k := fun i b hl => by
    obtain ⟨j, b0, h1, h2, _⟩ := look_shH hl
    have := look_all hU1 h2
    simp only [Nat.blt_eq, Bool.and_eq_true] at this
    omega
  refine ⟨hg, by omega, hids, fun K w xs hgl hk hv => ?_⟩
  refine callsIn_wide.1 (callsIn_of_wp_marks (F := Fence.wide) (n := 0) hf hb trivial (h w hgl n (fun i => i < w.heap.size) (fun _ => ⟨0, 0, 0, false⟩) _ w ?_ ?_))
  · exact { pin := fun _ _ h => (by cases h), pinS := fun _ _ h => (by cases h), os := rfl, tape := rfl, output := rfl, size := Nat.le_refl _, old := fun _ _ => rfl, olt := fun _ h => h, oown := fun i b hl => by simp [look_nil] at hl, om := fun i b hl => by simp [look_nil] at hl, kb := fun _ h => h, inS := fun i b hl => by simp [look_nil] at hl, own := fun i b hl => by simp [look_nil] at hl, inj := fun i j bi bj hl => by simp [look_nil] at hl }
  · have hsz : xs.length = args.length := hv.1
    refine ⟨rfl, by simp; omega, fun t av hl => ?_⟩
    obtain ⟨_, h2⟩ := look_idx args 0 t av hl
    rw [Nat.sub_zero] at h2
    have hlt : t < xs.length := by rw [hsz]; exact (List.getElem?_eq_some_iff.1 h2).1
    have hx := List.getElem?_eq_getElem hlt
    have := hv.2 t av _ h2 hx
    have he : (xs.toArray ++ Array.replicate (fn.ntmps - xs.toArray.size) undef).getD t undef = xs[t] := by
      rw [Array.getD_eq_getD_getElem?, Array.getElem?_append_left (by simpa using hlt)]
      simp [hlt]
    show VR _ _ _ _ av ((xs.toArray ++ Array.replicate (fn.ntmps - xs.toArray.size) undef).getD t undef)
    rw [he]
    exact this.mono hk (fun _ _ => rfl) (fun _ h => h.elim) (fun _ h => h.elim)
theorem qend_ret' {N : Nat} {rs : List ResultVar} (hN : fn.ntmps = N) (hrs : fn.results.toList = rs) (hU : fullB U k = true) : RetOk P N rs v U k (QEnd P fn v U k) := by subst hN hrs; exact qend_ret hU
theorem RO.ofm1 {N m : Nat} {f : FuncId} {c : Code} {args : List AV} (v : AV) (U : Hp) (k : Nat) {v' : AV} {U' : Hp} (hf : P.funcs[f]? = some fn) (hN : fn.ntmps = N) (hb : fn.body = some c) (hg : goFn P f = true) (hl : Nat.ble args.length N = true)
    (hv : renA (fun i => i + m) v = v') (hu : shH m U = U') (hU : fullB U k = true) (h : AW1 P N c (QEnd P fn v U k) (idx 0 args) [] 0) : RO P f args m v' U' (m + k) := by
  subst hN hv hu
  exact RO.of1 m hf hb hg (by simpa using hl) hU h
theorem aw1_back {N gg n len id rid : Nat} {rs : List ResultVar} {H : Hp} {T T0 : Tp} {gf bx sid p1 p2 ty1 ty2 : Nat} {pl1 : Bool} {g : Operand} {assign body : Code} {l : List Oper} {rows : List (List AV)} (xs : Nat → Int) (st : Nat → Hp × Nat) (kmax : Nat) (hNN : fn.ntmps = N) (hrs : fn.results.toList = rs) (hU : fullB U k = true)
    (hg : evalA T g = some (.fn gf [.ptr bx 0 0])) (hgo : goFn P gf = true) (hit : BackIt P gf) (hst : H = (st 0).1 ∧ n = (st 0).2) (hT0 : ∀ t v, look T0 t = some v → look T t = some v) (hpin : pinT gg T0 = true) (hgg : ∀ k, k ≤ len → gg ≤ (st k).2) (hbx : bx < gg) (hlen : len ≤ 1048576)
    (hom : ∀ k, k ≤ len → (st k).1.all (fun p => !Nat.beq p.2.size 1000003) = true)
    (hB : ∀ k, k ≤ len → look (st k).1 bx = some ⟨ty1, 1, pl1, [[.sl sid 0 len]]⟩ ∧ look (st k).1 sid = some ⟨ty2, 1, true, rows⟩) (hrl : rows.length = len) (hrw : ∀ j, j < len → rows[j]? = some [.v (.int .i64 (xs j))]) (hp1 : p1 < N) (hp2 : p2 < N)
    (hround : ∀ i, i < len → i ≤ kmax → AW P N gg assign (NoQ fun T' H' n' => AW P N gg body (RdQ P rs v U k gg T0 (i + 1 ≤ kmax) (st (i + 1))) T' H' n') ((p2, .v (.int .i64 (xs (len - 1 - i)))) :: (p1, .v (.int .i64 ((len : Int) - 1 - i))) :: T0) (st i).1 (st i).2)
    (hl : l.all stB = true) (hend : len ≤ kmax → SQ P N l.toArray l (fun T' H' _ => FinOk P rs v U k T' H') T0 (st len).1 (st len).2) :
    AW1 P N (.block id (.rangeFunc g #[p1, p2] assign body)) (QThen P (.seq (.region rid l.toArray false) .ret) (QEnd P fn v U k)) T H n := by
  subst hNN hrs
  intro w0 hgl n0 K m a w hr ht
  have hd := ht.dn
  refine wpIn_block (wp_back (rs := fn.results.toList) (v := v) (U := U) (kk := k) xs st kmax hr ht hg hgo hit hst hT0 hpin hgg hbx hlen hom hB hrl hrw hp1 hp2 hround ?_ ?_)
  · intro W K1 m1 hkm r1 d1 t1 hm
    rw [hd]
    show Code.wpIn _ _ _ _ _ _ _
    refine wpIn_seq (wpIn_region_lit (wpListIn_defers _ l hl a W ?_))
    have hlt : w.heap.size < W.heap.size := (Array.getElem?_eq_some_iff.1 hm).1
    let wi1 : WI (fun j => j < w0.heap.size ∨ j = w.heap.size) := ⟨W, fun _ => none, r1.gl, fun j hj => .inl (Nat.lt_of_lt_of_le hj hgl.size)⟩
    have q1 : Rel (fun j => j < w0.heap.size ∨ j = w.heap.size) wi1 K1 m1 (fun i => i < (st len).2) (st len).1 W := r1.here rfl
      (fun j hj => by rcases hj with hj | rfl; · exact Nat.lt_of_lt_of_le hj r1.size
                      · exact hlt)
      (fun i b hb hp ho => by
        rcases ho with ho | ho
        · exact r1.oown i b hb hp ho
        · obtain ⟨cur, c1, _⟩ := ((r1.own i b hb).br hp).ex
          rw [ho, hm] at c1; cases c1)
      (fun i b hb hp hq ho => by
        obtain ⟨_, g2, g3⟩ := r1.om i b hb hp hq
        rcases ho with ho | ho
        · exact g3 ho
        · rw [ho] at g2; exact d1 g2)
      (fun i l h => by cases h)
    refine hend hkm _ wi1 K1 m1 _ W _ q1 t1 (fun T' H' n' m' K' a' w' gk hf r2 t2 => ?_) none
    have eD : w'.heap[w.heap.size]? = some (.deferred (some [])) := (r2.old _ (.inr rfl)).trans hm
    have k2 : ¬ K' w.heap.size := fun h => d1 (gk.2 _ h (.inr rfl))
    exact wpIn_ret (qend_mark (a := a') hU hr.size k2 eD hf (r1.chain rfl r2 (fun _ h => .inl h) (fun _ => rfl)) ⟨rfl, t2.sz, t2.tm⟩)
  · intro W K1 m1 H' n' hf r1 d1 t1 hm
    rw [hd]
    exact qend_mark (a := a) hU hr.size d1 hm hf r1 t1
end
end Go.Proofs.Ytglfcaioapdiaaa.Aw

namespace Go.Proofs.Ytglfcaioapdiaaa.Bw
open Go Go.RowKit Go.Shelf
set_option linter.unusedSimpArgs false
set_option linter.unusedVariables false
attribute [local go_sem] Oper.semAt_some
set_option maxRecDepth 100000 in
set_option maxHeartbeats 2000000 in
theorem back1_in (F : Fence) (n : Nat) (hf : F.fn 109) (hro : F.round = none) (hn : 1 ≤ n) (l B len : Nat) (hlen : len ≤ 1048576) (xs : Nat → Int) (J : Nat → World → Prop) (Jx : World → Prop)
    (hread : ∀ k W, k ≤ len → J k W → ∃ ad c, W.cell? ⟨B, 0, none⟩ = some (.slice ad len c) ∧ (0 < len → ∃ sb so, ad = some ⟨sb, so, none⟩ ∧ ∀ j, j < len → W.cell? ⟨sb, so + j, none⟩ = some (.int .i64 (xs j))))
    (hY : ∀ k W, J k W → k < len → YieldAt F (n - 1) Try.prog l #[.int .i64 ((len : Int) - 1 - k), .int .i64 (xs (len - 1 - k))] W fun e W' =>
      (e = .returned (.bool true) ∧ J (k + 1) W') ∨ (e = .returned (.bool false) ∧ Jx W'))
    (W : World) (h0 : J 0 W) :
    CallsIn F n Try.prog 109 #[.func (.yield l) #[] #[], .pointer (some ⟨B, 0, none⟩)] W fun e W' => (∃ v, e = .returned v) ∧ (J len W' ∨ Jx W') := by
  refine callsIn_of_wp Try.func109 rfl hf ?_ hro
  simp only [Try.ntmps109, List.size_toArray, List.length_cons, List.length_nil, Nat.reduceAdd, Nat.reduceSub, Array.replicate_succ, Array.replicate_zero, List.push_toArray, List.append_toArray, List.nil_append, List.cons_append]
  obtain ⟨ad, c, hB, _⟩ := hread 0 W (Nat.zero_le _) h0
  gi_wp2
  gi_loopw [3] (fun i wr => ∃ k : Nat, k ≤ len ∧ i = .int .i64 ((len : Int) - 1 - k) ∧ J k wr)
    (fun i _ => (intOf i + 1).toNat)
  case atStart => exact ⟨0, Nat.zero_le _, by simp; try rw [IntWalk.i64_in _ (by omega)], h0⟩
  case round =>
    obtain ⟨k, hk, rfl, hJs⟩ := hrel
    obtain ⟨ad', c', hB', hel⟩ := hread k wr hk hJs
    by_cases hlt : k < len
    · obtain ⟨fn, tmps, assign, body, hy, hR⟩ := hY _ wr hJs hlt
      obtain ⟨sb, so, rfl, hc⟩ := hel (by omega)
      have hcx := hc (len - 1 - k) (by omega)
      have e : ((len : Int) - 1 - k).toNat = len - 1 - k := by omega
      have b1 : decide ((0 : Int) ≤ (len : Int) - 1 - k) = true := by simp; omega
      gi_wp2
      refine hR.mono ?_
      rintro e W3 (⟨rfl, hJ3⟩ | ⟨rfl, hJx3⟩)
      · gi_wp2
        go_roundw
        case rel => exact ⟨k + 1, by omega, by simp; omega, hJ3⟩
        case measure => simp [intOf]; omega
      · gi_wp2
        refine bodyPost_ret (results_none rfl _ _ _) rfl ?_
        exact ⟨⟨_, rfl⟩, .inr hJx3⟩
    · obtain rfl : k = len := by omega
      have b1 : decide ((0 : Int) ≤ (k : Int) - 1 - k) = false := by simp; omega
      gi_wp2
      go_end0
      exact ⟨⟨_, rfl⟩, .inl hJs⟩
theorem back_it : Aw.BackIt Try.prog 109 := fun l B len xs J Jx hlen hread hY W h0 =>
  Aw.callsIn_FW (callsIn_wide.1 (back1_in (Aw.FW none) 1 trivial rfl (Nat.le_refl _) l B len hlen xs J Jx hread hY W h0))
end Go.Proofs.Ytglfcaioapdiaaa.Bw

namespace Go.Proofs.Ytglfcaioapdiaaa.So
open Go.Shelf Go.Sort Go.RowKit Go.Proofs
def laysSort_ren : Go.Shelf.Ren := ⟨fun | 53 => 71 | 64 => 108 | 63 => 107 | 78 => 128 | 79 => 129 | 70 => 119 | 71 => 120 | 72 => 121 | 73 => 122 | 74 => 123 | 75 => 124 | 59 => 125 | 76 => 126 | 77 => 127 | 88 => 133 | 89 => 134 | 90 => 135 | 91 => 136 | 92 => 137 | 68 => 112 | 96 => 139 | n => n, fun | 22 => 26 | 23 => 2 | 3 => 3 | 51 => 127 | 0 => 0 | 67 => 151 | 69 => 131 | 4 => 4 | 61 => 143 | 60 => 142 | 44 => 148 | 5 => 5 | 9 => 9 | 75 => 156 | 79 => 160 | 83 => 162 | 84 => 163 | n => n, fun | n => n⟩
theorem laysSort : Go.Proofs.SlLaysN.n53 Try.prog laysSort_ren := {
  mixed := by kernel_rfl
  f53 := ⟨Try.f71.name, by decide, Try.func71.trans (congrArg some (by kernel_rfl))⟩
  f59 := ⟨Try.f125.name, by decide, Try.func125.trans (congrArg some (by kernel_rfl))⟩
  f63 := ⟨Try.f107.name, by decide, Try.func107.trans (congrArg some (by kernel_rfl))⟩
  f64 := Try.func108.trans (congrArg some (by kernel_rfl))
  f68 := ⟨Try.f112.name, by decide, Try.func112.trans (congrArg some (by kernel_rfl))⟩
  f70 := ⟨Try.f119.name, by decide, Try.func119.trans (congrArg some (by kernel_rfl))⟩
  f71 := ⟨Try.f120.name, by decide, Try.func120.trans (congrArg some (by kernel_rfl))⟩
  f72 := ⟨Try.f121.name, by decide, Try.func121.trans (congrArg some (by kernel_rfl))⟩
  f73 := ⟨Try.f122.name, by decide, Try.func122.trans (congrArg some (by kernel_rfl))⟩
  f74 := ⟨Try.f123.name, by decide, Try.func123.trans (congrArg some (by kernel_rfl))⟩
  f75 := ⟨Try.f124.name, by decide, Try.func124.trans (congrArg some (by kernel_rfl))⟩
  f76 := ⟨Try.f126.name, by decide, Try.func126.trans (congrArg some (by kernel_rfl))⟩
  f77 := ⟨Try.f127.name, by decide, Try.func127.trans (congrArg some (by kernel_rfl))⟩
  f78 := Try.func128.trans (congrArg some (by kernel_rfl))
  f79 := Try.func129.trans (congrArg some (by kernel_rfl))
  f88 := ⟨Try.f133.name, by decide, Try.func133.trans (congrArg some (by kernel_rfl))⟩
  f89 := Try.func134.trans (congrArg some (by kernel_rfl))
  f90 := Try.func135.trans (congrArg some (by kernel_rfl))
  f91 := ⟨Try.f136.name, by decide, Try.func136.trans (congrArg some (by kernel_rfl))⟩
  f92 := ⟨Try.f137.name, by decide, Try.func137.trans (congrArg some (by kernel_rfl))⟩
  f96 := ⟨Try.f139.name, by decide, Try.func139.trans (congrArg some (by kernel_rfl))⟩
  t0 := Try.underlying0
  a0 := Try.isAgg0
  z0 := Try.sizeOf0
  v0 := Try.zeroValue0
  t3 := Try.underlying3
  a3 := Try.isAgg3
  z3 := Try.sizeOf3
  v3 := Try.zeroValue3
  t4 := Try.underlying4
  a4 := Try.isAgg4
  z4 := Try.sizeOf4
  v4 := Try.zeroValue4
  t5 := Try.underlying5
  a5 := Try.isAgg5
  z5 := Try.sizeOf5
  v5 := Try.zeroValue5
  t9 := Try.underlying9
  a9 := Try.isAgg9
  z9 := Try.sizeOf9
  v9 := Try.zeroValue9
  t22 := Try.underlying26
  a22 := Try.isAgg26
  z22 := Try.sizeOf26
  v22 := Try.zeroValue26
  t23 := Try.underlying2
  a23 := Try.isAgg2
  z23 := Try.sizeOf2
  v23 := Try.zeroValue2
  t44 := Try.underlying148
  a44 := Try.isAgg148
  z44 := Try.sizeOf148
  v44 := Try.zeroValue148
  t51 := Try.underlying127
  a51 := Try.isAgg127
  z51 := Try.sizeOf127
  v51 := Try.zeroValue127
  t60 := Try.underlying142
  a60 := Try.isAgg142
  z60 := Try.sizeOf142
  v60 := Try.zeroValue142
  t61 := Try.underlying143
  a61 := Try.isAgg143
  z61 := Try.sizeOf143
  v61 := Try.zeroValue143
  t67 := Try.underlying151
  a67 := Try.isAgg151
  z67 := Try.sizeOf151
  v67 := Try.zeroValue151
  t69 := Try.underlying131
  a69 := Try.isAgg131
  z69 := Try.sizeOf131
  v69 := Try.zeroValue131
  t75 := Try.underlying156
  a75 := Try.isAgg156
  z75 := Try.sizeOf156
  v75 := Try.zeroValue156
  t79 := Try.underlying160
  a79 := Try.isAgg160
  z79 := Try.sizeOf160
  v79 := Try.zeroValue160
  t83 := Try.underlying162
  a83 := Try.isAgg162
  z83 := Try.sizeOf162
  v83 := Try.zeroValue162
  t84 := Try.underlying163
  a84 := Try.isAgg163
  z84 := Try.sizeOf163
  v84 := Try.zeroValue163 }
theorem slices_Sort_int (blk off cap : Nat) (zs : List Int) (w : World) (hH : Holds (Value.int .i64) w blk off zs.toArray) (hblk : blk < w.heap.size) (hsz : zs.length < 4611686018427387904) :
    Calls Try.prog 71 #[.slice (some ⟨blk, off, none⟩) zs.length cap] w fun e w' =>
      e = .returned (.tuple #[]) ∧ ∃ n os, w' = grow (putRow (Value.int .i64) (Sort.ahead w n) blk off (zs.mergeSort fun x y => decide (x ≤ y)).toArray) os := AnyG.slices_Sort_int laysSort blk off cap zs w hH hblk hsz
theorem slices_Sort_int_none (p : Option Addr) (cap : Nat) (w : World) :
    Calls Try.prog 71 #[.slice p 0 cap] w fun e w' => e = .returned (.tuple #[]) ∧ w' = w := AnyG.slices_Sort_int_none laysSort p cap w
end Go.Proofs.Ytglfcaioapdiaaa.So

namespace Go.Proofs.Ytglfcaioapdiaaa.Bk
open Go Go.RowKit Go.Proofs.Ytglfcaioapdiaaa.Aw
set_option linter.unusedSimpArgs false
set_option linter.unusedVariables false
attribute [local irreducible] AW SQ Step RO RC DE Thn InB
def szB (n : Nat) (z : Int) : Int := if z - n < 0 then -1 else z - n
theorem szB_in {n : Nat} {z : Int} (h1 : z ≤ 1048576) (h0 : 0 ≤ z) (hc : ¬ szB n z < 0) : n ≤ 1048576 ∧ 0 ≤ szB n z ∧ szB n z ≤ 1048576 ∧ szB n z ≤ z := by
  unfold szB at hc ⊢
  split at hc
  · omega
  · rename_i h
    rw [if_neg h]
    omega
set_option maxHeartbeats 4000000 in
theorem szLinkS_ro (ls : List Ln) (z : Int) (hn : ls.length ≤ 9223372036854775807) (h0 : 0 ≤ z) (h1 : z ≤ 1048576) (k : Nat) : RO Try.prog 44 [.dsl 4 (ls.map lnL), .v (.int .i64 z)] k (.v (.int .i64 (szB ls.length z))) [] k := by
  have e1 : IntKind.i64.wrap (z - ((ls.map lnL).length : Int)) = z - (ls.length : Int) := by rw [List.length_map]; exact IntWalk.i64_in _ (by omega)
  refine RO.ofv' Try.func44 Try.ntmps44 rfl (goFn_of Try.func44 rfl (by kernel_rfl)) rfl rfl ?_
  ((repeat' (first
    | (show SQ _ _ _ _ _ _ _ _; first | apply sq_nil | (apply q_move; exact rfl; exact rfl) | (apply q_assign; exact rfl; exact rfl) | (apply q_lend; exact rfl; exact rfl; exact (ty rfl); exact rfl) | (apply q_sub; exact rfl; exact rfl; exact rfl) | (apply q_lss; exact rfl; exact rfl; exact rfl))
    | (show AW _ _ _ _ _ _ _ _; first | refine aw_region ?_ | (refine aw_seqk ?_; intro K hK) | refine aw_ret ?_ | refine aw_skip ?_ | (apply aw_ite; exact rfl; all_goals intro h))
    | refine thn_n ?_
    | (refine hK _ _ _ ?_; clear hK K)
    | refine thn_r ?_)); all_goals (repeat (clear hK K)))
  all_goals refine fin_r (fin_i rfl ?_)
  all_goals simp_all [szB]
  all_goals omega
set_option maxHeartbeats 4000000 in
theorem szBackhaul_ro (n : Int) (ls : List Ln) (z : Int) (hn : ls.length ≤ 9223372036854775807) (h0 : 0 ≤ z) (h1 : z ≤ 1048576) (k : Nat) : RO Try.prog 12 [.agg (bkL n ls), .v (.int .i64 z)] k (.v (.int .i64 (szB ls.length z))) [] k := by
  by_cases c : szB ls.length z < 0
  · have b1 : decide (szB ls.length z < 0) = true := by simpa using c
    refine RO.ofv' Try.func12 Try.ntmps12 rfl (goFn_of Try.func12 rfl (by kernel_rfl)) rfl rfl ?_
    unfold bkL
    ((repeat' (first
    | (show SQ _ _ _ _ _ _ _ _; first | apply sq_nil | (apply q_move; exact rfl; exact rfl) | (apply q_assign; exact rfl; exact rfl) | (apply q_fieldAddr; exact rfl; exact rfl; exact (ty rfl); exact rfl; exact rfl; exact rfl; exact rfl) | (apply q_lss; exact rfl; exact rfl; exact rfl) | (apply q_ld1p; exact rfl; exact rfl; exact (ty rfl); exact rfl; exact rfl; exact (by first | rfl | assumption | ((try simp only [Nat.zero_add]); refine List.getElem?_set_self ?_; (try simp only [List.length_set]); assumption)); exact rfl))
    | (show SQ _ _ _ _ _ _ _ _; (first | (apply q_box; exact rfl; exact rfl; exact rfl) | (apply q_callU; exact rfl; exact rfl; exact rfl; exact FzL.of rfl; exact szLinkS_ro ls z hn h0 h1 _)); (try simp only [put, rowsOf, plR, List.all_cons, selE, ovr, setH, del, cellsA, splice, isV, List.nil_append, List.cons_append, List.map_cons, List.map_nil, List.length_cons, List.length_nil, List.set_cons_zero, List.set_cons_succ, List.take_succ_cons, List.take_zero, List.take_nil, List.drop_succ_cons, List.drop_zero, List.drop_nil, List.append_nil, List.all_cons, List.all_nil, Bool.and_true, Bool.true_and, Bool.and_false, Bool.false_and, Nat.reduceAdd, Nat.zero_add, Nat.add_zero, Nat.reduceEqDiff, if_true, if_false, reduceIte]))
    | (show AW _ _ _ _ _ _ _ _; first | refine aw_region ?_ | (refine aw_seqk ?_; intro K hK) | (apply aw_cond_t; exact rfl; exact (by assumption)) | refine aw_ret ?_)
    | refine thn_n ?_
    | (refine hK _ _ _ ?_; clear hK K)
    | refine thn_r ?_)); all_goals (repeat (clear hK K)))
    all_goals refine fin_r (fin_i rfl ?_)
    unfold szB at c ⊢
    split
    · rfl
    · rename_i h; rw [if_neg h] at c; omega
  · have b1 : decide (szB ls.length z < 0) = false := by simpa using c
    refine RO.ofv' Try.func12 Try.ntmps12 rfl (goFn_of Try.func12 rfl (by kernel_rfl)) rfl rfl ?_
    unfold bkL
    ((repeat' (first
    | (show SQ _ _ _ _ _ _ _ _; first | apply sq_nil | (apply q_move; exact rfl; exact rfl) | (apply q_assign; exact rfl; exact rfl) | (apply q_fieldAddr; exact rfl; exact rfl; exact (ty rfl); exact rfl; exact rfl; exact rfl; exact rfl) | (apply q_lss; exact rfl; exact rfl; exact rfl) | (apply q_ld1p; exact rfl; exact rfl; exact (ty rfl); exact rfl; exact rfl; exact (by first | rfl | assumption | ((try simp only [Nat.zero_add]); refine List.getElem?_set_self ?_; (try simp only [List.length_set]); assumption)); exact rfl))
    | (show SQ _ _ _ _ _ _ _ _; (first | (apply q_box; exact rfl; exact rfl; exact rfl) | (apply q_callU; exact rfl; exact rfl; exact rfl; exact FzL.of rfl; exact szLinkS_ro ls z hn h0 h1 _)); (try simp only [put, rowsOf, plR, List.all_cons, selE, ovr, setH, del, cellsA, splice, isV, List.nil_append, List.cons_append, List.map_cons, List.map_nil, List.length_cons, List.length_nil, List.set_cons_zero, List.set_cons_succ, List.take_succ_cons, List.take_zero, List.take_nil, List.drop_succ_cons, List.drop_zero, List.drop_nil, List.append_nil, List.all_cons, List.all_nil, Bool.and_true, Bool.true_and, Bool.and_false, Bool.false_and, Nat.reduceAdd, Nat.zero_add, Nat.add_zero, Nat.reduceEqDiff, if_true, if_false, reduceIte]))
    | (show AW _ _ _ _ _ _ _ _; first | refine aw_region ?_ | (refine aw_seqk ?_; intro K hK) | (apply aw_cond_f; exact rfl; exact (by assumption)) | refine aw_ret ?_ | refine aw_skip ?_)
    | refine thn_n ?_
    | (refine hK _ _ _ ?_; clear hK K))); all_goals (repeat (clear hK K)))
    all_goals exact fin_r (fin_i rfl rfl)
set_option maxHeartbeats 4000000 in
theorem toLink_ro (l : Ln) (k : Nat) : RO Try.prog 90 [.agg (lnL l)] k (.agg (lnL l)) [] k := by
  refine RO.ofp Try.func90 Try.ntmps90 rfl (goFn_of Try.func90 rfl (by kernel_rfl)) rfl rfl rfl ?_
  unfold lnL
  ((repeat' (first
    | (show SQ _ _ _ _ _ _ _ _; first | apply sq_nil | (apply q_fieldAddr; exact rfl; exact rfl; exact (ty rfl); exact rfl; exact rfl; exact rfl; exact rfl) | (apply q_ld1p; exact rfl; exact rfl; exact (ty rfl); exact rfl; exact rfl; exact (by first | rfl | assumption | ((try simp only [Nat.zero_add]); refine List.getElem?_set_self ?_; (try simp only [List.length_set]); assumption)); exact rfl))
    | (show SQ _ _ _ _ _ _ _ _; (first | (apply q_ldap; exact rfl; exact rfl; exact (ty rfl); exact rfl; exact rfl; exact (by first | rfl | assumption | ((try simp only [Nat.zero_add]); refine List.getElem?_set_self ?_; (try simp only [List.length_set]); assumption)); exact rfl) | (apply q_box; exact rfl; exact rfl; exact rfl) | (apply q_alloc; exact rfl; exact (ty rfl); exact rfl; exact rfl) | (apply q_store; exact rfl; exact rfl; exact (ty rfl); exact rfl; exact (by first | rfl | assumption | ((try simp only [Nat.zero_add]); refine List.getElem?_set_self ?_; (try simp only [List.length_set]); assumption)); exact rfl; exact rfl; exact rfl)); (try simp only [put, rowsOf, plR, List.all_cons, selE, ovr, setH, del, cellsA, splice, isV, List.nil_append, List.cons_append, List.map_cons, List.map_nil, List.length_cons, List.length_nil, List.set_cons_zero, List.set_cons_succ, List.take_succ_cons, List.take_zero, List.take_nil, List.drop_succ_cons, List.drop_zero, List.drop_nil, List.append_nil, List.all_cons, List.all_nil, Bool.and_true, Bool.true_and, Bool.and_false, Bool.false_and, Nat.reduceAdd, Nat.zero_add, Nat.add_zero, Nat.reduceEqDiff, if_true, if_false, reduceIte]))
    | (show AW _ _ _ _ _ _ _ _; first | refine aw_region ?_ | (refine aw_seqk ?_; intro K hK) | refine aw_ret ?_)
    | refine thn_n ?_
    | (refine hK _ _ _ ?_; clear hK K))); all_goals (repeat (clear hK K)))
  refine fin_r (fin_p (.r1 _ _ (.agg _ _ _ _ _ rfl (.inr ⟨_, _, _, _, _, rfl, rfl, rfl, rfl⟩) (ty rfl) rfl (Nat.le_of_ble_eq_true rfl))) ?_ rfl rfl rfl)
  rfl
def mkRows (xs : List Ln) (i : Nat) : List (List AV) := (partR xs lnz i).map lnL
theorem mkRows_get {xs : List Ln} {i : Nat} (h : i < xs.length) : (mkRows xs i)[i]? = some (lnL lnz) := by
  unfold mkRows; rw [List.getElem?_map, partR_get h]; rfl
theorem mkRows_set {xs : List Ln} {i : Nat} (h : i < xs.length) : (mkRows xs i).set i (lnL xs[i]) = mkRows xs (i + 1) := by
  unfold mkRows; rw [← List.map_set, partR_set h]
set_option maxHeartbeats 4000000 in
theorem toLinkS_ro (xs : List Ln) (hn : xs.length ≤ 1048576) (k : Nat) : RO Try.prog 48 [.dsl 4 (xs.map lnL)] k (.sl k 0 xs.length) [(k, ⟨56, 4, true, xs.map lnL⟩)] (k + 1) := by
  refine RO.ofm (.sl 0 0 xs.length) ([(0, ⟨56, 4, true, xs.map lnL⟩)]) 1 Try.func48 Try.ntmps48 rfl (goFn_of Try.func48 rfl (by kernel_rfl)) rfl rfl (by simp [renA, renL]) (by simp [shH, renB]) rfl ?_
  ((repeat' (first
    | (show SQ _ _ _ _ _ _ _ _; first | apply sq_nil | (apply q_move; exact rfl; exact rfl) | (apply q_assign; exact rfl; exact rfl) | (apply q_lend; exact rfl; exact rfl; exact (ty rfl); exact rfl))
    | (show SQ _ _ _ _ _ _ _ _; (first | (apply q_mks; exact rfl; exact rfl; exact rfl; exact (ty rfl); exact rfl; exact (by first | omega | (simp; done) | (simp; omega)); exact (by first | omega | (simp; done) | (simp; omega)); exact (by first | omega | (simp; done) | (simp; omega)); exact (by first | omega | (simp; done) | (simp; omega)); exact rfl; exact rfl)); (try simp only [put, rowsOf, plR, List.all_cons, selE, ovr, setH, del, cellsA, splice, isV, List.nil_append, List.cons_append, List.map_cons, List.map_nil, List.length_cons, List.length_nil, List.set_cons_zero, List.set_cons_succ, List.take_succ_cons, List.take_zero, List.take_nil, List.drop_succ_cons, List.drop_zero, List.drop_nil, List.append_nil, List.all_cons, List.all_nil, Bool.and_true, Bool.true_and, Bool.and_false, Bool.false_and, Nat.reduceAdd, Nat.zero_add, Nat.add_zero, Nat.reduceEqDiff, if_true, if_false, reduceIte]))
    | (show AW _ _ _ _ _ _ _ _; first | refine aw_region ?_ | (refine aw_seqk ?_; intro K hK) | refine aw_block ?_)
    | refine thn_n ?_
    | (refine hK _ _ _ ?_; clear hK K))); all_goals (repeat (clear hK K)))
  refine aw_loop (ρ := id) (ι := Nat) (fun i => ([(4, .v (.int .i64 i)), (3, .sl 0 0 xs.length), (0, .dsl 4 (xs.map lnL))], [(0, ⟨56, 4, true, mkRows xs i⟩)], 1))
    (fun i => i ≤ xs.length) (fun i => xs.length - i) 0 (Nat.zero_le _) ⟨by (repeat (refine ⟨by first | exact lk_i rfl rfl | exact lk_d rfl rfl | exact lk_s rfl rfl (by (try dsimp only); first | rfl | omega | (rw [IntWalk.i64_in _ (by omega)]; first | rfl | omega | (push_cast; omega)) | (simp; done) | (simp; omega)) rfl, ?_⟩)); exact trivial, by (repeat (refine ⟨by first | exact lkb rfl rfl rfl (by (try dsimp only); first | rfl | (simp only [mkRows, partR_zero, List.length_map, List.map_replicate]; rfl) | (simp only [mkRows, partR_zero, List.length_map, List.map_replicate, Int.toNat_natCast]; rfl)) rfl, ?_⟩)); exact trivial, by rfl, by exact pin_0⟩ ?_
  intro i hi
  by_cases c2 : i < xs.length
  · have b2 : decide ((i : Int) < ((xs.map lnL).length : Int)) = true := by simpa using c2
    have hrow : (xs.map lnL)[((i : Int)).toNat]? = some (lnL xs[i]) := by simp [c2]
    have hr2 : (mkRows xs i)[0 + ((i : Int)).toNat]? = some (lnL lnz) := by simpa using mkRows_get c2
    ((repeat' (first
    | (show SQ _ _ _ _ _ _ _ _; first | apply sq_nil | (apply q_move; exact rfl; exact rfl) | (apply q_assign; exact rfl; exact rfl) | (apply q_lend; exact rfl; exact rfl; exact (ty rfl); exact rfl) | (apply q_add; exact rfl; exact rfl; exact rfl) | (apply q_lss; exact rfl; exact rfl; exact rfl) | (apply q_ixd; exact rfl; exact rfl; exact rfl; exact (ty rfl); exact rfl; exact (by first | omega | (simp; done) | (simp; omega)); exact (by first | omega | (simp; done) | (simp; omega)); exact (by first | rfl | assumption)) | (apply q_ixl; exact rfl; exact rfl; exact rfl; exact (ty rfl); exact rfl; exact rfl; exact rfl; exact (by first | omega | (simp; done) | (simp; omega)); exact (by first | omega | (simp; done) | (simp; omega))))
    | (show SQ _ _ _ _ _ _ _ _; (first | (apply q_ldad; exact rfl; exact rfl; exact (ty rfl); exact rfl; exact rfl) | (apply q_store; exact rfl; exact rfl; exact (ty rfl); exact rfl; exact (by first | rfl | assumption | ((try simp only [Nat.zero_add]); refine List.getElem?_set_self ?_; (try simp only [List.length_set]); assumption)); exact rfl; exact rfl; exact rfl) | (apply q_callU; exact rfl; exact rfl; exact rfl; exact FzL.of rfl; exact toLink_ro xs[i] _)); (try simp only [put, rowsOf, plR, List.all_cons, selE, ovr, setH, del, cellsA, splice, isV, List.nil_append, List.cons_append, List.map_cons, List.map_nil, List.length_cons, List.length_nil, List.set_cons_zero, List.set_cons_succ, List.take_succ_cons, List.take_zero, List.take_nil, List.drop_succ_cons, List.drop_zero, List.drop_nil, List.append_nil, List.all_cons, List.all_nil, Bool.and_true, Bool.true_and, Bool.and_false, Bool.false_and, Nat.reduceAdd, Nat.zero_add, Nat.add_zero, Nat.reduceEqDiff, if_true, if_false, reduceIte]))
    | (show AW _ _ _ _ _ _ _ _; first | refine aw_region ?_ | (refine aw_seqk ?_; intro K hK) | refine aw_block ?_ | (apply aw_cond_t; exact rfl; exact (by assumption)) | refine aw_skip ?_)
    | refine thn_n ?_
    | (refine hK _ _ _ ?_; clear hK K)
    | refine inb_n ?_)); all_goals (repeat (clear hK K)))
    exact ⟨i + 1, id, c2, by omega, ⟨by (repeat (refine ⟨by first | exact lk_i rfl (by (try dsimp only); first | rfl | omega | (rw [IntWalk.i64_in _ (by omega)]; first | rfl | omega | (push_cast; omega)) | (simp; done) | (simp; omega)) | exact lk_d rfl rfl | exact lk_s rfl rfl rfl rfl, ?_⟩)); exact trivial, by (repeat (refine ⟨by first | exact lkb rfl rfl rfl (by rw [← mkRows_set c2]; simp; rfl) rfl, ?_⟩)); exact trivial, by rfl, by exact pin_0⟩⟩
  · have b2 : decide ((i : Int) < ((xs.map lnL).length : Int)) = false := by simpa using c2
    ((repeat' (first
    | (show SQ _ _ _ _ _ _ _ _; first | apply sq_nil | (apply q_move; exact rfl; exact rfl) | (apply q_assign; exact rfl; exact rfl) | (apply q_lend; exact rfl; exact rfl; exact (ty rfl); exact rfl) | (apply q_lss; exact rfl; exact rfl; exact rfl))
    | (show AW _ _ _ _ _ _ _ _; first | refine aw_region ?_ | (refine aw_seqk ?_; intro K hK) | (apply aw_cond_f; exact rfl; exact (by assumption)) | refine aw_ret ?_ | refine aw_exit ?_)
    | refine thn_n ?_
    | (refine hK _ _ _ ?_; clear hK K)
    | refine thn_e ?_
    | refine inb_same ?_
    | (clear hK K; refine hK _ _ _ ?_; clear hK K))); all_goals (repeat (clear hK K)))
    exact fin_r (fin_m rfl rfl _ _ rfl (by simp only [mkRows]; rw [partR_full (by omega)]))
set_option maxHeartbeats 4000000 in
theorem toBackhaul_ro (n : Int) (xs : List Ln) (hn : xs.length ≤ 1048576) (k : Nat) : RO Try.prog 14 [.agg (bkL n xs)] k (.agg [.v (.int .i64 n), .sl k 0 xs.length]) [(k, ⟨56, 4, true, xs.map lnL⟩)] (k + 1) := by
  refine RO.ofm (.agg [.v (.int .i64 n), .sl 0 0 xs.length]) ([(0, ⟨56, 4, true, xs.map lnL⟩)]) 1 Try.func14 Try.ntmps14 rfl (goFn_of Try.func14 rfl (by kernel_rfl)) rfl rfl (by simp [renA, renL]) (by simp [shH, renB]) rfl ?_
  unfold bkL
  ((repeat' (first
    | (show SQ _ _ _ _ _ _ _ _; first | apply sq_nil | (apply q_fieldAddr; exact rfl; exact rfl; exact (ty rfl); exact rfl; exact rfl; exact rfl; exact rfl) | (apply q_ld1p; exact rfl; exact rfl; exact (ty rfl); exact rfl; exact rfl; exact (by first | rfl | assumption | ((try simp only [Nat.zero_add]); refine List.getElem?_set_self ?_; (try simp only [List.length_set]); assumption)); exact rfl))
    | (show SQ _ _ _ _ _ _ _ _; (first | (apply q_ldap; exact rfl; exact rfl; exact (ty rfl); exact rfl; exact rfl; exact (by first | rfl | assumption | ((try simp only [Nat.zero_add]); refine List.getElem?_set_self ?_; (try simp only [List.length_set]); assumption)); exact rfl) | (apply q_box; exact rfl; exact rfl; exact rfl) | (apply q_alloc; exact rfl; exact (ty rfl); exact rfl; exact rfl) | (apply q_store; exact rfl; exact rfl; exact (ty rfl); exact rfl; exact (by first | rfl | assumption | ((try simp only [Nat.zero_add]); refine List.getElem?_set_self ?_; (try simp only [List.length_set]); assumption)); exact rfl; exact rfl; exact rfl) | (apply q_callU; exact rfl; exact rfl; exact rfl; exact FzL.of rfl; exact toLinkS_ro xs hn _)); (try simp only [put, rowsOf, plR, List.all_cons, selE, ovr, setH, del, cellsA, splice, isV, List.nil_append, List.cons_append, List.map_cons, List.map_nil, List.length_cons, List.length_nil, List.set_cons_zero, List.set_cons_succ, List.take_succ_cons, List.take_zero, List.take_nil, List.drop_succ_cons, List.drop_zero, List.drop_nil, List.append_nil, List.all_cons, List.all_nil, Bool.and_true, Bool.true_and, Bool.and_false, Bool.false_and, Nat.reduceAdd, Nat.zero_add, Nat.add_zero, Nat.reduceEqDiff, if_true, if_false, reduceIte]))
    | (show AW _ _ _ _ _ _ _ _; first | refine aw_region ?_ | (refine aw_seqk ?_; intro K hK) | refine aw_ret ?_)
    | refine thn_n ?_
    | (refine hK _ _ _ ?_; clear hK K))); all_goals (repeat (clear hK K)))
  refine fin_r ⟨⟨_, fun _ => 3, .r1 _ _ (.agg _ _ _ _ _ rfl (.inr ⟨_, _, _, _, _, rfl, rfl, rfl, rfl⟩) (ty rfl) rfl (Nat.le_of_ble_eq_true rfl)), rfl, ⟨⟨rfl, rfl, rfl⟩, trivial⟩, rfl⟩, rfl, rfl, rfl⟩
set_option maxHeartbeats 4000000 in
theorem eqLink_ro (l : Ln) (k : Nat) : RO Try.prog 93 [.agg (lnL l), .agg (lnL l)] k (.v (.bool true)) [] k := by
  refine RO.ofv' Try.func93 Try.ntmps93 rfl (goFn_of Try.func93 rfl (by kernel_rfl)) rfl rfl ?_
  unfold lnL
  ((repeat' (first
    | (show SQ _ _ _ _ _ _ _ _; first | apply sq_nil | (apply q_assign; exact rfl; exact rfl) | (apply q_fieldAddr; exact rfl; exact rfl; exact (ty rfl); exact rfl; exact rfl; exact rfl; exact rfl) | (apply q_neq; exact rfl; exact rfl; exact rfl) | (apply q_ld1p; exact rfl; exact rfl; exact (ty rfl); exact rfl; exact rfl; exact (by first | rfl | assumption | ((try simp only [Nat.zero_add]); refine List.getElem?_set_self ?_; (try simp only [List.length_set]); assumption)); exact rfl))
    | (show SQ _ _ _ _ _ _ _ _; (first | (apply q_box; exact rfl; exact rfl; exact rfl)); (try simp only [put, rowsOf, plR, List.all_cons, selE, ovr, setH, del, cellsA, splice, isV, List.nil_append, List.cons_append, List.map_cons, List.map_nil, List.length_cons, List.length_nil, List.set_cons_zero, List.set_cons_succ, List.take_succ_cons, List.take_zero, List.take_nil, List.drop_succ_cons, List.drop_zero, List.drop_nil, List.append_nil, List.all_cons, List.all_nil, Bool.and_true, Bool.true_and, Bool.and_false, Bool.false_and, Nat.reduceAdd, Nat.zero_add, Nat.add_zero, Nat.reduceEqDiff, if_true, if_false, reduceIte]))
    | (show AW _ _ _ _ _ _ _ _; first | refine aw_region ?_ | (refine aw_seqk ?_; intro K hK) | refine aw_ret ?_ | refine aw_skip ?_ | (apply aw_ite; exact rfl; all_goals intro h))
    | refine thn_n ?_
    | (refine hK _ _ _ ?_; clear hK K)
    | refine thn_r ?_)); all_goals (repeat (clear hK K)))
  all_goals refine fin_r (fin_b rfl ?_)
  all_goals simp_all
set_option maxHeartbeats 4000000 in
theorem eqLinkS_ro (xs : List Ln) (hn : xs.length ≤ 1048576) (k : Nat) : RO Try.prog 51 [.dsl 4 (xs.map lnL), .dsl 4 (xs.map lnL)] k (.v (.bool true)) [] k := by
  have b1 : (((xs.map lnL).length : Int) != ((xs.map lnL).length : Int)) = false := by simp
  refine RO.ofv' Try.func51 Try.ntmps51 rfl (goFn_of Try.func51 rfl (by kernel_rfl)) rfl rfl ?_
  ((repeat' (first
    | (show SQ _ _ _ _ _ _ _ _; first | apply sq_nil | (apply q_move; exact rfl; exact rfl) | (apply q_assign; exact rfl; exact rfl) | (apply q_lend; exact rfl; exact rfl; exact (ty rfl); exact rfl) | (apply q_neq; exact rfl; exact rfl; exact rfl))
    | (show AW _ _ _ _ _ _ _ _; first | refine aw_region ?_ | (refine aw_seqk ?_; intro K hK) | refine aw_block ?_ | (apply aw_cond_f; exact rfl; exact (by assumption)) | refine aw_skip ?_)
    | refine thn_n ?_
    | (refine hK _ _ _ ?_; clear hK K))); all_goals (repeat (clear hK K)))
  refine aw_loop (ρ := id) (ι := Nat) (fun i => ([(5, .v (.int .i64 i)), (1, .dsl 4 (xs.map lnL)), (0, .dsl 4 (xs.map lnL))], [], 0))
    (fun i => i ≤ xs.length) (fun i => xs.length - i) 0 (Nat.zero_le _) ⟨by (repeat (refine ⟨by first | exact lk_i rfl rfl | exact lk_d rfl rfl, ?_⟩)); exact trivial, by exact trivial, by rfl, by exact pin_0⟩ ?_
  intro i hi
  by_cases c2 : i < xs.length
  · have b2 : decide ((i : Int) < ((xs.map lnL).length : Int)) = true := by simpa using c2
    have hrow : (xs.map lnL)[((i : Int)).toNat]? = some (lnL xs[i]) := by simp [c2]
    ((repeat' (first
    | (show SQ _ _ _ _ _ _ _ _; first | apply sq_nil | (apply q_move; exact rfl; exact rfl) | (apply q_assign; exact rfl; exact rfl) | (apply q_lend; exact rfl; exact rfl; exact (ty rfl); exact rfl) | (apply q_add; exact rfl; exact rfl; exact rfl) | (apply q_lss; exact rfl; exact rfl; exact rfl))
    | (show DE _ _ _ _ _ _ _ _ _ _ _ _; first | (apply e_move; exact rfl; exact rfl; exact rfl) | (apply e_not; exact rfl; exact rfl; exact rfl) | (apply e_ixd; exact rfl; exact rfl; exact rfl; exact (ty rfl); exact rfl; exact (by first | omega | (simp; done) | (simp; omega)); exact (by first | omega | (simp; done) | (simp; omega)); exact (by first | rfl | assumption); exact rfl))
    | (show DE _ _ _ _ _ _ _ _ _ _ _ _; (first | (apply dr_nil; exact trivial) | (apply e_ldad; exact rfl; exact rfl; exact (ty rfl); exact rfl; exact rfl; exact rfl) | (apply e_callU; exact rfl; exact rfl; exact rfl; exact FzL.of rfl; exact eqLink_ro xs[i] _; exact rfl)); (try simp only [put, rowsOf, plR, List.all_cons, selE, ovr, setH, del, cellsA, splice, isV, List.nil_append, List.cons_append, List.map_cons, List.map_nil, List.length_cons, List.length_nil, List.set_cons_zero, List.set_cons_succ, List.take_succ_cons, List.take_zero, List.take_nil, List.drop_succ_cons, List.drop_zero, List.drop_nil, List.append_nil, List.all_cons, List.all_nil, Bool.and_true, Bool.true_and, Bool.and_false, Bool.false_and, Nat.reduceAdd, Nat.zero_add, Nat.add_zero, Nat.reduceEqDiff, if_true, if_false, reduceIte]))
    | (show AW _ _ _ _ _ _ _ _; first | refine aw_region ?_ | (refine aw_seqk ?_; intro K hK) | refine aw_block ?_ | (apply aw_cond_f; exact rfl; exact rfl) | (apply aw_cond_t; exact rfl; exact (by assumption)) | refine aw_skip ?_ | refine aw_drawE (id := 6) [0, 0, 3, 7, 0, 0, 48, 112, 255, 511] [0, 0, 0, 1, 0, 0, 0, 1, 1, 0] mixed (by kernel_rfl) ?_)
    | refine thn_n ?_
    | (refine hK _ _ _ ?_; clear hK K)
    | refine inb_n ?_)); all_goals (repeat (clear hK K)))
    exact ⟨i + 1, id, c2, by omega, ⟨by (repeat (refine ⟨by first | exact lk_i rfl (by (try dsimp only); first | rfl | omega | (rw [IntWalk.i64_in _ (by omega)]; first | rfl | omega | (push_cast; omega)) | (simp; done) | (simp; omega)) | exact lk_d rfl rfl, ?_⟩)); exact trivial, by exact trivial, by rfl, by exact pin_0⟩⟩
  · have b2 : decide ((i : Int) < ((xs.map lnL).length : Int)) = false := by simpa using c2
    ((repeat' (first
    | (show SQ _ _ _ _ _ _ _ _; first | apply sq_nil | (apply q_move; exact rfl; exact rfl) | (apply q_assign; exact rfl; exact rfl) | (apply q_lend; exact rfl; exact rfl; exact (ty rfl); exact rfl) | (apply q_lss; exact rfl; exact rfl; exact rfl))
    | (show AW _ _ _ _ _ _ _ _; first | refine aw_region ?_ | (refine aw_seqk ?_; intro K hK) | (apply aw_cond_f; exact rfl; exact (by assumption)) | refine aw_ret ?_ | refine aw_exit ?_)
    | refine thn_n ?_
    | (refine hK _ _ _ ?_; clear hK K)
    | refine thn_e ?_
    | refine inb_same ?_
    | (clear hK K; refine hK _ _ _ ?_; clear hK K))); all_goals (repeat (clear hK K)))
    exact fin_r (fin_b rfl rfl)
set_option maxHeartbeats 4000000 in
theorem eqBackhaul_ro (n : Int) (xs : List Ln) (hn : xs.length ≤ 1048576) (k : Nat) : RO Try.prog 17 [.agg (bkL n xs), .agg (bkL n xs)] k (.v (.bool true)) [] k := by
  refine RO.ofv' Try.func17 Try.ntmps17 rfl (goFn_of Try.func17 rfl (by kernel_rfl)) rfl rfl ?_
  unfold bkL
  ((repeat' (first
    | (show SQ _ _ _ _ _ _ _ _; first | apply sq_nil | (apply q_assign; exact rfl; exact rfl) | (apply q_fieldAddr; exact rfl; exact rfl; exact (ty rfl); exact rfl; exact rfl; exact rfl; exact rfl) | (apply q_not; exact rfl; exact rfl) | (apply q_neq; exact rfl; exact rfl; exact rfl) | (apply q_ld1p; exact rfl; exact rfl; exact (ty rfl); exact rfl; exact rfl; exact (by first | rfl | assumption | ((try simp only [Nat.zero_add]); refine List.getElem?_set_self ?_; (try simp only [List.length_set]); assumption)); exact rfl))
    | (show SQ _ _ _ _ _ _ _ _; (first | (apply q_box; exact rfl; exact rfl; exact rfl) | (apply q_callU; exact rfl; exact rfl; exact rfl; exact FzL.of rfl; exact eqLinkS_ro xs hn _)); (try simp only [put, rowsOf, plR, List.all_cons, selE, ovr, setH, del, cellsA, splice, isV, List.nil_append, List.cons_append, List.map_cons, List.map_nil, List.length_cons, List.length_nil, List.set_cons_zero, List.set_cons_succ, List.take_succ_cons, List.take_zero, List.take_nil, List.drop_succ_cons, List.drop_zero, List.drop_nil, List.append_nil, List.all_cons, List.all_nil, Bool.and_true, Bool.true_and, Bool.and_false, Bool.false_and, Nat.reduceAdd, Nat.zero_add, Nat.add_zero, Nat.reduceEqDiff, if_true, if_false, reduceIte]))
    | (show AW _ _ _ _ _ _ _ _; first | refine aw_region ?_ | (refine aw_seqk ?_; intro K hK) | (apply aw_cond_f; exact rfl; exact rfl) | refine aw_ret ?_ | refine aw_skip ?_ | (apply aw_ite; exact rfl; all_goals intro h))
    | refine thn_n ?_
    | (refine hK _ _ _ ?_; clear hK K)
    | refine thn_r ?_)); all_goals (repeat (clear hK K)))
  all_goals refine fin_r (fin_b rfl ?_)
  all_goals simp_all
end Go.Proofs.Ytglfcaioapdiaaa.Bk

namespace Go.Proofs.Ytglfcaioapdiaaa.Bk
open Go Go.RowKit Go.Proofs.Ytglfcaioapdiaaa.Aw
set_option linter.unusedSimpArgs false
set_option linter.unusedVariables false
attribute [local irreducible] AW SQ Step RO RC DE Thn InB
def inL (x : Int) : List AV := [.v (.int .i64 x)]
theorem inL_eq (x : Int) : inL x = [.v (.int .i64 x)] := rfl
def ramp {α : Type} (f : Nat → α) (xs : List α) (i : Nat) : List α := (List.range i).map f ++ xs.drop i
theorem ramp_get {α : Type} {f : Nat → α} {xs : List α} {i : Nat} (h : i < xs.length) : (ramp f xs i)[i]? = some xs[i] := by
  unfold ramp; rw [List.getElem?_append_right (by simp)]; simp [h]
theorem ramp_set {α : Type} {f : Nat → α} {xs : List α} {i : Nat} (h : i < xs.length) : (ramp f xs i).set i (f i) = ramp f xs (i + 1) := by
  unfold ramp
  rw [List.drop_eq_getElem_cons h, List.set_append_right _ _ (by simp), List.range_succ]
  simp only [List.length_map, List.length_range, Nat.sub_self, List.set_cons_zero, List.map_append, List.map_cons, List.map_nil, List.append_assoc, List.singleton_append]
theorem ramp_zero {α : Type} {f : Nat → α} {xs : List α} : ramp f xs 0 = xs := by simp [ramp]
theorem ramp_full {α : Type} {f : Nat → α} {xs : List α} : ramp f xs xs.length = (List.range xs.length).map f := by simp [ramp]
set_option maxHeartbeats 4000000 in
theorem eqInt64S_ro (xs : List Int) (hn : xs.length ≤ 1048576) (k : Nat) : RO Try.prog 16 [.dsl 1 (xs.map inL), .dsl 1 (xs.map inL)] k (.v (.bool true)) [] k := by
  have b1 : (((xs.map inL).length : Int) != ((xs.map inL).length : Int)) = false := by simp
  refine RO.ofv' Try.func16 Try.ntmps16 rfl (goFn_of Try.func16 rfl (by kernel_rfl)) rfl rfl ?_
  ((repeat' (first
    | (show SQ _ _ _ _ _ _ _ _; first | apply sq_nil | (apply q_move; exact rfl; exact rfl) | (apply q_assign; exact rfl; exact rfl) | (apply q_lend; exact rfl; exact rfl; exact (ty rfl); exact rfl) | (apply q_neq; exact rfl; exact rfl; exact rfl))
    | (show AW _ _ _ _ _ _ _ _; first | refine aw_region ?_ | (refine aw_seqk ?_; intro K hK) | refine aw_block ?_ | (apply aw_cond_f; exact rfl; exact (by assumption)) | refine aw_skip ?_)
    | refine thn_n ?_
    | (refine hK _ _ _ ?_; clear hK K))); all_goals (repeat (clear hK K)))
  refine aw_loop (ρ := id) (ι := Nat) (fun i => ([(5, .v (.int .i64 i)), (1, .dsl 1 (xs.map inL)), (0, .dsl 1 (xs.map inL))], [], 0))
    (fun i => i ≤ xs.length) (fun i => xs.length - i) 0 (Nat.zero_le _) ⟨by (repeat (refine ⟨by first | exact lk_i rfl rfl | exact lk_d rfl rfl, ?_⟩)); exact trivial, by exact trivial, by rfl, by exact pin_0⟩ ?_
  intro i hi
  by_cases c2 : i < xs.length
  · have b2 : decide ((i : Int) < ((xs.map inL).length : Int)) = true := by simpa using c2
    have hrow : (xs.map inL)[((i : Int)).toNat]? = some (inL xs[i]) := by simp [c2]
    rw [inL_eq] at hrow
    have b3 : (xs[i] != xs[i]) = false := by simp
    ((repeat' (first
    | (show SQ _ _ _ _ _ _ _ _; first | apply sq_nil | (apply q_move; exact rfl; exact rfl) | (apply q_assign; exact rfl; exact rfl) | (apply q_lend; exact rfl; exact rfl; exact (ty rfl); exact rfl) | (apply q_add; exact rfl; exact rfl; exact rfl) | (apply q_lss; exact rfl; exact rfl; exact rfl))
    | (show DE _ _ _ _ _ _ _ _ _ _ _ _; first | (apply e_move; exact rfl; exact rfl; exact rfl) | (apply e_neq; exact rfl; exact rfl; exact rfl; exact rfl) | (apply e_ixd; exact rfl; exact rfl; exact rfl; exact (ty rfl); exact rfl; exact (by first | omega | (simp; done) | (simp; omega)); exact (by first | omega | (simp; done) | (simp; omega)); exact (by first | rfl | assumption); exact rfl) | (apply e_ld1d; exact rfl; exact rfl; exact (ty rfl); exact rfl; exact rfl; exact rfl))
    | (show DE _ _ _ _ _ _ _ _ _ _ _ _; (first | (apply dr_nil; exact trivial)); (try simp only [put, rowsOf, plR, List.all_cons, selE, ovr, setH, del, cellsA, splice, isV, List.nil_append, List.cons_append, List.map_cons, List.map_nil, List.length_cons, List.length_nil, List.set_cons_zero, List.set_cons_succ, List.take_succ_cons, List.take_zero, List.take_nil, List.drop_succ_cons, List.drop_zero, List.drop_nil, List.append_nil, List.all_cons, List.all_nil, Bool.and_true, Bool.true_and, Bool.and_false, Bool.false_and, Nat.reduceAdd, Nat.zero_add, Nat.add_zero, Nat.reduceEqDiff, if_true, if_false, reduceIte]))
    | (show AW _ _ _ _ _ _ _ _; first | refine aw_region ?_ | (refine aw_seqk ?_; intro K hK) | refine aw_block ?_ | (apply aw_cond_t; exact rfl; exact (by assumption)) | (apply aw_cond_f; exact rfl; exact (by assumption)) | refine aw_skip ?_ | refine aw_drawE (id := 6) [0, 0, 3, 7, 0, 0, 48, 112, 255] [0, 0, 0, 1, 0, 0, 0, 1, 0] mixed (by kernel_rfl) ?_)
    | refine thn_n ?_
    | (refine hK _ _ _ ?_; clear hK K)
    | refine inb_n ?_)); all_goals (repeat (clear hK K)))
    exact ⟨i + 1, id, c2, by omega, ⟨by (repeat (refine ⟨by first | exact lk_i rfl (by (try dsimp only); first | rfl | omega | (rw [IntWalk.i64_in _ (by omega)]; first | rfl | omega | (push_cast; omega)) | (simp; done) | (simp; omega)) | exact lk_d rfl rfl, ?_⟩)); exact trivial, by exact trivial, by rfl, by exact pin_0⟩⟩
  · have b2 : decide ((i : Int) < ((xs.map inL).length : Int)) = false := by simpa using c2
    ((repeat' (first
    | (show SQ _ _ _ _ _ _ _ _; first | apply sq_nil | (apply q_move; exact rfl; exact rfl) | (apply q_assign; exact rfl; exact rfl) | (apply q_lend; exact rfl; exact rfl; exact (ty rfl); exact rfl) | (apply q_lss; exact rfl; exact rfl; exact rfl))
    | (show AW _ _ _ _ _ _ _ _; first | refine aw_region ?_ | (refine aw_seqk ?_; intro K hK) | (apply aw_cond_f; exact rfl; exact (by assumption)) | refine aw_ret ?_ | refine aw_exit ?_)
    | refine thn_n ?_
    | (refine hK _ _ _ ?_; clear hK K)
    | refine thn_e ?_
    | refine inb_same ?_
    | (clear hK K; refine hK _ _ _ ?_; clear hK K))); all_goals (repeat (clear hK K)))
    exact fin_r (fin_b rfl rfl)
def up (z : Int) (i : Nat) : Int := z + (i : Int)
set_option maxHeartbeats 4000000 in
theorem heldInt64S_ro (l : Nat) (z : Int) (hn : l ≤ 1048576) (h0 : 0 ≤ z) (h1 : z ≤ 1073741824) (k : Nat) : RO Try.prog 20 [.dsl 1 (((List.range l).map (up z)).map inL), .v (.int .i64 z)] k (.v (.int .i64 (z + (l : Int)))) [] k := by
  generalize hx : (List.range l).map (up z) = xs
  have hl : l = xs.length := by rw [← hx]; simp
  refine RO.ofv' Try.func20 Try.ntmps20 rfl (goFn_of Try.func20 rfl (by kernel_rfl)) rfl rfl ?_
  ((repeat' (first
    | (show SQ _ _ _ _ _ _ _ _; first | apply sq_nil | (apply q_assign; exact rfl; exact rfl))
    | (show AW _ _ _ _ _ _ _ _; first | refine aw_region ?_ | (refine aw_seqk ?_; intro K hK) | refine aw_block ?_)
    | refine thn_n ?_
    | (refine hK _ _ _ ?_; clear hK K))); all_goals (repeat (clear hK K)))
  refine aw_loop (ρ := id) (ι := Nat) (fun i => ([(5, .v (.int .i64 i)), (1, .v (.int .i64 (z + (i : Int)))), (0, .dsl 1 (xs.map inL))], [], 0))
    (fun i => i ≤ xs.length) (fun i => xs.length - i) 0 (Nat.zero_le _) ⟨by (repeat (refine ⟨by first | exact lk_i rfl rfl | exact lk_i rfl (by (try dsimp only); first | rfl | omega | (rw [IntWalk.i64_in _ (by omega)]; first | rfl | omega | (push_cast; omega)) | (simp; done) | (simp; omega)) | exact lk_d rfl rfl, ?_⟩)); exact trivial, by exact trivial, by rfl, by exact pin_0⟩ ?_
  intro i hi
  by_cases c2 : i < xs.length
  · have b2 : decide ((i : Int) < ((xs.map inL).length : Int)) = true := by simpa using c2
    have hrow : (xs.map inL)[((i : Int)).toNat]? = some (inL (z + (i : Int))) := by subst hx; simp at c2; simp [c2, up]
    rw [inL_eq] at hrow
    have b3 : (z + (i : Int) != z + (i : Int)) = false := by simp
    have hw : IntKind.i64.wrap (z + (i : Int) + 1) = z + ((i + 1 : Nat) : Int) := by rw [IntWalk.i64_in _ (by omega)]; omega
    ((repeat' (first
    | (show SQ _ _ _ _ _ _ _ _; first | apply sq_nil | (apply q_move; exact rfl; exact rfl) | (apply q_assign; exact rfl; exact rfl) | (apply q_lend; exact rfl; exact rfl; exact (ty rfl); exact rfl) | (apply q_add; exact rfl; exact rfl; exact rfl) | (apply q_neq; exact rfl; exact rfl; exact rfl) | (apply q_lss; exact rfl; exact rfl; exact rfl) | (apply q_ixd; exact rfl; exact rfl; exact rfl; exact (ty rfl); exact rfl; exact (by first | omega | (simp; done) | (simp; omega)); exact (by first | omega | (simp; done) | (simp; omega)); exact (by first | rfl | assumption)) | (apply q_ld1d; exact rfl; exact rfl; exact (ty rfl); exact rfl; exact rfl))
    | (show AW _ _ _ _ _ _ _ _; first | refine aw_region ?_ | (refine aw_seqk ?_; intro K hK) | refine aw_block ?_ | (apply aw_cond_t; exact rfl; exact (by assumption)) | (apply aw_cond_f; exact rfl; exact (by assumption)) | refine aw_skip ?_)
    | refine thn_n ?_
    | (refine hK _ _ _ ?_; clear hK K)
    | refine inb_n ?_)); all_goals (repeat (clear hK K)))
    exact ⟨i + 1, id, c2, by omega, ⟨by (repeat (refine ⟨by first | exact lk_i rfl (by (try dsimp only); first | rfl | omega | (rw [IntWalk.i64_in _ (by omega)]; first | rfl | omega | (push_cast; omega)) | (simp; done) | (simp; omega)) | exact lk_d rfl rfl, ?_⟩)); exact trivial, by exact trivial, by rfl, by exact pin_0⟩⟩
  · have b2 : decide ((i : Int) < ((xs.map inL).length : Int)) = false := by simpa using c2
    ((repeat' (first
    | (show SQ _ _ _ _ _ _ _ _; first | apply sq_nil | (apply q_move; exact rfl; exact rfl) | (apply q_assign; exact rfl; exact rfl) | (apply q_lend; exact rfl; exact rfl; exact (ty rfl); exact rfl) | (apply q_lss; exact rfl; exact rfl; exact rfl))
    | (show AW _ _ _ _ _ _ _ _; first | refine aw_region ?_ | (refine aw_seqk ?_; intro K hK) | (apply aw_cond_f; exact rfl; exact (by assumption)) | refine aw_ret ?_ | refine aw_exit ?_)
    | refine thn_n ?_
    | (refine hK _ _ _ ?_; clear hK K)
    | refine thn_e ?_
    | refine inb_same ?_
    | (clear hK K; refine hK _ _ _ ?_; clear hK K))); all_goals (repeat (clear hK K)))
    all_goals refine fin_r (fin_i rfl ?_)
    all_goals (simp; omega)
end Go.Proofs.Ytglfcaioapdiaaa.Bk

namespace Go.Proofs.Ytglfcaioapdiaaa.So
open Go Go.RowKit Go.Proofs.Ytglfcaioapdiaaa.Aw Go.Proofs.Ytglfcaioapdiaaa.Bk
set_option linter.unusedSimpArgs false
set_option linter.unusedVariables false
def srt (xs : List Int) : List Int := xs.mergeSort fun x y => decide (x ≤ y)
theorem srt_len (xs : List Int) : (srt xs).length = xs.length := List.length_mergeSort _
set_option maxHeartbeats 4000000 in
theorem Sort_rc (b : Nat) (xs : List Int) (hn : xs.length ≤ 1048576) (k : Nat) : RC Try.prog 71 [.sl b 0 xs.length] [(b, ⟨2, 1, true, xs.map inL⟩)] k (.tup []) [(b, some ⟨2, 1, true, (srt xs).map inL⟩)] k := by
  refine ⟨goFn_of Try.func71 rfl (by kernel_rfl), Nat.le_refl _, fun i ob h => .inl ?_, fun K m S w vs hk hS hin hown hinj hom _ _ hv => ?_⟩
  · rw [lkE_cons] at h
    split at h
    · rename_i e; subst e; rw [look_cons, if_pos rfl]; rfl
    · simp [lkE] at h
  have hl : Aw.look [(b, (⟨2, 1, true, xs.map inL⟩ : Blk))] b = some ⟨2, 1, true, xs.map inL⟩ := by rw [look_cons, if_pos rfl]
  have one : ∀ {B : Blk} {i : Nat} {c : Blk}, Aw.look [(b, B)] i = some c → i = b ∧ c = B := fun h => by
    rw [look_cons] at h
    split at h
    · rename_i e; cases h; exact ⟨e.symm, rfl⟩
    · simp [look_nil] at h
  have ovE : ∀ {i : Nat} {c : Blk}, Aw.look (ovr [(b, some (⟨2, 1, true, (srt xs).map inL⟩ : Blk))] [(b, (⟨2, 1, true, xs.map inL⟩ : Blk))]) i = some c → i = b ∧ c = ⟨2, 1, true, (srt xs).map inL⟩ := fun {i c} h => by
    rw [look_ovr, lkE_cons] at h
    split at h
    · rename_i e; cases h; exact ⟨e.symm, rfl⟩
    · rename_i e
      simp only [lkE, Option.getD_none] at h
      exact absurd (one h).1 (fun x => e x.symm)
  obtain ⟨hvl, hvv⟩ := hv
  obtain ⟨x, rfl⟩ : ∃ x, vs = [x] := by
    match vs, hvl with
    | [x], _ => exact ⟨x, rfl⟩
  have hx := hvv 0 _ x rfl rfl
  generalize hnn : xs.length = nn at hx
  have post : ∀ w', w.grownBy w' (if (m b).ph = false then some (m b).blk else none) → OB K w' m (addS S k k) b ⟨2, 1, true, (srt xs).map inL⟩ → PostC [(b, (⟨2, 1, true, xs.map inL⟩ : Blk))] [(b, some ⟨2, 1, true, (srt xs).map inL⟩)] K m S w k k (.tup []) (.tuple #[]) w' m K := fun w' hg ho =>
    { ag := fun _ _ => rfl, os := hg.os, tape := hg.tape, output := hg.output, size := hg.size
      keep := fun j hj hne => hg.block j hj (fun e => by
        split at e
        · rename_i hp; simp only [Option.some.injEq] at e; exact hne b _ hl hp e.symm
        · cases e)
      gk := fun _ h => h, gk2 := fun _ h => .inl h, kb := fun j h => Nat.lt_of_lt_of_le (hk j h) hg.size
      vr := .tup _ [] [] rfl (fun j cv y h => by simp at h)
      loc := fun i c h hp => by obtain ⟨rfl, rfl⟩ := ovE h; exact .inr ⟨i, _, hl, hp, rfl⟩
      om := fun i c h hp hq => by obtain ⟨rfl, rfl⟩ := ovE h; have := hom i _ hl hp hq; cases this
      own := fun i c h => by obtain ⟨rfl, rfl⟩ := ovE h; exact ho
      inj := fun i j bi bj h1 h2 hne => by obtain ⟨rfl, _⟩ := ovE h1; obtain ⟨rfl, _⟩ := ovE h2; exact absurd rfl hne }
  have hsl := srt_len xs
  cases hx with
  | sl0 _ _ _ ad hSb =>
    have h0 : xs = [] := List.length_eq_zero_iff.1 hnn
    have h1 : srt xs = [] := List.length_eq_zero_iff.1 (by rw [hsl, hnn])
    refine (slices_Sort_int_none ad 0 w).mono ?_
    rintro e w' ⟨rfl, rfl⟩
    refine ⟨_, m, K, rfl, post _ ⟨rfl, rfl, rfl, Nat.le_refl _, fun _ _ _ => rfl⟩ ?_⟩
    have := hown b _ hl
    rw [h0] at this
    rw [h1]
    exact this.mono (fun _ _ => rfl) (fun _ _ => rfl) (fun i h => .inl h) (fun _ _ => rfl) (hin b _ hl)
  | sl _ _ _ _ o c hSb hph ho hc =>
    subst hnn
    rcases hown b _ hl with ⟨h, _⟩ | ⟨_, hB⟩
    · rw [hph] at h; cases h
    obtain ⟨cur, g1, g2, g3⟩ := hB.ex
    have o0 : o = 0 := by rw [ho, Nat.zero_mul]
    subst o0
    have hcell : ∀ j, (hj : j < xs.length) → cur[j]? = some (.int .i64 xs[j]) := fun j hj => by
      obtain ⟨_, q⟩ := g3 j (inL xs[j]) (by simp [hj])
      obtain ⟨y, y1, _, y3⟩ := q 0 (.v (.int .i64 xs[j])) rfl
      cases y3
      simpa using y1
    have hcap := hB.cap
    have hszz := hB.sz
    simp only [List.length_map, Nat.mul_one] at hcap g2 hszz
    have hH : Sort.Holds (Value.int .i64) w (m b).blk 0 xs.toArray := fun j hj => by
      have hj : j < xs.length := by simpa using hj
      refine ⟨?_, by simp [World.frozen?, g1]⟩
      have := hcell j hj
      simp only [World.cell?, g1, Nat.zero_add, Option.isSome_none, Bool.false_eq_true, if_false]
      rw [this]
      simp [getElem!_pos, hj]
    refine (slices_Sort_int (m b).blk 0 c xs w hH hB.lt_size (by omega)).mono ?_
    rintro e w' ⟨rfl, q, os, rfl⟩
    refine ⟨_, m, K, rfl, post _ (by rw [if_pos hph]; exact grownBy_sortedI _) (.inr ⟨hph, ?_⟩)⟩
    have hb' := heap_sortedI (n := q) (os := os) (srt xs).toArray g1
    refine ⟨hB.nk, hB.sz, by simpa [hsl] using hcap, hB.capm, fun _ r row hr j cv hj => ?_, _, hb', by simp [Sort.putCells, g2], fun r row hr => ?_⟩
    · rw [List.getElem?_map] at hr
      cases hq : (srt xs)[r]? with
      | none => rw [hq] at hr; cases hr
      | some z =>
        rw [hq] at hr; cases hr
        match j, hj with
        | 0, hj => cases hj; rfl
    · rw [List.getElem?_map] at hr
      cases hq : (srt xs)[r]? with
      | none => rw [hq] at hr; cases hr
      | some z =>
        rw [hq] at hr; cases hr
        refine ⟨rfl, fun j cv hj => ?_⟩
        match j, hj with
        | 0, hj =>
          cases hj
          have hr2 : r < (srt xs).length := (List.getElem?_eq_some_iff.1 hq).1
          refine ⟨.int .i64 z, ?_, rfl, .v _ _⟩
          have hr3 : r < cur.size := by omega
          have hz : (srt xs)[r] = z := (List.getElem?_eq_some_iff.1 hq).2
          simp [Sort.putCells, Array.getElem?_mapIdx, hr2, hr3, hz]
end Go.Proofs.Ytglfcaioapdiaaa.So

namespace Go.Proofs.Ytglfcaioapdiaaa.Bk
open Go Go.RowKit Go.Proofs.Ytglfcaioapdiaaa.Aw
set_option linter.unusedSimpArgs false
set_option linter.unusedVariables false
attribute [local irreducible] AW SQ Step RO RC DE Thn InB
theorem allR_false {n : Nat} {f : Nat → Bool} {i : Nat} (hi : i < n) (h : f i = false) : (List.range n).all f = false := by
  cases ha : (List.range n).all f with
  | false => rfl
  | true => have := List.all_eq_true.1 ha i (List.mem_range.2 hi); rw [h] at this; cases this
theorem allR_true {n : Nat} {f : Nat → Bool} (h : ∀ i, i < n → f i = true) : (List.range n).all f = true :=
  List.all_eq_true.2 fun i hi => h i (List.mem_range.1 hi)
def sOk (n : Int) (l : Ln) : Bool := inB l.a 0 (n - 1) && inB l.b (l.a + 1) (n - 1) && inB l.o 0 1000000 && inB l.c 1 1000000
def lexB (p q : Ln) : Bool := decide (p.a < q.a) || (decide (p.a = q.a) && decide (p.b < q.b))
def goodL (n : Int) (ls : List Ln) (i : Nat) : Bool := sOk n (ls.getD i lnz) && (decide (i = 0) || lexB (ls.getD (i - 1) lnz) (ls.getD i lnz))
def bkB (n : Int) (ls : List Ln) : Bool := inB n 1 12 && decide (ls.length ≤ 32) && (List.range ls.length).all (goodL n ls)
theorem bkB_false {n : Int} {ls : List Ln} {i : Nat} (hi : i < ls.length) (h : goodL n ls i = false) : bkB n ls = false := by
  rw [bkB, allR_false hi h, Bool.and_false]
theorem sOk_impl (n : Int) (l : Ln) : (inB l.b 0 (n - 1) && inB l.a 0 (l.b - 1) && inB l.o 0 1000000 && inB l.c 1 1000000) = sOk n l := by
  have : (inB l.b 0 (n - 1) && inB l.a 0 (l.b - 1)) = (inB l.a 0 (n - 1) && inB l.b (l.a + 1) (n - 1)) := by
    rw [Bool.eq_iff_iff]; simp only [inB, Bool.and_eq_true, decide_eq_true_eq]; omega
  rw [sOk, this]
theorem or_lex (p q : Ln) : decide (0 ≤ (if i64c p.a q.a = 0 then i64c p.b q.b else i64c p.a q.a)) = !lexB p q := by
  unfold i64c lexB
  rw [Bool.eq_iff_iff]
  simp only [Bool.not_eq_true', Bool.or_eq_false_iff, Bool.and_eq_false_imp, decide_eq_true_eq, decide_eq_false_iff_not]
  constructor
  · intro h; (repeat' split at h) <;> simp_all <;> omega
  · intro h; (repeat' split) <;> simp_all <;> omega
set_option maxHeartbeats 4000000 in
theorem l25Ok_ro (n : Int) (ls : List Ln) (hn : ls.length ≤ 1048576) (k : Nat) : RO Try.prog 60 [.dptr (bkL n ls)] k (.v (.bool (bkB n ls))) [] k := by
  unfold bkL
  by_cases c0 : (inB n 1 12 && decide (ls.length ≤ 32)) = true
  · simp only [Bool.and_eq_true, decide_eq_true_eq] at c0
    obtain ⟨c0, c1⟩ := c0
    have b0 : (!inB n 1 12) = false := by rw [c0]; rfl
    have b1 : decide ((32 : Int) < ((ls.map lnL).length : Int)) = false := by simp; omega
    have hn1 : 1 ≤ n ∧ n ≤ 12 := by simpa [inB] using c0
    have hw : IntKind.i64.wrap (n - 1) = n - 1 := IntWalk.i64_in _ (by omega)
    refine RO.ofv' Try.func60 Try.ntmps60 rfl (goFn_of Try.func60 rfl (by kernel_rfl)) rfl rfl ?_
    ((repeat' (first
    | (show SQ _ _ _ _ _ _ _ _; first | apply sq_nil | (apply q_move; exact rfl; exact rfl) | (apply q_assign; exact rfl; exact rfl) | (apply q_pick_f; exact rfl; exact rfl; exact rfl; exact (by first | assumption | exact rfl)) | (apply q_fieldAddr; exact rfl; exact rfl; exact (ty rfl); exact rfl; exact rfl; exact rfl; exact rfl) | (apply q_nilc; exact rfl; exact rfl; exact rfl) | (apply q_not; exact rfl; exact rfl) | (apply q_lend; exact rfl; exact rfl; exact (ty rfl); exact rfl) | (apply q_gtr; exact rfl; exact rfl; exact rfl) | (apply q_ld1d; exact rfl; exact rfl; exact (ty rfl); exact rfl; exact rfl) | (apply q_g; exact rfl; exact rfl; exact rfl; exact (by assumption)))
    | (show SQ _ _ _ _ _ _ _ _; (first | (apply q_callU; exact rfl; exact rfl; exact rfl; exact FzL.of rfl; exact l00In_ro _ _ _ _)); (try simp only [put, rowsOf, plR, List.all_cons, selE, ovr, setH, del, cellsA, splice, isV, List.nil_append, List.cons_append, List.map_cons, List.map_nil, List.length_cons, List.length_nil, List.set_cons_zero, List.set_cons_succ, List.take_succ_cons, List.take_zero, List.take_nil, List.drop_succ_cons, List.drop_zero, List.drop_nil, List.append_nil, List.all_cons, List.all_nil, Bool.and_true, Bool.true_and, Bool.and_false, Bool.false_and, Nat.reduceAdd, Nat.zero_add, Nat.add_zero, Nat.reduceEqDiff, if_true, if_false, reduceIte]))
    | (show AW _ _ _ _ _ _ _ _; first | refine aw_region ?_ | (refine aw_seqk ?_; intro K hK) | refine aw_block ?_ | (apply aw_cond_f; exact rfl; exact (by assumption)) | refine aw_skip ?_)
    | refine thn_n ?_
    | (refine hK _ _ _ ?_; clear hK K))); all_goals (repeat (clear hK K)))
    refine aw_loop (ρ := id) (ι := Nat) (fun i => ([(3, .v (.int .i64 i)), (0, .dptr [.v (.int .i64 n), .dsl 4 (ls.map lnL)])], [], 0))
      (fun i => i ≤ ls.length ∧ ∀ j, j < i → goodL n ls j = true) (fun i => ls.length - i) 0 ⟨Nat.zero_le _, fun _ h => absurd h (Nat.not_lt_zero _)⟩ ⟨by (repeat (refine ⟨by first | exact lk_i rfl rfl | exact lk_p rfl rfl, ?_⟩)); exact trivial, by exact trivial, by rfl, by exact pin_0⟩ ?_
    rintro i ⟨hi, hg⟩
    by_cases c2 : i < ls.length
    · have b2 : decide ((i : Int) < ((ls.map lnL).length : Int)) = true := by simpa using c2
      have hrow : (ls.map lnL)[((i : Int)).toNat]? = some (lnL ls[i]) := by simp [c2]
      rw [lnL_eq ls[i]] at hrow
      have hD : ls.getD i lnz = ls[i] := by simp [List.getD, c2]
      have hwa : inB ls[i].a 0 (n - 1) = true → IntKind.i64.wrap (ls[i].a + 1) = ls[i].a + 1 := fun h => IntWalk.i64_in _ (by simp [inB] at h; omega)
      by_cases c3 : i = 0
      · have b5 : decide ((0 : Int) < (i : Int)) = false := by simp; omega
        ((repeat' (first
    | (show SQ _ _ _ _ _ _ _ _; first | apply sq_nil | (apply q_move; exact rfl; exact rfl) | (apply q_assign; exact rfl; exact rfl) | (apply q_fieldAddr; exact rfl; exact rfl; exact (ty rfl); exact rfl; exact rfl; exact rfl; exact rfl) | (apply q_nilc; exact rfl; exact rfl; exact rfl) | (apply q_lend; exact rfl; exact rfl; exact (ty rfl); exact rfl) | (apply q_add; exact rfl; exact rfl; exact rfl) | (apply q_lss; exact rfl; exact rfl; exact rfl) | (apply q_ixd; exact rfl; exact rfl; exact rfl; exact (ty rfl); exact rfl; exact (by first | omega | (simp; done) | (simp; omega)); exact (by first | omega | (simp; done) | (simp; omega)); exact (by first | rfl | assumption)) | (apply q_ld1d; exact rfl; exact rfl; exact (ty rfl); exact rfl; exact rfl))
    | (show SQ _ _ _ _ _ _ _ _; (first | (apply q_ldad; exact rfl; exact rfl; exact (ty rfl); exact rfl; exact rfl) | (apply q_alloc; exact rfl; exact (ty rfl); exact rfl; exact rfl) | (apply q_store; exact rfl; exact rfl; exact (ty rfl); exact rfl; exact (by first | rfl | assumption | ((try simp only [Nat.zero_add]); refine List.getElem?_set_self ?_; (try simp only [List.length_set]); assumption)); exact rfl; exact rfl; exact rfl)); (try simp only [put, rowsOf, plR, List.all_cons, selE, ovr, setH, del, cellsA, splice, isV, List.nil_append, List.cons_append, List.map_cons, List.map_nil, List.length_cons, List.length_nil, List.set_cons_zero, List.set_cons_succ, List.take_succ_cons, List.take_zero, List.take_nil, List.drop_succ_cons, List.drop_zero, List.drop_nil, List.append_nil, List.all_cons, List.all_nil, Bool.and_true, Bool.true_and, Bool.and_false, Bool.false_and, Nat.reduceAdd, Nat.zero_add, Nat.add_zero, Nat.reduceEqDiff, if_true, if_false, reduceIte]))
    | (show DE _ _ _ _ _ _ _ _ _ _ _ _; first | (apply e_move; exact rfl; exact rfl; exact rfl) | (apply e_pick_t; exact rfl; exact rfl; exact rfl; exact (by first | assumption | exact rfl); exact rfl) | (apply e_pick_f; exact rfl; exact rfl; exact rfl; exact (by first | assumption | exact rfl); exact rfl) | (apply e_fieldAddr; exact rfl; exact rfl; exact (ty rfl); exact rfl; exact rfl; exact rfl; exact rfl; exact rfl) | (apply e_nilc; exact rfl; exact rfl; exact rfl; exact rfl) | (apply e_not; exact rfl; exact rfl; exact rfl) | (apply e_add; exact rfl; exact rfl; exact rfl; exact rfl) | (apply e_sub; exact rfl; exact rfl; exact rfl; exact rfl) | (apply e_gtr; exact rfl; exact rfl; exact rfl; exact rfl) | (apply e_ld1d; exact rfl; exact rfl; exact (ty rfl); exact rfl; exact rfl; exact rfl) | (apply e_ld1p; exact rfl; exact rfl; exact (ty rfl); exact rfl; exact rfl; exact (by first | rfl | assumption | ((try simp only [Nat.zero_add]); refine List.getElem?_set_self ?_; (try simp only [List.length_set]); assumption)); exact rfl; exact rfl) | (apply e_g; exact rfl; exact rfl; exact rfl; exact (by assumption)) | (apply e_s; exact rfl; exact rfl; exact rfl; exact (by assumption); exact rfl) | (apply e_s; exact rfl; exact rfl; exact rfl; exact rfl; exact rfl) | (apply e_sU; exact rfl; exact rfl; exact rfl; exact rfl; exact rfl))
    | (show DE _ _ _ _ _ _ _ _ _ _ _ _; (first | (apply dr_nil; exact trivial) | (apply e_callU; exact rfl; exact rfl; exact rfl; exact FzL.of rfl; exact l00In_ro _ _ _ _; exact rfl) | (apply e_callU; exact rfl; exact rfl; exact rfl; exact FzL.of rfl; exact l13Outage_ro _ _; exact rfl)); (try simp only [put, rowsOf, plR, List.all_cons, selE, ovr, setH, del, cellsA, splice, isV, List.nil_append, List.cons_append, List.map_cons, List.map_nil, List.length_cons, List.length_nil, List.set_cons_zero, List.set_cons_succ, List.take_succ_cons, List.take_zero, List.take_nil, List.drop_succ_cons, List.drop_zero, List.drop_nil, List.append_nil, List.all_cons, List.all_nil, Bool.and_true, Bool.true_and, Bool.and_false, Bool.false_and, Nat.reduceAdd, Nat.zero_add, Nat.add_zero, Nat.reduceEqDiff, if_true, if_false, reduceIte]))
    | (show DE _ _ _ _ _ _ _ _ _ _ _ _; apply e_gs; exact rfl; exact rfl; exact rfl; exact rfl; all_goals intro h)
    | (show AW _ _ _ _ _ _ _ _; first | refine aw_region ?_ | (refine aw_seqk ?_; intro K hK) | refine aw_block ?_ | (apply aw_cond_t; exact rfl; exact rfl) | (apply aw_cond_f; exact rfl; exact rfl) | (apply aw_cond_t; exact rfl; exact (by assumption)) | refine aw_ret ?_ | refine aw_skip ?_ | refine aw_drawE (id := 7) [0, 1, 0, 4, 12, 28, 60, 127, 255, 511, 1023, 2047, 1023, 5119, 13311, 1023, 33791, 99327, 230399, 492543, 1048575, 2097151, 4194303, 8388607, 16777215, 33554431, 67108863, 134217727, 268435455, 536870911, 1073741823, 2147483647, 4294967295, 8589934591, 17179869183] [0, 1, 0, 0, 0, 1, 0, 1, 0, 0, 0, 1, 0, 1, 0, 0, 0, 0, 1, 0, 1, 0, 0, 0, 0, 1, 1, 0, 0, 0, 0, 1, 1, 0, 0] mixed (by kernel_rfl) ?_ | refine aw_drawE (id := 9) [0, 1, 3, 7, 15, 31, 63, 7, 135, 511, 1023, 2047, 7, 4103, 16383, 32767, 65535, 131071, 262143, 524287, 65535, 1114111, 4194303, 8388607, 16777215, 65535, 33619967, 134217727, 268435455, 536870911, 1073741823, 2147483647, 4294967295, 536870911, 9126805503, 34359738367, 68719476735, 137438953471, 536870911, 275414777855, 1099511627775, 2199023255551, 4398046511103, 8796093022207] [0, 0, 0, 0, 0, 0, 1, 0, 0, 0, 0, 1, 0, 1, 0, 0, 0, 0, 0, 1, 0, 0, 0, 0, 1, 0, 1, 0, 0, 0, 0, 0, 1, 0, 0, 0, 0, 1, 0, 1, 0, 0, 0, 0] mixed (by kernel_rfl) ?_ | (apply aw_ite; exact rfl; all_goals intro h))
    | refine thn_n ?_
    | (refine hK _ _ _ ?_; clear hK K)
    | refine thn_r ?_
    | refine inb_n ?_
    | refine inb_r ?_)); all_goals (repeat (clear hK K)))
        all_goals first
          | (refine fin_r (fin_b rfl ?_)
             refine (bkB_false c2 ?_).symm
             simp_all [goodL, sOk]; done)
          | (refine ⟨i + 1, id, ⟨c2, fun j hj => ?_⟩, by omega, ⟨by (repeat (refine ⟨by first | exact lk_i rfl (by (try dsimp only); first | rfl | omega | (rw [IntWalk.i64_in _ (by omega)]; first | rfl | omega | (push_cast; omega)) | (simp; done) | (simp; omega)) | exact lk_p rfl rfl, ?_⟩)); exact trivial, by exact trivial, by rfl, by exact pin_0⟩⟩
             by_cases hjq : j < i
             · exact hg j hjq
             · have : j = i := by omega
               subst this
               simp_all [goodL, sOk])
      · have hw2 : IntKind.i64.wrap ((i : Int) - 1) = (i : Int) - 1 := IntWalk.i64_in _ (by omega)
        have hrow2 : (ls.map lnL)[(IntKind.i64.wrap ((i : Int) - 1)).toNat]? = some (lnL ls[i - 1]) := by
          rw [hw2, show ((i : Int) - 1).toNat = i - 1 by omega]; simp [show i - 1 < ls.length by omega]
        rw [lnL_eq ls[i - 1]] at hrow2
        have hP : ls.getD (i - 1) lnz = ls[i - 1] := by simp [List.getD, show i - 1 < ls.length by omega]
        have b5 : decide ((0 : Int) < (i : Int)) = true := by simp; omega
        ((repeat' (first
    | (show SQ _ _ _ _ _ _ _ _; first | apply sq_nil | (apply q_move; exact rfl; exact rfl) | (apply q_assign; exact rfl; exact rfl) | (apply q_fieldAddr; exact rfl; exact rfl; exact (ty rfl); exact rfl; exact rfl; exact rfl; exact rfl) | (apply q_nilc; exact rfl; exact rfl; exact rfl) | (apply q_lend; exact rfl; exact rfl; exact (ty rfl); exact rfl) | (apply q_add; exact rfl; exact rfl; exact rfl) | (apply q_lss; exact rfl; exact rfl; exact rfl) | (apply q_ixd; exact rfl; exact rfl; exact rfl; exact (ty rfl); exact rfl; exact (by first | omega | (simp; done) | (simp; omega)); exact (by first | omega | (simp; done) | (simp; omega)); exact (by first | rfl | assumption)) | (apply q_ld1d; exact rfl; exact rfl; exact (ty rfl); exact rfl; exact rfl))
    | (show SQ _ _ _ _ _ _ _ _; (first | (apply q_ldad; exact rfl; exact rfl; exact (ty rfl); exact rfl; exact rfl) | (apply q_alloc; exact rfl; exact (ty rfl); exact rfl; exact rfl) | (apply q_store; exact rfl; exact rfl; exact (ty rfl); exact rfl; exact (by first | rfl | assumption | ((try simp only [Nat.zero_add]); refine List.getElem?_set_self ?_; (try simp only [List.length_set]); assumption)); exact rfl; exact rfl; exact rfl)); (try simp only [put, rowsOf, plR, List.all_cons, selE, ovr, setH, del, cellsA, splice, isV, List.nil_append, List.cons_append, List.map_cons, List.map_nil, List.length_cons, List.length_nil, List.set_cons_zero, List.set_cons_succ, List.take_succ_cons, List.take_zero, List.take_nil, List.drop_succ_cons, List.drop_zero, List.drop_nil, List.append_nil, List.all_cons, List.all_nil, Bool.and_true, Bool.true_and, Bool.and_false, Bool.false_and, Nat.reduceAdd, Nat.zero_add, Nat.add_zero, Nat.reduceEqDiff, if_true, if_false, reduceIte]))
    | (show DE _ _ _ _ _ _ _ _ _ _ _ _; first | (apply e_move; exact rfl; exact rfl; exact rfl) | (apply e_pick_t; exact rfl; exact rfl; exact rfl; exact (by first | assumption | exact rfl); exact rfl) | (apply e_pick_f; exact rfl; exact rfl; exact rfl; exact (by first | assumption | exact rfl); exact rfl) | (apply e_fieldAddr; exact rfl; exact rfl; exact (ty rfl); exact rfl; exact rfl; exact rfl; exact rfl; exact rfl) | (apply e_nilc; exact rfl; exact rfl; exact rfl; exact rfl) | (apply e_not; exact rfl; exact rfl; exact rfl) | (apply e_add; exact rfl; exact rfl; exact rfl; exact rfl) | (apply e_sub; exact rfl; exact rfl; exact rfl; exact rfl) | (apply e_eql; exact rfl; exact rfl; exact rfl; exact rfl) | (apply e_gtr; exact rfl; exact rfl; exact rfl; exact rfl) | (apply e_geq; exact rfl; exact rfl; exact rfl; exact rfl) | (apply e_ixd; exact rfl; exact rfl; exact rfl; exact (ty rfl); exact rfl; exact (by first | omega | (simp; done) | (simp; omega)); exact (by first | omega | (simp; done) | (simp; omega)); exact (by first | rfl | assumption); exact rfl) | (apply e_ld1d; exact rfl; exact rfl; exact (ty rfl); exact rfl; exact rfl; exact rfl) | (apply e_ld1p; exact rfl; exact rfl; exact (ty rfl); exact rfl; exact rfl; exact (by first | rfl | assumption | ((try simp only [Nat.zero_add]); refine List.getElem?_set_self ?_; (try simp only [List.length_set]); assumption)); exact rfl; exact rfl) | (apply e_g; exact rfl; exact rfl; exact rfl; exact (by assumption)) | (apply e_s; exact rfl; exact rfl; exact rfl; exact (by assumption); exact rfl) | (apply e_s; exact rfl; exact rfl; exact rfl; exact rfl; exact rfl) | (apply e_sU; exact rfl; exact rfl; exact rfl; exact rfl; exact rfl))
    | (show DE _ _ _ _ _ _ _ _ _ _ _ _; (first | (apply dr_nil; exact trivial) | (apply e_callU; exact rfl; exact rfl; exact rfl; exact FzL.of rfl; exact l00In_ro _ _ _ _; exact rfl) | (apply e_callU; exact rfl; exact rfl; exact rfl; exact FzL.of rfl; exact l13Outage_ro _ _; exact rfl)); (try simp only [put, rowsOf, plR, List.all_cons, selE, ovr, setH, del, cellsA, splice, isV, List.nil_append, List.cons_append, List.map_cons, List.map_nil, List.length_cons, List.length_nil, List.set_cons_zero, List.set_cons_succ, List.take_succ_cons, List.take_zero, List.take_nil, List.drop_succ_cons, List.drop_zero, List.drop_nil, List.append_nil, List.all_cons, List.all_nil, Bool.and_true, Bool.true_and, Bool.and_false, Bool.false_and, Nat.reduceAdd, Nat.zero_add, Nat.add_zero, Nat.reduceEqDiff, if_true, if_false, reduceIte]))
    | (show DE _ _ _ _ _ _ _ _ _ _ _ _; apply e_gs; exact rfl; exact rfl; exact rfl; exact rfl; all_goals intro h)
    | (show AW _ _ _ _ _ _ _ _; first | refine aw_region ?_ | (refine aw_seqk ?_; intro K hK) | refine aw_block ?_ | (apply aw_cond_t; exact rfl; exact rfl) | (apply aw_cond_f; exact rfl; exact rfl) | (apply aw_cond_t; exact rfl; exact (by assumption)) | refine aw_ret ?_ | refine aw_skip ?_ | refine aw_drawE (id := 7) [0, 1, 0, 4, 12, 28, 60, 127, 255, 511, 1023, 2047, 1023, 5119, 13311, 1023, 33791, 99327, 230399, 492543, 1048575, 2097151, 4194303, 8388607, 16777215, 33554431, 67108863, 134217727, 268435455, 536870911, 1073741823, 2147483647, 4294967295, 8589934591, 17179869183] [0, 1, 0, 0, 0, 1, 0, 1, 0, 0, 0, 1, 0, 1, 0, 0, 0, 0, 1, 0, 1, 0, 0, 0, 0, 1, 1, 0, 0, 0, 0, 1, 1, 0, 0] mixed (by kernel_rfl) ?_ | refine aw_drawE (id := 9) [0, 1, 3, 7, 15, 31, 63, 7, 135, 511, 1023, 2047, 7, 4103, 16383, 32767, 65535, 131071, 262143, 524287, 65535, 1114111, 4194303, 8388607, 16777215, 65535, 33619967, 134217727, 268435455, 536870911, 1073741823, 2147483647, 4294967295, 536870911, 9126805503, 34359738367, 68719476735, 137438953471, 536870911, 275414777855, 1099511627775, 2199023255551, 4398046511103, 8796093022207] [0, 0, 0, 0, 0, 0, 1, 0, 0, 0, 0, 1, 0, 1, 0, 0, 0, 0, 0, 1, 0, 0, 0, 0, 1, 0, 1, 0, 0, 0, 0, 0, 1, 0, 0, 0, 0, 1, 0, 1, 0, 0, 0, 0] mixed (by kernel_rfl) ?_ | (apply aw_ite; exact rfl; all_goals intro h))
    | refine thn_n ?_
    | (refine hK _ _ _ ?_; clear hK K)
    | refine thn_r ?_
    | refine inb_n ?_
    | refine inb_r ?_)); all_goals (repeat (clear hK K)))
        all_goals first
          | (refine fin_r (fin_b rfl ?_)
             refine (bkB_false c2 ?_).symm
             simp_all [goodL, sOk, lexB]; done)
          | (refine fin_r (fin_b rfl ?_)
             refine (bkB_false c2 ?_).symm
             simp_all [goodL, sOk, lexB]; intros; omega)
          | (refine ⟨i + 1, id, ⟨c2, fun j hj => ?_⟩, by omega, ⟨by (repeat (refine ⟨by first | exact lk_i rfl (by (try dsimp only); first | rfl | omega | (rw [IntWalk.i64_in _ (by omega)]; first | rfl | omega | (push_cast; omega)) | (simp; done) | (simp; omega)) | exact lk_p rfl rfl, ?_⟩)); exact trivial, by exact trivial, by rfl, by exact pin_0⟩⟩
             by_cases hjq : j < i
             · exact hg j hjq
             · have : j = i := by omega
               subst this
               first | (simp_all [goodL, sOk, lexB]; done) | (simp_all [goodL, sOk, lexB]; omega))
    · have b2 : decide ((i : Int) < ((ls.map lnL).length : Int)) = false := by simpa using c2
      ((repeat' (first
    | (show SQ _ _ _ _ _ _ _ _; first | apply sq_nil | (apply q_move; exact rfl; exact rfl) | (apply q_assign; exact rfl; exact rfl) | (apply q_fieldAddr; exact rfl; exact rfl; exact (ty rfl); exact rfl; exact rfl; exact rfl; exact rfl) | (apply q_nilc; exact rfl; exact rfl; exact rfl) | (apply q_lend; exact rfl; exact rfl; exact (ty rfl); exact rfl) | (apply q_lss; exact rfl; exact rfl; exact rfl) | (apply q_ld1d; exact rfl; exact rfl; exact (ty rfl); exact rfl; exact rfl))
    | (show AW _ _ _ _ _ _ _ _; first | refine aw_region ?_ | (refine aw_seqk ?_; intro K hK) | (apply aw_cond_f; exact rfl; exact (by assumption)) | refine aw_ret ?_ | refine aw_exit ?_)
    | refine thn_n ?_
    | (refine hK _ _ _ ?_; clear hK K)
    | refine thn_e ?_
    | refine inb_same ?_
    | (clear hK K; refine hK _ _ _ ?_; clear hK K))); all_goals (repeat (clear hK K)))
      all_goals refine fin_r (fin_b rfl ?_)
      have : i = ls.length := by omega
      subst this
      rw [bkB, allR_true hg, c0]
      simp [c1]
  · have c0 : (inB n 1 12 && decide (ls.length ≤ 32)) = false := by simpa using c0
    have e0 : bkB n ls = false := by rw [bkB, c0]; rfl
    rw [e0]
    by_cases c1 : inB n 1 12 = true
    · have b0 : (!inB n 1 12) = false := by rw [c1]; rfl
      have b1 : decide ((32 : Int) < ((ls.map lnL).length : Int)) = true := by simp [c1] at c0; simp; omega
      refine RO.ofv' Try.func60 Try.ntmps60 rfl (goFn_of Try.func60 rfl (by kernel_rfl)) rfl rfl ?_
      ((repeat' (first
    | (show SQ _ _ _ _ _ _ _ _; first | apply sq_nil | (apply q_move; exact rfl; exact rfl) | (apply q_assign; exact rfl; exact rfl) | (apply q_pick_f; exact rfl; exact rfl; exact rfl; exact (by first | assumption | exact rfl)) | (apply q_fieldAddr; exact rfl; exact rfl; exact (ty rfl); exact rfl; exact rfl; exact rfl; exact rfl) | (apply q_nilc; exact rfl; exact rfl; exact rfl) | (apply q_not; exact rfl; exact rfl) | (apply q_lend; exact rfl; exact rfl; exact (ty rfl); exact rfl) | (apply q_gtr; exact rfl; exact rfl; exact rfl) | (apply q_ld1d; exact rfl; exact rfl; exact (ty rfl); exact rfl; exact rfl) | (apply q_g; exact rfl; exact rfl; exact rfl; exact (by assumption)))
    | (show SQ _ _ _ _ _ _ _ _; (first | (apply q_callU; exact rfl; exact rfl; exact rfl; exact FzL.of rfl; exact l00In_ro _ _ _ _)); (try simp only [put, rowsOf, plR, List.all_cons, selE, ovr, setH, del, cellsA, splice, isV, List.nil_append, List.cons_append, List.map_cons, List.map_nil, List.length_cons, List.length_nil, List.set_cons_zero, List.set_cons_succ, List.take_succ_cons, List.take_zero, List.take_nil, List.drop_succ_cons, List.drop_zero, List.drop_nil, List.append_nil, List.all_cons, List.all_nil, Bool.and_true, Bool.true_and, Bool.and_false, Bool.false_and, Nat.reduceAdd, Nat.zero_add, Nat.add_zero, Nat.reduceEqDiff, if_true, if_false, reduceIte]))
    | (show AW _ _ _ _ _ _ _ _; first | refine aw_region ?_ | (refine aw_seqk ?_; intro K hK) | (apply aw_cond_t; exact rfl; exact (by assumption)) | refine aw_ret ?_)
    | refine thn_n ?_
    | (refine hK _ _ _ ?_; clear hK K)
    | refine thn_r ?_)); all_goals (repeat (clear hK K)))
      all_goals exact fin_r (fin_b rfl rfl)
    · have b0 : (!inB n 1 12) = true := by simpa using c1
      refine RO.ofv' Try.func60 Try.ntmps60 rfl (goFn_of Try.func60 rfl (by kernel_rfl)) rfl rfl ?_
      ((repeat' (first
    | (show SQ _ _ _ _ _ _ _ _; first | apply sq_nil | (apply q_move; exact rfl; exact rfl) | (apply q_assign; exact rfl; exact rfl) | (apply q_pick_t; exact rfl; exact rfl; exact rfl; exact (by first | assumption | exact rfl)) | (apply q_fieldAddr; exact rfl; exact rfl; exact (ty rfl); exact rfl; exact rfl; exact rfl; exact rfl) | (apply q_nilc; exact rfl; exact rfl; exact rfl) | (apply q_not; exact rfl; exact rfl) | (apply q_ld1d; exact rfl; exact rfl; exact (ty rfl); exact rfl; exact rfl) | (apply q_s; exact rfl; exact rfl; exact rfl; exact (by assumption); exact rfl))
    | (show SQ _ _ _ _ _ _ _ _; (first | (apply q_callU; exact rfl; exact rfl; exact rfl; exact FzL.of rfl; exact l00In_ro _ _ _ _)); (try simp only [put, rowsOf, plR, List.all_cons, selE, ovr, setH, del, cellsA, splice, isV, List.nil_append, List.cons_append, List.map_cons, List.map_nil, List.length_cons, List.length_nil, List.set_cons_zero, List.set_cons_succ, List.take_succ_cons, List.take_zero, List.take_nil, List.drop_succ_cons, List.drop_zero, List.drop_nil, List.append_nil, List.all_cons, List.all_nil, Bool.and_true, Bool.true_and, Bool.and_false, Bool.false_and, Nat.reduceAdd, Nat.zero_add, Nat.add_zero, Nat.reduceEqDiff, if_true, if_false, reduceIte]))
    | (show AW _ _ _ _ _ _ _ _; first | refine aw_region ?_ | (refine aw_seqk ?_; intro K hK) | (apply aw_cond_t; exact rfl; exact rfl) | refine aw_ret ?_)
    | refine thn_n ?_
    | (refine hK _ _ _ ?_; clear hK K)
    | refine thn_r ?_)); all_goals (repeat (clear hK K)))
      all_goals exact fin_r (fin_b rfl rfl)
end Go.Proofs.Ytglfcaioapdiaaa.Bk

namespace Go.Proofs.Ytglfcaioapdiaaa.Bk
open Go Go.RowKit Go.Proofs.Ytglfcaioapdiaaa.Aw
set_option linter.unusedSimpArgs false
set_option linter.unusedVariables false
attribute [local irreducible] AW SQ Step RO RC DE Thn InB
set_option maxHeartbeats 4000000 in
theorem ValidBackhaul_ro (n : Int) (ls : List Ln) (hn : ls.length ≤ 1048576) (k : Nat) : RO Try.prog 75 [.agg (bkL n ls)] k (.v (.bool (bkB n ls))) [] k := by
  unfold bkL
  by_cases c0 : (inB n 1 12 && decide (ls.length ≤ 32)) = true
  · simp only [Bool.and_eq_true, decide_eq_true_eq] at c0
    obtain ⟨c0, c1⟩ := c0
    have b0 : (!inB n 1 12) = false := by rw [c0]; rfl
    have b1 : decide ((32 : Int) < ((ls.map lnL).length : Int)) = false := by simp; omega
    have hn1 : 1 ≤ n ∧ n ≤ 12 := by simpa [inB] using c0
    have hw : IntKind.i64.wrap (n - 1) = n - 1 := IntWalk.i64_in _ (by omega)
    refine RO.ofv' Try.func75 Try.ntmps75 rfl (goFn_of Try.func75 rfl (by kernel_rfl)) rfl rfl ?_
    ((repeat' (first
    | (show SQ _ _ _ _ _ _ _ _; first | apply sq_nil | (apply q_move; exact rfl; exact rfl) | (apply q_assign; exact rfl; exact rfl) | (apply q_pick_f; exact rfl; exact rfl; exact rfl; exact (by first | assumption | exact rfl)) | (apply q_fieldAddr; exact rfl; exact rfl; exact (ty rfl); exact rfl; exact rfl; exact rfl; exact rfl) | (apply q_not; exact rfl; exact rfl) | (apply q_lend; exact rfl; exact rfl; exact (ty rfl); exact rfl) | (apply q_gtr; exact rfl; exact rfl; exact rfl) | (apply q_ld1p; exact rfl; exact rfl; exact (ty rfl); exact rfl; exact rfl; exact (by first | rfl | assumption | ((try simp only [Nat.zero_add]); refine List.getElem?_set_self ?_; (try simp only [List.length_set]); assumption)); exact rfl) | (apply q_g; exact rfl; exact rfl; exact rfl; exact (by assumption)))
    | (show SQ _ _ _ _ _ _ _ _; (first | (apply q_box; exact rfl; exact rfl; exact rfl) | (apply q_callU; exact rfl; exact rfl; exact rfl; exact FzL.of rfl; exact within_ro _ _ _ _)); (try simp only [put, rowsOf, plR, List.all_cons, selE, ovr, setH, del, cellsA, splice, isV, List.nil_append, List.cons_append, List.map_cons, List.map_nil, List.length_cons, List.length_nil, List.set_cons_zero, List.set_cons_succ, List.take_succ_cons, List.take_zero, List.take_nil, List.drop_succ_cons, List.drop_zero, List.drop_nil, List.append_nil, List.all_cons, List.all_nil, Bool.and_true, Bool.true_and, Bool.and_false, Bool.false_and, Nat.reduceAdd, Nat.zero_add, Nat.add_zero, Nat.reduceEqDiff, if_true, if_false, reduceIte]))
    | (show AW _ _ _ _ _ _ _ _; first | refine aw_region ?_ | (refine aw_seqk ?_; intro K hK) | refine aw_block ?_ | (apply aw_cond_f; exact rfl; exact (by assumption)) | refine aw_skip ?_)
    | refine thn_n ?_
    | (refine hK _ _ _ ?_; clear hK K))); all_goals (repeat (clear hK K)))
    refine aw_loop (ρ := id) (ι := Nat) (fun i => ([(18, .v (.int .i64 i)), (17, .v (.int .i64 ls.length)), (16, .dsl 4 (ls.map lnL)), (1, .ptr 0 0 0)], [(0, ⟨31, 2, false, [[.v (.int .i64 n), .dsl 4 (ls.map lnL)]]⟩)], 1))
      (fun i => i ≤ ls.length ∧ ∀ j, j < i → goodL n ls j = true) (fun i => ls.length - i) 0 ⟨Nat.zero_le _, fun _ h => absurd h (Nat.not_lt_zero _)⟩ ⟨by (repeat (refine ⟨by first | exact lk_i rfl rfl | exact lk_i rfl (by (try dsimp only); first | rfl | omega | (rw [IntWalk.i64_in _ (by omega)]; first | rfl | omega | (push_cast; omega)) | (simp; done) | (simp; omega)) | exact lk_d rfl rfl | exact lk_r rfl rfl rfl, ?_⟩)); exact trivial, by (repeat (refine ⟨by first | exact ⟨rfl, rfl, rfl⟩, ?_⟩)); exact trivial, by rfl, by exact pin_0⟩ ?_
    rintro i ⟨hi, hg⟩
    by_cases c2 : i < ls.length
    · have b2 : decide ((i : Int) < (ls.length : Int)) = true := by simpa using c2
      have hrow : (ls.map lnL)[((i : Int)).toNat]? = some (lnL ls[i]) := by simp [c2]
      rw [lnL_eq ls[i]] at hrow
      have hD : ls.getD i lnz = ls[i] := by simp [List.getD, c2]
      have hwa : inB ls[i].b 0 (n - 1) = true → IntKind.i64.wrap (ls[i].b - 1) = ls[i].b - 1 := fun h => IntWalk.i64_in _ (by simp [inB] at h; omega)
      have hso := sOk_impl n ls[i]
      by_cases c3 : i = 0
      · have b5 : decide ((0 : Int) < (i : Int)) = false := by simp; omega
        ((repeat' (first
    | (show SQ _ _ _ _ _ _ _ _; first | apply sq_nil | (apply q_move; exact rfl; exact rfl) | (apply q_assign; exact rfl; exact rfl) | (apply q_pick_t; exact rfl; exact rfl; exact rfl; exact (by first | assumption | exact rfl)) | (apply q_pick_f; exact rfl; exact rfl; exact rfl; exact (by first | assumption | exact rfl)) | (apply q_fieldAddr; exact rfl; exact rfl; exact (ty rfl); exact rfl; exact rfl; exact rfl; exact rfl) | (apply q_not; exact rfl; exact rfl) | (apply q_add; exact rfl; exact rfl; exact rfl) | (apply q_sub; exact rfl; exact rfl; exact rfl) | (apply q_lss; exact rfl; exact rfl; exact rfl) | (apply q_ixd; exact rfl; exact rfl; exact rfl; exact (ty rfl); exact rfl; exact (by first | omega | (simp; done) | (simp; omega)); exact (by first | omega | (simp; done) | (simp; omega)); exact (by first | rfl | assumption)) | (apply q_ld1p; exact rfl; exact rfl; exact (ty rfl); exact rfl; exact rfl; exact (by first | rfl | assumption | ((try simp only [Nat.zero_add]); refine List.getElem?_set_self ?_; (try simp only [List.length_set]); assumption)); exact rfl) | (apply q_g; exact rfl; exact rfl; exact rfl; exact (by assumption)) | (apply q_s; exact rfl; exact rfl; exact rfl; exact (by assumption); exact rfl) | (apply q_s; exact rfl; exact rfl; exact rfl; exact rfl; exact rfl))
    | (show SQ _ _ _ _ _ _ _ _; (first | (apply q_ldad; exact rfl; exact rfl; exact (ty rfl); exact rfl; exact rfl) | (apply q_alloc; exact rfl; exact (ty rfl); exact rfl; exact rfl) | (apply q_store; exact rfl; exact rfl; exact (ty rfl); exact rfl; exact (by first | rfl | assumption | ((try simp only [Nat.zero_add]); refine List.getElem?_set_self ?_; (try simp only [List.length_set]); assumption)); exact rfl; exact rfl; exact rfl) | (apply q_callU; exact rfl; exact rfl; exact rfl; exact FzL.of rfl; exact within_ro _ _ _ _)); (try simp only [put, rowsOf, plR, List.all_cons, selE, ovr, setH, del, cellsA, splice, isV, List.nil_append, List.cons_append, List.map_cons, List.map_nil, List.length_cons, List.length_nil, List.set_cons_zero, List.set_cons_succ, List.take_succ_cons, List.take_zero, List.take_nil, List.drop_succ_cons, List.drop_zero, List.drop_nil, List.append_nil, List.all_cons, List.all_nil, Bool.and_true, Bool.true_and, Bool.and_false, Bool.false_and, Nat.reduceAdd, Nat.zero_add, Nat.add_zero, Nat.reduceEqDiff, if_true, if_false, reduceIte]))
    | (show SQ _ _ _ _ _ _ _ _; apply q_gs; exact rfl; exact rfl; exact rfl; exact rfl; all_goals intro h)
    | (show DE _ _ _ _ _ _ _ _ _ _ _ _; first | (apply e_move; exact rfl; exact rfl; exact rfl) | (apply e_pick_f; exact rfl; exact rfl; exact rfl; exact (by first | assumption | exact rfl); exact rfl) | (apply e_gtr; exact rfl; exact rfl; exact rfl; exact rfl) | (apply e_s; exact rfl; exact rfl; exact rfl; exact (by assumption); exact rfl))
    | (show DE _ _ _ _ _ _ _ _ _ _ _ _; (first | (apply dr_nil; exact trivial)); (try simp only [put, rowsOf, plR, List.all_cons, selE, ovr, setH, del, cellsA, splice, isV, List.nil_append, List.cons_append, List.map_cons, List.map_nil, List.length_cons, List.length_nil, List.set_cons_zero, List.set_cons_succ, List.take_succ_cons, List.take_zero, List.take_nil, List.drop_succ_cons, List.drop_zero, List.drop_nil, List.append_nil, List.all_cons, List.all_nil, Bool.and_true, Bool.true_and, Bool.and_false, Bool.false_and, Nat.reduceAdd, Nat.zero_add, Nat.add_zero, Nat.reduceEqDiff, if_true, if_false, reduceIte]))
    | (show AW _ _ _ _ _ _ _ _; first | refine aw_region ?_ | (refine aw_seqk ?_; intro K hK) | refine aw_block ?_ | (apply aw_cond_t; exact rfl; exact rfl) | (apply aw_cond_f; exact rfl; exact rfl) | (apply aw_cond_t; exact rfl; exact (by assumption)) | refine aw_ret ?_ | refine aw_skip ?_ | refine aw_drawE (id := 8) [0, 1, 3, 7, 15, 7, 39, 127, 255, 511, 7, 1031, 4095, 7, 8199, 7, 32775, 122887, 253959, 516103, 7, 1048583, 4194303, 8388607, 16777215, 33554431, 67108863] [0, 0, 0, 0, 1, 0, 0, 0, 0, 1, 0, 1, 1, 0, 1, 0, 0, 0, 0, 1, 0, 1, 1, 1, 1, 0, 0] mixed (by kernel_rfl) ?_ | (apply aw_ite; exact rfl; all_goals intro h))
    | refine thn_n ?_
    | (refine hK _ _ _ ?_; clear hK K)
    | refine thn_r ?_
    | refine inb_n ?_
    | refine inb_r ?_)); all_goals (repeat (clear hK K)))
        all_goals first
          | (refine fin_r (fin_b rfl ?_)
             refine (bkB_false c2 ?_).symm
             simp_all [goodL]; done)
          | (refine fin_r (fin_b rfl ?_)
             refine (bkB_false c2 ?_).symm
             simp only [goodL, hD, ← hso]
             simp_all; done)
          | (refine ⟨i + 1, id, ⟨c2, fun j hj => ?_⟩, by omega, ⟨by (repeat (refine ⟨by first | exact lk_i rfl rfl | exact lk_i rfl (by (try dsimp only); first | rfl | omega | (rw [IntWalk.i64_in _ (by omega)]; first | rfl | omega | (push_cast; omega)) | (simp; done) | (simp; omega)) | exact lk_d rfl rfl | exact lk_r rfl rfl rfl, ?_⟩)); exact trivial, by (repeat (refine ⟨by first | exact ⟨rfl, rfl, rfl⟩, ?_⟩)); exact trivial, by rfl, by exact pin_0⟩⟩
             by_cases hjq : j < i
             · exact hg j hjq
             · have : j = i := by omega
               subst this
               simp only [goodL, hD, ← hso]
               simp_all)
      · have hw2 : IntKind.i64.wrap ((i : Int) - 1) = (i : Int) - 1 := IntWalk.i64_in _ (by omega)
        have hrow2 : (ls.map lnL)[(IntKind.i64.wrap ((i : Int) - 1)).toNat]? = some (lnL ls[i - 1]) := by
          rw [hw2, show ((i : Int) - 1).toNat = i - 1 by omega]; simp [show i - 1 < ls.length by omega]
        rw [lnL_eq ls[i - 1]] at hrow2
        have hP : ls.getD (i - 1) lnz = ls[i - 1] := by simp [List.getD, show i - 1 < ls.length by omega]
        have b5 : decide ((0 : Int) < (i : Int)) = true := by simp; omega
        have hol := or_lex ls[i - 1] ls[i]
        ((repeat' (first
    | (show SQ _ _ _ _ _ _ _ _; first | apply sq_nil | (apply q_move; exact rfl; exact rfl) | (apply q_assign; exact rfl; exact rfl) | (apply q_pick_t; exact rfl; exact rfl; exact rfl; exact (by first | assumption | exact rfl)) | (apply q_pick_f; exact rfl; exact rfl; exact rfl; exact (by first | assumption | exact rfl)) | (apply q_fieldAddr; exact rfl; exact rfl; exact (ty rfl); exact rfl; exact rfl; exact rfl; exact rfl) | (apply q_not; exact rfl; exact rfl) | (apply q_add; exact rfl; exact rfl; exact rfl) | (apply q_sub; exact rfl; exact rfl; exact rfl) | (apply q_lss; exact rfl; exact rfl; exact rfl) | (apply q_ixd; exact rfl; exact rfl; exact rfl; exact (ty rfl); exact rfl; exact (by first | omega | (simp; done) | (simp; omega)); exact (by first | omega | (simp; done) | (simp; omega)); exact (by first | rfl | assumption)) | (apply q_ld1p; exact rfl; exact rfl; exact (ty rfl); exact rfl; exact rfl; exact (by first | rfl | assumption | ((try simp only [Nat.zero_add]); refine List.getElem?_set_self ?_; (try simp only [List.length_set]); assumption)); exact rfl) | (apply q_g; exact rfl; exact rfl; exact rfl; exact (by assumption)) | (apply q_s; exact rfl; exact rfl; exact rfl; exact (by assumption); exact rfl) | (apply q_s; exact rfl; exact rfl; exact rfl; exact rfl; exact rfl))
    | (show SQ _ _ _ _ _ _ _ _; (first | (apply q_ldad; exact rfl; exact rfl; exact (ty rfl); exact rfl; exact rfl) | (apply q_alloc; exact rfl; exact (ty rfl); exact rfl; exact rfl) | (apply q_store; exact rfl; exact rfl; exact (ty rfl); exact rfl; exact (by first | rfl | assumption | ((try simp only [Nat.zero_add]); refine List.getElem?_set_self ?_; (try simp only [List.length_set]); assumption)); exact rfl; exact rfl; exact rfl) | (apply q_callU; exact rfl; exact rfl; exact rfl; exact FzL.of rfl; exact within_ro _ _ _ _)); (try simp only [put, rowsOf, plR, List.all_cons, selE, ovr, setH, del, cellsA, splice, isV, List.nil_append, List.cons_append, List.map_cons, List.map_nil, List.length_cons, List.length_nil, List.set_cons_zero, List.set_cons_succ, List.take_succ_cons, List.take_zero, List.take_nil, List.drop_succ_cons, List.drop_zero, List.drop_nil, List.append_nil, List.all_cons, List.all_nil, Bool.and_true, Bool.true_and, Bool.and_false, Bool.false_and, Nat.reduceAdd, Nat.zero_add, Nat.add_zero, Nat.reduceEqDiff, if_true, if_false, reduceIte]))
    | (show SQ _ _ _ _ _ _ _ _; apply q_gs; exact rfl; exact rfl; exact rfl; exact rfl; all_goals intro h)
    | (show DE _ _ _ _ _ _ _ _ _ _ _ _; first | (apply e_move; exact rfl; exact rfl; exact rfl) | (apply e_pick_t; exact rfl; exact rfl; exact rfl; exact (by first | assumption | exact rfl); exact rfl) | (apply e_fieldAddr; exact rfl; exact rfl; exact (ty rfl); exact rfl; exact rfl; exact rfl; exact rfl; exact rfl) | (apply e_sub; exact rfl; exact rfl; exact rfl; exact rfl) | (apply e_gtr; exact rfl; exact rfl; exact rfl; exact rfl) | (apply e_geq; exact rfl; exact rfl; exact rfl; exact rfl) | (apply e_ixd; exact rfl; exact rfl; exact rfl; exact (ty rfl); exact rfl; exact (by first | omega | (simp; done) | (simp; omega)); exact (by first | omega | (simp; done) | (simp; omega)); exact (by first | rfl | assumption); exact rfl) | (apply e_ld1d; exact rfl; exact rfl; exact (ty rfl); exact rfl; exact rfl; exact rfl) | (apply e_ld1p; exact rfl; exact rfl; exact (ty rfl); exact rfl; exact rfl; exact (by first | rfl | assumption | ((try simp only [Nat.zero_add]); refine List.getElem?_set_self ?_; (try simp only [List.length_set]); assumption)); exact rfl; exact rfl) | (apply e_g; exact rfl; exact rfl; exact rfl; exact (by assumption)))
    | (show DE _ _ _ _ _ _ _ _ _ _ _ _; (first | (apply dr_nil; exact trivial) | (apply e_buildn; exact rfl; exact (ty rfl); exact rfl; exact rfl; exact rfl; exact rfl; exact rfl; exact rfl; exact rfl; exact rfl) | (apply e_callU; exact rfl; exact rfl; exact rfl; exact FzL.of rfl; exact Compare_ro _ _ _; exact rfl) | (apply e_callU; exact rfl; exact rfl; exact rfl; exact FzL.of rfl; exact Or_ro _ _ _; exact rfl)); (try simp only [put, rowsOf, plR, List.all_cons, selE, ovr, setH, del, cellsA, splice, isV, List.nil_append, List.cons_append, List.map_cons, List.map_nil, List.length_cons, List.length_nil, List.set_cons_zero, List.set_cons_succ, List.take_succ_cons, List.take_zero, List.take_nil, List.drop_succ_cons, List.drop_zero, List.drop_nil, List.append_nil, List.all_cons, List.all_nil, Bool.and_true, Bool.true_and, Bool.and_false, Bool.false_and, Nat.reduceAdd, Nat.zero_add, Nat.add_zero, Nat.reduceEqDiff, if_true, if_false, reduceIte]))
    | (show AW _ _ _ _ _ _ _ _; first | refine aw_region ?_ | (refine aw_seqk ?_; intro K hK) | refine aw_block ?_ | (apply aw_cond_t; exact rfl; exact rfl) | (apply aw_cond_t; exact rfl; exact (by assumption)) | refine aw_ret ?_ | refine aw_skip ?_ | refine aw_drawE (id := 8) [0, 1, 3, 7, 15, 7, 39, 127, 255, 511, 7, 1031, 4095, 7, 8199, 7, 32775, 122887, 253959, 516103, 7, 1048583, 4194303, 8388607, 16777215, 33554431, 67108863] [0, 0, 0, 0, 1, 0, 0, 0, 0, 1, 0, 1, 1, 0, 1, 0, 0, 0, 0, 1, 0, 1, 1, 1, 1, 0, 0] mixed (by kernel_rfl) ?_ | (apply aw_ite; exact rfl; all_goals intro h))
    | refine thn_n ?_
    | (refine hK _ _ _ ?_; clear hK K)
    | refine thn_r ?_
    | refine inb_n ?_
    | refine inb_r ?_)); all_goals (repeat (clear hK K)))
        all_goals first
          | (refine fin_r (fin_b rfl ?_)
             refine (bkB_false c2 ?_).symm
             simp only [goodL, hD, hP, ← hso]
             clear hso
             simp_all; done)
          | (refine ⟨i + 1, id, ⟨c2, fun j hj => ?_⟩, by omega, ⟨by (repeat (refine ⟨by first | exact lk_i rfl rfl | exact lk_i rfl (by (try dsimp only); first | rfl | omega | (rw [IntWalk.i64_in _ (by omega)]; first | rfl | omega | (push_cast; omega)) | (simp; done) | (simp; omega)) | exact lk_d rfl rfl | exact lk_r rfl rfl rfl, ?_⟩)); exact trivial, by (repeat (refine ⟨by first | exact ⟨rfl, rfl, rfl⟩, ?_⟩)); exact trivial, by rfl, by exact pin_0⟩⟩
             by_cases hjq : j < i
             · exact hg j hjq
             · have : j = i := by omega
               subst this
               simp only [goodL, hD, hP, ← hso]
               clear hso
               simp_all)
    · have b2 : decide ((i : Int) < (ls.length : Int)) = false := by simpa using c2
      ((repeat' (first
    | (show SQ _ _ _ _ _ _ _ _; first | apply sq_nil | (apply q_assign; exact rfl; exact rfl) | (apply q_lss; exact rfl; exact rfl; exact rfl))
    | (show AW _ _ _ _ _ _ _ _; first | refine aw_region ?_ | (refine aw_seqk ?_; intro K hK) | (apply aw_cond_f; exact rfl; exact (by assumption)) | refine aw_ret ?_ | refine aw_exit ?_)
    | refine thn_n ?_
    | (refine hK _ _ _ ?_; clear hK K)
    | refine thn_e ?_
    | refine inb_same ?_
    | (clear hK K; refine hK _ _ _ ?_; clear hK K))); all_goals (repeat (clear hK K)))
      all_goals refine fin_r (fin_b rfl ?_)
      have : i = ls.length := by omega
      subst this
      rw [bkB, allR_true hg, c0]
      simp [c1]
  · have c0 : (inB n 1 12 && decide (ls.length ≤ 32)) = false := by simpa using c0
    have e0 : bkB n ls = false := by rw [bkB, c0]; rfl
    rw [e0]
    by_cases c1 : inB n 1 12 = true
    · have b0 : (!inB n 1 12) = false := by rw [c1]; rfl
      have b1 : decide ((32 : Int) < ((ls.map lnL).length : Int)) = true := by simp [c1] at c0; simp; omega
      refine RO.ofv' Try.func75 Try.ntmps75 rfl (goFn_of Try.func75 rfl (by kernel_rfl)) rfl rfl ?_
      ((repeat' (first
    | (show SQ _ _ _ _ _ _ _ _; first | apply sq_nil | (apply q_move; exact rfl; exact rfl) | (apply q_assign; exact rfl; exact rfl) | (apply q_pick_f; exact rfl; exact rfl; exact rfl; exact (by first | assumption | exact rfl)) | (apply q_fieldAddr; exact rfl; exact rfl; exact (ty rfl); exact rfl; exact rfl; exact rfl; exact rfl) | (apply q_not; exact rfl; exact rfl) | (apply q_lend; exact rfl; exact rfl; exact (ty rfl); exact rfl) | (apply q_gtr; exact rfl; exact rfl; exact rfl) | (apply q_ld1p; exact rfl; exact rfl; exact (ty rfl); exact rfl; exact rfl; exact (by first | rfl | assumption | ((try simp only [Nat.zero_add]); refine List.getElem?_set_self ?_; (try simp only [List.length_set]); assumption)); exact rfl) | (apply q_g; exact rfl; exact rfl; exact rfl; exact (by assumption)))
    | (show SQ _ _ _ _ _ _ _ _; (first | (apply q_box; exact rfl; exact rfl; exact rfl) | (apply q_callU; exact rfl; exact rfl; exact rfl; exact FzL.of rfl; exact within_ro _ _ _ _)); (try simp only [put, rowsOf, plR, List.all_cons, selE, ovr, setH, del, cellsA, splice, isV, List.nil_append, List.cons_append, List.map_cons, List.map_nil, List.length_cons, List.length_nil, List.set_cons_zero, List.set_cons_succ, List.take_succ_cons, List.take_zero, List.take_nil, List.drop_succ_cons, List.drop_zero, List.drop_nil, List.append_nil, List.all_cons, List.all_nil, Bool.and_true, Bool.true_and, Bool.and_false, Bool.false_and, Nat.reduceAdd, Nat.zero_add, Nat.add_zero, Nat.reduceEqDiff, if_true, if_false, reduceIte]))
    | (show AW _ _ _ _ _ _ _ _; first | refine aw_region ?_ | (refine aw_seqk ?_; intro K hK) | (apply aw_cond_t; exact rfl; exact (by assumption)) | refine aw_ret ?_)
    | refine thn_n ?_
    | (refine hK _ _ _ ?_; clear hK K)
    | refine thn_r ?_)); all_goals (repeat (clear hK K)))
      all_goals exact fin_r (fin_b rfl rfl)
    · have b0 : (!inB n 1 12) = true := by simpa using c1
      refine RO.ofv' Try.func75 Try.ntmps75 rfl (goFn_of Try.func75 rfl (by kernel_rfl)) rfl rfl ?_
      ((repeat' (first
    | (show SQ _ _ _ _ _ _ _ _; first | apply sq_nil | (apply q_move; exact rfl; exact rfl) | (apply q_assign; exact rfl; exact rfl) | (apply q_pick_t; exact rfl; exact rfl; exact rfl; exact (by first | assumption | exact rfl)) | (apply q_fieldAddr; exact rfl; exact rfl; exact (ty rfl); exact rfl; exact rfl; exact rfl; exact rfl) | (apply q_not; exact rfl; exact rfl) | (apply q_ld1p; exact rfl; exact rfl; exact (ty rfl); exact rfl; exact rfl; exact (by first | rfl | assumption | ((try simp only [Nat.zero_add]); refine List.getElem?_set_self ?_; (try simp only [List.length_set]); assumption)); exact rfl) | (apply q_s; exact rfl; exact rfl; exact rfl; exact (by assumption); exact rfl))
    | (show SQ _ _ _ _ _ _ _ _; (first | (apply q_box; exact rfl; exact rfl; exact rfl) | (apply q_callU; exact rfl; exact rfl; exact rfl; exact FzL.of rfl; exact within_ro _ _ _ _)); (try simp only [put, rowsOf, plR, List.all_cons, selE, ovr, setH, del, cellsA, splice, isV, List.nil_append, List.cons_append, List.map_cons, List.map_nil, List.length_cons, List.length_nil, List.set_cons_zero, List.set_cons_succ, List.take_succ_cons, List.take_zero, List.take_nil, List.drop_succ_cons, List.drop_zero, List.drop_nil, List.append_nil, List.all_cons, List.all_nil, Bool.and_true, Bool.true_and, Bool.and_false, Bool.false_and, Nat.reduceAdd, Nat.zero_add, Nat.add_zero, Nat.reduceEqDiff, if_true, if_false, reduceIte]))
    | (show AW _ _ _ _ _ _ _ _; first | refine aw_region ?_ | (refine aw_seqk ?_; intro K hK) | (apply aw_cond_t; exact rfl; exact rfl) | refine aw_ret ?_)
    | refine thn_n ?_
    | (refine hK _ _ _ ?_; clear hK K)
    | refine thn_r ?_)); all_goals (repeat (clear hK K)))
      all_goals exact fin_r (fin_b rfl rfl)
end Go.Proofs.Ytglfcaioapdiaaa.Bk

namespace Go.Proofs.Ytglfcaioapdiaaa.Bk
open Go Go.RowKit Go.Proofs.Ytglfcaioapdiaaa.Aw
set_option linter.unusedSimpArgs false
set_option linter.unusedVariables false
attribute [local irreducible] AW SQ Step RO RC DE Thn InB
def ixG {α : Type} (p : α → Bool) : List α → Int
  | [] => -1
  | x :: xs => if p x then 0 else if ixG p xs < 0 then -1 else ixG p xs + 1
theorem ixG_any {α : Type} (p : α → Bool) : ∀ xs, decide (0 ≤ ixG p xs) = xs.any p
  | [] => rfl
  | x :: xs => by
    have ih := ixG_any p xs
    simp only [ixG, List.any_cons]
    by_cases h : p x
    · simp [h]
    · simp only [h, Bool.false_or, Bool.false_eq_true, if_false]
      rw [← ih]
      split
      · rename_i h2; simp; omega
      · rename_i h2; simp; omega
theorem ixG_at {α : Type} (p : α → Bool) : ∀ (pre : List α) (x : α) (r : List α), (∀ y ∈ pre, p y = false) → p x = true → ixG p (pre ++ x :: r) = pre.length
  | [], x, r, _, h => by simp [ixG, h]
  | y :: pre, x, r, h, hx => by
    have ih := ixG_at p pre x r (fun z hz => h z (List.mem_cons_of_mem _ hz)) hx
    simp only [List.cons_append, ixG, h y List.mem_cons_self, Bool.false_eq_true, if_false, ih]
    rw [if_neg (by omega)]
    simp
theorem ixG_none {α : Type} (p : α → Bool) : ∀ (xs : List α), (∀ y ∈ xs, p y = false) → ixG p xs = -1
  | [], _ => rfl
  | y :: xs, h => by simp [ixG, h y List.mem_cons_self, ixG_none p xs fun z hz => h z (List.mem_cons_of_mem _ hz)]
theorem ixG_hit {α : Type} {p : α → Bool} {xs : List α} {i : Nat} (hi : i < xs.length) (h : ∀ y ∈ xs.take i, p y = false) (hx : p xs[i] = true) : ixG p xs = i := by
  have := ixG_at p (xs.take i) xs[i] (xs.drop (i + 1)) h hx
  rw [← List.drop_eq_getElem_cons hi, List.take_append_drop] at this
  rw [this]; simp; omega
theorem takeS {α : Type} {p : α → Bool} {xs : List α} {i : Nat} (hi : i < xs.length) (h : ∀ y ∈ xs.take i, p y = false) (hx : p xs[i] = false) : ∀ y ∈ xs.take (i + 1), p y = false := by
  intro y hy
  rw [List.take_succ_eq_append_getElem hi] at hy
  rcases List.mem_append.1 hy with h1 | h1
  · exact h y h1
  · simp at h1; subst h1; exact hx
def linkP (x y : Int) (l : Ln) : Bool := (l.a == x && l.b == y) || (l.a == y && l.b == x)
theorem linkP_iff {x y : Int} {l : Ln} : linkP x y l = true ↔ (l.a = x ∧ l.b = y) ∨ (l.a = y ∧ l.b = x) := by
  simp [linkP]
theorem linkP_symm {x y : Int} {l : Ln} (h : linkP x y l = true) : linkP y x l = true := by
  rw [linkP_iff] at h ⊢; exact h.symm
set_option maxHeartbeats 4000000 in
theorem l00Has_ro (xs : List Int) (rows : List (List AV)) (n : Int) (hrows : rows = xs.map inL) (hn : xs.length ≤ 1048576) (k : Nat) : RO Try.prog 87 [.dsl 1 rows, .v (.int .i64 n)] k (.v (.bool (xs.any fun y => y == n))) [] k := by
  subst hrows
  refine RO.ofv' Try.func87 Try.ntmps87 rfl (goFn_of Try.func87 rfl (by kernel_rfl)) rfl rfl ?_
  ((repeat' (first
    | (show SQ _ _ _ _ _ _ _ _; first | apply sq_nil | (apply q_assign; exact rfl; exact rfl))
    | (show AW _ _ _ _ _ _ _ _; first | refine aw_region ?_ | (refine aw_seqk ?_; intro K hK) | refine aw_block ?_)
    | refine thn_n ?_
    | (refine hK _ _ _ ?_; clear hK K))); all_goals (repeat (clear hK K)))
  refine aw_loop (ρ := id) (ι := Nat) (fun i => ([(5, .v (.int .i64 i)), (1, .v (.int .i64 n)), (0, .dsl 1 (xs.map inL))], [], 0))
    (fun i => i ≤ xs.length ∧ ∀ y ∈ xs.take i, (y == n) = false) (fun i => xs.length - i) 0 ⟨Nat.zero_le _, by simp⟩ ⟨by (repeat (refine ⟨by first | exact lk_i rfl rfl | exact lk_d rfl rfl, ?_⟩)); exact trivial, by exact trivial, by rfl, by exact pin_0⟩ ?_
  rintro i ⟨hi, hg⟩
  by_cases c2 : i < xs.length
  · have b2 : decide ((i : Int) < ((xs.map inL).length : Int)) = true := by simpa using c2
    have hrow : (xs.map inL)[((i : Int)).toNat]? = some (inL xs[i]) := by simp [c2]
    rw [inL_eq] at hrow
    ((repeat' (first
    | (show SQ _ _ _ _ _ _ _ _; first | apply sq_nil | (apply q_move; exact rfl; exact rfl) | (apply q_assign; exact rfl; exact rfl) | (apply q_lend; exact rfl; exact rfl; exact (ty rfl); exact rfl) | (apply q_add; exact rfl; exact rfl; exact rfl) | (apply q_eql; exact rfl; exact rfl; exact rfl) | (apply q_lss; exact rfl; exact rfl; exact rfl) | (apply q_ixd; exact rfl; exact rfl; exact rfl; exact (ty rfl); exact rfl; exact (by first | omega | (simp; done) | (simp; omega)); exact (by first | omega | (simp; done) | (simp; omega)); exact (by first | rfl | assumption)) | (apply q_ld1d; exact rfl; exact rfl; exact (ty rfl); exact rfl; exact rfl))
    | (show AW _ _ _ _ _ _ _ _; first | refine aw_region ?_ | (refine aw_seqk ?_; intro K hK) | refine aw_block ?_ | (apply aw_cond_t; exact rfl; exact (by assumption)) | refine aw_ret ?_ | refine aw_skip ?_ | (apply aw_ite; exact rfl; all_goals intro h))
    | refine thn_n ?_
    | (refine hK _ _ _ ?_; clear hK K)
    | refine thn_r ?_
    | refine inb_n ?_
    | refine inb_r ?_)); all_goals (repeat (clear hK K)))
    all_goals first
      | (refine fin_r (fin_b rfl ?_)
         exact (List.any_eq_true.2 ⟨xs[i], List.getElem_mem c2, by simp_all⟩).symm)
      | (refine ⟨i + 1, id, ⟨c2, takeS c2 hg ?_⟩, by omega, ⟨by (repeat (refine ⟨by first | exact lk_i rfl rfl | exact lk_i rfl (by (try dsimp only); first | rfl | omega | (rw [IntWalk.i64_in _ (by omega)]; first | rfl | omega | (push_cast; omega)) | (simp; done) | (simp; omega)) | exact lk_d rfl rfl, ?_⟩)); exact trivial, by exact trivial, by rfl, by exact pin_0⟩⟩
         simp_all; done)
  · have b2 : decide ((i : Int) < ((xs.map inL).length : Int)) = false := by simpa using c2
    ((repeat' (first
    | (show SQ _ _ _ _ _ _ _ _; first | apply sq_nil | (apply q_move; exact rfl; exact rfl) | (apply q_assign; exact rfl; exact rfl) | (apply q_lend; exact rfl; exact rfl; exact (ty rfl); exact rfl) | (apply q_lss; exact rfl; exact rfl; exact rfl))
    | (show AW _ _ _ _ _ _ _ _; first | refine aw_region ?_ | (refine aw_seqk ?_; intro K hK) | (apply aw_cond_f; exact rfl; exact (by assumption)) | refine aw_ret ?_ | refine aw_exit ?_)
    | refine thn_n ?_
    | (refine hK _ _ _ ?_; clear hK K)
    | refine thn_e ?_
    | refine inb_same ?_
    | (clear hK K; refine hK _ _ _ ?_; clear hK K))); all_goals (repeat (clear hK K)))
    all_goals refine fin_r (fin_b rfl ?_)
    rw [List.take_of_length_le (by omega)] at hg
    exact (List.any_eq_false.2 (fun y hy => by rw [hg y hy]; simp)).symm
end Go.Proofs.Ytglfcaioapdiaaa.Bk

namespace Go.Proofs.Ytglfcaioapdiaaa.Bk
open Go Go.RowKit Go.Proofs.Ytglfcaioapdiaaa.Aw
set_option linter.unusedSimpArgs false
set_option linter.unusedVariables false
attribute [local irreducible] AW SQ Step RO RC DE Thn InB
set_option maxHeartbeats 4000000 in
theorem IndexFuncInt_ro (xs : List Int) (rows : List (List AV)) (f : FuncId) (caps : List AV) (p : Int → Bool) (hcap : idsOkL 0 caps = true) (hz : FzC caps) (hrows : rows = xs.map inL) (hf : ∀ x ∈ xs, ∀ m, RO Try.prog f ((.v (.int .i64 x)) :: caps) m (.v (.bool (p x))) [] m) (hn : xs.length ≤ 1048576) (k : Nat) :
    RO Try.prog 105 [.dsl 1 rows, .fn f caps] k (.v (.int .i64 (ixG p xs))) [] k := by
  subst hrows
  refine RO.ofv' Try.func105 Try.ntmps105 rfl (goFn_of Try.func105 rfl (by kernel_rfl)) rfl rfl ?_
  ((repeat' (first
    | (show SQ _ _ _ _ _ _ _ _; first | apply sq_nil | (apply q_move; exact rfl; exact rfl) | (apply q_assign; exact rfl; exact rfl) | (apply q_lend; exact rfl; exact rfl; exact (ty rfl); exact rfl))
    | (show AW _ _ _ _ _ _ _ _; first | refine aw_region ?_ | (refine aw_seqk ?_; intro K hK) | refine aw_block ?_)
    | refine thn_n ?_
    | (refine hK _ _ _ ?_; clear hK K))); all_goals (repeat (clear hK K)))
  refine aw_loop (ρ := id) (ι := Nat) (fun i => ([(8, .v (.int .i64 i)), (7, .v (.int .i64 xs.length)), (1, .fn f caps), (0, .dsl 1 (xs.map inL))], [], 0))
    (fun i => i ≤ xs.length ∧ ∀ y ∈ xs.take i, p y = false) (fun i => xs.length - i) 0 ⟨Nat.zero_le _, by simp⟩ ⟨⟨lk_i rfl rfl, lk_i rfl (by simp), lk_f rfl (renL_id caps) hcap, lk_d rfl rfl, trivial⟩, trivial, rfl, pin_0⟩ ?_
  rintro i ⟨hi, hp⟩
  by_cases c2 : i < xs.length
  · have b2 : decide ((i : Int) < (xs.length : Int)) = true := by simpa using c2
    have hrow : (xs.map inL)[((i : Int)).toNat]? = some (inL xs[i]) := by simp [c2]
    try rw [inL_eq] at hrow
    have hc := hf xs[i] (List.getElem_mem c2)
    by_cases c3 : p xs[i] = true
    · ((repeat' (first
    | (show SQ _ _ _ _ _ _ _ _; first | apply sq_nil | (apply q_move; exact rfl; exact rfl) | (apply q_assign; exact rfl; exact rfl) | (apply q_lss; exact rfl; exact rfl; exact rfl) | (apply q_ixd; exact rfl; exact rfl; exact rfl; exact (ty rfl); exact rfl; exact (by first | omega | (simp; done) | (simp; omega)); exact (by first | omega | (simp; done) | (simp; omega)); exact (by first | rfl | assumption)) | (apply q_ld1d; exact rfl; exact rfl; exact (ty rfl); exact rfl; exact rfl))
    | (show SQ _ _ _ _ _ _ _ _; (first | (apply q_callU; exact rfl; exact rfl; exact rfl; rotate_left; exact hc _; rotate_right; focus ((repeat' (first | exact FzL.nil | exact (by assumption : FzC _) _ | refine FzL.cons ?_ ?_ | exact Fz.of rfl | exact Fz.nil | exact Fz.emp | (apply Fz.fnC; assumption) | (apply Fz.sl2; exact rfl; exact (by first | omega | (simp; done) | (simp; omega)); first | exact rfl | exact dt_full (by first | omega | (simp; done) | (simp; omega)) | assumption) | apply Fz.agg | (apply Fz.ptrL; exact rfl; first | exact rfl | assumption) | apply Fz.fnL)); done))); (try simp only [put, rowsOf, plR, List.all_cons, selE, ovr, setH, del, cellsA, splice, isV, List.nil_append, List.cons_append, List.map_cons, List.map_nil, List.length_cons, List.length_nil, List.set_cons_zero, List.set_cons_succ, List.take_succ_cons, List.take_zero, List.take_nil, List.drop_succ_cons, List.drop_zero, List.drop_nil, List.append_nil, List.all_cons, List.all_nil, Bool.and_true, Bool.true_and, Bool.and_false, Bool.false_and, Nat.reduceAdd, Nat.zero_add, Nat.add_zero, Nat.reduceEqDiff, if_true, if_false, reduceIte]))
    | (show AW _ _ _ _ _ _ _ _; first | refine aw_region ?_ | (refine aw_seqk ?_; intro K hK) | refine aw_block ?_ | (apply aw_cond_t; exact rfl; exact (by assumption)) | refine aw_ret ?_ | refine aw_skip ?_)
    | refine thn_n ?_
    | (refine hK _ _ _ ?_; clear hK K)
    | refine thn_r ?_
    | refine inb_r ?_)); all_goals (repeat (clear hK K)))
      all_goals refine fin_r (fin_i rfl ?_)
      exact (ixG_hit c2 hp c3).symm
    · have c3 : p xs[i] = false := by simpa using c3
      ((repeat' (first
    | (show SQ _ _ _ _ _ _ _ _; first | apply sq_nil | (apply q_move; exact rfl; exact rfl) | (apply q_assign; exact rfl; exact rfl) | (apply q_add; exact rfl; exact rfl; exact rfl) | (apply q_lss; exact rfl; exact rfl; exact rfl) | (apply q_ixd; exact rfl; exact rfl; exact rfl; exact (ty rfl); exact rfl; exact (by first | omega | (simp; done) | (simp; omega)); exact (by first | omega | (simp; done) | (simp; omega)); exact (by first | rfl | assumption)) | (apply q_ld1d; exact rfl; exact rfl; exact (ty rfl); exact rfl; exact rfl))
    | (show SQ _ _ _ _ _ _ _ _; (first | (apply q_callU; exact rfl; exact rfl; exact rfl; rotate_left; exact hc _; rotate_right; focus ((repeat' (first | exact FzL.nil | exact (by assumption : FzC _) _ | refine FzL.cons ?_ ?_ | exact Fz.of rfl | exact Fz.nil | exact Fz.emp | (apply Fz.fnC; assumption) | (apply Fz.sl2; exact rfl; exact (by first | omega | (simp; done) | (simp; omega)); first | exact rfl | exact dt_full (by first | omega | (simp; done) | (simp; omega)) | assumption) | apply Fz.agg | (apply Fz.ptrL; exact rfl; first | exact rfl | assumption) | apply Fz.fnL)); done))); (try simp only [put, rowsOf, plR, List.all_cons, selE, ovr, setH, del, cellsA, splice, isV, List.nil_append, List.cons_append, List.map_cons, List.map_nil, List.length_cons, List.length_nil, List.set_cons_zero, List.set_cons_succ, List.take_succ_cons, List.take_zero, List.take_nil, List.drop_succ_cons, List.drop_zero, List.drop_nil, List.append_nil, List.all_cons, List.all_nil, Bool.and_true, Bool.true_and, Bool.and_false, Bool.false_and, Nat.reduceAdd, Nat.zero_add, Nat.add_zero, Nat.reduceEqDiff, if_true, if_false, reduceIte]))
    | (show AW _ _ _ _ _ _ _ _; first | refine aw_region ?_ | (refine aw_seqk ?_; intro K hK) | refine aw_block ?_ | (apply aw_cond_t; exact rfl; exact (by assumption)) | (apply aw_cond_f; exact rfl; exact (by assumption)) | refine aw_skip ?_)
    | refine thn_n ?_
    | (refine hK _ _ _ ?_; clear hK K)
    | refine inb_n ?_)); all_goals (repeat (clear hK K)))
      refine ⟨i + 1, id, ⟨c2, takeS c2 hp c3⟩, by omega, ⟨lk_i rfl (by rw [IntWalk.i64_in _ (by omega)]; rfl), lk_i rfl rfl, lk_f rfl (renL_id caps) hcap, lk_d rfl rfl, trivial⟩, trivial, rfl, pin_0⟩
  · have b2 : decide ((i : Int) < (xs.length : Int)) = false := by simpa using c2
    ((repeat' (first
    | (show SQ _ _ _ _ _ _ _ _; first | apply sq_nil | (apply q_assign; exact rfl; exact rfl) | (apply q_lss; exact rfl; exact rfl; exact rfl))
    | (show AW _ _ _ _ _ _ _ _; first | refine aw_region ?_ | (refine aw_seqk ?_; intro K hK) | (apply aw_cond_f; exact rfl; exact (by assumption)) | refine aw_ret ?_ | refine aw_exit ?_)
    | refine thn_n ?_
    | (refine hK _ _ _ ?_; clear hK K)
    | refine thn_e ?_
    | refine inb_same ?_
    | (clear hK K; refine hK _ _ _ ?_; clear hK K))); all_goals (repeat (clear hK K)))
    all_goals refine fin_r (fin_i rfl ?_)
    rw [List.take_of_length_le (by omega)] at hp
    exact (ixG_none p xs hp).symm
set_option maxHeartbeats 4000000 in
theorem ContainsFuncInt_ro (xs : List Int) (rows : List (List AV)) (f : FuncId) (caps : List AV) (p : Int → Bool) (hcap : idsOkL 0 caps = true) (hz : FzC caps) (hrows : rows = xs.map inL) (hf : ∀ x ∈ xs, ∀ m, RO Try.prog f (.v (.int .i64 x) :: caps) m (.v (.bool (p x))) [] m) (hn : xs.length ≤ 1048576) (k : Nat) :
    RO Try.prog 101 [.dsl 1 rows, .fn f caps] k (.v (.bool (xs.any p))) [] k := by
  refine RO.ofv' Try.func101 Try.ntmps101 rfl (goFn_of Try.func101 rfl (by kernel_rfl)) rfl rfl ?_
  ((repeat' (first
    | (show SQ _ _ _ _ _ _ _ _; first | apply sq_nil | (apply q_move; exact rfl; exact rfl) | (apply q_assign; exact rfl; exact rfl) | (apply q_geq; exact rfl; exact rfl; exact rfl))
    | (show SQ _ _ _ _ _ _ _ _; (first | (apply q_callU; exact rfl; exact rfl; exact rfl; rotate_left; exact IndexFuncInt_ro xs rows f caps p hcap hz hrows hf hn _; rotate_right; focus ((repeat' (first | exact FzL.nil | exact (by assumption : FzC _) _ | refine FzL.cons ?_ ?_ | exact Fz.of rfl | exact Fz.nil | exact Fz.emp | (apply Fz.fnC; assumption) | (apply Fz.sl2; exact rfl; exact (by first | omega | (simp; done) | (simp; omega)); first | exact rfl | exact dt_full (by first | omega | (simp; done) | (simp; omega)) | assumption) | apply Fz.agg | (apply Fz.ptrL; exact rfl; first | exact rfl | assumption) | apply Fz.fnL)); done))); (try simp only [put, rowsOf, plR, List.all_cons, selE, ovr, setH, del, cellsA, splice, isV, List.nil_append, List.cons_append, List.map_cons, List.map_nil, List.length_cons, List.length_nil, List.set_cons_zero, List.set_cons_succ, List.take_succ_cons, List.take_zero, List.take_nil, List.drop_succ_cons, List.drop_zero, List.drop_nil, List.append_nil, List.all_cons, List.all_nil, Bool.and_true, Bool.true_and, Bool.and_false, Bool.false_and, Nat.reduceAdd, Nat.zero_add, Nat.add_zero, Nat.reduceEqDiff, if_true, if_false, reduceIte]))
    | (show AW _ _ _ _ _ _ _ _; first | refine aw_region ?_ | (refine aw_seqk ?_; intro K hK) | refine aw_ret ?_)
    | refine thn_n ?_
    | (refine hK _ _ _ ?_; clear hK K))); all_goals (repeat (clear hK K)))
  all_goals refine fin_r (fin_b rfl ?_)
  exact ixG_any p xs
set_option maxHeartbeats 4000000 in
theorem awClosure_ro (x lo hi : Int) (k : Nat) : RO Try.prog 102 [.v (.int .i64 x), .dptr [.v (.int .i64 lo)], .dptr [.v (.int .i64 hi)]] k (.v (.bool (!inB x lo hi))) [] k := by
  refine RO.ofv' Try.func102 Try.ntmps102 rfl (goFn_of Try.func102 rfl (by kernel_rfl)) rfl rfl ?_
  ((repeat' (first
    | (show SQ _ _ _ _ _ _ _ _; first | apply sq_nil | (apply q_move; exact rfl; exact rfl) | (apply q_assign; exact rfl; exact rfl) | (apply q_not; exact rfl; exact rfl) | (apply q_ld1d; exact rfl; exact rfl; exact (ty rfl); exact rfl; exact rfl))
    | (show SQ _ _ _ _ _ _ _ _; (first | (apply q_callU; exact rfl; exact rfl; exact rfl; exact FzL.of rfl; exact within_ro _ _ _ _)); (try simp only [put, rowsOf, plR, List.all_cons, selE, ovr, setH, del, cellsA, splice, isV, List.nil_append, List.cons_append, List.map_cons, List.map_nil, List.length_cons, List.length_nil, List.set_cons_zero, List.set_cons_succ, List.take_succ_cons, List.take_zero, List.take_nil, List.drop_succ_cons, List.drop_zero, List.drop_nil, List.append_nil, List.all_cons, List.all_nil, Bool.and_true, Bool.true_and, Bool.and_false, Bool.false_and, Nat.reduceAdd, Nat.zero_add, Nat.add_zero, Nat.reduceEqDiff, if_true, if_false, reduceIte]))
    | (show AW _ _ _ _ _ _ _ _; first | refine aw_region ?_ | (refine aw_seqk ?_; intro K hK) | refine aw_ret ?_)
    | refine thn_n ?_
    | (refine hK _ _ _ ?_; clear hK K))); all_goals (repeat (clear hK K)))
  all_goals exact fin_r (fin_b rfl rfl)
set_option maxHeartbeats 4000000 in
theorem allWithin_ro (xs : List Int) (rows : List (List AV)) (lo hi : Int) (hrows : rows = xs.map inL) (hn : xs.length ≤ 1048576) (k : Nat) : RO Try.prog 63 [.dsl 1 rows, .v (.int .i64 lo), .v (.int .i64 hi)] k (.v (.bool (!xs.any fun x => !inB x lo hi))) [] k := by
  have hC := ContainsFuncInt_ro xs rows 102 [.dptr [.v (.int .i64 lo)], .dptr [.v (.int .i64 hi)]] (fun x => !inB x lo hi) rfl (fun H => FzL.of rfl) hrows (fun x _ m => awClosure_ro x lo hi m) hn
  refine RO.ofv' Try.func63 Try.ntmps63 rfl (goFn_of Try.func63 rfl (by kernel_rfl)) rfl rfl ?_
  ((repeat' (first
    | (show SQ _ _ _ _ _ _ _ _; first | apply sq_nil | (apply q_move; exact rfl; exact rfl) | (apply q_assign; exact rfl; exact rfl) | (apply q_not; exact rfl; exact rfl) | (apply q_mkf; exact rfl; exact rfl))
    | (show SQ _ _ _ _ _ _ _ _; (first | (apply q_box; exact rfl; exact rfl; exact rfl) | (apply q_callU; exact rfl; exact rfl; exact rfl; exact FzL.of rfl; exact hC _)); (try simp only [put, rowsOf, plR, List.all_cons, selE, ovr, setH, del, cellsA, splice, isV, List.nil_append, List.cons_append, List.map_cons, List.map_nil, List.length_cons, List.length_nil, List.set_cons_zero, List.set_cons_succ, List.take_succ_cons, List.take_zero, List.take_nil, List.drop_succ_cons, List.drop_zero, List.drop_nil, List.append_nil, List.all_cons, List.all_nil, Bool.and_true, Bool.true_and, Bool.and_false, Bool.false_and, Nat.reduceAdd, Nat.zero_add, Nat.add_zero, Nat.reduceEqDiff, if_true, if_false, reduceIte]))
    | (show AW _ _ _ _ _ _ _ _; first | refine aw_region ?_ | (refine aw_seqk ?_; intro K hK) | refine aw_ret ?_)
    | refine thn_n ?_
    | (refine hK _ _ _ ?_; clear hK K))); all_goals (repeat (clear hK K)))
  all_goals exact fin_r (fin_b rfl rfl)
def othV (x : Int) (l : Ln) : Int := if x = l.a then l.b else if x = l.b then l.a else 0
def othB (x : Int) (l : Ln) : Bool := x == l.a || x == l.b
set_option maxHeartbeats 4000000 in
theorem other_ro (x : Int) (l : Ln) (k : Nat) : RO Try.prog 92 [.agg (lnL l), .v (.int .i64 x)] k (.tup [.v (.int .i64 (othV x l)), .v (.bool (othB x l))]) [] k := by
  have hv : (x == l.a) = true → othV x l = l.b := by intro h; simp at h; simp [othV, h]
  have hv2 : (x == l.a) = false → (x == l.b) = true → othV x l = l.a := by intro h h2; simp at h h2; simp [othV, h, h2]
  have hv3 : (x == l.a) = false → (x == l.b) = false → othV x l = 0 := by intro h h2; simp at h h2; simp [othV, h, h2]
  refine RO.ofp Try.func92 Try.ntmps92 rfl (goFn_of Try.func92 rfl (by kernel_rfl)) rfl rfl rfl ?_
  unfold lnL
  ((repeat' (first
    | (show SQ _ _ _ _ _ _ _ _; first | apply sq_nil | (apply q_move; exact rfl; exact rfl) | (apply q_assign; exact rfl; exact rfl) | (apply q_fieldAddr; exact rfl; exact rfl; exact (ty rfl); exact rfl; exact rfl; exact rfl; exact rfl) | (apply q_eql; exact rfl; exact rfl; exact rfl) | (apply q_ld1p; exact rfl; exact rfl; exact (ty rfl); exact rfl; exact rfl; exact (by first | rfl | assumption | ((try simp only [Nat.zero_add]); refine List.getElem?_set_self ?_; (try simp only [List.length_set]); assumption)); exact rfl))
    | (show SQ _ _ _ _ _ _ _ _; (first | (apply q_box; exact rfl; exact rfl; exact rfl)); (try simp only [put, rowsOf, plR, List.all_cons, selE, ovr, setH, del, cellsA, splice, isV, List.nil_append, List.cons_append, List.map_cons, List.map_nil, List.length_cons, List.length_nil, List.set_cons_zero, List.set_cons_succ, List.take_succ_cons, List.take_zero, List.take_nil, List.drop_succ_cons, List.drop_zero, List.drop_nil, List.append_nil, List.all_cons, List.all_nil, Bool.and_true, Bool.true_and, Bool.and_false, Bool.false_and, Nat.reduceAdd, Nat.zero_add, Nat.add_zero, Nat.reduceEqDiff, if_true, if_false, reduceIte]))
    | (show AW _ _ _ _ _ _ _ _; first | refine aw_region ?_ | (refine aw_seqk ?_; intro K hK) | refine aw_block ?_ | refine aw_ret ?_ | refine aw_skip ?_ | (apply aw_ite; exact rfl; all_goals intro h))
    | refine thn_n ?_
    | (refine hK _ _ _ ?_; clear hK K)
    | refine thn_r ?_
    | refine inb_n ?_
    | refine inb_r ?_)); all_goals (repeat (clear hK K)))
  all_goals refine fin_r (fin_p (.r2 _ _ _ _ (.tmp _ _ rfl) (.tmp _ _ rfl)) ?_ rfl rfl rfl)
  all_goals simp_all [othB]
end Go.Proofs.Ytglfcaioapdiaaa.Bk

namespace Go.Proofs.Ytglfcaioapdiaaa.Bk
open Go Go.RowKit Go.Proofs.Ytglfcaioapdiaaa.Aw
set_option linter.unusedSimpArgs false
set_option linter.unusedVariables false
attribute [local irreducible] AW SQ Step RO RC DE Thn InB
structure Wy where
  p : List Int
  c : Int
  f : Bool
def wyL (w : Wy) : List AV := [.dsl 1 (w.p.map inL), .v (.int .i64 w.c), .v (.bool w.f)]
theorem wyL_eq (w : Wy) : wyL w = [.dsl 1 (w.p.map inL), .v (.int .i64 w.c), .v (.bool w.f)] := rfl
def wyz : Wy := ⟨[], 0, false⟩
def lessL : List Int → List Int → Bool
  | x :: xs, y :: ys => if x = y then lessL xs ys else decide (x < y)
  | _, _ => false
def better (a b : Wy) : Bool := if b.f = false then true else if a.c = b.c then (if (a.p.length : Int) = (b.p.length : Int) then lessL a.p b.p else decide ((a.p.length : Int) < (b.p.length : Int))) else decide (a.c < b.c)
set_option maxHeartbeats 4000000 in
theorem l25Less_ro (xs ys : List Int) (hx : xs.length ≤ 1048576) (hy : ys.length ≤ 1048576) (k : Nat) : RO Try.prog 117 [.dsl 1 (xs.map inL), .dsl 1 (ys.map inL)] k (.v (.bool (lessL xs ys))) [] k := by
  refine RO.ofv' Try.func117 Try.ntmps117 rfl (goFn_of Try.func117 rfl (by kernel_rfl)) rfl rfl ?_
  ((repeat' (first
    | (show SQ _ _ _ _ _ _ _ _; first | apply sq_nil | (apply q_assign; exact rfl; exact rfl))
    | (show AW _ _ _ _ _ _ _ _; first | refine aw_region ?_ | (refine aw_seqk ?_; intro K hK) | refine aw_block ?_)
    | refine thn_n ?_
    | (refine hK _ _ _ ?_; clear hK K))); all_goals (repeat (clear hK K)))
  refine aw_loop (ρ := id) (ι := Nat) (fun i => ([(5, .v (.int .i64 i)), (1, .dsl 1 (ys.map inL)), (0, .dsl 1 (xs.map inL))], [], 0))
    (fun i => i ≤ xs.length ∧ i ≤ ys.length ∧ lessL (xs.drop i) (ys.drop i) = lessL xs ys) (fun i => xs.length - i) 0 ⟨Nat.zero_le _, Nat.zero_le _, rfl⟩ ⟨by (repeat (refine ⟨by first | exact lk_i rfl rfl | exact lk_d rfl rfl, ?_⟩)); exact trivial, by exact trivial, by rfl, by exact pin_0⟩ ?_
  rintro i ⟨hi, hj, he⟩
  by_cases c1 : i < xs.length
  · have b1 : decide ((i : Int) < ((xs.map inL).length : Int)) = true := by simpa using c1
    by_cases c2 : i < ys.length
    · have b2 : decide ((i : Int) < ((ys.map inL).length : Int)) = true := by simpa using c2
      have hr1 : (xs.map inL)[((i : Int)).toNat]? = some (inL xs[i]) := by simp [c1]
      have hr2 : (ys.map inL)[((i : Int)).toNat]? = some (inL ys[i]) := by simp [c2]
      rw [inL_eq] at hr1 hr2
      rw [List.drop_eq_getElem_cons c1, List.drop_eq_getElem_cons c2, lessL] at he
      generalize xs[i] = x at *
      generalize ys[i] = y at *
      ((repeat' (first
    | (show SQ _ _ _ _ _ _ _ _; first | apply sq_nil | (apply q_move; exact rfl; exact rfl) | (apply q_assign; exact rfl; exact rfl) | (apply q_pick_t; exact rfl; exact rfl; exact rfl; exact (by first | assumption | exact rfl)) | (apply q_lend; exact rfl; exact rfl; exact (ty rfl); exact rfl) | (apply q_add; exact rfl; exact rfl; exact rfl) | (apply q_lss; exact rfl; exact rfl; exact rfl) | (apply q_g; exact rfl; exact rfl; exact rfl; exact (by assumption)))
    | (show DE _ _ _ _ _ _ _ _ _ _ _ _; first | (apply e_move; exact rfl; exact rfl; exact rfl) | (apply e_assign; exact rfl; exact rfl; exact rfl) | (apply e_neq; exact rfl; exact rfl; exact rfl; exact rfl) | (apply e_lss; exact rfl; exact rfl; exact rfl; exact rfl) | (apply e_ixd; exact rfl; exact rfl; exact rfl; exact (ty rfl); exact rfl; exact (by first | omega | (simp; done) | (simp; omega)); exact (by first | omega | (simp; done) | (simp; omega)); exact (by first | rfl | assumption); exact rfl) | (apply e_ld1d; exact rfl; exact rfl; exact (ty rfl); exact rfl; exact rfl; exact rfl))
    | (show DE _ _ _ _ _ _ _ _ _ _ _ _; (first | (apply dr_nil; exact trivial)); (try simp only [put, rowsOf, plR, List.all_cons, selE, ovr, setH, del, cellsA, splice, isV, List.nil_append, List.cons_append, List.map_cons, List.map_nil, List.length_cons, List.length_nil, List.set_cons_zero, List.set_cons_succ, List.take_succ_cons, List.take_zero, List.take_nil, List.drop_succ_cons, List.drop_zero, List.drop_nil, List.append_nil, List.all_cons, List.all_nil, Bool.and_true, Bool.true_and, Bool.and_false, Bool.false_and, Nat.reduceAdd, Nat.zero_add, Nat.add_zero, Nat.reduceEqDiff, if_true, if_false, reduceIte]))
    | (show AW _ _ _ _ _ _ _ _; first | refine aw_region ?_ | (refine aw_seqk ?_; intro K hK) | refine aw_block ?_ | (apply aw_cond_t; exact rfl; exact (by assumption)) | refine aw_ret ?_ | refine aw_skip ?_ | refine aw_drawE (id := 4) [0, 0, 3, 7, 0, 0, 48, 112, 255] [0, 0, 0, 1, 0, 0, 0, 1, 0] mixed (by kernel_rfl) ?_ | refine aw_drawE (id := 5) [0, 0, 3, 7, 0, 0, 48, 112, 255, 511] [0, 0, 0, 1, 0, 0, 0, 1, 0, 0] mixed (by kernel_rfl) ?_ | (apply aw_ite; exact rfl; all_goals intro h))
    | refine thn_n ?_
    | (refine hK _ _ _ ?_; clear hK K)
    | refine thn_r ?_
    | refine inb_n ?_
    | refine inb_r ?_)); all_goals (repeat (clear hK K)))
      all_goals first
        | (refine fin_r (fin_b rfl ?_); rw [← he]; simp_all; done)
        | (refine ⟨i + 1, id, ⟨c1, c2, ?_⟩, by omega, ⟨by (repeat (refine ⟨by first | exact lk_i rfl (by (try dsimp only); first | rfl | omega | (rw [IntWalk.i64_in _ (by omega)]; first | rfl | omega | (push_cast; omega)) | (simp; done) | (simp; omega)) | exact lk_d rfl rfl, ?_⟩)); exact trivial, by exact trivial, by rfl, by exact pin_0⟩⟩; simp_all)
    · have b2 : decide ((i : Int) < ((ys.map inL).length : Int)) = false := by simpa using c2
      ((repeat' (first
    | (show SQ _ _ _ _ _ _ _ _; first | apply sq_nil | (apply q_move; exact rfl; exact rfl) | (apply q_assign; exact rfl; exact rfl) | (apply q_pick_t; exact rfl; exact rfl; exact rfl; exact (by first | assumption | exact rfl)) | (apply q_lend; exact rfl; exact rfl; exact (ty rfl); exact rfl) | (apply q_lss; exact rfl; exact rfl; exact rfl) | (apply q_g; exact rfl; exact rfl; exact rfl; exact (by assumption)))
    | (show AW _ _ _ _ _ _ _ _; first | refine aw_region ?_ | (refine aw_seqk ?_; intro K hK) | (apply aw_cond_f; exact rfl; exact (by assumption)) | refine aw_ret ?_ | refine aw_exit ?_)
    | refine thn_n ?_
    | (refine hK _ _ _ ?_; clear hK K)
    | refine thn_e ?_
    | refine inb_same ?_
    | (clear hK K; refine hK _ _ _ ?_; clear hK K))); all_goals (repeat (clear hK K)))
      all_goals refine fin_r (fin_b rfl ?_)
      have hd : ys.drop i = [] := List.drop_eq_nil_of_le (by omega)
      rw [← he, hd]
      cases xs.drop i <;> rfl
  · have b1 : decide ((i : Int) < ((xs.map inL).length : Int)) = false := by simpa using c1
    ((repeat' (first
    | (show SQ _ _ _ _ _ _ _ _; first | apply sq_nil | (apply q_move; exact rfl; exact rfl) | (apply q_assign; exact rfl; exact rfl) | (apply q_pick_f; exact rfl; exact rfl; exact rfl; exact (by first | assumption | exact rfl)) | (apply q_lend; exact rfl; exact rfl; exact (ty rfl); exact rfl) | (apply q_lss; exact rfl; exact rfl; exact rfl) | (apply q_s; exact rfl; exact rfl; exact rfl; exact (by assumption); exact rfl))
    | (show AW _ _ _ _ _ _ _ _; first | refine aw_region ?_ | (refine aw_seqk ?_; intro K hK) | (apply aw_cond_f; exact rfl; exact rfl) | refine aw_ret ?_ | refine aw_exit ?_)
    | refine thn_n ?_
    | (refine hK _ _ _ ?_; clear hK K)
    | refine thn_e ?_
    | refine inb_same ?_
    | (clear hK K; refine hK _ _ _ ?_; clear hK K))); all_goals (repeat (clear hK K)))
    all_goals refine fin_r (fin_b rfl ?_)
    have hd : xs.drop i = [] := List.drop_eq_nil_of_le (by omega)
    rw [← he, hd]
    rfl
set_option maxHeartbeats 4000000 in
theorem l25Better_ro (a b : Wy) (hx : a.p.length ≤ 1048576) (hy : b.p.length ≤ 1048576) (k : Nat) : RO Try.prog 89 [.dptr (wyL a), .dptr (wyL b)] k (.v (.bool (better a b))) [] k := by
  have hc := l25Less_ro a.p b.p hx hy
  have h1 : (a.p.map inL).length = a.p.length := List.length_map _
  have h2 : (b.p.map inL).length = b.p.length := List.length_map _
  refine RO.ofv' Try.func89 Try.ntmps89 rfl (goFn_of Try.func89 rfl (by kernel_rfl)) rfl rfl ?_
  unfold wyL
  ((repeat' (first
    | (show SQ _ _ _ _ _ _ _ _; first | apply sq_nil | (apply q_move; exact rfl; exact rfl) | (apply q_assign; exact rfl; exact rfl) | (apply q_fieldAddr; exact rfl; exact rfl; exact (ty rfl); exact rfl; exact rfl; exact rfl; exact rfl) | (apply q_nilc; exact rfl; exact rfl; exact rfl) | (apply q_not; exact rfl; exact rfl) | (apply q_ld1d; exact rfl; exact rfl; exact (ty rfl); exact rfl; exact rfl))
    | (show DE _ _ _ _ _ _ _ _ _ _ _ _; first | (apply e_move; exact rfl; exact rfl; exact rfl) | (apply e_assign; exact rfl; exact rfl; exact rfl) | (apply e_fieldAddr; exact rfl; exact rfl; exact (ty rfl); exact rfl; exact rfl; exact rfl; exact rfl; exact rfl) | (apply e_nilc; exact rfl; exact rfl; exact rfl; exact rfl) | (apply e_lend; exact rfl; exact rfl; exact (ty rfl); exact rfl; exact rfl) | (apply e_neq; exact rfl; exact rfl; exact rfl; exact rfl) | (apply e_lss; exact rfl; exact rfl; exact rfl; exact rfl) | (apply e_ld1d; exact rfl; exact rfl; exact (ty rfl); exact rfl; exact rfl; exact rfl))
    | (show DE _ _ _ _ _ _ _ _ _ _ _ _; (first | (apply dr_nil; exact trivial) | (apply e_callU; exact rfl; exact rfl; exact rfl; exact FzL.of rfl; exact hc _; exact rfl)); (try simp only [put, rowsOf, plR, List.all_cons, selE, ovr, setH, del, cellsA, splice, isV, List.nil_append, List.cons_append, List.map_cons, List.map_nil, List.length_cons, List.length_nil, List.set_cons_zero, List.set_cons_succ, List.take_succ_cons, List.take_zero, List.take_nil, List.drop_succ_cons, List.drop_zero, List.drop_nil, List.append_nil, List.all_cons, List.all_nil, Bool.and_true, Bool.true_and, Bool.and_false, Bool.false_and, Nat.reduceAdd, Nat.zero_add, Nat.add_zero, Nat.reduceEqDiff, if_true, if_false, reduceIte]))
    | (show AW _ _ _ _ _ _ _ _; first | refine aw_region ?_ | (refine aw_seqk ?_; intro K hK) | refine aw_ret ?_ | refine aw_skip ?_ | refine aw_drawE (id := 3) [0, 1, 3, 7, 0, 16, 48, 112, 255] [0, 0, 0, 1, 0, 0, 0, 1, 0] mixed (by kernel_rfl) ?_ | refine aw_drawE (id := 4) [0, 1, 3, 7, 0, 16, 48, 112, 255, 511] [0, 0, 0, 1, 0, 0, 0, 1, 0, 0] mixed (by kernel_rfl) ?_ | refine aw_drawE (id := 5) [0, 1, 3, 7, 15, 0, 32, 96, 224, 480, 1023] [0, 0, 0, 1, 0, 0, 0, 0, 1, 0, 0] mixed (by kernel_rfl) ?_ | refine aw_drawE (id := 6) [0, 1, 3, 7, 15, 0, 32, 96, 224, 480, 1023, 2047] [0, 0, 0, 1, 0, 0, 0, 0, 1, 0, 0, 0] mixed (by kernel_rfl) ?_ | refine aw_drawE (id := 7) [0, 1, 3, 7, 0, 16, 48, 112, 255, 511] [0, 0, 0, 1, 0, 0, 0, 1, 1, 0] mixed (by kernel_rfl) ?_ | (apply aw_ite; exact rfl; all_goals intro h))
    | refine thn_n ?_
    | (refine hK _ _ _ ?_; clear hK K)
    | refine thn_r ?_)); all_goals (repeat (clear hK K)))
  all_goals refine fin_r (fin_b rfl ?_)
  all_goals simp only [h1, h2] at *
  all_goals (unfold better; simp_all)
set_option maxHeartbeats 4000000 in
theorem l00Own_ro (xs : List Int) (hx : xs.length ≤ 1048576) (k : Nat) : RO Try.prog 88 [.dsl 1 (xs.map inL)] k (.sl k 0 xs.length) [(k, ⟨2, 1, true, xs.map inL⟩)] (k + 1) := by
  refine RO.ofm (.sl 0 0 xs.length) ([(0, ⟨2, 1, true, xs.map inL⟩)]) 1 Try.func88 Try.ntmps88 rfl (goFn_of Try.func88 rfl (by kernel_rfl)) rfl rfl (by simp [renA, renL]) (by simp [shH, renB]) rfl ?_
  have h1 : (xs.map inL).length = xs.length := List.length_map _
  have hp : ((xs.map inL).all fun r => r.all isV) = true := by simp [inL, isV]
  ((repeat' (first
    | (show SQ _ _ _ _ _ _ _ _; first | apply sq_nil | (apply q_move; exact rfl; exact rfl) | (apply q_assign; exact rfl; exact rfl))
    | (show SQ _ _ _ _ _ _ _ _; (first | (apply q_build0; exact rfl; exact (ty rfl); exact rfl) | (apply q_apo_d; exact rfl; exact rfl; exact rfl; exact (ty rfl); exact rfl; exact rfl; exact (by first | omega | (simp; done) | (simp; omega)); exact (by first | exact List.take_of_length_le (by first | omega | (simp; done) | (simp; omega)) | rfl); exact (ty rfl); exact rfl; exact rfl; exact (by first | omega | (simp; done) | (simp; omega)); exact (by first | omega | (simp; done) | (simp; omega)); exact (by first | assumption | exact rfl))); (try simp only [put, rowsOf, plR, List.all_cons, selE, ovr, setH, del, cellsA, splice, isV, List.nil_append, List.cons_append, List.map_cons, List.map_nil, List.length_cons, List.length_nil, List.set_cons_zero, List.set_cons_succ, List.take_succ_cons, List.take_zero, List.take_nil, List.drop_succ_cons, List.drop_zero, List.drop_nil, List.append_nil, List.all_cons, List.all_nil, Bool.and_true, Bool.true_and, Bool.and_false, Bool.false_and, Nat.reduceAdd, Nat.zero_add, Nat.add_zero, Nat.reduceEqDiff, if_true, if_false, reduceIte]))
    | (show AW _ _ _ _ _ _ _ _; first | refine aw_region ?_ | (refine aw_seqk ?_; intro K hK) | refine aw_ret ?_)
    | refine thn_n ?_
    | (refine hK _ _ _ ?_; clear hK K))); all_goals (repeat (clear hK K)))
  all_goals exact fin_r (fin_m rfl rfl _ _ h1 rfl)
end Go.Proofs.Ytglfcaioapdiaaa.Bk

namespace Go.Proofs.Ytglfcaioapdiaaa.Bk
open Go Go.RowKit Go.Proofs.Ytglfcaioapdiaaa.Aw
set_option linter.unusedSimpArgs false
set_option linter.unusedVariables false
attribute [local irreducible] AW SQ Step RO RC DE Thn InB
theorem pigeon : ∀ (m : Nat) (l : List Int), l.Nodup → (∀ x ∈ l, 0 ≤ x ∧ x < (m : Int)) → l.length ≤ m
  | 0, [], _, _ => Nat.le_refl _
  | 0, x :: l, _, h => by have := h x List.mem_cons_self; omega
  | m + 1, l, hd, h => by
    have ih := pigeon m (l.erase (m : Int)) (hd.erase _) (fun x hx => by
      have h1 := (hd.mem_erase_iff).1 hx
      have h2 := h x h1.2
      have h3 := h1.1
      refine ⟨h2.1, ?_⟩
      have := h2.2
      omega)
    have := List.length_erase (a := (m : Int)) (l := l)
    split at this <;> omega
def GoodN (n : Int) (nodes : List Int) : Prop := nodes.Nodup ∧ ∀ x ∈ nodes, 0 ≤ x ∧ x < n
theorem GoodN.le {n : Int} {nodes : List Int} (h0 : 0 ≤ n) (h : GoodN n nodes) : nodes.length ≤ n.toNat :=
  pigeon _ _ h.1 fun x hx => by have := h.2 x hx; omega
end Go.Proofs.Ytglfcaioapdiaaa.Bk

namespace Go.Proofs.Ytglfcaioapdiaaa.Bk
open Go Go.RowKit Go.Proofs.Ytglfcaioapdiaaa.Aw
set_option linter.unusedSimpArgs false
set_option linter.unusedVariables false
attribute [local irreducible] AW SQ Step RO RC DE Thn InB
def boL (b : Bool) : List AV := [.v (.bool b)]
theorem boL_eq (b : Bool) : boL b = [.v (.bool b)] := rfl
def part0 (i : Nat) : List Int := (List.range i).map fun x : Nat => (x : Int)
def relab (x y : Int) (p : List Int) : List Int := p.map fun v => if v = y then x else v
def partS (ls : List Ln) (may : List Bool) (p : List Int) (i : Nat) : List Int :=
  if may.getD i false then relab (p.getD (ls.getD i lnz).a.toNat 0) (p.getD (ls.getD i lnz).b.toNat 0) p else p
def parts (n : Int) (ls : List Ln) (may : List Bool) : Nat → List Int
  | 0 => part0 n.toNat
  | i + 1 => partS ls may (parts n ls may i) i
end Go.Proofs.Ytglfcaioapdiaaa.Bk

namespace Go.Proofs.Ytglfcaioapdiaaa.Aw
open Go Go.RowKit
set_option linter.unusedVariables false
set_option linter.unusedSimpArgs false
section
variable {P : Program} {H : Hp} {N n g : Nat} {T : Tp} {all : Array Oper} {l : List Oper} {G : Tp → Hp → Nat → Prop}
theorem sq_wkB (id : Nat) {ty sz : Nat} {pl : Bool} {rows : List (List AV)} (rows' : List (List AV)) (hl : look H id = some ⟨ty, sz, pl, rows⟩) (hw : WkR rows rows') (h : SQ P N all l G T ((id, ⟨ty, sz, false, rows'⟩) :: H) n) : SQ P N all l G T H n := fun Old wi K m a w Q hr ht hq =>
  h Old wi K m a w Q (hr.wkB hl hw) ht hq
end
section
variable {P : Program} {N n n' : Nat} {all : Array Oper} {l : List Oper} {G : Tp → Hp → Nat → Prop} {T : Tp} {H : Hp} {bs ks : List Nat} {i : Nat} {eff : List (Nat × List (Nat × Option Blk))} {ty : TypeId} {pos : String} {after : Array Edge} {d : Nat}
theorem e_rdi {x y : Operand} {t e : TypeId} {ti : TI} {es eb id row len : Nat} {ez : List Value} {b : Blk} {k : IntKind} {q : Int} (hd : Nat.blt d N = true) (hx : evalA T x = some (.sl id row len)) (hy : evalA T y = some (.v (.int k q))) (hty : tiOf P t = some ti) (hk0 : ti.k = .slice e es eb ez) (hl : look H id = some b) (hb : b.size = es) (h0 : 0 ≤ q) (h1 : q < len)
    (hk : ks.getD i 0 = 0) (hR : (rdP (ks.drop all.size)).contains (i, id) = true) (h : DE P N all bs ks H G (i + 1) eff l ((d, .ptr id (row + q.toNat) 0) :: T) n) : DE P N all bs ks H G i eff (⟨some d, .indexAddr t x y, ty, pos, after, none⟩ :: l) T n :=
  dr_r rfl hd hk hR hl (fun H n hl => s_index_sl rfl hty hk0 (evalR hx (fun t ht => by subst ht; simp [Oper.looksAt, Op.operands, Call.operands])) hl hb (evalR hy (fun t ht => by subst ht; simp [Oper.looksAt, Op.operands, Call.operands])) h0 h1) h
theorem e_al3 {t : TypeId} {ti : TI} (hd : Nat.blt d N = true) (hty : tiOf P t = some ti) (hz : Nat.beq ti.zero.length ti.cells = true) (h1 : ti.zero.all (·.oneCell') = true) (hk : ks.getD i 0 = 3)
    (h : DE P N all bs ks H G (i + 1) ((i, [(n, some ⟨t, ti.cells, false, [ti.zero.map .v]⟩)]) :: eff) l ((d, .ptr n 0 0) :: T) (n + 1)) : DE P N all bs ks H G i eff (⟨some d, .alloc t, ty, pos, after, none⟩ :: l) T n :=
  dr_3 rfl hd hk (s_alloc rfl hty (Nat.eq_of_beq_eq_true hz) h1) h
end
theorem WkC.same (cv : AV) : WkC cv cv := .inl rfl
theorem WkC.nil (s : Nat) : WkC (.v (.slice none 0 0)) (.dsl s []) := .inr ⟨s, rfl, rfl⟩
theorem WkR.rep3 {q : Nat} {a b c a' b' c' : AV} (h1 : WkC a a') (h2 : WkC b b') (h3 : WkC c c') : WkR (List.replicate q [a, b, c]) (List.replicate q [a', b', c']) := by
  refine WkR.rep rfl fun j cv' hj => ?_
  match j with
  | 0 => simp at hj; subst hj; exact ⟨a, rfl, h1⟩
  | 1 => simp at hj; subst hj; exact ⟨b, rfl, h2⟩
  | 2 => simp at hj; subst hj; exact ⟨c, rfl, h3⟩
  | j + 3 => simp at hj
mutual
theorem ren_noOwn (ρ : Nat → Nat) (n : Nat) : ∀ v : AV, noOwn v = true → renA ρ v = v ∧ idsOk n v = true
  | .ptr _ _ _, h => by simp [noOwn] at h
  | .sl _ _ _, h => by simp [noOwn] at h
  | .sx _ _ _ _, h => by simp [noOwn] at h
  | .v _, _ => by simp [renA, idsOk]
  | .dsl _ _, _ => by simp [renA, idsOk]
  | .dptr _, _ => by simp [renA, idsOk]
  | .om _ _, h => by simp [noOwn] at h
  | .emp, _ => by simp [renA, idsOk]
  | .agg cs, h => by simp only [noOwn] at h; have := renL_noOwn ρ n cs h; simp [renA, idsOk, this.1, this.2]
  | .tup cs, h => by simp only [noOwn] at h; have := renL_noOwn ρ n cs h; simp [renA, idsOk, this.1, this.2]
  | .fn _ cs, h => by simp only [noOwn] at h; have := renL_noOwn ρ n cs h; simp [renA, idsOk, this.1, this.2]
theorem renL_noOwn (ρ : Nat → Nat) (n : Nat) : ∀ l : List AV, noOwnL l = true → renL ρ l = l ∧ idsOkL n l = true
  | [], _ => by simp [renL, idsOkL]
  | x :: l, h => by
    simp only [noOwnL, Bool.and_eq_true] at h
    have h1 := ren_noOwn ρ n x h.1
    have h2 := renL_noOwn ρ n l h.2
    simp [renL, idsOkL, h1.1, h1.2, h2.1, h2.2]
end
theorem lknc {H : Hp} {ρ : Nat → Nat} {n i i' ty sz : Nat} {pl : Bool} {rows rows' : List (List AV)} (h : look H i' = some ⟨ty, sz, pl, rows'⟩) (hi : i' = ρ i) (hp : pl = false) (e : rows' = rows) (hc : rows.all noOwnL = true) (hn : Nat.blt i n = true) :
    look H (ρ i) = some (renB ρ ⟨ty, sz, false, rows⟩) ∧ idsOkB n ⟨ty, sz, false, rows⟩ = true ∧ Nat.blt i n = true := by
  subst e hi hp
  refine ⟨?_, ?_, hn⟩
  · rw [h]
    simp only [renB]
    congr 2
    refine (List.map_id _).symm.trans (List.map_congr_left fun r hr => ?_)
    exact (renL_noOwn ρ n r (List.all_eq_true.1 hc r hr)).1.symm
  · simp only [idsOkB]
    exact List.all_eq_true.2 fun r hr => (renL_noOwn ρ n r (List.all_eq_true.1 hc r hr)).2
end Go.Proofs.Ytglfcaioapdiaaa.Aw
