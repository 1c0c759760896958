/-
  The operations, one by one, said of the abstract state.
-/
import Derived.Test.YtglfcaioapdiaaaAwStep
import Derived.Deep.AppendLies
import Derived.WideShapes
namespace Go.Proofs.Ytglfcaioapdiaaa.Aw
open Go Go.RowKit

def memOf (H : Hp) (av : AV) (cells : List AV) : Prop :=
  av = .dptr cells ∨ ∃ id row col b r, av = .ptr id row col ∧ look H id = some b ∧ b.rows[row]? = some r ∧ cells = r.drop col

section
variable {P : Program} {Old : Nat → Prop} {wi : WI} {K : Nat → Prop} {m : Nat → Loc} {S : Nat → Prop} {H : Hp} {w : World} {N n : Nat} {T : Tp} {o : Oper}

theorem rd_at {av : AV} {x : Value} {cells : List AV} (hr : Rel Old wi K m S H w) (hv : VR K w m S av x) (hc : memOf H av cells) :
    ∃ g p, x = .pointer (some ⟨g, p, none⟩) ∧ ∀ (j : Nat) (cv : AV), cells[j]? = some cv → ∃ y, w.cell? ⟨g, p + j, none⟩ = some y ∧ y.oneCell' = true ∧ VR K w m S cv y := by
  rcases hc with rfl | ⟨id, row, col, b, r, rfl, hl, hrow, rfl⟩
  · cases hv with
    | dptr _ _ b p xs hk hx hv =>
      exact ⟨b, p, rfl, fun j cv hj => ⟨xs j, (hx j cv hj).1, (hx j cv hj).2, (hv j cv hj).mono (fun _ h => h) (fun _ _ => rfl) (fun _ h => h.elim) (fun _ h => h.elim)⟩⟩
  · cases hv with
    | ptr _ _ _ _ p hs hp =>
      refine ⟨_, p, rfl, fun j cv hj => ?_⟩
      have hb := ((hr.own id b hl).real hrow).2
      obtain ⟨cur, h1, h2, h3⟩ := hb.ex
      rw [List.getElem?_drop] at hj
      obtain ⟨y, hy, hone, hvy⟩ := (h3 row r hrow).2 (col + j) cv hj
      refine ⟨y, ?_, hone, hvy.mono (fun _ h => h) (fun _ _ => rfl) (fun _ h => h.1) (fun _ _ => rfl)⟩
      rw [cell_of_row w _ _ _ _ _ h1, hp, hb.sz, Nat.add_assoc]
      exact hy

theorem s_move {x : Operand} {av : AV} (ho : o.op = .move x ∨ o.op = .assign x) (hx : evalA T x = some av) : Step P o N T H n av H n true :=
  Step.still fun Old wi K m S a w hr ht => ⟨_, by rcases ho with ho | ho <;> simp only [execOp, ho] <;> rfl, ht.eval hx⟩

theorem s_pick {c x y : Operand} {t : Bool} {av : AV} (ho : o.op = .pick c x y) (hc : evalA T c = some (.v (.bool t))) (hx : evalA T (if t then x else y) = some av) : Step P o N T H n av H n true :=
  Step.still fun Old wi K m S a w hr ht => by
    have h1 := ht.eval hc
    have h2 := ht.eval hx
    generalize hg : a.eval c = cv at h1
    cases h1
    refine ⟨_, ?_, h2⟩
    simp only [execOp, ho, hg, asBool]
    cases t <;> rfl

theorem s_alloc {t : TypeId} {ti : TI} (ho : o.op = .alloc t) (hty : tiOf P t = some ti) (hz : ti.zero.length = ti.cells) (h1 : ti.zero.all (·.oneCell') = true) :
    Step P o N T H n (.ptr n 0 0) ((n, ⟨t, ti.cells, false, [ti.zero.map .v]⟩) :: H) (n + 1) true := by
  obtain ⟨i, d, z, hi, hd, hzz, hsz, hagg, hby, hzl, htk⟩ := tiOf_spec hty
  refine Step.new ⟨t, ti.cells, false, [ti.zero.map .v]⟩ (fun h => by cases h) fun Old wi K m S a w hr ht => ?_
  have hzs : z.cells.size = ti.cells := by rw [← hz, ← hzl]; simp
  refine ⟨.pointer (some ⟨w.heap.size, 0, none⟩), w.drawn, 1, z.cells, ?_, by simp, by simp [maxLen], by simp [hzs], ?_, ?_⟩
  · simp only [execOp, ho, Instr.alloc, Sem.run_bind, zeroValue, run_typeInfo w hi, Result.andThen, hzz, Sem.run_pure]
    rfl
  · intro r row hrow
    cases r with
    | succ r => simp at hrow
    | zero =>
      simp only [List.getElem?_cons_zero, Option.some.injEq] at hrow
      subst hrow
      refine ⟨by simp [hz], fun j cv hj => ?_⟩
      rw [List.getElem?_map] at hj
      cases hzj : ti.zero[j]? with
      | none => simp [hzj] at hj
      | some y =>
        simp only [hzj, Option.map_some, Option.some.injEq] at hj
        subst hj
        refine ⟨y, by rw [Nat.zero_mul, Nat.zero_add, ← Array.getElem?_toList, hzl]; exact hzj, ?_, .v _ y⟩
        exact List.all_eq_true.1 h1 y (List.mem_of_getElem? hzj)
  · intro m' w' hm
    have hb : (m' n).blk = w.heap.size := by rw [hm]
    rw [← hb]
    exact .ptr _ n 0 0 0 (.inr ⟨Nat.le_refl _, Nat.lt_succ_self _⟩) (by simp)

theorem s_box {t : TypeId} {x : Operand} {av : AV} (ho : o.op = .box t x) (hx : evalA T x = some av) (h1 : (cellsA av).all AV.one = true) :
    Step P o N T H n (.ptr n 0 0) ((n, ⟨t, (cellsA av).length, false, [cellsA av]⟩) :: H) (n + 1) true := by
  refine Step.new ⟨t, (cellsA av).length, false, [cellsA av]⟩ (fun h => by cases h) fun Old wi K m S a w hr ht => ?_
  have hv := ht.eval hx
  obtain ⟨hl, hc⟩ := hv.cells
  refine ⟨.pointer (some ⟨w.heap.size, 0, none⟩), w.drawn, 1, (a.eval x).cells, ?_, by simp, by simp [maxLen], by rw [Nat.one_mul, ← hl]; simp, ?_, ?_⟩
  · simp only [execOp, ho, Instr.box, Sem.run_bind, Result.andThen, Sem.run_pure]
    rfl
  · intro r row hrow
    cases r with
    | succ r => simp at hrow
    | zero =>
      simp only [List.getElem?_cons_zero, Option.some.injEq] at hrow
      subst hrow
      refine ⟨rfl, fun j cv hj => ?_⟩
      have hlt : j < (a.eval x).cells.toList.length := by rw [hl]; exact (List.getElem?_eq_some_iff.1 hj).1
      have hy := List.getElem?_eq_getElem hlt
      have hvy := hc j cv _ hj hy
      refine ⟨_, by rw [Nat.zero_mul, Nat.zero_add, ← Array.getElem?_toList]; exact hy, ?_, hvy.mono (fun _ h => h) (fun _ _ => rfl) (fun _ h => ⟨h, rfl⟩) (fun _ _ => rfl)⟩
      exact hvy.one (List.all_eq_true.1 h1 cv (List.mem_of_getElem? hj))
  · intro m' w' hm
    have hb : (m' n).blk = w.heap.size := by rw [hm]
    rw [← hb]
    exact .ptr _ n 0 0 0 (.inr ⟨Nat.le_refl _, Nat.lt_succ_self _⟩) (by simp)

theorem run_isAgg {t : TypeId} {d : TypeDesc} (w : World) (h : P.underlying t = some d) : (isAgg t).run P w = .ok (aggD d) w := by
  simp only [isAgg, Sem.run_bind, run_underlying h, Result.andThen]
  cases d <;> rfl

theorem s_load_agg {t : TypeId} {ti : TI} {x : Operand} {av : AV} {cells : List AV} (ho : o.op = .load t x) (hty : tiOf P t = some ti) (hx : evalA T x = some av) (hc : memOf H av cells)
    (ha : ti.agg = true) (hn : ti.cells ≤ cells.length) : Step P o N T H n (.agg (cells.take ti.cells)) H n true := by
  obtain ⟨i, d, z, hi, hd, hzz, hsz, hagg, hby, hzl, htk⟩ := tiOf_spec hty
  refine Step.still fun Old wi K m S a w hr ht => ?_
  obtain ⟨g, p, hp, hrd⟩ := rd_at hr (ht.eval hx) hc
  have hf : ∀ j, j < ti.cells → ∃ cv y, cells[j]? = some cv ∧ w.cell? ⟨g, p + j, none⟩ = some y ∧ VR K w m S cv y := fun j hj => by
    have hlt : j < cells.length := by omega
    obtain ⟨y, hy, _, hvy⟩ := hrd j _ (List.getElem?_eq_getElem hlt)
    exact ⟨_, y, List.getElem?_eq_getElem hlt, hy, hvy⟩
  let f : Nat → Value := fun j => (w.cell? ⟨g, p + j, none⟩).getD undef
  have hrun : (loadCells ⟨g, p, none⟩ ti.cells).run P w = .ok ((List.range ti.cells).map f).toArray w := by
    refine run_loadCells w _ ti.cells f fun j hj => ?_
    obtain ⟨cv, y, _, hy, _⟩ := hf j hj
    rw [Go.WideShapes.add_plain]
    simp only [f, hy, Option.getD_some]
  refine ⟨.agg ((List.range ti.cells).map f).toArray, ?_, ?_⟩
  · simp only [execOp, ho, hp, Instr.loadAt, Instr.sureAddr, Sem.run_bind, Sem.run_pure, Result.andThen, loadVar, run_isAgg w hd, hagg, ha, if_true, run_sizeOf w hi, Program.cellsOf, hi, Option.map_some, Option.getD_some, hsz, hrun]
  · refine .agg _ _ _ (by simp; omega) fun j cv y h1 h2 => ?_
    rw [List.getElem?_take] at h1
    split at h1
    · rename_i hj
      obtain ⟨cv', y', hc', hy', hv'⟩ := hf j hj
      rw [h1] at hc'
      simp only [Option.some.injEq] at hc'
      subst hc'
      rw [List.getElem?_map, List.getElem?_range hj] at h2
      simp only [f, hy', Option.getD_some, Option.map_some, Option.some.injEq] at h2
      subst h2
      exact hv'
    · cases h1

theorem s_load_one {t : TypeId} {ti : TI} {x : Operand} {av c : AV} {cells : List AV} (ho : o.op = .load t x) (hty : tiOf P t = some ti) (hx : evalA T x = some av) (hc : memOf H av (c :: cells))
    (ha : ti.agg = false) : Step P o N T H n c H n true := by
  obtain ⟨i, d, z, hi, hd, hzz, hsz, hagg, hby, hzl, htk⟩ := tiOf_spec hty
  refine Step.still fun Old wi K m S a w hr ht => ?_
  obtain ⟨g, p, hp, hrd⟩ := rd_at hr (ht.eval hx) hc
  obtain ⟨y, hy, _, hvy⟩ := hrd 0 c rfl
  rw [Nat.add_zero] at hy
  refine ⟨y, ?_, hvy⟩
  simp only [execOp, ho, hp, Instr.loadAt, Instr.sureAddr, Sem.run_bind, Sem.run_pure, Result.andThen, loadVar, run_isAgg w hd, hagg, ha]
  simp [load, Sem.run, hy]

end
end Go.Proofs.Ytglfcaioapdiaaa.Aw
