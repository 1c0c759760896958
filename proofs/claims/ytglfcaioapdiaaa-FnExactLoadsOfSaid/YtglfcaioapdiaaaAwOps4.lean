/-
  The operations, one by one, said of the abstract state.
-/
import Derived.Test.YtglfcaioapdiaaaAwStep
import Derived.Deep.AppendLies
import Derived.WideShapes
import Derived.Laws.Small
namespace Go.Proofs.Ytglfcaioapdiaaa.Aw
open Go Go.RowKit

def memOf (H : Hp) (av : AV) (cells : List AV) : Prop :=
  av = .dptr cells ∨ ∃ id row col b r, av = .ptr id row col ∧ look H id = some b ∧ b.rows[row]? = some r ∧ cells = r.drop col

section
variable {P : Program} {Old : Nat → Prop} {wi : WI} {K : Nat → Prop} {m : Nat → Loc} {S : Nat → Prop} {H : Hp} {w : World} {N n : Nat} {T : Tp} {o : Oper}

theorem rd_at {av : AV} {x : Value} {cells : List AV} (hr : Rel Old wi K m S H w) (hv : VR K w m S av x) (hc : memOf H av cells) :
    ∃ g p, x = .pointer (some ⟨g, p, none⟩) ∧ ∀ (j : Nat) (cv : AV), cells[j]? = some cv → ∃ y, w.cell? ⟨g, p + j, none⟩ = some y ∧ y.oneCell' = true ∧ VR K w m S cv y := by
  rcases hc with rfl | ⟨id, row, col, b, r, rfl, hl, hrow, rfl⟩
  · cases hv with
    | dptr _ _ b p xs hk hx hv =>
      exact ⟨b, p, rfl, fun j cv hj => ⟨xs j, (hx j cv hj).1, (hx j cv hj).2, (hv j cv hj).mono (fun _ h => h) (fun _ _ => rfl) (fun _ h => h.elim) (fun _ h => h.elim)⟩⟩
  · cases hv with
    | ptr _ _ _ _ p hs hp =>
      refine ⟨_, p, rfl, fun j cv hj => ?_⟩
      have hb := ((hr.own id b hl).real hrow).2
      obtain ⟨cur, h1, h2, h3⟩ := hb.ex
      rw [List.getElem?_drop] at hj
      obtain ⟨y, hy, hone, hvy⟩ := (h3 row r hrow).2 (col + j) cv hj
      refine ⟨y, ?_, hone, hvy.mono (fun _ h => h) (fun _ _ => rfl) (fun _ h => h.1) (fun _ _ => rfl)⟩
      rw [cell_of_row w _ _ _ _ _ h1, hp, hb.sz, Nat.add_assoc]
      exact hy

theorem s_move {x : Operand} {av : AV} (ho : o.op = .move x ∨ o.op = .assign x) (hx : evalA T x = some av) : Step P o N T H n av H n true :=
  Step.still fun Old wi K m S a w hr ht => ⟨_, by rcases ho with ho | ho <;> simp only [execOp, ho] <;> rfl, ht.eval hx⟩

theorem s_pick {c x y : Operand} {t : Bool} {av : AV} (ho : o.op = .pick c x y) (hc : evalA T c = some (.v (.bool t))) (hx : evalA T (if t then x else y) = some av) : Step P o N T H n av H n true :=
  Step.still fun Old wi K m S a w hr ht => by
    have h1 := ht.eval hc
    have h2 := ht.eval hx
    generalize hg : a.eval c = cv at h1
    cases h1
    refine ⟨_, ?_, h2⟩
    simp only [execOp, ho, hg, asBool]
    cases t <;> rfl

theorem s_alloc {t : TypeId} {ti : TI} (ho : o.op = .alloc t) (hty : tiOf P t = some ti) (hz : ti.zero.length = ti.cells) (h1 : ti.zero.all (·.oneCell') = true) :
    Step P o N T H n (.ptr n 0 0) ((n, ⟨t, ti.cells, false, [ti.zero.map .v]⟩) :: H) (n + 1) true := by
  obtain ⟨i, d, z, hi, hd, hzz, hsz, hagg, hby, hzl, htk⟩ := tiOf_spec hty
  refine Step.new ⟨t, ti.cells, false, [ti.zero.map .v]⟩ (fun h => by cases h) fun Old wi K m S a w hr ht => ?_
  have hzs : z.cells.size = ti.cells := by rw [← hz, ← hzl]; simp
  refine ⟨.pointer (some ⟨w.heap.size, 0, none⟩), w.drawn, 1, z.cells, ?_, by simp, by simp [maxLen], by simp [hzs], ?_, ?_⟩
  · simp only [execOp, ho, Instr.alloc, Sem.run_bind, zeroValue, run_typeInfo w hi, Result.andThen, hzz, Sem.run_pure]
    rfl
  · intro r row hrow
    cases r with
    | succ r => simp at hrow
    | zero =>
      simp only [List.getElem?_cons_zero, Option.some.injEq] at hrow
      subst hrow
      refine ⟨by simp [hz], fun j cv hj => ?_⟩
      rw [List.getElem?_map] at hj
      cases hzj : ti.zero[j]? with
      | none => simp [hzj] at hj
      | some y =>
        simp only [hzj, Option.map_some, Option.some.injEq] at hj
        subst hj
        refine ⟨y, by rw [Nat.zero_mul, Nat.zero_add, ← Array.getElem?_toList, hzl]; exact hzj, ?_, .v _ y⟩
        exact List.all_eq_true.1 h1 y (List.mem_of_getElem? hzj)
  · intro m' w' hm
    have hb : (m' n).blk = w.heap.size := by rw [hm]
    rw [← hb]
    exact .ptr _ n 0 0 0 (.inr ⟨Nat.le_refl _, Nat.lt_succ_self _⟩) (by simp)

theorem s_box {t : TypeId} {x : Operand} {av : AV} (ho : o.op = .box t x) (hx : evalA T x = some av) (h1 : (cellsA av).all AV.one = true) :
    Step P o N T H n (.ptr n 0 0) ((n, ⟨t, (cellsA av).length, false, [cellsA av]⟩) :: H) (n + 1) true := by
  refine Step.new ⟨t, (cellsA av).length, false, [cellsA av]⟩ (fun h => by cases h) fun Old wi K m S a w hr ht => ?_
  have hv := ht.eval hx
  obtain ⟨hl, hc⟩ := hv.cells
  refine ⟨.pointer (some ⟨w.heap.size, 0, none⟩), w.drawn, 1, (a.eval x).cells, ?_, by simp, by simp [maxLen], by rw [Nat.one_mul, ← hl]; simp, ?_, ?_⟩
  · simp only [execOp, ho, Instr.box, Sem.run_bind, Result.andThen, Sem.run_pure]
    rfl
  · intro r row hrow
    cases r with
    | succ r => simp at hrow
    | zero =>
      simp only [List.getElem?_cons_zero, Option.some.injEq] at hrow
      subst hrow
      refine ⟨rfl, fun j cv hj => ?_⟩
      have hlt : j < (a.eval x).cells.toList.length := by rw [hl]; exact (List.getElem?_eq_some_iff.1 hj).1
      have hy := List.getElem?_eq_getElem hlt
      have hvy := hc j cv _ hj hy
      refine ⟨_, by rw [Nat.zero_mul, Nat.zero_add, ← Array.getElem?_toList]; exact hy, ?_, hvy.mono (fun _ h => h) (fun _ _ => rfl) (fun _ h => ⟨h, rfl⟩) (fun _ _ => rfl)⟩
      exact hvy.one (List.all_eq_true.1 h1 cv (List.mem_of_getElem? hj))
  · intro m' w' hm
    have hb : (m' n).blk = w.heap.size := by rw [hm]
    rw [← hb]
    exact .ptr _ n 0 0 0 (.inr ⟨Nat.le_refl _, Nat.lt_succ_self _⟩) (by simp)

theorem run_isAgg {t : TypeId} {d : TypeDesc} (w : World) (h : P.underlying t = some d) : (isAgg t).run P w = .ok (aggD d) w := by
  simp only [isAgg, Sem.run_bind, run_underlying h, Result.andThen]
  cases d <;> rfl

theorem s_load_agg {t : TypeId} {ti : TI} {x : Operand} {av : AV} {cells : List AV} (ho : o.op = .load t x) (hty : tiOf P t = some ti) (hx : evalA T x = some av) (hc : memOf H av cells)
    (ha : ti.agg = true) (hn : ti.cells ≤ cells.length) : Step P o N T H n (.agg (cells.take ti.cells)) H n true := by
  obtain ⟨i, d, z, hi, hd, hzz, hsz, hagg, hby, hzl, htk⟩ := tiOf_spec hty
  refine Step.still fun Old wi K m S a w hr ht => ?_
  obtain ⟨g, p, hp, hrd⟩ := rd_at hr (ht.eval hx) hc
  have hf : ∀ j, j < ti.cells → ∃ cv y, cells[j]? = some cv ∧ w.cell? ⟨g, p + j, none⟩ = some y ∧ VR K w m S cv y := fun j hj => by
    have hlt : j < cells.length := by omega
    obtain ⟨y, hy, _, hvy⟩ := hrd j _ (List.getElem?_eq_getElem hlt)
    exact ⟨_, y, List.getElem?_eq_getElem hlt, hy, hvy⟩
  let f : Nat → Value := fun j => (w.cell? ⟨g, p + j, none⟩).getD undef
  have hrun : (loadCells ⟨g, p, none⟩ ti.cells).run P w = .ok ((List.range ti.cells).map f).toArray w := by
    refine run_loadCells w _ ti.cells f fun j hj => ?_
    obtain ⟨cv, y, _, hy, _⟩ := hf j hj
    rw [Go.WideShapes.add_plain]
    simp only [f, hy, Option.getD_some]
  refine ⟨.agg ((List.range ti.cells).map f).toArray, ?_, ?_⟩
  · simp only [execOp, ho, hp, Instr.loadAt, Instr.sureAddr, Sem.run_bind, Sem.run_pure, Result.andThen, loadVar, run_isAgg w hd, hagg, ha, if_true, run_sizeOf w hi, Program.cellsOf, hi, Option.map_some, Option.getD_some, hsz, hrun]
  · refine .agg _ _ _ (by simp; omega) fun j cv y h1 h2 => ?_
    rw [List.getElem?_take] at h1
    split at h1
    · rename_i hj
      obtain ⟨cv', y', hc', hy', hv'⟩ := hf j hj
      rw [h1] at hc'
      simp only [Option.some.injEq] at hc'
      subst hc'
      rw [List.getElem?_map, List.getElem?_range hj] at h2
      simp only [f, hy', Option.getD_some, Option.map_some, Option.some.injEq] at h2
      subst h2
      exact hv'
    · cases h1

theorem s_load_one {t : TypeId} {ti : TI} {x : Operand} {av c : AV} {cells : List AV} (ho : o.op = .load t x) (hty : tiOf P t = some ti) (hx : evalA T x = some av) (hc : memOf H av (c :: cells))
    (ha : ti.agg = false) : Step P o N T H n c H n true := by
  obtain ⟨i, d, z, hi, hd, hzz, hsz, hagg, hby, hzl, htk⟩ := tiOf_spec hty
  refine Step.still fun Old wi K m S a w hr ht => ?_
  obtain ⟨g, p, hp, hrd⟩ := rd_at hr (ht.eval hx) hc
  obtain ⟨y, hy, _, hvy⟩ := hrd 0 c rfl
  rw [Nat.add_zero] at hy
  refine ⟨y, ?_, hvy⟩
  simp only [execOp, ho, hp, Instr.loadAt, Instr.sureAddr, Sem.run_bind, Sem.run_pure, Result.andThen, loadVar, run_isAgg w hd, hagg, ha]
  simp [load, Sem.run, hy]

end
end Go.Proofs.Ytglfcaioapdiaaa.Aw

-- The operations, one by one, said of the abstract state: addresses, parts, arithmetic, stores.
namespace Go.Proofs.Ytglfcaioapdiaaa.Aw
open Go Go.RowKit

section
variable {P : Program} {Old : Nat → Prop} {wi : WI} {K : Nat → Prop} {m : Nat → Loc} {S : Nat → Prop} {H : Hp} {w : World} {N n : Nat} {T : Tp} {o : Oper}

def shiftA : AV → Nat → Option AV
  | .dptr cells, k => some (.dptr (cells.drop k))
  | .ptr id row col, k => some (.ptr id row (col + k))
  | _, _ => none
theorem VR.shift {av av' : AV} {x : Value} {k : Nat} (h : VR K w m S av x) (hs : shiftA av k = some av') :
    ∃ g p, x = .pointer (some ⟨g, p, none⟩) ∧ VR K w m S av' (.pointer (some ⟨g, p + k, none⟩)) := by
  cases h with
  | dptr _ cells b p xs hk hx hv =>
    simp only [shiftA, Option.some.injEq] at hs
    subst hs
    refine ⟨b, p, rfl, .dptr _ _ b (p + k) (fun j => xs (k + j)) hk (fun j cv hj => ?_) (fun j cv hj => ?_)⟩
    · rw [List.getElem?_drop] at hj
      rw [Nat.add_assoc]
      exact hx _ _ hj
    · rw [List.getElem?_drop] at hj
      exact hv _ _ hj
  | ptr _ id row col p hS hp =>
    simp only [shiftA, Option.some.injEq] at hs
    subst hs
    exact ⟨_, p, rfl, .ptr _ id row (col + k) _ hS (by omega)⟩
  | _ => simp [shiftA] at hs

theorem tk_struct {d : TypeDesc} {fs : List (Nat × Nat × Bool)} (h : tkOf P d = .struct fs) :
    ∃ fields, d = .struct fields ∧ fs = fields.toList.map (fun f => (f.offset, P.cellsOf f.type, isAggP P f.type)) ∧ fields.all (fun f => (P.underlying f.type).isSome && (P.info? f.type).isSome) = true := by
  cases d <;> simp only [tkOf] at h
  case struct fields =>
    split at h
    · rename_i ha
      injection h with h
      exact ⟨fields, rfl, h.symm, ha⟩
    · cases h
  case slice => split at h <;> (try split at h) <;> cases h
  case array => split at h <;> cases h
  all_goals cases h

theorem tk_field {fields : Array Field} {fs : List (Nat × Nat × Bool)} {f off size : Nat} {agg : Bool} (hfs : fs = fields.toList.map (fun f => (f.offset, P.cellsOf f.type, isAggP P f.type)))
    (hall : fields.all (fun f => (P.underlying f.type).isSome && (P.info? f.type).isSome) = true) (hf : fs[f]? = some (off, size, agg)) :
    ∃ fl i d, fields[f]? = some fl ∧ fl.offset = off ∧ P.info? fl.type = some i ∧ P.underlying fl.type = some d ∧ i.size = size ∧ aggD d = agg := by
  subst hfs
  rw [List.getElem?_map] at hf
  cases hfl : fields.toList[f]? with
  | none => simp [hfl] at hf
  | some fl =>
    simp only [hfl, Option.map_some, Option.some.injEq, Prod.mk.injEq] at hf
    obtain ⟨h1, h2, h3⟩ := hf
    have hm : fl ∈ fields := by rw [← Array.mem_toList_iff]; exact List.mem_of_getElem? hfl
    have := Array.all_eq_true_iff_forall_mem.1 hall fl hm
    simp only [Bool.and_eq_true, Option.isSome_iff_exists] at this
    obtain ⟨⟨d, hd⟩, i, hi⟩ := this
    refine ⟨fl, i, d, by rw [← Array.getElem?_toList]; exact hfl, h1, hi, hd, ?_, ?_⟩
    · rw [← h2, Program.cellsOf, hi]; rfl
    · rw [← h3, isAggP, hd]

theorem s_fieldAddr {t : TypeId} {ti : TI} {x : Operand} {av av' : AV} {fs : List (Nat × Nat × Bool)} {f off size : Nat} {agg : Bool} (ho : o.op = .fieldAddr t x f) (hty : tiOf P t = some ti)
    (hx : evalA T x = some av) (hk : ti.k = .struct fs) (hf : fs[f]? = some (off, size, agg)) (hs : size ≠ 0) (hsh : shiftA av off = some av') : Step P o N T H n av' H n true := by
  obtain ⟨i, d, z, hi, hd, hzz, hsz, hagg, hby, hzl, htk⟩ := tiOf_spec hty
  rw [hk] at htk
  obtain ⟨fields, rfl, hfs, hall⟩ := tk_struct htk
  obtain ⟨fl, i', d', hfl, hoff, hi', hd', hsize, _⟩ := tk_field hfs hall hf
  refine Step.still fun Old wi K m S a w hr ht => ?_
  obtain ⟨g, p, hp, hv⟩ := (ht.eval hx).shift hsh
  refine ⟨_, ?_, hv⟩
  have h0 : ¬ i'.size = 0 := by rw [hsize]; exact hs
  simp only [execOp, ho, hp, Instr.fieldAt, Sem.run_bind, run_underlying hd, Result.andThen, hfl, Instr.sureAddr, Sem.run_pure, fieldPlace, run_sizeOf w hi', Program.cellsOf, hi', Option.map_some, Option.getD_some, h0, if_false]
  rw [Go.WideShapes.add_plain, hoff]

theorem run_part {t : TypeId} {i : TypeInfo} {d : TypeDesc} (w : World) (xs : List Value) (off : Nat) (hi : P.info? t = some i) (hd : P.underlying t = some d) :
    (aggD d = true → (part t xs.toArray off).run P w = .ok (.agg ((xs.drop off).take i.size).toArray) w) ∧
    ∀ x, aggD d = false → xs[off]? = some x → (part t xs.toArray off).run P w = .ok x w := by
  constructor
  · intro ha
    simp only [part, Sem.run_bind, run_isAgg w hd, Result.andThen, ha, if_true, run_sizeOf w hi, Sem.run_pure, Program.cellsOf, hi, Option.map_some, Option.getD_some]
    congr 2
    simp [List.take_drop]
  · intro x ha hx
    simp only [part, Sem.run_bind, run_isAgg w hd, Result.andThen, ha]
    simp [hx]

theorem VR.aggOf {av : AV} {x : Value} {cs : List AV} (h : VR K w m S av x) (hc : av = .agg cs ∨ ∃ xs, av = .v (.agg xs) ∧ cs = xs.toList.map .v) :
    ∃ xs : List Value, x = .agg xs.toArray ∧ xs.length = cs.length ∧ ∀ (j : Nat) (cv : AV) (y : Value), cs[j]? = some cv → xs[j]? = some y → VR K w m S cv y := by
  rcases hc with rfl | ⟨xs, rfl, rfl⟩
  · cases h with
    | agg _ _ xs hl hv => exact ⟨xs, rfl, hl, hv⟩
  · cases h
    refine ⟨xs.toList, by simp, by simp, fun j cv y h1 h2 => ?_⟩
    rw [List.getElem?_map, h2] at h1
    simp only [Option.map_some, Option.some.injEq] at h1
    subst h1
    exact .v _ y

theorem s_field {t : TypeId} {ti : TI} {x : Operand} {av av' : AV} {cs : List AV} {fs : List (Nat × Nat × Bool)} {f off size : Nat} {agg : Bool} (ho : o.op = .field t x f) (hty : tiOf P t = some ti)
    (hx : evalA T x = some av) (hc : av = .agg cs ∨ ∃ xs, av = .v (.agg xs) ∧ cs = xs.toList.map .v) (hk : ti.k = .struct fs) (hf : fs[f]? = some (off, size, agg))
    (hr : (agg = true ∧ av' = .agg ((cs.drop off).take size)) ∨ (agg = false ∧ cs[off]? = some av')) : Step P o N T H n av' H n true := by
  obtain ⟨i, d, z, hi, hd, hzz, hsz, hagg, hby, hzl, htk⟩ := tiOf_spec hty
  rw [hk] at htk
  obtain ⟨fields, rfl, hfs, hall⟩ := tk_struct htk
  obtain ⟨fl, i', d', hfl, hoff, hi', hd', hsize, hag⟩ := tk_field hfs hall hf
  refine Step.still fun Old wi K m S a w _ ht => ?_
  obtain ⟨xs, hxs, hl, hv⟩ := (ht.eval hx).aggOf hc
  obtain ⟨hp1, hp2⟩ := run_part (P := P) w xs off hi' hd'
  rcases hr with ⟨rfl, rfl⟩ | ⟨rfl, hcv⟩
  · refine ⟨_, ?_, .agg _ _ ((xs.drop off).take size) (by simp [hl]) fun j cv y h1 h2 => ?_⟩
    · simp only [execOp, ho, hxs, Instr.field, Sem.run_bind, run_underlying hd, Result.andThen, hfl, asAgg, Sem.run_pure, hoff, hp1 hag, hsize]
    · rw [List.getElem?_take] at h1 h2
      split at h1
      · rename_i hj
        rw [if_pos hj] at h2
        rw [List.getElem?_drop] at h1 h2
        exact hv _ _ _ h1 h2
      · cases h1
  · have hlt : off < xs.length := by rw [hl]; exact (List.getElem?_eq_some_iff.1 hcv).1
    have hy := List.getElem?_eq_getElem hlt
    refine ⟨_, ?_, hv _ _ _ hcv hy⟩
    simp only [execOp, ho, hxs, Instr.field, Sem.run_bind, run_underlying hd, Result.andThen, hfl, asAgg, Sem.run_pure, hoff, hp2 _ hag hy]

theorem tk_slice {d : TypeDesc} {e : TypeId} {es eb : Nat} {ez : List Value} (h : tkOf P d = .slice e es eb ez) :
    ∃ i z, d = .slice e ∧ P.info? e = some i ∧ i.zero = some z ∧ i.size = es ∧ i.bytes = eb ∧ z.cells.toList = ez := by
  cases d <;> simp only [tkOf] at h
  case slice e' =>
    split at h
    · rename_i i hi
      split at h
      · rename_i z hz
        injection h with h1 h2 h3 h4
        subst h1
        exact ⟨i, z, rfl, hi, hz, h2, h3, h4⟩
      · cases h
    · cases h
  case struct => split at h <;> cases h
  case array => split at h <;> cases h
  all_goals cases h
theorem tk_array {d : TypeDesc} {len es : Nat} {ea : Bool} (h : tkOf P d = .array len es ea) :
    ∃ e i d', d = .array len e ∧ P.info? e = some i ∧ P.underlying e = some d' ∧ i.size = es ∧ aggD d' = ea := by
  cases d <;> simp only [tkOf] at h
  case array n e =>
    split at h
    · rename_i ha
      injection h with h1 h2 h3
      simp only [Bool.and_eq_true, Option.isSome_iff_exists] at ha
      obtain ⟨⟨d, hd⟩, i, hi⟩ := ha
      exact ⟨e, i, d, by rw [h1], hi, hd, by rw [← h2, Program.cellsOf, hi]; rfl, by rw [← h3, isAggP, hd]⟩
    · cases h
  case struct => split at h <;> cases h
  case slice => split at h <;> (try split at h) <;> cases h
  all_goals cases h

/-- the address of an element of a slice that is read only -/
theorem s_index_dsl {t : TypeId} {ti : TI} {x y : Operand} {e : TypeId} {es eb : Nat} {ez : List Value} {rows : List (List AV)} {row : List AV} {k : IntKind} {q : Int} (ho : o.op = .indexAddr t x y) (hty : tiOf P t = some ti)
    (hk : ti.k = .slice e es eb ez) (hx : evalA T x = some (.dsl es rows)) (hy : evalA T y = some (.v (.int k q))) (h0 : 0 ≤ q) (h1 : q < rows.length) (hrow : rows[q.toNat]? = some row) :
    Step P o N T H n (.dptr row) H n true := by
  obtain ⟨i, d, z, hi, hd, hzz, hsz, hagg, hby, hzl, htk⟩ := tiOf_spec hty
  rw [hk] at htk
  obtain ⟨ei, ezz, rfl, hei, _, hes, _, _⟩ := tk_slice htk
  refine Step.still fun Old wi K m S a w _ ht => ?_
  have hv := ht.eval hx
  have hq := ht.eval hy
  generalize hxv : a.eval x = xv at hv
  generalize hyv : a.eval y = yv at hq
  cases hq
  cases hv with
  | dsl0 => exact absurd h1 (by simp; omega)
  | dsl _ _ _ rn b p c xs hn hc hK hl hx2 hv2 =>
    refine ⟨.pointer (some ⟨b, p + q.toNat * es, none⟩), ?_, .dptr _ row b _ (xs q.toNat) hK (fun j cv hj => hx2 _ _ _ _ hrow hj) (fun j cv hj => hv2 _ _ _ _ hrow hj)⟩
    subst hn
    simp only [execOp, ho, hxv, hyv, Instr.indexAt, asIntOf, Sem.run_bind, Sem.run_pure, run_underlying hd, Result.andThen]
    rw [if_pos ⟨h0, h1⟩]
    simp [run_sizeOf w hei, Program.cellsOf, hei, hes, Go.WideShapes.add_plain]

end
end Go.Proofs.Ytglfcaioapdiaaa.Aw

-- The operations, one by one, said of the abstract state: elements, arithmetic, stores, slices.
namespace Go.Proofs.Ytglfcaioapdiaaa.Aw
open Go Go.RowKit

section
variable {P : Program} {Old : Nat → Prop} {wi : WI} {K : Nat → Prop} {m : Nat → Loc} {S : Nat → Prop} {H : Hp} {w : World} {N n : Nat} {T : Tp} {o : Oper}

/-- the address of an element of a slice of the call's own -/
theorem s_index_sl {t : TypeId} {ti : TI} {x y : Operand} {e : TypeId} {es eb id row len : Nat} {ez : List Value} {b : Blk} {k : IntKind} {q : Int} (ho : o.op = .indexAddr t x y) (hty : tiOf P t = some ti)
    (hk : ti.k = .slice e es eb ez) (hx : evalA T x = some (.sl id row len)) (hl : look H id = some b) (hb : b.size = es) (hy : evalA T y = some (.v (.int k q))) (h0 : 0 ≤ q) (h1 : q < len) :
    Step P o N T H n (.ptr id (row + q.toNat) 0) H n true := by
  obtain ⟨i, d, z, hi, hd, hzz, hsz, hagg, hby, hzl, htk⟩ := tiOf_spec hty
  rw [hk] at htk
  obtain ⟨ei, ezz, rfl, hei, _, hes, _, _⟩ := tk_slice htk
  refine Step.still fun Old wi K m S a w hr ht => ?_
  have hv := ht.eval hx
  have hq := ht.eval hy
  generalize hxv : a.eval x = xv at hv
  generalize hyv : a.eval y = yv at hq
  cases hq
  cases hv with
  | sl0 _ _ _ ad hS => exact absurd h1 (by simp; omega)
  | sl _ _ _ _ p c hS hph hp hc =>
    refine ⟨.pointer (some ⟨(m id).blk, p + q.toNat * es, none⟩), ?_, .ptr _ id _ 0 _ hS ?_⟩
    · simp only [execOp, ho, hxv, hyv, Instr.indexAt, asIntOf, Sem.run_bind, Sem.run_pure, run_underlying hd, Result.andThen]
      rw [if_pos ⟨h0, h1⟩]
      simp [run_sizeOf w hei, Program.cellsOf, hei, hes, Go.WideShapes.add_plain]
    · rw [hp, ((hr.own id b hl).br hph).sz, hb, Nat.add_mul]
      rfl

/-- the address of an element of an array -/
theorem s_index_arr {t : TypeId} {ti : TI} {x y : Operand} {len es : Nat} {ea : Bool} {av av' : AV} {k : IntKind} {q : Int} (ho : o.op = .indexAddr t x y) (hty : tiOf P t = some ti)
    (hk : ti.k = .array len es ea) (hx : evalA T x = some av) (hsh : shiftA av (q.toNat * es) = some av') (hy : evalA T y = some (.v (.int k q))) (h0 : 0 ≤ q) (h1 : q < len) :
    Step P o N T H n av' H n true := by
  obtain ⟨i, d, z, hi, hd, hzz, hsz, hagg, hby, hzl, htk⟩ := tiOf_spec hty
  rw [hk] at htk
  obtain ⟨e, ei, d', rfl, hei, hed, hes, hea⟩ := tk_array htk
  refine Step.still fun Old wi K m S a w hr ht => ?_
  obtain ⟨g, p, hp, hv⟩ := (ht.eval hx).shift hsh
  have hq := ht.eval hy
  generalize hyv : a.eval y = yv at hq
  cases hq
  refine ⟨_, ?_, hv⟩
  simp only [execOp, ho, hp, hyv, Instr.indexAt, asIntOf, Sem.run_bind, Sem.run_pure, run_underlying hd, Result.andThen, Instr.sureAddr]
  rw [if_pos ⟨h0, h1⟩]
  simp [run_sizeOf w hei, Program.cellsOf, hei, hes, Go.WideShapes.add_plain]

/-- a byte of a string -/
theorem s_index_str {t : TypeId} {ti : TI} {x y : Operand} {s : ByteArray} {c : UInt8} {k : IntKind} {q : Int} (ho : o.op = .index t x y) (hty : tiOf P t = some ti)
    (hk : ti.k = .str) (hx : evalA T x = some (.v (.string s))) (hy : evalA T y = some (.v (.int k q))) (h0 : 0 ≤ q) (hc : s[q.toNat]? = some c) : Step P o N T H n (.v (.int .u8 c.toNat)) H n true := by
  obtain ⟨i, d, z, hi, hd, hzz, hsz, hagg, hby, hzl, htk⟩ := tiOf_spec hty
  rw [hk] at htk
  have hdd : d = .string := by
    cases d <;> simp only [tkOf] at htk
    case string => rfl
    case struct => split at htk <;> cases htk
    case slice => split at htk <;> (try split at htk) <;> cases htk
    case array => split at htk <;> cases htk
    all_goals cases htk
  subst hdd
  refine Step.still fun Old wi K m S a w hr ht => ?_
  have hxx := ht.eval hx
  have hyy := ht.eval hy
  generalize hxv : a.eval x = xv at hxx
  generalize hyv : a.eval y = yv at hyy
  cases hxx
  cases hyy
  refine ⟨_, ?_, .v _ _⟩
  simp only [execOp, ho, hxv, hyv, Instr.index, asIntOf, Sem.run_bind, Sem.run_pure, run_underlying hd, Result.andThen, h0, if_true, hc]

/-- an element of an array's value -/
theorem s_index_agg {t : TypeId} {ti : TI} {x y : Operand} {len es : Nat} {ea : Bool} {av av' : AV} {cs : List AV} {k : IntKind} {q : Int} (ho : o.op = .index t x y) (hty : tiOf P t = some ti)
    (hk : ti.k = .array len es ea) (hx : evalA T x = some av) (hc : av = .agg cs ∨ ∃ xs, av = .v (.agg xs) ∧ cs = xs.toList.map .v) (hy : evalA T y = some (.v (.int k q))) (h0 : 0 ≤ q) (h1 : q < len)
    (hr : (ea = true ∧ av' = .agg ((cs.drop (q.toNat * es)).take es)) ∨ (ea = false ∧ cs[q.toNat * es]? = some av')) : Step P o N T H n av' H n true := by
  obtain ⟨i, d, z, hi, hd, hzz, hsz, hagg, hby, hzl, htk⟩ := tiOf_spec hty
  rw [hk] at htk
  obtain ⟨e, ei, d', rfl, hei, hed, hes, hea⟩ := tk_array htk
  refine Step.still fun Old wi K m S a w _ ht => ?_
  obtain ⟨xs, hxs, hl, hv⟩ := (ht.eval hx).aggOf hc
  have hyy := ht.eval hy
  generalize hyv : a.eval y = yv at hyy
  cases hyy
  obtain ⟨hp1, hp2⟩ := run_part (P := P) w xs (q.toNat * es) hei hed
  rcases hr with ⟨rfl, rfl⟩ | ⟨rfl, hcv⟩
  · refine ⟨_, ?_, .agg _ _ ((xs.drop (q.toNat * es)).take es) (by simp [hl]) fun j cv y h1 h2 => ?_⟩
    · simp only [execOp, ho, hxs, hyv, Instr.index, asIntOf, Sem.run_bind, run_underlying hd, Result.andThen, Sem.run_pure]
      rw [if_pos ⟨h0, h1⟩]
      simp only [Sem.run_bind, run_sizeOf w hei, Program.cellsOf, hei, Option.map_some, Option.getD_some, hes, Result.andThen, hp1 hea]
    · rw [List.getElem?_take] at h1 h2
      split at h1
      · rename_i hj
        rw [if_pos hj] at h2
        rw [List.getElem?_drop] at h1 h2
        exact hv _ _ _ h1 h2
      · cases h1
  · have hlt : q.toNat * es < xs.length := by rw [hl]; exact (List.getElem?_eq_some_iff.1 hcv).1
    have hy := List.getElem?_eq_getElem hlt
    refine ⟨_, ?_, hv _ _ _ hcv hy⟩
    simp only [execOp, ho, hxs, hyv, Instr.index, asIntOf, Sem.run_bind, run_underlying hd, Result.andThen, Sem.run_pure]
    rw [if_pos ⟨h0, h1⟩]
    simp only [Sem.run_bind, run_sizeOf w hei, Program.cellsOf, hei, Option.map_some, Option.getD_some, hes, Result.andThen, hp2 _ hea hy]

theorem s_nilCheck {x : Operand} {av : AV} (ho : o.op = .nilCheck x) (hx : evalA T x = some av) (hc : (shiftA av 0).isSome = true ∨ ∃ f cs, av = .fn f cs) : Step P o N T H n av H n true :=
  Step.still fun Old wi K m S a w hr ht => by
    have hv := ht.eval hx
    refine ⟨_, ?_, hv⟩
    generalize hxv : a.eval x = xv at hv
    cases hv <;> simp only [execOp, ho, hxv] <;> first | rfl | (rcases hc with hc | ⟨_, _, hc⟩ <;> simp [shiftA] at hc)

/-- integers: sums, differences, products -/
def arith : BinOp → Option (Int → Int → Int)
  | .add => some (· + ·)
  | .sub => some (· - ·)
  | .mul => some (· * ·)
  | _ => none
def cmpI : BinOp → Option (Int → Int → Bool)
  | .eql => some (fun x y => x == y)
  | .neq => some (fun x y => x != y)
  | .lss => some (fun x y => decide (x < y))
  | .leq => some (fun x y => decide (x ≤ y))
  | .gtr => some (fun x y => decide (y < x))
  | .geq => some (fun x y => decide (y ≤ x))
  | _ => none
def ltS (x y : ByteArray) : Bool := Op.bytesLess x.toList y.toList
def eqS (x y : ByteArray) : Bool := x.toList == y.toList
def cmpS : BinOp → Option (ByteArray → ByteArray → Bool)
  | .eql => some eqS
  | .neq => some (fun x y => !eqS x y)
  | .lss => some ltS
  | .leq => some (fun x y => ltS x y || eqS x y)
  | .gtr => some (fun x y => !(ltS x y || eqS x y))
  | .geq => some (fun x y => !ltS x y)
  | _ => none

theorem s_two {x y : Operand} {op : BinOp} {t u : TypeId} {p q : Value} {r : Value} (ho : o.op = .binOp op t x y u) (hx : evalA T x = some (.v p)) (hy : evalA T y = some (.v q))
    (h : ∀ w, (do eqGuard op t x y p q; binOp op t p q : Sem Value).run P w = .ok r w) : Step P o N T H n (.v r) H n true :=
  Step.still fun Old wi K m S a w hr ht => by
    have hxx := ht.eval hx
    have hyy := ht.eval hy
    generalize hxv : a.eval x = xv at hxx
    generalize hyv : a.eval y = yv at hyy
    cases hxx
    cases hyy
    refine ⟨r, ?_, .v _ _⟩
    have := h w
    simp only [Sem.run_bind] at this
    simp only [execOp, ho, hxv, hyv, Sem.run_bind, Sem.run_pure]
    rw [this]
    rfl

theorem guard_int {op : BinOp} {t : TypeId} {x y : Operand} {k k' : IntKind} {p q : Int} : (eqGuard op t x y (.int k p) (.int k' q)).run P w = .ok () w := by
  cases op <;> rfl
theorem guard_str {op : BinOp} {t : TypeId} {x y : Operand} {p q : ByteArray} : (eqGuard op t x y (.string p) (.string q)).run P w = .ok () w := by
  cases op <;> rfl
theorem guard_bool {op : BinOp} {t : TypeId} {x y : Operand} {p q : Bool} : (eqGuard op t x y (.bool p) (.bool q)).run P w = .ok () w := by
  cases op <;> rfl

theorem s_arith {x y : Operand} {op : BinOp} {t u : TypeId} {k : IntKind} {p q : Int} {f : Int → Int → Int} (ho : o.op = .binOp op t x y u) (hx : evalA T x = some (.v (.int k p))) (hy : evalA T y = some (.v (.int k q)))
    (hf : arith op = some f) : Step P o N T H n (.v (.int k (k.wrap (f p q)))) H n true :=
  s_two ho hx hy fun w => by
    cases op <;> simp only [arith, Option.some.injEq] at hf <;> try (cases hf)
    all_goals (simp only [Sem.run_bind, guard_int, Result.andThen]; simp [binOp, Op.intArith])

theorem s_cmpI {x y : Operand} {op : BinOp} {t u : TypeId} {k : IntKind} {p q : Int} {f : Int → Int → Bool} (ho : o.op = .binOp op t x y u) (hx : evalA T x = some (.v (.int k p))) (hy : evalA T y = some (.v (.int k q)))
    (hf : cmpI op = some f) : Step P o N T H n (.v (.bool (f p q))) H n true :=
  s_two ho hx hy fun w => by
    cases op <;> simp only [cmpI, Option.some.injEq] at hf <;> try (cases hf)
    all_goals (simp only [Sem.run_bind, guard_int, Result.andThen]; simp [binOp, Op.intCmp])

theorem s_cmpS {x y : Operand} {op : BinOp} {t u : TypeId} {p q : ByteArray} {f : ByteArray → ByteArray → Bool} (ho : o.op = .binOp op t x y u) (hx : evalA T x = some (.v (.string p))) (hy : evalA T y = some (.v (.string q)))
    (hf : cmpS op = some f) : Step P o N T H n (.v (.bool (f p q))) H n true :=
  s_two ho hx hy fun w => by
    cases op <;> simp only [cmpS, Option.some.injEq] at hf <;> try (cases hf)
    all_goals (simp only [Sem.run_bind, guard_str, Result.andThen]; simp [binOp, Op.stringOp, eqS, ltS])

theorem s_cat {x y : Operand} {t u : TypeId} {p q : ByteArray} (ho : o.op = .binOp .add t x y u) (hx : evalA T x = some (.v (.string p))) (hy : evalA T y = some (.v (.string q)))
    (hb : p.size + q.size ≤ 9223372036854775807) : Step P o N T H n (.v (.string (p ++ q))) H n true :=
  s_two ho hx hy fun w => by
    have : ¬ (((p.size + q.size : Nat) : Int) > IntKind.i64.max) := by
      have : IntKind.i64.max = 9223372036854775807 := by decide
      omega
    simp only [Sem.run_bind, guard_str, Result.andThen]
    simp only [binOp, Op.stringOp, this, if_false]
    rfl

theorem s_quo {x y : Operand} {t u : TypeId} {k : IntKind} {p q : Int} (ho : o.op = .binOp .quo t x y u) (hx : evalA T x = some (.v (.int k p))) (hy : evalA T y = some (.v (.int k q)))
    (hq : q ≠ 0) : Step P o N T H n (.v (.int k (k.wrap (p.tdiv q)))) H n true :=
  s_two ho hx hy fun w => by
    simp only [Sem.run_bind, guard_int, Result.andThen]
    simp [binOp, Op.intDiv, hq]
theorem s_rem {x y : Operand} {t u : TypeId} {k : IntKind} {p q : Int} (ho : o.op = .binOp .rem t x y u) (hx : evalA T x = some (.v (.int k p))) (hy : evalA T y = some (.v (.int k q)))
    (hq : q ≠ 0) : Step P o N T H n (.v (.int k (p.tmod q))) H n true :=
  s_two ho hx hy fun w => by
    simp only [Sem.run_bind, guard_int, Result.andThen]
    simp [binOp, Op.intDiv, hq]

theorem tk_bool {d : TypeDesc} (htk : tkOf P d = .bool) : d = .bool := by
  cases d <;> simp only [tkOf] at htk
  case bool => rfl
  case struct => split at htk <;> cases htk
  case slice => split at htk <;> (try split at htk) <;> cases htk
  case array => split at htk <;> cases htk
  all_goals cases htk

theorem s_eqB {x y : Operand} {t u : TypeId} {ti : TI} {p q : Bool} (neg : Bool) (ho : o.op = .binOp (if neg then .neq else .eql) t x y u) (hty : tiOf P t = some ti) (hk : ti.k = .bool) (hx : evalA T x = some (.v (.bool p)))
    (hy : evalA T y = some (.v (.bool q))) : Step P o N T H n (.v (.bool (if neg then !(p == q) else (p == q)))) H n true := by
  obtain ⟨i, d, z, hi, hd, hzz, hsz, hagg, hby, hzl, htk⟩ := tiOf_spec hty
  rw [hk] at htk
  have hdd := tk_bool htk
  subst hdd
  refine s_two ho hx hy fun w => ?_
  cases neg <;> (simp only [Sem.run_bind, guard_bool, Result.andThen]; first | exact run_eql_bool w t p q hd | exact run_neq_bool w t p q hd)

theorem s_not {x : Operand} {t : TypeId} {p : Bool} (ho : o.op = .unOp .not t x) (hx : evalA T x = some (.v (.bool p))) : Step P o N T H n (.v (.bool (!p))) H n true :=
  Step.still fun Old wi K m S a w hr ht => by
    have hxx := ht.eval hx
    generalize hxv : a.eval x = xv at hxx
    cases hxx
    exact ⟨_, by simp only [execOp, ho, hxv]; rfl, .v _ _⟩
theorem s_neg {x : Operand} {t : TypeId} {k : IntKind} {p : Int} (ho : o.op = .unOp .neg t x) (hx : evalA T x = some (.v (.int k p))) : Step P o N T H n (.v (.int k (k.wrap (0 - p)))) H n true :=
  Step.still fun Old wi K m S a w hr ht => by
    have hxx := ht.eval hx
    generalize hxv : a.eval x = xv at hxx
    cases hxx
    exact ⟨_, by simp only [execOp, ho, hxv]; rfl, .v _ _⟩

theorem s_conv {x : Operand} {t u : TypeId} {ti tj : TI} {k k' : IntKind} {p : Int} (ho : o.op = .convert t u x) (hty : tiOf P u = some ti) (hk : ti.k = .int k') (hty2 : tiOf P t = some tj) (hx : evalA T x = some (.v (.int k p))) :
    Step P o N T H n (.v (.int k' (k'.wrap p))) H n true := by
  obtain ⟨i, d, z, hi, hd, hzz, hsz, hagg, hby, hzl, htk⟩ := tiOf_spec hty
  obtain ⟨i2, d2, z2, hi2, hd2, _⟩ := tiOf_spec hty2
  rw [hk] at htk
  have hdd : d = .int k' := by
    cases d <;> simp only [tkOf] at htk
    case int k => injection htk with h; rw [h]
    case struct => split at htk <;> cases htk
    case slice => split at htk <;> (try split at htk) <;> cases htk
    case array => split at htk <;> cases htk
    all_goals cases htk
  subst hdd
  refine Step.still fun Old wi K m S a w hr ht => ?_
  have hxx := ht.eval hx
  generalize hxv : a.eval x = xv at hxx
  cases hxx
  refine ⟨_, ?_, .v _ _⟩
  simp only [execOp, ho, hxv, convert, Sem.run_bind, run_underlying hd, run_underlying hd2, Result.andThen]
  cases d2 <;> rfl

theorem s_extract {x : Operand} {i : Nat} {vs : List AV} {av : AV} (ho : o.op = .extract x i) (hx : evalA T x = some (.tup vs)) (hi : vs[i]? = some av) : Step P o N T H n av H n true :=
  Step.still fun Old wi K m S a w hr ht => by
    have hxx := ht.eval hx
    generalize hxv : a.eval x = xv at hxx
    cases hxx with
    | tup _ _ xs hl hv =>
      have hlt : i < xs.length := by rw [hl]; exact (List.getElem?_eq_some_iff.1 hi).1
      have hy := List.getElem?_eq_getElem hlt
      refine ⟨_, ?_, hv i av _ hi hy⟩
      simp only [execOp, ho, hxv, Instr.extract, Sem.run_bind, List.getElem?_toArray, hy, Sem.run_pure, Result.andThen]
theorem s_extract_v {x : Operand} {i : Nat} {vs : Array Value} {av : Value} (ho : o.op = .extract x i) (hx : evalA T x = some (.v (.tuple vs))) (hi : vs[i]? = some av) : Step P o N T H n (.v av) H n true :=
  Step.still fun Old wi K m S a w hr ht => by
    have hxx := ht.eval hx
    generalize hxv : a.eval x = xv at hxx
    cases hxx
    refine ⟨_, ?_, .v _ _⟩
    simp only [execOp, ho, hxv, Instr.extract, Sem.run_bind, hi, Sem.run_pure, Result.andThen]

end
end Go.Proofs.Ytglfcaioapdiaaa.Aw

-- The operations, one by one, said of the abstract state: stores, made slices, slices of slices, lengths, functions.
namespace Go.Proofs.Ytglfcaioapdiaaa.Aw
open Go Go.RowKit

def setH (H : Hp) (id : Nat) (b : Blk) : Hp := (id, b) :: del H id
theorem look_setH {H : Hp} {id i : Nat} {b c : Blk} (h : look (setH H id b) i = some c) : look ((id, b) :: H) i = some c := by
  unfold setH at h
  simp only [look_cons] at h ⊢
  split
  · rename_i he; rw [if_pos he] at h; exact h
  · rename_i he; rw [if_neg he, look_del_ne H (fun e => he e.symm)] at h; exact h

theorem splice_get (A vs : List Value) (p i : Nat) (hp : p + vs.length ≤ A.length) :
    (A.take p ++ vs ++ A.drop (p + vs.length))[i]? = if i < p then A[i]? else if i < p + vs.length then vs[i - p]? else A[i]? := by
  have hl : (A.take p).length = p := by rw [List.length_take]; omega
  rw [List.append_assoc, List.getElem?_append, hl]
  split
  · rename_i h; rw [List.getElem?_take, if_pos h]
  · rename_i h
    rw [List.getElem?_append]
    split
    · rename_i h2; rw [if_pos (by omega)]
    · rename_i h2
      rw [if_neg (by omega), List.getElem?_drop]
      congr 1
      omega

def splice (r cs : List AV) (col : Nat) : List AV := r.take col ++ cs ++ r.drop (col + cs.length)
theorem spliceA_get (A vs : List AV) (p i : Nat) (hp : p + vs.length ≤ A.length) :
    (splice A vs p)[i]? = if i < p then A[i]? else if i < p + vs.length then vs[i - p]? else A[i]? := by
  unfold splice
  have hl : (A.take p).length = p := by rw [List.length_take]; omega
  rw [List.append_assoc, List.getElem?_append, hl]
  split
  · rename_i h; rw [List.getElem?_take, if_pos h]
  · rename_i h
    rw [List.getElem?_append]
    split
    · rename_i h2; rw [if_pos (by omega)]
    · rename_i h2
      rw [if_neg (by omega), List.getElem?_drop]
      congr 1
      omega
theorem splice_len (A vs : List AV) (p : Nat) (hp : p + vs.length ≤ A.length) : (splice A vs p).length = A.length := by
  unfold splice
  simp
  omega

theorem spl_plv {b : Blk} {row col : Nat} {r cs : List AV} (h : b.pl = true → ∀ (r : Nat) (row : List AV), b.rows[r]? = some row → ∀ (j : Nat) (cv : AV), row[j]? = some cv → isV cv = true) (hrow : b.rows[row]? = some r) (hcol : col + cs.length ≤ r.length) :
    (b.pl && cs.all isV) = true → ∀ (r' : Nat) (row' : List AV), (b.rows.set row (splice r cs col))[r']? = some row' → ∀ (j : Nat) (cv : AV), row'[j]? = some cv → isV cv = true := by
  intro hp r' row' h1 j cv hj
  simp only [Bool.and_eq_true] at hp
  rw [List.getElem?_set] at h1
  split at h1
  · rename_i he
    split at h1
    · simp only [Option.some.injEq] at h1
      subst h1
      rw [spliceA_get _ _ _ _ hcol] at hj
      split at hj
      · exact h hp.1 _ _ hrow _ _ hj
      · split at hj
        · exact List.all_eq_true.1 hp.2 cv (List.mem_of_getElem? hj)
        · exact h hp.1 _ _ hrow _ _ hj
    · cases h1
  · exact h hp.1 _ _ h1 _ _ hj

section
variable {P : Program} {Old : Nat → Prop} {wi : WI} {K : Nat → Prop} {m : Nat → Loc} {S : Nat → Prop} {H : Hp} {w : World} {N n : Nat} {T : Tp} {o : Oper}

theorem row_apart {r r' sz j p : Nat} (hj : j < sz) (hp : r * sz ≤ p) (hne : r' ≠ r) (hl : p < r * sz + sz) : r' * sz + j ≠ p := by
  rcases Nat.lt_or_gt_of_ne hne with h | h
  · have : (r' + 1) * sz ≤ r * sz := Nat.mul_le_mul_right _ h
    rw [Nat.add_mul] at this
    omega
  · have : (r + 1) * sz ≤ r' * sz := Nat.mul_le_mul_right _ h
    rw [Nat.add_mul] at this
    omega

/-- cells written into one row of a block of the call's own -/
theorem Rel.splice (hr : Rel Old wi K m S H w) {id row col : Nat} {b : Blk} {r cs : List AV} {ys : List Value} (hl : look H id = some b) (hrow : b.rows[row]? = some r) (hcol : col + cs.length ≤ r.length)
    (hys : ys.length = cs.length) (hone : ∀ y ∈ ys, y.oneCell' = true) (hv : ∀ (j : Nat) (cv : AV) (y : Value), cs[j]? = some cv → ys[j]? = some y → VR K w m S cv y) :
    ∃ cur p, w.heap[(m id).blk]? = some (.cells cur b.ty (0, 0)) ∧ p = row * (m id).size + col ∧ p + ys.length ≤ cur.size ∧
      Rel Old wi K m S (setH H id { b with pl := b.pl && cs.all isV, rows := b.rows.set row (Aw.splice r cs col) }) (w.setRow (m id).blk (cur.toList.take p ++ ys ++ cur.toList.drop (p + ys.length)).toArray) := by
  obtain ⟨hph, hb⟩ := (hr.own id b hl).real hrow
  obtain ⟨cur, h1, h2, h3⟩ := hb.ex
  have hrl := (h3 row r hrow).1
  have hrlt : row < b.rows.length := (List.getElem?_eq_some_iff.1 hrow).1
  have hcap : row < (m id).cap := Nat.lt_of_lt_of_le hrlt hb.cap
  have hfit : (row + 1) * b.size ≤ (m id).cap * b.size := Nat.mul_le_mul_right _ hcap
  rw [Nat.add_mul, Nat.one_mul] at hfit
  have hp : row * b.size + col + ys.length ≤ cur.size := by rw [h2]; omega
  have hpl : row * b.size + col + ys.length ≤ cur.toList.length := by simpa using hp
  refine ⟨cur, row * (m id).size + col, h1, rfl, by rw [hb.sz]; exact hp, ?_⟩
  rw [hb.sz]
  refine Rel.sub (H := (id, _) :: H) ?_ (fun i c h => look_setH h)
  refine hr.write hl hph _ rfl rfl rfl rfl rfl (by simp) (fun k hk => setRow_other _ _ _ _ hk) (setRow_heap _ _ _ _ _ _ h1) (by simpa using hb.cap) ?_ ?_ ?_
  · exact spl_plv hb.plv hrow hcol
  · rw [← h2]; simp; omega
  · intro r' row' hrow'
    rw [List.getElem?_set] at hrow'
    by_cases hrr : row = r'
    · subst hrr
      rw [if_pos rfl, if_pos hrlt] at hrow'
      simp only [Option.some.injEq] at hrow'
      subst hrow'
      refine ⟨by rw [splice_len _ _ _ hcol]; exact hrl, fun j cv hj => ?_⟩
      rw [spliceA_get _ _ _ _ hcol] at hj
      rw [List.getElem?_toArray, splice_get _ _ _ _ hpl]
      by_cases hj1 : j < col
      · rw [if_pos hj1] at hj
        rw [if_pos (by omega), Array.getElem?_toList]
        obtain ⟨x, hx, hone', hvx⟩ := (h3 row r hrow).2 j cv hj
        refine ⟨x, hx, hone', ?_⟩
        refine hvx.mono (fun _ h => h) (fun _ _ => rfl) (fun i hi => ⟨hi.1, by simp [hi.2]⟩) (fun _ _ => rfl)
      · rw [if_neg hj1] at hj
        rw [if_neg (by omega)]
        by_cases hj2 : j < col + cs.length
        · rw [if_pos hj2] at hj
          rw [if_pos (by omega)]
          have hlt : j - col < ys.length := by omega
          have hy := List.getElem?_eq_getElem hlt
          refine ⟨_, by rw [show row * b.size + j - (row * b.size + col) = j - col by omega]; exact hy, hone _ (List.getElem_mem _), ?_⟩
          have hvv := hv _ _ _ hj hy
          by_cases hall : cs.all isV = true
          · have := List.all_eq_true.1 hall cv (List.mem_of_getElem? hj)
            cases cv <;> simp only [isV] at this <;> try (cases this)
            cases hvv
            exact .v _ _
          · exact hvv.mono (fun _ h => h) (fun _ _ => rfl) (fun i hi => ⟨hi, by simp [hall]⟩) (fun _ _ => rfl)
        · rw [if_neg hj2] at hj
          rw [if_neg (by omega), Array.getElem?_toList]
          obtain ⟨x, hx, hone', hvx⟩ := (h3 row r hrow).2 j cv hj
          refine ⟨x, hx, hone', ?_⟩
          exact hvx.mono (fun _ h => h) (fun _ _ => rfl) (fun i hi => ⟨hi.1, by simp [hi.2]⟩) (fun _ _ => rfl)
    · rw [if_neg hrr] at hrow'
      refine ⟨(h3 r' row' hrow').1, fun j cv hj => ?_⟩
      obtain ⟨x, hx, hone', hvx⟩ := (h3 r' row' hrow').2 j cv hj
      have hjlt : j < b.size := by rw [← (h3 r' row' hrow').1]; exact (List.getElem?_eq_some_iff.1 hj).1
      refine ⟨x, ?_, hone', hvx.mono (fun _ h => h) (fun _ _ => rfl) (fun i hi => ⟨hi.1, by simp [hi.2]⟩) (fun _ _ => rfl)⟩
      rw [List.getElem?_toArray, splice_get _ _ _ _ hpl]
      by_cases ha : r' * b.size + j < row * b.size + col
      · rw [if_pos ha, Array.getElem?_toList]; exact hx
      · rw [if_neg ha]
        have hnot : ¬ (r' * b.size + j < row * b.size + col + ys.length) := fun hlt =>
          row_apart (p := r' * b.size + j) hjlt (by omega) (fun e => hrr e.symm) (by omega) rfl
        rw [if_neg hnot, Array.getElem?_toList]
        exact hx

theorem s_store {t : TypeId} {ti : TI} {x y : Operand} {id row col : Nat} {b : Blk} {r : List AV} {av : AV} (ho : o.op = .store t x y) (hty : tiOf P t = some ti) (hx : evalA T x = some (.ptr id row col))
    (hl : look H id = some b) (hrow : b.rows[row]? = some r) (hy : evalA T y = some av) (hn : (cellsA av).length = ti.cells) (hcol : col + ti.cells ≤ r.length) (h1 : (cellsA av).all AV.one = true) :
    Step P o N T H n (.v undef) (setH H id { b with pl := b.pl && (cellsA av).all isV, rows := b.rows.set row (splice r (cellsA av) col) }) n false := by
  obtain ⟨i, d, z, hi, hd, hzz, hsz, hagg, hby, hzl, htk⟩ := tiOf_spec hty
  refine ⟨Nat.le_refl _, fun Old wi K m S a w hS hr ht next Q hnx => ?_⟩
  have hv := ht.eval hx
  have hvy := ht.eval hy
  obtain ⟨hcl, hcv⟩ := hvy.cells
  have hone : ∀ y' ∈ (a.eval y).cells.toList, y'.oneCell' = true := by
    intro y' hy'
    obtain ⟨j, hj⟩ := List.mem_iff_getElem?.1 hy'
    have hlt : j < (cellsA av).length := by rw [← hcl]; exact (List.getElem?_eq_some_iff.1 hj).1
    have hc := List.getElem?_eq_getElem hlt
    exact (hcv j _ _ hc hj).one (List.all_eq_true.1 h1 _ (List.mem_of_getElem? hc))
  obtain ⟨cur, p, hg, hp, hfit, hrel⟩ := hr.splice hl hrow (by rw [hn]; exact hcol) hcl hone hcv
  generalize hxv : a.eval x = xv at hv
  cases hv with
  | ptr _ _ _ _ q hs hq =>
    have hpq : q = p := by rw [hp]; exact hq
    subst hpq
    have hst := run_storeCells_at P (m id).blk q b.ty (a.eval y).cells.toList 0 cur w hg (by simpa using hfit) hone
    unfold Oper.wp
    have hsize : (a.eval y).cells.size = ti.cells := by rw [← hn, ← hcl]; simp
    have hrun : (execOp a.eval o).run P w = .ok .skip (w.setRow (m id).blk (cur.toList.take q ++ (a.eval y).cells.toList ++ cur.toList.drop (q + (a.eval y).cells.toList.length)).toArray) := by
      simp only [execOp, ho, hxv, Instr.storeAt, Instr.sureAddr, Sem.run_bind, Sem.run_pure, Result.andThen, storeVar, run_sizeOf w hi, Program.cellsOf, hi, Option.map_some, Option.getD_some, hsz, hsize, ne_eq, not_true_eq_false, if_false]
      simp only [Nat.add_zero] at hst
      rw [hst]
    rw [hrun]
    have hm : ∀ i, S i → addS S n n i := fun i hi => .inl hi
    exact hnx undef _ m K ⟨fun _ _ => rfl, GK.refl _ _, hrel.monoS hm (fun _ _ => rfl), .v _ _, fun k hk => setRow_other _ _ _ _ (fun e => ((hr.own id b hl).real hrow).2.nk (e ▸ hk)), fun h => by cases h⟩

theorem evals_of {a : Act} (ht : TRel K w m S N T a) : ∀ (l : List Operand) (caps : List AV), l.mapM (evalA T) = some caps →
    (l.map a.eval).length = caps.length ∧ ∀ (j : Nat) (cv : AV) (y : Value), caps[j]? = some cv → (l.map a.eval)[j]? = some y → VR K w m S cv y
  | [], caps, h => by simp at h; subst h; simp
  | x :: l, caps, h => by
    rw [List.mapM_cons] at h
    cases hx : evalA T x with
    | none => simp [hx] at h
    | some av =>
      cases hl : l.mapM (evalA T) with
      | none => simp [hx, hl] at h
      | some cs =>
        simp only [hx, hl, Option.pure_def, Option.bind_eq_bind, Option.bind_some, Option.some.injEq] at h
        subst h
        obtain ⟨i1, i2⟩ := evals_of ht l cs hl
        refine ⟨by simp at i1 ⊢; exact i1, fun j cv y h1 h2 => ?_⟩
        cases j with
        | zero => simp at h1 h2; subst h1 h2; exact ht.eval hx
        | succ j => simp only [List.getElem?_cons_succ, List.map_cons] at h1 h2; exact i2 j cv y h1 h2

theorem s_makeFunc {f : FuncId} {cs : Array Operand} {caps : List AV} (ho : o.op = .makeFunc (.func f) #[] cs) (hc : cs.toList.mapM (evalA T) = some caps) : Step P o N T H n (.fn f caps) H n true :=
  Step.still fun Old wi K m S a w hr ht => by
    obtain ⟨k1, k2⟩ := evals_of ht _ _ hc
    refine ⟨.func (.func f) #[] (cs.toList.map a.eval).toArray, ?_, .fn _ f caps _ k1 k2⟩
    simp only [execOp, ho, Instr.makeFunc]
    obtain ⟨cs⟩ := cs
    simp

theorem s_len {x : Operand} {t : TypeId} {ti : TI} {av : AV} {l : Int} (ho : o.op = .call { callee := .builtin .len, args := #[x], argTypes := #[t] }) (hty : tiOf P t = some ti) (hx : evalA T x = some av)
    (hc : (ti.k = .str ∧ ∃ s, av = .v (.string s) ∧ l = s.size) ∨ ∃ e es eb ez, ti.k = .slice e es eb ez ∧ ((∃ sz rows, av = .dsl sz rows ∧ l = rows.length) ∨ (∃ id row len, av = .sl id row len ∧ l = len) ∨ ∃ ad len cap, av = .v (.slice ad len cap) ∧ l = len)) :
    Step P o N T H n (.v (.int .i64 l)) H n true := by
  obtain ⟨i, d, z, hi, hd, hzz, hsz, hagg, hby, hzl, htk⟩ := tiOf_spec hty
  refine Step.still fun Old wi K m S a w hr ht => ?_
  have hv := ht.eval hx
  refine ⟨_, ?_, .v _ _⟩
  generalize hxv : a.eval x = xv at hv
  rcases hc with ⟨hk, s, rfl, rfl⟩ | ⟨e, es, eb, ez, hk, hc⟩
  · rw [hk] at htk
    have hdd : d = .string := by
      cases d <;> simp only [tkOf] at htk
      case string => rfl
      case struct => split at htk <;> cases htk
      case slice => split at htk <;> (try split at htk) <;> cases htk
      case array => split at htk <;> cases htk
      all_goals cases htk
    subst hdd
    cases hv
    simp [execOp, ho, resolve, invoke, builtin, Builtin.len_, hxv, run_underlying hd, goInt]
  · rw [hk] at htk
    obtain ⟨ei, ezz, rfl, hei, _, hes, _, _⟩ := tk_slice htk
    rcases hc with ⟨sz, rows, rfl, rfl⟩ | ⟨id, row, len, rfl, rfl⟩ | ⟨ad, len, cap, rfl, rfl⟩ <;> cases hv <;> simp_all [execOp, resolve, invoke, builtin, Builtin.len_, run_underlying hd, goInt]

end
end Go.Proofs.Ytglfcaioapdiaaa.Aw
