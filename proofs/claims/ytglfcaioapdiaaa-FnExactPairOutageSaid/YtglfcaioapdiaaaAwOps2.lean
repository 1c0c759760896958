/-
  The operations, one by one, said of the abstract state: addresses, parts, arithmetic, stores.
-/
import Derived.Test.YtglfcaioapdiaaaAwOps
namespace Go.Proofs.Ytglfcaioapdiaaa.Aw
open Go Go.RowKit

section
variable {P : Program} {Old : Nat → Prop} {wi : WI} {K : Nat → Prop} {m : Nat → Loc} {S : Nat → Prop} {H : Hp} {w : World} {N n : Nat} {T : Tp} {o : Oper}

def shiftA : AV → Nat → Option AV
  | .dptr cells, k => some (.dptr (cells.drop k))
  | .ptr id row col, k => some (.ptr id row (col + k))
  | _, _ => none
theorem VR.shift {av av' : AV} {x : Value} {k : Nat} (h : VR K w m S av x) (hs : shiftA av k = some av') :
    ∃ g p, x = .pointer (some ⟨g, p, none⟩) ∧ VR K w m S av' (.pointer (some ⟨g, p + k, none⟩)) := by
  cases h with
  | dptr _ cells b p xs hk hx hv =>
    simp only [shiftA, Option.some.injEq] at hs
    subst hs
    refine ⟨b, p, rfl, .dptr _ _ b (p + k) (fun j => xs (k + j)) hk (fun j cv hj => ?_) (fun j cv hj => ?_)⟩
    · rw [List.getElem?_drop] at hj
      rw [Nat.add_assoc]
      exact hx _ _ hj
    · rw [List.getElem?_drop] at hj
      exact hv _ _ hj
  | ptr _ id row col p hS hp =>
    simp only [shiftA, Option.some.injEq] at hs
    subst hs
    exact ⟨_, p, rfl, .ptr _ id row (col + k) _ hS (by omega)⟩
  | _ => simp [shiftA] at hs

theorem tk_struct {d : TypeDesc} {fs : List (Nat × Nat × Bool)} (h : tkOf P d = .struct fs) :
    ∃ fields, d = .struct fields ∧ fs = fields.toList.map (fun f => (f.offset, P.cellsOf f.type, isAggP P f.type)) ∧ fields.all (fun f => (P.underlying f.type).isSome && (P.info? f.type).isSome) = true := by
  cases d <;> simp only [tkOf] at h
  case struct fields =>
    split at h
    · rename_i ha
      injection h with h
      exact ⟨fields, rfl, h.symm, ha⟩
    · cases h
  case slice => split at h <;> (try split at h) <;> cases h
  case array => split at h <;> cases h
  all_goals cases h

theorem tk_field {fields : Array Field} {fs : List (Nat × Nat × Bool)} {f off size : Nat} {agg : Bool} (hfs : fs = fields.toList.map (fun f => (f.offset, P.cellsOf f.type, isAggP P f.type)))
    (hall : fields.all (fun f => (P.underlying f.type).isSome && (P.info? f.type).isSome) = true) (hf : fs[f]? = some (off, size, agg)) :
    ∃ fl i d, fields[f]? = some fl ∧ fl.offset = off ∧ P.info? fl.type = some i ∧ P.underlying fl.type = some d ∧ i.size = size ∧ aggD d = agg := by
  subst hfs
  rw [List.getElem?_map] at hf
  cases hfl : fields.toList[f]? with
  | none => simp [hfl] at hf
  | some fl =>
    simp only [hfl, Option.map_some, Option.some.injEq, Prod.mk.injEq] at hf
    obtain ⟨h1, h2, h3⟩ := hf
    have hm : fl ∈ fields := by rw [← Array.mem_toList_iff]; exact List.mem_of_getElem? hfl
    have := Array.all_eq_true_iff_forall_mem.1 hall fl hm
    simp only [Bool.and_eq_true, Option.isSome_iff_exists] at this
    obtain ⟨⟨d, hd⟩, i, hi⟩ := this
    refine ⟨fl, i, d, by rw [← Array.getElem?_toList]; exact hfl, h1, hi, hd, ?_, ?_⟩
    · rw [← h2, Program.cellsOf, hi]; rfl
    · rw [← h3, isAggP, hd]

theorem s_fieldAddr {t : TypeId} {ti : TI} {x : Operand} {av av' : AV} {fs : List (Nat × Nat × Bool)} {f off size : Nat} {agg : Bool} (ho : o.op = .fieldAddr t x f) (hty : tiOf P t = some ti)
    (hx : evalA T x = some av) (hk : ti.k = .struct fs) (hf : fs[f]? = some (off, size, agg)) (hs : size ≠ 0) (hsh : shiftA av off = some av') : Step P o N T H n av' H n true := by
  obtain ⟨i, d, z, hi, hd, hzz, hsz, hagg, hby, hzl, htk⟩ := tiOf_spec hty
  rw [hk] at htk
  obtain ⟨fields, rfl, hfs, hall⟩ := tk_struct htk
  obtain ⟨fl, i', d', hfl, hoff, hi', hd', hsize, _⟩ := tk_field hfs hall hf
  refine Step.still fun Old wi K m S a w hr ht => ?_
  obtain ⟨g, p, hp, hv⟩ := (ht.eval hx).shift hsh
  refine ⟨_, ?_, hv⟩
  have h0 : ¬ i'.size = 0 := by rw [hsize]; exact hs
  simp only [execOp, ho, hp, Instr.fieldAt, Sem.run_bind, run_underlying hd, Result.andThen, hfl, Instr.sureAddr, Sem.run_pure, fieldPlace, run_sizeOf w hi', Program.cellsOf, hi', Option.map_some, Option.getD_some, h0, if_false]
  rw [Go.WideShapes.add_plain, hoff]

theorem run_part {t : TypeId} {i : TypeInfo} {d : TypeDesc} (w : World) (xs : List Value) (off : Nat) (hi : P.info? t = some i) (hd : P.underlying t = some d) :
    (aggD d = true → (part t xs.toArray off).run P w = .ok (.agg ((xs.drop off).take i.size).toArray) w) ∧
    ∀ x, aggD d = false → xs[off]? = some x → (part t xs.toArray off).run P w = .ok x w := by
  constructor
  · intro ha
    simp only [part, Sem.run_bind, run_isAgg w hd, Result.andThen, ha, if_true, run_sizeOf w hi, Sem.run_pure, Program.cellsOf, hi, Option.map_some, Option.getD_some]
    congr 2
    simp [List.take_drop]
  · intro x ha hx
    simp only [part, Sem.run_bind, run_isAgg w hd, Result.andThen, ha]
    simp [hx]

theorem VR.aggOf {av : AV} {x : Value} {cs : List AV} (h : VR K w m S av x) (hc : av = .agg cs ∨ ∃ xs, av = .v (.agg xs) ∧ cs = xs.toList.map .v) :
    ∃ xs : List Value, x = .agg xs.toArray ∧ xs.length = cs.length ∧ ∀ (j : Nat) (cv : AV) (y : Value), cs[j]? = some cv → xs[j]? = some y → VR K w m S cv y := by
  rcases hc with rfl | ⟨xs, rfl, rfl⟩
  · cases h with
    | agg _ _ xs hl hv => exact ⟨xs, rfl, hl, hv⟩
  · cases h
    refine ⟨xs.toList, by simp, by simp, fun j cv y h1 h2 => ?_⟩
    rw [List.getElem?_map, h2] at h1
    simp only [Option.map_some, Option.some.injEq] at h1
    subst h1
    exact .v _ y

theorem s_field {t : TypeId} {ti : TI} {x : Operand} {av av' : AV} {cs : List AV} {fs : List (Nat × Nat × Bool)} {f off size : Nat} {agg : Bool} (ho : o.op = .field t x f) (hty : tiOf P t = some ti)
    (hx : evalA T x = some av) (hc : av = .agg cs ∨ ∃ xs, av = .v (.agg xs) ∧ cs = xs.toList.map .v) (hk : ti.k = .struct fs) (hf : fs[f]? = some (off, size, agg))
    (hr : (agg = true ∧ av' = .agg ((cs.drop off).take size)) ∨ (agg = false ∧ cs[off]? = some av')) : Step P o N T H n av' H n true := by
  obtain ⟨i, d, z, hi, hd, hzz, hsz, hagg, hby, hzl, htk⟩ := tiOf_spec hty
  rw [hk] at htk
  obtain ⟨fields, rfl, hfs, hall⟩ := tk_struct htk
  obtain ⟨fl, i', d', hfl, hoff, hi', hd', hsize, hag⟩ := tk_field hfs hall hf
  refine Step.still fun Old wi K m S a w _ ht => ?_
  obtain ⟨xs, hxs, hl, hv⟩ := (ht.eval hx).aggOf hc
  obtain ⟨hp1, hp2⟩ := run_part (P := P) w xs off hi' hd'
  rcases hr with ⟨rfl, rfl⟩ | ⟨rfl, hcv⟩
  · refine ⟨_, ?_, .agg _ _ ((xs.drop off).take size) (by simp [hl]) fun j cv y h1 h2 => ?_⟩
    · simp only [execOp, ho, hxs, Instr.field, Sem.run_bind, run_underlying hd, Result.andThen, hfl, asAgg, Sem.run_pure, hoff, hp1 hag, hsize]
    · rw [List.getElem?_take] at h1 h2
      split at h1
      · rename_i hj
        rw [if_pos hj] at h2
        rw [List.getElem?_drop] at h1 h2
        exact hv _ _ _ h1 h2
      · cases h1
  · have hlt : off < xs.length := by rw [hl]; exact (List.getElem?_eq_some_iff.1 hcv).1
    have hy := List.getElem?_eq_getElem hlt
    refine ⟨_, ?_, hv _ _ _ hcv hy⟩
    simp only [execOp, ho, hxs, Instr.field, Sem.run_bind, run_underlying hd, Result.andThen, hfl, asAgg, Sem.run_pure, hoff, hp2 _ hag hy]

theorem tk_slice {d : TypeDesc} {e : TypeId} {es eb : Nat} {ez : List Value} (h : tkOf P d = .slice e es eb ez) :
    ∃ i z, d = .slice e ∧ P.info? e = some i ∧ i.zero = some z ∧ i.size = es ∧ i.bytes = eb ∧ z.cells.toList = ez := by
  cases d <;> simp only [tkOf] at h
  case slice e' =>
    split at h
    · rename_i i hi
      split at h
      · rename_i z hz
        injection h with h1 h2 h3 h4
        subst h1
        exact ⟨i, z, rfl, hi, hz, h2, h3, h4⟩
      · cases h
    · cases h
  case struct => split at h <;> cases h
  case array => split at h <;> cases h
  all_goals cases h
theorem tk_array {d : TypeDesc} {len es : Nat} {ea : Bool} (h : tkOf P d = .array len es ea) :
    ∃ e i d', d = .array len e ∧ P.info? e = some i ∧ P.underlying e = some d' ∧ i.size = es ∧ aggD d' = ea := by
  cases d <;> simp only [tkOf] at h
  case array n e =>
    split at h
    · rename_i ha
      injection h with h1 h2 h3
      simp only [Bool.and_eq_true, Option.isSome_iff_exists] at ha
      obtain ⟨⟨d, hd⟩, i, hi⟩ := ha
      exact ⟨e, i, d, by rw [h1], hi, hd, by rw [← h2, Program.cellsOf, hi]; rfl, by rw [← h3, isAggP, hd]⟩
    · cases h
  case struct => split at h <;> cases h
  case slice => split at h <;> (try split at h) <;> cases h
  all_goals cases h

/-- the address of an element of a slice that is read only -/
theorem s_index_dsl {t : TypeId} {ti : TI} {x y : Operand} {e : TypeId} {es eb : Nat} {ez : List Value} {rows : List (List AV)} {row : List AV} {k : IntKind} {q : Int} (ho : o.op = .indexAddr t x y) (hty : tiOf P t = some ti)
    (hk : ti.k = .slice e es eb ez) (hx : evalA T x = some (.dsl es rows)) (hy : evalA T y = some (.v (.int k q))) (h0 : 0 ≤ q) (h1 : q < rows.length) (hrow : rows[q.toNat]? = some row) :
    Step P o N T H n (.dptr row) H n true := by
  obtain ⟨i, d, z, hi, hd, hzz, hsz, hagg, hby, hzl, htk⟩ := tiOf_spec hty
  rw [hk] at htk
  obtain ⟨ei, ezz, rfl, hei, _, hes, _, _⟩ := tk_slice htk
  refine Step.still fun Old wi K m S a w _ ht => ?_
  have hv := ht.eval hx
  have hq := ht.eval hy
  generalize hxv : a.eval x = xv at hv
  generalize hyv : a.eval y = yv at hq
  cases hq
  cases hv with
  | dsl0 => exact absurd h1 (by simp; omega)
  | dsl _ _ _ rn b p c xs hn hc hK hl hx2 hv2 =>
    refine ⟨.pointer (some ⟨b, p + q.toNat * es, none⟩), ?_, .dptr _ row b _ (xs q.toNat) hK (fun j cv hj => hx2 _ _ _ _ hrow hj) (fun j cv hj => hv2 _ _ _ _ hrow hj)⟩
    subst hn
    simp only [execOp, ho, hxv, hyv, Instr.indexAt, asIntOf, Sem.run_bind, Sem.run_pure, run_underlying hd, Result.andThen]
    rw [if_pos ⟨h0, h1⟩]
    simp [run_sizeOf w hei, Program.cellsOf, hei, hes, Go.WideShapes.add_plain]

end
end Go.Proofs.Ytglfcaioapdiaaa.Aw
