/-
  The operations, one by one, said of the abstract state: the greater and the lesser, composite values, slices of slices.
-/
import Derived.Test.YtglfcaioapdiaaaAwOps4
namespace Go.Proofs.Ytglfcaioapdiaaa.Aw
open Go Go.RowKit

def mxI (a b : Int) : Int := if b > a then b else a
def mnI (a b : Int) : Int := if b < a then b else a

section
variable {P : Program} {Old : Nat → Prop} {wi : WI} {K : Nat → Prop} {m : Nat → Loc} {S : Nat → Prop} {H : Hp} {w : World} {N n : Nat} {T : Tp} {o : Oper}

theorem s_max {x y : Operand} {ts : Array TypeId} {k : IntKind} {p q : Int} (ho : o.op = .call { callee := .builtin .max, args := #[x, y], argTypes := ts }) (hx : evalA T x = some (.v (.int k p))) (hy : evalA T y = some (.v (.int k q))) :
    Step P o N T H n (.v (.int k (mxI p q))) H n true :=
  Step.still fun Old wi K m S a w hr ht => by
    have h1 := ht.eval hx
    have h2 := ht.eval hy
    generalize hxv : a.eval x = xv at h1
    generalize hyv : a.eval y = yv at h2
    cases h1
    cases h2
    exact ⟨_, by simp [execOp, ho, resolve, invoke, builtin, Builtin.max_, Builtin.max2, hxv, hyv, mxI], .v _ _⟩
theorem s_min {x y : Operand} {ts : Array TypeId} {k : IntKind} {p q : Int} (ho : o.op = .call { callee := .builtin .min, args := #[x, y], argTypes := ts }) (hx : evalA T x = some (.v (.int k p))) (hy : evalA T y = some (.v (.int k q))) :
    Step P o N T H n (.v (.int k (mnI p q))) H n true :=
  Step.still fun Old wi K m S a w hr ht => by
    have h1 := ht.eval hx
    have h2 := ht.eval hy
    generalize hxv : a.eval x = xv at h1
    generalize hyv : a.eval y = yv at h2
    cases h1
    cases h2
    exact ⟨_, by simp [execOp, ho, resolve, invoke, builtin, Builtin.min_, Builtin.min2, hxv, hyv, mnI], .v _ _⟩

/-- two lists, cell by cell -/
def VRl (K : Nat → Prop) (w : World) (m : Nat → Loc) (S : Nat → Prop) (cs : List AV) (xs : List Value) : Prop :=
  xs.length = cs.length ∧ ∀ (j : Nat) (cv : AV) (y : Value), cs[j]? = some cv → xs[j]? = some y → VR K w m S cv y
theorem VRl.get {cs : List AV} {xs : List Value} (h : VRl K w m S cs xs) {j : Nat} {cv : AV} (hj : cs[j]? = some cv) : ∃ y, xs[j]? = some y ∧ VR K w m S cv y := by
  have hlt : j < xs.length := by rw [h.1]; exact (List.getElem?_eq_some_iff.1 hj).1
  exact ⟨_, List.getElem?_eq_getElem hlt, h.2 j cv _ hj (List.getElem?_eq_getElem hlt)⟩
theorem VRl.map_v (xs : List Value) : VRl K w m S (xs.map .v) xs :=
  ⟨by simp, fun j cv y h1 h2 => by rw [List.getElem?_map, h2] at h1; simp at h1; subst h1; exact .v _ _⟩
theorem VRl.splice {cs ds : List AV} {xs ys : List Value} {p : Nat} (h : VRl K w m S cs xs) (h2 : VRl K w m S ds ys) (hp : p + ds.length ≤ cs.length) : VRl K w m S (Aw.splice cs ds p) (xs.take p ++ ys ++ xs.drop (p + ys.length)) := by
  refine ⟨by rw [splice_len _ _ _ hp]; simp [h.1, h2.1]; omega, fun j cv y g1 g2 => ?_⟩
  rw [spliceA_get _ _ _ _ hp] at g1
  rw [splice_get _ _ _ _ (by rw [h.1, h2.1]; exact hp), h2.1] at g2
  by_cases hj : j < p
  · rw [if_pos hj] at g1 g2; exact h.2 _ _ _ g1 g2
  · rw [if_neg hj] at g1 g2
    by_cases hj2 : j < p + ds.length
    · rw [if_pos hj2] at g1 g2; exact h2.2 _ _ _ g1 g2
    · rw [if_neg hj2] at g1 g2; exact h.2 _ _ _ g1 g2

theorem fill_fold (off : Nat) : ∀ (l : List Value) (k : Nat) (cells : Array Value), off + k + l.length ≤ cells.size →
    ((l.zipIdx k).foldl (fun cs (p : Value × Nat) => cs.setIfInBounds (off + p.2) p.1) cells).toList = cells.toList.take (off + k) ++ l ++ cells.toList.drop (off + k + l.length)
  | [], k, cells, _ => by simp
  | x :: l, k, cells, h => by
    simp only [List.length_cons] at h
    rw [List.zipIdx_cons, List.foldl_cons, fill_fold off l (k + 1) _ (by simp; omega)]
    simp only [Array.toList_setIfInBounds, List.length_cons]
    have hlt : off + k < cells.toList.length := by simp; omega
    rw [show off + (k + 1) = off + k + 1 by omega, List.take_set, List.drop_set]
    rw [if_pos (by omega)]
    rw [List.take_add_one, List.set_append]
    have h1 : (List.take (off + k) cells.toList).length = off + k := by rw [List.length_take]; omega
    rw [if_neg (by omega), h1, Nat.sub_self, List.getElem?_eq_getElem hlt]
    simp [Nat.add_assoc, Nat.add_comm 1]

/-- the parts of a composite value, laid one after the other -/
def fillA (place : Nat → Option (Nat × Nat)) : List AV → List (Nat × AV) → Option (List AV)
  | cs, [] => some cs
  | cs, (i, v) :: rest => match place i with
    | some (off, size) => match Nat.beq (cellsA v).length size && Nat.ble (off + size) cs.length with
      | true => fillA place (splice cs (cellsA v) off) rest
      | false => none
    | none => none

theorem fill_vr (place : Nat → Option (Nat × Nat)) : ∀ (parts : List (Nat × AV)) (ps : List (Nat × Value)) (cs cs' : List AV) (cells : Array Value), VRl K w m S cs cells.toList → fillA place cs parts = some cs' → ps.length = parts.length →
    (∀ (j i : Nat) (v : AV), parts[j]? = some (i, v) → ∃ x, ps[j]? = some (i, x) ∧ VR K w m S v x) → ∃ xs, Instr.fill place cells ps = some xs ∧ VRl K w m S cs' xs.toList
  | [], ps, cs, cs', cells, h, hf, hl, _ => by
    simp only [fillA, Option.some.injEq] at hf
    subst hf
    cases ps with
    | nil => exact ⟨cells, rfl, h⟩
    | cons p ps => simp at hl
  | (i, v) :: parts, [], cs, cs', cells, _, _, hl, _ => by simp at hl
  | (i, v) :: parts, (i', x) :: ps, cs, cs', cells, h, hf, hl, hp => by
    obtain ⟨y, hy, hv⟩ := hp 0 i v rfl
    simp only [List.getElem?_cons_zero, Option.some.injEq, Prod.mk.injEq] at hy
    obtain ⟨rfl, rfl⟩ := hy
    simp only [fillA] at hf
    cases hpl : place i' with
    | none => simp [hpl] at hf
    | some os =>
      obtain ⟨off, size⟩ := os
      simp only [hpl] at hf
      split at hf
      · rename_i hc
        simp only [Bool.and_eq_true, Nat.ble_eq] at hc
        obtain ⟨hc1, hc2⟩ := hc
        have hc1 := Nat.eq_of_beq_eq_true hc1
        obtain ⟨hcl, hcv⟩ := hv.cells
        have hxs : x.cells.size = size := by rw [← hc1, ← hcl]; simp
        have hcs : cells.size = cs.length := by have := h.1; simpa using this
        simp only [Instr.fill, hpl]
        have hno : ¬ (x.cells.size ≠ size || off + x.cells.size > cells.size) = true := by simp [hxs, hcs]; omega
        rw [if_neg hno]
        have hfold : (x.cells.zipIdx.foldl (fun cs (c, j) => cs.setIfInBounds (off + j) c) cells).toList = cells.toList.take off ++ x.cells.toList ++ cells.toList.drop (off + x.cells.toList.length) := by
          rw [← Array.foldl_toList, Array.toList_zipIdx]
          exact fill_fold off x.cells.toList 0 cells (by simp [hxs, hcs]; omega)
        refine fill_vr place parts ps _ cs' _ ?_ hf (by simpa using hl) (fun j k u hj => by have := hp (j + 1) k u (by simpa using hj); simpa using this)
        rw [hfold]
        exact h.splice ⟨hcl, hcv⟩ (by rw [hc1]; exact hc2)
      · cases hf

theorem run_mapM {α β : Type} (f : α → Sem β) (g : α → β) (w : World) : ∀ (l : List α), (∀ x ∈ l, (f x).run P w = .ok (g x) w) → (l.mapM f).run P w = .ok (l.map g) w
  | [], _ => rfl
  | x :: l, h => by
    rw [List.mapM_cons, Sem.run_bind, h x List.mem_cons_self]
    simp only [Result.andThen, Sem.run_bind, run_mapM f g w l (fun y hy => h y (List.mem_cons_of_mem _ hy)), Sem.run_pure, List.map_cons]

theorem evals_parts {a : Act} (ht : TRel K w m S N T a) : ∀ (l : List (Nat × Operand)) (ps : List (Nat × AV)), l.mapM (fun p => (evalA T p.2).map fun v => (p.1, v)) = some ps →
    (l.map fun p => (p.1, a.eval p.2)).length = ps.length ∧ ∀ (j i : Nat) (v : AV), ps[j]? = some (i, v) → ∃ x, (l.map fun p => (p.1, a.eval p.2))[j]? = some (i, x) ∧ VR K w m S v x := by
  intro l ps h
  obtain ⟨h1, h2⟩ : ps.length = l.length ∧ ∀ (j : Nat) (y : Nat × AV), ps[j]? = some y → ∃ x, l[j]? = some x ∧ (evalA T x.2).map (fun v => (x.1, v)) = some y := by
    clear ht
    induction l generalizing ps with
    | nil => simp at h; subst h; simp
    | cons x l ih =>
      rw [List.mapM_cons] at h
      cases hx : (evalA T x.2).map fun v => (x.1, v) with
      | none => simp [hx] at h
      | some y =>
        cases hl : l.mapM (fun p => (evalA T p.2).map fun v => (p.1, v)) with
        | none => simp [hx, hl] at h
        | some ys =>
          simp only [hx, hl, Option.pure_def, Option.bind_eq_bind, Option.bind_some, Option.some.injEq] at h
          subst h
          obtain ⟨i1, i2⟩ := ih ys hl
          refine ⟨by simp [i1], fun j z hj => ?_⟩
          cases j with
          | zero => simp at hj; subst hj; exact ⟨x, rfl, hx⟩
          | succ j => simp only [List.getElem?_cons_succ] at hj ⊢; exact i2 j z hj
  refine ⟨by simp [h1], fun j i v hj => ?_⟩
  obtain ⟨x, hx, he⟩ := h2 j (i, v) hj
  cases hev : evalA T x.2 with
  | none => simp [hev] at he
  | some u =>
    simp only [hev, Option.map_some, Option.some.injEq, Prod.mk.injEq] at he
    obtain ⟨rfl, rfl⟩ := he
    exact ⟨a.eval x.2, by rw [List.getElem?_map, hx]; rfl, ht.eval hev⟩

def plS (fs : List (Nat × Nat × Bool)) (i : Nat) : Option (Nat × Nat) := match fs[i]? with
  | some (o, s, _) => some (o, s)
  | none => none
theorem s_build {t : TypeId} {ti : TI} {parts : Array (Nat × Operand)} {ps : List (Nat × AV)} {cs : List AV} {fs : List (Nat × Nat × Bool)} (ho : o.op = .build t parts) (hty : tiOf P t = some ti) (hk : ti.k = .struct fs)
    (hp : parts.toList.mapM (fun p => (evalA T p.2).map fun v => (p.1, v)) = some ps) (hc : fillA (plS fs) (ti.zero.map .v) ps = some cs) : Step P o N T H n (.agg cs) H n true := by
  obtain ⟨i, d, z, hi, hd, hzz, hsz, hagg, hby, hzl, htk⟩ := tiOf_spec hty
  rw [hk] at htk
  obtain ⟨fields, rfl, hfs, hall⟩ := tk_struct htk
  refine Step.still fun Old wi K m S a w hr ht => ?_
  obtain ⟨e1, e2⟩ := evals_parts ht _ _ hp
  have hzv : VRl K w m S (ti.zero.map .v) z.cells.toList := by rw [hzl]; exact VRl.map_v _
  obtain ⟨xs, hx, hv⟩ := fill_vr _ ps (parts.toList.map fun p => (p.1, a.eval p.2)) _ cs z.cells hzv hc e1 e2
  refine ⟨.agg xs.toList.toArray, ?_, .agg _ _ _ hv.1 hv.2⟩
  have hpl : (fields.mapM fun f => do pure (f.offset, ← sizeOf f.type) : Sem (Array (Nat × Nat))).run P w = .ok (fields.toList.map fun f => (f.offset, P.cellsOf f.type)).toArray w := by
    obtain ⟨fl⟩ := fields
    simp only [List.mapM_toArray, Sem.run_map]
    rw [run_mapM _ (fun f => (f.offset, P.cellsOf f.type)) w fl]
    · rfl
    · intro f hf
      have := Array.all_eq_true_iff_forall_mem.1 hall f (by simpa using hf)
      simp only [Bool.and_eq_true, Option.isSome_iff_exists] at this
      obtain ⟨_, ii, hii⟩ := this
      simp [run_sizeOf w hii, Result.andThen]
  have hplace : (fun i => ((fields.toList.map fun f => (f.offset, P.cellsOf f.type)).toArray)[i]?) = plS fs := by
    funext i
    unfold plS
    rw [hfs]
    simp only [List.getElem?_toArray, List.getElem?_map]
    cases fields.toList[i]? <;> rfl
  have hparts : (parts.map fun (p : Nat × Operand) => (p.1, a.eval p.2)).toList = parts.toList.map fun p => (p.1, a.eval p.2) := by simp
  simp only [execOp, ho, Instr.build, Sem.run_bind, zeroValue, run_typeInfo w hi, Result.andThen, hzz, Sem.run_pure, run_underlying hd, hpl]
  have hx' : Instr.fill (fun i => ((fields.toList.map fun f => (f.offset, P.cellsOf f.type)).toArray)[i]?) z.cells (parts.map fun (p : Nat × Operand) => (p.1, a.eval p.2)).toList = some xs := by rw [hplace, hparts]; exact hx
  rw [hx']
  simp

end
end Go.Proofs.Ytglfcaioapdiaaa.Aw
