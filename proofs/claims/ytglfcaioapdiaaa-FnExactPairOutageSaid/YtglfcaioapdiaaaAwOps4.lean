/-
  The operations, one by one, said of the abstract state: stores, made slices, slices of slices, lengths, functions.
-/
import Derived.Test.YtglfcaioapdiaaaAwOps3
namespace Go.Proofs.Ytglfcaioapdiaaa.Aw
open Go Go.RowKit

def setH (H : Hp) (id : Nat) (b : Blk) : Hp := (id, b) :: del H id
theorem look_setH {H : Hp} {id i : Nat} {b c : Blk} (h : look (setH H id b) i = some c) : look ((id, b) :: H) i = some c := by
  unfold setH at h
  simp only [look_cons] at h ⊢
  split
  · rename_i he; rw [if_pos he] at h; exact h
  · rename_i he; rw [if_neg he, look_del_ne H (fun e => he e.symm)] at h; exact h

theorem splice_get (A vs : List Value) (p i : Nat) (hp : p + vs.length ≤ A.length) :
    (A.take p ++ vs ++ A.drop (p + vs.length))[i]? = if i < p then A[i]? else if i < p + vs.length then vs[i - p]? else A[i]? := by
  have hl : (A.take p).length = p := by rw [List.length_take]; omega
  rw [List.append_assoc, List.getElem?_append, hl]
  split
  · rename_i h; rw [List.getElem?_take, if_pos h]
  · rename_i h
    rw [List.getElem?_append]
    split
    · rename_i h2; rw [if_pos (by omega)]
    · rename_i h2
      rw [if_neg (by omega), List.getElem?_drop]
      congr 1
      omega

def splice (r cs : List AV) (col : Nat) : List AV := r.take col ++ cs ++ r.drop (col + cs.length)
theorem spliceA_get (A vs : List AV) (p i : Nat) (hp : p + vs.length ≤ A.length) :
    (splice A vs p)[i]? = if i < p then A[i]? else if i < p + vs.length then vs[i - p]? else A[i]? := by
  unfold splice
  have hl : (A.take p).length = p := by rw [List.length_take]; omega
  rw [List.append_assoc, List.getElem?_append, hl]
  split
  · rename_i h; rw [List.getElem?_take, if_pos h]
  · rename_i h
    rw [List.getElem?_append]
    split
    · rename_i h2; rw [if_pos (by omega)]
    · rename_i h2
      rw [if_neg (by omega), List.getElem?_drop]
      congr 1
      omega
theorem splice_len (A vs : List AV) (p : Nat) (hp : p + vs.length ≤ A.length) : (splice A vs p).length = A.length := by
  unfold splice
  simp
  omega

theorem spl_plv {b : Blk} {row col : Nat} {r cs : List AV} (h : b.pl = true → ∀ (r : Nat) (row : List AV), b.rows[r]? = some row → ∀ (j : Nat) (cv : AV), row[j]? = some cv → isV cv = true) (hrow : b.rows[row]? = some r) (hcol : col + cs.length ≤ r.length) :
    (b.pl && cs.all isV) = true → ∀ (r' : Nat) (row' : List AV), (b.rows.set row (splice r cs col))[r']? = some row' → ∀ (j : Nat) (cv : AV), row'[j]? = some cv → isV cv = true := by
  intro hp r' row' h1 j cv hj
  simp only [Bool.and_eq_true] at hp
  rw [List.getElem?_set] at h1
  split at h1
  · rename_i he
    split at h1
    · simp only [Option.some.injEq] at h1
      subst h1
      rw [spliceA_get _ _ _ _ hcol] at hj
      split at hj
      · exact h hp.1 _ _ hrow _ _ hj
      · split at hj
        · exact List.all_eq_true.1 hp.2 cv (List.mem_of_getElem? hj)
        · exact h hp.1 _ _ hrow _ _ hj
    · cases h1
  · exact h hp.1 _ _ h1 _ _ hj

section
variable {P : Program} {Old : Nat → Prop} {wi : WI} {K : Nat → Prop} {m : Nat → Loc} {S : Nat → Prop} {H : Hp} {w : World} {N n : Nat} {T : Tp} {o : Oper}

theorem row_apart {r r' sz j p : Nat} (hj : j < sz) (hp : r * sz ≤ p) (hne : r' ≠ r) (hl : p < r * sz + sz) : r' * sz + j ≠ p := by
  rcases Nat.lt_or_gt_of_ne hne with h | h
  · have : (r' + 1) * sz ≤ r * sz := Nat.mul_le_mul_right _ h
    rw [Nat.add_mul] at this
    omega
  · have : (r + 1) * sz ≤ r' * sz := Nat.mul_le_mul_right _ h
    rw [Nat.add_mul] at this
    omega

/-- cells written into one row of a block of the call's own -/
theorem Rel.splice (hr : Rel Old wi K m S H w) {id row col : Nat} {b : Blk} {r cs : List AV} {ys : List Value} (hl : look H id = some b) (hrow : b.rows[row]? = some r) (hcol : col + cs.length ≤ r.length)
    (hys : ys.length = cs.length) (hone : ∀ y ∈ ys, y.oneCell' = true) (hv : ∀ (j : Nat) (cv : AV) (y : Value), cs[j]? = some cv → ys[j]? = some y → VR K w m S cv y) :
    ∃ cur p, w.heap[(m id).blk]? = some (.cells cur b.ty (0, 0)) ∧ p = row * (m id).size + col ∧ p + ys.length ≤ cur.size ∧
      Rel Old wi K m S (setH H id { b with pl := b.pl && cs.all isV, rows := b.rows.set row (Aw.splice r cs col) }) (w.setRow (m id).blk (cur.toList.take p ++ ys ++ cur.toList.drop (p + ys.length)).toArray) := by
  obtain ⟨hph, hb⟩ := (hr.own id b hl).real hrow
  obtain ⟨cur, h1, h2, h3⟩ := hb.ex
  have hrl := (h3 row r hrow).1
  have hrlt : row < b.rows.length := (List.getElem?_eq_some_iff.1 hrow).1
  have hcap : row < (m id).cap := Nat.lt_of_lt_of_le hrlt hb.cap
  have hfit : (row + 1) * b.size ≤ (m id).cap * b.size := Nat.mul_le_mul_right _ hcap
  rw [Nat.add_mul, Nat.one_mul] at hfit
  have hp : row * b.size + col + ys.length ≤ cur.size := by rw [h2]; omega
  have hpl : row * b.size + col + ys.length ≤ cur.toList.length := by simpa using hp
  refine ⟨cur, row * (m id).size + col, h1, rfl, by rw [hb.sz]; exact hp, ?_⟩
  rw [hb.sz]
  refine Rel.sub (H := (id, _) :: H) ?_ (fun i c h => look_setH h)
  refine hr.write hl hph _ rfl rfl rfl rfl rfl (by simp) (fun k hk => setRow_other _ _ _ _ hk) (setRow_heap _ _ _ _ _ _ h1) (by simpa using hb.cap) ?_ ?_ ?_
  · exact spl_plv hb.plv hrow hcol
  · rw [← h2]; simp; omega
  · intro r' row' hrow'
    rw [List.getElem?_set] at hrow'
    by_cases hrr : row = r'
    · subst hrr
      rw [if_pos rfl, if_pos hrlt] at hrow'
      simp only [Option.some.injEq] at hrow'
      subst hrow'
      refine ⟨by rw [splice_len _ _ _ hcol]; exact hrl, fun j cv hj => ?_⟩
      rw [spliceA_get _ _ _ _ hcol] at hj
      rw [List.getElem?_toArray, splice_get _ _ _ _ hpl]
      by_cases hj1 : j < col
      · rw [if_pos hj1] at hj
        rw [if_pos (by omega), Array.getElem?_toList]
        obtain ⟨x, hx, hone', hvx⟩ := (h3 row r hrow).2 j cv hj
        refine ⟨x, hx, hone', ?_⟩
        refine hvx.mono (fun _ h => h) (fun _ _ => rfl) (fun i hi => ⟨hi.1, by simp [hi.2]⟩) (fun _ _ => rfl)
      · rw [if_neg hj1] at hj
        rw [if_neg (by omega)]
        by_cases hj2 : j < col + cs.length
        · rw [if_pos hj2] at hj
          rw [if_pos (by omega)]
          have hlt : j - col < ys.length := by omega
          have hy := List.getElem?_eq_getElem hlt
          refine ⟨_, by rw [show row * b.size + j - (row * b.size + col) = j - col by omega]; exact hy, hone _ (List.getElem_mem _), ?_⟩
          have hvv := hv _ _ _ hj hy
          by_cases hall : cs.all isV = true
          · have := List.all_eq_true.1 hall cv (List.mem_of_getElem? hj)
            cases cv <;> simp only [isV] at this <;> try (cases this)
            cases hvv
            exact .v _ _
          · exact hvv.mono (fun _ h => h) (fun _ _ => rfl) (fun i hi => ⟨hi, by simp [hall]⟩) (fun _ _ => rfl)
        · rw [if_neg hj2] at hj
          rw [if_neg (by omega), Array.getElem?_toList]
          obtain ⟨x, hx, hone', hvx⟩ := (h3 row r hrow).2 j cv hj
          refine ⟨x, hx, hone', ?_⟩
          exact hvx.mono (fun _ h => h) (fun _ _ => rfl) (fun i hi => ⟨hi.1, by simp [hi.2]⟩) (fun _ _ => rfl)
    · rw [if_neg hrr] at hrow'
      refine ⟨(h3 r' row' hrow').1, fun j cv hj => ?_⟩
      obtain ⟨x, hx, hone', hvx⟩ := (h3 r' row' hrow').2 j cv hj
      have hjlt : j < b.size := by rw [← (h3 r' row' hrow').1]; exact (List.getElem?_eq_some_iff.1 hj).1
      refine ⟨x, ?_, hone', hvx.mono (fun _ h => h) (fun _ _ => rfl) (fun i hi => ⟨hi.1, by simp [hi.2]⟩) (fun _ _ => rfl)⟩
      rw [List.getElem?_toArray, splice_get _ _ _ _ hpl]
      by_cases ha : r' * b.size + j < row * b.size + col
      · rw [if_pos ha, Array.getElem?_toList]; exact hx
      · rw [if_neg ha]
        have hnot : ¬ (r' * b.size + j < row * b.size + col + ys.length) := fun hlt =>
          row_apart (p := r' * b.size + j) hjlt (by omega) (fun e => hrr e.symm) (by omega) rfl
        rw [if_neg hnot, Array.getElem?_toList]
        exact hx

theorem s_store {t : TypeId} {ti : TI} {x y : Operand} {id row col : Nat} {b : Blk} {r : List AV} {av : AV} (ho : o.op = .store t x y) (hty : tiOf P t = some ti) (hx : evalA T x = some (.ptr id row col))
    (hl : look H id = some b) (hrow : b.rows[row]? = some r) (hy : evalA T y = some av) (hn : (cellsA av).length = ti.cells) (hcol : col + ti.cells ≤ r.length) (h1 : (cellsA av).all AV.one = true) :
    Step P o N T H n (.v undef) (setH H id { b with pl := b.pl && (cellsA av).all isV, rows := b.rows.set row (splice r (cellsA av) col) }) n false := by
  obtain ⟨i, d, z, hi, hd, hzz, hsz, hagg, hby, hzl, htk⟩ := tiOf_spec hty
  refine ⟨Nat.le_refl _, fun Old wi K m S a w hS hr ht next Q hnx => ?_⟩
  have hv := ht.eval hx
  have hvy := ht.eval hy
  obtain ⟨hcl, hcv⟩ := hvy.cells
  have hone : ∀ y' ∈ (a.eval y).cells.toList, y'.oneCell' = true := by
    intro y' hy'
    obtain ⟨j, hj⟩ := List.mem_iff_getElem?.1 hy'
    have hlt : j < (cellsA av).length := by rw [← hcl]; exact (List.getElem?_eq_some_iff.1 hj).1
    have hc := List.getElem?_eq_getElem hlt
    exact (hcv j _ _ hc hj).one (List.all_eq_true.1 h1 _ (List.mem_of_getElem? hc))
  obtain ⟨cur, p, hg, hp, hfit, hrel⟩ := hr.splice hl hrow (by rw [hn]; exact hcol) hcl hone hcv
  generalize hxv : a.eval x = xv at hv
  cases hv with
  | ptr _ _ _ _ q hs hq =>
    have hpq : q = p := by rw [hp]; exact hq
    subst hpq
    have hst := run_storeCells_at P (m id).blk q b.ty (a.eval y).cells.toList 0 cur w hg (by simpa using hfit) hone
    unfold Oper.wp
    have hsize : (a.eval y).cells.size = ti.cells := by rw [← hn, ← hcl]; simp
    have hrun : (execOp a.eval o).run P w = .ok .skip (w.setRow (m id).blk (cur.toList.take q ++ (a.eval y).cells.toList ++ cur.toList.drop (q + (a.eval y).cells.toList.length)).toArray) := by
      simp only [execOp, ho, hxv, Instr.storeAt, Instr.sureAddr, Sem.run_bind, Sem.run_pure, Result.andThen, storeVar, run_sizeOf w hi, Program.cellsOf, hi, Option.map_some, Option.getD_some, hsz, hsize, ne_eq, not_true_eq_false, if_false]
      simp only [Nat.add_zero] at hst
      rw [hst]
    rw [hrun]
    have hm : ∀ i, S i → addS S n n i := fun i hi => .inl hi
    exact hnx undef _ m K ⟨fun _ _ => rfl, GK.refl _ _, hrel.monoS hm (fun _ _ => rfl), .v _ _, fun k hk => setRow_other _ _ _ _ (fun e => ((hr.own id b hl).real hrow).2.nk (e ▸ hk)), fun h => by cases h⟩

theorem evals_of {a : Act} (ht : TRel K w m S N T a) : ∀ (l : List Operand) (caps : List AV), l.mapM (evalA T) = some caps →
    (l.map a.eval).length = caps.length ∧ ∀ (j : Nat) (cv : AV) (y : Value), caps[j]? = some cv → (l.map a.eval)[j]? = some y → VR K w m S cv y
  | [], caps, h => by simp at h; subst h; simp
  | x :: l, caps, h => by
    rw [List.mapM_cons] at h
    cases hx : evalA T x with
    | none => simp [hx] at h
    | some av =>
      cases hl : l.mapM (evalA T) with
      | none => simp [hx, hl] at h
      | some cs =>
        simp only [hx, hl, Option.pure_def, Option.bind_eq_bind, Option.bind_some, Option.some.injEq] at h
        subst h
        obtain ⟨i1, i2⟩ := evals_of ht l cs hl
        refine ⟨by simp at i1 ⊢; exact i1, fun j cv y h1 h2 => ?_⟩
        cases j with
        | zero => simp at h1 h2; subst h1 h2; exact ht.eval hx
        | succ j => simp only [List.getElem?_cons_succ, List.map_cons] at h1 h2; exact i2 j cv y h1 h2

theorem s_makeFunc {f : FuncId} {cs : Array Operand} {caps : List AV} (ho : o.op = .makeFunc (.func f) #[] cs) (hc : cs.toList.mapM (evalA T) = some caps) : Step P o N T H n (.fn f caps) H n true :=
  Step.still fun Old wi K m S a w hr ht => by
    obtain ⟨k1, k2⟩ := evals_of ht _ _ hc
    refine ⟨.func (.func f) #[] (cs.toList.map a.eval).toArray, ?_, .fn _ f caps _ k1 k2⟩
    simp only [execOp, ho, Instr.makeFunc]
    obtain ⟨cs⟩ := cs
    simp

theorem s_len {x : Operand} {t : TypeId} {ti : TI} {av : AV} {l : Int} (ho : o.op = .call { callee := .builtin .len, args := #[x], argTypes := #[t] }) (hty : tiOf P t = some ti) (hx : evalA T x = some av)
    (hc : (ti.k = .str ∧ ∃ s, av = .v (.string s) ∧ l = s.size) ∨ ∃ e es eb ez, ti.k = .slice e es eb ez ∧ ((∃ sz rows, av = .dsl sz rows ∧ l = rows.length) ∨ (∃ id row len, av = .sl id row len ∧ l = len) ∨ ∃ ad len cap, av = .v (.slice ad len cap) ∧ l = len)) :
    Step P o N T H n (.v (.int .i64 l)) H n true := by
  obtain ⟨i, d, z, hi, hd, hzz, hsz, hagg, hby, hzl, htk⟩ := tiOf_spec hty
  refine Step.still fun Old wi K m S a w hr ht => ?_
  have hv := ht.eval hx
  refine ⟨_, ?_, .v _ _⟩
  generalize hxv : a.eval x = xv at hv
  rcases hc with ⟨hk, s, rfl, rfl⟩ | ⟨e, es, eb, ez, hk, hc⟩
  · rw [hk] at htk
    have hdd : d = .string := by
      cases d <;> simp only [tkOf] at htk
      case string => rfl
      case struct => split at htk <;> cases htk
      case slice => split at htk <;> (try split at htk) <;> cases htk
      case array => split at htk <;> cases htk
      all_goals cases htk
    subst hdd
    cases hv
    simp [execOp, ho, resolve, invoke, builtin, Builtin.len_, hxv, run_underlying hd, goInt]
  · rw [hk] at htk
    obtain ⟨ei, ezz, rfl, hei, _, hes, _, _⟩ := tk_slice htk
    rcases hc with ⟨sz, rows, rfl, rfl⟩ | ⟨id, row, len, rfl, rfl⟩ | ⟨ad, len, cap, rfl, rfl⟩ <;> cases hv <;> simp_all [execOp, resolve, invoke, builtin, Builtin.len_, run_underlying hd, goInt]

end
end Go.Proofs.Ytglfcaioapdiaaa.Aw
