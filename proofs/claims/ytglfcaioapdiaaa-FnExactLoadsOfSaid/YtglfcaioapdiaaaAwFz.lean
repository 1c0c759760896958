/-
  What was made anew and is not written again becomes read only.
-/
import Derived.Test.YtglfcaioapdiaaaAwFun
namespace Go.Proofs.Ytglfcaioapdiaaa.Aw
open Go Go.RowKit
set_option linter.unusedVariables false

mutual
def noOwn : AV → Bool
  | .ptr _ _ _ => false
  | .sl _ _ _ => false
  | .sx _ _ _ _ => false
  | .om _ _ => false
  | .agg cs => noOwnL cs
  | .tup cs => noOwnL cs
  | .fn _ cs => noOwnL cs
  | _ => true
def noOwnL : List AV → Bool
  | [] => true
  | x :: xs => noOwn x && noOwnL xs
end
theorem noOwnL_get : ∀ {l : List AV} {j : Nat} {v : AV}, noOwnL l = true → l[j]? = some v → noOwn v = true
  | [], j, v, _, h => by simp at h
  | x :: l, 0, v, h, h2 => by simp [noOwnL] at h; simp at h2; subst h2; exact h.1
  | x :: l, j + 1, v, h, h2 => by simp [noOwnL] at h; simp at h2; exact noOwnL_get h.2 h2

theorem VR.noS {K : Nat → Prop} {w : World} {m : Nat → Loc} {S : Nat → Prop} {av : AV} {x : Value} (h : VR K w m S av x) : noOwn av = true → ∀ S', VR K w m S' av x := by
  induction h with
  | v S x => intro _ S'; exact .v _ _
  | dsl0 S size a c => intro _ S'; exact .dsl0 _ _ _ _
  | dsl S size rows n b o c xs hn hc hk hl hx hv ih => intro _ S'; exact .dsl _ _ _ n b o c xs hn hc hk hl hx hv
  | dptr S cells b o xs hk hx hv ih => intro _ S'; exact .dptr _ _ b o xs hk hx hv
  | om S id D es c b hs hp hq hb hk ho hD => intro h; simp [noOwn] at h
  | emp S a => intro _ S'; exact .emp _ _
  | ptr S id row col o hs ho => intro h; simp [noOwn] at h
  | sl S id row len o c hs hp ho hc => intro h; simp [noOwn] at h
  | sl0 S id row a hs => intro h; simp [noOwn] at h
  | sx S id row len cap o c hs hp ho hcap hc => intro h; simp [noOwn] at h
  | agg S cs xs hl hv ih =>
    intro h S'
    simp only [noOwn] at h
    exact .agg _ _ _ hl fun j cv y h1 h2 => ih j cv y h1 h2 (noOwnL_get h h1) S'
  | tup S cs xs hl hv ih =>
    intro h S'
    simp only [noOwn] at h
    exact .tup _ _ _ hl fun j cv y h1 h2 => ih j cv y h1 h2 (noOwnL_get h h1) S'
  | fn S f cs xs hl hv ih =>
    intro h S'
    simp only [noOwn] at h
    exact .fn _ _ _ _ hl fun j cv y h1 h2 => ih j cv y h1 h2 (noOwnL_get h h1) S'

/-- what a block holds speaks of no block of the call's own -/
def Closed (b : Blk) : Prop := ∀ (r : Nat) (row : List AV), b.rows[r]? = some row → ∀ (j : Nat) (cv : AV), row[j]? = some cv → noOwn cv = true
theorem Closed.of {b : Blk} (h : b.rows.all noOwnL = true) : Closed b := fun r row hr j cv hj =>
  noOwnL_get (List.all_eq_true.1 h row (List.mem_of_getElem? hr)) hj

/-- a value that names block id, and the same value when that block is read only -/
inductive Frz (id : Nat) (b : Blk) : AV → AV → Prop
  | sl (row len : Nat) (hn : row + len ≤ b.rows.length) : Frz id b (.sl id row len) (.dsl b.size ((b.rows.drop row).take len))
  | ptr (row col : Nat) (r : List AV) (hr : b.rows[row]? = some r) : Frz id b (.ptr id row col) (.dptr (r.drop col))
inductive FrzL (id : Nat) (b : Blk) : List AV → List AV → Prop
  | nil : FrzL id b [] []
  | same (v : AV) {l l' : List AV} (h : FrzL id b l l') : FrzL id b (v :: l) (v :: l')
  | one {v v' : AV} {l l' : List AV} (hf : Frz id b v v') (h : FrzL id b l l') : FrzL id b (v :: l) (v' :: l')
theorem FrzL.refl (id : Nat) (b : Blk) : ∀ l : List AV, FrzL id b l l
  | [] => .nil
  | v :: l => .same v (.refl id b l)
theorem FrzL.set {id : Nat} {b : Blk} {v v' : AV} (hf : Frz id b v v') : ∀ {l : List AV} {j : Nat}, l[j]? = some v → FrzL id b l (l.set j v')
  | [], j, h => by simp at h
  | x :: l, 0, h => by simp at h; subst h; exact .one hf (.refl _ _ l)
  | x :: l, j + 1, h => by simp at h; exact .same x (FrzL.set hf h)
theorem FrzL.get {id : Nat} {b : Blk} {l l' : List AV} (h : FrzL id b l l') : l'.length = l.length ∧ ∀ (j : Nat) (v' : AV), l'[j]? = some v' → ∃ v, l[j]? = some v ∧ (v = v' ∨ Frz id b v v') := by
  induction h with
  | nil => simp
  | same v h ih =>
    refine ⟨by simp [ih.1], fun j z hj => ?_⟩
    cases j with
    | zero => simp at hj; subst hj; exact ⟨_, rfl, .inl rfl⟩
    | succ j => simp only [List.getElem?_cons_succ] at hj ⊢; exact ih.2 j z hj
  | one hf h ih =>
    refine ⟨by simp [ih.1], fun j z hj => ?_⟩
    cases j with
    | zero => simp at hj; subst hj; exact ⟨_, rfl, .inr hf⟩
    | succ j => simp only [List.getElem?_cons_succ] at hj ⊢; exact ih.2 j z hj
/-- .. an aggregate or a tuple with such a value in it -/
inductive FrzA (id : Nat) (b : Blk) : AV → AV → Prop
  | one {v v' : AV} (h : Frz id b v v') : FrzA id b v v'
  | agg {cs cs' : List AV} (h : FrzL id b cs cs') : FrzA id b (.agg cs) (.agg cs')
  | tup {cs cs' : List AV} (h : FrzL id b cs cs') : FrzA id b (.tup cs) (.tup cs')
inductive FrzT (T : Tp) (id : Nat) (b : Blk) : Tp → Prop
  | nil : FrzT T id b []
  | cons {t : Nat} {v v' : AV} {T1 : Tp} (hl : look T t = some v) (h : FrzA id b v v') (h1 : FrzT T id b T1) : FrzT T id b ((t, v') :: T1)
theorem FrzT.get {T : Tp} {id : Nat} {b : Blk} {T1 : Tp} (h : FrzT T id b T1) : ∀ {t : Nat} {v' : AV}, look T1 t = some v' → ∃ v, look T t = some v ∧ FrzA id b v v' := by
  induction h with
  | nil => intro t v' h; simp [look_nil] at h
  | cons hl hf h1 ih =>
    intro t v' h
    rw [look_cons] at h
    split at h
    · rename_i he; subst he; simp only [Option.some.injEq] at h; subst h; exact ⟨_, hl, hf⟩
    · exact ih h

section
variable {P : Program} {Old : Nat → Prop} {wi : WI} {K : Nat → Prop} {m : Nat → Loc} {S : Nat → Prop} {H : Hp} {w : World} {N n g : Nat} {T T1 : Tp} {a : Act} {Q : Exit → Tp → Hp → Nat → Prop}

theorem Frz.vr {id : Nat} {b : Blk} (hr : Rel Old wi K m S H w) (hl : look H id = some b) (hc : Closed b) {K' : Nat → Prop} (hK : ∀ k, K k → K' k) (hk : (m id).ph = false → K' (m id).blk) {S' : Nat → Prop} {v v' : AV} {x : Value} (hf : Frz id b v v') (hv : VR K w m S v x) : VR K' w m S' v' x := by
  cases hf with
  | ptr row col r hrow =>
    obtain ⟨g, p, rfl, hrd⟩ := rd_at hr hv (.inr ⟨id, row, col, b, r, rfl, hl, hrow, rfl⟩)
    obtain ⟨hph, hbr⟩ := (hr.own id b hl).real hrow
    cases hv with
    | ptr _ _ _ _ q hS ho =>
      refine .dptr _ _ _ _ (fun j => (w.cell? ⟨(m id).blk, p + j, none⟩).getD undef) (hk hph) (fun j cv hj => ?_) (fun j cv hj => ?_)
      · obtain ⟨y, hy, hone, _⟩ := hrd j cv hj
        rw [hy]; exact ⟨rfl, hone⟩
      · obtain ⟨y, hy, hone, hvy⟩ := hrd j cv hj
        simp only [hy, Option.getD_some]
        rw [List.getElem?_drop] at hj
        exact (hvy.noS (hc row r hrow _ cv hj) NoS).mono hK (fun _ _ => rfl) (fun _ h => h) (fun _ _ => rfl)
  | sl row len hn =>
    cases hv with
    | sl0 _ _ _ ad hS => rw [List.take_zero]; exact .dsl0 _ _ _ _
    | sl _ _ _ _ p c hS hph hp hcc =>
      have hb := (hr.own id b hl).br hph
      obtain ⟨cur, h1, h2, h3⟩ := hb.ex
      have hcap := hb.cap
      have hlen : ((b.rows.drop row).take len).length = len := by simp; omega
      let xs : Nat → Nat → Value := fun r j => (w.cell? ⟨(m id).blk, p + r * b.size + j, none⟩).getD undef
      have cell : ∀ (q : Nat) (rw_ : List AV), ((b.rows.drop row).take len)[q]? = some rw_ → rw_.length = b.size ∧ ∀ (j : Nat) (cv : AV), rw_[j]? = some cv → w.cell? ⟨(m id).blk, p + q * b.size + j, none⟩ = some (xs q j) ∧ (xs q j).oneCell' = true ∧ VR K' w m NoS cv (xs q j) := by
        intro q rw_ hq
        rw [List.getElem?_take] at hq
        split at hq
        · rw [List.getElem?_drop] at hq
          refine ⟨(h3 _ _ hq).1, fun j cv hj => ?_⟩
          obtain ⟨y, hy, hone, hvy⟩ := (h3 _ _ hq).2 j cv hj
          have hy' : w.cell? ⟨(m id).blk, p + q * b.size + j, none⟩ = some y := by
            rw [cell_of_row w _ _ _ _ _ h1, hp, hb.sz, ← Nat.add_mul]; exact hy
          simp only [xs, hy', Option.getD_some]
          exact ⟨trivial, hone, (hvy.noS (hc _ rw_ hq j cv hj) NoS).mono hK (fun _ _ => rfl) (fun _ h => h) (fun _ _ => rfl)⟩
        · cases hq
      exact .dsl _ _ _ len _ p c xs hlen.symm (by rw [hlen]; omega) (hk hph) (fun q r hq => (cell q r hq).1) (fun q r j cv hq hj => ⟨((cell q r hq).2 j cv hj).1, ((cell q r hq).2 j cv hj).2.1⟩) (fun q r j cv hq hj => ((cell q r hq).2 j cv hj).2.2)

theorem FrzL.vrs {id : Nat} {b : Blk} (hr : Rel Old wi K m S H w) (hl : look H id = some b) (hc : Closed b) {K' : Nat → Prop} (hK : ∀ k, K k → K' k) (hk : (m id).ph = false → K' (m id).blk) {cs cs' : List AV} {xs : List Value} (hf : FrzL id b cs cs')
    (hv : ∀ (j : Nat) (cv : AV) (x : Value), cs[j]? = some cv → xs[j]? = some x → VR K w m S cv x) : ∀ (j : Nat) (cv : AV) (x : Value), cs'[j]? = some cv → xs[j]? = some x → VR K' w m S cv x := by
  intro j cv x h1 h2
  obtain ⟨v, hj, he⟩ := hf.get.2 j cv h1
  rcases he with rfl | he
  · exact (hv j v x hj h2).mono hK (fun _ _ => rfl) (fun _ h => h) (fun _ _ => rfl)
  · exact he.vr hr hl hc hK hk (hv j v x hj h2)
theorem FrzA.vr {id : Nat} {b : Blk} (hr : Rel Old wi K m S H w) (hl : look H id = some b) (hc : Closed b) {K' : Nat → Prop} (hK : ∀ k, K k → K' k) (hk : (m id).ph = false → K' (m id).blk) {v v' : AV} {x : Value} (hf : FrzA id b v v') (hv : VR K w m S v x) : VR K' w m S v' x := by
  cases hf with
  | one h => exact h.vr hr hl hc hK hk hv
  | agg h =>
    cases hv with
    | agg _ _ xs hx hvv => exact .agg _ _ xs (by rw [hx, h.get.1]) (h.vrs hr hl hc hK hk hvv)
  | tup h =>
    cases hv with
    | tup _ _ xs hx hvv => exact .tup _ _ xs (by rw [hx, h.get.1]) (h.vrs hr hl hc hK hk hvv)

theorem frz_rel {id : Nat} {b : Blk} (hr : Rel Old wi K m S H w) (ht : TRel K w m S N T a) (hl : look H id = some b) (hc : Closed b) (hf : FrzT T id b T1) :
    ∃ K', GK Old K K' ∧ Rel Old wi K' m S (del H id) w ∧ TRel K' w m S N (T1 ++ T) a := by
  have hK : ∀ k, K k → (K k ∨ ((m id).ph = false ∧ k = (m id).blk)) := fun k h => .inl h
  have old : ∀ i bi, look (del H id) i = some bi → i ≠ id ∧ look H i = some bi := fun i bi h => by
    by_cases he : i = id
    · subst he; rw [look_del_same] at h; cases h
    · rw [look_del_ne _ he] at h; exact ⟨he, h⟩
  refine ⟨fun k => K k ∨ ((m id).ph = false ∧ k = (m id).blk), ⟨hK, fun k h ho => ?_⟩, ?_, ht.dn, ht.sz, fun t av h => ?_⟩
  · rcases h with h | ⟨hp, rfl⟩
    · exact h
    · exact absurd ho (hr.oown id b hl hp)
  · refine { os := hr.os, tape := hr.tape, output := hr.output, size := hr.size, old := hr.old, olt := hr.olt, oown := fun i bi h => hr.oown i bi (old i bi h).2, om := fun i bi h hp hq => ⟨(hr.om i bi (old i bi h).2 hp hq).1, .inl (hr.om i bi (old i bi h).2 hp hq).2.1, (hr.om i bi (old i bi h).2 hp hq).2.2⟩, kb := fun k h => ?_, inS := fun i bi h => hr.inS i bi (old i bi h).2, pin := hr.pin, pinS := hr.pinS, own := fun i bi h => ?_, inj := fun i j bi bj hi hj hne => hr.inj i j bi bj (old i bi hi).2 (old j bj hj).2 hne }
    · rcases h with h | ⟨hp, rfl⟩
      · exact hr.kb k h
      · exact ((hr.own id b hl).br hp).lt_size
    · obtain ⟨hne, hi⟩ := old i bi h
      refine (hr.own i bi hi).mono2 hK (fun hp hk => ?_) (fun _ _ => rfl) (fun _ _ => rfl) (fun _ h => h) (fun _ _ => rfl) (hr.inS i bi hi)
      rcases hk with hk | ⟨hp2, he⟩
      · exact hk
      · exact absurd he (hr.inj i id bi b hi hl hne hp hp2)
  · rw [look_append] at h
    cases h1 : look T1 t with
    | some v' =>
      rw [h1] at h
      simp only [Option.some_or, Option.some.injEq] at h
      subst h
      obtain ⟨v, hv, hfz⟩ := hf.get h1
      exact hfz.vr hr hl hc hK (fun hp => .inr ⟨hp, rfl⟩) (ht.tm t v hv)
    | none =>
      rw [h1] at h
      exact (ht.tm t av (by simpa using h)).mono hK (fun _ _ => rfl) (fun _ h => h) (fun _ _ => rfl)

theorem aw_frzT {c : Code} {id : Nat} {b : Blk} (hl : look H id = some b) (hc : Closed b) (hf : FrzT T id b T1) (h : AW P N g c Q (T1 ++ T) (del H id) n) : AW P N g c Q T H n := fun Old wi K m a w hp hr ht => by
  obtain ⟨K', gk, hr', ht'⟩ := frz_rel hr ht hl hc hf
  exact Go.wp_mono (h Old wi K' m a w hp hr' ht') fun _ _ _ ⟨T', H', n', m', K'', g2, h1, h2⟩ => ⟨T', H', n', m', K'', gk.trans g2, h1, h2⟩
theorem sq_frzT {all : Array Oper} {l : List Oper} {G : Tp → Hp → Nat → Prop} {id : Nat} {b : Blk} (hl : look H id = some b) (hc : Closed b) (hf : FrzT T id b T1) (h : SQ P N all l G (T1 ++ T) (del H id) n) : SQ P N all l G T H n := by
  intro Old wi K m a w Q hr ht hq
  obtain ⟨K', gk, hr', ht'⟩ := frz_rel hr ht hl hc hf
  exact h Old wi K' m a w Q hr' ht' fun T' H' n' m' K'' a' w' g2 => hq T' H' n' m' K'' a' w' (gk.trans g2)
/-- an end where something becomes read only at last -/
theorem q_frzT {K0 : Tp → Hp → Nat → Prop} (h : K0 T H n) : K0 T H n := h

theorem aw_frz {c : Code} {t id row len ty sz : Nat} {pl : Bool} {rows rows' : List (List AV)} (ht : look T t = some (.sl id row len)) (hl : look H id = some ⟨ty, sz, pl, rows⟩) (hc : rows.all noOwnL = true) (hn : row + len ≤ rows.length) (he : (rows.drop row).take len = rows')
    (h : AW P N g c Q ((t, .dsl sz rows') :: T) (del H id) n) : AW P N g c Q T H n := by
  subst he
  exact aw_frzT hl (Closed.of hc) (.cons ht (.one <| .sl (b := ⟨ty, sz, pl, rows⟩) row len hn) .nil) h
theorem sq_frz {all : Array Oper} {l : List Oper} {G : Tp → Hp → Nat → Prop} {t id row len ty sz : Nat} {pl : Bool} {rows rows' : List (List AV)} (ht : look T t = some (.sl id row len)) (hl : look H id = some ⟨ty, sz, pl, rows⟩) (hc : rows.all noOwnL = true) (hn : row + len ≤ rows.length) (he : (rows.drop row).take len = rows')
    (h : SQ P N all l G ((t, .dsl sz rows') :: T) (del H id) n) : SQ P N all l G T H n := by
  subst he
  exact sq_frzT hl (Closed.of hc) (.cons ht (.one <| .sl (b := ⟨ty, sz, pl, rows⟩) row len hn) .nil) h
theorem aw_frzp {c : Code} {t id row col ty sz : Nat} {pl : Bool} {rows : List (List AV)} {r r' : List AV} (ht : look T t = some (.ptr id row col)) (hl : look H id = some ⟨ty, sz, pl, rows⟩) (hc : rows.all noOwnL = true) (hr : rows[row]? = some r) (he : r.drop col = r')
    (h : AW P N g c Q ((t, .dptr r') :: T) (del H id) n) : AW P N g c Q T H n := by
  subst he
  exact aw_frzT hl (Closed.of hc) (.cons ht (.one <| .ptr (b := ⟨ty, sz, pl, rows⟩) row col r hr) .nil) h
theorem sq_frzp {all : Array Oper} {l : List Oper} {G : Tp → Hp → Nat → Prop} {t id row col ty sz : Nat} {pl : Bool} {rows : List (List AV)} {r r' : List AV} (ht : look T t = some (.ptr id row col)) (hl : look H id = some ⟨ty, sz, pl, rows⟩) (hc : rows.all noOwnL = true) (hr : rows[row]? = some r) (he : r.drop col = r')
    (h : SQ P N all l G ((t, .dptr r') :: T) (del H id) n) : SQ P N all l G T H n := by
  subst he
  exact sq_frzT hl (Closed.of hc) (.cons ht (.one <| .ptr (b := ⟨ty, sz, pl, rows⟩) row col r hr) .nil) h
theorem aw_frza {c : Code} {t id row len ty sz : Nat} {pl : Bool} {rows rows' : List (List AV)} {cs : List AV} (j : Nat) (ht : look T t = some (.agg cs)) (hj : cs[j]? = some (.sl id row len)) (hl : look H id = some ⟨ty, sz, pl, rows⟩) (hc : rows.all noOwnL = true) (hn : row + len ≤ rows.length) (he : (rows.drop row).take len = rows')
    (h : AW P N g c Q ((t, .agg (cs.set j (.dsl sz rows'))) :: T) (del H id) n) : AW P N g c Q T H n := by
  subst he
  exact aw_frzT hl (Closed.of hc) (.cons ht (.agg (FrzL.set (.sl (b := ⟨ty, sz, pl, rows⟩) row len hn) hj)) .nil) h
theorem sq_frza {all : Array Oper} {l : List Oper} {G : Tp → Hp → Nat → Prop} {t id row len ty sz : Nat} {pl : Bool} {rows rows' : List (List AV)} {cs : List AV} (j : Nat) (ht : look T t = some (.agg cs)) (hj : cs[j]? = some (.sl id row len)) (hl : look H id = some ⟨ty, sz, pl, rows⟩) (hc : rows.all noOwnL = true) (hn : row + len ≤ rows.length) (he : (rows.drop row).take len = rows')
    (h : SQ P N all l G ((t, .agg (cs.set j (.dsl sz rows'))) :: T) (del H id) n) : SQ P N all l G T H n := by
  subst he
  exact sq_frzT hl (Closed.of hc) (.cons ht (.agg (FrzL.set (.sl (b := ⟨ty, sz, pl, rows⟩) row len hn) hj)) .nil) h
/-- nil slices in a block's cells, seen as slices that are read only -/
def WkC (cv cv' : AV) : Prop := cv = cv' ∨ ∃ s, cv = .v (.slice none 0 0) ∧ cv' = .dsl s []
def WkR (rows rows' : List (List AV)) : Prop := rows'.length = rows.length ∧ ∀ (r : Nat) (row' : List AV), rows'[r]? = some row' → ∃ row, rows[r]? = some row ∧ row'.length = row.length ∧ ∀ (j : Nat) (cv' : AV), row'[j]? = some cv' → ∃ cv, row[j]? = some cv ∧ WkC cv cv'
theorem WkR.rep {q : Nat} {z z' : List AV} (hl : z'.length = z.length) (hc : ∀ (j : Nat) (cv' : AV), z'[j]? = some cv' → ∃ cv, z[j]? = some cv ∧ WkC cv cv') : WkR (List.replicate q z) (List.replicate q z') := by
  refine ⟨by simp, fun r row' hr => ?_⟩
  rw [List.getElem?_replicate] at hr
  split at hr
  · simp only [Option.some.injEq] at hr
    subst hr
    exact ⟨z, by rw [List.getElem?_replicate, if_pos ‹_›], hl, hc⟩
  · cases hr
theorem Rel.wkB {id ty sz : Nat} {pl : Bool} {rows rows' : List (List AV)} (hr : Rel Old wi K m S H w) (hl : look H id = some ⟨ty, sz, pl, rows⟩) (hw : WkR rows rows') : Rel Old wi K m S ((id, ⟨ty, sz, false, rows'⟩) :: H) w := by
  have old : ∀ i bi, look ((id, (⟨ty, sz, false, rows'⟩ : Blk)) :: H) i = some bi → ∃ b0, look H i = some b0 ∧ ((i = id ∧ bi = ⟨ty, sz, false, rows'⟩) ∨ bi = b0) := fun i bi h => by
    rw [look_cons] at h
    split at h
    · rename_i he; subst he; simp only [Option.some.injEq] at h; exact ⟨_, hl, .inl ⟨rfl, h.symm⟩⟩
    · exact ⟨bi, h, .inr rfl⟩
  refine { os := hr.os, tape := hr.tape, output := hr.output, size := hr.size, old := hr.old, olt := hr.olt, oown := fun i bi h => ?_, om := fun i bi h => ?_, kb := hr.kb, inS := fun i bi h => ?_, pin := hr.pin, pinS := hr.pinS, own := fun i bi h => ?_, inj := fun i j bi bj hi hj hne => ?_ }
  · obtain ⟨b0, h0, _⟩ := old i bi h; exact hr.oown i b0 h0
  · obtain ⟨b0, h0, hc⟩ := old i bi h
    rcases hc with ⟨rfl, rfl⟩ | rfl
    · exact fun hp hq => hr.om i ⟨ty, sz, pl, rows⟩ hl hp hq
    · exact hr.om i _ h0
  · obtain ⟨b0, h0, _⟩ := old i bi h; exact hr.inS i b0 h0
  · obtain ⟨b0, h0, hc⟩ := old i bi h
    rcases hc with ⟨rfl, rfl⟩ | rfl
    · rcases hr.own i _ hl with ⟨e1, e2⟩ | ⟨hp, hb⟩
      · refine .inl ⟨e1, ?_⟩
        have := hw.1
        simp only at e2
        rw [e2] at this
        exact List.length_eq_zero_iff.1 this
      · obtain ⟨cur, c1, c2, c3⟩ := hb.ex
        refine .inr ⟨hp, hb.nk, hb.sz, by have := hb.cap; simp only at this ⊢; rw [hw.1]; exact this, hb.capm, (fun h => by cases h), cur, c1, c2, fun r row' hrow => ?_⟩
        obtain ⟨row, hr0, hlen, hcell⟩ := hw.2 r row' hrow
        obtain ⟨g1, g2⟩ := c3 r row hr0
        refine ⟨hlen.trans g1, fun j cv' hj => ?_⟩
        obtain ⟨cv, hj0, hwk⟩ := hcell j cv' hj
        obtain ⟨x, hx, h1, hv⟩ := g2 j cv hj0
        refine ⟨x, hx, h1, ?_⟩
        rcases hwk with rfl | ⟨s, rfl, rfl⟩
        · exact hv.mono (fun _ h => h) (fun _ _ => rfl) (fun i hi => ⟨hi.1, rfl⟩) (fun _ _ => rfl)
        · cases hv; exact .dsl0 _ _ _ _
    · exact hr.own i _ h0
  · obtain ⟨b1, h1, _⟩ := old i bi hi
    obtain ⟨b2, h2, _⟩ := old j bj hj
    exact hr.inj i j b1 b2 h1 h2 hne
theorem aw_wkB {c : Code} (id : Nat) {ty sz : Nat} {pl : Bool} {rows : List (List AV)} (rows' : List (List AV)) (hl : look H id = some ⟨ty, sz, pl, rows⟩) (hw : WkR rows rows') (h : AW P N g c Q T ((id, ⟨ty, sz, false, rows'⟩) :: H) n) : AW P N g c Q T H n := fun Old wi K m a w hp hr ht =>
  h Old wi K m a w hp (hr.wkB hl hw) ht
/-- plain rows hold no own block -/
theorem noOwnL_v {xs : List AV} (h : xs.all isV = true) : noOwnL xs = true := by
  induction xs with
  | nil => rfl
  | cons x l ih =>
    simp only [List.all_cons, Bool.and_eq_true] at h
    simp only [noOwnL, ih h.2, Bool.and_true]
    cases x <;> simp_all [isV, noOwn]
theorem all_noOwn_map {α : Type} {f : α → List AV} {xs : List α} (h : ∀ x, noOwnL (f x) = true) : (xs.map f).all noOwnL = true := by
  simp [List.all_map, h]
end
end Go.Proofs.Ytglfcaioapdiaaa.Aw
