/-
  What the law FnStatistics rests on, part 2.
-/
import Derived.Test.YtljpgbgokjiamaaZFnStatistics1
namespace Go.Proofs.Ytljpgbgokjiamaa.Aw
open Go Go.RowKit
set_option linter.unusedVariables false
mutual
def noOwn : AV → Bool
  | .ptr _ _ _ => false
  | .sl _ _ _ => false
  | .sx _ _ _ _ => false
  | .om _ _ => false
  | .agg cs => noOwnL cs
  | .tup cs => noOwnL cs
  | .fn _ cs => noOwnL cs
  | _ => true
def noOwnL : List AV → Bool
  | [] => true
  | x :: xs => noOwn x && noOwnL xs
end
theorem noOwnL_get : ∀ {l : List AV} {j : Nat} {v : AV}, noOwnL l = true → l[j]? = some v → noOwn v = true
  | [], j, v, _, h => by simp at h
  | x :: l, 0, v, h, h2 => by simp [noOwnL] at h; simp at h2; subst h2; exact h.1
  | x :: l, j + 1, v, h, h2 => by simp [noOwnL] at h; simp at h2; exact noOwnL_get h.2 h2
theorem VR.noS {K : Nat → Prop} {w : World} {m : Nat → Loc} {S : Nat → Prop} {av : AV} {x : Value} (h : VR K w m S av x) : noOwn av = true → ∀ S', VR K w m S' av x := by
  induction h with
  | v S x => intro _ S'; exact .v _ _
  | dsl0 S size a c => intro _ S'; exact .dsl0 _ _ _ _
  | dsl S size rows n b o c xs hn hc hk hl hx hv ih => intro _ S'; exact .dsl _ _ _ n b o c xs hn hc hk hl hx hv
  | dptr S cells b o xs hk hx hv ih => intro _ S'; exact .dptr _ _ b o xs hk hx hv
  | om S id D es c b hs hp hq hb hk ho hD => intro h; simp [noOwn] at h
  | emp S a => intro _ S'; exact .emp _ _
  | ptr S id row col o hs ho => intro h; simp [noOwn] at h
  | sl S id row len o c hs hp ho hc => intro h; simp [noOwn] at h
  | sl0 S id row a hs => intro h; simp [noOwn] at h
  | sx S id row len cap o c hs hp ho hcap hc => intro h; simp [noOwn] at h
  | agg S cs xs hl hv ih =>
    intro h S'
    simp only [noOwn] at h
    exact .agg _ _ _ hl fun j cv y h1 h2 => ih j cv y h1 h2 (noOwnL_get h h1) S'
  | tup S cs xs hl hv ih =>
    intro h S'
    simp only [noOwn] at h
    exact .tup _ _ _ hl fun j cv y h1 h2 => ih j cv y h1 h2 (noOwnL_get h h1) S'
  | fn S f cs xs hl hv ih =>
    intro h S'
    simp only [noOwn] at h
    exact .fn _ _ _ _ hl fun j cv y h1 h2 => ih j cv y h1 h2 (noOwnL_get h h1) S'
def Closed (b : Blk) : Prop := ∀ (r : Nat) (row : List AV), b.rows[r]? = some row → ∀ (j : Nat) (cv : AV), row[j]? = some cv → noOwn cv = true
theorem Closed.of {b : Blk} (h : b.rows.all noOwnL = true) : Closed b := fun r row hr j cv hj =>
  noOwnL_get (List.all_eq_true.1 h row (List.mem_of_getElem? hr)) hj
inductive Frz (id : Nat) (b : Blk) : AV → AV → Prop
  | sl (row len : Nat) (hn : row + len ≤ b.rows.length) : Frz id b (.sl id row len) (.dsl b.size ((b.rows.drop row).take len))
  | ptr (row col : Nat) (r : List AV) (hr : b.rows[row]? = some r) : Frz id b (.ptr id row col) (.dptr (r.drop col))
inductive FrzL (id : Nat) (b : Blk) : List AV → List AV → Prop
  | nil : FrzL id b [] []
  | same (v : AV) {l l' : List AV} (h : FrzL id b l l') : FrzL id b (v :: l) (v :: l')
  | one {v v' : AV} {l l' : List AV} (hf : Frz id b v v') (h : FrzL id b l l') : FrzL id b (v :: l) (v' :: l')
theorem FrzL.refl (id : Nat) (b : Blk) : ∀ l : List AV, FrzL id b l l
  | [] => .nil
  | v :: l => .same v (.refl id b l)
theorem FrzL.set {id : Nat} {b : Blk} {v v' : AV} (hf : Frz id b v v') : ∀ {l : List AV} {j : Nat}, l[j]? = some v → FrzL id b l (l.set j v')
  | [], j, h => by simp at h
  | x :: l, 0, h => by simp at h; subst h; exact .one hf (.refl _ _ l)
  | x :: l, j + 1, h => by simp at h; exact .same x (FrzL.set hf h)
theorem FrzL.get {id : Nat} {b : Blk} {l l' : List AV} (h : FrzL id b l l') : l'.length = l.length ∧ ∀ (j : Nat) (v' : AV), l'[j]? = some v' → ∃ v, l[j]? = some v ∧ (v = v' ∨ Frz id b v v') := by
  induction h with
  | nil => simp
  | same v h ih =>
    refine ⟨by simp [ih.1], fun j z hj => ?_⟩
    cases j with
    | zero => simp at hj; subst hj; exact ⟨_, rfl, .inl rfl⟩
    | succ j => simp only [List.getElem?_cons_succ] at hj ⊢; exact ih.2 j z hj
  | one hf h ih =>
    refine ⟨by simp [ih.1], fun j z hj => ?_⟩
    cases j with
    | zero => simp at hj; subst hj; exact ⟨_, rfl, .inr hf⟩
    | succ j => simp only [List.getElem?_cons_succ] at hj ⊢; exact ih.2 j z hj
inductive FrzA (id : Nat) (b : Blk) : AV → AV → Prop
  | one {v v' : AV} (h : Frz id b v v') : FrzA id b v v'
  | agg {cs cs' : List AV} (h : FrzL id b cs cs') : FrzA id b (.agg cs) (.agg cs')
  | tup {cs cs' : List AV} (h : FrzL id b cs cs') : FrzA id b (.tup cs) (.tup cs')
inductive FrzT (T : Tp) (id : Nat) (b : Blk) : Tp → Prop
  | nil : FrzT T id b []
  | cons {t : Nat} {v v' : AV} {T1 : Tp} (hl : look T t = some v) (h : FrzA id b v v') (h1 : FrzT T id b T1) : FrzT T id b ((t, v') :: T1)
theorem FrzT.get {T : Tp} {id : Nat} {b : Blk} {T1 : Tp} (h : FrzT T id b T1) : ∀ {t : Nat} {v' : AV}, look T1 t = some v' → ∃ v, look T t = some v ∧ FrzA id b v v' := by
  induction h with
  | nil => intro t v' h; simp [look_nil] at h
  | cons hl hf h1 ih =>
    intro t v' h
    rw [look_cons] at h
    split at h
    · rename_i he; subst he; simp only [Option.some.injEq] at h; subst h; exact ⟨_, hl, hf⟩
    · exact ih h
section
variable {P : Program} {Old : Nat → Prop} {wi : WI Old} {K : Nat → Prop} {m : Nat → Loc} {S : Nat → Prop} {H : Hp} {w : World} {N n g : Nat} {T T1 : Tp} {a : Act} {Q : Exit → Tp → Hp → Nat → Prop}
theorem Frz.vr {id : Nat} {b : Blk} (hr : Rel Old wi K m S H w) (hl : look H id = some b) (hc : Closed b) {K' : Nat → Prop} (hK : ∀ k, K k → K' k) (hk : (m id).ph = false → K' (m id).blk) {S' : Nat → Prop} {v v' : AV} {x : Value} (hf : Frz id b v v') (hv : VR K w m S v x) : VR K' w m S' v' x := by
  cases hf with
  | ptr row col r hrow =>
    obtain ⟨g, p, rfl, hrd⟩ := rd_at hr hv (.inr ⟨id, row, col, b, r, rfl, hl, hrow, rfl⟩)
    obtain ⟨hph, hbr⟩ := (hr.own id b hl).real hrow
    cases hv with
    | ptr _ _ _ _ q hS ho =>
      refine .dptr _ _ _ _ (fun j => (w.cell? ⟨(m id).blk, p + j, none⟩).getD undef) (hk hph) (fun j cv hj => ?_) (fun j cv hj => ?_)
      · obtain ⟨y, hy, hone, _⟩ := hrd j cv hj
        rw [hy]; exact ⟨rfl, hone⟩
      · obtain ⟨y, hy, hone, hvy⟩ := hrd j cv hj
        simp only [hy, Option.getD_some]
        rw [List.getElem?_drop] at hj
        exact (hvy.noS (hc row r hrow _ cv hj) NoS).mono hK (fun _ _ => rfl) (fun _ h => h) (fun _ _ => rfl)
  | sl row len hn =>
    cases hv with
    | sl0 _ _ _ ad hS => rw [List.take_zero]; exact .dsl0 _ _ _ _
    | sl _ _ _ _ p c hS hph hp hcc =>
      have hb := (hr.own id b hl).br hph
      obtain ⟨cur, h1, h2, h3⟩ := hb.ex
      have hcap := hb.cap
      have hlen : ((b.rows.drop row).take len).length = len := by simp; omega
      let xs : Nat → Nat → Value := fun r j => (w.cell? ⟨(m id).blk, p + r * b.size + j, none⟩).getD undef
      have cell : ∀ (q : Nat) (rw_ : List AV), ((b.rows.drop row).take len)[q]? = some rw_ → rw_.length = b.size ∧ ∀ (j : Nat) (cv : AV), rw_[j]? = some cv → w.cell? ⟨(m id).blk, p + q * b.size + j, none⟩ = some (xs q j) ∧ (xs q j).oneCell' = true ∧ VR K' w m NoS cv (xs q j) := by
        intro q rw_ hq
        rw [List.getElem?_take] at hq
        split at hq
        · rw [List.getElem?_drop] at hq
          refine ⟨(h3 _ _ hq).1, fun j cv hj => ?_⟩
          obtain ⟨y, hy, hone, hvy⟩ := (h3 _ _ hq).2 j cv hj
          have hy' : w.cell? ⟨(m id).blk, p + q * b.size + j, none⟩ = some y := by
            rw [cell_of_row w _ _ _ _ _ h1, hp, hb.sz, ← Nat.add_mul]; exact hy
          simp only [xs, hy', Option.getD_some]
          exact ⟨trivial, hone, (hvy.noS (hc _ rw_ hq j cv hj) NoS).mono hK (fun _ _ => rfl) (fun _ h => h) (fun _ _ => rfl)⟩
        · cases hq
      exact .dsl _ _ _ len _ p c xs hlen.symm (by rw [hlen]; omega) (hk hph) (fun q r hq => (cell q r hq).1) (fun q r j cv hq hj => ⟨((cell q r hq).2 j cv hj).1, ((cell q r hq).2 j cv hj).2.1⟩) (fun q r j cv hq hj => ((cell q r hq).2 j cv hj).2.2)
theorem FrzL.vrs {id : Nat} {b : Blk} (hr : Rel Old wi K m S H w) (hl : look H id = some b) (hc : Closed b) {K' : Nat → Prop} (hK : ∀ k, K k → K' k) (hk : (m id).ph = false → K' (m id).blk) {cs cs' : List AV} {xs : List Value} (hf : FrzL id b cs cs')
    (hv : ∀ (j : Nat) (cv : AV) (x : Value), cs[j]? = some cv → xs[j]? = some x → VR K w m S cv x) : ∀ (j : Nat) (cv : AV) (x : Value), cs'[j]? = some cv → xs[j]? = some x → VR K' w m S cv x := by
  intro j cv x h1 h2
  obtain ⟨v, hj, he⟩ := hf.get.2 j cv h1
  rcases he with rfl | he
  · exact (hv j v x hj h2).mono hK (fun _ _ => rfl) (fun _ h => h) (fun _ _ => rfl)
  · exact he.vr hr hl hc hK hk (hv j v x hj h2)
theorem FrzA.vr {id : Nat} {b : Blk} (hr : Rel Old wi K m S H w) (hl : look H id = some b) (hc : Closed b) {K' : Nat → Prop} (hK : ∀ k, K k → K' k) (hk : (m id).ph = false → K' (m id).blk) {v v' : AV} {x : Value} (hf : FrzA id b v v') (hv : VR K w m S v x) : VR K' w m S v' x := by
  cases hf with
  | one h => exact h.vr hr hl hc hK hk hv
  | agg h =>
    cases hv with
    | agg _ _ xs hx hvv => exact .agg _ _ xs (by rw [hx, h.get.1]) (h.vrs hr hl hc hK hk hvv)
  | tup h =>
    cases hv with
    | tup _ _ xs hx hvv => exact .tup _ _ xs (by rw [hx, h.get.1]) (h.vrs hr hl hc hK hk hvv)
theorem frz_rel {id : Nat} {b : Blk} (hr : Rel Old wi K m S H w) (ht : TRel K w m S N T a) (hl : look H id = some b) (hc : Closed b) (hf : FrzT T id b T1) :
    ∃ K', GK Old K K' ∧ Rel Old wi K' m S (del H id) w ∧ TRel K' w m S N (T1 ++ T) a := by
  have hK : ∀ k, K k → (K k ∨ ((m id).ph = false ∧ k = (m id).blk)) := fun k h => .inl h
  have old : ∀ i bi, look (del H id) i = some bi → i ≠ id ∧ look H i = some bi := fun i bi h => by
    by_cases he : i = id
    · subst he; rw [look_del_same] at h; cases h
    · rw [look_del_ne _ he] at h; exact ⟨he, h⟩
  refine ⟨fun k => K k ∨ ((m id).ph = false ∧ k = (m id).blk), ⟨hK, fun k h ho => ?_⟩, ?_, ht.dn, ht.sz, fun t av h => ?_⟩
  · rcases h with h | ⟨hp, rfl⟩
    · exact h
    · exact absurd ho (hr.oown id b hl hp)
  · refine { os := hr.os, tape := hr.tape, output := hr.output, size := hr.size, old := hr.old, olt := hr.olt, oown := fun i bi h => hr.oown i bi (old i bi h).2, om := fun i bi h hp hq => ⟨(hr.om i bi (old i bi h).2 hp hq).1, .inl (hr.om i bi (old i bi h).2 hp hq).2.1, (hr.om i bi (old i bi h).2 hp hq).2.2⟩, kb := fun k h => ?_, inS := fun i bi h => hr.inS i bi (old i bi h).2, pin := hr.pin, pinS := hr.pinS, own := fun i bi h => ?_, inj := fun i j bi bj hi hj hne => hr.inj i j bi bj (old i bi hi).2 (old j bj hj).2 hne }
    · rcases h with h | ⟨hp, rfl⟩
      · exact hr.kb k h
      · exact ((hr.own id b hl).br hp).lt_size
    · obtain ⟨hne, hi⟩ := old i bi h
      refine (hr.own i bi hi).mono2 hK (fun hp hk => ?_) (fun _ _ => rfl) (fun _ _ => rfl) (fun _ h => h) (fun _ _ => rfl) (hr.inS i bi hi)
      rcases hk with hk | ⟨hp2, he⟩
      · exact hk
      · exact absurd he (hr.inj i id bi b hi hl hne hp hp2)
  · rw [look_append] at h
    cases h1 : look T1 t with
    | some v' =>
      rw [h1] at h
      simp only [Option.some_or, Option.some.injEq] at h
      subst h
      obtain ⟨v, hv, hfz⟩ := hf.get h1
      exact hfz.vr hr hl hc hK (fun hp => .inr ⟨hp, rfl⟩) (ht.tm t v hv)
    | none =>
      rw [h1] at h
      exact (ht.tm t av (by simpa using h)).mono hK (fun _ _ => rfl) (fun _ h => h) (fun _ _ => rfl)
theorem sq_frzT {all : Array Oper} {l : List Oper} {G : Tp → Hp → Nat → Prop} {id : Nat} {b : Blk} (hl : look H id = some b) (hc : Closed b) (hf : FrzT T id b T1) (h : SQ P N all l G (T1 ++ T) (del H id) n) : SQ P N all l G T H n := by
  intro Old wi K m a w Q hr ht hq
  obtain ⟨K', gk, hr', ht'⟩ := frz_rel hr ht hl hc hf
  exact h Old wi K' m a w Q hr' ht' fun T' H' n' m' K'' a' w' g2 => hq T' H' n' m' K'' a' w' (gk.trans g2)
theorem sq_frzp {all : Array Oper} {l : List Oper} {G : Tp → Hp → Nat → Prop} {t id row col ty sz : Nat} {pl : Bool} {rows : List (List AV)} {r r' : List AV} (ht : look T t = some (.ptr id row col)) (hl : look H id = some ⟨ty, sz, pl, rows⟩) (hc : rows.all noOwnL = true) (hr : rows[row]? = some r) (he : r.drop col = r')
    (h : SQ P N all l G ((t, .dptr r') :: T) (del H id) n) : SQ P N all l G T H n := by
  subst he
  exact sq_frzT hl (Closed.of hc) (.cons ht (.one <| .ptr (b := ⟨ty, sz, pl, rows⟩) row col r hr) .nil) h
theorem sq_frza {all : Array Oper} {l : List Oper} {G : Tp → Hp → Nat → Prop} {t id row len ty sz : Nat} {pl : Bool} {rows rows' : List (List AV)} {cs : List AV} (j : Nat) (ht : look T t = some (.agg cs)) (hj : cs[j]? = some (.sl id row len)) (hl : look H id = some ⟨ty, sz, pl, rows⟩) (hc : rows.all noOwnL = true) (hn : row + len ≤ rows.length) (he : (rows.drop row).take len = rows')
    (h : SQ P N all l G ((t, .agg (cs.set j (.dsl sz rows'))) :: T) (del H id) n) : SQ P N all l G T H n := by
  subst he
  exact sq_frzT hl (Closed.of hc) (.cons ht (.agg (FrzL.set (.sl (b := ⟨ty, sz, pl, rows⟩) row len hn) hj)) .nil) h
def WkC (cv cv' : AV) : Prop := cv = cv' ∨ ∃ s, cv = .v (.slice none 0 0) ∧ cv' = .dsl s []
theorem all_noOwn_map {α : Type} {f : α → List AV} {xs : List α} (h : ∀ x, noOwnL (f x) = true) : (xs.map f).all noOwnL = true := by
  simp [List.all_map, h]
end
end Go.Proofs.Ytljpgbgokjiamaa.Aw

namespace Go.Proofs.Ytljpgbgokjiamaa.Aw
open Go Go.RowKit
section
variable {P : Program} {N g n : Nat} {G : Tp → Hp → Nat → Prop} {Q : Exit → Tp → Hp → Nat → Prop} {T : Tp} {H : Hp}
theorem thn_n (h : G T H n) : Thn G Q .normal T H n := h
theorem thn_e {i : Nat} (h : Q (.exit i) T H n) : Thn G Q (.exit i) T H n := h
theorem thn_r (h : Q .ret T H n) : Thn G Q .ret T H n := h
theorem inb_same {i : Nat} (h : Q .normal T H n) : InB i Q (.exit i) T H n := by simp only [InB, if_true]; exact h
theorem inb_n {i : Nat} (h : Q .normal T H n) : InB i Q .normal T H n := h
theorem inb_r {i : Nat} (h : Q .ret T H n) : InB i Q .ret T H n := h
theorem aw_cond_t {c : Operand} {x y : Code} {t : Bool} (hc : evalA T c = some (.v (.bool t))) (ht : t = true) (h : AW P N g x Q T H n) : AW P N g (.cond c x y) Q T H n :=
  aw_cond hc (fun _ => h) (fun e => by rw [ht] at e; cases e)
theorem aw_cond_f {c : Operand} {x y : Code} {t : Bool} (hc : evalA T c = some (.v (.bool t))) (ht : t = false) (h : AW P N g y Q T H n) : AW P N g (.cond c x y) Q T H n :=
  aw_cond hc (fun e => by rw [ht] at e; cases e) (fun _ => h)
theorem aw_ite {c : Operand} {x y : Code} {t : Bool} (hc : evalA T c = some (.v (.bool t))) (h1 : t = true → AW P N g x Q T H n) (h2 : t = false → AW P N g y Q T H n) : AW P N g (.cond c x y) Q T H n := aw_cond hc h1 h2
theorem aw_seqk {x y : Code} (h : ∀ K : Tp → Hp → Nat → Prop, (∀ T H n, AW P N g y Q T H n → K T H n) → AW P N g x (Thn K Q) T H n) : AW P N g (.seq x y) Q T H n :=
  aw_seq (h _ fun _ _ _ h => h)
theorem s_pick_t {o : Oper} {c x y : Operand} {t : Bool} {av : AV} (ho : o.op = .pick c x y) (hc : evalA T c = some (.v (.bool t))) (ht : t = true) (hx : evalA T x = some av) : Step P o N T H n av H n true :=
  s_pick ho hc (by rw [ht]; exact hx)
theorem s_pick_f {o : Oper} {c x y : Operand} {t : Bool} {av : AV} (ho : o.op = .pick c x y) (hc : evalA T c = some (.v (.bool t))) (ht : t = false) (hx : evalA T y = some av) : Step P o N T H n av H n true :=
  s_pick ho hc (by rw [ht]; exact hx)
variable {all : Array Oper} {l : List Oper} {dst : Option Tmp} {op : Op} {ty : TypeId} {pos : String} {after : Array Edge}
theorem sq_g {j t : Nat} {b b' : Bool} (hj : ((all[j]?).bind (·.dst)) = some t) (htn : Nat.blt t N = true) (hl : look T t = some (.v (.bool b'))) (hb : b' = b)
    (h : SQ P N all (⟨dst, op, ty, pos, after, none⟩ :: l) G T H n) : SQ P N all (⟨dst, op, ty, pos, after, some (j, b)⟩ :: l) G T H n := by
  intro Old wi K m a w Q hr ht hq rr
  have h' := h Old wi K m a w Q hr ht hq rr
  unfold wpListIn at h' ⊢
  rw [if_pos (by simp [Region.wanted])] at h'
  subst hb
  rw [if_pos (by simp [Region.wanted, yielded_of ht hj hl htn])]
  exact h'
theorem sq_s {j t : Nat} {b b' : Bool} (hj : ((all[j]?).bind (·.dst)) = some t) (htn : Nat.blt t N = true) (hl : look T t = some (.v (.bool b'))) (hb : b' = !b) (hd : dOk N dst = true)
    (h : SQ P N all l G (put T dst (.v undef)) H n) : SQ P N all (⟨dst, op, ty, pos, after, some (j, b)⟩ :: l) G T H n :=
  sq_skip rfl hj htn hl (by subst hb; cases b <;> rfl) hd h
theorem sq_gs {j t : Nat} {b b' : Bool} (hj : ((all[j]?).bind (·.dst)) = some t) (htn : Nat.blt t N = true) (hl : look T t = some (.v (.bool b'))) (hd : dOk N dst = true)
    (h1 : b' = b → SQ P N all (⟨dst, op, ty, pos, after, none⟩ :: l) G T H n)
    (h2 : b' = (!b) → SQ P N all l G (put T dst (.v undef)) H n) : SQ P N all (⟨dst, op, ty, pos, after, some (j, b)⟩ :: l) G T H n := by
  by_cases hb : b' = b
  · exact sq_g hj htn hl hb (h1 hb)
  · have hb' : b' = !b := by cases b <;> cases b' <;> simp_all
    exact sq_s hj htn hl hb' hd (h2 hb')
theorem goFn_of {f : FuncId} {fn : Func} {c : Code} (hf : P.funcs[f]? = some fn) (hb : fn.body = some c) (hn : (fn.name == "runtime.NumGoroutine") = false) : goFn P f = true := by
  simp only [goFn, hf, hb, hn]; rfl
theorem RO.ofv' {f : FuncId} {fn : Func} {c : Code} {args : List AV} {x : Value} {rs : List ResultVar} (hf : P.funcs[f]? = some fn) (hN : fn.ntmps = N) (hb : fn.body = some c) (hg : goFn P f = true) (hl : Nat.ble args.length N = true) (hrs : fn.results.toList = rs)
    (h : AW P N 0 c (Fin P rs (.v x) [] 0) (idx 0 args) [] 0) : RO P f args n (.v x) [] n := by
  subst hN hrs
  exact RO.ofv n hf hb hg (by simpa using hl) h
theorem fin_v {rs : List ResultVar} {x : Value} (h : ResV P T H rs (.v x)) : FinOk P rs (.v x) [] 0 T H :=
  ⟨⟨.v x, id, h, rfl, trivial, rfl⟩, rfl, rfl, rfl⟩
theorem fin_r {rs : List ResultVar} {v : AV} {U : Hp} {k : Nat} (h : FinOk P rs v U k T H) : Fin P rs v U k .ret T H n := h
theorem fin_n {rs : List ResultVar} {v : AV} {U : Hp} {k : Nat} (h : FinOk P rs v U k T H) : Fin P rs v U k .normal T H n := h
theorem fin_b {t : Nat} {x y : Bool} (h : look T t = some (.v (.bool y))) (e : y = x) : FinOk P [.tmp t] (.v (.bool x)) [] 0 T H := fin_v (.r1 _ _ (.tmp _ _ (by rw [h, e])))
theorem fin_i {t : Nat} {k : IntKind} {x y : Int} (h : look T t = some (.v (.int k y))) (e : y = x) : FinOk P [.tmp t] (.v (.int k x)) [] 0 T H := fin_v (.r1 _ _ (.tmp _ _ (by rw [h, e])))
end
end Go.Proofs.Ytljpgbgokjiamaa.Aw

namespace Go.Proofs.Ytljpgbgokjiamaa.Aw
open Go Go.RowKit
structure PO where
  dst : Option Nat
  v : AV
  E : List (Nat × Option Blk)
  lo : Nat
  hi : Nat
def lkE : List (Nat × Option Blk) → Nat → Option (Option Blk)
  | [], _ => none
  | (i, b) :: l, k => match Nat.beq i k with
    | true => some b
    | false => lkE l k
theorem lkE_cons (i : Nat) (b : Option Blk) (l : List (Nat × Option Blk)) (k : Nat) : lkE ((i, b) :: l) k = if i = k then some b else lkE l k := by
  show (match Nat.beq i k with | true => some b | false => lkE l k) = _
  by_cases h : i = k
  · subst h; rw [Nat.beq_refl, if_pos rfl]
  · have : Nat.beq i k = false := by
      cases hb : Nat.beq i k
      · rfl
      · exact absurd (Nat.eq_of_beq_eq_true hb) h
    rw [this, if_neg h]
def ovr : List (Nat × Option Blk) → Hp → Hp
  | [], H => H
  | (i, some b) :: l, H => (i, b) :: del (ovr l H) i
  | (i, none) :: l, H => del (ovr l H) i
theorem look_ovr : ∀ (E : List (Nat × Option Blk)) (H : Hp) (k : Nat), look (ovr E H) k = (lkE E k).getD (look H k)
  | [], H, k => rfl
  | (i, some b) :: l, H, k => by
    simp only [ovr, look_cons, lkE_cons]
    by_cases h : i = k
    · simp [h]
    · rw [if_neg h, if_neg h, look_del_ne _ (fun e => h e.symm)]; exact look_ovr l H k
  | (i, none) :: l, H, k => by
    simp only [ovr, lkE_cons]
    by_cases h : i = k
    · subst h; simp [look_del_same]
    · rw [if_neg h, look_del_ne _ (fun e => h e.symm)]; exact look_ovr l H k
def selT (L : Nat → Bool) : Nat → List PO → Tp → Tp
  | _, [], T => T
  | k, p :: ps, T => selT L (k + 1) ps (match L k with
    | true => put T p.dst p.v
    | false => T)
def selH (L : Nat → Bool) : Nat → List PO → Hp → Hp
  | _, [], H => H
  | k, p :: ps, H => selH L (k + 1) ps (match L k with
    | true => ovr p.E H
    | false => H)
theorem look_put (T : Tp) (d : Option Nat) (v : AV) (t : Nat) : look (put T d v) t = if d = some t then some v else look T t := by
  cases d with
  | none => simp [put]
  | some d => simp [put, look_cons]
theorem selT_congr {L L' : Nat → Bool} {t : Nat} : ∀ (ps : List PO) (k : Nat) (T T' : Tp), look T t = look T' t → (∀ j p, ps[j]? = some p → p.dst = some t → L (k + j) = L' (k + j)) → look (selT L k ps T) t = look (selT L' k ps T') t
  | [], k, T, T', h, _ => h
  | p :: ps, k, T, T', h, hj => by
    simp only [selT]
    refine selT_congr ps (k + 1) _ _ ?_ (fun j q hq hd => by have := hj (j + 1) q (by simpa using hq) hd; rw [show k + 1 + j = k + (j + 1) by omega]; exact this)
    have h0 := hj 0 p rfl
    rw [Nat.add_zero] at h0
    by_cases hd : p.dst = some t
    · rw [← h0 hd]
      cases L k
      · exact h
      · simp [look_put, hd]
    · cases L k <;> cases L' k <;> simp [look_put, hd, h]
theorem selH_congr {L L' : Nat → Bool} {t : Nat} : ∀ (ps : List PO) (k : Nat) (H H' : Hp), look H t = look H' t → (∀ j p, ps[j]? = some p → lkE p.E t ≠ none → L (k + j) = L' (k + j)) → look (selH L k ps H) t = look (selH L' k ps H') t
  | [], k, H, H', h, _ => h
  | p :: ps, k, H, H', h, hj => by
    simp only [selH]
    refine selH_congr ps (k + 1) _ _ ?_ (fun j q hq hd => by have := hj (j + 1) q (by simpa using hq) hd; rw [show k + 1 + j = k + (j + 1) by omega]; exact this)
    have h0 := hj 0 p rfl
    rw [Nat.add_zero] at h0
    cases hd : lkE p.E t with
    | none => cases L k <;> cases L' k <;> simp [look_ovr, hd, h]
    | some b =>
      rw [← h0 (by simp [hd])]
      cases L k
      · exact h
      · simp [look_ovr, hd]
theorem selT_app (L : Nat → Bool) : ∀ (ps qs : List PO) (k : Nat) (T : Tp), selT L k (ps ++ qs) T = selT L (k + ps.length) qs (selT L k ps T)
  | [], qs, k, T => by simp [selT]
  | p :: ps, qs, k, T => by simp only [List.cons_append, selT, List.length_cons]; rw [selT_app L ps qs]; congr 1; omega
theorem selH_app (L : Nat → Bool) : ∀ (ps qs : List PO) (k : Nat) (H : Hp), selH L k (ps ++ qs) H = selH L (k + ps.length) qs (selH L k ps H)
  | [], qs, k, H => by simp [selH]
  | p :: ps, qs, k, H => by simp only [List.cons_append, selH, List.length_cons]; rw [selH_app L ps qs]; congr 1; omega
theorem selH_from {L : Nat → Bool} {i : Nat} {b : Blk} : ∀ (ps : List PO) (k : Nat) (H : Hp), look (selH L k ps H) i = some b → look H i = some b ∨ ∃ j p, ps[j]? = some p ∧ L (k + j) = true ∧ lkE p.E i = some (some b)
  | [], k, H, h => .inl h
  | p :: ps, k, H, h => by
    simp only [selH] at h
    rcases selH_from ps (k + 1) _ h with h1 | ⟨j, q, h1, h2, h3⟩
    · cases hL : L k with
      | false => rw [hL] at h1; exact .inl h1
      | true =>
        rw [hL] at h1
        simp only [look_ovr] at h1
        cases he : lkE p.E i with
        | none => rw [he] at h1; exact .inl h1
        | some ob => rw [he] at h1; simp only [Option.getD_some] at h1; subst h1; exact .inr ⟨0, p, rfl, by simpa using hL, he⟩
    · exact .inr ⟨j + 1, q, by simpa using h1, by rw [show k + (j + 1) = k + 1 + j by omega]; exact h2, h3⟩
def resT (ts : List Tmp) (T : Tp) : Tp := ts.filterMap fun t => (look T t).map fun v => (t, v)
theorem look_resT {ts : List Tmp} {T : Tp} {t : Nat} {v : AV} (h : look (resT ts T) t = some v) : t ∈ ts ∧ look T t = some v := by
  induction ts with
  | nil => simp [resT, look_nil] at h
  | cons u ts ih =>
    unfold resT at h ih
    rw [List.filterMap_cons] at h
    cases hu : look T u with
    | none => simp only [hu, Option.map_none] at h; obtain ⟨h1, h2⟩ := ih h; exact ⟨List.mem_cons_of_mem _ h1, h2⟩
    | some x =>
      simp only [hu, Option.map_some, look_cons] at h
      split at h
      · rename_i he; subst he; simp only [Option.some.injEq] at h; subst h; exact ⟨List.mem_cons_self, hu⟩
      · obtain ⟨h1, h2⟩ := ih h; exact ⟨List.mem_cons_of_mem _ h1, h2⟩
def depM (bs ks : List Nat) (i j : Nat) : Bool := Nat.testBit (bs.getD i 0) j && Nat.blt 0 (ks.getD j 0) && Nat.blt j i
def rdP : List Nat → List (Nat × Nat)
  | a :: b :: l => (a, b) :: rdP l
  | _ => []
def SameAt (ops : Array Oper) (ks : List Nat) (H₀ : Hp) (i : Nat) (H : Hp) : Prop := ∀ id, (i, id) ∈ rdP (ks.drop ops.size) → look H id = look H₀ id
def FactT (P : Program) (N : Nat) (ops : Array Oper) (o : Oper) (T : Tp) (Hd : Hp) (k : Nat) (C : Hp → Prop) (p : PO) : Prop :=
  p.dst = o.dst ∧ dOk N o.dst = true ∧
  ((∃ j b t y, o.guard = some (j, b) ∧ ((ops[j]?).bind (·.dst)) = some t ∧ Nat.blt t N = true ∧ look T t = some (.v y) ∧ noG y b = true ∧ p.v = .v undef ∧ p.E = [] ∧ p.lo = p.hi) ∨
   ((o.guard = none ∨ ∃ j b t, o.guard = some (j, b) ∧ ((ops[j]?).bind (·.dst)) = some t ∧ Nat.blt t N = true ∧ look T t = some (.v (.bool b))) ∧
    ((k = 0 ∧ p.E = [] ∧ p.lo = p.hi ∧ ∀ H n, C H → Step P o N T H n p.v H n true) ∨
     (k = 1 ∧ ∃ U, p.E = U.map (fun x => (x.1, some x.2)) ∧ (∀ i b, look U i = some b → p.lo ≤ i ∧ i < p.hi) ∧ Step P o N T Hd p.lo p.v (U ++ Hd) p.hi true) ∨
     (k = 3 ∧ ∃ U, p.E = U.map (fun x => (x.1, some x.2)) ∧ (∀ i b, look U i = some b → p.lo ≤ i ∧ i < p.hi) ∧ Step P o N T [] p.lo p.v U p.hi true) ∨
     (k = 2 ∧ ∃ H', (∀ i, look H' i = look (ovr p.E Hd) i) ∧ (∀ i ob, lkE p.E i = some ob → (look Hd i).isSome = true ∨ (p.lo ≤ i ∧ i < p.hi)) ∧ Step P o N T Hd p.lo p.v H' p.hi false))))
def KeepR (ops : Array Oper) (bs ks : List Nat) (H₀ : Hp) (ps : List PO) : Prop :=
  ∀ (L : Nat → Bool) (i id : Nat), (i, id) ∈ rdP (ks.drop ops.size) → (∀ j, j < ops.size → Nat.testBit (bs.getD j 0) i = true → L j = false) → look (selH L 0 ps H₀) id = look H₀ id
def DR (P : Program) (N : Nat) (ops : Array Oper) (bs ks : List Nat) (H₀ : Hp) (G : Tp → Hp → Nat → Prop) : Nat → List PO → List Oper → Tp → Nat → Prop
  | _, pre, [], T, n => G T (selH (fun _ => true) 0 pre H₀) n ∧ KeepR ops bs ks H₀ pre
  | i, pre, o :: os, T, n => ∃ p, p.lo = n ∧ n ≤ p.hi ∧ FactT P N ops o (resT (o.looksAt ops) T) (selH (depM bs ks i) 0 pre H₀) (ks.getD i 0) (SameAt ops ks H₀ i) p ∧ DR P N ops bs ks H₀ G (i + 1) (pre ++ [p]) os (put T o.dst p.v) p.hi
theorem DR.all {P : Program} {N : Nat} {ops : Array Oper} {bs ks : List Nat} {H₀ : Hp} {G : Tp → Hp → Nat → Prop} (T₀ : Tp) : ∀ (os : List Oper) (pre : List PO) (T : Tp) (n : Nat), T = selT (fun _ => true) 0 pre T₀ → DR P N ops bs ks H₀ G pre.length pre os T n →
    ∃ (ps : List PO) (n' : Nat), ps.length = os.length ∧ n ≤ n' ∧ (G (selT (fun _ => true) 0 (pre ++ ps) T₀) (selH (fun _ => true) 0 (pre ++ ps) H₀) n' ∧ KeepR ops bs ks H₀ (pre ++ ps)) ∧
      (∀ (j : Nat) (p : PO), ps[j]? = some p → n ≤ p.lo ∧ p.lo ≤ p.hi ∧ p.hi ≤ n') ∧ (∀ (i j : Nat) (p q : PO), ps[i]? = some p → ps[j]? = some q → i < j → p.hi ≤ q.lo) ∧
      (∀ x, n ≤ x → x < n' → ∃ (j : Nat) (p : PO), ps[j]? = some p ∧ p.lo ≤ x ∧ x < p.hi) ∧
      ∀ (j : Nat) (o : Oper), os[j]? = some o → ∃ p, ps[j]? = some p ∧
        FactT P N ops o (resT (o.looksAt ops) (selT (fun _ => true) 0 (pre ++ ps.take j) T₀)) (selH (depM bs ks (pre.length + j)) 0 (pre ++ ps.take j) H₀) (ks.getD (pre.length + j) 0) (SameAt ops ks H₀ (pre.length + j)) p
  | [], pre, T, n, hT, h => ⟨[], n, rfl, Nat.le_refl _, by subst hT; simpa [DR] using h, by simp, by simp, fun x h1 h2 => absurd h2 (by omega), by simp⟩
  | o :: os, pre, T, n, hT, h => by
    obtain ⟨p, h1, h2, h3, h4⟩ := h
    have h4 : DR P N ops bs ks H₀ G (pre ++ [p]).length (pre ++ [p]) os (put T o.dst p.v) p.hi := by rw [List.length_append]; exact h4
    have hT' : put T o.dst p.v = selT (fun _ => true) 0 (pre ++ [p]) T₀ := by
      rw [selT_app, ← hT]
      simp only [selT]
      rw [h3.1]
    obtain ⟨ps, n', g1, g2, g3, g4, g5, g6, g7⟩ := DR.all T₀ os (pre ++ [p]) _ p.hi hT' h4
    refine ⟨p :: ps, n', by simp [g1], by omega, by simpa using g3, fun j q hq => ?_, fun i j a b hi hj hij => ?_, fun x hx1 hx2 => ?_, fun j o' ho' => ?_⟩
    · cases j with
      | zero => simp at hq; subst hq; omega
      | succ j => simp at hq; have := g4 j q hq; omega
    · cases j with
      | zero => omega
      | succ j =>
        simp at hj
        cases i with
        | zero => simp at hi; subst hi; exact (g4 j b hj).1
        | succ i => simp at hi; exact g5 i j a b hi hj (by omega)
    · by_cases hx : x < p.hi
      · exact ⟨0, p, rfl, by omega, hx⟩
      · obtain ⟨j, q, hq, h⟩ := g6 x (by omega) hx2
        exact ⟨j + 1, q, by simpa using hq, h⟩
    · cases j with
      | zero =>
        simp at ho'
        subst ho'
        exact ⟨p, rfl, by simpa [hT] using h3⟩
      | succ j =>
        simp at ho'
        obtain ⟨q, hq, hf⟩ := g7 j o' ho'
        refine ⟨q, by simpa using hq, ?_⟩
        simp only [List.length_append, List.length_cons, List.length_nil, Nat.zero_add, List.append_assoc, List.singleton_append] at hf
        rw [show pre.length + 1 + j = pre.length + (j + 1) by omega] at hf
        simpa using hf
def ordB (bs : List Nat) (i j : Nat) : Bool := Nat.testBit (bs.getD i 0) j || Nat.testBit (bs.getD j 0) i
def chkB (ops : List Oper) (bs ks : List Nat) : Bool :=
  Nat.beq bs.length ops.length && Nat.ble ops.length ks.length && Region.noSelect ops.toArray &&
  (List.range ops.length).all fun i => match ops[i]? with
    | none => true
    | some o =>
      o.after.all (fun e => !Region.binds .any e || Nat.blt e.on i) &&
      (List.range ops.length).all fun j =>
        (!Nat.testBit (bs.getD i 0) j || (Nat.blt j i && (o.after.any (fun e => Region.binds .any e && (Nat.beq e.on j || Nat.testBit (bs.getD e.on 0) j))) && (Nat.beq ((bs.getD i 0) ||| (bs.getD j 0)) (bs.getD i 0)))) &&
        (Nat.beq i j || ordB bs i j || (match ops[j]? with
          | none => true
          | some o' => (match o'.dst with
            | some d => !(o.looksAt ops.toArray).contains d && o.dst != some d
            | none => true))) &&
        (Nat.beq i j || ordB bs i j || !(Nat.beq (ks.getD i 0) 2) || Nat.beq (ks.getD j 0) 0 || Nat.beq (ks.getD j 0) 3)
end Go.Proofs.Ytljpgbgokjiamaa.Aw

-- A region that draws its order: soundness.
namespace Go.Proofs.Ytljpgbgokjiamaa.Aw
open Go Go.RowKit
theorem selT_false {L : Nat → Bool} : ∀ (ps : List PO) (k : Nat) (T : Tp), (∀ j, j < ps.length → L (k + j) = false) → selT L k ps T = T
  | [], _, _, _ => rfl
  | p :: ps, k, T, h => by
    have h0 := h 0 (by simp)
    rw [Nat.add_zero] at h0
    simp only [selT, h0]
    exact selT_false ps (k + 1) T (fun j hj => by have := h (j + 1) (by simpa using hj); rw [show k + 1 + j = k + (j + 1) by omega]; exact this)
theorem selH_false {L : Nat → Bool} : ∀ (ps : List PO) (k : Nat) (H : Hp), (∀ j, j < ps.length → L (k + j) = false) → selH L k ps H = H
  | [], _, _, _ => rfl
  | p :: ps, k, H, h => by
    have h0 := h 0 (by simp)
    rw [Nat.add_zero] at h0
    simp only [selH, h0]
    exact selH_false ps (k + 1) H (fun j hj => by have := h (j + 1) (by simpa using hj); rw [show k + 1 + j = k + (j + 1) by omega]; exact this)
theorem selT_take {L : Nat → Bool} {i : Nat} (ps : List PO) (T : Tp) (t : Nat) (h : ∀ j p, ps[j]? = some p → p.dst = some t → L j = decide (j < i)) :
    look (selT L 0 ps T) t = look (selT (fun _ => true) 0 (ps.take i) T) t := by
  have e : selT (fun j => decide (j < i)) 0 ps T = selT (fun j => decide (j < i)) 0 (ps.take i) T := by
    have := selT_app (fun j => decide (j < i)) (ps.take i) (ps.drop i) 0 T
    rw [List.take_append_drop] at this
    rw [this]
    refine selT_false _ _ _ fun j hj => ?_
    simp only [List.length_drop] at hj
    simp [List.length_take]
    omega
  rw [selT_congr ps 0 T T rfl (L' := fun j => decide (j < i)) (fun j p hp hd => by rw [Nat.zero_add]; exact h j p hp hd), e]
  refine selT_congr _ 0 T T rfl fun j p hp _ => ?_
  have : j < (ps.take i).length := (List.getElem?_eq_some_iff.1 hp).1
  simp only [List.length_take] at this
  simp
  omega
theorem selH_take {L : Nat → Bool} {i : Nat} (ps : List PO) (H : Hp) (hL : ∀ j, L j = true → j < i) : selH L 0 ps H = selH L 0 (ps.take i) H := by
  have := selH_app L (ps.take i) (ps.drop i) 0 H
  rw [List.take_append_drop] at this
  rw [this]
  refine selH_false _ _ _ fun j hj => ?_
  simp only [List.length_drop] at hj
  cases hl : L (0 + (List.take i ps).length + j) with
  | false => rfl
  | true =>
    have := hL _ hl
    simp only [List.length_take] at this
    omega
theorem selH_ins {L L' : Nat → Bool} {i id : Nat} {q : PO} : ∀ (ps : List PO) (k : Nat) (H H' : Hp), look H id = look H' id → k ≤ i → ps[i - k]? = some q → L i = false → L' i = true → (∀ j, j ≠ i → L' j = L j) → (∀ j p, ps[j]? = some p → i < k + j → L (k + j) = true → lkE p.E id = none) →
    look (selH L' k ps H) id = (lkE q.E id).getD (look (selH L k ps H') id)
  | [], k, H, H', _, _, hq, _, _, _, _ => by simp at hq
  | p :: ps, k, H, H', h, hk, hq, h1, h2, h3, h4 => by
    simp only [selH]
    by_cases hki : k = i
    · subst hki
      simp only [Nat.sub_self, List.getElem?_cons_zero, Option.some.injEq] at hq
      subst hq
      rw [h1, h2]
      have rest : ∀ j r, ps[j]? = some r → L (k + 1 + j) = true → lkE r.E id = none := fun j r hr hl => h4 (j + 1) r (by simpa using hr) (by omega) (by rw [show k + (j + 1) = k + 1 + j by omega]; exact hl)
      have a1 : look (selH L' (k + 1) ps (ovr p.E H)) id = look (ovr p.E H) id := by
        rw [selH_congr ps (k + 1) _ (ovr p.E H) rfl (L' := fun _ => false) (fun j r hr hm => by
          rw [h3 (k + 1 + j) (by omega)]
          cases hl : L (k + 1 + j) with
          | false => rfl
          | true => exact absurd (rest j r hr hl) hm), selH_false]
        exact fun _ _ => rfl
      have a2 : look (selH L (k + 1) ps H') id = look (selH L (k + 1) ps H') id := rfl
      cases he : lkE p.E id with
      | some ob => rw [a1, look_ovr, he]; rfl
      | none =>
        rw [Option.getD_none]
        refine selH_congr ps (k + 1) _ _ (by rw [look_ovr, he]; exact h) fun j r _ _ => ?_
        exact h3 _ (by omega)
    · have hlt : k < i := by omega
      rw [h3 k hki]
      refine selH_ins ps (k + 1) _ _ ?_ (by omega) (by rw [show i - k = (i - (k + 1)) + 1 by omega] at hq; simpa using hq) h1 h2 h3 (fun j r hr hij hl => ?_)
      · cases L k
        · exact h
        · rw [look_ovr, look_ovr, h]
      · exact h4 (j + 1) r (by simpa using hr) (by omega) (by rw [show k + (j + 1) = k + 1 + j by omega]; exact hl)
theorem Rel.frame {Old : Nat → Prop} {wi : WI Old} {K : Nat → Prop} {m m' : Nat → Loc} {S : Nat → Prop} {H Hd U : Hp} {w w' : World} {lo hi : Nat} {v : AV} {r : Value} (hr : Rel Old wi K m S H w) (hS : ∀ i, lo ≤ i → i < hi → ¬ S i)
    (hU : ∀ i b, look U i = some b → lo ≤ i ∧ i < hi) {K' : Nat → Prop} (ha : Aft Old wi K m S w lo v (U ++ Hd) hi true r w' m' K') : Rel Old wi K' m' (addS S lo hi) (U ++ H) w' := by
  obtain ⟨hb, hnew, hkn⟩ := ha.fr rfl
  have hS' : ∀ i, S i → m' i = m i := fun i hi' => ha.ag i (fun hc => hS i hc.1 hc.2 hi')
  have part : ∀ i b, look (U ++ H) i = some b → look U i = some b ∨ (look U i = none ∧ look H i = some b) := fun i b hl => by
    rw [look_append] at hl
    cases hu : look U i with
    | some b' => rw [hu] at hl; simp at hl; exact .inl (by rw [hl])
    | none => rw [hu] at hl; simp at hl; exact .inr ⟨rfl, hl⟩
  have big : ∀ i b, look U i = some b → look (U ++ Hd) i = some b := fun i b hu => by rw [look_append, hu]; rfl
  refine { os := ha.rel.os, tape := ha.rel.tape, output := ha.rel.output, size := ha.rel.size, old := ha.rel.old, olt := ha.rel.olt, oown := ?_, om := ?_, kb := ha.rel.kb, pin := ha.rel.pin, pinS := ha.rel.pinS, inS := ?_, own := ?_, inj := ?_ }
  · intro i b hl
    rcases part i b hl with hu | ⟨_, hh⟩
    · exact ha.rel.oown i b (big i b hu)
    · rw [hS' i (hr.inS i b hh)]; exact hr.oown i b hh
  · intro i b hl
    rcases part i b hl with hu | ⟨_, hh⟩
    · exact ha.rel.om i b (big i b hu)
    · rw [hS' i (hr.inS i b hh)]; exact fun hp hq => ⟨(hr.om i b hh hp hq).1, ha.gk.1 _ (hr.om i b hh hp hq).2.1, (hr.om i b hh hp hq).2.2⟩
  · intro i b hl
    rcases part i b hl with hu | ⟨_, hh⟩
    · exact .inr (hU i b hu)
    · exact .inl (hr.inS i b hh)
  · intro i b hl
    rcases part i b hl with hu | ⟨_, hh⟩
    · exact ha.rel.own i b (big i b hu)
    · exact (hr.own i b hh).mono2 ha.gk.1 (fun hp hk => hkn _ hk ((hr.own i b hh).br hp).lt_size) ha.kk (fun _ h => hb.block _ h.lt_size) (fun i hi => .inl hi) hS' (hr.inS i b hh)
  · intro i j bi bj hi' hj' hne
    rcases part i bi hi' with hui | ⟨_, hhi⟩ <;> rcases part j bj hj' with huj | ⟨_, hhj⟩
    · exact ha.rel.inj i j bi bj (big i bi hui) (big j bj huj) hne
    · intro hp
      have h1 := hnew i (hU i bi hui).1 (hU i bi hui).2 hp
      rw [hS' j (hr.inS j bj hhj)]
      intro hp'
      have := ((hr.own j bj hhj).br hp').lt_size
      omega
    · rw [hS' i (hr.inS i bi hhi)]
      intro hp' hp
      have h1 := hnew j (hU j bj huj).1 (hU j bj huj).2 hp
      have := ((hr.own i bi hhi).br hp').lt_size
      omega
    · rw [hS' i (hr.inS i bi hhi), hS' j (hr.inS j bj hhj)]
      exact hr.inj i j bi bj hhi hhj hne
theorem Step.framed {P : Program} {o : Oper} {N : Nat} {T : Tp} {Hd H' : Hp} {lo hi : Nat} {v : AV} {E : List (Nat × Option Blk)} (hst : Step P o N T Hd lo v H' hi false) (hH' : ∀ i, look H' i = look (ovr E Hd) i)
    {Old : Nat → Prop} {wi : WI Old} {K : Nat → Prop} {m : Nat → Loc} {S : Nat → Prop} {H : Hp} {a : Act} {w : World} (hr : Rel Old wi K m S H w) (hsub : ∀ i b, look Hd i = some b → look H i = some b) (hS : ∀ i, lo ≤ i → i < hi → ¬ S i) (ht : TRel K w m S N T a)
    (hx : ∀ i, look H i = look Hd i ∨ (look Hd i = none ∧ lkE E i = none)) (rr : Option Nat) (next : Act → World → Prop) (Q : Exit → Act → World → Prop)
    (hn : ∀ r w' m' K', (∀ i, ¬ (lo ≤ i ∧ i < hi) → m' i = m i) → GK Old K K' → Rel Old wi K' m' (addS S lo hi) (ovr E H) w' → VR K' w' m' (addS S lo hi) v r → (∀ k, K k → w'.heap[k]? = w.heap[k]?) → next (a.put o.dst r) w') : o.wpIn (FW rr) 0 P a w next Q := by
  have hrd : Rel Old wi K m S Hd w := hr.sub hsub
  obtain ⟨Old', hO⟩ : ∃ Old' : Nat → Prop, ∀ k, Old' k ↔ (k < w.heap.size ∧ (∀ i b, look Hd i = some b → (m i).ph = false → (m i).blk ≠ k) ∧ ∀ i b, look Hd i = some b → (m i).ph = true → (m i).cap = 1 → (m i).blk ≠ k) := ⟨_, fun _ => Iff.rfl⟩
  have hOO : ∀ k, Old k → Old' k := fun k hk => (hO k).2 ⟨hr.olt k hk, fun i b hl hp e => hrd.oown i b hl hp (e ▸ hk), fun i b hl hp hq e => (hrd.om i b hl hp hq).2.2 (e ▸ hk)⟩
  have hr0 : Rel Old' ⟨w, fun _ => none, hr.gl, fun k hk => hOO k (wi.go k hk)⟩ K m S Hd w :=
    { os := rfl, tape := rfl, output := rfl, size := Nat.le_refl _, old := fun _ _ => rfl, olt := fun k hk => ((hO k).1 hk).1, oown := fun i b hl hp ho => ((hO _).1 ho).2.1 i b hl hp rfl, om := fun i b hl hp hq => ⟨(hrd.om i b hl hp hq).1, (hrd.om i b hl hp hq).2.1, fun ho => ((hO _).1 ho).2.2 i b hl hp hq rfl⟩, kb := hrd.kb, inS := hrd.inS, pin := fun _ _ h => (by cases h), pinS := fun _ _ h => (by cases h), own := hrd.own, inj := hrd.inj }
  refine hst.inn (wi := ⟨w, fun _ => none, hr.gl, fun k hk => hOO k (wi.go k hk)⟩) hS hr0 ht rr next Q fun r w' m' K' ha => ?_
  have hSm : ∀ i, S i → m' i = m i := fun i hi' => ha.ag i (fun hc => hS i hc.1 hc.2 hi')
  have gk : GK Old K K' := ⟨ha.gk.1, fun k hk ho => ha.gk.2 k hk (hOO k ho)⟩
  -- a block that is there beside
  have side : ∀ i b, look (ovr E H) i = some b → look H' i = some b ∨ (look H i = some b ∧ look Hd i = none) := fun i b hl => by
    rw [look_ovr] at hl
    rw [hH', look_ovr]
    cases he : lkE E i with
    | some ob => rw [he] at hl; exact .inl hl
    | none =>
      rw [he] at hl
      simp only [Option.getD_none] at hl ⊢
      rcases hx i with h | ⟨h, _⟩
      · left; rw [← h]; exact hl
      · exact .inr ⟨hl, h⟩
  have sideOld : ∀ i b, look H i = some b → look Hd i = none → (m i).ph = false → Old' (m i).blk := fun i b hl hd hp =>
    (hO _).2 ⟨((hr.own i b hl).br hp).lt_size, fun j c hj hpj => hr.inj j i c b (hsub j c hj) hl (fun e => by subst e; rw [hd] at hj; cases hj) hpj hp, fun j c hj hpj hq e => ((hr.own i b hl).br hp).nk (e ▸ (hrd.om j c hj hpj hq).2.1)⟩
  refine hn r w' m' K' ha.ag gk ?_ ha.vr ha.kk
  refine { os := ha.rel.os.trans hr.os, tape := ha.rel.tape.trans hr.tape, output := ha.rel.output.trans hr.output, size := Nat.le_trans hr.size ha.rel.size, old := fun k hk => (ha.rel.old k (hOO k hk)).trans (hr.old k hk), olt := fun k hk => ha.rel.olt k (hOO k hk), oown := ?_, om := ?_, kb := ha.rel.kb, inS := ?_,
           pin := fun i l hp => (hSm i (hr.pinS i l hp)).trans (hr.pin i l hp), pinS := fun i l hp => .inl (hr.pinS i l hp), own := ?_, inj := ?_ }
  · intro i b hl
    rcases side i b hl with h | ⟨h, hd⟩
    · exact fun hp ho => ha.rel.oown i b h hp (hOO _ ho)
    · rw [hSm i (hr.inS i b h)]; exact hr.oown i b h
  · intro i b hl
    rcases side i b hl with h | ⟨h, hd⟩
    · exact fun hp hq => ⟨(ha.rel.om i b h hp hq).1, (ha.rel.om i b h hp hq).2.1, fun ho => (ha.rel.om i b h hp hq).2.2 (hOO _ ho)⟩
    · rw [hSm i (hr.inS i b h)]; exact fun hp hq => ⟨(hr.om i b h hp hq).1, ha.gk.1 _ (hr.om i b h hp hq).2.1, (hr.om i b h hp hq).2.2⟩
  · intro i b hl
    rcases side i b hl with h | ⟨h, hd⟩
    · exact ha.rel.inS i b h
    · exact .inl (hr.inS i b h)
  · intro i b hl
    rcases side i b hl with h | ⟨h, hd⟩
    · exact ha.rel.own i b h
    · exact (hr.own i b h).mono2 ha.gk.1 (fun hp hk => ha.gk.2 _ hk (sideOld i b h hd hp)) ha.kk (fun hp _ => ha.rel.old _ (sideOld i b h hd hp)) (fun i hi => .inl hi) hSm (hr.inS i b h)
  · intro i j bi bj hi' hj' hne
    rcases side i bi hi' with h1 | ⟨h1, d1⟩ <;> rcases side j bj hj' with h2 | ⟨h2, d2⟩
    · exact ha.rel.inj i j bi bj h1 h2 hne
    · rw [hSm j (hr.inS j bj h2)]
      exact fun hp hp' e => ha.rel.oown i bi h1 hp (e ▸ sideOld j bj h2 d2 hp')
    · rw [hSm i (hr.inS i bi h1)]
      exact fun hp hp' e => ha.rel.oown j bj h2 hp' (e ▸ sideOld i bi h1 d1 hp)
    · rw [hSm i (hr.inS i bi h1), hSm j (hr.inS j bj h2)]
      exact hr.inj i j bi bj h1 h2 hne
theorem lkE_map : ∀ (U : Hp) (i : Nat), lkE (U.map fun x => (x.1, some x.2)) i = (look U i).map some
  | [], i => rfl
  | (k, b) :: U, i => by
    simp only [List.map_cons, lkE_cons, look_cons]
    split
    · rfl
    · exact lkE_map U i
section
variable {P : Program} {N : Nat} {l : List Oper} {bs ks : List Nat} {T : Tp} {H : Hp} {n : Nat}
theorem chk_at (hc : chkB l bs ks = true) {i : Nat} {o : Oper} (hi : l[i]? = some o) :
    (∀ e ∈ o.after, Region.binds .any e = true → e.on < i) ∧ ∀ j, j < l.length →
      (Nat.testBit (bs.getD i 0) j = true → j < i ∧ (∃ e ∈ o.after, Region.binds .any e = true ∧ (e.on = j ∨ Nat.testBit (bs.getD e.on 0) j = true)) ∧ ∀ k, Nat.testBit (bs.getD j 0) k = true → Nat.testBit (bs.getD i 0) k = true) ∧
      (i ≠ j → ordB bs i j = false → ∀ o', l[j]? = some o' → ∀ d, o'.dst = some d → d ∉ o.looksAt l.toArray ∧ o.dst ≠ some d) ∧
      (i ≠ j → ordB bs i j = false → ks.getD i 0 = 2 → ks.getD j 0 = 0 ∨ ks.getD j 0 = 3) := by
  unfold chkB at hc
  simp only [Bool.and_eq_true, List.all_eq_true] at hc
  obtain ⟨_, h⟩ := hc
  have hlt : i < l.length := (List.getElem?_eq_some_iff.1 hi).1
  have h1 := h i (List.mem_range.2 hlt)
  rw [hi] at h1
  simp only [Bool.and_eq_true, List.all_eq_true] at h1
  obtain ⟨ha, hb⟩ := h1
  refine ⟨fun e he hbn => ?_, fun j hj => ?_⟩
  · have := Array.all_eq_true_iff_forall_mem.1 ha e he
    rw [hbn] at this
    simpa [Nat.blt_eq] using this
  · have hjj := hb j (List.mem_range.2 hj)
    obtain ⟨⟨g1, g2⟩, g3⟩ := hjj
    refine ⟨fun ht => ?_, fun hne ho o' ho' d hd => ?_, fun hne ho h2 => ?_⟩
    · rw [ht] at g1
      simp only [Bool.not_true, Bool.false_or, Bool.and_eq_true, Nat.blt_eq] at g1
      obtain ⟨⟨p1, p2⟩, p3⟩ := g1
      refine ⟨p1, ?_, fun k hk => ?_⟩
      · obtain ⟨e, he, hh⟩ := Array.any_eq_true'.1 p2
        simp only [Bool.and_eq_true, Bool.or_eq_true] at hh
        refine ⟨e, he, hh.1, ?_⟩
        rcases hh.2 with q | q
        · exact .inl (Nat.eq_of_beq_eq_true q)
        · exact .inr q
      · have := Nat.eq_of_beq_eq_true p3
        rw [← this, Nat.testBit_or, hk, Bool.or_true]
    · have hne' : Nat.beq i j = false := by
        cases hb : Nat.beq i j
        · rfl
        · exact absurd (Nat.eq_of_beq_eq_true hb) hne
      rw [hne', ho, ho'] at g2
      simp only [Bool.false_or, hd, Bool.and_eq_true, bne_iff_ne, ne_eq, Bool.not_eq_true'] at g2
      refine ⟨fun hm => ?_, g2.2⟩
      have : (o.looksAt l.toArray).contains d = true := by simpa using hm
      rw [this] at g2
      simp at g2
    · have hne' : Nat.beq i j = false := by
        cases hb : Nat.beq i j
        · rfl
        · exact absurd (Nat.eq_of_beq_eq_true hb) hne
      have h2' : Nat.beq (ks.getD i 0) 2 = true := by rw [h2]; rfl
      rw [hne', ho, h2'] at g3
      simpa using g3
def ClosedL (l : List Oper) (L : Nat → Bool) : Prop := ∀ (i : Nat) (o : Oper), l[i]? = some o → L i = true → ∀ e ∈ o.after, Region.binds .any e = true → L e.on = true
theorem bef_in (hc : chkB l bs ks = true) {L : Nat → Bool} (hL : ClosedL l L) : ∀ (i : Nat) (o : Oper), l[i]? = some o → (∀ e ∈ o.after, Region.binds .any e = true → L e.on = true) → ∀ j, j < l.length → Nat.testBit (bs.getD i 0) j = true → L j = true := by
  intro i
  induction i using Nat.strongRecOn with
  | _ i ih =>
    intro o hi he j hj ht
    obtain ⟨h0, h1⟩ := chk_at hc hi
    obtain ⟨⟨_, ⟨e, he', hbn, hor⟩, _⟩, _⟩ := (fun h => ⟨(h1 j hj).1 h, trivial⟩ : Nat.testBit (bs.getD i 0) j = true → _ ∧ True) ht
    have hLe := he e he' hbn
    rcases hor with rfl | hor
    · exact hLe
    · have hlt := h0 e he' hbn
      have hlen : e.on < l.length := by have := (List.getElem?_eq_some_iff.1 hi).1; omega
      exact ih e.on hlt _ (List.getElem?_eq_getElem hlen) (hL e.on _ (List.getElem?_eq_getElem hlen) hLe) j hj hor
end
end Go.Proofs.Ytljpgbgokjiamaa.Aw

-- A region that draws its order: the rule.
namespace Go.Proofs.Ytljpgbgokjiamaa.Aw
open Go Go.RowKit
section
variable {P : Program} {N : Nat} {l : List Oper} {bs ks : List Nat} {T : Tp} {H : Hp} {n n' : Nat} {ps : List PO}
structure Plan (P : Program) (N : Nat) (l : List Oper) (bs ks : List Nat) (T : Tp) (H : Hp) (n n' : Nat) (ps : List PO) : Prop where
  chk : chkB l bs ks = true
  len : ps.length = l.length
  rng : ∀ (j : Nat) (p : PO), ps[j]? = some p → n ≤ p.lo ∧ p.lo ≤ p.hi ∧ p.hi ≤ n'
  chain : ∀ (i j : Nat) (p q : PO), ps[i]? = some p → ps[j]? = some q → i < j → p.hi ≤ q.lo
  cov : ∀ x, n ≤ x → x < n' → ∃ (j : Nat) (p : PO), ps[j]? = some p ∧ p.lo ≤ x ∧ x < p.hi
  fact : ∀ (j : Nat) (o : Oper), l[j]? = some o → ∃ p, ps[j]? = some p ∧
    FactT P N l.toArray o (resT (o.looksAt l.toArray) (selT (fun _ => true) 0 (ps.take j) T)) (selH (depM bs ks j) 0 (ps.take j) H) (ks.getD j 0) (SameAt l.toArray ks H j) p
  keepR : KeepR l.toArray bs ks H ps
  old : ∀ i b, look H i = some b → i < n
def SL (n : Nat) (ps : List PO) (L : Nat → Bool) : Nat → Prop := fun x => x < n ∨ ∃ (j : Nat) (p : PO), ps[j]? = some p ∧ L j = true ∧ p.lo ≤ x ∧ x < p.hi
theorem Plan.disj (h : Plan P N l bs ks T H n n' ps) {i j : Nat} {p q : PO} {x : Nat} (hi : ps[i]? = some p) (hj : ps[j]? = some q) (h1 : p.lo ≤ x) (h2 : x < p.hi) (h3 : q.lo ≤ x) (h4 : x < q.hi) : i = j := by
  rcases Nat.lt_trichotomy i j with hlt | he | hgt
  · have := h.chain i j p q hi hj hlt; omega
  · exact he
  · have := h.chain j i q p hj hi hgt; omega
theorem Plan.ment (h : Plan P N l bs ks T H n n' ps) {j : Nat} {p : PO} (hj : ps[j]? = some p) {id : Nat} (hm : lkE p.E id ≠ none) :
    ((ks.getD j 0 = 1 ∨ ks.getD j 0 = 3) ∧ p.lo ≤ id ∧ id < p.hi) ∨ (ks.getD j 0 = 2 ∧ ((look (selH (depM bs ks j) 0 (ps.take j) H) id).isSome = true ∨ (p.lo ≤ id ∧ id < p.hi))) := by
  have hlt : j < l.length := by rw [← h.len]; exact (List.getElem?_eq_some_iff.1 hj).1
  obtain ⟨q, hq, _, _, hf⟩ := h.fact j _ (List.getElem?_eq_getElem hlt)
  rw [hj] at hq
  simp only [Option.some.injEq] at hq
  subst hq
  rcases hf with ⟨_, _, _, _, _, _, _, _, _, _, he, _⟩ | ⟨_, ⟨_, he, _⟩ | ⟨hk, U, he, hu, _⟩ | ⟨hk, U, he, hu, _⟩ | ⟨hk, H', _, hin, _⟩⟩
  · rw [he] at hm; exact absurd rfl hm
  · rw [he] at hm; exact absurd rfl hm
  · rw [he, lkE_map] at hm
    cases hl : look U id with
    | none => rw [hl] at hm; exact absurd rfl hm
    | some b => exact .inl ⟨.inl hk, hu id b hl⟩
  · rw [he, lkE_map] at hm
    cases hl : look U id with
    | none => rw [hl] at hm; exact absurd rfl hm
    | some b => exact .inl ⟨.inr hk, hu id b hl⟩
  · cases hl : lkE p.E id with
    | none => exact absurd hl hm
    | some ob => exact .inr ⟨hk, hin id ob hl⟩
theorem depM_iff {i j : Nat} : depM bs ks i j = true ↔ Nat.testBit (bs.getD i 0) j = true ∧ 0 < ks.getD j 0 ∧ j < i := by
  simp [depM, Nat.blt_eq, and_assoc]
theorem Plan.trans (h : Plan P N l bs ks T H n n' ps) {i j k : Nat} (hi : i < l.length) (h1 : depM bs ks i j = true) (h2 : depM bs ks j k = true) : depM bs ks i k = true := by
  rw [depM_iff] at *
  obtain ⟨_, hc⟩ := chk_at h.chk (List.getElem?_eq_getElem hi)
  exact ⟨((hc j (by omega)).1 h1.1).2.2 k h2.1, h2.2.1, by omega⟩
theorem Plan.dom (h : Plan P N l bs ks T H n n' ps) {j : Nat} {p : PO} {id : Nat} (hj : ps[j]? = some p) (h1 : p.lo ≤ id) (h2 : id < p.hi) :
    ∀ i, i < l.length → look (selH (depM bs ks i) 0 (ps.take i) H) id ≠ none → depM bs ks i j = true := by
  intro i
  induction i using Nat.strongRecOn with
  | _ i ih =>
    intro hi hne
    cases hl : look (selH (depM bs ks i) 0 (ps.take i) H) id with
    | none => exact absurd hl hne
    | some b =>
      rcases selH_from _ _ _ hl with h0 | ⟨j', q, hq, hd, hm⟩
      · have := h.old id b h0
        have := h.rng j p hj
        omega
      · rw [Nat.zero_add] at hd
        have hlt : j' < i := (depM_iff.1 hd).2.2
        have hq' : ps[j']? = some q := by rw [List.getElem?_take, if_pos hlt] at hq; exact hq
        rcases h.ment hq' (id := id) (by rw [hm]; simp) with ⟨_, g1, g2⟩ | ⟨_, hin⟩
        · rw [h.disj hj hq' h1 h2 g1 g2]; exact hd
        · rcases hin with hin | ⟨g1, g2⟩
          · exact h.trans hi hd (ih j' hlt (by omega) (fun hn => by rw [hn] at hin; cases hin))
          · rw [h.disj hj hq' h1 h2 g1 g2]; exact hd
variable {L : Nat → Bool}
theorem Plan.noAfter (h : Plan P N l bs ks T H n n' ps) (hL : ClosedL l L) {i j : Nat} (hi : L i = false) (hj : L j = true) (hjl : j < l.length) (hil : i < l.length) : Nat.testBit (bs.getD j 0) i = false := by
  cases ht : Nat.testBit (bs.getD j 0) i with
  | false => rfl
  | true =>
    have := bef_in h.chk hL j _ (List.getElem?_eq_getElem hjl) (hL j _ (List.getElem?_eq_getElem hjl) hj) i hil ht
    rw [hi] at this
    cases this
theorem Plan.incl (h : Plan P N l bs ks T H n n' ps) (hL : ClosedL l L) {i : Nat} {o : Oper} (hi : l[i]? = some o) (hLi : L i = false) (hre : ∀ e ∈ o.after, Region.binds .any e = true → L e.on = true) (hk : ks.getD i 0 = 1 ∨ ks.getD i 0 = 2)
    {id : Nat} {b : Blk} (hl : look (selH (depM bs ks i) 0 (ps.take i) H) id = some b) : look (selH L 0 ps H) id = some b := by
  have hil : i < l.length := (List.getElem?_eq_some_iff.1 hi).1
  rw [← selH_take ps H (fun j hj => (depM_iff.1 hj).2.2)] at hl
  rw [← hl]
  refine (selH_congr ps 0 H H rfl fun j q hq hm => ?_).symm
  rw [Nat.zero_add]
  have hjl : j < l.length := by rw [← h.len]; exact (List.getElem?_eq_some_iff.1 hq).1
  have hkj : 0 < ks.getD j 0 := by rcases h.ment hq hm with ⟨e, _⟩ | ⟨e, _⟩ <;> omega
  cases hD : depM bs ks i j with
  | true => exact (bef_in h.chk hL i o hi hre j hjl (depM_iff.1 hD).1).symm
  | false =>
    cases hLj : L j with
    | false => rfl
    | true =>
      exfalso
      have hij : i ≠ j := fun e => by rw [e, hLj] at hLi; cases hLi
      have hna := h.noAfter hL hLi hLj hjl hil
      have hnb : Nat.testBit (bs.getD i 0) j = false := by
        cases ht : Nat.testBit (bs.getD i 0) j with
        | false => rfl
        | true =>
          obtain ⟨_, hc⟩ := chk_at h.chk hi
          have := depM_iff.2 ⟨ht, hkj, ((hc j hjl).1 ht).1⟩
          rw [hD] at this
          cases this
      have hord : ordB bs j i = false := by simp only [ordB, hna, hnb, Bool.or_false]
      rcases h.ment hq hm with ⟨_, g1, g2⟩ | ⟨hk2, _⟩
      · have := h.dom hq g1 g2 i hil (by rw [← selH_take ps H (fun j hj => (depM_iff.1 hj).2.2), hl]; simp)
        rw [hD] at this
        cases this
      · obtain ⟨_, hc⟩ := chk_at h.chk (List.getElem?_eq_getElem hjl)
        have := (hc i hil).2.2 (fun e => hij e.symm) hord (by omega)
        omega
theorem Plan.next (h : Plan P N l bs ks T H n n' ps) (hL : ClosedL l L) {i : Nat} {o : Oper} (hi : l[i]? = some o) (hLi : L i = false) {p : PO} (hp : ps[i]? = some p) {L' : Nat → Bool} (h1 : L' i = true) (h2 : ∀ j, j ≠ i → L' j = L j) (id : Nat) :
    look (selH L' 0 ps H) id = (lkE p.E id).getD (look (selH L 0 ps H) id) := by
  have hil : i < l.length := (List.getElem?_eq_some_iff.1 hi).1
  cases he : lkE p.E id with
  | none =>
    rw [Option.getD_none]
    refine selH_congr ps 0 H H rfl fun j q hq hm => ?_
    rw [Nat.zero_add]
    by_cases hj : j = i
    · subst hj
      rw [hp] at hq
      simp only [Option.some.injEq] at hq
      subst hq
      exact absurd he hm
    · exact h2 j hj
  | some ob =>
    rw [← he]
    refine selH_ins ps 0 H H rfl (Nat.zero_le _) (by simpa using hp) hLi h1 h2 fun j q hq hij hLj => ?_
    rw [Nat.zero_add] at hij hLj
    have hjl : j < l.length := by rw [← h.len]; exact (List.getElem?_eq_some_iff.1 hq).1
    cases hm : lkE q.E id with
    | none => rfl
    | some oq =>
      exfalso
      have hna := h.noAfter hL hLi hLj hjl hil
      have hnb : Nat.testBit (bs.getD i 0) j = false := by
        cases ht : Nat.testBit (bs.getD i 0) j with
        | false => rfl
        | true =>
          obtain ⟨_, hc⟩ := chk_at h.chk hi
          have := ((hc j hjl).1 ht).1
          omega
      have hord : ordB bs i j = false := by simp only [ordB, hna, hnb, Bool.or_false]
      have hkj : 0 < ks.getD j 0 := by rcases h.ment hq (id := id) (by rw [hm]; simp) with ⟨e, _⟩ | ⟨e, _⟩ <;> omega
      rcases h.ment hp (id := id) (by rw [he]; simp) with ⟨_, g1, g2⟩ | hk2
      · rcases h.ment hq (id := id) (by rw [hm]; simp) with ⟨_, q1, q2⟩ | ⟨_, hin⟩
        · have := h.disj hp hq g1 g2 q1 q2; omega
        · rcases hin with hin | ⟨q1, q2⟩
          · have := h.dom hp g1 g2 j hjl (fun hn => by rw [hn] at hin; cases hin)
            rw [(depM_iff.1 this).1] at hna
            cases hna
          · have := h.disj hp hq g1 g2 q1 q2; omega
      · obtain ⟨_, hc⟩ := chk_at h.chk hi
        have hj3 : ks.getD j 0 = 3 := by have := (hc j hjl).2.2 (by omega) hord hk2.1; omega
        rcases h.ment hq (id := id) (by rw [hm]; simp) with ⟨_, q1, q2⟩ | ⟨e2, _⟩
        · rcases hk2.2 with hin | ⟨g1, g2⟩
          · have := h.dom hq q1 q2 i hil (fun hn => by rw [hn] at hin; cases hin)
            rw [(depM_iff.1 this).1] at hnb
            cases hnb
          · have := h.disj hp hq g1 g2 q1 q2; omega
        · omega
theorem Plan.incl2 (h : Plan P N l bs ks T H n n' ps) (hL : ClosedL l L) {i : Nat} {o : Oper} (hi : l[i]? = some o) (hLi : L i = false) (hre : ∀ e ∈ o.after, Region.binds .any e = true → L e.on = true) (hk : ks.getD i 0 = 2) {p : PO} (hp : ps[i]? = some p) (id : Nat) :
    look (selH L 0 ps H) id = look (selH (depM bs ks i) 0 (ps.take i) H) id ∨ (look (selH (depM bs ks i) 0 (ps.take i) H) id = none ∧ lkE p.E id = none) := by
  have hil : i < l.length := (List.getElem?_eq_some_iff.1 hi).1
  by_cases hex : ∃ j q, ps[j]? = some q ∧ L j = true ∧ depM bs ks i j = false ∧ ks.getD j 0 = 3 ∧ q.lo ≤ id ∧ id < q.hi
  · obtain ⟨j, q, hq, hLj, hD, hk3, q1, q2⟩ := hex
    have hd0 : look (selH (depM bs ks i) 0 (ps.take i) H) id = none := by
      cases hl : look (selH (depM bs ks i) 0 (ps.take i) H) id with
      | none => rfl
      | some b =>
        have := h.dom hq q1 q2 i hil (by rw [hl]; simp)
        rw [hD] at this
        cases this
    refine .inr ⟨hd0, ?_⟩
    cases hm : lkE p.E id with
    | none => rfl
    | some ob =>
      exfalso
      have hij : j ≠ i := fun e => by subst e; rw [hLi] at hLj; cases hLj
      rcases h.ment hp (id := id) (by rw [hm]; simp) with ⟨_, g1, g2⟩ | ⟨_, hin | ⟨g1, g2⟩⟩
      · exact hij (h.disj hq hp q1 q2 g1 g2)
      · rw [hd0] at hin; cases hin
      · exact hij (h.disj hq hp q1 q2 g1 g2)
  left
  rw [← selH_take ps H (fun j hj => (depM_iff.1 hj).2.2)]
  refine selH_congr ps 0 H H rfl fun j q hq hm => ?_
  rw [Nat.zero_add]
  have hjl : j < l.length := by rw [← h.len]; exact (List.getElem?_eq_some_iff.1 hq).1
  have hkj : 0 < ks.getD j 0 := by rcases h.ment hq hm with ⟨e, _⟩ | ⟨e, _⟩ <;> omega
  obtain ⟨_, hc⟩ := chk_at h.chk hi
  cases hD : depM bs ks i j with
  | true => exact bef_in h.chk hL i o hi hre j hjl (depM_iff.1 hD).1
  | false =>
    cases hLj : L j with
    | false => rfl
    | true =>
      exfalso
      have hij : i ≠ j := fun e => by rw [e, hLj] at hLi; cases hLi
      have hna := h.noAfter hL hLi hLj hjl hil
      have hnb : Nat.testBit (bs.getD i 0) j = false := by
        cases ht : Nat.testBit (bs.getD i 0) j with
        | false => rfl
        | true =>
          have := depM_iff.2 ⟨ht, hkj, ((hc j hjl).1 ht).1⟩
          rw [hD] at this
          cases this
      have hord : ordB bs i j = false := by simp only [ordB, hna, hnb, Bool.or_false]
      have h3 : ks.getD j 0 = 3 := by have := (hc j hjl).2.2 hij hord hk; omega
      rcases h.ment hq hm with ⟨_, g1, g2⟩ | ⟨hk2, _⟩
      · exact hex ⟨j, q, hq, hLj, hD, h3, g1, g2⟩
      · omega
theorem Plan.tmp (h : Plan P N l bs ks T H n n' ps) (hL : ClosedL l L) {i : Nat} {o : Oper} (hi : l[i]? = some o) (hLi : L i = false) (hre : ∀ e ∈ o.after, Region.binds .any e = true → L e.on = true) {t : Nat} (k : Nat) (hk : k = i ∨ k = i + 1) {L' : Nat → Bool} (h1 : L' i = decide (i < k)) (h2 : ∀ j, j ≠ i → L' j = L j)
    (ht : (k = i ∧ t ∈ o.looksAt l.toArray) ∨ (k = i + 1 ∧ o.dst = some t)) : look (selT L' 0 ps T) t = look (selT (fun _ => true) 0 (ps.take k) T) t := by
  have hil : i < l.length := (List.getElem?_eq_some_iff.1 hi).1
  refine selT_take ps T t fun j q hq hd => ?_
  have hjl : j < l.length := by rw [← h.len]; exact (List.getElem?_eq_some_iff.1 hq).1
  by_cases hj : j = i
  · subst hj; exact h1
  · rw [h2 j hj]
    obtain ⟨_, hc⟩ := chk_at h.chk hi
    have hdo : (l[j]'hjl).dst = some t := by
      obtain ⟨q', hq', e, _⟩ := h.fact j _ (List.getElem?_eq_getElem hjl)
      rw [hq] at hq'
      simp only [Option.some.injEq] at hq'
      subst hq'
      rw [← e]; exact hd
    have hord : ordB bs i j = true := by
      cases ho : ordB bs i j with
      | true => rfl
      | false =>
        have := (hc j hjl).2.1 (fun e => hj e.symm) ho _ (List.getElem?_eq_getElem hjl) t hdo
        rcases ht with ⟨_, hm⟩ | ⟨_, hdst⟩
        · exact absurd hm this.1
        · exact absurd hdst this.2
    simp only [ordB, Bool.or_eq_true] at hord
    rcases hord with hb | hb
    · have hlt := ((hc j hjl).1 hb).1
      rw [bef_in h.chk hL i o hi hre j hjl hb]
      have : j < k := by omega
      simp [this]
    · obtain ⟨_, hc'⟩ := chk_at h.chk (List.getElem?_eq_getElem hjl)
      have hlt := ((hc' i hil).1 hb).1
      have : ¬ j < k := by omega
      simp only [this, decide_false]
      cases hLj : L j with
      | false => rfl
      | true => rw [h.noAfter hL hLi hLj hjl hil] at hb; cases hb
end
end Go.Proofs.Ytljpgbgokjiamaa.Aw

-- A region that draws its order: the rule, whole.
namespace Go.Proofs.Ytljpgbgokjiamaa.Aw
open Go Go.RowKit
section
variable {P : Program} {N : Nat} {l : List Oper} {bs ks : List Nat} {T : Tp} {H : Hp} {n n' : Nat} {ps : List PO} {Old : Nat → Prop} {wi : WI Old} {K : Nat → Prop}
def InvD (N : Nat) (T : Tp) (H : Hp) (n : Nat) (ps : List PO) (Old : Nat → Prop) (wi : WI Old) (K : Nat → Prop) (L : Nat → Bool) (a : Act) (w : World) : Prop :=
  ∃ m K', GK Old K K' ∧ Rel Old wi K' m (SL n ps L) (selH L 0 ps H) w ∧ TRel K' w m (SL n ps L) N (selT L 0 ps T) a
theorem Plan.op (h : Plan P N l bs ks T H n n' ps) {L L' : Nat → Bool} (hL : ClosedL l L) {i : Nat} {o : Oper} (hi : l[i]? = some o) (hLi : L i = false) (hre : ∀ e ∈ o.after, Region.binds .any e = true → L e.on = true)
    (h1 : L' i = true) (h2 : ∀ j, j ≠ i → L' j = L j) {a : Act} {w : World} (hI : InvD N T H n ps Old wi K L a w) (rr : Option Nat) (Q : Exit → Act → World → Prop) (next : Act → World → Prop)
    (hn : ∀ a' w', InvD N T H n ps Old wi K L' a' w' → next a' w') : wpOpIn (FW rr) 0 P l.toArray Q i next a w := by
  have hil : i < l.length := (List.getElem?_eq_some_iff.1 hi).1
  obtain ⟨p, hp, hdst, hdok, hf⟩ := h.fact i o hi
  obtain ⟨m, K1, g1, hr, ht⟩ := hI
  have hrng := h.rng i p hp
  -- the temporaries looked at
  have htI : TRel K1 w m (SL n ps L) N (resT (o.looksAt l.toArray) (selT (fun _ => true) 0 (ps.take i) T)) a := by
    refine ⟨ht.dn, ht.sz, fun t v hl => ?_⟩
    obtain ⟨hm, hlt⟩ := look_resT hl
    refine ht.tm t v ?_
    rw [h.tmp hL hi hLi hre i (.inl rfl) (L' := L) (by simp [hLi]) (fun _ _ => rfl) (.inl ⟨rfl, hm⟩)]
    exact hlt
  have hfresh : ∀ x, p.lo ≤ x → x < p.hi → ¬ SL n ps L x := by
    rintro x hx1 hx2 (hx | ⟨j, q, hq, hLj, q1, q2⟩)
    · omega
    · have := h.disj hp hq hx1 hx2 q1 q2
      subst this
      rw [hLi] at hLj
      cases hLj
  have hS : SL n ps L' = addS (SL n ps L) p.lo p.hi := by
    funext x
    refine propext ⟨?_, ?_⟩
    · rintro (hx | ⟨j, q, hq, hLj, q1, q2⟩)
      · exact .inl (.inl hx)
      · by_cases hj : j = i
        · subst hj
          rw [hp] at hq
          simp only [Option.some.injEq] at hq
          subst hq
          exact .inr ⟨q1, q2⟩
        · rw [h2 j hj] at hLj
          exact .inl (.inr ⟨j, q, hq, hLj, q1, q2⟩)
    · rintro ((hx | ⟨j, q, hq, hLj, q1, q2⟩) | hx)
      · exact .inl hx
      · refine .inr ⟨j, q, hq, ?_, q1, q2⟩
        by_cases hj : j = i
        · subst hj; exact h1
        · rw [h2 j hj]; exact hLj
      · exact .inr ⟨i, p, hp, h1, hx.1, hx.2⟩
  have hnext := h.next hL hi hLi hp h1 h2
  -- the temporaries behind it
  have hTn : ∀ t v, look (selT L' 0 ps T) t = some v → (o.dst = some t ∧ v = p.v) ∨ (o.dst ≠ some t ∧ look (selT L 0 ps T) t = some v) := by
    intro t v hl
    by_cases hd : o.dst = some t
    · left
      refine ⟨hd, ?_⟩
      rw [h.tmp hL hi hLi hre (i + 1) (.inr rfl) (L' := L') (by simp [h1]) h2 (.inr ⟨rfl, hd⟩)] at hl
      have e : ps.take (i + 1) = ps.take i ++ [p] := by rw [List.take_add_one, hp]; rfl
      rw [e, selT_app] at hl
      simp only [selT, look_put] at hl
      rw [if_pos (by rw [hdst]; exact hd)] at hl
      simpa using hl.symm
    · right
      refine ⟨hd, ?_⟩
      rw [← hl]
      refine selT_congr ps 0 T T rfl fun j q hq hqd => ?_
      rw [Nat.zero_add]
      by_cases hj : j = i
      · subst hj
        rw [hp] at hq
        simp only [Option.some.injEq] at hq
        subst hq
        rw [hdst] at hqd
        exact absurd hqd hd
      · exact (h2 j hj).symm
  have hTput : ∀ (m' : Nat → Loc) (w' : World) (r : Value) (K2 : Nat → Prop), (∀ k, K1 k → K2 k) → (∀ k, K1 k → w'.heap[k]? = w.heap[k]?) → (∀ x, SL n ps L x → m' x = m x) → VR K2 w' m' (SL n ps L') p.v r → TRel K2 w' m' (SL n ps L') N (selT L' 0 ps T) (a.put o.dst r) := by
    intro m' w' r K2 hKK hk hm hv
    have hmono := ht.mono hKK hk (S' := SL n ps L') (fun x hx => by rw [hS]; exact .inl hx) hm
    have hput := hmono.put hv hdok
    refine ⟨hput.dn, hput.sz, fun t v hl => hput.tm t v ?_⟩
    rw [look_put]
    rcases hTn t v hl with ⟨hd, rfl⟩ | ⟨hd, hl'⟩
    · rw [if_pos hd]
    · rw [if_neg hd]; exact hl'
  unfold wpOpIn
  have hio : l.toArray[i]? = some o := by simpa using hi
  rw [hio]
  dsimp only
  rcases hf with ⟨j, b, t, y, hg, hj, htn, hl, hb, hv, hE, hlh⟩ | ⟨hwant, hk⟩
  · -- not wanted
    have hy := yielded_no htI hj hl hb
    rw [if_neg (by rw [Region.wanted, hg]; simp only [hy]; decide)]
    refine ⟨fun _ _ => trivial, hn _ _ ⟨m, K1, g1, ?_, ?_⟩⟩
    · have hSe : SL n ps L' = SL n ps L := by rw [hS, hlh]; funext x; exact propext ⟨fun hx => hx.elim id (fun hx => by omega), .inl⟩
      rw [hSe]
      refine hr.sub fun id b hb => ?_
      rw [hnext id, hE] at hb
      exact hb
    · refine hTput m w undef K1 (fun _ h => h) (fun _ _ => rfl) (fun _ _ => rfl) ?_
      rw [hv]
      exact .v _ _
  · have hwt : Region.wanted o (yielded l.toArray a.tmps) = true := by
      rcases hwant with hg | ⟨j, b, t, hg, hj, htn, hl⟩
      · simp [Region.wanted, hg]
      · have hy := yielded_of htI hj hl htn
        simp [Region.wanted, hg, hy]
    rw [if_pos hwt]
    rcases hk with ⟨hk0, hE, hlh, hst⟩ | ⟨hk1, U, hE, hU, hst⟩ | ⟨hk3, U, hE, hU, hst⟩ | ⟨hk2, H', hH', hin, hst⟩
    · -- the heap does not matter
      have hSe : SL n ps L' = SL n ps L := by rw [hS, hlh]; funext x; exact propext ⟨fun hx => hx.elim id (fun hx => by omega), .inl⟩
      have hC : SameAt l.toArray ks H i (selH L 0 ps H) := fun id hid => h.keepR L i id hid fun j hj htb => by
        cases hLj : L j with
        | false => rfl
        | true =>
          have hjl : j < l.length := by simpa using hj
          have := bef_in h.chk hL j _ (List.getElem?_eq_getElem hjl) (hL j _ (List.getElem?_eq_getElem hjl) hLj) i hil htb
          rw [hLi] at this
          cases this
      refine (hst (selH L 0 ps H) 0 hC).inn (S := SL n ps L) (fun x h1 h2 => by omega) hr htI rr next Q fun r w' m' K2 ha => ?_
      have e0 : addS (SL n ps L) 0 0 = SL n ps L := by funext x; exact propext ⟨fun hx => hx.elim id (fun hx => by omega), .inl⟩
      have hrel := ha.rel
      have hvr := ha.vr
      rw [e0] at hrel hvr
      refine hn _ _ ⟨m', K2, g1.trans ha.gk, ?_, hTput m' w' r K2 ha.gk.1 ha.kk (fun x _ => ha.ag x (by omega)) (by rw [hSe]; exact hvr)⟩
      rw [hSe]
      refine hrel.sub fun id b hb => ?_
      rw [hnext id, hE] at hb
      exact hb
    · -- it reads, and makes new blocks
      have hsub : Rel Old wi K1 m (SL n ps L) (selH (depM bs ks i) 0 (ps.take i) H) w := hr.sub fun id b hb => h.incl hL hi hLi hre (by omega) hb
      refine hst.inn (S := SL n ps L) hfresh hsub htI rr next Q fun r w' m' K2 ha => ?_
      have hfr := hr.frame hfresh hU ha
      refine hn _ _ ⟨m', K2, g1.trans ha.gk, ?_, hTput m' w' r K2 ha.gk.1 ha.kk (fun x hx => ha.ag x (fun hc => hfresh x hc.1 hc.2 hx)) (by rw [hS]; exact ha.vr)⟩
      rw [hS]
      refine hfr.sub fun id b hb => ?_
      rw [hnext id, hE, lkE_map] at hb
      rw [look_append]
      cases hu : look U id with
      | none => rw [hu] at hb; exact hb
      | some b' => rw [hu] at hb; exact hb
    · -- it makes new blocks, whatever is there
      have hsub : Rel Old wi K1 m (SL n ps L) [] w := hr.sub fun id b hb => by simp [look_nil] at hb
      refine hst.inn (S := SL n ps L) hfresh hsub htI rr next Q fun r w' m' K2 ha => ?_
      have hfr := hr.frame hfresh hU (Hd := []) (by rw [List.append_nil]; exact ha)
      refine hn _ _ ⟨m', K2, g1.trans ha.gk, ?_, hTput m' w' r K2 ha.gk.1 ha.kk (fun x hx => ha.ag x (fun hc => hfresh x hc.1 hc.2 hx)) (by rw [hS]; exact ha.vr)⟩
      rw [hS]
      refine hfr.sub fun id b hb => ?_
      rw [hnext id, hE, lkE_map] at hb
      rw [look_append]
      cases hu : look U id with
      | none => rw [hu] at hb; exact hb
      | some b' => rw [hu] at hb; exact hb
    · -- it writes
      refine hst.framed hH' hr (fun id b hb => h.incl hL hi hLi hre (by omega) hb) hfresh htI (fun id => h.incl2 hL hi hLi hre hk2 hp id) rr next Q fun r w' m' K2 hag hgk hrel hvr hkk => ?_
      refine hn _ _ ⟨m', K2, g1.trans hgk, ?_, hTput m' w' r K2 hgk.1 hkk (fun x hx => hag x (fun hc => hfresh x hc.1 hc.2 hx)) (by rw [hS]; exact hvr)⟩
      rw [hS]
      refine hrel.sub fun id b hb => ?_
      rw [hnext id] at hb
      rw [look_ovr]
      exact hb
theorem readyMem {i : Nat} {listed : Array Bool} (hi : i ∈ Region.ready .any l.toArray listed) : listed.getD i true = false ∧ ∃ o, l[i]? = some o ∧ ∀ e ∈ o.after, Region.binds .any e = true → listed.getD e.on true = true := by
  rw [mem_ready] at hi
  obtain ⟨h0, o, ho, he⟩ := hi
  refine ⟨h0, o, by simpa using ho, fun e hm hb => ?_⟩
  have := he e hm hb
  rcases Nat.lt_or_ge e.on listed.size with hlt | hge
  · simpa [Array.getD, hlt] using this
  · simp [Array.getD, Nat.not_lt.2 hge]
theorem Plan.any (rr : Option Nat) (h : Plan P N l bs ks T H n n' ps) (Q : Exit → Act → World → Prop) (hq : ∀ a w, InvD N T H n ps Old wi K (fun _ => true) a w → Q .normal a w) :
    ∀ (fuel : Nat) (listed : Array Bool) (a : Act) (w : World), listed.size = l.length → ClosedL l (fun j => listed.getD j true) → ((List.range l.length).filter fun j => !listed.getD j true).length = fuel → InvD N T H n ps Old wi K (fun j => listed.getD j true) a w →
      wpAnyIn (FW rr) 0 P .any l.toArray Q fuel listed a w := by
  intro fuel
  have done : ∀ (listed : Array Bool) (a : Act) (w : World), listed.size = l.length → Region.ready .any l.toArray listed = [] → InvD N T H n ps Old wi K (fun j => listed.getD j true) a w → Q .normal a w := by
    intro listed a w hsz hre hI
    have all : ∀ j, listed.getD j true = true := by
      intro j
      induction j using Nat.strongRecOn with
      | _ j ih =>
        cases hj : listed.getD j true with
        | true => rfl
        | false =>
          exfalso
          have hlt : j < listed.size := by
            rcases Nat.lt_or_ge j listed.size with hlt | hge
            · exact hlt
            · simp [Array.getD, Nat.not_lt.2 hge] at hj
          have hjl : j < l.length := by omega
          have : j ∈ Region.ready .any l.toArray listed := by
            rw [mem_ready]
            refine ⟨hj, l[j], by simp [hjl], fun e he hb => ?_⟩
            have hon := (chk_at h.chk (List.getElem?_eq_getElem hjl)).1 e he hb
            have h1 := ih e.on hon
            have hon' : e.on < listed.size := by omega
            simpa [Array.getD, hon'] using h1
          rw [hre] at this
          cases this
    refine hq a w ?_
    have : (fun j => listed.getD j true) = fun _ => true := funext all
    rwa [this] at hI
  induction fuel with
  | zero =>
    intro listed a w hsz hcl hf hI
    have hre : Region.ready .any l.toArray listed = [] := by
      cases hr : Region.ready .any l.toArray listed with
      | nil => rfl
      | cons i rs =>
        have hi : i ∈ Region.ready .any l.toArray listed := by rw [hr]; exact List.mem_cons_self
        obtain ⟨h0, o, ho, _⟩ := readyMem hi
        have hil : i < l.length := (List.getElem?_eq_some_iff.1 ho).1
        have : i ∈ (List.range l.length).filter fun j => !listed.getD j true := by simp only [List.mem_filter, List.mem_range]; exact ⟨hil, by rw [h0]; rfl⟩
        rw [List.length_eq_zero_iff.1 hf] at this
        cases this
    exact ⟨hre, done listed a w hsz hre hI⟩
  | succ fuel ih =>
    intro listed a w hsz hcl hf hI
    refine ⟨fun hre => done listed a w hsz hre hI, fun i hi => ?_⟩
    obtain ⟨h0, o, ho, hre⟩ := readyMem hi
    have hil : i < l.length := (List.getElem?_eq_some_iff.1 ho).1
    have e1 : (listed.setIfInBounds i true).getD i true = true := by simp [Array.getD, hsz, hil]
    have e2 : ∀ j, j ≠ i → (listed.setIfInBounds i true).getD j true = listed.getD j true := fun j hj => getD_set_ne true (fun e => hj e.symm)
    refine h.op hcl ho h0 hre (L' := fun j => (listed.setIfInBounds i true).getD j true) e1 e2 hI rr Q _ fun a' w' hI' => ?_
    refine ih _ a' w' (by simp [hsz]) ?_ ?_ hI'
    · intro j o' hj hLj e he hb
      have mono : ∀ x, listed.getD x true = true → (listed.setIfInBounds i true).getD x true = true := fun x hx => by
        by_cases hxi : x = i
        · subst hxi; exact e1
        · rw [e2 x hxi]; exact hx
      by_cases hji : j = i
      · subst hji
        rw [ho] at hj
        simp only [Option.some.injEq] at hj
        subst hj
        exact mono _ (hre e he hb)
      · refine mono _ (hcl j o' hj ?_ e he hb)
        have : (listed.setIfInBounds i true).getD j true = true := hLj
        rw [e2 j hji] at this
        exact this
    · have hnd : (List.range l.length).Nodup := List.nodup_range
      have key : ((List.range l.length).filter fun j => !(listed.setIfInBounds i true).getD j true) = ((List.range l.length).filter fun j => !listed.getD j true).filter (fun j => !(j == i)) := by
        rw [List.filter_filter]
        refine List.filter_congr fun j _ => ?_
        by_cases hj : j = i
        · subst hj; simp [e1]
        · simp [e2 j hj, hj]
      rw [key]
      have hm : i ∈ (List.range l.length).filter fun j => !listed.getD j true := by simp only [List.mem_filter, List.mem_range]; exact ⟨hil, by rw [h0]; rfl⟩
      have hnd2 : ((List.range l.length).filter fun j => !listed.getD j true).Nodup := hnd.filter _
      have := hnd2.erase_eq_filter i
      have hlen := List.length_erase_of_mem hm
      rw [this] at hlen
      have heq : ((List.range l.length).filter fun j => !listed.getD j true).filter (fun j => !(j == i)) = ((List.range l.length).filter fun j => !listed.getD j true).filter (fun x => x != i) := rfl
      rw [heq, hlen, hf]
      rfl
theorem aw_draw {id g : Nat} {Q : Exit → Tp → Hp → Nat → Prop} (bs ks : List Nat) (hm : P.follows .mixedOrders = true) (hc : chkB l bs ks = true) (h : DR P N l.toArray bs ks H (fun T H n => Q .normal T H n) 0 [] l T n) : AW P N g (.region id l.toArray true) Q T H n := by
  intro Old wi K m a w _ hr ht rr
  obtain ⟨ps, n', g1, g2, g3, g4, g5, g6, g7⟩ := DR.all T l [] T n rfl h
  have plan : Plan P N l bs ks T H n n' ps := ⟨hc, g1, g4, g5, g6, fun j o ho => by have := g7 j o ho; simpa using this, by simpa using g3.2, hr.inS⟩
  refine wpIn_region_any hm ?_
  have hr' : Rel Old wi K m (fun i => i < n) H { w with drawn := w.drawn + 1 } := hr.drw (w.drawn + 1)
  have ht' : TRel K { w with drawn := w.drawn + 1 } m (fun i => i < n) N T a := ht.mono (fun _ h => h) (fun _ _ => rfl) (fun _ h => h) (fun _ _ => rfl)
  have hgf : ∀ j, j < l.length → (Array.replicate l.toArray.size false).getD j true = false := fun j hj => by
    simp [Array.getD, hj]
  refine plan.any rr (Old := Old) (wi := wi) (K := K) _ (fun a' w' hI => ?_) l.toArray.size _ a _ (by simp) ?_ ?_ ⟨m, K, GK.refl _ _, ?_, ?_⟩
  · obtain ⟨m', K', g, r1, t1⟩ := hI
    have hS : SL n ps (fun _ => true) = fun i => i < n' := by
      funext x
      refine propext ⟨?_, fun hx => ?_⟩
      · rintro (hx | ⟨j, p, hp, _, p1, p2⟩)
        · omega
        · have := g4 j p hp; omega
      · by_cases hx2 : x < n
        · exact .inl hx2
        · obtain ⟨j, p, hp, p1, p2⟩ := g6 x (by omega) hx
          exact .inr ⟨j, p, hp, rfl, p1, p2⟩
    rw [hS] at r1 t1
    exact ⟨_, _, n', m', K', g, g3.1, r1, t1⟩
  · intro i o hi hLi
    have hil : i < l.length := (List.getElem?_eq_some_iff.1 hi).1
    have := hgf i hil
    exact absurd hLi (by simp only; rw [this]; simp)
  · have : (List.range l.length).filter (fun j => !(Array.replicate l.toArray.size false).getD j true) = List.range l.length := by
      refine List.filter_eq_self.2 fun j hj => ?_
      rw [hgf j (List.mem_range.1 hj)]
      rfl
    rw [this]
    simp
  · have hS : SL n ps (fun j => (Array.replicate l.toArray.size false).getD j true) = fun i => i < n := by
      funext x
      refine propext ⟨?_, .inl⟩
      rintro (hx | ⟨j, p, hp, hL, _⟩)
      · exact hx
      · have hjl : j < l.length := by rw [← g1]; exact (List.getElem?_eq_some_iff.1 hp).1
        have hL' : (Array.replicate l.toArray.size false).getD j true = true := hL
        rw [hgf j hjl] at hL'
        cases hL'
    rw [hS, selH_false ps 0 H (fun j hj => by rw [Nat.zero_add]; exact hgf j (by omega))]
    exact hr'
  · have hS : SL n ps (fun j => (Array.replicate l.toArray.size false).getD j true) = fun i => i < n := by
      funext x
      refine propext ⟨?_, .inl⟩
      rintro (hx | ⟨j, p, hp, hL, _⟩)
      · exact hx
      · have hjl : j < l.length := by rw [← g1]; exact (List.getElem?_eq_some_iff.1 hp).1
        have hL' : (Array.replicate l.toArray.size false).getD j true = true := hL
        rw [hgf j hjl] at hL'
        cases hL'
    rw [hS, selT_false ps 0 T (fun j hj => by rw [Nat.zero_add]; exact hgf j (by omega))]
    exact ht'
end
end Go.Proofs.Ytljpgbgokjiamaa.Aw

-- A region that draws its order: the moves.
namespace Go.Proofs.Ytljpgbgokjiamaa.Aw
open Go Go.RowKit
theorem resT_look {T : Tp} {t : Nat} {v : AV} (h : look T t = some v) : ∀ {ts : List Tmp}, t ∈ ts → look (resT ts T) t = some v
  | [], hm => by cases hm
  | u :: ts, hm => by
    unfold resT
    rw [List.filterMap_cons]
    by_cases hu : u = t
    · subst hu
      simp only [h, Option.map_some, look_cons, if_true]
    · have hm' : t ∈ ts := by
        rcases List.mem_cons.1 hm with e | e
        · exact absurd e.symm hu
        · exact e
      have := resT_look h hm'
      unfold resT at this
      cases hl : look T u with
      | none => simpa using this
      | some x => simp only [Option.map_some, look_cons, if_neg hu]; exact this
theorem Step.monoT {P : Program} {o : Oper} {N : Nat} {T T' : Tp} {H H' : Hp} {n n' : Nat} {v : AV} {ro : Bool} (h : Step P o N T H n v H' n' ro) (ht : ∀ t v, look T t = some v → look T' t = some v) : Step P o N T' H n v H' n' ro :=
  ⟨h.1, fun Old wi K m S a w hS hr htr => h.2 Old wi K m S a w hS hr ⟨htr.dn, htr.sz, fun t v hl => htr.tm t v (ht t v hl)⟩⟩
def selE (L : Nat → Bool) : List (Nat × List (Nat × Option Blk)) → Hp → Hp
  | [], H => H
  | (j, E) :: r, H => match L j with
    | true => ovr E (selE L r H)
    | false => selE L r H
def DE (P : Program) (N : Nat) (ops : Array Oper) (bs ks : List Nat) (H₀ : Hp) (G : Tp → Hp → Nat → Prop) (i : Nat) (eff : List (Nat × List (Nat × Option Blk))) (os : List Oper) (T : Tp) (n : Nat) : Prop :=
  ∀ pre : List PO, pre.length = i → (∀ L, selH L 0 pre H₀ = selE L eff H₀) → DR P N ops bs ks H₀ G i pre os T n
section
variable {P : Program} {N : Nat} {ops : Array Oper} {bs ks : List Nat} {H₀ : Hp} {G : Tp → Hp → Nat → Prop} {i : Nat} {eff : List (Nat × List (Nat × Option Blk))} {o : Oper} {os : List Oper} {T : Tp} {n n' : Nat} {v : AV}
theorem aw_drawE {id g : Nat} {l : List Oper} {H : Hp} {Q : Exit → Tp → Hp → Nat → Prop} (bs ks : List Nat) (hm : P.follows .mixedOrders = true) (hc : chkB l bs ks = true) (h : DE P N l.toArray bs ks H (fun T H n => Q .normal T H n) 0 [] l T n) : AW P N g (.region id l.toArray true) Q T H n :=
  aw_draw bs ks hm hc (h [] rfl fun _ => rfl)
theorem sel_keep {pre : List PO} (h : ∀ L, selH L 0 pre H₀ = selE L eff H₀) (d : Option Nat) (v : AV) (a b : Nat) : ∀ L, selH L 0 (pre ++ [⟨d, v, [], a, b⟩]) H₀ = selE L eff H₀ := by
  intro L
  rw [selH_app, h]
  simp only [selH, ovr]
  try (cases L (0 + pre.length) <;> rfl)
theorem sel_add {pre : List PO} (hl : pre.length = i) (h : ∀ L, selH L 0 pre H₀ = selE L eff H₀) (d : Option Nat) (v : AV) (E : List (Nat × Option Blk)) (a b : Nat) : ∀ L, selH L 0 (pre ++ [⟨d, v, E, a, b⟩]) H₀ = selE L ((i, E) :: eff) H₀ := by
  intro L
  rw [selH_app, h]
  simp only [selH, selE, Nat.zero_add, hl]
  try (cases L i <;> rfl)
def effQ (sz : Nat) (bs : List Nat) (H₀ : Hp) (r : Nat × Nat) : List (Nat × List (Nat × Option Blk)) → Prop
  | [] => True
  | e :: l => (match lkE e.2 r.2 with
    | none => True
    | some ob => (Nat.blt e.1 sz && Nat.testBit (bs.getD e.1 0) r.1) = true ∨ look H₀ r.2 = ob) ∧ effQ sz bs H₀ r l
def effR (sz : Nat) (bs : List Nat) (H₀ : Hp) (eff : List (Nat × List (Nat × Option Blk))) : List (Nat × Nat) → Prop
  | [] => True
  | r :: R => effQ sz bs H₀ r eff ∧ effR sz bs H₀ eff R
theorem effR_get {sz : Nat} {bs : List Nat} {H₀ : Hp} {eff : List (Nat × List (Nat × Option Blk))} : ∀ {R : List (Nat × Nat)}, effR sz bs H₀ eff R → ∀ r ∈ R, effQ sz bs H₀ r eff
  | [], _, r, h => by cases h
  | q :: R, h, r, hr => by
    rcases List.mem_cons.1 hr with e | e
    · rw [e]; exact h.1
    · exact effR_get h.2 r e
theorem selE_keepQ {sz : Nat} {bs : List Nat} {H₀ : Hp} {L : Nat → Bool} {i id : Nat} (hL : ∀ j, j < sz → Nat.testBit (bs.getD j 0) i = true → L j = false) : ∀ (eff : List (Nat × List (Nat × Option Blk))), effQ sz bs H₀ (i, id) eff → look (selE L eff H₀) id = look H₀ id
  | [], _ => rfl
  | (j, E) :: r, h => by
    have ih := selE_keepQ hL r h.2
    have h1 := h.1
    simp only [selE]
    cases hLj : L j with
    | false => exact ih
    | true =>
      dsimp only
      rw [look_ovr]
      dsimp only at h1
      cases hl : lkE E id with
      | none => exact ih
      | some ob =>
        rw [hl] at h1
        dsimp only at h1
        rcases h1 with h1 | h1
        · simp only [Bool.and_eq_true, Nat.blt_eq] at h1
          have := hL j h1.1 h1.2
          rw [hLj] at this
          cases this
        · exact h1.symm
theorem dr_nil (hc : effR ops.size bs H₀ eff (rdP (ks.drop ops.size))) (h : G T (selE (fun _ => true) eff H₀) n) : DE P N ops bs ks H₀ G i eff [] T n := fun pre _ he => by
  show G T (selH (fun _ => true) 0 pre H₀) n ∧ KeepR ops bs ks H₀ pre
  refine ⟨by rw [he]; exact h, fun L k id hk hL => ?_⟩
  rw [he]
  exact selE_keepQ hL eff (effR_get hc (k, id) hk)
theorem dr_r {id : Nat} {b : Blk} (hg : o.guard = none) (hd : dOk N o.dst = true) (hk : ks.getD i 0 = 0) (hR : (rdP (ks.drop ops.size)).contains (i, id) = true) (hl : look H₀ id = some b)
    (hs : ∀ H n, look H id = some b → Step P o N (resT (o.looksAt ops) T) H n v H n true)
    (h : DE P N ops bs ks H₀ G (i + 1) eff os (put T o.dst v) n) : DE P N ops bs ks H₀ G i eff (o :: os) T n := fun pre hlen he =>
  ⟨⟨o.dst, v, [], n, n⟩, rfl, Nat.le_refl _, ⟨rfl, hd, .inr ⟨.inl hg, .inl ⟨hk, rfl, rfl, fun H n hC => hs H n (by rw [hC id (by simpa using hR)]; exact hl)⟩⟩⟩, h _ (by simp [hlen]) (sel_keep he _ _ _ _)⟩
theorem dr_0 (hg : o.guard = none) (hd : dOk N o.dst = true) (hk : ks.getD i 0 = 0) (hs : ∀ H n, Step P o N (resT (o.looksAt ops) T) H n v H n true)
    (h : DE P N ops bs ks H₀ G (i + 1) eff os (put T o.dst v) n) : DE P N ops bs ks H₀ G i eff (o :: os) T n := fun pre hl he =>
  ⟨⟨o.dst, v, [], n, n⟩, rfl, Nat.le_refl _, ⟨rfl, hd, .inr ⟨.inl hg, (.inl ⟨hk, rfl, rfl, fun H n _ => hs H n⟩)⟩⟩, h _ (by simp [hl]) (sel_keep he _ _ _ _)⟩
theorem nil_in {lo hi : Nat} : ∀ (i : Nat) (b : Blk), look ([] : Hp) i = some b → lo ≤ i ∧ i < hi := fun i b hl => by simp [look_nil] at hl
theorem dr_1 (hg : o.guard = none) (hd : dOk N o.dst = true) (hk : ks.getD i 0 = 1) (hs : Step P o N (resT (o.looksAt ops) T) (selE (depM bs ks i) eff H₀) n v (selE (depM bs ks i) eff H₀) n true)
    (h : DE P N ops bs ks H₀ G (i + 1) eff os (put T o.dst v) n) : DE P N ops bs ks H₀ G i eff (o :: os) T n := fun pre hl he =>
  ⟨⟨o.dst, v, [], n, n⟩, rfl, Nat.le_refl _, ⟨rfl, hd, .inr ⟨.inl hg, .inr (.inl ⟨hk, [], rfl, nil_in, by rw [he]; exact hs⟩)⟩⟩, h _ (by simp [hl]) (sel_keep he _ _ _ _)⟩
theorem one_in {n : Nat} (b : Blk) : ∀ (i : Nat) (c : Blk), look [(n, b)] i = some c → n ≤ i ∧ i < n + 1 := by
  intro i c hl
  rw [look_cons] at hl
  split at hl
  · rename_i he; subst he; exact ⟨Nat.le_refl _, Nat.lt_succ_self _⟩
  · cases hl
theorem two_in {id lo hi : Nat} {b : Blk} (b' : Blk) {Hd : Hp} (hl : look Hd id = some b) : ∀ (i : Nat) (ob : Option Blk), lkE [(id, some b')] i = some ob → (look Hd i).isSome = true ∨ (lo ≤ i ∧ i < hi) := by
  intro i ob h
  rw [lkE_cons] at h
  split at h
  · rename_i he; subst he; exact .inl (by rw [hl]; rfl)
  · cases h
theorem dr_n {b : Blk} (hg : o.guard = none) (hd : dOk N o.dst = true) (hk : ks.getD i 0 = 1) (hs : Step P o N (resT (o.looksAt ops) T) (selE (depM bs ks i) eff H₀) n v ((n, b) :: selE (depM bs ks i) eff H₀) (n + 1) true)
    (h : DE P N ops bs ks H₀ G (i + 1) ((i, [(n, some b)]) :: eff) os (put T o.dst v) (n + 1)) : DE P N ops bs ks H₀ G i eff (o :: os) T n := fun pre hl he =>
  ⟨⟨o.dst, v, [(n, some b)], n, n + 1⟩, rfl, Nat.le_succ _, ⟨rfl, hd, .inr ⟨.inl hg, .inr (.inl ⟨hk, [(n, b)], rfl, one_in b, by rw [he]; exact hs⟩)⟩⟩, h _ (by simp [hl]) (sel_add hl he _ _ _ _ _)⟩
theorem dr_3 {b : Blk} (hg : o.guard = none) (hd : dOk N o.dst = true) (hk : ks.getD i 0 = 3) (hs : Step P o N (resT (o.looksAt ops) T) [] n v [(n, b)] (n + 1) true)
    (h : DE P N ops bs ks H₀ G (i + 1) ((i, [(n, some b)]) :: eff) os (put T o.dst v) (n + 1)) : DE P N ops bs ks H₀ G i eff (o :: os) T n := fun pre hl he =>
  ⟨⟨o.dst, v, [(n, some b)], n, n + 1⟩, rfl, Nat.le_succ _, ⟨rfl, hd, .inr ⟨.inl hg, .inr (.inr (.inl ⟨hk, [(n, b)], rfl, one_in b, hs⟩))⟩⟩, h _ (by simp [hl]) (sel_add hl he _ _ _ _ _)⟩
theorem dr_cU {f : Operand} {g : FuncId} {xs : Array Operand} {ts : Array TypeId} {caps args args' : List AV} {U : Hp} (hg : o.guard = none) (hd : dOk N o.dst = true) (hk : ks.getD i 0 = 1)
    (ho : o.op = .call { callee := .value f, args := xs, argTypes := ts })
    (hf : evalA (resT (o.looksAt ops) T) f = some (.fn g caps)) (ha : xs.toList.mapM (evalA (resT (o.looksAt ops) T)) = some args) (hz : FzL (selE (depM bs ks i) eff H₀) (args ++ caps) args') (hro : RO P g args' n v U n')
    (h : DE P N ops bs ks H₀ G (i + 1) ((i, U.map (fun x => (x.1, some x.2))) :: eff) os (put T o.dst v) n') : DE P N ops bs ks H₀ G i eff (o :: os) T n := fun pre hl he =>
  ⟨⟨o.dst, v, U.map (fun x => (x.1, some x.2)), n, n'⟩, rfl, hro.2.1, ⟨rfl, hd, .inr ⟨.inl hg, .inr (.inl ⟨hk, U, rfl, hro.2.2.1, s_call ho hf ha (by rw [he]; exact hz) hro⟩)⟩⟩, h _ (by simp [hl]) (sel_add hl he _ _ _ _ _)⟩
theorem dr_2 {id : Nat} {b b' : Blk} (hg : o.guard = none) (hd : dOk N o.dst = true) (hk : ks.getD i 0 = 2)
    (hs : Step P o N (resT (o.looksAt ops) T) (selE (depM bs ks i) eff H₀) n v (setH (selE (depM bs ks i) eff H₀) id b') n false) (hl : look (selE (depM bs ks i) eff H₀) id = some b)
    (h : DE P N ops bs ks H₀ G (i + 1) ((i, [(id, some b')]) :: eff) os (put T o.dst v) n) : DE P N ops bs ks H₀ G i eff (o :: os) T n := fun pre hlen he =>
  ⟨⟨o.dst, v, [(id, some b')], n, n⟩, rfl, Nat.le_refl _, ⟨rfl, hd, .inr ⟨.inl hg, .inr (.inr (.inr ⟨hk, setH (selE (depM bs ks i) eff H₀) id b', fun _ => by rw [he]; rfl, by rw [he]; exact two_in b' hl, by rw [he]; exact hs⟩))⟩⟩, h _ (by simp [hlen]) (sel_add hlen he _ _ _ _ _)⟩
theorem dr_app {id : Nat} {b0 b' : Blk} (hg : o.guard = none) (hd : dOk N o.dst = true) (hk : ks.getD i 0 = 2)
    (hs : Step P o N (resT (o.looksAt ops) T) (selE (depM bs ks i) eff H₀) n v ((n, b') :: del (selE (depM bs ks i) eff H₀) id) (n + 1) false) (hl : look (selE (depM bs ks i) eff H₀) id = some b0)
    (h : DE P N ops bs ks H₀ G (i + 1) ((i, [(n, some b'), (id, none)]) :: eff) os (put T o.dst v) (n + 1)) : DE P N ops bs ks H₀ G i eff (o :: os) T n := by
  intro pre hlen he
  have e1 : ∀ j, look ((n, b') :: del (selE (depM bs ks i) eff H₀) id) j = look (ovr [(n, some b'), (id, none)] (selH (depM bs ks i) 0 pre H₀)) j := fun j => by
    rw [he]
    simp only [ovr, look_cons]
    by_cases hj : n = j
    · rw [if_pos hj, if_pos hj]
    · rw [if_neg hj, if_neg hj, look_del_ne _ (fun e => hj e.symm)]
  have e2 : ∀ (j : Nat) (ob : Option Blk), lkE [(n, some b'), (id, none)] j = some ob → (look (selH (depM bs ks i) 0 pre H₀) j).isSome = true ∨ (n ≤ j ∧ j < n + 1) := fun j ob hj => by
    rw [lkE_cons] at hj
    split at hj
    · rename_i e; subst e; exact .inr ⟨Nat.le_refl _, Nat.lt_succ_self _⟩
    · rw [lkE_cons] at hj
      split at hj
      · rename_i e; subst e; left; rw [he, hl]; rfl
      · cases hj
  exact ⟨⟨o.dst, v, [(n, some b'), (id, none)], n, n + 1⟩, rfl, Nat.le_succ _, ⟨rfl, hd, .inr ⟨.inl hg, .inr (.inr (.inr ⟨hk, (n, b') :: del (selE (depM bs ks i) eff H₀) id, e1, e2, by rw [he]; exact hs⟩))⟩⟩, h _ (by simp [hlen]) (sel_add hlen he _ _ _ _ _)⟩
theorem fin_p {rs : List ResultVar} {u v : AV} {T : Tp} {H : Hp} (h : ResV P T H rs u) (e : u = v) (hr : renA id v = v) (h1 : idsOk 0 v = true) (h2 : noDeep v = true) : FinOk P rs v [] 0 T H :=
  ⟨⟨u, id, h, by rw [e, hr], trivial, rfl⟩, h1, h2, rfl⟩
theorem RO.ofp {f : FuncId} {fn : Func} {c : Code} {args : List AV} {v : AV} {rs : List ResultVar} (hf : P.funcs[f]? = some fn) (hN : fn.ntmps = N) (hb : fn.body = some c) (hg : goFn P f = true) (hl : Nat.ble args.length N = true) (hrs : fn.results.toList = rs)
    (hv : renA (fun i => i + n) v = v) (h : AW P N 0 c (Fin P rs v [] 0) (idx 0 args) [] 0) : RO P f args n v [] n := by
  subst hN hrs
  have := RO.of n 0 hf hb hg (by simpa using hl) (U := []) rfl h
  rw [hv] at this
  simpa [shH] using this
theorem RO.calls {f : FuncId} {args : List AV} {x : Value} {k k' : Nat} (h : RO P f args k (.v x) [] k') {K : Nat → Prop} {w : World} {xs : List Value} (hk : ∀ k, K k → k < w.heap.size) (hv : VRs K w args xs) (hgl : Gl w := by exact True.intro) :
    Calls P f xs.toArray w fun e w' => e = .returned x ∧ Below w.heap.size w w' :=
  (h.2.2.2 K w xs hgl hk hv).mono fun e w' ⟨r, m', he, hn⟩ => by
    have := hn.vr
    cases this
    exact ⟨he, hn.below⟩
theorem VRs.nil {K : Nat → Prop} {w : World} : VRs K w [] [] := ⟨rfl, by simp⟩
theorem VRs.cons {K : Nat → Prop} {w : World} {v : AV} {x : Value} {vs : List AV} {xs : List Value} (h : VR K w (fun _ => ⟨0, 0, 0, false⟩) NoS v x) (hs : VRs K w vs xs) : VRs K w (v :: vs) (x :: xs) :=
  ⟨by simp [hs.1], fun j av y h1 h2 => by
    cases j with
    | zero => simp at h1 h2; subst h1 h2; exact h
    | succ j => simp at h1 h2; exact hs.2 j av y h1 h2⟩
variable {dst : Option Tmp} {op : Op} {ty : TypeId} {pos : String} {after : Array Edge}
theorem looks_guard {j t : Nat} {b : Bool} (hj : ((ops[j]?).bind (·.dst)) = some t) : t ∈ (⟨dst, op, ty, pos, after, some (j, b)⟩ : Oper).looksAt ops := by
  unfold Oper.looksAt
  simp [hj]
theorem looks_none {t : Nat} {g : Option (Nat × Bool)} (h : t ∈ (⟨dst, op, ty, pos, after, none⟩ : Oper).looksAt ops) : t ∈ (⟨dst, op, ty, pos, after, g⟩ : Oper).looksAt ops := by
  unfold Oper.looksAt at h ⊢
  simp only [List.append_nil] at h
  exact List.mem_append_left _ h
theorem resT_none {g : Option (Nat × Bool)} {t : Nat} {v : AV} (h : look (resT ((⟨dst, op, ty, pos, after, none⟩ : Oper).looksAt ops) T) t = some v) : look (resT ((⟨dst, op, ty, pos, after, g⟩ : Oper).looksAt ops) T) t = some v := by
  obtain ⟨h1, h2⟩ := look_resT h
  exact resT_look h2 (looks_none h1)
theorem dr_g {j t : Nat} {b b' : Bool} (hj : ((ops[j]?).bind (·.dst)) = some t) (htn : Nat.blt t N = true) (hl : look T t = some (.v (.bool b'))) (hb : b' = b)
    (h : DE P N ops bs ks H₀ G i eff (⟨dst, op, ty, pos, after, none⟩ :: os) T n) : DE P N ops bs ks H₀ G i eff (⟨dst, op, ty, pos, after, some (j, b)⟩ :: os) T n := by
  intro pre hlen he
  obtain ⟨p, h1, h2, ⟨e1, e2, hf⟩, h4⟩ := h pre hlen he
  subst hb
  refine ⟨p, h1, h2, ⟨e1, e2, ?_⟩, h4⟩
  rcases hf with ⟨_, _, _, _, hg, _⟩ | ⟨_, hk⟩
  · cases hg
  · refine .inr ⟨.inr ⟨j, b', t, rfl, hj, htn, resT_look hl (looks_guard hj)⟩, ?_⟩
    rcases hk with ⟨a1, a2, a3, a4⟩ | ⟨a1, U, a2, a3, a4⟩ | ⟨a1, U, a2, a3, a4⟩ | ⟨a1, H', a2, a3, a4⟩
    · exact .inl ⟨a1, a2, a3, fun H n hC => (a4 H n hC).monoT fun t v => resT_none⟩
    · exact .inr (.inl ⟨a1, U, a2, a3, a4.monoT fun t v => resT_none⟩)
    · exact .inr (.inr (.inl ⟨a1, U, a2, a3, a4.monoT fun t v => resT_none⟩))
    · exact .inr (.inr (.inr ⟨a1, H', a2, a3, a4.monoT fun t v => resT_none⟩))
theorem dr_s {j t : Nat} {b b' : Bool} (hj : ((ops[j]?).bind (·.dst)) = some t) (htn : Nat.blt t N = true) (hl : look T t = some (.v (.bool b'))) (hb : b' = !b) (hd : dOk N dst = true)
    (h : DE P N ops bs ks H₀ G (i + 1) eff os (put T dst (.v undef)) n) : DE P N ops bs ks H₀ G i eff (⟨dst, op, ty, pos, after, some (j, b)⟩ :: os) T n := fun pre hlen he =>
  ⟨⟨dst, .v undef, [], n, n⟩, rfl, Nat.le_refl _, ⟨rfl, hd, .inl ⟨j, b, t, .bool b', rfl, hj, htn, resT_look hl (looks_guard hj), by subst hb; cases b <;> rfl, rfl, rfl, rfl⟩⟩, h _ (by simp [hlen]) (sel_keep he _ _ _ _)⟩
theorem dr_gs {j t : Nat} {b b' : Bool} (hj : ((ops[j]?).bind (·.dst)) = some t) (htn : Nat.blt t N = true) (hl : look T t = some (.v (.bool b'))) (hd : dOk N dst = true)
    (h1 : b' = b → DE P N ops bs ks H₀ G i eff (⟨dst, op, ty, pos, after, none⟩ :: os) T n)
    (h2 : b' = (!b) → DE P N ops bs ks H₀ G (i + 1) eff os (put T dst (.v undef)) n) : DE P N ops bs ks H₀ G i eff (⟨dst, op, ty, pos, after, some (j, b)⟩ :: os) T n := by
  by_cases hb : b' = b
  · exact dr_g hj htn hl hb (h1 hb)
  · have hb' : b' = !b := by cases b <;> cases b' <;> simp_all
    exact dr_s hj htn hl hb' hd (h2 hb')
end
end Go.Proofs.Ytljpgbgokjiamaa.Aw

namespace Go.Proofs.Ytljpgbgokjiamaa.Aw
open Go Go.RowKit
set_option linter.unusedVariables false
def VRa (K : Nat → Prop) (w : World) (m : Nat → Loc) (S : Nat → Prop) (args : List AV) (xs : List Value) : Prop :=
  xs.length = args.length ∧ ∀ (j : Nat) (av : AV) (x : Value), args[j]? = some av → xs[j]? = some x → VR K w m S av x
abbrev Ef := List (Nat × Option Blk)
structure PostC (Hi : Hp) (E : Ef) (K : Nat → Prop) (m : Nat → Loc) (S : Nat → Prop) (w : World) (n n' : Nat) (v : AV) (r : Value) (w' : World) (m' : Nat → Loc) (K' : Nat → Prop) : Prop where
  ag : ∀ i, ¬ (n ≤ i ∧ i < n') → m' i = m i
  os : w'.os = w.os
  tape : w'.tape = w.tape
  output : w'.output = w.output
  size : w.heap.size ≤ w'.heap.size
  keep : ∀ k, k < w.heap.size → (∀ i b, look Hi i = some b → (m i).ph = false → (m i).blk ≠ k) → w'.heap[k]? = w.heap[k]?
  gk : ∀ k, K k → K' k
  gk2 : ∀ k, K' k → K k ∨ w.heap.size ≤ k ∨ ∃ i b, look Hi i = some b ∧ (m i).ph = false ∧ (m i).blk = k
  kb : ∀ k, K' k → k < w'.heap.size
  vr : VR K' w' m' (addS S n n') v r
  loc : ∀ i b, look (ovr E Hi) i = some b → (m' i).ph = false → w.heap.size ≤ (m' i).blk ∨ ∃ j c, look Hi j = some c ∧ (m j).ph = false ∧ (m' i).blk = (m j).blk
  om : ∀ i b, look (ovr E Hi) i = some b → (m' i).ph = true → (m' i).cap = 1 → b.size = 1000003 ∧ K' (m' i).blk ∧ (w.heap.size ≤ (m' i).blk ∨ ∃ j c, look Hi j = some c ∧ (m j).ph = false ∧ (m' i).blk = (m j).blk)
  own : ∀ i b, look (ovr E Hi) i = some b → OB K' w' m' (addS S n n') i b
  inj : ∀ i j bi bj, look (ovr E Hi) i = some bi → look (ovr E Hi) j = some bj → i ≠ j → (m' i).ph = false → (m' j).ph = false → (m' i).blk ≠ (m' j).blk
section
variable {P : Program} {Old : Nat → Prop} {wi : WI Old} {K K' : Nat → Prop} {m m' : Nat → Loc} {S : Nat → Prop} {H Hi : Hp} {E : Ef} {w w' : World} {n n' : Nat} {v : AV} {r : Value}
theorem Rel.call (hr : Rel Old wi K m S H w) (hHi : ∀ i b, look Hi i = some b → look H i = some b) (hE : ∀ i ob, lkE E i = some ob → (look Hi i).isSome = true ∨ (n ≤ i ∧ i < n'))
    (hS : ∀ i, n ≤ i → i < n' → ¬ S i) (h : PostC Hi E K m S w n n' v r w' m' K') : Aft Old wi K m S w n v (ovr E H) n' false r w' m' K' := by
  have hSm : ∀ i, S i → m' i = m i := fun i hi => h.ag i (fun hc => hS i hc.1 hc.2 hi)
  have hkk : ∀ k, K k → w'.heap[k]? = w.heap[k]? := fun k hk => h.keep k (hr.kb k hk) (fun i b hl hp e => ((hr.own i b (hHi i b hl)).br hp).nk (e ▸ hk))
  have gk : GK Old K K' := ⟨h.gk, fun k hk ho => by
    rcases h.gk2 k hk with h1 | h1 | ⟨i, b, hl, hp, rfl⟩
    · exact h1
    · exact absurd (hr.olt k ho) (by omega)
    · exact absurd ho (hr.oown i b (hHi i b hl) hp)⟩
  have part : ∀ i b, look (ovr E H) i = some b → look (ovr E Hi) i = some b ∨ (lkE E i = none ∧ look Hi i = none ∧ look H i = some b) := fun i b hl => by
    rw [look_ovr] at hl ⊢
    cases he : lkE E i with
    | some ob => rw [he] at hl; exact .inl hl
    | none =>
      rw [he] at hl
      have hl : look H i = some b := hl
      cases hi : look Hi i with
      | none => exact .inr ⟨rfl, rfl, hl⟩
      | some c => left; rw [hHi i c hi] at hl; exact hl
  have inS : ∀ i b, look (ovr E Hi) i = some b → S i ∨ (n ≤ i ∧ i < n') := fun i b hl => by
    rw [look_ovr] at hl
    cases he : lkE E i with
    | some ob =>
      rcases hE i ob he with hs | hs
      · obtain ⟨c, hc⟩ := Option.isSome_iff_exists.1 hs; exact .inl (hr.inS i c (hHi i c hc))
      · exact .inr hs
    | none => rw [he] at hl; exact .inl (hr.inS i b (hHi i b hl))
  refine ⟨h.ag, gk, ?_, h.vr, hkk, fun h => by cases h⟩
  refine { os := h.os.trans hr.os, tape := h.tape.trans hr.tape, output := h.output.trans hr.output, size := Nat.le_trans hr.size h.size,
           old := fun k ho => (h.keep k (hr.olt k ho) (fun i b hl hp e => hr.oown i b (hHi i b hl) hp (e ▸ ho))).trans (hr.old k ho),
           olt := fun k ho => Nat.lt_of_lt_of_le (hr.olt k ho) h.size, oown := ?_, om := ?_, kb := h.kb, inS := ?_,
           pin := fun i l hp => (hSm i (hr.pinS i l hp)).trans (hr.pin i l hp), pinS := fun i l hp => .inl (hr.pinS i l hp), own := ?_, inj := ?_ }
  · intro i b hl
    rcases part i b hl with he | ⟨_, _, hh⟩
    · intro hp
      rcases h.loc i b he hp with hn | ⟨j, c, hj, hpj, e⟩
      · exact fun ho => by have := hr.olt _ ho; omega
      · rw [e]; exact hr.oown j c (hHi j c hj) hpj
    · rw [hSm i (hr.inS i b hh)]; exact hr.oown i b hh
  · intro i b hl
    rcases part i b hl with he | ⟨_, _, hh⟩
    · intro hp hq
      obtain ⟨g1, g2, g3⟩ := h.om i b he hp hq
      refine ⟨g1, g2, ?_⟩
      rcases g3 with hn | ⟨j, c, hj, hpj, e⟩
      · exact fun ho => by have := hr.olt _ ho; omega
      · rw [e]; exact hr.oown j c (hHi j c hj) hpj
    · rw [hSm i (hr.inS i b hh)]
      exact fun hp hq => ⟨(hr.om i b hh hp hq).1, h.gk _ (hr.om i b hh hp hq).2.1, (hr.om i b hh hp hq).2.2⟩
  · intro i b hl
    rcases part i b hl with he | ⟨_, _, hh⟩
    · exact inS i b he
    · exact .inl (hr.inS i b hh)
  · intro i b hl
    rcases part i b hl with he | ⟨he, hi, hh⟩
    · exact h.own i b he
    · have ne : (m i).ph = false → ∀ j c, look Hi j = some c → (m j).ph = false → (m j).blk ≠ (m i).blk := fun hp j c hj hpj =>
        hr.inj j i c b (hHi j c hj) hh (fun e => by subst e; rw [hi] at hj; cases hj) hpj hp
      refine (hr.own i b hh).mono2 h.gk ?_ hkk (fun hp hb => h.keep _ hb.lt_size (ne hp)) (fun i hi => .inl hi) hSm (hr.inS i b hh)
      intro hp hk
      rcases h.gk2 _ hk with h1 | h1 | ⟨j, c, hj, hpj, e⟩
      · exact h1
      · have := ((hr.own i b hh).br hp).lt_size; omega
      · exact absurd e (ne hp j c hj hpj)
  · intro i j bi bj hi hj hne
    have mix : ∀ {i j : Nat} {bi bj : Blk}, look (ovr E Hi) i = some bi → look Hi j = none → look H j = some bj → (m' i).ph = false → (m' j).ph = false → (m' i).blk ≠ (m' j).blk := by
      intro i j bi bj he hej hh hp
      rw [hSm j (hr.inS j bj hh)]
      intro hp'
      rcases h.loc i bi he hp with hn | ⟨k, c, hk, hpk, e⟩
      · have := ((hr.own j bj hh).br hp').lt_size; omega
      · rw [e]
        have hkj : k ≠ j := fun e => by subst e; rw [hej] at hk; cases hk
        exact hr.inj k j c bj (hHi k c hk) hh hkj hpk hp'
    rcases part i bi hi with hei | ⟨_, hii, hhi⟩ <;> rcases part j bj hj with hej | ⟨_, hij, hhj⟩
    · exact h.inj i j bi bj hei hej hne
    · exact mix hei hij hhj
    · exact fun hp hp' e => mix hej hii hhi hp' hp e.symm
    · rw [hSm i (hr.inS i bi hhi), hSm j (hr.inS j bj hhj)]
      exact hr.inj i j bi bj hhi hhj hne
end
def RC (P : Program) (f : FuncId) (args : List AV) (Hi : Hp) (n : Nat) (v : AV) (E : Ef) (n' : Nat) : Prop :=
  goFn P f = true ∧ n ≤ n' ∧ (∀ i ob, lkE E i = some ob → (look Hi i).isSome = true ∨ (n ≤ i ∧ i < n')) ∧
  ∀ (K : Nat → Prop) (m : Nat → Loc) (S : Nat → Prop) (w : World) (xs : List Value), (∀ k, K k → k < w.heap.size) → (∀ i, n ≤ i → i < n' → ¬ S i) → (∀ i b, look Hi i = some b → S i) →
    (∀ i b, look Hi i = some b → OB K w m S i b) → (∀ i j bi bj, look Hi i = some bi → look Hi j = some bj → i ≠ j → (m i).ph = false → (m j).ph = false → (m i).blk ≠ (m j).blk) → (∀ i b, look Hi i = some b → (m i).ph = true → (m i).cap = 1 → b.size = 1000003) → Gl w → (∀ i b, look Hi i = some b → (m i).ph = false → glN ≤ (m i).blk) → VRa K w m S args xs →
    Calls P f xs.toArray w fun e w' => ∃ r m' K', e = .returned r ∧ PostC Hi E K m S w n n' v r w' m' K'
def subE (H : Hp) : Hp → Prop
  | [] => True
  | (i, b) :: Hi => look H i = some b ∧ subE H Hi
theorem subE_get {H : Hp} : ∀ {Hi : Hp}, subE H Hi → ∀ i b, look Hi i = some b → look H i = some b
  | [], _, i, b, hl => by simp [look_nil] at hl
  | (j, c) :: Hi, h, i, b, hl => by
    rw [look_cons] at hl
    split at hl
    · rename_i he; subst he; simp only [Option.some.injEq] at hl; subst hl; exact h.1
    · exact subE_get h.2 i b hl
section
variable {P : Program} {H Hi : Hp} {E : Ef} {N n n' : Nat} {T : Tp} {o : Oper}
theorem s_callC {f : Operand} {g : FuncId} {xs : Array Operand} {ts : Array TypeId} {caps args : List AV} {v : AV} (ho : o.op = .call { callee := .value f, args := xs, argTypes := ts })
    (hf : evalA T f = some (.fn g caps)) (ha : xs.toList.mapM (evalA T) = some args) (hro : RC P g (args ++ caps) Hi n v E n') (hHi : subE H Hi) : Step P o N T H n v (ovr E H) n' false := by
  obtain ⟨hg, hn, hE, hc⟩ := hro
  refine ⟨hn, fun Old wi K m S a w hS hr ht next Q hnx => ?_⟩
  have hfv := ht.eval hf
  obtain ⟨el, ev⟩ := evals_of ht _ _ ha
  have hsub := subE_get hHi
  generalize hfx : a.eval f = fx at hfv
  cases hfv with
  | fn _ _ _ ys hl hv =>
    have hrun : (execOp a.eval o).run P w = .ok (.enter g (xs.toList.map a.eval ++ ys).toArray) w := by
      simp only [execOp, ho, resolve, hfx, Deferred.ofValue, invoke, Sem.run_bind, Sem.run_pure, Result.andThen]
      rw [run_goFn hg]
      obtain ⟨xs⟩ := xs
      simp
    unfold Oper.wp
    rw [hrun, Oper.upon_enter]
    refine (hc K m S w (xs.toList.map a.eval ++ ys) hr.kb hS (fun i b hl => hr.inS i b (hsub i b hl)) (fun i b hl => hr.own i b (hsub i b hl)) (fun i j bi bj hi hj hne => hr.inj i j bi bj (hsub i bi hi) (hsub j bj hj) hne) (fun i b hl hp hq => (hr.om i b (hsub i b hl) hp hq).1) hr.gl (fun i b hl hp => Nat.le_of_not_lt fun hlt => hr.oown i b (hsub i b hl) hp (wi.go _ hlt))
      ⟨by rw [List.length_append, List.length_append, el, hl], fun j av x h1 h2 => ?_⟩).mono ?_
    · by_cases hj : j < args.length
      · rw [List.getElem?_append_left hj] at h1
        rw [List.getElem?_append_left (by rw [el]; exact hj)] at h2
        exact ev j av x h1 h2
      · rw [List.getElem?_append_right (by omega)] at h1
        rw [List.getElem?_append_right (by rw [el]; omega), el] at h2
        exact hv _ av x h1 h2
    · rintro e w' ⟨r, m1, K1, rfl, hp⟩
      exact hnx r w' m1 K1 (hr.call hsub hE hS hp)
end
section
variable {K : Nat → Prop} {w : World} {m m2 : Nat → Loc} {S S2 : Nat → Prop}
theorem VR.ren3 {u : AV} {x : Value} (h : VR K w m S u x) (ρ σ : Nat → Nat) (k : Nat) (hm : ∀ i, i < k → m2 (σ i) = m (ρ i) ∧ S2 (σ i)) :
    ∀ v, renA ρ v = u → idsOk k v = true → VR K w m2 S2 (renA σ v) x := by
  have none : ∀ {v : AV} {x : Value}, VR K w m NoS v x → VR K w m2 NoS v x := fun h => h.mono (fun _ h => h) (fun _ _ => rfl) (fun _ h => h) (fun _ h => h.elim)
  induction h generalizing S2 with
  | v S x => intro v hv hi; cases v <;> simp only [renA] at hv <;> cases hv; exact .v _ _
  | dsl0 S size a c => intro v hv hi; cases v <;> simp only [renA] at hv <;> cases hv; exact .dsl0 _ _ _ _
  | dsl S size rows n b o c xs hn hc hk hl hx hv ih =>
    intro v hvv hi; cases v <;> simp only [renA] at hvv <;> cases hvv
    exact .dsl _ _ _ n b o c xs hn hc hk hl hx (fun r row j cv h1 h2 => none (hv r row j cv h1 h2))
  | dptr S cells b o xs hk hx hv ih =>
    intro v hvv hi; cases v <;> simp only [renA] at hvv <;> cases hvv
    exact .dptr _ _ b o xs hk hx (fun j cv h1 => none (hv j cv h1))
  | om S id D es c b hs hp hq hb hk ho hD =>
    intro v hvv hi; cases v <;> simp only [renA] at hvv <;> cases hvv
    have hlt := hm _ (by simpa [idsOk, Nat.blt_eq] using hi)
    simp only [renA]
    exact .om _ _ _ es c b hlt.2 (by rw [hlt.1]; exact hp) (by rw [hlt.1]; exact hq) (by rw [hlt.1]; exact hb) hk ho hD
  | emp S a => intro v hv hi; cases v <;> simp only [renA] at hv <;> cases hv; exact .emp _ _
  | ptr S id row col o hs ho =>
    intro v hvv hi; cases v <;> simp only [renA] at hvv <;> cases hvv
    have hlt := hm _ (by simpa [idsOk, Nat.blt_eq] using hi)
    simp only [renA]
    rw [← hlt.1]
    exact .ptr _ _ _ _ o hlt.2 (by rw [hlt.1]; exact ho)
  | sl0 S id row ad hs =>
    intro v hvv hi; cases v <;> simp only [renA] at hvv <;> cases hvv
    have hlt := hm _ (by simpa [idsOk, Nat.blt_eq] using hi)
    simp only [renA]
    exact .sl0 _ _ _ _ hlt.2
  | sx S id row len cap o c hs hp ho hcap hc =>
    intro v hvv hi; cases v <;> simp only [renA] at hvv <;> cases hvv
    have hlt := hm _ (by simpa [idsOk, Nat.blt_eq] using hi)
    simp only [renA]
    rw [← hlt.1]
    exact .sx _ _ _ _ _ o c hlt.2 (by rw [hlt.1]; exact hp) (by rw [hlt.1]; exact ho) (by rw [hlt.1]; exact hcap) hc
  | sl S id row len o c hs hp ho hc =>
    intro v hvv hi; cases v <;> simp only [renA] at hvv <;> cases hvv
    have hlt := hm _ (by simpa [idsOk, Nat.blt_eq] using hi)
    simp only [renA]
    rw [← hlt.1]
    exact .sl _ _ _ _ o c hlt.2 (by rw [hlt.1]; exact hp) (by rw [hlt.1]; exact ho) (by rw [hlt.1]; exact hc)
  | agg S cs xs hl hv ih =>
    intro v hvv hi; cases v <;> simp only [renA] at hvv <;> cases hvv
    rename_i cs
    simp only [idsOk] at hi
    simp only [renA]
    refine .agg _ _ _ (by rw [hl, renL_len, renL_len]) fun j cv y h1 h2 => ?_
    rw [renL_get] at h1
    cases hj : cs[j]? with
    | none => simp [hj] at h1
    | some c0 =>
      simp only [hj, Option.map_some, Option.some.injEq] at h1
      subst h1
      exact ih j (renA ρ c0) y (by rw [renL_get, hj]; rfl) h2 (hm := hm) c0 rfl (idsOkL_get hi hj)
  | tup S cs xs hl hv ih =>
    intro v hvv hi; cases v <;> simp only [renA] at hvv <;> cases hvv
    rename_i cs
    simp only [idsOk] at hi
    simp only [renA]
    refine .tup _ _ _ (by rw [hl, renL_len, renL_len]) fun j cv y h1 h2 => ?_
    rw [renL_get] at h1
    cases hj : cs[j]? with
    | none => simp [hj] at h1
    | some c0 =>
      simp only [hj, Option.map_some, Option.some.injEq] at h1
      subst h1
      exact ih j (renA ρ c0) y (by rw [renL_get, hj]; rfl) h2 (hm := hm) c0 rfl (idsOkL_get hi hj)
  | fn S f cs xs hl hv ih =>
    intro v hvv hi; cases v <;> simp only [renA] at hvv <;> cases hvv
    rename_i cs
    simp only [idsOk] at hi
    simp only [renA]
    refine .fn _ _ _ _ (by rw [hl, renL_len, renL_len]) fun j cv y h1 h2 => ?_
    rw [renL_get] at h1
    cases hj : cs[j]? with
    | none => simp [hj] at h1
    | some c0 =>
      simp only [hj, Option.map_some, Option.some.injEq] at h1
      subst h1
      exact ih j (renA ρ c0) y (by rw [renL_get, hj]; rfl) h2 (hm := hm) c0 rfl (idsOkL_get hi hj)
mutual
theorem renA_id : ∀ v : AV, renA (fun i => i) v = v
  | .ptr _ _ _ => by simp only [renA]
  | .sl _ _ _ => by simp only [renA]
  | .sx _ _ _ _ => by simp only [renA]
  | .v _ => by simp only [renA]
  | .dsl _ _ => by simp only [renA]
  | .dptr _ => by simp only [renA]
  | .om _ _ => by simp only [renA]
  | .emp => by simp only [renA]
  | .agg cs => by simp only [renA, renL_id cs]
  | .tup cs => by simp only [renA, renL_id cs]
  | .fn _ cs => by simp only [renA, renL_id cs]
theorem renL_id : ∀ l : List AV, renL (fun i => i) l = l
  | [] => by simp only [renL]
  | x :: l => by simp only [renL, renA_id x, renL_id l]
end
theorem renB_id (b : Blk) : renB (fun i => i) b = b := by
  obtain ⟨ty, sz, pl, rows⟩ := b
  cases pl with
  | true => rfl
  | false =>
    simp only [renB]
    congr 1
    exact (List.map_congr_left fun l _ => renL_id l).trans (by simp)
theorem renB_pl {ρ : Nat → Nat} {b : Blk} (h : b.pl = true) : renB ρ b = b := by cases b; simp only at h; subst h; rfl
theorem renB_np {ρ : Nat → Nat} {b : Blk} (h : b.pl = false) : renB ρ b = { b with rows := b.rows.map (renL ρ) } := by cases b; simp only at h; subst h; rfl
theorem BR.ren3 {i : Nat} {b : Blk} (ρ σ : Nat → Nat) (k : Nat) (h : BR K w m S (ρ i) (renB ρ b)) (hi : i < k) (hb : idsOkB k b = true) (hm : ∀ i, i < k → m2 (σ i) = m (ρ i) ∧ S2 (σ i)) : BR K w m2 S2 (σ i) (renB σ b) := by
  obtain ⟨cur, c1, c2, c3⟩ := h.ex
  have e := (hm i hi).1
  cases hp : b.pl with
  | true =>
    rw [renB_pl hp] at h c1 c2 c3 ⊢
    refine ⟨by rw [e]; exact h.nk, by rw [e]; exact h.sz, by rw [e]; exact h.cap, by rw [e]; exact h.capm, h.plv, cur, by rw [e]; exact c1, by rw [e]; exact c2, fun r row hrow => ⟨(c3 r row hrow).1, fun j cv hj => ?_⟩⟩
    obtain ⟨y, hy, hone, hvy⟩ := (c3 r row hrow).2 j cv hj
    have := h.plv hp r row hrow j cv hj
    refine ⟨y, hy, hone, ?_⟩
    cases cv <;> simp only [isV] at this <;> try (cases this)
    cases hvy; exact .v _ _
  | false =>
    rw [renB_np hp] at h c1 c2 c3 ⊢
    have hcap := h.cap
    simp only [List.length_map] at hcap
    unfold idsOkB at hb
    simp only [hp] at hb
    refine ⟨by rw [e]; exact h.nk, by rw [e]; exact h.sz, by rw [e]; simpa using hcap, by rw [e]; exact h.capm, fun hc => absurd hc (by simp [hp]), cur, by rw [e]; exact c1, by rw [e]; exact c2, fun r row hrow => ?_⟩
    simp only [List.getElem?_map] at hrow
    cases hrow0 : b.rows[r]? with
    | none => simp [hrow0] at hrow
    | some row0 =>
      simp only [hrow0, Option.map_some, Option.some.injEq] at hrow
      subst hrow
      obtain ⟨k1, k2⟩ := c3 r (renL ρ row0) (by simp [hrow0])
      rw [renL_len] at k1
      refine ⟨by rw [renL_len]; exact k1, fun j cv hj => ?_⟩
      rw [renL_get] at hj
      cases hj0 : row0[j]? with
      | none => simp [hj0] at hj
      | some cv0 =>
        simp only [hj0, Option.map_some, Option.some.injEq] at hj
        subst hj
        obtain ⟨y, hy, hone, hvy⟩ := k2 j (renA ρ cv0) (by rw [renL_get, hj0]; rfl)
        exact ⟨y, hy, hone, hvy.ren3 ρ σ k (S2 := fun i => S2 i ∧ b.pl = false) (fun i hi => ⟨(hm i hi).1, (hm i hi).2, hp⟩) cv0 rfl (idsOkL_get (List.all_eq_true.1 hb _ (List.mem_of_getElem? hrow0)) hj0)⟩
end
theorem OB.ren3 {K : Nat → Prop} {w : World} {m m2 : Nat → Loc} {S S2 : Nat → Prop} {i : Nat} {b : Blk} (ρ σ : Nat → Nat) (k : Nat) (h : OB K w m S (ρ i) (renB ρ b)) (hi : i < k) (hb : idsOkB k b = true) (hm : ∀ i, i < k → m2 (σ i) = m (ρ i) ∧ S2 (σ i)) : OB K w m2 S2 (σ i) (renB σ b) := by
  have e := (hm i hi).1
  rcases h with ⟨p1, p2⟩ | ⟨p1, p2⟩
  · refine .inl ⟨by rw [e]; exact p1, ?_⟩
    cases hp : b.pl with
    | true => rw [renB_pl hp] at p2 ⊢; exact p2
    | false => rw [renB_np hp] at p2 ⊢; simpa using p2
  · exact .inr ⟨by rw [e]; exact p1, BR.ren3 ρ σ k p2 hi hb hm⟩
def renH (σ : Nat → Nat) (H : Hp) : Hp := H.map fun p => (σ p.1, renB σ p.2)
def renE (σ : Nat → Nat) (E : Ef) : Ef := E.map fun p => (σ p.1, p.2.map (renB σ))
theorem look_renH {σ : Nat → Nat} : ∀ {H : Hp} {i : Nat} {b : Blk}, look (renH σ H) i = some b → ∃ j b0, i = σ j ∧ look H j = some b0 ∧ b = renB σ b0
  | [], i, b, h => by simp [renH, look_nil] at h
  | (u, x) :: U, i, b, h => by
    have h : look ((σ u, renB σ x) :: renH σ U) i = some b := h
    rw [look_cons] at h
    split at h
    · rename_i he; simp only [Option.some.injEq] at h; exact ⟨u, x, he.symm, by rw [look_cons, if_pos rfl], h.symm⟩
    · rename_i he
      obtain ⟨j, b0, h1, h2, h3⟩ := look_renH h
      refine ⟨j, b0, h1, ?_, h3⟩
      rw [look_cons, if_neg (fun e => he (by rw [e, h1]))]
      exact h2
theorem renH_look {σ : Nat → Nat} {g : Nat} (hσ : ∀ i j, i < g → j < g → σ i = σ j → i = j) : ∀ {H : Hp} {i : Nat} {b : Blk}, (H.all fun p => Nat.blt p.1 g) = true → i < g → look H i = some b → look (renH σ H) (σ i) = some (renB σ b)
  | [], i, b, _, _, h => by simp [look_nil] at h
  | (u, x) :: U, i, b, ha, hi, h => by
    simp only [List.all_cons, Bool.and_eq_true, Nat.blt_eq] at ha
    show look ((σ u, renB σ x) :: renH σ U) (σ i) = _
    rw [look_cons] at h ⊢
    by_cases he : u = i
    · subst he
      rw [if_pos rfl] at h ⊢
      simp only [Option.some.injEq] at h
      rw [h]
    · rw [if_neg he] at h
      rw [if_neg (fun e => he (hσ _ _ ha.1 hi e))]
      exact renH_look hσ ha.2 hi h
theorem lkE_renE {σ : Nat → Nat} : ∀ {E : Ef} {i : Nat} {ob : Option Blk}, lkE (renE σ E) i = some ob → ∃ j ob0, i = σ j ∧ lkE E j = some ob0 ∧ ob = ob0.map (renB σ)
  | [], i, ob, h => by simp [renE, lkE] at h
  | (u, x) :: U, i, ob, h => by
    have h : lkE ((σ u, x.map (renB σ)) :: renE σ U) i = some ob := h
    rw [lkE_cons] at h
    split at h
    · rename_i he; simp only [Option.some.injEq] at h; exact ⟨u, x, he.symm, by rw [lkE_cons, if_pos rfl], h.symm⟩
    · rename_i he
      obtain ⟨j, b0, h1, h2, h3⟩ := lkE_renE h
      refine ⟨j, b0, h1, ?_, h3⟩
      rw [lkE_cons, if_neg (fun e => he (by rw [e, h1]))]
      exact h2
theorem lkE_key {E : Ef} {i : Nat} {ob : Option Blk} (h : lkE E i = some ob) : (i, ob) ∈ E := by
  induction E with
  | nil => simp [lkE] at h
  | cons p E ih =>
    obtain ⟨u, x⟩ := p
    rw [lkE_cons] at h
    split at h
    · rename_i he; subst he; simp only [Option.some.injEq] at h; subst h; exact List.mem_cons_self
    · exact List.mem_cons_of_mem _ (ih h)
theorem lkE_has {σ : Nat → Nat} : ∀ {E : Ef} {i : Nat}, i ∈ E.map (·.1) → lkE (renE σ E) (σ i) ≠ none
  | [], i, h => by simp at h
  | (u, x) :: U, i, h => by
    show lkE ((σ u, x.map (renB σ)) :: renE σ U) (σ i) ≠ none
    rw [lkE_cons]
    split
    · simp
    · rename_i he
      refine lkE_has ?_
      rcases List.mem_cons.1 h with e | e
      · exact absurd (congrArg σ e.symm) he
      · exact e
structure FinC (P : Program) (rs : List ResultVar) (g : Nat) (v : AV) (E : Ef) (T : Tp) (H : Hp) (ρ : Nat → Nat) : Prop where
  res : ResV P T H rs (renA ρ v)
  pin : ∀ i, i < g → ρ i = i
  live : ∀ i b, (i, some b) ∈ E → look H (ρ i) = some (renB ρ b)
  inj : injB ρ (E.filterMap fun p => p.2.map fun _ => p.1) = true
def Finc (P : Program) (rs : List ResultVar) (g : Nat) (v : AV) (E : Ef) : Exit → Tp → Hp → Nat → Prop
  | .normal, T, H, _ => ∃ ρ, FinC P rs g v E T H ρ
  | .ret, T, H, _ => ∃ ρ, FinC P rs g v E T H ρ
  | _, _, _, _ => False
def nmC (ids : List Nat) (n : Nat) (i : Nat) : Nat := match ids[i]? with
  | some k => k
  | none => n + (i - ids.length)
def okC (g k : Nat) (args : List AV) (Hi : Hp) (v : AV) (E : Ef) : Bool :=
  args.all (idsOk g) && Hi.all (fun p => Nat.blt p.1 g && idsOkB g p.2) && (List.range g).all (fun i => (look Hi i).isSome && (E.map (·.1)).contains i) &&
  E.all (fun p => Nat.blt p.1 (g + k) && (match p.2 with | some b => idsOkB (g + k) b | none => true)) && idsOk (g + k) v && Hi.all (fun p => !Nat.beq p.2.size 1000003)
theorem RC.of {P : Program} {f : FuncId} {fn : Func} {c : Code} {args : List AV} {v : AV} {Hi : Hp} {E : Ef} (ids : List Nat) (n k : Nat) (hf : P.funcs[f]? = some fn) (hb : fn.body = some c) (hg : goFn P f = true) (hN : args.length ≤ fn.ntmps)
    (hok : okC ids.length k args Hi v E = true) (hnd : ids.Nodup) (h : AW P fn.ntmps ids.length c (Finc P fn.results.toList ids.length v E) (idx 0 args) Hi ids.length) :
    RC P f (args.map (renA (nmC ids n))) (renH (nmC ids n) Hi) n (renA (nmC ids n) v) (renE (nmC ids n) E) (n + k) := by
  generalize hgl : ids.length = g at hok h
  simp only [okC, Bool.and_eq_true] at hok
  obtain ⟨⟨⟨⟨⟨ok1, ok2⟩, ok3⟩, ok4⟩, ok5⟩, ok2b⟩ := hok
  have hiK : (Hi.all fun p => Nat.blt p.1 g) = true := List.all_eq_true.2 fun p hp => (by have := List.all_eq_true.1 ok2 p hp; simp only [Bool.and_eq_true] at this; exact this.1)
  have hiK' : ∀ i b, look Hi i = some b → i < g ∧ idsOkB g b = true := fun i b hl => by
    have := look_all ok2 hl
    simp only [Bool.and_eq_true, Nat.blt_eq] at this
    exact this
  have σlt : ∀ i, i < g → ∃ k, ids[i]? = some k ∧ nmC ids n i = k := fun i hi => ⟨ids[i]'(by omega), List.getElem?_eq_getElem (by omega), by simp [nmC, List.getElem?_eq_getElem (show i < ids.length by omega)]⟩
  have σge : ∀ i, g ≤ i → nmC ids n i = n + (i - g) := fun i hi => by simp [nmC, List.getElem?_eq_none (show ids.length ≤ i by omega), hgl]
  have σinj : ∀ i j, i < g → j < g → nmC ids n i = nmC ids n j → i = j := fun i j hi hj he => by
    obtain ⟨a, ha, ea⟩ := σlt i hi
    obtain ⟨b, hb', eb⟩ := σlt j hj
    rw [ea, eb] at he
    subst he
    exact (List.getElem?_inj (by omega) hnd).1 (ha.trans hb'.symm)
  generalize hσ : nmC ids n = σ at σlt σge σinj ⊢
  have given : ∀ i, i < g → ∃ b, look Hi i = some b := fun i hi => by
    have := List.all_eq_true.1 ok3 i (List.mem_range.2 hi)
    simp only [Bool.and_eq_true] at this
    exact Option.isSome_iff_exists.1 this.1
  have cover : ∀ i, i < g → i ∈ E.map (·.1) := fun i hi => by
    have := List.all_eq_true.1 ok3 i (List.mem_range.2 hi)
    simp only [Bool.and_eq_true] at this
    simpa using this.2
  have hEk : ∀ i ob, lkE E i = some ob → i < g + k ∧ ∀ b, ob = some b → idsOkB (g + k) b = true := fun i ob hl => by
    have := List.all_eq_true.1 ok4 _ (lkE_key hl)
    simp only [Bool.and_eq_true, Nat.blt_eq] at this
    exact ⟨this.1, fun b e => by subst e; exact this.2⟩
  refine ⟨hg, by omega, fun i ob hl => ?_, fun K m S w xs hk hfr hS hB hI hM hgl hgn hv => ?_⟩
  · obtain ⟨j, ob0, rfl, hj, _⟩ := lkE_renE hl
    by_cases hjg : j < g
    · obtain ⟨b, hb⟩ := given j hjg
      left; rw [renH_look σinj hiK hjg hb]; rfl
    · right; rw [σge j (by omega)]; have := (hEk j ob0 hj).1; omega
  refine calls_of_wp hf hb ?_
  have hsz : xs.length = args.length := by have := hv.1; simpa using this
  have hSσ : ∀ i, i < g → S (σ i) := fun i hi => by obtain ⟨b, hb⟩ := given i hi; exact hS _ _ (renH_look σinj hiK hi hb)
  let Old : Nat → Prop := fun k => k < w.heap.size ∧ ∀ i b, look Hi i = some b → (m (σ i)).ph = false → (m (σ i)).blk ≠ k
  let wi : WI Old := ⟨w, fun i => if i < g then some (m (σ i)) else none, hgl, fun k hk => ⟨Nat.lt_of_lt_of_le hk hgl.size, fun i b hl hp e => absurd (hgn _ _ (renH_look σinj hiK (hiK' i b hl).1 hl) hp) (by omega)⟩⟩
  have hr0 : Rel Old wi K (fun i => m (σ i)) (fun i => i < g) Hi w :=
    { os := rfl, tape := rfl, output := rfl, size := Nat.le_refl _, old := fun _ _ => rfl, olt := fun _ h => h.1, oown := fun i b hl hp ho => ho.2 i b hl hp rfl, om := fun i b hl hp hq => absurd (hM _ _ (renH_look σinj hiK (hiK' i b hl).1 hl) hp hq) (fun e => by have := look_all ok2b hl; simp only [Bool.not_eq_true'] at this; have e2 : b.size = 1000003 := e; rw [e2] at this; exact absurd this (by decide)), kb := hk, inS := fun i b hl => (hiK' i b hl).1
      pin := fun i l hp => by simp only [wi] at hp; split at hp; · simpa using hp
                              · cases hp
      pinS := fun i l hp => by simp only [wi] at hp; split at hp; · assumption
                               · cases hp
      own := fun i b hl => by
        have hb := hB _ _ (renH_look σinj hiK (hiK' i b hl).1 hl)
        have := OB.ren3 (m2 := fun i => m (σ i)) (S2 := fun i => i < g) σ (fun i => i) g hb (hiK' i b hl).1 (hiK' i b hl).2 (fun j hj => ⟨rfl, hj⟩)
        have e : renB (fun i => i) b = b := renB_id b
        rw [e] at this
        exact this
      inj := fun i j bi bj hi hj hne => hI _ _ _ _ (renH_look σinj hiK (hiK' i bi hi).1 hi) (renH_look σinj hiK (hiK' j bj hj).1 hj) (fun e => hne (σinj i j (hiK' i bi hi).1 (hiK' j bj hj).1 e)) }
  have ht0 : TRel K w (fun i => m (σ i)) (fun i => i < g) fn.ntmps (idx 0 args) { tmps := xs.toArray ++ Array.replicate (fn.ntmps - xs.toArray.size) undef, defers := [] } := by
    refine ⟨rfl, by simp; omega, fun t av hl => ?_⟩
    obtain ⟨_, h2⟩ := look_idx args 0 t av hl
    rw [Nat.sub_zero] at h2
    have hlt : t < xs.length := by rw [hsz]; exact (List.getElem?_eq_some_iff.1 h2).1
    have hx := List.getElem?_eq_getElem hlt
    have hva := hv.2 t (renA σ av) _ (by rw [List.getElem?_map, h2]; rfl) hx
    have he : (xs.toArray ++ Array.replicate (fn.ntmps - xs.toArray.size) undef).getD t undef = xs[t] := by
      rw [Array.getD_eq_getD_getElem?, Array.getElem?_append_left (by simpa using hlt)]
      simp [hlt]
    show VR _ _ _ _ av ((xs.toArray ++ Array.replicate (fn.ntmps - xs.toArray.size) undef).getD t undef)
    rw [he]
    exact hva.ren σ g av rfl (List.all_eq_true.1 ok1 av (List.mem_of_getElem? h2))
  have fin : ∀ (a' : Act) (w' : World) (T' : Tp) (H' : Hp) (n' : Nat) (m' : Nat → Loc) (K' : Nat → Prop), GK Old K K' → (∃ ρ, FinC P fn.results.toList g v E T' H' ρ) → Rel Old wi K' m' (fun i => i < n') H' w' → TRel K' w' m' (fun i => i < n') fn.ntmps T' a' →
      a'.defers = [] ∧ ∃ x, (results fn a'.tmps).run P w' = .ok x w' ∧ ∃ r m' K', Ending.returned x = .returned r ∧ PostC (renH σ Hi) (renE σ E) K m S w n (n + k) (renA σ v) r w' m' K' := by
    rintro a' w' T' H' n' m' K' hgk ⟨ρ, hfin⟩ hr ht
    obtain ⟨x, hx, hvx⟩ := hfin.res.run hr ht
    obtain ⟨m2, hm2⟩ : ∃ m2 : Nat → Loc, ∀ i, m2 i = if n ≤ i ∧ i < n + k then m' (ρ (i - n + g)) else m i := ⟨_, fun _ => rfl⟩
    refine ⟨ht.dn, x, hx, x, m2, K', rfl, ?_⟩
    have hm : ∀ i, i < g + k → m2 (σ i) = m' (ρ i) ∧ addS S n (n + k) (σ i) := fun i hi => by
      by_cases hig : i < g
      · have hs := hSσ i hig
        have hno : ¬ (n ≤ σ i ∧ σ i < n + k) := fun hc => hfr _ hc.1 hc.2 hs
        refine ⟨?_, .inl hs⟩
        rw [hm2, if_neg hno]
        rw [hfin.pin i hig]
        exact (hr.pin i (m (σ i)) (by simp [wi, hig])).symm
      · have e := σge i (by omega)
        refine ⟨?_, .inr (by omega)⟩
        rw [hm2, e, if_pos ⟨by omega, by omega⟩, show n + (i - g) - n + g = i by omega]
    have live : ∀ i b, look (ovr (renE σ E) (renH σ Hi)) i = some b → ∃ j b0, i = σ j ∧ j < g + k ∧ lkE E j = some (some b0) ∧ b = renB σ b0 ∧ idsOkB (g + k) b0 = true := fun i b hl => by
      rw [look_ovr] at hl
      cases he : lkE (renE σ E) i with
      | none =>
        rw [he] at hl
        obtain ⟨j, b0, rfl, hj, _⟩ := look_renH hl
        exact absurd he (lkE_has (cover j (hiK' j b0 hj).1))
      | some ob =>
        rw [he] at hl
        simp only [Option.getD_some] at hl
        obtain ⟨j, ob0, rfl, hj, e⟩ := lkE_renE he
        subst hl
        cases ob0 with
        | none => simp at e
        | some b0 =>
          simp only [Option.map_some, Option.some.injEq] at e
          exact ⟨j, b0, rfl, (hEk j _ hj).1, hj, e, (hEk j _ hj).2 b0 rfl⟩
    refine { ag := fun i hi => by rw [hm2, if_neg hi], os := hr.os, tape := hr.tape, output := hr.output, size := hr.size, keep := fun q hq hne => hr.old q ⟨hq, fun i b hl hp => hne _ _ (renH_look σinj hiK (hiK' i b hl).1 hl) hp⟩, gk := hgk.1, gk2 := fun q hq => ?_, kb := hr.kb,
             vr := hvx.ren3 ρ σ (g + k) hm v rfl ok5, loc := fun i b hl hph => ?_, om := fun i b hl hph hq => ?_, own := fun i b hl => ?_, inj := fun i j bi bj hi hj hne => ?_ }
    · by_cases hlt : q < w.heap.size
      · by_cases hgv : ∃ i b, look Hi i = some b ∧ (m (σ i)).ph = false ∧ (m (σ i)).blk = q
        · obtain ⟨i, b, hl, hp, e⟩ := hgv
          exact .inr (.inr ⟨σ i, _, renH_look σinj hiK (hiK' i b hl).1 hl, hp, e⟩)
        · exact .inl (hgk.2 q hq ⟨hlt, fun i b hl hp e => hgv ⟨i, b, hl, hp, e⟩⟩)
      · exact .inr (.inl (by omega))
    · obtain ⟨j, b0, rfl, hjl, hj, _, _⟩ := live i b hl
      rw [(hm j hjl).1] at hph ⊢
      have ho := hr.oown _ _ (hfin.live j b0 (lkE_key hj)) hph
      by_cases hlt : (m' (ρ j)).blk < w.heap.size
      · right
        have : ∃ i b, look Hi i = some b ∧ (m (σ i)).ph = false ∧ (m (σ i)).blk = (m' (ρ j)).blk := by
          refine Classical.byContradiction fun hc => ho ⟨hlt, fun i b hl hp e => hc ⟨i, b, hl, hp, e⟩⟩
        obtain ⟨i, b, hl, hp, e⟩ := this
        exact ⟨σ i, _, renH_look σinj hiK (hiK' i b hl).1 hl, hp, e.symm⟩
      · exact .inl (by omega)
    · obtain ⟨j, b0, rfl, hjl, hj, rfl, _⟩ := live i b hl
      rw [(hm j hjl).1] at hph hq ⊢
      obtain ⟨g1, g2, ho⟩ := hr.om _ _ (hfin.live j b0 (lkE_key hj)) hph hq
      refine ⟨g1, g2, ?_⟩
      by_cases hlt : (m' (ρ j)).blk < w.heap.size
      · right
        have : ∃ i b, look Hi i = some b ∧ (m (σ i)).ph = false ∧ (m (σ i)).blk = (m' (ρ j)).blk := by
          refine Classical.byContradiction fun hc => ho ⟨hlt, fun i b hl hp e => hc ⟨i, b, hl, hp, e⟩⟩
        obtain ⟨i, b, hl, hp, e⟩ := this
        exact ⟨σ i, _, renH_look σinj hiK (hiK' i b hl).1 hl, hp, e.symm⟩
      · exact .inl (by omega)
    · obtain ⟨j, b0, rfl, hjl, hj, rfl, hid⟩ := live i b hl
      exact OB.ren3 ρ σ (g + k) (hr.own _ _ (hfin.live j b0 (lkE_key hj))) hjl hid hm
    · obtain ⟨i, b1, rfl, hil, hi, _, _⟩ := live i bi hi
      obtain ⟨j, b2, rfl, hjl, hj, _, _⟩ := live j bj hj
      rw [(hm i hil).1, (hm j hjl).1]
      have mem : ∀ {i : Nat} {b : Blk}, lkE E i = some (some b) → i ∈ (E.filterMap fun p => p.2.map fun _ => p.1) := fun {i b} h => List.mem_filterMap.2 ⟨(i, some b), lkE_key h, rfl⟩
      exact hr.inj _ _ _ _ (hfin.live i b1 (lkE_key hi)) (hfin.live j b2 (lkE_key hj)) (injB_spec hfin.inj i j (mem hi) (mem hj) (fun e => hne (by rw [e])))
  refine Go.wp_mono (wpIn_wide.1 (h Old wi K _ _ w (fun i l hp => by simp only [wi] at hp; split at hp; · assumption
                                                                     · cases hp) hr0 ht0 none)) fun e a' w' ⟨T', H', n', m', K', hgk, q, hr, ht⟩ => ?_
  cases e with
  | normal => exact fin a' w' T' H' n' m' K' hgk q hr ht
  | ret => exact fin a' w' T' H' n' m' K' hgk q hr ht
  | exit id => exact q.elim
  | goto l => exact q.elim
  | panic ch => exact q.elim
  | outgrown => exact q.elim
section
variable {P : Program} {N : Nat} {ops : Array Oper} {bs ks : List Nat} {H₀ : Hp} {G : Tp → Hp → Nat → Prop} {i : Nat} {eff : List (Nat × List (Nat × Option Blk))} {o : Oper} {os : List Oper} {T : Tp} {n n' : Nat} {v : AV}
theorem dr_callC {f : Operand} {g : FuncId} {xs : Array Operand} {ts : Array TypeId} {caps args : List AV} {Hi : Hp} {E : Ef} (hg : o.guard = none) (hd : dOk N o.dst = true) (hk : ks.getD i 0 = 2)
    (ho : o.op = .call { callee := .value f, args := xs, argTypes := ts })
    (hf : evalA (resT (o.looksAt ops) T) f = some (.fn g caps)) (ha : xs.toList.mapM (evalA (resT (o.looksAt ops) T)) = some args) (hro : RC P g (args ++ caps) Hi n v E n') (hHi : subE (selE (depM bs ks i) eff H₀) Hi)
    (h : DE P N ops bs ks H₀ G (i + 1) ((i, E) :: eff) os (put T o.dst v) n') : DE P N ops bs ks H₀ G i eff (o :: os) T n := fun pre hl he =>
  ⟨⟨o.dst, v, E, n, n'⟩, rfl, hro.2.1, ⟨rfl, hd, .inr ⟨.inl hg, .inr (.inr (.inr ⟨hk, ovr E (selE (depM bs ks i) eff H₀), fun _ => by rw [he], fun j ob hj => by
    rcases hro.2.2.1 j ob hj with hs | hs
    · obtain ⟨c, hc⟩ := Option.isSome_iff_exists.1 hs
      left; rw [he, subE_get hHi j c hc]; rfl
    · exact .inr hs, by rw [he]; exact s_callC ho hf ha hro hHi⟩))⟩⟩, h _ (by simp [hl]) (sel_add hl he _ _ _ _ _)⟩
end
end Go.Proofs.Ytljpgbgokjiamaa.Aw

namespace Go.Proofs.Ytljpgbgokjiamaa.Aw
open Go Go.RowKit
set_option linter.unusedVariables false
set_option linter.unusedSimpArgs false
theorem hcons {α : Type} {c : α} : ∀ {cs : List α}, cs.head? = some c → cs = c :: cs.tail
  | [], h => by cases h
  | x :: cs, h => by simp at h; subst h; rfl
theorem hdrop {α : Type} {c : α} : ∀ {cs : List α} {k : Nat}, cs[k]? = some c → cs.drop k = c :: cs.drop (k + 1)
  | [], k, h => by simp at h
  | x :: cs, 0, h => by simp at h; subst h; rfl
  | x :: cs, k + 1, h => by simp at h; simpa using hdrop h
def evalL (T : Tp) : List Operand → Option (List AV)
  | [] => some []
  | x :: l => match evalA T x with
    | some a => match evalL T l with
      | some asl => some (a :: asl)
      | none => none
    | none => none
theorem evalL_m {T : Tp} : ∀ {l : List Operand} {vs : List AV}, evalL T l = some vs → l.mapM (evalA T) = some vs
  | [], vs, h => by simpa [evalL] using h
  | x :: l, vs, h => by
    unfold evalL at h
    rw [List.mapM_cons]
    cases hx : evalA T x with
    | none => rw [hx] at h; cases h
    | some a =>
      cases hl : evalL T l with
      | none => rw [hx, hl] at h; cases h
      | some asl =>
        rw [hx, hl] at h
        rw [evalL_m hl]
        simpa using h
def evalP (T : Tp) : List (Nat × Operand) → Option (List (Nat × AV))
  | [] => some []
  | (i, x) :: l => match evalA T x with
    | some a => match evalP T l with
      | some asl => some ((i, a) :: asl)
      | none => none
    | none => none
theorem evalP_m {T : Tp} : ∀ {l : List (Nat × Operand)} {vs : List (Nat × AV)}, evalP T l = some vs → l.mapM (fun p => (evalA T p.2).map fun v => (p.1, v)) = some vs
  | [], vs, h => by simpa [evalP] using h
  | (i, x) :: l, vs, h => by
    unfold evalP at h
    rw [List.mapM_cons]
    cases hx : evalA T x with
    | none => rw [hx] at h; cases h
    | some a =>
      cases hl : evalP T l with
      | none => rw [hx, hl] at h; cases h
      | some asl =>
        rw [hx, hl] at h
        rw [evalP_m hl]
        simpa [hx] using h
def plR (rows : List (List AV)) : Bool := rows.all fun r => r.all isV
theorem plA {rows : List (List AV)} {p pl0 : Bool} (hp : plR rows = p) : (pl0 && p) = true → pl0 = true ∧ (rows.all fun r => r.all isV) = true := fun h => by
  simp only [Bool.and_eq_true] at h
  exact ⟨h.1, hp.trans h.2⟩
theorem row1 {α : Type} {l : List α} {r : Nat} {x : α} (h : l[r]? = some x) : r + 1 ≤ l.length := (List.getElem?_eq_some_iff.1 h).1
theorem evalR {T : Tp} {x : Operand} {v : AV} {ts : List Tmp} (h : evalA T x = some v) (hm : ∀ t, x = .tmp t → t ∈ ts) : evalA (resT ts T) x = some v := by
  cases x with
  | tmp t => exact resT_look h (hm t rfl)
  | const v => exact h
  | func f => exact h
  | global g => exact h
theorem mapR {T : Tp} {ts : List Tmp} : ∀ {l : List Operand} {vs : List AV}, l.mapM (evalA T) = some vs → (∀ x ∈ l, ∀ t, x = .tmp t → t ∈ ts) → l.mapM (evalA (resT ts T)) = some vs
  | [], vs, h, _ => h
  | x :: l, vs, h, hm => by
    rw [List.mapM_cons] at h ⊢
    cases hx : evalA T x with
    | none => simp [hx] at h
    | some v =>
      cases hl : l.mapM (evalA T) with
      | none => simp [hx, hl] at h
      | some us =>
        rw [evalR hx (hm x List.mem_cons_self), mapR hl (fun y hy => hm y (List.mem_cons_of_mem _ hy))]
        simpa [hx, hl] using h
theorem mapP {T : Tp} {ts : List Tmp} : ∀ {l : List (Nat × Operand)} {vs : List (Nat × AV)}, l.mapM (fun p => (evalA T p.2).map fun v => (p.1, v)) = some vs → (∀ x ∈ l, ∀ t, x.2 = .tmp t → t ∈ ts) → l.mapM (fun p => (evalA (resT ts T) p.2).map fun v => (p.1, v)) = some vs
  | [], vs, h, _ => h
  | x :: l, vs, h, hm => by
    rw [List.mapM_cons] at h ⊢
    cases hx : evalA T x.2 with
    | none => simp [hx] at h
    | some v =>
      cases hl : l.mapM (fun p => (evalA T p.2).map fun v => (p.1, v)) with
      | none => simp [hx, hl] at h
      | some us =>
        rw [evalR hx (hm x List.mem_cons_self), mapP hl (fun y hy => hm y (List.mem_cons_of_mem _ hy))]
        simpa [hx, hl] using h
section
variable {P : Program} {N n n' : Nat} {all : Array Oper} {l : List Oper} {G : Tp → Hp → Nat → Prop} {T : Tp} {H : Hp} {bs ks : List Nat} {i : Nat} {eff : List (Nat × List (Nat × Option Blk))} {ty : TypeId} {pos : String} {after : Array Edge} {d : Nat}
theorem q_move {x : Operand} {v : AV} (hd : Nat.blt d N = true) (hx : evalA T x = some (v))  (h : SQ P N all l G ((d, v) :: T) H n) : SQ P N all (⟨some d, .move x, ty, pos, after, none⟩ :: l) G T H n :=
  sq_step rfl hd (s_move (.inl rfl) hx) h
theorem e_move {x : Operand} {v : AV} (hd : Nat.blt d N = true) (hx : evalA T x = some (v))  (hk : ks.getD i 0 = 0) (h : DE P N all bs ks H G (i + 1) eff l ((d, v) :: T) n) : DE P N all bs ks H G i eff (⟨some d, .move x, ty, pos, after, none⟩ :: l) T n :=
  dr_0 rfl hd hk (fun H n => s_move (.inl rfl) (evalR hx (fun t ht => by subst ht; simp [Oper.looksAt, Op.operands, Call.operands]))) h
theorem q_assign {x : Operand} {v : AV} (hd : Nat.blt d N = true) (hx : evalA T x = some (v))  (h : SQ P N all l G ((d, v) :: T) H n) : SQ P N all (⟨some d, .assign x, ty, pos, after, none⟩ :: l) G T H n :=
  sq_step rfl hd (s_move (.inr rfl) hx) h
theorem e_assign {x : Operand} {v : AV} (hd : Nat.blt d N = true) (hx : evalA T x = some (v))  (hk : ks.getD i 0 = 0) (h : DE P N all bs ks H G (i + 1) eff l ((d, v) :: T) n) : DE P N all bs ks H G i eff (⟨some d, .assign x, ty, pos, after, none⟩ :: l) T n :=
  dr_0 rfl hd hk (fun H n => s_move (.inr rfl) (evalR hx (fun t ht => by subst ht; simp [Oper.looksAt, Op.operands, Call.operands]))) h
theorem q_pick_t {c x y : Operand} {t : Bool} {v : AV} (hd : Nat.blt d N = true) (hc : evalA T c = some (.v (.bool t))) (hx : evalA T x = some (v)) (ht : t = true) (h : SQ P N all l G ((d, v) :: T) H n) : SQ P N all (⟨some d, .pick c x y, ty, pos, after, none⟩ :: l) G T H n :=
  sq_step rfl hd (s_pick_t rfl hc ht hx) h
theorem e_pick_t {c x y : Operand} {t : Bool} {v : AV} (hd : Nat.blt d N = true) (hc : evalA T c = some (.v (.bool t))) (hx : evalA T x = some (v)) (ht : t = true) (hk : ks.getD i 0 = 0) (h : DE P N all bs ks H G (i + 1) eff l ((d, v) :: T) n) : DE P N all bs ks H G i eff (⟨some d, .pick c x y, ty, pos, after, none⟩ :: l) T n :=
  dr_0 rfl hd hk (fun H n => s_pick_t rfl (evalR hc (fun t ht => by subst ht; simp [Oper.looksAt, Op.operands, Call.operands])) ht (evalR hx (fun t ht => by subst ht; simp [Oper.looksAt, Op.operands, Call.operands]))) h
theorem q_pick_f {c x y : Operand} {t : Bool} {v : AV} (hd : Nat.blt d N = true) (hc : evalA T c = some (.v (.bool t))) (hy : evalA T y = some (v)) (ht : t = false) (h : SQ P N all l G ((d, v) :: T) H n) : SQ P N all (⟨some d, .pick c x y, ty, pos, after, none⟩ :: l) G T H n :=
  sq_step rfl hd (s_pick_f rfl hc ht hy) h
theorem e_pick_f {c x y : Operand} {t : Bool} {v : AV} (hd : Nat.blt d N = true) (hc : evalA T c = some (.v (.bool t))) (hy : evalA T y = some (v)) (ht : t = false) (hk : ks.getD i 0 = 0) (h : DE P N all bs ks H G (i + 1) eff l ((d, v) :: T) n) : DE P N all bs ks H G i eff (⟨some d, .pick c x y, ty, pos, after, none⟩ :: l) T n :=
  dr_0 rfl hd hk (fun H n => s_pick_f rfl (evalR hc (fun t ht => by subst ht; simp [Oper.looksAt, Op.operands, Call.operands])) ht (evalR hy (fun t ht => by subst ht; simp [Oper.looksAt, Op.operands, Call.operands]))) h
theorem q_fieldAddr {s : TypeId} {x : Operand} {f : Nat} {v v' : AV} {ti : TI} {fs : List (Nat × Nat × Bool)} {off size : Nat} {agg : Bool} (hd : Nat.blt d N = true) (hx : evalA T x = some (v)) (hty : tiOf P s = some ti) (hk0 : ti.k = .struct fs) (hf : fs[f]? = some (off, size, agg)) (hs : Nat.blt 0 size = true) (hsh : shiftA v off = some v') (h : SQ P N all l G ((d, v') :: T) H n) : SQ P N all (⟨some d, .fieldAddr s x f, ty, pos, after, none⟩ :: l) G T H n :=
  sq_step rfl hd (s_fieldAddr rfl hty hx hk0 hf (by simp only [Nat.blt_eq] at hs; omega) hsh) h
theorem e_fieldAddr {s : TypeId} {x : Operand} {f : Nat} {v v' : AV} {ti : TI} {fs : List (Nat × Nat × Bool)} {off size : Nat} {agg : Bool} (hd : Nat.blt d N = true) (hx : evalA T x = some (v)) (hty : tiOf P s = some ti) (hk0 : ti.k = .struct fs) (hf : fs[f]? = some (off, size, agg)) (hs : Nat.blt 0 size = true) (hsh : shiftA v off = some v') (hk : ks.getD i 0 = 0) (h : DE P N all bs ks H G (i + 1) eff l ((d, v') :: T) n) : DE P N all bs ks H G i eff (⟨some d, .fieldAddr s x f, ty, pos, after, none⟩ :: l) T n :=
  dr_0 rfl hd hk (fun H n => s_fieldAddr rfl hty (evalR hx (fun t ht => by subst ht; simp [Oper.looksAt, Op.operands, Call.operands])) hk0 hf (by simp only [Nat.blt_eq] at hs; omega) hsh) h
theorem q_nilc {x : Operand} {v : AV} (hd : Nat.blt d N = true) (hx : evalA T x = some (v)) (hc0 : (shiftA v 0).isSome = true) (h : SQ P N all l G ((d, v) :: T) H n) : SQ P N all (⟨some d, .nilCheck x, ty, pos, after, none⟩ :: l) G T H n :=
  sq_step rfl hd (s_nilCheck rfl hx (.inl hc0)) h
theorem e_nilc {x : Operand} {v : AV} (hd : Nat.blt d N = true) (hx : evalA T x = some (v)) (hc0 : (shiftA v 0).isSome = true) (hk : ks.getD i 0 = 0) (h : DE P N all bs ks H G (i + 1) eff l ((d, v) :: T) n) : DE P N all bs ks H G i eff (⟨some d, .nilCheck x, ty, pos, after, none⟩ :: l) T n :=
  dr_0 rfl hd hk (fun H n => s_nilCheck rfl (evalR hx (fun t ht => by subst ht; simp [Oper.looksAt, Op.operands, Call.operands])) (.inl hc0)) h
theorem q_not {t : TypeId} {x : Operand} {p : Bool} (hd : Nat.blt d N = true) (hx : evalA T x = some (.v (.bool p)))  (h : SQ P N all l G ((d, .v (.bool (!p))) :: T) H n) : SQ P N all (⟨some d, .unOp .not t x, ty, pos, after, none⟩ :: l) G T H n :=
  sq_step rfl hd (s_not rfl hx) h
theorem e_not {t : TypeId} {x : Operand} {p : Bool} (hd : Nat.blt d N = true) (hx : evalA T x = some (.v (.bool p)))  (hk : ks.getD i 0 = 0) (h : DE P N all bs ks H G (i + 1) eff l ((d, .v (.bool (!p))) :: T) n) : DE P N all bs ks H G i eff (⟨some d, .unOp .not t x, ty, pos, after, none⟩ :: l) T n :=
  dr_0 rfl hd hk (fun H n => s_not rfl (evalR hx (fun t ht => by subst ht; simp [Oper.looksAt, Op.operands, Call.operands]))) h
theorem q_conv {t u : TypeId} {x : Operand} {k k' : IntKind} {p : Int} {ti tj : TI} (hd : Nat.blt d N = true) (hx : evalA T x = some (.v (.int k p))) (hty : tiOf P u = some ti) (hk0 : ti.k = .int k') (hty2 : tiOf P t = some tj) (h : SQ P N all l G ((d, .v (.int k' (k'.wrap p))) :: T) H n) : SQ P N all (⟨some d, .convert t u x, ty, pos, after, none⟩ :: l) G T H n :=
  sq_step rfl hd (s_conv rfl hty hk0 hty2 hx) h
theorem e_conv {t u : TypeId} {x : Operand} {k k' : IntKind} {p : Int} {ti tj : TI} (hd : Nat.blt d N = true) (hx : evalA T x = some (.v (.int k p))) (hty : tiOf P u = some ti) (hk0 : ti.k = .int k') (hty2 : tiOf P t = some tj) (hk : ks.getD i 0 = 0) (h : DE P N all bs ks H G (i + 1) eff l ((d, .v (.int k' (k'.wrap p))) :: T) n) : DE P N all bs ks H G i eff (⟨some d, .convert t u x, ty, pos, after, none⟩ :: l) T n :=
  dr_0 rfl hd hk (fun H n => s_conv rfl hty hk0 hty2 (evalR hx (fun t ht => by subst ht; simp [Oper.looksAt, Op.operands, Call.operands]))) h
theorem q_ext {x : Operand} {j : Nat} {vs : List AV} {v : AV} (hd : Nat.blt d N = true) (hx : evalA T x = some (.tup vs)) (hi : vs[j]? = some v) (h : SQ P N all l G ((d, v) :: T) H n) : SQ P N all (⟨some d, .extract x j, ty, pos, after, none⟩ :: l) G T H n :=
  sq_step rfl hd (s_extract rfl hx hi) h
theorem q_lend {x : Operand} {t : TypeId} {sz : Nat} {rows : List (List AV)} {ti : TI} {e : TypeId} {es eb : Nat} {ez : List Value} (hd : Nat.blt d N = true) (hx : evalA T x = some (.dsl sz rows)) (hty : tiOf P t = some ti) (hk0 : ti.k = .slice e es eb ez) (h : SQ P N all l G ((d, .v (.int .i64 rows.length)) :: T) H n) : SQ P N all (⟨some d, .call { callee := .builtin .len, args := #[x], argTypes := #[t] }, ty, pos, after, none⟩ :: l) G T H n :=
  sq_step rfl hd (s_len rfl hty hx (.inr ⟨e, es, eb, ez, hk0, .inl ⟨sz, rows, rfl, rfl⟩⟩)) h
theorem e_lend {x : Operand} {t : TypeId} {sz : Nat} {rows : List (List AV)} {ti : TI} {e : TypeId} {es eb : Nat} {ez : List Value} (hd : Nat.blt d N = true) (hx : evalA T x = some (.dsl sz rows)) (hty : tiOf P t = some ti) (hk0 : ti.k = .slice e es eb ez) (hk : ks.getD i 0 = 0) (h : DE P N all bs ks H G (i + 1) eff l ((d, .v (.int .i64 rows.length)) :: T) n) : DE P N all bs ks H G i eff (⟨some d, .call { callee := .builtin .len, args := #[x], argTypes := #[t] }, ty, pos, after, none⟩ :: l) T n :=
  dr_0 rfl hd hk (fun H n => s_len rfl hty (evalR hx (fun t ht => by subst ht; simp [Oper.looksAt, Op.operands, Call.operands])) (.inr ⟨e, es, eb, ez, hk0, .inl ⟨sz, rows, rfl, rfl⟩⟩)) h
theorem q_lenl {x : Operand} {t : TypeId} {id row len : Nat} {ti : TI} {e : TypeId} {es eb : Nat} {ez : List Value} (hd : Nat.blt d N = true) (hx : evalA T x = some (.sl id row len)) (hty : tiOf P t = some ti) (hk0 : ti.k = .slice e es eb ez) (h : SQ P N all l G ((d, .v (.int .i64 len)) :: T) H n) : SQ P N all (⟨some d, .call { callee := .builtin .len, args := #[x], argTypes := #[t] }, ty, pos, after, none⟩ :: l) G T H n :=
  sq_step rfl hd (s_len rfl hty hx (.inr ⟨e, es, eb, ez, hk0, .inr (.inl ⟨id, row, len, rfl, rfl⟩)⟩)) h
theorem e_lenl {x : Operand} {t : TypeId} {id row len : Nat} {ti : TI} {e : TypeId} {es eb : Nat} {ez : List Value} (hd : Nat.blt d N = true) (hx : evalA T x = some (.sl id row len)) (hty : tiOf P t = some ti) (hk0 : ti.k = .slice e es eb ez) (hk : ks.getD i 0 = 0) (h : DE P N all bs ks H G (i + 1) eff l ((d, .v (.int .i64 len)) :: T) n) : DE P N all bs ks H G i eff (⟨some d, .call { callee := .builtin .len, args := #[x], argTypes := #[t] }, ty, pos, after, none⟩ :: l) T n :=
  dr_0 rfl hd hk (fun H n => s_len rfl hty (evalR hx (fun t ht => by subst ht; simp [Oper.looksAt, Op.operands, Call.operands])) (.inr ⟨e, es, eb, ez, hk0, .inr (.inl ⟨id, row, len, rfl, rfl⟩)⟩)) h
theorem q_max {x y : Operand} {ts : Array TypeId} {k : IntKind} {p q : Int} (hd : Nat.blt d N = true) (hx : evalA T x = some (.v (.int k p))) (hy : evalA T y = some (.v (.int k q)))  (h : SQ P N all l G ((d, .v (.int k (mxI p q))) :: T) H n) : SQ P N all (⟨some d, .call { callee := .builtin .max, args := #[x, y], argTypes := ts }, ty, pos, after, none⟩ :: l) G T H n :=
  sq_step rfl hd (s_max rfl hx hy) h
theorem q_add {x y : Operand} {t u : TypeId} {k : IntKind} {p q : Int} (hd : Nat.blt d N = true) (hx : evalA T x = some (.v (.int k p))) (hy : evalA T y = some (.v (.int k q)))  (h : SQ P N all l G ((d, .v (.int k (k.wrap (p + q)))) :: T) H n) : SQ P N all (⟨some d, .binOp .add t x y u, ty, pos, after, none⟩ :: l) G T H n :=
  sq_step rfl hd (s_arith rfl hx hy rfl) h
theorem q_sub {x y : Operand} {t u : TypeId} {k : IntKind} {p q : Int} (hd : Nat.blt d N = true) (hx : evalA T x = some (.v (.int k p))) (hy : evalA T y = some (.v (.int k q)))  (h : SQ P N all l G ((d, .v (.int k (k.wrap (p - q)))) :: T) H n) : SQ P N all (⟨some d, .binOp .sub t x y u, ty, pos, after, none⟩ :: l) G T H n :=
  sq_step rfl hd (s_arith rfl hx hy rfl) h
theorem e_sub {x y : Operand} {t u : TypeId} {k : IntKind} {p q : Int} (hd : Nat.blt d N = true) (hx : evalA T x = some (.v (.int k p))) (hy : evalA T y = some (.v (.int k q)))  (hk : ks.getD i 0 = 0) (h : DE P N all bs ks H G (i + 1) eff l ((d, .v (.int k (k.wrap (p - q)))) :: T) n) : DE P N all bs ks H G i eff (⟨some d, .binOp .sub t x y u, ty, pos, after, none⟩ :: l) T n :=
  dr_0 rfl hd hk (fun H n => s_arith rfl (evalR hx (fun t ht => by subst ht; simp [Oper.looksAt, Op.operands, Call.operands])) (evalR hy (fun t ht => by subst ht; simp [Oper.looksAt, Op.operands, Call.operands])) rfl) h
theorem q_mul {x y : Operand} {t u : TypeId} {k : IntKind} {p q : Int} (hd : Nat.blt d N = true) (hx : evalA T x = some (.v (.int k p))) (hy : evalA T y = some (.v (.int k q)))  (h : SQ P N all l G ((d, .v (.int k (k.wrap (p * q)))) :: T) H n) : SQ P N all (⟨some d, .binOp .mul t x y u, ty, pos, after, none⟩ :: l) G T H n :=
  sq_step rfl hd (s_arith rfl hx hy rfl) h
theorem e_mul {x y : Operand} {t u : TypeId} {k : IntKind} {p q : Int} (hd : Nat.blt d N = true) (hx : evalA T x = some (.v (.int k p))) (hy : evalA T y = some (.v (.int k q)))  (hk : ks.getD i 0 = 0) (h : DE P N all bs ks H G (i + 1) eff l ((d, .v (.int k (k.wrap (p * q)))) :: T) n) : DE P N all bs ks H G i eff (⟨some d, .binOp .mul t x y u, ty, pos, after, none⟩ :: l) T n :=
  dr_0 rfl hd hk (fun H n => s_arith rfl (evalR hx (fun t ht => by subst ht; simp [Oper.looksAt, Op.operands, Call.operands])) (evalR hy (fun t ht => by subst ht; simp [Oper.looksAt, Op.operands, Call.operands])) rfl) h
theorem q_quo {x y : Operand} {t u : TypeId} {k : IntKind} {p q : Int} (hd : Nat.blt d N = true) (hx : evalA T x = some (.v (.int k p))) (hy : evalA T y = some (.v (.int k q))) (hq : q ≠ 0) (h : SQ P N all l G ((d, .v (.int k (k.wrap (p.tdiv q)))) :: T) H n) : SQ P N all (⟨some d, .binOp .quo t x y u, ty, pos, after, none⟩ :: l) G T H n :=
  sq_step rfl hd (s_quo rfl hx hy hq) h
theorem q_rem {x y : Operand} {t u : TypeId} {k : IntKind} {p q : Int} (hd : Nat.blt d N = true) (hx : evalA T x = some (.v (.int k p))) (hy : evalA T y = some (.v (.int k q))) (hq : q ≠ 0) (h : SQ P N all l G ((d, .v (.int k (p.tmod q))) :: T) H n) : SQ P N all (⟨some d, .binOp .rem t x y u, ty, pos, after, none⟩ :: l) G T H n :=
  sq_step rfl hd (s_rem rfl hx hy hq) h
theorem q_eql {x y : Operand} {t u : TypeId} {k : IntKind} {p q : Int} (hd : Nat.blt d N = true) (hx : evalA T x = some (.v (.int k p))) (hy : evalA T y = some (.v (.int k q)))  (h : SQ P N all l G ((d, .v (.bool (p == q))) :: T) H n) : SQ P N all (⟨some d, .binOp .eql t x y u, ty, pos, after, none⟩ :: l) G T H n :=
  sq_step rfl hd (s_cmpI rfl hx hy rfl) h
theorem q_neq {x y : Operand} {t u : TypeId} {k : IntKind} {p q : Int} (hd : Nat.blt d N = true) (hx : evalA T x = some (.v (.int k p))) (hy : evalA T y = some (.v (.int k q)))  (h : SQ P N all l G ((d, .v (.bool (p != q))) :: T) H n) : SQ P N all (⟨some d, .binOp .neq t x y u, ty, pos, after, none⟩ :: l) G T H n :=
  sq_step rfl hd (s_cmpI rfl hx hy rfl) h
theorem e_neq {x y : Operand} {t u : TypeId} {k : IntKind} {p q : Int} (hd : Nat.blt d N = true) (hx : evalA T x = some (.v (.int k p))) (hy : evalA T y = some (.v (.int k q)))  (hk : ks.getD i 0 = 0) (h : DE P N all bs ks H G (i + 1) eff l ((d, .v (.bool (p != q))) :: T) n) : DE P N all bs ks H G i eff (⟨some d, .binOp .neq t x y u, ty, pos, after, none⟩ :: l) T n :=
  dr_0 rfl hd hk (fun H n => s_cmpI rfl (evalR hx (fun t ht => by subst ht; simp [Oper.looksAt, Op.operands, Call.operands])) (evalR hy (fun t ht => by subst ht; simp [Oper.looksAt, Op.operands, Call.operands])) rfl) h
theorem q_lss {x y : Operand} {t u : TypeId} {k : IntKind} {p q : Int} (hd : Nat.blt d N = true) (hx : evalA T x = some (.v (.int k p))) (hy : evalA T y = some (.v (.int k q)))  (h : SQ P N all l G ((d, .v (.bool (decide (p < q)))) :: T) H n) : SQ P N all (⟨some d, .binOp .lss t x y u, ty, pos, after, none⟩ :: l) G T H n :=
  sq_step rfl hd (s_cmpI rfl hx hy rfl) h
theorem e_lss {x y : Operand} {t u : TypeId} {k : IntKind} {p q : Int} (hd : Nat.blt d N = true) (hx : evalA T x = some (.v (.int k p))) (hy : evalA T y = some (.v (.int k q)))  (hk : ks.getD i 0 = 0) (h : DE P N all bs ks H G (i + 1) eff l ((d, .v (.bool (decide (p < q)))) :: T) n) : DE P N all bs ks H G i eff (⟨some d, .binOp .lss t x y u, ty, pos, after, none⟩ :: l) T n :=
  dr_0 rfl hd hk (fun H n => s_cmpI rfl (evalR hx (fun t ht => by subst ht; simp [Oper.looksAt, Op.operands, Call.operands])) (evalR hy (fun t ht => by subst ht; simp [Oper.looksAt, Op.operands, Call.operands])) rfl) h
theorem q_leq {x y : Operand} {t u : TypeId} {k : IntKind} {p q : Int} (hd : Nat.blt d N = true) (hx : evalA T x = some (.v (.int k p))) (hy : evalA T y = some (.v (.int k q)))  (h : SQ P N all l G ((d, .v (.bool (decide (p ≤ q)))) :: T) H n) : SQ P N all (⟨some d, .binOp .leq t x y u, ty, pos, after, none⟩ :: l) G T H n :=
  sq_step rfl hd (s_cmpI rfl hx hy rfl) h
theorem e_leq {x y : Operand} {t u : TypeId} {k : IntKind} {p q : Int} (hd : Nat.blt d N = true) (hx : evalA T x = some (.v (.int k p))) (hy : evalA T y = some (.v (.int k q)))  (hk : ks.getD i 0 = 0) (h : DE P N all bs ks H G (i + 1) eff l ((d, .v (.bool (decide (p ≤ q)))) :: T) n) : DE P N all bs ks H G i eff (⟨some d, .binOp .leq t x y u, ty, pos, after, none⟩ :: l) T n :=
  dr_0 rfl hd hk (fun H n => s_cmpI rfl (evalR hx (fun t ht => by subst ht; simp [Oper.looksAt, Op.operands, Call.operands])) (evalR hy (fun t ht => by subst ht; simp [Oper.looksAt, Op.operands, Call.operands])) rfl) h
theorem q_gtr {x y : Operand} {t u : TypeId} {k : IntKind} {p q : Int} (hd : Nat.blt d N = true) (hx : evalA T x = some (.v (.int k p))) (hy : evalA T y = some (.v (.int k q)))  (h : SQ P N all l G ((d, .v (.bool (decide (q < p)))) :: T) H n) : SQ P N all (⟨some d, .binOp .gtr t x y u, ty, pos, after, none⟩ :: l) G T H n :=
  sq_step rfl hd (s_cmpI rfl hx hy rfl) h
theorem e_gtr {x y : Operand} {t u : TypeId} {k : IntKind} {p q : Int} (hd : Nat.blt d N = true) (hx : evalA T x = some (.v (.int k p))) (hy : evalA T y = some (.v (.int k q)))  (hk : ks.getD i 0 = 0) (h : DE P N all bs ks H G (i + 1) eff l ((d, .v (.bool (decide (q < p)))) :: T) n) : DE P N all bs ks H G i eff (⟨some d, .binOp .gtr t x y u, ty, pos, after, none⟩ :: l) T n :=
  dr_0 rfl hd hk (fun H n => s_cmpI rfl (evalR hx (fun t ht => by subst ht; simp [Oper.looksAt, Op.operands, Call.operands])) (evalR hy (fun t ht => by subst ht; simp [Oper.looksAt, Op.operands, Call.operands])) rfl) h
theorem q_geq {x y : Operand} {t u : TypeId} {k : IntKind} {p q : Int} (hd : Nat.blt d N = true) (hx : evalA T x = some (.v (.int k p))) (hy : evalA T y = some (.v (.int k q)))  (h : SQ P N all l G ((d, .v (.bool (decide (q ≤ p)))) :: T) H n) : SQ P N all (⟨some d, .binOp .geq t x y u, ty, pos, after, none⟩ :: l) G T H n :=
  sq_step rfl hd (s_cmpI rfl hx hy rfl) h
theorem e_geq {x y : Operand} {t u : TypeId} {k : IntKind} {p q : Int} (hd : Nat.blt d N = true) (hx : evalA T x = some (.v (.int k p))) (hy : evalA T y = some (.v (.int k q)))  (hk : ks.getD i 0 = 0) (h : DE P N all bs ks H G (i + 1) eff l ((d, .v (.bool (decide (q ≤ p)))) :: T) n) : DE P N all bs ks H G i eff (⟨some d, .binOp .geq t x y u, ty, pos, after, none⟩ :: l) T n :=
  dr_0 rfl hd hk (fun H n => s_cmpI rfl (evalR hx (fun t ht => by subst ht; simp [Oper.looksAt, Op.operands, Call.operands])) (evalR hy (fun t ht => by subst ht; simp [Oper.looksAt, Op.operands, Call.operands])) rfl) h
theorem q_ixd {x y : Operand} {t e : TypeId} {ti : TI} {es eb : Nat} {ez : List Value} {rows : List (List AV)} {row : List AV} {k : IntKind} {q : Int} (hd : Nat.blt d N = true) (hx : evalA T x = some (.dsl es rows)) (hy : evalA T y = some (.v (.int k q))) (hty : tiOf P t = some ti) (hk0 : ti.k = .slice e es eb ez) (h0 : 0 ≤ q) (h1 : q < rows.length) (hrow : rows[q.toNat]? = some row) (h : SQ P N all l G ((d, .dptr row) :: T) H n) : SQ P N all (⟨some d, .indexAddr t x y, ty, pos, after, none⟩ :: l) G T H n :=
  sq_step rfl hd (s_index_dsl rfl hty hk0 hx hy h0 h1 hrow) h
theorem e_ixd {x y : Operand} {t e : TypeId} {ti : TI} {es eb : Nat} {ez : List Value} {rows : List (List AV)} {row : List AV} {k : IntKind} {q : Int} (hd : Nat.blt d N = true) (hx : evalA T x = some (.dsl es rows)) (hy : evalA T y = some (.v (.int k q))) (hty : tiOf P t = some ti) (hk0 : ti.k = .slice e es eb ez) (h0 : 0 ≤ q) (h1 : q < rows.length) (hrow : rows[q.toNat]? = some row) (hk : ks.getD i 0 = 0) (h : DE P N all bs ks H G (i + 1) eff l ((d, .dptr row) :: T) n) : DE P N all bs ks H G i eff (⟨some d, .indexAddr t x y, ty, pos, after, none⟩ :: l) T n :=
  dr_0 rfl hd hk (fun H n => s_index_dsl rfl hty hk0 (evalR hx (fun t ht => by subst ht; simp [Oper.looksAt, Op.operands, Call.operands])) (evalR hy (fun t ht => by subst ht; simp [Oper.looksAt, Op.operands, Call.operands])) h0 h1 hrow) h
theorem q_ixl {x y : Operand} {t e : TypeId} {ti : TI} {es eb id row len : Nat} {ez : List Value} {b : Blk} {k : IntKind} {q : Int} (hd : Nat.blt d N = true) (hx : evalA T x = some (.sl id row len)) (hy : evalA T y = some (.v (.int k q))) (hty : tiOf P t = some ti) (hk0 : ti.k = .slice e es eb ez) (hl : look H id = some b) (hb : b.size = es) (h0 : 0 ≤ q) (h1 : q < len) (h : SQ P N all l G ((d, .ptr id (row + q.toNat) 0) :: T) H n) : SQ P N all (⟨some d, .indexAddr t x y, ty, pos, after, none⟩ :: l) G T H n :=
  sq_step rfl hd (s_index_sl rfl hty hk0 hx hl hb hy h0 h1) h
theorem e_ixl {x y : Operand} {t e : TypeId} {ti : TI} {es eb id row len : Nat} {ez : List Value} {b : Blk} {k : IntKind} {q : Int} (hd : Nat.blt d N = true) (hx : evalA T x = some (.sl id row len)) (hy : evalA T y = some (.v (.int k q))) (hty : tiOf P t = some ti) (hk0 : ti.k = .slice e es eb ez) (hl : look (selE (depM bs ks i) eff H) id = some b) (hb : b.size = es) (h0 : 0 ≤ q) (h1 : q < len) (hk : ks.getD i 0 = 1) (h : DE P N all bs ks H G (i + 1) eff l ((d, .ptr id (row + q.toNat) 0) :: T) n) : DE P N all bs ks H G i eff (⟨some d, .indexAddr t x y, ty, pos, after, none⟩ :: l) T n :=
  dr_1 rfl hd hk (s_index_sl rfl hty hk0 (evalR hx (fun t ht => by subst ht; simp [Oper.looksAt, Op.operands, Call.operands])) hl hb (evalR hy (fun t ht => by subst ht; simp [Oper.looksAt, Op.operands, Call.operands])) h0 h1) h
theorem q_ld1d {t : TypeId} {x : Operand} {ti : TI} {c : AV} {cs : List AV} (hd : Nat.blt d N = true) (hx : evalA T x = some (.dptr cs)) (hty : tiOf P t = some ti) (ha : ti.agg = false) (hh : cs.head? = some c) (h : SQ P N all l G ((d, c) :: T) H n) : SQ P N all (⟨some d, .load t x, ty, pos, after, none⟩ :: l) G T H n :=
  sq_step rfl hd (s_load_one (cells := cs.tail) rfl hty hx (.inl (congrArg AV.dptr (hcons hh))) ha) h
theorem e_ld1d {t : TypeId} {x : Operand} {ti : TI} {c : AV} {cs : List AV} (hd : Nat.blt d N = true) (hx : evalA T x = some (.dptr cs)) (hty : tiOf P t = some ti) (ha : ti.agg = false) (hh : cs.head? = some c) (hk : ks.getD i 0 = 1) (h : DE P N all bs ks H G (i + 1) eff l ((d, c) :: T) n) : DE P N all bs ks H G i eff (⟨some d, .load t x, ty, pos, after, none⟩ :: l) T n :=
  dr_1 rfl hd hk (s_load_one (cells := cs.tail) rfl hty (evalR hx (fun t ht => by subst ht; simp [Oper.looksAt, Op.operands, Call.operands])) (.inl (congrArg AV.dptr (hcons hh))) ha) h
theorem q_ld1p {t : TypeId} {x : Operand} {ti : TI} {id row col : Nat} {b : Blk} {r : List AV} {c : AV} (hd : Nat.blt d N = true) (hx : evalA T x = some (.ptr id row col)) (hty : tiOf P t = some ti) (ha : ti.agg = false) (hl : look H id = some b) (hrow : b.rows[row]? = some r) (hh : r[col]? = some c) (h : SQ P N all l G ((d, c) :: T) H n) : SQ P N all (⟨some d, .load t x, ty, pos, after, none⟩ :: l) G T H n :=
  sq_step rfl hd (s_load_one (cells := r.drop (col + 1)) rfl hty hx (.inr ⟨id, row, col, b, r, rfl, hl, hrow, (hdrop hh).symm⟩) ha) h
theorem e_ld1p {t : TypeId} {x : Operand} {ti : TI} {id row col : Nat} {b : Blk} {r : List AV} {c : AV} (hd : Nat.blt d N = true) (hx : evalA T x = some (.ptr id row col)) (hty : tiOf P t = some ti) (ha : ti.agg = false) (hl : look (selE (depM bs ks i) eff H) id = some b) (hrow : b.rows[row]? = some r) (hh : r[col]? = some c) (hk : ks.getD i 0 = 1) (h : DE P N all bs ks H G (i + 1) eff l ((d, c) :: T) n) : DE P N all bs ks H G i eff (⟨some d, .load t x, ty, pos, after, none⟩ :: l) T n :=
  dr_1 rfl hd hk (s_load_one (cells := r.drop (col + 1)) rfl hty (evalR hx (fun t ht => by subst ht; simp [Oper.looksAt, Op.operands, Call.operands])) (.inr ⟨id, row, col, b, r, rfl, hl, hrow, (hdrop hh).symm⟩) ha) h
theorem q_ldap {t : TypeId} {x : Operand} {ti : TI} {id row col : Nat} {b : Blk} {r : List AV} (hd : Nat.blt d N = true) (hx : evalA T x = some (.ptr id row col)) (hty : tiOf P t = some ti) (ha : ti.agg = true) (hl : look H id = some b) (hrow : b.rows[row]? = some r) (hn : Nat.ble ti.cells (r.drop col).length = true) (h : SQ P N all l G ((d, .agg ((r.drop col).take ti.cells)) :: T) H n) : SQ P N all (⟨some d, .load t x, ty, pos, after, none⟩ :: l) G T H n :=
  sq_step rfl hd (s_load_agg rfl hty hx (.inr ⟨id, row, col, b, r, rfl, hl, hrow, rfl⟩) ha (by simpa using hn)) h
theorem e_ldap {t : TypeId} {x : Operand} {ti : TI} {id row col : Nat} {b : Blk} {r : List AV} (hd : Nat.blt d N = true) (hx : evalA T x = some (.ptr id row col)) (hty : tiOf P t = some ti) (ha : ti.agg = true) (hl : look (selE (depM bs ks i) eff H) id = some b) (hrow : b.rows[row]? = some r) (hn : Nat.ble ti.cells (r.drop col).length = true) (hk : ks.getD i 0 = 1) (h : DE P N all bs ks H G (i + 1) eff l ((d, .agg ((r.drop col).take ti.cells)) :: T) n) : DE P N all bs ks H G i eff (⟨some d, .load t x, ty, pos, after, none⟩ :: l) T n :=
  dr_1 rfl hd hk (s_load_agg rfl hty (evalR hx (fun t ht => by subst ht; simp [Oper.looksAt, Op.operands, Call.operands])) (.inr ⟨id, row, col, b, r, rfl, hl, hrow, rfl⟩) ha (by simpa using hn)) h
theorem q_mkf {f : FuncId} {cs : Array Operand} {caps : List AV} (hd : Nat.blt d N = true)  (hm : evalL T cs.toList = some caps) (h : SQ P N all l G ((d, .fn f caps) :: T) H n) : SQ P N all (⟨some d, .makeFunc (.func f) #[] cs, ty, pos, after, none⟩ :: l) G T H n :=
  sq_step rfl hd (s_makeFunc rfl (evalL_m hm)) h
theorem q_build {t : TypeId} {parts : Array (Nat × Operand)} {ti : TI} {ps : List (Nat × AV)} {cs : List AV} {fs : List (Nat × Nat × Bool)} (hd : Nat.blt d N = true)  (hty : tiOf P t = some ti) (hk0 : ti.k = .struct fs) (hm : evalP T parts.toList = some ps) (hc0 : fillA (plS fs) (ti.zero.map .v) ps = some cs) (h : SQ P N all l G ((d, .agg cs) :: T) H n) : SQ P N all (⟨some d, .build t parts, ty, pos, after, none⟩ :: l) G T H n :=
  sq_step rfl hd (s_build rfl hty hk0 (evalP_m hm) hc0) h
theorem e_build {t : TypeId} {parts : Array (Nat × Operand)} {ti : TI} {ps : List (Nat × AV)} {cs : List AV} {fs : List (Nat × Nat × Bool)} (hd : Nat.blt d N = true)  (hty : tiOf P t = some ti) (hk0 : ti.k = .struct fs) (hm : evalP T parts.toList = some ps) (hc0 : fillA (plS fs) (ti.zero.map .v) ps = some cs) (hk : ks.getD i 0 = 0) (h : DE P N all bs ks H G (i + 1) eff l ((d, .agg cs) :: T) n) : DE P N all bs ks H G i eff (⟨some d, .build t parts, ty, pos, after, none⟩ :: l) T n :=
  dr_0 rfl hd hk (fun H n => s_build rfl hty hk0 (mapP (evalP_m hm) (fun x hx t ht => by simp only [Oper.looksAt, Op.operands, List.append_nil, List.mem_filterMap]; exact ⟨.tmp t, List.mem_map.2 ⟨x, hx, ht⟩, rfl⟩)) hc0) h
theorem q_box {t : TypeId} {x : Operand} {v : AV} (hd : Nat.blt d N = true) (hx : evalA T x = some (v)) (h1 : (cellsA v).all AV.one = true) (h : SQ P N all l G ((d, .ptr n 0 0) :: T) ((n, ⟨t, (cellsA v).length, false, [cellsA v]⟩) :: H) (n + 1)) : SQ P N all (⟨some d, .box t x, ty, pos, after, none⟩ :: l) G T H n :=
  sq_step rfl hd (s_box rfl hx h1) h
theorem q_alloc {t : TypeId} {ti : TI} (hd : Nat.blt d N = true)  (hty : tiOf P t = some ti) (hz : Nat.beq ti.zero.length ti.cells = true) (h1 : ti.zero.all (·.oneCell') = true) (h : SQ P N all l G ((d, .ptr n 0 0) :: T) ((n, ⟨t, ti.cells, false, [ti.zero.map .v]⟩) :: H) (n + 1)) : SQ P N all (⟨some d, .alloc t, ty, pos, after, none⟩ :: l) G T H n :=
  sq_step rfl hd (s_alloc rfl hty (Nat.eq_of_beq_eq_true hz) h1) h
theorem e_alloc {t : TypeId} {ti : TI} (hd : Nat.blt d N = true)  (hty : tiOf P t = some ti) (hz : Nat.beq ti.zero.length ti.cells = true) (h1 : ti.zero.all (·.oneCell') = true) (hk : ks.getD i 0 = 1) (h : DE P N all bs ks H G (i + 1) ((i, [(n, some ⟨t, ti.cells, false, [ti.zero.map .v]⟩)]) :: eff) l ((d, .ptr n 0 0) :: T) (n + 1)) : DE P N all bs ks H G i eff (⟨some d, .alloc t, ty, pos, after, none⟩ :: l) T n :=
  dr_n rfl hd hk (s_alloc rfl hty (Nat.eq_of_beq_eq_true hz) h1) h
theorem q_store {t : TypeId} {ti : TI} {x y : Operand} {id row col : Nat} {b : Blk} {r : List AV} {v : AV} (hx : evalA T x = some (.ptr id row col)) (hy : evalA T y = some (v)) (hty : tiOf P t = some ti) (hl : look H id = some b) (hrow : b.rows[row]? = some r) (hn : Nat.beq (cellsA v).length ti.cells = true) (hcol : Nat.ble (col + ti.cells) r.length = true) (h1 : (cellsA v).all AV.one = true) (h : SQ P N all l G T (setH H id { b with pl := b.pl && (cellsA v).all isV, rows := b.rows.set row (splice r (cellsA v) col) }) n) : SQ P N all (⟨none, .store t x y, ty, pos, after, none⟩ :: l) G T H n :=
  sq_step rfl rfl (s_store rfl hty hx hl hrow hy (Nat.eq_of_beq_eq_true hn) (by simpa using hcol) h1) h
theorem e_store {t : TypeId} {ti : TI} {x y : Operand} {id row col : Nat} {b : Blk} {r : List AV} {v : AV} (hx : evalA T x = some (.ptr id row col)) (hy : evalA T y = some (v)) (hty : tiOf P t = some ti) (hl : look (selE (depM bs ks i) eff H) id = some b) (hrow : b.rows[row]? = some r) (hn : Nat.beq (cellsA v).length ti.cells = true) (hcol : Nat.ble (col + ti.cells) r.length = true) (h1 : (cellsA v).all AV.one = true) (hk : ks.getD i 0 = 2) (h : DE P N all bs ks H G (i + 1) ((i, [(id, some { b with pl := b.pl && (cellsA v).all isV, rows := b.rows.set row (splice r (cellsA v) col) })]) :: eff) l T n) : DE P N all bs ks H G i eff (⟨none, .store t x y, ty, pos, after, none⟩ :: l) T n :=
  dr_2 rfl rfl hk (s_store rfl hty (evalR hx (fun t ht => by subst ht; simp [Oper.looksAt, Op.operands, Call.operands])) hl hrow (evalR hy (fun t ht => by subst ht; simp [Oper.looksAt, Op.operands, Call.operands])) (Nat.eq_of_beq_eq_true hn) (by simpa using hcol) h1) hl h
theorem q_mks {x y : Operand} {t e : TypeId} {ti : TI} {es eb : Nat} {ez : List Value} {k k' : IntKind} {L C : Int} (hd : Nat.blt d N = true) (hx : evalA T x = some (.v (.int k L))) (hy : evalA T y = some (.v (.int k' C))) (hty : tiOf P t = some ti) (hk0 : ti.k = .slice e es eb ez) (h0 : 0 ≤ L) (h1 : L ≤ C) (hb : (eb : Int) * C ≤ 281474976710656) (h63 : C ≤ 9223372036854775807) (hz : Nat.beq ez.length es = true) (ho : ez.all (·.oneCell') = true) (h : SQ P N all l G ((d, .sl n 0 L.toNat) :: T) ((n, ⟨e, es, true, List.replicate L.toNat (ez.map .v)⟩) :: H) (n + 1)) : SQ P N all (⟨some d, .makeSlice t x y, ty, pos, after, none⟩ :: l) G T H n :=
  sq_step rfl hd (s_makeSlice rfl hty hk0 hx hy h0 h1 hb h63 (Nat.eq_of_beq_eq_true hz) ho) h
theorem q_build0 {t e : TypeId} {ti : TI} {es eb : Nat} {ez : List Value} (hd : Nat.blt d N = true)  (hty : tiOf P t = some ti) (hk0 : ti.k = .slice e es eb ez) (h : SQ P N all l G ((d, .sl n 0 0) :: T) ((n, ⟨e, es, true, []⟩) :: H) (n + 1)) : SQ P N all (⟨some d, .buildSlice t 0 #[], ty, pos, after, none⟩ :: l) G T H n :=
  sq_step rfl hd (s_build0 rfl hty hk0) h
theorem q_buildn {t e : TypeId} {ti : TI} {es eb len : Nat} {ez : List Value} {parts : Array (Nat × Operand)} {ps : List (Nat × AV)} {cs : List AV} (hd : Nat.blt d N = true)  (hty : tiOf P t = some ti) (hk0 : ti.k = .slice e es eb ez) (hz : Nat.beq ez.length es = true) (h0 : Nat.blt 0 (len * es) = true) (hlen : Nat.ble (len * es) 10000 = true) (hm : evalP T parts.toList = some ps) (hc0 : fillA (fun i => some (i * es, es)) (zeros es ez len) ps = some cs) (h1 : cs.all AV.one = true) (h : SQ P N all l G ((d, .sl n 0 len) :: T) ((n, ⟨e, es, cs.all isV, rowsOf es len cs⟩) :: H) (n + 1)) : SQ P N all (⟨some d, .buildSlice t len parts, ty, pos, after, none⟩ :: l) G T H n :=
  sq_step rfl hd (s_buildSlice rfl hty hk0 (Nat.eq_of_beq_eq_true hz) (by simpa [Nat.blt_eq] using h0) (by simpa using hlen) (evalP_m hm) hc0 h1) h
theorem e_buildn {t e : TypeId} {ti : TI} {es eb len : Nat} {ez : List Value} {parts : Array (Nat × Operand)} {ps : List (Nat × AV)} {cs : List AV} (hd : Nat.blt d N = true)  (hty : tiOf P t = some ti) (hk0 : ti.k = .slice e es eb ez) (hz : Nat.beq ez.length es = true) (h0 : Nat.blt 0 (len * es) = true) (hlen : Nat.ble (len * es) 10000 = true) (hm : evalP T parts.toList = some ps) (hc0 : fillA (fun i => some (i * es, es)) (zeros es ez len) ps = some cs) (h1 : cs.all AV.one = true) (hk : ks.getD i 0 = 1) (h : DE P N all bs ks H G (i + 1) ((i, [(n, some ⟨e, es, cs.all isV, rowsOf es len cs⟩)]) :: eff) l ((d, .sl n 0 len) :: T) (n + 1)) : DE P N all bs ks H G i eff (⟨some d, .buildSlice t len parts, ty, pos, after, none⟩ :: l) T n :=
  dr_n rfl hd hk (s_buildSlice rfl hty hk0 (Nat.eq_of_beq_eq_true hz) (by simpa [Nat.blt_eq] using h0) (by simpa using hlen) (mapP (evalP_m hm) (fun x hx t ht => by simp only [Oper.looksAt, Op.operands, List.append_nil, List.mem_filterMap]; exact ⟨.tmp t, List.mem_map.2 ⟨x, hx, ht⟩, rfl⟩)) hc0 h1) h
theorem q_apo_d {x y : Operand} {t tx e e2 : TypeId} {ti tj : TI} {es eb es2 eb2 id len : Nat} {ez ez2 : List Value} {rows br ba : List (List AV)} {p pl0 : Bool} (hd : Nat.blt d N = true) (hx : evalA T x = some (.sl id 0 len)) (hy : evalA T y = some (.dsl es rows)) (hty : tiOf P t = some ti) (hk0 : ti.k = .slice e es eb ez) (hl : look H id = some ⟨e, es, pl0, br⟩) (h0 : len ≤ br.length) (her : br.take len = ba) (hty2 : tiOf P tx = some tj) (hk2 : tj.k = .slice e2 es2 eb2 ez2) (hz : Nat.beq ez.length es = true) (hb : eb * (2 * (len + rows.length)) ≤ 281474976710656) (h63 : len + rows.length ≤ 9223372036854775807) (hp : plR rows = p) (h : SQ P N all l G ((d, .sl n 0 (len + rows.length)) :: T) ((n, ⟨e, es, pl0 && p, ba ++ rows⟩) :: del H id) (n + 1)) : SQ P N all (⟨some d, .call { callee := .builtin .append, args := #[x, y], argTypes := #[t, tx] }, ty, pos, after, none⟩ :: l) G T H n :=
  sq_step rfl hd (her ▸ s_append_own (pl0 && p) rfl hty hk0 hx hl rfl rfl h0 hy (src_dsl hty2 hk2) hb h63 (Nat.eq_of_beq_eq_true hz) (plA hp)) h
theorem q_apo_s {x y : Operand} {t tx e e2 : TypeId} {ti tj : TI} {es eb es2 eb2 id len id2 r0 l2 ty2 : Nat} {ez ez2 : List Value} {rows br ba br2 : List (List AV)} {p pl0 pl2 : Bool} (hd : Nat.blt d N = true) (hx : evalA T x = some (.sl id 0 len)) (hy : evalA T y = some (.sl id2 r0 l2)) (hty : tiOf P t = some ti) (hk0 : ti.k = .slice e es eb ez) (hl : look H id = some ⟨e, es, pl0, br⟩) (h0 : len ≤ br.length) (her : br.take len = ba) (hty2 : tiOf P tx = some tj) (hk2 : tj.k = .slice e2 es2 eb2 ez2) (hl2 : look H id2 = some ⟨ty2, es, pl2, br2⟩) (hn : r0 + l2 ≤ br2.length) (he : (br2.drop r0).take l2 = rows) (hz : Nat.beq ez.length es = true) (hb : eb * (2 * (len + rows.length)) ≤ 281474976710656) (h63 : len + rows.length ≤ 9223372036854775807) (hp : plR rows = p) (h : SQ P N all l G ((d, .sl n 0 (len + rows.length)) :: T) ((n, ⟨e, es, pl0 && p, ba ++ rows⟩) :: del H id) (n + 1)) : SQ P N all (⟨some d, .call { callee := .builtin .append, args := #[x, y], argTypes := #[t, tx] }, ty, pos, after, none⟩ :: l) G T H n :=
  sq_step rfl hd (her ▸ s_append_own (pl0 && p) rfl hty hk0 hx hl rfl rfl h0 hy (src_sl hty2 hk2 hl2 rfl hn he) hb h63 (Nat.eq_of_beq_eq_true hz) (plA hp)) h
theorem e_apo_s {x y : Operand} {t tx e e2 : TypeId} {ti tj : TI} {es eb es2 eb2 id len id2 r0 l2 ty2 : Nat} {ez ez2 : List Value} {rows br ba br2 : List (List AV)} {p pl0 pl2 : Bool} (hd : Nat.blt d N = true) (hx : evalA T x = some (.sl id 0 len)) (hy : evalA T y = some (.sl id2 r0 l2)) (hty : tiOf P t = some ti) (hk0 : ti.k = .slice e es eb ez) (hl : look (selE (depM bs ks i) eff H) id = some ⟨e, es, pl0, br⟩) (h0 : len ≤ br.length) (her : br.take len = ba) (hty2 : tiOf P tx = some tj) (hk2 : tj.k = .slice e2 es2 eb2 ez2) (hl2 : look (selE (depM bs ks i) eff H) id2 = some ⟨ty2, es, pl2, br2⟩) (hn : r0 + l2 ≤ br2.length) (he : (br2.drop r0).take l2 = rows) (hz : Nat.beq ez.length es = true) (hb : eb * (2 * (len + rows.length)) ≤ 281474976710656) (h63 : len + rows.length ≤ 9223372036854775807) (hp : plR rows = p) (hk : ks.getD i 0 = 2) (h : DE P N all bs ks H G (i + 1) ((i, [(n, some ⟨e, es, pl0 && p, ba ++ rows⟩), (id, none)]) :: eff) l ((d, .sl n 0 (len + rows.length)) :: T) (n + 1)) : DE P N all bs ks H G i eff (⟨some d, .call { callee := .builtin .append, args := #[x, y], argTypes := #[t, tx] }, ty, pos, after, none⟩ :: l) T n :=
  dr_app rfl hd hk (her ▸ s_append_own (pl0 && p) rfl hty hk0 (evalR hx (fun t ht => by subst ht; simp [Oper.looksAt, Op.operands, Call.operands])) hl rfl rfl h0 (evalR hy (fun t ht => by subst ht; simp [Oper.looksAt, Op.operands, Call.operands])) (src_sl hty2 hk2 hl2 rfl hn he) hb h63 (Nat.eq_of_beq_eq_true hz) (plA hp)) hl h
theorem q_ssl_l {x y : Operand} {t e : TypeId} {ti : TI} {es eb id row len ty0 : Nat} {ez : List Value} {br : List (List AV)} {pl0 : Bool} {k : IntKind} {q : Int} (hd : Nat.blt d N = true) (hx : evalA T x = some (.sl id row len)) (hy : evalA T y = some (.v (.int k q))) (hty : tiOf P t = some ti) (hk0 : ti.k = .slice e es eb ez) (hl : look H id = some ⟨ty0, es, pl0, br⟩) (hn : row + len ≤ br.length) (h0 : 0 ≤ q) (h1 : q ≤ len) (h : SQ P N all l G ((d, .sl id (row + q.toNat) (len - q.toNat)) :: T) H n) : SQ P N all (⟨some d, .slice t x (some y) none none, ty, pos, after, none⟩ :: l) G T H n :=
  sq_step rfl hd (s_slice_sl rfl hty hk0 hx hl rfl hn ⟨_, _, hy, h0, rfl⟩ rfl (by omega) (Nat.le_refl _)) h
theorem q_shr {x y : Operand} {t u : TypeId} {k k' : IntKind} {p q : Int} (hd : Nat.blt d N = true) (hx : evalA T x = some (.v (.int k p))) (hy : evalA T y = some (.v (.int k' q))) (h0 : 0 ≤ q) (h : SQ P N all l G ((d, .v (.int k (p / 2 ^ min q.toNat k.bits))) :: T) H n) : SQ P N all (⟨some d, .binOp .shr t x y u, ty, pos, after, none⟩ :: l) G T H n :=
  sq_step rfl hd (s_shr rfl hx hy h0) h
theorem q_and {x y : Operand} {t u : TypeId} {k : IntKind} {p q : Int} (hd : Nat.blt d N = true) (hx : evalA T x = some (.v (.int k p))) (hy : evalA T y = some (.v (.int k q)))  (h : SQ P N all l G ((d, .v (.int k (andI k p q))) :: T) H n) : SQ P N all (⟨some d, .binOp .and t x y u, ty, pos, after, none⟩ :: l) G T H n :=
  sq_step rfl hd (s_and rfl hx hy) h
theorem q_callU {f : Operand} {g : FuncId} {xs : Array Operand} {ts : Array TypeId} {caps args args' : List AV} {v : AV} {U : Hp} (hd : Nat.blt d N = true) (hf : evalA T f = some (.fn g caps)) (ha : evalL T xs.toList = some args) (hz : FzL H (args ++ caps) args') (hro : RO P g args' n v U n')
    (h : SQ P N all l G ((d, v) :: T) (U ++ H) n') : SQ P N all (⟨some d, .call { callee := .value f, args := xs, argTypes := ts }, ty, pos, after, none⟩ :: l) G T H n :=
  sq_step rfl hd (s_call rfl hf (evalL_m ha) hz hro) h
theorem callF {f : Operand} {xs : Array Operand} {ts : Array TypeId} {t : Nat} (h : f = .tmp t) : t ∈ (⟨some d, .call { callee := .value f, args := xs, argTypes := ts }, ty, pos, after, none⟩ : Oper).looksAt all := by
  subst h; simp [Oper.looksAt, Op.operands, Call.operands]
theorem callA {f : Operand} {xs : Array Operand} {ts : Array TypeId} {x : Operand} {t : Nat} (hx : x ∈ xs.toList) (h : x = .tmp t) : t ∈ (⟨some d, .call { callee := .value f, args := xs, argTypes := ts }, ty, pos, after, none⟩ : Oper).looksAt all := by
  subst h
  simp only [Oper.looksAt, Op.operands, Call.operands, List.append_nil, List.mem_filterMap]
  exact ⟨.tmp t, by simp; exact .inr (by simpa using hx), rfl⟩
theorem e_callU {f : Operand} {g : FuncId} {xs : Array Operand} {ts : Array TypeId} {caps args args' : List AV} {v : AV} {U : Hp} (hd : Nat.blt d N = true) (hf : evalA T f = some (.fn g caps)) (ha : evalL T xs.toList = some args) (hz : FzL (selE (depM bs ks i) eff H) (args ++ caps) args') (hro : RO P g args' n v U n') (hk : ks.getD i 0 = 1)
    (h : DE P N all bs ks H G (i + 1) ((i, U.map (fun x => (x.1, some x.2))) :: eff) l ((d, v) :: T) n') : DE P N all bs ks H G i eff (⟨some d, .call { callee := .value f, args := xs, argTypes := ts }, ty, pos, after, none⟩ :: l) T n :=
  dr_cU rfl hd hk rfl (evalR hf fun t ht => callF ht) (mapR (evalL_m ha) fun x hx t ht => callA hx ht) hz hro h
theorem e_rd1 {t : TypeId} {x : Operand} {ti : TI} {id row col : Nat} {b : Blk} {r : List AV} {c : AV} (hd : Nat.blt d N = true) (hx : evalA T x = some (.ptr id row col)) (hty : tiOf P t = some ti) (ha : ti.agg = false) (hl : look H id = some b) (hrow : b.rows[row]? = some r) (hh : r[col]? = some c)
    (hk : ks.getD i 0 = 0) (hR : (rdP (ks.drop all.size)).contains (i, id) = true) (h : DE P N all bs ks H G (i + 1) eff l ((d, c) :: T) n) : DE P N all bs ks H G i eff (⟨some d, .load t x, ty, pos, after, none⟩ :: l) T n :=
  dr_r rfl hd hk hR hl (fun H n hl => s_load_one (cells := r.drop (col + 1)) rfl hty (evalR hx (fun t ht => by subst ht; simp [Oper.looksAt, Op.operands, Call.operands])) (.inr ⟨id, row, col, b, r, rfl, hl, hrow, (hdrop hh).symm⟩) ha) h
theorem e_rda {t : TypeId} {x : Operand} {ti : TI} {id row col : Nat} {b : Blk} {r : List AV} (hd : Nat.blt d N = true) (hx : evalA T x = some (.ptr id row col)) (hty : tiOf P t = some ti) (ha : ti.agg = true) (hl : look H id = some b) (hrow : b.rows[row]? = some r) (hn : Nat.ble ti.cells (r.drop col).length = true)
    (hk : ks.getD i 0 = 0) (hR : (rdP (ks.drop all.size)).contains (i, id) = true) (h : DE P N all bs ks H G (i + 1) eff l ((d, .agg ((r.drop col).take ti.cells)) :: T) n) : DE P N all bs ks H G i eff (⟨some d, .load t x, ty, pos, after, none⟩ :: l) T n :=
  dr_r rfl hd hk hR hl (fun H n hl => s_load_agg rfl hty (evalR hx (fun t ht => by subst ht; simp [Oper.looksAt, Op.operands, Call.operands])) (.inr ⟨id, row, col, b, r, rfl, hl, hrow, rfl⟩) ha (by simpa using hn)) h
theorem q_callC {f : Operand} {g : FuncId} {xs : Array Operand} {ts : Array TypeId} {caps args : List AV} {v : AV} {Hi : Hp} {E : Ef} {dst : Option Tmp} (hd : dOk N dst = true) (hf : evalA T f = some (.fn g caps)) (ha : evalL T xs.toList = some args) (hro : RC P g (args ++ caps) Hi n v E n') (hHi : subE H Hi)
    (h : SQ P N all l G (put T dst v) (ovr E H) n') : SQ P N all (⟨dst, .call { callee := .value f, args := xs, argTypes := ts }, ty, pos, after, none⟩ :: l) G T H n :=
  sq_step rfl hd (s_callC rfl hf (evalL_m ha) hro hHi) h
theorem callF' {f : Operand} {dst : Option Tmp} {xs : Array Operand} {ts : Array TypeId} {t : Nat} (h : f = .tmp t) : t ∈ (⟨dst, .call { callee := .value f, args := xs, argTypes := ts }, ty, pos, after, none⟩ : Oper).looksAt all := by
  subst h; simp [Oper.looksAt, Op.operands, Call.operands]
theorem callA' {f : Operand} {dst : Option Tmp} {xs : Array Operand} {ts : Array TypeId} {x : Operand} {t : Nat} (hx : x ∈ xs.toList) (h : x = .tmp t) : t ∈ (⟨dst, .call { callee := .value f, args := xs, argTypes := ts }, ty, pos, after, none⟩ : Oper).looksAt all := by
  subst h
  simp only [Oper.looksAt, Op.operands, Call.operands, List.append_nil, List.mem_filterMap]
  exact ⟨.tmp t, by simp; exact .inr (by simpa using hx), rfl⟩
theorem e_callC {f : Operand} {g : FuncId} {xs : Array Operand} {ts : Array TypeId} {caps args : List AV} {v : AV} {Hi : Hp} {E : Ef} {dst : Option Tmp} (hd : dOk N dst = true) (hf : evalA T f = some (.fn g caps)) (ha : evalL T xs.toList = some args) (hro : RC P g (args ++ caps) Hi n v E n') (hHi : subE (selE (depM bs ks i) eff H) Hi) (hk : ks.getD i 0 = 2)
    (h : DE P N all bs ks H G (i + 1) ((i, E) :: eff) l (put T dst v) n') : DE P N all bs ks H G i eff (⟨dst, .call { callee := .value f, args := xs, argTypes := ts }, ty, pos, after, none⟩ :: l) T n :=
  dr_callC rfl hd hk rfl (evalR hf fun t ht => callF' ht) (mapR (evalL_m ha) fun x hx t ht => callA' hx ht) hro hHi h
theorem q_g {op : Op} {dst : Option Tmp} {j t : Nat} {b b' : Bool} (hj : ((all[j]?).bind (·.dst)) = some t) (htn : Nat.blt t N = true) (hl : look T t = some (.v (.bool b'))) (hb : b' = b)
    (h : SQ P N all (⟨dst, op, ty, pos, after, none⟩ :: l) G T H n) : SQ P N all (⟨dst, op, ty, pos, after, some (j, b)⟩ :: l) G T H n := sq_g hj htn hl hb h
theorem q_s {op : Op} {j t : Nat} {b b' : Bool} (hj : ((all[j]?).bind (·.dst)) = some t) (htn : Nat.blt t N = true) (hl : look T t = some (.v (.bool b'))) (hb : b' = !b) (hd : Nat.blt d N = true)
    (h : SQ P N all l G ((d, .v undef) :: T) H n) : SQ P N all (⟨some d, op, ty, pos, after, some (j, b)⟩ :: l) G T H n := sq_s hj htn hl hb hd h
theorem q_gs {op : Op} {j t : Nat} {b b' : Bool} (hj : ((all[j]?).bind (·.dst)) = some t) (htn : Nat.blt t N = true) (hl : look T t = some (.v (.bool b'))) (hd : Nat.blt d N = true)
    (h1 : b' = b → SQ P N all (⟨some d, op, ty, pos, after, none⟩ :: l) G T H n) (h2 : b' = (!b) → SQ P N all l G ((d, .v undef) :: T) H n) : SQ P N all (⟨some d, op, ty, pos, after, some (j, b)⟩ :: l) G T H n := sq_gs hj htn hl hd h1 h2
theorem e_g {op : Op} {dst : Option Tmp} {j t : Nat} {b b' : Bool} (hj : ((all[j]?).bind (·.dst)) = some t) (htn : Nat.blt t N = true) (hl : look T t = some (.v (.bool b'))) (hb : b' = b)
    (h : DE P N all bs ks H G i eff (⟨dst, op, ty, pos, after, none⟩ :: l) T n) : DE P N all bs ks H G i eff (⟨dst, op, ty, pos, after, some (j, b)⟩ :: l) T n := dr_g hj htn hl hb h
theorem e_s {op : Op} {j t : Nat} {b b' : Bool} (hj : ((all[j]?).bind (·.dst)) = some t) (htn : Nat.blt t N = true) (hl : look T t = some (.v (.bool b'))) (hb : b' = !b) (hd : Nat.blt d N = true)
    (h : DE P N all bs ks H G (i + 1) eff l ((d, .v undef) :: T) n) : DE P N all bs ks H G i eff (⟨some d, op, ty, pos, after, some (j, b)⟩ :: l) T n := dr_s hj htn hl hb hd h
theorem q_sU {op : Op} {j t : Nat} {b : Bool} {y : Value} (hj : ((all[j]?).bind (·.dst)) = some t) (hl : look T t = some (.v y)) (hb : noG y b = true) (hd : Nat.blt d N = true)
    (h : SQ P N all l G ((d, .v undef) :: T) H n) : SQ P N all (⟨some d, op, ty, pos, after, some (j, b)⟩ :: l) G T H n := sq_skipU rfl hj hl hb hd h
theorem e_gs {op : Op} {j t : Nat} {b b' : Bool} (hj : ((all[j]?).bind (·.dst)) = some t) (htn : Nat.blt t N = true) (hl : look T t = some (.v (.bool b'))) (hd : Nat.blt d N = true)
    (h1 : b' = b → DE P N all bs ks H G i eff (⟨some d, op, ty, pos, after, none⟩ :: l) T n) (h2 : b' = (!b) → DE P N all bs ks H G (i + 1) eff l ((d, .v undef) :: T) n) : DE P N all bs ks H G i eff (⟨some d, op, ty, pos, after, some (j, b)⟩ :: l) T n := dr_gs hj htn hl hd h1 h2
end
end Go.Proofs.Ytljpgbgokjiamaa.Aw

namespace Go.Proofs.Ytljpgbgokjiamaa.Aw
open Go Go.RowKit
section
variable {T : Tp} {H : Hp} {ρ : Nat → Nat} {n : Nat} {t : Nat}
theorem lk_i {k : IntKind} {x y : Int} (h : look T t = some (.v (.int k y))) (e : y = x) : look T t = some (renA ρ (.v (.int k x))) ∧ idsOk n (.v (.int k x)) = true := by
  subst e; exact ⟨by rw [h]; rfl, rfl⟩
theorem lk_d {s : Nat} {x y : List (List AV)} (h : look T t = some (.dsl s y)) (e : y = x) : look T t = some (renA ρ (.dsl s x)) ∧ idsOk n (.dsl s x) = true := by
  subst e; exact ⟨by rw [h]; simp only [renA], rfl⟩
theorem lk_r {id id' row col : Nat} (h : look T t = some (.ptr id' row col)) (hi : id' = ρ id) (hn : Nat.blt id n = true) : look T t = some (renA ρ (.ptr id row col)) ∧ idsOk n (.ptr id row col) = true := by
  subst hi; exact ⟨by rw [h]; simp only [renA], hn⟩
theorem lk_f {f : FuncId} {caps : List AV} (h : look T t = some (.fn f caps)) (hc : renL ρ caps = caps := by rfl) (hi : idsOkL n caps = true := by rfl) : look T t = some (renA ρ (.fn f caps)) ∧ idsOk n (.fn f caps) = true :=
  ⟨by rw [h]; simp only [renA, hc], hi⟩
theorem lk_p {x y : List AV} (h : look T t = some (.dptr y)) (e : y = x) : look T t = some (renA ρ (.dptr x)) ∧ idsOk n (.dptr x) = true := by
  subst e; exact ⟨by rw [h]; simp only [renA], rfl⟩
theorem lk_s {id id' row len len' : Nat} (h : look T t = some (.sl id' row len')) (hi : id' = ρ id) (e : len' = len) (hn : Nat.blt id n = true) : look T t = some (renA ρ (.sl id row len)) ∧ idsOk n (.sl id row len) = true := by
  subst e hi; exact ⟨by rw [h]; simp only [renA], hn⟩
theorem lkb {i i' : Nat} {ty sz : Nat} {pl : Bool} {rows rows' : List (List AV)} (h : look H i' = some ⟨ty, sz, pl, rows'⟩) (hi : i' = ρ i) (hp : pl = true) (e : rows' = rows) (hn : Nat.blt i n = true) :
    look H (ρ i) = some (renB ρ ⟨ty, sz, true, rows⟩) ∧ idsOkB n ⟨ty, sz, true, rows⟩ = true ∧ Nat.blt i n = true := by
  subst e hi hp; exact ⟨h, rfl, hn⟩
variable {P : Program} {m : Nat}
theorem RO.ofm {N : Nat} {f : FuncId} {fn : Func} {c : Code} {args : List AV} {rs : List ResultVar} (v : AV) (U : Hp) (k : Nat) {v' : AV} {U' : Hp} (hf : P.funcs[f]? = some fn) (hN : fn.ntmps = N) (hb : fn.body = some c) (hg : goFn P f = true) (hl : Nat.ble args.length N = true) (hrs : fn.results.toList = rs)
    (hv : renA (fun i => i + m) v = v') (hu : shH m U = U') (hU : fullB U k = true) (h : AW P N 0 c (Fin P rs v U k) (idx 0 args) [] 0) : RO P f args m v' U' (m + k) := by
  subst hN hrs hv hu
  exact RO.of m k hf hb hg (by simpa using hl) hU h
theorem fin_m {t id len ty sz : Nat} {rows : List (List AV)} (h : look T t = some (.sl id 0 len)) (hb : look H id = some ⟨ty, sz, true, rows⟩) (len' : Nat) (rows' : List (List AV)) (e : len = len') (er : rows = rows') :
    FinOk P [.tmp t] (.sl 0 0 len') [(0, ⟨ty, sz, true, rows'⟩)] 1 T H := by
  subst e er
  exact ⟨⟨.sl id 0 len, fun _ => id, .r1 _ _ (.tmp _ _ h), by simp only [renA], ⟨⟨hb, rfl, rfl⟩, trivial⟩, rfl⟩, rfl, rfl, rfl⟩
theorem fin_m2 {t u id len ty sz : Nat} {x y : Value} {rows : List (List AV)} (h : look T t = some (.sl id 0 len)) (hu : look T u = some (.v x)) (hb : look H id = some ⟨ty, sz, true, rows⟩) (len' : Nat) (rows' : List (List AV)) (e : len = len') (er : rows = rows') (ex : x = y) :
    FinOk P [.tmp t, .tmp u] (.tup [.sl 0 0 len', .v y]) [(0, ⟨ty, sz, true, rows'⟩)] 1 T H := by
  subst e er ex
  exact ⟨⟨.tup [.sl id 0 len, .v x], fun _ => id, .r2 _ _ _ _ (.tmp _ _ h) (.tmp _ _ hu), by simp only [renA, renL], ⟨⟨hb, rfl, rfl⟩, trivial⟩, rfl⟩, rfl, rfl, rfl⟩
end
theorem RC.ofc {P : Program} {N n n' g : Nat} {f : FuncId} {fn : Func} {c : Code} {rs : List ResultVar} {args : List AV} {Hi : Hp} {v : AV} {E : Ef} (ids : List Nat) (k : Nat) (args0 : List AV) (Hi0 : Hp) (v0 : AV) (E0 : Ef)
    (hf : P.funcs[f]? = some fn) (hN : fn.ntmps = N) (hb : fn.body = some c) (hg : goFn P f = true) (hl : Nat.ble args0.length N = true) (hrs : fn.results.toList = rs)
    (ha : args0.map (renA (nmC ids n)) = args) (hH : renH (nmC ids n) Hi0 = Hi) (hv : renA (nmC ids n) v0 = v) (hE : renE (nmC ids n) E0 = E) (hn : n + k = n') (hok : okC ids.length k args0 Hi0 v0 E0 = true) (hnd : ids.Nodup) (hgg : ids.length = g)
    (h : AW P N g c (Finc P rs g v0 E0) (idx 0 args0) Hi0 g) : RC P f args Hi n v E n' := by
  subst hN hrs ha hH hv hE hn hgg
  exact RC.of ids n k hf hb hg (by simpa using hl) hok hnd h
def liveE (H : Hp) (ρ : Nat → Nat) : Ef → Prop
  | [] => True
  | (_, none) :: E => liveE H ρ E
  | (i, some b) :: E => look H (ρ i) = some (renB ρ b) ∧ liveE H ρ E
theorem liveE_get {H : Hp} {ρ : Nat → Nat} : ∀ {E : Ef}, liveE H ρ E → ∀ i b, (i, some b) ∈ E → look H (ρ i) = some (renB ρ b)
  | [], _, i, b, hm => by cases hm
  | (j, none) :: E, h, i, b, hm => by
    rcases List.mem_cons.1 hm with e | e
    · cases e
    · exact liveE_get (E := E) h i b e
  | (j, some c) :: E, h, i, b, hm => by
    rcases List.mem_cons.1 hm with e | e
    · cases e; exact h.1
    · exact liveE_get (E := E) h.2 i b e
theorem finc {P : Program} {rs : List ResultVar} {g n : Nat} {u v : AV} {E : Ef} {T : Tp} {H : Hp} (ρ : Nat → Nat) (hr : ResV P T H rs u) (e : u = renA ρ v) (hp : ∀ i, i < g → ρ i = i) (hl : liveE H ρ E) (hi : injB ρ (E.filterMap fun p => p.2.map fun _ => p.1) = true) :
    Finc P rs g v E .ret T H n := ⟨ρ, ⟨e ▸ hr, hp, liveE_get hl, hi⟩⟩
def FzC (caps : List AV) : Prop := ∀ H, FzL H caps caps
theorem Fz.fnC {H : Hp} {f : FuncId} {caps : List AV} (h : FzC caps) : Fz H (.fn f caps) (.fn f caps) := by
  intro Old wi K m S w x hr hv
  cases hv with
  | fn _ _ _ xs hl hv =>
    obtain ⟨h1, h2⟩ := (h H).get
    refine .fn _ _ _ _ hl fun j cv y hj hy => ?_
    obtain ⟨x0, hx0, hf⟩ := h2 j cv hj
    exact hf Old wi K m S w y hr (hv j x0 y hx0 hy)
theorem Fz.agg {H : Hp} {cs cs' : List AV} (h : FzL H cs cs') : Fz H (.agg cs) (.agg cs') := by
  intro Old wi K m S w x hr hv
  cases hv with
  | agg _ _ xs hl hv =>
    obtain ⟨h1, h2⟩ := h.get
    refine .agg _ _ xs (by rw [hl, h1]) fun j cv y hj hy => ?_
    obtain ⟨x0, hx0, hf⟩ := h2 j cv hj
    exact hf Old wi K m S w y hr (hv j x0 y hx0 hy)
theorem Fz.fnL {H : Hp} {f : FuncId} {cs cs' : List AV} (h : FzL H cs cs') : Fz H (.fn f cs) (.fn f cs') := by
  intro Old wi K m S w x hr hv
  cases hv with
  | fn _ _ _ xs hl hv =>
    obtain ⟨h1, h2⟩ := h.get
    refine .fn _ _ _ _ (by rw [hl, h1]) fun j cv y hj hy => ?_
    obtain ⟨x0, hx0, hf⟩ := h2 j cv hj
    exact hf Old wi K m S w y hr (hv j x0 y hx0 hy)
theorem Fz.ptrL {H : Hp} {id row col ty sz : Nat} {pl : Bool} {rows : List (List AV)} {r cs' : List AV} (hl : look H id = some ⟨ty, sz, pl, rows⟩) (hrow : rows[row]? = some r) (h : FzL H (r.drop col) cs') : Fz H (.ptr id row col) (.dptr cs') := by
  intro Old wi K m S w x hr hv
  obtain ⟨g, p, rfl, hrd⟩ := rd_at hr hv (.inr ⟨id, row, col, _, r, rfl, hl, hrow, rfl⟩)
  obtain ⟨h1, h2⟩ := h.get
  cases hv with
  | ptr _ _ _ _ q hS ho =>
    obtain ⟨hph, hbr⟩ := (hr.own id _ hl).real hrow
    refine .dptr _ _ _ _ (fun j => (w.cell? ⟨(m id).blk, p + j, none⟩).getD undef) hbr.lt_size (fun j cv hj => ?_) (fun j cv hj => ?_)
    · obtain ⟨x0, hx0, hf⟩ := h2 j cv hj
      obtain ⟨y, hy, hone, hvy⟩ := hrd j x0 hx0
      rw [hy]; exact ⟨rfl, hone⟩
    · obtain ⟨x0, hx0, hf⟩ := h2 j cv hj
      obtain ⟨y, hy, hone, hvy⟩ := hrd j x0 hx0
      simp only [hy, Option.getD_some]
      exact hf Old wi K m S w y hr hvy
theorem dt_full {br : List (List AV)} {l : Nat} (h : br.length ≤ l) : (br.drop 0).take l = br := by rw [List.drop_zero]; exact List.take_of_length_le h
theorem Fz.sl2 {H : Hp} {id row len ty sz : Nat} {br rows : List (List AV)} (hl : look H id = some ⟨ty, sz, true, br⟩) (hn : row + len ≤ br.length) (he : (br.drop row).take len = rows) : Fz H (.sl id row len) (.dsl sz rows) := Fz.sl hl rfl hn he
section
variable {α : Type} {xs : List α} {z : α} {i : Nat}
end
end Go.Proofs.Ytljpgbgokjiamaa.Aw

namespace Go.Proofs.Ytljpgbgokjiamaa.Sr
open Go Go.RowKit Go.Proofs.Ytljpgbgokjiamaa.Aw
set_option linter.unusedSimpArgs false
set_option linter.unusedVariables false
attribute [local irreducible] AW SQ Step RO RC DE
structure Sr where
  c : List Int
  a : Int
  s : Int
def byL (bs : List Int) : List (List AV) := bs.map fun b => [.v (.int .u8 b)]
def srR (s : Sr) : List AV := [.dsl 1 (byL s.c), .v (.int .i64 s.a), .v (.int .u64 s.s)]
structure Sr.ok (s : Sr) (k : Int) : Prop where
  b : ∀ b ∈ s.c, 0 ≤ b ∧ b ≤ 255
  a0 : 0 ≤ s.a
  a1 : s.a ≤ k
  n : s.c.length ≤ 9223372036854775807
theorem Sr.ok.mono {s : Sr} {k k' : Int} (h : s.ok k) (hk : k ≤ k') : s.ok k' := ⟨h.b, h.a0, by have := h.a1; omega, h.n⟩
def sd (s b : Int) : Int := IntKind.u64.wrap (IntKind.u64.wrap (IntKind.u64.wrap (s * 6364136223846793005) + IntKind.u64.wrap b) + 1442695040888963407)
def tl (s : Int) : Int := IntKind.i64.wrap (andI IntKind.u64 (s / 2 ^ min (Int.toNat 40) IntKind.u64.bits) 255)
def nx (s : Sr) : Int × Sr :=
  if s.a < s.c.length then (s.c.getD s.a.toNat 0, ⟨s.c, s.a + 1, sd s.s (s.c.getD s.a.toNat 0)⟩)
  else (tl (sd s.s 0), ⟨s.c, s.a + 1, sd s.s 0⟩)
set_option maxRecDepth 100000 in
theorem next_rc (b : Nat) (s : Sr) (h : s.ok 1000000) (k : Nat) : RC Try.prog 46 [.ptr b 0 0] [(b, ⟨75, 3, false, [srR s]⟩)] k (.v (.int .i64 (nx s).1)) [(b, some ⟨75, 3, false, [srR (nx s).2]⟩)] k := by
  obtain ⟨c, a, sd0⟩ := s
  obtain ⟨hb, a0, a1, hn⟩ := h
  dsimp only at hb a0 a1 hn
  have hl : (byL c).length = c.length := List.length_map _
  have w1 : IntKind.i64.wrap (a + 1) = a + 1 := IntWalk.i64_in _ (by omega)
  by_cases c1 : a < c.length
  · obtain ⟨A, rfl⟩ := Int.eq_ofNat_of_zero_le a0
    have b1 : decide ((A : Int) < (((byL c).length : Nat) : Int)) = true := by simp [hl]; omega
    have b2 : decide (IntKind.i64.wrap ((A : Int) + 1) ≤ (((byL c).length : Nat) : Int)) = true := by rw [w1]; simp [hl]; omega
    have c1' : A < c.length := by omega
    have hrow : (byL c)[((A : Int)).toNat]? = some [.v (.int .u8 c[A])] := by simp [byL, c1']
    have hbd := hb c[A] (List.getElem_mem c1')
    have w3 : IntKind.i64.wrap c[A] = c[A] := IntWalk.i64_in _ (by omega)
    have hnx : nx ⟨c, A, sd0⟩ = (c[A], ⟨c, A + 1, sd sd0 c[A]⟩) := by
      unfold nx; dsimp only; rw [if_pos c1]; simp [c1']
    rw [hnx]
    refine RC.ofc [b] 0 [.ptr 0 0 0] [(0, ⟨75, 3, false, [srR ⟨c, A, sd0⟩]⟩)] (.v (.int .i64 c[A])) [(0, some ⟨75, 3, false, [srR ⟨c, A + 1, sd sd0 c[A]⟩]⟩)] Try.func46 Try.ntmps46 rfl (goFn_of Try.func46 rfl (by kernel_rfl)) rfl rfl rfl rfl rfl rfl rfl rfl (by simp_all) rfl ?_
    unfold srR
    dsimp only
    ((repeat' (first
    | (show SQ _ _ _ _ _ _ _ _; first | apply sq_nil | (apply q_move; exact rfl; exact rfl) | (apply q_assign; exact rfl; exact rfl) | (apply q_fieldAddr; exact rfl; exact rfl; exact (ty rfl); exact rfl; exact rfl; exact rfl; exact rfl) | (apply q_nilc; exact rfl; exact rfl; exact rfl) | (apply q_conv; exact rfl; exact rfl; exact (ty rfl); exact rfl; exact (ty rfl)) | (apply q_add; exact rfl; exact rfl; exact rfl) | (apply q_mul; exact rfl; exact rfl; exact rfl) | (apply q_ld1p; exact rfl; exact rfl; exact (ty rfl); exact rfl; exact rfl; exact (by first | rfl | assumption | ((try simp only [Nat.zero_add]); refine List.getElem?_set_self ?_; (try simp only [List.length_set]); assumption)); exact rfl))
    | (show SQ _ _ _ _ _ _ _ _; (first | (apply q_store; exact rfl; exact rfl; exact (ty rfl); exact rfl; exact (by first | rfl | assumption | ((try simp only [Nat.zero_add]); refine List.getElem?_set_self ?_; (try simp only [List.length_set]); assumption)); exact rfl; exact rfl; exact rfl)); (try simp only [put, rowsOf, plR, List.all_cons, selE, ovr, setH, del, cellsA, splice, isV, List.nil_append, List.cons_append, List.map_cons, List.map_nil, List.length_cons, List.length_nil, List.set_cons_zero, List.set_cons_succ, List.take_succ_cons, List.take_zero, List.take_nil, List.drop_succ_cons, List.drop_zero, List.drop_nil, List.append_nil, List.all_cons, List.all_nil, Bool.and_true, Bool.true_and, Bool.and_false, Bool.false_and, Nat.reduceAdd, Nat.zero_add, Nat.add_zero, Nat.reduceEqDiff, if_true, if_false, reduceIte]))
    | (show DE _ _ _ _ _ _ _ _ _ _ _ _; first | (apply e_move; exact rfl; exact rfl; exact rfl) | (apply e_assign; exact rfl; exact rfl; exact rfl) | (apply e_fieldAddr; exact rfl; exact rfl; exact (ty rfl); exact rfl; exact rfl; exact rfl; exact rfl; exact rfl) | (apply e_nilc; exact rfl; exact rfl; exact rfl; exact rfl) | (apply e_conv; exact rfl; exact rfl; exact (ty rfl); exact rfl; exact (ty rfl); exact rfl) | (apply e_lend; exact rfl; exact rfl; exact (ty rfl); exact rfl; exact rfl) | (apply e_lss; exact rfl; exact rfl; exact rfl; exact rfl) | (apply e_leq; exact rfl; exact rfl; exact rfl; exact rfl) | (apply e_ixd; exact rfl; exact rfl; exact rfl; exact (ty rfl); exact rfl; exact (by first | omega | (simp; done) | (simp; omega)); exact (by first | omega | (simp; done) | (simp; omega)); exact (by first | rfl | assumption); exact rfl) | (apply e_ld1d; exact rfl; exact rfl; exact (ty rfl); exact rfl; exact rfl; exact rfl) | (apply e_ld1p; exact rfl; exact rfl; exact (ty rfl); exact rfl; exact rfl; exact (by first | rfl | assumption | ((try simp only [Nat.zero_add]); refine List.getElem?_set_self ?_; (try simp only [List.length_set]); assumption)); exact rfl; exact rfl))
    | (show DE _ _ _ _ _ _ _ _ _ _ _ _; (first | (apply dr_nil; exact trivial)); (try simp only [put, rowsOf, plR, List.all_cons, selE, ovr, setH, del, cellsA, splice, isV, List.nil_append, List.cons_append, List.map_cons, List.map_nil, List.length_cons, List.length_nil, List.set_cons_zero, List.set_cons_succ, List.take_succ_cons, List.take_zero, List.take_nil, List.drop_succ_cons, List.drop_zero, List.drop_nil, List.append_nil, List.all_cons, List.all_nil, Bool.and_true, Bool.true_and, Bool.and_false, Bool.false_and, Nat.reduceAdd, Nat.zero_add, Nat.add_zero, Nat.reduceEqDiff, if_true, if_false, reduceIte]))
    | (show AW _ _ _ _ _ _ _ _; first | refine aw_region ?_ | (refine aw_seqk ?_; intro K hK) | (apply aw_cond_t; exact rfl; exact (by assumption)) | refine aw_ret ?_ | refine aw_drawE (id := 2) [0, 1, 3, 7, 0, 16, 48, 112, 240, 511] [0, 0, 0, 1, 0, 0, 0, 1, 0, 0] mixed (by kernel_rfl) ?_ | refine aw_drawE (id := 3) [0, 1, 3, 7, 0, 16, 48, 112, 255, 511, 1023, 2047] [0, 0, 0, 1, 0, 0, 0, 1, 0, 1, 0, 0] mixed (by kernel_rfl) ?_ | refine aw_drawE (id := 6) [0, 1, 3, 7, 0, 16, 48, 112, 240, 511] [0, 0, 0, 1, 0, 0, 0, 1, 0, 0] mixed (by kernel_rfl) ?_)
    | refine thn_n ?_
    | (refine hK _ _ _ ?_; clear hK K)
    | refine thn_r ?_)); all_goals (repeat (clear hK K)))
    exact finc (fun i => i) (.r1 _ _ (.tmp _ _ rfl)) (by rw [w3]; rfl) (fun _ _ => rfl) ⟨by rw [w3, w1]; rfl, trivial⟩ rfl
  · have b1 : decide (a < (((byL c).length : Nat) : Int)) = false := by simp [hl]; omega
    have b2 : decide (IntKind.i64.wrap (a + 1) ≤ (((byL c).length : Nat) : Int)) = false := by rw [w1]; simp [hl]; omega
    have hnx : nx ⟨c, a, sd0⟩ = (tl (sd sd0 0), ⟨c, a + 1, sd sd0 0⟩) := by
      unfold nx; dsimp only; rw [if_neg c1]
    rw [hnx]
    refine RC.ofc [b] 0 [.ptr 0 0 0] [(0, ⟨75, 3, false, [srR ⟨c, a, sd0⟩]⟩)] (.v (.int .i64 (tl (sd sd0 0)))) [(0, some ⟨75, 3, false, [srR ⟨c, a + 1, sd sd0 0⟩]⟩)] Try.func46 Try.ntmps46 rfl (goFn_of Try.func46 rfl (by kernel_rfl)) rfl rfl rfl rfl rfl rfl rfl rfl (by simp_all) rfl ?_
    unfold srR
    dsimp only
    ((repeat' (first
    | (show SQ _ _ _ _ _ _ _ _; first | apply sq_nil | (apply q_move; exact rfl; exact rfl) | (apply q_assign; exact rfl; exact rfl) | (apply q_fieldAddr; exact rfl; exact rfl; exact (ty rfl); exact rfl; exact rfl; exact rfl; exact rfl) | (apply q_nilc; exact rfl; exact rfl; exact rfl) | (apply q_conv; exact rfl; exact rfl; exact (ty rfl); exact rfl; exact (ty rfl)) | (apply q_add; exact rfl; exact rfl; exact rfl) | (apply q_mul; exact rfl; exact rfl; exact rfl) | (apply q_ld1p; exact rfl; exact rfl; exact (ty rfl); exact rfl; exact rfl; exact (by first | rfl | assumption | ((try simp only [Nat.zero_add]); refine List.getElem?_set_self ?_; (try simp only [List.length_set]); assumption)); exact rfl) | (apply q_shr; exact rfl; exact rfl; exact rfl; exact (by first | omega | (simp; done) | (simp; omega))) | (apply q_and; exact rfl; exact rfl; exact rfl))
    | (show SQ _ _ _ _ _ _ _ _; (first | (apply q_store; exact rfl; exact rfl; exact (ty rfl); exact rfl; exact (by first | rfl | assumption | ((try simp only [Nat.zero_add]); refine List.getElem?_set_self ?_; (try simp only [List.length_set]); assumption)); exact rfl; exact rfl; exact rfl)); (try simp only [put, rowsOf, plR, List.all_cons, selE, ovr, setH, del, cellsA, splice, isV, List.nil_append, List.cons_append, List.map_cons, List.map_nil, List.length_cons, List.length_nil, List.set_cons_zero, List.set_cons_succ, List.take_succ_cons, List.take_zero, List.take_nil, List.drop_succ_cons, List.drop_zero, List.drop_nil, List.append_nil, List.all_cons, List.all_nil, Bool.and_true, Bool.true_and, Bool.and_false, Bool.false_and, Nat.reduceAdd, Nat.zero_add, Nat.add_zero, Nat.reduceEqDiff, if_true, if_false, reduceIte]))
    | (show DE _ _ _ _ _ _ _ _ _ _ _ _; first | (apply e_move; exact rfl; exact rfl; exact rfl) | (apply e_fieldAddr; exact rfl; exact rfl; exact (ty rfl); exact rfl; exact rfl; exact rfl; exact rfl; exact rfl) | (apply e_nilc; exact rfl; exact rfl; exact rfl; exact rfl) | (apply e_lend; exact rfl; exact rfl; exact (ty rfl); exact rfl; exact rfl) | (apply e_lss; exact rfl; exact rfl; exact rfl; exact rfl) | (apply e_leq; exact rfl; exact rfl; exact rfl; exact rfl) | (apply e_ld1p; exact rfl; exact rfl; exact (ty rfl); exact rfl; exact rfl; exact (by first | rfl | assumption | ((try simp only [Nat.zero_add]); refine List.getElem?_set_self ?_; (try simp only [List.length_set]); assumption)); exact rfl; exact rfl))
    | (show DE _ _ _ _ _ _ _ _ _ _ _ _; (first | (apply dr_nil; exact trivial)); (try simp only [put, rowsOf, plR, List.all_cons, selE, ovr, setH, del, cellsA, splice, isV, List.nil_append, List.cons_append, List.map_cons, List.map_nil, List.length_cons, List.length_nil, List.set_cons_zero, List.set_cons_succ, List.take_succ_cons, List.take_zero, List.take_nil, List.drop_succ_cons, List.drop_zero, List.drop_nil, List.append_nil, List.all_cons, List.all_nil, Bool.and_true, Bool.true_and, Bool.and_false, Bool.false_and, Nat.reduceAdd, Nat.zero_add, Nat.add_zero, Nat.reduceEqDiff, if_true, if_false, reduceIte]))
    | (show AW _ _ _ _ _ _ _ _; first | refine aw_region ?_ | (refine aw_seqk ?_; intro K hK) | (apply aw_cond_f; exact rfl; exact (by assumption)) | refine aw_ret ?_ | refine aw_skip ?_ | refine aw_drawE (id := 2) [0, 1, 3, 7, 0, 16, 48, 112, 240, 511] [0, 0, 0, 1, 0, 0, 0, 1, 0, 0] mixed (by kernel_rfl) ?_ | refine aw_drawE (id := 6) [0, 1, 3, 7, 0, 16, 48, 112, 240, 511] [0, 0, 0, 1, 0, 0, 0, 1, 0, 0] mixed (by kernel_rfl) ?_)
    | refine thn_n ?_
    | (refine hK _ _ _ ?_; clear hK K))); all_goals (repeat (clear hK K)))
    exact finc (fun i => i) (.r1 _ _ (.tmp _ _ rfl)) rfl (fun _ _ => rfl) ⟨by rw [w1]; rfl, trivial⟩ rfl
theorem andI_bd (x : Int) : 0 ≤ andI IntKind.u64 x 255 ∧ andI IntKind.u64 x 255 ≤ 255 := by
  unfold andI
  have h : (BitVec.ofInt IntKind.u64.bits x &&& BitVec.ofInt IntKind.u64.bits 255).toNat ≤ 255 := by
    rw [BitVec.toNat_and]
    exact Nat.le_trans Nat.and_le_right (by decide)
  generalize (BitVec.ofInt IntKind.u64.bits x &&& BitVec.ofInt IntKind.u64.bits 255).toNat = z at h
  simp only [IntKind.wrap, IntKind.bits, IntKind.signed]
  simp
  omega
theorem tl_bd (x : Int) : 0 ≤ tl x ∧ tl x ≤ 255 := by
  have := andI_bd (x / 2 ^ min (Int.toNat 40) IntKind.u64.bits)
  unfold tl
  rw [IntWalk.i64_in _ (by omega)]
  exact this
theorem nx_bd {s : Sr} {k : Int} (h : s.ok k) : 0 ≤ (nx s).1 ∧ (nx s).1 ≤ 255 := by
  unfold nx
  split
  · rename_i h1
    have h0 := h.a0
    have hlt : s.a.toNat < s.c.length := by omega
    have := h.b s.c[s.a.toNat] (List.getElem_mem hlt)
    simpa [List.getD_eq_getElem?_getD, hlt] using this
  · exact tl_bd _
theorem nx_ok {s : Sr} {k : Int} (h : s.ok k) : (nx s).2.ok (k + 1) := by
  obtain ⟨h1, h2, h3, h4⟩ := h
  unfold nx
  split
  · exact ⟨h1, by dsimp only; omega, by dsimp only; omega, h4⟩
  · exact ⟨h1, by dsimp only; omega, by dsimp only; omega, h4⟩
def pk (s : Sr) (n : Int) : Int × Sr :=
  if n ≤ 1 then (0, s) else if 200 < n then (((nx s).1 * 256 + (nx (nx s).2).1) % n, (nx (nx s).2).2) else ((nx s).1 % n, (nx s).2)
theorem pk_bd (s : Sr) (n : Int) (hn : 1 ≤ n) : 0 ≤ (pk s n).1 ∧ (pk s n).1 < n := by
  unfold pk
  split
  · dsimp only; omega
  · split
    · exact ⟨Int.emod_nonneg _ (by omega), Int.emod_lt_of_pos _ (by omega)⟩
    · exact ⟨Int.emod_nonneg _ (by omega), Int.emod_lt_of_pos _ (by omega)⟩
theorem pk_ok {s : Sr} {k : Int} (n : Int) (h : s.ok k) : (pk s n).2.ok (k + 2) := by
  unfold pk
  split
  · exact h.mono (by omega)
  · split
    · exact (nx_ok (nx_ok h)).mono (by omega)
    · exact (nx_ok h).mono (by omega)
set_option maxRecDepth 100000 in
theorem pick_rc (b : Nat) (s : Sr) (n : Int) (h : s.ok 900000) (hn : n ≤ 1000000) (k : Nat) : RC Try.prog 25 [.ptr b 0 0, .v (.int .i64 n)] [(b, ⟨75, 3, false, [srR s]⟩)] k (.v (.int .i64 (pk s n).1)) [(b, some ⟨75, 3, false, [srR (pk s n).2]⟩)] k := by
  by_cases c1 : n ≤ 1
  · have b1 : decide (n ≤ 1) = true := by simpa using c1
    have hpk : pk s n = (0, s) := by unfold pk; rw [if_pos c1]
    rw [hpk]
    refine RC.ofc [b] 0 [.ptr 0 0 0, .v (.int .i64 n)] [(0, ⟨75, 3, false, [srR s]⟩)] (.v (.int .i64 0)) [(0, some ⟨75, 3, false, [srR s]⟩)] Try.func25 Try.ntmps25 rfl (goFn_of Try.func25 rfl (by kernel_rfl)) rfl rfl rfl rfl rfl rfl rfl rfl (by simp_all) rfl ?_
    ((repeat' (first
    | (show SQ _ _ _ _ _ _ _ _; first | apply sq_nil | (apply q_move; exact rfl; exact rfl) | (apply q_assign; exact rfl; exact rfl) | (apply q_leq; exact rfl; exact rfl; exact rfl))
    | (show AW _ _ _ _ _ _ _ _; first | refine aw_region ?_ | (refine aw_seqk ?_; intro K hK) | (apply aw_cond_t; exact rfl; exact (by assumption)) | refine aw_ret ?_)
    | refine thn_n ?_
    | (refine hK _ _ _ ?_; clear hK K)
    | refine thn_r ?_)); all_goals (repeat (clear hK K)))
    exact finc (fun i => i) (.r1 _ _ (.tmp _ _ rfl)) rfl (fun _ _ => rfl) ⟨rfl, trivial⟩ rfl
  · have b1 : decide (n ≤ 1) = false := by simpa using c1
    have hn0 : (n == 0) = false := by simp; omega
    by_cases c2 : 200 < n
    · have b2 : decide (200 < n) = true := by simpa using c2
      have hpk : pk s n = (((nx s).1 * 256 + (nx (nx s).2).1) % n, (nx (nx s).2).2) := by unfold pk; rw [if_neg c1, if_pos c2]
      rw [hpk]
      have h1 := nx_bd h
      have h2 := nx_bd (nx_ok h)
      have w1 : IntKind.i64.wrap ((nx s).1 * 256) = (nx s).1 * 256 := IntWalk.i64_in _ (by omega)
      have w2 : IntKind.i64.wrap ((nx s).1 * 256 + (nx (nx s).2).1) = (nx s).1 * 256 + (nx (nx s).2).1 := IntWalk.i64_in _ (by omega)
      have w3 : ((nx s).1 * 256 + (nx (nx s).2).1).tmod n = ((nx s).1 * 256 + (nx (nx s).2).1) % n := Int.tmod_eq_emod_of_nonneg (by omega)
      have w4 := Int.emod_lt_of_pos ((nx s).1 * 256 + (nx (nx s).2).1) (b := n) (by omega)
      have w5 := Int.emod_nonneg ((nx s).1 * 256 + (nx (nx s).2).1) (b := n) (by omega)
      have w6 : IntKind.i64.wrap (((nx s).1 * 256 + (nx (nx s).2).1) % n) = ((nx s).1 * 256 + (nx (nx s).2).1) % n := IntWalk.i64_in _ (by omega)
      refine RC.ofc [b] 0 [.ptr 0 0 0, .v (.int .i64 n)] [(0, ⟨75, 3, false, [srR s]⟩)] (.v (.int .i64 (((nx s).1 * 256 + (nx (nx s).2).1) % n))) [(0, some ⟨75, 3, false, [srR (nx (nx s).2).2]⟩)] Try.func25 Try.ntmps25 rfl (goFn_of Try.func25 rfl (by kernel_rfl)) rfl rfl rfl rfl rfl rfl rfl rfl (by simp_all) rfl ?_
      ((repeat' (first
    | (show SQ _ _ _ _ _ _ _ _; first | apply sq_nil | (apply q_move; exact rfl; exact rfl) | (apply q_assign; exact rfl; exact rfl) | (apply q_add; exact rfl; exact rfl; exact rfl) | (apply q_mul; exact rfl; exact rfl; exact rfl) | (apply q_rem; exact rfl; exact rfl; exact rfl; exact (by first | decide | omega)) | (apply q_leq; exact rfl; exact rfl; exact rfl) | (apply q_gtr; exact rfl; exact rfl; exact rfl))
    | (show SQ _ _ _ _ _ _ _ _; (first | (apply q_callC; exact rfl; exact rfl; exact rfl; exact next_rc 0 s (h.mono (by omega)) _; (focus ((repeat (first | exact trivial | refine ⟨by first | exact rfl | assumption, ?_⟩)); done)); skip) | (apply q_callC; exact rfl; exact rfl; exact rfl; exact next_rc 0 (nx s).2 ((nx_ok h).mono (by omega)) _; (focus ((repeat (first | exact trivial | refine ⟨by first | exact rfl | assumption, ?_⟩)); done)); skip)); (try simp only [put, rowsOf, plR, List.all_cons, selE, ovr, setH, del, cellsA, splice, isV, List.nil_append, List.cons_append, List.map_cons, List.map_nil, List.length_cons, List.length_nil, List.set_cons_zero, List.set_cons_succ, List.take_succ_cons, List.take_zero, List.take_nil, List.drop_succ_cons, List.drop_zero, List.drop_nil, List.append_nil, List.all_cons, List.all_nil, Bool.and_true, Bool.true_and, Bool.and_false, Bool.false_and, Nat.reduceAdd, Nat.zero_add, Nat.add_zero, Nat.reduceEqDiff, if_true, if_false, reduceIte]))
    | (show AW _ _ _ _ _ _ _ _; first | refine aw_region ?_ | (refine aw_seqk ?_; intro K hK) | (apply aw_cond_t; exact rfl; exact (by assumption)) | (apply aw_cond_f; exact rfl; exact (by assumption)) | refine aw_ret ?_ | refine aw_skip ?_)
    | refine thn_n ?_
    | (refine hK _ _ _ ?_; clear hK K))); all_goals (repeat (clear hK K)))
      exact finc (fun i => i) (.r1 _ _ (.tmp _ _ rfl)) (by simp only [w1, w2, w3, w6]; rfl) (fun _ _ => rfl) ⟨rfl, trivial⟩ rfl
    · have b2 : decide (200 < n) = false := by simpa using c2
      have hpk : pk s n = ((nx s).1 % n, (nx s).2) := by unfold pk; rw [if_neg c1, if_neg c2]
      rw [hpk]
      have h1 := nx_bd h
      have w3 : ((nx s).1).tmod n = ((nx s).1) % n := Int.tmod_eq_emod_of_nonneg (by omega)
      have w4 := Int.emod_lt_of_pos ((nx s).1) (b := n) (by omega)
      have w5 := Int.emod_nonneg ((nx s).1) (b := n) (by omega)
      have w6 : IntKind.i64.wrap (((nx s).1) % n) = ((nx s).1) % n := IntWalk.i64_in _ (by omega)
      refine RC.ofc [b] 0 [.ptr 0 0 0, .v (.int .i64 n)] [(0, ⟨75, 3, false, [srR s]⟩)] (.v (.int .i64 (((nx s).1) % n))) [(0, some ⟨75, 3, false, [srR (nx s).2]⟩)] Try.func25 Try.ntmps25 rfl (goFn_of Try.func25 rfl (by kernel_rfl)) rfl rfl rfl rfl rfl rfl rfl rfl (by simp_all) rfl ?_
      ((repeat' (first
    | (show SQ _ _ _ _ _ _ _ _; first | apply sq_nil | (apply q_move; exact rfl; exact rfl) | (apply q_assign; exact rfl; exact rfl) | (apply q_rem; exact rfl; exact rfl; exact rfl; exact (by first | decide | omega)) | (apply q_leq; exact rfl; exact rfl; exact rfl) | (apply q_gtr; exact rfl; exact rfl; exact rfl))
    | (show SQ _ _ _ _ _ _ _ _; (first | (apply q_callC; exact rfl; exact rfl; exact rfl; exact next_rc 0 s (h.mono (by omega)) _; (focus ((repeat (first | exact trivial | refine ⟨by first | exact rfl | assumption, ?_⟩)); done)); skip)); (try simp only [put, rowsOf, plR, List.all_cons, selE, ovr, setH, del, cellsA, splice, isV, List.nil_append, List.cons_append, List.map_cons, List.map_nil, List.length_cons, List.length_nil, List.set_cons_zero, List.set_cons_succ, List.take_succ_cons, List.take_zero, List.take_nil, List.drop_succ_cons, List.drop_zero, List.drop_nil, List.append_nil, List.all_cons, List.all_nil, Bool.and_true, Bool.true_and, Bool.and_false, Bool.false_and, Nat.reduceAdd, Nat.zero_add, Nat.add_zero, Nat.reduceEqDiff, if_true, if_false, reduceIte]))
    | (show AW _ _ _ _ _ _ _ _; first | refine aw_region ?_ | (refine aw_seqk ?_; intro K hK) | (apply aw_cond_f; exact rfl; exact (by assumption)) | refine aw_ret ?_ | refine aw_skip ?_)
    | refine thn_n ?_
    | (refine hK _ _ _ ?_; clear hK K))); all_goals (repeat (clear hK K)))
      exact finc (fun i => i) (.r1 _ _ (.tmp _ _ rfl)) (by simp only [w3, w6]; rfl) (fun _ _ => rfl) ⟨rfl, trivial⟩ rfl
set_option maxHeartbeats 4000000 in
theorem l00From_rc (bs : List Int) (k : Nat) : RC Try.prog 21 [.dsl 1 (byL bs)] [] k (.ptr k 0 0) [(k, some ⟨75, 3, false, [srR ⟨bs, 0, 0⟩]⟩)] (k + 1) := by
  refine RC.ofc [] 1 [.dsl 1 (byL bs)] [] (.ptr 0 0 0) [(0, some ⟨75, 3, false, [srR ⟨bs, 0, 0⟩]⟩)] Try.func21 Try.ntmps21 rfl (goFn_of Try.func21 rfl (by kernel_rfl)) rfl rfl rfl rfl rfl rfl rfl rfl (by simp_all) rfl ?_
  ((repeat' (first
    | (show SQ _ _ _ _ _ _ _ _; first | apply sq_nil | (apply q_move; exact rfl; exact rfl) | (apply q_assign; exact rfl; exact rfl) | (apply q_build; exact rfl; exact (ty rfl); exact rfl; exact rfl; exact rfl))
    | (show SQ _ _ _ _ _ _ _ _; (first | (apply q_box; exact rfl; exact rfl; exact rfl)); (try simp only [put, rowsOf, plR, List.all_cons, selE, ovr, setH, del, cellsA, splice, isV, List.nil_append, List.cons_append, List.map_cons, List.map_nil, List.length_cons, List.length_nil, List.set_cons_zero, List.set_cons_succ, List.take_succ_cons, List.take_zero, List.take_nil, List.drop_succ_cons, List.drop_zero, List.drop_nil, List.append_nil, List.all_cons, List.all_nil, Bool.and_true, Bool.true_and, Bool.and_false, Bool.false_and, Nat.reduceAdd, Nat.zero_add, Nat.add_zero, Nat.reduceEqDiff, if_true, if_false, reduceIte]))
    | (show AW _ _ _ _ _ _ _ _; first | refine aw_region ?_ | (refine aw_seqk ?_; intro K hK) | refine aw_ret ?_)
    | refine thn_n ?_
    | (refine hK _ _ _ ?_; clear hK K))); all_goals (repeat (clear hK K)))
  exact finc (fun i => i) (.r1 _ _ (.tmp _ _ rfl)) rfl (fun _ _ => rfl) ⟨rfl, trivial⟩ rfl
end Go.Proofs.Ytljpgbgokjiamaa.Sr

-- Numbers chosen by the bytes of an input.
namespace Go.Proofs.Ytljpgbgokjiamaa.Sr
open Go Go.RowKit Go.Proofs.Ytljpgbgokjiamaa.Aw
set_option linter.unusedSimpArgs false
set_option linter.unusedVariables false
attribute [local irreducible] AW SQ Step RO RC DE Thn InB
end Go.Proofs.Ytljpgbgokjiamaa.Sr

namespace Go.Proofs.Ytljpgbgokjiamaa.Fg
open Go.ChangeShapes Go.WideShapes Go.ChangeAt Go.RowKit Go.Deep
open Go.ChangeMaps (open_string shut_string)
set_option linter.unusedSimpArgs false
def SlV {α : Type} (cV : α → List Value) (sz : Nat) (w : World) (v : Value) (xs : List α) : Prop :=
  Aw.VR (fun k => k < w.heap.size) w (fun _ => ⟨0, 0, 0, false⟩) Aw.NoS (.dsl sz (xs.map fun a => (cV a).map .v)) v ∧ xs.length ≤ 9223372036854775807
section
variable {P : Program} {H : Type} {enc : TypeId × Value → H} {W : World} {r : Reach} {b0 base : Nat} {spare : Nat → Bool} {held : Bool} {v : Value} {d : DataW H} {p : List MemPlace}
theorem sl_open {t e : TypeId} {sz : Nat} {α : Type} [Inhabited α] {cV : α → List Value} {Q : α → Prop} {fuel : Nat} {x : DataW H × List MemPlace} (hU : P.underlying t = some (.slice e)) (hcells : P.cellsOf e = sz) (hsz : 0 < sz) (hlen : ∀ a, (cV a).length = sz)
    (hone : ∀ a, ∀ y ∈ cV a, y.oneCell' = true) (hel : ∀ fuel cs x, DataW.trod enc P W base spare held fuel e cs = some x → ∃ a, cs = cV a ∧ Q a) (h : DataW.trod enc P W base spare held fuel t [v] = some x) :
    ∃ xs : List α, SlV cV sz W v xs ∧ ∀ a ∈ xs, Q a := by
  rcases open_slice hU h with ⟨hc, _⟩ | ⟨a, len, cap, m, n, D, Pl, hc, hb, hl, hm, hmm, _, hels⟩
  · simp only [List.cons.injEq, and_true] at hc
    subst hc
    exact ⟨[], ⟨.dsl0 _ _ _ _, by simp⟩, by simp⟩
  · simp only [List.cons.injEq, and_true] at hc
    subst hc
    have hlm : len ≤ m := by rw [hmm]; split <;> omega
    obtain ⟨f, hf2⟩ := choose_lt (n := len) (p := fun i (l : α) => W.cells? base (a.add (i * sz)) sz = some (cV l) ∧ Q l) fun i hi => by
      obtain ⟨cs', h1, h2⟩ := hels i (by omega)
      rw [hcells] at h1
      obtain ⟨l, rfl, hs⟩ := hel _ _ _ h2
      exact ⟨l, h1, hs⟩
    refine ⟨(List.range len).map f, ⟨?_, by simp only [maxLen] at hm; simp; omega⟩, fun l hl => ?_⟩
    · obtain ⟨b, off, spot⟩ := a
      cases len with
      | zero => exact .dsl0 _ _ _ _
      | succ len =>
        have hc0 : ∀ r, r < len + 1 → ∀ j, j < sz → W.cell? ((⟨b, off, spot⟩ : Addr).add (r * sz + j)) = (cV (f r))[j]? := fun r hr j hj => by
          obtain ⟨_, _, hc⟩ := World.cells?_some (hf2 r hr).1
          rw [← add_add]
          exact hc j hj
        obtain ⟨y0, hy0⟩ : ∃ y0, (cV (f 0))[0]? = some y0 := ⟨_, List.getElem?_eq_getElem (by rw [hlen]; exact hsz)⟩
        have h2 : W.cell? ((⟨b, off, spot⟩ : Addr).add 0) = some y0 := by
          have := hc0 0 (by omega) 0 hsz
          simp only [Nat.zero_mul, Nat.add_zero] at this
          rw [this, hy0]
        have hspot : spot = none := by simpa [Addr.add] using World.cell?_spot h2
        subst hspot
        have hlt : b < W.heap.size := block_lt_of_cell h2
        have get : ∀ (l : α) (j : Nat) (cv : Aw.AV), ((cV l).map Aw.AV.v)[j]? = some cv → ∃ y, (cV l)[j]? = some y ∧ cv = .v y ∧ y.oneCell' = true := fun l j cv h => by
          rw [List.getElem?_map] at h
          cases hj : (cV l)[j]? with
          | none => simp [hj] at h
          | some y =>
            simp only [hj, Option.map_some, Option.some.injEq] at h
            exact ⟨y, rfl, h.symm, hone l y (List.mem_of_getElem? hj)⟩
        refine .dsl _ sz _ _ b off cap (fun r j => ((cV (f r))[j]?).getD undef) (by simp) (by simpa using hl) hlt (fun r row hr => ?_) (fun r row j cv hr hj => ?_) (fun r row j cv hr hj => ?_)
        all_goals
          rw [List.getElem?_map, List.getElem?_map] at hr
          have hrl : r < len + 1 := by
            rcases Nat.lt_or_ge r (len + 1) with h | h
            · exact h
            · rw [List.getElem?_eq_none (by simpa using h)] at hr; simp at hr
          rw [List.getElem?_range hrl] at hr
          simp only [Option.map_some, Option.some.injEq] at hr
          subst hr
        · simp [hlen]
        · obtain ⟨y, hy, rfl, hone⟩ := get _ _ _ hj
          have hjl : j < sz := by rw [← hlen (f r)]; exact (List.getElem?_eq_some_iff.1 hy).1
          have := hc0 r hrl j hjl
          rw [Go.WideShapes.add_plain] at this
          simp only [hy, Option.getD_some]
          refine ⟨?_, hone⟩
          rw [Nat.add_assoc, this, hy]
        · obtain ⟨y, hy, rfl, hone⟩ := get _ _ _ hj
          simp only [hy, Option.getD_some]
          exact .v _ _
    · obtain ⟨i, hi, rfl⟩ := List.mem_map.1 hl
      exact (hf2 i (by simpa using hi)).2
theorem sl_cell {t e : TypeId} (hU : P.underlying t = some (.slice e)) (hv : Value.okWide P W r b0 t v) : v.cells.toList = [v] := by
  have hsl : ∃ a n c, v = .slice a n c := by
    simp only [Value.okWide, hU, Cell.okWide] at hv
    cases v <;> simp_all [Cell.ok]
  obtain ⟨a, n, c, rfl⟩ := hsl
  rfl
end
end Go.Proofs.Ytljpgbgokjiamaa.Fg
namespace Go.Proofs.Ytljpgbgokjiamaa.Fr
open Go.ChangeShapes Go.WideShapes Go.ChangeAt Go.RowKit Go.Deep
open Go.Proofs.Ytljpgbgokjiamaa.Sr Go.Proofs.Ytljpgbgokjiamaa.Fg
def byC (x : Int) : List Value := [.int .u8 x]
def IsBytes (w : World) (v : Value) : Prop := ∃ bs : List Int, Aw.VR (fun k => k < w.heap.size) w (fun _ => ⟨0, 0, 0, false⟩) Aw.NoS (.dsl 1 (byL bs)) v ∧ (∀ b ∈ bs, 0 ≤ b ∧ b ≤ 255) ∧ bs.length ≤ 9223372036854775807
section
variable {H : Type} {enc : TypeId × Value → H} {W : World} {r : Reach} {b0 base : Nat} {spare : Nat → Bool} {held : Bool} {v : Value} {d : DataW H} {p : List MemPlace}
theorem cellsByte : Try.prog.cellsOf 5 = 1 := by kernel_rfl
theorem byte_cells {fuel : Nat} {cs : List Value} {x : DataW H × List MemPlace} (h : DataW.trod enc Try.prog W base spare held fuel 5 cs = some x) : ∃ n : Int, cs = byC n ∧ (0 ≤ n ∧ n ≤ 255) := by
  obtain ⟨n, e, _, w⟩ := DataW.trod_int Try.underlying5 h
  have := bounds_u8 w
  exact ⟨n, e, by omega⟩
set_option maxRecDepth 100000 in
theorem isBytes_of (hv : Value.okWide Try.prog W r b0 22 v) (h : DataW.Trod enc Try.prog W base spare held 22 v d p) : IsBytes W v := by
  obtain ⟨fuel, hf⟩ := h
  rw [sl_cell Try.underlying22 hv] at hf
  obtain ⟨xs, h1, h2⟩ := sl_open (Q := fun n => 0 ≤ n ∧ n ≤ 255) Try.underlying22 cellsByte (by omega) (fun _ => rfl) (fun a y hy => by simp [byC] at hy; subst hy; rfl) (fun _ _ _ h => byte_cells h) hf
  exact ⟨xs, h1.1, h2, h1.2⟩
end
end Go.Proofs.Ytljpgbgokjiamaa.Fr

namespace Go.Proofs.Ytljpgbgokjiamaa.Wk
open Go.RowKit
def inB (n lo hi : Int) : Bool := decide (lo ≤ n ∧ n ≤ hi)
end Go.Proofs.Ytljpgbgokjiamaa.Wk

namespace Go.Proofs.Ytljpgbgokjiamaa.Nm
open Go.RowKit Go.Proofs.Ytljpgbgokjiamaa.Wk
def chr (s : ByteArray) (i : Nat) : Int := ((s.data.toList.getD i 0).toNat : Int)
def smB (c : Int) : Bool := decide (97 ≤ c ∧ c ≤ 122)
def dgB (c : Int) : Bool := decide (48 ≤ c ∧ c ≤ 57)
def okC (s : ByteArray) (i : Nat) : Bool := smB (chr s i) || dgB (chr s i)
end Go.Proofs.Ytljpgbgokjiamaa.Nm

namespace Go.Proofs.Ytljpgbgokjiamaa.In
open Go Go.RowKit Go.Proofs.Ytljpgbgokjiamaa.Aw
set_option linter.unusedSimpArgs false
set_option linter.unusedVariables false
attribute [local irreducible] AW SQ Step RO RC DE Thn InB
def inB (n lo hi : Int) : Bool := decide (lo ≤ n) && decide (n ≤ hi)
set_option maxHeartbeats 4000000 in
theorem within_ro (n lo hi : Int) (k : Nat) : RO Try.prog 32 [.v (.int .i64 n), .v (.int .i64 lo), .v (.int .i64 hi)] k (.v (.bool (inB n lo hi))) [] k := by
  refine RO.ofv' Try.func32 Try.ntmps32 rfl (goFn_of Try.func32 rfl (by kernel_rfl)) rfl rfl ?_
  ((repeat' (first
    | (show SQ _ _ _ _ _ _ _ _; first | apply sq_nil | (apply q_move; exact rfl; exact rfl) | (apply q_assign; exact rfl; exact rfl) | (apply q_pick_t; exact rfl; exact rfl; exact rfl; exact (by first | assumption | exact rfl)) | (apply q_pick_f; exact rfl; exact rfl; exact rfl; exact (by first | assumption | exact rfl)) | (apply q_leq; exact rfl; exact rfl; exact rfl) | (apply q_geq; exact rfl; exact rfl; exact rfl) | (apply q_g; exact rfl; exact rfl; exact rfl; exact (by assumption)) | (apply q_s; exact rfl; exact rfl; exact rfl; exact (by assumption); exact rfl))
    | (show SQ _ _ _ _ _ _ _ _; apply q_gs; exact rfl; exact rfl; exact rfl; exact rfl; all_goals intro h)
    | (show AW _ _ _ _ _ _ _ _; first | refine aw_region ?_ | (refine aw_seqk ?_; intro K hK) | refine aw_ret ?_)
    | refine thn_n ?_
    | (refine hK _ _ _ ?_; clear hK K))); all_goals (repeat (clear hK K)))
  all_goals refine fin_r (fin_b rfl ?_)
  all_goals simp_all [inB]
  all_goals omega
end Go.Proofs.Ytljpgbgokjiamaa.In
