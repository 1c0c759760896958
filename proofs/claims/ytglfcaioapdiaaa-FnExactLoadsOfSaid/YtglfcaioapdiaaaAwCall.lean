/-
  Calls of functions, said of the abstract state: a function that only reads what it is given, and makes its result anew.
-/
import Derived.Test.YtglfcaioapdiaaaAwOps4
namespace Go.Proofs.Ytglfcaioapdiaaa.Aw
open Go Go.RowKit

def goFn (P : Program) (f : FuncId) : Bool := match P.funcs[f]? with
  | some fn => !(fn.name == "runtime.NumGoroutine") && fn.body.isSome
  | none => false
theorem run_goFn {P : Program} {f : FuncId} (h : goFn P f = true) (args : Array Value) (w : World) : (callFunc f args).run P w = .ok (.enter f args) w := by
  unfold goFn at h
  cases hf : P.funcs[f]? with
  | none => simp [hf] at h
  | some fn =>
    simp only [hf, Bool.and_eq_true, Bool.not_eq_true'] at h
    obtain ⟨h1, h2⟩ := h
    cases hb : fn.body with
    | none => simp [hb] at h2
    | some c =>
      have h3 : ¬ fn.name = "runtime.NumGoroutine" := by simpa using h1
      simp [callFunc, hf, h3, hb]

/-- what came in, said as trees: nothing of it is the caller's to write -/
def VRs (K : Nat → Prop) (w : World) (args : List AV) (xs : List Value) : Prop :=
  xs.length = args.length ∧ ∀ (j : Nat) (av : AV) (x : Value), args[j]? = some av → xs[j]? = some x → VR K w (fun _ => ⟨0, 0, 0, false⟩) NoS av x

def NoK : Nat → Prop := fun _ => False

/-- new blocks, and a value that speaks of them -/
structure NewR (n n' : Nat) (v : AV) (U : Hp) (w : World) (r : Value) (w' : World) (m' : Nat → Loc) : Prop where
  below : Below w.heap.size w w'
  vr : VR NoK w' m' (fun i => n ≤ i ∧ i < n') v r
  new : ∀ i, n ≤ i → i < n' → (m' i).ph = false → w.heap.size ≤ (m' i).blk
  ids : ∀ i b, look U i = some b → n ≤ i ∧ i < n'
  own : ∀ i b, look U i = some b → OB NoK w' m' (fun i => n ≤ i ∧ i < n') i b
  inj : ∀ i j bi bj, look U i = some bi → look U j = some bj → i ≠ j → (m' i).ph = false → (m' j).ph = false → (m' i).blk ≠ (m' j).blk
  nm : ∀ i b, look U i = some b → (m' i).ph = true → (m' i).cap ≠ 1

def RO (P : Program) (f : FuncId) (args : List AV) (n : Nat) (v : AV) (U : Hp) (n' : Nat) : Prop :=
  goFn P f = true ∧ n ≤ n' ∧ (∀ i b, look U i = some b → n ≤ i ∧ i < n') ∧
  ∀ (K : Nat → Prop) (w : World) (xs : List Value), (∀ k, K k → k < w.heap.size) → VRs K w args xs →
    Calls P f xs.toArray w fun e w' => ∃ r m', e = .returned r ∧ NewR n n' v U w r w' m'

/-- a call whose result is a plain value -/
theorem RO.plain {P : Program} {f : FuncId} {args : List AV} {x : Value} (n : Nat) (hg : goFn P f = true)
    (h : ∀ (K : Nat → Prop) (w : World) (xs : List Value), (∀ k, K k → k < w.heap.size) → VRs K w args xs → Calls P f xs.toArray w fun e w' => e = .returned x ∧ Below w.heap.size w w') :
    RO P f args n (.v x) [] n :=
  ⟨hg, Nat.le_refl _, fun i b h => by simp [look_nil] at h, fun K w xs hk hv => (h K w xs hk hv).mono fun e w' ⟨he, hb⟩ =>
    ⟨x, fun _ => ⟨0, 0, 0, false⟩, he, hb, .v _ _, fun i h1 h2 => absurd h2 (by omega), fun i b h => by simp [look_nil] at h, fun i b h => by simp [look_nil] at h, fun i j bi bj h => by simp [look_nil] at h, fun i b h => by simp [look_nil] at h⟩⟩

/-- a value of the call's own, seen as a tree for a callee -/
def fz : Nat → Hp → AV → Option AV
  | _, _, .v x => some (.v x)
  | _, _, .dsl s rows => some (.dsl s rows)
  | _, _, .dptr cells => some (.dptr cells)
  | _, _, .om _ _ => none
  | _, _, .emp => some .emp
  | _, _, .sx _ _ _ _ => none
  | 0, _, _ => none
  | k + 1, H, .ptr id row col => match look H id with
    | some b => match b.rows[row]? with
      | some r => if b.pl then some (.dptr (r.drop col)) else ((r.drop col).mapM (fz k H)).map .dptr
      | none => none
    | none => none
  | k + 1, H, .sl id row len => match look H id with
    | some b => if row + len ≤ b.rows.length then (if b.pl then some (.dsl b.size ((b.rows.drop row).take len)) else (((b.rows.drop row).take len).mapM fun (r : List AV) => r.mapM (fz k H)).map (.dsl b.size)) else none
    | none => none
  | k + 1, H, .agg cs => (cs.mapM (fz k H)).map .agg
  | k + 1, H, .tup cs => (cs.mapM (fz k H)).map .tup
  | k + 1, H, .fn f cs => (cs.mapM (fz k H)).map (.fn f)

theorem mapM_get {α β : Type} (f : α → Option β) : ∀ (l : List α) (l' : List β), l.mapM f = some l' → l'.length = l.length ∧ ∀ (j : Nat) (y : β), l'[j]? = some y → ∃ x, l[j]? = some x ∧ f x = some y
  | [], l', h => by simp at h; subst h; simp
  | x :: l, l', h => by
    rw [List.mapM_cons] at h
    cases hx : f x with
    | none => simp [hx] at h
    | some y =>
      cases hl : l.mapM f with
      | none => simp [hx, hl] at h
      | some ys =>
        simp only [hx, hl, Option.pure_def, Option.bind_eq_bind, Option.bind_some, Option.some.injEq] at h
        subst h
        obtain ⟨h1, h2⟩ := mapM_get f l ys hl
        refine ⟨by simp [h1], fun j z hj => ?_⟩
        cases j with
        | zero => simp at hj; subst hj; exact ⟨x, rfl, hx⟩
        | succ j => simp only [List.getElem?_cons_succ] at hj ⊢; exact h2 j z hj

section
variable {P : Program} {Old : Nat → Prop} {wi : WI} {K : Nat → Prop} {m : Nat → Loc} {S : Nat → Prop} {H : Hp} {w : World} {N n : Nat} {T : Tp} {o : Oper}

/-- the caller's view: all that is there is kept -/
theorem fz_vr (hr : Rel Old wi K m S H w) : ∀ (k : Nat) (av av' : AV) (x : Value), fz k H av = some av' → VR K w m S av x → VR (fun k => k < w.heap.size) w (fun _ => ⟨0, 0, 0, false⟩) NoS av' x := by
  have up : ∀ {av : AV} {x : Value} {S' : Nat → Prop}, VR K w m NoS av x → VR (fun k => k < w.heap.size) w (fun _ => ⟨0, 0, 0, false⟩) S' av x :=
    fun h => h.mono hr.kb (fun _ _ => rfl) (fun _ h => h.elim) (fun _ h => h.elim)
  have base : ∀ {av : AV} {x : Value}, (∀ y, av = .v y → VR K w m S av x → VR (fun k => k < w.heap.size) w (fun _ => ⟨0, 0, 0, false⟩) NoS av x) := by
    intro av x y h hv; subst h; cases hv; exact .v _ _
  have d1 : ∀ {s : Nat} {rows : List (List AV)} {x : Value}, VR K w m S (.dsl s rows) x → VR (fun k => k < w.heap.size) w (fun _ => ⟨0, 0, 0, false⟩) NoS (.dsl s rows) x := by
    intro s rows x h
    cases h with
    | dsl0 => exact .dsl0 _ _ _ _
    | dsl _ _ _ n b o c xs hn hc hk hl hx hv => exact .dsl _ _ _ n b o c xs hn hc (hr.kb b hk) hl hx (fun r row j cv h1 h2 => up (hv r row j cv h1 h2))
  have d2 : ∀ {cells : List AV} {x : Value}, VR K w m S (.dptr cells) x → VR (fun k => k < w.heap.size) w (fun _ => ⟨0, 0, 0, false⟩) NoS (.dptr cells) x := by
    intro cells x h
    cases h with
    | dptr _ _ b o xs hk hx hv => exact .dptr _ _ b o xs (hr.kb b hk) hx (fun j cv h1 => up (hv j cv h1))
  intro k
  induction k with
  | zero =>
    intro av av' x h hv
    cases av <;> simp only [fz, Option.some.injEq] at h <;> try (cases h)
    · exact base _ rfl hv
    · exact d1 hv
    · exact d2 hv
    · cases hv; exact .emp _ _
  | succ k ih =>
    intro av av' x h hv
    cases av with
    | v y => simp only [fz, Option.some.injEq] at h; subst h; exact base _ rfl hv
    | dsl s rows => simp only [fz, Option.some.injEq] at h; subst h; exact d1 hv
    | dptr cells => simp only [fz, Option.some.injEq] at h; subst h; exact d2 hv
    | om id D => simp [fz] at h
    | emp => simp only [fz, Option.some.injEq] at h; subst h; cases hv; exact .emp _ _
    | sx id row len cap => simp [fz] at h
    | ptr id row col =>
      simp only [fz] at h
      cases hl : look H id with
      | none => simp [hl] at h
      | some b =>
        simp only [hl] at h
        cases hrow : b.rows[row]? with
        | none => simp [hrow] at h
        | some r =>
          simp only [hrow] at h
          obtain ⟨hph, hb⟩ := (hr.own id b hl).real hrow
          obtain ⟨cur, h1, h2, h3⟩ := hb.ex
          have hlt : (m id).blk < w.heap.size := hb.lt_size
          cases hv with
          | ptr _ _ _ _ p hS hp =>
            have cell : ∀ (j : Nat) (cv : AV), (r.drop col)[j]? = some cv → ∃ y, w.cell? ⟨(m id).blk, p + j, none⟩ = some y ∧ y.oneCell' = true ∧ VR K w m (fun i => S i ∧ b.pl = false) cv y := by
              intro j cv hj
              rw [List.getElem?_drop] at hj
              obtain ⟨y, hy, hone, hvy⟩ := (h3 row r hrow).2 (col + j) cv hj
              exact ⟨y, by rw [cell_of_row w _ _ _ _ _ h1, hp, hb.sz, Nat.add_assoc]; exact hy, hone, hvy⟩
            let xs : Nat → Value := fun j => (w.cell? ⟨(m id).blk, p + j, none⟩).getD undef
            split at h
            · rename_i hpl
              simp only [Option.some.injEq] at h
              subst h
              refine .dptr _ _ _ p xs hlt (fun j cv hj => ?_) (fun j cv hj => ?_)
              · obtain ⟨y, hy, hone, _⟩ := cell j cv hj
                simp only [xs, hy, Option.getD_some]
                exact ⟨trivial, hone⟩
              · obtain ⟨y, hy, hone, hvy⟩ := cell j cv hj
                simp only [xs, hy, Option.getD_some]
                exact up (hvy.mono (fun _ h => h) (fun _ _ => rfl) (fun _ h => absurd h.2 (by simp [hpl])) (fun _ _ => rfl))
            · cases hm : (r.drop col).mapM (fz k H) with
              | none => simp [hm] at h
              | some cs =>
                simp only [hm, Option.map_some, Option.some.injEq] at h
                subst h
                obtain ⟨hml, hmg⟩ := mapM_get _ _ _ hm
                refine .dptr _ _ _ p xs hlt (fun j cv hj => ?_) (fun j cv hj => ?_)
                · obtain ⟨cv0, hj0, _⟩ := hmg j cv hj
                  obtain ⟨y, hy, hone, _⟩ := cell j cv0 hj0
                  simp only [xs, hy, Option.getD_some]
                  exact ⟨trivial, hone⟩
                · obtain ⟨cv0, hj0, hf⟩ := hmg j cv hj
                  obtain ⟨y, hy, hone, hvy⟩ := cell j cv0 hj0
                  simp only [xs, hy, Option.getD_some]
                  exact ih _ _ _ hf (hvy.mono (fun _ h => h) (fun _ _ => rfl) (fun _ h => h.1) (fun _ _ => rfl))
    | sl id row len =>
      simp only [fz] at h
      cases hl : look H id with
      | none => simp [hl] at h
      | some b =>
        simp only [hl] at h
        split at h
        · rename_i hrl
          cases hv with
          | sl0 _ _ _ ad hS =>
            rw [List.take_zero] at h
            split at h
            · simp only [Option.some.injEq] at h; subst h; exact .dsl0 _ _ _ _
            · simp only [List.mapM_nil, Option.pure_def, Option.map_some, Option.some.injEq] at h; subst h; exact .dsl0 _ _ _ _
          | sl _ _ _ _ p c hS hph hp hc =>
            have hb := (hr.own id b hl).br hph
            obtain ⟨cur, h1, h2, h3⟩ := hb.ex
            have hlt : (m id).blk < w.heap.size := hb.lt_size
            have hcap := hb.cap
            let xs : Nat → Nat → Value := fun r j => (w.cell? ⟨(m id).blk, p + r * b.size + j, none⟩).getD undef
            have cell : ∀ (q : Nat) (rw_ : List AV), ((b.rows.drop row).take len)[q]? = some rw_ → rw_.length = b.size ∧ ∀ (j : Nat) (cv : AV), rw_[j]? = some cv → w.cell? ⟨(m id).blk, p + q * b.size + j, none⟩ = some (xs q j) ∧ (xs q j).oneCell' = true ∧ VR K w m (fun i => S i ∧ b.pl = false) cv (xs q j) := by
              intro q rw_ hq
              rw [List.getElem?_take] at hq
              split at hq
              · rw [List.getElem?_drop] at hq
                refine ⟨(h3 _ _ hq).1, fun j cv hj => ?_⟩
                obtain ⟨y, hy, hone, hvy⟩ := (h3 _ _ hq).2 j cv hj
                have hy' : w.cell? ⟨(m id).blk, p + q * b.size + j, none⟩ = some y := by
                  rw [cell_of_row w _ _ _ _ _ h1, hp, hb.sz, ← Nat.add_mul]; exact hy
                simp only [xs, hy', Option.getD_some]
                exact ⟨trivial, hone, hvy⟩
              · cases hq
            have hlen : ((b.rows.drop row).take len).length = len := by simp; omega
            split at h
            · rename_i hpl
              simp only [Option.some.injEq] at h
              subst h
              refine .dsl _ _ _ len _ p c xs hlen.symm (by rw [hlen]; omega) hlt (fun q r hq => (cell q r hq).1) (fun q r j cv hq hj => ⟨((cell q r hq).2 j cv hj).1, ((cell q r hq).2 j cv hj).2.1⟩) (fun q r j cv hq hj => ?_)
              exact up (((cell q r hq).2 j cv hj).2.2.mono (fun _ h => h) (fun _ _ => rfl) (fun _ h => absurd h.2 (by simp [hpl])) (fun _ _ => rfl))
            · cases hm : ((b.rows.drop row).take len).mapM fun (r : List AV) => r.mapM (fz k H) with
              | none => rw [hm] at h; simp at h
              | some cs =>
                rw [hm] at h
                simp only [Option.map_some, Option.some.injEq] at h
                subst h
                obtain ⟨hml, hmg⟩ := mapM_get _ _ _ hm
                refine .dsl _ _ _ len _ p c xs (by rw [hml, hlen]) (by rw [hml, hlen]; omega) hlt (fun q r hq => ?_) (fun q r j cv hq hj => ?_) (fun q r j cv hq hj => ?_)
                · obtain ⟨r0, hq0, hf⟩ := hmg q r hq
                  rw [(mapM_get _ _ _ hf).1]
                  exact (cell q r0 hq0).1
                · obtain ⟨r0, hq0, hf⟩ := hmg q r hq
                  obtain ⟨cv0, hj0, hf0⟩ := (mapM_get _ _ _ hf).2 j cv hj
                  exact ⟨((cell q r0 hq0).2 j cv0 hj0).1, ((cell q r0 hq0).2 j cv0 hj0).2.1⟩
                · obtain ⟨r0, hq0, hf⟩ := hmg q r hq
                  obtain ⟨cv0, hj0, hf0⟩ := (mapM_get _ _ _ hf).2 j cv hj
                  exact ih _ _ _ hf0 (((cell q r0 hq0).2 j cv0 hj0).2.2.mono (fun _ h => h) (fun _ _ => rfl) (fun _ h => h.1) (fun _ _ => rfl))
        · cases h
    | agg cs =>
      simp only [fz] at h
      cases hm : cs.mapM (fz k H) with
      | none => simp [hm] at h
      | some cs' =>
        simp only [hm, Option.map_some, Option.some.injEq] at h
        subst h
        obtain ⟨hml, hmg⟩ := mapM_get _ _ _ hm
        cases hv with
        | agg _ _ xs hl hvv =>
          refine .agg _ _ xs (by rw [hl, hml]) fun j cv y h1 h2 => ?_
          obtain ⟨cv0, hj0, hf⟩ := hmg j cv h1
          exact ih _ _ _ hf (hvv j cv0 y hj0 h2)
    | tup cs =>
      simp only [fz] at h
      cases hm : cs.mapM (fz k H) with
      | none => simp [hm] at h
      | some cs' =>
        simp only [hm, Option.map_some, Option.some.injEq] at h
        subst h
        obtain ⟨hml, hmg⟩ := mapM_get _ _ _ hm
        cases hv with
        | tup _ _ xs hl hvv =>
          refine .tup _ _ xs (by rw [hl, hml]) fun j cv y h1 h2 => ?_
          obtain ⟨cv0, hj0, hf⟩ := hmg j cv h1
          exact ih _ _ _ hf (hvv j cv0 y hj0 h2)
    | fn f cs =>
      simp only [fz] at h
      cases hm : cs.mapM (fz k H) with
      | none => simp [hm] at h
      | some cs' =>
        simp only [hm, Option.map_some, Option.some.injEq] at h
        subst h
        obtain ⟨hml, hmg⟩ := mapM_get _ _ _ hm
        cases hv with
        | fn _ _ _ xs hl hvv =>
          refine .fn _ f _ xs (by rw [hl, hml]) fun j cv y h1 h2 => ?_
          obtain ⟨cv0, hj0, hf⟩ := hmg j cv h1
          exact ih _ _ _ hf (hvv j cv0 y hj0 h2)

/-- the state behind new blocks -/
theorem Rel.newR (hr : Rel Old wi K m S H w) {n n' : Nat} {v : AV} {U : Hp} {r : Value} {w' : World} {m1 : Nat → Loc} (hns : ∀ i, n ≤ i → i < n' → ¬ S i) (h : NewR n n' v U w r w' m1) :
    Aft Old wi K m S w n v (U ++ H) n' true r w' (fun i => if n ≤ i ∧ i < n' then m1 i else m i) K := by
  have hk : ∀ k, k < w.heap.size → w'.heap[k]? = w.heap[k]? := h.below.block
  have hS : ∀ i, S i → (if n ≤ i ∧ i < n' then m1 i else m i) = m i := fun i hi => by
    rw [if_neg (fun hc => hns i hc.1 hc.2 hi)]
  have hN : ∀ i, n ≤ i ∧ i < n' → (if n ≤ i ∧ i < n' then m1 i else m i) = m1 i := fun i hi => if_pos hi
  have hs := h.below.size
  have part : ∀ i b, look (U ++ H) i = some b → look U i = some b ∨ (look U i = none ∧ look H i = some b) := fun i b hl => by
    rw [look_append] at hl
    cases hu : look U i with
    | some b' => rw [hu] at hl; simp at hl; exact .inl (by rw [hl])
    | none => rw [hu] at hl; simp at hl; exact .inr ⟨rfl, hl⟩
  refine ⟨fun i hi => if_neg hi, GK.refl _ _, ?_, ?_, fun k hkk => hk k (hr.kb k hkk), fun _ => ⟨h.below, fun i h1 h2 => by rw [hN i ⟨h1, h2⟩]; exact h.new i h1 h2, fun _ h _ => h⟩⟩
  · refine { os := h.below.os.trans hr.os, tape := h.below.tape.trans hr.tape, output := h.below.output.trans hr.output, size := Nat.le_trans hr.size hs, old := fun k ho => (hk k (hr.olt k ho)).trans (hr.old k ho), olt := fun k ho => Nat.lt_of_lt_of_le (hr.olt k ho) hs, oown := ?_, om := fun i b hl => (part i b hl).elim (fun hu hp hq => absurd hq (h.nm i b hu (by rw [hN i (h.ids i b hu)] at hp; exact hp) ∘ fun e => by rw [hN i (h.ids i b hu)] at e; exact e)) (fun hh => by rw [hS i (hr.inS i b hh.2)]; exact hr.om i b hh.2), kb := fun k hkk => Nat.lt_of_lt_of_le (hr.kb k hkk) hs, pin := fun i l hp => (hS i (hr.pinS i l hp)).trans (hr.pin i l hp), pinS := fun i l hp => .inl (hr.pinS i l hp), inS := ?_, own := ?_, inj := ?_ }
    · intro i b hl
      rcases part i b hl with hu | ⟨_, hh⟩
      · have hi := h.ids i b hu; rw [hN i hi]; exact fun hp ho => by have := hr.olt _ ho; have := h.new i hi.1 hi.2 hp; omega
      · rw [hS i (hr.inS i b hh)]; exact hr.oown i b hh
    · intro i b hl
      rcases part i b hl with hu | ⟨_, hh⟩
      · exact .inr (h.ids i b hu)
      · exact .inl (hr.inS i b hh)
    · intro i b hl
      rcases part i b hl with hu | ⟨_, hh⟩
      · have hi := h.ids i b hu
        rcases h.own i b hu with ⟨e1, e2⟩ | ⟨hph, hb⟩
        · exact .inl ⟨(congrArg Loc.ph (hN i hi)).trans e1, e2⟩
        obtain ⟨cur, c1, c2, c3⟩ := hb.ex
        refine .inr ⟨(congrArg Loc.ph (hN i hi)).trans hph, ?_⟩
        refine ⟨by rw [hN i hi]; exact fun hc => by have := hr.kb _ hc; have := h.new i hi.1 hi.2 hph; omega, by rw [hN i hi]; exact hb.sz, by rw [hN i hi]; exact hb.cap, by rw [hN i hi]; exact hb.capm, hb.plv, cur, by rw [hN i hi]; exact c1, by rw [hN i hi]; exact c2, fun q row hq => ⟨(c3 q row hq).1, fun j cv hj => ?_⟩⟩
        obtain ⟨x, hx, hone, hv⟩ := (c3 q row hq).2 j cv hj
        exact ⟨x, hx, hone, hv.mono (fun _ h => h.elim) (fun _ _ => rfl) (fun i hi => ⟨.inr hi.1, hi.2⟩) (fun i hi => hN i hi.1)⟩
      · exact (hr.own i b hh).mono (fun k hkk => hk k (hr.kb k hkk)) (fun _ hb => hk _ hb.lt_size) (fun i hi => .inl hi) hS (hr.inS i b hh)
    · intro i j bi bj hi hj hne
      rcases part i bi hi with hui | ⟨_, hhi⟩ <;> rcases part j bj hj with huj | ⟨_, hhj⟩
      · rw [hN i (h.ids i bi hui), hN j (h.ids j bj huj)]
        exact h.inj i j bi bj hui huj hne
      · rw [hN i (h.ids i bi hui), hS j (hr.inS j bj hhj)]
        intro hp hp'
        have := h.new i (h.ids i bi hui).1 (h.ids i bi hui).2 hp
        have := ((hr.own j bj hhj).br hp').lt_size
        omega
      · rw [hN j (h.ids j bj huj), hS i (hr.inS i bi hhi)]
        intro hp' hp
        have := h.new j (h.ids j bj huj).1 (h.ids j bj huj).2 hp
        have := ((hr.own i bi hhi).br hp').lt_size
        omega
      · rw [hS i (hr.inS i bi hhi), hS j (hr.inS j bj hhj)]
        exact hr.inj i j bi bj hhi hhj hne
  · exact h.vr.mono (fun _ h => h.elim) (fun _ _ => rfl) (fun i hi => .inr hi) hN

/-- a value of the call's own as the callee sees it -/
def Fz (H : Hp) (av av' : AV) : Prop := ∀ (Old : Nat → Prop) (wi : WI) (K : Nat → Prop) (m : Nat → Loc) (S : Nat → Prop) (w : World) (x : Value), Rel Old wi K m S H w → VR K w m S av x → VR (fun k => k < w.heap.size) w (fun _ => ⟨0, 0, 0, false⟩) NoS av' x
inductive FzL (H : Hp) : List AV → List AV → Prop
  | nil : FzL H [] []
  | cons {a a' : AV} {l l' : List AV} (h : Fz H a a') (t : FzL H l l') : FzL H (a :: l) (a' :: l')
theorem Fz.of {H : Hp} {a a' : AV} (h : fz 4 H a = some a') : Fz H a a' := fun _ _ _ _ _ _ _ hr hv => fz_vr hr 4 _ _ _ h hv
theorem FzL.of {H : Hp} : ∀ {l l' : List AV}, l.mapM (fz 4 H) = some l' → FzL H l l'
  | [], l', h => by simp at h; subst h; exact .nil
  | x :: l, l', h => by
    rw [List.mapM_cons] at h
    cases hx : fz 4 H x with
    | none => simp [hx] at h
    | some y =>
      cases hl : l.mapM (fz 4 H) with
      | none => simp [hx, hl] at h
      | some ys =>
        simp only [hx, hl, Option.pure_def, Option.bind_eq_bind, Option.bind_some, Option.some.injEq] at h
        subst h
        exact .cons (.of hx) (.of hl)
theorem FzL.get {H : Hp} {l l' : List AV} (h : FzL H l l') : l'.length = l.length ∧ ∀ (j : Nat) (y : AV), l'[j]? = some y → ∃ x, l[j]? = some x ∧ Fz H x y := by
  induction h with
  | nil => simp
  | cons h t ih =>
    refine ⟨by simp [ih.1], fun j z hj => ?_⟩
    cases j with
    | zero => simp at hj; subst hj; exact ⟨_, rfl, h⟩
    | succ j => simp only [List.getElem?_cons_succ] at hj ⊢; exact ih.2 j z hj
/-- a nil slice -/
theorem Fz.nil {H : Hp} {a : Option Addr} {c s : Nat} : Fz H (.v (.slice a 0 c)) (.dsl s []) := fun _ _ _ _ _ _ x _ hv => by cases hv; exact .dsl0 _ _ _ _
theorem Fz.emp {H : Hp} {s : Nat} : Fz H .emp (.dsl s []) := fun _ _ _ _ _ _ x _ hv => by cases hv; exact .dsl0 _ _ _ _
/-- a slice of the call's own, of any length -/
theorem Fz.sl {H : Hp} {id row len : Nat} {b : Blk} {rows : List (List AV)} (hl : look H id = some b) (hp : b.pl = true) (hn : row + len ≤ b.rows.length) (he : (b.rows.drop row).take len = rows) : Fz H (.sl id row len) (.dsl b.size rows) := by
  intro Old wi K m S w x hr hv
  refine fz_vr hr 4 (.sl id row len) _ _ ?_ hv
  simp only [fz, hl, hp, if_pos hn, if_true, he]

theorem s_call {f : Operand} {g : FuncId} {xs : Array Operand} {ts : Array TypeId} {caps args args' : List AV} {v : AV} {U : Hp} {n' : Nat} (ho : o.op = .call { callee := .value f, args := xs, argTypes := ts })
    (hf : evalA T f = some (.fn g caps)) (ha : xs.toList.mapM (evalA T) = some args) (hz : FzL H (args ++ caps) args') (hro : RO P g args' n v U n') : Step P o N T H n v (U ++ H) n' true := by
  obtain ⟨hg, hn, _, hc⟩ := hro
  refine ⟨hn, fun Old wi K m S a w hS hr ht next Q hnx => ?_⟩
  have hfv := ht.eval hf
  obtain ⟨el, ev⟩ := evals_of ht _ _ ha
  generalize hfx : a.eval f = fx at hfv
  cases hfv with
  | fn _ _ _ ys hl hv =>
    have hrun : (execOp a.eval o).run P w = .ok (.enter g (xs.toList.map a.eval ++ ys).toArray) w := by
      simp only [execOp, ho, resolve, hfx, Deferred.ofValue, invoke, Sem.run_bind, Sem.run_pure, Result.andThen]
      rw [run_goFn hg]
      obtain ⟨xs⟩ := xs
      simp
    unfold Oper.wp
    rw [hrun, Oper.upon_enter]
    obtain ⟨zl, zg⟩ := hz.get
    refine (hc (fun k => k < w.heap.size) w (xs.toList.map a.eval ++ ys) (fun _ h => h) ⟨by rw [zl, List.length_append, List.length_append, el, hl], fun j av x h1 h2 => ?_⟩).mono ?_
    · obtain ⟨av0, hj0, hfz⟩ := zg j av h1
      refine hfz _ _ _ _ _ _ x hr ?_
      by_cases hj : j < args.length
      · rw [List.getElem?_append_left hj] at hj0
        rw [List.getElem?_append_left (by rw [el]; exact hj)] at h2
        exact ev j av0 x hj0 h2
      · rw [List.getElem?_append_right (by omega)] at hj0
        rw [List.getElem?_append_right (by rw [el]; omega), el] at h2
        exact hv _ av0 x hj0 h2
    · rintro e w' ⟨r, m1, rfl, hnew⟩
      exact hnx r w' _ K (hr.newR hS hnew)

end
end Go.Proofs.Ytglfcaioapdiaaa.Aw
